/- FnPencils: the law holds for every argument. Part 1 of 18 of the proof: Base, Ints, App, Quiv, Kit, Kit2, KitM, KitM2, KitR, Chgs, Drw, OwnI, AppS, Cut6, Small, Bars, BarsK. No condition. -/
import Derived.Test.YthhjoamgcfiecaaGreatChecked
import Derived.WalkKit
import Derived.WalkLawsBesides
import Derived.WalkSpells
import Derived.RegionTactic
import Derived.Outline
import Derived.BigQuiet
import Derived.Deep.QuietTactic
import Derived.Deep.RegionHeld3
import Derived.StillTailTactics
import Derived.Deep.DeepCutAuto
import Derived.Deep.DeepMust
import Derived.Deep.DeepFit
import Derived.Lib.Hide
import Derived.Laws.StructEq
import Derived.Laws.OwnMore
import Derived.Laws.MakeOwn
import Derived.Laws.Rows
import Derived.Maps.AppendAt
import Derived.Deep.AppendLies
set_option linter.unusedVariables false
set_option linter.unusedSimpArgs false
namespace Go.Proofs.YthhjoamgcfiecaaGreat
open Go.RowKit
def I64 (x : Int) : Prop := -9223372036854775808 ≤ x ∧ x ≤ 9223372036854775807
def SlG {α : Type} (sz : Nat) (R : World → Nat → Nat → Nat → α → Prop) (w : World) (B : Nat) (val : Value) (xs : List α) : Prop :=
 ∃ A c, val = .slice A xs.length c ∧ xs.length ≤ c ∧ c ≤ 9223372036854775807 ∧ xs.length ≤ 17592186044416 ∧
  (0 < xs.length → ∃ b o, A = some ⟨b, o, none⟩ ∧ b < B ∧ ∀ j x, xs[j]? = some x → R w B b (o + j * sz) x)
theorem SlG.mono {α : Type} {sz : Nat} {R : World → Nat → Nat → Nat → α → Prop} {w w' : World} {B B' : Nat} {val : Value} {xs : List α} (hR : ∀ b o x, b < B → R w B b o x → R w' B' b o x) (hB : B ≤ B')
  (h : SlG sz R w B val xs) : SlG sz R w' B' val xs := by
 obtain ⟨A, c, e, h1, h2, h3, h4⟩ := h
 refine ⟨A, c, e, h1, h2, h3, fun hp => ?_⟩
 obtain ⟨b, o, e2, hb, hc⟩ := h4 hp
 exact ⟨b, o, e2, by omega, fun j x hx => hR _ _ _ hb (hc j x hx)⟩
def RI (w : World) (_B b o : Nat) (x : Int) : Prop := w.cell? ⟨b, o, none⟩ = some (.int .i64 x) ∧ I64 x
abbrev SlI := SlG 1 RI
abbrev Bar := Int × Int × Int
def RBar (w : World) (_B b o : Nat) (x : Bar) : Prop := (w.cell? ⟨b, o, none⟩ = some (.int .i64 x.1) ∧ w.cell? ⟨b, o + 1, none⟩ = some (.int .i64 x.2.1) ∧ w.cell? ⟨b, o + 2, none⟩ = some (.int .i64 x.2.2)) ∧ I64 x.1 ∧ I64 x.2.1 ∧ I64 x.2.2
abbrev SlB := SlG 3 RBar
def RSlI (w : World) (B b o : Nat) (l : List Int) : Prop := ∃ v, w.cell? ⟨b, o, none⟩ = some v ∧ SlI w B v l
abbrev SlII := SlG 1 RSlI
theorem bcell {B : Nat} {w w' : World} (h : Below B w w') {b o : Nat} {v : Value} (hb : b < B) (hc : w.cell? ⟨b, o, none⟩ = some v) : w'.cell? ⟨b, o, none⟩ = some v :=
 (h.cell (p := ⟨b, o, none⟩) hb).trans hc
theorem SlI.below {w w' : World} {B : Nat} {v : Value} {l : List Int} (hb : Below B w w') (h : SlI w B v l) : SlI w' B v l :=
 SlG.mono (fun _ _ _ hlt ⟨hc, hx⟩ => ⟨bcell hb hlt hc, hx⟩) (Nat.le_refl _) h
theorem SlI.more {w : World} {B B' : Nat} {v : Value} {l : List Int} (hB : B ≤ B') (h : SlI w B v l) : SlI w B' v l :=
 SlG.mono (B := B) (B' := B') (fun _ _ _ _ h => h) hB h
theorem SlB.below {w w' : World} {B : Nat} {v : Value} {l : List Bar} (hb : Below B w w') (h : SlB w B v l) : SlB w' B v l :=
 SlG.mono (fun _ _ _ hlt ⟨⟨h0, h1, h2⟩, hx⟩ => ⟨⟨bcell hb hlt h0, bcell hb hlt h1, bcell hb hlt h2⟩, hx⟩) (Nat.le_refl _) h
theorem SlB.more {w : World} {B B' : Nat} {v : Value} {l : List Bar} (hB : B ≤ B') (h : SlB w B v l) : SlB w B' v l :=
 SlG.mono (B := B) (B' := B') (fun _ _ _ _ h => h) hB h
theorem SlII.below {w w' : World} {B : Nat} {v : Value} {l : List (List Int)} (hb : Below B w w') (h : SlII w B v l) : SlII w' B v l :=
 SlG.mono (fun _ _ _ hlt ⟨u, hc, hu⟩ => ⟨u, bcell hb hlt hc, SlI.below hb hu⟩) (Nat.le_refl _) h
theorem SlII.more {w : World} {B B' : Nat} {v : Value} {l : List (List Int)} (hB : B ≤ B') (h : SlII w B v l) : SlII w B' v l :=
 SlG.mono (fun _ _ _ _ ⟨u, hc, hu⟩ => ⟨u, hc, SlI.more hB hu⟩) hB h
theorem SlI.next {w w' : World} {v : Value} {l : List Int} (hb : Below w.heap.size w w') (h : SlI w w.heap.size v l) : SlI w' w'.heap.size v l := SlI.more hb.size (SlI.below hb h)
theorem SlB.next {w w' : World} {v : Value} {l : List Bar} (hb : Below w.heap.size w w') (h : SlB w w.heap.size v l) : SlB w' w'.heap.size v l := SlB.more hb.size (SlB.below hb h)
theorem SlII.next {w w' : World} {v : Value} {l : List (List Int)} (hb : Below w.heap.size w w') (h : SlII w w.heap.size v l) : SlII w' w'.heap.size v l := SlII.more hb.size (SlII.below hb h)
theorem bthen {w w' w'' : World} (h : Below w.heap.size w w') (k : Below w'.heap.size w' w'') : Below w.heap.size w w'' := h.trans (k.mono h.size)
theorem SlI.at_ {w : World} {B c : Nat} {A : Option Addr} {xs : List Int} {k : Nat} (h : SlI w B (.slice A xs.length c) xs) (hk : k < xs.length) :
  ∃ b o x, A = some ⟨b, o, none⟩ ∧ b < B ∧ Hid (xs[k]? = some x) ∧ w.cell? ⟨b, o + k, none⟩ = some (.int .i64 x) ∧ -9223372036854775808 ≤ x ∧ x ≤ 9223372036854775807 := by
 obtain ⟨A', c', e, h1, h2, h3, h4⟩ := h
 injection e with e1 e2 e3; subst e1
 obtain ⟨b, o, rfl, hb, hc⟩ := h4 (by omega)
 have hx : xs[k]? = some xs[k] := List.getElem?_eq_getElem hk
 obtain ⟨h0, hr⟩ := hc k _ hx
 exact ⟨b, o, xs[k], rfl, hb, hx, by simpa using h0, hr.1, hr.2⟩
theorem SlB.at_ {w : World} {B c : Nat} {A : Option Addr} {xs : List Bar} {k : Nat} (h : SlB w B (.slice A xs.length c) xs) (hk : k < xs.length) :
  ∃ b o x y z, A = some ⟨b, o, none⟩ ∧ b < B ∧ Hid (xs[k]? = some (x, y, z)) ∧ w.cell? ⟨b, o + k * 3, none⟩ = some (.int .i64 x) ∧ w.cell? ⟨b, o + k * 3 + 1, none⟩ = some (.int .i64 y) ∧ w.cell? ⟨b, o + k * 3 + 2, none⟩ = some (.int .i64 z) ∧
   (-9223372036854775808 ≤ x ∧ x ≤ 9223372036854775807) ∧ (-9223372036854775808 ≤ y ∧ y ≤ 9223372036854775807) ∧ (-9223372036854775808 ≤ z ∧ z ≤ 9223372036854775807) := by
 obtain ⟨A', c', e, h1, h2, h3, h4⟩ := h
 injection e with e1 e2 e3; subst e1
 obtain ⟨b, o, rfl, hb, hc⟩ := h4 (by omega)
 have hx : xs[k]? = some xs[k] := List.getElem?_eq_getElem hk
 obtain ⟨⟨c0, c1, c2⟩, r0, r1, r2⟩ := hc k _ hx
 exact ⟨b, o, xs[k].1, xs[k].2.1, xs[k].2.2, rfl, hb, hx, c0, c1, c2, r0, r1, r2⟩
theorem SlII.at_ {w : World} {B c : Nat} {A : Option Addr} {xs : List (List Int)} {k : Nat} (h : SlII w B (.slice A xs.length c) xs) (hk : k < xs.length) :
  ∃ b o l A' c', A = some ⟨b, o, none⟩ ∧ b < B ∧ Hid (xs[k]? = some l) ∧ w.cell? ⟨b, o + k, none⟩ = some (.slice A' l.length c') ∧ SlI w B (.slice A' l.length c') l := by
 obtain ⟨A', c', e, h1, h2, h3, h4⟩ := h
 injection e with e1 e2 e3; subst e1
 obtain ⟨b, o, rfl, hb, hc⟩ := h4 (by omega)
 have hx : xs[k]? = some xs[k] := List.getElem?_eq_getElem hk
 obtain ⟨v, hv, hs⟩ := hc k _ hx
 have hs' := hs
 obtain ⟨A2, c2, rfl, _⟩ := hs
 exact ⟨b, o, xs[k], A2, c2, rfl, hb, hx, by simpa using hv, hs'⟩
theorem SlG.open_ {α : Type} {sz : Nat} {R : World → Nat → Nat → Nat → α → Prop} {w : World} {B : Nat} {val : Value} {xs : List α} (h : SlG sz R w B val xs) :
  ∃ A c, val = .slice A xs.length c ∧ xs.length ≤ c ∧ c ≤ 9223372036854775807 ∧ xs.length ≤ 17592186044416 ∧ SlG sz R w B (.slice A xs.length c) xs := by
 have h' := h
 obtain ⟨A, c, rfl, h1, h2, h3, _⟩ := h
 exact ⟨A, c, rfl, h1, h2, h3, h'⟩
theorem SlG.nil {α : Type} {sz : Nat} {R : World → Nat → Nat → Nat → α → Prop} {w : World} {B : Nat} : SlG sz R w B (.slice none 0 0) ([] : List α) :=
 ⟨none, 0, rfl, by simp, by omega, by simp, fun h => absurd h (by simp)⟩
theorem take_snoc {α : Type} {l : List α} {k : Nat} {x : α} (h : l[k]? = some x) : l.take (k + 1) = l.take k ++ [x] := by
 rw [List.take_add_one, h]; rfl
theorem lt_of_some {α : Type} {l : List α} {k : Nat} {x : α} (h : l[k]? = some x) : k < l.length := (List.getElem?_eq_some_iff.1 h).1
theorem below_drewN {B : Nat} {a w : World} (h : Below B a w) (n : Nat) : Below B a (w.drewN n) := ⟨h.os, h.tape, h.output, h.size, h.block⟩
theorem drewN_below (B : Nat) (w : World) (n : Nat) : Below B w (w.drewN n) := below_drewN (Below.refl _ _) n
def InB (w : World) : Type := { W : World // Below w.heap.size w W }
instance instNonemptyInB (w : World) : Nonempty (InB w) := ⟨⟨w, Below.refl _ _⟩⟩
def InB.val {w : World} (s : InB w) : World := s.1
theorem InB.cell {w : World} {b o : Nat} {v : Value} (hb : b < w.heap.size) (hc : w.cell? ⟨b, o, none⟩ = some v) (s : InB w) : s.val.cell? ⟨b, o, none⟩ = some v := bcell s.2 hb hc
theorem InB.below {w : World} (s : InB w) : Below w.heap.size w s.val := s.2
theorem InB.size {w : World} (s : InB w) : w.heap.size ≤ s.val.heap.size := s.2.size
theorem wp_region_inB {P : Program} {id : Nat} {Q : Exit → Act → World → Prop} {a : Act} {w : World} {l : List Oper} (hm : P.follows .mixedOrders = true) (hB : Region.lexB .any l.toArray = true)
  (h : wpQuiet P l.toArray (fun w' => ∃ s : InB w, w' = s.val) (fun a' => ∀ w', (∃ s : InB w, w' = s.val) → Q .normal a' w') l a) : (Code.region id l.toArray true).wp P Q a w :=
 wp_region_quiet (C := fun w' => ∃ s : InB w, w' = s.val) hm hB ⟨⟨{ w with drawn := w.drawn + 1 }, drewN_below _ _ 1⟩, rfl⟩ (by simpa using h)
theorem InB.call {P : Program} {f : FuncId} {args : Array Value} {w : World} {s : InB w} {v : Value} (h : Calls P f args s.val fun e w' => e = .returned v ∧ Below s.val.heap.size s.val w') :
  Calls P f args s.val fun e w'' => e = .returned v ∧ ∃ s' : InB w, w'' = s'.val :=
 h.mono fun _ w'' ⟨he, hb⟩ => ⟨he, ⟨⟨w'', s.2.trans (hb.mono s.2.size)⟩, rfl⟩⟩
theorem InB.call_same {P : Program} {f : FuncId} {args : Array Value} {w : World} {s : InB w} {v : Value} (h : Calls P f args s.val fun e w' => e = .returned v ∧ w' = s.val) :
  Calls P f args s.val fun e w'' => e = .returned v ∧ ∃ s' : InB w, w'' = s'.val :=
 h.mono fun _ w'' ⟨he, hb⟩ => ⟨he, ⟨s, hb⟩⟩
def Blk (w : World) (g : Nat) (t : TypeId) (cs : Array Value) : Prop := w.heap[g]? = some (.cells cs t (0, 0))
section
variable {w w' : World} {g : Nat} {t : TypeId} {cs : Array Value}
theorem Blk.lt (h : Blk w g t cs) : g < w.heap.size := by
 rcases Nat.lt_or_ge g w.heap.size with hlt | hge
 ·exact hlt
 ·unfold Blk at h; rw [Array.getElem?_eq_none hge] at h; cases h
theorem Blk.cell (h : Blk w g t cs) (i : Nat) : w.cell? ⟨g, i, none⟩ = cs[i]? := cell_of_row w g i cs t (0, 0) h
theorem Blk.cell' (h : Blk w g t cs) {i : Nat} {v : Value} (hv : cs[i]? = some v) : w.cell? ⟨g, i, none⟩ = some v := (h.cell i).trans hv
theorem Blk.call (h : Blk w g t cs) (hb : Below w.heap.size w w') : Blk w' g t cs := (hb.block g h.lt).trans h
theorem Blk.frozen (h : Blk w g t cs) (i : Nat) : w.frozen? ⟨g, i, none⟩ = false := by
 unfold Blk at h
 simp [World.frozen?, h]
theorem Blk.new (w : World) (t : TypeId) (cs : Array Value) : Blk (w.alloc (.cells cs t)) w.heap.size t cs := heap_alloc_new w _
theorem Blk.drewN (h : Blk w g t cs) (n : Nat) : Blk (w.drewN n) g t cs := h
theorem Blk.alloc (h : Blk w g t cs) (o : Obj) : Blk (w.alloc o) g t cs := (Below.heap_alloc w o g h.lt).trans h
theorem Blk.set_ (h : Blk w g t cs) (i : Nat) (u : Value) : Blk (w.setCell ⟨g, i, none⟩ u) g t (cs.setIfInBounds i u) := by
 unfold Blk at h ⊢
 simp [World.setCell, Array.getElem?_modify, h]
theorem Blk.far (h : Blk w g t cs) {p : Addr} (hp : g ≠ p.block) (u : Value) : Blk (w.setCell p u) g t cs := (Below.heap_setCell w p u g hp).trans h
theorem Blk.below {B : Nat} (h : Blk w g t cs) (hb : Below B w w') (hg : g < B) : Blk w' g t cs := (hb.block g hg).trans h
theorem Blk.grown {row : Option Nat} (h : Blk w g t cs) (hb : w.grownBy w' row) (hg : some g ≠ row) : Blk w' g t cs := (hb.block g h.lt hg).trans h
theorem Blk.own (h : Blk w g t cs) {base n cap size : Nat} (hb : base ≤ g) (hnc : n ≤ cap) (hm : cap ≤ maxLen) (hs : cs.size = cap * size) :
  w.ownsRow base t size (.slice (some ⟨g, 0, none⟩) n cap) n (cs.toList.take (n * size)) :=
 ⟨by rw [List.length_take, Array.length_toList, hs]; exact Nat.min_eq_left (Nat.mul_le_mul_right _ hnc), .inr ⟨g, cap, cs, rfl, hb, h, hnc, hm, hs, rfl⟩⟩
end
def mkCells (z : Value) (n : Nat) : Array Value := madeCells z.cells n
theorem mkCells_size (z : Value) (n : Nat) : (mkCells z n).size = n := by simp [mkCells, madeCells]
theorem run_mk {P : Program} {t e : TypeId} {i : TypeInfo} {z : Value} (ht : P.underlying t = some (.slice e)) (hi : P.info? e = some i) (hz : i.zero = some z) {n : Nat} (hb : i.bytes * n ≤ 281474976710656) (h63 : n ≤ 9223372036854775807) (W : World) :
  (Instr.makeSlice t (.int .i64 (n : Int)) (.int .i64 (n : Int))).run P W = .ok (.slice (some ⟨W.heap.size, 0, none⟩) n n) (W.alloc (.cells (mkCells z (n * i.size)) e)) := by
 have hb' : (i.bytes : Int) * (n : Int) ≤ 281474976710656 := by
  have h : ((i.bytes * n : Nat) : Int) ≤ 281474976710656 := by omega
  rwa [Int.natCast_mul] at h
 have hr := run_make (P := P) W t e i z ht hi hz .i64 .i64 n n (by omega) (by omega) hb' (by omega)
 simp only [Int.toNat_natCast] at hr
 exact hr
structure Chg (lo hi : Nat) (w w' : World) : Prop where
 os : w'.os = w.os
 tape : w'.tape = w.tape
 output : w'.output = w.output
 size : w.heap.size ≤ w'.heap.size
 block : ∀ k, k < w.heap.size → (k < lo ∨ hi ≤ k) → w'.heap[k]? = w.heap[k]?
theorem Chg.refl (lo hi : Nat) (w : World) : Chg lo hi w w := ⟨rfl, rfl, rfl, Nat.le_refl _, fun _ _ _ => rfl⟩
theorem Chg.trans {lo hi : Nat} {a b c : World} (h : Chg lo hi a b) (k : Chg lo hi b c) : Chg lo hi a c :=
 ⟨k.os.trans h.os, k.tape.trans h.tape, k.output.trans h.output, Nat.le_trans h.size k.size, fun i hi' hne => (k.block i (Nat.lt_of_lt_of_le hi' h.size) hne).trans (h.block i hi' hne)⟩
theorem Chg.of_below {lo hi : Nat} {w w' : World} (h : Below w.heap.size w w') : Chg lo hi w w' := ⟨h.os, h.tape, h.output, h.size, fun k hk _ => h.block k hk⟩
theorem Chg.wider {lo hi lo' hi' : Nat} {w w' : World} (h : Chg lo hi w w') (h1 : lo' ≤ lo) (h2 : hi ≤ hi') : Chg lo' hi' w w' :=
 ⟨h.os, h.tape, h.output, h.size, fun k hk hne => h.block k hk (by omega)⟩
theorem Chg.below {lo hi B : Nat} {w w' : World} (h : Chg lo hi w w') (hB : B ≤ lo) (hs : B ≤ w.heap.size) : Below B w w' := ⟨h.os, h.tape, h.output, h.size, fun k hk => h.block k (by omega) (by omega)⟩
theorem Blk.chg {w w' : World} {g lo hi : Nat} {t : TypeId} {cs : Array Value} (h : Blk w g t cs) (hc : Chg lo hi w w') (hg : g < lo ∨ hi ≤ g) : Blk w' g t cs := (hc.block g h.lt hg).trans h
theorem below_alloc (w : World) (o : Obj) : Below w.heap.size w (w.alloc o) := (Below.refl _ _).alloc (Nat.le_refl _) _
def Hold (p : Prop) : Prop := p
theorem Hold.stop {p : Prop} (h : Hold p) : p := h
theorem unhide {p : Prop} (h : Hid p) : p := h
theorem drew_below (w : World) : Below w.heap.size w w.drew := (Below.refl _ _).drew
theorem infoInt : (Tryz.prog.info? 3).map (fun i => (i.zero, i.size, i.bytes)) = some (some (.int .i64 0), 1, 8) := by kernel_rfl
def IntCs (cs : Array Value) (xs : List Int) (k : Nat) : Prop := cs.size = xs.length ∧ ∀ j x, j < k → xs[j]? = some x → cs[j]? = some (.int .i64 x)
theorem IntCs.step {cs : Array Value} {xs : List Int} {k : Nat} {x : Int} (h : IntCs cs xs k) (hx : xs[k]? = some x) : IntCs (cs.setIfInBounds k (.int .i64 x)) xs (k + 1) := by
 obtain ⟨hs, h⟩ := h
 have hk := lt_of_some hx
 refine ⟨by simpa using hs, fun j u hj hu => ?_⟩
 by_cases e : j = k
 ·subst e
  rw [hx] at hu
  injection hu with hu
  subst hu
  simp [Array.getElem?_setIfInBounds]; omega
 ·rw [Array.getElem?_setIfInBounds, if_neg (by omega)]
  exact h j u (by omega) hu
def OwnI (w : World) (base : Nat) (v : Value) (l : List Int) : Prop :=
 w.ownsRow base 3 1 v l.length (l.map (Value.int .i64)) ∧ l.length ≤ 17592186044416 ∧ ∀ x ∈ l, I64 x
theorem OwnI.nil (w : World) (base : Nat) : OwnI w base (.slice none 0 0) [] := ⟨World.ownsRow_nil _ _ _ _, by simp, by simp⟩
theorem OwnI.rd {w : World} {base : Nat} {v : Value} {l : List Int} (h : OwnI w base v l) : SlI w w.heap.size v l := by
 obtain ⟨h1, h2, h3⟩ := h
 rcases h1.2 with ⟨rfl, h0⟩ | ⟨g, cap, cur, rfl, _, hg, hnc, hcm, hcs, htake⟩
 ·obtain rfl : l = [] := List.eq_nil_of_length_eq_zero h0
  exact SlG.nil
 ·refine ⟨_, _, rfl, hnc, by simp only [maxLen] at hcm; omega, h2, fun hp => ⟨g, 0, rfl, (Array.getElem?_eq_some_iff.1 hg).1, fun j x hj => ⟨?_, h3 x (List.mem_of_getElem? hj)⟩⟩⟩
  have hc := h1.cellAt j (by have := lt_of_some hj; omega)
  rw [show 0 + j * 1 = j by omega, hc]
  simp [hj]
theorem OwnI.below {w w' : World} {base : Nat} {v : Value} {l : List Int} (h : OwnI w base v l) (hb : Below w.heap.size w w') : OwnI w' base v l :=
 ⟨h.1.kept (row := none) ⟨hb.os, hb.tape, hb.output, hb.size, fun k hk _ => hb.block k hk⟩ (by cases v.ownBlock <;> simp), h.2⟩
theorem OwnI.lower {w : World} {base base' : Nat} {v : Value} {l : List Int} (h : OwnI w base v l) (hb : base' ≤ base) : OwnI w base' v l := by
 obtain ⟨⟨h0, h1⟩, h2⟩ := h
 refine ⟨⟨h0, ?_⟩, h2⟩
 rcases h1 with h1 | ⟨g, cap, cur, e, hg, rest⟩
 ·exact .inl h1
 ·exact .inr ⟨g, cap, cur, e, by omega, rest⟩
theorem OwnI.of_blk {w : World} {base g : Nat} {cs : Array Value} {xs : List Int} (hb : Blk w g 3 cs) (hg : base ≤ g) (hcs : IntCs cs xs xs.length) (hn : xs.length ≤ 17592186044416) (hr : ∀ x ∈ xs, I64 x) :
  OwnI w base (.slice (some ⟨g, 0, none⟩) xs.length xs.length) xs := by
 refine ⟨⟨by simp, .inr ⟨g, xs.length, cs, rfl, hg, hb, Nat.le_refl _, by simp only [maxLen]; omega, by rw [hcs.1]; omega, ?_⟩⟩, hn, hr⟩
 apply List.ext_getElem?
 intro j
 by_cases hj : j < xs.length
 ·rw [List.getElem?_take, if_pos (by omega), Array.getElem?_toList, hcs.2 j _ hj (List.getElem?_eq_getElem hj)]
  simp [hj]
 ·rw [List.getElem?_take, if_neg (by omega)]
  simp [Nat.le_of_not_lt hj]
theorem SlI.i64 {w : World} {B : Nat} {v : Value} {l : List Int} (h : SlI w B v l) : ∀ x ∈ l, I64 x := by
 obtain ⟨A, c, _, _, _, _, h4⟩ := h
 intro x hx
 obtain ⟨j, hj⟩ := List.getElem?_of_mem hx
 obtain ⟨_, _, _, _, hr⟩ := h4 (by have := lt_of_some hj; omega)
 exact (hr j x hj).2
def mkI (k : Int) (n : Nat) : List Int := (List.range n).map fun i : Nat => k + (i : Int)
section
variable {P : Program} (w : World)
theorem run_append_none (base : Nat) (t ty e : TypeId) (i : TypeInfo) (size : Nat) (ht : P.underlying t = some (.slice e)) (hi : P.info? e = some i)
  (v : Value) (n : Nat) (xs : List Value) (hown : w.ownsRow base e size v n xs) (c : Nat) : (Builtin.append_ #[t, t] ty #[v, .slice none 0 c]).run P w = .ok v w := by
 rcases hown.2 with ⟨rfl, rfl⟩ | ⟨g, cap, cur, rfl, _, _, hnc, _⟩
 ·simp [Builtin.append_, run_underlying ht, sizeOf, typeInfo, hi, Builtin.lenOf, Builtin.firstCells]
 ·simp [Builtin.append_, run_underlying ht, sizeOf, typeInfo, hi, Builtin.lenOf, Builtin.firstCells, hnc, storeCells]
def NewsAt (w : World) (A : Option Addr) (m : Nat) (news : List Value) (size : Nat) : Prop := news.length = m * size ∧ (m = 0 ∨ ∃ b o, A = some ⟨b, o, none⟩ ∧ ∀ j u, news[j]? = some u → w.cell? ⟨b, o + j, none⟩ = some u)
theorem run_append_G (base : Nat) (t ty e : TypeId) (i : TypeInfo) (z : Value) (size bytes : Nat) (ht : P.underlying t = some (.slice e)) (hi : P.info? e = some i) (hz : i.zero = some z)
  (hsize : i.size = size) (hby : i.bytes = bytes) (hzs : z.cells.size = size) (hsz : 0 < size)
  (v : Value) (n : Nat) (xs : List Value) (hown : w.ownsRow base e size v n xs)
  (A : Option Addr) (m c : Nat) (news : List Value) (hnews : NewsAt w A m news size) (h1 : ∀ u ∈ news, u.oneCell' = true)
  (h63 : n + m ≤ maxLen) (hbytes : (n + m) * bytes ≤ 140737488355328) (hbase : base ≤ w.heap.size) :
  ∃ v' w', (Builtin.append_ #[t, t] ty #[v, .slice A m c]).run P w = .ok v' w' ∧ w'.ownsRow base e size v' (n + m) (xs ++ news) ∧ w.grownBy w' v.ownBlock ∧
   (v'.ownBlock = v.ownBlock ∨ v'.ownBlock = some w.heap.size) := by
 obtain ⟨hl, hn⟩ := hnews
 rcases A with _ | ad
 ·have hm : m = 0 := by
   rcases hn with h | ⟨b, o, h, _⟩
   ·exact h
   ·cases h
  subst hm
  obtain rfl : news = [] := List.eq_nil_of_length_eq_zero (by simpa using hl)
  exact ⟨v, w, run_append_none w base t ty e i size ht hi v n xs hown c, by simpa using hown, World.grownBy.refl w _, .inl rfl⟩
 ·have hcells : ∀ j u, news[j]? = some u → w.cell? (ad.add j) = some u := by
   intro j u hu
   rcases hn with h | ⟨b, o, h, hc⟩
   ·subst h
    obtain rfl : news = [] := List.eq_nil_of_length_eq_zero (by simpa using hl)
    simp at hu
   ·injection h with h
    subst h
    have e : (⟨b, o, none⟩ : Addr).add j = ⟨b, o + j, none⟩ := by unfold Addr.add; split <;> simp_all
    rw [e]
    exact hc j u hu
  obtain ⟨v', w', hrun, h2, h3, _, h5⟩ := run_append_own_at (P := P) w base t ty e i z size bytes ht hi hz hsize hby hzs hsz v n xs hown ad m c news hl hcells h1 h63 hbytes hbase
  exact ⟨v', w', hrun, h2, h3, h5⟩
theorem wpList_append_G {ops : Array Oper} {rest : List Oper} {o : Oper} {a : Act} {Q : Exit → Act → World → Prop} (hgd : o.guard = none) (s x : Operand) (t : TypeId)
  (ho : o.op = .call { callee := .builtin .append, args := #[s, x], argTypes := #[t, t] })
  (base : Nat) (e : TypeId) (i : TypeInfo) (z : Value) (size bytes : Nat) (ht : P.underlying t = some (.slice e)) (hi : P.info? e = some i) (hz : i.zero = some z)
  (hsize : i.size = size) (hby : i.bytes = bytes) (hzs : z.cells.size = size) (hsz : 0 < size)
  (v : Value) (n : Nat) (xs : List Value) (hs : a.eval s = v) (hown : w.ownsRow base e size v n xs)
  (A : Option Addr) (m c : Nat) (news : List Value) (hx : a.eval x = .slice A m c) (hnews : NewsAt w A m news size) (h1 : ∀ u ∈ news, u.oneCell' = true)
  (h63 : n + m ≤ maxLen) (hbytes : (n + m) * bytes ≤ 140737488355328) (hbase : base ≤ w.heap.size)
  (h : ∀ v' w', w'.ownsRow base e size v' (n + m) (xs ++ news) → w.grownBy w' v.ownBlock → (v'.ownBlock = v.ownBlock ∨ v'.ownBlock = some w.heap.size) → wpList P ops Q rest (a.put o.dst v') w') : wpList P ops Q (o :: rest) a w := by
 refine wpList_plain hgd fun K hK => ?_
 obtain ⟨v', w', hrun, h2, h3, h4⟩ := run_append_G (P := P) w base t o.type e i z size bytes ht hi hz hsize hby hzs hsz v n xs hown A m c news hnews h1 h63 hbytes hbase
 unfold Oper.wp execOp
 simp only [ho, resolve, invoke, builtin, Sem.run_bind, Sem.run_pure, Result.andThen_ok, List.map_toArray, List.map_cons, List.map_nil, hs, hx, hrun]
 exact hK _ _ (h v' w' h2 h3 h4)
end
theorem NewsAt.of_sl {w : World} {B : Nat} {A : Option Addr} {c : Nat} {l : List Int} (h : SlI w B (.slice A l.length c) l) : NewsAt w A l.length (l.map (Value.int .i64)) 1 := by
 refine ⟨by simp, ?_⟩
 obtain ⟨A', c', e, h1, h2, h3, h4⟩ := h
 injection e with e1 e2 e3; subst e1
 rcases Nat.eq_zero_or_pos l.length with h0 | h0
 ·exact .inl h0
 ·obtain ⟨b, o, rfl, _, hc⟩ := h4 h0
  refine .inr ⟨b, o, rfl, fun j u hu => ?_⟩
  rw [List.getElem?_map, Option.map_eq_some_iff] at hu
  obtain ⟨x, hx, rfl⟩ := hu
  have := (hc j x hx).1
  simpa using this
theorem int_oneCell (l : List Int) : ∀ u ∈ l.map (Value.int .i64), u.oneCell' = true := by
 intro u hu
 obtain ⟨x, _, rfl⟩ := List.mem_map.1 hu
 rfl
theorem wpList_appI {w : World} {ops : Array Oper} {rest : List Oper} {o : Oper} {a : Act} {Q : Exit → Act → World → Prop} (hgd : o.guard = none) (s x : Operand)
  (ho : o.op = .call { callee := .builtin .append, args := #[s, x], argTypes := #[26, 26] })
  (base B : Nat) (v : Value) (l : List Int) (hs : a.eval s = v) (hown : OwnI w base v l) (A : Option Addr) (m c : Nat) (news : List Int) (hx : a.eval x = .slice A m c) (hm : m = news.length) (hr : SlI w B (.slice A news.length c) news)
  (hn : l.length + news.length ≤ 17592186044416) (hbase : base ≤ w.heap.size)
  (h : ∀ v' w', OwnI w' base v' (l ++ news) → w.grownBy w' v.ownBlock → (v'.ownBlock = v.ownBlock ∨ v'.ownBlock = some w.heap.size) → wpList Tryz.prog ops Q rest (a.put o.dst v') w') : wpList Tryz.prog ops Q (o :: rest) a w := by
 subst hm
 obtain ⟨i0, hi, hz0, hz1, hz2⟩ := info_parts infoInt
 refine wpList_append_G w hgd s x _ ho base 3 i0 _ 1 8 Tryz.underlying26 hi hz0 hz1 hz2 rfl (by decide) v l.length _ hs hown.1 A _ c _ hx (NewsAt.of_sl hr) (int_oneCell news) (by simp only [maxLen]; omega) (by omega) hbase fun v' w' h1 h2 h3 => ?_
 refine h v' w' ⟨by simpa using h1, by simpa using hn, fun y hy => ?_⟩ h2 h3
 rcases List.mem_append.1 hy with hy | hy
 ·exact hown.2.2 y hy
 ·exact SlI.i64 hr y hy
theorem SlI.one (w : World) (t : TypeId) (x : Int) (hx : I64 x) : SlI (w.alloc (.cells #[.int .i64 x] t)) (w.alloc (.cells #[.int .i64 x] t)).heap.size (.slice (some ⟨w.heap.size, 0, none⟩) 1 1) [x] := by
 refine ⟨_, 1, rfl, by simp, by omega, by simp, fun _ => ⟨w.heap.size, 0, rfl, by simp, fun j y hj => ?_⟩⟩
 match j, hj with
 | 0, hj =>
  simp at hj
  subst hj
  exact ⟨by simp, hx⟩
 | j + 1, hj => simp at hj
theorem OwnI.form {w : World} {base : Nat} {v : Value} {l : List Int} (h : OwnI w base v l) : ∃ A c, v = .slice A l.length c ∧ l.length ≤ c ∧ c ≤ 9223372036854775807 := by
 rcases h.1.2 with ⟨rfl, h0⟩ | ⟨g, cap, cur, rfl, _, _, hnc, hcm, _⟩
 ·exact ⟨none, 0, by rw [h0], by omega, by omega⟩
 ·exact ⟨_, _, rfl, hnc, by simp only [maxLen] at hcm; omega⟩
theorem OwnI.alloc {w : World} {base : Nat} {v : Value} {l : List Int} (h : OwnI w base v l) (o : Obj) : OwnI (w.alloc o) base v l := ⟨h.1.alloc o, h.2⟩
theorem OwnI.drewN {w : World} {base : Nat} {v : Value} {l : List Int} (h : OwnI w base v l) (n : Nat) : OwnI (w.drewN n) base v l := h
theorem OwnI.kept {w w' : World} {base : Nat} {v : Value} {l : List Int} {row : Option Nat} (h : OwnI w base v l) (hg : w.grownBy w' row) (hne : v.ownBlock = none ∨ v.ownBlock ≠ row) : OwnI w' base v l := ⟨h.1.kept hg hne, h.2⟩
theorem OwnI.blkne {w : World} {base g : Nat} {v : Value} {l : List Int} {t : TypeId} {cs : Array Value} (h : OwnI w base v l) (hb : Blk w g t cs) (ht : 3 ≠ t) : some g ≠ v.ownBlock := by
 rcases h.1.2 with ⟨rfl, _⟩ | ⟨g', cap, cur, rfl, _, hh, _⟩
 ·simp [Value.ownBlock]
 ·intro he
  have : g = g' := by simpa [Value.ownBlock] using he
  subst this
  unfold Blk at hb
  rw [hh] at hb
  injection hb with hb
  injection hb with _ hb
  exact ht hb
theorem OwnI.setCell {w : World} {base : Nat} {v : Value} {l : List Int} (h : OwnI w base v l) {p : Addr} (hp : v.ownBlock ≠ some p.block) (u : Value) : OwnI (w.setCell p u) base v l :=
 h.kept (row := some p.block) ⟨rfl, rfl, rfl, by simp [World.setCell], fun k _ hne => Below.heap_setCell _ _ _ _ (fun e => hne (by rw [e]))⟩ (.inr hp)
theorem OwnI.made {w : World} {base : Nat} (t : TypeId) (ht : t = 3) (hb : base ≤ w.heap.size) : OwnI (w.alloc (.cells #[] t)) base (.slice (some ⟨w.heap.size, 0, none⟩) 0 0) [] := by
 subst ht
 exact ⟨World.ownsRow_made w #[] 0 hb (Nat.zero_le _) (by simp), by simp, by simp⟩
theorem OwnI.lt {w : World} {base : Nat} {v : Value} {l : List Int} (h : OwnI w base v l) : ∀ k, v.ownBlock = some k → base ≤ k ∧ k < w.heap.size := h.1.lt
structure Qv where
 v : Int
 f : List Int
 t : List Int
deriving DecidableEq
def QvR (w : World) (B : Nat) (val : Value) (q : Qv) : Prop := ∃ a b, val = .agg #[.int .i64 q.v, a, b] ∧ SlI w B a q.f ∧ SlI w B b q.t ∧ I64 q.v
def QvO (w : World) (base : Nat) (val : Value) (q : Qv) : Prop := ∃ a b, val = .agg #[.int .i64 q.v, a, b] ∧ OwnI w base a q.f ∧ OwnI w base b q.t ∧ (a.ownBlock = none ∨ a.ownBlock ≠ b.ownBlock) ∧ I64 q.v
theorem QvR.next {w w' : World} {v : Value} {q : Qv} (hb : Below w.heap.size w w') (h : QvR w w.heap.size v q) : QvR w' w'.heap.size v q := by
 obtain ⟨a, b, e, h1, h2, h3⟩ := h
 exact ⟨a, b, e, SlI.next hb h1, SlI.next hb h2, h3⟩
theorem QvR.below {w w' : World} {B : Nat} {v : Value} {q : Qv} (hb : Below B w w') (h : QvR w B v q) : QvR w' B v q := by
 obtain ⟨a, b, e, h1, h2, h3⟩ := h
 exact ⟨a, b, e, SlI.below hb h1, SlI.below hb h2, h3⟩
theorem QvR.more {w : World} {B B' : Nat} {v : Value} {q : Qv} (hB : B ≤ B') (h : QvR w B v q) : QvR w B' v q := by
 obtain ⟨a, b, e, h1, h2, h3⟩ := h
 exact ⟨a, b, e, SlI.more hB h1, SlI.more hB h2, h3⟩
theorem QvO.rd {w : World} {base : Nat} {v : Value} {q : Qv} (h : QvO w base v q) : QvR w w.heap.size v q := by
 obtain ⟨a, b, e, h1, h2, _, h3⟩ := h
 exact ⟨a, b, e, h1.rd, h2.rd, h3⟩
theorem QvO.below {w w' : World} {base : Nat} {v : Value} {q : Qv} (h : QvO w base v q) (hb : Below w.heap.size w w') : QvO w' base v q := by
 obtain ⟨a, b, e, h1, h2, h4, h3⟩ := h
 exact ⟨a, b, e, h1.below hb, h2.below hb, h4, h3⟩
theorem QvO.lower {w : World} {base base' : Nat} {v : Value} {q : Qv} (h : QvO w base v q) (hb : base' ≤ base) : QvO w base' v q := by
 obtain ⟨a, b, e, h1, h2, h4, h3⟩ := h
 exact ⟨a, b, e, h1.lower hb, h2.lower hb, h4, h3⟩
theorem QvR.open_ {w : World} {B : Nat} {v : Value} {q : Qv} (h : QvR w B v q) : ∃ A c C d, v = .agg #[.int .i64 q.v, .slice A q.f.length c, .slice C q.t.length d] ∧ SlI w B (.slice A q.f.length c) q.f ∧ SlI w B (.slice C q.t.length d) q.t ∧ I64 q.v ∧ q.f.length ≤ 17592186044416 ∧ q.t.length ≤ 17592186044416 := by
 obtain ⟨a, b, rfl, h1, h2, h3⟩ := h
 obtain ⟨A, c, rfl, _, _, h4, h1⟩ := h1.open_
 obtain ⟨C, d, rfl, _, _, h5, h2⟩ := h2.open_
 exact ⟨A, c, C, d, rfl, h1, h2, h3, h4, h5⟩
theorem qv_ext (p q : Qv) : (p = q) ↔ (p.v = q.v ∧ p.f = q.f ∧ p.t = q.t) := by
 cases p; cases q; simp
def IntsO (w : World) (lo hi : Nat) (v : Value) (l : List Int) : Prop := OwnI w lo v l ∧ ∀ k, v.ownBlock = some k → k < hi
theorem IntsO.of_own {w : World} {lo : Nat} {v : Value} {l : List Int} (h : OwnI w lo v l) : IntsO w lo w.heap.size v l := ⟨h, fun k hk => (h.lt k hk).2⟩
theorem IntsO.rd {w : World} {lo hi : Nat} {v : Value} {l : List Int} (h : IntsO w lo hi v l) : SlI w w.heap.size v l := h.1.rd
theorem IntsO.chg {w w' : World} {lo hi lo' hi' : Nat} {v : Value} {l : List Int} (h : IntsO w lo hi v l) (hc : Chg lo' hi' w w') (hd : hi ≤ lo' ∨ hi' ≤ lo) : IntsO w' lo hi v l := by
 refine ⟨⟨⟨h.1.1.1, ?_⟩, h.1.2⟩, h.2⟩
 rcases h.1.1.2 with h1 | ⟨g, cap, cur, rfl, hg, hh, rest⟩
 ·exact .inl h1
 ·have := h.2 g (by simp [Value.ownBlock])
  exact .inr ⟨g, cap, cur, rfl, hg, (hc.block g (Array.getElem?_eq_some_iff.1 hh).1 (by omega)).trans hh, rest⟩
theorem IntsO.below {w w' : World} {lo hi : Nat} {v : Value} {l : List Int} (h : IntsO w lo hi v l) (hb : Below w.heap.size w w') : IntsO w' lo hi v l := ⟨h.1.below hb, h.2⟩
theorem SlI.chg {w w' : World} {B lo hi : Nat} {v : Value} {l : List Int} (h : SlI w B v l) (hc : Chg lo hi w w') (hB : B ≤ lo) (hs : B ≤ w.heap.size) : SlI w' B v l := SlI.below (hc.below hB hs) h
def IntsO.mk (k : Int) (l : List Int) : List Int := mkI k l.length
def Fam (w : World) (lo hi : Nat) (L : List (Value × List Int)) : Prop := (∀ p ∈ L, IntsO w lo hi p.1 p.2) ∧ L.Pairwise (fun p q => p.1.ownBlock = none ∨ p.1.ownBlock ≠ q.1.ownBlock)
theorem Fam.chg {w w' : World} {lo hi lo' hi' : Nat} {L : List (Value × List Int)} (h : Fam w lo hi L) (hc : Chg lo' hi' w w') (hd : hi ≤ lo' ∨ hi' ≤ lo) : Fam w' lo hi L := ⟨fun p hp => (h.1 p hp).chg hc hd, h.2⟩
theorem Fam.below {w w' : World} {lo hi : Nat} {L : List (Value × List Int)} (h : Fam w lo hi L) (hb : Below w.heap.size w w') : Fam w' lo hi L := ⟨fun p hp => (h.1 p hp).below hb, h.2⟩
theorem Fam.turn {w w' : World} {lo hi : Nat} {L1 L2 : List (Value × List Int)} {v : Value} {l l' : List Int} (h : Fam w lo hi (L1 ++ (v, l) :: L2)) (ho : OwnI w' lo v l') (hg : w.grownBy w' v.ownBlock) : Fam w' lo hi (L1 ++ (v, l') :: L2) := by
 obtain ⟨h1, h2⟩ := h
 rw [List.pairwise_append, List.pairwise_cons] at h2
 obtain ⟨p1, ⟨p2, p3⟩, p4⟩ := h2
 refine ⟨fun p hp => ?_, ?_⟩
 ·rcases List.mem_append.1 hp with hp | hp
  ·have := h1 p (by simp [hp])
   have hne := p4 p hp (v, l) (by simp)
   exact ⟨this.1.kept hg hne, this.2⟩
  ·rcases List.mem_cons.1 hp with rfl | hp
   ·exact ⟨ho, (h1 (v, l) (by simp)).2⟩
   ·have := h1 p (by simp [hp])
    have hne := p2 p hp
    refine ⟨this.1.kept hg ?_, this.2⟩
    rcases hne with hne | hne
    ·rcases hpb : p.1.ownBlock with _ | b
     ·exact .inl rfl
     ·exact .inr (by rw [show v.ownBlock = none from hne]; simp)
    ·exact .inr (fun e => hne e.symm)
 ·rw [List.pairwise_append, List.pairwise_cons]
  exact ⟨p1, ⟨p2, p3⟩, fun a ha b hb => by
   rcases List.mem_cons.1 hb with rfl | hb
   ·exact p4 a ha (v, l) (by simp)
   ·exact p4 a ha b (by simp [hb])⟩
theorem Fam.app {w w' : World} {lo hi : Nat} {L1 L2 : List (Value × List Int)} {v v' : Value} {l l' : List Int} (h : Fam w lo hi (L1 ++ (v, l) :: L2)) (hh : hi ≤ w'.heap.size) (ho : OwnI w' lo v' l') (hg : w.grownBy w' v.ownBlock) (hv : v'.ownBlock = v.ownBlock ∨ v'.ownBlock = some w.heap.size) :
  Fam w' lo w'.heap.size (L1 ++ (v', l') :: L2) := by
 obtain ⟨h1, h2⟩ := h
 rw [List.pairwise_append, List.pairwise_cons] at h2
 obtain ⟨p1, ⟨p2, p3⟩, p4⟩ := h2
 have new : ∀ p ∈ L1 ++ (v, l) :: L2, p.1.ownBlock ≠ some w.heap.size := fun p hp e => by
  have := ((h1 p hp).1.lt _ e).2
  omega
 refine ⟨fun p hp => ?_, ?_⟩
 ·rcases List.mem_append.1 hp with hp | hp
  ·have := h1 p (by simp [hp])
   exact ⟨this.1.kept hg (p4 p hp (v, l) (by simp)), fun k hk => Nat.lt_of_lt_of_le (this.2 k hk) hh⟩
  ·rcases List.mem_cons.1 hp with rfl | hp
   ·exact IntsO.of_own ho
   ·have := h1 p (by simp [hp])
    have hne := p2 p hp
    refine ⟨this.1.kept hg ?_, fun k hk => Nat.lt_of_lt_of_le (this.2 k hk) hh⟩
    rcases hne with hne | hne
    ·rcases hpb : p.1.ownBlock with _ | b
     ·exact .inl rfl
     ·exact .inr (by rw [show v.ownBlock = none from hne]; simp)
    ·exact .inr (fun e => hne e.symm)
 ·rw [List.pairwise_append, List.pairwise_cons]
  refine ⟨p1, ⟨fun q hq => ?_, p3⟩, fun a ha b hb => ?_⟩
  ·show v'.ownBlock = none ∨ v'.ownBlock ≠ q.1.ownBlock
   rcases hv with e | e <;> rw [e]
   ·exact p2 q hq
   ·exact .inr (fun e => new q (by simp [hq]) e.symm)
  ·rcases List.mem_cons.1 hb with rfl | hb
   ·show a.1.ownBlock = none ∨ a.1.ownBlock ≠ v'.ownBlock
    rcases hv with e | e <;> rw [e]
    ·exact p4 a ha (v, l) (by simp)
    ·exact .inr (new a (by simp [ha]))
   ·exact p4 a ha b (by simp [hb])
theorem Fam.setBlk {w : World} {lo hi g i : Nat} {L : List (Value × List Int)} {t : TypeId} {cs : Array Value} (h : Fam w lo hi L) (hb : Blk w g t cs) (ht : 3 ≠ t) (u : Value) : Fam (w.setCell ⟨g, i, none⟩ u) lo hi L :=
 ⟨fun p hp => ⟨(h.1 p hp).1.setCell (p := ⟨g, i, none⟩) (fun e => (h.1 p hp).1.blkne hb ht e.symm) u, (h.1 p hp).2⟩, h.2⟩
theorem Fam.mono {w : World} {lo hi lo' hi' : Nat} {L : List (Value × List Int)} (h : Fam w lo hi L) (h1 : lo' ≤ lo) (h2 : hi ≤ hi') : Fam w lo' hi' L :=
 ⟨fun p hp => ⟨(h.1 p hp).1.lower h1, fun k hk => Nat.lt_of_lt_of_le ((h.1 p hp).2 k hk) h2⟩, h.2⟩
def QuivO (w : World) (lo hi : Nat) (val : Value) (q : Qv) : Prop := ∃ a b, val = .agg #[.int .i64 q.v, a, b] ∧ Fam w lo hi [(a, q.f), (b, q.t)] ∧ I64 q.v
theorem QvR.form {w : World} {B : Nat} {v : Value} {q : Qv} (h : QvR w B v q) : ∃ A c C d, v = .agg #[.int .i64 q.v, .slice A q.f.length c, .slice C q.t.length d] := by
 obtain ⟨A, c, C, d, e, _⟩ := h.open_
 exact ⟨A, c, C, d, e⟩
theorem QvR.lens {w : World} {B : Nat} {v : Value} {q : Qv} (h : QvR w B v q) : q.f.length ≤ 17592186044416 ∧ q.t.length ≤ 17592186044416 := by
 obtain ⟨A, c, C, d, e, _, _, _, h1, h2⟩ := h.open_
 exact ⟨h1, h2⟩
theorem QuivO.rd {w : World} {lo hi : Nat} {v : Value} {q : Qv} (h : QuivO w lo hi v q) : QvR w w.heap.size v q := by
 obtain ⟨a, b, e, h1, h2⟩ := h
 exact ⟨a, b, e, (h1.1 (a, q.f) (by simp)).rd, (h1.1 (b, q.t) (by simp)).rd, h2⟩
theorem QuivO.form {w : World} {lo hi : Nat} {v : Value} {q : Qv} (h : QuivO w lo hi v q) : ∃ A c C d, v = .agg #[.int .i64 q.v, .slice A q.f.length c, .slice C q.t.length d] := h.rd.form
theorem QuivO.chg {w w' : World} {lo hi lo' hi' : Nat} {v : Value} {q : Qv} (h : QuivO w lo hi v q) (hc : Chg lo' hi' w w') (hd : hi ≤ lo' ∨ hi' ≤ lo) : QuivO w' lo hi v q := by
 obtain ⟨a, b, e, h1, h2⟩ := h
 exact ⟨a, b, e, h1.chg hc hd, h2⟩
theorem QuivO.below {w w' : World} {lo hi : Nat} {v : Value} {q : Qv} (h : QuivO w lo hi v q) (hb : Below w.heap.size w w') : QuivO w' lo hi v q := by
 obtain ⟨a, b, e, h1, h2⟩ := h
 exact ⟨a, b, e, h1.below hb, h2⟩
theorem QvR.chg {w w' : World} {B lo hi : Nat} {v : Value} {q : Qv} (h : QvR w B v q) (hc : Chg lo hi w w') (hB : B ≤ lo) (hs : B ≤ w.heap.size) : QvR w' B v q := QvR.below (hc.below hB hs) h
def QuivO.mk (k : Int) (q : Qv) : Qv := ⟨q.v, mkI k q.f.length, mkI (k + q.f.length) q.t.length⟩
def Qv.size (q : Qv) : Nat := q.f.length + q.t.length
theorem IntsO.wider {w : World} {lo hi lo' hi' : Nat} {v : Value} {l : List Int} (h : IntsO w lo hi v l) (h1 : lo' ≤ lo) (h2 : hi ≤ hi') : IntsO w lo' hi' v l := ⟨h.1.lower h1, fun k hk => Nat.lt_of_lt_of_le (h.2 k hk) h2⟩
theorem IntsO.set {w : World} {lo hi : Nat} {v : Value} {l : List Int} (h : IntsO w lo hi v l) {p : Addr} (hp : p.block < lo) (u : Value) : IntsO (w.setCell p u) lo hi v l :=
 ⟨h.1.setCell (fun e => by have := (h.1.lt _ e).1; omega) u, h.2⟩
theorem fam_two {w : World} {lo mi hi : Nat} {a b : Value} {l m : List Int} (ha : IntsO w lo mi a l) (hb : IntsO w mi hi b m) (h1 : lo ≤ mi) (h2 : mi ≤ hi) : Fam w lo hi [(a, l), (b, m)] := by
 refine ⟨fun p hp => ?_, ?_⟩
 ·simp only [List.mem_cons, List.not_mem_nil, or_false] at hp
  rcases hp with rfl | rfl
  ·exact ha.wider (Nat.le_refl _) h2
  ·exact hb.wider h1 (Nat.le_refl _)
 ·refine List.pairwise_cons.2 ⟨fun q hq => ?_, List.pairwise_cons.2 ⟨fun q hq => absurd hq (by simp), List.Pairwise.nil⟩⟩
  simp only [List.mem_cons, List.not_mem_nil, or_false] at hq
  subst hq
  show a.ownBlock = none ∨ a.ownBlock ≠ b.ownBlock
  rcases hA : a.ownBlock with _ | x
  ·exact .inl rfl
  ·right
   intro e
   have := ha.2 x hA
   have := (hb.1.lt x e.symm).1
   omega
theorem infoInts : (Tryz.prog.info? 26).map (fun i => (i.zero, i.size, i.bytes)) = some (some (.slice none 0 0), 1, 24) := by kernel_rfl
def OutO (w : World) (lo hi : Nat) (v : Value) (vs : List Value) : Prop := w.ownsRow lo 26 1 v vs.length vs ∧ (∀ k, v.ownBlock = some k → k < hi) ∧ vs.length ≤ 17592186044416
theorem OutO.form {w : World} {lo hi : Nat} {v : Value} {vs : List Value} (h : OutO w lo hi v vs) : ∃ A c, v = .slice A vs.length c ∧ vs.length ≤ c ∧ c ≤ 9223372036854775807 := by
 rcases h.1.2 with ⟨rfl, h0⟩ | ⟨g, cap, cur, rfl, _, _, hnc, hcm, _⟩
 ·exact ⟨none, 0, by rw [h0], by omega, by omega⟩
 ·exact ⟨_, _, rfl, hnc, by simp only [maxLen] at hcm; omega⟩
theorem OutO.chg {w w' : World} {lo hi lo' hi' : Nat} {v : Value} {vs : List Value} (h : OutO w lo hi v vs) (hc : Chg lo' hi' w w') (hd : hi ≤ lo' ∨ hi' ≤ lo) : OutO w' lo hi v vs := by
 refine ⟨⟨h.1.1, ?_⟩, h.2⟩
 rcases h.1.2 with h1 | ⟨g, cap, cur, rfl, hg, hh, rest⟩
 ·exact .inl h1
 ·have := h.2.1 g (by simp [Value.ownBlock])
  exact .inr ⟨g, cap, cur, rfl, hg, (hc.block g (Array.getElem?_eq_some_iff.1 hh).1 (by omega)).trans hh, rest⟩
theorem OutO.below {w w' : World} {lo hi : Nat} {v : Value} {vs : List Value} (h : OutO w lo hi v vs) (hb : Below w.heap.size w w') : OutO w' lo hi v vs :=
 ⟨h.1.kept (row := none) ⟨hb.os, hb.tape, hb.output, hb.size, fun k hk _ => hb.block k hk⟩ (by cases v.ownBlock <;> simp), h.2⟩
theorem OutO.grown {w w' : World} {lo hi base : Nat} {v u : Value} {vs : List Value} {l : List Int} (h : OutO w lo hi v vs) (ho : OwnI w base u l) (hg : w.grownBy w' u.ownBlock) : OutO w' lo hi v vs := by
 refine ⟨h.1.kept hg ?_, h.2⟩
 rcases h.1.2 with ⟨rfl, _⟩ | ⟨g, cap, cur, rfl, _, hh, _⟩
 ·exact .inl rfl
 ·right
  exact fun e => ho.blkne (g := g) (t := 26) (cs := cur) hh (by decide) e
theorem OutO.mono {w : World} {lo hi lo' hi' : Nat} {v : Value} {vs : List Value} (h : OutO w lo hi v vs) (h1 : lo' ≤ lo) (h2 : hi ≤ hi') : OutO w lo' hi' v vs := by
 refine ⟨⟨h.1.1, ?_⟩, fun k hk => Nat.lt_of_lt_of_le (h.2.1 k hk) h2, h.2.2⟩
 rcases h.1.2 with h3 | ⟨g, cap, cur, e, hg, rest⟩
 ·exact .inl h3
 ·exact .inr ⟨g, cap, cur, e, by omega, rest⟩
theorem OutO.set {w : World} {lo hi g : Nat} {v : Value} {vs : List Value} {t : TypeId} {cs : Array Value} (h : OutO w lo hi v vs) (hb : Blk w g t cs) (ht : 26 ≠ t) (i : Nat) (u : Value) : OutO (w.setCell ⟨g, i, none⟩ u) lo hi v vs := by
 refine ⟨h.1.kept (row := some g) ⟨rfl, rfl, rfl, by simp [World.setCell], fun k _ hne => Below.heap_setCell _ _ _ _ (fun e => hne (by rw [e]))⟩ ?_, h.2⟩
 rcases h.1.2 with ⟨rfl, _⟩ | ⟨g', cap, cur, rfl, _, hh, _⟩
 ·exact .inl rfl
 ·right
  intro e
  have : g' = g := by simpa [Value.ownBlock] using e
  subst this
  unfold Blk at hb
  rw [hh] at hb
  injection hb with hb
  injection hb with _ hb
  exact ht hb
def IntssO (w : World) (lo hi : Nat) (v : Value) (ll : List (List Int)) : Prop := ∃ vs, OutO w lo hi v vs ∧ vs.length = ll.length ∧ Fam w lo hi (vs.zip ll)
theorem OutO.rd {w : World} {lo hi : Nat} {v : Value} {vs : List Value} {ll : List (List Int)} (h : OutO w lo hi v vs) (hl : vs.length = ll.length) (hr : ∀ p ∈ vs.zip ll, SlI w w.heap.size p.1 p.2) : SlII w w.heap.size v ll := by
 obtain ⟨h1, h2, h3⟩ := h
 rcases h1.2 with ⟨rfl, h0⟩ | ⟨g, cap, cur, rfl, _, hg, hnc, hcm, hcs, htake⟩
 ·obtain rfl : ll = [] := List.eq_nil_of_length_eq_zero (by omega)
  exact SlG.nil
 ·rw [hl] at hnc h1 h3 ⊢
  refine ⟨_, _, rfl, hnc, by simp only [maxLen] at hcm; omega, h3, fun hp => ⟨g, 0, rfl, (Array.getElem?_eq_some_iff.1 hg).1, fun j x hj => ?_⟩⟩
  have hjl := lt_of_some hj
  have hc := h1.cellAt j (by omega)
  rw [List.getElem?_eq_getElem (by omega)] at hc
  refine ⟨vs[j]'(by omega), by rw [show 0 + j * 1 = j by omega]; exact hc, hr (vs[j]'(by omega), x) ?_⟩
  rw [List.mem_iff_getElem?]
  exact ⟨j, by rw [List.getElem?_zip_eq_some]; exact ⟨List.getElem?_eq_getElem (by omega), hj⟩⟩
theorem IntssO.rd {w : World} {lo hi : Nat} {v : Value} {ll : List (List Int)} (h : IntssO w lo hi v ll) : SlII w w.heap.size v ll := by
 obtain ⟨vs, h1, h2, h3⟩ := h
 exact h1.rd h2 fun p hp => (h3.1 p hp).rd
theorem IntssO.chg {w w' : World} {lo hi lo' hi' : Nat} {v : Value} {ll : List (List Int)} (h : IntssO w lo hi v ll) (hc : Chg lo' hi' w w') (hd : hi ≤ lo' ∨ hi' ≤ lo) : IntssO w' lo hi v ll := by
 obtain ⟨vs, h1, h2, h3⟩ := h
 exact ⟨vs, h1.chg hc hd, h2, h3.chg hc hd⟩
theorem IntssO.below {w w' : World} {lo hi : Nat} {v : Value} {ll : List (List Int)} (h : IntssO w lo hi v ll) (hb : Below w.heap.size w w') : IntssO w' lo hi v ll := by
 obtain ⟨vs, h1, h2, h3⟩ := h
 exact ⟨vs, h1.below hb, h2, h3.below hb⟩
theorem SlII.chg {w w' : World} {B lo hi : Nat} {v : Value} {ll : List (List Int)} (h : SlII w B v ll) (hc : Chg lo hi w w') (hB : B ≤ lo) (hs : B ≤ w.heap.size) : SlII w' B v ll := SlII.below (hc.below hB hs) h
theorem Fam.snoc {w : World} {lo mi hi : Nat} {L : List (Value × List Int)} {v : Value} {l : List Int} (h : Fam w lo mi L) (hv : IntsO w mi hi v l) (h1 : lo ≤ mi) (h2 : mi ≤ hi) : Fam w lo hi (L ++ [(v, l)]) := by
 refine ⟨fun p hp => ?_, ?_⟩
 ·rcases List.mem_append.1 hp with hp | hp
  ·exact (h.1 p hp).wider (Nat.le_refl _) h2
  ·rw [List.mem_singleton] at hp
   subst hp
   exact hv.wider h1 (Nat.le_refl _)
 ·rw [List.pairwise_append]
  refine ⟨h.2, by simp, fun a ha b hb => ?_⟩
  rw [List.mem_singleton] at hb
  subst hb
  show a.1.ownBlock = none ∨ a.1.ownBlock ≠ v.ownBlock
  rcases hA : a.1.ownBlock with _ | x
  ·exact .inl rfl
  ·right
   intro e
   have := (h.1 a ha).2 x hA
   have := (hv.1.lt x e.symm).1
   omega
def tot (ll : List (List Int)) : Nat := (ll.map List.length).sum
def mkSS : Int → List (List Int) → List (List Int)
 | _, [] => []
 | k, l :: r => mkI k l.length :: mkSS (k + l.length) r
def OutCs (cs : Array Value) (n : Nat) (vs : List Value) : Prop := cs.size = n ∧ vs.length ≤ n ∧ ∀ (j : Nat) (v : Value), vs[j]? = some v → cs[j]? = some v
theorem OutCs.step {cs : Array Value} {n : Nat} {vs : List Value} {v : Value} (h : OutCs cs n vs) (hn : vs.length < n) : OutCs (cs.setIfInBounds vs.length v) n (vs ++ [v]) := by
 obtain ⟨h1, h2, h3⟩ := h
 refine ⟨by simpa using h1, by simp; omega, fun j u hu => ?_⟩
 by_cases e : j = vs.length
 ·subst e
  rw [List.getElem?_append_right (Nat.le_refl _)] at hu
  simp at hu
  subst hu
  simp [Array.getElem?_setIfInBounds]; omega
 ·have hj : j < vs.length := by have := lt_of_some hu; simp at this; omega
  rw [List.getElem?_append_left hj] at hu
  rw [Array.getElem?_setIfInBounds, if_neg (by omega)]
  exact h3 j u hu
theorem OutCs.own {w : World} {g lo : Nat} {cs : Array Value} {vs : List Value} (h : OutCs cs vs.length vs) (hb : Blk w g 26 cs) (hlo : lo ≤ g) (hn : vs.length ≤ 17592186044416) : OutO w lo w.heap.size (.slice (some ⟨g, 0, none⟩) vs.length vs.length) vs := by
 have e : cs.toList.take (vs.length * 1) = vs := by
  apply List.ext_getElem?
  intro j
  by_cases hj : j < vs.length
  ·rw [List.getElem?_take, if_pos (by omega), Array.getElem?_toList, List.getElem?_eq_getElem hj]
   exact h.2.2 j _ (List.getElem?_eq_getElem hj)
  ·rw [List.getElem?_take, if_neg (by omega), List.getElem?_eq_none (by omega)]
 have := hb.own (base := lo) (n := vs.length) (cap := vs.length) (size := 1) hlo (Nat.le_refl _) (by simp only [maxLen]; omega) (by rw [h.1]; omega)
 rw [e] at this
 exact ⟨this, fun k hk => by simp [Value.ownBlock] at hk; subst hk; exact hb.lt, hn⟩
def szSS (xs : List (List Int)) : Nat := xs.length + tot xs
theorem zip_split {vs : List Value} {ll : List (List Int)} {j : Nat} {v : Value} {l : List Int} (hv : vs[j]? = some v) (hl : ll[j]? = some l) : vs.zip ll = (vs.take j).zip (ll.take j) ++ (v, l) :: (vs.drop (j + 1)).zip (ll.drop (j + 1)) := by
 have e1 : vs = vs.take j ++ v :: vs.drop (j + 1) := by
  conv => lhs; rw [← List.take_append_drop j vs]
  rw [List.drop_eq_getElem_cons (lt_of_some hv)]
  have : vs[j]'(lt_of_some hv) = v := by rw [List.getElem?_eq_getElem (lt_of_some hv)] at hv; injection hv
  rw [this]
 have e2 : ll = ll.take j ++ l :: ll.drop (j + 1) := by
  conv => lhs; rw [← List.take_append_drop j ll]
  rw [List.drop_eq_getElem_cons (lt_of_some hl)]
  have : ll[j]'(lt_of_some hl) = l := by rw [List.getElem?_eq_getElem (lt_of_some hl)] at hl; injection hl
  rw [this]
 conv => lhs; rw [e1, e2]
 rw [List.zip_append (by simp; have := lt_of_some hv; have := lt_of_some hl; omega)]
 rfl
structure Mx where
 r : Int
 c : Int
 a : List Int
deriving DecidableEq
theorem mx_ext (p q : Mx) : (p = q) ↔ (p.r = q.r ∧ p.c = q.c ∧ p.a = q.a) := by
 cases p; cases q; simp
def MxR (w : World) (B : Nat) (val : Value) (m : Mx) : Prop := ∃ s, val = .agg #[.int .i64 m.r, .int .i64 m.c, s] ∧ SlI w B s m.a ∧ I64 m.r ∧ I64 m.c
theorem MxR.next {w w' : World} {v : Value} {m : Mx} (hb : Below w.heap.size w w') (h : MxR w w.heap.size v m) : MxR w' w'.heap.size v m := by
 obtain ⟨s, e, h1, h2⟩ := h
 exact ⟨s, e, SlI.next hb h1, h2⟩
theorem MxR.below {w w' : World} {B : Nat} {v : Value} {m : Mx} (hb : Below B w w') (h : MxR w B v m) : MxR w' B v m := by
 obtain ⟨s, e, h1, h2⟩ := h
 exact ⟨s, e, SlI.below hb h1, h2⟩
theorem MxR.more {w : World} {B B' : Nat} {v : Value} {m : Mx} (hB : B ≤ B') (h : MxR w B v m) : MxR w B' v m := by
 obtain ⟨s, e, h1, h2⟩ := h
 exact ⟨s, e, SlI.more hB h1, h2⟩
theorem MxR.chg {w w' : World} {B lo hi : Nat} {v : Value} {m : Mx} (h : MxR w B v m) (hc : Chg lo hi w w') (hB : B ≤ lo) (hs : B ≤ w.heap.size) : MxR w' B v m := MxR.below (hc.below hB hs) h
theorem MxR.open_ {w : World} {B : Nat} {v : Value} {m : Mx} (h : MxR w B v m) : ∃ A c, v = .agg #[.int .i64 m.r, .int .i64 m.c, .slice A m.a.length c] ∧ SlI w B (.slice A m.a.length c) m.a ∧ I64 m.r ∧ I64 m.c ∧ m.a.length ≤ 17592186044416 := by
 obtain ⟨s, rfl, h1, h2, h3⟩ := h
 obtain ⟨A, c, rfl, _, _, h4, h1⟩ := h1.open_
 exact ⟨A, c, rfl, h1, h2, h3, h4⟩
theorem MxR.form {w : World} {B : Nat} {v : Value} {m : Mx} (h : MxR w B v m) : ∃ A c, v = .agg #[.int .i64 m.r, .int .i64 m.c, .slice A m.a.length c] := by
 obtain ⟨A, c, e, _⟩ := h.open_
 exact ⟨A, c, e⟩
theorem MxR.lens {w : World} {B : Nat} {v : Value} {m : Mx} (h : MxR w B v m) : m.a.length ≤ 17592186044416 := by
 obtain ⟨A, c, e, _, _, _, h1⟩ := h.open_
 exact h1
def RMx (w : World) (B b o : Nat) (m : Mx) : Prop := ∃ s, w.cell? ⟨b, o, none⟩ = some (.int .i64 m.r) ∧ w.cell? ⟨b, o + 1, none⟩ = some (.int .i64 m.c) ∧ w.cell? ⟨b, o + 2, none⟩ = some s ∧ SlI w B s m.a ∧ I64 m.r ∧ I64 m.c
abbrev SlM := SlG 3 RMx
theorem SlM.below {w w' : World} {B : Nat} {v : Value} {l : List Mx} (hb : Below B w w') (h : SlM w B v l) : SlM w' B v l :=
 SlG.mono (fun _ _ _ hlt ⟨s, h0, h1, h2, hs, hx⟩ => ⟨s, bcell hb hlt h0, bcell hb hlt h1, bcell hb hlt h2, SlI.below hb hs, hx⟩) (Nat.le_refl _) h
theorem SlM.more {w : World} {B B' : Nat} {v : Value} {l : List Mx} (hB : B ≤ B') (h : SlM w B v l) : SlM w B' v l :=
 SlG.mono (B := B) (B' := B') (fun _ _ _ _ ⟨s, h0, h1, h2, hs, hx⟩ => ⟨s, h0, h1, h2, SlI.more hB hs, hx⟩) hB h
theorem SlM.next {w w' : World} {v : Value} {l : List Mx} (hb : Below w.heap.size w w') (h : SlM w w.heap.size v l) : SlM w' w'.heap.size v l := SlM.more hb.size (SlM.below hb h)
theorem SlM.chg {w w' : World} {B lo hi : Nat} {v : Value} {l : List Mx} (h : SlM w B v l) (hc : Chg lo hi w w') (hB : B ≤ lo) (hs : B ≤ w.heap.size) : SlM w' B v l := SlM.below (hc.below hB hs) h
theorem SlM.at_ {w : World} {B c : Nat} {A : Option Addr} {xs : List Mx} {k : Nat} (h : SlM w B (.slice A xs.length c) xs) (hk : k < xs.length) :
  ∃ b o m A' c', A = some ⟨b, o, none⟩ ∧ b < B ∧ Hid (xs[k]? = some m) ∧ w.cell? ⟨b, o + k * 3, none⟩ = some (.int .i64 m.r) ∧ w.cell? ⟨b, o + k * 3 + 1, none⟩ = some (.int .i64 m.c) ∧ w.cell? ⟨b, o + k * 3 + 2, none⟩ = some (.slice A' m.a.length c') ∧
   SlI w B (.slice A' m.a.length c') m.a ∧ (-9223372036854775808 ≤ m.r ∧ m.r ≤ 9223372036854775807) ∧ (-9223372036854775808 ≤ m.c ∧ m.c ≤ 9223372036854775807) ∧ m.a.length ≤ 17592186044416 := by
 obtain ⟨A', c', e, h1, h2, h3, h4⟩ := h
 injection e with e1 e2 e3; subst e1
 obtain ⟨b, o, rfl, hb, hc⟩ := h4 (by omega)
 have hx : xs[k]? = some xs[k] := List.getElem?_eq_getElem hk
 obtain ⟨s, c0, c1, c2, hs, hr, hcc⟩ := hc k _ hx
 obtain ⟨A2, c3, rfl, _, _, h5, hs⟩ := hs.open_
 exact ⟨b, o, xs[k], A2, c3, rfl, hb, hx, c0, c1, c2, hs, hr, hcc, h5⟩
def RowO (T : TypeId) (sz : Nat) (w : World) (lo hi : Nat) (v : Value) (n : Nat) (cs : List Value) : Prop := w.ownsRow lo T sz v n cs ∧ (∀ k, v.ownBlock = some k → k < hi) ∧ n ≤ 17592186044416
section
variable {T : TypeId} {sz : Nat} {w w' : World} {lo hi : Nat} {v : Value} {n : Nat} {cs : List Value}
theorem RowO.form (h : RowO T sz w lo hi v n cs) : ∃ A c, v = .slice A n c ∧ n ≤ c ∧ c ≤ 9223372036854775807 := by
 rcases h.1.2 with ⟨rfl, h0⟩ | ⟨g, cap, cur, rfl, _, _, hnc, hcm, _⟩
 ·exact ⟨none, 0, by rw [h0], by omega, by omega⟩
 ·exact ⟨_, _, rfl, hnc, by simp only [maxLen] at hcm; omega⟩
theorem RowO.at_ (h : RowO T sz w lo hi v n cs) (h0 : 0 < n) : ∃ g c cur, v = .slice (some ⟨g, 0, none⟩) n c ∧ lo ≤ g ∧ g < hi ∧ g < w.heap.size ∧ Blk w g T cur := by
 rcases h.1.2 with ⟨rfl, h1⟩ | ⟨g, cap, cur, rfl, hg, hh, _⟩
 ·omega
 ·exact ⟨g, cap, cur, rfl, hg, h.2.1 g rfl, (Array.getElem?_eq_some_iff.1 hh).1, hh⟩
theorem RowO.chg {lo' hi' : Nat} (h : RowO T sz w lo hi v n cs) (hc : Chg lo' hi' w w') (hd : hi ≤ lo' ∨ hi' ≤ lo) : RowO T sz w' lo hi v n cs := by
 refine ⟨⟨h.1.1, ?_⟩, h.2⟩
 rcases h.1.2 with h1 | ⟨g, cap, cur, rfl, hg, hh, rest⟩
 ·exact .inl h1
 ·have := h.2.1 g (by simp [Value.ownBlock])
  exact .inr ⟨g, cap, cur, rfl, hg, (hc.block g (Array.getElem?_eq_some_iff.1 hh).1 (by omega)).trans hh, rest⟩
theorem RowO.below (h : RowO T sz w lo hi v n cs) (hb : Below w.heap.size w w') : RowO T sz w' lo hi v n cs :=
 ⟨h.1.kept (row := none) ⟨hb.os, hb.tape, hb.output, hb.size, fun k hk _ => hb.block k hk⟩ (by cases v.ownBlock <;> simp), h.2⟩
theorem RowO.mono {lo' hi' : Nat} (h : RowO T sz w lo hi v n cs) (h1 : lo' ≤ lo) (h2 : hi ≤ hi') : RowO T sz w lo' hi' v n cs := by
 refine ⟨⟨h.1.1, ?_⟩, fun k hk => Nat.lt_of_lt_of_le (h.2.1 k hk) h2, h.2.2⟩
 rcases h.1.2 with h3 | ⟨g, cap, cur, e, hg, rest⟩
 ·exact .inl h3
 ·exact .inr ⟨g, cap, cur, e, by omega, rest⟩
theorem RowO.set {g : Nat} {t : TypeId} {bs : Array Value} (h : RowO T sz w lo hi v n cs) (hb : Blk w g t bs) (ht : T ≠ t) (i : Nat) (u : Value) : RowO T sz (w.setCell ⟨g, i, none⟩ u) lo hi v n cs := by
 refine ⟨h.1.kept (row := some g) ⟨rfl, rfl, rfl, by simp [World.setCell], fun k _ hne => Below.heap_setCell _ _ _ _ (fun e => hne (by rw [e]))⟩ ?_, h.2⟩
 rcases h.1.2 with ⟨rfl, _⟩ | ⟨g', cap, cur, rfl, _, hh, _⟩
 ·exact .inl rfl
 ·right
  intro e
  have : g' = g := by simpa [Value.ownBlock] using e
  subst this
  unfold Blk at hb
  rw [hh] at hb
  injection hb with hb
  injection hb with _ hb
  exact ht hb
theorem RowO.grown {base : Nat} {u : Value} {l : List Int} (h : RowO T sz w lo hi v n cs) (hT : 3 ≠ T) (ho : OwnI w base u l) (hg : w.grownBy w' u.ownBlock) : RowO T sz w' lo hi v n cs := by
 refine ⟨h.1.kept hg ?_, h.2⟩
 rcases h.1.2 with ⟨rfl, _⟩ | ⟨g, cap, cur, rfl, _, hh, _⟩
 ·exact .inl rfl
 ·right
  exact fun e => ho.blkne (g := g) (t := T) (cs := cur) hh hT e
theorem RowO.stored {g c : Nat} (h : RowO T sz w lo hi (.slice (some ⟨g, 0, none⟩) n c) n cs) (j : Nat) (u : Value) : RowO T sz (w.setCell ⟨g, j, none⟩ u) lo hi (.slice (some ⟨g, 0, none⟩) n c) n (cs.set j u) ∧ Chg lo hi w (w.setCell ⟨g, j, none⟩ u) := by
 have hs := h.1.stored j u
 refine ⟨⟨hs.1, h.2⟩, ⟨hs.2.os, hs.2.tape, hs.2.output, hs.2.size, fun k hk hne => hs.2.block k hk (fun e => ?_)⟩⟩
 have h1 := h.2.1 k (by simp [Value.ownBlock]; injection e with e; exact e.symm)
 have h2 := (h.1.lt k (by simp [Value.ownBlock]; injection e with e; exact e.symm)).1
 omega
end
theorem RowO.nil (T : TypeId) {sz : Nat} (w : World) (lo hi : Nat) : RowO T sz w lo hi (.slice none 0 0) 0 [] := ⟨⟨by simp, .inl ⟨rfl, rfl⟩⟩, by simp [Value.ownBlock], by omega⟩
def mxCs : List Value → List Mx → List Value
 | v :: vs, m :: ms => .int .i64 m.r :: .int .i64 m.c :: v :: mxCs vs ms
 | _, _ => []
theorem mxCs_length : ∀ (vs : List Value) (ms : List Mx), vs.length = ms.length → (mxCs vs ms).length = ms.length * 3
 | [], [], _ => rfl
 | v :: vs, m :: ms, h => by simp only [mxCs, List.length_cons] at h ⊢; rw [mxCs_length vs ms (by omega)]; omega
 | [], m :: ms, h => by simp at h
 | v :: vs, [], h => by simp at h
theorem mxCs_get : ∀ {vs : List Value} {ms : List Mx} {j : Nat} {v : Value} {m : Mx}, vs[j]? = some v → ms[j]? = some m →
  (mxCs vs ms)[j * 3]? = some (.int .i64 m.r) ∧ (mxCs vs ms)[j * 3 + 1]? = some (.int .i64 m.c) ∧ (mxCs vs ms)[j * 3 + 2]? = some v
 | [], _, _, _, _, h, _ => by simp at h
 | _ :: _, [], _, _, _, _, h => by simp at h
 | v :: vs, m :: ms, 0, _, _, h1, h2 => by
  simp at h1 h2
  subst h1 h2
  simp [mxCs]
 | v :: vs, m :: ms, j + 1, _, _, h1, h2 => by
  simp only [List.getElem?_cons_succ] at h1 h2
  obtain ⟨a, b, c⟩ := mxCs_get h1 h2
  simp only [mxCs, show (j + 1) * 3 = j * 3 + 1 + 1 + 1 by omega, show j * 3 + 1 + 1 + 1 + 1 = (j * 3 + 1) + 1 + 1 + 1 by omega, show j * 3 + 1 + 1 + 1 + 2 = (j * 3 + 2) + 1 + 1 + 1 by omega, List.getElem?_cons_succ]
  exact ⟨a, b, c⟩
theorem mxCs_snoc : ∀ (vs : List Value) (ms : List Mx) (v : Value) (m : Mx), vs.length = ms.length → mxCs (vs ++ [v]) (ms ++ [m]) = mxCs vs ms ++ [.int .i64 m.r, .int .i64 m.c, v]
 | [], [], _, _, _ => rfl
 | v :: vs, m :: ms, u, x, h => by simp only [List.cons_append, mxCs]; rw [mxCs_snoc vs ms u x (by simpa using h)]
 | [], m :: ms, _, _, h => by simp at h
 | v :: vs, [], _, _, h => by simp at h
abbrev OutM (w : World) (lo hi : Nat) (v : Value) (vs : List Value) (ms : List Mx) : Prop := RowO 44 3 w lo hi v ms.length (mxCs vs ms)
def MatsO (w : World) (lo hi : Nat) (v : Value) (ms : List Mx) : Prop := ∃ vs, OutM w lo hi v vs ms ∧ vs.length = ms.length ∧ Fam w lo hi (vs.zip (ms.map Mx.a)) ∧ ∀ m ∈ ms, I64 m.r ∧ I64 m.c
theorem OutM.rd {w : World} {lo hi : Nat} {v : Value} {vs : List Value} {ms : List Mx} (h : OutM w lo hi v vs ms) (hl : vs.length = ms.length) (hr : ∀ p ∈ vs.zip (ms.map Mx.a), SlI w w.heap.size p.1 p.2) (hi : ∀ m ∈ ms, I64 m.r ∧ I64 m.c) : SlM w w.heap.size v ms := by
 obtain ⟨h1, h2, h3⟩ := h
 rcases h1.2 with ⟨rfl, h0⟩ | ⟨g, cap, cur, rfl, _, hg, hnc, hcm, hcs, htake⟩
 ·obtain rfl : ms = [] := List.eq_nil_of_length_eq_zero (by omega)
  exact SlG.nil
 ·refine ⟨_, _, rfl, hnc, by simp only [maxLen] at hcm; omega, h3, fun hp => ⟨g, 0, rfl, (Array.getElem?_eq_some_iff.1 hg).1, fun j x hj => ?_⟩⟩
  have hjl := lt_of_some hj
  have hv : vs[j]? = some (vs[j]'(by omega)) := List.getElem?_eq_getElem (by omega)
  obtain ⟨a, b, c⟩ := mxCs_get hv hj
  have e := fun i (hi : i < 3) => h1.cellAt (j * 3 + i) (by omega)
  refine ⟨vs[j]'(by omega), ?_, ?_, ?_, hr (vs[j]'(by omega), x.a) ?_, hi x (List.mem_of_getElem? hj)⟩
  ·rw [show 0 + j * 3 = j * 3 + 0 by omega, e 0 (by omega)]; exact a
  ·rw [show 0 + j * 3 + 1 = j * 3 + 1 by omega, e 1 (by omega)]; exact b
  ·rw [show 0 + j * 3 + 2 = j * 3 + 2 by omega, e 2 (by omega)]; exact c
  ·rw [List.mem_iff_getElem?]
   exact ⟨j, by rw [List.getElem?_zip_eq_some]; exact ⟨hv, by simp [hj]⟩⟩
theorem MatsO.rd {w : World} {lo hi : Nat} {v : Value} {ms : List Mx} (h : MatsO w lo hi v ms) : SlM w w.heap.size v ms := by
 obtain ⟨vs, h1, h2, h3, h4⟩ := h
 exact OutM.rd h1 h2 (fun p hp => (h3.1 p hp).rd) h4
theorem MatsO.chg {w w' : World} {lo hi lo' hi' : Nat} {v : Value} {ms : List Mx} (h : MatsO w lo hi v ms) (hc : Chg lo' hi' w w') (hd : hi ≤ lo' ∨ hi' ≤ lo) : MatsO w' lo hi v ms := by
 obtain ⟨vs, h1, h2, h3, h4⟩ := h
 exact ⟨vs, h1.chg hc hd, h2, h3.chg hc hd, h4⟩
theorem MatsO.below {w w' : World} {lo hi : Nat} {v : Value} {ms : List Mx} (h : MatsO w lo hi v ms) (hb : Below w.heap.size w w') : MatsO w' lo hi v ms := by
 obtain ⟨vs, h1, h2, h3, h4⟩ := h
 exact ⟨vs, h1.below hb, h2, h3.below hb, h4⟩
def MxO (w : World) (lo hi : Nat) (val : Value) (m : Mx) : Prop := ∃ s, val = .agg #[.int .i64 m.r, .int .i64 m.c, s] ∧ IntsO w lo hi s m.a ∧ I64 m.r ∧ I64 m.c
theorem MxO.rd {w : World} {lo hi : Nat} {v : Value} {m : Mx} (h : MxO w lo hi v m) : MxR w w.heap.size v m := by
 obtain ⟨s, e, h1, h2⟩ := h
 exact ⟨s, e, h1.rd, h2⟩
theorem MxO.form {w : World} {lo hi : Nat} {v : Value} {m : Mx} (h : MxO w lo hi v m) : ∃ A c, v = .agg #[.int .i64 m.r, .int .i64 m.c, .slice A m.a.length c] := h.rd.form
theorem MxO.chg {w w' : World} {lo hi lo' hi' : Nat} {v : Value} {m : Mx} (h : MxO w lo hi v m) (hc : Chg lo' hi' w w') (hd : hi ≤ lo' ∨ hi' ≤ lo) : MxO w' lo hi v m := by
 obtain ⟨s, e, h1, h2⟩ := h
 exact ⟨s, e, h1.chg hc hd, h2⟩
theorem MxO.below {w w' : World} {lo hi : Nat} {v : Value} {m : Mx} (h : MxO w lo hi v m) (hb : Below w.heap.size w w') : MxO w' lo hi v m := by
 obtain ⟨s, e, h1, h2⟩ := h
 exact ⟨s, e, h1.below hb, h2⟩
theorem MxO.wider {w : World} {lo hi lo' hi' : Nat} {v : Value} {m : Mx} (h : MxO w lo hi v m) (h1 : lo' ≤ lo) (h2 : hi ≤ hi') : MxO w lo' hi' v m := by
 obtain ⟨s, e, h3, h4⟩ := h
 exact ⟨s, e, h3.wider h1 h2, h4⟩
def MxO.mk (k : Int) (m : Mx) : Mx := ⟨m.r, m.c, mkI k m.a.length⟩
def Mx.size (m : Mx) : Nat := m.a.length
theorem infoMx : (Tryz.prog.info? 44).map (fun i => (i.zero, i.size, i.bytes)) = some (some (.agg #[.int .i64 0, .int .i64 0, .slice none 0 0]), 3, 40) := by kernel_rfl
def totA (ms : List Mx) : Nat := tot (ms.map Mx.a)
def szM (ms : List Mx) : Nat := ms.length + totA ms
def totM (ms : List Mx) : Nat := (ms.map fun m => 2 + m.a.length).sum
def mkMS : Int → List Mx → List Mx
 | _, [] => []
 | k, m :: r => ⟨k, k + 1, mkI (k + 1 + 1) m.a.length⟩ :: mkMS (k + 1 + 1 + m.a.length) r
def MatCs (cs : Array Value) (n : Nat) (vs : List Value) (ms : List Mx) : Prop := cs.size = n * 3 ∧ vs.length ≤ n ∧ ∀ (j : Nat) (v : Value) (m : Mx), vs[j]? = some v → ms[j]? = some m → cs[j * 3]? = some (.int .i64 m.r) ∧ cs[j * 3 + 1]? = some (.int .i64 m.c) ∧ cs[j * 3 + 2]? = some v
theorem MatCs.step {cs : Array Value} {n : Nat} {vs : List Value} {ms : List Mx} {v : Value} {m : Mx} (h : MatCs cs n vs ms) (hn : vs.length < n) (hm : ms[vs.length]? = some m) :
  MatCs (((cs.setIfInBounds (vs.length * 3) (.int .i64 m.r)).setIfInBounds (vs.length * 3 + 1) (.int .i64 m.c)).setIfInBounds (vs.length * 3 + 2) v) n (vs ++ [v]) ms := by
 obtain ⟨h1, h2, h3⟩ := h
 refine ⟨by simpa using h1, by simp; omega, fun j u x hu hx => ?_⟩
 by_cases e : j = vs.length
 ·subst e
  rw [List.getElem?_append_right (Nat.le_refl _)] at hu
  simp at hu
  subst hu
  rw [hm] at hx
  injection hx with hx
  subst hx
  refine ⟨?_, ?_, ?_⟩ <;> simp [Array.getElem?_setIfInBounds] <;> omega
 ·have hj : j < vs.length := by have := lt_of_some hu; simp at this; omega
  rw [List.getElem?_append_left hj] at hu
  obtain ⟨a, b, c⟩ := h3 j u x hu hx
  refine ⟨?_, ?_, ?_⟩ <;> simp only [Array.getElem?_setIfInBounds] <;> (repeat rw [if_neg (by omega)]) <;> assumption
theorem MatCs.own {w : World} {g lo : Nat} {cs : Array Value} {vs : List Value} {ms : List Mx} (h : MatCs cs ms.length vs ms) (hl : vs.length = ms.length) (hb : Blk w g 44 cs) (hlo : lo ≤ g) (hn : ms.length ≤ 17592186044416) : OutM w lo w.heap.size (.slice (some ⟨g, 0, none⟩) ms.length ms.length) vs ms := by
 have e : cs.toList.take (ms.length * 3) = mxCs vs ms := by
  apply List.ext_getElem?
  intro i
  by_cases hi : i < ms.length * 3
  ·obtain ⟨k, r, rfl, hr⟩ : ∃ k r, i = k * 3 + r ∧ r < 3 := ⟨i / 3, i % 3, by omega, by omega⟩
   have hj : k < ms.length := by omega
   obtain ⟨a, b, c⟩ := h.2.2 k _ _ (List.getElem?_eq_getElem (by omega : k < vs.length)) (List.getElem?_eq_getElem hj)
   obtain ⟨a', b', c'⟩ := mxCs_get (List.getElem?_eq_getElem (by omega : k < vs.length)) (List.getElem?_eq_getElem hj)
   rw [List.getElem?_take, if_pos hi, Array.getElem?_toList]
   rcases (show r = 0 ∨ r = 1 ∨ r = 2 by omega) with rfl | rfl | rfl
   ·rw [Nat.add_zero, a, a']
   ·rw [b, b']
   ·rw [c, c']
  ·rw [List.getElem?_take, if_neg hi, List.getElem?_eq_none (by rw [mxCs_length _ _ hl]; omega)]
 have := hb.own (base := lo) (n := ms.length) (cap := ms.length) (size := 3) hlo (Nat.le_refl _) (by simp only [maxLen]; omega) (by rw [h.1])
 rw [e] at this
 exact ⟨this, fun k hk => by simp [Value.ownBlock] at hk; subst hk; exact hb.lt, hn⟩
theorem Fam.getAt {w : World} {lo hi : Nat} {L0 : List (Value × List Int)} {vs : List Value} {ll : List (List Int)} {j : Nat} {v : Value} {l : List Int} (h : Fam w lo hi (L0 ++ vs.zip ll)) (hv : vs[j]? = some v) (hl : ll[j]? = some l) : IntsO w lo hi v l :=
 h.1 (v, l) (List.mem_append_right _ (by rw [List.mem_iff_getElem?]; exact ⟨j, by rw [List.getElem?_zip_eq_some]; exact ⟨hv, hl⟩⟩))
theorem chg_set {w : World} {lo hi : Nat} {p : Addr} {u : Value} (h1 : lo ≤ p.block) (h2 : p.block < hi) : Chg lo hi w (w.setCell p u) :=
 ⟨rfl, rfl, rfl, by simp [World.setCell], fun k hk hne => Below.heap_setCell _ _ _ _ (by intro e; omega)⟩
theorem Fam.one {w : World} {lo hi : Nat} {v : Value} {l : List Int} (h : IntsO w lo hi v l) : Fam w lo hi [(v, l)] := ⟨fun p hp => by rw [List.mem_singleton] at hp; subst hp; exact h, by simp⟩
structure Rp where
 p : Int
 q : Qv
 d : List Int
 m : List Mx
deriving DecidableEq
def Rp.size (x : Rp) : Nat := x.q.size + x.d.length + szM x.m
def RpR (w : World) (B : Nat) (val : Value) (x : Rp) : Prop := ∃ f t d m, val = .agg #[.int .i64 x.p, .int .i64 x.q.v, f, t, d, m] ∧ SlI w B f x.q.f ∧ SlI w B t x.q.t ∧ SlI w B d x.d ∧ SlM w B m x.m ∧ I64 x.p ∧ I64 x.q.v
theorem RpR.below {w w' : World} {B : Nat} {v : Value} {x : Rp} (hb : Below B w w') (h : RpR w B v x) : RpR w' B v x := by
 obtain ⟨f, t, d, m, e, h1, h2, h3, h4, h5⟩ := h
 exact ⟨f, t, d, m, e, SlI.below hb h1, SlI.below hb h2, SlI.below hb h3, SlM.below hb h4, h5⟩
theorem RpR.more {w : World} {B B' : Nat} {v : Value} {x : Rp} (hB : B ≤ B') (h : RpR w B v x) : RpR w B' v x := by
 obtain ⟨f, t, d, m, e, h1, h2, h3, h4, h5⟩ := h
 exact ⟨f, t, d, m, e, SlI.more hB h1, SlI.more hB h2, SlI.more hB h3, SlM.more hB h4, h5⟩
theorem RpR.next {w w' : World} {v : Value} {x : Rp} (hb : Below w.heap.size w w') (h : RpR w w.heap.size v x) : RpR w' w'.heap.size v x := RpR.more hb.size (RpR.below hb h)
theorem RpR.chg {w w' : World} {B lo hi : Nat} {v : Value} {x : Rp} (h : RpR w B v x) (hc : Chg lo hi w w') (hB : B ≤ lo) (hs : B ≤ w.heap.size) : RpR w' B v x := RpR.below (hc.below hB hs) h
theorem RpR.open_ {w : World} {B : Nat} {v : Value} {x : Rp} (h : RpR w B v x) : ∃ A a C c E e H h, v = .agg #[.int .i64 x.p, .int .i64 x.q.v, .slice A x.q.f.length a, .slice C x.q.t.length c, .slice E x.d.length e, .slice H x.m.length h] ∧
  QvR w B (.agg #[.int .i64 x.q.v, .slice A x.q.f.length a, .slice C x.q.t.length c]) x.q ∧ SlI w B (.slice E x.d.length e) x.d ∧ SlM w B (.slice H x.m.length h) x.m ∧ I64 x.p ∧ x.d.length ≤ 17592186044416 ∧ x.m.length ≤ 17592186044416 := by
 obtain ⟨f, t, d, m, rfl, h1, h2, h3, h4, h5, h6⟩ := h
 obtain ⟨A, a, rfl, _, _, _, h1⟩ := h1.open_
 obtain ⟨C, c, rfl, _, _, _, h2⟩ := h2.open_
 obtain ⟨E, e, rfl, _, _, l1, h3⟩ := h3.open_
 obtain ⟨H, h, rfl, _, _, l2, h4⟩ := h4.open_
 exact ⟨A, a, C, c, E, e, H, h, rfl, ⟨_, _, rfl, h1, h2, h6⟩, h3, h4, h5, l1, l2⟩
theorem RpR.form {w : World} {B : Nat} {v : Value} {x : Rp} (h : RpR w B v x) : ∃ A a C c E e H h, v = .agg #[.int .i64 x.p, .int .i64 x.q.v, .slice A x.q.f.length a, .slice C x.q.t.length c, .slice E x.d.length e, .slice H x.m.length h] := by
 obtain ⟨A, a, C, c, E, e, H, h, e, _⟩ := h.open_
 exact ⟨A, a, C, c, E, _, H, h, e⟩
theorem RpR.lens {w : World} {B : Nat} {v : Value} {x : Rp} (h : RpR w B v x) : x.q.f.length ≤ 17592186044416 ∧ x.q.t.length ≤ 17592186044416 ∧ x.d.length ≤ 17592186044416 ∧ x.m.length ≤ 17592186044416 := by
 obtain ⟨A, a, C, c, E, e, H, h, _, hq, _, _, _, l1, l2⟩ := h.open_
 obtain ⟨l3, l4⟩ := hq.lens
 exact ⟨l3, l4, l1, l2⟩
def RepO (w : World) (lo hi : Nat) (val : Value) (x : Rp) : Prop := ∃ f t d m vs, val = .agg #[.int .i64 x.p, .int .i64 x.q.v, f, t, d, m] ∧ OutM w lo hi m vs x.m ∧ vs.length = x.m.length ∧
 Fam w lo hi ([(f, x.q.f), (t, x.q.t), (d, x.d)] ++ vs.zip (x.m.map Mx.a)) ∧ (I64 x.p ∧ I64 x.q.v) ∧ ∀ m ∈ x.m, I64 m.r ∧ I64 m.c
theorem RepO.rd {w : World} {lo hi : Nat} {v : Value} {x : Rp} (h : RepO w lo hi v x) : RpR w w.heap.size v x := by
 obtain ⟨f, t, d, m, vs, e, h1, h2, h3, h4, h5⟩ := h
 exact ⟨f, t, d, m, e, (h3.1 (f, _) (by simp)).rd, (h3.1 (t, _) (by simp)).rd, (h3.1 (d, _) (by simp)).rd, OutM.rd h1 h2 (fun p hp => (h3.1 p (by simp [hp])).rd) h5, h4⟩
theorem RepO.form {w : World} {lo hi : Nat} {v : Value} {x : Rp} (h : RepO w lo hi v x) : ∃ A a C c E e H h, v = .agg #[.int .i64 x.p, .int .i64 x.q.v, .slice A x.q.f.length a, .slice C x.q.t.length c, .slice E x.d.length e, .slice H x.m.length h] := h.rd.form
theorem RepO.chg {w w' : World} {lo hi lo' hi' : Nat} {v : Value} {x : Rp} (h : RepO w lo hi v x) (hc : Chg lo' hi' w w') (hd : hi ≤ lo' ∨ hi' ≤ lo) : RepO w' lo hi v x := by
 obtain ⟨f, t, d, m, vs, e, h1, h2, h3, h4⟩ := h
 exact ⟨f, t, d, m, vs, e, h1.chg hc hd, h2, h3.chg hc hd, h4⟩
theorem RepO.below {w w' : World} {lo hi : Nat} {v : Value} {x : Rp} (h : RepO w lo hi v x) (hb : Below w.heap.size w w') : RepO w' lo hi v x := by
 obtain ⟨f, t, d, m, vs, e, h1, h2, h3, h4⟩ := h
 exact ⟨f, t, d, m, vs, e, h1.below hb, h2, h3.below hb, h4⟩
theorem RepO.wider {w : World} {lo hi lo' hi' : Nat} {v : Value} {x : Rp} (h : RepO w lo hi v x) (k1 : lo' ≤ lo) (k2 : hi ≤ hi') : RepO w lo' hi' v x := by
 obtain ⟨f, t, d, m, vs, e, h1, h2, h3, h4⟩ := h
 exact ⟨f, t, d, m, vs, e, h1.mono k1 k2, h2, h3.mono k1 k2, h4⟩
def RepO.mk (k : Int) (x : Rp) : Rp := ⟨x.p, QuivO.mk k x.q, mkI (k + x.q.size) x.d.length, mkMS (k + x.q.size + x.d.length) x.m⟩
def Rp.marks (x : Rp) : Nat := x.q.size + x.d.length + totM x.m
def rp0 : Rp := ⟨0, ⟨0, [], []⟩, [], []⟩
theorem RepO.zero (w : World) (lo hi : Nat) : RepO w lo hi (.agg #[.int .i64 0, .int .i64 0, .slice none 0 0, .slice none 0 0, .slice none 0 0, .slice none 0 0]) rp0 :=
 ⟨_, _, _, _, [], rfl, RowO.nil _ w lo hi, rfl, ⟨fun p hp => by
  simp only [rp0, List.zip_nil_left, List.append_nil, List.mem_cons, List.not_mem_nil, or_false] at hp
  rcases hp with rfl | rfl | rfl <;> exact ⟨OwnI.nil _ _, by simp [Value.ownBlock]⟩, by simp [Value.ownBlock]⟩, by simp [rp0, I64], fun m hm => by simp [rp0] at hm⟩
theorem chg3 (w : World) (g : Nat) (u0 u1 u2 : Value) : Chg g (g + 1) w (((w.setCell ⟨g, 0, none⟩ u0).setCell ⟨g, 1, none⟩ u1).setCell ⟨g, 2, none⟩ u2) := by
 have s : ∀ (w : World) (i : Nat) (u : Value), Chg g (g + 1) w (w.setCell ⟨g, i, none⟩ u) := fun w i u => chg_set (Nat.le_refl _) (Nat.lt_succ_self _)
 exact ((s _ _ _).trans (s _ _ _)).trans (s _ _ _)
theorem chg6 (w : World) (g : Nat) (u0 u1 u2 u3 u4 u5 : Value) : Chg g (g + 1) w ((((((w.setCell ⟨g, 0, none⟩ u0).setCell ⟨g, 1, none⟩ u1).setCell ⟨g, 2, none⟩ u2).setCell ⟨g, 3, none⟩ u3).setCell ⟨g, 4, none⟩ u4).setCell ⟨g, 5, none⟩ u5) := by
 have s : ∀ (w : World) (i : Nat) (u : Value), Chg g (g + 1) w (w.setCell ⟨g, i, none⟩ u) := fun w i u => chg_set (Nat.le_refl _) (Nat.lt_succ_self _)
 exact (((((s _ _ _).trans (s _ _ _)).trans (s _ _ _)).trans (s _ _ _)).trans (s _ _ _)).trans (s _ _ _)
def RY (w : World) (_B b o : Nat) (x : Int) : Prop := w.cell? ⟨b, o, none⟩ = some (.int .u8 x) ∧ 0 ≤ x ∧ x ≤ 255
abbrev SlY := SlG 1 RY
theorem SlY.below {w w' : World} {B : Nat} {v : Value} {l : List Int} (hb : Below B w w') (h : SlY w B v l) : SlY w' B v l :=
 SlG.mono (fun _ _ _ hlt ⟨hc, hx⟩ => ⟨bcell hb hlt hc, hx⟩) (Nat.le_refl _) h
theorem SlY.more {w : World} {B B' : Nat} {v : Value} {l : List Int} (hB : B ≤ B') (h : SlY w B v l) : SlY w B' v l :=
 SlG.mono (B := B) (B' := B') (fun _ _ _ _ h => h) hB h
theorem SlY.next {w w' : World} {v : Value} {l : List Int} (hb : Below w.heap.size w w') (h : SlY w w.heap.size v l) : SlY w' w'.heap.size v l := SlY.more hb.size (SlY.below hb h)
theorem SlY.at_ {w : World} {B c : Nat} {A : Option Addr} {xs : List Int} {k : Nat} (h : SlY w B (.slice A xs.length c) xs) (hk : k < xs.length) :
  ∃ b o x, A = some ⟨b, o, none⟩ ∧ b < B ∧ w.cell? ⟨b, o + k, none⟩ = some (.int .u8 x) ∧ 0 ≤ x ∧ x ≤ 255 := by
 obtain ⟨A', c', e, h1, h2, h3, h4⟩ := h
 injection e with e1 e2 e3; subst e1
 obtain ⟨b, o, rfl, hb, hc⟩ := h4 (by omega)
 obtain ⟨h0, hr⟩ := hc k xs[k] (List.getElem?_eq_getElem hk)
 exact ⟨b, o, xs[k], rfl, hb, by simpa using h0, hr.1, hr.2⟩
def Cur (w : World) (g : Nat) : Prop := ∃ (A : Option Addr) (c : Nat) (i h : Int) (l : List Int), Blk w g 81 #[.slice A l.length c, .int .i64 i, .int .i64 h] ∧ I64 h ∧ (0 ≤ i ∧ i ≤ 9223372036854775807) ∧ SlY w g (.slice A l.length c) l
structure Ck (c : Nat) (w w' : World) : Prop where
 os : w'.os = w.os
 tape : w'.tape = w.tape
 output : w'.output = w.output
 size : w.heap.size ≤ w'.heap.size
 block : ∀ k, k < w.heap.size → k ≠ c → w'.heap[k]? = w.heap[k]?
 keep : Cur w c → Cur w' c
section
variable {c : Nat} {w w' w'' : World}
theorem Ck.refl (c : Nat) (w : World) : Ck c w w := ⟨rfl, rfl, rfl, Nat.le_refl _, fun _ _ _ => rfl, id⟩
theorem Ck.trans (h : Ck c w w') (k : Ck c w' w'') : Ck c w w'' :=
 ⟨k.os.trans h.os, k.tape.trans h.tape, k.output.trans h.output, Nat.le_trans h.size k.size, fun i hi hne => (k.block i (Nat.lt_of_lt_of_le hi h.size) hne).trans (h.block i hi hne), fun h0 => k.keep (h.keep h0)⟩
theorem Ck.of_below (h : Below w.heap.size w w') : Ck c w w' :=
 ⟨h.os, h.tape, h.output, h.size, fun k hk _ => h.block k hk, fun ⟨A, cc, i, hh, l, hB, h1, h2, h3⟩ => ⟨A, cc, i, hh, l, hB.call h, h1, h2, SlY.below (h.mono (Nat.le_of_lt hB.lt)) h3⟩⟩
theorem Ck.drew (h : Ck c w.drew w') : Ck c w w' := ⟨h.os, h.tape, h.output, h.size, h.block, h.keep⟩
theorem Ck.below {B : Nat} (h : Ck c w w') (hB : B ≤ c) (hs : B ≤ w.heap.size) : Below B w w' := ⟨h.os, h.tape, h.output, h.size, fun k hk => h.block k (by omega) (by omega)⟩
theorem Ck.chg (h : Ck c w w') : Chg c (c + 1) w w' := ⟨h.os, h.tape, h.output, h.size, fun k hk hn => h.block k hk (by omega)⟩
theorem Ck.cell {b o : Nat} {v : Value} (h : Ck c w w') (hb : b < w.heap.size) (hn : b ≠ c) (hc : w.cell? ⟨b, o, none⟩ = some v) : w'.cell? ⟨b, o, none⟩ = some v :=
 (World.cell?_of_block (w := w) (h.block b hb hn)).trans hc
theorem Blk.ck {g : Nat} {t : TypeId} {cs : Array Value} (h : Blk w g t cs) (k : Ck c w w') (hn : g ≠ c) : Blk w' g t cs := (k.block g h.lt hn).trans h
theorem Ck.of_set {A : Option Addr} {cc : Nat} {i h i' h' : Int} {l : List Int} (hB : Blk w c 81 #[.slice A l.length cc, .int .i64 i, .int .i64 h]) (hy : SlY w c (.slice A l.length cc) l)
  (hc : Chg c (c + 1) w w') (hB' : Blk w' c 81 #[.slice A l.length cc, .int .i64 i', .int .i64 h']) (h1 : I64 h') (h2 : 0 ≤ i' ∧ i' ≤ 9223372036854775807) : Ck c w w' :=
 ⟨hc.os, hc.tape, hc.output, hc.size, fun k hk hn => hc.block k hk (by omega), fun _ => ⟨A, cc, i', h', l, hB', h1, h2, SlY.below (hc.below (Nat.le_refl _) (Nat.le_of_lt hB.lt)) hy⟩⟩
end
theorem and255 (a : Int) : 0 ≤ bits .and .i64 a 255 ∧ bits .and .i64 a 255 ≤ 255 := by
 have h2 : (BitVec.ofInt 64 (255 : Int)).toNat = 255 := by decide
 have h3 : (BitVec.ofInt 64 a &&& BitVec.ofInt 64 255).toNat ≤ 255 := by rw [BitVec.toNat_and, h2]; exact Nat.and_le_right
 have e : bits .and .i64 a 255 = IntKind.i64.wrap ((BitVec.ofInt 64 a &&& BitVec.ofInt 64 255).toNat : Int) := rfl
 rw [e, IntKind.wrap_i64]
 omega
set_option maxHeartbeats 1600000 in
theorem l1Byte_any (c : Nat) (w0 : World) (hc : Cur w0 c) :
  Calls Tryz.prog 74 #[.pointer (some ⟨c, 0, none⟩)] w0 fun e w' => ∃ n : Nat, n ≤ 255 ∧ e = .returned (.int .i64 n) ∧ Ck c w0 w' := by
 obtain ⟨A, cc, i, h, l, hB, hh, hi, hy⟩ := hc
 obtain ⟨k, rfl⟩ := Int.eq_ofNat_of_zero_le hi.1
 have c0 := hB.cell' (i := 0) rfl
 have c1 := hB.cell' (i := 1) rfl
 have c2 := hB.cell' (i := 2) rfl
 have fr := hB.frozen
 have HB := Lib.hid hB
 have HY := Lib.hid hy
 clear hB hy
 go_enter Tryz.func74, Tryz.ntmps74
 go_wp2
 obtain ⟨h1, hh1⟩ : ∃ z, wrap64 (wrap64 (h * 6364136223846793005) + 1442695040888963407) = z := ⟨_, rfl⟩
 have h1r : I64 h1 := by rw [← hh1]; unfold I64 wrap64; omega
 rw [hh1]
 obtain ⟨W1, hW1⟩ : ∃ z, w0.setCell ⟨c, 2, none⟩ (.int .i64 h1) = z := ⟨_, rfl⟩
 rw [hW1]
 have hB1 : Blk W1 c 81 #[.slice A l.length cc, .int .i64 k, .int .i64 h1] := by rw [← hW1]; exact HB.out.set_ 2 _
 have hc1 : Chg c (c + 1) w0 W1 := by rw [← hW1]; exact chg_set (Nat.le_refl _) (Nat.lt_succ_self _)
 clear hW1 hh1 c0 c1 c2 fr
 have c2 := hB1.cell' (i := 2) rfl
 have HB1 := Lib.hid hB1
 have HC1 := Lib.hid hc1
 clear hB1 hc1
 go_quiet (fail)
 obtain ⟨x1, hx1⟩ : ∃ z, bits .and .i64 (bits .xor .i64 (h1 / 8589934592) (h1 / 35184372088832)) 255 = z := ⟨_, rfl⟩
 have hx1r := and255 (bits .xor .i64 (h1 / 8589934592) (h1 / 35184372088832))
 rw [hx1] at hx1r ⊢
 clear hx1 c2
 obtain ⟨W2, hW2⟩ : ∃ z, W1.drewN nq = z := ⟨_, rfl⟩
 rw [hW2]
 have HB2 := Lib.hid (show Blk W2 c _ _ from by rw [← hW2]; exact HB1.out.drewN nq)
 have HC2 := Lib.hid (show Chg c (c + 1) w0 W2 from by rw [← hW2]; exact HC1.out.trans (Chg.of_below (drewN_below _ _ nq)))
 clear hW2 HB1 HC1
 have c0 := HB2.out.cell' (i := 0) rfl
 have c1 := HB2.out.cell' (i := 1) rfl
 by_cases hlt : k < l.length
 ·obtain ⟨b, o, y, rfl, hb, y1, hy0, hy1⟩ := SlY.at_ HY.out hlt
  go_wp2
  go_quiet (fail)
  obtain ⟨W3, hW3⟩ : ∃ z, W2.drewN nq = z := ⟨_, rfl⟩
  rw [hW3]
  have HB3 := Lib.hid (show Blk W3 c _ _ from by rw [← hW3]; exact HB2.out.drewN nq)
  have HC3 := Lib.hid (show Chg c (c + 1) w0 W3 from by rw [← hW3]; exact HC2.out.trans (Chg.of_below (drewN_below _ _ nq)))
  have y3 : W3.cell? ⟨b, o + k, none⟩ = some (.int .u8 y) := by rw [← hW3]; exact bcell (B := c) (HC2.out.trans (Chg.of_below (drewN_below _ _ nq)) |>.below (Nat.le_refl _) (Nat.le_of_lt HB.out.lt) |> fun h => by rw [hW3] at h ⊢; exact h) hb y1
  clear hW3 HB2 HC2 c0 c1
  have c0 := HB3.out.cell' (i := 0) rfl
  have c1 := HB3.out.cell' (i := 1) rfl
  go_wp2
  go_quiet (fail)
  obtain ⟨x2, hx2⟩ : ∃ z, bits .and .i64 (x1 + y) 255 = z := ⟨_, rfl⟩
  have hx2r := and255 (x1 + y)
  rw [hx2] at hx2r ⊢
  obtain ⟨W4, hW4⟩ : ∃ z, W3.drewN nq = z := ⟨_, rfl⟩
  rw [hW4]
  have HB4 := Lib.hid (show Blk W4 c _ _ from by rw [← hW4]; exact HB3.out.drewN nq)
  have HC4 := Lib.hid (show Chg c (c + 1) w0 W4 from by rw [← hW4]; exact HC3.out.trans (Chg.of_below (drewN_below _ _ nq)))
  clear hW4 HB3 HC3 c0 c1 hx2 y3 y1
  have c1 := HB4.out.cell' (i := 1) rfl
  have fr := HB4.out.frozen
  have HL := Lib.hid (show (k : Int) + 1 ≤ 9223372036854775807 by obtain ⟨_, _, _, _, _, h3, _⟩ := HY.out; omega)
  have hkl := HL.out
  go_wp2
  go_ret
  obtain ⟨n, rfl⟩ := Int.eq_ofNat_of_zero_le hx2r.1
  refine ⟨n, by omega, rfl, ?_⟩
  have hb5 : Blk (W4.setCell ⟨c, 1, none⟩ (.int .i64 ((k : Int) + 1))) c 81 #[.slice (some ⟨b, o, none⟩) l.length cc, .int .i64 ((k : Int) + 1), .int .i64 h1] := HB4.out.set_ 1 _
  exact Ck.of_set HB.out HY.out (HC4.out.trans (chg_set (Nat.le_refl _) (Nat.lt_succ_self _))) hb5 h1r ⟨by omega, hkl⟩
 ·go_wp2
  go_quiet (fail)
  go_wp2
  go_ret
  obtain ⟨n, rfl⟩ := Int.eq_ofNat_of_zero_le hx1r.1
  refine ⟨n, by omega, rfl, ?_⟩
  exact Ck.of_set HB.out HY.out (HC2.out.trans (Chg.of_below (drewN_below _ _ nq))) (HB2.out.drewN nq) h1r ⟨by omega, hi.2⟩
set_option maxHeartbeats 1600000 in
theorem l1Below_any (c : Nat) (n : Int) (w0 : World) (hc : Cur w0 c) (hn : I64 n) :
  Calls Tryz.prog 48 #[.pointer (some ⟨c, 0, none⟩), .int .i64 n] w0 fun e w' => ∃ r : Nat, ((r : Int) < n ∨ r = 0) ∧ r ≤ 9223372036854775807 ∧ e = .returned (.int .i64 r) ∧ Ck c w0 w' := by
 obtain ⟨n1, n2⟩ := hn
 by_cases h0 : n ≤ 0
 ·go_enter Tryz.func48, Tryz.ntmps48
  go_wp2
  go_ret
  exact ⟨0, .inr rfl, by omega, rfl, Ck.refl _ _⟩
 ·by_cases h1 : n ≤ 256
  ·go_enter Tryz.func48, Tryz.ntmps48
   go_wp2_with fail
   refine (l1Byte_any c _ hc).mono ?_; rintro e w1 ⟨r, hr, rfl, hb1⟩
   go_wp2
   go_ret
   obtain ⟨m, rfl⟩ := Int.eq_ofNat_of_zero_le (show 0 ≤ n by omega)
   have hlt : r % m < m := Nat.mod_lt _ (by omega)
   exact ⟨r % m, .inl (by omega), by omega, rfl, hb1⟩
  ·go_enter Tryz.func48, Tryz.ntmps48
   go_wp2_with fail
   refine (l1Byte_any c _ hc).mono ?_; rintro e w1 ⟨r1, hr1, rfl, hb1⟩
   go_wp2_with fail
   refine (l1Byte_any c _ (hb1.keep hc)).mono ?_; rintro e w2 ⟨r2, hr2, rfl, hb2⟩
   have hb12 := hb1.trans hb2
   go_wp2_with fail
   refine (l1Byte_any c _ (hb12.keep hc)).mono ?_; rintro e w3 ⟨r3, hr3, rfl, hb3⟩
   have hb13 := hb12.trans hb3
   go_wp2_with fail
   refine (l1Byte_any c _ (hb13.keep hc)).mono ?_; rintro e w4 ⟨r4, hr4, rfl, hb4⟩
   have hb14 := hb13.trans hb4
   go_wp2
   go_ret
   obtain ⟨m, rfl⟩ := Int.eq_ofNat_of_zero_le (show 0 ≤ n by omega)
   have hlt : (r1 * 16777216 + r2 * 65536 + r3 * 256 + r4) % m < m := Nat.mod_lt _ (by omega)
   exact ⟨(r1 * 16777216 + r2 * 65536 + r3 * 256 + r4) % m, .inl (by omega), by omega, rfl, hb14⟩
theorem l1Once_any (c : Nat) (n : Int) (w0 : World) (hc : Cur w0 c) (hn : I64 n) :
  Calls Tryz.prog 72 #[.pointer (some ⟨c, 0, none⟩), .int .i64 n] w0 fun e w' => ∃ b : Bool, e = .returned (.bool b) ∧ Ck c w0 w' := by
 go_enter Tryz.func72, Tryz.ntmps72
 go_wp2_with fail
 refine (l1Below_any c n _ hc hn).mono ?_; rintro e w1 ⟨r, _, _, rfl, hb1⟩
 go_wp2
 go_ret
 exact ⟨_, rfl, hb1⟩
theorem l1PickInt_any (P : Value → Prop) (c g n cap : Nat) (cs : Array Value) (w0 : World) (hc : Cur w0 c) (hB : Blk w0 g 3 cs) (hg : g ≠ c) (hn : 0 < n) (hn2 : n ≤ 1000) (hcs : ∀ i, i < n → ∃ v, cs[i]? = some v ∧ P v) (hP : ∀ v, P v → ∃ x : Int, v = .int .i64 x) :
  Calls Tryz.prog 73 #[.pointer (some ⟨c, 0, none⟩), .slice (some ⟨g, 0, none⟩) n cap] w0 fun e w' => ∃ v, P v ∧ e = .returned v ∧ Ck c w0 w' := by
 go_enter Tryz.func73, Tryz.ntmps73
 go_wp2_with fail
 refine (l1Below_any c n _ hc ⟨by omega, by omega⟩).mono ?_; rintro e w1 ⟨r, hr, _, rfl, hb1⟩
 have hrn : r < n := by omega
 obtain ⟨v, hv, hPv⟩ := hcs r hrn
 have hx := (hB.ck hb1 hg).cell' hv
 obtain ⟨x, hxv⟩ := hP v hPv
 subst hxv
 clear hcs hB hr hv
 go_wp2
 go_ret
 exact ⟨_, hPv, rfl, hb1⟩
theorem l1Pick_any (P : Value → Prop) (c g n cap : Nat) (cs : Array Value) (w0 : World) (hc : Cur w0 c) (hB : Blk w0 g 9 cs) (hg : g ≠ c) (hn : 0 < n) (hn2 : n ≤ 1000) (hcs : ∀ i, i < n → ∃ v, cs[i]? = some v ∧ P v) (hP : ∀ v, P v → ∃ x : ByteArray, v = .string x) :
  Calls Tryz.prog 110 #[.pointer (some ⟨c, 0, none⟩), .slice (some ⟨g, 0, none⟩) n cap] w0 fun e w' => ∃ v, P v ∧ e = .returned v ∧ Ck c w0 w' := by
 go_enter Tryz.func110, Tryz.ntmps110
 go_wp2_with fail
 refine (l1Below_any c n _ hc ⟨by omega, by omega⟩).mono ?_; rintro e w1 ⟨r, hr, _, rfl, hb1⟩
 have hrn : r < n := by omega
 obtain ⟨v, hv, hPv⟩ := hcs r hrn
 have hx := (hB.ck hb1 hg).cell' hv
 obtain ⟨x, hxv⟩ := hP v hPv
 subst hxv
 clear hcs hB hr hv
 go_wp2
 go_ret
 exact ⟨_, hPv, rfl, hb1⟩
set_option maxHeartbeats 1600000 in
set_option maxRecDepth 100000 in
theorem l1New_any (u : Value) (l : List Int) (w0 : World) (hu : SlY w0 w0.heap.size u l) :
  Calls Tryz.prog 46 #[u] w0 fun e w' => ∃ g, e = .returned (.pointer (some ⟨g, 0, none⟩)) ∧ w0.heap.size ≤ g ∧ Cur w' g ∧ Below w0.heap.size w0 w' := by
 obtain ⟨A, c, rfl, _, _, hl, hy⟩ := hu.open_
 clear hu
 have HY := Lib.hid hy
 clear hy
 go_enter Tryz.func46, Tryz.ntmps46
 go_wp2
 go_loopw [3, 4] (fun h i wr => ∃ (k : Nat) (hh : Int), k ≤ l.length ∧ I64 hh ∧ i = .int .i64 k ∧ h = .int .i64 hh ∧ Below w0.heap.size w0 wr) (fun _ i _ => l.length - (intOf i).toNat)
 case atStart => exact ⟨0, 10101 + l.length, Nat.zero_le _, ⟨by omega, by omega⟩, rfl, rfl, Below.refl _ _⟩
 case round =>
  obtain ⟨k, hh, hk, hhr, rfl, rfl, hb⟩ := hrel
  by_cases hlt : k < l.length
  ·obtain ⟨b, o, y, rfl, hbl, y1, hy0, hy1⟩ := SlY.at_ HY.out hlt
   have y2 := bcell hb hbl y1
   by_cases h4 : k < 4000
   ·go_wp2_with fail
    refine ⟨⟨k + 1, _, by omega, ?_, by go_num, rfl, hb⟩, by simp [intOf]; omega⟩
    exact bits_within .and .i64 _ _
   ·go_wp2
    go_ret
    refine ⟨wr.heap.size, rfl, hb.size, ⟨some ⟨b, o, none⟩, c, 0, hh, l, Blk.new _ _ _, hhr, ⟨by omega, by omega⟩, ?_⟩, hb.alloc hb.size _⟩
    exact SlY.more hb.size (SlY.below (hb.alloc hb.size _) HY.out)
  ·go_wp2
   go_ret
   refine ⟨wr.heap.size, rfl, hb.size, ⟨A, c, 0, hh, l, Blk.new _ _ _, hhr, ⟨by omega, by omega⟩, ?_⟩, hb.alloc hb.size _⟩
   exact SlY.more hb.size (SlY.below (hb.alloc hb.size _) HY.out)
theorem OwnI.put {w : World} {base g n cap j : Nat} {l : List Int} {x : Int} (h : OwnI w base (.slice (some ⟨g, 0, none⟩) n cap) l) (hx : I64 x) : OwnI (w.setCell ⟨g, j, none⟩ (.int .i64 x)) base (.slice (some ⟨g, 0, none⟩) n cap) (l.set j x) ∧ w.grownBy (w.setCell ⟨g, j, none⟩ (.int .i64 x)) (some g) := by
 obtain ⟨h1, h2, h3⟩ := h
 have hn : n = l.length := by
  rcases h1.2 with ⟨e, _⟩ | ⟨g', cap', cur, e, _⟩
  ·cases e
  ·injection e with _ e _
 subst hn
 have hst := h1.stored j (.int .i64 x)
 refine ⟨⟨?_, by simpa using h2, fun y hy => ?_⟩, hst.2⟩
 ·rw [List.map_set, List.length_set]
  exact hst.1
 ·rcases List.mem_or_eq_of_mem_set hy with hy | rfl
  ·exact h3 y hy
  ·exact hx
theorem OwnI.cellG {w : World} {base g n cap j : Nat} {l : List Int} (h : OwnI w base (.slice (some ⟨g, 0, none⟩) n cap) l) (hj : j < l.length) : w.cell? ⟨g, j, none⟩ = some (.int .i64 (l.getD j 0)) ∧ I64 (l.getD j 0) := by
 obtain ⟨h1, h2, h3⟩ := h
 have hn : n = l.length := by
  rcases h1.2 with ⟨e, _⟩ | ⟨g', cap', cur, e, _⟩
  ·cases e
  ·injection e with _ e _
 subst hn
 have hc := h1.cellAt j (by omega)
 have e : l.getD j 0 = l[j] := by rw [List.getD_eq_getElem?_getD, List.getElem?_eq_getElem hj]; rfl
 rw [e]
 exact ⟨by rw [hc]; simp [hj], h3 _ (List.getElem_mem hj)⟩
theorem OwnI.frozenG {w : World} {base g n cap : Nat} {l : List Int} (h : OwnI w base (.slice (some ⟨g, 0, none⟩) n cap) l) (j : Nat) : w.frozen? ⟨g, j, none⟩ = false := by
 obtain ⟨h1, h2, h3⟩ := h
 have hn : n = l.length := by
  rcases h1.2 with ⟨e, _⟩ | ⟨g', cap', cur, e, _⟩
  ·cases e
  ·injection e with _ e _
 subst hn
 exact h1.frozenAt j
theorem OwnI.made0 {w : World} {base N : Nat} (hb : base ≤ w.heap.size) (hN : N ≤ 17592186044416) : OwnI (w.alloc (.cells (mkCells (.int .i64 0) N) 3)) base (.slice (some ⟨w.heap.size, 0, none⟩) N N) (List.replicate N 0) := by
 have e : (mkCells (.int .i64 0) N).toList.take (N * 1) = (List.replicate N (0 : Int)).map (Value.int .i64) := by
  have : (mkCells (.int .i64 0) N).toList = List.replicate N (.int .i64 0) := toList_madeCells_one _ _
  rw [this, Nat.mul_one, List.take_of_length_le (by simp), List.map_replicate]
 have h := (Blk.new w 3 (mkCells (.int .i64 0) N)).own (base := base) (n := N) (cap := N) (size := 1) hb (Nat.le_refl _) (by simp only [maxLen]; omega) (by rw [mkCells_size]; omega)
 rw [e] at h
 refine ⟨by simpa using h, by simpa using hN, fun x hx => ?_⟩
 obtain ⟨_, rfl⟩ := List.mem_replicate.1 hx
 exact ⟨by decide, by decide⟩
theorem below_grown {B : Nat} {w w' : World} {row : Option Nat} (hg : w.grownBy w' row) (hB : ∀ k, row = some k → B ≤ k) (hs : B ≤ w.heap.size) : Below B w w' :=
 ⟨hg.os, hg.tape, hg.output, hg.size, fun k hk => hg.block k (by omega) (fun e => by have := hB k e.symm; omega)⟩
theorem wpList_appS {w : World} {ops : Array Oper} {rest : List Oper} {o : Oper} {a : Act} {Q : Exit → Act → World → Prop} (hgd : o.guard = none) (s x : Operand)
  (ho : o.op = .call { callee := .builtin .append, args := #[s, x], argTypes := #[60, 60] })
  (base : Nat) (v : Value) (vs : List Value) (hs : a.eval s = v) (hown : w.ownsRow base 26 1 v vs.length vs) (A : Option Addr) (c : Nat) (u : Value) (hx : a.eval x = .slice A 1 c) (hA : ∃ b o, A = some ⟨b, o, none⟩ ∧ w.cell? ⟨b, o, none⟩ = some u) (h1 : u.oneCell' = true)
  (hn : vs.length + 1 ≤ 1048576) (hbase : base ≤ w.heap.size)
  (h : ∀ v' w', w'.ownsRow base 26 1 v' (vs ++ [u]).length (vs ++ [u]) → w.grownBy w' v.ownBlock → (v'.ownBlock = v.ownBlock ∨ v'.ownBlock = some w.heap.size) → wpList Tryz.prog ops Q rest (a.put o.dst v') w') : wpList Tryz.prog ops Q (o :: rest) a w := by
 obtain ⟨i0, hi, hz0, hz1, hz2⟩ := info_parts infoInts
 obtain ⟨b, off, rfl, hc⟩ := hA
 refine wpList_append_G w hgd s x _ ho base 26 i0 _ 1 24 Tryz.underlying60 hi hz0 hz1 hz2 rfl (by decide) v vs.length _ hs hown (some ⟨b, off, none⟩) 1 c [u] hx ⟨by simp, .inr ⟨b, off, rfl, fun j u' hu => ?_⟩⟩ (by simpa using h1) (by simp only [maxLen]; omega) (by omega) hbase fun v' w' h2 h3 h4 => ?_
 ·match j, hu with
  | 0, hu =>
   simp at hu
   subst hu
   exact hc
 ·exact h v' w' (by simpa using h2) h3 h4
theorem Fam.grownO {w w' : World} {lo hi base n : Nat} {L : List (Value × List Int)} {v : Value} {vs : List Value} (hF : Fam w lo hi L) (ho : w.ownsRow base 26 1 v n vs) (hg : w.grownBy w' v.ownBlock) : Fam w' lo hi L := by
 refine ⟨fun p hp => ⟨(hF.1 p hp).1.kept hg ?_, (hF.1 p hp).2⟩, hF.2⟩
 rcases ho.2 with ⟨rfl, _⟩ | ⟨g, cap, cur, rfl, _, hh, _⟩
 ·rcases hA : p.1.ownBlock with _ | x
  ·exact .inl rfl
  ·right
   simp [Value.ownBlock]
 ·right
  exact fun e => (hF.1 p hp).1.blkne (g := g) (t := 26) (cs := cur) hh (by decide) (by rw [e]; rfl)
theorem OutO.blkne {w : World} {lo hi g : Nat} {v : Value} {vs : List Value} {t : TypeId} {cs : Array Value} (h : OutO w lo hi v vs) (hb : Blk w g t cs) (ht : 26 ≠ t) : some g ≠ v.ownBlock := by
 rcases h.1.2 with ⟨rfl, _⟩ | ⟨g', cap, cur, rfl, _, hh, _⟩
 ·simp [Value.ownBlock]
 ·intro he
  have : g = g' := by simpa [Value.ownBlock] using he
  subst this
  unfold Blk at hb
  rw [hh] at hb
  injection hb with hb
  injection hb with _ hb
  exact ht hb
theorem infoStrZ : (Tryz.prog.info? 9).map (fun i => (i.zero, i.size, i.bytes)) = some (some (.string ⟨#[]⟩), 1, 16) := by kernel_rfl
def OwnZ (w : World) (base : Nat) (v : Value) (L : List ByteArray) : Prop := w.ownsRow base 9 1 v L.length (L.map Value.string) ∧ L.length ≤ 1000
theorem OwnZ.made {w : World} {base : Nat} (hb : base ≤ w.heap.size) : OwnZ (w.alloc (.cells #[] 9)) base (.slice (some ⟨w.heap.size, 0, none⟩) 0 0) [] :=
 ⟨World.ownsRow_made w #[] 0 hb (Nat.zero_le _) (by simp), by simp⟩
theorem OwnZ.alloc {w : World} {base : Nat} {v : Value} {L : List ByteArray} (h : OwnZ w base v L) (o : Obj) : OwnZ (w.alloc o) base v L := ⟨h.1.alloc o, h.2⟩
theorem OwnZ.form {w : World} {base : Nat} {v : Value} {L : List ByteArray} (h : OwnZ w base v L) : ∃ A c, v = .slice A L.length c ∧ (0 < L.length → ∃ g, A = some ⟨g, 0, none⟩ ∧ base ≤ g ∧ g < w.heap.size ∧ ∀ j s, L[j]? = some s → w.cell? ⟨g, j, none⟩ = some (.string s)) := by
 rcases h.1.2 with ⟨rfl, h0⟩ | ⟨g, cap, cur, rfl, hg, hh, hnc, hcm, hsz, htk⟩
 ·exact ⟨none, 0, by rw [h0], fun hp => by omega⟩
 ·have hB : Blk w g 9 cur := hh
  refine ⟨_, _, rfl, fun hp => ⟨g, rfl, hg, hB.lt, fun j s hj => ?_⟩⟩
  have hjl := lt_of_some hj
  have h1 : (L.map Value.string)[j]? = some (.string s) := by rw [List.getElem?_map, hj]; rfl
  have h2 : (cur.toList.take (L.length * 1))[j]? = some (.string s) := by first | rw [htk]; exact h1 | rw [← htk]; exact h1
  rw [List.getElem?_take, if_pos (by omega)] at h2
  rw [hB.cell]
  simpa using h2
theorem wpList_appZ {w : World} {ops : Array Oper} {rest : List Oper} {o : Oper} {a : Act} {Q : Exit → Act → World → Prop} (hgd : o.guard = none) (s x : Operand)
  (ho : o.op = .call { callee := .builtin .append, args := #[s, x], argTypes := #[113, 113] })
  (base : Nat) (v : Value) (L : List ByteArray) (hs : a.eval s = v) (hown : OwnZ w base v L) (g c : Nat) (u : ByteArray) (hx : a.eval x = .slice (some ⟨g, 0, none⟩) 1 c) (hA : w.cell? ⟨g, 0, none⟩ = some (.string u))
  (hn : L.length + 1 ≤ 1000) (hbase : base ≤ w.heap.size)
  (h : ∀ v' w', OwnZ w' base v' (L ++ [u]) → w.grownBy w' v.ownBlock → wpList Tryz.prog ops Q rest (a.put o.dst v') w') : wpList Tryz.prog ops Q (o :: rest) a w := by
 obtain ⟨i0, hi, hz0, hz1, hz2⟩ := info_parts infoStrZ
 refine wpList_append_G w hgd s x _ ho base 9 i0 _ 1 16 Tryz.underlying113 hi hz0 hz1 hz2 rfl (by decide) v L.length _ hs hown.1 (some ⟨g, 0, none⟩) 1 c [.string u] hx ⟨by simp, .inr ⟨g, 0, rfl, fun j u' hu => ?_⟩⟩ (fun u' hu => by rw [List.mem_singleton] at hu; subst hu; rfl) (by simp only [maxLen]; omega) (by omega) hbase fun v' w' h2 h3 h4 => ?_
 ·match j, hu with
  | 0, hu =>
   simp at hu
   subst hu
   exact hA
 ·exact h v' w' ⟨by simpa using h2, by simpa using hn⟩ h3
theorem OwnZ.lt {w : World} {base : Nat} {v : Value} {L : List ByteArray} (h : OwnZ w base v L) : ∀ k, v.ownBlock = some k → base ≤ k ∧ k < w.heap.size := h.1.lt
set_option maxHeartbeats 1600000 in
set_option maxRecDepth 100000 in
theorem l6Cut_any (s : ByteArray) (y : Int) (w0 : World) (hs : s.size ≤ 100) (hy : 0 ≤ y ∧ y ≤ 255) :
  Calls Tryz.prog 118 #[.string s, .int .u8 y] w0 fun e w' => ∃ (v : Value) (L : List ByteArray), e = .returned v ∧ OwnZ w' w0.heap.size v L ∧ 0 < L.length ∧ L.length ≤ s.size + 1 ∧ Below w0.heap.size w0 w' := by
 go_enter Tryz.func118, Tryz.ntmps118
 go_wp2
 obtain ⟨W, hW⟩ : ∃ z, w0.alloc (.cells #[] 9) = z := ⟨_, rfl⟩
 have hO : OwnZ W w0.heap.size (.slice (some ⟨w0.heap.size, 0, none⟩) 0 0) [] := by rw [← hW]; exact OwnZ.made (Nat.le_refl _)
 have hb : Below w0.heap.size w0 W := by rw [← hW]; exact below_alloc _ _
 rw [hW]; clear hW
 go_loopw [5, 6, 7] (fun v p i wr => ∃ (k : Nat) (L : List ByteArray) (u : ByteArray), k ≤ s.size ∧ i = .int .i64 k ∧ p = .string u ∧ u.size ≤ k ∧ L.length ≤ k ∧ OwnZ wr w0.heap.size v L ∧ Below w0.heap.size w0 wr) (fun _ _ i _ => s.size - (intOf i).toNat)
 case atStart => exact ⟨0, [], ⟨#[]⟩, Nat.zero_le _, rfl, rfl, Nat.zero_le _, Nat.zero_le _, hO, hb⟩
 case round =>
  clear hO hb
  obtain ⟨k, L, u, hk, rfl, rfl, hu, hL, hO, hb⟩ := hrel
  obtain ⟨A, cc, rfl, _⟩ := hO.form
  have HO := Lib.hid hO
  have HB := Lib.hid hb
  clear hO hb
  have hus : u.size ≤ 17592186044416 := by omega
  by_cases hlt : k < s.size
  ·by_cases hy2 : ((s[k]'hlt).toNat : Int) = y
   ·(go_wp2_with (at_builtin; refine Hold.stop ?_)); unfold Hold
    refine wpList_appZ (by rfl) (.tmp 20) (.tmp 22) (by rfl) w0.heap.size _ L (by rfl) (HO.out.alloc _) wr.heap.size 1 u (by rfl) ((Blk.new wr 9 #[.string u]).cell' rfl) (by omega) (by have := HB.out.size; simp; omega) ?_
    intro v' w' ho' hg'
    have hb' : Below w0.heap.size w0 w' := (HB.out.alloc HB.out.size (.cells #[.string u] 9)).grown hg' (by have := HB.out.size; simp; omega) fun j hj => (HO.out.lt j hj).1
    obtain ⟨A', cc', rfl, _⟩ := ho'.form
    rw [List.length_append, List.length_singleton] at ho' ⊢
    have HO' := Lib.hid ho'
    have HB' := Lib.hid hb'
    clear ho' hb' hg'
    go_wp2
    refine ⟨⟨k + 1, L ++ [u], ⟨#[]⟩, by omega, by go_num, rfl, Nat.zero_le _, by simp; omega, HO'.out, HB'.out⟩, by simp [intOf]; omega⟩
   ·go_wp2
    refine ⟨⟨k + 1, L, _, by omega, by go_num, rfl, ?_, by omega, HO.out, HB.out⟩, by simp [intOf]; omega⟩
    rw [ByteArray.size_append, ByteArray.size_extract]
    omega
  ·(go_wp2_with (at_builtin; refine Hold.stop ?_)); unfold Hold
   refine wpList_appZ (by rfl) (.tmp 31) (.tmp 33) (by rfl) w0.heap.size _ L (by rfl) (HO.out.alloc _) wr.heap.size 1 u (by rfl) ((Blk.new wr 9 #[.string u]).cell' rfl) (by omega) (by have := HB.out.size; simp; omega) ?_
   intro v' w' ho' hg'
   have hb' : Below w0.heap.size w0 w' := (HB.out.alloc HB.out.size (.cells #[.string u] 9)).grown hg' (by have := HB.out.size; simp; omega) fun j hj => (HO.out.lt j hj).1
   have HO' := Lib.hid ho'
   have HB' := Lib.hid hb'
   clear ho' hb' hg'
   go_wp2
   go_ret
   exact ⟨_, _, rfl, HO'.out, by simp, by simp; omega, HB'.out⟩
def inR (n lo hi : Int) : Bool := decide (lo ≤ n ∧ n ≤ hi)
theorem inR_t {n lo hi : Int} : inR n lo hi = true ↔ lo ≤ n ∧ n ≤ hi := by simp [inR]
theorem inR_f {n lo hi : Int} : inR n lo hi = false ↔ ¬ (lo ≤ n ∧ n ≤ hi) := by simp [inR]
theorem within_any (n lo hi : Int) (w : World) : Calls Tryz.prog 31 #[.int .i64 n, .int .i64 lo, .int .i64 hi] w fun e w' => e = .returned (.bool (inR n lo hi)) ∧ w' = w := by
 by_cases h1 : n < lo
 ·go_enter Tryz.func31, Tryz.ntmps31
  go_wp2
  go_ret
  exact ⟨by rw [inR_f.2 (by omega)]; rfl, rfl⟩
 ·have h1' : lo ≤ n := by omega
  by_cases h2 : n ≤ hi
  ·go_enter Tryz.func31, Tryz.ntmps31
   go_wp2
   go_ret
   exact ⟨by rw [inR_t.2 (by omega)]; rfl, rfl⟩
  ·have h2' : hi < n := by omega
   go_enter Tryz.func31, Tryz.ntmps31
   go_wp2
   go_ret
   exact ⟨by rw [inR_f.2 (by omega)]; rfl, rfl⟩
theorem l1In_any (n lo hi : Int) (w : World) : Calls Tryz.prog 34 #[.int .i64 n, .int .i64 lo, .int .i64 hi] w fun e w' => e = .returned (.bool (inR n lo hi)) ∧ w' = w := by
 by_cases h1 : n < lo
 ·go_enter Tryz.func34, Tryz.ntmps34
  go_wp2
  go_ret
  exact ⟨by rw [inR_f.2 (by omega)]; rfl, rfl⟩
 ·have h1' : lo ≤ n := by omega
  by_cases h2 : n ≤ hi
  ·go_enter Tryz.func34, Tryz.ntmps34
   go_wp2
   go_ret
   exact ⟨by rw [inR_t.2 (by omega)]; rfl, rfl⟩
  ·have h2' : hi < n := by omega
   go_enter Tryz.func34, Tryz.ntmps34
   go_wp2
   go_ret
   exact ⟨by rw [inR_f.2 (by omega)]; rfl, rfl⟩
def BarCs (cs : Array Value) (xs : List Bar) (k : Nat) : Prop :=
 cs.size = xs.length * 3 ∧ ∀ j x, j < k → xs[j]? = some x → cs[j * 3]? = some (.int .i64 x.1) ∧ cs[j * 3 + 1]? = some (.int .i64 x.2.1) ∧ cs[j * 3 + 2]? = some (.int .i64 x.2.2)
theorem BarCs.step {cs : Array Value} {xs : List Bar} {k : Nat} {x y z : Int} (h : BarCs cs xs k) (hx : xs[k]? = some (x, y, z)) :
  BarCs (((cs.setIfInBounds (k * 3) (.int .i64 x)).setIfInBounds (k * 3 + 1) (.int .i64 y)).setIfInBounds (k * 3 + 2) (.int .i64 z)) xs (k + 1) := by
 obtain ⟨hs, h⟩ := h
 have hk := lt_of_some hx
 refine ⟨by simpa using hs, fun j u hj hu => ?_⟩
 by_cases e : j = k
 ·subst e
  rw [hx] at hu
  injection hu with hu
  subst hu
  refine ⟨?_, ?_, ?_⟩ <;> simp [Array.getElem?_setIfInBounds] <;> omega
 ·obtain ⟨a, b, c⟩ := h j u (by omega) hu
  refine ⟨?_, ?_, ?_⟩ <;> simp only [Array.getElem?_setIfInBounds] <;> (repeat rw [if_neg (by omega)]) <;> assumption
def barCs : List Bar → List Value
 | x :: xs => .int .i64 x.1 :: .int .i64 x.2.1 :: .int .i64 x.2.2 :: barCs xs
 | [] => []
theorem barCs_length : ∀ xs : List Bar, (barCs xs).length = xs.length * 3
 | [] => rfl
 | x :: xs => by simp only [barCs, List.length_cons, barCs_length xs]; omega
theorem barCs_get : ∀ {xs : List Bar} {j : Nat} {x : Bar}, xs[j]? = some x → (barCs xs)[j * 3]? = some (.int .i64 x.1) ∧ (barCs xs)[j * 3 + 1]? = some (.int .i64 x.2.1) ∧ (barCs xs)[j * 3 + 2]? = some (.int .i64 x.2.2)
 | [], _, _, h => by simp at h
 | x :: xs, 0, _, h => by
  simp at h
  subst h
  simp [barCs]
 | x :: xs, j + 1, y, h => by
  simp only [List.getElem?_cons_succ] at h
  obtain ⟨a, b, c⟩ := barCs_get h
  simp only [barCs, show (j + 1) * 3 = j * 3 + 1 + 1 + 1 by omega, show j * 3 + 1 + 1 + 1 + 1 = (j * 3 + 1) + 1 + 1 + 1 by omega, show j * 3 + 1 + 1 + 1 + 2 = (j * 3 + 2) + 1 + 1 + 1 by omega, List.getElem?_cons_succ]
  exact ⟨a, b, c⟩
def IBar (x : Bar) : Prop := I64 x.1 ∧ I64 x.2.1 ∧ I64 x.2.2
theorem SlB.ib {w : World} {B : Nat} {v : Value} {xs : List Bar} (h : SlB w B v xs) : ∀ x ∈ xs, IBar x := by
 obtain ⟨A, c, _, _, _, _, h4⟩ := h
 intro x hx
 obtain ⟨j, hj⟩ := List.getElem?_of_mem hx
 obtain ⟨_, _, _, _, hr⟩ := h4 (by have := lt_of_some hj; omega)
 exact (hr j x hj).2
theorem SlB.chg {w w' : World} {B lo hi : Nat} {v : Value} {xs : List Bar} (h : SlB w B v xs) (hc : Chg lo hi w w') (hB : B ≤ lo) (hs : B ≤ w.heap.size) : SlB w' B v xs := SlB.below (hc.below hB hs) h
theorem BarCs.list {cs : Array Value} {xs : List Bar} (h : BarCs cs xs xs.length) : cs.toList = barCs xs := by
 have hl := barCs_length xs
 apply List.ext_getElem?
 intro i
 by_cases hi : i < xs.length * 3
 ·obtain ⟨j, r, hr, rfl⟩ : ∃ j r, r < 3 ∧ i = j * 3 + r := ⟨i / 3, i % 3, Nat.mod_lt _ (by omega), by omega⟩
  have hj : j < xs.length := by omega
  obtain ⟨a, b, c⟩ := h.2 j _ hj (List.getElem?_eq_getElem hj)
  obtain ⟨a', b', c'⟩ := barCs_get (List.getElem?_eq_getElem hj)
  rw [Array.getElem?_toList]
  match r, hr with
  | 0, _ => rw [Nat.add_zero, a, a']
  | 1, _ => rw [b, b']
  | 2, _ => rw [c, c']
 ·rw [List.getElem?_eq_none (by have := h.1; simp; omega), List.getElem?_eq_none (by omega)]
end Go.Proofs.YthhjoamgcfiecaaGreat
