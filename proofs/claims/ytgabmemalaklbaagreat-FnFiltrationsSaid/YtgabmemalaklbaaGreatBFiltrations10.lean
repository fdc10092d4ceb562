/- FnFiltrations: the law holds for every argument. Part 10 of 18 of the proof: BfOf, PenOf, DsM, RpK, RepCl, ColZ, FromC, Tran, Besd, Conc, DsP, Blks, DsI, RpJ, SlVs, BfOf3, Eulr, Eulr2, RflI. No condition. -/
import Derived.Test.YtgabmemalaklbaaGreatBFiltrations9
import Derived.Shelf.Spec.SlicesGrow
/- BarsOf: plain part; the table's entries. -/
namespace Go.Proofs.YtgabmemalaklbaaGreat
set_option linter.unusedVariables false
set_option linter.unusedSimpArgs false
open Go.RowKit

/-- an entry of the table, 0 outside -/
def atF (L : Nat) (f : Nat → Nat → Int) (v w : Int) : Int := if v < 0 ∨ (L : Int) ≤ w then 0 else f v.toNat w.toNat
def cntF (L : Nat) (f : Nat → Nat → Int) (v w : Nat) : Int := atF L f v w - atF L f (v - 1) w - atF L f v (w + 1) + atF L f (v - 1) (w + 1)
def bfOne (L : Nat) (f : Nat → Nat → Int) (v w : Nat) : List Bar := if cntF L f v w = 0 then [] else [((v : Int), (w : Int), cntF L f v w)]
/-- the bars of row v, from column v on, below column v + n -/
def bfRow (L : Nat) (f : Nat → Nat → Int) (v n : Nat) : List Bar := (List.range n).flatMap fun k => bfOne L f v (v + k)
def bfAll (L : Nat) (f : Nat → Nat → Int) (v : Nat) : List Bar := (List.range v).flatMap fun a => bfRow L f a (L - a)
def bfQ (x : Rp) : List Bar × Bool := if okL x then (bfAll x.d.length (rtF x) x.d.length, true) else ([], false)
theorem bfRow_succ (L : Nat) (f : Nat → Nat → Int) (v n : Nat) : bfRow L f v (n + 1) = bfRow L f v n ++ bfOne L f v (v + n) := by
  simp [bfRow, List.range_succ, List.flatMap_append]
theorem bfAll_succ (L : Nat) (f : Nat → Nat → Int) (v : Nat) : bfAll L f (v + 1) = bfAll L f v ++ bfRow L f v (L - v) := by
  simp [bfAll, List.range_succ, List.flatMap_append]
theorem bfOne_len (L : Nat) (f : Nat → Nat → Int) (v w : Nat) : (bfOne L f v w).length ≤ 1 := by
  unfold bfOne; split <;> simp
theorem bfRow_len (L : Nat) (f : Nat → Nat → Int) (v : Nat) : ∀ n, (bfRow L f v n).length ≤ n
  | 0 => by simp [bfRow]
  | n + 1 => by
    rw [bfRow_succ, List.length_append]
    have := bfRow_len L f v n
    have := bfOne_len L f v (v + n)
    omega
theorem bfAll_len (L : Nat) (f : Nat → Nat → Int) : ∀ v, (bfAll L f v).length ≤ v * L
  | 0 => by simp [bfAll]
  | v + 1 => by
    rw [bfAll_succ, List.length_append, Nat.succ_mul]
    have := bfAll_len L f v
    have := bfRow_len L f v (L - v)
    omega
theorem atF_rng {L : Nat} {f : Nat → Nat → Int} (hf : ∀ v w, 0 ≤ f v w ∧ f v w ≤ 4) (v w : Int) : 0 ≤ atF L f v w ∧ atF L f v w ≤ 4 := by
  unfold atF
  split
  · omega
  · exact hf _ _

/-! ### counts are not negative -/
end Go.Proofs.YtgabmemalaklbaaGreat

/- copyMatrices; the two PencilOf. -/
namespace Go.Proofs.YtgabmemalaklbaaGreat
set_option linter.unusedVariables false
set_option linter.unusedSimpArgs false
open Go.RowKit

theorem SlM.two {w : World} {B g : Nat} {a b : Mx} {u v : Value} (hB : B = w.heap.size) (hg : Blk w g 62 #[.int .i64 a.r, .int .i64 a.c, u, .int .i64 b.r, .int .i64 b.c, v]) (ha : SlI w B u a.a) (hb : SlI w B v b.a) (i1 : I64 a.r ∧ I64 a.c) (i2 : I64 b.r ∧ I64 b.c) : SlM w B (.slice (some ⟨g, 0, none⟩) 2 2) [a, b] := by
  refine ⟨_, 2, rfl, by simp, by omega, by simp, fun _ => ⟨g, 0, rfl, by rw [hB]; exact hg.lt, fun j x hj => ?_⟩⟩
  match j, hj with
  | 0, hj =>
    simp at hj
    subst hj
    exact ⟨u, hg.cell' (i := 0) rfl, hg.cell' (i := 1) rfl, hg.cell' (i := 2) rfl, ha, i1⟩
  | 1, hj =>
    simp at hj
    subst hj
    exact ⟨v, hg.cell' (i := 3) rfl, hg.cell' (i := 4) rfl, hg.cell' (i := 5) rfl, hb, i2⟩
  | j + 2, hj => simp at hj
theorem IntsO.two (w : World) {lo : Nat} (x y : Int) (hx : I64 x) (hy : I64 y) (hlo : lo ≤ w.heap.size) : IntsO (w.alloc (.cells #[.int .i64 x, .int .i64 y] 3)) lo (w.alloc (.cells #[.int .i64 x, .int .i64 y] 3)).heap.size (.slice (some ⟨w.heap.size, 0, none⟩) 2 2) [x, y] :=
  IntsO.of_own (OwnI.of_blk (xs := [x, y]) (Blk.new _ _ _) hlo ⟨rfl, fun j z hj hz => by
    match j, hz with
    | 0, hz => simp at hz; subst hz; rfl
    | 1, hz => simp at hz; subst hz; rfl
    | j + 2, hz => simp at hz⟩ (by simp) (by simp [hx, hy]))
/-- three families of three stretches that are apart -/
theorem Fam.three {w : World} {lo hi l1 h1 l2 h2 l3 h3 : Nat} {L1 L2 L3 : List (Value × List Int)} (f1 : Fam w l1 h1 L1) (f2 : Fam w l2 h2 L2) (f3 : Fam w l3 h3 L3) (d12 : h1 ≤ l2 ∨ h2 ≤ l1) (d13 : h1 ≤ l3 ∨ h3 ≤ l1) (d23 : h2 ≤ l3 ∨ h3 ≤ l2)
    (b1 : lo ≤ l1 ∧ h1 ≤ hi) (b2 : lo ≤ l2 ∧ h2 ≤ hi) (b3 : lo ≤ l3 ∧ h3 ≤ hi) : Fam w lo hi (L1 ++ (L2 ++ L3)) := by
  have ap : ∀ {l1 h1 l2 h2 : Nat} {L1 L2 : List (Value × List Int)}, Fam w l1 h1 L1 → Fam w l2 h2 L2 → (h1 ≤ l2 ∨ h2 ≤ l1) → ∀ a ∈ L1, ∀ b ∈ L2, a.1.ownBlock = none ∨ a.1.ownBlock ≠ b.1.ownBlock := by
    intro l1 h1 l2 h2 L1 L2 f g hd a ha b hb
    rcases hA : a.1.ownBlock with _ | x
    · exact .inl rfl
    · right
      intro e
      have q1 := (f.1 a ha).2 x hA
      have q2 := ((f.1 a ha).1.lt x hA).1
      have q3 := (g.1 b hb).2 x e.symm
      have q4 := ((g.1 b hb).1.lt x e.symm).1
      omega
  refine ⟨fun p hp => ?_, ?_⟩
  · rcases List.mem_append.1 hp with hp | hp
    · exact (f1.1 p hp).wider b1.1 b1.2
    · rcases List.mem_append.1 hp with hp | hp
      · exact (f2.1 p hp).wider b2.1 b2.2
      · exact (f3.1 p hp).wider b3.1 b3.2
  · rw [List.pairwise_append, List.pairwise_append]
    refine ⟨f1.2, ⟨f2.2, f3.2, ap f2 f3 d23⟩, fun a ha b hb => ?_⟩
    rcases List.mem_append.1 hb with hb | hb
    · exact ap f1 f2 d12 a ha b hb
    · exact ap f1 f3 d13 a ha b hb

def penRep (p : Int) (a b : Mx) : Rp := ⟨p, pQ, [a.c, a.r], [a, b]⟩
def penOf (p : Int) (a b : Mx) : Rp × Bool := if isRep (penRep p a b) then (penRep p a b, true) else (rp0, false)


end Go.Proofs.YtgabmemalaklbaaGreat

/- Memory of sums: a number put into the dimensions, a matrix put in its place. -/
namespace Go.Proofs.YtgabmemalaklbaaGreat
set_option linter.unusedVariables false
set_option linter.unusedSimpArgs false
open Go.RowKit

abbrev set3 (w : World) (g i : Nat) (a b c : Value) : World := ((w.setCell ⟨g, i, none⟩ a).setCell ⟨g, i + 1, none⟩ b).setCell ⟨g, i + 2, none⟩ c
theorem RowO.len {T : TypeId} {sz : Nat} {w : World} {lo hi g c n m : Nat} {cs : List Value} (h : RowO T sz w lo hi (.slice (some ⟨g, 0, none⟩) n c) m cs) : n = m := by
  rcases h.1.2 with ⟨e, _⟩ | ⟨g', cap', cur, e, _⟩
  · cases e
  · injection e with _ e _
theorem chg_set1 (w : World) (g i : Nat) (u : Value) : Chg g (g + 1) w (w.setCell ⟨g, i, none⟩ u) := chg_set (Nat.le_refl _) (Nat.lt_succ_self _)
theorem OutM.blk {w : World} {lo hi g n c : Nat} {vs : List Value} {ms : List Mx} (h : OutM w lo hi (.slice (some ⟨g, 0, none⟩) n c) vs ms) : ∃ cs, Blk w g 62 cs ∧ lo ≤ g ∧ g < hi := by
  have hg := h.2.1 g rfl
  rcases h.1.2 with ⟨e, _⟩ | ⟨g', cap', cur, e, k1, hh, _⟩
  · cases e
  · injection e with e1 e2 _
    injection e1 with e1
    injection e1 with e1
    subst e1
    exact ⟨cur, hh, k1, hg⟩
theorem Fam.set3 {w : World} {lo hi g i : Nat} {L : List (Value × List Int)} {t : TypeId} {cs : Array Value} (h : Fam w lo hi L) (hb : Blk w g t cs) (ht : 3 ≠ t) (a b c : Value) : Fam (set3 w g i a b c) lo hi L :=
  ((h.setBlk hb ht a).setBlk (hb.set_ i a) ht b).setBlk ((hb.set_ i a).set_ (i + 1) b) ht c
theorem RepO.mxAt {w : World} {lo hi j : Nat} {p v : Int} {f t d m : Value} {x : Rp} {y : Mx} (h : RepO w lo hi (.agg #[.int .i64 p, .int .i64 v, f, t, d, m]) x) (hj : x.m[j]? = some y) :
    ∃ g c s, m = .slice (some ⟨g, 0, none⟩) x.m.length c ∧ lo ≤ g ∧ g < hi ∧ w.cell? ⟨g, j * 3, none⟩ = some (.int .i64 y.r) ∧ w.cell? ⟨g, j * 3 + 1, none⟩ = some (.int .i64 y.c) ∧ w.cell? ⟨g, j * 3 + 2, none⟩ = some s ∧ IntsO w lo hi s y.a ∧ (∀ i, w.frozen? ⟨g, i, none⟩ = false) ∧ I64 y.r ∧ I64 y.c := by
  obtain ⟨f', t', d', m', vs, e, hO, hvl, hF, hi1, hi2⟩ := h
  simp only [Value.agg.injEq, Array.mk.injEq, List.cons.injEq, and_true] at e
  obtain ⟨_, _, rfl, rfl, rfl, rfl⟩ := e
  have hjl := lt_of_some hj
  have hv : vs[j]? = some (vs[j]'(by omega)) := List.getElem?_eq_getElem (by omega)
  obtain ⟨a, b, c⟩ := mxCs_get hv hj
  rcases hO.1.2 with ⟨rfl, h0⟩ | ⟨g, cap, cur, rfl, k1, hh, _⟩
  · omega
  · have e := fun i (hi : i < 3) => hO.1.cellAt (j * 3 + i) (by omega)
    have hs := Fam.getAt (L0 := [(f, x.q.f), (t, x.q.t), (d, x.d)]) hF hv (l := y.a) (by simp [hj])
    exact ⟨g, cap, _, rfl, k1, hO.2.1 g rfl, by rw [show j * 3 = j * 3 + 0 by omega, e 0 (by omega)]; exact a, by rw [e 1 (by omega)]; exact b, by rw [e 2 (by omega)]; exact c, hs, fun i => hO.1.frozenAt i, hi2 y (List.mem_of_getElem? hj)⟩
end Go.Proofs.YtgabmemalaklbaaGreat

/- A number put into a matrix of a representation of the program's making. -/
namespace Go.Proofs.YtgabmemalaklbaaGreat
set_option linter.unusedVariables false
set_option linter.unusedSimpArgs false
open Go.RowKit

theorem RepO.putMx {w : World} {lo hi j i : Nat} {p v z : Int} {f t d m : Value} {x : Rp} {y : Mx} (h : RepO w lo hi (.agg #[.int .i64 p, .int .i64 v, f, t, d, m]) x) (hj : x.m[j]? = some y) (hi' : i < y.a.length) (hz : I64 z) :
    ∃ g c gr cr, m = .slice (some ⟨g, 0, none⟩) x.m.length c ∧ w.cell? ⟨g, j * 3, none⟩ = some (.int .i64 y.r) ∧ w.cell? ⟨g, j * 3 + 1, none⟩ = some (.int .i64 y.c) ∧ w.cell? ⟨g, j * 3 + 2, none⟩ = some (.slice (some ⟨gr, 0, none⟩) y.a.length cr) ∧ (∃ u, w.cell? ⟨gr, i, none⟩ = some u) ∧ w.frozen? ⟨gr, i, none⟩ = false ∧
      (x.m.length ≤ c ∧ c ≤ 9223372036854775807) ∧ (y.a.length ≤ cr ∧ cr ≤ 9223372036854775807) ∧ (lo ≤ gr ∧ gr < hi) ∧ (∀ (g' : Nat) (t' : TypeId) (cs' : Array Value), Blk w g' t' cs' → 3 ≠ t' → g' ≠ gr) ∧ RepO (w.setCell ⟨gr, i, none⟩ (.int .i64 z)) lo hi (.agg #[.int .i64 p, .int .i64 v, f, t, d, m]) ⟨x.p, x.q, x.d, x.m.set j ⟨y.r, y.c, y.a.set i z⟩⟩ := by
  obtain ⟨f', t', d', m', vs, e, hO, hvl, hF, hi1, hi2⟩ := h
  simp only [Value.agg.injEq, Array.mk.injEq, List.cons.injEq, and_true] at e
  obtain ⟨e1, e2, rfl, rfl, rfl, rfl⟩ := e
  obtain ⟨gm, cm, g, c, em, hgm, hv, c0, c1, c2, ho, hgb, k1, k2, k3, k4⟩ := OutM.at_ hO hvl hF hj (by omega)
  have hput := mats_put (i := i) hO hF hv hj ho hz
  have hcell := (ho.cellG hi').1
  have hfr := ho.frozenG i
  refine ⟨gm, cm, g, c, em, c0, c1, c2, ⟨_, hcell⟩, hfr, ⟨k3, k4⟩, ⟨k1, k2⟩, hgb, fun g' t' cs' hb ht e => ho.blkne hb ht (by rw [e]; rfl), f, t, d, m, vs, by rw [e1, e2], hput.1, by simp [hvl], hput.2, hi1, mats_I64 hi2 hj⟩
end Go.Proofs.YtgabmemalaklbaaGreat

/- (Rep).clone. -/
namespace Go.Proofs.YtgabmemalaklbaaGreat
set_option linter.unusedVariables false
set_option linter.unusedSimpArgs false
open Go.RowKit

end Go.Proofs.YtgabmemalaklbaaGreat

/- Columns of a matrix of the program, as lists; the matrix of some columns. -/
namespace Go.Proofs.YtgabmemalaklbaaGreat
set_option linter.unusedVariables false
set_option linter.unusedSimpArgs false
open Go.RowKit

def colK (k : Nat) (f : Nat → Nat → Int) (j i : Nat) : Int := if i < j then f i k else 0
end Go.Proofs.YtgabmemalaklbaaGreat

/- The matrix of some columns; the reference's transposed matrix. -/
namespace Go.Proofs.YtgabmemalaklbaaGreat
set_option linter.unusedVariables false
set_option linter.unusedSimpArgs false
open Go.RowKit

def fcK (f : Nat → Nat → Int) (k i a b : Nat) : Int := if b < k ∨ (b = k ∧ a < i) then f a b else 0
end Go.Proofs.YtgabmemalaklbaaGreat

/- The reference's transposed matrix. -/
namespace Go.Proofs.YtgabmemalaklbaaGreat
set_option linter.unusedVariables false
set_option linter.unusedSimpArgs false
open Go.RowKit

/-- cells of the transposed matrix, filled row by row of the given one -/
def trK (f : Nat → Nat → Int) (i k a b : Nat) : Int := if b < i ∨ (b = i ∧ a < k) then f b a else 0
end Go.Proofs.YtgabmemalaklbaaGreat

/- Matrices beside each other and below each other: the program's. -/
namespace Go.Proofs.YtgabmemalaklbaaGreat
set_option linter.unusedVariables false
set_option linter.unusedSimpArgs false
open Go.RowKit

/-- a beside b: the first c columns are a's -/
def bsF (c : Nat) (f g : Nat → Nat → Int) (a b : Nat) : Int := if b < c then f a b else g a (b - c)
/-- a above b -/
def blF (r : Nat) (f g : Nat → Nat → Int) (a b : Nat) : Int := if a < r then f a b else g (a - r) b
end Go.Proofs.YtgabmemalaklbaaGreat

/- slices.Concat at []int, and the matrix of some rows. -/
namespace Go.Proofs
open Go.Shelf
end Go.Proofs
namespace Go.Proofs.YtgabmemalaklbaaGreat
set_option linter.unusedVariables false
set_option linter.unusedSimpArgs false
open Go.RowKit

end Go.Proofs.YtgabmemalaklbaaGreat

/- Sums of representations, plain: representations told by functions. -/
namespace Go.Proofs.YtgabmemalaklbaaGreat
set_option linter.unusedVariables false
set_option linter.unusedSimpArgs false
open Go.RowKit

def tN (q : Qv) (i : Nat) : Nat := (q.t.getD i 0).toNat
def fN (q : Qv) (i : Nat) : Nat := (q.f.getD i 0).toNat
/-- a representation told by its dimensions and its numbers -/
def rpF (p : Int) (q : Qv) (D : Nat → Nat) (E : Nat → Nat → Nat → Int) : Rp :=
  ⟨p, q, rowF q.v.toNat fun v => (D v : Int), msF q.f.length fun i => mxF (D (tN q i)) (D (fN q i)) (E i)⟩
/-- the numbers of a sum -/
def dsE (r c : Nat) (e g : Nat → Nat → Int) : Nat → Nat → Int := blF r (bsF c e fun _ _ => 0) (bsF c (fun _ _ => 0) g)
def dsSF (q : Qv) (D : Nat → Nat) (E G : Nat → Nat → Nat → Int) (i : Nat) : Nat → Nat → Int := dsE (D (tN q i)) (D (fN q i)) (E i) (G i)
def ivN (a b : Nat) (v : Nat) : Nat := if a ≤ v ∧ v < b + 1 then 1 else 0
end Go.Proofs.YtgabmemalaklbaaGreat

/- blocks: two matrices on the diagonal, one above. -/
namespace Go.Proofs.YtgabmemalaklbaaGreat
set_option linter.unusedVariables false
set_option linter.unusedSimpArgs false
open Go.RowKit

end Go.Proofs.YtgabmemalaklbaaGreat

/- The program's directSum. -/
namespace Go.Proofs.YtgabmemalaklbaaGreat
set_option linter.unusedVariables false
set_option linter.unusedSimpArgs false
open Go.RowKit

def addK (D D' : Nat → Nat) (k v : Nat) : Nat := if v < k then D v + D' v else D v
def dsMs (q : Qv) (D D' : Nat → Nat) (E E' : Nat → Nat → Nat → Int) (k i : Nat) : Mx := if i < k then mxF (D (tN q i) + D' (tN q i)) (D (fN q i) + D' (fN q i)) (dsSF q D E E' i) else mxF (D (tN q i)) (D (fN q i)) (E i)
theorem Blk.apart {w : World} {g g' : Nat} {t t' : TypeId} {cs cs' : Array Value} (h : Blk w g t cs) (k : Blk w g' t' cs') (ht : t ≠ t') : g ≠ g' := by
  rintro rfl
  unfold Blk at h k
  rw [h] at k
  injection k with k
  injection k with _ k
  exact ht k
theorem RepO.mBlk {w : World} {lo hi g n c : Nat} {p v : Int} {f t d : Value} {x : Rp} (h : RepO w lo hi (.agg #[.int .i64 p, .int .i64 v, f, t, d, .slice (some ⟨g, 0, none⟩) n c]) x) : ∃ cs, Blk w g 62 cs := by
  obtain ⟨f', t', d', m', vs, e, hO, _⟩ := h
  simp only [Value.agg.injEq, Array.mk.injEq, List.cons.injEq, and_true] at e
  obtain ⟨_, _, rfl, rfl, rfl, rfl⟩ := e
  obtain ⟨cs, hb, _⟩ := OutM.blk hO
  exact ⟨cs, hb⟩
end Go.Proofs.YtgabmemalaklbaaGreat

/- Writes into representations of the reference's making: a matrix put in its place, a number put into a matrix. -/
namespace Go.Proofs.YtgabmemalaklbaaGreat
set_option linter.unusedVariables false
set_option linter.unusedSimpArgs false
open Go.RowKit

theorem IntsO.set3 {w : World} {lo hi g i : Nat} {v : Value} {l : List Int} {t : TypeId} {cs : Array Value} (h : IntsO w lo hi v l) (hb : Blk w g t cs) (ht : 3 ≠ t) (a b c : Value) : IntsO (set3 w g i a b c) lo hi v l := by
  have h1 : Fam w lo hi [(v, l)] := ⟨fun p hp => by simp at hp; rw [hp]; exact h, by simp⟩
  exact (h1.set3 (i := i) hb ht a b c).1 (v, l) (by simp)
theorem RepI.blk {w : World} {lo hi g n c : Nat} {p v : Int} {f t d : Value} {x : Rp} (h : RepI w lo hi (.agg #[.int .i64 p, .int .i64 v, f, t, d, .slice (some ⟨g, 0, none⟩) n c]) x) : ∃ cs, Blk w g 62 cs ∧ lo ≤ g ∧ g < hi := by
  obtain ⟨f', t', d', m', vs, mi0, e, i1, i2, i3, hO, hvl, hF, hmi, hi1, hi2⟩ := h
  simp only [Value.agg.injEq, Array.mk.injEq, List.cons.injEq, and_true] at e
  obtain ⟨rfl2, rfl3, rfl, rfl, rfl, rfl⟩ := e
  exact OutM.blk hO
/-- the cells of a matrix -/
theorem RepI.mxAt {w : World} {lo hi j : Nat} {p v : Int} {f t d m : Value} {x : Rp} {y : Mx} (h : RepI w lo hi (.agg #[.int .i64 p, .int .i64 v, f, t, d, m]) x) (hj : x.m[j]? = some y) :
    ∃ g c s, m = .slice (some ⟨g, 0, none⟩) x.m.length c ∧ lo ≤ g ∧ g < hi ∧ w.cell? ⟨g, j * 3, none⟩ = some (.int .i64 y.r) ∧ w.cell? ⟨g, j * 3 + 1, none⟩ = some (.int .i64 y.c) ∧ w.cell? ⟨g, j * 3 + 2, none⟩ = some s ∧ IntsO w lo hi s y.a ∧ (∀ i, w.frozen? ⟨g, i, none⟩ = false) := by
  obtain ⟨f', t', d', m', vs, mi0, e, i1, i2, i3, hO, hvl, hF, hmi, hi1, hi2⟩ := h
  simp only [Value.agg.injEq, Array.mk.injEq, List.cons.injEq, and_true] at e
  obtain ⟨_, _, rfl, rfl, rfl, rfl⟩ := e
  have hjl := lt_of_some hj
  have hv : vs[j]? = some (vs[j]'(by omega)) := List.getElem?_eq_getElem (by omega)
  obtain ⟨a, b, c⟩ := mxCs_get hv hj
  have hR : RepO w lo hi (.agg #[.int .i64 x.p, .int .i64 x.q.v, .slice none 0 0, .slice none 0 0, .slice none 0 0, m]) ⟨x.p, ⟨x.q.v, [], []⟩, [], x.m⟩ := by
    refine ⟨_, _, _, _, vs, rfl, hO, hvl, ?_, hi1, hi2⟩
    have hn : ∀ b : Value × List Int, (Value.slice none 0 0).ownBlock = none ∨ (Value.slice none 0 0).ownBlock ≠ b.1.ownBlock := fun b => .inl rfl
    refine ⟨fun p hp => ?_, ?_⟩
    · simp only [List.cons_append, List.nil_append, List.mem_cons] at hp
      rcases hp with rfl | rfl | rfl | hp
      · exact ⟨OwnI.nil _ _, by simp [Value.ownBlock]⟩
      · exact ⟨OwnI.nil _ _, by simp [Value.ownBlock]⟩
      · exact ⟨OwnI.nil _ _, by simp [Value.ownBlock]⟩
      · exact (hF.1 p hp).wider hmi.1 (Nat.le_refl _)
    · simp only [List.cons_append, List.nil_append, List.pairwise_cons]
      exact ⟨fun b _ => .inl rfl, fun b _ => .inl rfl, fun b _ => .inl rfl, hF.2⟩
  obtain ⟨g, c', s, e, k1, k2, z0, z1, z2, hs, hf, _⟩ := hR.mxAt hj
  exact ⟨g, c', s, e, k1, k2, z0, z1, z2, hs, hf⟩
/-- a number put into a matrix -/
theorem RepI.putMx {w : World} {lo hi j i : Nat} {p v z : Int} {f t d m : Value} {x : Rp} {y : Mx} (h : RepI w lo hi (.agg #[.int .i64 p, .int .i64 v, f, t, d, m]) x) (hj : x.m[j]? = some y) (hi' : i < y.a.length) (hz : I64 z) :
    ∃ g c gr cr, m = .slice (some ⟨g, 0, none⟩) x.m.length c ∧ w.cell? ⟨g, j * 3 + 1, none⟩ = some (.int .i64 y.c) ∧ w.cell? ⟨g, j * 3 + 2, none⟩ = some (.slice (some ⟨gr, 0, none⟩) y.a.length cr) ∧ (∃ u, w.cell? ⟨gr, i, none⟩ = some u) ∧ w.frozen? ⟨gr, i, none⟩ = false ∧
      (x.m.length ≤ c ∧ c ≤ 9223372036854775807) ∧ (y.a.length ≤ cr ∧ cr ≤ 9223372036854775807) ∧ (lo ≤ gr ∧ gr < hi) ∧ (∀ (g' : Nat) (t' : TypeId) (cs' : Array Value), Blk w g' t' cs' → 3 ≠ t' → g' ≠ gr) ∧ RepI (w.setCell ⟨gr, i, none⟩ (.int .i64 z)) lo hi (.agg #[.int .i64 p, .int .i64 v, f, t, d, m]) ⟨x.p, x.q, x.d, x.m.set j ⟨y.r, y.c, y.a.set i z⟩⟩ := by
  obtain ⟨f', t', d', m', vs, mi0, e, i1, i2, i3, hO, hvl, hF, hmi, hi1, hi2⟩ := h
  simp only [Value.agg.injEq, Array.mk.injEq, List.cons.injEq, and_true] at e
  obtain ⟨e1, e2, rfl, rfl, rfl, rfl⟩ := e
  have hF' : Fam w mi0 hi ([] ++ vs.zip (x.m.map Mx.a)) := by simpa using hF
  obtain ⟨gm, cm, g, c, em, hgm, hv, c0, c1, c2, ho, hgb, k1, k2, k3, k4⟩ := OutM.at_ hO hvl hF' hj (by omega)
  have hput := mats_put (i := i) hO hF' hv hj ho hz
  have hcell := (ho.cellG hi').1
  have hfr := ho.frozenG i
  have lowp : ∀ {u : Value} {l : List Int}, IntsO w lo mi0 u l → IntsO (w.setCell ⟨g, i, none⟩ (.int .i64 z)) lo mi0 u l := fun h => h.chg (chg_set1 w g i _) (.inl hgb.1)
  refine ⟨gm, cm, g, c, em, c1, c2, ⟨_, hcell⟩, hfr, ⟨k3, k4⟩, ⟨k1, k2⟩, ⟨by omega, hgb.2⟩, fun g' t' cs' hb ht e => ho.blkne hb ht (by rw [e]; rfl), f, t, d, m, vs, mi0, by rw [e1, e2], lowp i1, lowp i2, lowp i3, hput.1, by simp [hvl], by simpa using hput.2, hmi, hi1, mats_I64 hi2 hj⟩
end Go.Proofs.YtgabmemalaklbaaGreat

/- Rows of slice values, whatever they hold: reading, appending. -/
namespace Go.Proofs.YtgabmemalaklbaaGreat
set_option linter.unusedVariables false
set_option linter.unusedSimpArgs false
open Go.RowKit

theorem addr_add (b o j : Nat) : (⟨b, o, none⟩ : Addr).add j = ⟨b, o + j, none⟩ := by unfold Addr.add; split <;> simp_all
def RV (w : World) (_B b o : Nat) (x : Value) : Prop := w.cell? ⟨b, o, none⟩ = some x ∧ x.oneCell' = true
abbrev SlV := SlG 1 RV
theorem SlV.below {w w' : World} {B : Nat} {v : Value} {l : List Value} (hb : Below B w w') (h : SlV w B v l) : SlV w' B v l :=
  SlG.mono (fun _ _ _ hlt ⟨hc, hx⟩ => ⟨bcell hb hlt hc, hx⟩) (Nat.le_refl _) h
theorem SlV.more {w : World} {B B' : Nat} {v : Value} {l : List Value} (hB : B ≤ B') (h : SlV w B v l) : SlV w B' v l :=
  SlG.mono (B := B) (B' := B') (fun _ _ _ _ h => h) hB h
theorem SlV.next {w w' : World} {v : Value} {l : List Value} (hb : Below w.heap.size w w') (h : SlV w w.heap.size v l) : SlV w' w'.heap.size v l := SlV.more hb.size (SlV.below hb h)
theorem SlV.one {w : World} {B : Nat} {v : Value} {l : List Value} (h : SlV w B v l) : ∀ u ∈ l, u.oneCell' = true := by
  obtain ⟨A, c, _, _, _, _, h4⟩ := h
  intro x hx
  obtain ⟨j, hj⟩ := List.getElem?_of_mem hx
  obtain ⟨_, _, _, _, hr⟩ := h4 (by have := lt_of_some hj; omega)
  exact (hr j x hj).2
theorem NewsAt.of_slV {w : World} {B : Nat} {A : Option Addr} {c : Nat} {l : List Value} (h : SlV w B (.slice A l.length c) l) : NewsAt w A l.length l 1 := by
  refine ⟨by simp, ?_⟩
  obtain ⟨A', c', e, h1, h2, h3, h4⟩ := h
  injection e with e1 e2 e3; subst e1
  rcases Nat.eq_zero_or_pos l.length with h0 | h0
  · exact .inl h0
  · obtain ⟨b, o, rfl, _, hc⟩ := h4 h0
    exact .inr ⟨b, o, rfl, fun j u hu => by simpa using (hc j u hu).1⟩
/-- a row of slice values of the call's own -/
def OwnV (w : World) (base : Nat) (v : Value) (vs : List Value) : Prop := w.ownsRow base 24 1 v vs.length vs ∧ vs.length ≤ 17592186044416 ∧ ∀ u ∈ vs, u.oneCell' = true
theorem OwnV.rd {w : World} {base : Nat} {v : Value} {l : List Value} (h : OwnV w base v l) : SlV w w.heap.size v l := by
  obtain ⟨h1, h2, h3⟩ := h
  rcases h1.2 with ⟨rfl, h0⟩ | ⟨g, cap, cur, rfl, _, hg, hnc, hcm, hcs, htake⟩
  · obtain rfl : l = [] := List.eq_nil_of_length_eq_zero h0
    exact SlG.nil
  · refine ⟨_, _, rfl, hnc, by simp only [maxLen] at hcm; omega, h2, fun hp => ⟨g, 0, rfl, (Array.getElem?_eq_some_iff.1 hg).1, fun j x hj => ⟨?_, h3 x (List.mem_of_getElem? hj)⟩⟩⟩
    have hc := h1.cellAt j (by have := lt_of_some hj; omega)
    rw [show 0 + j * 1 = j by omega, hc, hj]
theorem OwnV.below {w w' : World} {base : Nat} {v : Value} {l : List Value} (h : OwnV w base v l) (hb : Below w.heap.size w w') : OwnV w' base v l :=
  ⟨h.1.kept (row := none) ⟨hb.os, hb.tape, hb.output, hb.size, fun k hk _ => hb.block k hk⟩ (by cases v.ownBlock <;> simp), h.2⟩
theorem OwnV.lt {w : World} {base : Nat} {v : Value} {l : List Value} (h : OwnV w base v l) : ∀ k, v.ownBlock = some k → base ≤ k ∧ k < w.heap.size := h.1.lt
theorem OwnV.lower {w : World} {base base' : Nat} {v : Value} {l : List Value} (h : OwnV w base v l) (hb : base' ≤ base) : OwnV w base' v l := by
  obtain ⟨⟨h0, h1⟩, h2⟩ := h
  refine ⟨⟨h0, ?_⟩, h2⟩
  rcases h1 with h1 | ⟨g, cap, cur, e, hg, rest⟩
  · exact .inl h1
  · exact .inr ⟨g, cap, cur, e, by omega, rest⟩
theorem OwnV.form {w : World} {base : Nat} {v : Value} {l : List Value} (h : OwnV w base v l) : ∃ A c, v = .slice A l.length c ∧ l.length ≤ c ∧ c ≤ 9223372036854775807 := by
  rcases h.1.2 with ⟨rfl, h0⟩ | ⟨g, cap, cur, rfl, _, _, hnc, hcm, _⟩
  · exact ⟨none, 0, by rw [h0], by omega, by omega⟩
  · exact ⟨_, _, rfl, hnc, by simp only [maxLen] at hcm; omega⟩
/-- .. onto a slice that has just been made and holds nothing: what was there stands. -/
theorem wpList_append_freshV {w : World} {ops : Array Oper} {rest : List Oper} {o : Oper} {a : Act} {Q : Exit → Act → World → Prop} (hgd : o.guard = none) (s x : Operand)
    (ho : o.op = .call { callee := .builtin .append, args := #[s, x], argTypes := #[25, 25] })
    (g lo B : Nat) (cs : Array Value) (hs : a.eval s = .slice (some ⟨g, 0, none⟩) 0 0) (hg : Blk w g 24 cs) (hcs : cs.size = 0) (hlo : lo ≤ g) (A : Option Addr) (m c : Nat) (news : List Value) (hx : a.eval x = .slice A m c) (hm : m = news.length) (hr : SlV w B (.slice A news.length c) news) (hn2 : news.length ≤ 1048576)
    (h : ∀ v' w', OwnV w' lo v' news → Below w.heap.size w w' → wpList Tryz.prog ops Q rest (a.put o.dst v') w') : wpList Tryz.prog ops Q (o :: rest) a w := by
  subst hm
  obtain ⟨i0, hi, hz0, hz1, hz2⟩ := info_parts infoInts
  have hn := hr
  obtain ⟨_, _, _, _, _, hn, hcell⟩ := hn
  have hI := SlV.one hr
  refine wpList_plain hgd fun K hK => ?_
  by_cases hp : 0 < news.length
  · obtain ⟨hl, hnews⟩ := NewsAt.of_slV hr
    obtain ⟨b', of', eA', hc'⟩ := hnews.resolve_left (by omega)
    subst eA'
    have hadd : ∀ j, (⟨b', of', none⟩ : Addr).add j = ⟨b', of' + j, none⟩ := addr_add b' of'
    obtain ⟨v', w', hrun, hown, hgr⟩ := run_append_arg_grows (P := Tryz.prog) w 25 o.type 24 i0 _ 1 24 Tryz.underlying25 hi hz0 hz1 hz2 rfl (by decide) ⟨g, 0, none⟩ 0 0 [] (by simp) (by intro j u hj; simp at hj) ⟨b', of', none⟩ news.length c news hl (fun j u hj => by rw [hadd]; exact hc' j u hj) (by omega) (by simp only [maxLen]; omega) (by omega)
    unfold Oper.wp execOp
    simp only [ho, resolve, invoke, builtin, Sem.run_bind, Sem.run_pure, Result.andThen_ok, List.map_toArray, List.map_cons, List.map_nil, hs, hx, hrun]
    refine hK _ _ (h v' w' ?_ ⟨hgr.os, hgr.tape, hgr.output, hgr.size, fun k hk => hgr.block k hk (by simp)⟩)
    have hgl := hg.lt
    exact OwnV.lower (base := w.heap.size) ⟨by simpa using hown, hn, hI⟩ (by omega)
  · have h0 : news = [] := List.eq_nil_of_length_eq_zero (by omega)
    subst h0
    have hrun : (Builtin.append_ #[25, 25] o.type #[.slice (some ⟨g, 0, none⟩) 0 0, .slice A 0 c]).run Tryz.prog w = .ok (.slice (some ⟨g, 0, none⟩) 0 0) w := by
      cases A <;> simp [Builtin.append_, run_underlying (P := Tryz.prog) Tryz.underlying25, sizeOf, typeInfo, hi, Builtin.lenOf, Builtin.firstCells, storeCells, loadCells, loadCellsFrom]
    simp only [List.length_nil] at hx
    unfold Oper.wp execOp
    simp only [ho, resolve, invoke, builtin, Sem.run_bind, Sem.run_pure, Result.andThen_ok, List.map_toArray, List.map_cons, List.map_nil, hs, hx, hrun]
    refine hK _ _ (h _ w ?_ (Below.refl _ _))
    have := hg.own (base := lo) (n := 0) (cap := 0) (size := 1) hlo (Nat.le_refl _) (by simp only [maxLen]; omega) (by omega)
    exact ⟨by simpa using this, by simp, by simp⟩
def FreshV (w : World) (lo : Nat) (u : Value) : Prop := ∃ g, u = .slice (some ⟨g, 0, none⟩) 0 0 ∧ lo ≤ g ∧ Blk w g 24 #[]
theorem FreshV.below {w w' : World} {lo : Nat} {u : Value} (h : FreshV w lo u) (hb : Below w.heap.size w w') : FreshV w' lo u := by
  obtain ⟨g, e, h1, h2⟩ := h
  exact ⟨g, e, h1, h2.call hb⟩
theorem FreshV.new (w : World) {lo : Nat} (h : lo ≤ w.heap.size) : FreshV (w.alloc (.cells #[] 24)) lo (.slice (some ⟨w.heap.size, 0, none⟩) 0 0) := ⟨_, rfl, h, Blk.new _ _ _⟩
/-- the one-cell block that 'append(out, row)' lays first -/
theorem SlV.new (w : World) (t : TypeId) (x : Value) (hx : x.oneCell' = true) : SlV (w.alloc (.cells #[x] t)) (w.alloc (.cells #[x] t)).heap.size (.slice (some ⟨w.heap.size, 0, none⟩) 1 1) [x] := by
  refine ⟨_, 1, rfl, by simp, by omega, by simp, fun _ => ⟨w.heap.size, 0, rfl, by simp, fun j y hj => ?_⟩⟩
  match j, hj with
  | 0, hj =>
    simp at hj
    subst hj
    exact ⟨by simp, hx⟩
  | j + 1, hj => simp at hj
theorem SlI.oneC {w : World} {B : Nat} {v : Value} {l : List Int} (h : SlI w B v l) : v.oneCell' = true := by
  obtain ⟨A, c, rfl, _⟩ := h; rfl
theorem SlV.ii {w : World} {B : Nat} {v : Value} {vs : List Value} {ll : List (List Int)} (h : SlV w B v vs) (hl : vs.length = ll.length) (hr : ∀ (j : Nat) (u : Value) (l : List Int), vs[j]? = some u → ll[j]? = some l → SlI w B u l) : SlII w B v ll := by
  obtain ⟨A, c, rfl, h1, h2, h3, h4⟩ := h
  refine ⟨A, c, by rw [hl], by omega, h2, by omega, fun hp => ?_⟩
  obtain ⟨b, o, e, hb, hc⟩ := h4 (by omega)
  refine ⟨b, o, e, hb, fun j l hj => ?_⟩
  have hlt := lt_of_some hj
  have hv : vs[j]? = some (vs[j]'(by omega)) := List.getElem?_eq_getElem (by omega)
  exact ⟨_, (hc j _ hv).1, hr j _ l hv hj⟩
end Go.Proofs.YtgabmemalaklbaaGreat

/- BarsOf: the program's. -/
namespace Go.Proofs.YtgabmemalaklbaaGreat
set_option linter.unusedVariables false
set_option linter.unusedSimpArgs false
open Go.RowKit

theorem bfAt_any (L : Nat) (f : Nat → Nat → Int) (v w : Int) (b c : Nat) (A : Option Addr) (w0 : World) (hL : L ≤ 5) (hv : -1 ≤ v ∧ v < L) (hw : 0 ≤ w ∧ w ≤ L) (hc0 : w0.cell? ⟨b, 0, none⟩ = some (.slice A L c)) (hu : SlII w0 w0.heap.size (.slice A L c) (matF L f)) :
    Calls Tryz.prog 51 #[.int .i64 v, .int .i64 w, .pointer (some ⟨b, 0, none⟩)] w0 fun e w' => e = .returned (.int .i64 (atF L f v w)) ∧ w' = w0 := by
  by_cases h1 : v < 0
  · have HA := Lib.hid (show atF L f v w = 0 by rw [atF, if_pos (.inl h1)])
    go_enter Tryz.func51, Tryz.ntmps51
    go_wp2
    go_ret
    exact ⟨by rw [HA.out]; rfl, rfl⟩
  · by_cases h2 : (L : Int) ≤ w
    · have HA := Lib.hid (show atF L f v w = 0 by rw [atF, if_pos (.inr h2)])
      go_enter Tryz.func51, Tryz.ntmps51
      go_wp2
      go_ret
      exact ⟨by rw [HA.out]; rfl, rfl⟩
    · obtain ⟨a, rfl⟩ := Int.eq_ofNat_of_zero_le (show 0 ≤ v by omega)
      obtain ⟨d, rfl⟩ := Int.eq_ofNat_of_zero_le (show 0 ≤ w by omega)
      have HA := Lib.hid (show atF L f (a : Int) (d : Int) = f a d by rw [atF, if_neg (by omega)]; rfl)
      have ha : a < L := by omega
      have hb : d < L := by omega
      have HX : Hid (SlII w0 w0.heap.size (.slice A (matF L f).length c) (matF L f)) := by rw [matF_length]; exact hu
      clear hu
      obtain ⟨bA, oA, rfl, _⟩ := SlII.addr HX.out (by rw [matF_length]; omega)
      obtain ⟨r, RA, rc, hr0, _, y1, hr, hrc1, hrc2⟩ := SlII.elt HX.out (k := a) (by rw [matF_length]; exact ha)
      rw [matF_get _ ha] at hr0
      injection hr0 with hr0
      subst hr0
      rw [rowF_length] at y1
      obtain ⟨b2, o2, rfl, _⟩ := SlI.addr hr (by rw [rowF_length]; omega)
      obtain ⟨z, hz, _, z1, _⟩ := SlI.elt hr (k := d) (by rw [rowF_length]; exact hb)
      rw [rowF_get _ hb] at hz
      injection hz with hz
      have HZ := Lib.hid hz
      clear hr hrc1 hz
      go_enter Tryz.func51, Tryz.ntmps51
      go_wp2
      go_ret
      exact ⟨by rw [HA.out, HZ.out]; rfl, rfl⟩

set_option maxHeartbeats 3200000 in
set_option maxRecDepth 100000 in
theorem implBarsOf_any (u : Value) (x : Rp) (w0 : World) (hu : RpR w0 w0.heap.size u x) :
    Calls Tryz.prog 13 #[u] w0 fun e w' => ∃ v, e = .returned (.tuple #[v, .bool (bfQ x).2]) ∧ BarsO w' w0.heap.size w'.heap.size v (bfQ x).1 ∧ Below w0.heap.size w0 w' := by
  have hu' := hu
  obtain ⟨A, a, C, c, E, e, H, h, rfl, hq, hd, hm, hp, ld, lm⟩ := hu.open_
  clear hu hq hd hm
  obtain ⟨W, hW⟩ : ∃ W, W = w0.alloc (.cells #[.int .i64 x.p, .int .i64 x.q.v, .slice A x.q.f.length a, .slice C x.q.t.length c, .slice E x.d.length e, .slice H x.m.length h] 34) := ⟨_, rfl⟩
  have g0 : Below w0.heap.size w0 W := by rw [hW]; exact below_alloc _ _
  have kB : Blk W w0.heap.size 34 #[.int .i64 x.p, .int .i64 x.q.v, .slice A x.q.f.length a, .slice C x.q.t.length c, .slice E x.d.length e, .slice H x.m.length h] := by rw [hW]; exact Blk.new _ _ _
  have HXR := Lib.hid (RpR.next g0 hu')
  clear hu'
  have c0 := kB.cell' (i := 0) rfl
  have c1 := kB.cell' (i := 1) rfl
  have c2 := kB.cell' (i := 2) rfl
  have c3 := kB.cell' (i := 3) rfl
  have c4 := kB.cell' (i := 4) rfl
  have c5 := kB.cell' (i := 5) rfl
  rcases hok : okL x with _ | _
  · have HF := Lib.hid (show bfQ x = ([], false) by simp [bfQ, hok])
    have HR := Lib.hid (show rtM x = ([], false) by simp [rtM, hok])
    clear hok
    go_enter Tryz.func13, Tryz.ntmps13
    go_wp2_with fail
    rw [← hW]; clear hW
    refine (implRankTable_any _ x _ HXR.out).mono ?_; rintro e w1 ⟨v1, rfl, hT, hb1⟩
    rw [HR.out] at hT ⊢
    obtain ⟨TA, tc, et, _⟩ := hT.form2
    subst et
    have g1 := bthen g0 hb1
    have hg1 := g1.size
    have HG := Lib.hid (g1.trans ((below_alloc w1 (.cells #[.slice TA 0 tc] 25)).mono hg1))
    clear hT hb1 c0 c1 c2 c3 c4 c5 kB g0 g1
    go_wp2
    go_ret2
    exact ⟨.slice none 0 0, by rw [HF.out]; rfl, by rw [HF.out]; exact BarsO.nil _ _ _, HG.out⟩
  · have hL5 := (okL_t hok).2.2.2.2.1
    have HF := Lib.hid (show bfQ x = (bfAll x.d.length (rtF x) x.d.length, true) by simp [bfQ, hok])
    have HR := Lib.hid (show rtM x = (matF x.d.length (rtF x), true) by simp [rtM, hok])
    have HP := Lib.hid (okL_t hok).2.2.1
    have HRG := Lib.hid (fun v w => rtF_rng (dN_all hok) v w)
    obtain ⟨L, hL⟩ : ∃ n, x.d.length = n := ⟨_, rfl⟩
    rw [hL] at HF HR hL5
    obtain ⟨f, hf⟩ : ∃ f, rtF x = f := ⟨_, rfl⟩
    rw [hf] at HF HR HRG
    clear hok hL hf
    go_enter Tryz.func13, Tryz.ntmps13
    go_wp2_with fail
    rw [← hW]; clear hW
    refine (implRankTable_any _ x _ HXR.out).mono ?_; rintro e w1 ⟨v1, rfl, hT, hb1⟩
    rw [HR.out] at hT ⊢
    obtain ⟨TA, tc, et, _⟩ := hT.form2
    rw [matF_length] at et
    subst et
    have g1 := bthen g0 hb1
    have hg1 := g1.size
    obtain ⟨w2, hw2⟩ : ∃ z, z = w1.alloc (.cells #[.slice TA L tc] 25) := ⟨_, rfl⟩
    have b2 : Below w1.heap.size w1 w2 := by rw [hw2]; exact below_alloc _ _
    have k2 : Blk w2 w1.heap.size 25 #[.slice TA L tc] := by rw [hw2]; exact Blk.new _ _ _
    have g2 := bthen g1 b2
    have HT := Lib.hid (SlII.next b2 hT.rd)
    have hg2 := k2.lt
    have t0 := k2.cell' (i := 0) rfl
    rw [hw2] at t0
    clear hT hb1 c0 c1 c2 c3 c4 c5 kB g0 g1 b2
    go_wp2
    rw [← hw2]; clear hw2 t0
    go_loopw [7, 21] (fun ov i wr => ∃ v : Nat, v ≤ L ∧ i = .int .i64 v ∧ BarsO wr w2.heap.size wr.heap.size ov (bfAll L f v) ∧ Below w2.heap.size w2 wr) (fun _ i _ => L - (intOf i).toNat)
    case atStart => exact ⟨0, Nat.zero_le _, rfl, by simpa [bfAll] using BarsO.nil w2 _ _, Below.refl _ _⟩
    case round =>
      obtain ⟨v, hv, rfl, hO, hbel⟩ := hrel
      have hws := hbel.size
      by_cases hlt : v < L
      · go_wp2
        obtain ⟨w3, hw3⟩ : ∃ z, z = wr := ⟨_, rfl⟩
        subst hw3
        go_loopw [7, 9] (fun ov i wq => ∃ n k : Nat, v + n ≤ L ∧ i = .int .i64 k ∧ Hid (k = v + n) ∧ BarsO wq w2.heap.size wq.heap.size ov (bfAll L f v ++ bfRow L f v n) ∧ Below w2.heap.size w2 wq) (fun _ i _ => L - (intOf i).toNat)
        case atStart => exact ⟨0, v, by omega, rfl, rfl, by simpa [bfRow] using hO, hbel⟩
        case round =>
          clear hO hbel
          obtain ⟨n, k, hn, rfl, HK, hO, hbel⟩ := hrel
          have hk1 : k ≤ v + n := Nat.le_of_eq HK.out
          have hk2 : v + n ≤ k := Nat.le_of_eq HK.out.symm
          obtain ⟨OA, oc, eo, _, _⟩ := hO.form
          have hl1 := bfAll_len L f v
          have hl2 := bfRow_len L f v n
          have hvL : v * L ≤ 5 * 5 := Nat.mul_le_mul (by omega) hL5
          obtain ⟨OL, hOL⟩ : ∃ z, (bfAll L f v ++ bfRow L f v n).length = z := ⟨_, rfl⟩
          have hOL2 : OL ≤ 100 := by rw [← hOL, List.length_append]; omega
          rw [hOL] at eo
          subst eo
          have hqs := hbel.size
          have HO := Lib.hid hO
          have HOL := Lib.hid hOL
          have t0 := (k2.below hbel k2.lt).cell' (i := 0) rfl
          by_cases hkL : k < L
          · have HTR := Lib.hid (SlII.more hqs (SlII.below hbel HT.out))
            have HB := Lib.hid hbel
            have r1 := atF_rng HRG.out (L := L) (v : Int) (k : Int)
            have r2 := atF_rng HRG.out (L := L) ((v : Int) - 1) (k : Int)
            have r3 := atF_rng HRG.out (L := L) (v : Int) ((k : Int) + 1)
            have r4 := atF_rng HRG.out (L := L) ((v : Int) - 1) ((k : Int) + 1)
            have hcf : cntF L f v (v + n) = atF L f (v : Int) (k : Int) - atF L f ((v : Int) - 1) (k : Int) - atF L f (v : Int) ((k : Int) + 1) + atF L f ((v : Int) - 1) ((k : Int) + 1) := by rw [cntF, ← HK.out]
            obtain ⟨t1, h1⟩ : ∃ z, atF L f (v : Int) (k : Int) = z := ⟨_, rfl⟩
            obtain ⟨t2, h2⟩ : ∃ z, atF L f ((v : Int) - 1) (k : Int) = z := ⟨_, rfl⟩
            obtain ⟨t3, h3⟩ : ∃ z, atF L f (v : Int) ((k : Int) + 1) = z := ⟨_, rfl⟩
            obtain ⟨t4, h4⟩ : ∃ z, atF L f ((v : Int) - 1) ((k : Int) + 1) = z := ⟨_, rfl⟩
            rw [h1] at r1 hcf
            rw [h2] at r2 hcf
            rw [h3] at r3 hcf
            rw [h4] at r4 hcf
            have HC := Lib.hid hcf
            have H1 := Lib.hid h1
            have H2 := Lib.hid h2
            have H3 := Lib.hid h3
            have H4 := Lib.hid h4
            have T0 := Lib.hid t0
            clear hO hbel hOL h1 h2 h3 h4 hcf
            go_wp2_with fail
            refine (bfAt_any L f v k _ tc TA _ hL5 (by omega) (by omega) T0.out HTR.out).mono ?_; rintro e w' ⟨rfl, hww⟩
            replace hww := hww.symm
            subst hww
            rw [H1.out]
            go_wp2_with fail
            refine (bfAt_any L f ((v : Int) - 1) k _ tc TA _ hL5 (by omega) (by omega) T0.out HTR.out).mono ?_; rintro e w' ⟨rfl, hww⟩
            replace hww := hww.symm
            subst hww
            rw [H2.out]
            go_wp2_with fail
            refine (bfAt_any L f v ((k : Int) + 1) _ tc TA _ hL5 (by omega) (by omega) T0.out HTR.out).mono ?_; rintro e w' ⟨rfl, hww⟩
            replace hww := hww.symm
            subst hww
            rw [H3.out]
            go_wp2_with fail
            refine (bfAt_any L f ((v : Int) - 1) ((k : Int) + 1) _ tc TA _ hL5 (by omega) (by omega) T0.out HTR.out).mono ?_; rintro e w' ⟨rfl, hww⟩
            replace hww := hww.symm
            subst hww
            rw [H4.out]
            by_cases hz : t1 - t2 - t3 + t4 = 0
            · have HSU := Lib.hid (show bfAll L f v ++ bfRow L f v (n + 1) = bfAll L f v ++ bfRow L f v n by
                rw [bfRow_succ, bfOne, HC.out, if_pos hz, List.append_nil])
              have hzb : (t1 - t2 - t3 + t4 != 0) = false := by rw [bne_eq_false_iff_eq]; exact hz
              clear hz
              go_wp2
              go_roundw
              case rel => exact ⟨n + 1, k + 1, by omega, by go_num, (by show k + 1 = v + (n + 1); omega), by rw [HSU.out]; exact HO.out, HB.out⟩
              case measure => simp [intOf]; omega
            · have HSU := Lib.hid (show bfAll L f v ++ bfRow L f v (n + 1) = (bfAll L f v ++ bfRow L f v n) ++ [((v : Int), (k : Int), t1 - t2 - t3 + t4)] by
                rw [bfRow_succ, bfOne, HC.out, if_neg hz, List.append_assoc, ← HK.out])
              have hzb : (t1 - t2 - t3 + t4 != 0) = true := by rw [bne_iff_ne]; exact hz
              have bz := below_alloc wr (.cells #[.int .i64 v, .int .i64 k, .int .i64 (t1 - t2 - t3 + t4)] 70)
              have HKZ := Lib.hid (Blk.new wr 70 #[.int .i64 v, .int .i64 k, .int .i64 (t1 - t2 - t3 + t4)])
              have HO2 := Lib.hid (HO.out.below bz)
              have HB2 := Lib.hid (HB.out.trans (bz.mono (by omega)))
              have hzs := bz.size
              clear bz
              (go_wp2_with (at_builtin; refine Hold.stop ?_)); unfold Hold
              refine wpList_appB rfl (.tmp 56) (.tmp 61) rfl w2.heap.size _ (.slice OA OL oc) (bfAll L f v ++ bfRow L f v n) rfl HO2.out wr.heap.size 1 ((v : Int), (k : Int), t1 - t2 - t3 + t4) rfl HKZ.out ⟨⟨by simp only; omega, by simp only; omega⟩, ⟨by simp only; omega, by simp only; omega⟩, ⟨by simp only; omega, by simp only; omega⟩⟩ (by rw [HOL.out]; omega) (by simp; omega) ?_
              intro v9 w9 ho9 hb9 _
              rw [← HSU.out] at ho9
              have HO9 := Lib.hid ho9
              have HB9 := Lib.hid (HB2.out.trans hb9)
              clear ho9 hb9 t0
              go_wp2
              go_roundw
              case rel => exact ⟨n + 1, k + 1, by omega, by go_num, (by show k + 1 = v + (n + 1); omega), HO9.out, HB9.out⟩
              case measure => simp [intOf]; omega
          · have HSU := Lib.hid (show bfAll L f (v + 1) = bfAll L f v ++ bfRow L f v n by rw [bfAll_succ, show L - v = n by omega])
            have HB := Lib.hid hbel
            clear hO hbel hOL
            go_wp2
            go_roundw
            case rel => exact ⟨v + 1, by omega, by go_num, by rw [HSU.out]; exact HO.out, HB.out⟩
            case measure => simp [intOf]; omega
      · have hvL : v = L := by omega
        obtain ⟨OA, oc, eo, _, _⟩ := hO.form
        subst eo
        have HO := Lib.hid (show BarsO wr w2.heap.size wr.heap.size (.slice OA (bfAll L f v).length oc) (bfAll L f L) by rw [show bfAll L f L = bfAll L f v by rw [hvL]]; exact hO)
        have HG := Lib.hid (g2.trans (hbel.mono (by omega)))
        clear hO hbel hvL
        go_wp2
        go_ret2
        exact ⟨_, by rw [HF.out]; rfl, by rw [HF.out]; exact HO.out.wider (by omega) (Nat.le_refl _), HG.out⟩
end Go.Proofs.YtgabmemalaklbaaGreat

/- The form of Euler: the program's euler, the reference's EulerForm and TitsForm. -/
namespace Go.Proofs.YtgabmemalaklbaaGreat
set_option linter.unusedVariables false
set_option linter.unusedSimpArgs false
open Go.RowKit

/-- a number of a vector of small numbers -/
def smallV (B : Int) (x : List Int) : Prop := ∀ y ∈ x, -B ≤ y ∧ y ≤ B
end Go.Proofs.YtgabmemalaklbaaGreat

/- The form of Euler: the reference's EulerForm and TitsForm. -/
namespace Go.Proofs.YtgabmemalaklbaaGreat
set_option linter.unusedVariables false
set_option linter.unusedSimpArgs false
open Go.RowKit

end Go.Proofs.YtgabmemalaklbaaGreat

/- What FnReflections calls besides: laws.big, laws.sameInts, the program's EulerForm and TitsForm. -/
namespace Go.Proofs.YtgabmemalaklbaaGreat
set_option linter.unusedVariables false
set_option linter.unusedSimpArgs false
open Go.RowKit

set_option maxHeartbeats 400000 in
theorem sameInts_any (u v : Value) (xs ys : List Int) (w : World) (hu : SlI w w.heap.size u xs) (hv : SlI w w.heap.size v ys) :
    Calls Tryz.prog 20 #[u, v] w fun e w' => e = .returned (.bool (decide (xs = ys))) ∧ Below w.heap.size w w' := by
  obtain ⟨A, c, rfl, _, _, hn, hx⟩ := hu.open_
  obtain ⟨C, d, rfl, _, _, hm, hy⟩ := hv.open_
  clear hu hv
  by_cases hnm : xs.length = ys.length
  · have heq : ((xs.length : Int) != ys.length) = false := by rw [bne_eq_false_iff_eq]; omega
    have HN := Lib.hid hnm
    clear hnm
    go_enter Tryz.func20, Tryz.ntmps20
    go_wp2
    go_loopw [5] (fun i wr => ∃ k q : Nat, k ≤ xs.length ∧ i = .int .i64 k ∧ wr = w.drewN q ∧ Hid (xs.take k = ys.take k)) (fun i _ => xs.length - (intOf i).toNat)
    case atStart => exact ⟨0, 0, Nat.zero_le _, rfl, rfl, rfl⟩
    case round =>
      obtain ⟨k, q, hk, rfl, rfl, hxy⟩ := hrel
      by_cases hlt : k < xs.length
      · have hlt' : k < ys.length := by have := HN.out; omega
        obtain ⟨b, o, x, rfl, hb, HX, c1, _⟩ := SlI.at_ hx hlt
        obtain ⟨b', o', x', rfl, hb', HX', c1', _⟩ := SlI.at_ hy hlt'
        clear hx hy
        by_cases hE : x = x'
        · subst hE
          go_wp2
          go_quiet (fail)
          go_wp2
          go_roundw
          case rel =>
            refine ⟨k + 1, q + nq, by omega, by go_num, rfl, ?_⟩
            show _ = _
            rw [take_snoc HX.out, take_snoc HX'.out, hxy.out]
          case measure => simp [intOf]; omega
        · have hne : (x != x') = true := by simpa using hE
          have hxy' : Hid (xs ≠ ys) := by
            rintro rfl
            have h2 := HX.out
            rw [HX'.out] at h2
            exact hE (by injection h2 with h2; exact h2.symm)
          clear hE
          go_wp2
          go_quiet (fail)
          go_wp2
          go_ret
          exact ⟨by rw [decide_eq_false hxy'.out]; rfl, below_drewN (drewN_below _ _ _) _⟩
      · go_wp2
        go_ret
        refine ⟨?_, drewN_below _ _ _⟩
        have h1 := hxy.out
        rw [List.take_of_length_le (by omega), List.take_of_length_le (by have := HN.out; omega)] at h1
        simp [h1]
  · have hne : ((xs.length : Int) != ys.length) = true := by rw [bne_iff_ne]; omega
    go_enter Tryz.func20, Tryz.ntmps20
    go_wp2
    go_ret
    refine ⟨?_, Below.refl _ _⟩
    rw [decide_eq_false (by rintro rfl; omega)]; rfl
theorem sameI_any (u v : Value) (l : List Int) (w : World) (hu : SlI w w.heap.size u l) (hv : SlI w w.heap.size v l) :
    Calls Tryz.prog 20 #[u, v] w fun e w' => e = .returned (.bool true) ∧ Below w.heap.size w w' := by
  refine (sameInts_any u v l l w hu hv).mono ?_
  rintro e w1 ⟨rfl, hb⟩
  exact ⟨by simp, hb⟩
set_option maxHeartbeats 400000 in
theorem big_any (u : Value) (l : List Int) (w : World) (hu : SlY w w.heap.size u l) :
    Calls Tryz.prog 4 #[u] w fun e w' => e = .returned (.bool (decide ((l.length : Int) > 1048576))) ∧ Below w.heap.size w w' := by
  obtain ⟨A, c, rfl, _, _, hn, hx⟩ := hu.open_
  clear hu
  go_enter Tryz.func4, Tryz.ntmps4
  go_wp2
  go_ret
  exact ⟨rfl, Below.refl _ _⟩
def tfQ (q : Qv) (x : List Int) : Int := if isNum q x then eul q x x else 0
end Go.Proofs.YtgabmemalaklbaaGreat
