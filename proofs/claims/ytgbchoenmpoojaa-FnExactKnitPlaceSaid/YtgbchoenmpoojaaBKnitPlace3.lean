/- FnExactKnitPlace: for every argument the program's function returns what the reference's returns. Part 3 of 9 of the proof: Num, Symm, Symm2, Refl, Order3, PthA, Refl2, SMin, Mat, Mat2, Mat3, Pencil, GIdx, Seat. No condition. -/
import Derived.Test.YtgbchoenmpoojaaBKnitPlace2
import Derived.Shelf.RegionOpenPlain
/- Number vectors of quivers: areNumbers, l18Vector, hasVertex, l21Loop. -/
namespace Go.Proofs.Ytgbchoenmpoojaa
set_option linter.unusedVariables false
set_option linter.unusedSimpArgs false
open Go.RowKit

def isNum (q : Qv) (x : List Int) : Bool := isQ q && decide ((x.length : Int) = q.v) && allR x (-100) 100
theorem isNum_t {q : Qv} {x : List Int} : isNum q x = true ↔ isQ q = true ∧ (x.length : Int) = q.v ∧ ∀ y ∈ x, -100 ≤ y ∧ y ≤ 100 := by
  simp only [isNum, Bool.and_eq_true, decide_eq_true_eq, allR_t, and_assoc]

set_option maxHeartbeats 400000 in
theorem areNumbers_any (u xv : Value) (q : Qv) (xs : List Int) (w : World) (hu : QvR w w.heap.size u q) (hx : SlI w w.heap.size xv xs) :
    Calls Try.prog 95 #[u, xv] w fun e w' => e = .returned (.bool (isNum q xs)) ∧ Below w.heap.size w w' := by
  have hu' := hu
  obtain ⟨A, c, C, d, rfl, hf, hT, hr, lf, lt⟩ := hu.open_
  have hx' := hx
  obtain ⟨XA, xc, rfl, _, _, lx, _⟩ := hx.open_
  clear hu hx hf hT
  obtain ⟨W, hW⟩ : ∃ W, W = w.alloc (.cells #[.int .i64 q.v, .slice A q.f.length c, .slice C q.t.length d] 27) := ⟨_, rfl⟩
  have g0 : Below w.heap.size w W := by rw [hW]; exact below_alloc _ _
  have kB : Blk W w.heap.size 27 #[.int .i64 q.v, .slice A q.f.length c, .slice C q.t.length d] := by rw [hW]; exact Blk.new _ _ _
  have c0 := kB.cell' (i := 0) rfl
  have c1 := kB.cell' (i := 1) rfl
  have c2 := kB.cell' (i := 2) rfl
  have h0 := QvR.next g0 hu'
  have hx0 := SlI.next g0 hx'
  clear hu' hx'
  rcases hq : isQ q with _ | _
  · have hfin : Hid (isNum q xs = false) := by show _ = _; simp [isNum, hq]
    go_enter Try.func95, Try.ntmps95
    go_wp2_with fail
    rw [← hW]; clear hW
    refine (implIsQuiver_any _ _ _ h0).mono ?_; rintro e w1 ⟨rfl, hb1⟩
    rw [hq]
    go_wp2
    go_ret
    exact ⟨by rw [hfin.out]; rfl, bthen g0 hb1⟩
  by_cases hl : (xs.length : Int) = q.v
  · have hl' : ((xs.length : Int) == q.v) = true := by rw [beq_iff_eq]; exact hl
    obtain ⟨B, hB⟩ : ∃ B, allR xs (-100) 100 = B := ⟨_, rfl⟩
    have hfin : Hid (isNum q xs = B) := by show _ = _; simp [isNum, hq, hl, hB]
    have HB := Lib.hid hB
    clear hl hB
    cases B
    all_goals
      go_enter Try.func95, Try.ntmps95
      go_wp2_with fail
      rw [← hW]; clear hW
      refine (implIsQuiver_any _ _ _ h0).mono ?_; rintro e w1 ⟨rfl, hb1⟩
      rw [hq]
      have d0 := (kB.call hb1).cell' (i := 0) rfl
      clear c0 c1 c2
      have hx1 := SlI.next hb1 hx0
      go_wp2_with fail
      refine (allWithin_any _ xs _ _ _ hx1).mono ?_; rintro e w2 ⟨rfl, hb2⟩
      rw [HB.out]
      go_wp2
      go_ret
      exact ⟨by rw [hfin.out]; rfl, bthen (bthen g0 hb1) hb2⟩
  · have hl' : ((xs.length : Int) == q.v) = false := by rw [beq_eq_false_iff_ne]; exact hl
    have hfin : Hid (isNum q xs = false) := by show _ = _; simp [isNum, hl]
    clear hl
    go_enter Try.func95, Try.ntmps95
    go_wp2_with fail
    rw [← hW]; clear hW
    refine (implIsQuiver_any _ _ _ h0).mono ?_; rintro e w1 ⟨rfl, hb1⟩
    rw [hq]
    have d0 := (kB.call hb1).cell' (i := 0) rfl
    clear c0 c1 c2
    go_wp2
    go_ret
    exact ⟨by rw [hfin.out]; rfl, bthen g0 hb1⟩

set_option maxHeartbeats 800000 in
theorem l18Vector_any (u xv : Value) (q : Qv) (xs : List Int) (w : World) (hu : QvR w w.heap.size u q) (hx : SlI w w.heap.size xv xs) :
    Calls Try.prog 88 #[u, xv] w fun e w' => e = .returned (.bool (isNum q xs)) ∧ Below w.heap.size w w' := by
  have hu' := hu
  obtain ⟨A, c, C, d, rfl, hf, hT, hr, lf, lt⟩ := hu.open_
  obtain ⟨XA, xc, rfl, _, _, lx, hx'⟩ := hx.open_
  clear hu hx hf hT
  have g0 : Below w.heap.size w (w.alloc (.cells #[.int .i64 q.v, .slice A q.f.length c, .slice C q.t.length d] 27)) := below_alloc _ _
  have kB := Blk.new w 27 #[.int .i64 q.v, .slice A q.f.length c, .slice C q.t.length d]
  go_enter Try.func88, Try.ntmps88
  go_wp2
  go_loopw [5] (fun i wr => ∃ k : Nat, k ≤ xs.length ∧ i = .int .i64 k ∧ Below w.heap.size w wr ∧ Blk wr w.heap.size 27 #[.int .i64 q.v, .slice A q.f.length c, .slice C q.t.length d] ∧ Hid (∀ y ∈ xs.take k, inR y (-100) 100 = true)) (fun i _ => xs.length - (intOf i).toNat)
  case atStart => exact ⟨0, Nat.zero_le _, rfl, g0, kB, by intro y hy; simp at hy⟩
  case round =>
    clear g0 kB
    obtain ⟨k, hk, rfl, hbel, hkB, hok⟩ := hrel
    have e0 := hkB.cell' (i := 0) rfl
    have e1 := hkB.cell' (i := 1) rfl
    have e2 := hkB.cell' (i := 2) rfl
    by_cases hlt : k < xs.length
    · obtain ⟨b, o, x, rfl, hb, HX, x1, _⟩ := SlI.at_ hx' hlt
      have x2 := bcell hbel hb x1
      clear x1
      rcases hB1 : inR x (-100) 100 with _ | _
      · have hfin : Hid (isNum q xs = false) := by
          show _ = _
          have : allR xs (-100) 100 = false := by
            rw [allR, List.all_eq_false]
            exact ⟨x, List.mem_of_getElem? HX.out, by simp [hB1]⟩
          simp [isNum, this]
        go_wp2_with fail
        refine (l1In_any _ _ _ _).mono ?_; rintro e w9 ⟨rfl, rfl⟩
        rw [hB1]
        go_wp2
        go_ret
        exact ⟨by rw [hfin.out]; rfl, hbel⟩
      · have hst : Hid (∀ y ∈ xs.take (k + 1), inR y (-100) 100 = true) := by
          intro y hy
          rw [take_snoc HX.out, List.mem_append, List.mem_singleton] at hy
          rcases hy with hy | rfl
          · exact hok.out y hy
          · exact hB1
        go_wp2_with fail
        refine (l1In_any _ _ _ _).mono ?_; rintro e w9 ⟨rfl, rfl⟩
        rw [hB1]
        go_wp2
        go_roundw
        case rel => exact ⟨k + 1, by omega, by go_num, hbel, hkB, hst.out⟩
        case measure => simp [intOf]; omega
    · have hrq := QvR.more (B' := wr.heap.size) (by have := hbel.size; omega) (QvR.below hbel hu')
      have hall : allR xs (-100) 100 = true := by
        have h := hok.out
        rw [List.take_of_length_le (by omega)] at h
        exact List.all_eq_true.2 h
      rcases hq : isQ q with _ | _
      · have hfin : Hid (isNum q xs = false) := by show _ = _; simp [isNum, hq]
        clear hall
        go_wp2_with fail
        refine (specIsQuiver_any _ _ _ hrq).mono ?_; rintro e w1 ⟨rfl, hb1⟩
        rw [hq]
        go_wp2
        go_ret
        exact ⟨by rw [hfin.out]; rfl, hbel.trans (hb1.mono hbel.size)⟩
      · obtain ⟨B, hB⟩ : ∃ B, ((xs.length : Int) == q.v) = B := ⟨_, rfl⟩
        have hfin : Hid (isNum q xs = B) := by show _ = _; rw [← hB, isNum, hq, hall, Bool.and_true, Bool.true_and, Bool.eq_iff_iff, decide_eq_true_eq, beq_iff_eq]
        clear hall
        go_wp2_with fail
        refine (specIsQuiver_any _ _ _ hrq).mono ?_; rintro e w1 ⟨rfl, hb1⟩
        rw [hq]
        have f0 := (hkB.call hb1).cell' (i := 0) rfl
        clear e0 e1 e2
        cases B
        all_goals
          go_wp2
          go_ret
          exact ⟨by rw [hfin.out]; rfl, hbel.trans (hb1.mono hbel.size)⟩

theorem hasVertex_any (u : Value) (q : Qv) (v : Int) (w : World) (hu : QvR w w.heap.size u q) (hv : 1 ≤ q.v ∧ q.v ≤ 5) :
    Calls Try.prog 55 #[u, .int .i64 v] w fun e w' => e = .returned (.bool (inR v 0 (q.v - 1))) ∧ Below w.heap.size w w' := by
  obtain ⟨A, c, C, d, rfl, hf, hT, hr, lf, lt⟩ := hu.open_
  obtain ⟨hv1, hv2⟩ := hv
  have g0 := below_alloc w (.cells #[.int .i64 q.v, .slice A q.f.length c, .slice C q.t.length d] 27)
  go_enter Try.func55, Try.ntmps55
  go_wp2_with fail
  refine (within_any _ _ _ _).mono ?_; rintro e w' ⟨rfl, rfl⟩
  go_wp2
  go_ret
  exact ⟨rfl, g0⟩

/-- whether an arrow leads from v to v -/
def loopQ (q : Qv) (v : Int) : Bool := (q.f.zip q.t).any fun p => p.1 == v && p.2 == v
theorem loopQ_yes {q : Qv} {v x y : Int} {k : Nat} (hx : q.f[k]? = some x) (hy : q.t[k]? = some y) (h1 : (x == v) = true) (h2 : (y == v) = true) : loopQ q v = true := by
  rw [loopQ, List.any_eq_true]
  refine ⟨(x, y), ?_, by simp [h1, h2]⟩
  rw [List.mem_iff_getElem?]
  exact ⟨k, by rw [List.getElem?_zip_eq_some]; exact ⟨hx, hy⟩⟩
theorem loopQ_no {q : Qv} {v : Int} (h : ∀ (j : Nat) (x y : Int), q.f[j]? = some x → q.t[j]? = some y → (x == v && y == v) = false) : loopQ q v = false := by
  rw [loopQ, List.any_eq_false]
  rintro ⟨x, y⟩ hp
  rw [List.mem_iff_getElem?] at hp
  obtain ⟨j, hj⟩ := hp
  rw [List.getElem?_zip_eq_some] at hj
  simp [h j x y hj.1 hj.2]

set_option maxHeartbeats 400000 in
theorem l21Loop_any (u : Value) (q : Qv) (v : Int) (w : World) (hu : QvR w w.heap.size u q) (hl : q.f.length = q.t.length) :
    Calls Try.prog 134 #[u, .int .i64 v] w fun e w' => e = .returned (.bool (loopQ q v)) ∧ Below w.heap.size w w' := by
  obtain ⟨A, c, C, d, rfl, hf, hT, hr, lf, lt⟩ := hu.open_
  clear hu
  have HL := Lib.hid hl
  clear hl
  have g0 : Below w.heap.size w (w.alloc (.cells #[.int .i64 q.v, .slice A q.f.length c, .slice C q.t.length d] 27)) := below_alloc _ _
  have kB := Blk.new w 27 #[.int .i64 q.v, .slice A q.f.length c, .slice C q.t.length d]
  go_enter Try.func134, Try.ntmps134
  go_wp2
  go_loopw [5] (fun i wr => ∃ k n : Nat, k ≤ q.f.length ∧ i = .int .i64 k ∧ wr = (w.alloc (.cells #[.int .i64 q.v, .slice A q.f.length c, .slice C q.t.length d] 27)).drewN n ∧ Hid (∀ (j : Nat) (x y : Int), j < k → q.f[j]? = some x → q.t[j]? = some y → (x == v && y == v) = false)) (fun i _ => q.f.length - (intOf i).toNat)
  case atStart => exact ⟨0, 0, Nat.zero_le _, rfl, rfl, fun j x y h => absurd h (by omega)⟩
  case round =>
    obtain ⟨k, n, hk, rfl, hwr, hok⟩ := hrel
    have hbel : Below w.heap.size w wr := by rw [hwr]; exact below_drewN g0 n
    have hkB : Blk wr w.heap.size 27 #[.int .i64 q.v, .slice A q.f.length c, .slice C q.t.length d] := by rw [hwr]; exact kB.drewN n
    have HW := Lib.hid hwr
    have e1 := hkB.cell' (i := 1) rfl
    have e2 := hkB.cell' (i := 2) rfl
    clear hwr
    by_cases hlt : k < q.f.length
    · have hlt' : k < q.t.length := by have := HL.out; omega
      obtain ⟨b, o, x, rfl, hb, HX, x1, _⟩ := SlI.at_ hf hlt
      obtain ⟨b2, o2, y, rfl, hb2, HY, y1, _⟩ := SlI.at_ hT hlt'
      have x2 := bcell hbel hb x1
      have y2 := bcell hbel hb2 y1
      clear x1 y1 hf hT
      rcases hxv : (x == v) with _ | _
      · have hst : Hid (∀ (j : Nat) (x y : Int), j < k + 1 → q.f[j]? = some x → q.t[j]? = some y → (x == v && y == v) = false) := by
          intro j x' y' hj h1 h2
          by_cases e : j = k
          · subst e
            rw [HX.out] at h1
            injection h1 with h1
            rw [← h1, hxv]; rfl
          · exact hok.out j x' y' (by omega) h1 h2
        go_wp2
        go_roundw
        case rel => exact ⟨k + 1, n, by omega, by go_num, HW.out, hst.out⟩
        case measure => simp [intOf]; omega
      · rcases hyv : (y == v) with _ | _
        · have hst : Hid (∀ (j : Nat) (x y : Int), j < k + 1 → q.f[j]? = some x → q.t[j]? = some y → (x == v && y == v) = false) := by
            intro j x' y' hj h1 h2
            by_cases e : j = k
            · subst e
              rw [HY.out] at h2
              injection h2 with h2
              rw [← h2, hyv, Bool.and_false]
            · exact hok.out j x' y' (by omega) h1 h2
          go_wp2
          go_roundw
          case rel => exact ⟨k + 1, n, by omega, by go_num, HW.out, hst.out⟩
          case measure => simp [intOf]; omega
        · have hfin : Hid (loopQ q v = true) := loopQ_yes HX.out HY.out hxv hyv
          go_wp2
          go_ret
          exact ⟨by rw [hfin.out]; rfl, hbel⟩
    · have hfin : Hid (loopQ q v = false) := loopQ_no fun j x y h1 h2 => hok.out j x y (by have := lt_of_some h1; omega) h1 h2
      go_wp2
      go_ret
      exact ⟨by rw [hfin.out]; rfl, hbel⟩
end Go.Proofs.Ytgbchoenmpoojaa

/- The symmetric form of a quiver. -/
namespace Go.Proofs.Ytgbchoenmpoojaa
set_option linter.unusedVariables false
set_option linter.unusedSimpArgs false
open Go.RowKit

/-- arrows from a to b among the first k -/
def arr (q : Qv) (a b k : Nat) : Nat := ((q.f.zip q.t).take k).countP fun p => p.1 == (a : Int) && p.2 == (b : Int)
def ent (q : Qv) (k a b : Nat) : Int := (if a = b then 2 else 0) - arr q a b k - arr q b a k
def symM (q : Qv) : List (List Int) := matF q.v.toNat (ent q q.f.length)
theorem arr_le (q : Qv) (a b k : Nat) : arr q a b k ≤ q.f.length := by
  refine Nat.le_trans List.countP_le_length ?_
  simp; omega
theorem arr_zero (q : Qv) (a b : Nat) : arr q a b 0 = 0 := by simp [arr]
theorem arr_succ {q : Qv} {k a b x y : Nat} (hx : q.f[k]? = some (x : Int)) (hy : q.t[k]? = some (y : Int)) : arr q a b (k + 1) = arr q a b k + if x = a ∧ y = b then 1 else 0 := by
  have e : (q.f.zip q.t)[k]? = some ((x : Int), (y : Int)) := by rw [List.getElem?_zip_eq_some]; exact ⟨hx, hy⟩
  rw [arr, take_snoc e, List.countP_append, arr]
  congr 1
  rw [List.countP_singleton]
  by_cases h : x = a ∧ y = b
  · rw [if_pos h, if_pos (by simp [h.1, h.2])]
  · rw [if_neg h, if_neg]
    simp only [Bool.and_eq_true, beq_iff_eq]
    omega
theorem ent_rng (q : Qv) (k a b : Nat) (h : q.f.length ≤ 6) : -12 ≤ ent q k a b ∧ ent q k a b ≤ 2 := by
  have h1 := arr_le q a b k
  have h2 := arr_le q b a k
  unfold ent
  split <;> omega
theorem ent_zero (q : Qv) (a b : Nat) : ent q 0 a b = if a = b then 2 else 0 := by simp [ent, arr_zero]
theorem ent_succ {q : Qv} {k x y : Nat} (hx : q.f[k]? = some (x : Int)) (hy : q.t[k]? = some (y : Int)) (a b : Nat) : ent q (k + 1) a b = ent q k a b - (if a = x ∧ b = y then 1 else 0) - (if a = y ∧ b = x then 1 else 0) := by
  rw [ent, arr_succ hx hy, arr_succ hx hy, ent]
  by_cases h1 : x = a ∧ y = b
  · rw [if_pos h1, if_pos (c := a = x ∧ b = y) ⟨h1.1.symm, h1.2.symm⟩]
    by_cases h2 : x = b ∧ y = a
    · rw [if_pos h2, if_pos (c := a = y ∧ b = x) ⟨h2.2.symm, h2.1.symm⟩]; split <;> omega
    · rw [if_neg h2, if_neg (c := a = y ∧ b = x) (fun h => h2 ⟨h.2.symm, h.1.symm⟩)]; split <;> omega
  · rw [if_neg h1, if_neg (c := a = x ∧ b = y) (fun h => h1 ⟨h.1.symm, h.2.symm⟩)]
    by_cases h2 : x = b ∧ y = a
    · rw [if_pos h2, if_pos (c := a = y ∧ b = x) ⟨h2.2.symm, h2.1.symm⟩]; split <;> omega
    · rw [if_neg h2, if_neg (c := a = y ∧ b = x) (fun h => h2 ⟨h.2.symm, h.1.symm⟩)]; split <;> omega

theorem OwnI.newBlk {w : World} {base N : Nat} {cs : Array Value} {l : List Int} (hb : base ≤ w.heap.size) (hN : N ≤ 17592186044416) (hl : l.length = N) (hc : cs.toList = l.map (Value.int .i64)) (hr : ∀ x ∈ l, I64 x) : OwnI (w.alloc (.cells cs 3)) base (.slice (some ⟨w.heap.size, 0, none⟩) N N) l := by
  have hs : cs.size = N := by rw [← Array.length_toList, hc, List.length_map, hl]
  have h := (Blk.new w 3 cs).own (base := base) (n := N) (cap := N) (size := 1) hb (Nat.le_refl _) (by simp only [maxLen]; omega) (by omega)
  rw [hc, List.take_of_length_le (by simp; omega)] at h
  exact ⟨by rw [hl]; exact h, by omega, hr⟩
theorem Fam.far {w : World} {lo hi : Nat} {L : List (Value × List Int)} (h : Fam w lo hi L) {p : Addr} (hp : hi ≤ p.block) (u : Value) : Fam (w.setCell p u) lo hi L :=
  ⟨fun x hx => ⟨(h.1 x hx).1.setCell (fun e => by have := (h.1 x hx).2 _ e; omega) u, (h.1 x hx).2⟩, h.2⟩

theorem matF_dec {V : Nat} (g : Nat → Nat → Int) (x y : Nat) : (matF V g).set x ((rowF V (g x)).set y (g x y - 1)) = matF V fun a b => g a b - if a = x ∧ b = y then 1 else 0 := by
  rw [rowF_set, matF_set]
  apply matF_congr
  intro a b _ _
  by_cases e : a = x
  · subst e
    rw [if_pos rfl]
    by_cases e2 : b = y
    · subst e2
      rw [if_pos rfl, if_pos ⟨rfl, rfl⟩]
    · rw [if_neg e2, if_neg (fun h => e2 h.2)]; omega
  · rw [if_neg e, if_neg (fun h => e h.1)]; omega

set_option maxHeartbeats 1600000 in
theorem symmetric_any (u : Value) (q : Qv) (w : World) (hu : QvR w w.heap.size u q) (hq : isQ q = true) :
    Calls Try.prog 91 #[u] w fun e w' => ∃ v, e = .returned v ∧ IntssO w' w.heap.size w'.heap.size v (symM q) ∧ Below w.heap.size w w' := by
  obtain ⟨qv, qf, qt⟩ := q
  obtain ⟨A, c, C, d, rfl, hf, hT, hr, lf, lt⟩ := hu.open_
  clear hu
  obtain ⟨⟨hv1, hv2⟩, hlen, hl6, hfr, htr⟩ := isQ_t.1 hq
  dsimp only at *
  obtain ⟨V, rfl⟩ : ∃ V : Nat, qv = V := ⟨qv.toNat, by omega⟩
  have hV5 : V ≤ 5 := by omega
  have HLE := Lib.hid hlen
  have HR := Lib.hid (And.intro hfr htr)
  clear hlen hfr htr
  obtain ⟨i0, hi, hz0, hz1, hz2⟩ := info_parts infoInts
  have hmk := run_mk (P := Try.prog) Try.underlying36 hi hz0 (n := V) (by rw [hz2]; omega) (by omega)
  rw [hz1] at hmk
  clear hi hz0 hz1 hz2
  obtain ⟨i1, hi, hz0, hz1, hz2⟩ := info_parts infoInt
  have hmk1 := run_mk (P := Try.prog) Try.underlying22 hi hz0 (n := V) (by rw [hz2]; omega) (by omega)
  rw [hz1] at hmk1
  clear hi hz0 hz1 hz2
  obtain ⟨W, hW⟩ : ∃ W, W = (w.alloc (.cells #[.int .i64 V, .slice A qf.length c, .slice C qt.length d] 27)).alloc (.cells (mkCells (.slice none 0 0) V) 22) := ⟨_, rfl⟩
  have g0 : Below w.heap.size w W := by rw [hW]; exact ((Below.refl _ _).alloc (Nat.le_refl _) _).alloc (by simp) _
  have kB : Blk W w.heap.size 27 #[.int .i64 V, .slice A qf.length c, .slice C qt.length d] := by rw [hW]; exact (Blk.new _ _ _).alloc _
  have kO : Blk W (w.heap.size + 1) 22 (mkCells (.slice none 0 0) V) := by
    rw [hW]
    have := Blk.new (w.alloc (.cells #[.int .i64 V, .slice A qf.length c, .slice C qt.length d] 27)) 22 (mkCells (.slice none 0 0) V)
    simpa only [World.size_alloc] using this
  have zW : w.heap.size + 1 < W.heap.size := kO.lt
  go_enter Try.func91, Try.ntmps91
  go_wp2
  rw [← hW]; clear hW hmk
  go_loopw [12] (fun i wr => ∃ (cs : Array Value) (vs : List Value), vs.length ≤ V ∧ i = .int .i64 vs.length ∧ Below w.heap.size w wr ∧ Blk wr w.heap.size 27 #[.int .i64 V, .slice A qf.length c, .slice C qt.length d] ∧ Blk wr (w.heap.size + 1) 22 cs ∧ OutCs cs V vs ∧ Fam wr w.heap.size wr.heap.size (vs.zip ((matF V (ent ⟨V, qf, qt⟩ 0)).take vs.length))) (fun i _ => V - (intOf i).toNat)
  case atStart => exact ⟨_, [], Nat.zero_le _, rfl, g0, kB, kO, ⟨by simp [mkCells_size], by simp, fun j v h => by simp at h⟩, ⟨fun p hp => by simp at hp, by simp⟩⟩
  case round =>
    clear g0 kB kO zW
    obtain ⟨cs, vs, hk, rfl, hbel, hkB, hblk, hcs, hF⟩ := hrel
    have e0 := hkB.cell' (i := 0) rfl
    have e1 := hkB.cell' (i := 1) rfl
    have e2 := hkB.cell' (i := 2) rfl
    have hsz := hbel.size
    by_cases hlt : vs.length < V
    · have hgo := hblk.lt
      have hvs5 : vs.length ≤ 5 := by omega
      have hO := hblk.set_ vs.length (.slice (some ⟨wr.heap.size, 0, none⟩) V V)
      have hO1 := hO.alloc (.cells (mkCells (.int .i64 0) V) 3)
      have hQ1 := (hkB.far (p := ⟨w.heap.size + 1, vs.length, none⟩) (by simp) (.slice (some ⟨wr.heap.size, 0, none⟩) V V)).alloc (.cells (mkCells (.int .i64 0) V) 3)
      have f0 := hblk.frozen vs.length
      obtain ⟨v0, c0⟩ : ∃ v0, wr.cell? ⟨w.heap.size + 1, vs.length, none⟩ = some v0 := by rw [hblk.cell]; have := hcs.1; exact ⟨_, Array.getElem?_eq_getElem (by omega)⟩
      have cS := hO1.cell' (i := vs.length) (v := .slice (some ⟨wr.heap.size, 0, none⟩) V V) (by have := hcs.1; simp [Array.getElem?_setIfInBounds]; omega)
      have k0 := hQ1.cell' (i := 0) rfl
      have hv1 := OwnI.made0 (w := wr.setCell ⟨w.heap.size + 1, vs.length, none⟩ (.slice (some ⟨wr.heap.size, 0, none⟩) V V)) (base := wr.heap.size) (N := V) (by simp) (by omega)
      have zs : (wr.setCell ⟨w.heap.size + 1, vs.length, none⟩ (.slice (some ⟨wr.heap.size, 0, none⟩) V V)).heap.size = wr.heap.size := by simp
      rw [zs] at hv1
      have ZS := Lib.hid zs
      clear zs
      have c3 := (hv1.cellG (j := vs.length) (by simpa using hlt)).1
      have f3 := hv1.frozenG vs.length
      rw [show (List.replicate V (0 : Int)).getD vs.length 0 = 0 by rw [List.getD_eq_getElem?_getD, List.getElem?_replicate, if_pos hlt]; rfl] at c3
      have hv3 : OwnI ((wr.setCell ⟨w.heap.size + 1, vs.length, none⟩ (.slice (some ⟨wr.heap.size, 0, none⟩) V V)).alloc (.cells ((mkCells (.int .i64 0) V).setIfInBounds vs.length (.int .i64 2)) 3)) wr.heap.size (.slice (some ⟨wr.heap.size, 0, none⟩) V V) ((List.replicate V (0 : Int)).set vs.length 2) := by
        have h := OwnI.newBlk (w := wr.setCell ⟨w.heap.size + 1, vs.length, none⟩ (.slice (some ⟨wr.heap.size, 0, none⟩) V V)) (base := wr.heap.size) (N := V) (cs := (mkCells (.int .i64 0) V).setIfInBounds vs.length (.int .i64 2)) (l := (List.replicate V (0 : Int)).set vs.length 2) (by simp) (by omega) (by simp) (by
          rw [Array.toList_setIfInBounds, show (mkCells (.int .i64 0) V).toList = List.replicate V (.int .i64 0) from toList_madeCells_one _ _, List.map_set, List.map_replicate]) (fun x hx => by
          rcases List.mem_or_eq_of_mem_set hx with hx | rfl
          · obtain ⟨_, rfl⟩ := List.mem_replicate.1 hx
            exact ⟨by decide, by decide⟩
          · exact ⟨by decide, by decide⟩)
        rw [ZS.out] at h
        exact h
      have hF2 := (hF.setBlk (i := vs.length) hblk (by decide) (.slice (some ⟨wr.heap.size, 0, none⟩) V V)).below (below_alloc _ (.cells ((mkCells (.int .i64 0) V).setIfInBounds vs.length (.int .i64 2)) 3))
      have hQ3 := (hkB.far (p := ⟨w.heap.size + 1, vs.length, none⟩) (by simp) (.slice (some ⟨wr.heap.size, 0, none⟩) V V)).alloc (.cells ((mkCells (.int .i64 0) V).setIfInBounds vs.length (.int .i64 2)) 3)
      have hO3 := hO.alloc (.cells ((mkCells (.int .i64 0) V).setIfInBounds vs.length (.int .i64 2)) 3)
      have hrow : (List.replicate V (0 : Int)).set vs.length 2 = rowF V (ent ⟨V, qf, qt⟩ 0 vs.length) := by
        rw [show List.replicate V (0 : Int) = rowF V (fun _ => 0) from by rw [rowF, List.map_const', List.length_range], rowF_set]
        apply rowF_congr
        intro b _
        rw [ent_zero]
        by_cases e : b = vs.length
        · rw [if_pos e, if_pos e.symm]
        · rw [if_neg e, if_neg (fun h => e h.symm)]
      rw [hrow] at hv3
      have hF3 := hF2.snoc (hi := wr.heap.size + 1) ⟨hv3, fun k hk => by simp [Value.ownBlock] at hk; omega⟩ hsz (by omega)
      have hzip : vs.zip ((matF V (ent ⟨V, qf, qt⟩ 0)).take vs.length) ++ [(Value.slice (some ⟨wr.heap.size, 0, none⟩) V V, rowF V (ent ⟨V, qf, qt⟩ 0 vs.length))] = (vs ++ [Value.slice (some ⟨wr.heap.size, 0, none⟩) V V]).zip ((matF V (ent ⟨V, qf, qt⟩ 0)).take (vs ++ [Value.slice (some ⟨wr.heap.size, 0, none⟩) V V]).length) := by
        rw [List.length_append, List.length_singleton, take_snoc (matF_get _ hlt), List.zip_append (by simp [matF_length]; omega)]
        rfl
      rw [hzip] at hF3
      have HF3 := Lib.hid hF3
      clear hF hF2 hF3 hzip hrow hv1 hv2 hv3
      go_wp2
      go_roundw
      case rel => exact ⟨_, vs ++ [.slice (some ⟨wr.heap.size, 0, none⟩) V V], by simp; omega, by simp, (hbel.setCell (by simp) _).alloc (by simpa using hsz) _, hQ3, hO3, hcs.step hlt, by simpa using HF3.out⟩
      case measure => simp [intOf]; omega
    · have hvV : vs.length = V := by omega
      have ho : OutO wr w.heap.size wr.heap.size (.slice (some ⟨w.heap.size + 1, 0, none⟩) V V) vs := by
        have h1 := hcs
        rw [← hvV] at h1 ⊢
        exact h1.own hblk (by omega) (by omega)
      have hF0 : Fam wr w.heap.size wr.heap.size (vs.zip (matF V (ent ⟨V, qf, qt⟩ 0))) := by
        rwa [List.take_of_length_le (by rw [matF_length]; omega)] at hF
      have HVV := Lib.hid hvV
      have hbel0 := hbel
      have hkB0 := hkB
      go_wp2
      clear hvV hF hcs hblk hlt hbel hkB e0 e1 e2 hmk1
      have hmo : Try.prog.follows .mixedOrders = true := by kernel_rfl
      go_loopw [31] (fun i wr => ∃ k : Nat, k ≤ qf.length ∧ i = .int .i64 k ∧ Below w.heap.size w wr ∧ Blk wr w.heap.size 27 #[.int .i64 V, .slice A qf.length c, .slice C qt.length d] ∧ OutO wr w.heap.size wr.heap.size (.slice (some ⟨w.heap.size + 1, 0, none⟩) V V) vs ∧ Fam wr w.heap.size wr.heap.size (vs.zip (matF V (ent ⟨V, qf, qt⟩ k)))) (fun i _ => qf.length - (intOf i).toNat)
      case atStart => exact ⟨0, Nat.zero_le _, rfl, hbel0, hkB0, ho, hF0⟩
      case round =>
        clear hbel0 hkB0 ho hF0
        obtain ⟨k, hk, rfl, hbel, hkB, ho, hF⟩ := hrel
        have e0 := hkB.cell' (i := 0) rfl
        have e1 := hkB.cell' (i := 1) rfl
        have e2 := hkB.cell' (i := 2) rfl
        have hsz0 := Lib.hid hbel.size
        by_cases hlt : k < qf.length
        · have hltT : k < qt.length := by have := HLE.out; omega
          obtain ⟨b, o, x', rfl, hb, HX, x1, _⟩ := SlI.at_ hf hlt
          obtain ⟨b2, o2, y', rfl, hb2, HY, y1, _⟩ := SlI.at_ hT hltT
          have hxr := HR.out.1 x' (List.mem_of_getElem? HX.out)
          have hyr := HR.out.2 y' (List.mem_of_getElem? HY.out)
          obtain ⟨x, rfl⟩ : ∃ x : Nat, x' = x := ⟨x'.toNat, by omega⟩
          obtain ⟨y, rfl⟩ : ∃ y : Nat, y' = y := ⟨y'.toNat, by omega⟩
          have hxV : x < V := by omega
          have hyV : y < V := by omega
          clear hxr hyr
          have x2 := bcell hbel hb x1
          have y2 := bcell hbel hb2 y1
          obtain ⟨gr, cr, hvr, hor, hcr1, hcr2, hgr1, hgr2⟩ := hF.rowAt (by rw [HVV.out, matF_length]) (matF_get _ hxV) (by rw [rowF_length]; omega)
          obtain ⟨n, hn⟩ : ∃ n, ent ⟨V, qf, qt⟩ k x y = n := ⟨_, rfl⟩
          have hnr := ent_rng ⟨V, qf, qt⟩ k x y hl6
          have r1 := ho.cellS hvr
          rw [rowF_length] at r1 hcr1
          have r2 := (hor.cellG (j := y) (by rw [rowF_length]; exact hyV)).1
          rw [rowF_getD _ hyV, hn] at r2
          rw [hn] at hnr
          have r3 := hor.frozenG y
          have hp := hF.putAt (i := y) (x := n - 1) hvr (matF_get _ hxV) hor ⟨by omega, by omega⟩
          rw [← hn, matF_dec, hn] at hp
          have hput := (hor.put (j := y) (x := n - 1) ⟨by omega, by omega⟩).2
          have hoo := ho.grown hor hput
          have hkk := hkB.grown hput (hor.blkne hkB (by decide))
          have hbb := hbel.grown hput hsz0.out (fun j hj => by injection hj with hj; omega)
          obtain ⟨G1, hG1⟩ : ∃ G1 : Nat → Nat → Int, G1 = fun a b => ent ⟨V, qf, qt⟩ k a b - if a = x ∧ b = y then 1 else 0 := ⟨_, rfl⟩
          rw [← hG1] at hp
          have HG1 := Lib.hid hG1
          clear hG1 hput hor hF ho hn
          obtain ⟨W1, hW1⟩ : ∃ W1, W1 = (wr.setCell ⟨gr, y, none⟩ (.int .i64 (n - 1))).drew := ⟨_, rfl⟩
          have zW1 : W1.heap.size = wr.heap.size := by rw [hW1]; simp
          have hF1 : Fam W1 w.heap.size wr.heap.size (vs.zip (matF V G1)) := by rw [hW1]; exact hp.below (drew_below _)
          have ho1 : OutO W1 w.heap.size wr.heap.size (.slice (some ⟨w.heap.size + 1, 0, none⟩) V V) vs := by rw [hW1]; exact hoo.below (drew_below _)
          have hk1 : Blk W1 w.heap.size 27 #[.int .i64 V, .slice (some ⟨b, o, none⟩) qf.length c, .slice (some ⟨b2, o2, none⟩) qt.length d] := by rw [hW1]; exact hkk.drewN 1
          have hb1 : Below w.heap.size w W1 := by rw [hW1]; exact below_drewN hbb 1
          clear hp hoo hkk hbb hkB hbel
          go_wp2_with fail
          go_region_o
          rw [← hW1]
          clear hW1 r1 r2 r3 x2 y2 e0 e1 e2 hvr
          have e2 := hk1.cell' (i := 2) rfl
          have y2 := bcell hb1 hb2 y1
          obtain ⟨gs, cr', hvr, hor, hcr1', hcr2', hgs1, hgs2⟩ := hF1.rowAt (by rw [HVV.out, matF_length]) (matF_get _ hyV) (by rw [rowF_length]; omega)
          obtain ⟨m, hm⟩ : ∃ m, G1 y x = m := ⟨_, rfl⟩
          have hmr : -13 ≤ m ∧ m ≤ 2 := by
            rw [← hm, HG1.out]
            have := ent_rng ⟨V, qf, qt⟩ k y x hl6
            dsimp only
            split <;> omega
          have r1 := ho1.cellS hvr
          rw [rowF_length] at r1 hcr1'
          have r2 := (hor.cellG (j := x) (by rw [rowF_length]; exact hxV)).1
          rw [rowF_getD _ hxV, hm] at r2
          have r3 := hor.frozenG x
          have hp := hF1.putAt (i := x) (x := m - 1) hvr (matF_get _ hyV) hor ⟨by omega, by omega⟩
          rw [← hm, matF_dec, hm] at hp
          have hput := (hor.put (j := x) (x := m - 1) ⟨by omega, by omega⟩).2
          have hoo := ho1.grown hor hput
          have hkk := hk1.grown hput (hor.blkne hk1 (by decide))
          have hbb := hb1.grown hput (by have := hsz0.out; omega) (fun j hj => by injection hj with hj; omega)
          have hst : (matF V fun a b => G1 a b - if a = y ∧ b = x then 1 else 0) = matF V (ent ⟨V, qf, qt⟩ (k + 1)) := by
            apply matF_congr
            intro a b _ _
            rw [ent_succ HX.out HY.out, HG1.out]
          rw [hst] at hp
          have HP := Lib.hid hp
          have HOO := Lib.hid hoo
          clear hst hp hput hoo hor hF1 ho1 hm hvr
          go_wp2
          go_roundw
          case rel => exact ⟨k + 1, by omega, by go_num, hbb, hkk, HOO.out.mono (Nat.le_refl _) (by simp; omega), HP.out.mono (Nat.le_refl _) (by simp; omega)⟩
          case measure => simp [intOf]; omega
        · have hst : Hid (symM ⟨V, qf, qt⟩ = matF V (ent ⟨V, qf, qt⟩ k)) := by
            show _ = _
            rw [symM, show qf.length = k by omega]
            rfl
          rw [← hst.out] at hF
          go_wp2
          exact bodyPost_ret (v := .slice (some ⟨w.heap.size + 1, 0, none⟩) V V) (by simp [results, go_sem]) rfl ⟨_, rfl, ⟨vs, ho, by rw [hst.out, matF_length]; exact HVV.out, hF⟩, hbel⟩
end Go.Proofs.Ytgbchoenmpoojaa

/- The reference's symmetric form. -/
namespace Go.Proofs.Ytgbchoenmpoojaa
set_option linter.unusedVariables false
set_option linter.unusedSimpArgs false
open Go.RowKit

/-- append of one slice onto a row of slices of the call's own -/
theorem rowF_dec {V : Nat} (g : Nat → Int) (j : Nat) : (rowF V g).set j (g j - 1) = rowF V fun b => g b - if b = j then 1 else 0 := by
  rw [rowF_set]
  apply rowF_congr
  intro b _
  by_cases e : b = j
  · subst e; rw [if_pos rfl, if_pos rfl]
  · rw [if_neg e, if_neg e]; omega
theorem if_pos_and {p r : Prop} [Decidable p] [Decidable r] (h : p) : (if p ∧ r then (1 : Int) else 0) = if r then 1 else 0 := by
  by_cases hr : r
  · rw [if_pos ⟨h, hr⟩, if_pos hr]
  · rw [if_neg (fun x => hr x.2), if_neg hr]

set_option maxHeartbeats 1600000 in
set_option maxRecDepth 20000 in
theorem symmetricForm_any (u : Value) (q : Qv) (w : World) (hu : QvR w w.heap.size u q) (hq : isQ q = true) :
    Calls Try.prog 84 #[u] w fun e w' => ∃ v, e = .returned v ∧ IntssO w' w.heap.size w'.heap.size v (symM q) ∧ Below w.heap.size w w' := by
  obtain ⟨qv, qf, qt⟩ := q
  have hu' := hu
  obtain ⟨A, c, C, d, rfl, hf, hT, hr, lf, lt⟩ := hu.open_
  clear hu
  obtain ⟨⟨hv1, hv2⟩, hlen, hl6, hfr, htr⟩ := isQ_t.1 hq
  dsimp only at *
  obtain ⟨V, rfl⟩ : ∃ V : Nat, qv = V := ⟨qv.toNat, by omega⟩
  have hV5 : V ≤ 5 := by omega
  have HLE := Lib.hid hlen
  have HR := Lib.hid (And.intro hfr htr)
  clear hlen hfr htr
  obtain ⟨i1, hi, hz0, hz1, hz2⟩ := info_parts infoInt
  have hmk1 := run_mk (P := Try.prog) Try.underlying22 hi hz0 (n := V) (by rw [hz2]; omega) (by omega)
  rw [hz1] at hmk1
  clear hi hz0 hz1 hz2
  have g0 : Below w.heap.size w ((w.alloc (.cells #[.int .i64 V, .slice A qf.length c, .slice C qt.length d] 27)).alloc (.cells #[] 22)) := ((Below.refl _ _).alloc (Nat.le_refl _) _).alloc (by simp) _
  have kB : Blk ((w.alloc (.cells #[.int .i64 V, .slice A qf.length c, .slice C qt.length d] 27)).alloc (.cells #[] 22)) w.heap.size 27 #[.int .i64 V, .slice A qf.length c, .slice C qt.length d] := (Blk.new _ _ _).alloc _
  go_enter Try.func84, Try.ntmps84
  go_wp2
  have hmo : Try.prog.follows .mixedOrders = true := by kernel_rfl
  have ho0 : OutO ((w.alloc (.cells #[.int .i64 V, .slice A qf.length c, .slice C qt.length d] 27)).alloc (.cells #[] 22)) w.heap.size ((w.alloc (.cells #[.int .i64 V, .slice A qf.length c, .slice C qt.length d] 27)).alloc (.cells #[] 22)).heap.size (.slice (some ⟨w.heap.size + 1, 0, none⟩) 0 0) [] := by
    have hb := Blk.new (w.alloc (.cells #[.int .i64 V, .slice A qf.length c, .slice C qt.length d] 27)) 22 #[]
    have h := OutCs.own (lo := w.heap.size) (vs := []) ⟨rfl, by simp, fun j v h => by simp at h⟩ hb (by simp) (by simp)
    simpa only [World.size_alloc, List.length_nil] using h
  go_loopw [3, 4] (fun a i wr => ∃ vs : List Value, vs.length ≤ V ∧ i = .int .i64 vs.length ∧ Below w.heap.size w wr ∧ Blk wr w.heap.size 27 #[.int .i64 V, .slice A qf.length c, .slice C qt.length d] ∧ OutO wr w.heap.size wr.heap.size a vs ∧ Fam wr w.heap.size wr.heap.size (vs.zip ((symM ⟨V, qf, qt⟩).take vs.length))) (fun _ i _ => V - (intOf i).toNat)
  case atStart => exact ⟨[], Nat.zero_le _, rfl, g0, kB, ho0, ⟨fun p hp => by simp at hp, by simp⟩⟩
  case round =>
    clear g0 kB ho0
    obtain ⟨vs, hk, rfl, hbel, hkB, ho, hF⟩ := hrel
    have e0 := hkB.cell' (i := 0) rfl
    have e1 := hkB.cell' (i := 1) rfl
    have e2 := hkB.cell' (i := 2) rfl
    obtain ⟨OA, oc, rfl, _, _⟩ := ho.form
    obtain ⟨N, hN⟩ : ∃ N, vs.length = N := ⟨_, rfl⟩
    have HN := Lib.hid hN
    rw [hN] at hk hF ⊢
    rw [hN] at ho
    clear hN
    by_cases hlt : N < V
    · have hN5 : N ≤ 5 := by omega
      have hrq := QvR.more (B' := wr.heap.size) (by have := hbel.size; omega) (QvR.below hbel hu')
      go_wp2_with fail
      refine (specIsQuiver_any _ _ _ hrq).mono ?_; rintro e w5 ⟨rfl, hb5⟩
      rw [hq]
      have hkB' := hkB.call hb5
      have ho' := (ho.below hb5).mono (Nat.le_refl _) hb5.size
      have hF' := (hF.below hb5).mono (Nat.le_refl _) hb5.size
      have hbel' := hbel.trans (hb5.mono hbel.size)
      clear hkB ho hF hbel e0 e1 e2 hrq hb5
      have hkB := hkB'
      clear hkB'
      have e0 := hkB.cell' (i := 0) rfl
      have e1 := hkB.cell' (i := 1) rfl
      have e2 := hkB.cell' (i := 2) rfl
      have hs5 := hbel'.size
      have hv1 := OwnI.made0 (w := w5) (base := w5.heap.size) (N := V) (Nat.le_refl _) (by omega)
      have c3 := (hv1.cellG (j := N) (by simpa using hlt)).1
      have f3 := hv1.frozenG N
      rw [show (List.replicate V (0 : Int)).getD N 0 = 0 by rw [List.getD_eq_getElem?_getD, List.getElem?_replicate, if_pos hlt]; rfl] at c3
      have hv3 : OwnI (w5.alloc (.cells ((mkCells (.int .i64 0) V).setIfInBounds N (.int .i64 2)) 3)) w5.heap.size (Value.slice (some ⟨w5.heap.size, 0, none⟩) V V) ((List.replicate V (0 : Int)).set N 2) :=
        OwnI.newBlk (w := w5) (base := w5.heap.size) (N := V) (Nat.le_refl _) (by omega) (by simp) (by
          rw [Array.toList_setIfInBounds, show (mkCells (.int .i64 0) V).toList = List.replicate V (.int .i64 0) from toList_madeCells_one _ _, List.map_set, List.map_replicate]) (fun x hx => by
          rcases List.mem_or_eq_of_mem_set hx with hx | rfl
          · obtain ⟨_, rfl⟩ := List.mem_replicate.1 hx
            exact ⟨by decide, by decide⟩
          · exact ⟨by decide, by decide⟩)
      have hrow : (List.replicate V (0 : Int)).set N 2 = rowF V (ent ⟨V, qf, qt⟩ 0 N) := by
        rw [show List.replicate V (0 : Int) = rowF V (fun _ => 0) from by rw [rowF, List.map_const', List.length_range], rowF_set]
        apply rowF_congr
        intro b _
        rw [ent_zero]
        by_cases e : b = N
        · rw [if_pos e, if_pos e.symm]
        · rw [if_neg e, if_neg (fun h => e h.symm)]
      rw [hrow] at hv3
      have hb3 := below_alloc w5 (.cells ((mkCells (.int .i64 0) V).setIfInBounds N (.int .i64 2)) 3)
      have zs3 : (w5.alloc (.cells ((mkCells (.int .i64 0) V).setIfInBounds N (.int .i64 2)) 3)).heap.size = w5.heap.size + 1 := by simp
      clear hrow hv1
      go_wp2
      clear c3 f3 e0 e1 e2
      go_loopw [6] (fun i wr => ∃ k : Nat, k ≤ qf.length ∧ i = .int .i64 k ∧ OwnI wr w5.heap.size (Value.slice (some ⟨w5.heap.size, 0, none⟩) V V) (rowF V (ent ⟨V, qf, qt⟩ k N)) ∧ Below w5.heap.size w5 wr ∧ wr.heap.size = w5.heap.size + 1) (fun i _ => qf.length - (intOf i).toNat)
      case atStart => exact ⟨0, Nat.zero_le _, rfl, hv3, hb3, zs3⟩
      case round =>
        clear hv3 hb3 zs3
        obtain ⟨k, hk, rfl, hown, hbel, hsz⟩ := hrel
        have hSZ := Lib.hid hsz
        have e1 := (hkB.call hbel).cell' (i := 1) rfl
        have e2 := (hkB.call hbel).cell' (i := 2) rfl
        by_cases hltk : k < qf.length
        · have hltT : k < qt.length := by have := HLE.out; omega
          obtain ⟨b, o, x', rfl, hb, HX, x1, _⟩ := SlI.at_ hf hltk
          obtain ⟨b2, o2, y', rfl, hb2, HY, y1, _⟩ := SlI.at_ hT hltT
          have hxr := HR.out.1 x' (List.mem_of_getElem? HX.out)
          have hyr := HR.out.2 y' (List.mem_of_getElem? HY.out)
          obtain ⟨x, rfl⟩ : ∃ x : Nat, x' = x := ⟨x'.toNat, by omega⟩
          obtain ⟨y, rfl⟩ : ∃ y : Nat, y' = y := ⟨y'.toNat, by omega⟩
          have hxV : x < V := by omega
          have hyV : y < V := by omega
          clear hxr hyr
          have x2 := bcell (hbel'.trans (hbel.mono hs5)) hb x1
          have y2 := bcell (hbel'.trans (hbel.mono hs5)) hb2 y1
          by_cases ex : x = N
          · have exb : ((x : Int) == (N : Int)) = true := by rw [beq_iff_eq]; omega
            by_cases ey : y = N
            · have eyb : ((y : Int) == (N : Int)) = true := by rw [beq_iff_eq]; omega
              have EX := Lib.hid ex
              have EY := Lib.hid ey
              clear ex ey
              obtain ⟨m1, hm1⟩ : ∃ m, (ent ⟨V, qf, qt⟩ k N) y = m := ⟨_, rfl⟩
              have hmr1 : -13 ≤ m1 ∧ m1 ≤ 2 := by
                rw [← hm1]
                have := ent_rng ⟨V, qf, qt⟩ k N y hl6
                first | omega | (dsimp only; split <;> omega)
              have r21 := (hown.cellG (j := y) (by rw [rowF_length]; exact hyV)).1
              rw [rowF_getD _ hyV, hm1] at r21
              have r31 := hown.frozenG y
              have hp1 := hown.put (j := y) (x := m1 - 1) ⟨by omega, by omega⟩
              rw [← hm1, rowF_dec, hm1] at hp1
              have hz1 := hbel.grown hp1.2 (by have := hbel.size; omega) (fun j hj => by injection hj with hj; omega)
              have HP1 := Lib.hid hp1.1
              have HZ1 := Lib.hid hz1
              clear hp1 hz1 hm1 hown
              go_wp2_with fail
              go_region_o
              obtain ⟨Wq1, hWq1⟩ : ∃ Wq, Wq = (wr.setCell ⟨w5.heap.size, y, none⟩ (.int .i64 (m1 - 1))).drew := ⟨_, rfl⟩
              rw [← hWq1]
              have hown1 : OwnI Wq1 w5.heap.size (Value.slice (some ⟨w5.heap.size, 0, none⟩) V V) (rowF V (fun b => (ent ⟨V, qf, qt⟩ k N) b - if b = y then 1 else 0)) := by rw [hWq1]; exact HP1.out.drewN 1
              have hbel1 : Below w5.heap.size w5 Wq1 := by rw [hWq1]; exact below_drewN HZ1.out 1
              have hsz1 : Wq1.heap.size = wr.heap.size := by rw [hWq1]; simp
              have SZ1 := Lib.hid hsz1
              clear hWq1 hsz1 r21 r31
              clear e1 e2 x2 y2
              have e1 := (hkB.call hbel1).cell' (i := 1) rfl
              have e2 := (hkB.call hbel1).cell' (i := 2) rfl
              have x2 := bcell (hbel'.trans (hbel1.mono hs5)) hb x1
              have y2 := bcell (hbel'.trans (hbel1.mono hs5)) hb2 y1
              obtain ⟨G1, hG1⟩ : ∃ G : Nat → Int, G = fun b => (ent ⟨V, qf, qt⟩ k N) b - if b = y then 1 else 0 := ⟨_, rfl⟩
              rw [← hG1] at hown1
              have HG1 := Lib.hid hG1
              clear hG1
              obtain ⟨m2, hm2⟩ : ∃ m, (G1) x = m := ⟨_, rfl⟩
              have hmr2 : -13 ≤ m2 ∧ m2 ≤ 2 := by
                rw [← hm2, HG1.out]
                have := ent_rng ⟨V, qf, qt⟩ k N x hl6
                first | omega | (dsimp only; split <;> omega)
              have r22 := (hown1.cellG (j := x) (by rw [rowF_length]; exact hxV)).1
              rw [rowF_getD _ hxV, hm2] at r22
              have r32 := hown1.frozenG x
              have hp2 := hown1.put (j := x) (x := m2 - 1) ⟨by omega, by omega⟩
              rw [← hm2, rowF_dec, hm2] at hp2
              have hz2 := hbel1.grown hp2.2 (by have := hbel1.size; omega) (fun j hj => by injection hj with hj; omega)
              have HP2 := Lib.hid hp2.1
              have HZ2 := Lib.hid hz2
              clear hp2 hz2 hm2 hown1
              go_wp2_with fail
              go_region_o
              obtain ⟨Wq2, hWq2⟩ : ∃ Wq, Wq = (Wq1.setCell ⟨w5.heap.size, x, none⟩ (.int .i64 (m2 - 1))).drew := ⟨_, rfl⟩
              rw [← hWq2]
              have hown2 : OwnI Wq2 w5.heap.size (Value.slice (some ⟨w5.heap.size, 0, none⟩) V V) (rowF V (fun b => (G1) b - if b = x then 1 else 0)) := by rw [hWq2]; exact HP2.out.drewN 1
              have hbel2 : Below w5.heap.size w5 Wq2 := by rw [hWq2]; exact below_drewN HZ2.out 1
              have hsz2 : Wq2.heap.size = Wq1.heap.size := by rw [hWq2]; simp
              have SZ2 := Lib.hid hsz2
              clear hWq2 hsz2 r22 r32
              have hst : Hid (rowF V (fun b => (G1) b - if b = x then 1 else 0) = rowF V (ent ⟨V, qf, qt⟩ (k + 1) N)) := by
                show rowF V (fun b => (G1) b - if b = x then 1 else 0) = _
                apply rowF_congr
                intro b _
                rw [ent_succ HX.out HY.out]
                rw [HG1.out, if_pos_and EX.out.symm, if_pos_and EY.out.symm]
              rw [hst.out] at hown2
              go_wp2
              go_roundw
              case rel => exact ⟨k + 1, by omega, by go_num, hown2, hbel2, (SZ2.out.trans (SZ1.out.trans hsz))⟩
              case measure => simp [intOf]; omega
            · have eyb : ((y : Int) == (N : Int)) = false := by rw [beq_eq_false_iff_ne]; omega
              have hyn := ey
              have EX := Lib.hid ex
              clear ex ey
              obtain ⟨m1, hm1⟩ : ∃ m, (ent ⟨V, qf, qt⟩ k N) y = m := ⟨_, rfl⟩
              have hmr1 : -13 ≤ m1 ∧ m1 ≤ 2 := by
                rw [← hm1]
                have := ent_rng ⟨V, qf, qt⟩ k N y hl6
                first | omega | (dsimp only; split <;> omega)
              have r21 := (hown.cellG (j := y) (by rw [rowF_length]; exact hyV)).1
              rw [rowF_getD _ hyV, hm1] at r21
              have r31 := hown.frozenG y
              have hp1 := hown.put (j := y) (x := m1 - 1) ⟨by omega, by omega⟩
              rw [← hm1, rowF_dec, hm1] at hp1
              have hz1 := hbel.grown hp1.2 (by have := hbel.size; omega) (fun j hj => by injection hj with hj; omega)
              have HP1 := Lib.hid hp1.1
              have HZ1 := Lib.hid hz1
              clear hp1 hz1 hm1 hown
              go_wp2_with fail
              go_region_o
              obtain ⟨Wq1, hWq1⟩ : ∃ Wq, Wq = (wr.setCell ⟨w5.heap.size, y, none⟩ (.int .i64 (m1 - 1))).drew := ⟨_, rfl⟩
              rw [← hWq1]
              have hown1 : OwnI Wq1 w5.heap.size (Value.slice (some ⟨w5.heap.size, 0, none⟩) V V) (rowF V (fun b => (ent ⟨V, qf, qt⟩ k N) b - if b = y then 1 else 0)) := by rw [hWq1]; exact HP1.out.drewN 1
              have hbel1 : Below w5.heap.size w5 Wq1 := by rw [hWq1]; exact below_drewN HZ1.out 1
              have hsz1 : Wq1.heap.size = wr.heap.size := by rw [hWq1]; simp
              have SZ1 := Lib.hid hsz1
              clear hWq1 hsz1 r21 r31
              clear e1 e2 x2 y2
              have e1 := (hkB.call hbel1).cell' (i := 1) rfl
              have e2 := (hkB.call hbel1).cell' (i := 2) rfl
              have x2 := bcell (hbel'.trans (hbel1.mono hs5)) hb x1
              have y2 := bcell (hbel'.trans (hbel1.mono hs5)) hb2 y1
              have hst : Hid (rowF V (fun b => (ent ⟨V, qf, qt⟩ k N) b - if b = y then 1 else 0) = rowF V (ent ⟨V, qf, qt⟩ (k + 1) N)) := by
                show rowF V (fun b => (ent ⟨V, qf, qt⟩ k N) b - if b = y then 1 else 0) = _
                apply rowF_congr
                intro b _
                rw [ent_succ HX.out HY.out]
                rw [if_pos_and EX.out.symm, if_neg (c := N = y ∧ b = x) (fun h => hyn h.1.symm)]; omega
              rw [hst.out] at hown1
              go_wp2
              go_roundw
              case rel => exact ⟨k + 1, by omega, by go_num, hown1, hbel1, (SZ1.out.trans hsz)⟩
              case measure => simp [intOf]; omega
          · have exb : ((x : Int) == (N : Int)) = false := by rw [beq_eq_false_iff_ne]; omega
            have hxn := ex
            clear ex
            by_cases ey : y = N
            · have eyb : ((y : Int) == (N : Int)) = true := by rw [beq_iff_eq]; omega
              have EY := Lib.hid ey
              clear ey
              obtain ⟨m1, hm1⟩ : ∃ m, (ent ⟨V, qf, qt⟩ k N) x = m := ⟨_, rfl⟩
              have hmr1 : -13 ≤ m1 ∧ m1 ≤ 2 := by
                rw [← hm1]
                have := ent_rng ⟨V, qf, qt⟩ k N x hl6
                first | omega | (dsimp only; split <;> omega)
              have r21 := (hown.cellG (j := x) (by rw [rowF_length]; exact hxV)).1
              rw [rowF_getD _ hxV, hm1] at r21
              have r31 := hown.frozenG x
              have hp1 := hown.put (j := x) (x := m1 - 1) ⟨by omega, by omega⟩
              rw [← hm1, rowF_dec, hm1] at hp1
              have hz1 := hbel.grown hp1.2 (by have := hbel.size; omega) (fun j hj => by injection hj with hj; omega)
              have HP1 := Lib.hid hp1.1
              have HZ1 := Lib.hid hz1
              clear hp1 hz1 hm1 hown
              go_wp2_with fail
              go_region_o
              obtain ⟨Wq1, hWq1⟩ : ∃ Wq, Wq = (wr.setCell ⟨w5.heap.size, x, none⟩ (.int .i64 (m1 - 1))).drew := ⟨_, rfl⟩
              rw [← hWq1]
              have hown1 : OwnI Wq1 w5.heap.size (Value.slice (some ⟨w5.heap.size, 0, none⟩) V V) (rowF V (fun b => (ent ⟨V, qf, qt⟩ k N) b - if b = x then 1 else 0)) := by rw [hWq1]; exact HP1.out.drewN 1
              have hbel1 : Below w5.heap.size w5 Wq1 := by rw [hWq1]; exact below_drewN HZ1.out 1
              have hsz1 : Wq1.heap.size = wr.heap.size := by rw [hWq1]; simp
              have SZ1 := Lib.hid hsz1
              clear hWq1 hsz1 r21 r31
              have hst : Hid (rowF V (fun b => (ent ⟨V, qf, qt⟩ k N) b - if b = x then 1 else 0) = rowF V (ent ⟨V, qf, qt⟩ (k + 1) N)) := by
                show rowF V (fun b => (ent ⟨V, qf, qt⟩ k N) b - if b = x then 1 else 0) = _
                apply rowF_congr
                intro b _
                rw [ent_succ HX.out HY.out]
                rw [if_neg (c := N = x ∧ b = y) (fun h => hxn h.1.symm), if_pos_and EY.out.symm]; omega
              rw [hst.out] at hown1
              go_wp2
              go_roundw
              case rel => exact ⟨k + 1, by omega, by go_num, hown1, hbel1, (SZ1.out.trans hsz)⟩
              case measure => simp [intOf]; omega
            · have eyb : ((y : Int) == (N : Int)) = false := by rw [beq_eq_false_iff_ne]; omega
              have hyn := ey
              clear ey
              have hst : Hid (rowF V (ent ⟨V, qf, qt⟩ k N) = rowF V (ent ⟨V, qf, qt⟩ (k + 1) N)) := by
                show rowF V (ent ⟨V, qf, qt⟩ k N) = _
                apply rowF_congr
                intro b _
                rw [ent_succ HX.out HY.out]
                rw [if_neg (c := N = x ∧ b = y) (fun h => hxn h.1.symm), if_neg (c := N = y ∧ b = x) (fun h => hyn h.1.symm)]; omega
              rw [hst.out] at hown
              go_wp2
              go_roundw
              case rel => exact ⟨k + 1, by omega, by go_num, hown, hbel, hsz⟩
              case measure => simp [intOf]; omega
        · have hst : Hid (ent ⟨V, qf, qt⟩ k N = ent ⟨V, qf, qt⟩ qf.length N) := by show _ = _; rw [show k = qf.length by omega]
          rw [hst.out] at hown
          have ho1 := ho'.below hbel
          have hF1 := hF'.below hbel
          have hkB1 := hkB.call hbel
          have hb1 := hbel'.trans (hbel.mono hs5)
          have hsz' := hSZ.out
          have hF2 := hF1.snoc (hi := wr.heap.size) ⟨hown, fun k hk => by simp [Value.ownBlock] at hk; omega⟩ hs5 (by omega)
          have hzip : vs.zip ((symM ⟨V, qf, qt⟩).take N) ++ [((Value.slice (some ⟨w5.heap.size, 0, none⟩) V V), rowF V (ent ⟨V, qf, qt⟩ qf.length N))] = (vs ++ [(Value.slice (some ⟨w5.heap.size, 0, none⟩) V V)]).zip ((symM ⟨V, qf, qt⟩).take (vs ++ [(Value.slice (some ⟨w5.heap.size, 0, none⟩) V V)]).length) := by
            rw [List.length_append, List.length_singleton, HN.out, take_snoc (show (symM ⟨V, qf, qt⟩)[N]? = some (rowF V (ent ⟨V, qf, qt⟩ qf.length N)) from matF_get (V := V) _ hlt), List.zip_append (by rw [HN.out, List.length_take, symM, matF_length]; show N = min N V; omega)]
            rfl
          rw [hzip] at hF2
          have hoA := ho1.below (below_alloc wr (.cells #[(Value.slice (some ⟨w5.heap.size, 0, none⟩) V V)] 22))
          have hFA := hF2.below (below_alloc wr (.cells #[(Value.slice (some ⟨w5.heap.size, 0, none⟩) V V)] 22))
          have hkA := hkB1.call (below_alloc wr (.cells #[(Value.slice (some ⟨w5.heap.size, 0, none⟩) V V)] 22))
          clear hF2 hF1 hzip ho1 hown hkB1 hsz hsz'
          (go_wp2_with (at_builtin; refine Hold.stop ?_)); unfold Hold
          refine wpList_appS rfl (.tmp 77) (.tmp 79) rfl w.heap.size (.slice OA N oc) vs rfl hoA.1 _ _ (Value.slice (some ⟨w5.heap.size, 0, none⟩) V V) rfl ⟨wr.heap.size, 0, rfl, (Blk.new wr 22 #[(Value.slice (some ⟨w5.heap.size, 0, none⟩) V V)]).cell' (i := 0) rfl⟩ rfl (by have := HN.out; omega) (by rw [World.size_alloc]; have := hb1.size; omega) ?_
          intro v1 w2 ho2 hg hv
          have hF3 := (hFA.grownO hoA.1 hg).mono (Nat.le_refl _) (show wr.heap.size ≤ w2.heap.size by have := hg.size; simp at this; omega)
          have hk3 := hkA.grown hg (hoA.blkne hkA (by decide))
          have hb3 := (hb1.alloc hb1.size (.cells #[(Value.slice (some ⟨w5.heap.size, 0, none⟩) V V)] 22)).grown hg (by have := hb1.size; simp; omega) (fun j hj => (hoA.1.lt j hj).1)
          have ho3 : OutO w2 w.heap.size w2.heap.size v1 (vs ++ [(Value.slice (some ⟨w5.heap.size, 0, none⟩) V V)]) := ⟨ho2, fun k hk => (ho2.lt k hk).2, by have := HN.out; simp; omega⟩
          have HF3 := Lib.hid hF3
          have HL : Hid ((vs ++ [(Value.slice (some ⟨w5.heap.size, 0, none⟩) V V)]).length = N + 1) := by show _ = _; rw [List.length_append, HN.out]; rfl
          clear hF3 hFA hoA hkA hg hv ho2
          go_wp2
          go_roundw
          case rel => exact ⟨vs ++ [(Value.slice (some ⟨w5.heap.size, 0, none⟩) V V)], by rw [HL.out]; omega, by rw [HL.out]; go_num, hb3, hk3, ho3, HF3.out⟩
          case measure => simp [intOf]; omega
    · have hrq := QvR.more (B' := wr.heap.size) (by have := hbel.size; omega) (QvR.below hbel hu')
      have hNV : N = V := by omega
      go_wp2
      refine bodyPost_ret (v := .slice OA N oc) (by simp [results, go_sem]) rfl ⟨_, rfl, ⟨vs, ho, by rw [symM, matF_length, HN.out, hNV]; rfl, ?_⟩, hbel⟩
      rwa [List.take_of_length_le (by rw [symM, matF_length]; show V ≤ N; omega)] at hF
end Go.Proofs.Ytgbchoenmpoojaa

/- Reflections of number vectors. -/
namespace Go.Proofs.Ytgbchoenmpoojaa
set_option linter.unusedVariables false
set_option linter.unusedSimpArgs false
open Go.RowKit

/-- g against x, the first k -/
def dotS (g : Nat → Int) (x : List Int) : Nat → Int
  | 0 => 0
  | k + 1 => dotS g x k + g k * x.getD k 0
theorem mul_rng {a b : Int} (ha : -12 ≤ a ∧ a ≤ 12) (hb : -100 ≤ b ∧ b ≤ 100) : -1200 ≤ a * b ∧ a * b ≤ 1200 := by
  obtain ⟨a1, a2⟩ := ha
  obtain ⟨b1, b2⟩ := hb
  have h1 : 0 ≤ (12 - a) * (100 - b) := Int.mul_nonneg (by omega) (by omega)
  have h2 : 0 ≤ (12 + a) * (100 + b) := Int.mul_nonneg (by omega) (by omega)
  have h3 : 0 ≤ (12 - a) * (100 + b) := Int.mul_nonneg (by omega) (by omega)
  have h4 : 0 ≤ (12 + a) * (100 - b) := Int.mul_nonneg (by omega) (by omega)
  simp only [Int.sub_mul, Int.add_mul, Int.mul_sub, Int.mul_add] at h1 h2 h3 h4
  omega
theorem getD_rng {x : List Int} (hx : ∀ y ∈ x, -100 ≤ y ∧ y ≤ 100) (k : Nat) : -100 ≤ x.getD k 0 ∧ x.getD k 0 ≤ 100 := by
  rw [List.getD_eq_getElem?_getD]
  rcases h : x[k]? with _ | y
  · simp
  · exact hx y (List.mem_of_getElem? h)
theorem dotS_rng {g : Nat → Int} {x : List Int} (hg : ∀ k, -12 ≤ g k ∧ g k ≤ 12) (hx : ∀ y ∈ x, -100 ≤ y ∧ y ≤ 100) : ∀ k : Nat, -(1200 * (k : Int)) ≤ dotS g x k ∧ dotS g x k ≤ 1200 * k
  | 0 => by simp [dotS]
  | k + 1 => by
    have ih := dotS_rng hg hx k
    have h := mul_rng (hg k) (getD_rng hx k)
    unfold dotS
    omega
/-- the vector x reflected at v -/
def reflL (q : Qv) (x : List Int) (v : Nat) : List Int := x.set v (x.getD v 0 - dotS (ent q q.f.length v) x x.length)
def reflQ (q : Qv) (x : List Int) (v : Int) : List Int × Bool := if isNum q x && inR v 0 (q.v - 1) && !loopQ q v then (reflL q x v.toNat, true) else ([], false)
theorem loop_ent {q : Qv} {v : Nat} (hl : q.f.length = q.t.length) : (ent q q.f.length v v != 2) = loopQ q v := by
  have h1 : arr q v v q.f.length = (q.f.zip q.t).countP fun p => p.1 == (v : Int) && p.2 == (v : Int) := by
    rw [arr, List.take_of_length_le (by simp; omega)]
  have h2 : ent q q.f.length v v = 2 - 2 * (arr q v v q.f.length : Int) := by rw [ent, if_pos rfl]; omega
  rw [Bool.eq_iff_iff, bne_iff_ne, h2, h1, loopQ]
  have h3 := List.countP_pos_iff (p := fun p : Int × Int => p.1 == (v : Int) && p.2 == (v : Int)) (l := q.f.zip q.t)
  rw [List.any_eq_true]
  constructor
  · intro h
    have : 0 < List.countP (fun p : Int × Int => p.1 == (v : Int) && p.2 == (v : Int)) (q.f.zip q.t) := by omega
    exact h3.1 this
  · intro h
    have := h3.2 h
    omega

theorem SlI.atN {w : World} {B n c : Nat} {A : Option Addr} {xs : List Int} {k : Nat} (h : SlI w B (.slice A n c) xs) (hn : xs.length = n) (hk : k < n) :
    ∃ b o x, A = some ⟨b, o, none⟩ ∧ b < B ∧ Hid (xs[k]? = some x) ∧ w.cell? ⟨b, o + k, none⟩ = some (.int .i64 x) ∧ -9223372036854775808 ≤ x ∧ x ≤ 9223372036854775807 := by
  subst hn
  exact SlI.at_ h hk

set_option maxHeartbeats 800000 in
set_option maxRecDepth 20000 in
theorem l20Reflect_any (mv xv : Value) (q : Qv) (x : List Int) (v : Nat) (w : World) (hm : SlII w w.heap.size mv (symM q)) (hx : SlI w w.heap.size xv x) (hq : isNum q x = true) (hv : v < q.v.toNat) :
    Calls Try.prog 103 #[mv, xv, .int .i64 v] w fun e w' => ∃ u, e = .returned u ∧ IntsO w' w.heap.size w'.heap.size u (reflL q x v) ∧ Below w.heap.size w w' := by
  obtain ⟨hq1, hq2, hq3⟩ := isNum_t.1 hq
  obtain ⟨⟨hv1, hv2⟩, hlen, hl6, _, _⟩ := isQ_t.1 hq1
  obtain ⟨V, hV⟩ : ∃ V : Nat, q.v.toNat = V := ⟨_, rfl⟩
  have hxV : x.length = V := by omega
  have hV5 : V ≤ 5 := by omega
  rw [hV] at hv
  have hmv : (symM q)[v]? = some (rowF V (ent q q.f.length v)) := by rw [symM, hV]; exact matF_get _ hv
  have hml : v < (symM q).length := by rw [symM, hV, matF_length]; exact hv
  obtain ⟨MA, mc, rfl, _, _, lm, hm'⟩ := hm.open_
  obtain ⟨XA, xc, rfl, _, _, lx, hx'⟩ := hx.open_
  clear hm hx
  obtain ⟨mb, mo, l, LA, lc, rfl, hmb, HL, ml, hl⟩ := SlII.at_ hm' hml
  have el : l = rowF V (ent q q.f.length v) := by
    have h := HL.out
    rw [hmv] at h
    injection h with h
    exact h.symm
  have hll : l.length = V := by rw [el, rowF_length]
  have HEL := Lib.hid el
  have HLL := Lib.hid hll
  have HXV := Lib.hid hxV
  have HX3 := Lib.hid hq3
  have hmlen : (symM q).length = V := by rw [symM, hV, matF_length]
  have HML := Lib.hid hmlen
  clear el hll hmv hq hq1 hq2 hq3 hlen hm' hv1 hv2 hV hmlen
  rw [HLL.out] at ml hl
  rw [HML.out] at hml ⊢
  rw [HXV.out] at hx' lx ⊢
  have hxs := hx'
  go_enter Try.func103, Try.ntmps103
  (go_wp2_with (at_builtin; refine Hold.stop ?_)); unfold Hold
  have ho0 : OwnI (w.alloc (.cells #[] 3)) w.heap.size (.slice (some ⟨w.heap.size, 0, none⟩) 0 0) [] := OwnI.made _ rfl (Nat.le_refl _)
  refine wpList_appI rfl (.tmp 10) (.tmp 11) rfl w.heap.size w.heap.size (.slice (some ⟨w.heap.size, 0, none⟩) 0 0) [] rfl ho0 _ _ _ x rfl HXV.out.symm (by rw [HXV.out]; exact SlI.below (below_alloc _ _) hx') (by simp; omega) (by simp) ?_
  intro v1 w1 ho1 hg1 hvv
  rw [List.nil_append] at ho1
  have hb1 : Below w.heap.size w w1 := ((Below.refl _ _).alloc (Nat.le_refl _) (.cells #[] 3)).grown hg1 (by simp) (fun j hj => (ho0.lt j hj).1)
  obtain ⟨OA, oc, rfl, _, _⟩ := ho1.form
  rw [HXV.out] at ho1 ⊢
  clear hg1 hvv ho0
  go_wp2
  have hmo : Try.prog.follows .mixedOrders = true := by kernel_rfl
  have hgr : ∀ i, -12 ≤ ent q q.f.length v i ∧ ent q q.f.length v i ≤ 12 := fun i => by have := ent_rng q q.f.length v i hl6; omega
  have HGR := Lib.hid hgr
  have hsr := Lib.hid (dotS_rng hgr HX3.out)
  clear hgr hxV
  go_loopw [8, 9] (fun s i wr => ∃ k : Nat, k ≤ V ∧ i = .int .i64 k ∧ s = .int .i64 (dotS (ent q q.f.length v) x k) ∧ OwnI wr w.heap.size (.slice OA V oc) x ∧ Below w.heap.size w wr) (fun _ i _ => V - (intOf i).toNat)
  case atStart => exact ⟨0, Nat.zero_le _, rfl, rfl, ho1, hb1⟩
  case round =>
    clear ho1 hb1
    obtain ⟨k, hk, rfl, rfl, hown, hbel⟩ := hrel
    have hsk := hsr.out k
    obtain ⟨s, hs⟩ : ∃ s, dotS (ent q q.f.length v) x k = s := ⟨_, rfl⟩
    rw [hs] at hsk ⊢
    have HS := Lib.hid hs
    clear hs
    by_cases hlt : k < V
    · obtain ⟨b1, o1, y, rfl, hb1, HY, y1, _⟩ := SlI.atN hl HLL.out hlt
      obtain ⟨b2, o2, z, rfl, hb2, HZ, z1, _⟩ := SlI.atN hx' HXV.out hlt
      have m2 := bcell hbel hmb ml
      have y2 := bcell hbel hb1 y1
      have z2 := bcell hbel hb2 z1
      have hye : y = ent q q.f.length v k := by
        have h := HY.out
        rw [HEL.out, rowF_get _ hlt] at h
        injection h with h
        exact h.symm
      have hze : x.getD k 0 = z := by rw [List.getD_eq_getElem?_getD, HZ.out]; rfl
      have hyr : -12 ≤ y ∧ y ≤ 12 := by rw [hye]; exact HGR.out k
      have hzr := HX3.out z (List.mem_of_getElem? HZ.out)
      have hpr := mul_rng hyr hzr
      obtain ⟨p, hp⟩ : ∃ p, y * z = p := ⟨_, rfl⟩
      rw [hp] at hpr
      have hst : Hid (dotS (ent q q.f.length v) x (k + 1) = s + p) := by show _ = _; rw [dotS, HS.out, ← hye, hze, hp]
      clear hye hze y1 z1
      go_wp2_with fail
      go_quiet (fail)
      go_wp2
      go_roundw
      case rel => exact ⟨k + 1, by omega, by go_num, by rw [hst.out], hown.drewN nq, below_drewN hbel nq⟩
      case measure => simp [intOf]; omega
    · have HKV := Lib.hid (show k = V by omega)
      obtain ⟨g, rfl, hgl⟩ : ∃ g, OA = some ⟨g, 0, none⟩ ∧ w.heap.size ≤ g := by
        rcases hown.1.2 with ⟨e, _⟩ | ⟨g, cap, cur, e, hg, _⟩
        · injection e with _ e _
          omega
        · injection e with e _ _
          exact ⟨g, e, hg⟩
      have hzr := getD_rng HX3.out v
      have ci := (hown.cellG (j := v) (by rw [HXV.out]; exact hv)).1
      have fi := hown.frozenG v
      have HR : Hid (reflL q x v = x.set v (x.getD v 0 - s)) := by show _ = _; rw [reflL, HXV.out, ← HKV.out, HS.out]
      obtain ⟨z, hz⟩ : ∃ z, x.getD v 0 = z := ⟨_, rfl⟩
      rw [hz] at hzr ci
      have hR := HR.out
      rw [hz] at hR
      have HR2 := Lib.hid hR
      have hp := hown.put (j := v) (x := z - s) ⟨by omega, by omega⟩
      rw [← hR] at hp
      have hb2 := hbel.grown hp.2 (by have := hbel.size; omega) (fun j hj => by injection hj with hj; omega)
      have HP := Lib.hid hp.1
      clear hz hR HR hp hown
      go_wp2
      exact bodyPost_ret (v := .slice (some ⟨g, 0, none⟩) V oc) (by simp [results, go_sem]) rfl ⟨_, rfl, IntsO.of_own HP.out, hb2⟩
end Go.Proofs.Ytgbchoenmpoojaa

/- The reference's OrderOf. -/
namespace Go.Proofs.Ytgbchoenmpoojaa
set_option linter.unusedVariables false
set_option linter.unusedSimpArgs false
open Go.RowKit

theorem IntsO.made_ (w : World) {lo : Nat} (h : lo ≤ w.heap.size) : IntsO (w.alloc (.cells #[] 3)) lo (w.alloc (.cells #[] 3)).heap.size (.slice (some ⟨w.heap.size, 0, none⟩) 0 0) [] :=
  ⟨OwnI.made _ rfl h, fun k hk => by simp [Value.ownBlock] at hk; simp; omega⟩

set_option maxHeartbeats 800000 in
theorem specOrderOf_any (u : Value) (q : Qv) (w : World) (hu : QvR w w.heap.size u q) :
    Calls Try.prog 76 #[u] w fun e w' => ∃ v, e = .returned (.tuple #[v, .bool (ordQ q).2]) ∧ IntsO w' w.heap.size w'.heap.size v (ordQ q).1 ∧ Below w.heap.size w w' := by
  obtain ⟨qv, qf, qt⟩ := q
  have hu0 := hu
  obtain ⟨A, c, C, d, rfl, hf, hT, hr, lf, lt⟩ := hu.open_
  dsimp only at *
  have g0 : Below w.heap.size w ((w.alloc (.cells #[.int .i64 qv, .slice A qf.length c, .slice C qt.length d] 27)).alloc (.cells #[] 3)) := ((Below.refl _ _).alloc (Nat.le_refl _) _).alloc (by simp) _
  have kB : Blk ((w.alloc (.cells #[.int .i64 qv, .slice A qf.length c, .slice C qt.length d] 27)).alloc (.cells #[] 3)) w.heap.size 27 #[.int .i64 qv, .slice A qf.length c, .slice C qt.length d] := (Blk.new _ _ _).alloc _
  have ho0 : OwnI ((w.alloc (.cells #[.int .i64 qv, .slice A qf.length c, .slice C qt.length d] 27)).alloc (.cells #[] 3)) w.heap.size (.slice (some ⟨w.heap.size + 1, 0, none⟩) 0 0) [] := by
    have := OwnI.made (w := w.alloc (.cells #[.int .i64 qv, .slice A qf.length c, .slice C qt.length d] 27)) (base := w.heap.size) _ rfl (by simp)
    simpa only [World.size_alloc] using this
  clear hu
  rcases hq : isQ ⟨qv, qf, qt⟩ with _ | _
  · have hF : Hid (ordQ ⟨qv, qf, qt⟩ = ([], false)) := by show _ = _; simp [ordQ, hq]
    generalize ordQ ⟨qv, qf, qt⟩ = R at *
    go_enter Try.func76, Try.ntmps76
    go_wp2
    go_loopw [4] (fun a wr => a = .slice (some ⟨w.heap.size + 1, 0, none⟩) 0 0 ∧ OwnI wr w.heap.size a [] ∧ Below w.heap.size w wr ∧ Blk wr w.heap.size 27 #[.int .i64 qv, .slice A qf.length c, .slice C qt.length d]) (fun a _ => 0)
    case atStart => exact ⟨rfl, ho0, g0, kB⟩
    case round =>
      clear g0 kB ho0
      obtain ⟨rfl, hown, hbel, hkB⟩ := hrel
      have c0 := hkB.cell' (i := 0) rfl
      have c1 := hkB.cell' (i := 1) rfl
      have c2 := hkB.cell' (i := 2) rfl
      have hrq := QvR.more (B' := wr.heap.size) (by have := hbel.size; omega) (QvR.below hbel hu0)
      go_wp2_with fail
      refine (specIsQuiver_any _ _ _ hrq).mono ?_; rintro e w5 ⟨rfl, hb5⟩
      rw [hq]
      have hkB' := hkB.call hb5
      have hbel' := hbel.trans (hb5.mono hbel.size)
      clear c0 c1 c2
      have c0 := hkB'.cell' (i := 0) rfl
      have c1 := hkB'.cell' (i := 1) rfl
      have c2 := hkB'.cell' (i := 2) rfl
      have hrq' := QvR.next hb5 hrq
      go_wp2_with fail
      refine (specIsQuiver_any _ _ _ hrq').mono ?_; rintro e w6 ⟨rfl, hb6⟩
      rw [hq]
      go_wp2
      exact bodyPost_ret (v := .tuple #[.slice (some ⟨w.heap.size + 1, 0, none⟩) 0 0, .bool false]) (by simp [results, go_sem]) rfl ⟨_, by rw [hF.out], by rw [hF.out]; exact IntsO.of_own ((hown.below hb5).below hb6), hbel'.trans (hb6.mono hbel'.size)⟩
  · obtain ⟨⟨hv1, hv2⟩, hlen, _, _, _⟩ := isQ_t.1 hq
    dsimp only at hv1 hv2 hlen
    obtain ⟨V, rfl⟩ : ∃ V : Nat, qv = V := ⟨qv.toNat, by omega⟩
    have HE := Lib.hid (show ordQ ⟨V, qf, qt⟩ = ordGo ⟨V, qf, qt⟩ V V [] by simp [ordQ, hq])
    have HLE := Lib.hid hlen
    have hr0 : QvR w w.heap.size (.agg #[.int .i64 V, .slice A qf.length c, .slice C qt.length d]) ⟨V, qf, qt⟩ := ⟨_, _, rfl, hf, hT, hr⟩
    clear hlen hu0
    generalize ordQ ⟨V, qf, qt⟩ = R at *
    go_enter Try.func76, Try.ntmps76
    go_wp2
    go_loopw [4] (fun a wr => ∃ out : List Int, out.length ≤ V ∧ OwnI wr w.heap.size a out ∧ Below w.heap.size w wr ∧ Blk wr w.heap.size 27 #[.int .i64 V, .slice A qf.length c, .slice C qt.length d] ∧ Hid (R = ordGo ⟨V, qf, qt⟩ V (V - out.length) out)) (fun a _ => V - lenOf a)
    case atStart => exact ⟨[], by simp, ho0, g0, kB, HE⟩
    case round =>
      clear g0 kB HE ho0
      obtain ⟨out, hn, hown, hbel, hkB, hR⟩ := hrel
      obtain ⟨OA, oc, rfl, _, _⟩ := hown.form
      have c0 := hkB.cell' (i := 0) rfl
      have c1 := hkB.cell' (i := 1) rfl
      have c2 := hkB.cell' (i := 2) rfl
      have hrq := QvR.more (B' := wr.heap.size) (by have := hbel.size; omega) (QvR.below hbel hr0)
      go_wp2_with fail
      refine (specIsQuiver_any _ _ _ hrq).mono ?_; rintro e w5 ⟨rfl, hb5⟩
      rw [hq]
      have hkB' := hkB.call hb5
      have hown' := hown.below hb5
      have hbel' := hbel.trans (hb5.mono hbel.size)
      clear hkB hown hbel c0 c1 c2 hrq hb5
      have c0 := hkB'.cell' (i := 0) rfl
      have c1 := hkB'.cell' (i := 1) rfl
      have c2 := hkB'.cell' (i := 2) rfl
      by_cases hlt : out.length < V
      · go_wp2
        have HN := Lib.hid hn
        clear hn c0 c1 c2
        have hs := hbel'.size
        clear wr
        rename World => wo
        go_loopw [5, 6] (fun n v w2 => ∃ m : Nat, m ≤ V ∧ v = .int .i64 ((V : Int) - 1 - m) ∧ n = .int .i64 (bst ⟨V, qf, qt⟩ out V m) ∧ Below wo.heap.size wo w2) (fun _ v _ => (intOf v + 1).toNat)
        case atStart => exact ⟨0, Nat.zero_le _, by simp, rfl, Below.refl _ _⟩
        case round =>
          obtain ⟨m, hm, rfl, rfl, hbel2⟩ := hrel
          have hk2 := hkB'.call hbel2
          have ho2 : OwnI wr w.heap.size (.slice OA out.length oc) out := hown'.below hbel2
          have g2 := hbel'.trans (hbel2.mono hs)
          by_cases hlt2 : m < V
          · have hnn : (0 : Int) ≤ (V : Int) - 1 - m := by omega
            obtain ⟨B1, hB1⟩ : ∃ B, decide (((V : Int) - 1 - m) ∈ out) = B := ⟨_, rfl⟩
            have HB1 := Lib.hid hB1
            clear hB1
            go_wp2_with fail
            refine (l4Has_any _ out _ _ ho2.rd).mono ?_; rintro e w3 ⟨rfl, hb3⟩
            rw [HB1.out]
            have hk3 := hk2.call hb3
            have ho3 := ho2.below hb3
            have g3 := g2.trans (hb3.mono g2.size)
            have hbel3 := hbel2.trans (hb3.mono hbel2.size)
            have hx3 : Hid (fre ⟨V, qf, qt⟩ out ((V : Int) - 1 - m) = (!B1 && rdy ⟨V, qf, qt⟩ out ((V : Int) - 1 - m))) := by show _ = _; rw [fre, HB1.out]
            clear hk2 ho2 g2 hb3 hbel2
            go_wp2
            go_loopw [7, 8] (fun fr i w4 => ∃ (k : Nat) (F : Bool), k ≤ qf.length ∧ i = .int .i64 k ∧ fr = .bool F ∧ Hid (F = (!B1 && rdyAt ⟨V, qf, qt⟩ out ((V : Int) - 1 - m) k)) ∧ Below w3.heap.size w3 w4) (fun _ i _ => qf.length - (intOf i).toNat)
            case atStart => exact ⟨0, !B1, Nat.zero_le _, rfl, rfl, by show _ = _; simp [rdyAt_zero], Below.refl _ _⟩
            case round =>
              obtain ⟨k, F, hk, rfl, rfl, hFr, hbel4⟩ := hrel
              have hk4 := hk3.call hbel4
              have ho4 := ho3.below hbel4
              have g4 := g3.trans (hbel4.mono g3.size)
              have hbel5 := hbel3.trans (hbel4.mono hbel3.size)
              have e0 := hk4.cell' (i := 0) rfl
              have e1 := hk4.cell' (i := 1) rfl
              have e2 := hk4.cell' (i := 2) rfl
              by_cases hltk : k < qf.length
              · have hltk' : k < qt.length := by have := HLE.out; omega
                obtain ⟨b, o, y, rfl, hb, HY, y1, _⟩ := SlI.at_ hT hltk'
                obtain ⟨b2, o2, x, rfl, hb2, HX, x1, _⟩ := SlI.at_ (k := k) hf hltk
                have y2 := bcell g4 hb y1
                have x2 := bcell g4 hb2 x1
                clear y1 x1
                have hsu := rdyAt_succ (q := ⟨V, qf, qt⟩) (taken := out) (v := (V : Int) - 1 - m) HX.out HY.out
                cases F
                · have hst : Hid (false = (!B1 && rdyAt ⟨V, qf, qt⟩ out ((V : Int) - 1 - m) (k + 1))) := by show _ = _; rw [hsu, ← Bool.and_assoc, ← hFr.out]; rfl
                  clear hsu
                  go_wp2
                  go_roundw
                  case rel => exact ⟨k + 1, false, by omega, by go_num, rfl, hst.out, hbel4⟩
                  case measure => simp [intOf]; omega
                · rcases hyv : (y == ((V : Int) - 1 - m)) with _ | _
                  · have hyv' : (y != ((V : Int) - 1 - m)) = true := by rw [bne, hyv]; rfl
                    have hst : Hid (true = (!B1 && rdyAt ⟨V, qf, qt⟩ out ((V : Int) - 1 - m) (k + 1))) := by show _ = _; rw [hsu, ← Bool.and_assoc, ← hFr.out, hyv]; rfl
                    clear hsu
                    go_wp2
                    go_roundw
                    case rel => exact ⟨k + 1, true, by omega, by go_num, rfl, hst.out, hbel4⟩
                    case measure => simp [intOf]; omega
                  · have hyv' : (y != ((V : Int) - 1 - m)) = false := by rw [bne, hyv]; rfl
                    obtain ⟨B2, hB2⟩ : ∃ B, decide (x ∈ out) = B := ⟨_, rfl⟩
                    have hst : Hid (B2 = (!B1 && rdyAt ⟨V, qf, qt⟩ out ((V : Int) - 1 - m) (k + 1))) := by show _ = _; rw [hsu, ← Bool.and_assoc, ← hFr.out, hyv, hB2]; rfl
                    have HB2 := Lib.hid hB2
                    clear hsu hB2
                    go_wp2_with fail
                    refine (l4Has_any _ out _ _ ho4.rd).mono ?_; rintro e w6 ⟨rfl, hb6⟩
                    rw [HB2.out]
                    go_wp2
                    go_roundw
                    case rel => exact ⟨k + 1, B2, by omega, by go_num, rfl, hst.out, hbel4.trans (hb6.mono hbel4.size)⟩
                    case measure => simp [intOf]; omega
              · have hre : Hid (F = fre ⟨V, qf, qt⟩ out ((V : Int) - 1 - m)) := by
                  show _ = _
                  rw [hx3.out, hFr.out, rdyAt_end (by dsimp only; omega) (by have := HLE.out; dsimp only; omega)]
                cases F
                · have hst : Hid (bst ⟨V, qf, qt⟩ out V (m + 1) = bst ⟨V, qf, qt⟩ out V m) := by show _ = _; rw [bst, if_neg]; rw [← hre.out]; simp
                  go_wp2
                  go_roundw
                  case rel => exact ⟨m + 1, by omega, by go_num, by rw [hst.out], hbel5⟩
                  case measure => simp [intOf]; omega
                · have hst : Hid (bst ⟨V, qf, qt⟩ out V (m + 1) = (V : Int) - 1 - m) := by show _ = _; rw [bst, if_pos]; rw [← hre.out]
                  go_wp2
                  go_roundw
                  case rel => exact ⟨m + 1, by omega, by go_num, by rw [hst.out], hbel5⟩
                  case measure => simp [intOf]; omega
          · obtain rfl : m = V := by omega
            have hrg := bst_rng ⟨m, qf, qt⟩ out m m (Nat.le_refl _)
            obtain ⟨x, hx⟩ : ∃ x, bst ⟨m, qf, qt⟩ out m m = x := ⟨_, rfl⟩
            rw [hx] at hrg ⊢
            have HX := Lib.hid hx
            clear hx
            have hnn : ¬ (0 : Int) ≤ (m : Int) - 1 - m := by omega
            by_cases hx0 : x < 0
            · have hF : Hid (R = ([], false)) := by
                show _ = _
                have h := hR.out
                rw [show m - out.length = (m - out.length - 1) + 1 by omega, ordGo, HX.out, if_pos hx0] at h
                exact h
              go_wp2
              exact bodyPost_ret (v := .tuple #[.slice (some ⟨wr.heap.size, 0, none⟩) 0 0, .bool false]) (by simp [results, go_sem]) rfl ⟨_, by rw [hF.out], by rw [hF.out]; exact IntsO.made_ _ g2.size, g2.alloc g2.size _⟩
            · have hF : Hid (R = ordGo ⟨m, qf, qt⟩ m (m - (out ++ [x]).length) (out ++ [x])) := by
                show _ = _
                have h := hR.out
                rw [show m - out.length = (m - out.length - 1) + 1 by omega, ordGo, HX.out, if_neg hx0] at h
                rw [h, List.length_append]
                rfl
              have hs2 := hbel2.size
              (go_wp2_with (at_builtin; refine Hold.stop ?_)); unfold Hold
              have b0 := below_alloc wr (.cells #[.int .i64 x] 3)
              have ho3 := ho2.alloc (.cells #[.int .i64 x] 3)
              refine wpList_appI rfl (.tmp 61) (.tmp 63) rfl w.heap.size _ (.slice OA out.length oc) out rfl ho3 _ _ _ [x] rfl rfl (SlI.one wr _ x ⟨by omega, by omega⟩) (by have := HN.out; simp; omega) (by simp; omega) ?_
              intro v1 w3 ho1 hg1 hv1
              have hk3 := (hk2.call b0).grown hg1 (ho3.blkne (hk2.call b0) (by decide))
              have hb3 := (g2.trans (b0.mono g2.size)).grown hg1 (by simp; omega) (fun j hj => (ho3.lt j hj).1)
              obtain ⟨A1, c1, rfl, _, _⟩ := ho1.form
              clear ho3 hg1 hv1 b0
              go_wp2
              go_roundw
              case rel => exact ⟨out ++ [x], by simp; omega, by rw [List.length_append] at ho1; exact ho1, hb3, hk3, hF.out⟩
              case measure => simp [lenOf]; omega
      · have hF : Hid (R = (out, true)) := by
          show _ = _
          have h := hR.out
          rw [show V - out.length = 0 by omega, ordGo] at h
          exact h
        have hrq := QvR.more (B' := w5.heap.size) (by have := hbel'.size; omega) (QvR.below hbel' hr0)
        go_wp2_with fail
        refine (specIsQuiver_any _ _ _ hrq).mono ?_; rintro e w6 ⟨rfl, hb6⟩
        rw [hq]
        go_wp2
        exact bodyPost_ret (v := .tuple #[.slice OA out.length oc, .bool true]) (by simp [results, go_sem]) rfl ⟨_, by rw [hF.out], by rw [hF.out]; exact IntsO.of_own (hown'.below hb6), hbel'.trans (hb6.mono hbel'.size)⟩
end Go.Proofs.Ytgbchoenmpoojaa

/- IsAcyclic: both. -/
namespace Go.Proofs.Ytgbchoenmpoojaa
set_option linter.unusedVariables false
set_option linter.unusedSimpArgs false
open Go.RowKit

set_option maxHeartbeats 800000 in
theorem implIsAcyclic_any (u : Value) (q : Qv) (w0 : World) (hu : QvR w0 w0.heap.size u q) :
    Calls Try.prog 43 #[u] w0 fun e w' => e = .returned (.bool (acyQ q)) ∧ Below w0.heap.size w0 w' := by
  have hu' := hu
  obtain ⟨A, c, C, d, rfl, hf, hT, hr, lf, lt⟩ := hu.open_
  clear hu hf hT
  obtain ⟨W, hW⟩ : ∃ W, W = w0.alloc (.cells #[.int .i64 q.v, .slice A q.f.length c, .slice C q.t.length d] 27) := ⟨_, rfl⟩
  have g0 : Below w0.heap.size w0 W := by rw [hW]; exact below_alloc _ _
  have kB : Blk W w0.heap.size 27 #[.int .i64 q.v, .slice A q.f.length c, .slice C q.t.length d] := by rw [hW]; exact Blk.new _ _ _
  have HQ := Lib.hid (QvR.next g0 hu')
  clear hu'
  have c0 := kB.cell' (i := 0) rfl
  have c1 := kB.cell' (i := 1) rfl
  have c2 := kB.cell' (i := 2) rfl
  go_enter Try.func43, Try.ntmps43
  go_wp2_with fail
  rw [← hW]; clear hW
  refine (implOrderOf_any _ q _ HQ.out).mono ?_; rintro e w1 ⟨v, rfl, hv, hb1⟩
  have g1 := bthen g0 hb1
  clear hv hb1 c0 c1 c2 kB g0 HQ
  go_wp2
  go_ret
  exact ⟨rfl, g1⟩

set_option maxHeartbeats 800000 in
theorem specIsAcyclic_any (u : Value) (q : Qv) (w0 : World) (hu : QvR w0 w0.heap.size u q) :
    Calls Try.prog 40 #[u] w0 fun e w' => e = .returned (.bool (acyQ q)) ∧ Below w0.heap.size w0 w' := by
  have hu' := hu
  obtain ⟨A, c, C, d, rfl, hf, hT, hr, lf, lt⟩ := hu.open_
  clear hu hf hT
  obtain ⟨W, hW⟩ : ∃ W, W = w0.alloc (.cells #[.int .i64 q.v, .slice A q.f.length c, .slice C q.t.length d] 27) := ⟨_, rfl⟩
  have g0 : Below w0.heap.size w0 W := by rw [hW]; exact below_alloc _ _
  have kB : Blk W w0.heap.size 27 #[.int .i64 q.v, .slice A q.f.length c, .slice C q.t.length d] := by rw [hW]; exact Blk.new _ _ _
  have HQ := Lib.hid (QvR.next g0 hu')
  clear hu'
  have c0 := kB.cell' (i := 0) rfl
  have c1 := kB.cell' (i := 1) rfl
  have c2 := kB.cell' (i := 2) rfl
  go_enter Try.func40, Try.ntmps40
  go_wp2_with fail
  rw [← hW]; clear hW
  refine (specOrderOf_any _ q _ HQ.out).mono ?_; rintro e w1 ⟨v, rfl, hv, hb1⟩
  have g1 := bthen g0 hb1
  clear hv hb1 c0 c1 c2 kB g0 HQ
  go_wp2
  go_ret
  exact ⟨rfl, g1⟩
end Go.Proofs.Ytgbchoenmpoojaa

/- The reference's ReflectDims. -/
namespace Go.Proofs.Ytgbchoenmpoojaa
set_option linter.unusedVariables false
set_option linter.unusedSimpArgs false
open Go.RowKit

set_option maxHeartbeats 800000 in
set_option maxRecDepth 20000 in
theorem specReflectDims_any (u : Value) (q : Qv) (xv : Value) (x : List Int) (v : Int) (w : World) (hu : QvR w w.heap.size u q) (hx : SlI w w.heap.size xv x) (_ : I64 v) :
    Calls Try.prog 114 #[u, xv, .int .i64 v] w fun e w' => ∃ r, e = .returned (.tuple #[r, .bool (reflQ q x v).2]) ∧ IntsO w' w.heap.size w'.heap.size r (reflQ q x v).1 ∧ Below w.heap.size w w' := by
  have hu' := hu
  obtain ⟨A, c, C, d, rfl, hf, hT, hr, lf, lt⟩ := hu.open_
  have hx' := hx
  obtain ⟨XA, xc, rfl, _, _, lx, _⟩ := hx.open_
  clear hu hx hf hT
  obtain ⟨W, hW⟩ : ∃ W, W = w.alloc (.cells #[.int .i64 q.v, .slice A q.f.length c, .slice C q.t.length d] 27) := ⟨_, rfl⟩
  have g0 : Below w.heap.size w W := by rw [hW]; exact below_alloc _ _
  have kB : Blk W w.heap.size 27 #[.int .i64 q.v, .slice A q.f.length c, .slice C q.t.length d] := by rw [hW]; exact Blk.new _ _ _
  have c0 := kB.cell' (i := 0) rfl
  have c1 := kB.cell' (i := 1) rfl
  have c2 := kB.cell' (i := 2) rfl
  have h0 := QvR.next g0 hu'
  have hx0 := SlI.next g0 hx'
  clear hu' hx'
  rcases hq : isNum q x with _ | _
  · have hF : Hid (reflQ q x v = ([], false)) := by show _ = _; simp [reflQ, hq]
    go_enter Try.func114, Try.ntmps114
    go_wp2_with fail
    rw [← hW]; clear hW
    refine (l18Vector_any _ _ _ _ _ h0 hx0).mono ?_; rintro e w1 ⟨rfl, hb1⟩
    rw [hq]
    have g1 := bthen g0 hb1
    go_wp2
    exact bodyPost_ret (v := .tuple #[.slice (some ⟨w1.heap.size, 0, none⟩) 0 0, .bool false]) (by simp [results, go_sem]) rfl ⟨_, by rw [hF.out], by rw [hF.out]; exact IntsO.made_ _ g1.size, g1.alloc g1.size _⟩
  obtain ⟨hq1, hq2, hq3⟩ := isNum_t.1 hq
  obtain ⟨⟨hv1, hv2⟩, hlen, _, _, _⟩ := isQ_t.1 hq1
  have HQ1 := Lib.hid hq1
  have HLE := Lib.hid hlen
  clear hq1 hq2 hq3 hlen
  rcases hin : inR v 0 (q.v - 1) with _ | _
  · have hF : Hid (reflQ q x v = ([], false)) := by show _ = _; simp [reflQ, hin]
    go_enter Try.func114, Try.ntmps114
    go_wp2_with fail
    rw [← hW]; clear hW
    refine (l18Vector_any _ _ _ _ _ h0 hx0).mono ?_; rintro e w1 ⟨rfl, hb1⟩
    rw [hq]
    have g1 := bthen g0 hb1
    have d0 := (kB.call hb1).cell' (i := 0) rfl
    clear c0 c1 c2
    go_wp2_with fail
    refine (l1In_any _ _ _ _).mono ?_; rintro e w9 ⟨rfl, rfl⟩
    rw [hin]
    go_wp2
    exact bodyPost_ret (v := .tuple #[.slice (some ⟨w9.heap.size, 0, none⟩) 0 0, .bool false]) (by simp [results, go_sem]) rfl ⟨_, by rw [hF.out], by rw [hF.out]; exact IntsO.made_ _ g1.size, g1.alloc g1.size _⟩
  have hvr := inR_t.1 hin
  rcases hlo : loopQ q v with _ | _
  · obtain ⟨n, rfl⟩ : ∃ n : Nat, v = n := ⟨v.toNat, by omega⟩
    have hF : Hid (reflQ q x n = (reflL q x n, true)) := by show _ = _; simp [reflQ, hq, hin, hlo]
    have hnv : n < q.v.toNat := by omega
    go_enter Try.func114, Try.ntmps114
    go_wp2_with fail
    rw [← hW]; clear hW
    refine (l18Vector_any _ _ _ _ _ h0 hx0).mono ?_; rintro e w1 ⟨rfl, hb1⟩
    rw [hq]
    have g1 := bthen g0 hb1
    have k1 := kB.call hb1
    have h1 := QvR.next hb1 h0
    have hx1 := SlI.next hb1 hx0
    clear c0 c1 c2 h0 hx0 kB
    have d0 := k1.cell' (i := 0) rfl
    have d1 := k1.cell' (i := 1) rfl
    have d2 := k1.cell' (i := 2) rfl
    go_wp2_with fail
    refine (l1In_any _ _ _ _).mono ?_; rintro e w9 ⟨rfl, rfl⟩
    rw [hin]
    go_wp2_with fail
    refine (l21Loop_any _ _ _ _ h1 HLE.out).mono ?_; rintro e w2 ⟨rfl, hb2⟩
    rw [hlo]
    have g2 := bthen g1 hb2
    have k2 := k1.call hb2
    have h2 := QvR.next hb2 h1
    have hx2 := SlI.next hb2 hx1
    clear d0 d1 d2 h1 hx1 k1
    have d0 := k2.cell' (i := 0) rfl
    have d1 := k2.cell' (i := 1) rfl
    have d2 := k2.cell' (i := 2) rfl
    go_wp2_with fail
    refine (symmetricForm_any _ _ _ h2 HQ1.out).mono ?_; rintro e w3 ⟨mv, rfl, hm, hb3⟩
    have g3 := bthen g2 hb3
    have hx3 := SlI.next hb3 hx2
    go_wp2_with fail
    refine (l20Reflect_any _ _ q x n _ hm.rd hx3 hq hnv).mono ?_; rintro e w4 ⟨r, rfl, hr4, hb4⟩
    go_wp2
    exact bodyPost_ret (v := .tuple #[r, .bool true]) (by simp [results, go_sem]) rfl ⟨_, by rw [hF.out], by rw [hF.out]; exact hr4.wider g3.size (Nat.le_refl _), bthen g3 hb4⟩
  · have hF : Hid (reflQ q x v = ([], false)) := by show _ = _; simp [reflQ, hlo]
    go_enter Try.func114, Try.ntmps114
    go_wp2_with fail
    rw [← hW]; clear hW
    refine (l18Vector_any _ _ _ _ _ h0 hx0).mono ?_; rintro e w1 ⟨rfl, hb1⟩
    rw [hq]
    have g1 := bthen g0 hb1
    have k1 := kB.call hb1
    have h1 := QvR.next hb1 h0
    clear c0 c1 c2 h0 hx0 kB
    have d0 := k1.cell' (i := 0) rfl
    have d1 := k1.cell' (i := 1) rfl
    have d2 := k1.cell' (i := 2) rfl
    go_wp2_with fail
    refine (l1In_any _ _ _ _).mono ?_; rintro e w9 ⟨rfl, rfl⟩
    rw [hin]
    go_wp2_with fail
    refine (l21Loop_any _ _ _ _ h1 HLE.out).mono ?_; rintro e w2 ⟨rfl, hb2⟩
    rw [hlo]
    have g2 := bthen g1 hb2
    go_wp2
    exact bodyPost_ret (v := .tuple #[.slice (some ⟨w2.heap.size, 0, none⟩) 0 0, .bool false]) (by simp [results, go_sem]) rfl ⟨_, by rw [hF.out], by rw [hF.out]; exact IntsO.made_ _ g2.size, g2.alloc g2.size _⟩
end Go.Proofs.Ytgbchoenmpoojaa

/- slices.Min at []int; no number negative. -/
namespace Go.Proofs.Ytgbchoenmpoojaa
set_option linter.unusedVariables false
set_option linter.unusedSimpArgs false
open Go.RowKit

def nnL (y : List Int) : Bool := y.all fun a => decide (0 ≤ a)
theorem nnL_t {y : List Int} : nnL y = true ↔ ∀ a ∈ y, 0 ≤ a := by simp [nnL]
def minL (x : List Int) : Int := x.tail.foldl min (x.headD 0)
theorem minL_nn {x : List Int} (h : x ≠ []) : decide (0 ≤ minL x) = nnL x := by
  obtain ⟨a, r, rfl⟩ : ∃ a r, x = a :: r := by cases x with | nil => exact absurd rfl h | cons a r => exact ⟨a, r, rfl⟩
  have : ∀ (r : List Int) (a : Int), decide (0 ≤ r.foldl min a) = nnL (a :: r) := by
    intro r
    induction r with
    | nil => intro a; rw [Bool.eq_iff_iff, decide_eq_true_eq, nnL_t]; simp
    | cons b r ih =>
      intro a
      rw [List.foldl_cons, ih]
      simp only [nnL, List.all_cons]
      rw [Bool.eq_iff_iff]
      simp only [Bool.and_eq_true, decide_eq_true_eq]
      constructor
      · rintro ⟨h1, h2⟩; exact ⟨by omega, by omega, h2⟩
      · rintro ⟨h1, h2, h3⟩; exact ⟨by omega, h3⟩
  exact this r a
theorem minL_succ {x : List Int} {k : Nat} {a : Int} (hk : 1 ≤ k) (h : x[k]? = some a) : minL (x.take (k + 1)) = min (minL (x.take k)) a := by
  obtain ⟨b, r, rfl⟩ : ∃ b r, x = b :: r := by cases x with | nil => simp at h | cons b r => exact ⟨b, r, rfl⟩
  obtain ⟨k, rfl⟩ : ∃ k', k = k' + 1 := ⟨k - 1, by omega⟩
  simp only [List.getElem?_cons_succ] at h
  simp only [List.take_succ_cons, minL, List.tail_cons, List.headD_cons]
  rw [take_snoc h, List.foldl_append]
  rfl
theorem minL_one {x : List Int} {a : Int} (h : x[0]? = some a) : minL (x.take 1) = a := by
  obtain ⟨b, r, rfl⟩ : ∃ b r, x = b :: r := by cases x with | nil => simp at h | cons b r => exact ⟨b, r, rfl⟩
  simp at h
  subst h
  simp [minL]
set_option maxHeartbeats 800000 in
theorem sliceMin_any (u : Value) (xs : List Int) (w : World) (hu : SlI w w.heap.size u xs) (h0 : 0 < xs.length) (hr : ∀ a ∈ xs, -100000 ≤ a ∧ a ≤ 100000) :
    Calls Try.prog 56 #[u] w fun e w' => e = .returned (.int .i64 (minL xs)) ∧ w' = w := by
  obtain ⟨A, c, rfl, _, _, hn, hx⟩ := hu.open_
  clear hu
  obtain ⟨b, o, x0, rfl, hb, HX0, c0, _⟩ := SlI.at_ (k := 0) hx h0
  rw [Nat.add_zero] at c0
  have H1 := Lib.hid (minL_one HX0.out)
  have hnl : ¬ (xs.length : Int) < 1 := by omega
  go_enter Try.func56, Try.ntmps56
  go_wp2
  go_loop [3, 4] (fun m i => ∃ k : Nat, 1 ≤ k ∧ k ≤ xs.length ∧ i = .int .i64 k ∧ m = .int .i64 (minL (xs.take k))) (fun _ i => xs.length - (intOf i).toNat)
  case atStart => exact ⟨1, Nat.le_refl _, by omega, rfl, by rw [H1.out]⟩
  case round =>
    obtain ⟨k, hk1, hk, rfl, rfl⟩ := hrel
    by_cases hlt : k < xs.length
    · obtain ⟨b', o', x, hAe, hb', HX, c1, hx1, hx2⟩ := SlI.at_ hx hlt
      injection hAe with hAe
      injection hAe with e1 e2
      subst e1 e2
      have hst := Lib.hid (minL_succ hk1 HX.out)
      obtain ⟨M, hM⟩ : ∃ M, minL (xs.take k) = M := ⟨_, rfl⟩
      rw [hM] at hst ⊢
      clear hM hx c0
      by_cases hlm : x < M
      · have hmin := Lib.hid (show min M x = x by omega)
        go_wp2
        go_round
        case rel => exact ⟨k + 1, by omega, by omega, by go_num, by rw [hst.out, hmin.out]⟩
        case measure => simp [intOf]; omega
      · have hmin := Lib.hid (show min M x = M by omega)
        go_wp2
        go_round
        case rel => exact ⟨k + 1, by omega, by omega, by go_num, by rw [hst.out, hmin.out]⟩
        case measure => simp [intOf]; omega
    · obtain rfl : k = xs.length := by omega
      go_wp2
      go_ret
      exact ⟨rfl, rfl⟩
end Go.Proofs.Ytgbchoenmpoojaa

/- Fields, vectors, matrices, dimensions: the tests of both sides. -/
namespace Go.Proofs.Ytgbchoenmpoojaa
set_option linter.unusedVariables false
set_option linter.unusedSimpArgs false
open Go.RowKit

def isFld (p : Int) : Bool := decide (p = 2 ∨ p = 3 ∨ p = 5)
theorem isFld_t {p : Int} : isFld p = true ↔ p = 2 ∨ p = 3 ∨ p = 5 := by simp [isFld]
theorem isFld_f {p : Int} : isFld p = false ↔ p ≠ 2 ∧ p ≠ 3 ∧ p ≠ 5 := by simp [isFld]
theorem isFld_r {p : Int} (h : isFld p = true) : 2 ≤ p ∧ p ≤ 5 := by have := isFld_t.1 h; omega
def isVec (p : Int) (v : List Int) : Bool := isFld p && decide (v.length ≤ 64) && allR v 0 (p - 1)
theorem isVec_t {p : Int} {v : List Int} : isVec p v = true ↔ isFld p = true ∧ v.length ≤ 64 ∧ ∀ x ∈ v, 0 ≤ x ∧ x ≤ p - 1 := by
  simp only [isVec, Bool.and_eq_true, decide_eq_true_eq, allR_t, and_assoc]
def isMat (p : Int) (m : Mx) : Bool := inR m.r 0 8 && inR m.c 0 8 && decide ((m.a.length : Int) = m.r * m.c) && isVec p m.a
theorem isMat_t {p : Int} {m : Mx} : isMat p m = true ↔ (0 ≤ m.r ∧ m.r ≤ 8) ∧ (0 ≤ m.c ∧ m.c ≤ 8) ∧ (m.a.length : Int) = m.r * m.c ∧ isVec p m.a = true := by
  simp only [isMat, Bool.and_eq_true, inR_t, decide_eq_true_eq, and_assoc]
def areDims (q : Qv) (d : List Int) : Bool := isQ q && decide ((d.length : Int) = q.v) && allR d 0 4 && decide (d.sum ≤ 8)
theorem areDims_t {q : Qv} {d : List Int} : areDims q d = true ↔ isQ q = true ∧ (d.length : Int) = q.v ∧ (∀ x ∈ d, 0 ≤ x ∧ x ≤ 4) ∧ d.sum ≤ 8 := by
  simp only [areDims, Bool.and_eq_true, decide_eq_true_eq, allR_t, and_assoc]
theorem mul_bd {a b : Int} (ha : 0 ≤ a ∧ a ≤ 8) (hb : 0 ≤ b ∧ b ≤ 8) : 0 ≤ a * b ∧ a * b ≤ 64 := by
  obtain ⟨n, rfl⟩ := Int.eq_ofNat_of_zero_le ha.1
  obtain ⟨m, rfl⟩ := Int.eq_ofNat_of_zero_le hb.1
  have h1 : n * m ≤ 8 * 8 := Nat.mul_le_mul (by omega) (by omega)
  have e : (n : Int) * m = ((n * m : Nat) : Int) := by simp
  rw [e]
  omega

theorem allR_end {v : List Int} {lo hi : Int} {k : Nat} (h : ∀ x ∈ v.take k, inR x lo hi = true) (hk : v.length ≤ k) : allR v lo hi = true := by
  rw [List.take_of_length_le hk] at h
  simpa [allR] using h
theorem allR_bad {v : List Int} {lo hi x : Int} {k : Nat} (h : v[k]? = some x) (hx : inR x lo hi = false) : allR v lo hi = false := by
  rw [Bool.eq_false_iff]
  intro h2
  have := List.all_eq_true.1 h2 x (List.mem_of_getElem? h)
  rw [hx] at this
  cases this
theorem allR_step {v : List Int} {lo hi x : Int} {k : Nat} (h : ∀ x ∈ v.take k, inR x lo hi = true) (hx : v[k]? = some x) (h2 : inR x lo hi = true) : ∀ x ∈ v.take (k + 1), inR x lo hi = true := by
  intro y hy
  rw [take_snoc hx, List.mem_append, List.mem_singleton] at hy
  rcases hy with hy | rfl
  · exact h y hy
  · exact h2

end Go.Proofs.Ytgbchoenmpoojaa

/- Dimensions and representations: the tests of both sides. -/
namespace Go.Proofs.Ytgbchoenmpoojaa
set_option linter.unusedVariables false
set_option linter.unusedSimpArgs false
open Go.RowKit

theorem sumW_dims {d : List Int} (h : ∀ x ∈ d, 0 ≤ x ∧ x ≤ 4) (hl : d.length ≤ 5) : sumW d = d.sum ∧ 0 ≤ d.sum ∧ d.sum ≤ 20 := by
  obtain ⟨h1, h2, h3⟩ := sumW_small d 0 4 (by omega) (by omega) h (by omega) (by omega)
  exact ⟨h1, by omega, by omega⟩
theorem sum_bd : ∀ (l : List Int), (∀ x ∈ l, 0 ≤ x ∧ x ≤ 4) → 0 ≤ l.sum ∧ l.sum ≤ 4 * l.length
  | [], _ => by simp
  | a :: l, h => by
    have := sum_bd l (fun x hx => h x (by simp [hx]))
    have := h a (by simp)
    simp only [List.sum_cons, List.length_cons]
    omega
theorem sum_take_le (d : List Int) (k : Nat) (h : ∀ x ∈ d.take k, 0 ≤ x ∧ x ≤ 4) : 0 ≤ (d.take k).sum ∧ (d.take k).sum ≤ 4 * k := by
  have h1 := sum_bd _ h
  have h2 : (d.take k).length ≤ k := List.length_take_le _ _
  omega

set_option maxHeartbeats 800000 in
theorem implAreDims_any (u xv : Value) (q : Qv) (d : List Int) (w : World) (hu : QvR w w.heap.size u q) (hx : SlI w w.heap.size xv d) :
    Calls Try.prog 73 #[u, xv] w fun e w' => e = .returned (.bool (areDims q d)) ∧ Below w.heap.size w w' := by
  obtain ⟨A, c, C, d', eu⟩ := hu.form
  subst eu
  have lx := hx
  obtain ⟨XA, xc, rfl, _, _, lx, _⟩ := lx.open_
  obtain ⟨W, hW⟩ : ∃ W, W = w.alloc (.cells #[.int .i64 q.v, .slice A q.f.length c, .slice C q.t.length d'] 27) := ⟨_, rfl⟩
  have g0 : Below w.heap.size w W := by rw [hW]; exact below_alloc _ _
  have kB : Blk W w.heap.size 27 #[.int .i64 q.v, .slice A q.f.length c, .slice C q.t.length d'] := by rw [hW]; exact Blk.new _ _ _
  have c0 := kB.cell' (i := 0) rfl
  have c1 := kB.cell' (i := 1) rfl
  have c2 := kB.cell' (i := 2) rfl
  replace hu := QvR.next g0 hu
  replace hx := SlI.next g0 hx
  unfold areDims
  rcases hq : isQ q with _ | _
  · go_enter Try.func73, Try.ntmps73
    go_wp2_with fail
    rw [← hW]; clear hW
    refine (implIsQuiver_any _ _ _ hu).mono ?_; rintro e w1 ⟨rfl, hb1⟩
    rw [hq]
    clear hu
    replace g0 := bthen g0 hb1
    replace hx := SlI.next hb1 hx
    replace kB := kB.call hb1
    replace c0 := kB.cell' (i := 0) rfl
    replace c1 := kB.cell' (i := 1) rfl
    replace c2 := kB.cell' (i := 2) rfl
    clear hb1
    go_wp2
    go_ret
    exact ⟨rfl, g0⟩
  obtain ⟨hv1, hv2⟩ := (isQ_t.1 hq).1
  rcases h2 : decide ((d.length : Int) = q.v) with _ | _
  · have e2 : ((d.length : Int) == q.v) = false := by rw [beq_eq_false_iff_ne]; exact of_decide_eq_false h2
    clear h2
    go_enter Try.func73, Try.ntmps73
    go_wp2_with fail
    rw [← hW]; clear hW
    refine (implIsQuiver_any _ _ _ hu).mono ?_; rintro e w1 ⟨rfl, hb1⟩
    rw [hq]
    clear hu
    replace g0 := bthen g0 hb1
    replace hx := SlI.next hb1 hx
    replace kB := kB.call hb1
    replace c0 := kB.cell' (i := 0) rfl
    replace c1 := kB.cell' (i := 1) rfl
    replace c2 := kB.cell' (i := 2) rfl
    clear hb1
    go_wp2
    go_ret
    exact ⟨rfl, g0⟩
  have e2 : ((d.length : Int) == q.v) = true := by rw [beq_iff_eq]; exact of_decide_eq_true h2
  have hl5 : d.length ≤ 5 := by have := of_decide_eq_true h2; omega
  clear h2
  rcases h3 : allR d 0 4 with _ | _
  · have H3 := Lib.hid h3
    clear h3
    go_enter Try.func73, Try.ntmps73
    go_wp2_with fail
    rw [← hW]; clear hW
    refine (implIsQuiver_any _ _ _ hu).mono ?_; rintro e w1 ⟨rfl, hb1⟩
    rw [hq]
    clear hu
    replace g0 := bthen g0 hb1
    replace hx := SlI.next hb1 hx
    replace kB := kB.call hb1
    replace c0 := kB.cell' (i := 0) rfl
    replace c1 := kB.cell' (i := 1) rfl
    replace c2 := kB.cell' (i := 2) rfl
    clear hb1
    go_wp2_with fail
    refine (allWithin_any _ d _ _ _ hx).mono ?_; rintro e w_1 ⟨rfl, hb_1⟩
    replace g0 := bthen g0 hb_1
    replace hx := SlI.next hb_1 hx
    replace kB := kB.call hb_1
    replace c0 := kB.cell' (i := 0) rfl
    replace c1 := kB.cell' (i := 1) rfl
    replace c2 := kB.cell' (i := 2) rfl
    rw [H3.out]
    go_wp2
    go_ret
    exact ⟨rfl, g0⟩
  obtain ⟨s1, s2, s3⟩ := sumW_dims (allR_t.1 h3) hl5
  have H3 := Lib.hid h3
  have H1 := Lib.hid s1
  clear h3 s1
  obtain ⟨s, hs⟩ : ∃ s, d.sum = s := ⟨_, rfl⟩
  rw [hs] at H1 s2 s3 ⊢
  clear hs
  go_enter Try.func73, Try.ntmps73
  go_wp2_with fail
  rw [← hW]; clear hW
  refine (implIsQuiver_any _ _ _ hu).mono ?_; rintro e w1 ⟨rfl, hb1⟩
  rw [hq]
  clear hu
  replace g0 := bthen g0 hb1
  replace hx := SlI.next hb1 hx
  replace kB := kB.call hb1
  replace c0 := kB.cell' (i := 0) rfl
  replace c1 := kB.cell' (i := 1) rfl
  replace c2 := kB.cell' (i := 2) rfl
  clear hb1
  go_wp2_with fail
  refine (allWithin_any _ d _ _ _ hx).mono ?_; rintro e w_2 ⟨rfl, hb_2⟩
  replace g0 := bthen g0 hb_2
  replace hx := SlI.next hb_2 hx
  replace kB := kB.call hb_2
  replace c0 := kB.cell' (i := 0) rfl
  replace c1 := kB.cell' (i := 1) rfl
  replace c2 := kB.cell' (i := 2) rfl
  rw [H3.out]
  go_wp2_with fail
  refine (sumOf_any _ d _ hx).mono ?_; rintro e w2 ⟨rfl, rfl⟩
  rw [H1.out]
  go_wp2
  go_ret
  exact ⟨by simp, g0⟩

set_option maxHeartbeats 800000 in
theorem specAreDims_any (u xv : Value) (q : Qv) (d : List Int) (w : World) (hu : QvR w w.heap.size u q) (hx : SlI w w.heap.size xv d) :
    Calls Try.prog 70 #[u, xv] w fun e w' => e = .returned (.bool (areDims q d)) ∧ Below w.heap.size w w' := by
  obtain ⟨A, c, C, d', eu⟩ := hu.form
  subst eu
  have lx := hx
  obtain ⟨XA, xc, rfl, _, _, lx, _⟩ := lx.open_
  obtain ⟨W, hW⟩ : ∃ W, W = w.alloc (.cells #[.int .i64 q.v, .slice A q.f.length c, .slice C q.t.length d'] 27) := ⟨_, rfl⟩
  have g0 : Below w.heap.size w W := by rw [hW]; exact below_alloc _ _
  have kB : Blk W w.heap.size 27 #[.int .i64 q.v, .slice A q.f.length c, .slice C q.t.length d'] := by rw [hW]; exact Blk.new _ _ _
  have c0 := kB.cell' (i := 0) rfl
  have c1 := kB.cell' (i := 1) rfl
  have c2 := kB.cell' (i := 2) rfl
  replace hu := QvR.next g0 hu
  replace hx := SlI.next g0 hx
  unfold areDims
  rcases hq : isQ q with _ | _
  · go_enter Try.func70, Try.ntmps70
    go_wp2_with fail
    rw [← hW]; clear hW
    refine (specIsQuiver_any _ _ _ hu).mono ?_; rintro e w1 ⟨rfl, hb1⟩
    rw [hq]
    clear hu
    replace g0 := bthen g0 hb1
    replace hx := SlI.next hb1 hx
    replace kB := kB.call hb1
    replace c0 := kB.cell' (i := 0) rfl
    replace c1 := kB.cell' (i := 1) rfl
    replace c2 := kB.cell' (i := 2) rfl
    clear hb1
    go_wp2
    go_ret
    exact ⟨rfl, g0⟩
  obtain ⟨hv1, hv2⟩ := (isQ_t.1 hq).1
  rcases h2 : decide ((d.length : Int) = q.v) with _ | _
  · have e2 : ((d.length : Int) != q.v) = true := by rw [bne_iff_ne]; exact of_decide_eq_false h2
    clear h2
    go_enter Try.func70, Try.ntmps70
    go_wp2_with fail
    rw [← hW]; clear hW
    refine (specIsQuiver_any _ _ _ hu).mono ?_; rintro e w1 ⟨rfl, hb1⟩
    rw [hq]
    clear hu
    replace g0 := bthen g0 hb1
    replace hx := SlI.next hb1 hx
    replace kB := kB.call hb1
    replace c0 := kB.cell' (i := 0) rfl
    replace c1 := kB.cell' (i := 1) rfl
    replace c2 := kB.cell' (i := 2) rfl
    clear hb1
    go_wp2
    go_ret
    exact ⟨rfl, g0⟩
  have e2 : ((d.length : Int) != q.v) = false := by rw [bne_eq_false_iff_eq]; exact of_decide_eq_true h2
  have hl5 : d.length ≤ 5 := by have := of_decide_eq_true h2; omega
  clear h2
  go_enter Try.func70, Try.ntmps70
  go_wp2_with fail
  rw [← hW]; clear hW
  refine (specIsQuiver_any _ _ _ hu).mono ?_; rintro e w1 ⟨rfl, hb1⟩
  rw [hq]
  clear hu
  replace g0 := bthen g0 hb1
  replace hx := SlI.next hb1 hx
  replace kB := kB.call hb1
  replace c0 := kB.cell' (i := 0) rfl
  replace c1 := kB.cell' (i := 1) rfl
  replace c2 := kB.cell' (i := 2) rfl
  clear hb1
  go_wp2
  go_loopw [5, 6] (fun n i wr => ∃ k : Nat, k ≤ d.length ∧ i = .int .i64 k ∧ n = .int .i64 (d.take k).sum ∧ wr = w1 ∧ Hid (∀ x ∈ d.take k, inR x 0 4 = true)) (fun _ i _ => d.length - (intOf i).toNat)
  case atStart => exact ⟨0, Nat.zero_le _, rfl, by simp, rfl, by show ∀ x ∈ _, _; simp⟩
  case round =>
    obtain ⟨k, hk, rfl, rfl, rfl, hall⟩ := hrel
    have hsm := sum_take_le d k (fun x hx => inR_t.1 (hall.out x hx))
    obtain ⟨hs1, hs2⟩ := hsm
    obtain ⟨s, hs⟩ : ∃ s, (d.take k).sum = s := ⟨_, rfl⟩
    rw [hs] at hs1 hs2 ⊢
    have HS := Lib.hid hs
    clear hs
    by_cases hlt : k < d.length
    · obtain ⟨b, o, x, rfl, hb, HX, x1, _⟩ := SlI.at_ hx hlt
      clear hx
      rcases h3 : inR x 0 4 with _ | _
      · have HF := Lib.hid (allR_bad HX.out h3)
        have H3 := Lib.hid h3
        clear h3
        go_wp2_with fail
        refine (l1In_any _ _ _ _).mono ?_; rintro e w' ⟨rfl, rfl⟩
        rw [H3.out]
        go_wp2
        go_ret
        exact ⟨by rw [HF.out]; rfl, g0⟩
      · have HT := Lib.hid (allR_step hall.out HX.out h3)
        have HSU := Lib.hid (show (d.take (k + 1)).sum = s + x by rw [take_snoc HX.out, List.sum_append, HS.out]; simp)
        obtain ⟨x3, x4⟩ := inR_t.1 h3
        have H3 := Lib.hid h3
        clear h3
        go_wp2_with fail
        refine (l1In_any _ _ _ _).mono ?_; rintro e w' ⟨rfl, rfl⟩
        rw [H3.out]
        go_wp2
        go_roundw
        case rel => exact ⟨k + 1, by omega, by go_num, by rw [HSU.out], trivial, HT.out⟩
        case measure => simp [intOf]; omega
    · have HF := Lib.hid (allR_end hall.out (by omega))
      have HE := Lib.hid (show d.sum = s by rw [← HS.out, List.take_of_length_le (by omega)])
      go_wp2
      go_ret
      exact ⟨by rw [HF.out, HE.out]; simp, g0⟩

/-! ### representations -/
def dAt (d : List Int) (v : Int) : Int := d.getD v.toNat 0
def okM (x : Rp) (m : Mx) (f t : Int) : Bool := isMat x.p m && decide (m.c = dAt x.d f) && decide (m.r = dAt x.d t)
def okMs (x : Rp) (k : Nat) : Bool := (List.range k).all fun i => okM x (x.m.getD i ⟨0, 0, []⟩) (x.q.f.getD i 0) (x.q.t.getD i 0)
def isRep (x : Rp) : Bool := isFld x.p && areDims x.q x.d && decide (x.m.length = x.q.f.length) && okMs x x.m.length
theorem okMs_succ {x : Rp} {k : Nat} {m : Mx} {f t : Int} (hm : x.m[k]? = some m) (hf : x.q.f[k]? = some f) (ht : x.q.t[k]? = some t) : okMs x (k + 1) = (okMs x k && okM x m f t) := by
  simp [okMs, List.range_succ, List.getD_eq_getElem?_getD, hm, hf, ht]
theorem okMs_mono {x : Rp} {k n : Nat} (h : okMs x k = false) (hk : k ≤ n) : okMs x n = false := by
  simp only [okMs, List.all_eq_false, List.mem_range] at h ⊢
  obtain ⟨i, hi, h⟩ := h
  exact ⟨i, by omega, h⟩
theorem dAt_of {d : List Int} {n : Nat} {y : Int} (h : d[n]? = some y) : dAt d (n : Int) = y := by
  simp [dAt, List.getD_eq_getElem?_getD, h]
/-- what a round of IsRep meets -/
theorem rep_at {x : Rp} (hq : areDims x.q x.d = true) {k : Nat} (hk : k < x.q.f.length) : ∃ (nf nt : Nat) (yf yt : Int), x.q.f[k]? = some (nf : Int) ∧ x.q.t[k]? = some (nt : Int) ∧ x.d[nf]? = some yf ∧ x.d[nt]? = some yt ∧ nf < x.d.length ∧ nt < x.d.length ∧ nf ≤ 5 ∧ nt ≤ 5 ∧ k < x.q.t.length := by
  obtain ⟨h1, h2, h3, h4⟩ := areDims_t.1 hq
  obtain ⟨hv, hl, h6, hf, ht⟩ := isQ_t.1 h1
  have ef := List.getElem?_eq_getElem hk
  have et := List.getElem?_eq_getElem (show k < x.q.t.length by omega)
  have bf := hf _ (List.mem_of_getElem? ef)
  have bt := ht _ (List.mem_of_getElem? et)
  obtain ⟨nf, enf⟩ := Int.eq_ofNat_of_zero_le bf.1
  obtain ⟨nt, ent⟩ := Int.eq_ofNat_of_zero_le bt.1
  rw [enf] at ef bf
  rw [ent] at et bt
  exact ⟨nf, nt, x.d[nf]'(by omega), x.d[nt]'(by omega), ef, et, List.getElem?_eq_getElem _, List.getElem?_eq_getElem _, by omega, by omega, by omega, by omega, by omega⟩
end Go.Proofs.Ytgbchoenmpoojaa

/- The two IsRep. -/
namespace Go.Proofs.Ytgbchoenmpoojaa
set_option linter.unusedVariables false
set_option linter.unusedSimpArgs false
open Go.RowKit

theorem QvR.sl {w : World} {B n m a c : Nat} {v : Int} {A C : Option Addr} {q : Qv} (h : QvR w B (.agg #[.int .i64 v, .slice A n a, .slice C m c]) q) : SlI w B (.slice A n a) q.f ∧ SlI w B (.slice C m c) q.t := by
  obtain ⟨s, t, e, h1, h2, _⟩ := h
  simp only [Value.agg.injEq, Array.mk.injEq, List.cons.injEq, and_true] at e
  obtain ⟨_, rfl, rfl⟩ := e
  exact ⟨h1, h2⟩


end Go.Proofs.Ytgbchoenmpoojaa

/- Equal quivers, the quiver of pencils, the two IsPencil. -/
namespace Go.Proofs.Ytgbchoenmpoojaa
set_option linter.unusedVariables false
set_option linter.unusedSimpArgs false
open Go.RowKit

set_option maxHeartbeats 400000 in
theorem slEqual_any (u v : Value) (xs ys : List Int) (w : World) (hu : SlI w w.heap.size u xs) (hv : SlI w w.heap.size v ys) :
    Calls Try.prog 44 #[u, v] w fun e w' => e = .returned (.bool (decide (xs = ys))) ∧ Below w.heap.size w w' := by
  obtain ⟨A, c, rfl, _, _, hn, hx⟩ := hu.open_
  obtain ⟨C, d, rfl, _, _, hm, hy⟩ := hv.open_
  clear hu hv
  by_cases hnm : xs.length = ys.length
  · have heq : ((xs.length : Int) != ys.length) = false := by rw [bne_eq_false_iff_eq]; omega
    have HN := Lib.hid hnm
    clear hnm
    go_enter Try.func44, Try.ntmps44
    go_wp2
    go_loopw [5, 13] (fun _ i wr => ∃ k q : Nat, k ≤ xs.length ∧ i = .int .i64 k ∧ wr = w.drewN q ∧ Hid (xs.take k = ys.take k)) (fun _ i _ => xs.length - (intOf i).toNat)
    case atStart => exact ⟨0, 0, Nat.zero_le _, rfl, rfl, rfl⟩
    case round =>
      obtain ⟨k, q, hk, rfl, rfl, hxy⟩ := hrel
      by_cases hlt : k < xs.length
      · have hlt' : k < ys.length := by have := HN.out; omega
        obtain ⟨b, o, x, rfl, hb, HX, c1, _⟩ := SlI.at_ hx hlt
        obtain ⟨b', o', x', rfl, hb', HX', c1', _⟩ := SlI.at_ hy hlt'
        clear hx hy
        by_cases hE : x = x'
        · subst hE
          go_wp2
          go_quiet (fail)
          go_wp2
          go_roundw
          case rel =>
            refine ⟨k + 1, q + nq, by omega, by go_num, rfl, ?_⟩
            show _ = _
            rw [take_snoc HX.out, take_snoc HX'.out, hxy.out]
          case measure => simp [intOf]; omega
        · have hne : (x != x') = true := by simpa using hE
          have hxy' : Hid (xs ≠ ys) := by
            rintro rfl
            have h2 := HX.out
            rw [HX'.out] at h2
            exact hE (by injection h2 with h2; exact h2.symm)
          clear hE
          go_wp2
          go_quiet (fail)
          go_wp2
          go_ret
          exact ⟨by rw [decide_eq_false hxy'.out]; rfl, below_drewN (drewN_below _ _ _) _⟩
      · go_wp2
        go_ret
        refine ⟨?_, drewN_below _ _ _⟩
        have h1 := hxy.out
        rw [List.take_of_length_le (by omega), List.take_of_length_le (by have := HN.out; omega)] at h1
        simp [h1]
  · have hne : ((xs.length : Int) != ys.length) = true := by rw [bne_iff_ne]; omega
    go_enter Try.func44, Try.ntmps44
    go_wp2
    go_ret
    refine ⟨?_, Below.refl _ _⟩
    rw [decide_eq_false (by rintro rfl; omega)]; rfl
set_option maxHeartbeats 400000 in
theorem l6Same_any (u v : Value) (xs ys : List Int) (w : World) (hu : SlI w w.heap.size u xs) (hv : SlI w w.heap.size v ys) :
    Calls Try.prog 41 #[u, v] w fun e w' => e = .returned (.bool (decide (xs = ys))) ∧ Below w.heap.size w w' := by
  obtain ⟨A, c, rfl, _, _, hn, hx⟩ := hu.open_
  obtain ⟨C, d, rfl, _, _, hm, hy⟩ := hv.open_
  clear hu hv
  by_cases hnm : xs.length = ys.length
  · have heq : ((xs.length : Int) != ys.length) = false := by rw [bne_eq_false_iff_eq]; omega
    have HN := Lib.hid hnm
    clear hnm
    go_enter Try.func41, Try.ntmps41
    go_wp2
    go_loopw [5] (fun i wr => ∃ k q : Nat, k ≤ xs.length ∧ i = .int .i64 k ∧ wr = w.drewN q ∧ Hid (xs.take k = ys.take k)) (fun i _ => xs.length - (intOf i).toNat)
    case atStart => exact ⟨0, 0, Nat.zero_le _, rfl, rfl, rfl⟩
    case round =>
      obtain ⟨k, q, hk, rfl, rfl, hxy⟩ := hrel
      by_cases hlt : k < xs.length
      · have hlt' : k < ys.length := by have := HN.out; omega
        obtain ⟨b, o, x, rfl, hb, HX, c1, _⟩ := SlI.at_ hx hlt
        obtain ⟨b', o', x', rfl, hb', HX', c1', _⟩ := SlI.at_ hy hlt'
        clear hx hy
        by_cases hE : x = x'
        · subst hE
          go_wp2
          go_quiet (fail)
          go_wp2
          go_roundw
          case rel =>
            refine ⟨k + 1, q + nq, by omega, by go_num, rfl, ?_⟩
            show _ = _
            rw [take_snoc HX.out, take_snoc HX'.out, hxy.out]
          case measure => simp [intOf]; omega
        · have hne : (x != x') = true := by simpa using hE
          have hxy' : Hid (xs ≠ ys) := by
            rintro rfl
            have h2 := HX.out
            rw [HX'.out] at h2
            exact hE (by injection h2 with h2; exact h2.symm)
          clear hE
          go_wp2
          go_quiet (fail)
          go_wp2
          go_ret
          exact ⟨by rw [decide_eq_false hxy'.out]; rfl, below_drewN (drewN_below _ _ _) _⟩
      · go_wp2
        go_ret
        refine ⟨?_, drewN_below _ _ _⟩
        have h1 := hxy.out
        rw [List.take_of_length_le (by omega), List.take_of_length_le (by have := HN.out; omega)] at h1
        simp [h1]
  · have hne : ((xs.length : Int) != ys.length) = true := by rw [bne_iff_ne]; omega
    go_enter Try.func41, Try.ntmps41
    go_wp2
    go_ret
    refine ⟨?_, Below.refl _ _⟩
    rw [decide_eq_false (by rintro rfl; omega)]; rfl

/-- the quiver of pencils -/
def pQ : Qv := ⟨2, [0, 0], [1, 1]⟩
def isPen (x : Rp) : Bool := isRep x && decide (x.q = pQ)
end Go.Proofs.Ytgbchoenmpoojaa

/- slices.IndexFunc at [][]int with one captured pointer; the closures of rootIndex and KnitPlace. -/
namespace Go.Proofs.Ytgbchoenmpoojaa
set_option linter.unusedVariables false
set_option linter.unusedSimpArgs false
open Go.RowKit

/-- The first place at which p holds, or -1. -/
def gidx (p : List Int → Bool) (l : List (List Int)) : Int := if l.findIdx p < l.length then (l.findIdx p : Int) else -1
theorem gidx_none {p : List Int → Bool} {l : List (List Int)} (h : ∀ x ∈ l, p x = false) : gidx p l = -1 := by
  unfold gidx
  rw [if_neg]
  intro hlt
  have h1 := List.findIdx_getElem (w := hlt)
  have h2 := h _ (List.getElem_mem hlt)
  rw [h1] at h2
  cases h2
theorem gidx_some {p : List Int → Bool} {l : List (List Int)} {k : Nat} {x : List Int} (hx : l[k]? = some x) (hp : p x = true) (hb : ∀ y ∈ l.take k, p y = false) : gidx p l = k := by
  have hk := lt_of_some hx
  have hxk : l[k] = x := by rw [List.getElem?_eq_getElem hk] at hx; injection hx
  have e : l.findIdx p = k := by
    rw [List.findIdx_eq hk]
    refine ⟨by rw [hxk]; exact hp, fun j hj => ?_⟩
    have := hb l[j] (by rw [List.mem_take_iff_getElem]; exact ⟨j, by omega, rfl⟩)
    simp [this]
  unfold gidx
  rw [e, if_pos hk]
theorem gidx_range (p : List Int → Bool) (l : List (List Int)) : -1 ≤ gidx p l ∧ gidx p l < l.length := by
  unfold gidx
  split <;> omega
theorem gidx_any (p : List Int → Bool) (l : List (List Int)) : decide (0 ≤ gidx p l) = l.any p := by
  unfold gidx
  by_cases h : l.findIdx p < l.length
  · rw [if_pos h]
    have h1 := List.findIdx_getElem (w := h)
    have : l.any p = true := List.any_eq_true.2 ⟨_, List.getElem_mem h, h1⟩
    rw [this]
    simp
  · rw [if_neg h]
    have : l.any p = false := by
      rw [List.any_eq_false]
      intro x hx hpx
      exact h (List.findIdx_lt_length_of_exists ⟨x, hx, hpx⟩)
    rw [this]
    simp
set_option maxHeartbeats 800000 in
theorem indexFuncK_any (p1 : Value) (p : List Int → Bool) (u : Value) (ll : List (List Int)) (w : World) (hu : SlII w w.heap.size u ll)
    (hF : ∀ (W : World) (a : Value) (l : List Int), Below w.heap.size w W → SlI W W.heap.size a l → Calls Try.prog 50 #[a, p1] W fun e w' => e = .returned (.bool (p l)) ∧ Below W.heap.size W w') :
    Calls Try.prog 49 #[u, .func (Fn.func 50) #[] #[p1]] w fun e w' => e = .returned (.int .i64 (gidx p ll)) ∧ Below w.heap.size w w' := by
  obtain ⟨A, c, rfl, _, _, hn, hx⟩ := hu.open_
  clear hu
  have HF := Lib.hid hF
  clear hF
  go_enter Try.func49, Try.ntmps49
  go_wp2
  go_loopw [8] (fun i wr => ∃ k : Nat, k ≤ ll.length ∧ i = .int .i64 k ∧ Below w.heap.size w wr ∧ Hid (∀ y ∈ ll.take k, p y = false)) (fun i _ => ll.length - (intOf i).toNat)
  case atStart => exact ⟨0, Nat.zero_le _, rfl, Below.refl _ _, by intro y hy; simp at hy⟩
  case round =>
    obtain ⟨k, hk, rfl, hbel, hno⟩ := hrel
    by_cases hlt : k < ll.length
    · obtain ⟨b, o, l, A', c', rfl, hb, HX, c1, hl⟩ := SlII.at_ hx hlt
      have d1 := bcell hbel hb c1
      have HC := HF.out wr _ l hbel (SlI.more hbel.size (SlI.below hbel hl))
      clear hx c1 hl
      obtain ⟨B, hB⟩ : ∃ B, p l = B := ⟨_, rfl⟩
      rw [hB] at HC
      have HC := Lib.hid HC
      have HB := Lib.hid hB
      clear hB
      cases B
      · go_wp2_with fail
        refine (unhide HC).mono ?_; rintro e w1 ⟨rfl, hb1⟩
        go_wp2
        go_roundw
        case rel =>
          refine ⟨k + 1, by omega, by go_num, hbel.trans (hb1.mono hbel.size), fun y hy => ?_⟩
          rw [take_snoc HX.out, List.mem_append, List.mem_singleton] at hy
          rcases hy with hy | rfl
          · exact hno.out y hy
          · exact HB.out
        case measure => simp [intOf]; omega
      · have hfin := Lib.hid (gidx_some HX.out HB.out hno.out)
        go_wp2_with fail
        refine (unhide HC).mono ?_; rintro e w1 ⟨rfl, hb1⟩
        go_wp2
        go_ret
        exact ⟨by rw [hfin.out]; rfl, hbel.trans (hb1.mono hbel.size)⟩
    · go_wp2
      go_ret
      have h1 := hno.out
      rw [List.take_of_length_le (by omega)] at h1
      exact ⟨by rw [gidx_none h1]; rfl, hbel⟩
theorem slEqualC_any (u v : Value) (xs ys : List Int) (w : World) (hu : SlI w w.heap.size u xs) (hv : SlI w w.heap.size v ys) :
    Calls Try.prog 44 #[u, v] w fun e w' => e = .returned (.bool (decide (ys = xs))) ∧ Below w.heap.size w w' := by
  have h := slEqual_any u v xs ys w hu hv
  rwa [show decide (xs = ys) = decide (ys = xs) from by congr 1; exact propext ⟨Eq.symm, Eq.symm⟩] at h
set_option maxHeartbeats 400000 in
theorem knitEq_any (g : Nat) (a xv : Value) (l x : List Int) (W : World) (ha : SlI W W.heap.size a l) (hc : W.cell? ⟨g, 0, none⟩ = some xv) (hx : SlI W W.heap.size xv x) :
    Calls Try.prog 50 #[a, .pointer (some ⟨g, 0, none⟩)] W fun e w' => e = .returned (.bool (decide (l = x))) ∧ Below W.heap.size W w' := by
  have hE : Calls Try.prog 44 #[xv, a] W fun e w' => e = .returned (.bool (decide (l = x))) ∧ Below W.heap.size W w' := slEqualC_any _ _ x l W hx ha
  obtain ⟨A, c, rfl, _⟩ := ha.open_
  obtain ⟨C, d, rfl, _⟩ := hx.open_
  clear ha hx
  obtain ⟨B, hB⟩ : ∃ B, decide (l = x) = B := ⟨_, rfl⟩
  rw [hB] at hE ⊢
  clear hB
  go_enter Try.func50, Try.ntmps50
  go_wp2_with fail
  refine hE.mono ?_; rintro e w1 ⟨rfl, hb1⟩
  clear hE
  go_wp2
  go_ret
  exact ⟨rfl, hb1⟩

end Go.Proofs.Ytgbchoenmpoojaa

/- Facts of the whole program that every row asks for, each met once for the seat. -/
namespace Go.Proofs.Ytgbchoenmpoojaa
set_option linter.unusedVariables false
set_option linter.unusedSimpArgs false
open Go.RowKit

theorem seatEnter : Try.prog.mayEnter = true := by kernel_rfl
theorem seatLifts : (false == Try.prog.liftsFinal) = true := by kernel_rfl
theorem seatMake : (Try.prog.make == some .cut) = true := by kernel_rfl
theorem band {a b : Bool} (h : a = true) (k : b = true) : (a && b) = true := by rw [h, k]; rfl
end Go.Proofs.Ytgbchoenmpoojaa
