/- FnExactRepOfZigzag: for every argument the program's function returns what the reference's returns. Part 11 of 12 of the proof: DsS, RzS. No condition. -/
import Derived.Test.YtcmlflppndfdcaaBRepOfZigzag10
/- The reference's DirectSum. -/
namespace Go.Proofs.Ytcmlflppndfdcaa
set_option linter.unusedVariables false
set_option linter.unusedSimpArgs false
open Go.RowKit

def sumR (p : Int) (q : Qv) (D D' : Nat → Nat) (E E' : Nat → Nat → Nat → Int) : Rp := rpF p q (fun v => D v + D' v) (dsF q D E E')
def sumP (p : Int) (q : Qv) (D D' : Nat → Nat) (E E' : Nat → Nat → Nat → Int) : Rp × Bool := if isRep (sumR p q D D' E E') then (sumR p q D D' E E', true) else (rp0, false)
def sumM (q : Qv) (D D' : Nat → Nat) (E E' : Nat → Nat → Nat → Int) (i : Nat) : Mx := mxF (D (tN q i) + D' (tN q i)) (D (fN q i) + D' (fN q i)) (dsE (D (tN q i)) (D (fN q i)) (E i) (E' i))
theorem msF_succ (n : Nat) (F : Nat → Mx) : msF (n + 1) F = msF n F ++ [F n] := by simp [msF, List.range_succ]
theorem rowF_snoc (n : Nat) (g : Nat → Int) : rowF (n + 1) g = rowF n g ++ [g n] := by simp [rowF, List.range_succ]
theorem OwnI.fresh {w : World} {base g : Nat} (h : Blk w g 3 #[]) (hb : base ≤ g) : OwnI w base (.slice (some ⟨g, 0, none⟩) 0 0) [] := by
  have h1 := h.own (base := base) (n := 0) (cap := 0) (size := 1) hb (Nat.le_refl _) (by simp only [maxLen]; omega) (by simp)
  exact ⟨by simpa using h1, by simp, fun x hx => by simp at hx⟩
theorem RowO.fresh {w : World} {base g : Nat} {T : TypeId} {sz : Nat} (h : Blk w g T #[]) (hb : base ≤ g) : RowO T sz w base w.heap.size (.slice (some ⟨g, 0, none⟩) 0 0) 0 [] := by
  have h1 := h.own (base := base) (n := 0) (cap := 0) (size := sz) hb (Nat.le_refl _) (by simp only [maxLen]; omega) (by simp)
  exact ⟨by simpa using h1, fun k hk => by simp [Value.ownBlock] at hk; subst hk; exact h.lt, by omega⟩
theorem slOneD {w : World} {g : Nat} {x : Int} (hk : Blk w g 3 #[.int .i64 x]) (hx : I64 x) : SlI w w.heap.size (.slice (some ⟨g, 0, none⟩) 1 1) [x] :=
  ⟨some ⟨g, 0, none⟩, 1, rfl, by simp, by omega, by simp, fun _ => ⟨g, 0, rfl, hk.lt, fun j y hj => by
    match j, hj with
    | 0, hj => simp at hj; subst hj; exact ⟨by simpa using hk.cell' (i := 0) rfl, hx⟩
    | j + 1, hj => simp at hj⟩⟩
theorem Fam.two_apart {w : World} {lo hi l1 h1 l2 h2 : Nat} {a b : Value} {l m : List Int} (ha : IntsO w l1 h1 a l) (hb : IntsO w l2 h2 b m) (hd : h1 ≤ l2 ∨ h2 ≤ l1) (k1 : lo ≤ l1) (k2 : lo ≤ l2) (k3 : h1 ≤ hi) (k4 : h2 ≤ hi) : Fam w lo hi ([(a, l)] ++ (b, m) :: []) := fam_apart ha hb hd k1 k2 k3 k4

set_option maxHeartbeats 6400000 in
set_option maxRecDepth 100000 in
theorem specDirectSum_any (ua ub : Value) (p : Int) (q : Qv) (D D' : Nat → Nat) (E E' : Nat → Nat → Nat → Int) (w0 : World) (ha : RpR w0 w0.heap.size ua (rpF p q D E)) (hb : RpR w0 w0.heap.size ub (rpF p q D' E')) (hra : isRep (rpF p q D E) = true) (hrb : isRep (rpF p q D' E') = true) :
    Calls Try.prog 37 #[ua, ub] w0 fun e w' => ∃ r, e = .returned (.tuple #[r, .bool (sumP p q D D' E E').2]) ∧ RepI w' w0.heap.size w'.heap.size r (sumP p q D D' E E').1 ∧ Below w0.heap.size w0 w' := by
  have hda1 := (isRep_t.1 hra).2.1
  have hdb1 := (isRep_t.1 hrb).2.1
  have hq : isQ q = true := (areDims_t.1 hda1).1
  have hD : ∀ v, v < q.v.toNat → D v ≤ 4 := fun v hv => by
    have := (areDims_t.1 hda1).2.2.1 _ (List.mem_of_getElem? (rowF_get (fun v => ((D v : Nat) : Int)) hv))
    omega
  have hD' : ∀ v, v < q.v.toNat → D' v ≤ 4 := fun v hv => by
    have := (areDims_t.1 hdb1).2.2.1 _ (List.mem_of_getElem? (rowF_get (fun v => ((D' v : Nat) : Int)) hv))
    omega
  clear hda1 hdb1
  have HQ := Lib.hid hq
  have hn6 : q.f.length ≤ 6 := (isQ_t.1 hq).2.2.1
  have hV5 : q.v.toNat ≤ 5 := by have := (isQ_t.1 hq).1; omega
  have HRA := Lib.hid hra
  have HRB := Lib.hid hrb
  clear hq hra hrb
  have ha' := ha
  have hb' := hb
  have hI : I64 p ∧ I64 q.v := by obtain ⟨_, _, _, _, _, _, _, _, _, h⟩ := ha; exact h
  obtain ⟨A, a, C, c, Ea, ea, Ha, ha_, rfl, hqa, hda, hma, hp, _, _⟩ := ha.open_
  obtain ⟨A2, a2, C2, c2, Eb, eb, Hb, hb_, rfl, hqb, hdb, hmb, hp2, _, _⟩ := hb.open_
  clear ha hb hqb
  simp only [rpF, rowF_length, msF_length] at hqa hda hdb hma hmb ha' hb' ⊢
  obtain ⟨W, hW⟩ : ∃ W, W = ((w0.alloc (.cells #[.int .i64 p, .int .i64 q.v, .slice A q.f.length a, .slice C q.t.length c, .slice Ea q.v.toNat ea, .slice Ha q.f.length ha_] 31)).alloc (.cells #[.int .i64 p, .int .i64 q.v, .slice A2 q.f.length a2, .slice C2 q.t.length c2, .slice Eb q.v.toNat eb, .slice Hb q.f.length hb_] 31)).alloc (.cells #[.int .i64 0, .int .i64 0, .slice none 0 0, .slice none 0 0, .slice none 0 0, .slice none 0 0] 31) := ⟨_, rfl⟩
  have g0 : Below w0.heap.size w0 W := by rw [hW]; exact (((Below.refl _ _).alloc (Nat.le_refl _) _).alloc (by simp) _).alloc (by simp; omega) _
  have k1 : Blk W w0.heap.size 31 #[.int .i64 p, .int .i64 q.v, .slice A q.f.length a, .slice C q.t.length c, .slice Ea q.v.toNat ea, .slice Ha q.f.length ha_] := by rw [hW]; exact ((Blk.new _ _ _).alloc _).alloc _
  have k2 : Blk W (w0.heap.size + 1) 31 #[.int .i64 p, .int .i64 q.v, .slice A2 q.f.length a2, .slice C2 q.t.length c2, .slice Eb q.v.toNat eb, .slice Hb q.f.length hb_] := by
    rw [hW]
    have := (Blk.new (w0.alloc (.cells #[.int .i64 p, .int .i64 q.v, .slice A q.f.length a, .slice C q.t.length c, .slice Ea q.v.toNat ea, .slice Ha q.f.length ha_] 31)) 31 #[.int .i64 p, .int .i64 q.v, .slice A2 q.f.length a2, .slice C2 q.t.length c2, .slice Eb q.v.toNat eb, .slice Hb q.f.length hb_]).alloc (.cells #[.int .i64 0, .int .i64 0, .slice none 0 0, .slice none 0 0, .slice none 0 0, .slice none 0 0] 31)
    simpa only [World.size_alloc] using this
  have k3 : Blk W (w0.heap.size + 1 + 1) 31 #[.int .i64 0, .int .i64 0, .slice none 0 0, .slice none 0 0, .slice none 0 0, .slice none 0 0] := by
    rw [hW]
    have := Blk.new ((w0.alloc (.cells #[.int .i64 p, .int .i64 q.v, .slice A q.f.length a, .slice C q.t.length c, .slice Ea q.v.toNat ea, .slice Ha q.f.length ha_] 31)).alloc (.cells #[.int .i64 p, .int .i64 q.v, .slice A2 q.f.length a2, .slice C2 q.t.length c2, .slice Eb q.v.toNat eb, .slice Hb q.f.length hb_] 31)) 31 #[.int .i64 0, .int .i64 0, .slice none 0 0, .slice none 0 0, .slice none 0 0, .slice none 0 0]
    simpa only [World.size_alloc] using this
  have sz : W.heap.size = w0.heap.size + 1 + 1 + 1 := by rw [hW]; simp
  have SZ := Lib.hid sz
  clear sz
  have HA := Lib.hid (RpR.next g0 ha')
  have HB := Lib.hid (RpR.next g0 hb')
  have HQA := Lib.hid (QvR.next g0 hqa)
  have HDA := Lib.hid (SlI.next g0 hda)
  have HDB := Lib.hid (SlI.next g0 hdb)
  have HMA := Lib.hid (SlM.next g0 hma)
  have HMB := Lib.hid (SlM.next g0 hmb)
  clear ha' hb' hda hdb hma hmb hqa
  obtain ⟨V, hV⟩ : ∃ V, q.v.toNat = V := ⟨_, rfl⟩
  rw [hV] at k1 k2 hD hD' hV5 HA HB HDA HDB hW
  have HV := Lib.hid hV
  rw [hV]
  clear hV
  have HDk := Lib.hid hD
  have HDk' := Lib.hid hD'
  clear hD hD'
  have K1 := Lib.hid k1
  have K2 := Lib.hid k2
  have K3 := Lib.hid k3
  have G0 := Lib.hid g0
  have z0 := k1.cell' (i := 0) rfl
  have z1 := k1.cell' (i := 1) rfl
  have z2 := k1.cell' (i := 2) rfl
  have z3 := k1.cell' (i := 3) rfl
  have z4 := k1.cell' (i := 4) rfl
  have z5 := k1.cell' (i := 5) rfl
  have y0 := k2.cell' (i := 0) rfl
  have y1 := k2.cell' (i := 1) rfl
  have y2 := k2.cell' (i := 2) rfl
  have y3 := k2.cell' (i := 3) rfl
  have y4 := k2.cell' (i := 4) rfl
  have y5 := k2.cell' (i := 5) rfl
  clear k1 k2 k3 g0
  go_enter Try.func37, Try.ntmps37
  go_wp2_with fail
  rw [← hW]; clear hW
  refine (l9Fit_yes _ _ (rpF p q D E) (rpF p q D' E') _ (by have := HA.out; rwa [← HV.out] at this ⊢) (by have := HB.out; rwa [← HV.out] at this ⊢) HRA.out HRB.out rfl rfl).mono ?_; rintro e w1 ⟨rfl, hb1⟩
  have s1 := hb1.size
  have k1 := K1.out.call hb1
  clear z0 z1 z2 z3 z4 z5 y0 y1 y2 y3 y4 y5
  have HQ1 := Lib.hid (QvR.next hb1 HQA.out)
  go_wp2
  refine wp_region_net (by kernel_rfl) [.eq (.pointer (some ⟨w0.heap.size, 0, none⟩)), .eq (.int .i64 p), .eq (.pointer (some ⟨w0.heap.size, 1, none⟩)), .eq (.agg #[.int .i64 q.v, .slice A q.f.length a, .slice C q.t.length c]), rel 4 (fun u lo hi w => QuivI w lo hi u q), rel 5 (fun u lo hi w => ∃ g, u = .slice (some ⟨g, 0, none⟩) 0 0 ∧ (lo ≤ g ∧ g < hi) ∧ Blk w g 3 #[]), rel 6 (fun u lo hi w => ∃ g, u = .slice (some ⟨g, 0, none⟩) 0 0 ∧ (lo ≤ g ∧ g < hi) ∧ Blk w g 84 #[]), .rel (fun x w => ∃ qa qb, x.v 4 = .agg #[.int .i64 q.v, qa, qb] ∧ x.v 7 = .agg #[.int .i64 p, .int .i64 q.v, qa, qb, x.v 5, x.v 6]), rel 8 (fun u lo hi w => ∃ g, u = .pointer (some ⟨g, 0, none⟩) ∧ (lo ≤ g ∧ g < hi) ∧ Blk w g 31 #[.int .i64 0, .int .i64 0, .slice none 0 0, .slice none 0 0, .slice none 0 0, .slice none 0 0])] [[], [0], [], [2], [2, 3], [], [], [0, 1, 2, 3, 4, 5, 6], [], [0, 1, 2, 3, 4, 5, 6, 7, 8]] 9 (by kernel_rfl) ⟨trivial, trivial, trivial, trivial, rel_stable (fun u lo hi w w' h hb => h.below hb), rel_stable (fun u lo hi w w' ⟨g, e, h1, h⟩ hb => ⟨g, e, h1, h.call hb⟩), rel_stable (fun u lo hi w w' ⟨g, e, h1, h⟩ hb => ⟨g, e, h1, h.call hb⟩), fun x w w' h hb => h, rel_stable (fun u lo hi w w' ⟨g, e, h1, h⟩ hb => ⟨g, e, h1, h.call hb⟩), trivial⟩ ⟨?_, ?_, ?_, ?_, ?_, ?_, ?_, ?_, ?_, trivial⟩ ?_
  · intro x w hb hk Q' hQ
    clear hk
    simp only [netAct, dstAt, List.getElem?_toArray, List.getElem?_cons_zero, List.getElem?_cons_succ, Option.bind_some, Act.put, List.setIfInBounds_toArray, List.set_cons_zero, List.set_cons_succ] at hQ ⊢
    go_wp2
    exact hQ (.pointer (some ⟨w0.heap.size, 0, none⟩)) _ (Below.refl _ _) rfl
  · intro x w hb hk Q' hQ
    have h0 : x.v 0 = .pointer (some ⟨w0.heap.size, 0, none⟩) := (hk 0 (by decide)).1
    clear hk
    simp only [netAct, dstAt, List.getElem?_toArray, List.getElem?_cons_zero, List.getElem?_cons_succ, Option.bind_some, Act.put, List.setIfInBounds_toArray, List.set_cons_zero, List.set_cons_succ] at hQ ⊢
    simp only [h0] at hQ ⊢
    clear h0
    have z := (k1.call hb).cell' (i := 0) rfl
    go_wp2
    exact hQ (.int .i64 p) _ (Below.refl _ _) rfl
  · intro x w hb hk Q' hQ
    clear hk
    simp only [netAct, dstAt, List.getElem?_toArray, List.getElem?_cons_zero, List.getElem?_cons_succ, Option.bind_some, Act.put, List.setIfInBounds_toArray, List.set_cons_zero, List.set_cons_succ] at hQ ⊢
    go_wp2
    exact hQ (.pointer (some ⟨w0.heap.size, 1, none⟩)) _ (Below.refl _ _) rfl
  · intro x w hb hk Q' hQ
    have h2 : x.v 2 = .pointer (some ⟨w0.heap.size, 1, none⟩) := (hk 2 (by decide)).1
    clear hk
    simp only [netAct, dstAt, List.getElem?_toArray, List.getElem?_cons_zero, List.getElem?_cons_succ, Option.bind_some, Act.put, List.setIfInBounds_toArray, List.set_cons_zero, List.set_cons_succ] at hQ ⊢
    simp only [h2] at hQ ⊢
    clear h2
    have z1 := (k1.call hb).cell' (i := 1) rfl
    have z2 := (k1.call hb).cell' (i := 2) rfl
    have z3 := (k1.call hb).cell' (i := 3) rfl
    go_wp2
    exact hQ (.agg #[.int .i64 q.v, .slice A q.f.length a, .slice C q.t.length c]) _ (Below.refl _ _) rfl
  · intro x w hb hk Q' hQ
    have h2 : x.v 2 = .pointer (some ⟨w0.heap.size, 1, none⟩) := (hk 2 (by decide)).1
    have h3 : x.v 3 = .agg #[.int .i64 q.v, .slice A q.f.length a, .slice C q.t.length c] := (hk 3 (by decide)).1
    clear hk
    simp only [netAct, dstAt, List.getElem?_toArray, List.getElem?_cons_zero, List.getElem?_cons_succ, Option.bind_some, Act.put, List.setIfInBounds_toArray, List.set_cons_zero, List.set_cons_succ] at hQ ⊢
    simp only [h2, h3] at hQ ⊢
    clear h2 h3
    go_wp2_with fail
    refine (l6Copy_any _ q _ (QvR.next hb HQ1.out)).mono ?_; rintro e w7 ⟨v7, rfl, ho, hb7⟩
    go_wp2
    exact hQ _ _ hb7 ho
  · intro x w hb hk Q' hQ
    clear hk
    simp only [netAct, dstAt, List.getElem?_toArray, List.getElem?_cons_zero, List.getElem?_cons_succ, Option.bind_some, Act.put, List.setIfInBounds_toArray, List.set_cons_zero, List.set_cons_succ] at hQ ⊢
    go_wp2
    exact hQ _ _ (below_alloc _ _) ⟨_, rfl, ⟨Nat.le_refl _, by show w.heap.size < (w.alloc _).heap.size; simp⟩, Blk.new _ _ _⟩
  · intro x w hb hk Q' hQ
    clear hk
    simp only [netAct, dstAt, List.getElem?_toArray, List.getElem?_cons_zero, List.getElem?_cons_succ, Option.bind_some, Act.put, List.setIfInBounds_toArray, List.set_cons_zero, List.set_cons_succ] at hQ ⊢
    go_wp2
    exact hQ _ _ (below_alloc _ _) ⟨_, rfl, ⟨Nat.le_refl _, by show w.heap.size < (w.alloc _).heap.size; simp⟩, Blk.new _ _ _⟩
  · intro x w hb hk Q' hQ
    have h0 : x.v 0 = .pointer (some ⟨w0.heap.size, 0, none⟩) := (hk 0 (by decide)).1
    have h1 : x.v 1 = .int .i64 p := (hk 1 (by decide)).1
    have h2 : x.v 2 = .pointer (some ⟨w0.heap.size, 1, none⟩) := (hk 2 (by decide)).1
    have h3 : x.v 3 = .agg #[.int .i64 q.v, .slice A q.f.length a, .slice C q.t.length c] := (hk 3 (by decide)).1
    have h4 : QuivI w (x.lo 4) (x.hi 4) (x.v 4) q := (hk 4 (by decide)).1
    have h5 : ∃ g, (x.v 5) = .slice (some ⟨g, 0, none⟩) 0 0 ∧ ((x.lo 5) ≤ g ∧ g < (x.hi 5)) ∧ Blk w g 3 #[] := (hk 5 (by decide)).1
    have h6 : ∃ g, (x.v 6) = .slice (some ⟨g, 0, none⟩) 0 0 ∧ ((x.lo 6) ≤ g ∧ g < (x.hi 6)) ∧ Blk w g 84 #[] := (hk 6 (by decide)).1
    have s4 := (hk 4 (by decide)).2
    have s5 := (hk 5 (by decide)).2
    have s6 := (hk 6 (by decide)).2
    clear hk
    simp only [netAct, dstAt, List.getElem?_toArray, List.getElem?_cons_zero, List.getElem?_cons_succ, Option.bind_some, Act.put, List.setIfInBounds_toArray, List.set_cons_zero, List.set_cons_succ] at hQ ⊢
    simp only [h0, h1, h2, h3] at hQ ⊢
    clear h0 h1 h2 h3
    obtain ⟨qa, qb, e4, f1, f2, _⟩ := h4
    obtain ⟨qA, qc, rfl⟩ := f1.form
    obtain ⟨qB, qd, rfl⟩ := f2.form
    obtain ⟨gd, e5, _⟩ := h5
    obtain ⟨gm, e6, _⟩ := h6
    have hQ' := hQ (.agg #[.int .i64 p, .int .i64 q.v, .slice qA q.f.length qc, .slice qB q.t.length qd, x.v 5, x.v 6]) w (Below.refl _ _) ⟨_, _, e4, rfl⟩
    rw [e4, e5, e6] at hQ' ⊢
    go_wp2
    exact hQ'
  · intro x w hb hk Q' hQ
    clear hk
    simp only [netAct, dstAt, List.getElem?_toArray, List.getElem?_cons_zero, List.getElem?_cons_succ, Option.bind_some, Act.put, List.setIfInBounds_toArray, List.set_cons_zero, List.set_cons_succ] at hQ ⊢
    go_wp2
    exact hQ _ _ (below_alloc _ _) ⟨_, rfl, ⟨Nat.le_refl _, by show w.heap.size < (w.alloc _).heap.size; simp⟩, Blk.new _ _ _⟩
  · intro x w hb hk hiv hdj
    have h0 : x.v 0 = .pointer (some ⟨w0.heap.size, 0, none⟩) := hk 0 (by decide)
    have h1 : x.v 1 = .int .i64 p := hk 1 (by decide)
    have h2 : x.v 2 = .pointer (some ⟨w0.heap.size, 1, none⟩) := hk 2 (by decide)
    have h3 : x.v 3 = .agg #[.int .i64 q.v, .slice A q.f.length a, .slice C q.t.length c] := hk 3 (by decide)
    have h4 : QuivI w (x.lo 4) (x.hi 4) (x.v 4) q := hk 4 (by decide)
    have h5 : ∃ g, (x.v 5) = .slice (some ⟨g, 0, none⟩) 0 0 ∧ ((x.lo 5) ≤ g ∧ g < (x.hi 5)) ∧ Blk w g 3 #[] := hk 5 (by decide)
    have h6 : ∃ g, (x.v 6) = .slice (some ⟨g, 0, none⟩) 0 0 ∧ ((x.lo 6) ≤ g ∧ g < (x.hi 6)) ∧ Blk w g 84 #[] := hk 6 (by decide)
    have h7 : ∃ qa qb, x.v 4 = .agg #[.int .i64 q.v, qa, qb] ∧ x.v 7 = .agg #[.int .i64 p, .int .i64 q.v, qa, qb, x.v 5, x.v 6] := hk 7 (by decide)
    have h8 : ∃ g, (x.v 8) = .pointer (some ⟨g, 0, none⟩) ∧ ((x.lo 8) ≤ g ∧ g < (x.hi 8)) ∧ Blk w g 31 #[.int .i64 0, .int .i64 0, .slice none 0 0, .slice none 0 0, .slice none 0 0, .slice none 0 0] := hk 8 (by decide)
    clear hk
    simp only [netAct, dstAt, List.getElem?_toArray, List.getElem?_cons_zero, List.getElem?_cons_succ, Option.bind_some, Act.put, List.setIfInBounds_toArray, List.set_cons_zero, List.set_cons_succ]
    simp only [List.drop_succ_cons, List.drop_zero, h0, h1, h2, h3]
    clear h0 h1 h2 h3
    obtain ⟨qa, qb, e4, f1, f2, _⟩ := h4
    obtain ⟨qA, qc, rfl⟩ := f1.form
    obtain ⟨qB, qd, rfl⟩ := f2.form
    obtain ⟨gd, e5, hgd, hbd⟩ := h5
    obtain ⟨gm, e6, hgm, hbm⟩ := h6
    obtain ⟨qa', qb', e4', e7⟩ := h7
    rw [e4] at e4'
    simp only [Value.agg.injEq, Array.mk.injEq, List.cons.injEq, and_true, true_and] at e4'
    obtain ⟨rfl, rfl⟩ := e4'
    obtain ⟨gO, e8, hgO, hBO⟩ := h8
    rw [e5, e6] at e7
    rw [e7, e8]
    have i4 := hiv 4 (by decide)
    have i5 := hiv 5 (by decide)
    have i6 := hiv 6 (by decide)
    have i8 := hiv 8 (by decide)
    have d45 := hdj 4 5 (by decide) (by decide) (by decide)
    have fr := hBO.frozen
    have r0 := hBO.cell' (i := 0) rfl
    have r1 := hBO.cell' (i := 1) rfl
    have r2 := hBO.cell' (i := 2) rfl
    have r3 := hBO.cell' (i := 3) rfl
    have r4 := hBO.cell' (i := 4) rfl
    have r5 := hBO.cell' (i := 5) rfl
    have hbs := hb.size
    have gOl := hBO.lt
    have od : OwnI w (x.lo 5) (.slice (some ⟨gd, 0, none⟩) 0 0) [] := OwnI.fresh hbd hgd.1
    have oi : IntsO w (x.lo 5) (x.hi 5) (.slice (some ⟨gd, 0, none⟩) 0 0) [] := ⟨od, fun k hk => by simp [Value.ownBlock] at hk; subst hk; exact hgd.2⟩
    have FA0 := Fam.two_apart (lo := w1.heap.size) (hi := w.heap.size) f1 oi d45 i4.1 i5.1 i4.2.2 i5.2.2
    have FB0 := Fam.two_apart (lo := w1.heap.size) (hi := w.heap.size) f2 oi d45 i4.1 i5.1 i4.2.2 i5.2.2
    have om : RowO 84 3 w w1.heap.size w.heap.size (.slice (some ⟨gm, 0, none⟩) 0 0) 0 [] := RowO.fresh hbm (by omega)
    obtain ⟨W3, hW3⟩ : ∃ W3, (((((w.setCell ⟨gO, 0, none⟩ (.int .i64 p)).setCell ⟨gO, 1, none⟩ (.int .i64 q.v)).setCell ⟨gO, 2, none⟩ (.slice qA q.f.length qc)).setCell ⟨gO, 3, none⟩ (.slice qB q.t.length qd)).setCell ⟨gO, 4, none⟩ (.slice (some ⟨gd, 0, none⟩) 0 0)).setCell ⟨gO, 5, none⟩ (.slice (some ⟨gm, 0, none⟩) 0 0) = W3 := ⟨_, rfl⟩
    have b1 := hBO.set_ 0 (.int .i64 p)
    have b2 := b1.set_ 1 (.int .i64 q.v)
    have b3 := b2.set_ 2 (.slice qA q.f.length qc)
    have b4 := b3.set_ 3 (.slice qB q.t.length qd)
    have b5 := b4.set_ 4 (.slice (some ⟨gd, 0, none⟩) 0 0)
    have b6 := b5.set_ 5 (.slice (some ⟨gm, 0, none⟩) 0 0)
    have hB3 : Blk W3 gO 31 #[.int .i64 p, .int .i64 q.v, .slice qA q.f.length qc, .slice qB q.t.length qd, .slice (some ⟨gd, 0, none⟩) 0 0, .slice (some ⟨gm, 0, none⟩) 0 0] := by
      rw [← hW3]
      exact b6
    have hCh : Chg gO (gO + 1) w W3 := by
      rw [← hW3]
      exact chg6 _ _ _ _ _ _ _ _
    have hs3 : W3.heap.size = w.heap.size := by rw [← hW3]; simp
    have FA : Fam W3 w1.heap.size W3.heap.size ([(.slice qA q.f.length qc, q.f)] ++ (.slice (some ⟨gd, 0, none⟩) 0 0, rowF 0 fun v => ((D v + D' v : Nat) : Int)) :: []) := by
      rw [hs3, ← hW3]
      exact (((((FA0.setBlk hBO (by decide) _).setBlk b1 (by decide) _).setBlk b2 (by decide) _).setBlk b3 (by decide) _).setBlk b4 (by decide) _).setBlk b5 (by decide) _
    have FB : Fam W3 w1.heap.size W3.heap.size ([(.slice qB q.t.length qd, q.t)] ++ (.slice (some ⟨gd, 0, none⟩) 0 0, rowF 0 fun v => ((D v + D' v : Nat) : Int)) :: []) := by
      rw [hs3, ← hW3]
      exact (((((FB0.setBlk hBO (by decide) _).setBlk b1 (by decide) _).setBlk b2 (by decide) _).setBlk b3 (by decide) _).setBlk b4 (by decide) _).setBlk b5 (by decide) _
    have OM : RowO 84 3 W3 w1.heap.size W3.heap.size (.slice (some ⟨gm, 0, none⟩) 0 0) 0 [] := by
      rw [hs3, ← hW3]
      exact (((((om.set hBO (by decide) _ _).set b1 (by decide) _ _).set b2 (by decide) _ _).set b3 (by decide) _ _).set b4 (by decide) _ _).set b5 (by decide) _ _
    have gW3 : Below w1.heap.size w1 W3 := hb.trans (hCh.below (by omega) (by omega))
    have sg3 : gO < W3.heap.size := by omega
    have hgO1 : w1.heap.size ≤ gO := by omega
    have GW1 := Lib.hid hb1
    have z4 := (k1.call hb).chg hCh (by have := k1.lt; omega)
    have c4 := z4.cell' (i := 4) rfl
    clear hiv hdj e4 e5 e6 e7 e8 i4 i5 i6 i8 d45 hBO hCh hs3 hb k1 od oi FA0 FB0 om f1 f2 b1 b2 b3 b4 b5 b6 hbd hbm z4
    go_wp2
    clear hW3 c4 r0 r1 r2 r3 r4 r5 fr
    go_loopw [7] (fun i wr => ∃ (k : Nat) (dA : Option Addr) (dc : Nat), k ≤ V ∧ i = .int .i64 k ∧ Below w1.heap.size w1 wr ∧ gO < wr.heap.size ∧ Blk wr gO 31 #[.int .i64 p, .int .i64 q.v, .slice qA q.f.length qc, .slice qB q.t.length qd, .slice dA k dc, .slice (some ⟨gm, 0, none⟩) 0 0] ∧
      Fam wr w1.heap.size wr.heap.size ([(.slice qA q.f.length qc, q.f)] ++ (.slice dA k dc, rowF k fun v => ((D v + D' v : Nat) : Int)) :: []) ∧ Fam wr w1.heap.size wr.heap.size ([(.slice qB q.t.length qd, q.t)] ++ (.slice dA k dc, rowF k fun v => ((D v + D' v : Nat) : Int)) :: []) ∧
      RowO 84 3 wr w1.heap.size wr.heap.size (.slice (some ⟨gm, 0, none⟩) 0 0) 0 []) (fun i _ => V - (intOf i).toNat)
    case atStart => exact ⟨0, _, _, Nat.zero_le _, rfl, gW3, sg3, hB3, FA, FB, OM⟩
    case round =>
      clear gW3 sg3 hB3 FA FB OM
      obtain ⟨k, dA, dc, hk, rfl, gW, sg, hB, FA, FB, OM⟩ := hrel
      have gws := gW.size
      have g1W := GW1.out.trans (gW.mono GW1.out.size)
      have kA := K1.out.call g1W
      have kB := K2.out.call g1W
      have c4 := kA.cell' (i := 4) rfl
      by_cases hlt : k < V
      · obtain ⟨bd, od, y, eD, hbd, HY, y1, _⟩ := SlI.at_ (k := k) (xs := rowF V fun v => ((D v : Nat) : Int)) (by rw [rowF_length]; exact HDA.out) (by rw [rowF_length]; exact hlt)
        obtain ⟨bd2, od2, y', eD', hbd2, HY', y1', _⟩ := SlI.at_ (k := k) (xs := rowF V fun v => ((D' v : Nat) : Int)) (by rw [rowF_length]; exact HDB.out) (by rw [rowF_length]; exact hlt)
        have hy : y = ((D k : Nat) : Int) := by
          have := HY.out
          rw [rowF_get _ hlt] at this
          injection this with this
          exact this.symm
        have hy' : y' = ((D' k : Nat) : Int) := by
          have := HY'.out
          rw [rowF_get _ hlt] at this
          injection this with this
          exact this.symm
        subst hy hy' eD eD'
        clear HY HY'
        have x1 := bcell g1W hbd y1
        have x2 := bcell g1W hbd2 y1'
        have hb1 := HDk.out k hlt
        have hb2 := HDk'.out k hlt
        have g1s := g1W.size
        clear y1 y1'
        go_wp2
        refine wp_region_net (by kernel_rfl) [.eq (.pointer (some ⟨gO, 4, none⟩)), .eq (.slice dA k dc), .eq (.pointer (some ⟨w0.heap.size, 4, none⟩)), .eq (.slice (some ⟨bd, od, none⟩) V ea), .eq (.int .i64 k), .eq (.pointer (some ⟨bd, od + k, none⟩)), .eq (.int .i64 ((D k : Nat) : Int)), .eq (.pointer (some ⟨w0.heap.size + 1, 4, none⟩)), .eq (.slice (some ⟨bd2, od2, none⟩) V eb), .eq (.int .i64 k), .eq (.pointer (some ⟨bd2, od2 + k, none⟩)), .eq (.int .i64 ((D' k : Nat) : Int)), .eq (.int .i64 ((D k : Int) + (D' k : Int))), rel 13 (fun u lo hi w => ∃ g, u = .slice (some ⟨g, 0, none⟩) 1 1 ∧ Blk w g 3 #[.int .i64 ((D k : Int) + (D' k : Int))])] [[], [0], [], [2], [], [2, 3, 4], [2, 3, 4, 5], [], [7], [], [7, 8, 9], [7, 8, 9, 10], [2, 3, 4, 5, 6, 7, 8, 9, 10, 11], [2, 3, 4, 5, 6, 7, 8, 9, 10, 11, 12], [0, 1, 2, 3, 4, 5, 6, 7, 8, 9, 10, 11, 12, 13], [0, 1, 2, 3, 4, 5, 6, 7, 8, 9, 10, 11, 12, 13, 14], [0, 1, 2, 3, 4, 5, 6, 7, 8, 9, 10, 11, 12, 13, 14, 15]] 14 (by kernel_rfl) ⟨trivial, trivial, trivial, trivial, trivial, trivial, trivial, trivial, trivial, trivial, trivial, trivial, trivial, rel_stable (fun u lo hi w w' ⟨g, e, h⟩ hb => ⟨g, e, h.call hb⟩), trivial⟩ ⟨?_, ?_, ?_, ?_, ?_, ?_, ?_, ?_, ?_, ?_, ?_, ?_, ?_, ?_, trivial⟩ ?_
        · intro x w hb hk Q' hQ
          clear hk
          simp only [netAct, dstAt, List.getElem?_toArray, List.getElem?_cons_zero, List.getElem?_cons_succ, Option.bind_some, Act.put, List.setIfInBounds_toArray, List.set_cons_zero, List.set_cons_succ] at hQ ⊢
          go_wp2
          exact hQ (.pointer (some ⟨gO, 4, none⟩)) _ (Below.refl _ _) rfl
        · intro x w hb hk Q' hQ
          have h0 : x.v 0 = .pointer (some ⟨gO, 4, none⟩) := (hk 0 (by decide)).1
          clear hk
          simp only [netAct, dstAt, List.getElem?_toArray, List.getElem?_cons_zero, List.getElem?_cons_succ, Option.bind_some, Act.put, List.setIfInBounds_toArray, List.set_cons_zero, List.set_cons_succ] at hQ ⊢
          simp only [h0] at hQ ⊢
          clear h0
          have z := (hB.call hb).cell' (i := 4) rfl
          go_wp2
          exact hQ (.slice dA k dc) _ (Below.refl _ _) rfl
        · intro x w hb hk Q' hQ
          clear hk
          simp only [netAct, dstAt, List.getElem?_toArray, List.getElem?_cons_zero, List.getElem?_cons_succ, Option.bind_some, Act.put, List.setIfInBounds_toArray, List.set_cons_zero, List.set_cons_succ] at hQ ⊢
          go_wp2
          exact hQ (.pointer (some ⟨w0.heap.size, 4, none⟩)) _ (Below.refl _ _) rfl
        · intro x w hb hk Q' hQ
          have h2 : x.v 2 = .pointer (some ⟨w0.heap.size, 4, none⟩) := (hk 2 (by decide)).1
          clear hk
          simp only [netAct, dstAt, List.getElem?_toArray, List.getElem?_cons_zero, List.getElem?_cons_succ, Option.bind_some, Act.put, List.setIfInBounds_toArray, List.set_cons_zero, List.set_cons_succ] at hQ ⊢
          simp only [h2] at hQ ⊢
          clear h2
          have z := (kA.call hb).cell' (i := 4) rfl
          go_wp2
          exact hQ (.slice (some ⟨bd, od, none⟩) V ea) _ (Below.refl _ _) rfl
        · intro x w hb hk Q' hQ
          clear hk
          simp only [netAct, dstAt, List.getElem?_toArray, List.getElem?_cons_zero, List.getElem?_cons_succ, Option.bind_some, Act.put, List.setIfInBounds_toArray, List.set_cons_zero, List.set_cons_succ] at hQ ⊢
          go_wp2
          exact hQ (.int .i64 k) _ (Below.refl _ _) rfl
        · intro x w hb hk Q' hQ
          have h3 : x.v 3 = .slice (some ⟨bd, od, none⟩) V ea := (hk 3 (by decide)).1
          have h4 : x.v 4 = .int .i64 k := (hk 4 (by decide)).1
          clear hk
          simp only [netAct, dstAt, List.getElem?_toArray, List.getElem?_cons_zero, List.getElem?_cons_succ, Option.bind_some, Act.put, List.setIfInBounds_toArray, List.set_cons_zero, List.set_cons_succ] at hQ ⊢
          simp only [h3, h4] at hQ ⊢
          clear h3 h4
          go_wp2
          exact hQ (.pointer (some ⟨bd, od + k, none⟩)) _ (Below.refl _ _) rfl
        · intro x w hb hk Q' hQ
          have h5 : x.v 5 = .pointer (some ⟨bd, od + k, none⟩) := (hk 5 (by decide)).1
          clear hk
          simp only [netAct, dstAt, List.getElem?_toArray, List.getElem?_cons_zero, List.getElem?_cons_succ, Option.bind_some, Act.put, List.setIfInBounds_toArray, List.set_cons_zero, List.set_cons_succ] at hQ ⊢
          simp only [h5] at hQ ⊢
          clear h5
          have z := bcell hb (by omega) x1
          go_wp2
          exact hQ (.int .i64 ((D k : Nat) : Int)) _ (Below.refl _ _) rfl
        · intro x w hb hk Q' hQ
          clear hk
          simp only [netAct, dstAt, List.getElem?_toArray, List.getElem?_cons_zero, List.getElem?_cons_succ, Option.bind_some, Act.put, List.setIfInBounds_toArray, List.set_cons_zero, List.set_cons_succ] at hQ ⊢
          go_wp2
          exact hQ (.pointer (some ⟨w0.heap.size + 1, 4, none⟩)) _ (Below.refl _ _) rfl
        · intro x w hb hk Q' hQ
          have h7 : x.v 7 = .pointer (some ⟨w0.heap.size + 1, 4, none⟩) := (hk 7 (by decide)).1
          clear hk
          simp only [netAct, dstAt, List.getElem?_toArray, List.getElem?_cons_zero, List.getElem?_cons_succ, Option.bind_some, Act.put, List.setIfInBounds_toArray, List.set_cons_zero, List.set_cons_succ] at hQ ⊢
          simp only [h7] at hQ ⊢
          clear h7
          have z := (kB.call hb).cell' (i := 4) rfl
          go_wp2
          exact hQ (.slice (some ⟨bd2, od2, none⟩) V eb) _ (Below.refl _ _) rfl
        · intro x w hb hk Q' hQ
          clear hk
          simp only [netAct, dstAt, List.getElem?_toArray, List.getElem?_cons_zero, List.getElem?_cons_succ, Option.bind_some, Act.put, List.setIfInBounds_toArray, List.set_cons_zero, List.set_cons_succ] at hQ ⊢
          go_wp2
          exact hQ (.int .i64 k) _ (Below.refl _ _) rfl
        · intro x w hb hk Q' hQ
          have h8 : x.v 8 = .slice (some ⟨bd2, od2, none⟩) V eb := (hk 8 (by decide)).1
          have h9 : x.v 9 = .int .i64 k := (hk 9 (by decide)).1
          clear hk
          simp only [netAct, dstAt, List.getElem?_toArray, List.getElem?_cons_zero, List.getElem?_cons_succ, Option.bind_some, Act.put, List.setIfInBounds_toArray, List.set_cons_zero, List.set_cons_succ] at hQ ⊢
          simp only [h8, h9] at hQ ⊢
          clear h8 h9
          go_wp2
          exact hQ (.pointer (some ⟨bd2, od2 + k, none⟩)) _ (Below.refl _ _) rfl
        · intro x w hb hk Q' hQ
          have h10 : x.v 10 = .pointer (some ⟨bd2, od2 + k, none⟩) := (hk 10 (by decide)).1
          clear hk
          simp only [netAct, dstAt, List.getElem?_toArray, List.getElem?_cons_zero, List.getElem?_cons_succ, Option.bind_some, Act.put, List.setIfInBounds_toArray, List.set_cons_zero, List.set_cons_succ] at hQ ⊢
          simp only [h10] at hQ ⊢
          clear h10
          have z := bcell hb (by omega) x2
          go_wp2
          exact hQ (.int .i64 ((D' k : Nat) : Int)) _ (Below.refl _ _) rfl
        · intro x w hb hk Q' hQ
          have h6 : x.v 6 = .int .i64 ((D k : Nat) : Int) := (hk 6 (by decide)).1
          have h11 : x.v 11 = .int .i64 ((D' k : Nat) : Int) := (hk 11 (by decide)).1
          clear hk
          simp only [netAct, dstAt, List.getElem?_toArray, List.getElem?_cons_zero, List.getElem?_cons_succ, Option.bind_some, Act.put, List.setIfInBounds_toArray, List.set_cons_zero, List.set_cons_succ] at hQ ⊢
          simp only [h6, h11] at hQ ⊢
          clear h6 h11
          go_wp2
          exact hQ (.int .i64 ((D k : Int) + (D' k : Int))) _ (Below.refl _ _) rfl
        · intro x w hb hk Q' hQ
          have h2 : x.v 2 = .pointer (some ⟨w0.heap.size, 4, none⟩) := (hk 2 (by decide)).1
          have h3 : x.v 3 = .slice (some ⟨bd, od, none⟩) V ea := (hk 3 (by decide)).1
          have h4 : x.v 4 = .int .i64 k := (hk 4 (by decide)).1
          have h5 : x.v 5 = .pointer (some ⟨bd, od + k, none⟩) := (hk 5 (by decide)).1
          have h6 : x.v 6 = .int .i64 ((D k : Nat) : Int) := (hk 6 (by decide)).1
          have h7 : x.v 7 = .pointer (some ⟨w0.heap.size + 1, 4, none⟩) := (hk 7 (by decide)).1
          have h8 : x.v 8 = .slice (some ⟨bd2, od2, none⟩) V eb := (hk 8 (by decide)).1
          have h9 : x.v 9 = .int .i64 k := (hk 9 (by decide)).1
          have h10 : x.v 10 = .pointer (some ⟨bd2, od2 + k, none⟩) := (hk 10 (by decide)).1
          have h11 : x.v 11 = .int .i64 ((D' k : Nat) : Int) := (hk 11 (by decide)).1
          have h12 : x.v 12 = .int .i64 ((D k : Int) + (D' k : Int)) := (hk 12 (by decide)).1
          clear hk
          simp only [netAct, dstAt, List.getElem?_toArray, List.getElem?_cons_zero, List.getElem?_cons_succ, Option.bind_some, Act.put, List.setIfInBounds_toArray, List.set_cons_zero, List.set_cons_succ] at hQ ⊢
          simp only [h2, h3, h4, h5, h6, h7, h8, h9, h10, h11, h12] at hQ ⊢
          clear h2 h3 h4 h5 h6 h7 h8 h9 h10 h11 h12
          go_wp2
          exact hQ _ _ (below_alloc _ _) ⟨_, rfl, Blk.new _ _ _⟩
        · intro x w hb hk hiv hdj
          have h0 : x.v 0 = .pointer (some ⟨gO, 4, none⟩) := hk 0 (by decide)
          have h1 : x.v 1 = .slice dA k dc := hk 1 (by decide)
          have h2 : x.v 2 = .pointer (some ⟨w0.heap.size, 4, none⟩) := hk 2 (by decide)
          have h3 : x.v 3 = .slice (some ⟨bd, od, none⟩) V ea := hk 3 (by decide)
          have h4 : x.v 4 = .int .i64 k := hk 4 (by decide)
          have h5 : x.v 5 = .pointer (some ⟨bd, od + k, none⟩) := hk 5 (by decide)
          have h6 : x.v 6 = .int .i64 ((D k : Nat) : Int) := hk 6 (by decide)
          have h7 : x.v 7 = .pointer (some ⟨w0.heap.size + 1, 4, none⟩) := hk 7 (by decide)
          have h8 : x.v 8 = .slice (some ⟨bd2, od2, none⟩) V eb := hk 8 (by decide)
          have h9 : x.v 9 = .int .i64 k := hk 9 (by decide)
          have h10 : x.v 10 = .pointer (some ⟨bd2, od2 + k, none⟩) := hk 10 (by decide)
          have h11 : x.v 11 = .int .i64 ((D' k : Nat) : Int) := hk 11 (by decide)
          have h12 : x.v 12 = .int .i64 ((D k : Int) + (D' k : Int)) := hk 12 (by decide)
          have h13 : ∃ g, (x.v 13) = .slice (some ⟨g, 0, none⟩) 1 1 ∧ Blk w g 3 #[.int .i64 ((D k : Int) + (D' k : Int))] := hk 13 (by decide)
          clear hk
          simp only [netAct, dstAt, List.getElem?_toArray, List.getElem?_cons_zero, List.getElem?_cons_succ, Option.bind_some, Act.put, List.setIfInBounds_toArray, List.set_cons_zero, List.set_cons_succ]
          simp only [List.drop_succ_cons, List.drop_zero, h0, h1, h2, h3, h4, h5, h6, h7, h8, h9, h10, h11, h12]
          clear h0 h1 h2 h3 h4 h5 h6 h7 h8 h9 h10 h11 h12
          obtain ⟨g13, e13, hB13⟩ := h13
          rw [e13]
          clear hiv hdj e13
          have FAw := FA.below hb
          have FBw := FB.below hb
          have OMw := RowO.below OM hb
          have hBw := hB.call hb
          have hbs := hb.size
          have hown : OwnI w w1.heap.size (.slice dA k dc) (rowF k fun v => ((D v + D' v : Nat) : Int)) := (FAw.1 (.slice dA k dc, rowF k fun v => ((D v + D' v : Nat) : Int)) (by simp)).1
          have gWw := gW.trans (hb.mono gws)
          refine wpList_appI (by rfl) (.tmp 30) (.tmp 42) (by rfl) w1.heap.size w.heap.size (.slice dA k dc) (rowF k fun v => ((D v + D' v : Nat) : Int)) (by rfl) hown (some ⟨g13, 0, none⟩) 1 1 [(D k : Int) + (D' k : Int)] (by rfl) rfl (slOneD hB13 (by simp only [I64]; omega)) (by rw [rowF_length]; simp; omega) (by omega) ?_
          intro v' w' h1 h2 h3
          have hs2 := h2.size
          have FA' := Fam.app FAw (by omega) h1 h2 h3
          have FB' := Fam.app FBw (by omega) h1 h2 h3
          have OM' := RowO.grown OMw (by decide) hown h2
          have hB' := hBw.grown h2 (fun e => hown.blkne hBw (by decide) e)
          have gW' : Below w1.heap.size w1 w' := gWw.grown (row := Value.ownBlock (.slice dA k dc)) h2 (by omega) (fun k e => (hown.lt k e).1)
          obtain ⟨A9, c9, ev, _, _⟩ := h1.form
          have hsn : (rowF k fun v => ((D v + D' v : Nat) : Int)) ++ [(D k : Int) + (D' k : Int)] = rowF (k + 1) fun v => ((D v + D' v : Nat) : Int) := by rw [rowF_snoc, Int.natCast_add]
          rw [hsn] at FA' FB' ev
          rw [rowF_length] at ev
          subst ev
          have FA2 := FA'.setBlk (i := 4) hB' (by decide) (.slice A9 (k + 1) c9)
          have FB2 := FB'.setBlk (i := 4) hB' (by decide) (.slice A9 (k + 1) c9)
          have OM2 := OM'.set hB' (by decide) 4 (.slice A9 (k + 1) c9)
          have hB2 := Lib.hid (hB'.set_ 4 (.slice A9 (k + 1) c9))
          have GW2 := Lib.hid (gW'.setCell (p := ⟨gO, 4, none⟩) (by simpa using hgO1) (.slice A9 (k + 1) c9))
          have r4 := hB'.cell' (i := 4) rfl
          have fr := hB'.frozen
          have FA3 := Lib.hid FA2
          have FB3 := Lib.hid FB2
          have OM3 := Lib.hid (OM2.mono (Nat.le_refl _) (show wr.heap.size ≤ w'.heap.size by omega))
          clear FA' FB' OM' hB' gW' FA2 FB2 OM2 h1 h2 h3 FAw FBw OMw hBw hown gWw hsn hb hB FA FB OM kA kB c4
          go_wp2
          go_roundw
          case rel => exact ⟨k + 1, A9, c9, by omega, by go_num, GW2.out, by simp; omega, hB2.out, by simpa using FA3.out, by simpa using FB3.out, by simpa using OM3.out⟩
          case measure => simp [intOf]; omega
      · obtain rfl : k = V := by omega
        have c5 := kA.cell' (i := 5) rfl
        obtain ⟨W4, hW4⟩ : ∃ W4, wr = W4 := ⟨_, rfl⟩
        rw [hW4] at gW sg hB FA FB OM c4 c5 g1W gws ⊢
        clear hW4 kA kB
        have s4z := gW.size
        go_wp2
        go_loopw [8] (fun i wr => ∃ (j : Nat) (mv : Value) (vs : List Value), j ≤ q.f.length ∧ i = .int .i64 j ∧ Below w1.heap.size w1 wr ∧ W4.heap.size ≤ wr.heap.size ∧ Blk wr gO 31 #[.int .i64 p, .int .i64 q.v, .slice qA q.f.length qc, .slice qB q.t.length qd, .slice dA k dc, mv] ∧
          Fam wr w1.heap.size W4.heap.size ([(.slice qA q.f.length qc, q.f)] ++ (.slice dA k dc, rowF k fun v => ((D v + D' v : Nat) : Int)) :: []) ∧ Fam wr w1.heap.size W4.heap.size ([(.slice qB q.t.length qd, q.t)] ++ (.slice dA k dc, rowF k fun v => ((D v + D' v : Nat) : Int)) :: []) ∧
          RowO 84 3 wr w1.heap.size wr.heap.size mv j (mxCs vs (msF j (sumM q D D' E E'))) ∧ vs.length = j ∧ Fam wr W4.heap.size wr.heap.size (vs.zip ((msF j (sumM q D D' E E')).map Mx.a))) (fun i _ => q.f.length - (intOf i).toNat)
        case atStart => exact ⟨0, _, [], Nat.zero_le _, rfl, gW, Nat.le_refl _, hB, FA, FB, OM, rfl, ⟨fun p hp => by simp at hp, by simp⟩⟩
        case round =>
          clear gW sg hB FA FB OM c4 c5 g1W gws
          obtain ⟨j, mv, vs, hj, rfl, gW, sg, hB, FA, FB, hO, hvl, hF⟩ := hrel
          have gws := gW.size
          have g1W := GW1.out.trans (gW.mono GW1.out.size)
          have kA := K1.out.call g1W
          have kB := K2.out.call g1W
          have c5 := kA.cell' (i := 5) rfl
          have g1s := g1W.size
          have HVL := Lib.hid hvl
          clear hvl
          by_cases hlt : j < q.f.length
          · obtain ⟨bA, oA, MA, ma, LA, eA, hbA, x0, x1, x2, hxa⟩ := mxF_at HMA.out hlt rfl
            obtain ⟨bB, oB, MB, mb, LB, eB, hbB, y0, y1, y2, hxb⟩ := mxF_at HMB.out hlt rfl
            subst eA eB
            obtain ⟨_, _, lf, lt⟩ := q_ends HQ.out hlt
            rw [HV.out] at lf lt
            have b1 := HDk.out _ lf
            have b2 := HDk.out _ lt
            have b3 := HDk'.out _ lf
            have b4 := HDk'.out _ lt
            clear lf lt
            have y0' := bcell g1W hbB y0
            have y1' := bcell g1W hbB y1
            have y2' := bcell g1W hbB y2
            have x0' := bcell g1W hbA x0
            have x1' := bcell g1W hbA x1
            have x2' := bcell g1W hbA x2
            have HXA := Lib.hid (show MxR wr wr.heap.size _ _ from MxR.more g1s (MxR.below g1W hxa))
            have HXB := Lib.hid (show MxR wr wr.heap.size _ _ from MxR.more g1s (MxR.below g1W hxb))
            have hbA5 : bA < wr.heap.size := by omega
            have hbB5 : bB < wr.heap.size := by omega
            clear x0 x1 x2 y0 y1 y2 hxa hxb
            go_wp2
            refine wp_region_net (by kernel_rfl) [.eq (.pointer (some ⟨gO, 5, none⟩)), .eq (mv), .eq (.pointer (some ⟨w0.heap.size, 5, none⟩)), .eq (.slice (some ⟨bA, oA, none⟩) q.f.length ha_), .eq (.int .i64 j), .eq (.pointer (some ⟨bA, oA + j * 3, none⟩)), .eq (.agg #[.int .i64 ((D (tN q j) : Nat) : Int), .int .i64 ((D (fN q j) : Nat) : Int), .slice MA LA ma]), .eq (.pointer (some ⟨w0.heap.size + 1, 5, none⟩)), .eq (.slice (some ⟨bB, oB, none⟩) q.f.length hb_), .eq (.int .i64 j), .eq (.pointer (some ⟨bB, oB + j * 3, none⟩)), .eq (.agg #[.int .i64 ((D' (tN q j) : Nat) : Int), .int .i64 ((D' (fN q j) : Nat) : Int), .slice MB LB mb]), rel 12 (fun u lo hi w => MxO w lo hi u (sumM q D D' E E' j)), .rel (fun x w => ∃ g s, x.v 13 = .slice (some ⟨g, 0, none⟩) 1 1 ∧ x.v 12 = .agg #[.int .i64 (sumM q D D' E E' j).r, .int .i64 (sumM q D D' E E' j).c, s] ∧ Blk w g 84 #[.int .i64 (sumM q D D' E E' j).r, .int .i64 (sumM q D D' E E' j).c, s])] [[], [0], [], [2], [], [2, 3, 4], [2, 3, 4, 5], [], [7], [], [7, 8, 9], [7, 8, 9, 10], [2, 3, 4, 5, 6, 7, 8, 9, 10, 11], [2, 3, 4, 5, 6, 7, 8, 9, 10, 11, 12], [0, 1, 2, 3, 4, 5, 6, 7, 8, 9, 10, 11, 12, 13], [0, 1, 2, 3, 4, 5, 6, 7, 8, 9, 10, 11, 12, 13, 14], [0, 1, 2, 3, 4, 5, 6, 7, 8, 9, 10, 11, 12, 13, 14, 15]] 14 (by kernel_rfl) ⟨trivial, trivial, trivial, trivial, trivial, trivial, trivial, trivial, trivial, trivial, trivial, trivial, rel_stable (fun u lo hi w w' h hb => h.below hb), fun x w w' ⟨g, s, e1, e2, h⟩ hb => ⟨g, s, e1, e2, h.call hb⟩, trivial⟩ ⟨?_, ?_, ?_, ?_, ?_, ?_, ?_, ?_, ?_, ?_, ?_, ?_, ?_, ?_, trivial⟩ ?_
            · intro x w hb hk Q' hQ
              clear hk
              simp only [netAct, dstAt, List.getElem?_toArray, List.getElem?_cons_zero, List.getElem?_cons_succ, Option.bind_some, Act.put, List.setIfInBounds_toArray, List.set_cons_zero, List.set_cons_succ] at hQ ⊢
              go_wp2
              exact hQ (.pointer (some ⟨gO, 5, none⟩)) _ (Below.refl _ _) rfl
            · intro x w hb hk Q' hQ
              have h0 : x.v 0 = .pointer (some ⟨gO, 5, none⟩) := (hk 0 (by decide)).1
              clear hk
              simp only [netAct, dstAt, List.getElem?_toArray, List.getElem?_cons_zero, List.getElem?_cons_succ, Option.bind_some, Act.put, List.setIfInBounds_toArray, List.set_cons_zero, List.set_cons_succ] at hQ ⊢
              simp only [h0] at hQ ⊢
              clear h0
              have z := (hB.call hb).cell' (i := 5) rfl
              go_wp2
              exact hQ (mv) _ (Below.refl _ _) rfl
            · intro x w hb hk Q' hQ
              clear hk
              simp only [netAct, dstAt, List.getElem?_toArray, List.getElem?_cons_zero, List.getElem?_cons_succ, Option.bind_some, Act.put, List.setIfInBounds_toArray, List.set_cons_zero, List.set_cons_succ] at hQ ⊢
              go_wp2
              exact hQ (.pointer (some ⟨w0.heap.size, 5, none⟩)) _ (Below.refl _ _) rfl
            · intro x w hb hk Q' hQ
              have h2 : x.v 2 = .pointer (some ⟨w0.heap.size, 5, none⟩) := (hk 2 (by decide)).1
              clear hk
              simp only [netAct, dstAt, List.getElem?_toArray, List.getElem?_cons_zero, List.getElem?_cons_succ, Option.bind_some, Act.put, List.setIfInBounds_toArray, List.set_cons_zero, List.set_cons_succ] at hQ ⊢
              simp only [h2] at hQ ⊢
              clear h2
              have z := (kA.call hb).cell' (i := 5) rfl
              go_wp2
              exact hQ (.slice (some ⟨bA, oA, none⟩) q.f.length ha_) _ (Below.refl _ _) rfl
            · intro x w hb hk Q' hQ
              clear hk
              simp only [netAct, dstAt, List.getElem?_toArray, List.getElem?_cons_zero, List.getElem?_cons_succ, Option.bind_some, Act.put, List.setIfInBounds_toArray, List.set_cons_zero, List.set_cons_succ] at hQ ⊢
              go_wp2
              exact hQ (.int .i64 j) _ (Below.refl _ _) rfl
            · intro x w hb hk Q' hQ
              have h3 : x.v 3 = .slice (some ⟨bA, oA, none⟩) q.f.length ha_ := (hk 3 (by decide)).1
              have h4 : x.v 4 = .int .i64 j := (hk 4 (by decide)).1
              clear hk
              simp only [netAct, dstAt, List.getElem?_toArray, List.getElem?_cons_zero, List.getElem?_cons_succ, Option.bind_some, Act.put, List.setIfInBounds_toArray, List.set_cons_zero, List.set_cons_succ] at hQ ⊢
              simp only [h3, h4] at hQ ⊢
              clear h3 h4
              go_wp2
              exact hQ (.pointer (some ⟨bA, oA + j * 3, none⟩)) _ (Below.refl _ _) rfl
            · intro x w hb hk Q' hQ
              have h5 : x.v 5 = .pointer (some ⟨bA, oA + j * 3, none⟩) := (hk 5 (by decide)).1
              clear hk
              simp only [netAct, dstAt, List.getElem?_toArray, List.getElem?_cons_zero, List.getElem?_cons_succ, Option.bind_some, Act.put, List.setIfInBounds_toArray, List.set_cons_zero, List.set_cons_succ] at hQ ⊢
              simp only [h5] at hQ ⊢
              clear h5
              have y0 := bcell hb hbA5 x0'
              have y1 := bcell hb hbA5 x1'
              have y2 := bcell hb hbA5 x2'
              go_wp2
              exact hQ (.agg #[.int .i64 ((D (tN q j) : Nat) : Int), .int .i64 ((D (fN q j) : Nat) : Int), .slice MA LA ma]) _ (Below.refl _ _) rfl
            · intro x w hb hk Q' hQ
              clear hk
              simp only [netAct, dstAt, List.getElem?_toArray, List.getElem?_cons_zero, List.getElem?_cons_succ, Option.bind_some, Act.put, List.setIfInBounds_toArray, List.set_cons_zero, List.set_cons_succ] at hQ ⊢
              go_wp2
              exact hQ (.pointer (some ⟨w0.heap.size + 1, 5, none⟩)) _ (Below.refl _ _) rfl
            · intro x w hb hk Q' hQ
              have h7 : x.v 7 = .pointer (some ⟨w0.heap.size + 1, 5, none⟩) := (hk 7 (by decide)).1
              clear hk
              simp only [netAct, dstAt, List.getElem?_toArray, List.getElem?_cons_zero, List.getElem?_cons_succ, Option.bind_some, Act.put, List.setIfInBounds_toArray, List.set_cons_zero, List.set_cons_succ] at hQ ⊢
              simp only [h7] at hQ ⊢
              clear h7
              have z := (kB.call hb).cell' (i := 5) rfl
              go_wp2
              exact hQ (.slice (some ⟨bB, oB, none⟩) q.f.length hb_) _ (Below.refl _ _) rfl
            · intro x w hb hk Q' hQ
              clear hk
              simp only [netAct, dstAt, List.getElem?_toArray, List.getElem?_cons_zero, List.getElem?_cons_succ, Option.bind_some, Act.put, List.setIfInBounds_toArray, List.set_cons_zero, List.set_cons_succ] at hQ ⊢
              go_wp2
              exact hQ (.int .i64 j) _ (Below.refl _ _) rfl
            · intro x w hb hk Q' hQ
              have h8 : x.v 8 = .slice (some ⟨bB, oB, none⟩) q.f.length hb_ := (hk 8 (by decide)).1
              have h9 : x.v 9 = .int .i64 j := (hk 9 (by decide)).1
              clear hk
              simp only [netAct, dstAt, List.getElem?_toArray, List.getElem?_cons_zero, List.getElem?_cons_succ, Option.bind_some, Act.put, List.setIfInBounds_toArray, List.set_cons_zero, List.set_cons_succ] at hQ ⊢
              simp only [h8, h9] at hQ ⊢
              clear h8 h9
              go_wp2
              exact hQ (.pointer (some ⟨bB, oB + j * 3, none⟩)) _ (Below.refl _ _) rfl
            · intro x w hb hk Q' hQ
              have h10 : x.v 10 = .pointer (some ⟨bB, oB + j * 3, none⟩) := (hk 10 (by decide)).1
              clear hk
              simp only [netAct, dstAt, List.getElem?_toArray, List.getElem?_cons_zero, List.getElem?_cons_succ, Option.bind_some, Act.put, List.setIfInBounds_toArray, List.set_cons_zero, List.set_cons_succ] at hQ ⊢
              simp only [h10] at hQ ⊢
              clear h10
              have y0 := bcell hb hbB5 y0'
              have y1 := bcell hb hbB5 y1'
              have y2 := bcell hb hbB5 y2'
              go_wp2
              exact hQ (.agg #[.int .i64 ((D' (tN q j) : Nat) : Int), .int .i64 ((D' (fN q j) : Nat) : Int), .slice MB LB mb]) _ (Below.refl _ _) rfl
            · intro x w hb hk Q' hQ
              have h2 : x.v 2 = .pointer (some ⟨w0.heap.size, 5, none⟩) := (hk 2 (by decide)).1
              have h3 : x.v 3 = .slice (some ⟨bA, oA, none⟩) q.f.length ha_ := (hk 3 (by decide)).1
              have h4 : x.v 4 = .int .i64 j := (hk 4 (by decide)).1
              have h5 : x.v 5 = .pointer (some ⟨bA, oA + j * 3, none⟩) := (hk 5 (by decide)).1
              have h6 : x.v 6 = .agg #[.int .i64 ((D (tN q j) : Nat) : Int), .int .i64 ((D (fN q j) : Nat) : Int), .slice MA LA ma] := (hk 6 (by decide)).1
              have h7 : x.v 7 = .pointer (some ⟨w0.heap.size + 1, 5, none⟩) := (hk 7 (by decide)).1
              have h8 : x.v 8 = .slice (some ⟨bB, oB, none⟩) q.f.length hb_ := (hk 8 (by decide)).1
              have h9 : x.v 9 = .int .i64 j := (hk 9 (by decide)).1
              have h10 : x.v 10 = .pointer (some ⟨bB, oB + j * 3, none⟩) := (hk 10 (by decide)).1
              have h11 : x.v 11 = .agg #[.int .i64 ((D' (tN q j) : Nat) : Int), .int .i64 ((D' (fN q j) : Nat) : Int), .slice MB LB mb] := (hk 11 (by decide)).1
              clear hk
              simp only [netAct, dstAt, List.getElem?_toArray, List.getElem?_cons_zero, List.getElem?_cons_succ, Option.bind_some, Act.put, List.setIfInBounds_toArray, List.set_cons_zero, List.set_cons_succ] at hQ ⊢
              simp only [h2, h3, h4, h5, h6, h7, h8, h9, h10, h11] at hQ ⊢
              clear h2 h3 h4 h5 h6 h7 h8 h9 h10 h11
              go_wp2_with fail
              refine (l3Block_any _ _ (D (tN q j)) (D' (tN q j)) (D (fN q j)) (D' (fN q j)) (E j) (E' j) _ (MxR.next hb HXA.out) (MxR.next hb HXB.out) (by omega) (by omega) (by omega) (by omega)).mono ?_; rintro e w7 ⟨v7, rfl, ho, hb7⟩
              go_wp2
              exact hQ _ _ hb7 ho
            · intro x w hb hk Q' hQ
              have h2 : x.v 2 = .pointer (some ⟨w0.heap.size, 5, none⟩) := (hk 2 (by decide)).1
              have h3 : x.v 3 = .slice (some ⟨bA, oA, none⟩) q.f.length ha_ := (hk 3 (by decide)).1
              have h4 : x.v 4 = .int .i64 j := (hk 4 (by decide)).1
              have h5 : x.v 5 = .pointer (some ⟨bA, oA + j * 3, none⟩) := (hk 5 (by decide)).1
              have h6 : x.v 6 = .agg #[.int .i64 ((D (tN q j) : Nat) : Int), .int .i64 ((D (fN q j) : Nat) : Int), .slice MA LA ma] := (hk 6 (by decide)).1
              have h7 : x.v 7 = .pointer (some ⟨w0.heap.size + 1, 5, none⟩) := (hk 7 (by decide)).1
              have h8 : x.v 8 = .slice (some ⟨bB, oB, none⟩) q.f.length hb_ := (hk 8 (by decide)).1
              have h9 : x.v 9 = .int .i64 j := (hk 9 (by decide)).1
              have h10 : x.v 10 = .pointer (some ⟨bB, oB + j * 3, none⟩) := (hk 10 (by decide)).1
              have h11 : x.v 11 = .agg #[.int .i64 ((D' (tN q j) : Nat) : Int), .int .i64 ((D' (fN q j) : Nat) : Int), .slice MB LB mb] := (hk 11 (by decide)).1
              have h12 : MxO w (x.lo 12) (x.hi 12) (x.v 12) (sumM q D D' E E' j) := (hk 12 (by decide)).1
              have s12 := (hk 12 (by decide)).2
              clear hk
              simp only [netAct, dstAt, List.getElem?_toArray, List.getElem?_cons_zero, List.getElem?_cons_succ, Option.bind_some, Act.put, List.setIfInBounds_toArray, List.set_cons_zero, List.set_cons_succ] at hQ ⊢
              simp only [h2, h3, h4, h5, h6, h7, h8, h9, h10, h11] at hQ ⊢
              clear h2 h3 h4 h5 h6 h7 h8 h9 h10 h11
              obtain ⟨s, e14, hs⟩ := h12
              obtain ⟨sA, sc, es⟩ := hs.1.form
              obtain ⟨sn, hsn⟩ : ∃ n, (sumM q D D' E E' j).a.length = n := ⟨_, rfl⟩
              rw [hsn] at es
              clear hsn hs
              subst es
              have hQ' := hQ (.slice (some ⟨w.heap.size, 0, none⟩) 1 1) (w.alloc (.cells #[.int .i64 (sumM q D D' E E' j).r, .int .i64 (sumM q D D' E E' j).c, .slice sA sn sc] 84)) (below_alloc _ _) ⟨_, _, rfl, e14, Blk.new _ _ _⟩
              rw [e14] at hQ' ⊢
              go_wp2
              exact hQ'
            · intro x w hb hk hiv hdj
              have h0 : x.v 0 = .pointer (some ⟨gO, 5, none⟩) := hk 0 (by decide)
              have h1 : x.v 1 = mv := hk 1 (by decide)
              have h2 : x.v 2 = .pointer (some ⟨w0.heap.size, 5, none⟩) := hk 2 (by decide)
              have h3 : x.v 3 = .slice (some ⟨bA, oA, none⟩) q.f.length ha_ := hk 3 (by decide)
              have h4 : x.v 4 = .int .i64 j := hk 4 (by decide)
              have h5 : x.v 5 = .pointer (some ⟨bA, oA + j * 3, none⟩) := hk 5 (by decide)
              have h6 : x.v 6 = .agg #[.int .i64 ((D (tN q j) : Nat) : Int), .int .i64 ((D (fN q j) : Nat) : Int), .slice MA LA ma] := hk 6 (by decide)
              have h7 : x.v 7 = .pointer (some ⟨w0.heap.size + 1, 5, none⟩) := hk 7 (by decide)
              have h8 : x.v 8 = .slice (some ⟨bB, oB, none⟩) q.f.length hb_ := hk 8 (by decide)
              have h9 : x.v 9 = .int .i64 j := hk 9 (by decide)
              have h10 : x.v 10 = .pointer (some ⟨bB, oB + j * 3, none⟩) := hk 10 (by decide)
              have h11 : x.v 11 = .agg #[.int .i64 ((D' (tN q j) : Nat) : Int), .int .i64 ((D' (fN q j) : Nat) : Int), .slice MB LB mb] := hk 11 (by decide)
              have h12 : MxO w (x.lo 12) (x.hi 12) (x.v 12) (sumM q D D' E E' j) := hk 12 (by decide)
              have h13 : ∃ g s, x.v 13 = .slice (some ⟨g, 0, none⟩) 1 1 ∧ x.v 12 = .agg #[.int .i64 (sumM q D D' E E' j).r, .int .i64 (sumM q D D' E E' j).c, s] ∧ Blk w g 84 #[.int .i64 (sumM q D D' E E' j).r, .int .i64 (sumM q D D' E E' j).c, s] := hk 13 (by decide)
              clear hk
              simp only [netAct, dstAt, List.getElem?_toArray, List.getElem?_cons_zero, List.getElem?_cons_succ, Option.bind_some, Act.put, List.setIfInBounds_toArray, List.set_cons_zero, List.set_cons_succ]
              simp only [List.drop_succ_cons, List.drop_zero, h0, h1, h2, h3, h4, h5, h6, h7, h8, h9, h10, h11]
              clear h0 h1 h2 h3 h4 h5 h6 h7 h8 h9 h10 h11
              obtain ⟨g, s, e15, e14, hg⟩ := h13
              have l14 := (hiv 12 (by decide)).1
              have h14i := (hiv 12 (by decide)).2.2
              obtain ⟨s', e14', hs, i1, i2⟩ := h12
              rw [e14] at e14'
              simp only [Value.agg.injEq, Array.mk.injEq, List.cons.injEq, and_true, true_and] at e14'
              subst e14'
              rw [e15]
              have hO' := hO.below hb
              have hF' := (hF.below hb).snoc (hs.wider l14 h14i) (by omega) hb.size
              have hB' := hB.call hb
              have FAw := FA.below hb
              have FBw := FB.below hb
              have gb2 : Below w1.heap.size w1 w := gW.trans (hb.mono gws)
              have hbs2 := hb.size
              have hLen := Lib.hid (msF_length j (sumM q D D' E E'))
              have HF' := Lib.hid hF'
              have hO'' : OutM w w1.heap.size wr.heap.size mv vs (msF j (sumM q D D' E E')) := by rw [OutM, hLen.out]; exact hO'
              have HC := Lib.hid hs.cell
              clear hiv hdj hs hF' hO' hO hF e14 e15 hb hB FA FB kA kB c5
              refine wpList_appM (by rfl) (.tmp 53) (.tmp 65) (by rfl) w1.heap.size wr.heap.size mv vs (msF j (sumM q D D' E E')) (by rfl) hO'' (by rw [HVL.out, hLen.out]) g 1 (sumM q D D' E E' j) s (by rfl) hg HC.out (by rw [hLen.out]; omega) (by omega) ?_
              intro v' w' hO3 hA
              rw [← msF_succ, OutM, msF_length] at hO3
              obtain ⟨A9, c9, ev, _, _⟩ := hO3.form
              subst ev
              have hB3 := hA.other _ _ _ (by decide) hB'
              have z5 := hB3.cell' (i := 5) rfl
              have fr := hB3.frozen
              have hs3 := hA.size
              have gb3 : Below w1.heap.size w1 w' := gb2.trans (hA.below (Nat.le_refl _) (by omega))
              have hF3' := (HF'.out.appT (by decide) hA).setBlk (i := 5) hB3 (by decide) (.slice A9 (j + 1) c9)
              have FA3 := Lib.hid ((FAw.appT (by decide) hA).setBlk (i := 5) hB3 (by decide) (.slice A9 (j + 1) c9))
              have FB3 := Lib.hid ((FBw.appT (by decide) hA).setBlk (i := 5) hB3 (by decide) (.slice A9 (j + 1) c9))
              have HO3 := Lib.hid (hO3.set hB3 (by decide) 5 (.slice A9 (j + 1) c9))
              have HB3 := Lib.hid (hB3.set_ 5 (.slice A9 (j + 1) c9))
              have GB3 := Lib.hid (gb3.setCell (p := ⟨gO, 5, none⟩) (by simpa using hgO1) (.slice A9 (j + 1) c9))
              have e : (vs ++ [s]).zip ((msF (j + 1) (sumM q D D' E E')).map Mx.a) = vs.zip ((msF j (sumM q D D' E E')).map Mx.a) ++ [(s, (sumM q D D' E E' j).a)] := by
                rw [msF_succ, List.map_append, List.zip_append (by simp [HVL.out, hLen.out])]
                rfl
              rw [← e] at hF3'
              have HF3 := Lib.hid (hF3'.mono (Nat.le_refl _) (show w.heap.size ≤ w'.heap.size by omega))
              clear hF3' e hO3 HF' hO'' hA gb2 hg FAw FBw hB3 gb3 hB'
              go_wp2
              go_roundw
              case rel => exact ⟨j + 1, .slice A9 (j + 1) c9, vs ++ [s], by omega, by go_num, GB3.out, by simp; omega, HB3.out, FA3.out, FB3.out, by simpa using HO3.out, by simp [HVL.out], by simpa using HF3.out⟩
              case measure => simp [intOf]; omega
          · obtain rfl : j = q.f.length := by omega
            obtain ⟨H1, h1, rfl, _, _⟩ := hO.form
            have hmI : ∀ m ∈ msF q.f.length (sumM q D D' E E'), I64 m.r ∧ I64 m.c := by
              intro m hm
              obtain ⟨i, hi, rfl⟩ := msF_mem hm
              obtain ⟨_, _, lf, lt⟩ := q_ends HQ.out hi
              rw [HV.out] at lf lt
              have b1 := HDk.out _ lf
              have b2 := HDk.out _ lt
              have b3 := HDk'.out _ lf
              have b4 := HDk'.out _ lt
              simp only [sumM, mxF, I64]
              omega
            have hO' : OutM wr w1.heap.size wr.heap.size (.slice H1 q.f.length h1) vs (msF q.f.length (sumM q D D' E E')) := by rw [OutM, msF_length]; exact hO
            have hsm := gW.size
            have hR : RepI wr w1.heap.size wr.heap.size (.agg #[.int .i64 p, .int .i64 q.v, .slice qA q.f.length qc, .slice qB q.t.length qd, .slice dA k dc, .slice H1 q.f.length h1]) (sumR p q D D' E E') :=
              ⟨_, _, _, _, vs, W4.heap.size, rfl, FA.1 (_, q.f) (by simp), FB.1 (_, q.t) (by simp), by
                have := FA.1 (.slice dA k dc, rowF k fun v => ((D v + D' v : Nat) : Int)) (by simp)
                show IntsO wr w1.heap.size W4.heap.size (.slice dA k dc) (rowF q.v.toNat fun v => ((D v + D' v : Nat) : Int))
                rw [HV.out]
                exact this, hO', by rw [HVL.out]; exact (msF_length _ _).symm, hF, ⟨s4z, sg⟩, hI, hmI⟩
            have HR := Lib.hid hR
            have HB9 := Lib.hid hB
            have GW9 := Lib.hid gW
            have t0 := hB.cell' (i := 0) rfl
            have t1 := hB.cell' (i := 1) rfl
            have t2 := hB.cell' (i := 2) rfl
            have t3 := hB.cell' (i := 3) rfl
            have t4 := hB.cell' (i := 4) rfl
            have t5 := hB.cell' (i := 5) rfl
            clear hR hO' hmI hO hF FA FB hB gW kB kA
            go_wp2_with fail
            clear c5 t0 t1 t2 t3 t4 t5
            refine (specIsRep_any _ (sumR p q D D' E E') _ HR.out.rd).mono ?_; rintro e w8 ⟨rfl, hb8⟩
            have g8 := GW9.out.trans (hb8.mono GW9.out.size)
            have g8' := GW1.out.trans (g8.mono GW1.out.size)
            have HB8 := Lib.hid (HB9.out.call hb8)
            have HR8 := Lib.hid (HR.out.below hb8)
            have kz := K3.out.call g8'
            have gf := G0.out.trans (g8'.mono G0.out.size)
            have GF := Lib.hid gf
            have fr := kz.frozen
            have s0 := kz.cell' (i := 0) rfl
            have s1 := kz.cell' (i := 1) rfl
            have s2 := kz.cell' (i := 2) rfl
            have s3 := kz.cell' (i := 3) rfl
            have s4 := kz.cell' (i := 4) rfl
            have s5 := kz.cell' (i := 5) rfl
            have GW8 := Lib.hid hb8
            clear g8 g8' hb8 kz gf
            rcases hk1 : isRep (sumR p q D D' E E') with _ | _
            · have HE := Lib.hid (show sumP p q D D' E E' = (rp0, false) by simp [sumP, hk1])
              clear hk1
              go_wp2
              have hE := HE.out
              have gf := GF.out
              exact bodyPost_ret (v := .tuple #[.agg #[.int .i64 0, .int .i64 0, .slice none 0 0, .slice none 0 0, .slice none 0 0, .slice none 0 0], .bool false]) (by simp [results, go_sem, s0, s1, s2, s3, s4, s5]) rfl ⟨_, by rw [hE], by rw [hE]; exact RepI.zero _ (by simp; exact gf.size), (((((gf.setCell (by simp; omega) _).setCell (by simp; omega) _).setCell (by simp; omega) _).setCell (by simp; omega) _).setCell (by simp; omega) _).setCell (by simp; omega) _⟩
            · have HE := Lib.hid (show sumP p q D D' E E' = (sumR p q D D' E E', true) by simp [sumP, hk1])
              have t0 := HB8.out.cell' (i := 0) rfl
              have t1 := HB8.out.cell' (i := 1) rfl
              have t2 := HB8.out.cell' (i := 2) rfl
              have t3 := HB8.out.cell' (i := 3) rfl
              have t4 := HB8.out.cell' (i := 4) rfl
              have t5 := HB8.out.cell' (i := 5) rfl
              clear hk1
              go_wp2
              have hE := HE.out
              have gf := GF.out
              have hc := chg6 w8 (w0.heap.size + 1 + 1) (.int .i64 p) (.int .i64 q.v) (.slice qA q.f.length qc) (.slice qB q.t.length qd) (.slice dA k dc) (.slice H1 q.f.length h1)
              have sz := SZ.out
              exact bodyPost_ret (v := .tuple #[.agg #[.int .i64 p, .int .i64 q.v, .slice qA q.f.length qc, .slice qB q.t.length qd, .slice dA k dc, .slice H1 q.f.length h1], .bool true]) (by simp [results, go_sem, s0, s1, s2, s3, s4, s5]) rfl ⟨_, by rw [hE], by rw [hE]; exact (HR8.out.chg hc (.inr (by omega))).wider (by omega) (by simp; have := HB8.out.lt; have := GW8.out.size; omega), gf.trans (hc.below (by omega) gf.size)⟩
end Go.Proofs.Ytcmlflppndfdcaa

/- The reference's RepOfZigzag and RepOfBars. -/
namespace Go.Proofs.Ytcmlflppndfdcaa
set_option linter.unusedVariables false
set_option linter.unusedSimpArgs false
open Go.RowKit

theorem smI_six {w : World} {lo hi : Nat} {v : Value} {p : Int} {q : Qv} {L : List (Nat × Nat)} (h : RepI w lo hi v (smR p q L)) : ∃ A a C c E e H k, v = .agg #[.int .i64 p, .int .i64 q.v, .slice A q.f.length a, .slice C q.t.length c, .slice E q.v.toNat e, .slice H q.f.length k] := by
  obtain ⟨A, a, C, c, E, e, H, k, rfl⟩ := h.rd.form
  obtain ⟨e1, e2, e3, e4⟩ := smR_form p q L
  rw [e1, e2, e3, e4]
  exact ⟨A, a, C, c, E, e, H, k, rfl⟩
theorem ivI_six {w : World} {lo hi : Nat} {v : Value} {p : Int} {q : Qv} {x : Nat × Nat} (h : RepI w lo hi v (ivR p q x)) : ∃ A a C c E e H k, v = .agg #[.int .i64 p, .int .i64 q.v, .slice A q.f.length a, .slice C q.t.length c, .slice E q.v.toNat e, .slice H q.f.length k] := by
  obtain ⟨A, a, C, c, E, e, H, k, rfl⟩ := h.rd.form
  have q1 : (ivR p q x).p = p := rfl
  have q2 : (ivR p q x).q = q := rfl
  have q3 : (ivR p q x).d.length = q.v.toNat := rowF_length _ _
  have q4 : (ivR p q x).m.length = q.f.length := msF_length _ _
  rw [q1, q2, q3, q4]
  exact ⟨A, a, C, c, E, e, H, k, rfl⟩
theorem rp0I_six {w : World} {lo hi : Nat} {v : Value} (h : RepI w lo hi v rp0) : ∃ A a C c E e H k, v = .agg #[.int .i64 0, .int .i64 0, .slice A 0 a, .slice C 0 c, .slice E 0 e, .slice H 0 k] := by
  obtain ⟨A, a, C, c, E, e, H, k, rfl⟩ := h.rd.form
  exact ⟨A, a, C, c, E, e, H, k, rfl⟩
theorem ivR_rep {p : Int} {q : Qv} (hp : isFld p = true) (hq : isQ q = true) (x : Nat × Nat) : isRep (ivR p q x) = true := by
  rw [ivR, rpF_rep hp hq fun _ _ _ => ⟨by omega, by have := isFld_two hp; omega⟩, ivN_F]
  exact ivF_dims hq (by have := (isQ_t.1 hq).1; omega) _ _
theorem sum_smP {p : Int} {q : Qv} (hp : isFld p = true) (hq : isQ q = true) (L : List (Nat × Nat)) (x y : Nat) : sumP p q (smS q L).1 (ivN x y) (smS q L).2 (fun _ _ _ => 1) = smP p q (L ++ [(x, y)]) := by
  have e : sumR p q (smS q L).1 (ivN x y) (smS q L).2 (fun _ _ _ => 1) = smR p q (L ++ [(x, y)]) := by rw [smR_snoc]; rfl
  rw [sumP, e, smR_rep hp hq, smP]
theorem smP_pre {p : Int} {q : Qv} {L M L' : List (Nat × Nat)} (e : L' = L ++ M) (h : smO q L = false) : smP p q L' = (rp0, false) := by
  have : smO q L' = false := by
    rcases hh : smO q L' with _ | _
    · rfl
    · rw [e] at hh
      rw [smO_take _ hh] at h
      cases h
  simp [smP, this]
theorem smP_at {p : Int} {q : Qv} {l : List Bar} {k j : Nat} {x y z : Int} (hx : l[k]? = some (x, y, z)) (hj : j < z.toNat) (h : smO q (barsX (l.take k) ++ List.replicate (j + 1) (x.toNat, y.toNat)) = false) : smP p q (barsX l) = (rp0, false) := by
  obtain ⟨M, e⟩ := barsX_split hx (j + 1) hj
  exact smP_pre e h
theorem rep_snoc {α : Type} (L : List α) (n : Nat) (x : α) : L ++ List.replicate (n + 1) x = L ++ List.replicate n x ++ [x] := by
  rw [List.append_assoc, List.replicate_succ']

set_option maxHeartbeats 6400000 in
set_option maxRecDepth 100000 in
theorem specRepOfZigzagY (p : Int) (u : Value) (q : Qv) (v : Value) (l : List Bar) (w0 : World) (hu : QvR w0 w0.heap.size u q) (hv : SlB w0 w0.heap.size v l) (hok : rzOk p q l = true) :
    Calls Try.prog 20 #[.int .i64 p, u, v] w0 fun e w' => ∃ r, e = .returned (.tuple #[r, .bool (rzP p q l).2]) ∧ RepI w' w0.heap.size w'.heap.size r (rzP p q l).1 ∧ Below w0.heap.size w0 w' := by
  have HE := Lib.hid (show rzP p q l = smP p q (barsX l) by rw [rzP, hok, smP]; rfl)
  obtain ⟨h1, h2, h3, hto⟩ := rz_t hok
  have hq : isQ q = true := (isZ_t h2).1
  have hv1 := (isQ_t.1 hq).1
  have hI : I64 p := by have := isFld_two h1; simp only [I64]; omega
  have hu' := hu
  obtain ⟨A, c, C, c', rfl, _, _, hr, lf, lt⟩ := hu.open_
  obtain ⟨BA, bc, rfl, _, _, _, hbx⟩ := hv.open_
  clear hu hv
  obtain ⟨W, hW⟩ : ∃ W, W = (w0.alloc (.cells #[.int .i64 q.v, .slice A q.f.length c, .slice C q.t.length c'] 28)).alloc (.cells #[.int .i64 0, .int .i64 0, .slice none 0 0, .slice none 0 0, .slice none 0 0, .slice none 0 0] 31) := ⟨_, rfl⟩
  have g0 : Below w0.heap.size w0 W := by rw [hW]; exact ((Below.refl _ _).alloc (Nat.le_refl _) _).alloc (by simp) _
  have k1 : Blk W w0.heap.size 28 #[.int .i64 q.v, .slice A q.f.length c, .slice C q.t.length c'] := by rw [hW]; exact (Blk.new _ _ _).alloc _
  have k2 : Blk W (w0.heap.size + 1) 31 #[.int .i64 0, .int .i64 0, .slice none 0 0, .slice none 0 0, .slice none 0 0, .slice none 0 0] := by
    rw [hW]
    have := Blk.new (w0.alloc (.cells #[.int .i64 q.v, .slice A q.f.length c, .slice C q.t.length c'] 28)) 31 #[.int .i64 0, .int .i64 0, .slice none 0 0, .slice none 0 0, .slice none 0 0, .slice none 0 0]
    simpa only [World.size_alloc] using this
  have sz : W.heap.size = w0.heap.size + 1 + 1 := by rw [hW]; simp
  have SZ := Lib.hid sz
  have HQV := Lib.hid (QvR.next g0 hu')
  have HBX := Lib.hid (SlB.next g0 hbx)
  clear sz hu' hbx
  have HP := Lib.hid h1
  have H2 := Lib.hid h2
  have H3 := Lib.hid h3
  have HQ := Lib.hid hq
  have HTO := Lib.hid hto
  have HZO := Lib.hid (show ∀ x y : Int, (0 ≤ x ∧ x ≤ q.v - 1) → (x ≤ y ∧ y ≤ q.v - 1) → ziOk (isZ q) p q x y = true from fun x y hx hy => by simp only [ziOk, h1, h2, inR_t.2 hx, inR_t.2 hy]; rfl)
  have HZP := Lib.hid (show ∀ x y : Int, (0 ≤ x ∧ x ≤ q.v - 1) → (x ≤ y ∧ y ≤ q.v - 1) → ziP (isZ q) p q x y = (ivR p q (x.toNat, y.toNat), true) from fun x y hx hy => ziP_iv h1 h2 hx hy)
  clear h1 h2 h3 hq hto hok
  have c0 := k1.cell' (i := 0) rfl
  have c1 := k1.cell' (i := 1) rfl
  have c2 := k1.cell' (i := 2) rfl
  go_enter Try.func20, Try.ntmps20
  go_wp2_with fail
  rw [← hW]; clear hW
  refine (specIsField_any _ _).mono ?_; rintro e w3 ⟨rfl, hww⟩
  replace hww := hww.symm
  subst hww
  rw [HP.out]
  go_wp2_with fail
  refine (specIsZigzag_any _ q _ HQV.out).mono ?_; rintro e w3 ⟨rfl, hb3⟩
  rw [H2.out]
  have k13 := k1.call hb3
  clear c0 c1 c2
  have c0 := k13.cell' (i := 0) rfl
  have GW3 := Lib.hid hb3
  clear k13 hb3
  go_wp2_with fail
  refine (specLineOf_any q.v _ hr).mono ?_; rintro e w1 ⟨v1, rfl, hL, hb1⟩
  obtain ⟨A1, a1, C1, c1, rfl⟩ := hL.form
  obtain ⟨W2, hW2⟩ : ∃ W2, w1.alloc (.cells #[.int .i64 (lineQ q.v).v, .slice A1 (lineQ q.v).f.length a1, .slice C1 (lineQ q.v).t.length c1] 28) = W2 := ⟨_, rfl⟩
  have ga : Below w1.heap.size w1 W2 := by rw [← hW2]; exact below_alloc _ _
  have kL : Blk W2 w1.heap.size 28 #[.int .i64 (lineQ q.v).v, .slice A1 (lineQ q.v).f.length a1, .slice C1 (lineQ q.v).t.length c1] := by rw [← hW2]; exact Blk.new _ _ _
  have gW2 : Below W.heap.size W W2 := GW3.out.trans ((hb1.trans (ga.mono hb1.size)).mono GW3.out.size)
  have HL := Lib.hid ((hL.below ga).rd)
  have l0 := kL.cell' (i := 0) rfl
  have l1 := kL.cell' (i := 1) rfl
  have l2 := kL.cell' (i := 2) rfl
  have GW2 := Lib.hid gW2
  clear hL ga hb1 gW2 c0
  go_wp2_with fail
  clear hW2
  refine (specAreBars_any _ _ _ l _ HL.out (SlB.next GW2.out HBX.out)).mono ?_; rintro e w4 ⟨rfl, hb4⟩
  rw [H3.out]
  have gW4 := GW2.out.trans (hb4.mono GW2.out.size)
  have GWZ := Lib.hid gW4
  clear hb4 gW4 l0 l1 l2 kL
  have HQZ := Lib.hid (QvR.next GWZ.out HQV.out)
  have hmk : ∀ w : World, (Instr.makeSlice 22 (.int .i64 q.v) (.int .i64 q.v)).run Try.prog w = .ok (.slice (some ⟨w.heap.size, 0, none⟩) q.v.toNat q.v.toNat) (w.alloc (.cells (mkCells (.int .i64 0) q.v.toNat) 3)) := fun w => by
    have := run_mkI w (n := q.v.toNat) (by omega)
    rwa [Int.toNat_of_nonneg (by omega)] at this
  have KZ := Lib.hid (k1.call GWZ.out)
  go_wp2
  refine wp_region_net (by kernel_rfl) [.eq (.int .i64 p), .eq (.agg #[.int .i64 q.v, .slice A q.f.length c, .slice C q.t.length c']), .eq (.pointer (some ⟨w0.heap.size, 0, none⟩)), .eq (.int .i64 q.v), rel 4 (fun u lo hi w => IntsO w lo hi u (List.replicate q.v.toNat 0)), rel 5 (fun u lo hi w => RepI w lo hi u (smR p q [])), rel 6 (fun u lo hi w => ∃ g, u = .pointer (some ⟨g, 0, none⟩) ∧ (lo ≤ g ∧ g < hi) ∧ Blk w g 31 #[.int .i64 0, .int .i64 0, .slice none 0 0, .slice none 0 0, .slice none 0 0, .slice none 0 0])] [[], [], [], [2], [2, 3], [0, 1, 2, 3, 4], [], [0, 1, 2, 3, 4, 5, 6]] 7 (by kernel_rfl) ⟨trivial, trivial, trivial, trivial, rel_stable (fun u lo hi w w' h hb => h.below hb), rel_stable (fun u lo hi w w' h hb => h.below hb), rel_stable (fun u lo hi w w' ⟨g, e, h1, h⟩ hb => ⟨g, e, h1, h.call hb⟩), trivial⟩ ⟨?_, ?_, ?_, ?_, ?_, ?_, ?_, trivial⟩ ?_
  · intro x w hb hk Q' hQ
    clear hk
    simp only [netAct, dstAt, List.getElem?_toArray, List.getElem?_cons_zero, List.getElem?_cons_succ, Option.bind_some, Act.put, List.setIfInBounds_toArray, List.set_cons_zero, List.set_cons_succ] at hQ ⊢
    go_wp2
    exact hQ (.int .i64 p) _ (Below.refl _ _) rfl
  · intro x w hb hk Q' hQ
    clear hk
    simp only [netAct, dstAt, List.getElem?_toArray, List.getElem?_cons_zero, List.getElem?_cons_succ, Option.bind_some, Act.put, List.setIfInBounds_toArray, List.set_cons_zero, List.set_cons_succ] at hQ ⊢
    have z0 := (KZ.out.call hb).cell' (i := 0) rfl
    have z1 := (KZ.out.call hb).cell' (i := 1) rfl
    have z2 := (KZ.out.call hb).cell' (i := 2) rfl
    go_wp2
    exact hQ (.agg #[.int .i64 q.v, .slice A q.f.length c, .slice C q.t.length c']) _ (Below.refl _ _) rfl
  · intro x w hb hk Q' hQ
    clear hk
    simp only [netAct, dstAt, List.getElem?_toArray, List.getElem?_cons_zero, List.getElem?_cons_succ, Option.bind_some, Act.put, List.setIfInBounds_toArray, List.set_cons_zero, List.set_cons_succ] at hQ ⊢
    go_wp2
    exact hQ (.pointer (some ⟨w0.heap.size, 0, none⟩)) _ (Below.refl _ _) rfl
  · intro x w hb hk Q' hQ
    have h2 : x.v 2 = .pointer (some ⟨w0.heap.size, 0, none⟩) := (hk 2 (by decide)).1
    clear hk
    simp only [netAct, dstAt, List.getElem?_toArray, List.getElem?_cons_zero, List.getElem?_cons_succ, Option.bind_some, Act.put, List.setIfInBounds_toArray, List.set_cons_zero, List.set_cons_succ] at hQ ⊢
    simp only [h2] at hQ ⊢
    clear h2
    have z0 := (KZ.out.call hb).cell' (i := 0) rfl
    go_wp2
    exact hQ (.int .i64 q.v) _ (Below.refl _ _) rfl
  · intro x w hb hk Q' hQ
    have h2 : x.v 2 = .pointer (some ⟨w0.heap.size, 0, none⟩) := (hk 2 (by decide)).1
    have h3 : x.v 3 = .int .i64 q.v := (hk 3 (by decide)).1
    clear hk
    simp only [netAct, dstAt, List.getElem?_toArray, List.getElem?_cons_zero, List.getElem?_cons_succ, Option.bind_some, Act.put, List.setIfInBounds_toArray, List.set_cons_zero, List.set_cons_succ] at hQ ⊢
    simp only [h2, h3] at hQ ⊢
    clear h2 h3
    have hm := hmk w
    go_wp2
    exact hQ _ _ (below_alloc _ _) (IntsO.of_own (OwnI.made0 (Nat.le_refl _) (by omega)))
  · intro x w hb hk Q' hQ
    have h0 : x.v 0 = .int .i64 p := (hk 0 (by decide)).1
    have h1 : x.v 1 = .agg #[.int .i64 q.v, .slice A q.f.length c, .slice C q.t.length c'] := (hk 1 (by decide)).1
    have h2 : x.v 2 = .pointer (some ⟨w0.heap.size, 0, none⟩) := (hk 2 (by decide)).1
    have h3 : x.v 3 = .int .i64 q.v := (hk 3 (by decide)).1
    have h4 : IntsO w (x.lo 4) (x.hi 4) (x.v 4) (List.replicate q.v.toNat 0) := (hk 4 (by decide)).1
    have s4 := (hk 4 (by decide)).2
    clear hk
    simp only [netAct, dstAt, List.getElem?_toArray, List.getElem?_cons_zero, List.getElem?_cons_succ, Option.bind_some, Act.put, List.setIfInBounds_toArray, List.set_cons_zero, List.set_cons_succ] at hQ ⊢
    simp only [h0, h1, h2, h3] at hQ ⊢
    clear h0 h1 h2 h3
    have H4 := Lib.hid h4.rd
    rw [repl_rowF] at H4
    obtain ⟨A4, c4, e4⟩ := h4.form
    rw [List.length_replicate] at e4
    rw [e4] at H4 hQ ⊢
    go_wp2_with fail
    refine (l8Zero_any p _ _ q (rowF q.v.toNat fun _ => 0) _ hI (QvR.next hb HQZ.out) H4.out (smO_nil HQ.out)).mono ?_; rintro e w7 ⟨v7, rfl, ho, hb7⟩
    rw [← smR_nil] at ho
    go_wp2
    exact hQ _ _ hb7 ho
  · intro x w hb hk Q' hQ
    clear hk
    simp only [netAct, dstAt, List.getElem?_toArray, List.getElem?_cons_zero, List.getElem?_cons_succ, Option.bind_some, Act.put, List.setIfInBounds_toArray, List.set_cons_zero, List.set_cons_succ] at hQ ⊢
    go_wp2
    exact hQ _ _ (below_alloc _ _) ⟨_, rfl, ⟨Nat.le_refl _, by show w.heap.size < (w.alloc _).heap.size; simp⟩, Blk.new _ _ _⟩
  · intro x w hb hk hiv hdj
    have h0 : x.v 0 = .int .i64 p := hk 0 (by decide)
    have h1 : x.v 1 = .agg #[.int .i64 q.v, .slice A q.f.length c, .slice C q.t.length c'] := hk 1 (by decide)
    have h2 : x.v 2 = .pointer (some ⟨w0.heap.size, 0, none⟩) := hk 2 (by decide)
    have h3 : x.v 3 = .int .i64 q.v := hk 3 (by decide)
    have h4 : IntsO w (x.lo 4) (x.hi 4) (x.v 4) (List.replicate q.v.toNat 0) := hk 4 (by decide)
    have h5 : RepI w (x.lo 5) (x.hi 5) (x.v 5) (smR p q []) := hk 5 (by decide)
    have h6 : ∃ g, (x.v 6) = .pointer (some ⟨g, 0, none⟩) ∧ ((x.lo 6) ≤ g ∧ g < (x.hi 6)) ∧ Blk w g 31 #[.int .i64 0, .int .i64 0, .slice none 0 0, .slice none 0 0, .slice none 0 0, .slice none 0 0] := hk 6 (by decide)
    clear hk
    simp only [netAct, dstAt, List.getElem?_toArray, List.getElem?_cons_zero, List.getElem?_cons_succ, Option.bind_some, Act.put, List.setIfInBounds_toArray, List.set_cons_zero, List.set_cons_succ]
    simp only [List.drop_succ_cons, List.drop_zero, h0, h1, h2, h3]
    clear h0 h1 h2 h3
    obtain ⟨gO, e6, hgO, hBO⟩ := h6
    have i5 := hiv 5 (by decide)
    have i6 := hiv 6 (by decide)
    have d56 := hdj 5 6 (by decide) (by decide) (by decide)
    obtain ⟨A1, a1, C1, c1, E1, e1, H1', h1', e5⟩ := smI_six h5
    rw [e5] at h5 ⊢
    rw [e6]
    have fr := hBO.frozen
    have r0 := hBO.cell' (i := 0) rfl
    have r1 := hBO.cell' (i := 1) rfl
    have r2 := hBO.cell' (i := 2) rfl
    have r3 := hBO.cell' (i := 3) rfl
    have r4 := hBO.cell' (i := 4) rfl
    have r5 := hBO.cell' (i := 5) rfl
    have hbs := hb.size
    have gOl := hBO.lt
    have gzs := GWZ.out.size
    obtain ⟨W3, hW3⟩ : ∃ W3, (((((w.setCell ⟨gO, 0, none⟩ (.int .i64 p)).setCell ⟨gO, 1, none⟩ (.int .i64 q.v)).setCell ⟨gO, 2, none⟩ (.slice A1 q.f.length a1)).setCell ⟨gO, 3, none⟩ (.slice C1 q.t.length c1)).setCell ⟨gO, 4, none⟩ (.slice E1 q.v.toNat e1)).setCell ⟨gO, 5, none⟩ (.slice H1' q.f.length h1') = W3 := ⟨_, rfl⟩
    have hB3 : Blk W3 gO 31 #[.int .i64 p, .int .i64 q.v, .slice A1 q.f.length a1, .slice C1 q.t.length c1, .slice E1 q.v.toNat e1, .slice H1' q.f.length h1'] := by
      rw [← hW3]
      exact (((((hBO.set_ 0 _).set_ 1 _).set_ 2 _).set_ 3 _).set_ 4 _).set_ 5 _
    have hCh : Chg gO (gO + 1) w W3 := by
      rw [← hW3]
      exact chg6 _ _ _ _ _ _ _ _
    have hs3 : W3.heap.size = w.heap.size := by rw [← hW3]; simp
    have hR3 : RepI W3 W.heap.size W3.heap.size (.agg #[.int .i64 p, .int .i64 q.v, .slice A1 q.f.length a1, .slice C1 q.t.length c1, .slice E1 q.v.toNat e1, .slice H1' q.f.length h1']) (smR p q (barsX (l.take 0))) := by
      rw [hs3, List.take_zero]
      exact (h5.chg hCh (by omega)).wider (by omega) i5.2.2
    have gW3 : Below W.heap.size W W3 := (GWZ.out.trans (hb.mono gzs)).trans (hCh.below (by omega) (by omega))
    have sg3 : gO < W3.heap.size := by omega
    have hgO2 : W.heap.size ≤ gO := by omega
    clear hiv hdj h4 h5 e5 e6 i5 i6 d56 hBO hCh hs3 hb hmk gzs hbs hgO
    go_wp2
    clear hW3
    obtain ⟨n, hn⟩ : ∃ n, l.length = n := ⟨_, rfl⟩
    have HN := Lib.hid hn
    rw [hn]
    have hnb : n ≤ 17592186044416 := by omega
    clear hn
    go_loopw [11] (fun i wr => ∃ (k : Nat) (A1 : Option Addr) (a1 : Nat) (C1 : Option Addr) (c1 : Nat) (E1 : Option Addr) (e1 : Nat) (H1' : Option Addr) (h1' : Nat), k ≤ n ∧ i = .int .i64 k ∧ Below W.heap.size W wr ∧ gO < wr.heap.size ∧
      Blk wr gO 31 #[.int .i64 p, .int .i64 q.v, .slice A1 q.f.length a1, .slice C1 q.t.length c1, .slice E1 q.v.toNat e1, .slice H1' q.f.length h1'] ∧ RepI wr W.heap.size wr.heap.size (.agg #[.int .i64 p, .int .i64 q.v, .slice A1 q.f.length a1, .slice C1 q.t.length c1, .slice E1 q.v.toNat e1, .slice H1' q.f.length h1']) (smR p q (barsX (l.take k))) ∧ smO q (barsX (l.take k)) = true) (fun i _ => n - (intOf i).toNat)
    case atStart => exact ⟨0, A1, a1, C1, c1, E1, e1, H1', h1', Nat.zero_le _, rfl, gW3, sg3, hB3, hR3, by rw [List.take_zero]; exact smO_nil HQ.out⟩
    case round =>
      clear gW3 sg3 hB3 hR3 r0 r1 r2 r3 r4 r5 fr
      obtain ⟨k, A1, a1, C1, c1, E1, e1, H1', h1', hk, rfl, gW, sg, hB, hR, hok⟩ := hrel
      have gws := gW.size
      have HOK := Lib.hid hok
      clear hok
      by_cases hlt : k < n
      · have HLT := Lib.hid hlt
        obtain ⟨b, o, bx, by_, bz, eB, hbB, HX, y1, y2, y3, rx, ry, rz⟩ := SlB.at_ (k := k) HBX.out (by have := HN.out; omega)
        subst eB
        obtain ⟨hx, hy, hz, _⟩ := bars_at HTO.out HX.out
        obtain ⟨N, rfl⟩ := Int.eq_ofNat_of_zero_le (show 0 ≤ bz by omega)
        have HYES := Lib.hid (HZO.out bx by_ hx hy)
        have HZI := Lib.hid (HZP.out bx by_ hx hy)
        obtain ⟨xn, hxn⟩ : ∃ u, bx.toNat = u := ⟨_, rfl⟩
        obtain ⟨yn, hyn⟩ : ∃ u, by_.toNat = u := ⟨_, rfl⟩
        rw [hxn, hyn] at HZI
        have HXN := Lib.hid hxn
        have HYN := Lib.hid hyn
        have Z1 := Lib.hid (bcell gW hbB y1)
        have Z2 := Lib.hid (bcell gW hbB y2)
        have Z3 := Lib.hid (bcell gW hbB y3)
        have KQ := Lib.hid (k1.call gW)
        have HQ5 := Lib.hid (QvR.next gW HQV.out)
        have HB5 := Lib.hid hB
        have HR5 := Lib.hid hR
        have GW5 := Lib.hid gW
        have hbw : b < wr.heap.size := by omega
        clear y1 y2 y3 gW hB hR hx hy hxn hyn
        obtain ⟨w1, hw1⟩ : ∃ u, u = wr := ⟨_, rfl⟩
        subst hw1
        go_wp2
        refine wp_region_net2 (by kernel_rfl) [.eq (.int .i64 p), .eq (.agg #[.int .i64 q.v, .slice A q.f.length c, .slice C q.t.length c']), .eq (.slice (some ⟨b, o, none⟩) n bc), .eq (.int .i64 k), .eq (.pointer (some ⟨b, o + k * 3, none⟩)), .eq (.pointer (some ⟨b, o + k * 3, none⟩)), .eq (.int .i64 bx), .eq (.slice (some ⟨b, o, none⟩) n bc), .eq (.int .i64 k), .eq (.pointer (some ⟨b, o + k * 3, none⟩)), .eq (.pointer (some ⟨b, o + k * 3 + 1, none⟩)), .eq (.int .i64 by_), .rel (fun x w => ∃ A2 a2 C2 c2 E2 e2 H2 h2, x.v 12 = .tuple #[.agg #[.int .i64 p, .int .i64 q.v, .slice A2 q.f.length a2, .slice C2 q.t.length c2, .slice E2 q.v.toNat e2, .slice H2 q.f.length h2], .bool true] ∧ RepI w (x.lo 12) (x.hi 12) (.agg #[.int .i64 p, .int .i64 q.v, .slice A2 q.f.length a2, .slice C2 q.t.length c2, .slice E2 q.v.toNat e2, .slice H2 q.f.length h2]) (ivR p q (xn, yn))), .rel (fun x w => ∃ A2 a2 C2 c2 E2 e2 H2 h2, x.v 13 = .tuple #[.agg #[.int .i64 p, .int .i64 q.v, .slice A2 q.f.length a2, .slice C2 q.t.length c2, .slice E2 q.v.toNat e2, .slice H2 q.f.length h2], .bool true] ∧ RepI w (x.lo 12) (x.hi 12) (.agg #[.int .i64 p, .int .i64 q.v, .slice A2 q.f.length a2, .slice C2 q.t.length c2, .slice E2 q.v.toNat e2, .slice H2 q.f.length h2]) (ivR p q (xn, yn))), .rel (fun x w => ∃ A2 a2 C2 c2 E2 e2 H2 h2, x.v 14 = .agg #[.int .i64 p, .int .i64 q.v, .slice A2 q.f.length a2, .slice C2 q.t.length c2, .slice E2 q.v.toNat e2, .slice H2 q.f.length h2] ∧ RepI w (x.lo 12) (x.hi 12) (.agg #[.int .i64 p, .int .i64 q.v, .slice A2 q.f.length a2, .slice C2 q.t.length c2, .slice E2 q.v.toNat e2, .slice H2 q.f.length h2]) (ivR p q (xn, yn))), .eq (.bool true), rel 16 (fun u lo hi w => ∃ g, u = .pointer (some ⟨g, 0, none⟩) ∧ (lo ≤ g ∧ g < hi) ∧ Blk w g 31 #[.int .i64 0, .int .i64 0, .slice none 0 0, .slice none 0 0, .slice none 0 0, .slice none 0 0])] [[], [], [], [], [2, 3], [2, 3, 4], [2, 3, 4, 5], [], [], [7, 8], [7, 8, 9], [7, 8, 9, 10], [0, 1, 2, 3, 4, 5, 6, 7, 8, 9, 10, 11], [0, 1, 2, 3, 4, 5, 6, 7, 8, 9, 10, 11, 12], [0, 1, 2, 3, 4, 5, 6, 7, 8, 9, 10, 11, 12, 13], [0, 1, 2, 3, 4, 5, 6, 7, 8, 9, 10, 11, 12, 13], [], [0, 1, 2, 3, 4, 5, 6, 7, 8, 9, 10, 11, 12, 13, 14, 16], [0, 1, 2, 3, 4, 5, 6, 7, 8, 9, 10, 11, 12, 13, 14, 15, 16, 17]] 17 15 [0, 1, 2, 3, 4, 5, 6, 7, 8, 9, 10, 11, 12, 13, 14, 16] (by kernel_rfl) rfl ⟨trivial, trivial, trivial, trivial, trivial, trivial, trivial, trivial, trivial, trivial, trivial, trivial, fun x w w' ⟨A2, a2, C2, c2, E2, e2, H2, h2, e1, h1⟩ hb => ⟨A2, a2, C2, c2, E2, e2, H2, h2, e1, h1.below hb⟩, fun x w w' ⟨A2, a2, C2, c2, E2, e2, H2, h2, e1, h1⟩ hb => ⟨A2, a2, C2, c2, E2, e2, H2, h2, e1, h1.below hb⟩, fun x w w' ⟨A2, a2, C2, c2, E2, e2, H2, h2, e1, h1⟩ hb => ⟨A2, a2, C2, c2, E2, e2, H2, h2, e1, h1.below hb⟩, trivial, rel_stable (fun u lo hi w w' ⟨g, e, h1, h⟩ hb => ⟨g, e, h1, h.call hb⟩), trivial⟩ ⟨?_, ?_, ?_, ?_, ?_, ?_, ?_, ?_, ?_, ?_, ?_, ?_, ?_, ?_, ?_, ?_, ?_, trivial⟩ ?_ ?_
        · intro x w hb hk Q' hQ
          clear hk
          simp only [netAct, dstAt, List.getElem?_toArray, List.getElem?_cons_zero, List.getElem?_cons_succ, Option.bind_some, Act.put, List.setIfInBounds_toArray, List.set_cons_zero, List.set_cons_succ] at hQ ⊢
          go_wp2
          exact hQ (.int .i64 p) _ (Below.refl _ _) rfl
        · intro x w hb hk Q' hQ
          clear hk
          simp only [netAct, dstAt, List.getElem?_toArray, List.getElem?_cons_zero, List.getElem?_cons_succ, Option.bind_some, Act.put, List.setIfInBounds_toArray, List.set_cons_zero, List.set_cons_succ] at hQ ⊢
          have z0 := (KQ.out.call hb).cell' (i := 0) rfl
          have z1 := (KQ.out.call hb).cell' (i := 1) rfl
          have z2 := (KQ.out.call hb).cell' (i := 2) rfl
          go_wp2
          exact hQ (.agg #[.int .i64 q.v, .slice A q.f.length c, .slice C q.t.length c']) _ (Below.refl _ _) rfl
        · intro x w hb hk Q' hQ
          clear hk
          simp only [netAct, dstAt, List.getElem?_toArray, List.getElem?_cons_zero, List.getElem?_cons_succ, Option.bind_some, Act.put, List.setIfInBounds_toArray, List.set_cons_zero, List.set_cons_succ] at hQ ⊢
          go_wp2
          exact hQ (.slice (some ⟨b, o, none⟩) n bc) _ (Below.refl _ _) rfl
        · intro x w hb hk Q' hQ
          clear hk
          simp only [netAct, dstAt, List.getElem?_toArray, List.getElem?_cons_zero, List.getElem?_cons_succ, Option.bind_some, Act.put, List.setIfInBounds_toArray, List.set_cons_zero, List.set_cons_succ] at hQ ⊢
          go_wp2
          exact hQ (.int .i64 k) _ (Below.refl _ _) rfl
        · intro x w hb hk Q' hQ
          have h2 : x.v 2 = .slice (some ⟨b, o, none⟩) n bc := (hk 2 (by decide)).1
          have h3 : x.v 3 = .int .i64 k := (hk 3 (by decide)).1
          clear hk
          simp only [netAct, dstAt, List.getElem?_toArray, List.getElem?_cons_zero, List.getElem?_cons_succ, Option.bind_some, Act.put, List.setIfInBounds_toArray, List.set_cons_zero, List.set_cons_succ] at hQ ⊢
          simp only [h2, h3] at hQ ⊢
          clear h2 h3
          go_wp2
          exact hQ (.pointer (some ⟨b, o + k * 3, none⟩)) _ (Below.refl _ _) rfl
        · intro x w hb hk Q' hQ
          have h4 : x.v 4 = .pointer (some ⟨b, o + k * 3, none⟩) := (hk 4 (by decide)).1
          clear hk
          simp only [netAct, dstAt, List.getElem?_toArray, List.getElem?_cons_zero, List.getElem?_cons_succ, Option.bind_some, Act.put, List.setIfInBounds_toArray, List.set_cons_zero, List.set_cons_succ] at hQ ⊢
          simp only [h4] at hQ ⊢
          clear h4
          go_wp2
          exact hQ (.pointer (some ⟨b, o + k * 3, none⟩)) _ (Below.refl _ _) rfl
        · intro x w hb hk Q' hQ
          have h5 : x.v 5 = .pointer (some ⟨b, o + k * 3, none⟩) := (hk 5 (by decide)).1
          clear hk
          simp only [netAct, dstAt, List.getElem?_toArray, List.getElem?_cons_zero, List.getElem?_cons_succ, Option.bind_some, Act.put, List.setIfInBounds_toArray, List.set_cons_zero, List.set_cons_succ] at hQ ⊢
          simp only [h5] at hQ ⊢
          clear h5
          have z1 := bcell hb hbw Z1.out
          go_wp2
          exact hQ (.int .i64 bx) _ (Below.refl _ _) rfl
        · intro x w hb hk Q' hQ
          clear hk
          simp only [netAct, dstAt, List.getElem?_toArray, List.getElem?_cons_zero, List.getElem?_cons_succ, Option.bind_some, Act.put, List.setIfInBounds_toArray, List.set_cons_zero, List.set_cons_succ] at hQ ⊢
          go_wp2
          exact hQ (.slice (some ⟨b, o, none⟩) n bc) _ (Below.refl _ _) rfl
        · intro x w hb hk Q' hQ
          clear hk
          simp only [netAct, dstAt, List.getElem?_toArray, List.getElem?_cons_zero, List.getElem?_cons_succ, Option.bind_some, Act.put, List.setIfInBounds_toArray, List.set_cons_zero, List.set_cons_succ] at hQ ⊢
          go_wp2
          exact hQ (.int .i64 k) _ (Below.refl _ _) rfl
        · intro x w hb hk Q' hQ
          have h7 : x.v 7 = .slice (some ⟨b, o, none⟩) n bc := (hk 7 (by decide)).1
          have h8 : x.v 8 = .int .i64 k := (hk 8 (by decide)).1
          clear hk
          simp only [netAct, dstAt, List.getElem?_toArray, List.getElem?_cons_zero, List.getElem?_cons_succ, Option.bind_some, Act.put, List.setIfInBounds_toArray, List.set_cons_zero, List.set_cons_succ] at hQ ⊢
          simp only [h7, h8] at hQ ⊢
          clear h7 h8
          go_wp2
          exact hQ (.pointer (some ⟨b, o + k * 3, none⟩)) _ (Below.refl _ _) rfl
        · intro x w hb hk Q' hQ
          have h9 : x.v 9 = .pointer (some ⟨b, o + k * 3, none⟩) := (hk 9 (by decide)).1
          clear hk
          simp only [netAct, dstAt, List.getElem?_toArray, List.getElem?_cons_zero, List.getElem?_cons_succ, Option.bind_some, Act.put, List.setIfInBounds_toArray, List.set_cons_zero, List.set_cons_succ] at hQ ⊢
          simp only [h9] at hQ ⊢
          clear h9
          go_wp2
          exact hQ (.pointer (some ⟨b, o + k * 3 + 1, none⟩)) _ (Below.refl _ _) rfl
        · intro x w hb hk Q' hQ
          have h10 : x.v 10 = .pointer (some ⟨b, o + k * 3 + 1, none⟩) := (hk 10 (by decide)).1
          clear hk
          simp only [netAct, dstAt, List.getElem?_toArray, List.getElem?_cons_zero, List.getElem?_cons_succ, Option.bind_some, Act.put, List.setIfInBounds_toArray, List.set_cons_zero, List.set_cons_succ] at hQ ⊢
          simp only [h10] at hQ ⊢
          clear h10
          have z1 := bcell hb hbw Z2.out
          go_wp2
          exact hQ (.int .i64 by_) _ (Below.refl _ _) rfl
        · intro x w hb hk Q' hQ
          have h0 : x.v 0 = .int .i64 p := (hk 0 (by decide)).1
          have h1 : x.v 1 = .agg #[.int .i64 q.v, .slice A q.f.length c, .slice C q.t.length c'] := (hk 1 (by decide)).1
          have h2 : x.v 2 = .slice (some ⟨b, o, none⟩) n bc := (hk 2 (by decide)).1
          have h3 : x.v 3 = .int .i64 k := (hk 3 (by decide)).1
          have h4 : x.v 4 = .pointer (some ⟨b, o + k * 3, none⟩) := (hk 4 (by decide)).1
          have h5 : x.v 5 = .pointer (some ⟨b, o + k * 3, none⟩) := (hk 5 (by decide)).1
          have h6 : x.v 6 = .int .i64 bx := (hk 6 (by decide)).1
          have h7 : x.v 7 = .slice (some ⟨b, o, none⟩) n bc := (hk 7 (by decide)).1
          have h8 : x.v 8 = .int .i64 k := (hk 8 (by decide)).1
          have h9 : x.v 9 = .pointer (some ⟨b, o + k * 3, none⟩) := (hk 9 (by decide)).1
          have h10 : x.v 10 = .pointer (some ⟨b, o + k * 3 + 1, none⟩) := (hk 10 (by decide)).1
          have h11 : x.v 11 = .int .i64 by_ := (hk 11 (by decide)).1
          clear hk
          simp only [netAct, dstAt, List.getElem?_toArray, List.getElem?_cons_zero, List.getElem?_cons_succ, Option.bind_some, Act.put, List.setIfInBounds_toArray, List.set_cons_zero, List.set_cons_succ] at hQ ⊢
          simp only [h0, h1, h2, h3, h4, h5, h6, h7, h8, h9, h10, h11] at hQ ⊢
          clear h0 h1 h2 h3 h4 h5 h6 h7 h8 h9 h10 h11
          go_wp2_with fail
          refine (specZigzagIntervalY p _ _ _ q _ hI (QvR.next hb HQ5.out) rx ry HYES.out).mono ?_; rintro e w5 ⟨v5, rfl, hO5, hb5⟩
          rw [HZI.out] at hO5 ⊢
          have HO5 := Lib.hid hO5
          obtain ⟨A2, a2, C2, c2, E2, e2, H2, h2, e5⟩ := ivI_six hO5
          subst e5
          clear hO5
          go_wp2
          exact hQ _ _ hb5 ⟨A2, a2, C2, c2, E2, e2, H2, h2, rfl, HO5.out⟩
        · intro x w hb hk Q' hQ
          have h0 : x.v 0 = .int .i64 p := (hk 0 (by decide)).1
          have h1 : x.v 1 = .agg #[.int .i64 q.v, .slice A q.f.length c, .slice C q.t.length c'] := (hk 1 (by decide)).1
          have h2 : x.v 2 = .slice (some ⟨b, o, none⟩) n bc := (hk 2 (by decide)).1
          have h3 : x.v 3 = .int .i64 k := (hk 3 (by decide)).1
          have h4 : x.v 4 = .pointer (some ⟨b, o + k * 3, none⟩) := (hk 4 (by decide)).1
          have h5 : x.v 5 = .pointer (some ⟨b, o + k * 3, none⟩) := (hk 5 (by decide)).1
          have h6 : x.v 6 = .int .i64 bx := (hk 6 (by decide)).1
          have h7 : x.v 7 = .slice (some ⟨b, o, none⟩) n bc := (hk 7 (by decide)).1
          have h8 : x.v 8 = .int .i64 k := (hk 8 (by decide)).1
          have h9 : x.v 9 = .pointer (some ⟨b, o + k * 3, none⟩) := (hk 9 (by decide)).1
          have h10 : x.v 10 = .pointer (some ⟨b, o + k * 3 + 1, none⟩) := (hk 10 (by decide)).1
          have h11 : x.v 11 = .int .i64 by_ := (hk 11 (by decide)).1
          have h12 : ∃ A2 a2 C2 c2 E2 e2 H2 h2, x.v 12 = .tuple #[.agg #[.int .i64 p, .int .i64 q.v, .slice A2 q.f.length a2, .slice C2 q.t.length c2, .slice E2 q.v.toNat e2, .slice H2 q.f.length h2], .bool true] ∧ RepI w (x.lo 12) (x.hi 12) (.agg #[.int .i64 p, .int .i64 q.v, .slice A2 q.f.length a2, .slice C2 q.t.length c2, .slice E2 q.v.toNat e2, .slice H2 q.f.length h2]) (ivR p q (xn, yn)) := (hk 12 (by decide)).1
          have s12 := (hk 12 (by decide)).2
          clear hk
          simp only [netAct, dstAt, List.getElem?_toArray, List.getElem?_cons_zero, List.getElem?_cons_succ, Option.bind_some, Act.put, List.setIfInBounds_toArray, List.set_cons_zero, List.set_cons_succ] at hQ ⊢
          simp only [h0, h1, h2, h3, h4, h5, h6, h7, h8, h9, h10, h11] at hQ ⊢
          clear h0 h1 h2 h3 h4 h5 h6 h7 h8 h9 h10 h11
          obtain ⟨A2, a2, C2, c2, E2, e2, H2, h2, e4, ho⟩ := h12
          have hQ' := hQ (.tuple #[.agg #[.int .i64 p, .int .i64 q.v, .slice A2 q.f.length a2, .slice C2 q.t.length c2, .slice E2 q.v.toNat e2, .slice H2 q.f.length h2], .bool true]) w (Below.refl _ _) ⟨A2, a2, C2, c2, E2, e2, H2, h2, rfl, ho⟩
          rw [e4] at hQ' ⊢
          go_wp2
          exact hQ'
        · intro x w hb hk Q' hQ
          have h0 : x.v 0 = .int .i64 p := (hk 0 (by decide)).1
          have h1 : x.v 1 = .agg #[.int .i64 q.v, .slice A q.f.length c, .slice C q.t.length c'] := (hk 1 (by decide)).1
          have h2 : x.v 2 = .slice (some ⟨b, o, none⟩) n bc := (hk 2 (by decide)).1
          have h3 : x.v 3 = .int .i64 k := (hk 3 (by decide)).1
          have h4 : x.v 4 = .pointer (some ⟨b, o + k * 3, none⟩) := (hk 4 (by decide)).1
          have h5 : x.v 5 = .pointer (some ⟨b, o + k * 3, none⟩) := (hk 5 (by decide)).1
          have h6 : x.v 6 = .int .i64 bx := (hk 6 (by decide)).1
          have h7 : x.v 7 = .slice (some ⟨b, o, none⟩) n bc := (hk 7 (by decide)).1
          have h8 : x.v 8 = .int .i64 k := (hk 8 (by decide)).1
          have h9 : x.v 9 = .pointer (some ⟨b, o + k * 3, none⟩) := (hk 9 (by decide)).1
          have h10 : x.v 10 = .pointer (some ⟨b, o + k * 3 + 1, none⟩) := (hk 10 (by decide)).1
          have h11 : x.v 11 = .int .i64 by_ := (hk 11 (by decide)).1
          have h12 : ∃ A2 a2 C2 c2 E2 e2 H2 h2, x.v 12 = .tuple #[.agg #[.int .i64 p, .int .i64 q.v, .slice A2 q.f.length a2, .slice C2 q.t.length c2, .slice E2 q.v.toNat e2, .slice H2 q.f.length h2], .bool true] ∧ RepI w (x.lo 12) (x.hi 12) (.agg #[.int .i64 p, .int .i64 q.v, .slice A2 q.f.length a2, .slice C2 q.t.length c2, .slice E2 q.v.toNat e2, .slice H2 q.f.length h2]) (ivR p q (xn, yn)) := (hk 12 (by decide)).1
          have h13 : ∃ A2 a2 C2 c2 E2 e2 H2 h2, x.v 13 = .tuple #[.agg #[.int .i64 p, .int .i64 q.v, .slice A2 q.f.length a2, .slice C2 q.t.length c2, .slice E2 q.v.toNat e2, .slice H2 q.f.length h2], .bool true] ∧ RepI w (x.lo 12) (x.hi 12) (.agg #[.int .i64 p, .int .i64 q.v, .slice A2 q.f.length a2, .slice C2 q.t.length c2, .slice E2 q.v.toNat e2, .slice H2 q.f.length h2]) (ivR p q (xn, yn)) := (hk 13 (by decide)).1
          have s12 := (hk 12 (by decide)).2
          have s13 := (hk 13 (by decide)).2
          clear hk
          simp only [netAct, dstAt, List.getElem?_toArray, List.getElem?_cons_zero, List.getElem?_cons_succ, Option.bind_some, Act.put, List.setIfInBounds_toArray, List.set_cons_zero, List.set_cons_succ] at hQ ⊢
          simp only [h0, h1, h2, h3, h4, h5, h6, h7, h8, h9, h10, h11] at hQ ⊢
          clear h0 h1 h2 h3 h4 h5 h6 h7 h8 h9 h10 h11
          obtain ⟨A2, a2, C2, c2, E2, e2, H2, h2, e4, ho⟩ := h13
          have hQ' := hQ (.agg #[.int .i64 p, .int .i64 q.v, .slice A2 q.f.length a2, .slice C2 q.t.length c2, .slice E2 q.v.toNat e2, .slice H2 q.f.length h2]) w (Below.refl _ _) ⟨A2, a2, C2, c2, E2, e2, H2, h2, rfl, ho⟩
          rw [e4] at hQ' ⊢
          go_wp2
          exact hQ'
        · intro x w hb hk Q' hQ
          have h13 : ∃ A2 a2 C2 c2 E2 e2 H2 h2, x.v 13 = .tuple #[.agg #[.int .i64 p, .int .i64 q.v, .slice A2 q.f.length a2, .slice C2 q.t.length c2, .slice E2 q.v.toNat e2, .slice H2 q.f.length h2], .bool true] ∧ RepI w (x.lo 12) (x.hi 12) (.agg #[.int .i64 p, .int .i64 q.v, .slice A2 q.f.length a2, .slice C2 q.t.length c2, .slice E2 q.v.toNat e2, .slice H2 q.f.length h2]) (ivR p q (xn, yn)) := (hk 13 (by decide)).1
          clear hk
          simp only [netAct, dstAt, List.getElem?_toArray, List.getElem?_cons_zero, List.getElem?_cons_succ, Option.bind_some, Act.put, List.setIfInBounds_toArray, List.set_cons_zero, List.set_cons_succ] at hQ ⊢
          obtain ⟨A2, a2, C2, c2, E2, e2, H2, h2, e4, ho⟩ := h13
          rw [e4] at hQ ⊢
          go_wp2
          exact hQ (.bool true) _ (Below.refl _ _) rfl
        · intro x w hb hk Q' hQ
          clear hk
          simp only [netAct, dstAt, List.getElem?_toArray, List.getElem?_cons_zero, List.getElem?_cons_succ, Option.bind_some, Act.put, List.setIfInBounds_toArray, List.set_cons_zero, List.set_cons_succ] at hQ ⊢
          go_wp2
          exact hQ _ _ (below_alloc _ _) ⟨_, rfl, ⟨Nat.le_refl _, by show w.heap.size < (w.alloc _).heap.size; simp⟩, Blk.new _ _ _⟩
        · intro x w hb hk hiv hdj
          have h0 : x.v 0 = .int .i64 p := hk 0 (by decide)
          have h1 : x.v 1 = .agg #[.int .i64 q.v, .slice A q.f.length c, .slice C q.t.length c'] := hk 1 (by decide)
          have h2 : x.v 2 = .slice (some ⟨b, o, none⟩) n bc := hk 2 (by decide)
          have h3 : x.v 3 = .int .i64 k := hk 3 (by decide)
          have h4 : x.v 4 = .pointer (some ⟨b, o + k * 3, none⟩) := hk 4 (by decide)
          have h5 : x.v 5 = .pointer (some ⟨b, o + k * 3, none⟩) := hk 5 (by decide)
          have h6 : x.v 6 = .int .i64 bx := hk 6 (by decide)
          have h7 : x.v 7 = .slice (some ⟨b, o, none⟩) n bc := hk 7 (by decide)
          have h8 : x.v 8 = .int .i64 k := hk 8 (by decide)
          have h9 : x.v 9 = .pointer (some ⟨b, o + k * 3, none⟩) := hk 9 (by decide)
          have h10 : x.v 10 = .pointer (some ⟨b, o + k * 3 + 1, none⟩) := hk 10 (by decide)
          have h11 : x.v 11 = .int .i64 by_ := hk 11 (by decide)
          have h12 : ∃ A2 a2 C2 c2 E2 e2 H2 h2, x.v 12 = .tuple #[.agg #[.int .i64 p, .int .i64 q.v, .slice A2 q.f.length a2, .slice C2 q.t.length c2, .slice E2 q.v.toNat e2, .slice H2 q.f.length h2], .bool true] ∧ RepI w (x.lo 12) (x.hi 12) (.agg #[.int .i64 p, .int .i64 q.v, .slice A2 q.f.length a2, .slice C2 q.t.length c2, .slice E2 q.v.toNat e2, .slice H2 q.f.length h2]) (ivR p q (xn, yn)) := hk 12 (by decide)
          have h13 : ∃ A2 a2 C2 c2 E2 e2 H2 h2, x.v 13 = .tuple #[.agg #[.int .i64 p, .int .i64 q.v, .slice A2 q.f.length a2, .slice C2 q.t.length c2, .slice E2 q.v.toNat e2, .slice H2 q.f.length h2], .bool true] ∧ RepI w (x.lo 12) (x.hi 12) (.agg #[.int .i64 p, .int .i64 q.v, .slice A2 q.f.length a2, .slice C2 q.t.length c2, .slice E2 q.v.toNat e2, .slice H2 q.f.length h2]) (ivR p q (xn, yn)) := hk 13 (by decide)
          have h14 : ∃ A2 a2 C2 c2 E2 e2 H2 h2, x.v 14 = .agg #[.int .i64 p, .int .i64 q.v, .slice A2 q.f.length a2, .slice C2 q.t.length c2, .slice E2 q.v.toNat e2, .slice H2 q.f.length h2] ∧ RepI w (x.lo 12) (x.hi 12) (.agg #[.int .i64 p, .int .i64 q.v, .slice A2 q.f.length a2, .slice C2 q.t.length c2, .slice E2 q.v.toNat e2, .slice H2 q.f.length h2]) (ivR p q (xn, yn)) := hk 14 (by decide)
          have h15 : x.v 15 = .bool true := hk 15 (by decide)
          have h16 : ∃ g, (x.v 16) = .pointer (some ⟨g, 0, none⟩) ∧ ((x.lo 16) ≤ g ∧ g < (x.hi 16)) ∧ Blk w g 31 #[.int .i64 0, .int .i64 0, .slice none 0 0, .slice none 0 0, .slice none 0 0, .slice none 0 0] := hk 16 (by decide)
          clear hk
          simp only [netAct, dstAt, List.getElem?_toArray, List.getElem?_cons_zero, List.getElem?_cons_succ, Option.bind_some, Act.put, List.setIfInBounds_toArray, List.set_cons_zero, List.set_cons_succ]
          simp only [List.drop_succ_cons, List.drop_zero, h0, h1, h2, h3, h4, h5, h6, h7, h8, h9, h10, h11, h15]
          clear h0 h1 h2 h3 h4 h5 h6 h7 h8 h9 h10 h11 h15
          obtain ⟨A2, a2, C2, c2, E2, e2, H2, h2, e14, ho⟩ := h14
          obtain ⟨gX, e16, hgX, hBX⟩ := h16
          obtain ⟨A7, a7, C7, c7, E7, e7, H7, h7, e13, _⟩ := h13
          have i12 := hiv 12 (by decide)
          have i16 := hiv 16 (by decide)
          have dj := hdj 12 16 (by decide) (by decide) (by decide)
          rw [e14, e16, e13]
          have fr := hBX.frozen
          have r0 := hBX.cell' (i := 0) rfl
          have r1 := hBX.cell' (i := 1) rfl
          have r2 := hBX.cell' (i := 2) rfl
          have r3 := hBX.cell' (i := 3) rfl
          have r4 := hBX.cell' (i := 4) rfl
          have r5 := hBX.cell' (i := 5) rfl
          have hbs := hb.size
          have gXl := hBX.lt
          obtain ⟨W7, hW7⟩ : ∃ W7, (((((w.setCell ⟨gX, 0, none⟩ (.int .i64 p)).setCell ⟨gX, 1, none⟩ (.int .i64 q.v)).setCell ⟨gX, 2, none⟩ (.slice A2 q.f.length a2)).setCell ⟨gX, 3, none⟩ (.slice C2 q.t.length c2)).setCell ⟨gX, 4, none⟩ (.slice E2 q.v.toNat e2)).setCell ⟨gX, 5, none⟩ (.slice H2 q.f.length h2) = W7 := ⟨_, rfl⟩
          have hB7 : Blk W7 gX 31 #[.int .i64 p, .int .i64 q.v, .slice A2 q.f.length a2, .slice C2 q.t.length c2, .slice E2 q.v.toNat e2, .slice H2 q.f.length h2] := by
            rw [← hW7]
            exact (((((hBX.set_ 0 _).set_ 1 _).set_ 2 _).set_ 3 _).set_ 4 _).set_ 5 _
          have hCh : Chg gX (gX + 1) w W7 := by
            rw [← hW7]
            exact chg6 _ _ _ _ _ _ _ _
          have hs7 : W7.heap.size = w.heap.size := by rw [← hW7]; simp
          have b17 : Below w1.heap.size w1 W7 := hb.trans (hCh.below (by omega) (by omega))
          have KX7 := Lib.hid hB7
          have HI7 := Lib.hid ((ho.chg hCh (by omega)).wider (lo' := w1.heap.size) (hi' := W7.heap.size) (by omega) (by omega))
          have KO7 := Lib.hid (HB5.out.call b17)
          have HR7 := Lib.hid ((HR5.out.below b17).wider (Nat.le_refl _) b17.size)
          have GW7 := Lib.hid (GW5.out.trans (b17.mono gws))
          have Z37 := Lib.hid (bcell b17 hbw Z3.out)
          have hgX2 : w1.heap.size ≤ gX := by omega
          have hgX3 : gX < W7.heap.size := by omega
          have hbs7 : b < W7.heap.size := by omega
          have hbO : b < W.heap.size := hbB
          have hs17 : w1.heap.size ≤ W7.heap.size := b17.size
          clear hiv hdj h12 e14 e16 e13 i12 i16 dj hBX hCh hs7 hb b17 ho hB7 gXl hbs hgX
          go_wp2
          clear hW7 r0 r1 r2 r3 r4 r5 fr
          go_loopw [14] (fun i wr => ∃ (j : Nat) (A1 : Option Addr) (a1 : Nat) (C1 : Option Addr) (c1 : Nat) (E1 : Option Addr) (e1 : Nat) (H1' : Option Addr) (h1' : Nat), j ≤ N ∧ i = .int .i64 j ∧ Chg gO (gO + 1) W7 wr ∧
            Blk wr gO 31 #[.int .i64 p, .int .i64 q.v, .slice A1 q.f.length a1, .slice C1 q.t.length c1, .slice E1 q.v.toNat e1, .slice H1' q.f.length h1'] ∧ RepI wr W.heap.size wr.heap.size (.agg #[.int .i64 p, .int .i64 q.v, .slice A1 q.f.length a1, .slice C1 q.t.length c1, .slice E1 q.v.toNat e1, .slice H1' q.f.length h1']) (smR p q (barsX (l.take k) ++ List.replicate j (xn, yn))) ∧ smO q (barsX (l.take k) ++ List.replicate j (xn, yn)) = true) (fun i _ => N - (intOf i).toNat)
          case atStart => exact ⟨0, A1, a1, C1, c1, E1, e1, H1', h1', Nat.zero_le _, rfl, Chg.refl _ _ _, KO7.out, by have := HR7.out; simpa using this, by have := HOK.out; simpa using this⟩
          case round =>
            clear A1 a1 C1 c1 E1 e1 H1' h1' KO7 HR7 HOK HB5 HR5
            obtain ⟨j, A1, a1, C1, c1, E1, e1, H1', h1', hj, rfl, hch, hB, hR, hok⟩ := hrel
            have z3 := bcell (hch.below (B := W.heap.size) hgO2 (by omega)) hbO Z37.out
            have HOK := Lib.hid hok
            have hcs := hch.size
            clear hok
            by_cases hjl : j < N
            · have o0 := hB.cell' (i := 0) rfl
              have o1 := hB.cell' (i := 1) rfl
              have o2 := hB.cell' (i := 2) rfl
              have o3 := hB.cell' (i := 3) rfl
              have o4 := hB.cell' (i := 4) rfl
              have o5 := hB.cell' (i := 5) rfl
              have kx := KX7.out.chg hch (.inr (by omega))
              have m0 := kx.cell' (i := 0) rfl
              have m1 := kx.cell' (i := 1) rfl
              have m2 := kx.cell' (i := 2) rfl
              have m3 := kx.cell' (i := 3) rfl
              have m4 := kx.cell' (i := 4) rfl
              have m5 := kx.cell' (i := 5) rfl
              have HBr := Lib.hid hB
              have HCr := Lib.hid hch
              have HRr := Lib.hid hR.rd
              have HXr := Lib.hid (HI7.out.chg hch (.inr (by omega))).rd
              have hir := smR_rep HP.out HQ.out (barsX (l.take k) ++ List.replicate j (xn, yn))
              rw [HOK.out] at hir
              have HIR := Lib.hid hir
              clear hir hB hR hch kx
              go_wp2_with fail
              refine (specDirectSum_any _ _ p q (smS q (barsX (l.take k) ++ List.replicate j (xn, yn))).1 (ivN xn yn) (smS q (barsX (l.take k) ++ List.replicate j (xn, yn))).2 (fun _ _ _ => 1) _ HRr.out HXr.out HIR.out (ivR_rep HP.out HQ.out (xn, yn))).mono ?_; rintro e w6 ⟨v6, rfl, ho, hb6⟩
              rw [sum_smP HP.out HQ.out, ← rep_snoc] at ho ⊢
              clear o0 o1 o2 o3 o4 o5 m0 m1 m2 m3 m4 m5 z3
              have hb6s := hb6.size
              have GW6 := Lib.hid ((GW7.out.trans (HCr.out.below hgO2 (by omega))).trans (hb6.mono (by omega)))
              rcases hk1 : smO q (barsX (l.take k) ++ List.replicate (j + 1) (xn, yn)) with _ | _
              · have hsm : smP p q (barsX (l.take k) ++ List.replicate (j + 1) (xn, yn)) = (rp0, false) := by simp [smP, hk1]
                rw [hsm] at ho ⊢
                have HE2 := Lib.hid (HE.out.trans (smP_at (p := p) HX.out (by simpa using hjl) (by rw [HXN.out, HYN.out]; exact hk1)))
                obtain ⟨A8, a8, C8, c8, E8, e8, H8, h8, e6⟩ := rp0I_six ho
                subst e6
                obtain ⟨W8, hW8⟩ : ∃ W8, w6.alloc (.cells #[.int .i64 0, .int .i64 0, .slice A8 0 a8, .slice C8 0 c8, .slice E8 0 e8, .slice H8 0 h8] 31) = W8 := ⟨_, rfl⟩
                have ga : Below w6.heap.size w6 W8 := by rw [← hW8]; exact below_alloc _ _
                have GW8 := Lib.hid (GW6.out.trans (ga.mono GW6.out.size))
                have HE := HE2
                clear hk1 hsm ho ga hb6
                have kz := k2.call GW8.out
                have fr := kz.frozen
                have s0 := kz.cell' (i := 0) rfl
                have s1 := kz.cell' (i := 1) rfl
                have s2 := kz.cell' (i := 2) rfl
                have s3 := kz.cell' (i := 3) rfl
                have s4 := kz.cell' (i := 4) rfl
                have s5 := kz.cell' (i := 5) rfl
                have gf := g0.trans (GW8.out.mono g0.size)
                have GF := Lib.hid gf
                clear kz gf
                go_wp2
                have gf := GF.out
                have hE := HE.out
                have gfs := gf.size
                exact bodyPost_ret (v := .tuple #[.agg #[.int .i64 0, .int .i64 0, .slice none 0 0, .slice none 0 0, .slice none 0 0, .slice none 0 0], .bool false]) (by simp [results, go_sem, s0, s1, s2, s3, s4, s5]) rfl ⟨_, by rw [hE], by rw [hE]; exact RepI.zero _ (by simp; exact gfs), (((((gf.setCell (by simp) _).setCell (by simp) _).setCell (by simp) _).setCell (by simp) _).setCell (by simp) _).setCell (by simp) _⟩
              · have hsm : smP p q (barsX (l.take k) ++ List.replicate (j + 1) (xn, yn)) = (smR p q (barsX (l.take k) ++ List.replicate (j + 1) (xn, yn)), true) := by simp [smP, hk1]
                rw [hsm] at ho ⊢
                have HK1 := Lib.hid hk1
                clear hk1 hsm
                obtain ⟨A3, a3, C3, c3, E3, e3, H3, h3, e6⟩ := smI_six ho
                subst e6
                obtain ⟨W8, hW8⟩ : ∃ W8, w6.alloc (.cells #[.int .i64 p, .int .i64 q.v, .slice A3 q.f.length a3, .slice C3 q.t.length c3, .slice E3 q.v.toNat e3, .slice H3 q.f.length h3] 31) = W8 := ⟨_, rfl⟩
                have ga : Below w6.heap.size w6 W8 := by rw [← hW8]; exact below_alloc _ _
                have kY : Blk W8 w6.heap.size 31 #[.int .i64 p, .int .i64 q.v, .slice A3 q.f.length a3, .slice C3 q.t.length c3, .slice E3 q.v.toNat e3, .slice H3 q.f.length h3] := by rw [← hW8]; exact Blk.new _ _ _
                have hbr8 := hb6.trans (ga.mono hb6s)
                have kO8 := HBr.out.call hbr8
                have fr := kO8.frozen
                have o0 := kO8.cell' (i := 0) rfl
                have o1 := kO8.cell' (i := 1) rfl
                have o2 := kO8.cell' (i := 2) rfl
                have o3 := kO8.cell' (i := 3) rfl
                have o4 := kO8.cell' (i := 4) rfl
                have o5 := kO8.cell' (i := 5) rfl
                have m0 := kY.cell' (i := 0) rfl
                have m1 := kY.cell' (i := 1) rfl
                have m2 := kY.cell' (i := 2) rfl
                have m3 := kY.cell' (i := 3) rfl
                have m4 := kY.cell' (i := 4) rfl
                have m5 := kY.cell' (i := 5) rfl
                have s8 := ga.size
                have gOr := HBr.out.lt
                obtain ⟨W9, hW9⟩ : ∃ W9, (((((W8.setCell ⟨gO, 0, none⟩ (.int .i64 p)).setCell ⟨gO, 1, none⟩ (.int .i64 q.v)).setCell ⟨gO, 2, none⟩ (.slice A3 q.f.length a3)).setCell ⟨gO, 3, none⟩ (.slice C3 q.t.length c3)).setCell ⟨gO, 4, none⟩ (.slice E3 q.v.toNat e3)).setCell ⟨gO, 5, none⟩ (.slice H3 q.f.length h3) = W9 := ⟨_, rfl⟩
                have hB9 : Blk W9 gO 31 #[.int .i64 p, .int .i64 q.v, .slice A3 q.f.length a3, .slice C3 q.t.length c3, .slice E3 q.v.toNat e3, .slice H3 q.f.length h3] := by
                  rw [← hW9]
                  exact (((((kO8.set_ 0 _).set_ 1 _).set_ 2 _).set_ 3 _).set_ 4 _).set_ 5 _
                have hCh : Chg gO (gO + 1) W8 W9 := by
                  rw [← hW9]
                  exact chg6 _ _ _ _ _ _ _ _
                have hs9 : W9.heap.size = W8.heap.size := by rw [← hW9]; simp
                have HR9 := Lib.hid (show RepI W9 W.heap.size W9.heap.size (.agg #[.int .i64 p, .int .i64 q.v, .slice A3 q.f.length a3, .slice C3 q.t.length c3, .slice E3 q.v.toNat e3, .slice H3 q.f.length h3]) (smR p q (barsX (l.take k) ++ List.replicate (j + 1) (xn, yn))) from (((ho.below ga).chg hCh (.inr (by omega))).wider (by omega) (by omega)))
                have HC9 := Lib.hid ((HCr.out.trans (Chg.of_below hbr8)).trans hCh)
                have HB9 := Lib.hid hB9
                clear ho ga hbr8 kO8 kY hB9 hCh hb6
                go_wp2
                clear hW8 hW9 o0 o1 o2 o3 o4 o5 m0 m1 m2 m3 m4 m5 fr
                go_roundw
                case rel => exact ⟨j + 1, A3, a3, C3, c3, E3, e3, H3, h3, by omega, by go_num, HC9.out, HB9.out, HR9.out, HK1.out⟩
                case measure => simp [intOf]; omega
            · obtain rfl : j = N := by omega
              have hbx : barsX (l.take (k + 1)) = barsX (l.take k) ++ List.replicate j (xn, yn) := by
                rw [take_snoc HX.out, barsX_snoc, ← HXN.out, ← HYN.out]
                simp
              rw [← hbx] at hR HOK
              have HBr := Lib.hid hB
              have HRr := Lib.hid hR
              have GWr := Lib.hid (GW7.out.trans (hch.below hgO2 (by omega)))
              have sgr := hB.lt
              clear hB hR hch hbx
              go_wp2
              have hlt := HLT.out
              go_roundw
              case rel => exact ⟨k + 1, A1, a1, C1, c1, E1, e1, H1', h1', by omega, by go_num, GWr.out, sgr, HBr.out, HRr.out, HOK.out⟩
              case measure => simp [intOf]; omega
        · intro x w hb hk hiv hdj om os hom hos
          simp only [List.getElem?_cons_zero, List.getElem?_cons_succ, Option.some.injEq] at hom hos
          subst hom hos
          have h0 : x.v 0 = .int .i64 p := hk 0 (by decide)
          have h1 : x.v 1 = .agg #[.int .i64 q.v, .slice A q.f.length c, .slice C q.t.length c'] := hk 1 (by decide)
          have h2 : x.v 2 = .slice (some ⟨b, o, none⟩) n bc := hk 2 (by decide)
          have h3 : x.v 3 = .int .i64 k := hk 3 (by decide)
          have h4 : x.v 4 = .pointer (some ⟨b, o + k * 3, none⟩) := hk 4 (by decide)
          have h5 : x.v 5 = .pointer (some ⟨b, o + k * 3, none⟩) := hk 5 (by decide)
          have h6 : x.v 6 = .int .i64 bx := hk 6 (by decide)
          have h7 : x.v 7 = .slice (some ⟨b, o, none⟩) n bc := hk 7 (by decide)
          have h8 : x.v 8 = .int .i64 k := hk 8 (by decide)
          have h9 : x.v 9 = .pointer (some ⟨b, o + k * 3, none⟩) := hk 9 (by decide)
          have h10 : x.v 10 = .pointer (some ⟨b, o + k * 3 + 1, none⟩) := hk 10 (by decide)
          have h11 : x.v 11 = .int .i64 by_ := hk 11 (by decide)
          have h12 : ∃ A2 a2 C2 c2 E2 e2 H2 h2, x.v 12 = .tuple #[.agg #[.int .i64 p, .int .i64 q.v, .slice A2 q.f.length a2, .slice C2 q.t.length c2, .slice E2 q.v.toNat e2, .slice H2 q.f.length h2], .bool true] ∧ RepI w (x.lo 12) (x.hi 12) (.agg #[.int .i64 p, .int .i64 q.v, .slice A2 q.f.length a2, .slice C2 q.t.length c2, .slice E2 q.v.toNat e2, .slice H2 q.f.length h2]) (ivR p q (xn, yn)) := hk 12 (by decide)
          have h13 : ∃ A2 a2 C2 c2 E2 e2 H2 h2, x.v 13 = .tuple #[.agg #[.int .i64 p, .int .i64 q.v, .slice A2 q.f.length a2, .slice C2 q.t.length c2, .slice E2 q.v.toNat e2, .slice H2 q.f.length h2], .bool true] ∧ RepI w (x.lo 12) (x.hi 12) (.agg #[.int .i64 p, .int .i64 q.v, .slice A2 q.f.length a2, .slice C2 q.t.length c2, .slice E2 q.v.toNat e2, .slice H2 q.f.length h2]) (ivR p q (xn, yn)) := hk 13 (by decide)
          have h14 : ∃ A2 a2 C2 c2 E2 e2 H2 h2, x.v 14 = .agg #[.int .i64 p, .int .i64 q.v, .slice A2 q.f.length a2, .slice C2 q.t.length c2, .slice E2 q.v.toNat e2, .slice H2 q.f.length h2] ∧ RepI w (x.lo 12) (x.hi 12) (.agg #[.int .i64 p, .int .i64 q.v, .slice A2 q.f.length a2, .slice C2 q.t.length c2, .slice E2 q.v.toNat e2, .slice H2 q.f.length h2]) (ivR p q (xn, yn)) := hk 14 (by decide)
          have h16 : ∃ g, (x.v 16) = .pointer (some ⟨g, 0, none⟩) ∧ ((x.lo 16) ≤ g ∧ g < (x.hi 16)) ∧ Blk w g 31 #[.int .i64 0, .int .i64 0, .slice none 0 0, .slice none 0 0, .slice none 0 0, .slice none 0 0] := hk 16 (by decide)
          clear hk
          simp only [List.foldl_cons, List.foldl_nil, netAct, dstAt, List.getElem?_toArray, List.getElem?_cons_zero, List.getElem?_cons_succ, Option.bind_some, Act.put, List.setIfInBounds_toArray, List.set_cons_zero, List.set_cons_succ]
          simp only [List.drop_succ_cons, List.drop_zero, h0, h1, h2, h3, h4, h5, h6, h7, h8, h9, h10, h11]
          clear h0 h1 h2 h3 h4 h5 h6 h7 h8 h9 h10 h11
          obtain ⟨A2, a2, C2, c2, E2, e2, H2, h2, e14, ho⟩ := h14
          obtain ⟨gX, e16, hgX, hBX⟩ := h16
          obtain ⟨A7, a7, C7, c7, E7, e7, H7, h7, e13, _⟩ := h13
          have i12 := hiv 12 (by decide)
          have i16 := hiv 16 (by decide)
          have dj := hdj 12 16 (by decide) (by decide) (by decide)
          rw [e14, e16, e13]
          have fr := hBX.frozen
          have r0 := hBX.cell' (i := 0) rfl
          have r1 := hBX.cell' (i := 1) rfl
          have r2 := hBX.cell' (i := 2) rfl
          have r3 := hBX.cell' (i := 3) rfl
          have r4 := hBX.cell' (i := 4) rfl
          have r5 := hBX.cell' (i := 5) rfl
          have hbs := hb.size
          have gXl := hBX.lt
          obtain ⟨W7, hW7⟩ : ∃ W7, (((((w.setCell ⟨gX, 0, none⟩ (.int .i64 p)).setCell ⟨gX, 1, none⟩ (.int .i64 q.v)).setCell ⟨gX, 2, none⟩ (.slice A2 q.f.length a2)).setCell ⟨gX, 3, none⟩ (.slice C2 q.t.length c2)).setCell ⟨gX, 4, none⟩ (.slice E2 q.v.toNat e2)).setCell ⟨gX, 5, none⟩ (.slice H2 q.f.length h2) = W7 := ⟨_, rfl⟩
          have hB7 : Blk W7 gX 31 #[.int .i64 p, .int .i64 q.v, .slice A2 q.f.length a2, .slice C2 q.t.length c2, .slice E2 q.v.toNat e2, .slice H2 q.f.length h2] := by
            rw [← hW7]
            exact (((((hBX.set_ 0 _).set_ 1 _).set_ 2 _).set_ 3 _).set_ 4 _).set_ 5 _
          have hCh : Chg gX (gX + 1) w W7 := by
            rw [← hW7]
            exact chg6 _ _ _ _ _ _ _ _
          have hs7 : W7.heap.size = w.heap.size := by rw [← hW7]; simp
          have b17 : Below w1.heap.size w1 W7 := hb.trans (hCh.below (by omega) (by omega))
          have KX7 := Lib.hid hB7
          have HI7 := Lib.hid ((ho.chg hCh (by omega)).wider (lo' := w1.heap.size) (hi' := W7.heap.size) (by omega) (by omega))
          have KO7 := Lib.hid (HB5.out.call b17)
          have HR7 := Lib.hid ((HR5.out.below b17).wider (Nat.le_refl _) b17.size)
          have GW7 := Lib.hid (GW5.out.trans (b17.mono gws))
          have Z37 := Lib.hid (bcell b17 hbw Z3.out)
          have hgX2 : w1.heap.size ≤ gX := by omega
          have hgX3 : gX < W7.heap.size := by omega
          have hbs7 : b < W7.heap.size := by omega
          have hbO : b < W.heap.size := hbB
          have hs17 : w1.heap.size ≤ W7.heap.size := b17.size
          clear hiv hdj h12 e14 e16 e13 i12 i16 dj hBX hCh hs7 hb b17 ho hB7 gXl hbs hgX
          go_wp2
          clear hW7 r0 r1 r2 r3 r4 r5 fr
          go_loopw [14] (fun i wr => ∃ (j : Nat) (A1 : Option Addr) (a1 : Nat) (C1 : Option Addr) (c1 : Nat) (E1 : Option Addr) (e1 : Nat) (H1' : Option Addr) (h1' : Nat), j ≤ N ∧ i = .int .i64 j ∧ Chg gO (gO + 1) W7 wr ∧
            Blk wr gO 31 #[.int .i64 p, .int .i64 q.v, .slice A1 q.f.length a1, .slice C1 q.t.length c1, .slice E1 q.v.toNat e1, .slice H1' q.f.length h1'] ∧ RepI wr W.heap.size wr.heap.size (.agg #[.int .i64 p, .int .i64 q.v, .slice A1 q.f.length a1, .slice C1 q.t.length c1, .slice E1 q.v.toNat e1, .slice H1' q.f.length h1']) (smR p q (barsX (l.take k) ++ List.replicate j (xn, yn))) ∧ smO q (barsX (l.take k) ++ List.replicate j (xn, yn)) = true) (fun i _ => N - (intOf i).toNat)
          case atStart => exact ⟨0, A1, a1, C1, c1, E1, e1, H1', h1', Nat.zero_le _, rfl, Chg.refl _ _ _, KO7.out, by have := HR7.out; simpa using this, by have := HOK.out; simpa using this⟩
          case round =>
            clear A1 a1 C1 c1 E1 e1 H1' h1' KO7 HR7 HOK HB5 HR5
            obtain ⟨j, A1, a1, C1, c1, E1, e1, H1', h1', hj, rfl, hch, hB, hR, hok⟩ := hrel
            have z3 := bcell (hch.below (B := W.heap.size) hgO2 (by omega)) hbO Z37.out
            have HOK := Lib.hid hok
            have hcs := hch.size
            clear hok
            by_cases hjl : j < N
            · have o0 := hB.cell' (i := 0) rfl
              have o1 := hB.cell' (i := 1) rfl
              have o2 := hB.cell' (i := 2) rfl
              have o3 := hB.cell' (i := 3) rfl
              have o4 := hB.cell' (i := 4) rfl
              have o5 := hB.cell' (i := 5) rfl
              have kx := KX7.out.chg hch (.inr (by omega))
              have m0 := kx.cell' (i := 0) rfl
              have m1 := kx.cell' (i := 1) rfl
              have m2 := kx.cell' (i := 2) rfl
              have m3 := kx.cell' (i := 3) rfl
              have m4 := kx.cell' (i := 4) rfl
              have m5 := kx.cell' (i := 5) rfl
              have HBr := Lib.hid hB
              have HCr := Lib.hid hch
              have HRr := Lib.hid hR.rd
              have HXr := Lib.hid (HI7.out.chg hch (.inr (by omega))).rd
              have hir := smR_rep HP.out HQ.out (barsX (l.take k) ++ List.replicate j (xn, yn))
              rw [HOK.out] at hir
              have HIR := Lib.hid hir
              clear hir hB hR hch kx
              go_wp2_with fail
              refine (specDirectSum_any _ _ p q (smS q (barsX (l.take k) ++ List.replicate j (xn, yn))).1 (ivN xn yn) (smS q (barsX (l.take k) ++ List.replicate j (xn, yn))).2 (fun _ _ _ => 1) _ HRr.out HXr.out HIR.out (ivR_rep HP.out HQ.out (xn, yn))).mono ?_; rintro e w6 ⟨v6, rfl, ho, hb6⟩
              rw [sum_smP HP.out HQ.out, ← rep_snoc] at ho ⊢
              clear o0 o1 o2 o3 o4 o5 m0 m1 m2 m3 m4 m5 z3
              have hb6s := hb6.size
              have GW6 := Lib.hid ((GW7.out.trans (HCr.out.below hgO2 (by omega))).trans (hb6.mono (by omega)))
              rcases hk1 : smO q (barsX (l.take k) ++ List.replicate (j + 1) (xn, yn)) with _ | _
              · have hsm : smP p q (barsX (l.take k) ++ List.replicate (j + 1) (xn, yn)) = (rp0, false) := by simp [smP, hk1]
                rw [hsm] at ho ⊢
                have HE2 := Lib.hid (HE.out.trans (smP_at (p := p) HX.out (by simpa using hjl) (by rw [HXN.out, HYN.out]; exact hk1)))
                obtain ⟨A8, a8, C8, c8, E8, e8, H8, h8, e6⟩ := rp0I_six ho
                subst e6
                obtain ⟨W8, hW8⟩ : ∃ W8, w6.alloc (.cells #[.int .i64 0, .int .i64 0, .slice A8 0 a8, .slice C8 0 c8, .slice E8 0 e8, .slice H8 0 h8] 31) = W8 := ⟨_, rfl⟩
                have ga : Below w6.heap.size w6 W8 := by rw [← hW8]; exact below_alloc _ _
                have GW8 := Lib.hid (GW6.out.trans (ga.mono GW6.out.size))
                have HE := HE2
                clear hk1 hsm ho ga hb6
                have kz := k2.call GW8.out
                have fr := kz.frozen
                have s0 := kz.cell' (i := 0) rfl
                have s1 := kz.cell' (i := 1) rfl
                have s2 := kz.cell' (i := 2) rfl
                have s3 := kz.cell' (i := 3) rfl
                have s4 := kz.cell' (i := 4) rfl
                have s5 := kz.cell' (i := 5) rfl
                have gf := g0.trans (GW8.out.mono g0.size)
                have GF := Lib.hid gf
                clear kz gf
                go_wp2
                have gf := GF.out
                have hE := HE.out
                have gfs := gf.size
                exact bodyPost_ret (v := .tuple #[.agg #[.int .i64 0, .int .i64 0, .slice none 0 0, .slice none 0 0, .slice none 0 0, .slice none 0 0], .bool false]) (by simp [results, go_sem, s0, s1, s2, s3, s4, s5]) rfl ⟨_, by rw [hE], by rw [hE]; exact RepI.zero _ (by simp; exact gfs), (((((gf.setCell (by simp) _).setCell (by simp) _).setCell (by simp) _).setCell (by simp) _).setCell (by simp) _).setCell (by simp) _⟩
              · have hsm : smP p q (barsX (l.take k) ++ List.replicate (j + 1) (xn, yn)) = (smR p q (barsX (l.take k) ++ List.replicate (j + 1) (xn, yn)), true) := by simp [smP, hk1]
                rw [hsm] at ho ⊢
                have HK1 := Lib.hid hk1
                clear hk1 hsm
                obtain ⟨A3, a3, C3, c3, E3, e3, H3, h3, e6⟩ := smI_six ho
                subst e6
                obtain ⟨W8, hW8⟩ : ∃ W8, w6.alloc (.cells #[.int .i64 p, .int .i64 q.v, .slice A3 q.f.length a3, .slice C3 q.t.length c3, .slice E3 q.v.toNat e3, .slice H3 q.f.length h3] 31) = W8 := ⟨_, rfl⟩
                have ga : Below w6.heap.size w6 W8 := by rw [← hW8]; exact below_alloc _ _
                have kY : Blk W8 w6.heap.size 31 #[.int .i64 p, .int .i64 q.v, .slice A3 q.f.length a3, .slice C3 q.t.length c3, .slice E3 q.v.toNat e3, .slice H3 q.f.length h3] := by rw [← hW8]; exact Blk.new _ _ _
                have hbr8 := hb6.trans (ga.mono hb6s)
                have kO8 := HBr.out.call hbr8
                have fr := kO8.frozen
                have o0 := kO8.cell' (i := 0) rfl
                have o1 := kO8.cell' (i := 1) rfl
                have o2 := kO8.cell' (i := 2) rfl
                have o3 := kO8.cell' (i := 3) rfl
                have o4 := kO8.cell' (i := 4) rfl
                have o5 := kO8.cell' (i := 5) rfl
                have m0 := kY.cell' (i := 0) rfl
                have m1 := kY.cell' (i := 1) rfl
                have m2 := kY.cell' (i := 2) rfl
                have m3 := kY.cell' (i := 3) rfl
                have m4 := kY.cell' (i := 4) rfl
                have m5 := kY.cell' (i := 5) rfl
                have s8 := ga.size
                have gOr := HBr.out.lt
                obtain ⟨W9, hW9⟩ : ∃ W9, (((((W8.setCell ⟨gO, 0, none⟩ (.int .i64 p)).setCell ⟨gO, 1, none⟩ (.int .i64 q.v)).setCell ⟨gO, 2, none⟩ (.slice A3 q.f.length a3)).setCell ⟨gO, 3, none⟩ (.slice C3 q.t.length c3)).setCell ⟨gO, 4, none⟩ (.slice E3 q.v.toNat e3)).setCell ⟨gO, 5, none⟩ (.slice H3 q.f.length h3) = W9 := ⟨_, rfl⟩
                have hB9 : Blk W9 gO 31 #[.int .i64 p, .int .i64 q.v, .slice A3 q.f.length a3, .slice C3 q.t.length c3, .slice E3 q.v.toNat e3, .slice H3 q.f.length h3] := by
                  rw [← hW9]
                  exact (((((kO8.set_ 0 _).set_ 1 _).set_ 2 _).set_ 3 _).set_ 4 _).set_ 5 _
                have hCh : Chg gO (gO + 1) W8 W9 := by
                  rw [← hW9]
                  exact chg6 _ _ _ _ _ _ _ _
                have hs9 : W9.heap.size = W8.heap.size := by rw [← hW9]; simp
                have HR9 := Lib.hid (show RepI W9 W.heap.size W9.heap.size (.agg #[.int .i64 p, .int .i64 q.v, .slice A3 q.f.length a3, .slice C3 q.t.length c3, .slice E3 q.v.toNat e3, .slice H3 q.f.length h3]) (smR p q (barsX (l.take k) ++ List.replicate (j + 1) (xn, yn))) from (((ho.below ga).chg hCh (.inr (by omega))).wider (by omega) (by omega)))
                have HC9 := Lib.hid ((HCr.out.trans (Chg.of_below hbr8)).trans hCh)
                have HB9 := Lib.hid hB9
                clear ho ga hbr8 kO8 kY hB9 hCh hb6
                go_wp2
                clear hW8 hW9 o0 o1 o2 o3 o4 o5 m0 m1 m2 m3 m4 m5 fr
                go_roundw
                case rel => exact ⟨j + 1, A3, a3, C3, c3, E3, e3, H3, h3, by omega, by go_num, HC9.out, HB9.out, HR9.out, HK1.out⟩
                case measure => simp [intOf]; omega
            · obtain rfl : j = N := by omega
              have hbx : barsX (l.take (k + 1)) = barsX (l.take k) ++ List.replicate j (xn, yn) := by
                rw [take_snoc HX.out, barsX_snoc, ← HXN.out, ← HYN.out]
                simp
              rw [← hbx] at hR HOK
              have HBr := Lib.hid hB
              have HRr := Lib.hid hR
              have GWr := Lib.hid (GW7.out.trans (hch.below hgO2 (by omega)))
              have sgr := hB.lt
              clear hB hR hch hbx
              go_wp2
              have hlt := HLT.out
              go_roundw
              case rel => exact ⟨k + 1, A1, a1, C1, c1, E1, e1, H1', h1', by omega, by go_num, GWr.out, sgr, HBr.out, HRr.out, HOK.out⟩
              case measure => simp [intOf]; omega
      · obtain rfl : k = n := by omega
        rw [List.take_of_length_le (by have := HN.out; omega)] at hR HOK
        have HE2 := Lib.hid (show rzP p q l = (smR p q (barsX l), true) from HE.out.trans (by simp [smP, HOK.out]))
        have kz := k2.call gW
        have fr := kz.frozen
        have s0 := kz.cell' (i := 0) rfl
        have s1 := kz.cell' (i := 1) rfl
        have s2 := kz.cell' (i := 2) rfl
        have s3 := kz.cell' (i := 3) rfl
        have s4 := kz.cell' (i := 4) rfl
        have s5 := kz.cell' (i := 5) rfl
        have r0 := hB.cell' (i := 0) rfl
        have r1 := hB.cell' (i := 1) rfl
        have r2 := hB.cell' (i := 2) rfl
        have r3 := hB.cell' (i := 3) rfl
        have r4 := hB.cell' (i := 4) rfl
        have r5 := hB.cell' (i := 5) rfl
        have sz := SZ.out
        have gf := g0.trans (gW.mono g0.size)
        have hc := chg6 wr (w0.heap.size + 1) (.int .i64 p) (.int .i64 q.v) (.slice A1 q.f.length a1) (.slice C1 q.t.length c1) (.slice E1 q.v.toNat e1) (.slice H1' q.f.length h1')
        have OF := Lib.hid ((hR.chg hc (.inr (by omega))).wider (lo' := w0.heap.size) (hi' := wr.heap.size) (by omega) (Nat.le_refl _))
        have GF := Lib.hid (gf.trans (hc.below (by omega) gf.size))
        clear hR hB kz gf hc
        go_wp2
        have hE := HE2.out
        exact bodyPost_ret (v := .tuple #[.agg #[.int .i64 p, .int .i64 q.v, .slice A1 q.f.length a1, .slice C1 q.t.length c1, .slice E1 q.v.toNat e1, .slice H1' q.f.length h1'], .bool true]) (by simp [results, go_sem, s0, s1, s2, s3, s4, s5]) rfl ⟨_, by rw [hE], by rw [hE]; have := OF.out.wider (Nat.le_refl _) (Nat.le_refl _); simpa using this, GF.out⟩
end Go.Proofs.Ytcmlflppndfdcaa
