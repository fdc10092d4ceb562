/- FnExactRepOfZigzag: for every argument the program's function returns what the reference's returns. Part 9 of 12 of the proof: Blks, DsM, DsI, RpL, SmI, RptR, ZigI2. No condition. -/
import Derived.Test.YtcmlflppndfdcaaBRepOfZigzag8
import Derived.Shelf.Bits.Mul64
import Derived.Laws.CopyRow
import Derived.Laws.IdiomCopy
/- blocks: two matrices on the diagonal, one above. -/
namespace Go.Proofs.Ytcmlflppndfdcaa
set_option linter.unusedVariables false
set_option linter.unusedSimpArgs false
open Go.RowKit

set_option maxHeartbeats 3200000 in
set_option maxRecDepth 100000 in
theorem blocks_any (ua uc ub : Value) (r s c d : Nat) (f k g : Nat → Nat → Int) (w0 : World) (ha : MxR w0 w0.heap.size ua (mxF r c f)) (hk : MxR w0 w0.heap.size uc (mxF r d k)) (hg : MxR w0 w0.heap.size ub (mxF s d g)) (hr : r ≤ 100) (hs : s ≤ 100) (hc : c ≤ 100) (hd : d ≤ 100) :
    Calls Try.prog 136 #[ua, uc, ub] w0 fun e w' => ∃ v, e = .returned v ∧ MxO w' w0.heap.size w'.heap.size v (mxF (r + s) (c + d) (blF r (bsF c f k) (bsF c (fun _ _ => 0) g))) ∧ Below w0.heap.size w0 w' := by
  obtain ⟨UA, ac, rfl⟩ := ha.form
  obtain ⟨UK, kc, rfl⟩ := hk.form
  obtain ⟨UG, gc, rfl⟩ := hg.form
  obtain ⟨LA, hLA⟩ : ∃ n, (mxF r c f).a.length = n := ⟨_, rfl⟩
  obtain ⟨LK, hLK⟩ : ∃ n, (mxF r d k).a.length = n := ⟨_, rfl⟩
  obtain ⟨LG, hLG⟩ : ∃ n, (mxF s d g).a.length = n := ⟨_, rfl⟩
  have z1 : (mxF r c f).r = (r : Int) := rfl
  have z2 : (mxF r c f).c = (c : Int) := rfl
  have z3 : (mxF r d k).r = (r : Int) := rfl
  have z4 : (mxF r d k).c = (d : Int) := rfl
  have z5 : (mxF s d g).r = (s : Int) := rfl
  have z6 : (mxF s d g).c = (d : Int) := rfl
  rw [hLA, z1, z2] at ha ⊢
  rw [hLK, z3, z4] at hk ⊢
  rw [hLG, z5, z6] at hg ⊢
  clear hLA hLK hLG z1 z2 z3 z4 z5 z6
  obtain ⟨W, hW⟩ : ∃ W, W = (((w0.alloc (.cells #[.int .i64 (r : Int), .int .i64 (c : Int), .slice UA LA ac] 84)).alloc (.cells #[.int .i64 (r : Int), .int .i64 (d : Int), .slice UK LK kc] 84)).alloc (.cells #[.int .i64 (s : Int), .int .i64 (d : Int), .slice UG LG gc] 84)).alloc (.cells #[.int .i64 0, .int .i64 0, .slice none 0 0] 84) := ⟨_, rfl⟩
  have g0 : Below w0.heap.size w0 W := by rw [hW]; exact ((((Below.refl _ _).alloc (Nat.le_refl _) _).alloc (by simp) _).alloc (by simp; omega) _).alloc (by simp; omega) _
  have k1 : Blk W w0.heap.size 84 #[.int .i64 (r : Int), .int .i64 (c : Int), .slice UA LA ac] := by rw [hW]; exact (((Blk.new _ _ _).alloc _).alloc _).alloc _
  have k2 : Blk W (w0.heap.size + 1) 84 #[.int .i64 (r : Int), .int .i64 (d : Int), .slice UK LK kc] := by
    rw [hW]
    have := ((Blk.new (w0.alloc (.cells #[.int .i64 (r : Int), .int .i64 (c : Int), .slice UA LA ac] 84)) 84 #[.int .i64 (r : Int), .int .i64 (d : Int), .slice UK LK kc]).alloc (.cells #[.int .i64 (s : Int), .int .i64 (d : Int), .slice UG LG gc] 84)).alloc (.cells #[.int .i64 0, .int .i64 0, .slice none 0 0] 84)
    simpa only [World.size_alloc] using this
  have k3 : Blk W (w0.heap.size + 1 + 1) 84 #[.int .i64 (s : Int), .int .i64 (d : Int), .slice UG LG gc] := by
    rw [hW]
    have := (Blk.new ((w0.alloc (.cells #[.int .i64 (r : Int), .int .i64 (c : Int), .slice UA LA ac] 84)).alloc (.cells #[.int .i64 (r : Int), .int .i64 (d : Int), .slice UK LK kc] 84)) 84 #[.int .i64 (s : Int), .int .i64 (d : Int), .slice UG LG gc]).alloc (.cells #[.int .i64 0, .int .i64 0, .slice none 0 0] 84)
    simpa only [World.size_alloc] using this
  have k4 : Blk W (w0.heap.size + 1 + 1 + 1) 84 #[.int .i64 0, .int .i64 0, .slice none 0 0] := by
    rw [hW]
    have := Blk.new (((w0.alloc (.cells #[.int .i64 (r : Int), .int .i64 (c : Int), .slice UA LA ac] 84)).alloc (.cells #[.int .i64 (r : Int), .int .i64 (d : Int), .slice UK LK kc] 84)).alloc (.cells #[.int .i64 (s : Int), .int .i64 (d : Int), .slice UG LG gc] 84)) 84 #[.int .i64 0, .int .i64 0, .slice none 0 0]
    simpa only [World.size_alloc] using this
  have sz : W.heap.size = w0.heap.size + 1 + 1 + 1 + 1 := by rw [hW]; simp
  have SZ := Lib.hid sz
  clear sz
  have HA := Lib.hid (MxR.next g0 ha)
  have HK := Lib.hid (MxR.next g0 hk)
  have HG := Lib.hid (MxR.next g0 hg)
  clear ha hk hg
  go_enter Try.func136, Try.ntmps136
  go_wp2
  rw [← hW]; clear hW
  refine wp_region_net (by kernel_rfl) [.eq (.agg #[.int .i64 (r : Int), .int .i64 (c : Int), .slice UA LA ac]), .eq (.agg #[.int .i64 (r : Int), .int .i64 (d : Int), .slice UK LK kc]), rel 2 (fun u lo hi w => MxO w lo hi u (mxF r (c + d) (bsF c f k))), .eq (.pointer (some ⟨w0.heap.size + 1 + 1, 0, none⟩)), .eq (.int .i64 (s : Int)), .eq (.pointer (some ⟨w0.heap.size, 1, none⟩)), .eq (.int .i64 (c : Int)), rel 7 (fun u lo hi w => MxO w lo hi u (mxF s c (fun _ _ => 0))), .eq (.agg #[.int .i64 (s : Int), .int .i64 (d : Int), .slice UG LG gc]), rel 9 (fun u lo hi w => MxO w lo hi u (mxF s (c + d) (bsF c (fun _ _ => 0) g))), rel 10 (fun u lo hi w => MxO w lo hi u (mxF (r + s) (c + d) (blF r (bsF c f k) (bsF c (fun _ _ => 0) g))))] [[], [], [0, 1], [], [3], [], [5], [0, 1, 2, 3, 4, 5, 6], [], [0, 1, 2, 3, 4, 5, 6, 7, 8], [0, 1, 2, 3, 4, 5, 6, 7, 8, 9], [0, 1, 2, 3, 4, 5, 6, 7, 8, 9, 10]] 11 (by kernel_rfl) ⟨trivial, trivial, rel_stable (fun u lo hi w w' h hb => h.below hb), trivial, trivial, trivial, trivial, rel_stable (fun u lo hi w w' h hb => h.below hb), trivial, rel_stable (fun u lo hi w w' h hb => h.below hb), rel_stable (fun u lo hi w w' h hb => h.below hb), trivial⟩ ⟨?_, ?_, ?_, ?_, ?_, ?_, ?_, ?_, ?_, ?_, ?_, trivial⟩ ?_
  · intro x w hb hk Q' hQ
    clear hk
    simp only [netAct, dstAt, List.getElem?_toArray, List.getElem?_cons_zero, List.getElem?_cons_succ, Option.bind_some, Act.put, List.setIfInBounds_toArray, List.set_cons_zero, List.set_cons_succ] at hQ ⊢
    have z0 := (k1.call hb).cell' (i := 0) rfl
    have z1 := (k1.call hb).cell' (i := 1) rfl
    have z2 := (k1.call hb).cell' (i := 2) rfl
    go_wp2
    exact hQ (.agg #[.int .i64 (r : Int), .int .i64 (c : Int), .slice UA LA ac]) _ (Below.refl _ _) rfl
  · intro x w hb hk Q' hQ
    clear hk
    simp only [netAct, dstAt, List.getElem?_toArray, List.getElem?_cons_zero, List.getElem?_cons_succ, Option.bind_some, Act.put, List.setIfInBounds_toArray, List.set_cons_zero, List.set_cons_succ] at hQ ⊢
    have z0 := (k2.call hb).cell' (i := 0) rfl
    have z1 := (k2.call hb).cell' (i := 1) rfl
    have z2 := (k2.call hb).cell' (i := 2) rfl
    go_wp2
    exact hQ (.agg #[.int .i64 (r : Int), .int .i64 (d : Int), .slice UK LK kc]) _ (Below.refl _ _) rfl
  · intro x w hb hk Q' hQ
    have h0 : x.v 0 = .agg #[.int .i64 (r : Int), .int .i64 (c : Int), .slice UA LA ac] := (hk 0 (by decide)).1
    have h1 : x.v 1 = .agg #[.int .i64 (r : Int), .int .i64 (d : Int), .slice UK LK kc] := (hk 1 (by decide)).1
    clear hk
    simp only [netAct, dstAt, List.getElem?_toArray, List.getElem?_cons_zero, List.getElem?_cons_succ, Option.bind_some, Act.put, List.setIfInBounds_toArray, List.set_cons_zero, List.set_cons_succ] at hQ ⊢
    simp only [h0, h1] at hQ ⊢
    clear h0 h1
    go_wp2_with fail
    refine (beside_any _ _ r c d f k _ (MxR.next hb HA.out) (MxR.next hb HK.out) (by omega) (by omega) (by omega)).mono ?_; rintro e w1 ⟨v1, rfl, ho, hb1⟩
    go_wp2
    exact hQ _ _ hb1 ho
  · intro x w hb hk Q' hQ
    clear hk
    simp only [netAct, dstAt, List.getElem?_toArray, List.getElem?_cons_zero, List.getElem?_cons_succ, Option.bind_some, Act.put, List.setIfInBounds_toArray, List.set_cons_zero, List.set_cons_succ] at hQ ⊢
    go_wp2
    exact hQ (.pointer (some ⟨w0.heap.size + 1 + 1, 0, none⟩)) _ (Below.refl _ _) rfl
  · intro x w hb hk Q' hQ
    have h3 : x.v 3 = .pointer (some ⟨w0.heap.size + 1 + 1, 0, none⟩) := (hk 3 (by decide)).1
    clear hk
    simp only [netAct, dstAt, List.getElem?_toArray, List.getElem?_cons_zero, List.getElem?_cons_succ, Option.bind_some, Act.put, List.setIfInBounds_toArray, List.set_cons_zero, List.set_cons_succ] at hQ ⊢
    simp only [h3] at hQ ⊢
    clear h3
    have z := (k3.call hb).cell' (i := 0) rfl
    go_wp2
    exact hQ (.int .i64 (s : Int)) _ (Below.refl _ _) rfl
  · intro x w hb hk Q' hQ
    clear hk
    simp only [netAct, dstAt, List.getElem?_toArray, List.getElem?_cons_zero, List.getElem?_cons_succ, Option.bind_some, Act.put, List.setIfInBounds_toArray, List.set_cons_zero, List.set_cons_succ] at hQ ⊢
    go_wp2
    exact hQ (.pointer (some ⟨w0.heap.size, 1, none⟩)) _ (Below.refl _ _) rfl
  · intro x w hb hk Q' hQ
    have h5 : x.v 5 = .pointer (some ⟨w0.heap.size, 1, none⟩) := (hk 5 (by decide)).1
    clear hk
    simp only [netAct, dstAt, List.getElem?_toArray, List.getElem?_cons_zero, List.getElem?_cons_succ, Option.bind_some, Act.put, List.setIfInBounds_toArray, List.set_cons_zero, List.set_cons_succ] at hQ ⊢
    simp only [h5] at hQ ⊢
    clear h5
    have z := (k1.call hb).cell' (i := 1) rfl
    go_wp2
    exact hQ (.int .i64 (c : Int)) _ (Below.refl _ _) rfl
  · intro x w hb hk Q' hQ
    have h0 : x.v 0 = .agg #[.int .i64 (r : Int), .int .i64 (c : Int), .slice UA LA ac] := (hk 0 (by decide)).1
    have h1 : x.v 1 = .agg #[.int .i64 (r : Int), .int .i64 (d : Int), .slice UK LK kc] := (hk 1 (by decide)).1
    have h2 : MxO w (x.lo 2) (x.hi 2) (x.v 2) (mxF r (c + d) (bsF c f k)) := (hk 2 (by decide)).1
    have h3 : x.v 3 = .pointer (some ⟨w0.heap.size + 1 + 1, 0, none⟩) := (hk 3 (by decide)).1
    have h4 : x.v 4 = .int .i64 (s : Int) := (hk 4 (by decide)).1
    have h5 : x.v 5 = .pointer (some ⟨w0.heap.size, 1, none⟩) := (hk 5 (by decide)).1
    have h6 : x.v 6 = .int .i64 (c : Int) := (hk 6 (by decide)).1
    have s2 := (hk 2 (by decide)).2
    clear hk
    simp only [netAct, dstAt, List.getElem?_toArray, List.getElem?_cons_zero, List.getElem?_cons_succ, Option.bind_some, Act.put, List.setIfInBounds_toArray, List.set_cons_zero, List.set_cons_succ] at hQ ⊢
    simp only [h0, h1, h3, h4, h5, h6] at hQ ⊢
    clear h0 h1 h3 h4 h5 h6
    go_wp2_with fail
    refine (zero_any s c _ (by omega) (by omega) (by omega) (by omega)).mono ?_; rintro e w1 ⟨v1, rfl, ho, hb1⟩
    rw [zmx_flat] at ho
    go_wp2
    exact hQ _ _ hb1 ho
  · intro x w hb hk Q' hQ
    clear hk
    simp only [netAct, dstAt, List.getElem?_toArray, List.getElem?_cons_zero, List.getElem?_cons_succ, Option.bind_some, Act.put, List.setIfInBounds_toArray, List.set_cons_zero, List.set_cons_succ] at hQ ⊢
    have z0 := (k3.call hb).cell' (i := 0) rfl
    have z1 := (k3.call hb).cell' (i := 1) rfl
    have z2 := (k3.call hb).cell' (i := 2) rfl
    go_wp2
    exact hQ (.agg #[.int .i64 (s : Int), .int .i64 (d : Int), .slice UG LG gc]) _ (Below.refl _ _) rfl
  · intro x w hb hk Q' hQ
    have h0 : x.v 0 = .agg #[.int .i64 (r : Int), .int .i64 (c : Int), .slice UA LA ac] := (hk 0 (by decide)).1
    have h1 : x.v 1 = .agg #[.int .i64 (r : Int), .int .i64 (d : Int), .slice UK LK kc] := (hk 1 (by decide)).1
    have h2 : MxO w (x.lo 2) (x.hi 2) (x.v 2) (mxF r (c + d) (bsF c f k)) := (hk 2 (by decide)).1
    have h3 : x.v 3 = .pointer (some ⟨w0.heap.size + 1 + 1, 0, none⟩) := (hk 3 (by decide)).1
    have h4 : x.v 4 = .int .i64 (s : Int) := (hk 4 (by decide)).1
    have h5 : x.v 5 = .pointer (some ⟨w0.heap.size, 1, none⟩) := (hk 5 (by decide)).1
    have h6 : x.v 6 = .int .i64 (c : Int) := (hk 6 (by decide)).1
    have h7 : MxO w (x.lo 7) (x.hi 7) (x.v 7) (mxF s c (fun _ _ => 0)) := (hk 7 (by decide)).1
    have h8 : x.v 8 = .agg #[.int .i64 (s : Int), .int .i64 (d : Int), .slice UG LG gc] := (hk 8 (by decide)).1
    have s2 := (hk 2 (by decide)).2
    have s7 := (hk 7 (by decide)).2
    clear hk
    simp only [netAct, dstAt, List.getElem?_toArray, List.getElem?_cons_zero, List.getElem?_cons_succ, Option.bind_some, Act.put, List.setIfInBounds_toArray, List.set_cons_zero, List.set_cons_succ] at hQ ⊢
    simp only [h0, h1, h3, h4, h5, h6, h8] at hQ ⊢
    clear h0 h1 h3 h4 h5 h6 h8
    have H7 := Lib.hid h7.rd
    obtain ⟨A7, c7, e7⟩ := h7.form
    rw [e7] at H7 hQ ⊢
    go_wp2_with fail
    refine (beside_any _ _ s c d (fun _ _ => 0) g _ H7.out (MxR.next hb HG.out) (by omega) (by omega) (by omega)).mono ?_; rintro e w1 ⟨v1, rfl, ho, hb1⟩
    go_wp2
    exact hQ _ _ hb1 ho
  · intro x w hb hk Q' hQ
    have h0 : x.v 0 = .agg #[.int .i64 (r : Int), .int .i64 (c : Int), .slice UA LA ac] := (hk 0 (by decide)).1
    have h1 : x.v 1 = .agg #[.int .i64 (r : Int), .int .i64 (d : Int), .slice UK LK kc] := (hk 1 (by decide)).1
    have h2 : MxO w (x.lo 2) (x.hi 2) (x.v 2) (mxF r (c + d) (bsF c f k)) := (hk 2 (by decide)).1
    have h3 : x.v 3 = .pointer (some ⟨w0.heap.size + 1 + 1, 0, none⟩) := (hk 3 (by decide)).1
    have h4 : x.v 4 = .int .i64 (s : Int) := (hk 4 (by decide)).1
    have h5 : x.v 5 = .pointer (some ⟨w0.heap.size, 1, none⟩) := (hk 5 (by decide)).1
    have h6 : x.v 6 = .int .i64 (c : Int) := (hk 6 (by decide)).1
    have h7 : MxO w (x.lo 7) (x.hi 7) (x.v 7) (mxF s c (fun _ _ => 0)) := (hk 7 (by decide)).1
    have h8 : x.v 8 = .agg #[.int .i64 (s : Int), .int .i64 (d : Int), .slice UG LG gc] := (hk 8 (by decide)).1
    have h9 : MxO w (x.lo 9) (x.hi 9) (x.v 9) (mxF s (c + d) (bsF c (fun _ _ => 0) g)) := (hk 9 (by decide)).1
    have s2 := (hk 2 (by decide)).2
    have s7 := (hk 7 (by decide)).2
    have s9 := (hk 9 (by decide)).2
    clear hk
    simp only [netAct, dstAt, List.getElem?_toArray, List.getElem?_cons_zero, List.getElem?_cons_succ, Option.bind_some, Act.put, List.setIfInBounds_toArray, List.set_cons_zero, List.set_cons_succ] at hQ ⊢
    simp only [h0, h1, h3, h4, h5, h6, h8] at hQ ⊢
    clear h0 h1 h3 h4 h5 h6 h8
    have H2 := Lib.hid h2.rd
    have H9 := Lib.hid h9.rd
    obtain ⟨A2, c2, e2⟩ := h2.form
    obtain ⟨A9, c9, e9⟩ := h9.form
    rw [e2] at H2 hQ ⊢
    rw [e9] at H9 hQ ⊢
    go_wp2_with fail
    refine (below_any _ _ (c + d) r s _ _ _ H2.out H9.out (by omega) (by omega) (by omega)).mono ?_; rintro e w1 ⟨v1, rfl, ho, hb1⟩
    go_wp2
    exact hQ _ _ hb1 ho
  · intro x w hb hk hiv hdj
    have h0 : x.v 0 = .agg #[.int .i64 (r : Int), .int .i64 (c : Int), .slice UA LA ac] := hk 0 (by decide)
    have h1 : x.v 1 = .agg #[.int .i64 (r : Int), .int .i64 (d : Int), .slice UK LK kc] := hk 1 (by decide)
    have h2 : MxO w (x.lo 2) (x.hi 2) (x.v 2) (mxF r (c + d) (bsF c f k)) := hk 2 (by decide)
    have h3 : x.v 3 = .pointer (some ⟨w0.heap.size + 1 + 1, 0, none⟩) := hk 3 (by decide)
    have h4 : x.v 4 = .int .i64 (s : Int) := hk 4 (by decide)
    have h5 : x.v 5 = .pointer (some ⟨w0.heap.size, 1, none⟩) := hk 5 (by decide)
    have h6 : x.v 6 = .int .i64 (c : Int) := hk 6 (by decide)
    have h7 : MxO w (x.lo 7) (x.hi 7) (x.v 7) (mxF s c (fun _ _ => 0)) := hk 7 (by decide)
    have h8 : x.v 8 = .agg #[.int .i64 (s : Int), .int .i64 (d : Int), .slice UG LG gc] := hk 8 (by decide)
    have h9 : MxO w (x.lo 9) (x.hi 9) (x.v 9) (mxF s (c + d) (bsF c (fun _ _ => 0) g)) := hk 9 (by decide)
    have h10 : MxO w (x.lo 10) (x.hi 10) (x.v 10) (mxF (r + s) (c + d) (blF r (bsF c f k) (bsF c (fun _ _ => 0) g))) := hk 10 (by decide)
    clear hk
    simp only [netAct, dstAt, List.getElem?_toArray, List.getElem?_cons_zero, List.getElem?_cons_succ, Option.bind_some, Act.put, List.setIfInBounds_toArray, List.set_cons_zero, List.set_cons_succ]
    simp only [List.drop_succ_cons, List.drop_zero, h0, h1, h3, h4, h5, h6, h8]
    clear h0 h1 h3 h4 h5 h6 h8
    have sz := SZ.out
    have kR := k4.call hb
    obtain ⟨l7, _, l7h⟩ := hiv 10 (by decide)
    obtain ⟨A7, c7, e7⟩ := h10.form
    obtain ⟨N, hN⟩ : ∃ N, (mxF (r + s) (c + d) (blF r (bsF c f k) (bsF c (fun _ _ => 0) g))).a.length = N := ⟨_, rfl⟩
    rw [hN] at e7
    simp only [mxF] at e7
    rw [e7] at h10 ⊢
    clear hiv hdj e7 h2 h7 h9 hN
    have p0 := kR.cell' (i := 0) rfl
    have p1 := kR.cell' (i := 1) rfl
    have p2 := kR.cell' (i := 2) rfl
    have fr := kR.frozen
    have gX := g0.trans (hb.mono g0.size)
    have gXs := gX.size
    have h2 := chg3 w (w0.heap.size + 1 + 1 + 1) (.int .i64 ((r + s : Nat) : Int)) (.int .i64 ((c + d : Nat) : Int)) (.slice A7 N c7)
    have OF := Lib.hid ((h10.chg h2 (.inr (by omega))).wider (lo' := w0.heap.size) (hi' := w.heap.size) (by omega) (by omega))
    have GF := Lib.hid (gX.trans (h2.below (by omega) gXs))
    clear h10 h2 gX kR sz gXs l7 l7h hb k1 k2 k3 k4
    go_wp2
    exact bodyPost_ret (v := .agg #[.int .i64 ((r + s : Nat) : Int), .int .i64 ((c + d : Nat) : Int), .slice A7 N c7]) (by simp [results, go_sem, p0, p1, p2]) rfl ⟨_, rfl, OF.out.wider (Nat.le_refl _) (by simp), GF.out⟩
end Go.Proofs.Ytcmlflppndfdcaa

/- Memory of sums: a number put into the dimensions, a matrix put in its place. -/
namespace Go.Proofs.Ytcmlflppndfdcaa
set_option linter.unusedVariables false
set_option linter.unusedSimpArgs false
open Go.RowKit

theorem mxCs_set3 : ∀ {vs : List Value} {ms : List Mx} {j : Nat}, j < ms.length → vs.length = ms.length → ∀ (m : Mx) (u : Value),
    (((mxCs vs ms).set (j * 3) (.int .i64 m.r)).set (j * 3 + 1) (.int .i64 m.c)).set (j * 3 + 2) u = mxCs (vs.set j u) (ms.set j m)
  | _, [], _, h, _, _, _ => by simp at h
  | [], _ :: _, _, _, h, _, _ => by simp at h
  | v :: vs, m :: ms, 0, _, _, x, u => by simp [mxCs]
  | v :: vs, m :: ms, j + 1, h, h2, x, u => by
    have := mxCs_set3 (vs := vs) (ms := ms) (j := j) (by simpa using h) (by simpa using h2) x u
    simp only [mxCs, show (j + 1) * 3 = j * 3 + 1 + 1 + 1 by omega, show j * 3 + 1 + 1 + 1 + 1 = (j * 3 + 1) + 1 + 1 + 1 by omega, show j * 3 + 1 + 1 + 1 + 2 = (j * 3 + 2) + 1 + 1 + 1 by omega, List.set_cons_succ, this]
abbrev set3 (w : World) (g i : Nat) (a b c : Value) : World := ((w.setCell ⟨g, i, none⟩ a).setCell ⟨g, i + 1, none⟩ b).setCell ⟨g, i + 2, none⟩ c
theorem RowO.len {T : TypeId} {sz : Nat} {w : World} {lo hi g c n m : Nat} {cs : List Value} (h : RowO T sz w lo hi (.slice (some ⟨g, 0, none⟩) n c) m cs) : n = m := by
  rcases h.1.2 with ⟨e, _⟩ | ⟨g', cap', cur, e, _⟩
  · cases e
  · injection e with _ e _
theorem chg_set1 (w : World) (g i : Nat) (u : Value) : Chg g (g + 1) w (w.setCell ⟨g, i, none⟩ u) := chg_set (Nat.le_refl _) (Nat.lt_succ_self _)
theorem chg_set3 (w : World) (g i : Nat) (a b c : Value) : Chg g (g + 1) w (set3 w g i a b c) :=
  ((chg_set1 w g i a).trans (chg_set1 _ g (i + 1) b)).trans (chg_set1 _ g (i + 2) c)
theorem OutM.setMx {w : World} {lo hi g n c j : Nat} {vs : List Value} {ms : List Mx} (h : OutM w lo hi (.slice (some ⟨g, 0, none⟩) n c) vs ms) (hl : vs.length = ms.length) (hj : j < ms.length) (m : Mx) (u : Value) :
    OutM (set3 w g (j * 3) (.int .i64 m.r) (.int .i64 m.c) u) lo hi (.slice (some ⟨g, 0, none⟩) n c) (vs.set j u) (ms.set j m) := by
  have e := RowO.len h
  subst e
  have h1 := (RowO.stored h (j * 3) (.int .i64 m.r)).1
  have h2 := (RowO.stored h1 (j * 3 + 1) (.int .i64 m.c)).1
  have h3 := (RowO.stored h2 (j * 3 + 2) u).1
  rw [mxCs_set3 hj hl] at h3
  unfold OutM
  rw [List.length_set]
  exact h3
theorem Fam.swap {w : World} {lo hi mi hi' j : Nat} {L0 : List (Value × List Int)} {vs : List Value} {ll : List (List Int)} {u : Value} {l : List Int} (h : Fam w lo hi (L0 ++ vs.zip ll)) (hj : j < ll.length) (hl : vs.length = ll.length) (hu : IntsO w mi hi' u l) (h1 : hi ≤ mi) (h2 : mi ≤ hi') (h3 : lo ≤ mi) :
    Fam w lo hi' (L0 ++ (vs.set j u).zip (ll.set j l)) := by
  have hv : vs[j]? = some (vs[j]'(by omega)) := List.getElem?_eq_getElem (by omega)
  have hl' : ll[j]? = some (ll[j]'hj) := List.getElem?_eq_getElem hj
  have hsv : (vs.set j u)[j]? = some u := by rw [List.getElem?_set, if_pos rfl, if_pos (by omega)]
  have hsl : (ll.set j l)[j]? = some l := by rw [List.getElem?_set, if_pos rfl, if_pos hj]
  rw [zip_split hsv hsl, List.take_set_of_le (Nat.le_refl j), List.drop_set_of_lt (by omega), List.take_set_of_le (Nat.le_refl j), List.drop_set_of_lt (by omega)]
  rw [zip_split hv hl', ← List.append_assoc] at h
  rw [← List.append_assoc]
  generalize L0 ++ (vs.take j).zip (ll.take j) = M1 at h ⊢
  generalize (vs.drop (j + 1)).zip (ll.drop (j + 1)) = M2 at h ⊢
  obtain ⟨G1, G2⟩ := h
  rw [List.pairwise_append] at G2
  obtain ⟨P1, P2, P3⟩ := G2
  rw [List.pairwise_cons] at P2
  refine ⟨fun p hp => ?_, ?_⟩
  · rcases List.mem_append.1 hp with hp | hp
    · exact (G1 p (by simp [hp])).wider (Nat.le_refl _) (by omega)
    · rcases List.mem_cons.1 hp with rfl | hp
      · exact hu.wider h3 (Nat.le_refl _)
      · exact (G1 p (by simp [hp])).wider (Nat.le_refl _) (by omega)
  · rw [List.pairwise_append, List.pairwise_cons]
    refine ⟨P1, ⟨fun p hp => ?_, P2.2⟩, fun p hp q hq => ?_⟩
    · rcases hA : u.ownBlock with _ | x
      · exact .inl rfl
      · refine .inr fun e2 => ?_
        have h5 := (G1 p (by simp [hp])).2 x e2.symm
        have h6 := (hu.1.lt x hA).1
        omega
    · rcases List.mem_cons.1 hq with rfl | hq
      · rcases hA : p.1.ownBlock with _ | x
        · exact .inl rfl
        · refine .inr fun e => ?_
          have h5 := (G1 p (by simp [hp])).2 x hA
          have h6 := (hu.1.lt x e.symm).1
          omega
      · exact P3 p hp q (by simp [hq])
theorem OutM.blk {w : World} {lo hi g n c : Nat} {vs : List Value} {ms : List Mx} (h : OutM w lo hi (.slice (some ⟨g, 0, none⟩) n c) vs ms) : ∃ cs, Blk w g 84 cs ∧ lo ≤ g ∧ g < hi := by
  have hg := h.2.1 g rfl
  rcases h.1.2 with ⟨e, _⟩ | ⟨g', cap', cur, e, k1, hh, _⟩
  · cases e
  · injection e with e1 e2 _
    injection e1 with e1
    injection e1 with e1
    subst e1
    exact ⟨cur, hh, k1, hg⟩
theorem Fam.set3 {w : World} {lo hi g i : Nat} {L : List (Value × List Int)} {t : TypeId} {cs : Array Value} (h : Fam w lo hi L) (hb : Blk w g t cs) (ht : 3 ≠ t) (a b c : Value) : Fam (set3 w g i a b c) lo hi L :=
  ((h.setBlk hb ht a).setBlk (hb.set_ i a) ht b).setBlk ((hb.set_ i a).set_ (i + 1) b) ht c
/-- a matrix of later memory put in its place -/
theorem RepO.setMx {w : World} {lo hi mi hi' g n c j : Nat} {p v r k : Int} {f t d u : Value} {x : Rp} {m : Mx} (h : RepO w lo hi (.agg #[.int .i64 p, .int .i64 v, f, t, d, .slice (some ⟨g, 0, none⟩) n c]) x) (hj : j < x.m.length)
    (hu : MxO w mi hi' (.agg #[.int .i64 r, .int .i64 k, u]) m) (h1 : hi ≤ mi) (h2 : mi ≤ hi') (h3 : lo ≤ mi) :
    RepO (set3 w g (j * 3) (.int .i64 r) (.int .i64 k) u) lo hi' (.agg #[.int .i64 p, .int .i64 v, f, t, d, .slice (some ⟨g, 0, none⟩) n c]) ⟨x.p, x.q, x.d, x.m.set j m⟩ ∧ lo ≤ g ∧ g < hi := by
  obtain ⟨f', t', d', m', vs, e, hO, hvl, hF, hi1, hi2⟩ := h
  simp only [Value.agg.injEq, Array.mk.injEq, List.cons.injEq, and_true] at e
  obtain ⟨rfl2, rfl3, rfl, rfl, rfl, rfl⟩ := e
  obtain ⟨s, e, hs, i1, i2⟩ := hu
  simp only [Value.agg.injEq, Array.mk.injEq, List.cons.injEq, and_true, Value.int.injEq, true_and] at e
  obtain ⟨rfl, rfl, rfl⟩ := e
  obtain ⟨cs, hb, hg1, hg2⟩ := OutM.blk hO
  refine ⟨⟨f, t, d, _, vs.set j u, by rw [rfl2, rfl3], (OutM.setMx hO hvl hj m u).mono (Nat.le_refl _) (by omega), by simp [hvl], ?_, hi1, fun y hy => ?_⟩, hg1, hg2⟩
  · have hF2 := hF.swap (j := j) (by simpa using hj) (by simpa using hvl) hs h1 h2 h3
    have hF3 := hF2.set3 (i := j * 3) hb (by decide) (.int .i64 m.r) (.int .i64 m.c) u
    rw [List.map_set]
    exact hF3
  · rcases List.mem_or_eq_of_mem_set hy with hy | rfl
    · exact hi2 y hy
    · exact ⟨i1, i2⟩
/-- a number put into the dimensions -/
theorem RepO.setDim {w : World} {lo hi g n c j : Nat} {p v y : Int} {f t m : Value} {x : Rp} (h : RepO w lo hi (.agg #[.int .i64 p, .int .i64 v, f, t, .slice (some ⟨g, 0, none⟩) n c, m]) x) (hy : I64 y) :
    RepO (w.setCell ⟨g, j, none⟩ (.int .i64 y)) lo hi (.agg #[.int .i64 p, .int .i64 v, f, t, .slice (some ⟨g, 0, none⟩) n c, m]) ⟨x.p, x.q, x.d.set j y, x.m⟩ ∧ lo ≤ g ∧ g < hi := by
  obtain ⟨f', t', d', m', vs, e, hO, hvl, hF, hi1, hi2⟩ := h
  simp only [Value.agg.injEq, Array.mk.injEq, List.cons.injEq, and_true] at e
  obtain ⟨rfl2, rfl3, rfl, rfl, rfl, rfl⟩ := e
  have hd : IntsO w lo hi (.slice (some ⟨g, 0, none⟩) n c) x.d := hF.1 (.slice (some ⟨g, 0, none⟩) n c, x.d) (by simp)
  have hp := hd.1.put (j := j) hy
  have hgb := hd.2 g rfl
  have hgl := (hd.1.lt g rfl).1
  refine ⟨⟨f, t, _, m, vs, by rw [rfl2, rfl3], ?_, hvl, ?_, hi1, hi2⟩, hgl, hgb⟩
  · exact RowO.grown hO (by decide) hd.1 hp.2
  · have := Fam.turn (L1 := [(f, x.q.f), (t, x.q.t)]) (L2 := vs.zip (x.m.map Mx.a)) (v := .slice (some ⟨g, 0, none⟩) n c) (l := x.d) (l' := x.d.set j y) (by simpa using hF) hp.1 hp.2
    simpa using this
/-- the cells of a representation of the call's own -/
theorem RepO.dimAt {w : World} {lo hi j : Nat} {p v : Int} {f t d m : Value} {x : Rp} (h : RepO w lo hi (.agg #[.int .i64 p, .int .i64 v, f, t, d, m]) x) (hj : j < x.d.length) :
    ∃ g c, d = .slice (some ⟨g, 0, none⟩) x.d.length c ∧ lo ≤ g ∧ g < hi ∧ w.cell? ⟨g, j, none⟩ = some (.int .i64 (x.d.getD j 0)) ∧ w.frozen? ⟨g, j, none⟩ = false ∧ I64 (x.d.getD j 0) := by
  obtain ⟨f', t', d', m', vs, e, hO, hvl, hF, hi1, hi2⟩ := h
  simp only [Value.agg.injEq, Array.mk.injEq, List.cons.injEq, and_true] at e
  obtain ⟨_, _, rfl, rfl, rfl, rfl⟩ := e
  have hd : IntsO w lo hi d x.d := hF.1 (d, x.d) (by simp)
  rcases hd.1.1.2 with ⟨rfl, h0⟩ | ⟨g, cap, cur, rfl, k1, hh, _⟩
  · omega
  · have h1 := hd.1.cellG hj
    exact ⟨g, cap, rfl, k1, hd.2 g rfl, h1.1, hd.1.frozenG j, h1.2⟩
theorem RepO.mxAt {w : World} {lo hi j : Nat} {p v : Int} {f t d m : Value} {x : Rp} {y : Mx} (h : RepO w lo hi (.agg #[.int .i64 p, .int .i64 v, f, t, d, m]) x) (hj : x.m[j]? = some y) :
    ∃ g c s, m = .slice (some ⟨g, 0, none⟩) x.m.length c ∧ lo ≤ g ∧ g < hi ∧ w.cell? ⟨g, j * 3, none⟩ = some (.int .i64 y.r) ∧ w.cell? ⟨g, j * 3 + 1, none⟩ = some (.int .i64 y.c) ∧ w.cell? ⟨g, j * 3 + 2, none⟩ = some s ∧ IntsO w lo hi s y.a ∧ (∀ i, w.frozen? ⟨g, i, none⟩ = false) ∧ I64 y.r ∧ I64 y.c := by
  obtain ⟨f', t', d', m', vs, e, hO, hvl, hF, hi1, hi2⟩ := h
  simp only [Value.agg.injEq, Array.mk.injEq, List.cons.injEq, and_true] at e
  obtain ⟨_, _, rfl, rfl, rfl, rfl⟩ := e
  have hjl := lt_of_some hj
  have hv : vs[j]? = some (vs[j]'(by omega)) := List.getElem?_eq_getElem (by omega)
  obtain ⟨a, b, c⟩ := mxCs_get hv hj
  rcases hO.1.2 with ⟨rfl, h0⟩ | ⟨g, cap, cur, rfl, k1, hh, _⟩
  · omega
  · have e := fun i (hi : i < 3) => hO.1.cellAt (j * 3 + i) (by omega)
    have hs := Fam.getAt (L0 := [(f, x.q.f), (t, x.q.t), (d, x.d)]) hF hv (l := y.a) (by simp [hj])
    exact ⟨g, cap, _, rfl, k1, hO.2.1 g rfl, by rw [show j * 3 = j * 3 + 0 by omega, e 0 (by omega)]; exact a, by rw [e 1 (by omega)]; exact b, by rw [e 2 (by omega)]; exact c, hs, fun i => hO.1.frozenAt i, hi2 y (List.mem_of_getElem? hj)⟩
end Go.Proofs.Ytcmlflppndfdcaa

/- The program's directSum. -/
namespace Go.Proofs.Ytcmlflppndfdcaa
set_option linter.unusedVariables false
set_option linter.unusedSimpArgs false
open Go.RowKit

def addK (D D' : Nat → Nat) (k v : Nat) : Nat := if v < k then D v + D' v else D v
theorem addK_set {D D' : Nat → Nat} {V k : Nat} : (rowF V fun v => ((addK D D' k v : Nat) : Int)).set k ((D k : Int) + (D' k : Int)) = rowF V fun v => ((addK D D' (k + 1) v : Nat) : Int) := by
  rw [rowF_set]
  apply rowF_congr
  intro v _
  by_cases e : v = k
  · subst e; simp [addK]
  · rw [if_neg e]
    have : (v < k + 1) = (v < k) := by simp only [eq_iff_iff]; omega
    simp only [addK, this]
theorem addK_end (D D' : Nat → Nat) (V : Nat) : (rowF V fun v => ((addK D D' V v : Nat) : Int)) = rowF V fun v => ((D v + D' v : Nat) : Int) := rowF_congr fun v hv => by rw [addK, if_pos hv]
def dsMs (q : Qv) (D D' : Nat → Nat) (E E' : Nat → Nat → Nat → Int) (k i : Nat) : Mx := if i < k then mxF (D (tN q i) + D' (tN q i)) (D (fN q i) + D' (fN q i)) (dsF q D E E' i) else mxF (D (tN q i)) (D (fN q i)) (E i)
theorem dsMs_set {q : Qv} {D D' : Nat → Nat} {E E' : Nat → Nat → Nat → Int} {n k : Nat} : (msF n (dsMs q D D' E E' k)).set k (mxF (D (tN q k) + D' (tN q k)) (D (fN q k) + D' (fN q k)) (dsE (D (tN q k)) (D (fN q k)) (E k) (E' k))) = msF n (dsMs q D D' E E' (k + 1)) := by
  rw [msF_set]
  apply msF_congr
  intro i _
  by_cases e : i = k
  · subst e; simp [dsMs, dsF]
  · rw [if_neg e]
    have : (i < k + 1) = (i < k) := by simp only [eq_iff_iff]; omega
    simp only [dsMs, this]
theorem dsMs_0 (q : Qv) (D D' : Nat → Nat) (E E' : Nat → Nat → Nat → Int) (n : Nat) : msF n (dsMs q D D' E E' 0) = msF n fun i => mxF (D (tN q i)) (D (fN q i)) (E i) := msF_congr fun i _ => by rw [dsMs, if_neg (by omega)]
theorem dsMs_end (q : Qv) (D D' : Nat → Nat) (E E' : Nat → Nat → Nat → Int) (n : Nat) : msF n (dsMs q D D' E E' n) = msF n fun i => mxF (D (tN q i) + D' (tN q i)) (D (fN q i) + D' (fN q i)) (dsF q D E E' i) := msF_congr fun i hi => by rw [dsMs, if_pos hi]

theorem Blk.apart {w : World} {g g' : Nat} {t t' : TypeId} {cs cs' : Array Value} (h : Blk w g t cs) (k : Blk w g' t' cs') (ht : t ≠ t') : g ≠ g' := by
  rintro rfl
  unfold Blk at h k
  rw [h] at k
  injection k with k
  injection k with _ k
  exact ht k
theorem RepO.mBlk {w : World} {lo hi g n c : Nat} {p v : Int} {f t d : Value} {x : Rp} (h : RepO w lo hi (.agg #[.int .i64 p, .int .i64 v, f, t, d, .slice (some ⟨g, 0, none⟩) n c]) x) : ∃ cs, Blk w g 84 cs := by
  obtain ⟨f', t', d', m', vs, e, hO, _⟩ := h
  simp only [Value.agg.injEq, Array.mk.injEq, List.cons.injEq, and_true] at e
  obtain ⟨_, _, rfl, rfl, rfl, rfl⟩ := e
  obtain ⟨cs, hb, _⟩ := OutM.blk hO
  exact ⟨cs, hb⟩
theorem mxF_at {w : World} {B n c k : Nat} {F : Nat → Mx} {A : Option Addr} {r s : Nat} {f : Nat → Nat → Int} (h : SlM w B (.slice A n c) (msF n F)) (hk : k < n) (hF : F k = mxF r s f) :
    ∃ b o MA mb L, A = some ⟨b, o, none⟩ ∧ b < B ∧ w.cell? ⟨b, o + k * 3, none⟩ = some (.int .i64 (r : Int)) ∧ w.cell? ⟨b, o + k * 3 + 1, none⟩ = some (.int .i64 (s : Int)) ∧ w.cell? ⟨b, o + k * 3 + 2, none⟩ = some (.slice MA L mb) ∧ MxR w B (.agg #[.int .i64 (r : Int), .int .i64 (s : Int), .slice MA L mb]) (mxF r s f) := by
  obtain ⟨b, o, m, MA, mb, e, hb, HX, x0, x1, x2, hsl, i1, i2, _⟩ := SlM.at_ (k := k) (xs := msF n F) (by rw [msF_length]; exact h) (by rw [msF_length]; exact hk)
  have hm : m = mxF r s f := by
    have := HX.out
    rw [msF_get _ hk, hF] at this
    injection this with this
    exact this.symm
  subst hm
  exact ⟨b, o, MA, mb, _, e, hb, x0, x1, x2, ⟨_, rfl, hsl, i1, i2⟩⟩

set_option maxHeartbeats 6400000 in
set_option maxRecDepth 100000 in
theorem directSum_any (ua ub : Value) (p : Int) (q : Qv) (D D' : Nat → Nat) (E E' : Nat → Nat → Nat → Int) (w0 : World) (ha : RpR w0 w0.heap.size ua (rpF p q D E)) (hb : RpR w0 w0.heap.size ub (rpF p q D' E')) (hq : isQ q = true) (hD : ∀ v, v < q.v.toNat → D v ≤ 4) (hD' : ∀ v, v < q.v.toNat → D' v ≤ 4) :
    Calls Try.prog 102 #[ua, ub] w0 fun e w' => ∃ v, e = .returned v ∧ RepO w' w0.heap.size w'.heap.size v (rpF p q (fun v => D v + D' v) (dsF q D E E')) ∧ Below w0.heap.size w0 w' := by
  have HQ := Lib.hid hq
  have hn6 : q.f.length ≤ 6 := (isQ_t.1 hq).2.2.1
  have hV5 : q.v.toNat ≤ 5 := by have := (isQ_t.1 hq).1; omega
  clear hq
  have ha' := ha
  obtain ⟨A, a, C, c, Ea, ea, Ha, ha_, rfl, hqa, hda, hma, hp, _, _⟩ := ha.open_
  obtain ⟨A2, a2, C2, c2, Eb, eb, Hb, hb_, rfl, hqb, hdb, hmb, hp2, _, _⟩ := hb.open_
  clear ha hb hqa hqb hda
  simp only [rpF, rowF_length, msF_length] at hdb hma hmb ha' ⊢
  obtain ⟨W, hW⟩ : ∃ W, W = ((w0.alloc (.cells #[.int .i64 p, .int .i64 q.v, .slice A q.f.length a, .slice C q.t.length c, .slice Ea q.v.toNat ea, .slice Ha q.f.length ha_] 31)).alloc (.cells #[.int .i64 p, .int .i64 q.v, .slice A2 q.f.length a2, .slice C2 q.t.length c2, .slice Eb q.v.toNat eb, .slice Hb q.f.length hb_] 31)).alloc (.cells #[.int .i64 0, .int .i64 0, .slice none 0 0, .slice none 0 0, .slice none 0 0, .slice none 0 0] 31) := ⟨_, rfl⟩
  have g0 : Below w0.heap.size w0 W := by rw [hW]; exact (((Below.refl _ _).alloc (Nat.le_refl _) _).alloc (by simp) _).alloc (by simp; omega) _
  have k1 : Blk W w0.heap.size 31 #[.int .i64 p, .int .i64 q.v, .slice A q.f.length a, .slice C q.t.length c, .slice Ea q.v.toNat ea, .slice Ha q.f.length ha_] := by rw [hW]; exact ((Blk.new _ _ _).alloc _).alloc _
  have k2 : Blk W (w0.heap.size + 1) 31 #[.int .i64 p, .int .i64 q.v, .slice A2 q.f.length a2, .slice C2 q.t.length c2, .slice Eb q.v.toNat eb, .slice Hb q.f.length hb_] := by
    rw [hW]
    have := (Blk.new (w0.alloc (.cells #[.int .i64 p, .int .i64 q.v, .slice A q.f.length a, .slice C q.t.length c, .slice Ea q.v.toNat ea, .slice Ha q.f.length ha_] 31)) 31 #[.int .i64 p, .int .i64 q.v, .slice A2 q.f.length a2, .slice C2 q.t.length c2, .slice Eb q.v.toNat eb, .slice Hb q.f.length hb_]).alloc (.cells #[.int .i64 0, .int .i64 0, .slice none 0 0, .slice none 0 0, .slice none 0 0, .slice none 0 0] 31)
    simpa only [World.size_alloc] using this
  have k3 : Blk W (w0.heap.size + 1 + 1) 31 #[.int .i64 0, .int .i64 0, .slice none 0 0, .slice none 0 0, .slice none 0 0, .slice none 0 0] := by
    rw [hW]
    have := Blk.new ((w0.alloc (.cells #[.int .i64 p, .int .i64 q.v, .slice A q.f.length a, .slice C q.t.length c, .slice Ea q.v.toNat ea, .slice Ha q.f.length ha_] 31)).alloc (.cells #[.int .i64 p, .int .i64 q.v, .slice A2 q.f.length a2, .slice C2 q.t.length c2, .slice Eb q.v.toNat eb, .slice Hb q.f.length hb_] 31)) 31 #[.int .i64 0, .int .i64 0, .slice none 0 0, .slice none 0 0, .slice none 0 0, .slice none 0 0]
    simpa only [World.size_alloc] using this
  have sz : W.heap.size = w0.heap.size + 1 + 1 + 1 := by rw [hW]; simp
  have SZ := Lib.hid sz
  clear sz
  have HA := Lib.hid (RpR.next g0 ha')
  have HDB := Lib.hid (SlI.next g0 hdb)
  have HMA := Lib.hid (SlM.next g0 hma)
  have HMB := Lib.hid (SlM.next g0 hmb)
  clear ha' hdb hma hmb
  obtain ⟨V, hV⟩ : ∃ V, q.v.toNat = V := ⟨_, rfl⟩
  rw [hV] at k1 k2 hD hD' hV5 HA HDB hW
  have HV := Lib.hid hV
  rw [hV]
  clear hV
  have z0 := k1.cell' (i := 0) rfl
  have z1 := k1.cell' (i := 1) rfl
  have z2 := k1.cell' (i := 2) rfl
  have z3 := k1.cell' (i := 3) rfl
  have z4 := k1.cell' (i := 4) rfl
  have z5 := k1.cell' (i := 5) rfl
  go_enter Try.func102, Try.ntmps102
  go_wp2_with fail
  rw [← hW]; clear hW
  refine (repClone_any _ (rpF p q D E) _ (by have := HA.out; rwa [← HV.out] at this ⊢) (by simp only [rpF, msF_length]; omega)).mono ?_; rintro e w1 ⟨v1, rfl, hO, hb1⟩
  have s1 := hb1.size
  obtain ⟨A1, a1, C1, c1, E1, e1, H1, h1, rfl⟩ := hO.form
  simp only [rpF, rowF_length, msF_length] at hO ⊢
  rw [HV.out] at hO ⊢
  have k1' := k1.call hb1
  have k2' := k2.call hb1
  have k3' := k3.call hb1
  have gR := Blk.new w1 31 #[.int .i64 p, .int .i64 q.v, .slice A1 q.f.length a1, .slice C1 q.t.length c1, .slice E1 V e1, .slice H1 q.f.length h1]
  obtain ⟨W2, hW2⟩ : ∃ W2, w1.alloc (.cells #[.int .i64 p, .int .i64 q.v, .slice A1 q.f.length a1, .slice C1 q.t.length c1, .slice E1 V e1, .slice H1 q.f.length h1] 31) = W2 := ⟨_, rfl⟩
  have ga : Below w1.heap.size w1 W2 := by rw [← hW2]; exact below_alloc _ _
  rw [hW2] at gR
  have z24 := (k2'.call ga).cell' (i := 4) rfl
  have gW2 : Below W.heap.size W W2 := hb1.trans (ga.mono s1)
  have sW2 : W2.heap.size = w1.heap.size + 1 := by rw [← hW2]; simp
  have hO2 := hO.below ga
  have K1 := Lib.hid k1
  have K2 := Lib.hid k2
  have K3 := Lib.hid k3
  have G0 := Lib.hid g0
  clear k1 k2 k3 g0 k1' k2' k3' z0 z1 z2 z3 z4 z5 hO hb1 ga
  go_wp2
  go_loopw [6, 7, 15] (fun _ _ i wr => ∃ k : Nat, k ≤ V ∧ i = .int .i64 k ∧ Below W.heap.size W wr ∧ wr.heap.size = w1.heap.size + 1 ∧ Blk wr w1.heap.size 31 #[.int .i64 p, .int .i64 q.v, .slice A1 q.f.length a1, .slice C1 q.t.length c1, .slice E1 V e1, .slice H1 q.f.length h1] ∧
    RepO wr W.heap.size w1.heap.size (.agg #[.int .i64 p, .int .i64 q.v, .slice A1 q.f.length a1, .slice C1 q.t.length c1, .slice E1 V e1, .slice H1 q.f.length h1]) ⟨p, q, rowF V fun v => ((addK D D' k v : Nat) : Int), msF q.f.length fun i => mxF (D (tN q i)) (D (fN q i)) (E i)⟩) (fun _ _ i _ => V - (intOf i).toNat)
  case atStart => exact ⟨0, Nat.zero_le _, rfl, gW2, sW2, gR, hO2⟩
  case round =>
    clear gR gW2 hO2 z24
    obtain ⟨k, hk, rfl, gW, hsz, hB, hR⟩ := hrel
    have HDk := Lib.hid hD
    have HDk' := Lib.hid hD'
    clear hD hD'
    have gws := gW.size
    by_cases hlt : k < V
    · obtain ⟨bd, od, y, eD, hbd, HY, y1, _⟩ := SlI.at_ (k := k) (xs := rowF V fun v => ((D' v : Nat) : Int)) (by rw [rowF_length]; exact HDB.out) (by rw [rowF_length]; exact hlt)
      have hy : y = ((D' k : Nat) : Int) := by
        have := HY.out
        rw [rowF_get _ hlt] at this
        injection this with this
        exact this.symm
      subst hy eD
      clear HY
      have y2 := bcell gW hbd y1
      obtain ⟨g, cE, eE, hg1, hg2, x1, x2, _⟩ := hR.dimAt (j := k) (by simp only [rowF_length]; exact hlt)
      simp only [rowF_length] at eE
      injection eE with eE1 _ eE2
      subst eE1 eE2
      have ex : (rowF V fun v => ((addK D D' k v : Nat) : Int)).getD k 0 = ((D k : Nat) : Int) := by rw [rowF_getD _ hlt, addK, if_neg (by omega)]
      simp only [ex] at x1
      clear ex y1
      have b1 := HDk.out k hlt
      have b2 := HDk'.out k hlt
      have c4 := hB.cell' (i := 4) rfl
      have hg3 : g < wr.heap.size := by omega
      have HR := Lib.hid hR
      have hBs := Lib.hid (hB.far (p := ⟨g, k, none⟩) (by simp; omega) (.int .i64 ((D k : Int) + (D' k : Int))))
      clear hR hB
      go_wp2
      go_roundw
      case rel =>
        have h1 := (HR.out.setDim (j := k) (y := (D k : Int) + (D' k : Int)) (by simp only [I64]; omega)).1
        simp only [addK_set] at h1
        exact ⟨k + 1, by omega, by go_num, gW.setCell (by simp; omega) _, by simp [hsz], hBs.out, h1⟩
      case measure => simp [intOf]; omega
    · obtain rfl : k = V := by omega
      rw [addK_end] at hR
      have z25 := (K2.out.call gW).cell' (i := 5) rfl
      have gR2 := hB
      have hR2 := hR.wider (Nat.le_refl _) (show w1.heap.size ≤ wr.heap.size by omega)
      rw [← dsMs_0 q D D' E E'] at hR2
      have hs2 : w1.heap.size < wr.heap.size := by omega
      obtain ⟨W4, hW4⟩ : ∃ W4, W4 = wr := ⟨_, rfl⟩
      rw [← hW4] at gR2 hR2 hs2 gW z25 ⊢
      clear hR hB hW4
      go_wp2
      go_loopw [8, 32] (fun _ i wr => ∃ j : Nat, j ≤ q.f.length ∧ i = .int .i64 j ∧ Below W.heap.size W wr ∧ w1.heap.size < wr.heap.size ∧ Blk wr w1.heap.size 31 #[.int .i64 p, .int .i64 q.v, .slice A1 q.f.length a1, .slice C1 q.t.length c1, .slice E1 k e1, .slice H1 q.f.length h1] ∧
        RepO wr W.heap.size wr.heap.size (.agg #[.int .i64 p, .int .i64 q.v, .slice A1 q.f.length a1, .slice C1 q.t.length c1, .slice E1 k e1, .slice H1 q.f.length h1]) ⟨p, q, rowF k fun v => ((D v + D' v : Nat) : Int), msF q.f.length (dsMs q D D' E E' j)⟩) (fun _ i _ => q.f.length - (intOf i).toNat)
      case atStart => exact ⟨0, Nat.zero_le _, rfl, gW, hs2, gR2, hR2⟩
      case round =>
        clear gR2 gW hR2 hs2 z25
        obtain ⟨j, hj, rfl, gW, hs2, hB, hR⟩ := hrel
        have gws := gW.size
        by_cases hlt : j < q.f.length
        · obtain ⟨bA, oA, MA, ma, LA, eA, hbA, x0, x1, x2, hxa⟩ := mxF_at HMA.out hlt rfl
          obtain ⟨bB, oB, MB, mb, LB, eB, hbB, y0, y1, y2, hxb⟩ := mxF_at HMB.out hlt rfl
          subst eA eB
          obtain ⟨_, _, lf, lt⟩ := q_ends HQ.out hlt
          rw [HV.out] at lf lt
          have b1 := HDk.out _ lf
          have b2 := HDk.out _ lt
          have b3 := HDk'.out _ lf
          have b4 := HDk'.out _ lt
          clear lf lt
          obtain ⟨g, cM, sM, eM, hg1, hg2, v0, v1, v2, _, hfz, _⟩ := hR.mxAt (j := j) (by simp only []; exact msF_get _ hlt)
          simp only [msF_length] at eM
          injection eM with eM1 _ eM2
          subst eM1 eM2
          have y0' := bcell gW hbB y0
          have y1' := bcell gW hbB y1
          have y2' := bcell gW hbB y2
          have x0' := bcell gW hbA x0
          have x1' := bcell gW hbA x1
          have x2' := bcell gW hbA x2
          have kA := K1.out.call gW
          have kB := K2.out.call gW
          have z25 := kB.cell' (i := 5) rfl
          have gwa := below_alloc wr (.cells #[.int .i64 ((D' (tN q j) : Nat) : Int), .int .i64 ((D' (fN q j) : Nat) : Int), .slice MB LB mb] 84)
          have kM := Blk.new wr 84 #[.int .i64 ((D' (tN q j) : Nat) : Int), .int .i64 ((D' (fN q j) : Nat) : Int), .slice MB LB mb]
          obtain ⟨W5, hW5⟩ : ∃ W5, wr.alloc (.cells #[.int .i64 ((D' (tN q j) : Nat) : Int), .int .i64 ((D' (fN q j) : Nat) : Int), .slice MB LB mb] 84) = W5 := ⟨_, rfl⟩
          have s5 : W5.heap.size = wr.heap.size + 1 := by rw [← hW5]; simp
          rw [hW5] at gwa kM
          have HXA := Lib.hid (show MxR W5 W5.heap.size _ _ from MxR.more (by omega) (MxR.below (gW.trans (gwa.mono gws)) hxa))
          have HXB := Lib.hid (show MxR W5 W5.heap.size _ _ from MxR.more (by omega) (MxR.below (gW.trans (gwa.mono gws)) hxb))
          replace kA := kA.call gwa
          have kO := hB.call gwa
          have HR := Lib.hid (hR.below gwa)
          have GW := Lib.hid (gW.trans (gwa.mono gws))
          have v0' := bcell gwa (show g < wr.heap.size by omega) v0
          have v1' := bcell gwa (show g < wr.heap.size by omega) v1
          have v2' := bcell gwa (show g < wr.heap.size by omega) v2
          have wa0 := bcell gwa (show bA < wr.heap.size by omega) x0'
          have wa1 := bcell gwa (show bA < wr.heap.size by omega) x1'
          have wa2 := bcell gwa (show bA < wr.heap.size by omega) x2'
          have hbA5 : bA < W5.heap.size := by omega
          have hg5 : g < W5.heap.size := by omega
          have kA5 := kA.cell' (i := 5) rfl
          clear x0 x1 x2 y0 y1 y2 v0 v1 v2 x0' x1' x2' hxa hxb hR hB gW kB
          go_wp2
          clear hW5
          refine wp_region_net (by kernel_rfl) [.eq (.pointer (some ⟨w1.heap.size, 5, none⟩)), .eq (.slice (some ⟨g, 0, none⟩) q.f.length h1), .eq (.int .i64 j), .eq (.pointer (some ⟨w0.heap.size, 5, none⟩)), .eq (.slice (some ⟨bA, oA, none⟩) q.f.length ha_), .eq (.int .i64 j), .eq (.pointer (some ⟨bA, oA + j * 3, none⟩)), .eq (.agg #[.int .i64 ((D (tN q j) : Nat) : Int), .int .i64 ((D (fN q j) : Nat) : Int), .slice MA LA ma]), .eq (.pointer (some ⟨w0.heap.size, 5, none⟩)), .eq (.slice (some ⟨bA, oA, none⟩) q.f.length ha_), .eq (.int .i64 j), .eq (.pointer (some ⟨bA, oA + j * 3, none⟩)), .eq (.pointer (some ⟨bA, oA + j * 3, none⟩)), .eq (.int .i64 ((D (tN q j) : Nat) : Int)), .eq (.pointer (some ⟨wr.heap.size, 1, none⟩)), .eq (.int .i64 ((D' (fN q j) : Nat) : Int)), rel 16 (fun u lo hi w => MxO w lo hi u (mxF (D (tN q j)) (D' (fN q j)) (fun _ _ => 0))), .eq (.agg #[.int .i64 ((D' (tN q j) : Nat) : Int), .int .i64 ((D' (fN q j) : Nat) : Int), .slice MB LB mb]), rel 18 (fun u lo hi w => MxO w lo hi u (mxF (D (tN q j) + D' (tN q j)) (D (fN q j) + D' (fN q j)) (dsE (D (tN q j)) (D (fN q j)) (E j) (E' j))))] [[], [0], [], [], [3], [], [3, 4, 5], [3, 4, 5, 6], [], [8], [], [8, 9, 10], [8, 9, 10, 11], [8, 9, 10, 11, 12], [], [14], [8, 9, 10, 11, 12, 13, 14, 15], [], [3, 4, 5, 6, 7, 8, 9, 10, 11, 12, 13, 14, 15, 16, 17], [0, 1, 2, 3, 4, 5, 6, 7, 8, 9, 10, 11, 12, 13, 14, 15, 16, 17, 18], [0, 1, 2, 3, 4, 5, 6, 7, 8, 9, 10, 11, 12, 13, 14, 15, 16, 17, 18, 19]] 19 (by kernel_rfl) ⟨trivial, trivial, trivial, trivial, trivial, trivial, trivial, trivial, trivial, trivial, trivial, trivial, trivial, trivial, trivial, trivial, rel_stable (fun u lo hi w w' h hb => h.below hb), trivial, rel_stable (fun u lo hi w w' h hb => h.below hb), trivial⟩ ⟨?_, ?_, ?_, ?_, ?_, ?_, ?_, ?_, ?_, ?_, ?_, ?_, ?_, ?_, ?_, ?_, ?_, ?_, ?_, trivial⟩ ?_
          · intro x w hb hk Q' hQ
            clear hk
            simp only [netAct, dstAt, List.getElem?_toArray, List.getElem?_cons_zero, List.getElem?_cons_succ, Option.bind_some, Act.put, List.setIfInBounds_toArray, List.set_cons_zero, List.set_cons_succ] at hQ ⊢
            go_wp2
            exact hQ (.pointer (some ⟨w1.heap.size, 5, none⟩)) _ (Below.refl _ _) rfl
          · intro x w hb hk Q' hQ
            have h0 : x.v 0 = .pointer (some ⟨w1.heap.size, 5, none⟩) := (hk 0 (by decide)).1
            clear hk
            simp only [netAct, dstAt, List.getElem?_toArray, List.getElem?_cons_zero, List.getElem?_cons_succ, Option.bind_some, Act.put, List.setIfInBounds_toArray, List.set_cons_zero, List.set_cons_succ] at hQ ⊢
            simp only [h0] at hQ ⊢
            clear h0
            have z := (kO.call hb).cell' (i := 5) rfl
            go_wp2
            exact hQ (.slice (some ⟨g, 0, none⟩) q.f.length h1) _ (Below.refl _ _) rfl
          · intro x w hb hk Q' hQ
            clear hk
            simp only [netAct, dstAt, List.getElem?_toArray, List.getElem?_cons_zero, List.getElem?_cons_succ, Option.bind_some, Act.put, List.setIfInBounds_toArray, List.set_cons_zero, List.set_cons_succ] at hQ ⊢
            go_wp2
            exact hQ (.int .i64 j) _ (Below.refl _ _) rfl
          · intro x w hb hk Q' hQ
            clear hk
            simp only [netAct, dstAt, List.getElem?_toArray, List.getElem?_cons_zero, List.getElem?_cons_succ, Option.bind_some, Act.put, List.setIfInBounds_toArray, List.set_cons_zero, List.set_cons_succ] at hQ ⊢
            go_wp2
            exact hQ (.pointer (some ⟨w0.heap.size, 5, none⟩)) _ (Below.refl _ _) rfl
          · intro x w hb hk Q' hQ
            have h3 : x.v 3 = .pointer (some ⟨w0.heap.size, 5, none⟩) := (hk 3 (by decide)).1
            clear hk
            simp only [netAct, dstAt, List.getElem?_toArray, List.getElem?_cons_zero, List.getElem?_cons_succ, Option.bind_some, Act.put, List.setIfInBounds_toArray, List.set_cons_zero, List.set_cons_succ] at hQ ⊢
            simp only [h3] at hQ ⊢
            clear h3
            have z := (kA.call hb).cell' (i := 5) rfl
            go_wp2
            exact hQ (.slice (some ⟨bA, oA, none⟩) q.f.length ha_) _ (Below.refl _ _) rfl
          · intro x w hb hk Q' hQ
            clear hk
            simp only [netAct, dstAt, List.getElem?_toArray, List.getElem?_cons_zero, List.getElem?_cons_succ, Option.bind_some, Act.put, List.setIfInBounds_toArray, List.set_cons_zero, List.set_cons_succ] at hQ ⊢
            go_wp2
            exact hQ (.int .i64 j) _ (Below.refl _ _) rfl
          · intro x w hb hk Q' hQ
            have h4 : x.v 4 = .slice (some ⟨bA, oA, none⟩) q.f.length ha_ := (hk 4 (by decide)).1
            have h5 : x.v 5 = .int .i64 j := (hk 5 (by decide)).1
            clear hk
            simp only [netAct, dstAt, List.getElem?_toArray, List.getElem?_cons_zero, List.getElem?_cons_succ, Option.bind_some, Act.put, List.setIfInBounds_toArray, List.set_cons_zero, List.set_cons_succ] at hQ ⊢
            simp only [h4, h5] at hQ ⊢
            clear h4 h5
            go_wp2
            exact hQ (.pointer (some ⟨bA, oA + j * 3, none⟩)) _ (Below.refl _ _) rfl
          · intro x w hb hk Q' hQ
            have h6 : x.v 6 = .pointer (some ⟨bA, oA + j * 3, none⟩) := (hk 6 (by decide)).1
            clear hk
            simp only [netAct, dstAt, List.getElem?_toArray, List.getElem?_cons_zero, List.getElem?_cons_succ, Option.bind_some, Act.put, List.setIfInBounds_toArray, List.set_cons_zero, List.set_cons_succ] at hQ ⊢
            simp only [h6] at hQ ⊢
            clear h6
            have y0 := bcell hb hbA5 wa0
            have y1 := bcell hb hbA5 wa1
            have y2 := bcell hb hbA5 wa2
            go_wp2
            exact hQ (.agg #[.int .i64 ((D (tN q j) : Nat) : Int), .int .i64 ((D (fN q j) : Nat) : Int), .slice MA LA ma]) _ (Below.refl _ _) rfl
          · intro x w hb hk Q' hQ
            clear hk
            simp only [netAct, dstAt, List.getElem?_toArray, List.getElem?_cons_zero, List.getElem?_cons_succ, Option.bind_some, Act.put, List.setIfInBounds_toArray, List.set_cons_zero, List.set_cons_succ] at hQ ⊢
            go_wp2
            exact hQ (.pointer (some ⟨w0.heap.size, 5, none⟩)) _ (Below.refl _ _) rfl
          · intro x w hb hk Q' hQ
            have h8 : x.v 8 = .pointer (some ⟨w0.heap.size, 5, none⟩) := (hk 8 (by decide)).1
            clear hk
            simp only [netAct, dstAt, List.getElem?_toArray, List.getElem?_cons_zero, List.getElem?_cons_succ, Option.bind_some, Act.put, List.setIfInBounds_toArray, List.set_cons_zero, List.set_cons_succ] at hQ ⊢
            simp only [h8] at hQ ⊢
            clear h8
            have z := (kA.call hb).cell' (i := 5) rfl
            go_wp2
            exact hQ (.slice (some ⟨bA, oA, none⟩) q.f.length ha_) _ (Below.refl _ _) rfl
          · intro x w hb hk Q' hQ
            clear hk
            simp only [netAct, dstAt, List.getElem?_toArray, List.getElem?_cons_zero, List.getElem?_cons_succ, Option.bind_some, Act.put, List.setIfInBounds_toArray, List.set_cons_zero, List.set_cons_succ] at hQ ⊢
            go_wp2
            exact hQ (.int .i64 j) _ (Below.refl _ _) rfl
          · intro x w hb hk Q' hQ
            have h9 : x.v 9 = .slice (some ⟨bA, oA, none⟩) q.f.length ha_ := (hk 9 (by decide)).1
            have h10 : x.v 10 = .int .i64 j := (hk 10 (by decide)).1
            clear hk
            simp only [netAct, dstAt, List.getElem?_toArray, List.getElem?_cons_zero, List.getElem?_cons_succ, Option.bind_some, Act.put, List.setIfInBounds_toArray, List.set_cons_zero, List.set_cons_succ] at hQ ⊢
            simp only [h9, h10] at hQ ⊢
            clear h9 h10
            go_wp2
            exact hQ (.pointer (some ⟨bA, oA + j * 3, none⟩)) _ (Below.refl _ _) rfl
          · intro x w hb hk Q' hQ
            have h11 : x.v 11 = .pointer (some ⟨bA, oA + j * 3, none⟩) := (hk 11 (by decide)).1
            clear hk
            simp only [netAct, dstAt, List.getElem?_toArray, List.getElem?_cons_zero, List.getElem?_cons_succ, Option.bind_some, Act.put, List.setIfInBounds_toArray, List.set_cons_zero, List.set_cons_succ] at hQ ⊢
            simp only [h11] at hQ ⊢
            clear h11
            go_wp2
            exact hQ (.pointer (some ⟨bA, oA + j * 3, none⟩)) _ (Below.refl _ _) rfl
          · intro x w hb hk Q' hQ
            have h12 : x.v 12 = .pointer (some ⟨bA, oA + j * 3, none⟩) := (hk 12 (by decide)).1
            clear hk
            simp only [netAct, dstAt, List.getElem?_toArray, List.getElem?_cons_zero, List.getElem?_cons_succ, Option.bind_some, Act.put, List.setIfInBounds_toArray, List.set_cons_zero, List.set_cons_succ] at hQ ⊢
            simp only [h12] at hQ ⊢
            clear h12
            have y0 := bcell hb hbA5 wa0
            go_wp2
            exact hQ (.int .i64 ((D (tN q j) : Nat) : Int)) _ (Below.refl _ _) rfl
          · intro x w hb hk Q' hQ
            clear hk
            simp only [netAct, dstAt, List.getElem?_toArray, List.getElem?_cons_zero, List.getElem?_cons_succ, Option.bind_some, Act.put, List.setIfInBounds_toArray, List.set_cons_zero, List.set_cons_succ] at hQ ⊢
            go_wp2
            exact hQ (.pointer (some ⟨wr.heap.size, 1, none⟩)) _ (Below.refl _ _) rfl
          · intro x w hb hk Q' hQ
            have h14 : x.v 14 = .pointer (some ⟨wr.heap.size, 1, none⟩) := (hk 14 (by decide)).1
            clear hk
            simp only [netAct, dstAt, List.getElem?_toArray, List.getElem?_cons_zero, List.getElem?_cons_succ, Option.bind_some, Act.put, List.setIfInBounds_toArray, List.set_cons_zero, List.set_cons_succ] at hQ ⊢
            simp only [h14] at hQ ⊢
            clear h14
            have z := (kM.call hb).cell' (i := 1) rfl
            go_wp2
            exact hQ (.int .i64 ((D' (fN q j) : Nat) : Int)) _ (Below.refl _ _) rfl
          · intro x w hb hk Q' hQ
            have h8 : x.v 8 = .pointer (some ⟨w0.heap.size, 5, none⟩) := (hk 8 (by decide)).1
            have h9 : x.v 9 = .slice (some ⟨bA, oA, none⟩) q.f.length ha_ := (hk 9 (by decide)).1
            have h10 : x.v 10 = .int .i64 j := (hk 10 (by decide)).1
            have h11 : x.v 11 = .pointer (some ⟨bA, oA + j * 3, none⟩) := (hk 11 (by decide)).1
            have h12 : x.v 12 = .pointer (some ⟨bA, oA + j * 3, none⟩) := (hk 12 (by decide)).1
            have h13 : x.v 13 = .int .i64 ((D (tN q j) : Nat) : Int) := (hk 13 (by decide)).1
            have h14 : x.v 14 = .pointer (some ⟨wr.heap.size, 1, none⟩) := (hk 14 (by decide)).1
            have h15 : x.v 15 = .int .i64 ((D' (fN q j) : Nat) : Int) := (hk 15 (by decide)).1
            clear hk
            simp only [netAct, dstAt, List.getElem?_toArray, List.getElem?_cons_zero, List.getElem?_cons_succ, Option.bind_some, Act.put, List.setIfInBounds_toArray, List.set_cons_zero, List.set_cons_succ] at hQ ⊢
            simp only [h8, h9, h10, h11, h12, h13, h14, h15] at hQ ⊢
            clear h8 h9 h10 h11 h12 h13 h14 h15
            go_wp2_with fail
            refine (zero_any (D (tN q j)) (D' (fN q j)) _ (by omega) (by omega) (by omega) (by omega)).mono ?_; rintro e w7 ⟨v7, rfl, ho, hb7⟩
            rw [zmx_flat] at ho
            go_wp2
            exact hQ _ _ hb7 ho
          · intro x w hb hk Q' hQ
            clear hk
            simp only [netAct, dstAt, List.getElem?_toArray, List.getElem?_cons_zero, List.getElem?_cons_succ, Option.bind_some, Act.put, List.setIfInBounds_toArray, List.set_cons_zero, List.set_cons_succ] at hQ ⊢
            have y0 := (kM.call hb).cell' (i := 0) rfl
            have y1 := (kM.call hb).cell' (i := 1) rfl
            have y2 := (kM.call hb).cell' (i := 2) rfl
            go_wp2
            exact hQ (.agg #[.int .i64 ((D' (tN q j) : Nat) : Int), .int .i64 ((D' (fN q j) : Nat) : Int), .slice MB LB mb]) _ (Below.refl _ _) rfl
          · intro x w hb hk Q' hQ
            have h3 : x.v 3 = .pointer (some ⟨w0.heap.size, 5, none⟩) := (hk 3 (by decide)).1
            have h4 : x.v 4 = .slice (some ⟨bA, oA, none⟩) q.f.length ha_ := (hk 4 (by decide)).1
            have h5 : x.v 5 = .int .i64 j := (hk 5 (by decide)).1
            have h6 : x.v 6 = .pointer (some ⟨bA, oA + j * 3, none⟩) := (hk 6 (by decide)).1
            have h7 : x.v 7 = .agg #[.int .i64 ((D (tN q j) : Nat) : Int), .int .i64 ((D (fN q j) : Nat) : Int), .slice MA LA ma] := (hk 7 (by decide)).1
            have h8 : x.v 8 = .pointer (some ⟨w0.heap.size, 5, none⟩) := (hk 8 (by decide)).1
            have h9 : x.v 9 = .slice (some ⟨bA, oA, none⟩) q.f.length ha_ := (hk 9 (by decide)).1
            have h10 : x.v 10 = .int .i64 j := (hk 10 (by decide)).1
            have h11 : x.v 11 = .pointer (some ⟨bA, oA + j * 3, none⟩) := (hk 11 (by decide)).1
            have h12 : x.v 12 = .pointer (some ⟨bA, oA + j * 3, none⟩) := (hk 12 (by decide)).1
            have h13 : x.v 13 = .int .i64 ((D (tN q j) : Nat) : Int) := (hk 13 (by decide)).1
            have h14 : x.v 14 = .pointer (some ⟨wr.heap.size, 1, none⟩) := (hk 14 (by decide)).1
            have h15 : x.v 15 = .int .i64 ((D' (fN q j) : Nat) : Int) := (hk 15 (by decide)).1
            have h16 : MxO w (x.lo 16) (x.hi 16) (x.v 16) (mxF (D (tN q j)) (D' (fN q j)) (fun _ _ => 0)) := (hk 16 (by decide)).1
            have h17 : x.v 17 = .agg #[.int .i64 ((D' (tN q j) : Nat) : Int), .int .i64 ((D' (fN q j) : Nat) : Int), .slice MB LB mb] := (hk 17 (by decide)).1
            have s16 := (hk 16 (by decide)).2
            clear hk
            simp only [netAct, dstAt, List.getElem?_toArray, List.getElem?_cons_zero, List.getElem?_cons_succ, Option.bind_some, Act.put, List.setIfInBounds_toArray, List.set_cons_zero, List.set_cons_succ] at hQ ⊢
            simp only [h3, h4, h5, h6, h7, h8, h9, h10, h11, h12, h13, h14, h15, h17] at hQ ⊢
            clear h3 h4 h5 h6 h7 h8 h9 h10 h11 h12 h13 h14 h15 h17
            have H16 := Lib.hid h16.rd
            obtain ⟨A16, c16, e16⟩ := h16.form
            rw [e16] at H16 hQ ⊢
            go_wp2_with fail
            refine (blocks_any _ _ _ (D (tN q j)) (D' (tN q j)) (D (fN q j)) (D' (fN q j)) (E j) (fun _ _ => 0) (E' j) _ (MxR.next hb HXA.out) H16.out (MxR.next hb HXB.out) (by omega) (by omega) (by omega) (by omega)).mono ?_; rintro e w7 ⟨v7, rfl, ho, hb7⟩
            go_wp2
            exact hQ _ _ hb7 ho
          · intro x w hb hk hiv hdj
            have h0 : x.v 0 = .pointer (some ⟨w1.heap.size, 5, none⟩) := hk 0 (by decide)
            have h1 : x.v 1 = .slice (some ⟨g, 0, none⟩) q.f.length h1 := hk 1 (by decide)
            have h2 : x.v 2 = .int .i64 j := hk 2 (by decide)
            have h3 : x.v 3 = .pointer (some ⟨w0.heap.size, 5, none⟩) := hk 3 (by decide)
            have h4 : x.v 4 = .slice (some ⟨bA, oA, none⟩) q.f.length ha_ := hk 4 (by decide)
            have h5 : x.v 5 = .int .i64 j := hk 5 (by decide)
            have h6 : x.v 6 = .pointer (some ⟨bA, oA + j * 3, none⟩) := hk 6 (by decide)
            have h7 : x.v 7 = .agg #[.int .i64 ((D (tN q j) : Nat) : Int), .int .i64 ((D (fN q j) : Nat) : Int), .slice MA LA ma] := hk 7 (by decide)
            have h8 : x.v 8 = .pointer (some ⟨w0.heap.size, 5, none⟩) := hk 8 (by decide)
            have h9 : x.v 9 = .slice (some ⟨bA, oA, none⟩) q.f.length ha_ := hk 9 (by decide)
            have h10 : x.v 10 = .int .i64 j := hk 10 (by decide)
            have h11 : x.v 11 = .pointer (some ⟨bA, oA + j * 3, none⟩) := hk 11 (by decide)
            have h12 : x.v 12 = .pointer (some ⟨bA, oA + j * 3, none⟩) := hk 12 (by decide)
            have h13 : x.v 13 = .int .i64 ((D (tN q j) : Nat) : Int) := hk 13 (by decide)
            have h14 : x.v 14 = .pointer (some ⟨wr.heap.size, 1, none⟩) := hk 14 (by decide)
            have h15 : x.v 15 = .int .i64 ((D' (fN q j) : Nat) : Int) := hk 15 (by decide)
            have h16 : MxO w (x.lo 16) (x.hi 16) (x.v 16) (mxF (D (tN q j)) (D' (fN q j)) (fun _ _ => 0)) := hk 16 (by decide)
            have h17 : x.v 17 = .agg #[.int .i64 ((D' (tN q j) : Nat) : Int), .int .i64 ((D' (fN q j) : Nat) : Int), .slice MB LB mb] := hk 17 (by decide)
            have h18 : MxO w (x.lo 18) (x.hi 18) (x.v 18) (mxF (D (tN q j) + D' (tN q j)) (D (fN q j) + D' (fN q j)) (dsE (D (tN q j)) (D (fN q j)) (E j) (E' j))) := hk 18 (by decide)
            clear hk
            simp only [netAct, dstAt, List.getElem?_toArray, List.getElem?_cons_zero, List.getElem?_cons_succ, Option.bind_some, Act.put, List.setIfInBounds_toArray, List.set_cons_zero, List.set_cons_succ]
            simp only [List.drop_succ_cons, List.drop_zero, h0, h1, h2, h3, h4, h5, h6, h7, h8, h9, h10, h11, h12, h13, h14, h15, h17]
            clear h0 h1 h2 h3 h4 h5 h6 h7 h8 h9 h10 h11 h12 h13 h14 h15 h17
            obtain ⟨l18, l18m, l18h⟩ := hiv 18 (by decide)
            obtain ⟨A18, c18, e18⟩ := h18.form
            obtain ⟨N, hN⟩ : ∃ N, (mxF (D (tN q j) + D' (tN q j)) (D (fN q j) + D' (fN q j)) (dsE (D (tN q j)) (D (fN q j)) (E j) (E' j))).a.length = N := ⟨_, rfl⟩
            rw [hN] at e18
            simp only [mxF] at e18
            rw [e18] at h18 ⊢
            clear hiv hdj e18 hN h16
            have hbs := hb.size
            have hRw := (HR.out).below hb
            obtain ⟨cs, hbM⟩ := hRw.mBlk
            have kOw := kO.call hb
            have hne := hbM.apart kOw (by decide)
            have t0 := bcell hb hg5 v0'
            have t1 := bcell hb hg5 v1'
            have t2 := bcell hb hg5 v2'
            have fr := hbM.frozen
            have h2 := (RepO.setMx (j := j) hRw (by simp only [msF_length]; exact hlt) h18 (by omega) l18m (by omega)).1
            have hch := chg_set3 w g (j * 3) (.int .i64 ((D (tN q j) + D' (tN q j) : Nat) : Int)) (.int .i64 ((D (fN q j) + D' (fN q j) : Nat) : Int)) (.slice A18 N c18)
            simp only [dsMs_set] at h2
            have H2 := Lib.hid (h2.wider (Nat.le_refl _) l18h)
            have KO := Lib.hid (kOw.chg hch (by omega))
            have GF := Lib.hid ((GW.out.trans (hb.mono GW.out.size)).trans (hch.below (B := W.heap.size) hg1 (by omega)))
            clear h2 hch kOw hRw h18 hbM kO kA kM hb HR
            go_wp2
            go_roundw
            case rel => exact ⟨j + 1, by omega, by go_num, GF.out, by simp; omega, KO.out, by simpa using H2.out⟩
            case measure => simp [intOf]; omega
        · obtain rfl : j = q.f.length := by omega
          rw [dsMs_end] at hR
          have kz := K3.out.call gW
          have fr := kz.frozen
          have s0 := kz.cell' (i := 0) rfl
          have s1 := kz.cell' (i := 1) rfl
          have s2 := kz.cell' (i := 2) rfl
          have s3 := kz.cell' (i := 3) rfl
          have s4 := kz.cell' (i := 4) rfl
          have s5 := kz.cell' (i := 5) rfl
          have r0 := hB.cell' (i := 0) rfl
          have r1 := hB.cell' (i := 1) rfl
          have r2 := hB.cell' (i := 2) rfl
          have r3 := hB.cell' (i := 3) rfl
          have r4 := hB.cell' (i := 4) rfl
          have r5 := hB.cell' (i := 5) rfl
          have z25 := (K2.out.call gW).cell' (i := 5) rfl
          have sz := SZ.out
          have gf := G0.out.trans (gW.mono G0.out.size)
          have hc := chg6 wr (w0.heap.size + 1 + 1) (.int .i64 p) (.int .i64 q.v) (.slice A1 q.f.length a1) (.slice C1 q.t.length c1) (.slice E1 k e1) (.slice H1 q.f.length h1)
          have OF := Lib.hid ((hR.chg hc (.inr (by omega))).wider (lo' := w0.heap.size) (hi' := wr.heap.size) (by omega) (Nat.le_refl _))
          have GF := Lib.hid (gf.trans (hc.below (by omega) gf.size))
          have hneq : w1.heap.size ≠ w0.heap.size + 1 + 1 := by omega
          clear hR hB kz gf hc
          go_wp2
          exact bodyPost_ret (v := .agg #[.int .i64 p, .int .i64 q.v, .slice A1 q.f.length a1, .slice C1 q.t.length c1, .slice E1 k e1, .slice H1 q.f.length h1]) (by simp [results, go_sem, s0, s1, s2, s3, s4, s5]) rfl ⟨_, rfl, by have := OF.out.wider (Nat.le_refl _) (Nat.le_refl _); simpa using this, GF.out⟩
end Go.Proofs.Ytcmlflppndfdcaa

/- Rows of representations of the call's own. -/
namespace Go.Proofs.Ytcmlflppndfdcaa
set_option linter.unusedVariables false
set_option linter.unusedSimpArgs false
open Go.RowKit

theorem infoRp : (Try.prog.info? 31).map (fun i => (i.zero, i.size, i.bytes)) = some (some (.agg #[.int .i64 0, .int .i64 0, .slice none 0 0, .slice none 0 0, .slice none 0 0, .slice none 0 0]), 6, 112) := by kernel_rfl
theorem RepO.appT {T : TypeId} {lo l1 h1 : Nat} {w w' : World} {v : Value} {x : Rp} (h : RepO w l1 h1 v x) (hT : 3 ≠ T) (hM : 84 ≠ T) (ha : AppT T lo w w') : RepO w' l1 h1 v x := by
  obtain ⟨f, t, d, m, vs, e, hO, hvl, hF, hi⟩ := h
  refine ⟨f, t, d, m, vs, e, ⟨⟨hO.1.1, ?_⟩, hO.2⟩, hvl, hF.appT hT ha, hi⟩
  rcases hO.1.2 with h1 | ⟨g, cap, cur, e, hg, hh, rest⟩
  · exact .inl h1
  · exact .inr ⟨g, cap, cur, e, hg, ha.other g _ cur hM hh, rest⟩
theorem RepO.six {w : World} {lo hi : Nat} {u : List Value} {x : Rp} (h : RepO w lo hi (.agg u.toArray) x) : ∃ A a C c E e H h, u = [.int .i64 x.p, .int .i64 x.q.v, .slice A x.q.f.length a, .slice C x.q.t.length c, .slice E x.d.length e, .slice H x.m.length h] := by
  obtain ⟨A, a, C, c, E, e, H, k, hu⟩ := h.form
  injection hu with hu
  refine ⟨A, a, C, c, E, e, H, k, ?_⟩
  rw [← Array.toList_inj] at hu
  simpa using hu
/-- cells of representations that the call made -/
def RpsC (w : World) (us : List (List Value)) (rs : List Rp) : Prop := us.length = rs.length ∧ ∀ (j : Nat) (u : List Value) (r : Rp), us[j]? = some u → rs[j]? = some r → RepO w 0 w.heap.size (.agg u.toArray) r
theorem RpsC.nil (w : World) : RpsC w [] [] := ⟨rfl, fun j u r h => by simp at h⟩
theorem RpsC.below {w w' : World} {us : List (List Value)} {rs : List Rp} (h : RpsC w us rs) (hb : Below w.heap.size w w') : RpsC w' us rs :=
  ⟨h.1, fun j u r h1 h2 => ((h.2 j u r h1 h2).below hb).wider (Nat.le_refl _) hb.size⟩
theorem RpsC.appT {T : TypeId} {lo : Nat} {w w' : World} {us : List (List Value)} {rs : List Rp} (h : RpsC w us rs) (hT : 3 ≠ T) (hM : 84 ≠ T) (ha : AppT T lo w w') : RpsC w' us rs :=
  ⟨h.1, fun j u r h1 h2 => ((h.2 j u r h1 h2).appT hT hM ha).wider (Nat.le_refl _) ha.size⟩
theorem RpsC.app {w : World} {us us' : List (List Value)} {rs rs' : List Rp} (h : RpsC w us rs) (k : RpsC w us' rs') : RpsC w (us ++ us') (rs ++ rs') := by
  refine ⟨by simp [h.1, k.1], fun j u r h1 h2 => ?_⟩
  by_cases hj : j < us.length
  · rw [List.getElem?_append_left hj] at h1
    rw [List.getElem?_append_left (by rw [← h.1]; exact hj)] at h2
    exact h.2 j u r h1 h2
  · rw [List.getElem?_append_right (by omega)] at h1
    rw [List.getElem?_append_right (by rw [← h.1]; omega), ← h.1] at h2
    exact k.2 _ u r h1 h2
theorem RpsC.rep {w : World} {u : List Value} {r : Rp} (N : Nat) (h : RepO w 0 w.heap.size (.agg u.toArray) r) : RpsC w (List.replicate N u) (List.replicate N r) :=
  ⟨by simp, fun j u' r' h1 h2 => by
    have e1 := List.mem_of_getElem? h1
    have e2 := List.mem_of_getElem? h2
    obtain ⟨_, rfl⟩ := List.mem_replicate.1 e1
    obtain ⟨_, rfl⟩ := List.mem_replicate.1 e2
    exact h⟩
theorem RpsC.six {w : World} {us : List (List Value)} {rs : List Rp} (h : RpsC w us rs) : ∀ u ∈ us, u.length = 6 ∧ ∀ y ∈ u, y.oneCell' = true := fun u hu => by
  obtain ⟨j, hj⟩ := List.getElem?_of_mem hu
  have hl := lt_of_some hj
  obtain ⟨A, a, C, c, E, e, H, g, rfl⟩ := (h.2 j u _ hj (List.getElem?_eq_getElem (show j < rs.length by rw [← h.1]; exact hl))).six
  exact ⟨rfl, fun y hy => by
    simp only [List.mem_cons, List.not_mem_nil, or_false] at hy
    rcases hy with rfl | rfl | rfl | rfl | rfl | rfl <;> rfl⟩
theorem flat6_length : ∀ {us : List (List Value)}, (∀ u ∈ us, u.length = 6) → us.flatten.length = us.length * 6
  | [], _ => rfl
  | u :: us, h => by
    rw [List.flatten_cons, List.length_append, flat6_length fun x hx => h x (by simp [hx]), h u (by simp), List.length_cons]; omega
theorem flat6_get : ∀ {us : List (List Value)} {j i : Nat} {u : List Value}, (∀ u ∈ us, u.length = 6) → us[j]? = some u → i < 6 → us.flatten[j * 6 + i]? = u[i]?
  | [], j, _, _, _, h, _ => by simp at h
  | x :: us, 0, i, u, h, hu, hi => by
    simp at hu
    subst hu
    rw [List.flatten_cons, List.getElem?_append_left (by rw [h x (by simp)]; omega)]; simp
  | x :: us, j + 1, i, u, h, hu, hi => by
    rw [List.flatten_cons, List.getElem?_append_right (by rw [h x (by simp)]; omega), h x (by simp), show (j + 1) * 6 + i - 6 = j * 6 + i by omega]
    exact flat6_get (fun y hy => h y (by simp [hy])) (by simpa using hu) hi
def RpsO (w : World) (lo hi : Nat) (v : Value) (us : List (List Value)) : Prop := RowO 31 6 w lo hi v us.length us.flatten
theorem RpsO.nil (w : World) (lo hi : Nat) : RpsO w lo hi (.slice none 0 0) [] := RowO.nil _ w lo hi
/-- the cells of one of them -/
theorem RpsO.at_ {w : World} {lo hi j : Nat} {v : Value} {us : List (List Value)} {u : List Value} (h : RpsO w lo hi v us) (h6 : ∀ u ∈ us, u.length = 6) (hj : us[j]? = some u) : ∃ g c, v = .slice (some ⟨g, 0, none⟩) us.length c ∧ lo ≤ g ∧ g < hi ∧ g < w.heap.size ∧ ∀ i y, u[i]? = some y → w.cell? ⟨g, j * 6 + i, none⟩ = some y := by
  have hjl := lt_of_some hj
  obtain ⟨g, c, cur, rfl, k1, k2, k3, _⟩ := RowO.at_ h (by omega)
  refine ⟨g, c, rfl, k1, k2, k3, fun i y hy => ?_⟩
  have hi : i < 6 := by rw [← h6 u (List.mem_of_getElem? hj)]; exact lt_of_some hy
  rw [h.1.cellAt (j * 6 + i) (by omega), flat6_get h6 hj hi, hy]
/-- append of a row of representations -/
theorem wpList_appRp {w : World} {ops : Array Oper} {rest : List Oper} {o : Oper} {a : Act} {Q : Exit → Act → World → Prop} (hgd : o.guard = none) (s x : Operand)
    (ho : o.op = .call { callee := .builtin .append, args := #[s, x], argTypes := #[79, 79] })
    (lo hi : Nat) (v : Value) (us us' : List (List Value)) (hs : a.eval s = v) (hown : RpsO w lo hi v us) (A : Option Addr) (m c : Nat) (hx : a.eval x = .slice A m c) (hm : us'.length = m) (hnews : NewsAt w A m us'.flatten 6) (h1 : ∀ u ∈ us', ∀ y ∈ u, y.oneCell' = true)
    (hn : us.length + m ≤ 1000000) (hlo : lo ≤ w.heap.size)
    (h : ∀ v' w', RpsO w' lo w'.heap.size v' (us ++ us') → AppT 31 lo w w' → wpList Try.prog ops Q rest (a.put o.dst v') w') : wpList Try.prog ops Q (o :: rest) a w := by
  obtain ⟨i0, hi', hz0, hz1, hz2⟩ := info_parts infoRp
  refine wpList_append_G w hgd s x _ ho lo 31 i0 _ 6 112 Try.underlying79 hi' hz0 hz1 hz2 rfl (by decide) v us.length _ hs hown.1 A m c us'.flatten hx hnews ?_ (by simp only [maxLen]; omega) (by omega) hlo fun v' w' h1 h2 h3 => ?_
  · intro y hy
    obtain ⟨u, hu, hy⟩ := List.mem_flatten.1 hy
    exact h1 u hu y hy
  · refine h v' w' ⟨?_, fun k hk => ?_, by simp; omega⟩ ⟨h2.os, h2.tape, h2.output, h2.size, fun k hk hks => h2.block k hks (fun e => ?_), fun g' t cs ht hb => hb.grown h2 (fun e => ?_)⟩
    · rw [List.flatten_append, List.length_append, hm]
      exact h1
    · exact (h1.lt k hk).2
    · have := (hown.1.lt k e.symm).1
      omega
    · rcases hown.1.2 with ⟨rfl, _⟩ | ⟨g2, cap, cur, rfl, _, hh, _⟩
      · simp [Value.ownBlock] at e
      · have : g' = g2 := by simpa [Value.ownBlock] using e
        subst this
        unfold Blk at hb
        rw [hh] at hb
        injection hb with hb
        injection hb with _ hb
        exact ht hb.symm
end Go.Proofs.Ytcmlflppndfdcaa

/- The program's sumOrZero. -/
namespace Go.Proofs.Ytcmlflppndfdcaa
set_option linter.unusedVariables false
set_option linter.unusedSimpArgs false
open Go.RowKit

theorem repl_rowF (V : Nat) : List.replicate V (0 : Int) = rowF V fun _ => 0 := by
  symm
  rw [List.eq_replicate_iff]
  refine ⟨rowF_length _ _, fun x hx => ?_⟩
  simp only [rowF, List.mem_map] at hx
  obtain ⟨_, _, rfl⟩ := hx
  rfl
def ivR (p : Int) (q : Qv) (x : Nat × Nat) : Rp := rpF p q (ivN x.1 x.2) fun _ _ _ => 1
theorem smO_le {q : Qv} {L : List (Nat × Nat)} (h : smO q L = true) (v : Nat) (hv : v < q.v.toNat) : (smS q L).1 v ≤ 4 := by
  have := (areDims_t.1 h).2.2.1 _ (List.mem_of_getElem? (rowF_get (fun v => (((smS q L).1 v : Nat) : Int)) hv))
  omega
theorem ivN_le (a b v : Nat) : ivN a b v ≤ 4 := by unfold ivN; split <;> omega
def smP (p : Int) (q : Qv) (L : List (Nat × Nat)) : Rp × Bool := if smO q L then (smR p q L, true) else (rp0, false)
theorem smP_bad {p : Int} {q : Qv} {L : List (Nat × Nat)} {k : Nat} (h : smO q (L.take k) = false) : smP p q L = (rp0, false) := by
  have : smO q L = false := by
    rcases hh : smO q L with _ | _
    · rfl
    · rw [← List.take_append_drop k L] at hh
      rw [smO_take _ hh] at h
      cases h
  simp [smP, this]
theorem smR_form (p : Int) (q : Qv) (L : List (Nat × Nat)) : (smR p q L).p = p ∧ (smR p q L).q = q ∧ (smR p q L).d.length = q.v.toNat ∧ (smR p q L).m.length = q.f.length := ⟨rfl, rfl, rowF_length _ _, msF_length _ _⟩
theorem smR_six {w : World} {lo hi : Nat} {v : Value} {p : Int} {q : Qv} {L : List (Nat × Nat)} (h : RepO w lo hi v (smR p q L)) : ∃ A a C c E e H k, v = .agg #[.int .i64 p, .int .i64 q.v, .slice A q.f.length a, .slice C q.t.length c, .slice E q.v.toNat e, .slice H q.f.length k] := by
  obtain ⟨A, a, C, c, E, e, H, k, rfl⟩ := h.form
  obtain ⟨e1, e2, e3, e4⟩ := smR_form p q L
  rw [e1, e2, e3, e4]
  exact ⟨A, a, C, c, E, e, H, k, rfl⟩

set_option maxHeartbeats 6400000 in
set_option maxRecDepth 100000 in
theorem sumOrZero_any (p : Int) (u : Value) (q : Qv) (v : Value) (us : List (List Value)) (L : List (Nat × Nat)) (lo hi : Nat) (w0 : World) (hp : isFld p = true) (hq : isQ q = true) (hu : QvR w0 w0.heap.size u q) (hv : RpsO w0 lo hi v us) (hc : RpsC w0 us (L.map (ivR p q))) (hn : L.length ≤ 1000000) :
    Calls Try.prog 58 #[.int .i64 p, u, v] w0 fun e w' => ∃ r, e = .returned (.tuple #[r, .bool (smP p q L).2]) ∧ RepO w' w0.heap.size w'.heap.size r (smP p q L).1 ∧ Below w0.heap.size w0 w' := by
  have hu' := hu
  have hI : I64 p := by have := isFld_two hp; simp only [I64]; omega
  obtain ⟨A, c, C, c', rfl, _, _, hr, lf, lt⟩ := hu.open_
  obtain ⟨LA, lc, rfl, _, _⟩ := RowO.form hv
  obtain ⟨W, hW⟩ : ∃ W, W = (w0.alloc (.cells #[.int .i64 q.v, .slice A q.f.length c, .slice C q.t.length c'] 28)).alloc (.cells #[.int .i64 0, .int .i64 0, .slice none 0 0, .slice none 0 0, .slice none 0 0, .slice none 0 0] 31) := ⟨_, rfl⟩
  have g0 : Below w0.heap.size w0 W := by rw [hW]; exact ((Below.refl _ _).alloc (Nat.le_refl _) _).alloc (by simp) _
  have k1 : Blk W w0.heap.size 28 #[.int .i64 q.v, .slice A q.f.length c, .slice C q.t.length c'] := by rw [hW]; exact (Blk.new _ _ _).alloc _
  have k2 : Blk W (w0.heap.size + 1) 31 #[.int .i64 0, .int .i64 0, .slice none 0 0, .slice none 0 0, .slice none 0 0, .slice none 0 0] := by
    rw [hW]
    have := Blk.new (w0.alloc (.cells #[.int .i64 q.v, .slice A q.f.length c, .slice C q.t.length c'] 28)) 31 #[.int .i64 0, .int .i64 0, .slice none 0 0, .slice none 0 0, .slice none 0 0, .slice none 0 0]
    simpa only [World.size_alloc] using this
  have sz : W.heap.size = w0.heap.size + 1 + 1 := by rw [hW]; simp
  have hv5 := (isQ_t.1 hq).1
  have hmk : ∀ w : World, (Instr.makeSlice 22 (.int .i64 q.v) (.int .i64 q.v)).run Try.prog w = .ok (.slice (some ⟨w.heap.size, 0, none⟩) q.v.toNat q.v.toNat) (w.alloc (.cells (mkCells (.int .i64 0) q.v.toNat) 3)) := fun w => by
    have := run_mkI w (n := q.v.toNat) (by omega)
    rwa [Int.toNat_of_nonneg (by omega)] at this
  have HUL := Lib.hid hc.1
  have HS6 := Lib.hid hc.six
  have HV := Lib.hid (RowO.below hv g0)
  have HC := Lib.hid (hc.below g0)
  have HQV := Lib.hid (QvR.next g0 hu')
  have SZ := Lib.hid sz
  have HQ := Lib.hid hq
  have HP := Lib.hid hp
  have G0 := Lib.hid g0
  have K2 := Lib.hid k2
  obtain ⟨ul, hul⟩ : ∃ n, us.length = n := ⟨_, rfl⟩
  have HU := Lib.hid hul
  have hulL : ul = L.length := by rw [← hul, hc.1, List.length_map]
  rw [hul]
  subst hulL
  clear hv hc hu' sz hq hp k2 g0 hul
  go_enter Try.func58, Try.ntmps58
  go_wp2
  rw [← hW]; clear hW
  refine wp_region_net (by kernel_rfl) [.eq (.int .i64 p), .eq (.agg #[.int .i64 q.v, .slice A q.f.length c, .slice C q.t.length c']), .eq (.pointer (some ⟨w0.heap.size, 0, none⟩)), .eq (.int .i64 q.v), rel 4 (fun u lo hi w => IntsO w lo hi u (List.replicate q.v.toNat 0)), rel 5 (fun u lo hi w => RepO w lo hi u (smR p q [])), rel 6 (fun u lo hi w => ∃ g, u = .pointer (some ⟨g, 0, none⟩) ∧ (lo ≤ g ∧ g < hi) ∧ Blk w g 31 #[.int .i64 0, .int .i64 0, .slice none 0 0, .slice none 0 0, .slice none 0 0, .slice none 0 0])] [[], [], [], [2], [2, 3], [0, 1, 2, 3, 4], [], [0, 1, 2, 3, 4, 5, 6]] 7 (by kernel_rfl) ⟨trivial, trivial, trivial, trivial, rel_stable (fun u lo hi w w' h hb => h.below hb), rel_stable (fun u lo hi w w' h hb => h.below hb), rel_stable (fun u lo hi w w' ⟨g, e, h1, h⟩ hb => ⟨g, e, h1, h.call hb⟩), trivial⟩ ⟨?_, ?_, ?_, ?_, ?_, ?_, ?_, trivial⟩ ?_
  · intro x w hb hk Q' hQ
    clear hk
    simp only [netAct, dstAt, List.getElem?_toArray, List.getElem?_cons_zero, List.getElem?_cons_succ, Option.bind_some, Act.put, List.setIfInBounds_toArray, List.set_cons_zero, List.set_cons_succ] at hQ ⊢
    go_wp2
    exact hQ (.int .i64 p) _ (Below.refl _ _) rfl
  · intro x w hb hk Q' hQ
    clear hk
    simp only [netAct, dstAt, List.getElem?_toArray, List.getElem?_cons_zero, List.getElem?_cons_succ, Option.bind_some, Act.put, List.setIfInBounds_toArray, List.set_cons_zero, List.set_cons_succ] at hQ ⊢
    have z0 := (k1.call hb).cell' (i := 0) rfl
    have z1 := (k1.call hb).cell' (i := 1) rfl
    have z2 := (k1.call hb).cell' (i := 2) rfl
    go_wp2
    exact hQ (.agg #[.int .i64 q.v, .slice A q.f.length c, .slice C q.t.length c']) _ (Below.refl _ _) rfl
  · intro x w hb hk Q' hQ
    clear hk
    simp only [netAct, dstAt, List.getElem?_toArray, List.getElem?_cons_zero, List.getElem?_cons_succ, Option.bind_some, Act.put, List.setIfInBounds_toArray, List.set_cons_zero, List.set_cons_succ] at hQ ⊢
    go_wp2
    exact hQ (.pointer (some ⟨w0.heap.size, 0, none⟩)) _ (Below.refl _ _) rfl
  · intro x w hb hk Q' hQ
    have h2 : x.v 2 = .pointer (some ⟨w0.heap.size, 0, none⟩) := (hk 2 (by decide)).1
    clear hk
    simp only [netAct, dstAt, List.getElem?_toArray, List.getElem?_cons_zero, List.getElem?_cons_succ, Option.bind_some, Act.put, List.setIfInBounds_toArray, List.set_cons_zero, List.set_cons_succ] at hQ ⊢
    simp only [h2] at hQ ⊢
    clear h2
    have z0 := (k1.call hb).cell' (i := 0) rfl
    go_wp2
    exact hQ (.int .i64 q.v) _ (Below.refl _ _) rfl
  · intro x w hb hk Q' hQ
    have h2 : x.v 2 = .pointer (some ⟨w0.heap.size, 0, none⟩) := (hk 2 (by decide)).1
    have h3 : x.v 3 = .int .i64 q.v := (hk 3 (by decide)).1
    clear hk
    simp only [netAct, dstAt, List.getElem?_toArray, List.getElem?_cons_zero, List.getElem?_cons_succ, Option.bind_some, Act.put, List.setIfInBounds_toArray, List.set_cons_zero, List.set_cons_succ] at hQ ⊢
    simp only [h2, h3] at hQ ⊢
    clear h2 h3
    have hm := hmk w
    go_wp2
    exact hQ _ _ (below_alloc _ _) (IntsO.of_own (OwnI.made0 (Nat.le_refl _) (by omega)))
  · intro x w hb hk Q' hQ
    have h0 : x.v 0 = .int .i64 p := (hk 0 (by decide)).1
    have h1 : x.v 1 = .agg #[.int .i64 q.v, .slice A q.f.length c, .slice C q.t.length c'] := (hk 1 (by decide)).1
    have h2 : x.v 2 = .pointer (some ⟨w0.heap.size, 0, none⟩) := (hk 2 (by decide)).1
    have h3 : x.v 3 = .int .i64 q.v := (hk 3 (by decide)).1
    have h4 : IntsO w (x.lo 4) (x.hi 4) (x.v 4) (List.replicate q.v.toNat 0) := (hk 4 (by decide)).1
    have s4 := (hk 4 (by decide)).2
    clear hk
    simp only [netAct, dstAt, List.getElem?_toArray, List.getElem?_cons_zero, List.getElem?_cons_succ, Option.bind_some, Act.put, List.setIfInBounds_toArray, List.set_cons_zero, List.set_cons_succ] at hQ ⊢
    simp only [h0, h1, h2, h3] at hQ ⊢
    clear h0 h1 h2 h3
    have H4 := Lib.hid h4.rd
    rw [repl_rowF] at H4
    obtain ⟨A4, c4, e4⟩ := h4.form
    rw [List.length_replicate] at e4
    rw [e4] at H4 hQ ⊢
    go_wp2_with fail
    refine (zeroRep_any p _ _ q (rowF q.v.toNat fun _ => 0) _ hI (QvR.next hb HQV.out) H4.out (smO_nil HQ.out)).mono ?_; rintro e w7 ⟨v7, rfl, ho, hb7⟩
    rw [← smR_nil] at ho
    go_wp2
    exact hQ _ _ hb7 ho
  · intro x w hb hk Q' hQ
    clear hk
    simp only [netAct, dstAt, List.getElem?_toArray, List.getElem?_cons_zero, List.getElem?_cons_succ, Option.bind_some, Act.put, List.setIfInBounds_toArray, List.set_cons_zero, List.set_cons_succ] at hQ ⊢
    go_wp2
    exact hQ _ _ (below_alloc _ _) ⟨_, rfl, ⟨Nat.le_refl _, by show w.heap.size < (w.alloc _).heap.size; simp⟩, Blk.new _ _ _⟩
  · intro x w hb hk hiv hdj
    have h0 : x.v 0 = .int .i64 p := hk 0 (by decide)
    have h1 : x.v 1 = .agg #[.int .i64 q.v, .slice A q.f.length c, .slice C q.t.length c'] := hk 1 (by decide)
    have h2 : x.v 2 = .pointer (some ⟨w0.heap.size, 0, none⟩) := hk 2 (by decide)
    have h3 : x.v 3 = .int .i64 q.v := hk 3 (by decide)
    have h4 : IntsO w (x.lo 4) (x.hi 4) (x.v 4) (List.replicate q.v.toNat 0) := hk 4 (by decide)
    have h5 : RepO w (x.lo 5) (x.hi 5) (x.v 5) (smR p q []) := hk 5 (by decide)
    have h6 : ∃ g, (x.v 6) = .pointer (some ⟨g, 0, none⟩) ∧ ((x.lo 6) ≤ g ∧ g < (x.hi 6)) ∧ Blk w g 31 #[.int .i64 0, .int .i64 0, .slice none 0 0, .slice none 0 0, .slice none 0 0, .slice none 0 0] := hk 6 (by decide)
    clear hk
    simp only [netAct, dstAt, List.getElem?_toArray, List.getElem?_cons_zero, List.getElem?_cons_succ, Option.bind_some, Act.put, List.setIfInBounds_toArray, List.set_cons_zero, List.set_cons_succ]
    simp only [List.drop_succ_cons, List.drop_zero, h0, h1, h2, h3]
    clear h0 h1 h2 h3
    obtain ⟨gO, e6, hgO, hBO⟩ := h6
    have i5 := hiv 5 (by decide)
    have i6 := hiv 6 (by decide)
    have d56 := hdj 5 6 (by decide) (by decide) (by decide)
    obtain ⟨A1, a1, C1, c1, E1, e1, H1, h1, e5⟩ := smR_six h5
    rw [e5] at h5 ⊢
    rw [e6]
    have fr := hBO.frozen
    have r0 := hBO.cell' (i := 0) rfl
    have r1 := hBO.cell' (i := 1) rfl
    have r2 := hBO.cell' (i := 2) rfl
    have r3 := hBO.cell' (i := 3) rfl
    have r4 := hBO.cell' (i := 4) rfl
    have r5 := hBO.cell' (i := 5) rfl
    have hbs := hb.size
    have gOl := hBO.lt
    obtain ⟨W3, hW3⟩ : ∃ W3, (((((w.setCell ⟨gO, 0, none⟩ (.int .i64 p)).setCell ⟨gO, 1, none⟩ (.int .i64 q.v)).setCell ⟨gO, 2, none⟩ (.slice A1 q.f.length a1)).setCell ⟨gO, 3, none⟩ (.slice C1 q.t.length c1)).setCell ⟨gO, 4, none⟩ (.slice E1 q.v.toNat e1)).setCell ⟨gO, 5, none⟩ (.slice H1 q.f.length h1) = W3 := ⟨_, rfl⟩
    have hB3 : Blk W3 gO 31 #[.int .i64 p, .int .i64 q.v, .slice A1 q.f.length a1, .slice C1 q.t.length c1, .slice E1 q.v.toNat e1, .slice H1 q.f.length h1] := by
      rw [← hW3]
      exact (((((hBO.set_ 0 _).set_ 1 _).set_ 2 _).set_ 3 _).set_ 4 _).set_ 5 _
    have hCh : Chg gO (gO + 1) w W3 := by
      rw [← hW3]
      exact chg6 _ _ _ _ _ _ _ _
    have hs3 : W3.heap.size = w.heap.size := by rw [← hW3]; simp
    have hR3 : RepO W3 W.heap.size W3.heap.size (.agg #[.int .i64 p, .int .i64 q.v, .slice A1 q.f.length a1, .slice C1 q.t.length c1, .slice E1 q.v.toNat e1, .slice H1 q.f.length h1]) (smR p q (L.take 0)) := by
      rw [hs3, List.take_zero]
      exact (h5.chg hCh (by omega)).wider i5.1 i5.2.2
    have gW3 : Below W.heap.size W W3 := hb.trans (hCh.below (by omega) (by omega))
    have sg3 : gO < W3.heap.size := by omega
    have hgO2 : W.heap.size ≤ gO := by omega
    clear hiv hdj h4 h5 e5 e6 i5 i6 d56 hBO hCh hs3 hb k1 hmk
    go_wp2
    clear hW3
    go_loopw [19] (fun i wr => ∃ (k : Nat) (A1 : Option Addr) (a1 : Nat) (C1 : Option Addr) (c1 : Nat) (E1 : Option Addr) (e1 : Nat) (H1 : Option Addr) (h1 : Nat), k ≤ L.length ∧ i = .int .i64 k ∧ Below W.heap.size W wr ∧ gO < wr.heap.size ∧
      Blk wr gO 31 #[.int .i64 p, .int .i64 q.v, .slice A1 q.f.length a1, .slice C1 q.t.length c1, .slice E1 q.v.toNat e1, .slice H1 q.f.length h1] ∧
      RepO wr W.heap.size wr.heap.size (.agg #[.int .i64 p, .int .i64 q.v, .slice A1 q.f.length a1, .slice C1 q.t.length c1, .slice E1 q.v.toNat e1, .slice H1 q.f.length h1]) (smR p q (L.take k)) ∧ smO q (L.take k) = true) (fun i _ => L.length - (intOf i).toNat)
    case atStart => exact ⟨0, A1, a1, C1, c1, E1, e1, H1, h1, Nat.zero_le _, rfl, gW3, sg3, hB3, hR3, smO_nil HQ.out⟩
    case round =>
      clear gW3 sg3 hB3 hR3 r0 r1 r2 r3 r4 r5 fr
      obtain ⟨k, A1, a1, C1, c1, E1, e1, H1, h1, hk, rfl, gW, sg, hB, hR, hok⟩ := hrel
      have gws := gW.size
      have HOK := Lib.hid hok
      clear hok
      by_cases hlt : k < L.length
      · obtain ⟨⟨xa, xb⟩, hx⟩ : ∃ x, L[k]? = some x := ⟨_, List.getElem?_eq_getElem hlt⟩
        have HX := Lib.hid hx
        have hul : k < us.length := by have := HU.out; omega
        obtain ⟨cu, hcu⟩ : ∃ cu, us[k]? = some cu := ⟨_, List.getElem?_eq_getElem hul⟩
        have hel : RepO W 0 W.heap.size (.agg cu.toArray) (ivR p q (xa, xb)) := HC.out.2 k cu _ hcu (by rw [List.getElem?_map, hx]; rfl)
        obtain ⟨gL, cL, eL, _, _, hgL, hcell⟩ := RpsO.at_ (w := W) (lo := lo) (hi := hi) (us := us) HV.out (fun u hu => (HS6.out u hu).1) hcu
        injection eL with eL1 _ eL2
        subst eL1 eL2
        obtain ⟨A2, a2, C2, c2, E2, e2, H2, h2, hcu6⟩ := hel.six
        have q1 : (ivR p q (xa, xb)).p = p := rfl
        have q2 : (ivR p q (xa, xb)).q = q := rfl
        have q3 : (ivR p q (xa, xb)).d.length = q.v.toNat := rowF_length _ _
        have q4 : (ivR p q (xa, xb)).m.length = q.f.length := msF_length _ _
        rw [q1, q2, q3, q4] at hcu6
        clear q1 q2 q3 q4 hx hcu
        subst hcu6
        have u0 := bcell gW hgL (hcell 0 _ rfl)
        have u1 := bcell gW hgL (hcell 1 _ rfl)
        have u2 := bcell gW hgL (hcell 2 _ rfl)
        have u3 := bcell gW hgL (hcell 3 _ rfl)
        have u4 := bcell gW hgL (hcell 4 _ rfl)
        have u5 := bcell gW hgL (hcell 5 _ rfl)
        simp only [Nat.add_zero] at u0
        have gwa := below_alloc wr (.cells #[.int .i64 p, .int .i64 q.v, .slice A2 q.f.length a2, .slice C2 q.t.length c2, .slice E2 q.v.toNat e2, .slice H2 q.f.length h2] 31)
        have kM := Blk.new wr 31 #[.int .i64 p, .int .i64 q.v, .slice A2 q.f.length a2, .slice C2 q.t.length c2, .slice E2 q.v.toNat e2, .slice H2 q.f.length h2]
        obtain ⟨W5, hW5⟩ : ∃ W5, wr.alloc (.cells #[.int .i64 p, .int .i64 q.v, .slice A2 q.f.length a2, .slice C2 q.t.length c2, .slice E2 q.v.toNat e2, .slice H2 q.f.length h2] 31) = W5 := ⟨_, rfl⟩
        have s5 : W5.heap.size = wr.heap.size + 1 := by rw [← hW5]; simp
        rw [hW5] at gwa kM
        have gW5 := gW.trans (gwa.mono gws)
        have kO5 := hB.call gwa
        have HR5 := Lib.hid ((hR.below gwa).rd)
        have HE5 := Lib.hid ((hel.below gW5).rd)
        have o0 := kO5.cell' (i := 0) rfl
        have o1 := kO5.cell' (i := 1) rfl
        have o2 := kO5.cell' (i := 2) rfl
        have o3 := kO5.cell' (i := 3) rfl
        have o4 := kO5.cell' (i := 4) rfl
        have o5 := kO5.cell' (i := 5) rfl
        have m0 := kM.cell' (i := 0) rfl
        have m1 := kM.cell' (i := 1) rfl
        have m2 := kM.cell' (i := 2) rfl
        have m3 := kM.cell' (i := 3) rfl
        have m4 := kM.cell' (i := 4) rfl
        have m5 := kM.cell' (i := 5) rfl
        clear hR hB hel hcell gwa gW kM
        have KO5 := Lib.hid kO5
        have GW5 := Lib.hid gW5
        clear kO5 gW5
        go_wp2_with fail
        clear hW5
        refine (directSum_any _ _ p q (smS q (L.take k)).1 (ivN xa xb) (smS q (L.take k)).2 (fun _ _ _ => 1) _ HR5.out HE5.out HQ.out (smO_le HOK.out) (fun v _ => ivN_le xa xb v)).mono ?_; rintro e w6 ⟨v6, rfl, ho, hb6⟩
        have hsn := smR_snoc p q (L.take k) (xa, xb)
        rw [← take_snoc HX.out] at hsn
        simp only at hsn
        rw [← hsn] at ho
        clear hsn
        obtain ⟨A3, a3, C3, c3, E3, e3, H3, h3, rfl⟩ := smR_six ho
        have kO6 := KO5.out.call hb6
        have fr := kO6.frozen
        have o0 := kO6.cell' (i := 0) rfl
        have o1 := kO6.cell' (i := 1) rfl
        have o2 := kO6.cell' (i := 2) rfl
        have o3 := kO6.cell' (i := 3) rfl
        have o4 := kO6.cell' (i := 4) rfl
        have o5 := kO6.cell' (i := 5) rfl
        have g6 := GW5.out.trans (hb6.mono GW5.out.size)
        have hb6s := hb6.size
        have g6s := g6.size
        obtain ⟨W7, hW7⟩ : ∃ W7, (((((w6.setCell ⟨gO, 0, none⟩ (.int .i64 p)).setCell ⟨gO, 1, none⟩ (.int .i64 q.v)).setCell ⟨gO, 2, none⟩ (.slice A3 q.f.length a3)).setCell ⟨gO, 3, none⟩ (.slice C3 q.t.length c3)).setCell ⟨gO, 4, none⟩ (.slice E3 q.v.toNat e3)).setCell ⟨gO, 5, none⟩ (.slice H3 q.f.length h3) = W7 := ⟨_, rfl⟩
        have hB7 : Blk W7 gO 31 #[.int .i64 p, .int .i64 q.v, .slice A3 q.f.length a3, .slice C3 q.t.length c3, .slice E3 q.v.toNat e3, .slice H3 q.f.length h3] := by
          rw [← hW7]
          exact (((((kO6.set_ 0 _).set_ 1 _).set_ 2 _).set_ 3 _).set_ 4 _).set_ 5 _
        have hCh : Chg gO (gO + 1) w6 W7 := by
          rw [← hW7]
          exact chg6 _ _ _ _ _ _ _ _
        have hs7 : W7.heap.size = w6.heap.size := by rw [← hW7]; simp
        have hR7 : RepO W7 W.heap.size W7.heap.size (.agg #[.int .i64 p, .int .i64 q.v, .slice A3 q.f.length a3, .slice C3 q.t.length c3, .slice E3 q.v.toNat e3, .slice H3 q.f.length h3]) (smR p q (L.take (k + 1))) := by
          rw [hs7]
          exact (ho.chg hCh (.inr (by omega))).wider (by omega) (Nat.le_refl _)
        have gW7 : Below W.heap.size W W7 := g6.trans (hCh.below (by omega) (by omega))
        have sg7 : gO < W7.heap.size := by omega
        have HR7 := Lib.hid hR7
        have GW7 := Lib.hid gW7
        have HB7 := Lib.hid hB7
        have t0 := hB7.cell' (i := 0) rfl
        have t1 := hB7.cell' (i := 1) rfl
        have t2 := hB7.cell' (i := 2) rfl
        have t3 := hB7.cell' (i := 3) rfl
        have t4 := hB7.cell' (i := 4) rfl
        have t5 := hB7.cell' (i := 5) rfl
        clear hR7 gW7 hB7 hCh ho kO6 g6 hb6 m0 m1 m2 m3 m4 m5 u0 u1 u2 u3 u4 u5
        go_wp2_with fail
        clear hW7 o0 o1 o2 o3 o4 o5 fr
        have hir := smR_rep HP.out HQ.out (L.take (k + 1))
        refine (implIsRep_any _ (smR p q (L.take (k + 1))) _ HR7.out.rd).mono ?_; rintro e w8 ⟨rfl, hb8⟩
        rw [hir]
        clear hir t0 t1 t2 t3 t4 t5
        have g8 := GW7.out.trans (hb8.mono GW7.out.size)
        have hb8s := hb8.size
        have HB8 := Lib.hid (HB7.out.call hb8)
        have HR8 := Lib.hid ((HR7.out.below hb8).wider (Nat.le_refl _) hb8s)
        have GW8 := Lib.hid g8
        clear g8 hb8
        rcases hk1 : smO q (L.take (k + 1)) with _ | _
        · have HE := Lib.hid (smP_bad (p := p) hk1)
          have kz := K2.out.call GW8.out
          have fr := kz.frozen
          have s0 := kz.cell' (i := 0) rfl
          have s1 := kz.cell' (i := 1) rfl
          have s2 := kz.cell' (i := 2) rfl
          have s3 := kz.cell' (i := 3) rfl
          have s4 := kz.cell' (i := 4) rfl
          have s5 := kz.cell' (i := 5) rfl
          have sz := SZ.out
          have gf := G0.out.trans (GW8.out.mono G0.out.size)
          clear hk1 kz
          go_wp2
          have hE := HE.out
          exact bodyPost_ret (v := .tuple #[.agg #[.int .i64 0, .int .i64 0, .slice none 0 0, .slice none 0 0, .slice none 0 0, .slice none 0 0], .bool false]) (by simp [results, go_sem, s0, s1, s2, s3, s4, s5]) rfl ⟨_, by rw [hE], by rw [hE]; exact RepO.zero _ _ _, (((((gf.setCell (by simp) _).setCell (by simp) _).setCell (by simp) _).setCell (by simp) _).setCell (by simp) _).setCell (by simp) _⟩
        · have HK1 := Lib.hid hk1
          clear hk1
          go_wp2
          go_roundw
          case rel => exact ⟨k + 1, A3, a3, C3, c3, E3, e3, H3, h3, by omega, by go_num, GW8.out, by omega, HB8.out, HR8.out, HK1.out⟩
          case measure => simp [intOf]; omega
      · obtain rfl : k = L.length := by omega
        rw [List.take_length] at hR
        have hE : smP p q L = (smR p q L, true) := by have := HOK.out; rw [List.take_length] at this; simp [smP, this]
        have HE := Lib.hid hE
        have kz := K2.out.call gW
        have fr := kz.frozen
        have s0 := kz.cell' (i := 0) rfl
        have s1 := kz.cell' (i := 1) rfl
        have s2 := kz.cell' (i := 2) rfl
        have s3 := kz.cell' (i := 3) rfl
        have s4 := kz.cell' (i := 4) rfl
        have s5 := kz.cell' (i := 5) rfl
        have r0 := hB.cell' (i := 0) rfl
        have r1 := hB.cell' (i := 1) rfl
        have r2 := hB.cell' (i := 2) rfl
        have r3 := hB.cell' (i := 3) rfl
        have r4 := hB.cell' (i := 4) rfl
        have r5 := hB.cell' (i := 5) rfl
        have sz := SZ.out
        have gf := G0.out.trans (gW.mono G0.out.size)
        have hc := chg6 wr (w0.heap.size + 1) (.int .i64 p) (.int .i64 q.v) (.slice A1 q.f.length a1) (.slice C1 q.t.length c1) (.slice E1 q.v.toNat e1) (.slice H1 q.f.length h1)
        have OF := Lib.hid ((hR.chg hc (.inr (by omega))).wider (lo' := w0.heap.size) (hi' := wr.heap.size) (by omega) (Nat.le_refl _))
        have GF := Lib.hid (gf.trans (hc.below (by omega) gf.size))
        clear hR hB kz gf hc hE
        go_wp2
        have hE := HE.out
        exact bodyPost_ret (v := .tuple #[.agg #[.int .i64 p, .int .i64 q.v, .slice A1 q.f.length a1, .slice C1 q.t.length c1, .slice E1 q.v.toNat e1, .slice H1 q.f.length h1], .bool true]) (by simp [results, go_sem, s0, s1, s2, s3, s4, s5]) rfl ⟨_, by rw [hE], by rw [hE]; have := OF.out.wider (Nat.le_refl _) (Nat.le_refl _); simpa using this, GF.out⟩
end Go.Proofs.Ytcmlflppndfdcaa

/- slices.Repeat at []Rep, of one representation. -/
namespace Go.Proofs
open Go.Shelf
def Try.laysMul_ren : Go.Shelf.Ren := ⟨fun | 212 => 101 | 263 => 134 | 264 => 135 | n => n, fun | 46 => 108 | 51 => 130 | 146 => 131 | 53 => 133 | 148 => 134 | n => n, fun | n => n⟩
theorem Try.laysMul : Go.Proofs.Lays.n212 Try.prog Try.laysMul_ren := {
  mixed := by kernel_rfl
  f212 := Try.func101.trans (congrArg some (by kernel_rfl))
  f263 := Try.func134.trans (congrArg some (by kernel_rfl))
  f264 := Try.func135.trans (congrArg some (by kernel_rfl))
  t46 := Try.underlying108
  a46 := Try.isAgg108
  z46 := Try.sizeOf108
  v46 := Try.zeroValue108
  t51 := Try.underlying130
  a51 := Try.isAgg130
  z51 := Try.sizeOf130
  v51 := Try.zeroValue130
  t53 := Try.underlying133
  a53 := Try.isAgg133
  z53 := Try.sizeOf133
  v53 := Try.zeroValue133
  t146 := Try.underlying131
  a146 := Try.isAgg131
  z146 := Try.sizeOf131
  v146 := Try.zeroValue131
  t148 := Try.underlying134
  a148 := Try.isAgg134
  z148 := Try.sizeOf134
  v148 := Try.zeroValue134 }
end Go.Proofs
namespace Go.Proofs.Ytcmlflppndfdcaa
set_option linter.unusedVariables false
set_option linter.unusedSimpArgs false
open Go.RowKit

theorem bitsMulR_any (N : Nat) (hN : N ≤ 10) (w : World) :
    Calls Try.prog 101 #[.int .u64 1, .int .u64 N] w fun e w' => e = .returned (.tuple #[.int .u64 0, .int .u64 N]) ∧ w' = w := by
  have h := Any.bits_Mul Try.laysMul 1 N (by omega) (by omega) w
  rw [Nat.one_mul, Nat.div_eq_of_lt (by omega), Nat.mod_eq_of_lt (by omega)] at h
  exact h
theorem setRow_blkR {w : World} {g : Nat} {t : TypeId} {cs cs' : Array Value} (h : Blk w g t cs) : Blk (w.setRow g cs') g t cs' := setRow_heap w g cs cs' t (0, 0) h
theorem setRow_grownR (w : World) (g : Nat) (cs : Array Value) : w.grownBy (w.setRow g cs) (some g) := ⟨rfl, rfl, rfl, by simp, fun k _ hk => setRow_other w g k cs (fun e => hk (by rw [e]))⟩
theorem run_copy_rowS {P : Program} (w : World) (dT sT ty elem : TypeId) (sz g o dLen dCap : Nat) (a : Addr) (sLen sCap : Nat) (cur : Array Value) (t : TypeId) (cs : List Value)
    (hu : P.underlying dT = some (.slice elem)) (hs : (P.info? elem).map (·.size) = some sz)
    (hg : w.heap[g]? = some (.cells cur t (0, 0))) (hn : cs.length = Nat.min sLen dLen * sz)
    (hsrc : ∀ j v, cs[j]? = some v → w.cell? (a.add j) = some v) (hfit : o + cs.length ≤ cur.size) (h1 : ∀ v ∈ cs, v.oneCell' = true) :
    (Builtin.copy_ #[dT, sT] ty #[.slice (some ⟨g, o, none⟩) dLen dCap, .slice (some a) sLen sCap]).run P w =
      .ok (goInt (Nat.min sLen dLen)) (w.setRow g (cur.toList.take o ++ cs ++ cur.toList.drop (o + cs.length)).toArray) := by
  have hl := run_loadCells_list (P := P) w a cs hsrc
  have hst := run_storeCells_at P g o t cs 0 cur w hg (by simpa using hfit) h1
  cases hq : P.info? elem with
  | none => simp [hq] at hs
  | some i =>
    have hi : i.size = sz := by simpa [hq] using hs
    simp [Builtin.copy_, run_underlying hu, Builtin.lenOf, Builtin.firstCells, sizeOf, typeInfo, hq, hi, ← hn, hl, hst]
def zRpC : List Value := [.int .i64 0, .int .i64 0, .slice none 0 0, .slice none 0 0, .slice none 0 0, .slice none 0 0]
/-- the cells behind j of N -/
def rpK (cs : List Value) (N j : Nat) : Array Value := ((List.replicate j cs).flatten ++ (List.replicate (N - j) zRpC).flatten).toArray
theorem rep6_length {cs : List Value} (h : cs.length = 6) (j : Nat) : (List.replicate j cs).flatten.length = j * 6 := by
  have := flat6_length (us := List.replicate j cs) fun u hu => by obtain ⟨_, rfl⟩ := List.mem_replicate.1 hu; exact h
  rwa [List.length_replicate] at this
theorem zRpC_get : ∀ k : Nat, k < 6 → zRpC[k]? = some ((#[Value.int .i64 0, .int .i64 0, .slice none 0 0, .slice none 0 0, .slice none 0 0, .slice none 0 0] : Array Value)[k]!)
  | 0, _ => rfl
  | 1, _ => rfl
  | 2, _ => rfl
  | 3, _ => rfl
  | 4, _ => rfl
  | 5, _ => rfl
  | k + 6, h => by omega
theorem rpK_0 (cs : List Value) {N : Nat} (_ : N ≤ 8) : rpK cs N 0 = mkCells (.agg #[.int .i64 0, .int .i64 0, .slice none 0 0, .slice none 0 0, .slice none 0 0, .slice none 0 0]) (N * 6) := by
  apply Array.toList_inj.1
  have hl : (mkCells (.agg #[.int .i64 0, .int .i64 0, .slice none 0 0, .slice none 0 0, .slice none 0 0, .slice none 0 0]) (N * 6)).toList.length = N * 6 := by rw [Array.length_toList, mkCells_size]
  have hz := rep6_length (cs := zRpC) rfl N
  apply List.ext_getElem?
  intro i
  simp only [rpK, List.replicate_zero, List.flatten_nil, List.nil_append, Nat.sub_zero]
  by_cases hi : i < N * 6
  · have e : i = i / 6 * 6 + i % 6 := by omega
    have h1 := flat6_get (us := List.replicate N zRpC) (j := i / 6) (i := i % 6) (u := zRpC) (fun u hu => by obtain ⟨_, rfl⟩ := List.mem_replicate.1 hu; rfl) (by rw [List.getElem?_replicate, if_pos (by omega)]) (by omega)
    rw [← e] at h1
    rw [h1, zRpC_get _ (by omega)]
    simp only [mkCells, madeCells, Value.cells, Array.toList_map, Array.toList_range, List.getElem?_map, List.getElem?_range hi, Option.map_some]
    rfl
  · rw [List.getElem?_eq_none (by omega), List.getElem?_eq_none (by omega)]
theorem rpK_size {cs : List Value} (h : cs.length = 6) {N j : Nat} (hj : j ≤ N) : (rpK cs N j).size = N * 6 := by
  simp only [rpK, List.size_toArray, List.length_append]
  rw [rep6_length h, rep6_length rfl]; omega
theorem rep6_cat (cs : List Value) (j k : Nat) : (List.replicate j cs).flatten ++ (List.replicate k cs).flatten = (List.replicate (j + k) cs).flatten := by
  rw [← List.flatten_append, List.replicate_append_replicate]
theorem rpK_copy {cs : List Value} (h : cs.length = 6) {N j k : Nat} (hj : j + k ≤ N) : ((rpK cs N j).toList.take (j * 6) ++ (List.replicate k cs).flatten ++ (rpK cs N j).toList.drop (j * 6 + k * 6)).toArray = rpK cs N (j + k) := by
  apply Array.toList_inj.1
  simp only [rpK]
  rw [List.take_left' (rep6_length h j), ← List.drop_drop, List.drop_left' (rep6_length h j), rep6_cat, show N - j = k + (N - (j + k)) by omega, ← rep6_cat zRpC, List.drop_left' (rep6_length rfl k)]
theorem rpK_cell {cs : List Value} (h : cs.length = 6) {N j i : Nat} (hi : i < j * 6) : (rpK cs N j)[i]? = (List.replicate j cs).flatten[i]? := by
  simp only [rpK, List.getElem?_toArray]
  rw [List.getElem?_append_left (by rw [rep6_length h]; exact hi)]
theorem rep6_pre {cs : List Value} (h : cs.length = 6) {j k i : Nat} (hk : k ≤ j) (hi : i < k * 6) : (List.replicate j cs).flatten[i]? = (List.replicate k cs).flatten[i]? := by
  rw [show j = k + (j - k) by omega, ← rep6_cat, List.getElem?_append_left (by rw [rep6_length h]; exact hi)]
theorem rep6_one {cs : List Value} (h1 : ∀ v ∈ cs, v.oneCell' = true) (k : Nat) : ∀ v ∈ (List.replicate k cs).flatten, v.oneCell' = true := fun v hv => by
  obtain ⟨u, hu, hv⟩ := List.mem_flatten.1 hv
  rw [(List.mem_replicate.1 hu).2] at hv
  exact h1 v hv
set_option maxRecDepth 100000 in
set_option maxHeartbeats 1600000 in
theorem repeatR_any (b o c : Nat) (cs : List Value) (N : Nat) (w : World) (hb : b < w.heap.size) (hx : ∀ i y, cs[i]? = some y → w.cell? ⟨b, o + i, none⟩ = some y) (h6 : cs.length = 6) (h1 : ∀ y ∈ cs, y.oneCell' = true) (hc : 1 ≤ c) (hp : 1 ≤ N) (hN : N ≤ 8) :
    Calls Try.prog 57 #[.slice (some ⟨b, o, none⟩) 1 c, .int .i64 N] w fun e w' => ∃ g, e = .returned (.slice (some ⟨g, 0, none⟩) N N) ∧ Blk w' g 31 (rpK cs N N) ∧ w.heap.size ≤ g ∧ Below w.heap.size w w' := by
  obtain ⟨i0, hi, hz0, hz1, hz2⟩ := info_parts infoRp
  have hsz : (Try.prog.info? 31).map (·.size) = some 6 := by rw [hi]; simp [hz1]
  have hmk := run_mk (P := Try.prog) Try.underlying79 hi hz0 (n := N) (by rw [hz2]; omega) (by omega)
  rw [hz1, ← rpK_0 cs hN] at hmk
  clear hi hz0 hz1 hz2
  have hB0 : Blk (w.alloc (.cells (rpK cs N 0) 31)) w.heap.size 31 (rpK cs N 0) := Blk.new _ _ _
  have hw0 := below_alloc w (.cells (rpK cs N 0) 31)
  obtain ⟨W0, hW0⟩ : ∃ W0, w.alloc (.cells (rpK cs N 0) 31) = W0 := ⟨_, rfl⟩
  have hx0 : ∀ i y, cs[i]? = some y → W0.cell? ⟨b, o + i, none⟩ = some y := fun i y hy => by rw [← hW0]; exact bcell hw0 hb (hx i y hy)
  rw [hW0] at hB0 hw0
  have hcp := run_copy_rowS (P := Try.prog) W0 79 79 3 31 6 w.heap.size 0 N N ⟨b, o, none⟩ 1 c (rpK cs N 0) 31 cs Try.underlying79 hsz hB0 (by rw [h6, show Nat.min 1 N = 1 from Nat.min_eq_left hp])
    (fun j v hj => by
      have e : (⟨b, o, none⟩ : Addr).add j = ⟨b, o + j, none⟩ := by unfold Addr.add; split <;> simp_all
      rw [e]
      exact hx0 j v hj) (by rw [rpK_size h6 (Nat.zero_le _)]; omega) h1
  have e1 := rpK_copy h6 (N := N) (j := 0) (k := 1) (by omega)
  simp only [List.replicate_succ, List.replicate_zero, List.flatten_cons, List.flatten_nil, List.append_nil, Nat.zero_add, Nat.one_mul, Nat.zero_mul] at e1
  rw [h6, Nat.zero_add, e1, show Nat.min 1 N = 1 from Nat.min_eq_left hp] at hcp
  have hB1 : Blk (W0.setRow w.heap.size (rpK cs N 1)) w.heap.size 31 (rpK cs N 1) := setRow_blkR hB0
  have hw1 : Below w.heap.size w (W0.setRow w.heap.size (rpK cs N 1)) := hw0.grown (row := some w.heap.size) (setRow_grownR _ _ _) hw0.size (fun k e => by injection e with e; omega)
  obtain ⟨W1, hW1⟩ : ∃ W1, W0.setRow w.heap.size (rpK cs N 1) = W1 := ⟨_, rfl⟩
  rw [hW1] at hcp hB1 hw1
  simp only [goInt, show ((1 : Nat) : Int) = 1 from rfl] at hcp
  clear hW1 e1 hx0 hB0 hx
  have hcpa : ∀ (wq : World) (j : Nat), 1 ≤ j → j < N → Blk wq w.heap.size 31 (rpK cs N j) → (Builtin.copy_ #[79, 79] 3 #[.slice (some ⟨w.heap.size, j * 6, none⟩) (N - j) (N - j), .slice (some ⟨w.heap.size, 0, none⟩) j N]).run Try.prog wq = .ok (.int .i64 (min j (N - j) : Nat)) (wq.setRow w.heap.size (rpK cs N (j + min j (N - j)))) := by
    intro wq j hj hjN hb
    have h := run_copy_rowS (P := Try.prog) wq 79 79 3 31 6 w.heap.size (j * 6) (N - j) (N - j) ⟨w.heap.size, 0, none⟩ j N (rpK cs N j) 31 (List.replicate (min j (N - j)) cs).flatten Try.underlying79 hsz hb (rep6_length h6 _)
      (fun i v hi => by
        have hil := lt_of_some hi
        rw [rep6_length h6] at hil
        have hij : i < j * 6 := by omega
        have e : (⟨w.heap.size, 0, none⟩ : Addr).add i = ⟨w.heap.size, i, none⟩ := by unfold Addr.add; split <;> simp_all
        rw [e, hb.cell, rpK_cell h6 hij, rep6_pre h6 (k := min j (N - j)) (by omega) hil]
        exact hi) (by rw [rpK_size h6 (by omega), rep6_length h6]; omega) (rep6_one h1 _)
    rw [rep6_length h6, rpK_copy h6 (by omega)] at h
    exact h
  go_enter Try.func57, Try.ntmps57
  go_wp2_with fail
  refine (bitsMulR_any N (by omega) _).mono ?_; rintro e w1 ⟨rfl, rfl⟩
  go_wp2
  go_loopw [8] (fun v wr => ∃ j : Nat, 1 ≤ j ∧ j ≤ N ∧ v = .int .i64 j ∧ Blk wr w1.heap.size 31 (rpK cs N j) ∧ Below w1.heap.size w1 wr) (fun v _ => N - (intOf v).toNat)
  case atStart => exact ⟨1, by omega, by omega, rfl, hB1, hw1⟩
  case round =>
    obtain ⟨j, hj1, hjN, rfl, hbj, hbel⟩ := hrel
    by_cases hlt : j < N
    · have hcj := hcpa wr j hj1 hlt hbj
      have hcj2 := hcpa wr.drew j hj1 hlt hbj
      have hmo : Try.prog.follows .mixedOrders = true := by kernel_rfl
      go_wp2_with fail
      go_region_o
      go_wp2
      go_roundw
      case rel => exact ⟨j + min j (N - j), by omega, by omega, by rw [Int.natCast_add], setRow_blkR (w := wr.drew) hbj, (hbel.drew).grown (row := some w1.heap.size) (setRow_grownR _ _ _) hbel.size (fun k e => by injection e with e; omega)⟩
      case measure => simp only [intOf]; omega
    · obtain rfl : j = N := by omega
      clear hcp hmk
      go_wp2
      go_ret
      exact ⟨_, rfl, hbj, Nat.le_refl _, hbel⟩
end Go.Proofs.Ytcmlflppndfdcaa

/- Intervals: the references' ZigzagInterval and IntervalRep. -/
namespace Go.Proofs.Ytcmlflppndfdcaa
set_option linter.unusedVariables false
set_option linter.unusedSimpArgs false
open Go.RowKit

theorem isL_t {q : Qv} (h : isL q = true) : isQ q = true ∧ isZ q = true := by
  rcases hz : isZ q with _ | _
  · rw [isL_noZ hz] at h; cases h
  · exact ⟨(isZ_t hz).1, rfl⟩
set_option maxHeartbeats 3200000 in
set_option maxRecDepth 100000 in
theorem specZigzagIntervalN (p a b : Int) (u : Value) (q : Qv) (w0 : World) (hp : I64 p) (hu : QvR w0 w0.heap.size u q) (ha : I64 a) (hb : I64 b) (hno : ziOk (isZ q) p q a b = false) :
    Calls Try.prog 51 #[.int .i64 p, u, .int .i64 a, .int .i64 b] w0 fun e w' => ∃ r, e = .returned (.tuple #[r, .bool (ziP (isZ q) p q a b).2]) ∧ RpR w' w'.heap.size r (ziP (isZ q) p q a b).1 ∧ Below w0.heap.size w0 w' := by
  have hu' := hu
  obtain ⟨A, c, C, c', rfl, hf, ht, hr, lf, lt⟩ := hu.open_
  clear hu hf ht
  obtain ⟨W, hW⟩ : ∃ W, W = (w0.alloc (.cells #[.int .i64 q.v, .slice A q.f.length c, .slice C q.t.length c'] 28)).alloc (.cells #[.int .i64 0, .int .i64 0, .slice none 0 0, .slice none 0 0, .slice none 0 0, .slice none 0 0] 31) := ⟨_, rfl⟩
  have g0 : Below w0.heap.size w0 W := by rw [hW]; exact ((Below.refl _ _).alloc (Nat.le_refl _) _).alloc (by simp) _
  have kq : Blk W w0.heap.size 28 #[.int .i64 q.v, .slice A q.f.length c, .slice C q.t.length c'] := by rw [hW]; exact (Blk.new _ _ _).alloc _
  have kR : Blk W (w0.heap.size + 1) 31 #[.int .i64 0, .int .i64 0, .slice none 0 0, .slice none 0 0, .slice none 0 0, .slice none 0 0] := by
    rw [hW]
    have := Blk.new (w0.alloc (.cells #[.int .i64 q.v, .slice A q.f.length c, .slice C q.t.length c'] 28)) 31 #[.int .i64 0, .int .i64 0, .slice none 0 0, .slice none 0 0, .slice none 0 0, .slice none 0 0]
    simpa only [World.size_alloc] using this
  have sz : W.heap.size = w0.heap.size + 1 + 1 := by rw [hW]; simp
  have SZ := Lib.hid sz
  have hq := QvR.next g0 hu'
  clear sz hu'
  rw [ziP_no hno]
  simp only [ziOk] at hno
  rcases h1 : isFld p with _ | _
  · have H1 := Lib.hid h1
    clear h1 hno
    have c0 := kq.cell' (i := 0) rfl
    have c1 := kq.cell' (i := 1) rfl
    have c2 := kq.cell' (i := 2) rfl
    go_enter Try.func51, Try.ntmps51
    go_wp2_with fail
    rw [← hW]; clear hW
    refine (specIsField_any _ _).mono ?_; rintro e w1' ⟨rfl, rfl⟩
    rw [H1.out]
    have KR := Lib.hid kR
    have G0 := Lib.hid g0
    clear kR g0
    have kR := KR.out
    have fr := kR.frozen
    have s0 := kR.cell' (i := 0) rfl
    have s1 := kR.cell' (i := 1) rfl
    have s2 := kR.cell' (i := 2) rfl
    have s3 := kR.cell' (i := 3) rfl
    have s4 := kR.cell' (i := 4) rfl
    have s5 := kR.cell' (i := 5) rfl
    clear kR
    go_wp2
    have sz := SZ.out
    have g1 := G0.out
    refine bodyPost_ret (v := .tuple #[.agg #[.int .i64 0, .int .i64 0, .slice none 0 0, .slice none 0 0, .slice none 0 0, .slice none 0 0], .bool false]) (by simp [results, go_sem, s0, s1, s2, s3, s4, s5]) rfl ⟨_, rfl, (RepO.zero _ 0 0).rd, (((((g1.setCell (by simp) _).setCell (by simp) _).setCell (by simp) _).setCell (by simp) _).setCell (by simp) _).setCell (by simp) _⟩
  rcases h2 : isZ q with _ | _
  · have H1 := Lib.hid h1
    have H2 := Lib.hid h2
    clear h1 h2 hno
    have c0 := kq.cell' (i := 0) rfl
    have c1 := kq.cell' (i := 1) rfl
    have c2 := kq.cell' (i := 2) rfl
    go_enter Try.func51, Try.ntmps51
    go_wp2_with fail
    rw [← hW]; clear hW
    refine (specIsField_any _ _).mono ?_; rintro e w1' ⟨rfl, rfl⟩
    rw [H1.out]
    go_wp2_with fail
    refine (specIsZigzag_any _ _ _ hq).mono ?_; rintro e w1 ⟨rfl, hb1⟩
    rw [H2.out]
    replace hq := QvR.next hb1 hq
    replace g0 := bthen g0 hb1
    replace kq := kq.call hb1
    replace kR := kR.call hb1
    have gW := hb1
    clear hb1 c0 c1 c2
    have c0 := kq.cell' (i := 0) rfl
    have c1 := kq.cell' (i := 1) rfl
    have c2 := kq.cell' (i := 2) rfl
    have KR := Lib.hid kR
    have G0 := Lib.hid g0
    clear kR g0
    have kR := KR.out
    have fr := kR.frozen
    have s0 := kR.cell' (i := 0) rfl
    have s1 := kR.cell' (i := 1) rfl
    have s2 := kR.cell' (i := 2) rfl
    have s3 := kR.cell' (i := 3) rfl
    have s4 := kR.cell' (i := 4) rfl
    have s5 := kR.cell' (i := 5) rfl
    clear kR
    go_wp2
    have sz := SZ.out
    have g1 := G0.out
    refine bodyPost_ret (v := .tuple #[.agg #[.int .i64 0, .int .i64 0, .slice none 0 0, .slice none 0 0, .slice none 0 0, .slice none 0 0], .bool false]) (by simp [results, go_sem, s0, s1, s2, s3, s4, s5]) rfl ⟨_, rfl, (RepO.zero _ 0 0).rd, (((((g1.setCell (by simp) _).setCell (by simp) _).setCell (by simp) _).setCell (by simp) _).setCell (by simp) _).setCell (by simp) _⟩
  have hqv : I64 q.v := hr
  have hv1 := (isQ_t.1 (by first | exact (isZ_t h2).1 | exact (isL_t h2).1)).1
  rcases h3 : inR a 0 (q.v - 1) with _ | _
  · have H1 := Lib.hid h1
    have H2 := Lib.hid h2
    have H3 := Lib.hid h3
    clear h1 h2 h3 hno
    have c0 := kq.cell' (i := 0) rfl
    have c1 := kq.cell' (i := 1) rfl
    have c2 := kq.cell' (i := 2) rfl
    go_enter Try.func51, Try.ntmps51
    go_wp2_with fail
    rw [← hW]; clear hW
    refine (specIsField_any _ _).mono ?_; rintro e w1' ⟨rfl, rfl⟩
    rw [H1.out]
    go_wp2_with fail
    refine (specIsZigzag_any _ _ _ hq).mono ?_; rintro e w1 ⟨rfl, hb1⟩
    rw [H2.out]
    replace hq := QvR.next hb1 hq
    replace g0 := bthen g0 hb1
    replace kq := kq.call hb1
    replace kR := kR.call hb1
    have gW := hb1
    clear hb1 c0 c1 c2
    have c0 := kq.cell' (i := 0) rfl
    have c1 := kq.cell' (i := 1) rfl
    have c2 := kq.cell' (i := 2) rfl
    go_wp2_with fail
    refine (l1In_any _ _ _ _).mono ?_; rintro e w2' ⟨rfl, hww⟩
    replace hww := hww.symm
    subst hww
    rw [H3.out]
    have KR := Lib.hid kR
    have G0 := Lib.hid g0
    clear kR g0
    have kR := KR.out
    have fr := kR.frozen
    have s0 := kR.cell' (i := 0) rfl
    have s1 := kR.cell' (i := 1) rfl
    have s2 := kR.cell' (i := 2) rfl
    have s3 := kR.cell' (i := 3) rfl
    have s4 := kR.cell' (i := 4) rfl
    have s5 := kR.cell' (i := 5) rfl
    clear kR
    go_wp2
    have sz := SZ.out
    have g1 := G0.out
    refine bodyPost_ret (v := .tuple #[.agg #[.int .i64 0, .int .i64 0, .slice none 0 0, .slice none 0 0, .slice none 0 0, .slice none 0 0], .bool false]) (by simp [results, go_sem, s0, s1, s2, s3, s4, s5]) rfl ⟨_, rfl, (RepO.zero _ 0 0).rd, (((((g1.setCell (by simp) _).setCell (by simp) _).setCell (by simp) _).setCell (by simp) _).setCell (by simp) _).setCell (by simp) _⟩
  rcases h4 : inR b a (q.v - 1) with _ | _
  · have H1 := Lib.hid h1
    have H2 := Lib.hid h2
    have H3 := Lib.hid h3
    have H4 := Lib.hid h4
    clear h1 h2 h3 h4 hno
    have c0 := kq.cell' (i := 0) rfl
    have c1 := kq.cell' (i := 1) rfl
    have c2 := kq.cell' (i := 2) rfl
    go_enter Try.func51, Try.ntmps51
    go_wp2_with fail
    rw [← hW]; clear hW
    refine (specIsField_any _ _).mono ?_; rintro e w1' ⟨rfl, rfl⟩
    rw [H1.out]
    go_wp2_with fail
    refine (specIsZigzag_any _ _ _ hq).mono ?_; rintro e w1 ⟨rfl, hb1⟩
    rw [H2.out]
    replace hq := QvR.next hb1 hq
    replace g0 := bthen g0 hb1
    replace kq := kq.call hb1
    replace kR := kR.call hb1
    have gW := hb1
    clear hb1 c0 c1 c2
    have c0 := kq.cell' (i := 0) rfl
    have c1 := kq.cell' (i := 1) rfl
    have c2 := kq.cell' (i := 2) rfl
    go_wp2_with fail
    refine (l1In_any _ _ _ _).mono ?_; rintro e w2' ⟨rfl, hww⟩
    replace hww := hww.symm
    subst hww
    rw [H3.out]
    go_wp2_with fail
    refine (l1In_any _ _ _ _).mono ?_; rintro e w2' ⟨rfl, hww⟩
    replace hww := hww.symm
    subst hww
    rw [H4.out]
    have KR := Lib.hid kR
    have G0 := Lib.hid g0
    clear kR g0
    have kR := KR.out
    have fr := kR.frozen
    have s0 := kR.cell' (i := 0) rfl
    have s1 := kR.cell' (i := 1) rfl
    have s2 := kR.cell' (i := 2) rfl
    have s3 := kR.cell' (i := 3) rfl
    have s4 := kR.cell' (i := 4) rfl
    have s5 := kR.cell' (i := 5) rfl
    clear kR
    go_wp2
    have sz := SZ.out
    have g1 := G0.out
    refine bodyPost_ret (v := .tuple #[.agg #[.int .i64 0, .int .i64 0, .slice none 0 0, .slice none 0 0, .slice none 0 0, .slice none 0 0], .bool false]) (by simp [results, go_sem, s0, s1, s2, s3, s4, s5]) rfl ⟨_, rfl, (RepO.zero _ 0 0).rd, (((((g1.setCell (by simp) _).setCell (by simp) _).setCell (by simp) _).setCell (by simp) _).setCell (by simp) _).setCell (by simp) _⟩
  rw [h1, h2, h3, h4] at hno
  exact absurd hno (by decide)
set_option maxHeartbeats 3200000 in
set_option maxRecDepth 100000 in
theorem specIntervalRepN (p a b : Int) (u : Value) (q : Qv) (w0 : World) (hp : I64 p) (hu : QvR w0 w0.heap.size u q) (ha : I64 a) (hb : I64 b) (hno : ziOk (isL q) p q a b = false) :
    Calls Try.prog 36 #[.int .i64 p, u, .int .i64 a, .int .i64 b] w0 fun e w' => ∃ r, e = .returned (.tuple #[r, .bool (ziP (isL q) p q a b).2]) ∧ RpR w' w'.heap.size r (ziP (isL q) p q a b).1 ∧ Below w0.heap.size w0 w' := by
  have hu' := hu
  obtain ⟨A, c, C, c', rfl, hf, ht, hr, lf, lt⟩ := hu.open_
  clear hu hf ht
  obtain ⟨W, hW⟩ : ∃ W, W = (w0.alloc (.cells #[.int .i64 q.v, .slice A q.f.length c, .slice C q.t.length c'] 28)).alloc (.cells #[.int .i64 0, .int .i64 0, .slice none 0 0, .slice none 0 0, .slice none 0 0, .slice none 0 0] 31) := ⟨_, rfl⟩
  have g0 : Below w0.heap.size w0 W := by rw [hW]; exact ((Below.refl _ _).alloc (Nat.le_refl _) _).alloc (by simp) _
  have kq : Blk W w0.heap.size 28 #[.int .i64 q.v, .slice A q.f.length c, .slice C q.t.length c'] := by rw [hW]; exact (Blk.new _ _ _).alloc _
  have kR : Blk W (w0.heap.size + 1) 31 #[.int .i64 0, .int .i64 0, .slice none 0 0, .slice none 0 0, .slice none 0 0, .slice none 0 0] := by
    rw [hW]
    have := Blk.new (w0.alloc (.cells #[.int .i64 q.v, .slice A q.f.length c, .slice C q.t.length c'] 28)) 31 #[.int .i64 0, .int .i64 0, .slice none 0 0, .slice none 0 0, .slice none 0 0, .slice none 0 0]
    simpa only [World.size_alloc] using this
  have sz : W.heap.size = w0.heap.size + 1 + 1 := by rw [hW]; simp
  have SZ := Lib.hid sz
  have hq := QvR.next g0 hu'
  clear sz hu'
  rw [ziP_no hno]
  simp only [ziOk] at hno
  rcases h1 : isFld p with _ | _
  · have H1 := Lib.hid h1
    clear h1 hno
    have c0 := kq.cell' (i := 0) rfl
    have c1 := kq.cell' (i := 1) rfl
    have c2 := kq.cell' (i := 2) rfl
    go_enter Try.func36, Try.ntmps36
    go_wp2_with fail
    rw [← hW]; clear hW
    refine (specIsField_any _ _).mono ?_; rintro e w1' ⟨rfl, rfl⟩
    rw [H1.out]
    have KR := Lib.hid kR
    have G0 := Lib.hid g0
    clear kR g0
    have kR := KR.out
    have fr := kR.frozen
    have s0 := kR.cell' (i := 0) rfl
    have s1 := kR.cell' (i := 1) rfl
    have s2 := kR.cell' (i := 2) rfl
    have s3 := kR.cell' (i := 3) rfl
    have s4 := kR.cell' (i := 4) rfl
    have s5 := kR.cell' (i := 5) rfl
    clear kR
    go_wp2
    have sz := SZ.out
    have g1 := G0.out
    refine bodyPost_ret (v := .tuple #[.agg #[.int .i64 0, .int .i64 0, .slice none 0 0, .slice none 0 0, .slice none 0 0, .slice none 0 0], .bool false]) (by simp [results, go_sem, s0, s1, s2, s3, s4, s5]) rfl ⟨_, rfl, (RepO.zero _ 0 0).rd, (((((g1.setCell (by simp) _).setCell (by simp) _).setCell (by simp) _).setCell (by simp) _).setCell (by simp) _).setCell (by simp) _⟩
  rcases h2 : isL q with _ | _
  · have H1 := Lib.hid h1
    have H2 := Lib.hid h2
    clear h1 h2 hno
    have c0 := kq.cell' (i := 0) rfl
    have c1 := kq.cell' (i := 1) rfl
    have c2 := kq.cell' (i := 2) rfl
    go_enter Try.func36, Try.ntmps36
    go_wp2_with fail
    rw [← hW]; clear hW
    refine (specIsField_any _ _).mono ?_; rintro e w1' ⟨rfl, rfl⟩
    rw [H1.out]
    go_wp2_with fail
    refine (specIsLine_any _ _ _ hq).mono ?_; rintro e w1 ⟨rfl, hb1⟩
    rw [H2.out]
    replace hq := QvR.next hb1 hq
    replace g0 := bthen g0 hb1
    replace kq := kq.call hb1
    replace kR := kR.call hb1
    have gW := hb1
    clear hb1 c0 c1 c2
    have c0 := kq.cell' (i := 0) rfl
    have c1 := kq.cell' (i := 1) rfl
    have c2 := kq.cell' (i := 2) rfl
    have KR := Lib.hid kR
    have G0 := Lib.hid g0
    clear kR g0
    have kR := KR.out
    have fr := kR.frozen
    have s0 := kR.cell' (i := 0) rfl
    have s1 := kR.cell' (i := 1) rfl
    have s2 := kR.cell' (i := 2) rfl
    have s3 := kR.cell' (i := 3) rfl
    have s4 := kR.cell' (i := 4) rfl
    have s5 := kR.cell' (i := 5) rfl
    clear kR
    go_wp2
    have sz := SZ.out
    have g1 := G0.out
    refine bodyPost_ret (v := .tuple #[.agg #[.int .i64 0, .int .i64 0, .slice none 0 0, .slice none 0 0, .slice none 0 0, .slice none 0 0], .bool false]) (by simp [results, go_sem, s0, s1, s2, s3, s4, s5]) rfl ⟨_, rfl, (RepO.zero _ 0 0).rd, (((((g1.setCell (by simp) _).setCell (by simp) _).setCell (by simp) _).setCell (by simp) _).setCell (by simp) _).setCell (by simp) _⟩
  have hqv : I64 q.v := hr
  have hv1 := (isQ_t.1 (by first | exact (isZ_t h2).1 | exact (isL_t h2).1)).1
  rcases h3 : inR a 0 (q.v - 1) with _ | _
  · have H1 := Lib.hid h1
    have H2 := Lib.hid h2
    have H3 := Lib.hid h3
    clear h1 h2 h3 hno
    have c0 := kq.cell' (i := 0) rfl
    have c1 := kq.cell' (i := 1) rfl
    have c2 := kq.cell' (i := 2) rfl
    go_enter Try.func36, Try.ntmps36
    go_wp2_with fail
    rw [← hW]; clear hW
    refine (specIsField_any _ _).mono ?_; rintro e w1' ⟨rfl, rfl⟩
    rw [H1.out]
    go_wp2_with fail
    refine (specIsLine_any _ _ _ hq).mono ?_; rintro e w1 ⟨rfl, hb1⟩
    rw [H2.out]
    replace hq := QvR.next hb1 hq
    replace g0 := bthen g0 hb1
    replace kq := kq.call hb1
    replace kR := kR.call hb1
    have gW := hb1
    clear hb1 c0 c1 c2
    have c0 := kq.cell' (i := 0) rfl
    have c1 := kq.cell' (i := 1) rfl
    have c2 := kq.cell' (i := 2) rfl
    go_wp2_with fail
    refine (l1In_any _ _ _ _).mono ?_; rintro e w2' ⟨rfl, hww⟩
    replace hww := hww.symm
    subst hww
    rw [H3.out]
    have KR := Lib.hid kR
    have G0 := Lib.hid g0
    clear kR g0
    have kR := KR.out
    have fr := kR.frozen
    have s0 := kR.cell' (i := 0) rfl
    have s1 := kR.cell' (i := 1) rfl
    have s2 := kR.cell' (i := 2) rfl
    have s3 := kR.cell' (i := 3) rfl
    have s4 := kR.cell' (i := 4) rfl
    have s5 := kR.cell' (i := 5) rfl
    clear kR
    go_wp2
    have sz := SZ.out
    have g1 := G0.out
    refine bodyPost_ret (v := .tuple #[.agg #[.int .i64 0, .int .i64 0, .slice none 0 0, .slice none 0 0, .slice none 0 0, .slice none 0 0], .bool false]) (by simp [results, go_sem, s0, s1, s2, s3, s4, s5]) rfl ⟨_, rfl, (RepO.zero _ 0 0).rd, (((((g1.setCell (by simp) _).setCell (by simp) _).setCell (by simp) _).setCell (by simp) _).setCell (by simp) _).setCell (by simp) _⟩
  rcases h4 : inR b a (q.v - 1) with _ | _
  · have H1 := Lib.hid h1
    have H2 := Lib.hid h2
    have H3 := Lib.hid h3
    have H4 := Lib.hid h4
    clear h1 h2 h3 h4 hno
    have c0 := kq.cell' (i := 0) rfl
    have c1 := kq.cell' (i := 1) rfl
    have c2 := kq.cell' (i := 2) rfl
    go_enter Try.func36, Try.ntmps36
    go_wp2_with fail
    rw [← hW]; clear hW
    refine (specIsField_any _ _).mono ?_; rintro e w1' ⟨rfl, rfl⟩
    rw [H1.out]
    go_wp2_with fail
    refine (specIsLine_any _ _ _ hq).mono ?_; rintro e w1 ⟨rfl, hb1⟩
    rw [H2.out]
    replace hq := QvR.next hb1 hq
    replace g0 := bthen g0 hb1
    replace kq := kq.call hb1
    replace kR := kR.call hb1
    have gW := hb1
    clear hb1 c0 c1 c2
    have c0 := kq.cell' (i := 0) rfl
    have c1 := kq.cell' (i := 1) rfl
    have c2 := kq.cell' (i := 2) rfl
    go_wp2_with fail
    refine (l1In_any _ _ _ _).mono ?_; rintro e w2' ⟨rfl, hww⟩
    replace hww := hww.symm
    subst hww
    rw [H3.out]
    go_wp2_with fail
    refine (l1In_any _ _ _ _).mono ?_; rintro e w2' ⟨rfl, hww⟩
    replace hww := hww.symm
    subst hww
    rw [H4.out]
    have KR := Lib.hid kR
    have G0 := Lib.hid g0
    clear kR g0
    have kR := KR.out
    have fr := kR.frozen
    have s0 := kR.cell' (i := 0) rfl
    have s1 := kR.cell' (i := 1) rfl
    have s2 := kR.cell' (i := 2) rfl
    have s3 := kR.cell' (i := 3) rfl
    have s4 := kR.cell' (i := 4) rfl
    have s5 := kR.cell' (i := 5) rfl
    clear kR
    go_wp2
    have sz := SZ.out
    have g1 := G0.out
    refine bodyPost_ret (v := .tuple #[.agg #[.int .i64 0, .int .i64 0, .slice none 0 0, .slice none 0 0, .slice none 0 0, .slice none 0 0], .bool false]) (by simp [results, go_sem, s0, s1, s2, s3, s4, s5]) rfl ⟨_, rfl, (RepO.zero _ 0 0).rd, (((((g1.setCell (by simp) _).setCell (by simp) _).setCell (by simp) _).setCell (by simp) _).setCell (by simp) _).setCell (by simp) _⟩
  rw [h1, h2, h3, h4] at hno
  exact absurd hno (by decide)
set_option maxHeartbeats 3200000 in
set_option maxRecDepth 100000 in
theorem implZigzagIntervalN (p a b : Int) (u : Value) (q : Qv) (w0 : World) (hp : I64 p) (hu : QvR w0 w0.heap.size u q) (ha : I64 a) (hb : I64 b) (hno : ziOk (isZ q) p q a b = false) :
    Calls Try.prog 56 #[.int .i64 p, u, .int .i64 a, .int .i64 b] w0 fun e w' => ∃ r, e = .returned (.tuple #[r, .bool (ziP (isZ q) p q a b).2]) ∧ RepO w' w0.heap.size w'.heap.size r (ziP (isZ q) p q a b).1 ∧ Below w0.heap.size w0 w' := by
  have hu' := hu
  obtain ⟨A, c, C, c', rfl, hf, ht, hr, lf, lt⟩ := hu.open_
  clear hu hf ht
  obtain ⟨W, hW⟩ : ∃ W, W = (w0.alloc (.cells #[.int .i64 q.v, .slice A q.f.length c, .slice C q.t.length c'] 28)).alloc (.cells #[.int .i64 0, .int .i64 0, .slice none 0 0, .slice none 0 0, .slice none 0 0, .slice none 0 0] 31) := ⟨_, rfl⟩
  have g0 : Below w0.heap.size w0 W := by rw [hW]; exact ((Below.refl _ _).alloc (Nat.le_refl _) _).alloc (by simp) _
  have kq : Blk W w0.heap.size 28 #[.int .i64 q.v, .slice A q.f.length c, .slice C q.t.length c'] := by rw [hW]; exact (Blk.new _ _ _).alloc _
  have kR : Blk W (w0.heap.size + 1) 31 #[.int .i64 0, .int .i64 0, .slice none 0 0, .slice none 0 0, .slice none 0 0, .slice none 0 0] := by
    rw [hW]
    have := Blk.new (w0.alloc (.cells #[.int .i64 q.v, .slice A q.f.length c, .slice C q.t.length c'] 28)) 31 #[.int .i64 0, .int .i64 0, .slice none 0 0, .slice none 0 0, .slice none 0 0, .slice none 0 0]
    simpa only [World.size_alloc] using this
  have sz : W.heap.size = w0.heap.size + 1 + 1 := by rw [hW]; simp
  have SZ := Lib.hid sz
  have hq := QvR.next g0 hu'
  clear sz hu'
  rw [ziP_no hno]
  simp only [ziOk] at hno
  rcases h1 : isFld p with _ | _
  · have H1 := Lib.hid h1
    clear h1 hno
    have c0 := kq.cell' (i := 0) rfl
    have c1 := kq.cell' (i := 1) rfl
    have c2 := kq.cell' (i := 2) rfl
    go_enter Try.func56, Try.ntmps56
    go_wp2_with fail
    rw [← hW]; clear hW
    refine (implIsField_any _ _).mono ?_; rintro e w1' ⟨rfl, rfl⟩
    rw [H1.out]
    have KR := Lib.hid kR
    have G0 := Lib.hid g0
    clear kR g0
    have kR := KR.out
    have fr := kR.frozen
    have s0 := kR.cell' (i := 0) rfl
    have s1 := kR.cell' (i := 1) rfl
    have s2 := kR.cell' (i := 2) rfl
    have s3 := kR.cell' (i := 3) rfl
    have s4 := kR.cell' (i := 4) rfl
    have s5 := kR.cell' (i := 5) rfl
    clear kR
    go_wp2
    have sz := SZ.out
    have g1 := G0.out
    refine bodyPost_ret (v := .tuple #[.agg #[.int .i64 0, .int .i64 0, .slice none 0 0, .slice none 0 0, .slice none 0 0, .slice none 0 0], .bool false]) (by simp [results, go_sem, s0, s1, s2, s3, s4, s5]) rfl ⟨_, rfl, RepO.zero _ _ _, (((((g1.setCell (by simp) _).setCell (by simp) _).setCell (by simp) _).setCell (by simp) _).setCell (by simp) _).setCell (by simp) _⟩
  rcases h2 : isZ q with _ | _
  · have H1 := Lib.hid h1
    have H2 := Lib.hid h2
    clear h1 h2 hno
    have c0 := kq.cell' (i := 0) rfl
    have c1 := kq.cell' (i := 1) rfl
    have c2 := kq.cell' (i := 2) rfl
    go_enter Try.func56, Try.ntmps56
    go_wp2_with fail
    rw [← hW]; clear hW
    refine (implIsField_any _ _).mono ?_; rintro e w1' ⟨rfl, rfl⟩
    rw [H1.out]
    go_wp2_with fail
    refine (implIsZigzag_any _ _ _ hq).mono ?_; rintro e w1 ⟨rfl, hb1⟩
    rw [H2.out]
    replace hq := QvR.next hb1 hq
    replace g0 := bthen g0 hb1
    replace kq := kq.call hb1
    replace kR := kR.call hb1
    have gW := hb1
    clear hb1 c0 c1 c2
    have c0 := kq.cell' (i := 0) rfl
    have c1 := kq.cell' (i := 1) rfl
    have c2 := kq.cell' (i := 2) rfl
    have KR := Lib.hid kR
    have G0 := Lib.hid g0
    clear kR g0
    have kR := KR.out
    have fr := kR.frozen
    have s0 := kR.cell' (i := 0) rfl
    have s1 := kR.cell' (i := 1) rfl
    have s2 := kR.cell' (i := 2) rfl
    have s3 := kR.cell' (i := 3) rfl
    have s4 := kR.cell' (i := 4) rfl
    have s5 := kR.cell' (i := 5) rfl
    clear kR
    go_wp2
    have sz := SZ.out
    have g1 := G0.out
    refine bodyPost_ret (v := .tuple #[.agg #[.int .i64 0, .int .i64 0, .slice none 0 0, .slice none 0 0, .slice none 0 0, .slice none 0 0], .bool false]) (by simp [results, go_sem, s0, s1, s2, s3, s4, s5]) rfl ⟨_, rfl, RepO.zero _ _ _, (((((g1.setCell (by simp) _).setCell (by simp) _).setCell (by simp) _).setCell (by simp) _).setCell (by simp) _).setCell (by simp) _⟩
  have hqv : I64 q.v := hr
  have hv1 := (isQ_t.1 (by first | exact (isZ_t h2).1 | exact (isL_t h2).1)).1
  rcases h3 : inR a 0 (q.v - 1) with _ | _
  · have H1 := Lib.hid h1
    have H2 := Lib.hid h2
    have H3 := Lib.hid h3
    clear h1 h2 h3 hno
    have c0 := kq.cell' (i := 0) rfl
    have c1 := kq.cell' (i := 1) rfl
    have c2 := kq.cell' (i := 2) rfl
    go_enter Try.func56, Try.ntmps56
    go_wp2_with fail
    rw [← hW]; clear hW
    refine (implIsField_any _ _).mono ?_; rintro e w1' ⟨rfl, rfl⟩
    rw [H1.out]
    go_wp2_with fail
    refine (implIsZigzag_any _ _ _ hq).mono ?_; rintro e w1 ⟨rfl, hb1⟩
    rw [H2.out]
    replace hq := QvR.next hb1 hq
    replace g0 := bthen g0 hb1
    replace kq := kq.call hb1
    replace kR := kR.call hb1
    have gW := hb1
    clear hb1 c0 c1 c2
    have c0 := kq.cell' (i := 0) rfl
    have c1 := kq.cell' (i := 1) rfl
    have c2 := kq.cell' (i := 2) rfl
    go_wp2_with fail
    refine (within_any _ _ _ _).mono ?_; rintro e w2' ⟨rfl, hww⟩
    replace hww := hww.symm
    subst hww
    rw [H3.out]
    have KR := Lib.hid kR
    have G0 := Lib.hid g0
    clear kR g0
    have kR := KR.out
    have fr := kR.frozen
    have s0 := kR.cell' (i := 0) rfl
    have s1 := kR.cell' (i := 1) rfl
    have s2 := kR.cell' (i := 2) rfl
    have s3 := kR.cell' (i := 3) rfl
    have s4 := kR.cell' (i := 4) rfl
    have s5 := kR.cell' (i := 5) rfl
    clear kR
    go_wp2
    have sz := SZ.out
    have g1 := G0.out
    refine bodyPost_ret (v := .tuple #[.agg #[.int .i64 0, .int .i64 0, .slice none 0 0, .slice none 0 0, .slice none 0 0, .slice none 0 0], .bool false]) (by simp [results, go_sem, s0, s1, s2, s3, s4, s5]) rfl ⟨_, rfl, RepO.zero _ _ _, (((((g1.setCell (by simp) _).setCell (by simp) _).setCell (by simp) _).setCell (by simp) _).setCell (by simp) _).setCell (by simp) _⟩
  rcases h4 : inR b a (q.v - 1) with _ | _
  · have H1 := Lib.hid h1
    have H2 := Lib.hid h2
    have H3 := Lib.hid h3
    have H4 := Lib.hid h4
    clear h1 h2 h3 h4 hno
    have c0 := kq.cell' (i := 0) rfl
    have c1 := kq.cell' (i := 1) rfl
    have c2 := kq.cell' (i := 2) rfl
    go_enter Try.func56, Try.ntmps56
    go_wp2_with fail
    rw [← hW]; clear hW
    refine (implIsField_any _ _).mono ?_; rintro e w1' ⟨rfl, rfl⟩
    rw [H1.out]
    go_wp2_with fail
    refine (implIsZigzag_any _ _ _ hq).mono ?_; rintro e w1 ⟨rfl, hb1⟩
    rw [H2.out]
    replace hq := QvR.next hb1 hq
    replace g0 := bthen g0 hb1
    replace kq := kq.call hb1
    replace kR := kR.call hb1
    have gW := hb1
    clear hb1 c0 c1 c2
    have c0 := kq.cell' (i := 0) rfl
    have c1 := kq.cell' (i := 1) rfl
    have c2 := kq.cell' (i := 2) rfl
    go_wp2_with fail
    refine (within_any _ _ _ _).mono ?_; rintro e w2' ⟨rfl, hww⟩
    replace hww := hww.symm
    subst hww
    rw [H3.out]
    go_wp2_with fail
    refine (within_any _ _ _ _).mono ?_; rintro e w2' ⟨rfl, hww⟩
    replace hww := hww.symm
    subst hww
    rw [H4.out]
    have KR := Lib.hid kR
    have G0 := Lib.hid g0
    clear kR g0
    have kR := KR.out
    have fr := kR.frozen
    have s0 := kR.cell' (i := 0) rfl
    have s1 := kR.cell' (i := 1) rfl
    have s2 := kR.cell' (i := 2) rfl
    have s3 := kR.cell' (i := 3) rfl
    have s4 := kR.cell' (i := 4) rfl
    have s5 := kR.cell' (i := 5) rfl
    clear kR
    go_wp2
    have sz := SZ.out
    have g1 := G0.out
    refine bodyPost_ret (v := .tuple #[.agg #[.int .i64 0, .int .i64 0, .slice none 0 0, .slice none 0 0, .slice none 0 0, .slice none 0 0], .bool false]) (by simp [results, go_sem, s0, s1, s2, s3, s4, s5]) rfl ⟨_, rfl, RepO.zero _ _ _, (((((g1.setCell (by simp) _).setCell (by simp) _).setCell (by simp) _).setCell (by simp) _).setCell (by simp) _).setCell (by simp) _⟩
  rw [h1, h2, h3, h4] at hno
  exact absurd hno (by decide)
end Go.Proofs.Ytcmlflppndfdcaa
