/- FnExactFiltrationRep: for every argument the program's function returns what the reference's returns. Part 9 of 11 of the proof: Blks, DsI, RpJ. No condition. -/
import Derived.Test.YtcmlflppndfdcaaBFiltrationRep8
/- blocks: two matrices on the diagonal, one above. -/
namespace Go.Proofs.Ytcmlflppndfdcaa
set_option linter.unusedVariables false
set_option linter.unusedSimpArgs false
open Go.RowKit

set_option maxHeartbeats 3200000 in
set_option maxRecDepth 100000 in
theorem blocks_any (ua uc ub : Value) (r s c d : Nat) (f k g : Nat → Nat → Int) (w0 : World) (ha : MxR w0 w0.heap.size ua (mxF r c f)) (hk : MxR w0 w0.heap.size uc (mxF r d k)) (hg : MxR w0 w0.heap.size ub (mxF s d g)) (hr : r ≤ 100) (hs : s ≤ 100) (hc : c ≤ 100) (hd : d ≤ 100) :
    Calls Try.prog 136 #[ua, uc, ub] w0 fun e w' => ∃ v, e = .returned v ∧ MxO w' w0.heap.size w'.heap.size v (mxF (r + s) (c + d) (blF r (bsF c f k) (bsF c (fun _ _ => 0) g))) ∧ Below w0.heap.size w0 w' := by
  obtain ⟨UA, ac, rfl⟩ := ha.form
  obtain ⟨UK, kc, rfl⟩ := hk.form
  obtain ⟨UG, gc, rfl⟩ := hg.form
  obtain ⟨LA, hLA⟩ : ∃ n, (mxF r c f).a.length = n := ⟨_, rfl⟩
  obtain ⟨LK, hLK⟩ : ∃ n, (mxF r d k).a.length = n := ⟨_, rfl⟩
  obtain ⟨LG, hLG⟩ : ∃ n, (mxF s d g).a.length = n := ⟨_, rfl⟩
  have z1 : (mxF r c f).r = (r : Int) := rfl
  have z2 : (mxF r c f).c = (c : Int) := rfl
  have z3 : (mxF r d k).r = (r : Int) := rfl
  have z4 : (mxF r d k).c = (d : Int) := rfl
  have z5 : (mxF s d g).r = (s : Int) := rfl
  have z6 : (mxF s d g).c = (d : Int) := rfl
  rw [hLA, z1, z2] at ha ⊢
  rw [hLK, z3, z4] at hk ⊢
  rw [hLG, z5, z6] at hg ⊢
  clear hLA hLK hLG z1 z2 z3 z4 z5 z6
  obtain ⟨W, hW⟩ : ∃ W, W = (((w0.alloc (.cells #[.int .i64 (r : Int), .int .i64 (c : Int), .slice UA LA ac] 84)).alloc (.cells #[.int .i64 (r : Int), .int .i64 (d : Int), .slice UK LK kc] 84)).alloc (.cells #[.int .i64 (s : Int), .int .i64 (d : Int), .slice UG LG gc] 84)).alloc (.cells #[.int .i64 0, .int .i64 0, .slice none 0 0] 84) := ⟨_, rfl⟩
  have g0 : Below w0.heap.size w0 W := by rw [hW]; exact ((((Below.refl _ _).alloc (Nat.le_refl _) _).alloc (by simp) _).alloc (by simp; omega) _).alloc (by simp; omega) _
  have k1 : Blk W w0.heap.size 84 #[.int .i64 (r : Int), .int .i64 (c : Int), .slice UA LA ac] := by rw [hW]; exact (((Blk.new _ _ _).alloc _).alloc _).alloc _
  have k2 : Blk W (w0.heap.size + 1) 84 #[.int .i64 (r : Int), .int .i64 (d : Int), .slice UK LK kc] := by
    rw [hW]
    have := ((Blk.new (w0.alloc (.cells #[.int .i64 (r : Int), .int .i64 (c : Int), .slice UA LA ac] 84)) 84 #[.int .i64 (r : Int), .int .i64 (d : Int), .slice UK LK kc]).alloc (.cells #[.int .i64 (s : Int), .int .i64 (d : Int), .slice UG LG gc] 84)).alloc (.cells #[.int .i64 0, .int .i64 0, .slice none 0 0] 84)
    simpa only [World.size_alloc] using this
  have k3 : Blk W (w0.heap.size + 1 + 1) 84 #[.int .i64 (s : Int), .int .i64 (d : Int), .slice UG LG gc] := by
    rw [hW]
    have := (Blk.new ((w0.alloc (.cells #[.int .i64 (r : Int), .int .i64 (c : Int), .slice UA LA ac] 84)).alloc (.cells #[.int .i64 (r : Int), .int .i64 (d : Int), .slice UK LK kc] 84)) 84 #[.int .i64 (s : Int), .int .i64 (d : Int), .slice UG LG gc]).alloc (.cells #[.int .i64 0, .int .i64 0, .slice none 0 0] 84)
    simpa only [World.size_alloc] using this
  have k4 : Blk W (w0.heap.size + 1 + 1 + 1) 84 #[.int .i64 0, .int .i64 0, .slice none 0 0] := by
    rw [hW]
    have := Blk.new (((w0.alloc (.cells #[.int .i64 (r : Int), .int .i64 (c : Int), .slice UA LA ac] 84)).alloc (.cells #[.int .i64 (r : Int), .int .i64 (d : Int), .slice UK LK kc] 84)).alloc (.cells #[.int .i64 (s : Int), .int .i64 (d : Int), .slice UG LG gc] 84)) 84 #[.int .i64 0, .int .i64 0, .slice none 0 0]
    simpa only [World.size_alloc] using this
  have sz : W.heap.size = w0.heap.size + 1 + 1 + 1 + 1 := by rw [hW]; simp
  have SZ := Lib.hid sz
  clear sz
  have HA := Lib.hid (MxR.next g0 ha)
  have HK := Lib.hid (MxR.next g0 hk)
  have HG := Lib.hid (MxR.next g0 hg)
  clear ha hk hg
  go_enter Try.func136, Try.ntmps136
  go_wp2
  rw [← hW]; clear hW
  refine wp_region_net (by kernel_rfl) [.eq (.agg #[.int .i64 (r : Int), .int .i64 (c : Int), .slice UA LA ac]), .eq (.agg #[.int .i64 (r : Int), .int .i64 (d : Int), .slice UK LK kc]), rel 2 (fun u lo hi w => MxO w lo hi u (mxF r (c + d) (bsF c f k))), .eq (.pointer (some ⟨w0.heap.size + 1 + 1, 0, none⟩)), .eq (.int .i64 (s : Int)), .eq (.pointer (some ⟨w0.heap.size, 1, none⟩)), .eq (.int .i64 (c : Int)), rel 7 (fun u lo hi w => MxO w lo hi u (mxF s c (fun _ _ => 0))), .eq (.agg #[.int .i64 (s : Int), .int .i64 (d : Int), .slice UG LG gc]), rel 9 (fun u lo hi w => MxO w lo hi u (mxF s (c + d) (bsF c (fun _ _ => 0) g))), rel 10 (fun u lo hi w => MxO w lo hi u (mxF (r + s) (c + d) (blF r (bsF c f k) (bsF c (fun _ _ => 0) g))))] [[], [], [0, 1], [], [3], [], [5], [0, 1, 2, 3, 4, 5, 6], [], [0, 1, 2, 3, 4, 5, 6, 7, 8], [0, 1, 2, 3, 4, 5, 6, 7, 8, 9], [0, 1, 2, 3, 4, 5, 6, 7, 8, 9, 10]] 11 (by kernel_rfl) ⟨trivial, trivial, rel_stable (fun u lo hi w w' h hb => h.below hb), trivial, trivial, trivial, trivial, rel_stable (fun u lo hi w w' h hb => h.below hb), trivial, rel_stable (fun u lo hi w w' h hb => h.below hb), rel_stable (fun u lo hi w w' h hb => h.below hb), trivial⟩ ⟨?_, ?_, ?_, ?_, ?_, ?_, ?_, ?_, ?_, ?_, ?_, trivial⟩ ?_
  · intro x w hb hk Q' hQ
    clear hk
    simp only [netAct, dstAt, List.getElem?_toArray, List.getElem?_cons_zero, List.getElem?_cons_succ, Option.bind_some, Act.put, List.setIfInBounds_toArray, List.set_cons_zero, List.set_cons_succ] at hQ ⊢
    have z0 := (k1.call hb).cell' (i := 0) rfl
    have z1 := (k1.call hb).cell' (i := 1) rfl
    have z2 := (k1.call hb).cell' (i := 2) rfl
    go_wp2
    exact hQ (.agg #[.int .i64 (r : Int), .int .i64 (c : Int), .slice UA LA ac]) _ (Below.refl _ _) rfl
  · intro x w hb hk Q' hQ
    clear hk
    simp only [netAct, dstAt, List.getElem?_toArray, List.getElem?_cons_zero, List.getElem?_cons_succ, Option.bind_some, Act.put, List.setIfInBounds_toArray, List.set_cons_zero, List.set_cons_succ] at hQ ⊢
    have z0 := (k2.call hb).cell' (i := 0) rfl
    have z1 := (k2.call hb).cell' (i := 1) rfl
    have z2 := (k2.call hb).cell' (i := 2) rfl
    go_wp2
    exact hQ (.agg #[.int .i64 (r : Int), .int .i64 (d : Int), .slice UK LK kc]) _ (Below.refl _ _) rfl
  · intro x w hb hk Q' hQ
    have h0 : x.v 0 = .agg #[.int .i64 (r : Int), .int .i64 (c : Int), .slice UA LA ac] := (hk 0 (by decide)).1
    have h1 : x.v 1 = .agg #[.int .i64 (r : Int), .int .i64 (d : Int), .slice UK LK kc] := (hk 1 (by decide)).1
    clear hk
    simp only [netAct, dstAt, List.getElem?_toArray, List.getElem?_cons_zero, List.getElem?_cons_succ, Option.bind_some, Act.put, List.setIfInBounds_toArray, List.set_cons_zero, List.set_cons_succ] at hQ ⊢
    simp only [h0, h1] at hQ ⊢
    clear h0 h1
    go_wp2_with fail
    refine (beside_any _ _ r c d f k _ (MxR.next hb HA.out) (MxR.next hb HK.out) (by omega) (by omega) (by omega)).mono ?_; rintro e w1 ⟨v1, rfl, ho, hb1⟩
    go_wp2
    exact hQ _ _ hb1 ho
  · intro x w hb hk Q' hQ
    clear hk
    simp only [netAct, dstAt, List.getElem?_toArray, List.getElem?_cons_zero, List.getElem?_cons_succ, Option.bind_some, Act.put, List.setIfInBounds_toArray, List.set_cons_zero, List.set_cons_succ] at hQ ⊢
    go_wp2
    exact hQ (.pointer (some ⟨w0.heap.size + 1 + 1, 0, none⟩)) _ (Below.refl _ _) rfl
  · intro x w hb hk Q' hQ
    have h3 : x.v 3 = .pointer (some ⟨w0.heap.size + 1 + 1, 0, none⟩) := (hk 3 (by decide)).1
    clear hk
    simp only [netAct, dstAt, List.getElem?_toArray, List.getElem?_cons_zero, List.getElem?_cons_succ, Option.bind_some, Act.put, List.setIfInBounds_toArray, List.set_cons_zero, List.set_cons_succ] at hQ ⊢
    simp only [h3] at hQ ⊢
    clear h3
    have z := (k3.call hb).cell' (i := 0) rfl
    go_wp2
    exact hQ (.int .i64 (s : Int)) _ (Below.refl _ _) rfl
  · intro x w hb hk Q' hQ
    clear hk
    simp only [netAct, dstAt, List.getElem?_toArray, List.getElem?_cons_zero, List.getElem?_cons_succ, Option.bind_some, Act.put, List.setIfInBounds_toArray, List.set_cons_zero, List.set_cons_succ] at hQ ⊢
    go_wp2
    exact hQ (.pointer (some ⟨w0.heap.size, 1, none⟩)) _ (Below.refl _ _) rfl
  · intro x w hb hk Q' hQ
    have h5 : x.v 5 = .pointer (some ⟨w0.heap.size, 1, none⟩) := (hk 5 (by decide)).1
    clear hk
    simp only [netAct, dstAt, List.getElem?_toArray, List.getElem?_cons_zero, List.getElem?_cons_succ, Option.bind_some, Act.put, List.setIfInBounds_toArray, List.set_cons_zero, List.set_cons_succ] at hQ ⊢
    simp only [h5] at hQ ⊢
    clear h5
    have z := (k1.call hb).cell' (i := 1) rfl
    go_wp2
    exact hQ (.int .i64 (c : Int)) _ (Below.refl _ _) rfl
  · intro x w hb hk Q' hQ
    have h0 : x.v 0 = .agg #[.int .i64 (r : Int), .int .i64 (c : Int), .slice UA LA ac] := (hk 0 (by decide)).1
    have h1 : x.v 1 = .agg #[.int .i64 (r : Int), .int .i64 (d : Int), .slice UK LK kc] := (hk 1 (by decide)).1
    have h2 : MxO w (x.lo 2) (x.hi 2) (x.v 2) (mxF r (c + d) (bsF c f k)) := (hk 2 (by decide)).1
    have h3 : x.v 3 = .pointer (some ⟨w0.heap.size + 1 + 1, 0, none⟩) := (hk 3 (by decide)).1
    have h4 : x.v 4 = .int .i64 (s : Int) := (hk 4 (by decide)).1
    have h5 : x.v 5 = .pointer (some ⟨w0.heap.size, 1, none⟩) := (hk 5 (by decide)).1
    have h6 : x.v 6 = .int .i64 (c : Int) := (hk 6 (by decide)).1
    have s2 := (hk 2 (by decide)).2
    clear hk
    simp only [netAct, dstAt, List.getElem?_toArray, List.getElem?_cons_zero, List.getElem?_cons_succ, Option.bind_some, Act.put, List.setIfInBounds_toArray, List.set_cons_zero, List.set_cons_succ] at hQ ⊢
    simp only [h0, h1, h3, h4, h5, h6] at hQ ⊢
    clear h0 h1 h3 h4 h5 h6
    go_wp2_with fail
    refine (zero_any s c _ (by omega) (by omega) (by omega) (by omega)).mono ?_; rintro e w1 ⟨v1, rfl, ho, hb1⟩
    rw [zmx_flat] at ho
    go_wp2
    exact hQ _ _ hb1 ho
  · intro x w hb hk Q' hQ
    clear hk
    simp only [netAct, dstAt, List.getElem?_toArray, List.getElem?_cons_zero, List.getElem?_cons_succ, Option.bind_some, Act.put, List.setIfInBounds_toArray, List.set_cons_zero, List.set_cons_succ] at hQ ⊢
    have z0 := (k3.call hb).cell' (i := 0) rfl
    have z1 := (k3.call hb).cell' (i := 1) rfl
    have z2 := (k3.call hb).cell' (i := 2) rfl
    go_wp2
    exact hQ (.agg #[.int .i64 (s : Int), .int .i64 (d : Int), .slice UG LG gc]) _ (Below.refl _ _) rfl
  · intro x w hb hk Q' hQ
    have h0 : x.v 0 = .agg #[.int .i64 (r : Int), .int .i64 (c : Int), .slice UA LA ac] := (hk 0 (by decide)).1
    have h1 : x.v 1 = .agg #[.int .i64 (r : Int), .int .i64 (d : Int), .slice UK LK kc] := (hk 1 (by decide)).1
    have h2 : MxO w (x.lo 2) (x.hi 2) (x.v 2) (mxF r (c + d) (bsF c f k)) := (hk 2 (by decide)).1
    have h3 : x.v 3 = .pointer (some ⟨w0.heap.size + 1 + 1, 0, none⟩) := (hk 3 (by decide)).1
    have h4 : x.v 4 = .int .i64 (s : Int) := (hk 4 (by decide)).1
    have h5 : x.v 5 = .pointer (some ⟨w0.heap.size, 1, none⟩) := (hk 5 (by decide)).1
    have h6 : x.v 6 = .int .i64 (c : Int) := (hk 6 (by decide)).1
    have h7 : MxO w (x.lo 7) (x.hi 7) (x.v 7) (mxF s c (fun _ _ => 0)) := (hk 7 (by decide)).1
    have h8 : x.v 8 = .agg #[.int .i64 (s : Int), .int .i64 (d : Int), .slice UG LG gc] := (hk 8 (by decide)).1
    have s2 := (hk 2 (by decide)).2
    have s7 := (hk 7 (by decide)).2
    clear hk
    simp only [netAct, dstAt, List.getElem?_toArray, List.getElem?_cons_zero, List.getElem?_cons_succ, Option.bind_some, Act.put, List.setIfInBounds_toArray, List.set_cons_zero, List.set_cons_succ] at hQ ⊢
    simp only [h0, h1, h3, h4, h5, h6, h8] at hQ ⊢
    clear h0 h1 h3 h4 h5 h6 h8
    have H7 := Lib.hid h7.rd
    obtain ⟨A7, c7, e7⟩ := h7.form
    rw [e7] at H7 hQ ⊢
    go_wp2_with fail
    refine (beside_any _ _ s c d (fun _ _ => 0) g _ H7.out (MxR.next hb HG.out) (by omega) (by omega) (by omega)).mono ?_; rintro e w1 ⟨v1, rfl, ho, hb1⟩
    go_wp2
    exact hQ _ _ hb1 ho
  · intro x w hb hk Q' hQ
    have h0 : x.v 0 = .agg #[.int .i64 (r : Int), .int .i64 (c : Int), .slice UA LA ac] := (hk 0 (by decide)).1
    have h1 : x.v 1 = .agg #[.int .i64 (r : Int), .int .i64 (d : Int), .slice UK LK kc] := (hk 1 (by decide)).1
    have h2 : MxO w (x.lo 2) (x.hi 2) (x.v 2) (mxF r (c + d) (bsF c f k)) := (hk 2 (by decide)).1
    have h3 : x.v 3 = .pointer (some ⟨w0.heap.size + 1 + 1, 0, none⟩) := (hk 3 (by decide)).1
    have h4 : x.v 4 = .int .i64 (s : Int) := (hk 4 (by decide)).1
    have h5 : x.v 5 = .pointer (some ⟨w0.heap.size, 1, none⟩) := (hk 5 (by decide)).1
    have h6 : x.v 6 = .int .i64 (c : Int) := (hk 6 (by decide)).1
    have h7 : MxO w (x.lo 7) (x.hi 7) (x.v 7) (mxF s c (fun _ _ => 0)) := (hk 7 (by decide)).1
    have h8 : x.v 8 = .agg #[.int .i64 (s : Int), .int .i64 (d : Int), .slice UG LG gc] := (hk 8 (by decide)).1
    have h9 : MxO w (x.lo 9) (x.hi 9) (x.v 9) (mxF s (c + d) (bsF c (fun _ _ => 0) g)) := (hk 9 (by decide)).1
    have s2 := (hk 2 (by decide)).2
    have s7 := (hk 7 (by decide)).2
    have s9 := (hk 9 (by decide)).2
    clear hk
    simp only [netAct, dstAt, List.getElem?_toArray, List.getElem?_cons_zero, List.getElem?_cons_succ, Option.bind_some, Act.put, List.setIfInBounds_toArray, List.set_cons_zero, List.set_cons_succ] at hQ ⊢
    simp only [h0, h1, h3, h4, h5, h6, h8] at hQ ⊢
    clear h0 h1 h3 h4 h5 h6 h8
    have H2 := Lib.hid h2.rd
    have H9 := Lib.hid h9.rd
    obtain ⟨A2, c2, e2⟩ := h2.form
    obtain ⟨A9, c9, e9⟩ := h9.form
    rw [e2] at H2 hQ ⊢
    rw [e9] at H9 hQ ⊢
    go_wp2_with fail
    refine (below_any _ _ (c + d) r s _ _ _ H2.out H9.out (by omega) (by omega) (by omega)).mono ?_; rintro e w1 ⟨v1, rfl, ho, hb1⟩
    go_wp2
    exact hQ _ _ hb1 ho
  · intro x w hb hk hiv hdj
    have h0 : x.v 0 = .agg #[.int .i64 (r : Int), .int .i64 (c : Int), .slice UA LA ac] := hk 0 (by decide)
    have h1 : x.v 1 = .agg #[.int .i64 (r : Int), .int .i64 (d : Int), .slice UK LK kc] := hk 1 (by decide)
    have h2 : MxO w (x.lo 2) (x.hi 2) (x.v 2) (mxF r (c + d) (bsF c f k)) := hk 2 (by decide)
    have h3 : x.v 3 = .pointer (some ⟨w0.heap.size + 1 + 1, 0, none⟩) := hk 3 (by decide)
    have h4 : x.v 4 = .int .i64 (s : Int) := hk 4 (by decide)
    have h5 : x.v 5 = .pointer (some ⟨w0.heap.size, 1, none⟩) := hk 5 (by decide)
    have h6 : x.v 6 = .int .i64 (c : Int) := hk 6 (by decide)
    have h7 : MxO w (x.lo 7) (x.hi 7) (x.v 7) (mxF s c (fun _ _ => 0)) := hk 7 (by decide)
    have h8 : x.v 8 = .agg #[.int .i64 (s : Int), .int .i64 (d : Int), .slice UG LG gc] := hk 8 (by decide)
    have h9 : MxO w (x.lo 9) (x.hi 9) (x.v 9) (mxF s (c + d) (bsF c (fun _ _ => 0) g)) := hk 9 (by decide)
    have h10 : MxO w (x.lo 10) (x.hi 10) (x.v 10) (mxF (r + s) (c + d) (blF r (bsF c f k) (bsF c (fun _ _ => 0) g))) := hk 10 (by decide)
    clear hk
    simp only [netAct, dstAt, List.getElem?_toArray, List.getElem?_cons_zero, List.getElem?_cons_succ, Option.bind_some, Act.put, List.setIfInBounds_toArray, List.set_cons_zero, List.set_cons_succ]
    simp only [List.drop_succ_cons, List.drop_zero, h0, h1, h3, h4, h5, h6, h8]
    clear h0 h1 h3 h4 h5 h6 h8
    have sz := SZ.out
    have kR := k4.call hb
    obtain ⟨l7, _, l7h⟩ := hiv 10 (by decide)
    obtain ⟨A7, c7, e7⟩ := h10.form
    obtain ⟨N, hN⟩ : ∃ N, (mxF (r + s) (c + d) (blF r (bsF c f k) (bsF c (fun _ _ => 0) g))).a.length = N := ⟨_, rfl⟩
    rw [hN] at e7
    simp only [mxF] at e7
    rw [e7] at h10 ⊢
    clear hiv hdj e7 h2 h7 h9 hN
    have p0 := kR.cell' (i := 0) rfl
    have p1 := kR.cell' (i := 1) rfl
    have p2 := kR.cell' (i := 2) rfl
    have fr := kR.frozen
    have gX := g0.trans (hb.mono g0.size)
    have gXs := gX.size
    have h2 := chg3 w (w0.heap.size + 1 + 1 + 1) (.int .i64 ((r + s : Nat) : Int)) (.int .i64 ((c + d : Nat) : Int)) (.slice A7 N c7)
    have OF := Lib.hid ((h10.chg h2 (.inr (by omega))).wider (lo' := w0.heap.size) (hi' := w.heap.size) (by omega) (by omega))
    have GF := Lib.hid (gX.trans (h2.below (by omega) gXs))
    clear h10 h2 gX kR sz gXs l7 l7h hb k1 k2 k3 k4
    go_wp2
    exact bodyPost_ret (v := .agg #[.int .i64 ((r + s : Nat) : Int), .int .i64 ((c + d : Nat) : Int), .slice A7 N c7]) (by simp [results, go_sem, p0, p1, p2]) rfl ⟨_, rfl, OF.out.wider (Nat.le_refl _) (by simp), GF.out⟩
end Go.Proofs.Ytcmlflppndfdcaa

/- The program's directSum. -/
namespace Go.Proofs.Ytcmlflppndfdcaa
set_option linter.unusedVariables false
set_option linter.unusedSimpArgs false
open Go.RowKit

def addK (D D' : Nat → Nat) (k v : Nat) : Nat := if v < k then D v + D' v else D v
theorem addK_set {D D' : Nat → Nat} {V k : Nat} : (rowF V fun v => ((addK D D' k v : Nat) : Int)).set k ((D k : Int) + (D' k : Int)) = rowF V fun v => ((addK D D' (k + 1) v : Nat) : Int) := by
  rw [rowF_set]
  apply rowF_congr
  intro v _
  by_cases e : v = k
  · subst e; simp [addK]
  · rw [if_neg e]
    have : (v < k + 1) = (v < k) := by simp only [eq_iff_iff]; omega
    simp only [addK, this]
theorem addK_end (D D' : Nat → Nat) (V : Nat) : (rowF V fun v => ((addK D D' V v : Nat) : Int)) = rowF V fun v => ((D v + D' v : Nat) : Int) := rowF_congr fun v hv => by rw [addK, if_pos hv]
def dsMs (q : Qv) (D D' : Nat → Nat) (E E' : Nat → Nat → Nat → Int) (k i : Nat) : Mx := if i < k then mxF (D (tN q i) + D' (tN q i)) (D (fN q i) + D' (fN q i)) (dsF q D E E' i) else mxF (D (tN q i)) (D (fN q i)) (E i)
theorem dsMs_set {q : Qv} {D D' : Nat → Nat} {E E' : Nat → Nat → Nat → Int} {n k : Nat} : (msF n (dsMs q D D' E E' k)).set k (mxF (D (tN q k) + D' (tN q k)) (D (fN q k) + D' (fN q k)) (dsE (D (tN q k)) (D (fN q k)) (E k) (E' k))) = msF n (dsMs q D D' E E' (k + 1)) := by
  rw [msF_set]
  apply msF_congr
  intro i _
  by_cases e : i = k
  · subst e; simp [dsMs, dsF]
  · rw [if_neg e]
    have : (i < k + 1) = (i < k) := by simp only [eq_iff_iff]; omega
    simp only [dsMs, this]
theorem dsMs_0 (q : Qv) (D D' : Nat → Nat) (E E' : Nat → Nat → Nat → Int) (n : Nat) : msF n (dsMs q D D' E E' 0) = msF n fun i => mxF (D (tN q i)) (D (fN q i)) (E i) := msF_congr fun i _ => by rw [dsMs, if_neg (by omega)]
theorem dsMs_end (q : Qv) (D D' : Nat → Nat) (E E' : Nat → Nat → Nat → Int) (n : Nat) : msF n (dsMs q D D' E E' n) = msF n fun i => mxF (D (tN q i) + D' (tN q i)) (D (fN q i) + D' (fN q i)) (dsF q D E E' i) := msF_congr fun i hi => by rw [dsMs, if_pos hi]

theorem Blk.apart {w : World} {g g' : Nat} {t t' : TypeId} {cs cs' : Array Value} (h : Blk w g t cs) (k : Blk w g' t' cs') (ht : t ≠ t') : g ≠ g' := by
  rintro rfl
  unfold Blk at h k
  rw [h] at k
  injection k with k
  injection k with _ k
  exact ht k
theorem RepO.mBlk {w : World} {lo hi g n c : Nat} {p v : Int} {f t d : Value} {x : Rp} (h : RepO w lo hi (.agg #[.int .i64 p, .int .i64 v, f, t, d, .slice (some ⟨g, 0, none⟩) n c]) x) : ∃ cs, Blk w g 84 cs := by
  obtain ⟨f', t', d', m', vs, e, hO, _⟩ := h
  simp only [Value.agg.injEq, Array.mk.injEq, List.cons.injEq, and_true] at e
  obtain ⟨_, _, rfl, rfl, rfl, rfl⟩ := e
  obtain ⟨cs, hb, _⟩ := OutM.blk hO
  exact ⟨cs, hb⟩
theorem mxF_at {w : World} {B n c k : Nat} {F : Nat → Mx} {A : Option Addr} {r s : Nat} {f : Nat → Nat → Int} (h : SlM w B (.slice A n c) (msF n F)) (hk : k < n) (hF : F k = mxF r s f) :
    ∃ b o MA mb L, A = some ⟨b, o, none⟩ ∧ b < B ∧ w.cell? ⟨b, o + k * 3, none⟩ = some (.int .i64 (r : Int)) ∧ w.cell? ⟨b, o + k * 3 + 1, none⟩ = some (.int .i64 (s : Int)) ∧ w.cell? ⟨b, o + k * 3 + 2, none⟩ = some (.slice MA L mb) ∧ MxR w B (.agg #[.int .i64 (r : Int), .int .i64 (s : Int), .slice MA L mb]) (mxF r s f) := by
  obtain ⟨b, o, m, MA, mb, e, hb, HX, x0, x1, x2, hsl, i1, i2, _⟩ := SlM.at_ (k := k) (xs := msF n F) (by rw [msF_length]; exact h) (by rw [msF_length]; exact hk)
  have hm : m = mxF r s f := by
    have := HX.out
    rw [msF_get _ hk, hF] at this
    injection this with this
    exact this.symm
  subst hm
  exact ⟨b, o, MA, mb, _, e, hb, x0, x1, x2, ⟨_, rfl, hsl, i1, i2⟩⟩

set_option maxHeartbeats 6400000 in
set_option maxRecDepth 100000 in
theorem directSum_any (ua ub : Value) (p : Int) (q : Qv) (D D' : Nat → Nat) (E E' : Nat → Nat → Nat → Int) (w0 : World) (ha : RpR w0 w0.heap.size ua (rpF p q D E)) (hb : RpR w0 w0.heap.size ub (rpF p q D' E')) (hq : isQ q = true) (hD : ∀ v, v < q.v.toNat → D v ≤ 4) (hD' : ∀ v, v < q.v.toNat → D' v ≤ 4) :
    Calls Try.prog 102 #[ua, ub] w0 fun e w' => ∃ v, e = .returned v ∧ RepO w' w0.heap.size w'.heap.size v (rpF p q (fun v => D v + D' v) (dsF q D E E')) ∧ Below w0.heap.size w0 w' := by
  have HQ := Lib.hid hq
  have hn6 : q.f.length ≤ 6 := (isQ_t.1 hq).2.2.1
  have hV5 : q.v.toNat ≤ 5 := by have := (isQ_t.1 hq).1; omega
  clear hq
  have ha' := ha
  obtain ⟨A, a, C, c, Ea, ea, Ha, ha_, rfl, hqa, hda, hma, hp, _, _⟩ := ha.open_
  obtain ⟨A2, a2, C2, c2, Eb, eb, Hb, hb_, rfl, hqb, hdb, hmb, hp2, _, _⟩ := hb.open_
  clear ha hb hqa hqb hda
  simp only [rpF, rowF_length, msF_length] at hdb hma hmb ha' ⊢
  obtain ⟨W, hW⟩ : ∃ W, W = ((w0.alloc (.cells #[.int .i64 p, .int .i64 q.v, .slice A q.f.length a, .slice C q.t.length c, .slice Ea q.v.toNat ea, .slice Ha q.f.length ha_] 31)).alloc (.cells #[.int .i64 p, .int .i64 q.v, .slice A2 q.f.length a2, .slice C2 q.t.length c2, .slice Eb q.v.toNat eb, .slice Hb q.f.length hb_] 31)).alloc (.cells #[.int .i64 0, .int .i64 0, .slice none 0 0, .slice none 0 0, .slice none 0 0, .slice none 0 0] 31) := ⟨_, rfl⟩
  have g0 : Below w0.heap.size w0 W := by rw [hW]; exact (((Below.refl _ _).alloc (Nat.le_refl _) _).alloc (by simp) _).alloc (by simp; omega) _
  have k1 : Blk W w0.heap.size 31 #[.int .i64 p, .int .i64 q.v, .slice A q.f.length a, .slice C q.t.length c, .slice Ea q.v.toNat ea, .slice Ha q.f.length ha_] := by rw [hW]; exact ((Blk.new _ _ _).alloc _).alloc _
  have k2 : Blk W (w0.heap.size + 1) 31 #[.int .i64 p, .int .i64 q.v, .slice A2 q.f.length a2, .slice C2 q.t.length c2, .slice Eb q.v.toNat eb, .slice Hb q.f.length hb_] := by
    rw [hW]
    have := (Blk.new (w0.alloc (.cells #[.int .i64 p, .int .i64 q.v, .slice A q.f.length a, .slice C q.t.length c, .slice Ea q.v.toNat ea, .slice Ha q.f.length ha_] 31)) 31 #[.int .i64 p, .int .i64 q.v, .slice A2 q.f.length a2, .slice C2 q.t.length c2, .slice Eb q.v.toNat eb, .slice Hb q.f.length hb_]).alloc (.cells #[.int .i64 0, .int .i64 0, .slice none 0 0, .slice none 0 0, .slice none 0 0, .slice none 0 0] 31)
    simpa only [World.size_alloc] using this
  have k3 : Blk W (w0.heap.size + 1 + 1) 31 #[.int .i64 0, .int .i64 0, .slice none 0 0, .slice none 0 0, .slice none 0 0, .slice none 0 0] := by
    rw [hW]
    have := Blk.new ((w0.alloc (.cells #[.int .i64 p, .int .i64 q.v, .slice A q.f.length a, .slice C q.t.length c, .slice Ea q.v.toNat ea, .slice Ha q.f.length ha_] 31)).alloc (.cells #[.int .i64 p, .int .i64 q.v, .slice A2 q.f.length a2, .slice C2 q.t.length c2, .slice Eb q.v.toNat eb, .slice Hb q.f.length hb_] 31)) 31 #[.int .i64 0, .int .i64 0, .slice none 0 0, .slice none 0 0, .slice none 0 0, .slice none 0 0]
    simpa only [World.size_alloc] using this
  have sz : W.heap.size = w0.heap.size + 1 + 1 + 1 := by rw [hW]; simp
  have SZ := Lib.hid sz
  clear sz
  have HA := Lib.hid (RpR.next g0 ha')
  have HDB := Lib.hid (SlI.next g0 hdb)
  have HMA := Lib.hid (SlM.next g0 hma)
  have HMB := Lib.hid (SlM.next g0 hmb)
  clear ha' hdb hma hmb
  obtain ⟨V, hV⟩ : ∃ V, q.v.toNat = V := ⟨_, rfl⟩
  rw [hV] at k1 k2 hD hD' hV5 HA HDB hW
  have HV := Lib.hid hV
  rw [hV]
  clear hV
  have z0 := k1.cell' (i := 0) rfl
  have z1 := k1.cell' (i := 1) rfl
  have z2 := k1.cell' (i := 2) rfl
  have z3 := k1.cell' (i := 3) rfl
  have z4 := k1.cell' (i := 4) rfl
  have z5 := k1.cell' (i := 5) rfl
  go_enter Try.func102, Try.ntmps102
  go_wp2_with fail
  rw [← hW]; clear hW
  refine (repClone_any _ (rpF p q D E) _ (by have := HA.out; rwa [← HV.out] at this ⊢) (by simp only [rpF, msF_length]; omega)).mono ?_; rintro e w1 ⟨v1, rfl, hO, hb1⟩
  have s1 := hb1.size
  obtain ⟨A1, a1, C1, c1, E1, e1, H1, h1, rfl⟩ := hO.form
  simp only [rpF, rowF_length, msF_length] at hO ⊢
  rw [HV.out] at hO ⊢
  have k1' := k1.call hb1
  have k2' := k2.call hb1
  have k3' := k3.call hb1
  have gR := Blk.new w1 31 #[.int .i64 p, .int .i64 q.v, .slice A1 q.f.length a1, .slice C1 q.t.length c1, .slice E1 V e1, .slice H1 q.f.length h1]
  obtain ⟨W2, hW2⟩ : ∃ W2, w1.alloc (.cells #[.int .i64 p, .int .i64 q.v, .slice A1 q.f.length a1, .slice C1 q.t.length c1, .slice E1 V e1, .slice H1 q.f.length h1] 31) = W2 := ⟨_, rfl⟩
  have ga : Below w1.heap.size w1 W2 := by rw [← hW2]; exact below_alloc _ _
  rw [hW2] at gR
  have z24 := (k2'.call ga).cell' (i := 4) rfl
  have gW2 : Below W.heap.size W W2 := hb1.trans (ga.mono s1)
  have sW2 : W2.heap.size = w1.heap.size + 1 := by rw [← hW2]; simp
  have hO2 := hO.below ga
  have K1 := Lib.hid k1
  have K2 := Lib.hid k2
  have K3 := Lib.hid k3
  have G0 := Lib.hid g0
  clear k1 k2 k3 g0 k1' k2' k3' z0 z1 z2 z3 z4 z5 hO hb1 ga
  go_wp2
  go_loopw [6, 7, 15] (fun _ _ i wr => ∃ k : Nat, k ≤ V ∧ i = .int .i64 k ∧ Below W.heap.size W wr ∧ wr.heap.size = w1.heap.size + 1 ∧ Blk wr w1.heap.size 31 #[.int .i64 p, .int .i64 q.v, .slice A1 q.f.length a1, .slice C1 q.t.length c1, .slice E1 V e1, .slice H1 q.f.length h1] ∧
    RepO wr W.heap.size w1.heap.size (.agg #[.int .i64 p, .int .i64 q.v, .slice A1 q.f.length a1, .slice C1 q.t.length c1, .slice E1 V e1, .slice H1 q.f.length h1]) ⟨p, q, rowF V fun v => ((addK D D' k v : Nat) : Int), msF q.f.length fun i => mxF (D (tN q i)) (D (fN q i)) (E i)⟩) (fun _ _ i _ => V - (intOf i).toNat)
  case atStart => exact ⟨0, Nat.zero_le _, rfl, gW2, sW2, gR, hO2⟩
  case round =>
    clear gR gW2 hO2 z24
    obtain ⟨k, hk, rfl, gW, hsz, hB, hR⟩ := hrel
    have HDk := Lib.hid hD
    have HDk' := Lib.hid hD'
    clear hD hD'
    have gws := gW.size
    by_cases hlt : k < V
    · obtain ⟨bd, od, y, eD, hbd, HY, y1, _⟩ := SlI.at_ (k := k) (xs := rowF V fun v => ((D' v : Nat) : Int)) (by rw [rowF_length]; exact HDB.out) (by rw [rowF_length]; exact hlt)
      have hy : y = ((D' k : Nat) : Int) := by
        have := HY.out
        rw [rowF_get _ hlt] at this
        injection this with this
        exact this.symm
      subst hy eD
      clear HY
      have y2 := bcell gW hbd y1
      obtain ⟨g, cE, eE, hg1, hg2, x1, x2, _⟩ := hR.dimAt (j := k) (by simp only [rowF_length]; exact hlt)
      simp only [rowF_length] at eE
      injection eE with eE1 _ eE2
      subst eE1 eE2
      have ex : (rowF V fun v => ((addK D D' k v : Nat) : Int)).getD k 0 = ((D k : Nat) : Int) := by rw [rowF_getD _ hlt, addK, if_neg (by omega)]
      simp only [ex] at x1
      clear ex y1
      have b1 := HDk.out k hlt
      have b2 := HDk'.out k hlt
      have c4 := hB.cell' (i := 4) rfl
      have hg3 : g < wr.heap.size := by omega
      have HR := Lib.hid hR
      have hBs := Lib.hid (hB.far (p := ⟨g, k, none⟩) (by simp; omega) (.int .i64 ((D k : Int) + (D' k : Int))))
      clear hR hB
      go_wp2
      go_roundw
      case rel =>
        have h1 := (HR.out.setDim (j := k) (y := (D k : Int) + (D' k : Int)) (by simp only [I64]; omega)).1
        simp only [addK_set] at h1
        exact ⟨k + 1, by omega, by go_num, gW.setCell (by simp; omega) _, by simp [hsz], hBs.out, h1⟩
      case measure => simp [intOf]; omega
    · obtain rfl : k = V := by omega
      rw [addK_end] at hR
      have z25 := (K2.out.call gW).cell' (i := 5) rfl
      have gR2 := hB
      have hR2 := hR.wider (Nat.le_refl _) (show w1.heap.size ≤ wr.heap.size by omega)
      rw [← dsMs_0 q D D' E E'] at hR2
      have hs2 : w1.heap.size < wr.heap.size := by omega
      obtain ⟨W4, hW4⟩ : ∃ W4, W4 = wr := ⟨_, rfl⟩
      rw [← hW4] at gR2 hR2 hs2 gW z25 ⊢
      clear hR hB hW4
      go_wp2
      go_loopw [8, 32] (fun _ i wr => ∃ j : Nat, j ≤ q.f.length ∧ i = .int .i64 j ∧ Below W.heap.size W wr ∧ w1.heap.size < wr.heap.size ∧ Blk wr w1.heap.size 31 #[.int .i64 p, .int .i64 q.v, .slice A1 q.f.length a1, .slice C1 q.t.length c1, .slice E1 k e1, .slice H1 q.f.length h1] ∧
        RepO wr W.heap.size wr.heap.size (.agg #[.int .i64 p, .int .i64 q.v, .slice A1 q.f.length a1, .slice C1 q.t.length c1, .slice E1 k e1, .slice H1 q.f.length h1]) ⟨p, q, rowF k fun v => ((D v + D' v : Nat) : Int), msF q.f.length (dsMs q D D' E E' j)⟩) (fun _ i _ => q.f.length - (intOf i).toNat)
      case atStart => exact ⟨0, Nat.zero_le _, rfl, gW, hs2, gR2, hR2⟩
      case round =>
        clear gR2 gW hR2 hs2 z25
        obtain ⟨j, hj, rfl, gW, hs2, hB, hR⟩ := hrel
        have gws := gW.size
        by_cases hlt : j < q.f.length
        · obtain ⟨bA, oA, MA, ma, LA, eA, hbA, x0, x1, x2, hxa⟩ := mxF_at HMA.out hlt rfl
          obtain ⟨bB, oB, MB, mb, LB, eB, hbB, y0, y1, y2, hxb⟩ := mxF_at HMB.out hlt rfl
          subst eA eB
          obtain ⟨_, _, lf, lt⟩ := q_ends HQ.out hlt
          rw [HV.out] at lf lt
          have b1 := HDk.out _ lf
          have b2 := HDk.out _ lt
          have b3 := HDk'.out _ lf
          have b4 := HDk'.out _ lt
          clear lf lt
          obtain ⟨g, cM, sM, eM, hg1, hg2, v0, v1, v2, _, hfz, _⟩ := hR.mxAt (j := j) (by simp only []; exact msF_get _ hlt)
          simp only [msF_length] at eM
          injection eM with eM1 _ eM2
          subst eM1 eM2
          have y0' := bcell gW hbB y0
          have y1' := bcell gW hbB y1
          have y2' := bcell gW hbB y2
          have x0' := bcell gW hbA x0
          have x1' := bcell gW hbA x1
          have x2' := bcell gW hbA x2
          have kA := K1.out.call gW
          have kB := K2.out.call gW
          have z25 := kB.cell' (i := 5) rfl
          have gwa := below_alloc wr (.cells #[.int .i64 ((D' (tN q j) : Nat) : Int), .int .i64 ((D' (fN q j) : Nat) : Int), .slice MB LB mb] 84)
          have kM := Blk.new wr 84 #[.int .i64 ((D' (tN q j) : Nat) : Int), .int .i64 ((D' (fN q j) : Nat) : Int), .slice MB LB mb]
          obtain ⟨W5, hW5⟩ : ∃ W5, wr.alloc (.cells #[.int .i64 ((D' (tN q j) : Nat) : Int), .int .i64 ((D' (fN q j) : Nat) : Int), .slice MB LB mb] 84) = W5 := ⟨_, rfl⟩
          have s5 : W5.heap.size = wr.heap.size + 1 := by rw [← hW5]; simp
          rw [hW5] at gwa kM
          have HXA := Lib.hid (show MxR W5 W5.heap.size _ _ from MxR.more (by omega) (MxR.below (gW.trans (gwa.mono gws)) hxa))
          have HXB := Lib.hid (show MxR W5 W5.heap.size _ _ from MxR.more (by omega) (MxR.below (gW.trans (gwa.mono gws)) hxb))
          replace kA := kA.call gwa
          have kO := hB.call gwa
          have HR := Lib.hid (hR.below gwa)
          have GW := Lib.hid (gW.trans (gwa.mono gws))
          have v0' := bcell gwa (show g < wr.heap.size by omega) v0
          have v1' := bcell gwa (show g < wr.heap.size by omega) v1
          have v2' := bcell gwa (show g < wr.heap.size by omega) v2
          have wa0 := bcell gwa (show bA < wr.heap.size by omega) x0'
          have wa1 := bcell gwa (show bA < wr.heap.size by omega) x1'
          have wa2 := bcell gwa (show bA < wr.heap.size by omega) x2'
          have hbA5 : bA < W5.heap.size := by omega
          have hg5 : g < W5.heap.size := by omega
          have kA5 := kA.cell' (i := 5) rfl
          clear x0 x1 x2 y0 y1 y2 v0 v1 v2 x0' x1' x2' hxa hxb hR hB gW kB
          go_wp2
          clear hW5
          refine wp_region_net (by kernel_rfl) [.eq (.pointer (some ⟨w1.heap.size, 5, none⟩)), .eq (.slice (some ⟨g, 0, none⟩) q.f.length h1), .eq (.int .i64 j), .eq (.pointer (some ⟨w0.heap.size, 5, none⟩)), .eq (.slice (some ⟨bA, oA, none⟩) q.f.length ha_), .eq (.int .i64 j), .eq (.pointer (some ⟨bA, oA + j * 3, none⟩)), .eq (.agg #[.int .i64 ((D (tN q j) : Nat) : Int), .int .i64 ((D (fN q j) : Nat) : Int), .slice MA LA ma]), .eq (.pointer (some ⟨w0.heap.size, 5, none⟩)), .eq (.slice (some ⟨bA, oA, none⟩) q.f.length ha_), .eq (.int .i64 j), .eq (.pointer (some ⟨bA, oA + j * 3, none⟩)), .eq (.pointer (some ⟨bA, oA + j * 3, none⟩)), .eq (.int .i64 ((D (tN q j) : Nat) : Int)), .eq (.pointer (some ⟨wr.heap.size, 1, none⟩)), .eq (.int .i64 ((D' (fN q j) : Nat) : Int)), rel 16 (fun u lo hi w => MxO w lo hi u (mxF (D (tN q j)) (D' (fN q j)) (fun _ _ => 0))), .eq (.agg #[.int .i64 ((D' (tN q j) : Nat) : Int), .int .i64 ((D' (fN q j) : Nat) : Int), .slice MB LB mb]), rel 18 (fun u lo hi w => MxO w lo hi u (mxF (D (tN q j) + D' (tN q j)) (D (fN q j) + D' (fN q j)) (dsE (D (tN q j)) (D (fN q j)) (E j) (E' j))))] [[], [0], [], [], [3], [], [3, 4, 5], [3, 4, 5, 6], [], [8], [], [8, 9, 10], [8, 9, 10, 11], [8, 9, 10, 11, 12], [], [14], [8, 9, 10, 11, 12, 13, 14, 15], [], [3, 4, 5, 6, 7, 8, 9, 10, 11, 12, 13, 14, 15, 16, 17], [0, 1, 2, 3, 4, 5, 6, 7, 8, 9, 10, 11, 12, 13, 14, 15, 16, 17, 18], [0, 1, 2, 3, 4, 5, 6, 7, 8, 9, 10, 11, 12, 13, 14, 15, 16, 17, 18, 19]] 19 (by kernel_rfl) ⟨trivial, trivial, trivial, trivial, trivial, trivial, trivial, trivial, trivial, trivial, trivial, trivial, trivial, trivial, trivial, trivial, rel_stable (fun u lo hi w w' h hb => h.below hb), trivial, rel_stable (fun u lo hi w w' h hb => h.below hb), trivial⟩ ⟨?_, ?_, ?_, ?_, ?_, ?_, ?_, ?_, ?_, ?_, ?_, ?_, ?_, ?_, ?_, ?_, ?_, ?_, ?_, trivial⟩ ?_
          · intro x w hb hk Q' hQ
            clear hk
            simp only [netAct, dstAt, List.getElem?_toArray, List.getElem?_cons_zero, List.getElem?_cons_succ, Option.bind_some, Act.put, List.setIfInBounds_toArray, List.set_cons_zero, List.set_cons_succ] at hQ ⊢
            go_wp2
            exact hQ (.pointer (some ⟨w1.heap.size, 5, none⟩)) _ (Below.refl _ _) rfl
          · intro x w hb hk Q' hQ
            have h0 : x.v 0 = .pointer (some ⟨w1.heap.size, 5, none⟩) := (hk 0 (by decide)).1
            clear hk
            simp only [netAct, dstAt, List.getElem?_toArray, List.getElem?_cons_zero, List.getElem?_cons_succ, Option.bind_some, Act.put, List.setIfInBounds_toArray, List.set_cons_zero, List.set_cons_succ] at hQ ⊢
            simp only [h0] at hQ ⊢
            clear h0
            have z := (kO.call hb).cell' (i := 5) rfl
            go_wp2
            exact hQ (.slice (some ⟨g, 0, none⟩) q.f.length h1) _ (Below.refl _ _) rfl
          · intro x w hb hk Q' hQ
            clear hk
            simp only [netAct, dstAt, List.getElem?_toArray, List.getElem?_cons_zero, List.getElem?_cons_succ, Option.bind_some, Act.put, List.setIfInBounds_toArray, List.set_cons_zero, List.set_cons_succ] at hQ ⊢
            go_wp2
            exact hQ (.int .i64 j) _ (Below.refl _ _) rfl
          · intro x w hb hk Q' hQ
            clear hk
            simp only [netAct, dstAt, List.getElem?_toArray, List.getElem?_cons_zero, List.getElem?_cons_succ, Option.bind_some, Act.put, List.setIfInBounds_toArray, List.set_cons_zero, List.set_cons_succ] at hQ ⊢
            go_wp2
            exact hQ (.pointer (some ⟨w0.heap.size, 5, none⟩)) _ (Below.refl _ _) rfl
          · intro x w hb hk Q' hQ
            have h3 : x.v 3 = .pointer (some ⟨w0.heap.size, 5, none⟩) := (hk 3 (by decide)).1
            clear hk
            simp only [netAct, dstAt, List.getElem?_toArray, List.getElem?_cons_zero, List.getElem?_cons_succ, Option.bind_some, Act.put, List.setIfInBounds_toArray, List.set_cons_zero, List.set_cons_succ] at hQ ⊢
            simp only [h3] at hQ ⊢
            clear h3
            have z := (kA.call hb).cell' (i := 5) rfl
            go_wp2
            exact hQ (.slice (some ⟨bA, oA, none⟩) q.f.length ha_) _ (Below.refl _ _) rfl
          · intro x w hb hk Q' hQ
            clear hk
            simp only [netAct, dstAt, List.getElem?_toArray, List.getElem?_cons_zero, List.getElem?_cons_succ, Option.bind_some, Act.put, List.setIfInBounds_toArray, List.set_cons_zero, List.set_cons_succ] at hQ ⊢
            go_wp2
            exact hQ (.int .i64 j) _ (Below.refl _ _) rfl
          · intro x w hb hk Q' hQ
            have h4 : x.v 4 = .slice (some ⟨bA, oA, none⟩) q.f.length ha_ := (hk 4 (by decide)).1
            have h5 : x.v 5 = .int .i64 j := (hk 5 (by decide)).1
            clear hk
            simp only [netAct, dstAt, List.getElem?_toArray, List.getElem?_cons_zero, List.getElem?_cons_succ, Option.bind_some, Act.put, List.setIfInBounds_toArray, List.set_cons_zero, List.set_cons_succ] at hQ ⊢
            simp only [h4, h5] at hQ ⊢
            clear h4 h5
            go_wp2
            exact hQ (.pointer (some ⟨bA, oA + j * 3, none⟩)) _ (Below.refl _ _) rfl
          · intro x w hb hk Q' hQ
            have h6 : x.v 6 = .pointer (some ⟨bA, oA + j * 3, none⟩) := (hk 6 (by decide)).1
            clear hk
            simp only [netAct, dstAt, List.getElem?_toArray, List.getElem?_cons_zero, List.getElem?_cons_succ, Option.bind_some, Act.put, List.setIfInBounds_toArray, List.set_cons_zero, List.set_cons_succ] at hQ ⊢
            simp only [h6] at hQ ⊢
            clear h6
            have y0 := bcell hb hbA5 wa0
            have y1 := bcell hb hbA5 wa1
            have y2 := bcell hb hbA5 wa2
            go_wp2
            exact hQ (.agg #[.int .i64 ((D (tN q j) : Nat) : Int), .int .i64 ((D (fN q j) : Nat) : Int), .slice MA LA ma]) _ (Below.refl _ _) rfl
          · intro x w hb hk Q' hQ
            clear hk
            simp only [netAct, dstAt, List.getElem?_toArray, List.getElem?_cons_zero, List.getElem?_cons_succ, Option.bind_some, Act.put, List.setIfInBounds_toArray, List.set_cons_zero, List.set_cons_succ] at hQ ⊢
            go_wp2
            exact hQ (.pointer (some ⟨w0.heap.size, 5, none⟩)) _ (Below.refl _ _) rfl
          · intro x w hb hk Q' hQ
            have h8 : x.v 8 = .pointer (some ⟨w0.heap.size, 5, none⟩) := (hk 8 (by decide)).1
            clear hk
            simp only [netAct, dstAt, List.getElem?_toArray, List.getElem?_cons_zero, List.getElem?_cons_succ, Option.bind_some, Act.put, List.setIfInBounds_toArray, List.set_cons_zero, List.set_cons_succ] at hQ ⊢
            simp only [h8] at hQ ⊢
            clear h8
            have z := (kA.call hb).cell' (i := 5) rfl
            go_wp2
            exact hQ (.slice (some ⟨bA, oA, none⟩) q.f.length ha_) _ (Below.refl _ _) rfl
          · intro x w hb hk Q' hQ
            clear hk
            simp only [netAct, dstAt, List.getElem?_toArray, List.getElem?_cons_zero, List.getElem?_cons_succ, Option.bind_some, Act.put, List.setIfInBounds_toArray, List.set_cons_zero, List.set_cons_succ] at hQ ⊢
            go_wp2
            exact hQ (.int .i64 j) _ (Below.refl _ _) rfl
          · intro x w hb hk Q' hQ
            have h9 : x.v 9 = .slice (some ⟨bA, oA, none⟩) q.f.length ha_ := (hk 9 (by decide)).1
            have h10 : x.v 10 = .int .i64 j := (hk 10 (by decide)).1
            clear hk
            simp only [netAct, dstAt, List.getElem?_toArray, List.getElem?_cons_zero, List.getElem?_cons_succ, Option.bind_some, Act.put, List.setIfInBounds_toArray, List.set_cons_zero, List.set_cons_succ] at hQ ⊢
            simp only [h9, h10] at hQ ⊢
            clear h9 h10
            go_wp2
            exact hQ (.pointer (some ⟨bA, oA + j * 3, none⟩)) _ (Below.refl _ _) rfl
          · intro x w hb hk Q' hQ
            have h11 : x.v 11 = .pointer (some ⟨bA, oA + j * 3, none⟩) := (hk 11 (by decide)).1
            clear hk
            simp only [netAct, dstAt, List.getElem?_toArray, List.getElem?_cons_zero, List.getElem?_cons_succ, Option.bind_some, Act.put, List.setIfInBounds_toArray, List.set_cons_zero, List.set_cons_succ] at hQ ⊢
            simp only [h11] at hQ ⊢
            clear h11
            go_wp2
            exact hQ (.pointer (some ⟨bA, oA + j * 3, none⟩)) _ (Below.refl _ _) rfl
          · intro x w hb hk Q' hQ
            have h12 : x.v 12 = .pointer (some ⟨bA, oA + j * 3, none⟩) := (hk 12 (by decide)).1
            clear hk
            simp only [netAct, dstAt, List.getElem?_toArray, List.getElem?_cons_zero, List.getElem?_cons_succ, Option.bind_some, Act.put, List.setIfInBounds_toArray, List.set_cons_zero, List.set_cons_succ] at hQ ⊢
            simp only [h12] at hQ ⊢
            clear h12
            have y0 := bcell hb hbA5 wa0
            go_wp2
            exact hQ (.int .i64 ((D (tN q j) : Nat) : Int)) _ (Below.refl _ _) rfl
          · intro x w hb hk Q' hQ
            clear hk
            simp only [netAct, dstAt, List.getElem?_toArray, List.getElem?_cons_zero, List.getElem?_cons_succ, Option.bind_some, Act.put, List.setIfInBounds_toArray, List.set_cons_zero, List.set_cons_succ] at hQ ⊢
            go_wp2
            exact hQ (.pointer (some ⟨wr.heap.size, 1, none⟩)) _ (Below.refl _ _) rfl
          · intro x w hb hk Q' hQ
            have h14 : x.v 14 = .pointer (some ⟨wr.heap.size, 1, none⟩) := (hk 14 (by decide)).1
            clear hk
            simp only [netAct, dstAt, List.getElem?_toArray, List.getElem?_cons_zero, List.getElem?_cons_succ, Option.bind_some, Act.put, List.setIfInBounds_toArray, List.set_cons_zero, List.set_cons_succ] at hQ ⊢
            simp only [h14] at hQ ⊢
            clear h14
            have z := (kM.call hb).cell' (i := 1) rfl
            go_wp2
            exact hQ (.int .i64 ((D' (fN q j) : Nat) : Int)) _ (Below.refl _ _) rfl
          · intro x w hb hk Q' hQ
            have h8 : x.v 8 = .pointer (some ⟨w0.heap.size, 5, none⟩) := (hk 8 (by decide)).1
            have h9 : x.v 9 = .slice (some ⟨bA, oA, none⟩) q.f.length ha_ := (hk 9 (by decide)).1
            have h10 : x.v 10 = .int .i64 j := (hk 10 (by decide)).1
            have h11 : x.v 11 = .pointer (some ⟨bA, oA + j * 3, none⟩) := (hk 11 (by decide)).1
            have h12 : x.v 12 = .pointer (some ⟨bA, oA + j * 3, none⟩) := (hk 12 (by decide)).1
            have h13 : x.v 13 = .int .i64 ((D (tN q j) : Nat) : Int) := (hk 13 (by decide)).1
            have h14 : x.v 14 = .pointer (some ⟨wr.heap.size, 1, none⟩) := (hk 14 (by decide)).1
            have h15 : x.v 15 = .int .i64 ((D' (fN q j) : Nat) : Int) := (hk 15 (by decide)).1
            clear hk
            simp only [netAct, dstAt, List.getElem?_toArray, List.getElem?_cons_zero, List.getElem?_cons_succ, Option.bind_some, Act.put, List.setIfInBounds_toArray, List.set_cons_zero, List.set_cons_succ] at hQ ⊢
            simp only [h8, h9, h10, h11, h12, h13, h14, h15] at hQ ⊢
            clear h8 h9 h10 h11 h12 h13 h14 h15
            go_wp2_with fail
            refine (zero_any (D (tN q j)) (D' (fN q j)) _ (by omega) (by omega) (by omega) (by omega)).mono ?_; rintro e w7 ⟨v7, rfl, ho, hb7⟩
            rw [zmx_flat] at ho
            go_wp2
            exact hQ _ _ hb7 ho
          · intro x w hb hk Q' hQ
            clear hk
            simp only [netAct, dstAt, List.getElem?_toArray, List.getElem?_cons_zero, List.getElem?_cons_succ, Option.bind_some, Act.put, List.setIfInBounds_toArray, List.set_cons_zero, List.set_cons_succ] at hQ ⊢
            have y0 := (kM.call hb).cell' (i := 0) rfl
            have y1 := (kM.call hb).cell' (i := 1) rfl
            have y2 := (kM.call hb).cell' (i := 2) rfl
            go_wp2
            exact hQ (.agg #[.int .i64 ((D' (tN q j) : Nat) : Int), .int .i64 ((D' (fN q j) : Nat) : Int), .slice MB LB mb]) _ (Below.refl _ _) rfl
          · intro x w hb hk Q' hQ
            have h3 : x.v 3 = .pointer (some ⟨w0.heap.size, 5, none⟩) := (hk 3 (by decide)).1
            have h4 : x.v 4 = .slice (some ⟨bA, oA, none⟩) q.f.length ha_ := (hk 4 (by decide)).1
            have h5 : x.v 5 = .int .i64 j := (hk 5 (by decide)).1
            have h6 : x.v 6 = .pointer (some ⟨bA, oA + j * 3, none⟩) := (hk 6 (by decide)).1
            have h7 : x.v 7 = .agg #[.int .i64 ((D (tN q j) : Nat) : Int), .int .i64 ((D (fN q j) : Nat) : Int), .slice MA LA ma] := (hk 7 (by decide)).1
            have h8 : x.v 8 = .pointer (some ⟨w0.heap.size, 5, none⟩) := (hk 8 (by decide)).1
            have h9 : x.v 9 = .slice (some ⟨bA, oA, none⟩) q.f.length ha_ := (hk 9 (by decide)).1
            have h10 : x.v 10 = .int .i64 j := (hk 10 (by decide)).1
            have h11 : x.v 11 = .pointer (some ⟨bA, oA + j * 3, none⟩) := (hk 11 (by decide)).1
            have h12 : x.v 12 = .pointer (some ⟨bA, oA + j * 3, none⟩) := (hk 12 (by decide)).1
            have h13 : x.v 13 = .int .i64 ((D (tN q j) : Nat) : Int) := (hk 13 (by decide)).1
            have h14 : x.v 14 = .pointer (some ⟨wr.heap.size, 1, none⟩) := (hk 14 (by decide)).1
            have h15 : x.v 15 = .int .i64 ((D' (fN q j) : Nat) : Int) := (hk 15 (by decide)).1
            have h16 : MxO w (x.lo 16) (x.hi 16) (x.v 16) (mxF (D (tN q j)) (D' (fN q j)) (fun _ _ => 0)) := (hk 16 (by decide)).1
            have h17 : x.v 17 = .agg #[.int .i64 ((D' (tN q j) : Nat) : Int), .int .i64 ((D' (fN q j) : Nat) : Int), .slice MB LB mb] := (hk 17 (by decide)).1
            have s16 := (hk 16 (by decide)).2
            clear hk
            simp only [netAct, dstAt, List.getElem?_toArray, List.getElem?_cons_zero, List.getElem?_cons_succ, Option.bind_some, Act.put, List.setIfInBounds_toArray, List.set_cons_zero, List.set_cons_succ] at hQ ⊢
            simp only [h3, h4, h5, h6, h7, h8, h9, h10, h11, h12, h13, h14, h15, h17] at hQ ⊢
            clear h3 h4 h5 h6 h7 h8 h9 h10 h11 h12 h13 h14 h15 h17
            have H16 := Lib.hid h16.rd
            obtain ⟨A16, c16, e16⟩ := h16.form
            rw [e16] at H16 hQ ⊢
            go_wp2_with fail
            refine (blocks_any _ _ _ (D (tN q j)) (D' (tN q j)) (D (fN q j)) (D' (fN q j)) (E j) (fun _ _ => 0) (E' j) _ (MxR.next hb HXA.out) H16.out (MxR.next hb HXB.out) (by omega) (by omega) (by omega) (by omega)).mono ?_; rintro e w7 ⟨v7, rfl, ho, hb7⟩
            go_wp2
            exact hQ _ _ hb7 ho
          · intro x w hb hk hiv hdj
            have h0 : x.v 0 = .pointer (some ⟨w1.heap.size, 5, none⟩) := hk 0 (by decide)
            have h1 : x.v 1 = .slice (some ⟨g, 0, none⟩) q.f.length h1 := hk 1 (by decide)
            have h2 : x.v 2 = .int .i64 j := hk 2 (by decide)
            have h3 : x.v 3 = .pointer (some ⟨w0.heap.size, 5, none⟩) := hk 3 (by decide)
            have h4 : x.v 4 = .slice (some ⟨bA, oA, none⟩) q.f.length ha_ := hk 4 (by decide)
            have h5 : x.v 5 = .int .i64 j := hk 5 (by decide)
            have h6 : x.v 6 = .pointer (some ⟨bA, oA + j * 3, none⟩) := hk 6 (by decide)
            have h7 : x.v 7 = .agg #[.int .i64 ((D (tN q j) : Nat) : Int), .int .i64 ((D (fN q j) : Nat) : Int), .slice MA LA ma] := hk 7 (by decide)
            have h8 : x.v 8 = .pointer (some ⟨w0.heap.size, 5, none⟩) := hk 8 (by decide)
            have h9 : x.v 9 = .slice (some ⟨bA, oA, none⟩) q.f.length ha_ := hk 9 (by decide)
            have h10 : x.v 10 = .int .i64 j := hk 10 (by decide)
            have h11 : x.v 11 = .pointer (some ⟨bA, oA + j * 3, none⟩) := hk 11 (by decide)
            have h12 : x.v 12 = .pointer (some ⟨bA, oA + j * 3, none⟩) := hk 12 (by decide)
            have h13 : x.v 13 = .int .i64 ((D (tN q j) : Nat) : Int) := hk 13 (by decide)
            have h14 : x.v 14 = .pointer (some ⟨wr.heap.size, 1, none⟩) := hk 14 (by decide)
            have h15 : x.v 15 = .int .i64 ((D' (fN q j) : Nat) : Int) := hk 15 (by decide)
            have h16 : MxO w (x.lo 16) (x.hi 16) (x.v 16) (mxF (D (tN q j)) (D' (fN q j)) (fun _ _ => 0)) := hk 16 (by decide)
            have h17 : x.v 17 = .agg #[.int .i64 ((D' (tN q j) : Nat) : Int), .int .i64 ((D' (fN q j) : Nat) : Int), .slice MB LB mb] := hk 17 (by decide)
            have h18 : MxO w (x.lo 18) (x.hi 18) (x.v 18) (mxF (D (tN q j) + D' (tN q j)) (D (fN q j) + D' (fN q j)) (dsE (D (tN q j)) (D (fN q j)) (E j) (E' j))) := hk 18 (by decide)
            clear hk
            simp only [netAct, dstAt, List.getElem?_toArray, List.getElem?_cons_zero, List.getElem?_cons_succ, Option.bind_some, Act.put, List.setIfInBounds_toArray, List.set_cons_zero, List.set_cons_succ]
            simp only [List.drop_succ_cons, List.drop_zero, h0, h1, h2, h3, h4, h5, h6, h7, h8, h9, h10, h11, h12, h13, h14, h15, h17]
            clear h0 h1 h2 h3 h4 h5 h6 h7 h8 h9 h10 h11 h12 h13 h14 h15 h17
            obtain ⟨l18, l18m, l18h⟩ := hiv 18 (by decide)
            obtain ⟨A18, c18, e18⟩ := h18.form
            obtain ⟨N, hN⟩ : ∃ N, (mxF (D (tN q j) + D' (tN q j)) (D (fN q j) + D' (fN q j)) (dsE (D (tN q j)) (D (fN q j)) (E j) (E' j))).a.length = N := ⟨_, rfl⟩
            rw [hN] at e18
            simp only [mxF] at e18
            rw [e18] at h18 ⊢
            clear hiv hdj e18 hN h16
            have hbs := hb.size
            have hRw := (HR.out).below hb
            obtain ⟨cs, hbM⟩ := hRw.mBlk
            have kOw := kO.call hb
            have hne := hbM.apart kOw (by decide)
            have t0 := bcell hb hg5 v0'
            have t1 := bcell hb hg5 v1'
            have t2 := bcell hb hg5 v2'
            have fr := hbM.frozen
            have h2 := (RepO.setMx (j := j) hRw (by simp only [msF_length]; exact hlt) h18 (by omega) l18m (by omega)).1
            have hch := chg_set3 w g (j * 3) (.int .i64 ((D (tN q j) + D' (tN q j) : Nat) : Int)) (.int .i64 ((D (fN q j) + D' (fN q j) : Nat) : Int)) (.slice A18 N c18)
            simp only [dsMs_set] at h2
            have H2 := Lib.hid (h2.wider (Nat.le_refl _) l18h)
            have KO := Lib.hid (kOw.chg hch (by omega))
            have GF := Lib.hid ((GW.out.trans (hb.mono GW.out.size)).trans (hch.below (B := W.heap.size) hg1 (by omega)))
            clear h2 hch kOw hRw h18 hbM kO kA kM hb HR
            go_wp2
            go_roundw
            case rel => exact ⟨j + 1, by omega, by go_num, GF.out, by simp; omega, KO.out, by simpa using H2.out⟩
            case measure => simp [intOf]; omega
        · obtain rfl : j = q.f.length := by omega
          rw [dsMs_end] at hR
          have kz := K3.out.call gW
          have fr := kz.frozen
          have s0 := kz.cell' (i := 0) rfl
          have s1 := kz.cell' (i := 1) rfl
          have s2 := kz.cell' (i := 2) rfl
          have s3 := kz.cell' (i := 3) rfl
          have s4 := kz.cell' (i := 4) rfl
          have s5 := kz.cell' (i := 5) rfl
          have r0 := hB.cell' (i := 0) rfl
          have r1 := hB.cell' (i := 1) rfl
          have r2 := hB.cell' (i := 2) rfl
          have r3 := hB.cell' (i := 3) rfl
          have r4 := hB.cell' (i := 4) rfl
          have r5 := hB.cell' (i := 5) rfl
          have z25 := (K2.out.call gW).cell' (i := 5) rfl
          have sz := SZ.out
          have gf := G0.out.trans (gW.mono G0.out.size)
          have hc := chg6 wr (w0.heap.size + 1 + 1) (.int .i64 p) (.int .i64 q.v) (.slice A1 q.f.length a1) (.slice C1 q.t.length c1) (.slice E1 k e1) (.slice H1 q.f.length h1)
          have OF := Lib.hid ((hR.chg hc (.inr (by omega))).wider (lo' := w0.heap.size) (hi' := wr.heap.size) (by omega) (Nat.le_refl _))
          have GF := Lib.hid (gf.trans (hc.below (by omega) gf.size))
          have hneq : w1.heap.size ≠ w0.heap.size + 1 + 1 := by omega
          clear hR hB kz gf hc
          go_wp2
          exact bodyPost_ret (v := .agg #[.int .i64 p, .int .i64 q.v, .slice A1 q.f.length a1, .slice C1 q.t.length c1, .slice E1 k e1, .slice H1 q.f.length h1]) (by simp [results, go_sem, s0, s1, s2, s3, s4, s5]) rfl ⟨_, rfl, by have := OF.out.wider (Nat.le_refl _) (Nat.le_refl _); simpa using this, GF.out⟩
end Go.Proofs.Ytcmlflppndfdcaa

/- Writes into representations of the reference's making: a matrix put in its place, a number put into a matrix. -/
namespace Go.Proofs.Ytcmlflppndfdcaa
set_option linter.unusedVariables false
set_option linter.unusedSimpArgs false
open Go.RowKit

theorem OutM.setMx2 {w : World} {lo hi g n c j : Nat} {vs : List Value} {ms : List Mx} (h : OutM w lo hi (.slice (some ⟨g, 0, none⟩) n c) vs ms) (hl : vs.length = ms.length) (hj : j < ms.length) (m : Mx) (u : Value) :
    OutM (set3 w g (j * 3) (.int .i64 m.r) (.int .i64 m.c) u) lo hi (.slice (some ⟨g, 0, none⟩) n c) (vs.set j u) (ms.set j m) := OutM.setMx h hl hj m u
theorem IntsO.set3 {w : World} {lo hi g i : Nat} {v : Value} {l : List Int} {t : TypeId} {cs : Array Value} (h : IntsO w lo hi v l) (hb : Blk w g t cs) (ht : 3 ≠ t) (a b c : Value) : IntsO (set3 w g i a b c) lo hi v l := by
  have h1 : Fam w lo hi [(v, l)] := ⟨fun p hp => by simp at hp; rw [hp]; exact h, by simp⟩
  exact (h1.set3 (i := i) hb ht a b c).1 (v, l) (by simp)
theorem RepI.setMx {w : World} {lo hi mi hi' g n c j : Nat} {p v r k : Int} {f t d u : Value} {x : Rp} {m : Mx} (h : RepI w lo hi (.agg #[.int .i64 p, .int .i64 v, f, t, d, .slice (some ⟨g, 0, none⟩) n c]) x) (hj : j < x.m.length)
    (hu : MxO w mi hi' (.agg #[.int .i64 r, .int .i64 k, u]) m) (h1 : hi ≤ mi) (h2 : mi ≤ hi') :
    RepI (set3 w g (j * 3) (.int .i64 r) (.int .i64 k) u) lo hi' (.agg #[.int .i64 p, .int .i64 v, f, t, d, .slice (some ⟨g, 0, none⟩) n c]) ⟨x.p, x.q, x.d, x.m.set j m⟩ ∧ lo ≤ g ∧ g < hi := by
  obtain ⟨f', t', d', m', vs, mi0, e, i1, i2, i3, hO, hvl, hF, hmi, hi1, hi2⟩ := h
  simp only [Value.agg.injEq, Array.mk.injEq, List.cons.injEq, and_true] at e
  obtain ⟨rfl2, rfl3, rfl, rfl, rfl, rfl⟩ := e
  obtain ⟨s, e, hs, j1, j2⟩ := hu
  simp only [Value.agg.injEq, Array.mk.injEq, List.cons.injEq, and_true, Value.int.injEq, true_and] at e
  obtain ⟨rfl, rfl, rfl⟩ := e
  obtain ⟨cs, hb, hg1, hg2⟩ := OutM.blk hO
  refine ⟨⟨f, t, d, _, vs.set j u, mi0, by rw [rfl2, rfl3], i1.set3 hb (by decide) _ _ _, i2.set3 hb (by decide) _ _ _, i3.set3 hb (by decide) _ _ _, (OutM.setMx hO hvl hj m u).mono (Nat.le_refl _) (by omega), by simp [hvl], ?_, ⟨hmi.1, by omega⟩, hi1, fun y hy => ?_⟩, hg1, hg2⟩
  · have hF' : Fam w mi0 hi ([] ++ vs.zip (x.m.map Mx.a)) := by simpa using hF
    have hF2 := hF'.swap (j := j) (by simpa using hj) (by simpa using hvl) hs h1 h2 (by omega)
    have hF3 := hF2.set3 (i := j * 3) hb (by decide) (.int .i64 m.r) (.int .i64 m.c) u
    rw [List.map_set]
    simpa using hF3
  · rcases List.mem_or_eq_of_mem_set hy with hy | rfl
    · exact hi2 y hy
    · exact ⟨j1, j2⟩
theorem RepI.blk {w : World} {lo hi g n c : Nat} {p v : Int} {f t d : Value} {x : Rp} (h : RepI w lo hi (.agg #[.int .i64 p, .int .i64 v, f, t, d, .slice (some ⟨g, 0, none⟩) n c]) x) : ∃ cs, Blk w g 84 cs ∧ lo ≤ g ∧ g < hi := by
  obtain ⟨f', t', d', m', vs, mi0, e, i1, i2, i3, hO, hvl, hF, hmi, hi1, hi2⟩ := h
  simp only [Value.agg.injEq, Array.mk.injEq, List.cons.injEq, and_true] at e
  obtain ⟨rfl2, rfl3, rfl, rfl, rfl, rfl⟩ := e
  exact OutM.blk hO
/-- the cells of a matrix -/
theorem RepI.mxAt {w : World} {lo hi j : Nat} {p v : Int} {f t d m : Value} {x : Rp} {y : Mx} (h : RepI w lo hi (.agg #[.int .i64 p, .int .i64 v, f, t, d, m]) x) (hj : x.m[j]? = some y) :
    ∃ g c s, m = .slice (some ⟨g, 0, none⟩) x.m.length c ∧ lo ≤ g ∧ g < hi ∧ w.cell? ⟨g, j * 3, none⟩ = some (.int .i64 y.r) ∧ w.cell? ⟨g, j * 3 + 1, none⟩ = some (.int .i64 y.c) ∧ w.cell? ⟨g, j * 3 + 2, none⟩ = some s ∧ IntsO w lo hi s y.a ∧ (∀ i, w.frozen? ⟨g, i, none⟩ = false) := by
  obtain ⟨f', t', d', m', vs, mi0, e, i1, i2, i3, hO, hvl, hF, hmi, hi1, hi2⟩ := h
  simp only [Value.agg.injEq, Array.mk.injEq, List.cons.injEq, and_true] at e
  obtain ⟨_, _, rfl, rfl, rfl, rfl⟩ := e
  have hjl := lt_of_some hj
  have hv : vs[j]? = some (vs[j]'(by omega)) := List.getElem?_eq_getElem (by omega)
  obtain ⟨a, b, c⟩ := mxCs_get hv hj
  have hR : RepO w lo hi (.agg #[.int .i64 x.p, .int .i64 x.q.v, .slice none 0 0, .slice none 0 0, .slice none 0 0, m]) ⟨x.p, ⟨x.q.v, [], []⟩, [], x.m⟩ := by
    refine ⟨_, _, _, _, vs, rfl, hO, hvl, ?_, hi1, hi2⟩
    have hn : ∀ b : Value × List Int, (Value.slice none 0 0).ownBlock = none ∨ (Value.slice none 0 0).ownBlock ≠ b.1.ownBlock := fun b => .inl rfl
    refine ⟨fun p hp => ?_, ?_⟩
    · simp only [List.cons_append, List.nil_append, List.mem_cons] at hp
      rcases hp with rfl | rfl | rfl | hp
      · exact ⟨OwnI.nil _ _, by simp [Value.ownBlock]⟩
      · exact ⟨OwnI.nil _ _, by simp [Value.ownBlock]⟩
      · exact ⟨OwnI.nil _ _, by simp [Value.ownBlock]⟩
      · exact (hF.1 p hp).wider hmi.1 (Nat.le_refl _)
    · simp only [List.cons_append, List.nil_append, List.pairwise_cons]
      exact ⟨fun b _ => .inl rfl, fun b _ => .inl rfl, fun b _ => .inl rfl, hF.2⟩
  obtain ⟨g, c', s, e, k1, k2, z0, z1, z2, hs, hf, _⟩ := hR.mxAt hj
  exact ⟨g, c', s, e, k1, k2, z0, z1, z2, hs, hf⟩
/-- a number put into a matrix -/
theorem RepI.putMx {w : World} {lo hi j i : Nat} {p v z : Int} {f t d m : Value} {x : Rp} {y : Mx} (h : RepI w lo hi (.agg #[.int .i64 p, .int .i64 v, f, t, d, m]) x) (hj : x.m[j]? = some y) (hi' : i < y.a.length) (hz : I64 z) :
    ∃ g c gr cr, m = .slice (some ⟨g, 0, none⟩) x.m.length c ∧ w.cell? ⟨g, j * 3 + 1, none⟩ = some (.int .i64 y.c) ∧ w.cell? ⟨g, j * 3 + 2, none⟩ = some (.slice (some ⟨gr, 0, none⟩) y.a.length cr) ∧ (∃ u, w.cell? ⟨gr, i, none⟩ = some u) ∧ w.frozen? ⟨gr, i, none⟩ = false ∧
      (x.m.length ≤ c ∧ c ≤ 9223372036854775807) ∧ (y.a.length ≤ cr ∧ cr ≤ 9223372036854775807) ∧ (lo ≤ gr ∧ gr < hi) ∧ (∀ (g' : Nat) (t' : TypeId) (cs' : Array Value), Blk w g' t' cs' → 3 ≠ t' → g' ≠ gr) ∧ RepI (w.setCell ⟨gr, i, none⟩ (.int .i64 z)) lo hi (.agg #[.int .i64 p, .int .i64 v, f, t, d, m]) ⟨x.p, x.q, x.d, x.m.set j ⟨y.r, y.c, y.a.set i z⟩⟩ := by
  obtain ⟨f', t', d', m', vs, mi0, e, i1, i2, i3, hO, hvl, hF, hmi, hi1, hi2⟩ := h
  simp only [Value.agg.injEq, Array.mk.injEq, List.cons.injEq, and_true] at e
  obtain ⟨e1, e2, rfl, rfl, rfl, rfl⟩ := e
  have hF' : Fam w mi0 hi ([] ++ vs.zip (x.m.map Mx.a)) := by simpa using hF
  obtain ⟨gm, cm, g, c, em, hgm, hv, c0, c1, c2, ho, hgb, k1, k2, k3, k4⟩ := OutM.at_ hO hvl hF' hj (by omega)
  have hput := mats_put (i := i) hO hF' hv hj ho hz
  have hcell := (ho.cellG hi').1
  have hfr := ho.frozenG i
  have lowp : ∀ {u : Value} {l : List Int}, IntsO w lo mi0 u l → IntsO (w.setCell ⟨g, i, none⟩ (.int .i64 z)) lo mi0 u l := fun h => h.chg (chg_set1 w g i _) (.inl hgb.1)
  refine ⟨gm, cm, g, c, em, c1, c2, ⟨_, hcell⟩, hfr, ⟨k3, k4⟩, ⟨k1, k2⟩, ⟨by omega, hgb.2⟩, fun g' t' cs' hb ht e => ho.blkne hb ht (by rw [e]; rfl), f, t, d, m, vs, mi0, by rw [e1, e2], lowp i1, lowp i2, lowp i3, hput.1, by simp [hvl], by simpa using hput.2, hmi, hi1, mats_I64 hi2 hj⟩
end Go.Proofs.Ytcmlflppndfdcaa
