/- The reference's l16Beside. -/
import Derived.Test.YtbgjhnolnccnnaaConc
namespace Go.Proofs.Ytbgjhnolnccnnaa
set_option linter.unusedVariables false
set_option linter.unusedSimpArgs false
open Go.RowKit

theorem flat_app (r s c : Nat) (f g : Nat → Nat → Int) : flat r c f ++ flat s c g = flat (r + s) c (blF r f g) := by
  rw [← rowsF_flatten, ← rowsF_flatten, ← rowsF_flatten, ← rowsF_app, List.flatten_append]
theorem run_fieldMx (a b s : Value) (w : World) : (Instr.field 60 (.agg #[a, b, s]) 2).run Try.prog w = .ok s w := by
  have h1 := Try.underlying60
  have h2 := Try.underlying29
  simp [Instr.field, part, isAgg, run_underlying h1, run_underlying h2, asAgg]
theorem SlI.app_len {w : World} {B : Nat} {v : Value} {l : List Int} (h : SlI w B v l) : ∃ A c, v = .slice A l.length c := by
  obtain ⟨A, c, e, _⟩ := h
  exact ⟨A, c, e⟩

set_option maxHeartbeats 6400000 in
set_option maxRecDepth 100000 in
theorem l16Beside_any (u v : Value) (r c d : Nat) (f g : Nat → Nat → Int) (w0 : World) (hu : MxR w0 w0.heap.size u (mxF r c f)) (hv : MxR w0 w0.heap.size v (mxF r d g)) (hr : r ≤ 500) (hc : c ≤ 500) (hd : d ≤ 500) :
    Calls Try.prog 103 #[u, v] w0 fun e w' => ∃ v, e = .returned v ∧ MxO w' w0.heap.size w'.heap.size v (mxF r (c + d) (bsF c f g)) ∧ Below w0.heap.size w0 w' := by
  have hu' := hu
  have hv' := hv
  obtain ⟨U, uc, rfl⟩ := hu.form
  obtain ⟨V, vc, rfl⟩ := hv.form
  obtain ⟨L, hL⟩ : ∃ L, (mxF r c f).a.length = L := ⟨_, rfl⟩
  obtain ⟨L', hL'⟩ : ∃ L, (mxF r d g).a.length = L := ⟨_, rfl⟩
  have z1 : (mxF r c f).r = (r : Int) := rfl
  have z2 : (mxF r c f).c = (c : Int) := rfl
  have z3 : (mxF r d g).r = (r : Int) := rfl
  have z4 : (mxF r d g).c = (d : Int) := rfl
  rw [hL, z1, z2] at hu' ⊢
  rw [hL', z3, z4] at hv' ⊢
  clear hu hv hL hL' z1 z2 z3 z4
  obtain ⟨W, hW⟩ : ∃ W, W = ((w0.alloc (.cells #[.int .i64 r, .int .i64 c, .slice U L uc] 60)).alloc (.cells #[.int .i64 r, .int .i64 d, .slice V L' vc] 60)).alloc (.cells #[.int .i64 0, .int .i64 0, .slice none 0 0] 60) := ⟨_, rfl⟩
  have g0 : Below w0.heap.size w0 W := by rw [hW]; exact (((Below.refl _ _).alloc (Nat.le_refl _) _).alloc (by simp) _).alloc (by simp; omega) _
  have k1 : Blk W w0.heap.size 60 #[.int .i64 r, .int .i64 c, .slice U L uc] := by rw [hW]; exact ((Blk.new _ _ _).alloc _).alloc _
  have k2 : Blk W (w0.heap.size + 1) 60 #[.int .i64 r, .int .i64 d, .slice V L' vc] := by
    rw [hW]
    have := (Blk.new (w0.alloc (.cells #[.int .i64 r, .int .i64 c, .slice U L uc] 60)) 60 #[.int .i64 r, .int .i64 d, .slice V L' vc]).alloc (.cells #[.int .i64 0, .int .i64 0, .slice none 0 0] 60)
    simpa only [World.size_alloc] using this
  have k3 : Blk W (w0.heap.size + 1 + 1) 60 #[.int .i64 0, .int .i64 0, .slice none 0 0] := by
    rw [hW]
    have := Blk.new ((w0.alloc (.cells #[.int .i64 r, .int .i64 c, .slice U L uc] 60)).alloc (.cells #[.int .i64 r, .int .i64 d, .slice V L' vc] 60)) 60 #[.int .i64 0, .int .i64 0, .slice none 0 0]
    simpa only [World.size_alloc] using this
  have sz : W.heap.size = w0.heap.size + 1 + 1 + 1 := by rw [hW]; simp
  have HU := Lib.hid (MxR.next g0 hu')
  have HV := Lib.hid (MxR.next g0 hv')
  have SZ := Lib.hid sz
  have hle1 : c * r ≤ 500 * 500 := Nat.mul_le_mul hc hr
  have hle2 : d * r ≤ 500 * 500 := Nat.mul_le_mul hd hr
  have HL1 : Hid ((flat c r (fun a b => f b a)).length + (flat d r (fun a b => g b a)).length ≤ 1000000) := by show _ ≤ _; rw [flat_length, flat_length]; omega
  clear sz hu' hv' hle1 hle2
  go_enter Try.func103, Try.ntmps103
  go_wp2
  rw [← hW]; clear hW
  refine wp_region_netC (by kernel_rfl) [.eq (.pointer (some ⟨w0.heap.size, 1, none⟩)), .eq (.int .i64 c), .eq (.pointer (some ⟨w0.heap.size + 1, 1, none⟩)), .eq (.int .i64 d), .eq (.int .i64 ((c : Int) + d)), .eq (.pointer (some ⟨w0.heap.size, 0, none⟩)), .eq (.int .i64 r), rel 7 (fun u lo hi w => Fresh w W.heap.size u), .eq (.agg #[.int .i64 r, .int .i64 c, .slice U L uc]), rel 9 (fun u lo hi w => MxO w lo hi u (mxF c r (fun a b => f b a))), rel 10 (fun u lo hi w => SlI w w.heap.size u (flat c r (fun a b => f b a))), rel 11 (fun u lo hi w => OwnI w W.heap.size u (flat c r (fun a b => f b a))), .eq (.agg #[.int .i64 r, .int .i64 d, .slice V L' vc]), rel 13 (fun u lo hi w => MxO w lo hi u (mxF d r (fun a b => g b a))), rel 14 (fun u lo hi w => SlI w w.heap.size u (flat d r (fun a b => g b a))), rel 15 (fun u lo hi w => SlI w w.heap.size u (flat (c + d) r (blF c (fun a b => f b a) (fun a b => g b a)))), rel 16 (fun u lo hi w => ∃ s, u = .agg #[.int .i64 ((c + d : Nat) : Int), .int .i64 r, s] ∧ SlI w w.heap.size s (flat (c + d) r (blF c (fun a b => f b a) (fun a b => g b a)))), rel 17 (fun u lo hi w => MxO w lo hi u (mxF r (c + d) (bsF c f g)))] [[], [0], [], [2], [0, 1, 2, 3], [], [5], [], [], [8], [8, 9], [7, 8, 9, 10], [], [7, 8, 9, 10, 11, 12], [7, 8, 9, 10, 11, 12, 13], [7, 8, 9, 10, 11, 12, 13, 14], [0, 1, 2, 3, 4, 5, 6, 7, 8, 9, 10, 11, 12, 13, 14, 15], [0, 1, 2, 3, 4, 5, 6, 7, 8, 9, 10, 11, 12, 13, 14, 15, 16], [0, 1, 2, 3, 4, 5, 6, 7, 8, 9, 10, 11, 12, 13, 14, 15, 16, 17]] [[], [0], [], [2], [0, 1, 2, 3], [], [5], [], [], [8], [8, 9], [7, 8, 9, 10], [], [7, 8, 9, 10, 11, 12], [7, 8, 9, 10, 11, 12, 13], [7, 8, 9, 10, 11, 12, 13, 14], [0, 1, 2, 3, 4, 5, 6, 8, 12, 15], [0, 1, 2, 3, 4, 5, 6, 8, 12, 15, 16]] [0, 1, 2, 3, 4, 5, 6, 8, 12, 15, 16, 17] 18 15 (by kernel_rfl) (by kernel_rfl) ⟨.inr (.inr ⟨_, rfl⟩), .inr (.inr ⟨_, rfl⟩), .inr (.inr ⟨_, rfl⟩), .inr (.inr ⟨_, rfl⟩), .inr (.inr ⟨_, rfl⟩), .inr (.inr ⟨_, rfl⟩), .inr (.inr ⟨_, rfl⟩), .inr (.inr ⟨_, rfl⟩), .inr (.inr ⟨_, rfl⟩), .inl rfl, .inr (.inl rfl), .inr (.inl rfl), trivial⟩ ⟨trivial, trivial, trivial, trivial, trivial, trivial, trivial, rel_stable (fun u lo hi w w' h hb => h.below hb), trivial, rel_stable (fun u lo hi w w' h hb => h.below hb), rel_stable (fun u lo hi w w' h hb => SlI.next hb h), rel_stable (fun u lo hi w w' h hb => h.below hb), trivial, rel_stable (fun u lo hi w w' h hb => h.below hb), rel_stable (fun u lo hi w w' h hb => SlI.next hb h), rel_stable (fun u lo hi w w' h hb => SlI.next hb h), rel_stable (fun u lo hi w w' ⟨s, e, h⟩ hb => ⟨s, e, SlI.next hb h⟩), rel_stable (fun u lo hi w w' h hb => h.below hb), trivial⟩ ⟨?_, ?_, ?_, ?_, ?_, ?_, ?_, ?_, ?_, ?_, ?_, ?_, ?_, ?_, ?_, ?_, ?_, ?_, trivial⟩ ?_
  · intro x w hb hk Q' hQ
    clear hk
    simp only [netAct, dstAt, List.getElem?_toArray, List.getElem?_cons_zero, List.getElem?_cons_succ, Option.bind_some, Act.put, List.setIfInBounds_toArray, List.set_cons_zero, List.set_cons_succ] at hQ ⊢
    go_wp2
    exact hQ (.pointer (some ⟨w0.heap.size, 1, none⟩)) _ (Below.refl _ _) rfl
  · intro x w hb hk Q' hQ
    have h0 : x.v 0 = .pointer (some ⟨w0.heap.size, 1, none⟩) := (hk 0 (by decide)).1
    clear hk
    simp only [netAct, dstAt, List.getElem?_toArray, List.getElem?_cons_zero, List.getElem?_cons_succ, Option.bind_some, Act.put, List.setIfInBounds_toArray, List.set_cons_zero, List.set_cons_succ] at hQ ⊢
    simp only [h0] at hQ ⊢
    clear h0
    have z2 := (k1.below hb k1.lt).cell' (i := 1) rfl
    go_wp2
    exact hQ (.int .i64 c) _ (Below.refl _ _) rfl
  · intro x w hb hk Q' hQ
    clear hk
    simp only [netAct, dstAt, List.getElem?_toArray, List.getElem?_cons_zero, List.getElem?_cons_succ, Option.bind_some, Act.put, List.setIfInBounds_toArray, List.set_cons_zero, List.set_cons_succ] at hQ ⊢
    go_wp2
    exact hQ (.pointer (some ⟨w0.heap.size + 1, 1, none⟩)) _ (Below.refl _ _) rfl
  · intro x w hb hk Q' hQ
    have h2 : x.v 2 = .pointer (some ⟨w0.heap.size + 1, 1, none⟩) := (hk 2 (by decide)).1
    clear hk
    simp only [netAct, dstAt, List.getElem?_toArray, List.getElem?_cons_zero, List.getElem?_cons_succ, Option.bind_some, Act.put, List.setIfInBounds_toArray, List.set_cons_zero, List.set_cons_succ] at hQ ⊢
    simp only [h2] at hQ ⊢
    clear h2
    have z2 := (k2.below hb k2.lt).cell' (i := 1) rfl
    go_wp2
    exact hQ (.int .i64 d) _ (Below.refl _ _) rfl
  · intro x w hb hk Q' hQ
    have h1 : x.v 1 = .int .i64 c := (hk 1 (by decide)).1
    have h3 : x.v 3 = .int .i64 d := (hk 3 (by decide)).1
    clear hk
    simp only [netAct, dstAt, List.getElem?_toArray, List.getElem?_cons_zero, List.getElem?_cons_succ, Option.bind_some, Act.put, List.setIfInBounds_toArray, List.set_cons_zero, List.set_cons_succ] at hQ ⊢
    simp only [h1, h3] at hQ ⊢
    clear h1 h3
    go_wp2
    exact hQ (.int .i64 ((c : Int) + d)) _ (Below.refl _ _) rfl
  · intro x w hb hk Q' hQ
    clear hk
    simp only [netAct, dstAt, List.getElem?_toArray, List.getElem?_cons_zero, List.getElem?_cons_succ, Option.bind_some, Act.put, List.setIfInBounds_toArray, List.set_cons_zero, List.set_cons_succ] at hQ ⊢
    go_wp2
    exact hQ (.pointer (some ⟨w0.heap.size, 0, none⟩)) _ (Below.refl _ _) rfl
  · intro x w hb hk Q' hQ
    have h5 : x.v 5 = .pointer (some ⟨w0.heap.size, 0, none⟩) := (hk 5 (by decide)).1
    clear hk
    simp only [netAct, dstAt, List.getElem?_toArray, List.getElem?_cons_zero, List.getElem?_cons_succ, Option.bind_some, Act.put, List.setIfInBounds_toArray, List.set_cons_zero, List.set_cons_succ] at hQ ⊢
    simp only [h5] at hQ ⊢
    clear h5
    have z2 := (k1.below hb k1.lt).cell' (i := 0) rfl
    go_wp2
    exact hQ (.int .i64 r) _ (Below.refl _ _) rfl
  · intro x w hb hk Q' hQ
    clear hk
    simp only [netAct, dstAt, List.getElem?_toArray, List.getElem?_cons_zero, List.getElem?_cons_succ, Option.bind_some, Act.put, List.setIfInBounds_toArray, List.set_cons_zero, List.set_cons_succ] at hQ ⊢
    go_wp2
    exact hQ _ _ (below_alloc _ _) (Fresh.new _ hb.size)
  · intro x w hb hk Q' hQ
    clear hk
    simp only [netAct, dstAt, List.getElem?_toArray, List.getElem?_cons_zero, List.getElem?_cons_succ, Option.bind_some, Act.put, List.setIfInBounds_toArray, List.set_cons_zero, List.set_cons_succ] at hQ ⊢
    have z0 := (k1.below hb k1.lt).cell' (i := 0) rfl
    have z1 := (k1.below hb k1.lt).cell' (i := 1) rfl
    have z2 := (k1.below hb k1.lt).cell' (i := 2) rfl
    go_wp2
    exact hQ (.agg #[.int .i64 r, .int .i64 c, .slice U L uc]) _ (Below.refl _ _) rfl
  · intro x w hb hk Q' hQ
    have h8 : x.v 8 = .agg #[.int .i64 r, .int .i64 c, .slice U L uc] := (hk 8 (by decide)).1
    clear hk
    simp only [netAct, dstAt, List.getElem?_toArray, List.getElem?_cons_zero, List.getElem?_cons_succ, Option.bind_some, Act.put, List.setIfInBounds_toArray, List.set_cons_zero, List.set_cons_succ] at hQ ⊢
    simp only [h8] at hQ ⊢
    clear h8
    go_wp2_with fail
    refine (l3Transpose_any _ r c f _ (MxR.more hb.size (MxR.below hb HU.out)) (by omega) (by omega)).mono ?_; rintro e w5 ⟨v5, rfl, hO5, hb5⟩
    go_wp2
    exact hQ _ _ hb5 hO5
  · intro x w hb hk Q' hQ
    have h8 : x.v 8 = .agg #[.int .i64 r, .int .i64 c, .slice U L uc] := (hk 8 (by decide)).1
    have h9 : MxO w (x.lo 9) (x.hi 9) (x.v 9) (mxF c r (fun a b => f b a)) := (hk 9 (by decide)).1
    have s9 := (hk 9 (by decide)).2
    clear hk
    simp only [netAct, dstAt, List.getElem?_toArray, List.getElem?_cons_zero, List.getElem?_cons_succ, Option.bind_some, Act.put, List.setIfInBounds_toArray, List.set_cons_zero, List.set_cons_succ] at hQ ⊢
    simp only [h8] at hQ ⊢
    clear h8
    have hrd := h9.rd
    obtain ⟨A9, c9, e9, hs9, _⟩ := hrd.open_
    simp only [mxF] at e9 hs9
    rw [e9] at hQ ⊢
    have HS9 := Lib.hid hs9
    clear hs9 h9 hrd
    have hfm := run_fieldMx (.int .i64 c) (.int .i64 r) (.slice A9 (flat c r (fun a b => f b a)).length c9) w
    go_wp2
    exact hQ _ _ (Below.refl _ _) HS9.out
  · intro x w hb hk Q' hQ
    have h7 : Fresh w W.heap.size (x.v 7) := (hk 7 (by decide)).1
    have h8 : x.v 8 = .agg #[.int .i64 r, .int .i64 c, .slice U L uc] := (hk 8 (by decide)).1
    have h9 : MxO w (x.lo 9) (x.hi 9) (x.v 9) (mxF c r (fun a b => f b a)) := (hk 9 (by decide)).1
    have h10 : SlI w w.heap.size (x.v 10) (flat c r (fun a b => f b a)) := (hk 10 (by decide)).1
    have s7 := (hk 7 (by decide)).2
    have s9 := (hk 9 (by decide)).2
    have s10 := (hk 10 (by decide)).2
    clear hk
    simp only [netAct, dstAt, List.getElem?_toArray, List.getElem?_cons_zero, List.getElem?_cons_succ, Option.bind_some, Act.put, List.setIfInBounds_toArray, List.set_cons_zero, List.set_cons_succ] at hQ ⊢
    simp only [h8] at hQ ⊢
    clear h8
    obtain ⟨g7, e7, hg7, hB7⟩ := h7
    obtain ⟨A10, c10, e10⟩ := h10.app_len
    rw [e10] at h10
    rw [e7, e10] at hQ ⊢
    refine wpList_append_fresh (by rfl) (.tmp 12) (.tmp 15) (by rfl) g7 W.heap.size w.heap.size #[] (by rfl) hB7 rfl hg7 A10 c10 (flat c r (fun a b => f b a)) (by rfl) h10 ?_
    intro v' w' ho hb'
    exact hQ _ _ hb' ho
  · intro x w hb hk Q' hQ
    clear hk
    simp only [netAct, dstAt, List.getElem?_toArray, List.getElem?_cons_zero, List.getElem?_cons_succ, Option.bind_some, Act.put, List.setIfInBounds_toArray, List.set_cons_zero, List.set_cons_succ] at hQ ⊢
    have z0 := (k2.below hb k2.lt).cell' (i := 0) rfl
    have z1 := (k2.below hb k2.lt).cell' (i := 1) rfl
    have z2 := (k2.below hb k2.lt).cell' (i := 2) rfl
    go_wp2
    exact hQ (.agg #[.int .i64 r, .int .i64 d, .slice V L' vc]) _ (Below.refl _ _) rfl
  · intro x w hb hk Q' hQ
    have h7 : Fresh w W.heap.size (x.v 7) := (hk 7 (by decide)).1
    have h8 : x.v 8 = .agg #[.int .i64 r, .int .i64 c, .slice U L uc] := (hk 8 (by decide)).1
    have h9 : MxO w (x.lo 9) (x.hi 9) (x.v 9) (mxF c r (fun a b => f b a)) := (hk 9 (by decide)).1
    have h10 : SlI w w.heap.size (x.v 10) (flat c r (fun a b => f b a)) := (hk 10 (by decide)).1
    have h11 : OwnI w W.heap.size (x.v 11) (flat c r (fun a b => f b a)) := (hk 11 (by decide)).1
    have h12 : x.v 12 = .agg #[.int .i64 r, .int .i64 d, .slice V L' vc] := (hk 12 (by decide)).1
    have s7 := (hk 7 (by decide)).2
    have s9 := (hk 9 (by decide)).2
    have s10 := (hk 10 (by decide)).2
    have s11 := (hk 11 (by decide)).2
    clear hk
    simp only [netAct, dstAt, List.getElem?_toArray, List.getElem?_cons_zero, List.getElem?_cons_succ, Option.bind_some, Act.put, List.setIfInBounds_toArray, List.set_cons_zero, List.set_cons_succ] at hQ ⊢
    simp only [h8, h12] at hQ ⊢
    clear h8 h12
    go_wp2_with fail
    refine (l3Transpose_any _ r d g _ (MxR.more hb.size (MxR.below hb HV.out)) (by omega) (by omega)).mono ?_; rintro e w5 ⟨v5, rfl, hO5, hb5⟩
    go_wp2
    exact hQ _ _ hb5 hO5
  · intro x w hb hk Q' hQ
    have h7 : Fresh w W.heap.size (x.v 7) := (hk 7 (by decide)).1
    have h8 : x.v 8 = .agg #[.int .i64 r, .int .i64 c, .slice U L uc] := (hk 8 (by decide)).1
    have h9 : MxO w (x.lo 9) (x.hi 9) (x.v 9) (mxF c r (fun a b => f b a)) := (hk 9 (by decide)).1
    have h10 : SlI w w.heap.size (x.v 10) (flat c r (fun a b => f b a)) := (hk 10 (by decide)).1
    have h11 : OwnI w W.heap.size (x.v 11) (flat c r (fun a b => f b a)) := (hk 11 (by decide)).1
    have h12 : x.v 12 = .agg #[.int .i64 r, .int .i64 d, .slice V L' vc] := (hk 12 (by decide)).1
    have h13 : MxO w (x.lo 13) (x.hi 13) (x.v 13) (mxF d r (fun a b => g b a)) := (hk 13 (by decide)).1
    have s7 := (hk 7 (by decide)).2
    have s9 := (hk 9 (by decide)).2
    have s10 := (hk 10 (by decide)).2
    have s11 := (hk 11 (by decide)).2
    have s13 := (hk 13 (by decide)).2
    clear hk
    simp only [netAct, dstAt, List.getElem?_toArray, List.getElem?_cons_zero, List.getElem?_cons_succ, Option.bind_some, Act.put, List.setIfInBounds_toArray, List.set_cons_zero, List.set_cons_succ] at hQ ⊢
    simp only [h8, h12] at hQ ⊢
    clear h8 h12
    have hrd := h13.rd
    obtain ⟨A9, c9, e9, hs9, _⟩ := hrd.open_
    simp only [mxF] at e9 hs9
    rw [e9] at hQ ⊢
    have HS9 := Lib.hid hs9
    clear hs9 h13 h9 hrd h10 h11 h7
    have hfm := run_fieldMx (.int .i64 d) (.int .i64 r) (.slice A9 (flat d r (fun a b => g b a)).length c9) w
    go_wp2
    exact hQ _ _ (Below.refl _ _) HS9.out
  · intro x w hb hk Q' hQ
    have h7 : Fresh w W.heap.size (x.v 7) := (hk 7 (by decide)).1
    have h8 : x.v 8 = .agg #[.int .i64 r, .int .i64 c, .slice U L uc] := (hk 8 (by decide)).1
    have h9 : MxO w (x.lo 9) (x.hi 9) (x.v 9) (mxF c r (fun a b => f b a)) := (hk 9 (by decide)).1
    have h10 : SlI w w.heap.size (x.v 10) (flat c r (fun a b => f b a)) := (hk 10 (by decide)).1
    have h11 : OwnI w W.heap.size (x.v 11) (flat c r (fun a b => f b a)) := (hk 11 (by decide)).1
    have h12 : x.v 12 = .agg #[.int .i64 r, .int .i64 d, .slice V L' vc] := (hk 12 (by decide)).1
    have h13 : MxO w (x.lo 13) (x.hi 13) (x.v 13) (mxF d r (fun a b => g b a)) := (hk 13 (by decide)).1
    have h14 : SlI w w.heap.size (x.v 14) (flat d r (fun a b => g b a)) := (hk 14 (by decide)).1
    have s7 := (hk 7 (by decide)).2
    have s9 := (hk 9 (by decide)).2
    have s10 := (hk 10 (by decide)).2
    have s11 := (hk 11 (by decide)).2
    have s13 := (hk 13 (by decide)).2
    have s14 := (hk 14 (by decide)).2
    clear hk
    simp only [netAct, dstAt, List.getElem?_toArray, List.getElem?_cons_zero, List.getElem?_cons_succ, Option.bind_some, Act.put, List.setIfInBounds_toArray, List.set_cons_zero, List.set_cons_succ] at hQ ⊢
    simp only [h8, h12] at hQ ⊢
    clear h8 h12
    obtain ⟨A14, c14, e14⟩ := h14.app_len
    rw [e14] at h14
    have hlo := h11.lt
    rw [e14] at hQ ⊢
    refine wpList_appI (by rfl) (.tmp 16) (.tmp 19) (by rfl) W.heap.size w.heap.size _ _ (by rfl) h11 A14 _ c14 (flat d r (fun a b => g b a)) (by rfl) rfl h14 (by have := HL1.out; omega) hb.size ?_
    intro v' w' h1 h2 h3
    rw [flat_app] at h1
    exact hQ v' w' (below_grown h2 (fun k hk => (hlo k hk).1) hb.size) h1.rd
  · intro x w hb hk Q' hQ
    have h0 : x.v 0 = .pointer (some ⟨w0.heap.size, 1, none⟩) := (hk 0 (by decide)).1
    have h1 : x.v 1 = .int .i64 c := (hk 1 (by decide)).1
    have h2 : x.v 2 = .pointer (some ⟨w0.heap.size + 1, 1, none⟩) := (hk 2 (by decide)).1
    have h3 : x.v 3 = .int .i64 d := (hk 3 (by decide)).1
    have h4 : x.v 4 = .int .i64 ((c : Int) + d) := (hk 4 (by decide)).1
    have h5 : x.v 5 = .pointer (some ⟨w0.heap.size, 0, none⟩) := (hk 5 (by decide)).1
    have h6 : x.v 6 = .int .i64 r := (hk 6 (by decide)).1
    have h8 : x.v 8 = .agg #[.int .i64 r, .int .i64 c, .slice U L uc] := (hk 8 (by decide)).1
    have h12 : x.v 12 = .agg #[.int .i64 r, .int .i64 d, .slice V L' vc] := (hk 12 (by decide)).1
    have h15 : SlI w w.heap.size (x.v 15) (flat (c + d) r (blF c (fun a b => f b a) (fun a b => g b a))) := (hk 15 (by decide)).1
    have s15 := (hk 15 (by decide)).2
    clear hk
    simp only [netAct, dstAt, List.getElem?_toArray, List.getElem?_cons_zero, List.getElem?_cons_succ, Option.bind_some, Act.put, List.setIfInBounds_toArray, List.set_cons_zero, List.set_cons_succ] at hQ ⊢
    simp only [h0, h1, h2, h3, h4, h5, h6, h8, h12] at hQ ⊢
    clear h0 h1 h2 h3 h4 h5 h6 h8 h12
    have H15 := Lib.hid h15
    obtain ⟨A15, c15, e15⟩ := h15.app_len
    rw [e15] at H15 hQ ⊢
    clear h15 e15
    go_wp2
    have he : (Value.agg #[.int .i64 ((c : Int) + d), .int .i64 r, .slice A15 (flat (c + d) r (blF c (fun a b => f b a) (fun a b => g b a))).length c15]) = .agg #[.int .i64 ((c + d : Nat) : Int), .int .i64 r, .slice A15 (flat (c + d) r (blF c (fun a b => f b a) (fun a b => g b a))).length c15] := by rw [show ((c + d : Nat) : Int) = (c : Int) + d from by simp]
    exact hQ _ w (Below.refl _ _) ⟨_, he, H15.out⟩
  · intro x w hb hk Q' hQ
    have h0 : x.v 0 = .pointer (some ⟨w0.heap.size, 1, none⟩) := (hk 0 (by decide)).1
    have h1 : x.v 1 = .int .i64 c := (hk 1 (by decide)).1
    have h2 : x.v 2 = .pointer (some ⟨w0.heap.size + 1, 1, none⟩) := (hk 2 (by decide)).1
    have h3 : x.v 3 = .int .i64 d := (hk 3 (by decide)).1
    have h4 : x.v 4 = .int .i64 ((c : Int) + d) := (hk 4 (by decide)).1
    have h5 : x.v 5 = .pointer (some ⟨w0.heap.size, 0, none⟩) := (hk 5 (by decide)).1
    have h6 : x.v 6 = .int .i64 r := (hk 6 (by decide)).1
    have h8 : x.v 8 = .agg #[.int .i64 r, .int .i64 c, .slice U L uc] := (hk 8 (by decide)).1
    have h12 : x.v 12 = .agg #[.int .i64 r, .int .i64 d, .slice V L' vc] := (hk 12 (by decide)).1
    have h15 : SlI w w.heap.size (x.v 15) (flat (c + d) r (blF c (fun a b => f b a) (fun a b => g b a))) := (hk 15 (by decide)).1
    have h16 : ∃ s, (x.v 16) = .agg #[.int .i64 ((c + d : Nat) : Int), .int .i64 r, s] ∧ SlI w w.heap.size s (flat (c + d) r (blF c (fun a b => f b a) (fun a b => g b a))) := (hk 16 (by decide)).1
    have s15 := (hk 15 (by decide)).2
    have s16 := (hk 16 (by decide)).2
    clear hk
    simp only [netAct, dstAt, List.getElem?_toArray, List.getElem?_cons_zero, List.getElem?_cons_succ, Option.bind_some, Act.put, List.setIfInBounds_toArray, List.set_cons_zero, List.set_cons_succ] at hQ ⊢
    simp only [h0, h1, h2, h3, h4, h5, h6, h8, h12] at hQ ⊢
    clear h0 h1 h2 h3 h4 h5 h6 h8 h12
    obtain ⟨s, e16, hs⟩ := h16
    have HMR : Hid (MxR w w.heap.size (.agg #[.int .i64 ((c + d : Nat) : Int), .int .i64 r, s]) (mxF (c + d) r (blF c (fun a b => f b a) (fun a b => g b a)))) := ⟨s, rfl, hs, by simp only [mxF, I64]; omega, by simp only [mxF, I64]; omega⟩
    obtain ⟨A15, c15, e15⟩ := hs.app_len
    subst e15
    rw [e16] at hQ ⊢
    clear hs e16 h15
    go_wp2_with fail
    refine (l3Transpose_any _ (c + d) r (blF c (fun a b => f b a) (fun a b => g b a)) _ HMR.out (by omega) (by omega)).mono ?_; rintro e w5 ⟨v5, rfl, hO5, hb5⟩
    have hO6 : MxO w5 w.heap.size w5.heap.size v5 (mxF r (c + d) (bsF c f g)) := hO5
    go_wp2
    exact hQ _ _ hb5 hO6
  · intro x w hb hk hiv hdj
    have h0 : x.v 0 = .pointer (some ⟨w0.heap.size, 1, none⟩) := hk 0 (by decide) (by decide)
    have h1 : x.v 1 = .int .i64 c := hk 1 (by decide) (by decide)
    have h2 : x.v 2 = .pointer (some ⟨w0.heap.size + 1, 1, none⟩) := hk 2 (by decide) (by decide)
    have h3 : x.v 3 = .int .i64 d := hk 3 (by decide) (by decide)
    have h4 : x.v 4 = .int .i64 ((c : Int) + d) := hk 4 (by decide) (by decide)
    have h5 : x.v 5 = .pointer (some ⟨w0.heap.size, 0, none⟩) := hk 5 (by decide) (by decide)
    have h6 : x.v 6 = .int .i64 r := hk 6 (by decide) (by decide)
    have h8 : x.v 8 = .agg #[.int .i64 r, .int .i64 c, .slice U L uc] := hk 8 (by decide) (by decide)
    have h12 : x.v 12 = .agg #[.int .i64 r, .int .i64 d, .slice V L' vc] := hk 12 (by decide) (by decide)
    have h15 : SlI w w.heap.size (x.v 15) (flat (c + d) r (blF c (fun a b => f b a) (fun a b => g b a))) := hk 15 (by decide) (by decide)
    have h16 : ∃ s, (x.v 16) = .agg #[.int .i64 ((c + d : Nat) : Int), .int .i64 r, s] ∧ SlI w w.heap.size s (flat (c + d) r (blF c (fun a b => f b a) (fun a b => g b a))) := hk 16 (by decide) (by decide)
    have h17 : MxO w (x.lo 17) (x.hi 17) (x.v 17) (mxF r (c + d) (bsF c f g)) := hk 17 (by decide) (by decide)
    clear hk
    simp only [netAct, dstAt, List.getElem?_toArray, List.getElem?_cons_zero, List.getElem?_cons_succ, Option.bind_some, Act.put, List.setIfInBounds_toArray, List.set_cons_zero, List.set_cons_succ]
    simp only [List.drop_succ_cons, List.drop_zero, h0, h1, h2, h3, h4, h5, h6, h8, h12]
    clear h0 h1 h2 h3 h4 h5 h6 h8 h12
    have sz := SZ.out
    have kR := k3.below hb k3.lt
    obtain ⟨l7, _, l7h⟩ := hiv 17 (by decide)
    obtain ⟨A7, c7, e7⟩ := h17.form
    simp only [mxF] at e7
    rw [e7] at h17 ⊢
    clear hiv hdj e7 h16 h15
    obtain ⟨N, hN⟩ : ∃ N, (flat r (c + d) (bsF c f g)).length = N := ⟨_, rfl⟩
    rw [hN] at h17 ⊢
    have p0 := kR.cell' (i := 0) rfl
    have p1 := kR.cell' (i := 1) rfl
    have p2 := kR.cell' (i := 2) rfl
    have fr := kR.frozen
    have gX := g0.trans (hb.mono g0.size)
    have gXs := gX.size
    have hbs := hb.size
    have h2 := chg3 w (w0.heap.size + 1 + 1) (.int .i64 (r : Int)) (.int .i64 ((c + d : Nat) : Int)) (.slice A7 N c7)
    have OF := Lib.hid ((h17.chg h2 (.inr (by omega))).wider (lo' := w0.heap.size) (hi' := w.heap.size) (by omega) (by omega))
    have GF := Lib.hid (gX.trans (h2.below (by omega) gXs))
    have e8 : ((c + d : Nat) : Int) = (c : Int) + d := by simp
    rw [e8] at OF GF
    clear h17 h2 gX kR hN sz gXs hbs l7 l7h hb k1 k2 k3 e8
    go_wp2
    exact bodyPost_ret (v := .agg #[.int .i64 (r : Int), .int .i64 ((c : Int) + d), .slice A7 N c7]) (by simp [results, go_sem, p0, p1, p2]) rfl ⟨_, rfl, OF.out.wider (Nat.le_refl _) (by simp), GF.out⟩
end Go.Proofs.Ytbgjhnolnccnnaa
