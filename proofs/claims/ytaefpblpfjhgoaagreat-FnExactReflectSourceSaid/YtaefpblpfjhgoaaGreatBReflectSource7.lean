/- FnExactReflectSource: for every argument the program's function returns what the reference's returns. Part 7 of 14 of the proof: Conc, RepAt, InOut, Zero2, Zero3, ZigI, RfP, SSO, RfC, PenOf, RepCl, DsM. No condition. -/
import Derived.Test.YtaefpblpfjhgoaaGreatBReflectSource6
import Derived.Shelf.Spec.SlicesGrow
/- slices.Concat at []int, and the matrix of some rows. -/
namespace Go.Proofs
open Go.Shelf
def Tryz.laysGrow_ren : Go.Shelf.Ren := ⟨fun | 4 => 138 | n => n, fun | 22 => 22 | 25 => 3 | 3 => 3 | 4 => 4 | 9 => 9 | 20 => 20 | 0 => 0 | n => n, fun | n => n⟩
theorem Tryz.laysGrow : Go.Proofs.Lays8.n4 Tryz.prog Tryz.laysGrow_ren := {
  mixed := by kernel_rfl
  f4 := ⟨Tryz.f138.name, by decide, Tryz.func138.trans (congrArg some (by kernel_rfl))⟩
  t0 := Tryz.underlying0
  a0 := Tryz.isAgg0
  z0 := Tryz.sizeOf0
  v0 := Tryz.zeroValue0
  t3 := Tryz.underlying3
  a3 := Tryz.isAgg3
  z3 := Tryz.sizeOf3
  v3 := Tryz.zeroValue3
  t4 := Tryz.underlying4
  a4 := Tryz.isAgg4
  z4 := Tryz.sizeOf4
  v4 := Tryz.zeroValue4
  t9 := Tryz.underlying9
  a9 := Tryz.isAgg9
  z9 := Tryz.sizeOf9
  v9 := Tryz.zeroValue9
  t20 := Tryz.underlying20
  a20 := Tryz.isAgg20
  z20 := Tryz.sizeOf20
  v20 := Tryz.zeroValue20
  t22 := Tryz.underlying22
  a22 := Tryz.isAgg22
  z22 := Tryz.sizeOf22
  v22 := Tryz.zeroValue22 }
end Go.Proofs
namespace Go.Proofs.YtaefpblpfjhgoaaGreat
set_option linter.unusedVariables false
set_option linter.unusedSimpArgs false
open Go.RowKit

theorem grow_any (n : Nat) (w : World) (hn : n ≤ 1000000) :
    Calls Tryz.prog 138 #[.slice none 0 0, .int .i64 n] w fun e w' => ∃ v, e = .returned v ∧ OwnI w' w.heap.size v [] ∧ Below w.heap.size w w' := by
  rcases Nat.eq_zero_or_pos n with rfl | h0
  · exact (Any8.slices_Grow_room Tryz.laysGrow none 0 0 0 w (by omega) (by omega) (by omega) (by omega)).mono fun e w' ⟨h1, h2⟩ => ⟨_, h1, OwnI.nil _ _, by rw [h2]; exact Below.refl _ _⟩
  · obtain ⟨i0, hi, hz0, hz1, hz2⟩ := info_parts infoInt
    have hG : Calls Tryz.prog 138 #[.slice none 0 0, .int .i64 n] w fun e w' => e = .returned (.slice (some ⟨w.heap.size, 0, none⟩) 0 (grownCap w (0 + n) 0 3)) ∧
        w' = w.drew.alloc (.cells (([] : List Value).toArray ++ Builtin.zeroCells (Value.int .i64 0).cells (0 + n - 0) ++ Builtin.zeroCells (Value.int .i64 0).cells (grownCap w (0 + n) 0 3 - (0 + n))) 3) :=
      Any8.slices_Grow_grow Tryz.laysGrow i0 _ hi hz0 (by omega) none 0 0 n [] w (by omega) (by omega) (by rw [hz2]; omega) (by omega) (by simp) (fun _ => rfl) (fun a h => by cases h)
    rw [Nat.zero_add, Nat.sub_zero] at hG
    refine hG.mono fun e w' ⟨h1, h2⟩ => ⟨_, h1, ?_, ?_⟩
    · rw [h2]
      have hg := grownCap_ge w n 0 3
      have hm := grownCap_le_maxLen w n 0 3 (by simp only [maxLen]; omega)
      refine ⟨⟨by simp, .inr ⟨w.heap.size, grownCap w n 0 3, _, rfl, Nat.le_refl _, Blk.new _ _ _, Nat.zero_le _, hm, ?_, by simp⟩⟩, by simp, by simp⟩
      have hz : (Value.int .i64 0).cells.size = 1 := rfl
      simp only [Array.size_append, size_zeroCells, List.size_toArray, List.length_nil, hz, Nat.mul_one]
      omega
    · rw [h2]
      exact bthen (drew_below w) (below_alloc _ _)

theorem flatten_len_take (ll : List (List Int)) (k : Nat) : (ll.take k).flatten.length ≤ ll.flatten.length := by
  have : ll = ll.take k ++ ll.drop k := (List.take_append_drop k ll).symm
  have h2 := congrArg (fun x => (List.flatten x).length) this
  simp only [List.flatten_append, List.length_append] at h2
  omega
set_option maxHeartbeats 1600000 in
theorem concat_any (u : Value) (ll : List (List Int)) (w : World) (hu : SlII w w.heap.size u ll) (hn : ll.length ≤ 1000000) (ht : ll.flatten.length ≤ 1000000) :
    Calls Tryz.prog 108 #[u] w fun e w' => ∃ v, e = .returned v ∧ IntsO w' w.heap.size w'.heap.size v ll.flatten ∧ Below w.heap.size w w' := by
  obtain ⟨A, c, rfl, _, _, _, hx⟩ := hu.open_
  clear hu
  have HX := Lib.hid hx
  have HT := Lib.hid ht
  obtain ⟨n, hnl⟩ : ∃ n, ll.length = n := ⟨_, rfl⟩
  have HNL := Lib.hid hnl
  rw [hnl] at hn ⊢
  clear hx ht hnl
  go_enter Tryz.func108, Tryz.ntmps108
  go_wp2
  go_loopw [3, 11] (fun s i wr => ∃ k : Nat, k ≤ n ∧ i = .int .i64 k ∧ s = .int .i64 ((ll.take k).flatten.length : Nat) ∧ w = wr) (fun _ i _ => n - (intOf i).toNat)
  case atStart => exact ⟨0, Nat.zero_le _, rfl, by simp, rfl⟩
  case round =>
    obtain ⟨k, hk, rfl, rfl, rfl⟩ := hrel
    have hle := flatten_len_take ll k
    have hle2 := flatten_len_take ll (k + 1)
    have ht := HT.out
    obtain ⟨s, hs⟩ : ∃ s, (ll.take k).flatten.length = s := ⟨_, rfl⟩
    by_cases hlt : k < n
    · rw [hs] at hle ⊢
      have hx := HX.out
      rw [← HNL.out] at hlt
      obtain ⟨b, o, l, LA, lc, rfl, hb, HL, x1, hl⟩ := SlII.at_ hx hlt
      rw [HNL.out] at hlt
      have e1 : (ll.take (k + 1)).flatten.length = s + l.length := by rw [take_snoc HL.out, List.flatten_append, List.length_append, hs]; simp
      rw [e1] at hle2
      have hsl : s + l.length ≤ 1000000 := by omega
      have E1 := Lib.hid e1
      clear hs e1 ht hle hle2 hx HL hl hb
      go_wp2
      go_roundw
      case rel => exact ⟨k + 1, by omega, by go_num, by rw [E1.out]; go_num, by first | rfl | trivial⟩
      case measure => simp [intOf]; omega
    · obtain rfl : k = n := by omega
      have e0 : ll.take k = ll := List.take_of_length_le (by have := HNL.out; omega)
      rw [e0] at hs ⊢
      rw [hs] at ht ⊢
      clear hle hle2 e0
      have HS := Lib.hid hs
      clear hs
      go_wp2_with fail
      refine (grow_any s _ (by omega)).mono ?_; rintro e w1 ⟨v, rfl, ho, hb1⟩
      obtain ⟨OA, oc, rfl, _, _⟩ := ho.form
      have gw := hb1
      go_wp2
      go_loopw [6, 27] (fun out i wr => ∃ j : Nat, j ≤ k ∧ i = .int .i64 j ∧ OwnI wr w.heap.size out (ll.take j).flatten ∧ Below w.heap.size w wr) (fun _ i _ => k - (intOf i).toNat)
      case atStart => exact ⟨0, Nat.zero_le _, rfl, by simpa using ho, hb1⟩
      case round =>
        clear ho hb1 gw
        obtain ⟨j, hj, rfl, ho, hb1⟩ := hrel
        have gs := hb1.size
        by_cases hlj : j < k
        · have hx := HX.out
          rw [← HNL.out] at hlj
          obtain ⟨b, o, l, LA, lc, rfl, hb, HL, x1, hl⟩ := SlII.at_ hx hlj
          rw [HNL.out] at hlj
          have x2 := bcell hb1 hb x1
          have hl2 : SlI wr w.heap.size (.slice LA l.length lc) l := SlI.below hb1 hl
          have e1 : (ll.take (j + 1)).flatten = (ll.take j).flatten ++ l := by rw [take_snoc HL.out, List.flatten_append]; simp
          have hle2 := flatten_len_take ll (j + 1)
          rw [e1, List.length_append, HS.out] at hle2
          have E1 := Lib.hid e1
          obtain ⟨OB, ob, rfl, _, _⟩ := ho.form
          have HO := Lib.hid ho
          have HL2 := Lib.hid hl2
          have HLE := Lib.hid hle2
          have GW := Lib.hid hb1
          have hlo2 := HO.out.lt
          clear e1 hx hl hl2 HL x1 ho hle2 hb1
          (go_wp2_with (at_builtin; refine Hold.stop ?_)); unfold Hold
          refine wpList_appI rfl (.tmp 31) (.tmp 32) rfl w.heap.size w.heap.size _ _ rfl HO.out LA l.length lc l rfl rfl HL2.out (by have := HLE.out; omega) gs ?_
          intro v' w' h1 h2 h3
          rw [← E1.out] at h1
          have g2 := (GW.out).trans (below_grown h2 (fun k hk => (hlo2 k hk).1) gs)
          have H1 := Lib.hid h1
          have G2 := Lib.hid g2
          clear h1 h2 h3 g2 hlo2
          go_wp2
          go_roundw
          case rel => exact ⟨j + 1, by omega, by go_num, H1.out, G2.out⟩
          case measure => simp [intOf]; omega
        · obtain rfl : j = k := by omega
          have e0 : ll.take j = ll := List.take_of_length_le (by have := HNL.out; omega)
          rw [e0] at ho
          have HO := Lib.hid ho
          clear ho e0
          go_wp2
          go_ret
          exact ⟨_, rfl, IntsO.of_own HO.out, hb1⟩

theorem rowsF_flatten (r c : Nat) (f : Nat → Nat → Int) : (rowsF r c f).flatten = flat r c f := by
  induction r with
  | zero => simp [rowsF, flat]
  | succ r ih =>
    rw [rowsF_succ, List.flatten_append, ih]
    refine flat_ext (by simp [flat_length, rowF_length, Nat.add_mul]) fun i k hi hk => ?_
    rw [List.getElem?_append]
    by_cases h : i < r
    · rw [if_pos (by rw [flat_length]; exact ix_lt h hk), flat_get f h hk]
    · obtain rfl : i = r := by omega
      rw [if_neg (by rw [flat_length]; omega), flat_length, show i * c + k - i * c = k by omega]
      simp [rowF_get _ hk]
set_option maxHeartbeats 800000 in
theorem fromRows_any (u : Value) (c r : Nat) (f : Nat → Nat → Int) (w0 : World) (hu : SlII w0 w0.heap.size u (rowsF r c f)) (hr : r ≤ 1000) (hc : c ≤ 1000) :
    Calls Tryz.prog 75 #[.int .i64 c, u] w0 fun e w' => ∃ v, e = .returned v ∧ MxO w' w0.heap.size w'.heap.size v (mxF r c f) ∧ Below w0.heap.size w0 w' := by
  have hu' := hu
  obtain ⟨A, ac, rfl, _⟩ := hu
  rw [rowsF_length] at hu' ⊢
  obtain ⟨W, hW⟩ : ∃ W, W = w0.alloc (.cells #[.int .i64 0, .int .i64 0, .slice none 0 0] 50) := ⟨_, rfl⟩
  have g0 : Below w0.heap.size w0 W := by rw [hW]; exact below_alloc _ _
  have k2 : Blk W w0.heap.size 50 #[.int .i64 0, .int .i64 0, .slice none 0 0] := by rw [hW]; exact Blk.new _ _ _
  have sz : W.heap.size = w0.heap.size + 1 := by rw [hW]; simp
  have hle : r * c ≤ 1000 * 1000 := Nat.mul_le_mul hr hc
  have HLE : Hid ((rowsF r c f).flatten.length ≤ 1000000) := by show _ ≤ _; rw [rowsF_flatten, flat_length]; exact Nat.le_trans hle (by decide)
  have HU := Lib.hid (SlII.next g0 hu')
  have K2 := Lib.hid k2
  have SZ := Lib.hid sz
  clear hu' k2 sz hle
  go_enter Tryz.func75, Tryz.ntmps75
  go_wp2_with fail
  rw [← hW]; clear hW
  refine (concat_any _ (rowsF r c f) W HU.out (by rw [rowsF_length]; omega) HLE.out).mono ?_; rintro e wr ⟨v1, rfl, oA, gW⟩
  rw [rowsF_flatten] at oA
  obtain ⟨A1, c1, rfl⟩ := oA.form
  obtain ⟨N, hN⟩ : ∃ N, (flat r c f).length = N := ⟨_, rfl⟩
  rw [hN] at oA ⊢
  clear hN
  have k2 := K2.out.call gW
  have p0 := k2.cell' (i := 0) rfl
  have p1 := k2.cell' (i := 1) rfl
  have p2 := k2.cell' (i := 2) rfl
  have f2 := k2.frozen
  have h2 := chg3 wr w0.heap.size (.int .i64 (r : Int)) (.int .i64 c) (.slice A1 N c1)
  have gw : Below w0.heap.size w0 wr := g0.trans (gW.mono g0.size)
  have gs := gw.size
  have oA2 := (oA.chg h2 (.inr (by have := SZ.out; omega))).wider (lo' := w0.heap.size) (hi' := wr.heap.size) (by have := SZ.out; omega) (Nat.le_refl _)
  have fg := gw.trans (h2.below (Nat.le_refl _) gs)
  have OA2 := Lib.hid oA2
  have FG := Lib.hid fg
  clear oA oA2 fg gw h2 k2 gW
  go_wp2
  exact bodyPost_ret (v := .agg #[.int .i64 (r : Int), .int .i64 c, .slice A1 N c1]) (by simp [results, go_sem, p0, p1, p2]) rfl ⟨_, rfl, ⟨_, rfl, by simpa [mxF] using OA2.out, by simp only [mxF, I64]; omega, by simp only [mxF, I64]; omega⟩, FG.out⟩
set_option maxHeartbeats 3200000 in
set_option maxRecDepth 100000 in
theorem below_any (u v : Value) (c r s : Nat) (f g : Nat → Nat → Int) (w0 : World) (hu : MxR w0 w0.heap.size u (mxF r c f)) (hv : MxR w0 w0.heap.size v (mxF s c g)) (hr : r ≤ 500) (hs : s ≤ 500) (hc : c ≤ 500) :
    Calls Tryz.prog 73 #[u, v] w0 fun e w' => ∃ v, e = .returned v ∧ MxO w' w0.heap.size w'.heap.size v (mxF (r + s) c (blF r f g)) ∧ Below w0.heap.size w0 w' := by
  have hu' := hu
  have hv' := hv
  obtain ⟨U, uc, rfl⟩ := hu.form
  obtain ⟨V, vc, rfl⟩ := hv.form
  obtain ⟨L, hL⟩ : ∃ L, (mxF r c f).a.length = L := ⟨_, rfl⟩
  obtain ⟨L', hL'⟩ : ∃ L, (mxF s c g).a.length = L := ⟨_, rfl⟩
  have z1 : (mxF r c f).r = (r : Int) := rfl
  have z2 : (mxF r c f).c = (c : Int) := rfl
  have z3 : (mxF s c g).r = (s : Int) := rfl
  have z4 : (mxF s c g).c = (c : Int) := rfl
  rw [hL, z1, z2] at hu' ⊢
  rw [hL', z3, z4] at hv' ⊢
  clear hu hv hL hL' z1 z2 z3 z4
  obtain ⟨W, hW⟩ : ∃ W, W = ((w0.alloc (.cells #[.int .i64 r, .int .i64 c, .slice U L uc] 50)).alloc (.cells #[.int .i64 s, .int .i64 c, .slice V L' vc] 50)).alloc (.cells #[.int .i64 0, .int .i64 0, .slice none 0 0] 50) := ⟨_, rfl⟩
  have g0 : Below w0.heap.size w0 W := by rw [hW]; exact (((Below.refl _ _).alloc (Nat.le_refl _) _).alloc (by simp) _).alloc (by simp; omega) _
  have k1 : Blk W w0.heap.size 50 #[.int .i64 r, .int .i64 c, .slice U L uc] := by rw [hW]; exact ((Blk.new _ _ _).alloc _).alloc _
  have k2 : Blk W (w0.heap.size + 1) 50 #[.int .i64 s, .int .i64 c, .slice V L' vc] := by
    rw [hW]
    have := (Blk.new (w0.alloc (.cells #[.int .i64 r, .int .i64 c, .slice U L uc] 50)) 50 #[.int .i64 s, .int .i64 c, .slice V L' vc]).alloc (.cells #[.int .i64 0, .int .i64 0, .slice none 0 0] 50)
    simpa only [World.size_alloc] using this
  have k3 : Blk W (w0.heap.size + 1 + 1) 50 #[.int .i64 0, .int .i64 0, .slice none 0 0] := by
    rw [hW]
    have := Blk.new ((w0.alloc (.cells #[.int .i64 r, .int .i64 c, .slice U L uc] 50)).alloc (.cells #[.int .i64 s, .int .i64 c, .slice V L' vc] 50)) 50 #[.int .i64 0, .int .i64 0, .slice none 0 0]
    simpa only [World.size_alloc] using this
  have sz : W.heap.size = w0.heap.size + 1 + 1 + 1 := by rw [hW]; simp
  have HU := Lib.hid (MxR.next g0 hu')
  have HV := Lib.hid (MxR.next g0 hv')
  have SZ := Lib.hid sz
  clear sz hu' hv'
  go_enter Tryz.func73, Tryz.ntmps73
  go_wp2
  rw [← hW]; clear hW
  refine wp_region_netC (by kernel_rfl) [.eq (.pointer (some ⟨w0.heap.size, 1, none⟩)), .eq (.int .i64 c), .eq (.agg #[.int .i64 r, .int .i64 c, .slice U L uc]), rel 3 (fun u lo hi w => IntssO w lo hi u (rowsF r c f) ∧ W.heap.size ≤ lo ∧ lo ≤ hi), .eq (.agg #[.int .i64 s, .int .i64 c, .slice V L' vc]), .rel (fun x w => IntssO w (x.lo 5) (x.hi 5) (x.v 5) (rowsF s c g) ∧ x.hi 3 ≤ x.lo 5), .rel (fun x w => SlII w w.heap.size (x.v 6) (rowsF (r + s) c (blF r f g))), rel 7 (fun u lo hi w => MxO w lo hi u (mxF (r + s) c (blF r f g)))] [[], [0], [], [2], [], [2, 3, 4], [2, 3, 4, 5], [0, 1, 2, 3, 4, 5, 6], [0, 1, 2, 3, 4, 5, 6, 7]] [[], [0], [], [2], [], [2, 3, 4], [2, 3, 4, 5], [0, 1, 2, 4, 6]] [0, 1, 2, 4, 6, 7] 8 6 (by kernel_rfl) (by kernel_rfl) ⟨.inr (.inr ⟨_, rfl⟩), .inr (.inr ⟨_, rfl⟩), .inr (.inr ⟨_, rfl⟩), .inr (.inr ⟨_, rfl⟩), .inl rfl, .inr (.inl rfl), trivial⟩ ⟨trivial, trivial, trivial, rel_stable (fun u lo hi w w' h hb => ⟨h.1.below hb, h.2⟩), trivial, fun x w w' h hb => ⟨h.1.below hb, h.2⟩, fun x w w' h hb => SlII.next hb h, rel_stable (fun u lo hi w w' h hb => h.below hb), trivial⟩ ⟨?_, ?_, ?_, ?_, ?_, ?_, ?_, ?_, trivial⟩ ?_
  · intro x w hb hk Q' hQ
    clear hk
    simp only [netAct, dstAt, List.getElem?_toArray, List.getElem?_cons_zero, List.getElem?_cons_succ, Option.bind_some, Act.put, List.setIfInBounds_toArray, List.set_cons_zero, List.set_cons_succ] at hQ ⊢
    go_wp2
    exact hQ (.pointer (some ⟨w0.heap.size, 1, none⟩)) _ (Below.refl _ _) rfl
  · intro x w hb hk Q' hQ
    have h0 : x.v 0 = .pointer (some ⟨w0.heap.size, 1, none⟩) := (hk 0 (by decide)).1
    clear hk
    simp only [netAct, dstAt, List.getElem?_toArray, List.getElem?_cons_zero, List.getElem?_cons_succ, Option.bind_some, Act.put, List.setIfInBounds_toArray, List.set_cons_zero, List.set_cons_succ] at hQ ⊢
    simp only [h0] at hQ ⊢
    clear h0
    have z2 := (k1.below hb k1.lt).cell' (i := 1) rfl
    go_wp2
    exact hQ (.int .i64 c) _ (Below.refl _ _) rfl
  · intro x w hb hk Q' hQ
    clear hk
    simp only [netAct, dstAt, List.getElem?_toArray, List.getElem?_cons_zero, List.getElem?_cons_succ, Option.bind_some, Act.put, List.setIfInBounds_toArray, List.set_cons_zero, List.set_cons_succ] at hQ ⊢
    have z0 := (k1.below hb k1.lt).cell' (i := 0) rfl
    have z1 := (k1.below hb k1.lt).cell' (i := 1) rfl
    have z2 := (k1.below hb k1.lt).cell' (i := 2) rfl
    go_wp2
    exact hQ (.agg #[.int .i64 r, .int .i64 c, .slice U L uc]) _ (Below.refl _ _) rfl
  · intro x w hb hk Q' hQ
    have h2 : x.v 2 = .agg #[.int .i64 r, .int .i64 c, .slice U L uc] := (hk 2 (by decide)).1
    clear hk
    simp only [netAct, dstAt, List.getElem?_toArray, List.getElem?_cons_zero, List.getElem?_cons_succ, Option.bind_some, Act.put, List.setIfInBounds_toArray, List.set_cons_zero, List.set_cons_succ] at hQ ⊢
    simp only [h2] at hQ ⊢
    clear h2
    go_wp2_with fail
    refine (rows_any _ r c f _ (MxR.more hb.size (MxR.below hb HU.out)) (by omega) (by omega)).mono ?_; rintro e w5 ⟨v5, rfl, hO5, hb5⟩
    go_wp2
    exact hQ _ _ hb5 ⟨hO5, hb.size, hb5.size⟩
  · intro x w hb hk Q' hQ
    clear hk
    simp only [netAct, dstAt, List.getElem?_toArray, List.getElem?_cons_zero, List.getElem?_cons_succ, Option.bind_some, Act.put, List.setIfInBounds_toArray, List.set_cons_zero, List.set_cons_succ] at hQ ⊢
    have z0 := (k2.below hb k2.lt).cell' (i := 0) rfl
    have z1 := (k2.below hb k2.lt).cell' (i := 1) rfl
    have z2 := (k2.below hb k2.lt).cell' (i := 2) rfl
    go_wp2
    exact hQ (.agg #[.int .i64 s, .int .i64 c, .slice V L' vc]) _ (Below.refl _ _) rfl
  · intro x w hb hk Q' hQ
    have h2 : x.v 2 = .agg #[.int .i64 r, .int .i64 c, .slice U L uc] := (hk 2 (by decide)).1
    have h3 : IntssO w (x.lo 3) (x.hi 3) (x.v 3) (rowsF r c f) ∧ W.heap.size ≤ (x.lo 3) ∧ (x.lo 3) ≤ (x.hi 3) := (hk 3 (by decide)).1
    have h4 : x.v 4 = .agg #[.int .i64 s, .int .i64 c, .slice V L' vc] := (hk 4 (by decide)).1
    have s3 := (hk 3 (by decide)).2
    clear hk
    simp only [netAct, dstAt, List.getElem?_toArray, List.getElem?_cons_zero, List.getElem?_cons_succ, Option.bind_some, Act.put, List.setIfInBounds_toArray, List.set_cons_zero, List.set_cons_succ] at hQ ⊢
    simp only [h2, h4] at hQ ⊢
    clear h2 h4
    go_wp2_with fail
    refine (rows_any _ s c g _ (MxR.more hb.size (MxR.below hb HV.out)) (by omega) (by omega)).mono ?_; rintro e w5 ⟨v5, rfl, hO5, hb5⟩
    go_wp2
    exact hQ _ _ hb5 ⟨hO5, s3⟩
  · intro x w hb hk Q' hQ
    have h2 : x.v 2 = .agg #[.int .i64 r, .int .i64 c, .slice U L uc] := (hk 2 (by decide)).1
    have h3 : IntssO w (x.lo 3) (x.hi 3) (x.v 3) (rowsF r c f) ∧ W.heap.size ≤ (x.lo 3) ∧ (x.lo 3) ≤ (x.hi 3) := (hk 3 (by decide)).1
    have h4 : x.v 4 = .agg #[.int .i64 s, .int .i64 c, .slice V L' vc] := (hk 4 (by decide)).1
    have h5 : IntssO w (x.lo 5) (x.hi 5) (x.v 5) (rowsF s c g) ∧ x.hi 3 ≤ x.lo 5 := (hk 5 (by decide)).1
    have s3 := (hk 3 (by decide)).2
    have s5 := (hk 5 (by decide)).2
    clear hk
    simp only [netAct, dstAt, List.getElem?_toArray, List.getElem?_cons_zero, List.getElem?_cons_succ, Option.bind_some, Act.put, List.setIfInBounds_toArray, List.set_cons_zero, List.set_cons_succ] at hQ ⊢
    simp only [h2, h4] at hQ ⊢
    clear h2 h4
    obtain ⟨h3, l3, l3'⟩ := h3
    obtain ⟨h5, l5⟩ := h5
    have HA := Lib.hid h3
    have HB := Lib.hid h5
    clear h3 h5
    (go_wp2_with (at_builtin; refine Hold.stop ?_)); unfold Hold
    refine wpList_appSS rfl (.tmp 8) (.tmp 10) rfl _ _ _ _ _ _ _ _ rfl HA.out rfl HB.out (.inl l5) (by rw [rowsF_length, rowsF_length]; omega) (by omega) s3 ?_
    intro v' w' hv' hb'
    rw [rowsF_app] at hv'
    go_wp2
    exact hQ v' w' (hb'.mono l3) hv'
  · intro x w hb hk Q' hQ
    have h0 : x.v 0 = .pointer (some ⟨w0.heap.size, 1, none⟩) := (hk 0 (by decide)).1
    have h1 : x.v 1 = .int .i64 c := (hk 1 (by decide)).1
    have h2 : x.v 2 = .agg #[.int .i64 r, .int .i64 c, .slice U L uc] := (hk 2 (by decide)).1
    have h4 : x.v 4 = .agg #[.int .i64 s, .int .i64 c, .slice V L' vc] := (hk 4 (by decide)).1
    have h6 : SlII w w.heap.size (x.v 6) (rowsF (r + s) c (blF r f g)) := (hk 6 (by decide)).1
    have s6 := (hk 6 (by decide)).2
    clear hk
    simp only [netAct, dstAt, List.getElem?_toArray, List.getElem?_cons_zero, List.getElem?_cons_succ, Option.bind_some, Act.put, List.setIfInBounds_toArray, List.set_cons_zero, List.set_cons_succ] at hQ ⊢
    simp only [h0, h1, h2, h4] at hQ ⊢
    clear h0 h1 h2 h4
    have h6' := Lib.hid h6
    obtain ⟨A6, c6, e6, _⟩ := h6
    rw [e6] at h6' hQ ⊢
    go_wp2_with fail
    refine (fromRows_any _ c (r + s) (blF r f g) _ h6'.out (by omega) (by omega)).mono ?_; rintro e w5 ⟨v5, rfl, hO5, hb5⟩
    go_wp2
    exact hQ _ _ hb5 hO5
  · intro x w hb hk hiv hdj
    have h0 : x.v 0 = .pointer (some ⟨w0.heap.size, 1, none⟩) := hk 0 (by decide) (by decide)
    have h1 : x.v 1 = .int .i64 c := hk 1 (by decide) (by decide)
    have h2 : x.v 2 = .agg #[.int .i64 r, .int .i64 c, .slice U L uc] := hk 2 (by decide) (by decide)
    have h4 : x.v 4 = .agg #[.int .i64 s, .int .i64 c, .slice V L' vc] := hk 4 (by decide) (by decide)
    have h6 : SlII w w.heap.size (x.v 6) (rowsF (r + s) c (blF r f g)) := hk 6 (by decide) (by decide)
    have h7 : MxO w (x.lo 7) (x.hi 7) (x.v 7) (mxF (r + s) c (blF r f g)) := hk 7 (by decide) (by decide)
    clear hk
    simp only [netAct, dstAt, List.getElem?_toArray, List.getElem?_cons_zero, List.getElem?_cons_succ, Option.bind_some, Act.put, List.setIfInBounds_toArray, List.set_cons_zero, List.set_cons_succ]
    simp only [List.drop_succ_cons, List.drop_zero, h0, h1, h2, h4]
    clear h0 h1 h2 h4
    have sz := SZ.out
    have kR := k3.below hb k3.lt
    obtain ⟨l7, _, l7h⟩ := hiv 7 (by decide)
    obtain ⟨A7, c7, e7⟩ := h7.form
    simp only [mxF] at e7
    rw [e7] at h7 ⊢
    clear hiv hdj e7 h6
    obtain ⟨N, hN⟩ : ∃ N, (flat (r + s) c (blF r f g)).length = N := ⟨_, rfl⟩
    rw [hN] at h7 ⊢
    have p0 := kR.cell' (i := 0) rfl
    have p1 := kR.cell' (i := 1) rfl
    have p2 := kR.cell' (i := 2) rfl
    have fr := kR.frozen
    have gX := g0.trans (hb.mono g0.size)
    have gXs := gX.size
    have hbs := hb.size
    have h2 := chg3 w (w0.heap.size + 1 + 1) (.int .i64 ((r + s : Nat) : Int)) (.int .i64 (c : Int)) (.slice A7 N c7)
    have OF := Lib.hid ((h7.chg h2 (.inr (by omega))).wider (lo' := w0.heap.size) (hi' := w.heap.size) (by omega) (by omega))
    have GF := Lib.hid (gX.trans (h2.below (by omega) gXs))
    have e8 : ((r + s : Nat) : Int) = (r : Int) + s := by simp
    rw [e8] at OF GF
    clear h7 h2 gX kR hN sz gXs hbs l7 l7h hb k1 k2 k3 e8
    go_wp2
    exact bodyPost_ret (v := .agg #[.int .i64 ((r : Int) + s), .int .i64 c, .slice A7 N c7]) (by simp [results, go_sem, p0, p1, p2]) rfl ⟨_, rfl, OF.out.wider (Nat.le_refl _) (by simp), GF.out⟩
end Go.Proofs.YtaefpblpfjhgoaaGreat

/- A valid representation at an arrow. -/
namespace Go.Proofs.YtaefpblpfjhgoaaGreat
set_option linter.unusedVariables false
set_option linter.unusedSimpArgs false
open Go.RowKit

/-- a valid representation at an arrow -/
theorem isRep_at {x : Rp} (hx : isRep x = true) {k : Nat} (hk : k < x.q.f.length) : ∃ (m : Mx) (nf nt yf yt : Nat), x.m[k]? = some m ∧ x.q.f[k]? = some (nf : Int) ∧ x.q.t[k]? = some (nt : Int) ∧ x.d[nf]? = some (yf : Int) ∧ x.d[nt]? = some (yt : Int) ∧
    m = mxF yt yf (entry m.a yf) ∧ (∀ i j, i < yt → j < yf → 0 ≤ entry m.a yf i j ∧ entry m.a yf i j ≤ x.p - 1) ∧ yf ≤ 4 ∧ yt ≤ 4 ∧ nf ≤ 5 ∧ nt ≤ 5 ∧ nf < x.d.length ∧ nt < x.d.length ∧ k < x.q.t.length ∧ k < x.m.length := by
  obtain ⟨h1, h2, h3, h4⟩ := isRep_t.1 hx
  obtain ⟨nf, nt, yf, yt, ef, et, df, dt, lf, lt, l5, l6, l7⟩ := rep_at h2 hk
  have hd := (areDims_t.1 h2).2.2.1
  have bf := hd _ (List.mem_of_getElem? df)
  have bt := hd _ (List.mem_of_getElem? dt)
  have hkm : k < x.m.length := by omega
  have em := List.getElem?_eq_getElem hkm
  obtain ⟨m, hm⟩ : ∃ m, x.m[k] = m := ⟨_, rfl⟩
  rw [hm] at em
  have h5 := h4
  simp only [okMs, List.all_eq_true, List.mem_range] at h5
  have h6 := h5 k hkm
  simp only [List.getD_eq_getElem?_getD, em, ef, et, Option.getD_some] at h6
  simp only [okM, Bool.and_eq_true, decide_eq_true_eq] at h6
  obtain ⟨⟨hM, hc⟩, hr⟩ := h6
  rw [dAt_of df] at hc
  rw [dAt_of dt] at hr
  obtain ⟨_, _, hl, hv⟩ := isMat_t.1 hM
  obtain ⟨YF, rfl⟩ := Int.eq_ofNat_of_zero_le bf.1
  obtain ⟨YT, rfl⟩ := Int.eq_ofNat_of_zero_le bt.1
  have hl' : m.a.length = YT * YF := by
    rw [hr, hc] at hl
    exact_mod_cast hl
  have hrange := (isVec_t.1 hv).2.2
  refine ⟨m, nf, nt, YF, YT, em, ef, et, df, dt, ?_, fun i j hi hj => ?_, by omega, by omega, l5, l6, lf, lt, l7, hkm⟩
  · rw [mx_ext]
    exact ⟨hr, hc, flat_of hl'⟩
  · refine hrange _ ?_
    have := ix_lt hi hj
    rw [entry, List.getD_eq_getElem?_getD, List.getElem?_eq_getElem (by omega)]
    exact List.getElem_mem _
def mx0 : Mx := ⟨0, 0, []⟩
theorem MxO.zero (w : World) (lo hi : Nat) : MxO w lo hi (.agg #[.int .i64 0, .int .i64 0, .slice none 0 0]) mx0 := ⟨_, rfl, ⟨OwnI.nil _ _, by simp [Value.ownBlock]⟩, by simp [mx0, I64], by simp [mx0, I64]⟩
theorem MxO.setBlk {w : World} {lo hi g i : Nat} {v : Value} {m : Mx} {t : TypeId} {cs : Array Value} (h : MxO w lo hi v m) (hb : Blk w g t cs) (ht : 3 ≠ t) (u : Value) : MxO (w.setCell ⟨g, i, none⟩ u) lo hi v m := by
  obtain ⟨s, e, h1, h2⟩ := h
  exact ⟨s, e, ⟨h1.1.setCell (p := ⟨g, i, none⟩) (fun e => h1.1.blkne hb ht e.symm) u, h1.2⟩, h2⟩
end Go.Proofs.YtaefpblpfjhgoaaGreat

/- The matrices of the arrows from a source, and to a sink: plain part, and what walks need. -/
namespace Go.Proofs.YtaefpblpfjhgoaaGreat
set_option linter.unusedVariables false
set_option linter.unusedSimpArgs false
open Go.RowKit

/-- rows (or columns) met so far, and the entries -/
def outS (x : Rp) (v : Int) (C : Nat) : Nat → Nat × (Nat → Nat → Int)
  | 0 => (0, fun _ _ => 0)
  | k + 1 => if x.q.f.getD k 0 = v then ((outS x v C k).1 + (x.m.getD k ⟨0, 0, []⟩).r.toNat, blF (outS x v C k).1 (outS x v C k).2 (entry (x.m.getD k ⟨0, 0, []⟩).a C)) else outS x v C k
def inS (x : Rp) (v : Int) (R : Nat) : Nat → Nat × (Nat → Nat → Int)
  | 0 => (0, fun _ _ => 0)
  | k + 1 => if x.q.t.getD k 0 = v then ((inS x v R k).1 + (x.m.getD k ⟨0, 0, []⟩).c.toNat, bsF (inS x v R k).1 (inS x v R k).2 (entry (x.m.getD k ⟨0, 0, []⟩).a (x.m.getD k ⟨0, 0, []⟩).c.toNat)) else inS x v R k
theorem outS_no {x : Rp} {v : Int} {C k : Nat} {y : Int} (hf : x.q.f[k]? = some y) (h : y ≠ v) : outS x v C (k + 1) = outS x v C k := by
  rw [outS, if_neg]
  rw [List.getD_eq_getElem?_getD, hf]
  exact h
theorem outS_yes {x : Rp} {v : Int} {C k yt : Nat} {m : Mx} (hf : x.q.f[k]? = some v) (hm : x.m[k]? = some m) (hr : m.r = (yt : Int)) : outS x v C (k + 1) = ((outS x v C k).1 + yt, blF (outS x v C k).1 (outS x v C k).2 (entry m.a C)) := by
  rw [outS, if_pos]
  · simp only [List.getD_eq_getElem?_getD, hm, Option.getD_some, hr, Int.toNat_natCast]
  · rw [List.getD_eq_getElem?_getD, hf]; rfl
def outOk (x : Rp) (v : Int) : Bool := isRep x && endV x.q.t x.q v
def inOk (x : Rp) (v : Int) : Bool := isRep x && endV x.q.f x.q v

def outP (x : Rp) (v : Int) : Mx × Bool := if outOk x v then (mxF (outS x v (dAt x.d v).toNat x.q.f.length).1 (dAt x.d v).toNat (outS x v (dAt x.d v).toNat x.q.f.length).2, true) else (mx0, false)
def inP (x : Rp) (v : Int) : Mx × Bool := if inOk x v then (mxF (dAt x.d v).toNat (inS x v (dAt x.d v).toNat x.q.f.length).1 (inS x v (dAt x.d v).toNat x.q.f.length).2, true) else (mx0, false)


/-- the state of a loop over the arrows is small -/
theorem outS_le {x : Rp} {v : Int} {C : Nat} (hx : isRep x = true) : ∀ k, k ≤ x.q.f.length → (outS x v C k).1 ≤ 4 * k
  | 0, _ => by simp [outS]
  | k + 1, hk => by
    have ih := outS_le (v := v) (C := C) hx k (by omega)
    obtain ⟨m, nf, nt, yf, yt, em, ef, et, df, dt, eM, _, b1, b2, _⟩ := isRep_at hx (show k < x.q.f.length by omega)
    by_cases h : (nf : Int) = v
    · rw [h] at ef
      rw [outS_yes ef em (yt := yt) (by rw [eM]; rfl)]
      simp only
      omega
    · rw [outS_no ef h]; omega
def outM (x : Rp) (v : Int) (C k : Nat) : Mx := mxF (outS x v C k).1 C (outS x v C k).2
def inM (x : Rp) (v : Int) (C k : Nat) : Mx := mxF C (inS x v C k).1 (inS x v C k).2
theorem outM_0 (x : Rp) (v : Int) (C : Nat) : zmx 0 C = outM x v C 0 := zmx_flat 0 C
theorem outP_yes {x : Rp} {v : Int} {C : Nat} (h : outOk x v = true) (hC : dAt x.d v = (C : Int)) : outP x v = (outM x v C x.q.f.length, true) := by
  rw [outP, if_pos h, hC, Int.toNat_natCast]; rfl
/-- what a vertex of a valid representation is -/
theorem vert_at {x : Rp} {v : Int} {l : List Int} (hx : isRep x = true) (hv : endV l x.q v = true) : ∃ n C : Nat, v = (n : Int) ∧ n < x.d.length ∧ x.d[n]? = some (C : Int) ∧ dAt x.d v = (C : Int) ∧ C ≤ 4 ∧ n ≤ 5 := by
  obtain ⟨h1, h2, h3, h4⟩ := areDims_t.1 (isRep_t.1 hx).2.1
  have hV := (isQ_t.1 h1).1
  simp only [endV, Bool.and_eq_true, inR_t] at hv
  obtain ⟨n, rfl⟩ := Int.eq_ofNat_of_zero_le hv.1.1
  have hl : n < x.d.length := by omega
  have e := List.getElem?_eq_getElem hl
  have b := h3 _ (List.mem_of_getElem? e)
  obtain ⟨C, hC⟩ := Int.eq_ofNat_of_zero_le b.1
  rw [hC] at e b
  exact ⟨n, C, rfl, hl, e, dAt_of e, by omega, by omega⟩
end Go.Proofs.YtaefpblpfjhgoaaGreat

/- The program's zeroRep. -/
namespace Go.Proofs.YtaefpblpfjhgoaaGreat
set_option linter.unusedVariables false
set_option linter.unusedSimpArgs false
open Go.RowKit

def zms (q : Qv) (d : List Int) (k : Nat) : List Mx := (List.range k).map fun i => zmx (dAt d (q.t.getD i 0)) (dAt d (q.f.getD i 0))
theorem zms_length (q : Qv) (d : List Int) (k : Nat) : (zms q d k).length = k := by simp [zms]
theorem zms_succ {q : Qv} {d : List Int} {k nf nt : Nat} {yf yt : Int} (hf : q.f[k]? = some (nf : Int)) (ht : q.t[k]? = some (nt : Int)) (hyf : d[nf]? = some yf) (hyt : d[nt]? = some yt) : zms q d (k + 1) = zms q d k ++ [zmx yt yf] := by
  simp [zms, List.range_succ, List.getD_eq_getElem?_getD, hf, ht, dAt, hyf, hyt]
def zRep (p : Int) (q : Qv) (d : List Int) : Rp := ⟨p, q, d, zms q d q.f.length⟩
theorem zms_I64 {q : Qv} {d : List Int} (h : areDims q d = true) (k : Nat) (hk : k ≤ q.f.length) : ∀ m ∈ zms q d k, I64 m.r ∧ I64 m.c := by
  intro m hm
  simp only [zms, List.mem_map, List.mem_range] at hm
  obtain ⟨i, hi, rfl⟩ := hm
  obtain ⟨nf, nt, yf, yt, ef, et, df, dt, _⟩ := rep_at (x := ⟨0, q, d, []⟩) h (show i < q.f.length by omega)
  obtain ⟨_, _, hd, _⟩ := areDims_t.1 h
  have b1 := hd _ (List.mem_of_getElem? df)
  have b2 := hd _ (List.mem_of_getElem? dt)
  simp only [zmx, List.getD_eq_getElem?_getD, ef, et, Option.getD_some, dAt_of df, dAt_of dt, I64]
  omega

theorem IntsO.cell {w : World} {lo hi : Nat} {v : Value} {l : List Int} (h : IntsO w lo hi v l) : v.oneCell' = true := by
  obtain ⟨A, c, rfl⟩ := h.form
  rfl

end Go.Proofs.YtaefpblpfjhgoaaGreat

/- The reference's l8Zero. -/
namespace Go.Proofs.YtaefpblpfjhgoaaGreat
set_option linter.unusedVariables false
set_option linter.unusedSimpArgs false
open Go.RowKit

/-- a representation that the call made; the rows of its quiver and dimensions lie in earlier memory than those of its matrices, which are apart from one another -/
def RepI (w : World) (lo hi : Nat) (val : Value) (x : Rp) : Prop := ∃ f t d m vs mi, val = .agg #[.int .i64 x.p, .int .i64 x.q.v, f, t, d, m] ∧ IntsO w lo mi f x.q.f ∧ IntsO w lo mi t x.q.t ∧ IntsO w lo mi d x.d ∧ OutM w lo hi m vs x.m ∧ vs.length = x.m.length ∧
  Fam w mi hi (vs.zip (x.m.map Mx.a)) ∧ (lo ≤ mi ∧ mi ≤ hi) ∧ (I64 x.p ∧ I64 x.q.v) ∧ ∀ m ∈ x.m, I64 m.r ∧ I64 m.c
theorem RepI.rd {w : World} {lo hi : Nat} {v : Value} {x : Rp} (h : RepI w lo hi v x) : RpR w w.heap.size v x := by
  obtain ⟨f, t, d, m, vs, mi, e, h1, h2, h3, h4, h5, h6, _, h7, h8⟩ := h
  exact ⟨f, t, d, m, e, h1.rd, h2.rd, h3.rd, OutM.rd h4 h5 (fun p hp => (h6.1 p hp).rd) h8, h7⟩
theorem RepI.chg {w w' : World} {lo hi lo' hi' : Nat} {v : Value} {x : Rp} (h : RepI w lo hi v x) (hc : Chg lo' hi' w w') (hd : hi ≤ lo' ∨ hi' ≤ lo) : RepI w' lo hi v x := by
  obtain ⟨f, t, d, m, vs, mi, e, h1, h2, h3, h4, h5, h6, h9, h7, h8⟩ := h
  exact ⟨f, t, d, m, vs, mi, e, h1.chg hc (by omega), h2.chg hc (by omega), h3.chg hc (by omega), h4.chg hc hd, h5, h6.chg hc (by omega), h9, h7, h8⟩
theorem RepI.below {w w' : World} {lo hi : Nat} {v : Value} {x : Rp} (h : RepI w lo hi v x) (hb : Below w.heap.size w w') : RepI w' lo hi v x := by
  obtain ⟨f, t, d, m, vs, mi, e, h1, h2, h3, h4, h5, h6, h9, h7, h8⟩ := h
  exact ⟨f, t, d, m, vs, mi, e, h1.below hb, h2.below hb, h3.below hb, h4.below hb, h5, h6.below hb, h9, h7, h8⟩
theorem RepI.wider {w : World} {lo hi lo' hi' : Nat} {v : Value} {x : Rp} (h : RepI w lo hi v x) (k1 : lo' ≤ lo) (k2 : hi ≤ hi') : RepI w lo' hi' v x := by
  obtain ⟨f, t, d, m, vs, mi, e, h1, h2, h3, h4, h5, h6, h9, h7, h8⟩ := h
  exact ⟨f, t, d, m, vs, mi, e, h1.wider k1 (Nat.le_refl _), h2.wider k1 (Nat.le_refl _), h3.wider k1 (Nat.le_refl _), h4.mono k1 k2, h5, h6.mono (Nat.le_refl _) k2, by omega, h7, h8⟩

theorem RepI.zero (w : World) {lo hi : Nat} (h : lo ≤ hi) : RepI w lo hi (.agg #[.int .i64 0, .int .i64 0, .slice none 0 0, .slice none 0 0, .slice none 0 0, .slice none 0 0]) rp0 :=
  ⟨_, _, _, _, [], lo, rfl, ⟨OwnI.nil _ _, by simp [Value.ownBlock]⟩, ⟨OwnI.nil _ _, by simp [Value.ownBlock]⟩, ⟨OwnI.nil _ _, by simp [Value.ownBlock]⟩, RowO.nil _ w lo hi, rfl, ⟨fun p hp => by simp at hp, by simp⟩, ⟨Nat.le_refl _, h⟩, by simp [rp0, I64], fun m hm => by simp [rp0] at hm⟩

set_option maxHeartbeats 6400000 in
set_option maxRecDepth 100000 in
theorem l8Zero_any (p : Int) (u xv : Value) (q : Qv) (d : List Int) (w0 : World) (hp : I64 p) (hu : QvR w0 w0.heap.size u q) (hx : SlI w0 w0.heap.size xv d) (hq : areDims q d = true) :
    Calls Tryz.prog 29 #[.int .i64 p, u, xv] w0 fun e w' => ∃ v, e = .returned v ∧ RepI w' w0.heap.size w'.heap.size v (zRep p q d) ∧ Below w0.heap.size w0 w' := by
  have hu' := hu
  obtain ⟨A, c, C, c', rfl, hf, ht, hr, lf, lt⟩ := hu.open_
  obtain ⟨XA, xc, rfl, _, _, lx, hx⟩ := hx.open_
  clear hu
  obtain ⟨W, hW⟩ : ∃ W, W = (w0.alloc (.cells #[.int .i64 q.v, .slice A q.f.length c, .slice C q.t.length c'] 29)).alloc (.cells #[.int .i64 0, .int .i64 0, .slice none 0 0, .slice none 0 0, .slice none 0 0, .slice none 0 0] 32) := ⟨_, rfl⟩
  have g0 : Below w0.heap.size w0 W := by rw [hW]; exact ((Below.refl _ _).alloc (Nat.le_refl _) _).alloc (by simp) _
  have k1 : Blk W w0.heap.size 29 #[.int .i64 q.v, .slice A q.f.length c, .slice C q.t.length c'] := by rw [hW]; exact (Blk.new _ _ _).alloc _
  have k2 : Blk W (w0.heap.size + 1) 32 #[.int .i64 0, .int .i64 0, .slice none 0 0, .slice none 0 0, .slice none 0 0, .slice none 0 0] := by
    rw [hW]
    have := Blk.new (w0.alloc (.cells #[.int .i64 q.v, .slice A q.f.length c, .slice C q.t.length c'] 29)) 32 #[.int .i64 0, .int .i64 0, .slice none 0 0, .slice none 0 0, .slice none 0 0, .slice none 0 0]
    simpa only [World.size_alloc] using this
  have sz : W.heap.size = w0.heap.size + 1 + 1 := by rw [hW]; simp
  have SZ := Lib.hid sz
  clear sz
  have HQ := Lib.hid hq
  clear hq
  have hxW := SlI.next g0 hx
  have huW := QvR.next g0 hu'
  go_enter Tryz.func29, Tryz.ntmps29
  have c0 := k1.cell' (i := 0) rfl
  have c1 := k1.cell' (i := 1) rfl
  have c2 := k1.cell' (i := 2) rfl
  go_wp2_with fail
  rw [← hW]; clear hW
  refine (l6Copy_any _ q _ huW).mono ?_; rintro e w1 ⟨v1, rfl, ⟨qa, qb, rfl, ha, hb2, hqv⟩, hb1⟩
  obtain ⟨A1, a1, rfl⟩ := ha.form
  obtain ⟨C1, b1, rfl⟩ := hb2.form
  have s1 := hb1.size
  clear c0 c1 c2
  (go_wp2_with (at_builtin; refine Hold.stop ?_)); unfold Hold
  refine wpList_append_fresh (by rfl) (.tmp 12) (.tmp 13) (by rfl) w1.heap.size w1.heap.size (w1.alloc (.cells #[] 3)).heap.size #[] (by rfl) (Blk.new _ _ _) rfl (Nat.le_refl _) XA xc d (by rfl) (SlI.next (below_alloc _ _) (SlI.next hb1 hxW)) ?_
  intro v2 w2 ho hb2'
  obtain ⟨E1, e1, rfl, _, _⟩ := ho.form
  have hb3 : Below w1.heap.size w1 w2 := bthen (below_alloc _ _) hb2'
  have s2 := hb3.size
  have s2' := hb2'.size
  obtain ⟨W3, hW3⟩ : ∃ W3, W3 = (w2.alloc (.cells #[] 50)).alloc (.cells #[.int .i64 p, .int .i64 q.v, .slice A1 q.f.length a1, .slice C1 q.t.length b1, .slice E1 d.length e1, .slice (some ⟨w2.heap.size, 0, none⟩) 0 0] 32) := ⟨_, rfl⟩
  have gA : Below w2.heap.size w2 W3 := by rw [hW3]; exact ((Below.refl _ _).alloc (Nat.le_refl _) _).alloc (by simp) _
  have z3 : W3.heap.size = w2.heap.size + 1 + 1 := by rw [hW3]; simp
  have hBm3 : Blk W3 w2.heap.size 50 #[] := by rw [hW3]; exact (Blk.new _ _ _).alloc _
  have hB3 : Blk W3 (w2.heap.size + 1) 32 #[.int .i64 p, .int .i64 q.v, .slice A1 q.f.length a1, .slice C1 q.t.length b1, .slice E1 d.length e1, .slice (some ⟨w2.heap.size, 0, none⟩) 0 0] := by
    rw [hW3]
    have := Blk.new (w2.alloc (.cells #[] 50)) 32 #[.int .i64 p, .int .i64 q.v, .slice A1 q.f.length a1, .slice C1 q.t.length b1, .slice E1 d.length e1, .slice (some ⟨w2.heap.size, 0, none⟩) 0 0]
    simpa only [World.size_alloc] using this
  have g1 : Below W.heap.size W w2 := bthen hb1 hb3
  have gW3 : Below W.heap.size W W3 := bthen g1 gA
  have sW := g1.size
  simp only [World.size_alloc] at s2'
  have hO3 : RowO 50 3 W3 W.heap.size W3.heap.size (.slice (some ⟨w2.heap.size, 0, none⟩) 0 0) 0 [] := by
    have := hBm3.own (base := W.heap.size) (n := 0) (cap := 0) (size := 3) sW (Nat.le_refl _) (by simp only [maxLen]; omega) (by simp)
    exact ⟨by simpa using this, fun k hk => by simp [Value.ownBlock] at hk; subst hk; exact hBm3.lt, by omega⟩
  have ha3 : IntsO W3 W.heap.size W3.heap.size (.slice A1 q.f.length a1) q.f := ((ha.below hb3).below gA).wider (Nat.le_refl _) (by omega)
  have hb3' : IntsO W3 W.heap.size W3.heap.size (.slice C1 q.t.length b1) q.t := ((hb2.below hb3).below gA).wider (Nat.le_refl _) (by omega)
  have hd3 : IntsO W3 W.heap.size W3.heap.size (.slice E1 d.length e1) d := ((IntsO.of_own ho).below gA).wider (by omega) (by omega)
  have hgR : W.heap.size ≤ (w2.heap.size + 1) := by omega
  have q1' : W3.cell? ⟨w0.heap.size, 1, none⟩ = some (.slice A q.f.length c) := (k1.below gW3 (by have := SZ.out; omega)).cell' (i := 1) rfl
  have q1'' : w2.cell? ⟨w0.heap.size, 1, none⟩ = some (.slice A q.f.length c) := (k1.below g1 (by have := SZ.out; omega)).cell' (i := 1) rfl
  have hlt0 : w0.heap.size < w2.heap.size := by have := SZ.out; omega
  have K1 := Lib.hid k1
  have K2 := Lib.hid k2
  have G0 := Lib.hid g0
  have HA3 := Lib.hid ha3
  have HB3 := Lib.hid hb3'
  have HD3 := Lib.hid hd3
  have H3 := Lib.hid hB3
  have O3 := Lib.hid hO3
  have GW3 := Lib.hid gW3
  have HGR := Lib.hid (show (w2.heap.size + 1) < W3.heap.size by omega)
  clear ho ha hb2 hBm3 ha3 hb3 hb3' hd3 hB3 hO3 gW3 k1 k2 g0 hb1 hb2' gA g1 s1 s2 s2' sW z3
  go_wp2
  rw [← hW3]
  clear hW3 q1' q1''
  go_loopw [8] (fun i wr => ∃ (k : Nat) (mv : Value) (vs : List Value), k ≤ q.f.length ∧ i = .int .i64 k ∧ Below W.heap.size W wr ∧ W3.heap.size ≤ wr.heap.size ∧ Blk wr (w2.heap.size + 1) 32 #[.int .i64 p, .int .i64 q.v, .slice A1 q.f.length a1, .slice C1 q.t.length b1, .slice E1 d.length e1, mv] ∧
    IntsO wr W.heap.size W3.heap.size (.slice A1 q.f.length a1) q.f ∧ IntsO wr W.heap.size W3.heap.size (.slice C1 q.t.length b1) q.t ∧ IntsO wr W.heap.size W3.heap.size (.slice E1 d.length e1) d ∧
    RowO 50 3 wr W.heap.size wr.heap.size mv k (mxCs vs (zms q d k)) ∧ vs.length = k ∧ Fam wr W3.heap.size wr.heap.size (vs.zip ((zms q d k).map Mx.a))) (fun i _ => q.f.length - (intOf i).toNat)
  case atStart => exact ⟨0, _, [], Nat.zero_le _, rfl, GW3.out, Nat.le_refl _, H3.out, HA3.out, HB3.out, HD3.out, O3.out, rfl, ⟨fun p hp => by simp at hp, by simp⟩⟩
  case round =>
    obtain ⟨k, mv, vs, hk, rfl, hbel, hlt2, hB, hIa, hIb, hId, hO, hvl, hF⟩ := hrel
    have HVL := Lib.hid hvl
    clear hvl
    have kq := (K1.out).below hbel (by have := SZ.out; omega)
    have p1 := kq.cell' (i := 1) rfl
    by_cases hlt : k < q.f.length
    · obtain ⟨nf, nt, yf, yt, ef, et, df, dt, lnf, lnt, lnf5, lnt5, hkt0⟩ := rep_at (x := ⟨0, q, d, []⟩) HQ.out hlt
      simp only at ef et df dt lnf lnt hkt0
      have hkf := hlt
      have hd := (areDims_t.1 HQ.out).2.2.1
      have hlf6 : q.f.length ≤ 6 := (isQ_t.1 (areDims_t.1 HQ.out).1).2.2.1
      have byf := hd _ (List.mem_of_getElem? df)
      have byt := hd _ (List.mem_of_getElem? dt)
      have HZS := Lib.hid (zms_succ ef et df dt)
      clear hd
      have hkt := hkt0
      obtain ⟨bf, of_, xf, eA, hbf, HXF, f1, _⟩ := SlI.at_ hf hkf
      obtain ⟨bt, ot, xt, eC, hbt, HXT, t1, _⟩ := SlI.at_ ht hkt
      obtain ⟨bd, od, xdf, eX, hbd, HXDF, d1, _⟩ := SlI.at_ hx lnf
      obtain ⟨bd', od', xdt, eX', hbd', HXDT, d2, _⟩ := SlI.at_ hx lnt
      subst eA eC eX
      injection eX' with eX'
      injection eX' with e1 e2
      subst e1 e2
      have q1 := HXF.out
      rw [ef] at q1
      injection q1 with q1
      subst q1
      have q2 := HXT.out
      rw [et] at q2
      injection q2 with q2
      subst q2
      have q3 := HXDF.out
      rw [df] at q3
      injection q3 with q3
      subst q3
      have q4 := HXDT.out
      rw [dt] at q4
      injection q4 with q4
      subst q4
      clear HXF HXT HXDF HXDT ef et df dt
      have gw : Below w0.heap.size w0 wr := G0.out.trans (hbel.mono (G0.out).size)
      have gws := gw.size
      have hbelS := hbel.size
      have sz := SZ.out
      have a1' : (0 : Int) ≤ (k : Int) := by omega
      have a2' : (k : Int) < q.f.length := by omega
      have a3' : (k : Int) < q.t.length := by omega
      have a4' : (0 : Int) ≤ (nf : Int) := by omega
      have a5' : (nf : Int) < d.length := by omega
      have a6' : (0 : Int) ≤ (nt : Int) := by omega
      have a7' : (nt : Int) < d.length := by omega
      have SZ2 := Lib.hid sz
      clear sz
      go_wp2
      refine wp_region_net (by kernel_rfl) [.eq (.pointer (some ⟨w2.heap.size + 1, 5, none⟩)), .eq (mv), .eq (.slice (some ⟨bd, od, none⟩) d.length xc), .eq (.pointer (some ⟨w0.heap.size, 2, none⟩)), .eq (.slice (some ⟨bt, ot, none⟩) q.t.length c'), .eq (.int .i64 k), .eq (.pointer (some ⟨bt, ot + k, none⟩)), .eq (.int .i64 nt), .eq (.pointer (some ⟨bd, od + nt, none⟩)), .eq (.int .i64 yt), .eq (.slice (some ⟨bd, od, none⟩) d.length xc), .eq (.pointer (some ⟨w0.heap.size, 1, none⟩)), .eq (.slice (some ⟨bf, of_, none⟩) q.f.length c), .eq (.int .i64 k), .eq (.pointer (some ⟨bf, of_ + k, none⟩)), .eq (.int .i64 nf), .eq (.pointer (some ⟨bd, od + nf, none⟩)), .eq (.int .i64 yf), rel 18 (fun u lo hi w => MxO w lo hi u (zmx yt yf)), .rel (fun x w => ∃ g s, x.v 19 = .slice (some ⟨g, 0, none⟩) 1 1 ∧ x.v 18 = .agg #[.int .i64 yt, .int .i64 yf, s] ∧ Blk w g 50 #[.int .i64 yt, .int .i64 yf, s])] [[], [0], [], [], [3], [], [3, 4, 5], [3, 4, 5, 6], [2, 3, 4, 5, 6, 7], [2, 3, 4, 5, 6, 7, 8], [], [], [11], [], [11, 12, 13], [11, 12, 13, 14], [10, 11, 12, 13, 14, 15], [10, 11, 12, 13, 14, 15, 16], [2, 3, 4, 5, 6, 7, 8, 9, 10, 11, 12, 13, 14, 15, 16, 17], [2, 3, 4, 5, 6, 7, 8, 9, 10, 11, 12, 13, 14, 15, 16, 17, 18], [0, 1, 2, 3, 4, 5, 6, 7, 8, 9, 10, 11, 12, 13, 14, 15, 16, 17, 18, 19], [0, 1, 2, 3, 4, 5, 6, 7, 8, 9, 10, 11, 12, 13, 14, 15, 16, 17, 18, 19, 20], [0, 1, 2, 3, 4, 5, 6, 7, 8, 9, 10, 11, 12, 13, 14, 15, 16, 17, 18, 19, 20, 21]] 20 (by kernel_rfl) ⟨trivial, trivial, trivial, trivial, trivial, trivial, trivial, trivial, trivial, trivial, trivial, trivial, trivial, trivial, trivial, trivial, trivial, trivial, rel_stable (fun u lo hi w w' h hb => h.below hb), fun x w w' ⟨g, s, e1, e2, h⟩ hb => ⟨g, s, e1, e2, h.call hb⟩, trivial⟩ ⟨?_, ?_, ?_, ?_, ?_, ?_, ?_, ?_, ?_, ?_, ?_, ?_, ?_, ?_, ?_, ?_, ?_, ?_, ?_, ?_, trivial⟩ ?_
      · intro x w hb hk Q' hQ
        clear hk
        simp only [netAct, dstAt, List.getElem?_toArray, List.getElem?_cons_zero, List.getElem?_cons_succ, Option.bind_some, Act.put, List.setIfInBounds_toArray, List.set_cons_zero, List.set_cons_succ] at hQ ⊢
        go_wp2
        exact hQ (.pointer (some ⟨w2.heap.size + 1, 5, none⟩)) _ (Below.refl _ _) rfl
      · intro x w hb hk Q' hQ
        have h0 : x.v 0 = .pointer (some ⟨w2.heap.size + 1, 5, none⟩) := (hk 0 (by decide)).1
        clear hk
        simp only [netAct, dstAt, List.getElem?_toArray, List.getElem?_cons_zero, List.getElem?_cons_succ, Option.bind_some, Act.put, List.setIfInBounds_toArray, List.set_cons_zero, List.set_cons_succ] at hQ ⊢
        simp only [h0] at hQ ⊢
        clear h0
        have z5 := (hB.call hb).cell' (i := 5) rfl
        go_wp2
        exact hQ (mv) _ (Below.refl _ _) rfl
      · intro x w hb hk Q' hQ
        clear hk
        simp only [netAct, dstAt, List.getElem?_toArray, List.getElem?_cons_zero, List.getElem?_cons_succ, Option.bind_some, Act.put, List.setIfInBounds_toArray, List.set_cons_zero, List.set_cons_succ] at hQ ⊢
        go_wp2
        exact hQ (.slice (some ⟨bd, od, none⟩) d.length xc) _ (Below.refl _ _) rfl
      · intro x w hb hk Q' hQ
        clear hk
        simp only [netAct, dstAt, List.getElem?_toArray, List.getElem?_cons_zero, List.getElem?_cons_succ, Option.bind_some, Act.put, List.setIfInBounds_toArray, List.set_cons_zero, List.set_cons_succ] at hQ ⊢
        go_wp2
        exact hQ (.pointer (some ⟨w0.heap.size, 2, none⟩)) _ (Below.refl _ _) rfl
      · intro x w hb hk Q' hQ
        have h3 : x.v 3 = .pointer (some ⟨w0.heap.size, 2, none⟩) := (hk 3 (by decide)).1
        clear hk
        simp only [netAct, dstAt, List.getElem?_toArray, List.getElem?_cons_zero, List.getElem?_cons_succ, Option.bind_some, Act.put, List.setIfInBounds_toArray, List.set_cons_zero, List.set_cons_succ] at hQ ⊢
        simp only [h3] at hQ ⊢
        clear h3
        have z2 := (kq.call hb).cell' (i := 2) rfl
        go_wp2
        exact hQ (.slice (some ⟨bt, ot, none⟩) q.t.length c') _ (Below.refl _ _) rfl
      · intro x w hb hk Q' hQ
        clear hk
        simp only [netAct, dstAt, List.getElem?_toArray, List.getElem?_cons_zero, List.getElem?_cons_succ, Option.bind_some, Act.put, List.setIfInBounds_toArray, List.set_cons_zero, List.set_cons_succ] at hQ ⊢
        go_wp2
        exact hQ (.int .i64 k) _ (Below.refl _ _) rfl
      · intro x w hb hk Q' hQ
        have h4 : x.v 4 = .slice (some ⟨bt, ot, none⟩) q.t.length c' := (hk 4 (by decide)).1
        have h5 : x.v 5 = .int .i64 k := (hk 5 (by decide)).1
        clear hk
        simp only [netAct, dstAt, List.getElem?_toArray, List.getElem?_cons_zero, List.getElem?_cons_succ, Option.bind_some, Act.put, List.setIfInBounds_toArray, List.set_cons_zero, List.set_cons_succ] at hQ ⊢
        simp only [h4, h5] at hQ ⊢
        clear h4 h5
        go_wp2
        exact hQ (.pointer (some ⟨bt, ot + k, none⟩)) _ (Below.refl _ _) rfl
      · intro x w hb hk Q' hQ
        have h6 : x.v 6 = .pointer (some ⟨bt, ot + k, none⟩) := (hk 6 (by decide)).1
        clear hk
        simp only [netAct, dstAt, List.getElem?_toArray, List.getElem?_cons_zero, List.getElem?_cons_succ, Option.bind_some, Act.put, List.setIfInBounds_toArray, List.set_cons_zero, List.set_cons_succ] at hQ ⊢
        simp only [h6] at hQ ⊢
        clear h6
        have z2 := bcell hb (by omega) (bcell gw hbt t1)
        go_wp2
        exact hQ (.int .i64 nt) _ (Below.refl _ _) rfl
      · intro x w hb hk Q' hQ
        have h2 : x.v 2 = .slice (some ⟨bd, od, none⟩) d.length xc := (hk 2 (by decide)).1
        have h7 : x.v 7 = .int .i64 nt := (hk 7 (by decide)).1
        clear hk
        simp only [netAct, dstAt, List.getElem?_toArray, List.getElem?_cons_zero, List.getElem?_cons_succ, Option.bind_some, Act.put, List.setIfInBounds_toArray, List.set_cons_zero, List.set_cons_succ] at hQ ⊢
        simp only [h2, h7] at hQ ⊢
        clear h2 h7
        go_wp2
        exact hQ (.pointer (some ⟨bd, od + nt, none⟩)) _ (Below.refl _ _) rfl
      · intro x w hb hk Q' hQ
        have h8 : x.v 8 = .pointer (some ⟨bd, od + nt, none⟩) := (hk 8 (by decide)).1
        clear hk
        simp only [netAct, dstAt, List.getElem?_toArray, List.getElem?_cons_zero, List.getElem?_cons_succ, Option.bind_some, Act.put, List.setIfInBounds_toArray, List.set_cons_zero, List.set_cons_succ] at hQ ⊢
        simp only [h8] at hQ ⊢
        clear h8
        have z2 := bcell hb (by omega) (bcell gw hbd' d2)
        go_wp2
        exact hQ (.int .i64 yt) _ (Below.refl _ _) rfl
      · intro x w hb hk Q' hQ
        clear hk
        simp only [netAct, dstAt, List.getElem?_toArray, List.getElem?_cons_zero, List.getElem?_cons_succ, Option.bind_some, Act.put, List.setIfInBounds_toArray, List.set_cons_zero, List.set_cons_succ] at hQ ⊢
        go_wp2
        exact hQ (.slice (some ⟨bd, od, none⟩) d.length xc) _ (Below.refl _ _) rfl
      · intro x w hb hk Q' hQ
        clear hk
        simp only [netAct, dstAt, List.getElem?_toArray, List.getElem?_cons_zero, List.getElem?_cons_succ, Option.bind_some, Act.put, List.setIfInBounds_toArray, List.set_cons_zero, List.set_cons_succ] at hQ ⊢
        go_wp2
        exact hQ (.pointer (some ⟨w0.heap.size, 1, none⟩)) _ (Below.refl _ _) rfl
      · intro x w hb hk Q' hQ
        have h11 : x.v 11 = .pointer (some ⟨w0.heap.size, 1, none⟩) := (hk 11 (by decide)).1
        clear hk
        simp only [netAct, dstAt, List.getElem?_toArray, List.getElem?_cons_zero, List.getElem?_cons_succ, Option.bind_some, Act.put, List.setIfInBounds_toArray, List.set_cons_zero, List.set_cons_succ] at hQ ⊢
        simp only [h11] at hQ ⊢
        clear h11
        have z2 := (kq.call hb).cell' (i := 1) rfl
        go_wp2
        exact hQ (.slice (some ⟨bf, of_, none⟩) q.f.length c) _ (Below.refl _ _) rfl
      · intro x w hb hk Q' hQ
        clear hk
        simp only [netAct, dstAt, List.getElem?_toArray, List.getElem?_cons_zero, List.getElem?_cons_succ, Option.bind_some, Act.put, List.setIfInBounds_toArray, List.set_cons_zero, List.set_cons_succ] at hQ ⊢
        go_wp2
        exact hQ (.int .i64 k) _ (Below.refl _ _) rfl
      · intro x w hb hk Q' hQ
        have h12 : x.v 12 = .slice (some ⟨bf, of_, none⟩) q.f.length c := (hk 12 (by decide)).1
        have h13 : x.v 13 = .int .i64 k := (hk 13 (by decide)).1
        clear hk
        simp only [netAct, dstAt, List.getElem?_toArray, List.getElem?_cons_zero, List.getElem?_cons_succ, Option.bind_some, Act.put, List.setIfInBounds_toArray, List.set_cons_zero, List.set_cons_succ] at hQ ⊢
        simp only [h12, h13] at hQ ⊢
        clear h12 h13
        go_wp2
        exact hQ (.pointer (some ⟨bf, of_ + k, none⟩)) _ (Below.refl _ _) rfl
      · intro x w hb hk Q' hQ
        have h14 : x.v 14 = .pointer (some ⟨bf, of_ + k, none⟩) := (hk 14 (by decide)).1
        clear hk
        simp only [netAct, dstAt, List.getElem?_toArray, List.getElem?_cons_zero, List.getElem?_cons_succ, Option.bind_some, Act.put, List.setIfInBounds_toArray, List.set_cons_zero, List.set_cons_succ] at hQ ⊢
        simp only [h14] at hQ ⊢
        clear h14
        have z2 := bcell hb (by omega) (bcell gw hbf f1)
        go_wp2
        exact hQ (.int .i64 nf) _ (Below.refl _ _) rfl
      · intro x w hb hk Q' hQ
        have h10 : x.v 10 = .slice (some ⟨bd, od, none⟩) d.length xc := (hk 10 (by decide)).1
        have h15 : x.v 15 = .int .i64 nf := (hk 15 (by decide)).1
        clear hk
        simp only [netAct, dstAt, List.getElem?_toArray, List.getElem?_cons_zero, List.getElem?_cons_succ, Option.bind_some, Act.put, List.setIfInBounds_toArray, List.set_cons_zero, List.set_cons_succ] at hQ ⊢
        simp only [h10, h15] at hQ ⊢
        clear h10 h15
        go_wp2
        exact hQ (.pointer (some ⟨bd, od + nf, none⟩)) _ (Below.refl _ _) rfl
      · intro x w hb hk Q' hQ
        have h16 : x.v 16 = .pointer (some ⟨bd, od + nf, none⟩) := (hk 16 (by decide)).1
        clear hk
        simp only [netAct, dstAt, List.getElem?_toArray, List.getElem?_cons_zero, List.getElem?_cons_succ, Option.bind_some, Act.put, List.setIfInBounds_toArray, List.set_cons_zero, List.set_cons_succ] at hQ ⊢
        simp only [h16] at hQ ⊢
        clear h16
        have z2 := bcell hb (by omega) (bcell gw hbd d1)
        go_wp2
        exact hQ (.int .i64 yf) _ (Below.refl _ _) rfl
      · intro x w hb hk Q' hQ
        have h2 : x.v 2 = .slice (some ⟨bd, od, none⟩) d.length xc := (hk 2 (by decide)).1
        have h3 : x.v 3 = .pointer (some ⟨w0.heap.size, 2, none⟩) := (hk 3 (by decide)).1
        have h4 : x.v 4 = .slice (some ⟨bt, ot, none⟩) q.t.length c' := (hk 4 (by decide)).1
        have h5 : x.v 5 = .int .i64 k := (hk 5 (by decide)).1
        have h6 : x.v 6 = .pointer (some ⟨bt, ot + k, none⟩) := (hk 6 (by decide)).1
        have h7 : x.v 7 = .int .i64 nt := (hk 7 (by decide)).1
        have h8 : x.v 8 = .pointer (some ⟨bd, od + nt, none⟩) := (hk 8 (by decide)).1
        have h9 : x.v 9 = .int .i64 yt := (hk 9 (by decide)).1
        have h10 : x.v 10 = .slice (some ⟨bd, od, none⟩) d.length xc := (hk 10 (by decide)).1
        have h11 : x.v 11 = .pointer (some ⟨w0.heap.size, 1, none⟩) := (hk 11 (by decide)).1
        have h12 : x.v 12 = .slice (some ⟨bf, of_, none⟩) q.f.length c := (hk 12 (by decide)).1
        have h13 : x.v 13 = .int .i64 k := (hk 13 (by decide)).1
        have h14 : x.v 14 = .pointer (some ⟨bf, of_ + k, none⟩) := (hk 14 (by decide)).1
        have h15 : x.v 15 = .int .i64 nf := (hk 15 (by decide)).1
        have h16 : x.v 16 = .pointer (some ⟨bd, od + nf, none⟩) := (hk 16 (by decide)).1
        have h17 : x.v 17 = .int .i64 yf := (hk 17 (by decide)).1
        clear hk
        simp only [netAct, dstAt, List.getElem?_toArray, List.getElem?_cons_zero, List.getElem?_cons_succ, Option.bind_some, Act.put, List.setIfInBounds_toArray, List.set_cons_zero, List.set_cons_succ] at hQ ⊢
        simp only [h2, h3, h4, h5, h6, h7, h8, h9, h10, h11, h12, h13, h14, h15, h16, h17] at hQ ⊢
        clear h2 h3 h4 h5 h6 h7 h8 h9 h10 h11 h12 h13 h14 h15 h16 h17
        go_wp2_with fail
        refine (l3Zero_any yt yf _ byt.1 byf.1 (by omega) (by omega)).mono ?_; rintro e w3 ⟨v3, rfl, hZ, hb3⟩
        go_wp2
        exact hQ _ _ hb3 hZ
      · intro x w hb hk Q' hQ
        have h2 : x.v 2 = .slice (some ⟨bd, od, none⟩) d.length xc := (hk 2 (by decide)).1
        have h3 : x.v 3 = .pointer (some ⟨w0.heap.size, 2, none⟩) := (hk 3 (by decide)).1
        have h4 : x.v 4 = .slice (some ⟨bt, ot, none⟩) q.t.length c' := (hk 4 (by decide)).1
        have h5 : x.v 5 = .int .i64 k := (hk 5 (by decide)).1
        have h6 : x.v 6 = .pointer (some ⟨bt, ot + k, none⟩) := (hk 6 (by decide)).1
        have h7 : x.v 7 = .int .i64 nt := (hk 7 (by decide)).1
        have h8 : x.v 8 = .pointer (some ⟨bd, od + nt, none⟩) := (hk 8 (by decide)).1
        have h9 : x.v 9 = .int .i64 yt := (hk 9 (by decide)).1
        have h10 : x.v 10 = .slice (some ⟨bd, od, none⟩) d.length xc := (hk 10 (by decide)).1
        have h11 : x.v 11 = .pointer (some ⟨w0.heap.size, 1, none⟩) := (hk 11 (by decide)).1
        have h12 : x.v 12 = .slice (some ⟨bf, of_, none⟩) q.f.length c := (hk 12 (by decide)).1
        have h13 : x.v 13 = .int .i64 k := (hk 13 (by decide)).1
        have h14 : x.v 14 = .pointer (some ⟨bf, of_ + k, none⟩) := (hk 14 (by decide)).1
        have h15 : x.v 15 = .int .i64 nf := (hk 15 (by decide)).1
        have h16 : x.v 16 = .pointer (some ⟨bd, od + nf, none⟩) := (hk 16 (by decide)).1
        have h17 : x.v 17 = .int .i64 yf := (hk 17 (by decide)).1
        have h18 : MxO w (x.lo 18) (x.hi 18) (x.v 18) (zmx yt yf) := (hk 18 (by decide)).1
        have s18 := (hk 18 (by decide)).2
        clear hk
        simp only [netAct, dstAt, List.getElem?_toArray, List.getElem?_cons_zero, List.getElem?_cons_succ, Option.bind_some, Act.put, List.setIfInBounds_toArray, List.set_cons_zero, List.set_cons_succ] at hQ ⊢
        simp only [h2, h3, h4, h5, h6, h7, h8, h9, h10, h11, h12, h13, h14, h15, h16, h17] at hQ ⊢
        clear h2 h3 h4 h5 h6 h7 h8 h9 h10 h11 h12 h13 h14 h15 h16 h17
        obtain ⟨s, e14, hs⟩ := h18
        obtain ⟨sA, sc, es⟩ := hs.1.form
        obtain ⟨sn, hsn⟩ : ∃ n, (zmx yt yf).a.length = n := ⟨_, rfl⟩
        rw [hsn] at es
        clear hsn hs
        subst es
        have hQ' := hQ (.slice (some ⟨w.heap.size, 0, none⟩) 1 1) (w.alloc (.cells #[.int .i64 yt, .int .i64 yf, .slice sA sn sc] 50)) (below_alloc _ _) ⟨_, _, rfl, e14, Blk.new _ _ _⟩
        simp only [zmx] at e14
        rw [e14] at hQ' ⊢
        go_wp2
        exact hQ'
      · intro x w hb hk hiv hdj
        have h0 : x.v 0 = .pointer (some ⟨w2.heap.size + 1, 5, none⟩) := hk 0 (by decide)
        have h1 : x.v 1 = mv := hk 1 (by decide)
        have h2 : x.v 2 = .slice (some ⟨bd, od, none⟩) d.length xc := hk 2 (by decide)
        have h3 : x.v 3 = .pointer (some ⟨w0.heap.size, 2, none⟩) := hk 3 (by decide)
        have h4 : x.v 4 = .slice (some ⟨bt, ot, none⟩) q.t.length c' := hk 4 (by decide)
        have h5 : x.v 5 = .int .i64 k := hk 5 (by decide)
        have h6 : x.v 6 = .pointer (some ⟨bt, ot + k, none⟩) := hk 6 (by decide)
        have h7 : x.v 7 = .int .i64 nt := hk 7 (by decide)
        have h8 : x.v 8 = .pointer (some ⟨bd, od + nt, none⟩) := hk 8 (by decide)
        have h9 : x.v 9 = .int .i64 yt := hk 9 (by decide)
        have h10 : x.v 10 = .slice (some ⟨bd, od, none⟩) d.length xc := hk 10 (by decide)
        have h11 : x.v 11 = .pointer (some ⟨w0.heap.size, 1, none⟩) := hk 11 (by decide)
        have h12 : x.v 12 = .slice (some ⟨bf, of_, none⟩) q.f.length c := hk 12 (by decide)
        have h13 : x.v 13 = .int .i64 k := hk 13 (by decide)
        have h14 : x.v 14 = .pointer (some ⟨bf, of_ + k, none⟩) := hk 14 (by decide)
        have h15 : x.v 15 = .int .i64 nf := hk 15 (by decide)
        have h16 : x.v 16 = .pointer (some ⟨bd, od + nf, none⟩) := hk 16 (by decide)
        have h17 : x.v 17 = .int .i64 yf := hk 17 (by decide)
        have h18 : MxO w (x.lo 18) (x.hi 18) (x.v 18) (zmx yt yf) := hk 18 (by decide)
        have h19 : ∃ g s, x.v 19 = .slice (some ⟨g, 0, none⟩) 1 1 ∧ x.v 18 = .agg #[.int .i64 yt, .int .i64 yf, s] ∧ Blk w g 50 #[.int .i64 yt, .int .i64 yf, s] := hk 19 (by decide)
        clear hk
        simp only [netAct, dstAt, List.getElem?_toArray, List.getElem?_cons_zero, List.getElem?_cons_succ, Option.bind_some, Act.put, List.setIfInBounds_toArray, List.set_cons_zero, List.set_cons_succ]
        simp only [List.drop_succ_cons, List.drop_zero, h0, h1, h2, h3, h4, h5, h6, h7, h8, h9, h10, h11, h12, h13, h14, h15, h16, h17]
        clear h0 h1 h2 h3 h4 h5 h6 h7 h8 h9 h10 h11 h12 h13 h14 h15 h16 h17
        obtain ⟨g, s, e15, e14, hg⟩ := h19
        have l14 := (hiv 18 (by decide)).1
        have h14i := (hiv 18 (by decide)).2.2
        obtain ⟨s', e14', hs, _⟩ := h18
        rw [e14] at e14'
        simp only [Value.agg.injEq, Array.mk.injEq, List.cons.injEq, and_true, zmx, true_and] at e14'
        subst e14'
        rw [e15]
        have hO' := hO.below hb
        have hF' := (hF.below hb).snoc (hs.wider l14 h14i) (by omega) hb.size
        have hB' := hB.call hb
        have hIa' := hIa.below hb
        have hIb' := hIb.below hb
        have hId' := hId.below hb
        have gb2 : Below W.heap.size W w := hbel.trans (hb.mono hbelS)
        have hbs2 := hb.size
        have hLen := Lib.hid (zms_length q d k)
        have HF' := Lib.hid hF'
        have hO'' : OutM w W.heap.size wr.heap.size mv vs (zms q d k) := by rw [OutM, hLen.out]; exact hO'
        have HC := Lib.hid hs.cell
        clear hiv hdj hs hF' hO' hO hF e14 e15 hb hB hIa hIb hId
        refine wpList_appM (by rfl) (.tmp 25) (.tmp 43) (by rfl) W.heap.size wr.heap.size mv vs (zms q d k) (by rfl) hO'' (by rw [HVL.out, hLen.out]) g 1 (zmx yt yf) s (by rfl) hg HC.out (by rw [hLen.out]; omega) (by omega) ?_
        intro v' w' hO3 hA
        obtain ⟨n9, hn9⟩ : ∃ n, (zms q d k ++ [zmx yt yf]).length = n := ⟨_, rfl⟩
        rw [OutM, hn9] at hO3
        have HN9 := Lib.hid (show n9 = k + 1 by rw [← hn9]; simp [hLen.out])
        clear hn9
        obtain ⟨A9, c9, ev, _, _⟩ := hO3.form
        subst ev
        have hB3 := hA.other _ _ _ (by decide) hB'
        have z5 := hB3.cell' (i := 5) rfl
        have fr := hB3.frozen
        have gb3 : Below W.heap.size W w' := gb2.trans (hA.below (Nat.le_refl _) (by omega))
        have hs3 := hA.size
        have hF3' := HF'.out.appT (by decide) hA
        have HF3' := Lib.hid hF3'
        have HO3 := Lib.hid hO3
        have HIa := Lib.hid (hIa'.appT (by decide) hA)
        have HIb := Lib.hid (hIb'.appT (by decide) hA)
        have HId := Lib.hid (hId'.appT (by decide) hA)
        clear hF3' hO3 HF' hO'' hA gb2 hg hIa' hIb' hId'
        go_wp2
        go_roundw
        case rel =>
          have ti : AppT 32 W.heap.size w' (w'.setCell ⟨w2.heap.size + 1, 5, none⟩ (.slice A9 n9 c9)) := AppT.set hB3 rfl hgR
          refine ⟨k + 1, .slice A9 n9 c9, vs ++ [s], by omega, by go_num, gb3.setCell (by simpa using hgR) _, by simp; omega, hB3.set_ 5 _, HIa.out.appT (by decide) ti, HIb.out.appT (by decide) ti, HId.out.appT (by decide) ti, ?_, by simp [HVL.out], ?_⟩
          · have := HO3.out.set hB3 (by decide) 5 (.slice A9 n9 c9)
            rw [HZS.out]
            rw [HN9.out] at this ⊢
            simpa using this
          · have h1 := HF3'.out.setBlk (i := 5) hB3 (by decide) (.slice A9 n9 c9)
            have e : (vs ++ [s]).zip ((zms q d (k + 1)).map Mx.a) = vs.zip ((zms q d k).map Mx.a) ++ [(s, List.replicate (yt * yf).toNat 0)] := by
              rw [HZS.out, List.map_append, List.zip_append (by simp [HVL.out, hLen.out])]
              rfl
            rw [e]
            exact h1.mono (Nat.le_refl _) (by simp; omega)
        case measure => simp [intOf]; omega
    · obtain rfl : k = q.f.length := by omega
      have hbs := hbel.size
      obtain ⟨H1, h1, rfl, _, _⟩ := hO.form
      have hI := Lib.hid (zms_I64 HQ.out q.f.length (Nat.le_refl _))
      have hL := zms_length q d q.f.length
      have hO' : OutM wr W.heap.size wr.heap.size (.slice H1 q.f.length h1) vs (zms q d q.f.length) := by rw [OutM, hL]; exact hO
      have hbW3 := (GW3.out).size
      have hR : RepI wr W.heap.size wr.heap.size (.agg #[.int .i64 p, .int .i64 q.v, .slice A1 q.f.length a1, .slice C1 q.t.length b1, .slice E1 d.length e1, .slice H1 q.f.length h1]) (zRep p q d) :=
        ⟨_, _, _, _, vs, W3.heap.size, rfl, hIa, hIb, hId, hO', by rw [HVL.out]; exact hL.symm, hF, ⟨hbW3, hlt2⟩, ⟨hp, hqv⟩, hI.out⟩
      have HR := Lib.hid hR
      have k2' := (K2.out).below hbel (by have := SZ.out; omega)
      have r0 := hB.cell' (i := 0) rfl
      have r1 := hB.cell' (i := 1) rfl
      have r2 := hB.cell' (i := 2) rfl
      have r3 := hB.cell' (i := 3) rfl
      have r4 := hB.cell' (i := 4) rfl
      have r5 := hB.cell' (i := 5) rfl
      have s0 := k2'.cell' (i := 0) rfl
      have s1 := k2'.cell' (i := 1) rfl
      have s2 := k2'.cell' (i := 2) rfl
      have s3 := k2'.cell' (i := 3) rfl
      have s4 := k2'.cell' (i := 4) rfl
      have s5 := k2'.cell' (i := 5) rfl
      have fr := k2'.frozen
      have GF := Lib.hid (G0.out.trans (hbel.mono (G0.out).size))
      have HBS := Lib.hid hbs
      clear hR hO' hL hO hF hB k2' kq hIa hIb hId hbs hbW3
      go_wp2
      have sz := SZ.out
      have hbs := HBS.out
      have gf := GF.out
      refine bodyPost_ret (v := .agg #[.int .i64 p, .int .i64 q.v, .slice A1 q.f.length a1, .slice C1 q.t.length b1, .slice E1 d.length e1, .slice H1 q.f.length h1]) (by simp [results, go_sem, s0, s1, s2, s3, s4, s5]) rfl ⟨_, rfl, RepI.wider (lo := W.heap.size) (hi := wr.heap.size) ?_ (by omega) (by simp), (((((gf.setCell (by simp) _).setCell (by simp) _).setCell (by simp) _).setCell (by simp) _).setCell (by simp) _).setCell (by simp) _⟩
      have hc : Chg (w0.heap.size + 1) (w0.heap.size + 1 + 1) wr _ := (((((chg_set (w := wr) (p := ⟨w0.heap.size + 1, 0, none⟩) (u := .int .i64 p) (by simp) (by simp)).trans (chg_set (p := ⟨w0.heap.size + 1, 1, none⟩) (u := .int .i64 q.v) (by simp) (by simp))).trans (chg_set (p := ⟨w0.heap.size + 1, 2, none⟩) (u := .slice A1 q.f.length a1) (by simp) (by simp))).trans (chg_set (p := ⟨w0.heap.size + 1, 3, none⟩) (u := .slice C1 q.t.length b1) (by simp) (by simp))).trans (chg_set (p := ⟨w0.heap.size + 1, 4, none⟩) (u := .slice E1 d.length e1) (by simp) (by simp))).trans (chg_set (p := ⟨w0.heap.size + 1, 5, none⟩) (u := .slice H1 q.f.length h1) (by simp) (by simp))
      exact HR.out.chg hc (.inr (by omega))
end Go.Proofs.YtaefpblpfjhgoaaGreat

/- Intervals of a zigzag: plain part; matrices of a representation told by a function, one number written. -/
namespace Go.Proofs.YtaefpblpfjhgoaaGreat
set_option linter.unusedVariables false
set_option linter.unusedSimpArgs false
open Go.RowKit

/-! ### matrices told by a function of the place -/
def msF (n : Nat) (F : Nat → Mx) : List Mx := (List.range n).map F
theorem msF_length (n : Nat) (F : Nat → Mx) : (msF n F).length = n := by simp [msF]
theorem msF_get {n j : Nat} (F : Nat → Mx) (h : j < n) : (msF n F)[j]? = some (F j) := by simp [msF, h]
theorem msF_congr {n : Nat} {F G : Nat → Mx} (e : ∀ i, i < n → F i = G i) : msF n F = msF n G := by
  apply List.ext_getElem?
  intro i
  by_cases hi : i < n
  · rw [msF_get F hi, msF_get G hi, e i hi]
  · rw [List.getElem?_eq_none (by rw [msF_length]; omega), List.getElem?_eq_none (by rw [msF_length]; omega)]
theorem msF_set {n j : Nat} (F : Nat → Mx) (m : Mx) : (msF n F).set j m = msF n fun i => if i = j then m else F i := by
  apply List.ext_getElem?
  intro i
  rw [List.getElem?_set, msF_length]
  by_cases hi : i < n
  · rw [msF_get (fun i => if i = j then m else F i) hi]
    by_cases e : j = i
    · rw [if_pos e, if_pos (by omega), if_pos e.symm]
    · rw [if_neg e, msF_get _ hi, if_neg (fun h => e h.symm)]
  · rw [List.getElem?_eq_none (l := msF n fun i => if i = j then m else F i) (by rw [msF_length]; omega)]
    split
    · rw [if_neg (by omega)]
    · rw [List.getElem?_eq_none (by rw [msF_length]; omega)]
theorem msF_mem {n : Nat} {F : Nat → Mx} {m : Mx} (h : m ∈ msF n F) : ∃ i, i < n ∧ m = F i := by
  simp only [msF, List.mem_map, List.mem_range] at h
  obtain ⟨i, hi, rfl⟩ := h
  exact ⟨i, hi, rfl⟩

theorem mxCs_rc : ∀ (vs : List Value) (ms ms' : List Mx), ms.map (fun m => (m.r, m.c)) = ms'.map (fun m => (m.r, m.c)) → mxCs vs ms = mxCs vs ms'
  | [], ms, ms', _ => by simp [mxCs]
  | v :: vs, [], ms', h => by
    have : ms' = [] := by simpa using h.symm
    subst this; rfl
  | v :: vs, m :: ms, [], h => by simp at h
  | v :: vs, m :: ms, m' :: ms', h => by
    simp only [List.map_cons, List.cons.injEq, Prod.mk.injEq] at h
    simp only [mxCs, h.1.1, h.1.2, mxCs_rc vs ms ms' h.2]
theorem OutM.rc {w : World} {lo hi : Nat} {v : Value} {vs : List Value} {ms ms' : List Mx} (h : OutM w lo hi v vs ms) (e : ms.map (fun m => (m.r, m.c)) = ms'.map (fun m => (m.r, m.c))) : OutM w lo hi v vs ms' := by
  have h1 := congrArg List.length e
  simp only [List.length_map] at h1
  have h2 := mxCs_rc vs ms ms' e
  unfold OutM at h ⊢
  rw [← h1, ← h2]
  exact h
/-- a matrix among a representation's: where its cells lie -/
theorem OutM.at_ {w : World} {lo hi lo' hi' j : Nat} {mv : Value} {vs : List Value} {ms : List Mx} {L0 : List (Value × List Int)} {m : Mx} (h : OutM w lo hi mv vs ms) (hl : vs.length = ms.length) (hF : Fam w lo' hi' (L0 ++ vs.zip (ms.map Mx.a))) (hm : ms[j]? = some m) (hne : 0 < m.a.length) :
    ∃ gm cm g c, mv = .slice (some ⟨gm, 0, none⟩) ms.length cm ∧ gm < w.heap.size ∧ vs[j]? = some (.slice (some ⟨g, 0, none⟩) m.a.length c) ∧ w.cell? ⟨gm, j * 3, none⟩ = some (.int .i64 m.r) ∧ w.cell? ⟨gm, j * 3 + 1, none⟩ = some (.int .i64 m.c) ∧
      w.cell? ⟨gm, j * 3 + 2, none⟩ = some (.slice (some ⟨g, 0, none⟩) m.a.length c) ∧ OwnI w lo' (.slice (some ⟨g, 0, none⟩) m.a.length c) m.a ∧ (lo' ≤ g ∧ g < hi') ∧ m.a.length ≤ c ∧ c ≤ 9223372036854775807 ∧ ms.length ≤ cm ∧ cm ≤ 9223372036854775807 := by
  have hj := lt_of_some hm
  have hv : vs[j]? = some (vs[j]'(by omega)) := List.getElem?_eq_getElem (by omega)
  have hI := hF.getAt hv (show (ms.map Mx.a)[j]? = some m.a by simp [hm])
  obtain ⟨gm, cm, cur, e, h1, h2, h3, h4⟩ := RowO.at_ h (by omega)
  have hml := mxCs_length vs ms hl
  obtain ⟨a, b, c⟩ := mxCs_get hv hm
  rcases hI.1.1.2 with ⟨e', h0⟩ | ⟨g, cap, cur', e', hg, _, hnc, hcm, _⟩
  · omega
  · have hf := RowO.form h
    obtain ⟨A, c2, e2, l1, l2⟩ := hf
    rw [e] at e2
    injection e2 with e21 e22 e23
    subst e23
    have h1 := h.1
    subst e
    have c0 := h1.cellAt (j * 3) (by omega)
    have c1 := h1.cellAt (j * 3 + 1) (by omega)
    have c3 := h1.cellAt (j * 3 + 2) (by omega)
    refine ⟨gm, cm, g, cap, rfl, h3, by rw [hv, e'], by rw [c0]; exact a, by rw [c1]; exact b, by rw [c3, ← e']; exact c, by rw [← e']; exact hI.1, ⟨hg, hI.2 g (by simp [e', Value.ownBlock])⟩, hnc, by simp only [maxLen] at hcm; omega, l1, l2⟩
/-- one number of one matrix written -/
theorem mats_put {w : World} {lo hi lo' hi' j i g c : Nat} {mv : Value} {vs : List Value} {ms : List Mx} {L0 : List (Value × List Int)} {m : Mx} {x : Int} (hO : OutM w lo hi mv vs ms) (hF : Fam w lo' hi' (L0 ++ vs.zip (ms.map Mx.a)))
    (hv : vs[j]? = some (.slice (some ⟨g, 0, none⟩) m.a.length c)) (hm : ms[j]? = some m) (ho : OwnI w lo' (.slice (some ⟨g, 0, none⟩) m.a.length c) m.a) (hx : I64 x) :
    OutM (w.setCell ⟨g, i, none⟩ (.int .i64 x)) lo hi mv vs (ms.set j ⟨m.r, m.c, m.a.set i x⟩) ∧ Fam (w.setCell ⟨g, i, none⟩ (.int .i64 x)) lo' hi' (L0 ++ vs.zip ((ms.set j ⟨m.r, m.c, m.a.set i x⟩).map Mx.a)) := by
  have hp := ho.put (j := i) hx
  refine ⟨OutM.rc (ms := ms) (RowO.grown hO (by decide) ho hp.2) ?_, ?_⟩
  · apply List.ext_getElem?
    intro k
    rw [List.getElem?_map, List.getElem?_map, List.getElem?_set]
    by_cases e : j = k
    · subst e
      rw [if_pos rfl, if_pos (lt_of_some hm), hm]
      rfl
    · rw [if_neg e]
  · rw [List.map_set]
    exact hF.setAt hv (show (ms.map Mx.a)[j]? = some m.a by simp [hm]) hp.1 hp.2
theorem mats_I64 {ms : List Mx} {j : Nat} {m : Mx} {l : List Int} (h : ∀ m ∈ ms, I64 m.r ∧ I64 m.c) (hm : ms[j]? = some m) : ∀ x ∈ ms.set j ⟨m.r, m.c, l⟩, I64 x.r ∧ I64 x.c := by
  intro x hx
  rcases List.mem_or_eq_of_mem_set hx with hx | rfl
  · exact h x hx
  · exact h m (List.mem_of_getElem? hm)

/-! ### intervals -/
/-- dimensions: 1 from a on, below k -/
def ivF (a k : Nat) (v : Nat) : Int := if a ≤ v ∧ v < k then 1 else 0
/-- the matrix of zeros at arrow i -/
def zmAt (q : Qv) (d : List Int) (i : Nat) : Mx := zmx (dAt d (q.t.getD i 0)) (dAt d (q.f.getD i 0))
theorem zms_F (q : Qv) (d : List Int) (n : Nat) : zms q d n = msF n (zmAt q d) := rfl
/-- the matrix with ones in place of all its numbers -/
def onesM (m : Mx) : Mx := ⟨m.r, m.c, List.replicate m.a.length 1⟩
def ziRep (p : Int) (q : Qv) (a b : Nat) : Rp := ⟨p, q, rowF q.v.toNat (ivF a (b + 1)), msF q.f.length fun i => onesM (zmAt q (rowF q.v.toNat (ivF a (b + 1))) i)⟩
def ziOk (ok : Bool) (p : Int) (q : Qv) (a b : Int) : Bool := isFld p && (ok && (inR a 0 (q.v - 1) && inR b a (q.v - 1)))
def ziP (ok : Bool) (p : Int) (q : Qv) (a b : Int) : Rp × Bool := if ziOk ok p q a b then (ziRep p q a.toNat b.toNat, true) else (rp0, false)
end Go.Proofs.YtaefpblpfjhgoaaGreat

/- Representations reflected at a vertex, plain. -/
namespace Go.Proofs.YtaefpblpfjhgoaaGreat
set_option linter.unusedVariables false
set_option linter.unusedSimpArgs false
open Go.RowKit

/-- the dimension at the other end of an arrow at a vertex -/
def othN (x : Rp) (v : Int) (i : Nat) : Nat := (dAt x.d (x.q.f.getD i 0 + x.q.t.getD i 0 - v)).toNat
def atN (x : Rp) (v : Int) : Nat → Nat
  | 0 => 0
  | k + 1 => if tch x.q v k = true then atN x v k + othN x v k else atN x v k
def rfM (x : Rp) (v : Int) (G : Nat → Mx) (k i : Nat) : Mx := if i < k ∧ tch x.q v i = true then G i else x.m.getD i mx0
def rfK (x : Rp) (v : Int) (K : Nat) (G : Nat → Mx) (k : Nat) : Rp := ⟨x.p, rvQ x.q v, x.d.set v.toNat K, msF x.q.f.length (rfM x v G k)⟩
def rfP (x : Rp) (v : Int) (K : Nat) (G : Nat → Mx) : Rp × Bool := if areDims (rvQ x.q v) (x.d.set v.toNat K) then (rfK x v K G x.q.f.length, true) else (rp0, false)
theorem rfM_0 {x : Rp} (h : x.m.length = x.q.f.length) (v : Int) (G : Nat → Mx) : msF x.q.f.length (rfM x v G 0) = x.m := by
  apply List.ext_getElem
  · rw [msF_length, h]
  · intro i h1 h2
    have := msF_get (rfM x v G 0) (show i < x.q.f.length by omega)
    rw [List.getElem?_eq_getElem h1] at this
    injection this with this
    rw [this, rfM, if_neg (by omega), List.getD_eq_getElem?_getD, List.getElem?_eq_getElem h2]; rfl
theorem rfM_yes {x : Rp} {v : Int} {G : Nat → Mx} {k : Nat} (h : tch x.q v k = true) : (msF x.q.f.length (rfM x v G k)).set k (G k) = msF x.q.f.length (rfM x v G (k + 1)) := by
  rw [msF_set]
  refine msF_congr fun i _ => ?_
  by_cases e : i = k
  · subst e; rw [if_pos rfl, rfM, if_pos ⟨by omega, h⟩]
  · rw [if_neg e]; unfold rfM
    by_cases e2 : i < k ∧ tch x.q v i = true
    · rw [if_pos e2, if_pos ⟨by omega, e2.2⟩]
    · rw [if_neg e2, if_neg fun e3 => e2 ⟨by omega, e3.2⟩]
theorem rfM_no {x : Rp} {v : Int} {G : Nat → Mx} {k : Nat} (h : tch x.q v k = false) : rfM x v G (k + 1) = rfM x v G k := by
  funext i
  unfold rfM
  by_cases e2 : i < k ∧ tch x.q v i = true
  · rw [if_pos e2, if_pos ⟨by omega, e2.2⟩]
  · rw [if_neg e2, if_neg fun e3 => e2 ⟨Nat.lt_of_le_of_ne (by omega) (by rintro rfl; rw [h] at e3; exact absurd e3.2 (by decide)), e3.2⟩]
theorem endV_not {l : List Int} {q : Qv} {v : Int} (h : endV l q v = true) : v ∉ l ∧ 0 ≤ v ∧ v ≤ q.v - 1 := by
  simp only [endV, Bool.and_eq_true, inR_t, Bool.not_eq_true', decide_eq_false_iff_not] at h
  exact ⟨h.2, h.1⟩
theorem oth_at {x : Rp} {v : Int} {k nf nt yf yt : Nat} (ef : x.q.f[k]? = some (nf : Int)) (et : x.q.t[k]? = some (nt : Int)) (df : x.d[nf]? = some (yf : Int)) (dt : x.d[nt]? = some (yt : Int)) :
    ((nt : Int) = v → othN x v k = yf) ∧ ((nf : Int) = v → othN x v k = yt) := by
  constructor
  · rintro rfl
    rw [othN, List.getD_eq_getElem?_getD, ef, List.getD_eq_getElem?_getD, et]
    simp only [Option.getD_some]
    rw [show (nf : Int) + nt - nt = nf by omega, dAt, Int.toNat_natCast, List.getD_eq_getElem?_getD, df]
    simp
  · rintro rfl
    rw [othN, List.getD_eq_getElem?_getD, ef, List.getD_eq_getElem?_getD, et]
    simp only [Option.getD_some]
    rw [show (nf : Int) + nt - nf = nt by omega, dAt, Int.toNat_natCast, List.getD_eq_getElem?_getD, dt]
    simp
theorem atN_out {x : Rp} {v : Int} {C : Nat} (hx : isRep x = true) (hv : endV x.q.t x.q v = true) : ∀ k, k ≤ x.q.f.length → atN x v k = (outS x v C k).1
  | 0, _ => rfl
  | k + 1, hk => by
    have ih := atN_out (C := C) hx hv k (by omega)
    obtain ⟨m, nf, nt, yf, yt, em, ef, et, df, dt, eM, _⟩ := isRep_at hx (show k < x.q.f.length by omega)
    have hnt : (nt : Int) ≠ v := fun e => (endV_not hv).1 (e ▸ List.mem_of_getElem? et)
    obtain ⟨o1, o2⟩ := oth_at (v := v) ef et df dt
    rw [atN, tch_of ef et]
    by_cases h : (nf : Int) = v
    · rw [if_pos (by simp [h]), o2 h]
      rw [h] at ef
      rw [outS_yes ef em (yt := yt) (by rw [eM]; rfl), ih]
    · rw [if_neg (by simp [h, hnt]), outS_no ef h, ih]
theorem atN_mono {x : Rp} {v : Int} : ∀ m k, atN x v k ≤ atN x v (k + m)
  | 0, _ => Nat.le_refl _
  | m + 1, k => by
    have := atN_mono (x := x) (v := v) m k
    rw [← Nat.add_assoc, atN]
    split <;> omega
theorem atN_fit {x : Rp} {v : Int} {k n : Nat} (h : tch x.q v k = true) (hk : k < n) : atN x v k + othN x v k ≤ atN x v n := by
  have h1 : atN x v (k + 1) = atN x v k + othN x v k := by rw [atN, if_pos h]
  obtain ⟨m, rfl⟩ := Nat.exists_eq_add_of_lt hk
  have := atN_mono (x := x) (v := v) m (k + 1)
  rw [h1] at this
  rwa [show k + m + 1 = k + 1 + m by omega]
/-- the new matrices at a sink, and at a source -/
def gSink (x : Rp) (v : Int) (K : Nat) (F : Nat → Nat → Int) (i : Nat) : Mx := mxF (othN x v i) K fun a b => F b (atN x v i + a)
def gSrc (x : Rp) (v : Int) (K : Nat) (F : Nat → Nat → Int) (i : Nat) : Mx := mxF K (othN x v i) fun b a => F b (atN x v i + a)
theorem rowsF_drop (r c k : Nat) (f : Nat → Nat → Int) : (rowsF r c f).drop k = rowsF (r - k) c fun a b => f (k + a) b := by
  apply List.ext_getElem?
  intro i
  rw [List.getElem?_drop]
  by_cases h : k + i < r
  · rw [rowsF_get _ h, rowsF_get _ (show i < r - k by omega)]
  · rw [List.getElem?_eq_none (by rw [rowsF_length]; omega), List.getElem?_eq_none (by rw [rowsF_length]; omega)]
theorem rowsF_take (r c k : Nat) (f : Nat → Nat → Int) (hk : k ≤ r) : (rowsF r c f).take k = rowsF k c f := by
  apply List.ext_getElem?
  intro i
  rw [List.getElem?_take]
  by_cases h : i < k
  · rw [if_pos h, rowsF_get _ h, rowsF_get _ (by omega)]
  · rw [if_neg h, List.getElem?_eq_none (by rw [rowsF_length]; omega)]
/-- a part of a slice -/
theorem SlG.cut {α : Type} {R : World → Nat → Nat → Nat → α → Prop} {w : World} {B c : Nat} {A : Option Addr} {xs : List α} {i k : Nat} (h : SlG 1 R w B (.slice A xs.length c) xs) (hik : i ≤ k) (hk : k ≤ xs.length) :
    ∃ A', (if c = i then A else A.map (·.add (i * 1))) = A' ∧ SlG 1 R w B (.slice A' (k - i) (c - i)) ((xs.drop i).take (k - i)) := by
  obtain ⟨A2, c2, e, h1, h2, h3, h4⟩ := h
  injection e with e1 e2 e3
  subst e1 e3
  refine ⟨_, rfl, ?_⟩
  have hl : ((xs.drop i).take (k - i)).length = k - i := by simp; omega
  refine ⟨_, c - i, by rw [hl], by rw [hl]; omega, by omega, by rw [hl]; omega, fun hp => ?_⟩
  rw [hl] at hp
  obtain ⟨b, o, rfl, hb, hc⟩ := h4 (by omega)
  rw [if_neg (by omega)]
  refine ⟨b, o + i, ?_, hb, fun j x hx => ?_⟩
  · have e : (⟨b, o, none⟩ : Addr).add i = ⟨b, o + i, none⟩ := by unfold Addr.add; split <;> simp_all
    simp [e]
  · rw [List.getElem?_take] at hx
    split at hx
    · rw [List.getElem?_drop] at hx
      have := hc (i + j) x hx
      rwa [show o + (i + j) * 1 = o + i + j * 1 by omega] at this
    · cases hx
theorem SlG.takeG {α : Type} {R : World → Nat → Nat → Nat → α → Prop} {w : World} {B c k : Nat} {A : Option Addr} {xs : List α} (h : SlG 1 R w B (.slice A xs.length c) xs) (hk : k ≤ xs.length) : SlG 1 R w B (.slice A k c) (xs.take k) := by
  obtain ⟨A2, c2, e, h1, h2, h3, h4⟩ := h
  injection e with e1 e2 e3
  subst e1 e3
  have hl : (xs.take k).length = k := by simp; omega
  refine ⟨_, c, by rw [hl], by rw [hl]; omega, h2, by rw [hl]; omega, fun hp => ?_⟩
  rw [hl] at hp
  obtain ⟨b, o, rfl, hb, hc⟩ := h4 (by omega)
  refine ⟨b, o, rfl, hb, fun j x hx => ?_⟩
  rw [List.getElem?_take] at hx
  split at hx
  · exact hc j x hx
  · cases hx
/-- the quiver of a representation of the call's own put anew -/
theorem RepO.setQ {w : World} {lo hi lo' hi' : Nat} {p v v' : Int} {f t d m f' t' : Value} {x : Rp} {q : Qv} (h : RepO w lo hi (.agg #[.int .i64 p, .int .i64 v, f, t, d, m]) x) (hq : QuivO w lo' hi' (.agg #[.int .i64 v', f', t']) q) (h1 : hi' ≤ lo) (h2 : lo' ≤ lo) (h3 : lo ≤ hi) :
    RepO w lo' hi (.agg #[.int .i64 p, .int .i64 v', f', t', d, m]) ⟨x.p, q, x.d, x.m⟩ := by
  obtain ⟨f1, t1, d1, m1, vs, e, hO, hvl, hF, hi1, hi2⟩ := h
  simp only [Value.agg.injEq, Array.mk.injEq, List.cons.injEq, and_true, Value.int.injEq, true_and] at e
  obtain ⟨e1, e2, rfl, rfl, rfl, rfl⟩ := e
  obtain ⟨a, b, e, hF2, hr⟩ := hq
  simp only [Value.agg.injEq, Array.mk.injEq, List.cons.injEq, and_true, Value.int.injEq, true_and] at e
  obtain ⟨e3, rfl, rfl⟩ := e
  have hL2 : Fam w lo hi ((d, x.d) :: vs.zip (x.m.map Mx.a)) := ⟨fun p hp => hF.1 p (by simp only [List.cons_append, List.nil_append, List.mem_cons] at hp ⊢; rcases hp with hp | hp <;> simp [hp]), by
    have := hF.2
    simp only [List.cons_append, List.nil_append, List.pairwise_cons] at this
    rw [List.pairwise_cons]
    exact ⟨this.2.2.1, this.2.2.2⟩⟩
  refine ⟨f', t', d, m, vs, by rw [e1, e3], hO.mono h2 (Nat.le_refl _), hvl, ?_, ⟨hi1.1, hr⟩, hi2⟩
  refine ⟨fun p hp => ?_, ?_⟩
  · simp only [List.cons_append, List.nil_append, List.mem_cons] at hp
    rcases hp with rfl | rfl | hp
    · exact (hF2.1 (f', q.f) (by simp)).wider (Nat.le_refl _) (by omega)
    · exact (hF2.1 (t', q.t) (by simp)).wider (Nat.le_refl _) (by omega)
    · exact (hL2.1 p (by rw [List.mem_cons]; exact hp)).wider h2 (Nat.le_refl _)
  · have hc : ∀ a ∈ [(f', q.f), (t', q.t)], ∀ b ∈ (d, x.d) :: vs.zip (x.m.map Mx.a), a.1.ownBlock = none ∨ a.1.ownBlock ≠ b.1.ownBlock := fun a ha b hb => by
      have g1 := hF2.1 a ha
      have g2 := hL2.1 b hb
      rcases hA : a.1.ownBlock with _ | y
      · exact .inl rfl
      · refine .inr fun e => ?_
        have := g1.2 y hA
        have := (g2.1.lt y e.symm).1
        omega
    have := List.pairwise_append.2 ⟨hF2.2, hL2.2, hc⟩
    simpa using this
end Go.Proofs.YtaefpblpfjhgoaaGreat

/- Lists of lists of ints of the call's own, taken as one thing: made, read, a row set, a number set, a row appended. -/
namespace Go.Proofs.YtaefpblpfjhgoaaGreat
set_option linter.unusedVariables false
set_option linter.unusedSimpArgs false
open Go.RowKit

theorem IntssO.wider {w : World} {lo hi lo' hi' : Nat} {v : Value} {ll : List (List Int)} (h : IntssO w lo hi v ll) (h1 : lo' ≤ lo) (h2 : hi ≤ hi') : IntssO w lo' hi' v ll := by
  obtain ⟨vs, a, b, c⟩ := h
  exact ⟨vs, a.mono h1 h2, b, c.mono h1 h2⟩
theorem IntssO.form2 {w : World} {lo hi : Nat} {v : Value} {ll : List (List Int)} (h : IntssO w lo hi v ll) : ∃ A c, v = .slice A ll.length c ∧ ll.length ≤ c ∧ c ≤ 9223372036854775807 ∧ ll.length ≤ 17592186044416 := by
  obtain ⟨vs, a, b, c⟩ := h
  obtain ⟨A, d, h1, h2, h3⟩ := a.form
  exact ⟨A, d, by rw [h1, b], by omega, h3, by have := a.2.2; omega⟩
theorem IntssO.nil (w : World) (lo hi : Nat) : IntssO w lo hi (.slice none 0 0) [] := ⟨[], ⟨World.ownsRow_nil _ _ _ _, by simp [Value.ownBlock], by simp⟩, rfl, ⟨fun p hp => by simp at hp, by simp⟩⟩
theorem IntssO.made0 (w : World) {lo : Nat} (h : lo ≤ w.heap.size) : IntssO (w.alloc (.cells #[] 22)) lo (w.alloc (.cells #[] 22)).heap.size (.slice (some ⟨w.heap.size, 0, none⟩) 0 0) [] :=
  ⟨[], ⟨World.ownsRow_made w #[] 0 h (by simp [maxLen]) (by simp), by simp [Value.ownBlock], by simp⟩, rfl, ⟨fun p hp => by simp at hp, by simp⟩⟩
theorem IntssO.made (w : World) {lo n : Nat} (h : lo ≤ w.heap.size) (hn : n ≤ 17592186044416) : IntssO (w.alloc (.cells (mkCells (.slice none 0 0) n) 22)) lo (w.alloc (.cells (mkCells (.slice none 0 0) n) 22)).heap.size (.slice (some ⟨w.heap.size, 0, none⟩) n n) (List.replicate n []) := by
  refine ⟨List.replicate n (.slice none 0 0), ?_, by simp, ⟨fun p hp => ?_, ?_⟩⟩
  · have h1 := (Blk.new w 22 (mkCells (.slice none 0 0) n)).own (base := lo) (n := n) (cap := n) (size := 1) h (Nat.le_refl _) (by simp only [maxLen]; omega) (by rw [mkCells_size]; omega)
    rw [show (mkCells (.slice none 0 0) n).toList = List.replicate n (.slice none 0 0) from toList_madeCells_one _ _, List.take_of_length_le (by simp)] at h1
    exact ⟨by simpa using h1, fun k hk => by simp [Value.ownBlock] at hk; simp; omega, by simpa using hn⟩
  · obtain ⟨a, b⟩ := p
    have h1 := List.of_mem_zip hp
    obtain ⟨_, rfl⟩ := List.mem_replicate.1 h1.1
    obtain ⟨_, rfl⟩ := List.mem_replicate.1 h1.2
    exact ⟨OwnI.nil _ _, by simp [Value.ownBlock]⟩
  · rw [List.pairwise_iff_getElem]
    intro i j hi hj hij
    left
    simp [Value.ownBlock]
theorem IntssO.at_ {w : World} {lo hi : Nat} {v : Value} {ll : List (List Int)} (h : IntssO w lo hi v ll) (h0 : 0 < ll.length) : ∃ g c, v = .slice (some ⟨g, 0, none⟩) ll.length c ∧ lo ≤ g ∧ g < hi ∧ g < w.heap.size ∧ ll.length ≤ c ∧ c ≤ 9223372036854775807 := by
  obtain ⟨vs, a, b, c⟩ := h
  rcases a.1.2 with ⟨_, h1⟩ | ⟨g, cap, cur, rfl, hg, hh, hnc, hcm, _⟩
  · omega
  · exact ⟨g, cap, by rw [b], hg, a.2.1 g (by simp [Value.ownBlock]), (Array.getElem?_eq_some_iff.1 hh).1, by omega, by simp only [maxLen] at hcm; omega⟩
theorem IntssO.row {w : World} {lo hi g n c j : Nat} {ll : List (List Int)} {l : List Int} (h : IntssO w lo hi (.slice (some ⟨g, 0, none⟩) n c) ll) (hj : ll[j]? = some l) : ∃ u, w.cell? ⟨g, j, none⟩ = some u ∧ IntsO w lo hi u l ∧ w.frozen? ⟨g, j, none⟩ = false := by
  obtain ⟨vs, a, b, F⟩ := h
  have hl := lt_of_some hj
  have hv : vs[j]? = some (vs[j]'(by omega)) := List.getElem?_eq_getElem (by omega)
  exact ⟨_, a.cellS hv, F.1 (vs[j]'(by omega), l) (by rw [zip_split hv hj]; simp), a.frozenS j⟩
theorem OutO.blk {w : World} {lo hi g n c : Nat} {vs : List Value} (h : OutO w lo hi (.slice (some ⟨g, 0, none⟩) n c) vs) : ∃ cs, Blk w g 22 cs ∧ n = vs.length := by
  rcases h.1.2 with ⟨e, _⟩ | ⟨g', cap', cur, e, _, hh, _⟩
  · cases e
  · injection e with e1 e2 _
    injection e1 with e1
    injection e1 with e1
    subst e1
    exact ⟨cur, hh, e2⟩
/-- a number set in a row -/
theorem IntssO.putAt {w : World} {lo hi gr n c j i : Nat} {v : Value} {ll : List (List Int)} {l : List Int} {x : Int} (h : IntssO w lo hi v ll) (hj : ll[j]? = some l) (hx : I64 x)
    (hrow : ∀ vs, vs.length = ll.length → OutO w lo hi v vs → Fam w lo hi (vs.zip ll) → vs[j]? = some (.slice (some ⟨gr, 0, none⟩) n c)) :
    IntssO (w.setCell ⟨gr, i, none⟩ (.int .i64 x)) lo hi v (ll.set j (l.set i x)) ∧ w.grownBy (w.setCell ⟨gr, i, none⟩ (.int .i64 x)) (some gr) := by
  obtain ⟨vs, a, b, F⟩ := h
  have hv := hrow vs b a F
  have ho := F.1 (.slice (some ⟨gr, 0, none⟩) n c, l) (by rw [zip_split hv hj]; simp)
  obtain ⟨_, _, e⟩ := ho.form
  injection e with _ e _
  replace e : n = l.length := e
  subst e
  have hp := ho.1.put (j := i) hx
  exact ⟨⟨vs, a.grown ho.1 hp.2, by simp [b], F.putAt hv hj ho.1 hx⟩, hp.2⟩
theorem IntssO.cellRow {w : World} {lo hi g n' c' gr n c j : Nat} {ll : List (List Int)} (hc : w.cell? ⟨g, j, none⟩ = some (.slice (some ⟨gr, 0, none⟩) n c)) :
    ∀ vs, j < vs.length → OutO w lo hi (.slice (some ⟨g, 0, none⟩) n' c') vs → Fam w lo hi (vs.zip ll) → vs[j]? = some (.slice (some ⟨gr, 0, none⟩) n c) := fun vs hl ho _ => by
  have hv : vs[j]? = some (vs[j]'hl) := List.getElem?_eq_getElem hl
  have := ho.cellS hv
  rw [hc] at this
  rw [hv, this]
/-- a number set in a row, the row's value read from its cell -/
theorem IntssO.put {w : World} {lo hi g n' c' gr n c j i : Nat} {ll : List (List Int)} {l : List Int} {x : Int} (h : IntssO w lo hi (.slice (some ⟨g, 0, none⟩) n' c') ll) (hj : ll[j]? = some l) (hc : w.cell? ⟨g, j, none⟩ = some (.slice (some ⟨gr, 0, none⟩) n c)) (hx : I64 x) :
    IntssO (w.setCell ⟨gr, i, none⟩ (.int .i64 x)) lo hi (.slice (some ⟨g, 0, none⟩) n' c') (ll.set j (l.set i x)) ∧ w.grownBy (w.setCell ⟨gr, i, none⟩ (.int .i64 x)) (some gr) :=
  h.putAt hj hx fun vs hl ho F => IntssO.cellRow hc vs (by have := lt_of_some hj; omega) ho F
/-- append of a row -/
theorem wpList_appR {w : World} {ops : Array Oper} {rest : List Oper} {o : Oper} {a : Act} {Q : Exit → Act → World → Prop} (hgd : o.guard = none) (s x : Operand)
    (ho : o.op = .call { callee := .builtin .append, args := #[s, x], argTypes := #[57, 57] })
    (lo hi mi hi' : Nat) (v : Value) (ll : List (List Int)) (l : List Int) (hs : a.eval s = v) (hown : IntssO w lo hi v ll) (A : Option Addr) (c : Nat) (u : Value) (hx : a.eval x = .slice A 1 c) (hA : ∃ b o, A = some ⟨b, o, none⟩ ∧ w.cell? ⟨b, o, none⟩ = some u) (hu : IntsO w mi hi' u l)
    (h1 : hi ≤ mi) (h2 : mi ≤ hi') (h3 : lo ≤ mi) (hn : ll.length + 1 ≤ 1048576) (hlo : lo ≤ w.heap.size) (hhi : hi' ≤ w.heap.size)
    (h : ∀ v' w', IntssO w' lo w'.heap.size v' (ll ++ [l]) → Below lo w w' → w.grownBy w' v.ownBlock → wpList Tryz.prog ops Q rest (a.put o.dst v') w') : wpList Tryz.prog ops Q (o :: rest) a w := by
  obtain ⟨vs, h4, h5, h6⟩ := hown
  refine wpList_appS hgd s x ho lo v vs hs h4.1 A c u hx hA (by obtain ⟨A', c', rfl, _⟩ := hu.1.form; rfl) (by omega) hlo fun v' w' k1 k2 k3 => ?_
  have hbg : Below lo w w' := below_grown k2 (fun k hk => (h4.1.lt k hk).1) hlo
  have F2 := ((h6.mono (Nat.le_refl _) h1).snoc hu h3 h2).mono (Nat.le_refl _) (Nat.le_trans hhi hbg.size)
  have F3 := Fam.grownO (by simpa using F2) h4.1 k2
  refine h v' w' ⟨vs ++ [u], ⟨k1, fun k hk => (k1.lt k hk).2, by simp; omega⟩, by simp [h5], ?_⟩ hbg k2
  rw [List.zip_append h5]
  exact F3
theorem chg_belowB {B : Nat} {w w' : World} (h : Below B w w') : Chg B w.heap.size w w' := ⟨h.os, h.tape, h.output, h.size, fun k hk hne => h.block k (by omega)⟩
end Go.Proofs.YtaefpblpfjhgoaaGreat

/- The closures of ReflectSink and ReflectSource. -/
namespace Go.Proofs.YtaefpblpfjhgoaaGreat
set_option linter.unusedVariables false
set_option linter.unusedSimpArgs false
open Go.RowKit

set_option maxHeartbeats 1600000 in
theorem refSrc1_any (a b : Int) (A : Option Addr) (n k : Nat) (w0 : World) :
    Calls Tryz.prog 37 #[.agg #[.int .i64 a, .int .i64 b, .slice A n k]] w0 fun e w' => e = .returned (.agg #[.int .i64 a, .int .i64 b, .slice A n k]) ∧ Below w0.heap.size w0 w' := by
  go_enter Tryz.func37, Tryz.ntmps37
  go_wp2
  exact bodyPost_ret (v := .agg #[.int .i64 a, .int .i64 b, .slice A n k]) (by simp [results, go_sem]) rfl ⟨rfl, ((Below.refl _ _).alloc (Nat.le_refl _) _).alloc (by simp) _⟩
end Go.Proofs.YtaefpblpfjhgoaaGreat

/- copyMatrices; the two PencilOf. -/
namespace Go.Proofs.YtaefpblpfjhgoaaGreat
set_option linter.unusedVariables false
set_option linter.unusedSimpArgs false
open Go.RowKit

theorem SlM.I64s {w : World} {B : Nat} {v : Value} {l : List Mx} (h : SlM w B v l) : ∀ m ∈ l, I64 m.r ∧ I64 m.c := by
  obtain ⟨A, c, rfl, _, _, _, h⟩ := h.open_
  intro m hm
  obtain ⟨j, hj⟩ := List.getElem?_of_mem hm
  obtain ⟨_, _, m', _, _, _, _, HX, _, _, _, _, h1, h2, _⟩ := SlM.at_ h (lt_of_some hj)
  have := HX.out
  rw [hj] at this
  injection this with this
  subst this
  exact ⟨h1, h2⟩

set_option maxHeartbeats 3200000 in
set_option maxRecDepth 100000 in
theorem copyMatrices_any (u : Value) (ms : List Mx) (w : World) (hu : SlM w w.heap.size u ms) (hn : ms.length ≤ 1000000) :
    Calls Tryz.prog 110 #[u] w fun e w' => ∃ v, e = .returned v ∧ MatsO w' w.heap.size w'.heap.size v ms ∧ Below w.heap.size w w' := by
  have hI := Lib.hid (SlM.I64s hu)
  obtain ⟨A, c, rfl, _, _, _, hx⟩ := hu.open_
  clear hu
  go_enter Tryz.func110, Tryz.ntmps110
  go_wp2
  go_loopw [3, 8] (fun mv i wr => ∃ (k : Nat) (vs : List Value), k ≤ ms.length ∧ i = .int .i64 k ∧ Below w.heap.size w wr ∧ RowO 50 3 wr w.heap.size wr.heap.size mv k (mxCs vs (ms.take k)) ∧ vs.length = k ∧ Fam wr w.heap.size wr.heap.size (vs.zip ((ms.take k).map Mx.a))) (fun _ i _ => ms.length - (intOf i).toNat)
  case atStart => exact ⟨0, [], Nat.zero_le _, rfl, Below.refl _ _, RowO.nil _ _ _ _, rfl, ⟨fun p hp => by simp at hp, by simp⟩⟩
  case round =>
    obtain ⟨k, vs, hk, rfl, hbel, hO, hvl, hF⟩ := hrel
    have HVL := Lib.hid hvl
    clear hvl
    by_cases hlt : k < ms.length
    · obtain ⟨b, o, m, A', c', rfl, hb, HX, x1, x2, x3, hsl, i1, i2, _⟩ := SlM.at_ hx hlt
      have d1 := bcell hbel hb x1
      have d2 := bcell hbel hb x2
      have d3 := bcell hbel hb x3
      have hbs := hbel.size
      obtain ⟨W1, hW1⟩ : ∃ W, W = wr.alloc (.cells #[.int .i64 m.r, .int .i64 m.c, .slice A' m.a.length c'] 50) := ⟨_, rfl⟩
      have ga : Below wr.heap.size wr W1 := by rw [hW1]; exact below_alloc _ _
      have hmx : MxR W1 W1.heap.size (.agg #[.int .i64 m.r, .int .i64 m.c, .slice A' m.a.length c']) m := ⟨_, rfl, SlI.next ga (SlI.more hbs (SlI.below hbel hsl)), i1, i2⟩
      have HTK := Lib.hid (show ms.take (k + 1) = ms.take k ++ [m] by rw [take_snoc HX.out])
      have hTL := Lib.hid (show (ms.take k).length = k by simp; omega)
      replace hO := hO.below ga
      replace hF := hF.below ga
      have sa := ga.size
      obtain ⟨mA, mc, emv, _, _⟩ := hO.form
      subst emv
      clear x1 x2 x3 hx hsl i1 i2
      go_wp2_with fail
      rw [← hW1]; clear hW1
      refine (mxClone_any _ m _ hmx).mono ?_; rintro e w1 ⟨v1, rfl, ⟨s, rfl, hs, _⟩, hb1⟩
      have s1 := hb1.size
      obtain ⟨sA, sc, es⟩ := hs.form
      obtain ⟨sn, hsn⟩ : ∃ n, m.a.length = n := ⟨_, rfl⟩
      rw [hsn] at es
      clear hsn
      subst es
      have gb1 : Below w.heap.size w w1 := hbel.trans ((bthen ga hb1).mono hbs)
      replace hO := (hO.below hb1).below (below_alloc w1 (.cells #[.int .i64 m.r, .int .i64 m.c, .slice sA sn sc] 50))
      have hF1 := (hF.below hb1).snoc (hs.wider sa (Nat.le_refl _)) (by omega) (by omega)
      have hF2 := hF1.below (below_alloc w1 (.cells #[.int .i64 m.r, .int .i64 m.c, .slice sA sn sc] 50))
      have HF2 := Lib.hid hF2
      clear hF hF1 hF2 hs hmx hb1 ga d1 d2 d3
      (go_wp2_with (at_builtin; refine Hold.stop ?_)); unfold Hold
      have hO'' : OutM (w1.alloc (.cells #[.int .i64 m.r, .int .i64 m.c, .slice sA sn sc] 50)) w.heap.size wr.heap.size (.slice mA k mc) vs (ms.take k) := by rw [OutM, hTL.out]; exact hO
      refine wpList_appM (by rfl) (.tmp 12) (.tmp 15) (by rfl) w.heap.size wr.heap.size (.slice mA k mc) vs (ms.take k) (by rfl) hO'' (by rw [HVL.out, hTL.out]) w1.heap.size 1 m (.slice sA sn sc) (by rfl) (Blk.new _ _ _) (by rfl) (by rw [hTL.out]; omega) (by simp; omega) ?_
      intro v' w' hO3 hA
      have gb3 : Below w.heap.size w w' := (gb1.alloc (by omega) _).trans (hA.below (Nat.le_refl _) (by simp; omega))
      have hF3 := HF2.out.appT (by decide) hA
      have hs3 := hA.size
      simp only [World.size_alloc] at hs3
      have HF3 := Lib.hid hF3
      have HO3 := Lib.hid hO3
      clear hF3 hO3 HF2 hO'' hO hA gb1
      go_wp2
      go_roundw
      case rel =>
        refine ⟨k + 1, vs ++ [.slice sA sn sc], by omega, by go_num, gb3, ?_, by simp [HVL.out], ?_⟩
        · have := HO3.out
          rw [OutM, List.length_append, hTL.out] at this
          rw [HTK.out]
          exact this
        · have e : (vs ++ [Value.slice sA sn sc]).zip ((ms.take (k + 1)).map Mx.a) = vs.zip ((ms.take k).map Mx.a) ++ [(.slice sA sn sc, m.a)] := by
            rw [HTK.out, List.map_append, List.zip_append (by rw [List.length_map, HVL.out, hTL.out])]
            rfl
          rw [e]
          exact HF3.out.mono (Nat.le_refl _) (by omega)
      case measure => simp [intOf]; omega
    · obtain rfl : k = ms.length := by omega
      obtain ⟨mA, mc, emv, _, _⟩ := hO.form
      subst emv
      rw [List.take_length] at hO hF
      have hM : MatsO wr w.heap.size wr.heap.size (.slice mA ms.length mc) ms := ⟨vs, hO, HVL.out, hF, hI.out⟩
      have HM := Lib.hid hM
      clear hM hO hF
      go_wp2
      go_ret
      exact ⟨_, rfl, HM.out, hbel⟩

theorem SlM.two {w : World} {B g : Nat} {a b : Mx} {u v : Value} (hB : B = w.heap.size) (hg : Blk w g 50 #[.int .i64 a.r, .int .i64 a.c, u, .int .i64 b.r, .int .i64 b.c, v]) (ha : SlI w B u a.a) (hb : SlI w B v b.a) (i1 : I64 a.r ∧ I64 a.c) (i2 : I64 b.r ∧ I64 b.c) : SlM w B (.slice (some ⟨g, 0, none⟩) 2 2) [a, b] := by
  refine ⟨_, 2, rfl, by simp, by omega, by simp, fun _ => ⟨g, 0, rfl, by rw [hB]; exact hg.lt, fun j x hj => ?_⟩⟩
  match j, hj with
  | 0, hj =>
    simp at hj
    subst hj
    exact ⟨u, hg.cell' (i := 0) rfl, hg.cell' (i := 1) rfl, hg.cell' (i := 2) rfl, ha, i1⟩
  | 1, hj =>
    simp at hj
    subst hj
    exact ⟨v, hg.cell' (i := 3) rfl, hg.cell' (i := 4) rfl, hg.cell' (i := 5) rfl, hb, i2⟩
  | j + 2, hj => simp at hj
theorem IntsO.two (w : World) {lo : Nat} (x y : Int) (hx : I64 x) (hy : I64 y) (hlo : lo ≤ w.heap.size) : IntsO (w.alloc (.cells #[.int .i64 x, .int .i64 y] 3)) lo (w.alloc (.cells #[.int .i64 x, .int .i64 y] 3)).heap.size (.slice (some ⟨w.heap.size, 0, none⟩) 2 2) [x, y] :=
  IntsO.of_own (OwnI.of_blk (xs := [x, y]) (Blk.new _ _ _) hlo ⟨rfl, fun j z hj hz => by
    match j, hz with
    | 0, hz => simp at hz; subst hz; rfl
    | 1, hz => simp at hz; subst hz; rfl
    | j + 2, hz => simp at hz⟩ (by simp) (by simp [hx, hy]))
/-- three families of three stretches that are apart -/
theorem Fam.three {w : World} {lo hi l1 h1 l2 h2 l3 h3 : Nat} {L1 L2 L3 : List (Value × List Int)} (f1 : Fam w l1 h1 L1) (f2 : Fam w l2 h2 L2) (f3 : Fam w l3 h3 L3) (d12 : h1 ≤ l2 ∨ h2 ≤ l1) (d13 : h1 ≤ l3 ∨ h3 ≤ l1) (d23 : h2 ≤ l3 ∨ h3 ≤ l2)
    (b1 : lo ≤ l1 ∧ h1 ≤ hi) (b2 : lo ≤ l2 ∧ h2 ≤ hi) (b3 : lo ≤ l3 ∧ h3 ≤ hi) : Fam w lo hi (L1 ++ (L2 ++ L3)) := by
  have ap : ∀ {l1 h1 l2 h2 : Nat} {L1 L2 : List (Value × List Int)}, Fam w l1 h1 L1 → Fam w l2 h2 L2 → (h1 ≤ l2 ∨ h2 ≤ l1) → ∀ a ∈ L1, ∀ b ∈ L2, a.1.ownBlock = none ∨ a.1.ownBlock ≠ b.1.ownBlock := by
    intro l1 h1 l2 h2 L1 L2 f g hd a ha b hb
    rcases hA : a.1.ownBlock with _ | x
    · exact .inl rfl
    · right
      intro e
      have q1 := (f.1 a ha).2 x hA
      have q2 := ((f.1 a ha).1.lt x hA).1
      have q3 := (g.1 b hb).2 x e.symm
      have q4 := ((g.1 b hb).1.lt x e.symm).1
      omega
  refine ⟨fun p hp => ?_, ?_⟩
  · rcases List.mem_append.1 hp with hp | hp
    · exact (f1.1 p hp).wider b1.1 b1.2
    · rcases List.mem_append.1 hp with hp | hp
      · exact (f2.1 p hp).wider b2.1 b2.2
      · exact (f3.1 p hp).wider b3.1 b3.2
  · rw [List.pairwise_append, List.pairwise_append]
    refine ⟨f1.2, ⟨f2.2, f3.2, ap f2 f3 d23⟩, fun a ha b hb => ?_⟩
    rcases List.mem_append.1 hb with hb | hb
    · exact ap f1 f2 d12 a ha b hb
    · exact ap f1 f3 d13 a ha b hb

def penRep (p : Int) (a b : Mx) : Rp := ⟨p, pQ, [a.c, a.r], [a, b]⟩
def penOf (p : Int) (a b : Mx) : Rp × Bool := if isRep (penRep p a b) then (penRep p a b, true) else (rp0, false)


end Go.Proofs.YtaefpblpfjhgoaaGreat

/- (Rep).clone. -/
namespace Go.Proofs.YtaefpblpfjhgoaaGreat
set_option linter.unusedVariables false
set_option linter.unusedSimpArgs false
open Go.RowKit

set_option maxHeartbeats 6400000 in
set_option maxRecDepth 100000 in
theorem repClone_any (u : Value) (y : Rp) (w0 : World) (hu : RpR w0 w0.heap.size u y) (hn : y.m.length ≤ 1000000) :
    Calls Tryz.prog 80 #[u] w0 fun e w' => ∃ v, e = .returned v ∧ RepO w' w0.heap.size w'.heap.size v y ∧ Below w0.heap.size w0 w' := by
  obtain ⟨A, a, C, c, E, e, H, h, rfl, hq, hd, hm, hp, ld, lm⟩ := hu.open_
  have hv := hu
  clear hu
  obtain ⟨W, hW⟩ : ∃ W, W = (w0.alloc (.cells #[.int .i64 y.p, .int .i64 y.q.v, .slice A y.q.f.length a, .slice C y.q.t.length c, .slice E y.d.length e, .slice H y.m.length h] 32)).alloc (.cells #[.int .i64 0, .int .i64 0, .slice none 0 0, .slice none 0 0, .slice none 0 0, .slice none 0 0] 32) := ⟨_, rfl⟩
  have g0 : Below w0.heap.size w0 W := by rw [hW]; exact ((Below.refl _ _).alloc (Nat.le_refl _) _).alloc (by simp) _
  have k1 : Blk W w0.heap.size 32 #[.int .i64 y.p, .int .i64 y.q.v, .slice A y.q.f.length a, .slice C y.q.t.length c, .slice E y.d.length e, .slice H y.m.length h] := by rw [hW]; exact (Blk.new _ _ _).alloc _
  have k2 : Blk W (w0.heap.size + 1) 32 #[.int .i64 0, .int .i64 0, .slice none 0 0, .slice none 0 0, .slice none 0 0, .slice none 0 0] := by
    rw [hW]
    have := Blk.new (w0.alloc (.cells #[.int .i64 y.p, .int .i64 y.q.v, .slice A y.q.f.length a, .slice C y.q.t.length c, .slice E y.d.length e, .slice H y.m.length h] 32)) 32 #[.int .i64 0, .int .i64 0, .slice none 0 0, .slice none 0 0, .slice none 0 0, .slice none 0 0]
    simpa only [World.size_alloc] using this
  have sz : W.heap.size = w0.heap.size + 1 + 1 := by rw [hW]; simp
  have SZ := Lib.hid sz
  clear sz
  have HIm := Lib.hid (SlM.I64s hm)
  have HQ := Lib.hid (QvR.next g0 hq)
  have HD := Lib.hid (SlI.next g0 hd)
  have HM := Lib.hid (SlM.next g0 hm)
  have HI := Lib.hid (show I64 y.p ∧ I64 y.q.v from by obtain ⟨_, _, _, _, _, _, _, _, _, h⟩ := hv; exact h)
  clear hq hd hm hv hp
  go_enter Tryz.func80, Tryz.ntmps80
  go_wp2
  rw [← hW]; clear hW
  refine wp_region_net (by kernel_rfl) [.eq (.pointer (some ⟨w0.heap.size, 0, none⟩)), .eq (.int .i64 y.p), .eq (.pointer (some ⟨w0.heap.size, 1, none⟩)), .eq (.agg #[.int .i64 y.q.v, .slice A y.q.f.length a, .slice C y.q.t.length c]), rel 4 (fun u lo hi w => QuivO w lo hi u y.q), .eq (.pointer (some ⟨w0.heap.size, 4, none⟩)), .eq (.slice E y.d.length e), rel 7 (fun u lo hi w => IntsO w lo hi u y.d), .eq (.pointer (some ⟨w0.heap.size, 5, none⟩)), .eq (.slice H y.m.length h), rel 10 (fun u lo hi w => MatsO w lo hi u y.m), .rel (fun x w => ∃ qa qb, x.v 4 = .agg #[.int .i64 y.q.v, qa, qb] ∧ x.v 11 = .agg #[.int .i64 y.p, .int .i64 y.q.v, qa, qb, x.v 7, x.v 10])] [[], [0], [], [2], [2, 3], [], [5], [2, 3, 4, 5, 6], [], [8], [2, 3, 4, 5, 6, 7, 8, 9], [0, 1, 2, 3, 4, 5, 6, 7, 8, 9, 10], [0, 1, 2, 3, 4, 5, 6, 7, 8, 9, 10, 11]] 12 (by kernel_rfl) ⟨trivial, trivial, trivial, trivial, rel_stable (fun u lo hi w w' h hb => h.below hb), trivial, trivial, rel_stable (fun u lo hi w w' h hb => h.below hb), trivial, trivial, rel_stable (fun u lo hi w w' h hb => h.below hb), fun x w w' h hb => h, trivial⟩ ⟨?_, ?_, ?_, ?_, ?_, ?_, ?_, ?_, ?_, ?_, ?_, ?_, trivial⟩ ?_
  · intro x w hb hk Q' hQ
    clear hk
    simp only [netAct, dstAt, List.getElem?_toArray, List.getElem?_cons_zero, List.getElem?_cons_succ, Option.bind_some, Act.put, List.setIfInBounds_toArray, List.set_cons_zero, List.set_cons_succ] at hQ ⊢
    go_wp2
    exact hQ (.pointer (some ⟨w0.heap.size, 0, none⟩)) _ (Below.refl _ _) rfl
  · intro x w hb hk Q' hQ
    have h0 : x.v 0 = .pointer (some ⟨w0.heap.size, 0, none⟩) := (hk 0 (by decide)).1
    clear hk
    simp only [netAct, dstAt, List.getElem?_toArray, List.getElem?_cons_zero, List.getElem?_cons_succ, Option.bind_some, Act.put, List.setIfInBounds_toArray, List.set_cons_zero, List.set_cons_succ] at hQ ⊢
    simp only [h0] at hQ ⊢
    clear h0
    have z := (k1.call hb).cell' (i := 0) rfl
    go_wp2
    exact hQ (.int .i64 y.p) _ (Below.refl _ _) rfl
  · intro x w hb hk Q' hQ
    clear hk
    simp only [netAct, dstAt, List.getElem?_toArray, List.getElem?_cons_zero, List.getElem?_cons_succ, Option.bind_some, Act.put, List.setIfInBounds_toArray, List.set_cons_zero, List.set_cons_succ] at hQ ⊢
    go_wp2
    exact hQ (.pointer (some ⟨w0.heap.size, 1, none⟩)) _ (Below.refl _ _) rfl
  · intro x w hb hk Q' hQ
    have h2 : x.v 2 = .pointer (some ⟨w0.heap.size, 1, none⟩) := (hk 2 (by decide)).1
    clear hk
    simp only [netAct, dstAt, List.getElem?_toArray, List.getElem?_cons_zero, List.getElem?_cons_succ, Option.bind_some, Act.put, List.setIfInBounds_toArray, List.set_cons_zero, List.set_cons_succ] at hQ ⊢
    simp only [h2] at hQ ⊢
    clear h2
    have z1 := (k1.call hb).cell' (i := 1) rfl
    have z2 := (k1.call hb).cell' (i := 2) rfl
    have z3 := (k1.call hb).cell' (i := 3) rfl
    go_wp2
    exact hQ (.agg #[.int .i64 y.q.v, .slice A y.q.f.length a, .slice C y.q.t.length c]) _ (Below.refl _ _) rfl
  · intro x w hb hk Q' hQ
    have h2 : x.v 2 = .pointer (some ⟨w0.heap.size, 1, none⟩) := (hk 2 (by decide)).1
    have h3 : x.v 3 = .agg #[.int .i64 y.q.v, .slice A y.q.f.length a, .slice C y.q.t.length c] := (hk 3 (by decide)).1
    clear hk
    simp only [netAct, dstAt, List.getElem?_toArray, List.getElem?_cons_zero, List.getElem?_cons_succ, Option.bind_some, Act.put, List.setIfInBounds_toArray, List.set_cons_zero, List.set_cons_succ] at hQ ⊢
    simp only [h2, h3] at hQ ⊢
    clear h2 h3
    go_wp2_with fail
    refine (qvClone_any _ y.q _ (QvR.next hb HQ.out)).mono ?_; rintro e w1 ⟨v1, rfl, ho, hb1⟩
    go_wp2
    exact hQ _ _ hb1 ho
  · intro x w hb hk Q' hQ
    clear hk
    simp only [netAct, dstAt, List.getElem?_toArray, List.getElem?_cons_zero, List.getElem?_cons_succ, Option.bind_some, Act.put, List.setIfInBounds_toArray, List.set_cons_zero, List.set_cons_succ] at hQ ⊢
    go_wp2
    exact hQ (.pointer (some ⟨w0.heap.size, 4, none⟩)) _ (Below.refl _ _) rfl
  · intro x w hb hk Q' hQ
    have h5 : x.v 5 = .pointer (some ⟨w0.heap.size, 4, none⟩) := (hk 5 (by decide)).1
    clear hk
    simp only [netAct, dstAt, List.getElem?_toArray, List.getElem?_cons_zero, List.getElem?_cons_succ, Option.bind_some, Act.put, List.setIfInBounds_toArray, List.set_cons_zero, List.set_cons_succ] at hQ ⊢
    simp only [h5] at hQ ⊢
    clear h5
    have z := (k1.call hb).cell' (i := 4) rfl
    go_wp2
    exact hQ (.slice E y.d.length e) _ (Below.refl _ _) rfl
  · intro x w hb hk Q' hQ
    have h2 : x.v 2 = .pointer (some ⟨w0.heap.size, 1, none⟩) := (hk 2 (by decide)).1
    have h3 : x.v 3 = .agg #[.int .i64 y.q.v, .slice A y.q.f.length a, .slice C y.q.t.length c] := (hk 3 (by decide)).1
    have h4 : QuivO w (x.lo 4) (x.hi 4) (x.v 4) y.q := (hk 4 (by decide)).1
    have h5 : x.v 5 = .pointer (some ⟨w0.heap.size, 4, none⟩) := (hk 5 (by decide)).1
    have h6 : x.v 6 = .slice E y.d.length e := (hk 6 (by decide)).1
    have s4 := (hk 4 (by decide)).2
    clear hk
    simp only [netAct, dstAt, List.getElem?_toArray, List.getElem?_cons_zero, List.getElem?_cons_succ, Option.bind_some, Act.put, List.setIfInBounds_toArray, List.set_cons_zero, List.set_cons_succ] at hQ ⊢
    simp only [h2, h3, h5, h6] at hQ ⊢
    clear h2 h3 h5 h6
    go_wp2_with fail
    refine (clone_own _ y.d _ (SlI.next hb HD.out)).mono ?_; rintro e w1 ⟨v1, rfl, ho, hb1⟩
    go_wp2
    exact hQ _ _ hb1 ho
  · intro x w hb hk Q' hQ
    clear hk
    simp only [netAct, dstAt, List.getElem?_toArray, List.getElem?_cons_zero, List.getElem?_cons_succ, Option.bind_some, Act.put, List.setIfInBounds_toArray, List.set_cons_zero, List.set_cons_succ] at hQ ⊢
    go_wp2
    exact hQ (.pointer (some ⟨w0.heap.size, 5, none⟩)) _ (Below.refl _ _) rfl
  · intro x w hb hk Q' hQ
    have h8 : x.v 8 = .pointer (some ⟨w0.heap.size, 5, none⟩) := (hk 8 (by decide)).1
    clear hk
    simp only [netAct, dstAt, List.getElem?_toArray, List.getElem?_cons_zero, List.getElem?_cons_succ, Option.bind_some, Act.put, List.setIfInBounds_toArray, List.set_cons_zero, List.set_cons_succ] at hQ ⊢
    simp only [h8] at hQ ⊢
    clear h8
    have z := (k1.call hb).cell' (i := 5) rfl
    go_wp2
    exact hQ (.slice H y.m.length h) _ (Below.refl _ _) rfl
  · intro x w hb hk Q' hQ
    have h2 : x.v 2 = .pointer (some ⟨w0.heap.size, 1, none⟩) := (hk 2 (by decide)).1
    have h3 : x.v 3 = .agg #[.int .i64 y.q.v, .slice A y.q.f.length a, .slice C y.q.t.length c] := (hk 3 (by decide)).1
    have h4 : QuivO w (x.lo 4) (x.hi 4) (x.v 4) y.q := (hk 4 (by decide)).1
    have h5 : x.v 5 = .pointer (some ⟨w0.heap.size, 4, none⟩) := (hk 5 (by decide)).1
    have h6 : x.v 6 = .slice E y.d.length e := (hk 6 (by decide)).1
    have h7 : IntsO w (x.lo 7) (x.hi 7) (x.v 7) y.d := (hk 7 (by decide)).1
    have h8 : x.v 8 = .pointer (some ⟨w0.heap.size, 5, none⟩) := (hk 8 (by decide)).1
    have h9 : x.v 9 = .slice H y.m.length h := (hk 9 (by decide)).1
    have s4 := (hk 4 (by decide)).2
    have s7 := (hk 7 (by decide)).2
    clear hk
    simp only [netAct, dstAt, List.getElem?_toArray, List.getElem?_cons_zero, List.getElem?_cons_succ, Option.bind_some, Act.put, List.setIfInBounds_toArray, List.set_cons_zero, List.set_cons_succ] at hQ ⊢
    simp only [h2, h3, h5, h6, h8, h9] at hQ ⊢
    clear h2 h3 h5 h6 h8 h9
    go_wp2_with fail
    refine (copyMatrices_any _ y.m _ (SlM.next hb HM.out) hn).mono ?_; rintro e w1 ⟨v1, rfl, ho, hb1⟩
    go_wp2
    exact hQ _ _ hb1 ho
  · intro x w hb hk Q' hQ
    have h0 : x.v 0 = .pointer (some ⟨w0.heap.size, 0, none⟩) := (hk 0 (by decide)).1
    have h1 : x.v 1 = .int .i64 y.p := (hk 1 (by decide)).1
    have h2 : x.v 2 = .pointer (some ⟨w0.heap.size, 1, none⟩) := (hk 2 (by decide)).1
    have h3 : x.v 3 = .agg #[.int .i64 y.q.v, .slice A y.q.f.length a, .slice C y.q.t.length c] := (hk 3 (by decide)).1
    have h4 : QuivO w (x.lo 4) (x.hi 4) (x.v 4) y.q := (hk 4 (by decide)).1
    have h5 : x.v 5 = .pointer (some ⟨w0.heap.size, 4, none⟩) := (hk 5 (by decide)).1
    have h6 : x.v 6 = .slice E y.d.length e := (hk 6 (by decide)).1
    have h7 : IntsO w (x.lo 7) (x.hi 7) (x.v 7) y.d := (hk 7 (by decide)).1
    have h8 : x.v 8 = .pointer (some ⟨w0.heap.size, 5, none⟩) := (hk 8 (by decide)).1
    have h9 : x.v 9 = .slice H y.m.length h := (hk 9 (by decide)).1
    have h10 : MatsO w (x.lo 10) (x.hi 10) (x.v 10) y.m := (hk 10 (by decide)).1
    have s4 := (hk 4 (by decide)).2
    have s7 := (hk 7 (by decide)).2
    have s10 := (hk 10 (by decide)).2
    clear hk
    simp only [netAct, dstAt, List.getElem?_toArray, List.getElem?_cons_zero, List.getElem?_cons_succ, Option.bind_some, Act.put, List.setIfInBounds_toArray, List.set_cons_zero, List.set_cons_succ] at hQ ⊢
    simp only [h0, h1, h2, h3, h5, h6, h8, h9] at hQ ⊢
    clear h0 h1 h2 h3 h5 h6 h8 h9
    obtain ⟨qa, qb, e4, hqF, _⟩ := h4
    have f1 : IntsO w (x.lo 4) (x.hi 4) qa y.q.f := hqF.1 (qa, y.q.f) (by simp)
    have f2 : IntsO w (x.lo 4) (x.hi 4) qb y.q.t := hqF.1 (qb, y.q.t) (by simp)
    obtain ⟨qA, qc, rfl⟩ := f1.form
    obtain ⟨qB, qd, rfl⟩ := f2.form
    obtain ⟨dA, dc, e7⟩ := h7.form
    obtain ⟨vs, h10, _⟩ := h10
    obtain ⟨mA, mc, e10, _, _⟩ := RowO.form h10
    have hQ' := hQ (.agg #[.int .i64 y.p, .int .i64 y.q.v, .slice qA y.q.f.length qc, .slice qB y.q.t.length qd, x.v 7, x.v 10]) w (Below.refl _ _) ⟨_, _, e4, rfl⟩
    rw [e4, e7, e10] at hQ' ⊢
    go_wp2
    exact hQ'
  · intro x w hb hk hiv hdj
    have h0 : x.v 0 = .pointer (some ⟨w0.heap.size, 0, none⟩) := hk 0 (by decide)
    have h1 : x.v 1 = .int .i64 y.p := hk 1 (by decide)
    have h2 : x.v 2 = .pointer (some ⟨w0.heap.size, 1, none⟩) := hk 2 (by decide)
    have h3 : x.v 3 = .agg #[.int .i64 y.q.v, .slice A y.q.f.length a, .slice C y.q.t.length c] := hk 3 (by decide)
    have h4 : QuivO w (x.lo 4) (x.hi 4) (x.v 4) y.q := hk 4 (by decide)
    have h5 : x.v 5 = .pointer (some ⟨w0.heap.size, 4, none⟩) := hk 5 (by decide)
    have h6 : x.v 6 = .slice E y.d.length e := hk 6 (by decide)
    have h7 : IntsO w (x.lo 7) (x.hi 7) (x.v 7) y.d := hk 7 (by decide)
    have h8 : x.v 8 = .pointer (some ⟨w0.heap.size, 5, none⟩) := hk 8 (by decide)
    have h9 : x.v 9 = .slice H y.m.length h := hk 9 (by decide)
    have h10 : MatsO w (x.lo 10) (x.hi 10) (x.v 10) y.m := hk 10 (by decide)
    have h11 : ∃ qa qb, x.v 4 = .agg #[.int .i64 y.q.v, qa, qb] ∧ x.v 11 = .agg #[.int .i64 y.p, .int .i64 y.q.v, qa, qb, x.v 7, x.v 10] := hk 11 (by decide)
    clear hk
    simp only [netAct, dstAt, List.getElem?_toArray, List.getElem?_cons_zero, List.getElem?_cons_succ, Option.bind_some, Act.put, List.setIfInBounds_toArray, List.set_cons_zero, List.set_cons_succ]
    simp only [List.drop_succ_cons, List.drop_zero, h0, h1, h2, h3, h5, h6, h8, h9]
    clear h0 h1 h2 h3 h5 h6 h8 h9
    obtain ⟨qa, qb, e4, hqF, _⟩ := h4
    have f1 : IntsO w (x.lo 4) (x.hi 4) qa y.q.f := hqF.1 (qa, y.q.f) (by simp)
    have f2 : IntsO w (x.lo 4) (x.hi 4) qb y.q.t := hqF.1 (qb, y.q.t) (by simp)
    obtain ⟨qA, qc, rfl⟩ := f1.form
    obtain ⟨qB, qd, rfl⟩ := f2.form
    obtain ⟨dA, dc, e7⟩ := h7.form
    obtain ⟨vs, ho, hvl, hFm, hIm⟩ := h10
    obtain ⟨mA, mc, e10, _, _⟩ := RowO.form ho
    obtain ⟨qa', qb', e4', e11⟩ := h11
    rw [e4] at e4'
    simp only [Value.agg.injEq, Array.mk.injEq, List.cons.injEq, and_true, true_and] at e4'
    obtain ⟨rfl, rfl⟩ := e4'
    rw [e7] at h7
    rw [e10] at ho
    rw [e7, e10] at e11
    have i4 := hiv 4 (by decide)
    have i7 := hiv 7 (by decide)
    have i10 := hiv 10 (by decide)
    have hF3 : Fam w W.heap.size w.heap.size ([(.slice qA y.q.f.length qc, y.q.f), (.slice qB y.q.t.length qd, y.q.t)] ++ ([(.slice dA y.d.length dc, y.d)] ++ vs.zip (y.m.map Mx.a))) :=
      Fam.three hqF (Fam.one h7) hFm (hdj 4 7 (by decide) (by decide) (by decide)) (hdj 4 10 (by decide) (by decide) (by decide)) (hdj 7 10 (by decide) (by decide) (by decide)) ⟨i4.1, i4.2.2⟩ ⟨i7.1, i7.2.2⟩ ⟨i10.1, i10.2.2⟩
    have hR : RepO w W.heap.size w.heap.size (.agg #[.int .i64 y.p, .int .i64 y.q.v, .slice qA y.q.f.length qc, .slice qB y.q.t.length qd, .slice dA y.d.length dc, .slice mA y.m.length mc]) y :=
      ⟨_, _, _, _, vs, rfl, ho.mono i10.1 i10.2.2, hvl, hF3, HI.out, hIm⟩
    rw [e11]
    have kz := k2.call hb
    have fr := kz.frozen
    have s0 := kz.cell' (i := 0) rfl
    have s1 := kz.cell' (i := 1) rfl
    have s2 := kz.cell' (i := 2) rfl
    have s3 := kz.cell' (i := 3) rfl
    have s4 := kz.cell' (i := 4) rfl
    have s5 := kz.cell' (i := 5) rfl
    have gf := g0.trans (hb.mono g0.size)
    have hc := chg6 w (w0.heap.size + 1) (.int .i64 y.p) (.int .i64 y.q.v) (.slice qA y.q.f.length qc) (.slice qB y.q.t.length qd) (.slice dA y.d.length dc) (.slice mA y.m.length mc)
    have sz := SZ.out
    have OF := Lib.hid ((hR.chg hc (.inr (by omega))).wider (lo' := w0.heap.size) (hi' := w.heap.size) (by omega) (Nat.le_refl _))
    have GF := Lib.hid (gf.trans (hc.below (by omega) gf.size))
    clear hR hF3 hqF hFm hIm h7 ho e4 e7 e10 e11 f1 f2 hiv hdj i4 i7 i10 kz gf hc sz hb k1 k2
    go_wp2
    exact bodyPost_ret (v := .agg #[.int .i64 y.p, .int .i64 y.q.v, .slice qA y.q.f.length qc, .slice qB y.q.t.length qd, .slice dA y.d.length dc, .slice mA y.m.length mc]) (by simp [results, go_sem, s0, s1, s2, s3, s4, s5]) rfl ⟨_, rfl, OF.out.wider (Nat.le_refl _) (by simp), GF.out⟩
end Go.Proofs.YtaefpblpfjhgoaaGreat

/- Memory of sums: a number put into the dimensions, a matrix put in its place. -/
namespace Go.Proofs.YtaefpblpfjhgoaaGreat
set_option linter.unusedVariables false
set_option linter.unusedSimpArgs false
open Go.RowKit

theorem mxCs_set3 : ∀ {vs : List Value} {ms : List Mx} {j : Nat}, j < ms.length → vs.length = ms.length → ∀ (m : Mx) (u : Value),
    (((mxCs vs ms).set (j * 3) (.int .i64 m.r)).set (j * 3 + 1) (.int .i64 m.c)).set (j * 3 + 2) u = mxCs (vs.set j u) (ms.set j m)
  | _, [], _, h, _, _, _ => by simp at h
  | [], _ :: _, _, _, h, _, _ => by simp at h
  | v :: vs, m :: ms, 0, _, _, x, u => by simp [mxCs]
  | v :: vs, m :: ms, j + 1, h, h2, x, u => by
    have := mxCs_set3 (vs := vs) (ms := ms) (j := j) (by simpa using h) (by simpa using h2) x u
    simp only [mxCs, show (j + 1) * 3 = j * 3 + 1 + 1 + 1 by omega, show j * 3 + 1 + 1 + 1 + 1 = (j * 3 + 1) + 1 + 1 + 1 by omega, show j * 3 + 1 + 1 + 1 + 2 = (j * 3 + 2) + 1 + 1 + 1 by omega, List.set_cons_succ, this]
abbrev set3 (w : World) (g i : Nat) (a b c : Value) : World := ((w.setCell ⟨g, i, none⟩ a).setCell ⟨g, i + 1, none⟩ b).setCell ⟨g, i + 2, none⟩ c
theorem RowO.len {T : TypeId} {sz : Nat} {w : World} {lo hi g c n m : Nat} {cs : List Value} (h : RowO T sz w lo hi (.slice (some ⟨g, 0, none⟩) n c) m cs) : n = m := by
  rcases h.1.2 with ⟨e, _⟩ | ⟨g', cap', cur, e, _⟩
  · cases e
  · injection e with _ e _
theorem chg_set1 (w : World) (g i : Nat) (u : Value) : Chg g (g + 1) w (w.setCell ⟨g, i, none⟩ u) := chg_set (Nat.le_refl _) (Nat.lt_succ_self _)
theorem chg_set3 (w : World) (g i : Nat) (a b c : Value) : Chg g (g + 1) w (set3 w g i a b c) :=
  ((chg_set1 w g i a).trans (chg_set1 _ g (i + 1) b)).trans (chg_set1 _ g (i + 2) c)
theorem OutM.setMx {w : World} {lo hi g n c j : Nat} {vs : List Value} {ms : List Mx} (h : OutM w lo hi (.slice (some ⟨g, 0, none⟩) n c) vs ms) (hl : vs.length = ms.length) (hj : j < ms.length) (m : Mx) (u : Value) :
    OutM (set3 w g (j * 3) (.int .i64 m.r) (.int .i64 m.c) u) lo hi (.slice (some ⟨g, 0, none⟩) n c) (vs.set j u) (ms.set j m) := by
  have e := RowO.len h
  subst e
  have h1 := (RowO.stored h (j * 3) (.int .i64 m.r)).1
  have h2 := (RowO.stored h1 (j * 3 + 1) (.int .i64 m.c)).1
  have h3 := (RowO.stored h2 (j * 3 + 2) u).1
  rw [mxCs_set3 hj hl] at h3
  unfold OutM
  rw [List.length_set]
  exact h3
theorem Fam.swap {w : World} {lo hi mi hi' j : Nat} {L0 : List (Value × List Int)} {vs : List Value} {ll : List (List Int)} {u : Value} {l : List Int} (h : Fam w lo hi (L0 ++ vs.zip ll)) (hj : j < ll.length) (hl : vs.length = ll.length) (hu : IntsO w mi hi' u l) (h1 : hi ≤ mi) (h2 : mi ≤ hi') (h3 : lo ≤ mi) :
    Fam w lo hi' (L0 ++ (vs.set j u).zip (ll.set j l)) := by
  have hv : vs[j]? = some (vs[j]'(by omega)) := List.getElem?_eq_getElem (by omega)
  have hl' : ll[j]? = some (ll[j]'hj) := List.getElem?_eq_getElem hj
  have hsv : (vs.set j u)[j]? = some u := by rw [List.getElem?_set, if_pos rfl, if_pos (by omega)]
  have hsl : (ll.set j l)[j]? = some l := by rw [List.getElem?_set, if_pos rfl, if_pos hj]
  rw [zip_split hsv hsl, List.take_set_of_le (Nat.le_refl j), List.drop_set_of_lt (by omega), List.take_set_of_le (Nat.le_refl j), List.drop_set_of_lt (by omega)]
  rw [zip_split hv hl', ← List.append_assoc] at h
  rw [← List.append_assoc]
  generalize L0 ++ (vs.take j).zip (ll.take j) = M1 at h ⊢
  generalize (vs.drop (j + 1)).zip (ll.drop (j + 1)) = M2 at h ⊢
  obtain ⟨G1, G2⟩ := h
  rw [List.pairwise_append] at G2
  obtain ⟨P1, P2, P3⟩ := G2
  rw [List.pairwise_cons] at P2
  refine ⟨fun p hp => ?_, ?_⟩
  · rcases List.mem_append.1 hp with hp | hp
    · exact (G1 p (by simp [hp])).wider (Nat.le_refl _) (by omega)
    · rcases List.mem_cons.1 hp with rfl | hp
      · exact hu.wider h3 (Nat.le_refl _)
      · exact (G1 p (by simp [hp])).wider (Nat.le_refl _) (by omega)
  · rw [List.pairwise_append, List.pairwise_cons]
    refine ⟨P1, ⟨fun p hp => ?_, P2.2⟩, fun p hp q hq => ?_⟩
    · rcases hA : u.ownBlock with _ | x
      · exact .inl rfl
      · refine .inr fun e2 => ?_
        have h5 := (G1 p (by simp [hp])).2 x e2.symm
        have h6 := (hu.1.lt x hA).1
        omega
    · rcases List.mem_cons.1 hq with rfl | hq
      · rcases hA : p.1.ownBlock with _ | x
        · exact .inl rfl
        · refine .inr fun e => ?_
          have h5 := (G1 p (by simp [hp])).2 x hA
          have h6 := (hu.1.lt x e.symm).1
          omega
      · exact P3 p hp q (by simp [hq])
theorem OutM.blk {w : World} {lo hi g n c : Nat} {vs : List Value} {ms : List Mx} (h : OutM w lo hi (.slice (some ⟨g, 0, none⟩) n c) vs ms) : ∃ cs, Blk w g 50 cs ∧ lo ≤ g ∧ g < hi := by
  have hg := h.2.1 g rfl
  rcases h.1.2 with ⟨e, _⟩ | ⟨g', cap', cur, e, k1, hh, _⟩
  · cases e
  · injection e with e1 e2 _
    injection e1 with e1
    injection e1 with e1
    subst e1
    exact ⟨cur, hh, k1, hg⟩
theorem Fam.set3 {w : World} {lo hi g i : Nat} {L : List (Value × List Int)} {t : TypeId} {cs : Array Value} (h : Fam w lo hi L) (hb : Blk w g t cs) (ht : 3 ≠ t) (a b c : Value) : Fam (set3 w g i a b c) lo hi L :=
  ((h.setBlk hb ht a).setBlk (hb.set_ i a) ht b).setBlk ((hb.set_ i a).set_ (i + 1) b) ht c
/-- a matrix of later memory put in its place -/
theorem RepO.setMx {w : World} {lo hi mi hi' g n c j : Nat} {p v r k : Int} {f t d u : Value} {x : Rp} {m : Mx} (h : RepO w lo hi (.agg #[.int .i64 p, .int .i64 v, f, t, d, .slice (some ⟨g, 0, none⟩) n c]) x) (hj : j < x.m.length)
    (hu : MxO w mi hi' (.agg #[.int .i64 r, .int .i64 k, u]) m) (h1 : hi ≤ mi) (h2 : mi ≤ hi') (h3 : lo ≤ mi) :
    RepO (set3 w g (j * 3) (.int .i64 r) (.int .i64 k) u) lo hi' (.agg #[.int .i64 p, .int .i64 v, f, t, d, .slice (some ⟨g, 0, none⟩) n c]) ⟨x.p, x.q, x.d, x.m.set j m⟩ ∧ lo ≤ g ∧ g < hi := by
  obtain ⟨f', t', d', m', vs, e, hO, hvl, hF, hi1, hi2⟩ := h
  simp only [Value.agg.injEq, Array.mk.injEq, List.cons.injEq, and_true] at e
  obtain ⟨rfl2, rfl3, rfl, rfl, rfl, rfl⟩ := e
  obtain ⟨s, e, hs, i1, i2⟩ := hu
  simp only [Value.agg.injEq, Array.mk.injEq, List.cons.injEq, and_true, Value.int.injEq, true_and] at e
  obtain ⟨rfl, rfl, rfl⟩ := e
  obtain ⟨cs, hb, hg1, hg2⟩ := OutM.blk hO
  refine ⟨⟨f, t, d, _, vs.set j u, by rw [rfl2, rfl3], (OutM.setMx hO hvl hj m u).mono (Nat.le_refl _) (by omega), by simp [hvl], ?_, hi1, fun y hy => ?_⟩, hg1, hg2⟩
  · have hF2 := hF.swap (j := j) (by simpa using hj) (by simpa using hvl) hs h1 h2 h3
    have hF3 := hF2.set3 (i := j * 3) hb (by decide) (.int .i64 m.r) (.int .i64 m.c) u
    rw [List.map_set]
    exact hF3
  · rcases List.mem_or_eq_of_mem_set hy with hy | rfl
    · exact hi2 y hy
    · exact ⟨i1, i2⟩
/-- a number put into the dimensions -/
theorem RepO.setDim {w : World} {lo hi g n c j : Nat} {p v y : Int} {f t m : Value} {x : Rp} (h : RepO w lo hi (.agg #[.int .i64 p, .int .i64 v, f, t, .slice (some ⟨g, 0, none⟩) n c, m]) x) (hy : I64 y) :
    RepO (w.setCell ⟨g, j, none⟩ (.int .i64 y)) lo hi (.agg #[.int .i64 p, .int .i64 v, f, t, .slice (some ⟨g, 0, none⟩) n c, m]) ⟨x.p, x.q, x.d.set j y, x.m⟩ ∧ lo ≤ g ∧ g < hi := by
  obtain ⟨f', t', d', m', vs, e, hO, hvl, hF, hi1, hi2⟩ := h
  simp only [Value.agg.injEq, Array.mk.injEq, List.cons.injEq, and_true] at e
  obtain ⟨rfl2, rfl3, rfl, rfl, rfl, rfl⟩ := e
  have hd : IntsO w lo hi (.slice (some ⟨g, 0, none⟩) n c) x.d := hF.1 (.slice (some ⟨g, 0, none⟩) n c, x.d) (by simp)
  have hp := hd.1.put (j := j) hy
  have hgb := hd.2 g rfl
  have hgl := (hd.1.lt g rfl).1
  refine ⟨⟨f, t, _, m, vs, by rw [rfl2, rfl3], ?_, hvl, ?_, hi1, hi2⟩, hgl, hgb⟩
  · exact RowO.grown hO (by decide) hd.1 hp.2
  · have := Fam.turn (L1 := [(f, x.q.f), (t, x.q.t)]) (L2 := vs.zip (x.m.map Mx.a)) (v := .slice (some ⟨g, 0, none⟩) n c) (l := x.d) (l' := x.d.set j y) (by simpa using hF) hp.1 hp.2
    simpa using this
/-- the cells of a representation of the call's own -/
theorem RepO.dimAt {w : World} {lo hi j : Nat} {p v : Int} {f t d m : Value} {x : Rp} (h : RepO w lo hi (.agg #[.int .i64 p, .int .i64 v, f, t, d, m]) x) (hj : j < x.d.length) :
    ∃ g c, d = .slice (some ⟨g, 0, none⟩) x.d.length c ∧ lo ≤ g ∧ g < hi ∧ w.cell? ⟨g, j, none⟩ = some (.int .i64 (x.d.getD j 0)) ∧ w.frozen? ⟨g, j, none⟩ = false ∧ I64 (x.d.getD j 0) := by
  obtain ⟨f', t', d', m', vs, e, hO, hvl, hF, hi1, hi2⟩ := h
  simp only [Value.agg.injEq, Array.mk.injEq, List.cons.injEq, and_true] at e
  obtain ⟨_, _, rfl, rfl, rfl, rfl⟩ := e
  have hd : IntsO w lo hi d x.d := hF.1 (d, x.d) (by simp)
  rcases hd.1.1.2 with ⟨rfl, h0⟩ | ⟨g, cap, cur, rfl, k1, hh, _⟩
  · omega
  · have h1 := hd.1.cellG hj
    exact ⟨g, cap, rfl, k1, hd.2 g rfl, h1.1, hd.1.frozenG j, h1.2⟩
theorem RepO.mxAt {w : World} {lo hi j : Nat} {p v : Int} {f t d m : Value} {x : Rp} {y : Mx} (h : RepO w lo hi (.agg #[.int .i64 p, .int .i64 v, f, t, d, m]) x) (hj : x.m[j]? = some y) :
    ∃ g c s, m = .slice (some ⟨g, 0, none⟩) x.m.length c ∧ lo ≤ g ∧ g < hi ∧ w.cell? ⟨g, j * 3, none⟩ = some (.int .i64 y.r) ∧ w.cell? ⟨g, j * 3 + 1, none⟩ = some (.int .i64 y.c) ∧ w.cell? ⟨g, j * 3 + 2, none⟩ = some s ∧ IntsO w lo hi s y.a ∧ (∀ i, w.frozen? ⟨g, i, none⟩ = false) ∧ I64 y.r ∧ I64 y.c := by
  obtain ⟨f', t', d', m', vs, e, hO, hvl, hF, hi1, hi2⟩ := h
  simp only [Value.agg.injEq, Array.mk.injEq, List.cons.injEq, and_true] at e
  obtain ⟨_, _, rfl, rfl, rfl, rfl⟩ := e
  have hjl := lt_of_some hj
  have hv : vs[j]? = some (vs[j]'(by omega)) := List.getElem?_eq_getElem (by omega)
  obtain ⟨a, b, c⟩ := mxCs_get hv hj
  rcases hO.1.2 with ⟨rfl, h0⟩ | ⟨g, cap, cur, rfl, k1, hh, _⟩
  · omega
  · have e := fun i (hi : i < 3) => hO.1.cellAt (j * 3 + i) (by omega)
    have hs := Fam.getAt (L0 := [(f, x.q.f), (t, x.q.t), (d, x.d)]) hF hv (l := y.a) (by simp [hj])
    exact ⟨g, cap, _, rfl, k1, hO.2.1 g rfl, by rw [show j * 3 = j * 3 + 0 by omega, e 0 (by omega)]; exact a, by rw [e 1 (by omega)]; exact b, by rw [e 2 (by omega)]; exact c, hs, fun i => hO.1.frozenAt i, hi2 y (List.mem_of_getElem? hj)⟩
end Go.Proofs.YtaefpblpfjhgoaaGreat
