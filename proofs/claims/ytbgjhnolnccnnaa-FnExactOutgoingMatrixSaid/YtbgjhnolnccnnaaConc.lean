/- slices.Concat at []int, and the matrix of some rows. -/
import Derived.Test.YtbgjhnolnccnnaaBesd
import Derived.Shelf.Spec.SlicesGrow
namespace Go.Proofs
open Go.Shelf
def Try.laysGrow_ren : Go.Shelf.Ren := ⟨fun | 4 => 197 | n => n, fun | 22 => 29 | 25 => 3 | 3 => 3 | 4 => 4 | 9 => 9 | 20 => 20 | 0 => 0 | n => n, fun | n => n⟩
theorem Try.laysGrow : Go.Proofs.Lays8.n4 Try.prog Try.laysGrow_ren := {
  mixed := by kernel_rfl
  f4 := ⟨Try.f197.name, by decide, Try.func197.trans (congrArg some (by kernel_rfl))⟩
  t0 := Try.underlying0
  a0 := Try.isAgg0
  z0 := Try.sizeOf0
  v0 := Try.zeroValue0
  t3 := Try.underlying3
  a3 := Try.isAgg3
  z3 := Try.sizeOf3
  v3 := Try.zeroValue3
  t4 := Try.underlying4
  a4 := Try.isAgg4
  z4 := Try.sizeOf4
  v4 := Try.zeroValue4
  t9 := Try.underlying9
  a9 := Try.isAgg9
  z9 := Try.sizeOf9
  v9 := Try.zeroValue9
  t20 := Try.underlying20
  a20 := Try.isAgg20
  z20 := Try.sizeOf20
  v20 := Try.zeroValue20
  t22 := Try.underlying29
  a22 := Try.isAgg29
  z22 := Try.sizeOf29
  v22 := Try.zeroValue29 }
end Go.Proofs
namespace Go.Proofs.Ytbgjhnolnccnnaa
set_option linter.unusedVariables false
set_option linter.unusedSimpArgs false
open Go.RowKit

theorem grow_any (n : Nat) (w : World) (hn : n ≤ 1000000) :
    Calls Try.prog 197 #[.slice none 0 0, .int .i64 n] w fun e w' => ∃ v, e = .returned v ∧ OwnI w' w.heap.size v [] ∧ Below w.heap.size w w' := by
  rcases Nat.eq_zero_or_pos n with rfl | h0
  · exact (Any8.slices_Grow_room Try.laysGrow none 0 0 0 w (by omega) (by omega) (by omega) (by omega)).mono fun e w' ⟨h1, h2⟩ => ⟨_, h1, OwnI.nil _ _, by rw [h2]; exact Below.refl _ _⟩
  · obtain ⟨i0, hi, hz0, hz1, hz2⟩ := info_parts infoInt
    have hG : Calls Try.prog 197 #[.slice none 0 0, .int .i64 n] w fun e w' => e = .returned (.slice (some ⟨w.heap.size, 0, none⟩) 0 (grownCap w (0 + n) 0 3)) ∧
        w' = w.drew.alloc (.cells (([] : List Value).toArray ++ Builtin.zeroCells (Value.int .i64 0).cells (0 + n - 0) ++ Builtin.zeroCells (Value.int .i64 0).cells (grownCap w (0 + n) 0 3 - (0 + n))) 3) :=
      Any8.slices_Grow_grow Try.laysGrow i0 _ hi hz0 (by omega) none 0 0 n [] w (by omega) (by omega) (by rw [hz2]; omega) (by omega) (by simp) (fun _ => rfl) (fun a h => by cases h)
    rw [Nat.zero_add, Nat.sub_zero] at hG
    refine hG.mono fun e w' ⟨h1, h2⟩ => ⟨_, h1, ?_, ?_⟩
    · rw [h2]
      have hg := grownCap_ge w n 0 3
      have hm := grownCap_le_maxLen w n 0 3 (by simp only [maxLen]; omega)
      refine ⟨⟨by simp, .inr ⟨w.heap.size, grownCap w n 0 3, _, rfl, Nat.le_refl _, Blk.new _ _ _, Nat.zero_le _, hm, ?_, by simp⟩⟩, by simp, by simp⟩
      have hz : (Value.int .i64 0).cells.size = 1 := rfl
      simp only [Array.size_append, size_zeroCells, List.size_toArray, List.length_nil, hz, Nat.mul_one]
      omega
    · rw [h2]
      exact bthen (drew_below w) (below_alloc _ _)

theorem flatten_len_take (ll : List (List Int)) (k : Nat) : (ll.take k).flatten.length ≤ ll.flatten.length := by
  have : ll = ll.take k ++ ll.drop k := (List.take_append_drop k ll).symm
  have h2 := congrArg (fun x => (List.flatten x).length) this
  simp only [List.flatten_append, List.length_append] at h2
  omega
set_option maxHeartbeats 1600000 in
theorem concat_any (u : Value) (ll : List (List Int)) (w : World) (hu : SlII w w.heap.size u ll) (hn : ll.length ≤ 1000000) (ht : ll.flatten.length ≤ 1000000) :
    Calls Try.prog 180 #[u] w fun e w' => ∃ v, e = .returned v ∧ IntsO w' w.heap.size w'.heap.size v ll.flatten ∧ Below w.heap.size w w' := by
  obtain ⟨A, c, rfl, _, _, _, hx⟩ := hu.open_
  clear hu
  have HX := Lib.hid hx
  have HT := Lib.hid ht
  obtain ⟨n, hnl⟩ : ∃ n, ll.length = n := ⟨_, rfl⟩
  have HNL := Lib.hid hnl
  rw [hnl] at hn ⊢
  clear hx ht hnl
  go_enter Try.func180, Try.ntmps180
  go_wp2
  go_loopw [3, 11] (fun s i wr => ∃ k : Nat, k ≤ n ∧ i = .int .i64 k ∧ s = .int .i64 ((ll.take k).flatten.length : Nat) ∧ w = wr) (fun _ i _ => n - (intOf i).toNat)
  case atStart => exact ⟨0, Nat.zero_le _, rfl, by simp, rfl⟩
  case round =>
    obtain ⟨k, hk, rfl, rfl, rfl⟩ := hrel
    have hle := flatten_len_take ll k
    have hle2 := flatten_len_take ll (k + 1)
    have ht := HT.out
    obtain ⟨s, hs⟩ : ∃ s, (ll.take k).flatten.length = s := ⟨_, rfl⟩
    by_cases hlt : k < n
    · rw [hs] at hle ⊢
      have hx := HX.out
      rw [← HNL.out] at hlt
      obtain ⟨b, o, l, LA, lc, rfl, hb, HL, x1, hl⟩ := SlII.at_ hx hlt
      rw [HNL.out] at hlt
      have e1 : (ll.take (k + 1)).flatten.length = s + l.length := by rw [take_snoc HL.out, List.flatten_append, List.length_append, hs]; simp
      rw [e1] at hle2
      have hsl : s + l.length ≤ 1000000 := by omega
      have E1 := Lib.hid e1
      clear hs e1 ht hle hle2 hx HL hl hb
      go_wp2
      go_roundw
      case rel => exact ⟨k + 1, by omega, by go_num, by rw [E1.out]; go_num, by first | rfl | trivial⟩
      case measure => simp [intOf]; omega
    · obtain rfl : k = n := by omega
      have e0 : ll.take k = ll := List.take_of_length_le (by have := HNL.out; omega)
      rw [e0] at hs ⊢
      rw [hs] at ht ⊢
      clear hle hle2 e0
      have HS := Lib.hid hs
      clear hs
      go_wp2_with fail
      refine (grow_any s _ (by omega)).mono ?_; rintro e w1 ⟨v, rfl, ho, hb1⟩
      obtain ⟨OA, oc, rfl, _, _⟩ := ho.form
      have gw := hb1
      go_wp2
      go_loopw [6, 27] (fun out i wr => ∃ j : Nat, j ≤ k ∧ i = .int .i64 j ∧ OwnI wr w.heap.size out (ll.take j).flatten ∧ Below w.heap.size w wr) (fun _ i _ => k - (intOf i).toNat)
      case atStart => exact ⟨0, Nat.zero_le _, rfl, by simpa using ho, hb1⟩
      case round =>
        clear ho hb1 gw
        obtain ⟨j, hj, rfl, ho, hb1⟩ := hrel
        have gs := hb1.size
        by_cases hlj : j < k
        · have hx := HX.out
          rw [← HNL.out] at hlj
          obtain ⟨b, o, l, LA, lc, rfl, hb, HL, x1, hl⟩ := SlII.at_ hx hlj
          rw [HNL.out] at hlj
          have x2 := bcell hb1 hb x1
          have hl2 : SlI wr w.heap.size (.slice LA l.length lc) l := SlI.below hb1 hl
          have e1 : (ll.take (j + 1)).flatten = (ll.take j).flatten ++ l := by rw [take_snoc HL.out, List.flatten_append]; simp
          have hle2 := flatten_len_take ll (j + 1)
          rw [e1, List.length_append, HS.out] at hle2
          have E1 := Lib.hid e1
          obtain ⟨OB, ob, rfl, _, _⟩ := ho.form
          have HO := Lib.hid ho
          have HL2 := Lib.hid hl2
          have HLE := Lib.hid hle2
          have GW := Lib.hid hb1
          have hlo2 := HO.out.lt
          clear e1 hx hl hl2 HL x1 ho hle2 hb1
          (go_wp2_with (at_builtin; refine Hold.stop ?_)); unfold Hold
          refine wpList_appI rfl (.tmp 31) (.tmp 32) rfl w.heap.size w.heap.size _ _ rfl HO.out LA l.length lc l rfl rfl HL2.out (by have := HLE.out; omega) gs ?_
          intro v' w' h1 h2 h3
          rw [← E1.out] at h1
          have g2 := (GW.out).trans (below_grown h2 (fun k hk => (hlo2 k hk).1) gs)
          have H1 := Lib.hid h1
          have G2 := Lib.hid g2
          clear h1 h2 h3 g2 hlo2
          go_wp2
          go_roundw
          case rel => exact ⟨j + 1, by omega, by go_num, H1.out, G2.out⟩
          case measure => simp [intOf]; omega
        · obtain rfl : j = k := by omega
          have e0 : ll.take j = ll := List.take_of_length_le (by have := HNL.out; omega)
          rw [e0] at ho
          have HO := Lib.hid ho
          clear ho e0
          go_wp2
          go_ret
          exact ⟨_, rfl, IntsO.of_own HO.out, hb1⟩

theorem rowsF_flatten (r c : Nat) (f : Nat → Nat → Int) : (rowsF r c f).flatten = flat r c f := by
  induction r with
  | zero => simp [rowsF, flat]
  | succ r ih =>
    rw [rowsF_succ, List.flatten_append, ih]
    refine flat_ext (by simp [flat_length, rowF_length, Nat.add_mul]) fun i k hi hk => ?_
    rw [List.getElem?_append]
    by_cases h : i < r
    · rw [if_pos (by rw [flat_length]; exact ix_lt h hk), flat_get f h hk]
    · obtain rfl : i = r := by omega
      rw [if_neg (by rw [flat_length]; omega), flat_length, show i * c + k - i * c = k by omega]
      simp [rowF_get _ hk]
set_option maxHeartbeats 800000 in
theorem fromRows_any (u : Value) (c r : Nat) (f : Nat → Nat → Int) (w0 : World) (hu : SlII w0 w0.heap.size u (rowsF r c f)) (hr : r ≤ 1000) (hc : c ≤ 1000) :
    Calls Try.prog 155 #[.int .i64 c, u] w0 fun e w' => ∃ v, e = .returned v ∧ MxO w' w0.heap.size w'.heap.size v (mxF r c f) ∧ Below w0.heap.size w0 w' := by
  have hu' := hu
  obtain ⟨A, ac, rfl, _⟩ := hu
  rw [rowsF_length] at hu' ⊢
  obtain ⟨W, hW⟩ : ∃ W, W = w0.alloc (.cells #[.int .i64 0, .int .i64 0, .slice none 0 0] 60) := ⟨_, rfl⟩
  have g0 : Below w0.heap.size w0 W := by rw [hW]; exact below_alloc _ _
  have k2 : Blk W w0.heap.size 60 #[.int .i64 0, .int .i64 0, .slice none 0 0] := by rw [hW]; exact Blk.new _ _ _
  have sz : W.heap.size = w0.heap.size + 1 := by rw [hW]; simp
  have hle : r * c ≤ 1000 * 1000 := Nat.mul_le_mul hr hc
  have HLE : Hid ((rowsF r c f).flatten.length ≤ 1000000) := by show _ ≤ _; rw [rowsF_flatten, flat_length]; exact Nat.le_trans hle (by decide)
  have HU := Lib.hid (SlII.next g0 hu')
  have K2 := Lib.hid k2
  have SZ := Lib.hid sz
  clear hu' k2 sz hle
  go_enter Try.func155, Try.ntmps155
  go_wp2_with fail
  rw [← hW]; clear hW
  refine (concat_any _ (rowsF r c f) W HU.out (by rw [rowsF_length]; omega) HLE.out).mono ?_; rintro e wr ⟨v1, rfl, oA, gW⟩
  rw [rowsF_flatten] at oA
  obtain ⟨A1, c1, rfl⟩ := oA.form
  obtain ⟨N, hN⟩ : ∃ N, (flat r c f).length = N := ⟨_, rfl⟩
  rw [hN] at oA ⊢
  clear hN
  have k2 := K2.out.call gW
  have p0 := k2.cell' (i := 0) rfl
  have p1 := k2.cell' (i := 1) rfl
  have p2 := k2.cell' (i := 2) rfl
  have f2 := k2.frozen
  have h2 := chg3 wr w0.heap.size (.int .i64 (r : Int)) (.int .i64 c) (.slice A1 N c1)
  have gw : Below w0.heap.size w0 wr := g0.trans (gW.mono g0.size)
  have gs := gw.size
  have oA2 := (oA.chg h2 (.inr (by have := SZ.out; omega))).wider (lo' := w0.heap.size) (hi' := wr.heap.size) (by have := SZ.out; omega) (Nat.le_refl _)
  have fg := gw.trans (h2.below (Nat.le_refl _) gs)
  have OA2 := Lib.hid oA2
  have FG := Lib.hid fg
  clear oA oA2 fg gw h2 k2 gW
  go_wp2
  exact bodyPost_ret (v := .agg #[.int .i64 (r : Int), .int .i64 c, .slice A1 N c1]) (by simp [results, go_sem, p0, p1, p2]) rfl ⟨_, rfl, ⟨_, rfl, by simpa [mxF] using OA2.out, by simp only [mxF, I64]; omega, by simp only [mxF, I64]; omega⟩, FG.out⟩
set_option maxHeartbeats 3200000 in
set_option maxRecDepth 100000 in
theorem below_any (u v : Value) (c r s : Nat) (f g : Nat → Nat → Int) (w0 : World) (hu : MxR w0 w0.heap.size u (mxF r c f)) (hv : MxR w0 w0.heap.size v (mxF s c g)) (hr : r ≤ 500) (hs : s ≤ 500) (hc : c ≤ 500) :
    Calls Try.prog 110 #[u, v] w0 fun e w' => ∃ v, e = .returned v ∧ MxO w' w0.heap.size w'.heap.size v (mxF (r + s) c (blF r f g)) ∧ Below w0.heap.size w0 w' := by
  have hu' := hu
  have hv' := hv
  obtain ⟨U, uc, rfl⟩ := hu.form
  obtain ⟨V, vc, rfl⟩ := hv.form
  obtain ⟨L, hL⟩ : ∃ L, (mxF r c f).a.length = L := ⟨_, rfl⟩
  obtain ⟨L', hL'⟩ : ∃ L, (mxF s c g).a.length = L := ⟨_, rfl⟩
  have z1 : (mxF r c f).r = (r : Int) := rfl
  have z2 : (mxF r c f).c = (c : Int) := rfl
  have z3 : (mxF s c g).r = (s : Int) := rfl
  have z4 : (mxF s c g).c = (c : Int) := rfl
  rw [hL, z1, z2] at hu' ⊢
  rw [hL', z3, z4] at hv' ⊢
  clear hu hv hL hL' z1 z2 z3 z4
  obtain ⟨W, hW⟩ : ∃ W, W = ((w0.alloc (.cells #[.int .i64 r, .int .i64 c, .slice U L uc] 60)).alloc (.cells #[.int .i64 s, .int .i64 c, .slice V L' vc] 60)).alloc (.cells #[.int .i64 0, .int .i64 0, .slice none 0 0] 60) := ⟨_, rfl⟩
  have g0 : Below w0.heap.size w0 W := by rw [hW]; exact (((Below.refl _ _).alloc (Nat.le_refl _) _).alloc (by simp) _).alloc (by simp; omega) _
  have k1 : Blk W w0.heap.size 60 #[.int .i64 r, .int .i64 c, .slice U L uc] := by rw [hW]; exact ((Blk.new _ _ _).alloc _).alloc _
  have k2 : Blk W (w0.heap.size + 1) 60 #[.int .i64 s, .int .i64 c, .slice V L' vc] := by
    rw [hW]
    have := (Blk.new (w0.alloc (.cells #[.int .i64 r, .int .i64 c, .slice U L uc] 60)) 60 #[.int .i64 s, .int .i64 c, .slice V L' vc]).alloc (.cells #[.int .i64 0, .int .i64 0, .slice none 0 0] 60)
    simpa only [World.size_alloc] using this
  have k3 : Blk W (w0.heap.size + 1 + 1) 60 #[.int .i64 0, .int .i64 0, .slice none 0 0] := by
    rw [hW]
    have := Blk.new ((w0.alloc (.cells #[.int .i64 r, .int .i64 c, .slice U L uc] 60)).alloc (.cells #[.int .i64 s, .int .i64 c, .slice V L' vc] 60)) 60 #[.int .i64 0, .int .i64 0, .slice none 0 0]
    simpa only [World.size_alloc] using this
  have sz : W.heap.size = w0.heap.size + 1 + 1 + 1 := by rw [hW]; simp
  have HU := Lib.hid (MxR.next g0 hu')
  have HV := Lib.hid (MxR.next g0 hv')
  have SZ := Lib.hid sz
  clear sz hu' hv'
  go_enter Try.func110, Try.ntmps110
  go_wp2
  rw [← hW]; clear hW
  refine wp_region_netC (by kernel_rfl) [.eq (.pointer (some ⟨w0.heap.size, 1, none⟩)), .eq (.int .i64 c), .eq (.agg #[.int .i64 r, .int .i64 c, .slice U L uc]), rel 3 (fun u lo hi w => IntssO w lo hi u (rowsF r c f) ∧ W.heap.size ≤ lo ∧ lo ≤ hi), .eq (.agg #[.int .i64 s, .int .i64 c, .slice V L' vc]), .rel (fun x w => IntssO w (x.lo 5) (x.hi 5) (x.v 5) (rowsF s c g) ∧ x.hi 3 ≤ x.lo 5), .rel (fun x w => SlII w w.heap.size (x.v 6) (rowsF (r + s) c (blF r f g))), rel 7 (fun u lo hi w => MxO w lo hi u (mxF (r + s) c (blF r f g)))] [[], [0], [], [2], [], [2, 3, 4], [2, 3, 4, 5], [0, 1, 2, 3, 4, 5, 6], [0, 1, 2, 3, 4, 5, 6, 7]] [[], [0], [], [2], [], [2, 3, 4], [2, 3, 4, 5], [0, 1, 2, 4, 6]] [0, 1, 2, 4, 6, 7] 8 6 (by kernel_rfl) (by kernel_rfl) ⟨.inr (.inr ⟨_, rfl⟩), .inr (.inr ⟨_, rfl⟩), .inr (.inr ⟨_, rfl⟩), .inr (.inr ⟨_, rfl⟩), .inl rfl, .inr (.inl rfl), trivial⟩ ⟨trivial, trivial, trivial, rel_stable (fun u lo hi w w' h hb => ⟨h.1.below hb, h.2⟩), trivial, fun x w w' h hb => ⟨h.1.below hb, h.2⟩, fun x w w' h hb => SlII.next hb h, rel_stable (fun u lo hi w w' h hb => h.below hb), trivial⟩ ⟨?_, ?_, ?_, ?_, ?_, ?_, ?_, ?_, trivial⟩ ?_
  · intro x w hb hk Q' hQ
    clear hk
    simp only [netAct, dstAt, List.getElem?_toArray, List.getElem?_cons_zero, List.getElem?_cons_succ, Option.bind_some, Act.put, List.setIfInBounds_toArray, List.set_cons_zero, List.set_cons_succ] at hQ ⊢
    go_wp2
    exact hQ (.pointer (some ⟨w0.heap.size, 1, none⟩)) _ (Below.refl _ _) rfl
  · intro x w hb hk Q' hQ
    have h0 : x.v 0 = .pointer (some ⟨w0.heap.size, 1, none⟩) := (hk 0 (by decide)).1
    clear hk
    simp only [netAct, dstAt, List.getElem?_toArray, List.getElem?_cons_zero, List.getElem?_cons_succ, Option.bind_some, Act.put, List.setIfInBounds_toArray, List.set_cons_zero, List.set_cons_succ] at hQ ⊢
    simp only [h0] at hQ ⊢
    clear h0
    have z2 := (k1.below hb k1.lt).cell' (i := 1) rfl
    go_wp2
    exact hQ (.int .i64 c) _ (Below.refl _ _) rfl
  · intro x w hb hk Q' hQ
    clear hk
    simp only [netAct, dstAt, List.getElem?_toArray, List.getElem?_cons_zero, List.getElem?_cons_succ, Option.bind_some, Act.put, List.setIfInBounds_toArray, List.set_cons_zero, List.set_cons_succ] at hQ ⊢
    have z0 := (k1.below hb k1.lt).cell' (i := 0) rfl
    have z1 := (k1.below hb k1.lt).cell' (i := 1) rfl
    have z2 := (k1.below hb k1.lt).cell' (i := 2) rfl
    go_wp2
    exact hQ (.agg #[.int .i64 r, .int .i64 c, .slice U L uc]) _ (Below.refl _ _) rfl
  · intro x w hb hk Q' hQ
    have h2 : x.v 2 = .agg #[.int .i64 r, .int .i64 c, .slice U L uc] := (hk 2 (by decide)).1
    clear hk
    simp only [netAct, dstAt, List.getElem?_toArray, List.getElem?_cons_zero, List.getElem?_cons_succ, Option.bind_some, Act.put, List.setIfInBounds_toArray, List.set_cons_zero, List.set_cons_succ] at hQ ⊢
    simp only [h2] at hQ ⊢
    clear h2
    go_wp2_with fail
    refine (rows_any _ r c f _ (MxR.more hb.size (MxR.below hb HU.out)) (by omega) (by omega)).mono ?_; rintro e w5 ⟨v5, rfl, hO5, hb5⟩
    go_wp2
    exact hQ _ _ hb5 ⟨hO5, hb.size, hb5.size⟩
  · intro x w hb hk Q' hQ
    clear hk
    simp only [netAct, dstAt, List.getElem?_toArray, List.getElem?_cons_zero, List.getElem?_cons_succ, Option.bind_some, Act.put, List.setIfInBounds_toArray, List.set_cons_zero, List.set_cons_succ] at hQ ⊢
    have z0 := (k2.below hb k2.lt).cell' (i := 0) rfl
    have z1 := (k2.below hb k2.lt).cell' (i := 1) rfl
    have z2 := (k2.below hb k2.lt).cell' (i := 2) rfl
    go_wp2
    exact hQ (.agg #[.int .i64 s, .int .i64 c, .slice V L' vc]) _ (Below.refl _ _) rfl
  · intro x w hb hk Q' hQ
    have h2 : x.v 2 = .agg #[.int .i64 r, .int .i64 c, .slice U L uc] := (hk 2 (by decide)).1
    have h3 : IntssO w (x.lo 3) (x.hi 3) (x.v 3) (rowsF r c f) ∧ W.heap.size ≤ (x.lo 3) ∧ (x.lo 3) ≤ (x.hi 3) := (hk 3 (by decide)).1
    have h4 : x.v 4 = .agg #[.int .i64 s, .int .i64 c, .slice V L' vc] := (hk 4 (by decide)).1
    have s3 := (hk 3 (by decide)).2
    clear hk
    simp only [netAct, dstAt, List.getElem?_toArray, List.getElem?_cons_zero, List.getElem?_cons_succ, Option.bind_some, Act.put, List.setIfInBounds_toArray, List.set_cons_zero, List.set_cons_succ] at hQ ⊢
    simp only [h2, h4] at hQ ⊢
    clear h2 h4
    go_wp2_with fail
    refine (rows_any _ s c g _ (MxR.more hb.size (MxR.below hb HV.out)) (by omega) (by omega)).mono ?_; rintro e w5 ⟨v5, rfl, hO5, hb5⟩
    go_wp2
    exact hQ _ _ hb5 ⟨hO5, s3⟩
  · intro x w hb hk Q' hQ
    have h2 : x.v 2 = .agg #[.int .i64 r, .int .i64 c, .slice U L uc] := (hk 2 (by decide)).1
    have h3 : IntssO w (x.lo 3) (x.hi 3) (x.v 3) (rowsF r c f) ∧ W.heap.size ≤ (x.lo 3) ∧ (x.lo 3) ≤ (x.hi 3) := (hk 3 (by decide)).1
    have h4 : x.v 4 = .agg #[.int .i64 s, .int .i64 c, .slice V L' vc] := (hk 4 (by decide)).1
    have h5 : IntssO w (x.lo 5) (x.hi 5) (x.v 5) (rowsF s c g) ∧ x.hi 3 ≤ x.lo 5 := (hk 5 (by decide)).1
    have s3 := (hk 3 (by decide)).2
    have s5 := (hk 5 (by decide)).2
    clear hk
    simp only [netAct, dstAt, List.getElem?_toArray, List.getElem?_cons_zero, List.getElem?_cons_succ, Option.bind_some, Act.put, List.setIfInBounds_toArray, List.set_cons_zero, List.set_cons_succ] at hQ ⊢
    simp only [h2, h4] at hQ ⊢
    clear h2 h4
    obtain ⟨h3, l3, l3'⟩ := h3
    obtain ⟨h5, l5⟩ := h5
    have HA := Lib.hid h3
    have HB := Lib.hid h5
    clear h3 h5
    (go_wp2_with (at_builtin; refine Hold.stop ?_)); unfold Hold
    refine wpList_appSS rfl (.tmp 8) (.tmp 10) rfl _ _ _ _ _ _ _ _ rfl HA.out rfl HB.out (.inl l5) (by rw [rowsF_length, rowsF_length]; omega) (by omega) s3 ?_
    intro v' w' hv' hb'
    rw [rowsF_app] at hv'
    go_wp2
    exact hQ v' w' (hb'.mono l3) hv'
  · intro x w hb hk Q' hQ
    have h0 : x.v 0 = .pointer (some ⟨w0.heap.size, 1, none⟩) := (hk 0 (by decide)).1
    have h1 : x.v 1 = .int .i64 c := (hk 1 (by decide)).1
    have h2 : x.v 2 = .agg #[.int .i64 r, .int .i64 c, .slice U L uc] := (hk 2 (by decide)).1
    have h4 : x.v 4 = .agg #[.int .i64 s, .int .i64 c, .slice V L' vc] := (hk 4 (by decide)).1
    have h6 : SlII w w.heap.size (x.v 6) (rowsF (r + s) c (blF r f g)) := (hk 6 (by decide)).1
    have s6 := (hk 6 (by decide)).2
    clear hk
    simp only [netAct, dstAt, List.getElem?_toArray, List.getElem?_cons_zero, List.getElem?_cons_succ, Option.bind_some, Act.put, List.setIfInBounds_toArray, List.set_cons_zero, List.set_cons_succ] at hQ ⊢
    simp only [h0, h1, h2, h4] at hQ ⊢
    clear h0 h1 h2 h4
    have h6' := Lib.hid h6
    obtain ⟨A6, c6, e6, _⟩ := h6
    rw [e6] at h6' hQ ⊢
    go_wp2_with fail
    refine (fromRows_any _ c (r + s) (blF r f g) _ h6'.out (by omega) (by omega)).mono ?_; rintro e w5 ⟨v5, rfl, hO5, hb5⟩
    go_wp2
    exact hQ _ _ hb5 hO5
  · intro x w hb hk hiv hdj
    have h0 : x.v 0 = .pointer (some ⟨w0.heap.size, 1, none⟩) := hk 0 (by decide) (by decide)
    have h1 : x.v 1 = .int .i64 c := hk 1 (by decide) (by decide)
    have h2 : x.v 2 = .agg #[.int .i64 r, .int .i64 c, .slice U L uc] := hk 2 (by decide) (by decide)
    have h4 : x.v 4 = .agg #[.int .i64 s, .int .i64 c, .slice V L' vc] := hk 4 (by decide) (by decide)
    have h6 : SlII w w.heap.size (x.v 6) (rowsF (r + s) c (blF r f g)) := hk 6 (by decide) (by decide)
    have h7 : MxO w (x.lo 7) (x.hi 7) (x.v 7) (mxF (r + s) c (blF r f g)) := hk 7 (by decide) (by decide)
    clear hk
    simp only [netAct, dstAt, List.getElem?_toArray, List.getElem?_cons_zero, List.getElem?_cons_succ, Option.bind_some, Act.put, List.setIfInBounds_toArray, List.set_cons_zero, List.set_cons_succ]
    simp only [List.drop_succ_cons, List.drop_zero, h0, h1, h2, h4]
    clear h0 h1 h2 h4
    have sz := SZ.out
    have kR := k3.below hb k3.lt
    obtain ⟨l7, _, l7h⟩ := hiv 7 (by decide)
    obtain ⟨A7, c7, e7⟩ := h7.form
    simp only [mxF] at e7
    rw [e7] at h7 ⊢
    clear hiv hdj e7 h6
    obtain ⟨N, hN⟩ : ∃ N, (flat (r + s) c (blF r f g)).length = N := ⟨_, rfl⟩
    rw [hN] at h7 ⊢
    have p0 := kR.cell' (i := 0) rfl
    have p1 := kR.cell' (i := 1) rfl
    have p2 := kR.cell' (i := 2) rfl
    have fr := kR.frozen
    have gX := g0.trans (hb.mono g0.size)
    have gXs := gX.size
    have hbs := hb.size
    have h2 := chg3 w (w0.heap.size + 1 + 1) (.int .i64 ((r + s : Nat) : Int)) (.int .i64 (c : Int)) (.slice A7 N c7)
    have OF := Lib.hid ((h7.chg h2 (.inr (by omega))).wider (lo' := w0.heap.size) (hi' := w.heap.size) (by omega) (by omega))
    have GF := Lib.hid (gX.trans (h2.below (by omega) gXs))
    have e8 : ((r + s : Nat) : Int) = (r : Int) + s := by simp
    rw [e8] at OF GF
    clear h7 h2 gX kR hN sz gXs hbs l7 l7h hb k1 k2 k3 e8
    go_wp2
    exact bodyPost_ret (v := .agg #[.int .i64 ((r : Int) + s), .int .i64 c, .slice A7 N c7]) (by simp [results, go_sem, p0, p1, p2]) rfl ⟨_, rfl, OF.out.wider (Nat.le_refl _) (by simp), GF.out⟩
end Go.Proofs.Ytbgjhnolnccnnaa
