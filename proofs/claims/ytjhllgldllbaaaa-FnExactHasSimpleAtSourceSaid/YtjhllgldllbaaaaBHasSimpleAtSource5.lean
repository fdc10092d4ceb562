/- FnExactHasSimpleAtSource: for every argument the program's function returns what the reference's returns. Part 5 of 8 of the proof: ColZ, FromC, Tran, NetC, Besd, Conc, Order, Num, Src. No condition. -/
import Derived.Test.YtjhllgldllbaaaaBHasSimpleAtSource4
import Derived.Shelf.Spec.SlicesGrow
/- Columns of a matrix of the program, as lists; the matrix of some columns. -/
namespace Go.Proofs.Ytjhllgldllbaaaa
set_option linter.unusedVariables false
set_option linter.unusedSimpArgs false
open Go.RowKit

def colK (k : Nat) (f : Nat → Nat → Int) (j i : Nat) : Int := if i < j then f i k else 0
theorem colK_0 (r k : Nat) (f : Nat → Nat → Int) : List.replicate r 0 = rowF r (colK k f 0) := by
  apply List.ext_getElem?
  intro i
  by_cases h : i < r
  · rw [rowF_get _ h]; simp [h, colK]
  · rw [List.getElem?_eq_none (by simp; omega), List.getElem?_eq_none (by rw [rowF_length]; omega)]
theorem colK_succ {r k j : Nat} (f : Nat → Nat → Int) (h : j < r) : (rowF r (colK k f j)).set j (f j k) = rowF r (colK k f (j + 1)) := by
  rw [rowF_set]
  refine rowF_congr fun i _ => ?_
  simp only [colK]
  (repeat' split) <;> first | rfl | omega | (subst_vars; rfl)
theorem colK_r (r k : Nat) (f : Nat → Nat → Int) : rowF r (colK k f r) = rowF r (fun i => f i k) := rowF_congr fun i h => by simp [colK, h]

set_option maxHeartbeats 1600000 in
theorem column_any (u : Value) (r c k : Nat) (f : Nat → Nat → Int) (w0 : World) (hu : MxR w0 w0.heap.size u (mxF r c f)) (hr : r ≤ 1000) (hc : c ≤ 1000) (hk : k < c) :
    Calls Try.prog 217 #[u, .int .i64 k] w0 fun e w' => ∃ v, e = .returned v ∧ IntsO w' w0.heap.size w'.heap.size v (rowF r (fun i => f i k)) ∧ Below w0.heap.size w0 w' := by
  obtain ⟨A, cap, rfl, hs, i1, i2, hl⟩ := hu.open_
  clear hu
  simp only [mxF] at hs hl i1 i2 ⊢
  obtain ⟨W, hW⟩ : ∃ W, W = (w0.alloc (.cells #[.int .i64 r, .int .i64 c, .slice A (flat r c f).length cap] 75)).alloc (.cells (mkCells (.int .i64 0) r) 3) := ⟨_, rfl⟩
  have g0 : Below w0.heap.size w0 W := by rw [hW]; exact ((Below.refl _ _).alloc (Nat.le_refl _) _).alloc (by simp) _
  have kB : Blk W w0.heap.size 75 #[.int .i64 r, .int .i64 c, .slice A (flat r c f).length cap] := by rw [hW]; exact (Blk.new _ _ _).alloc _
  have sz : W.heap.size = w0.heap.size + 1 + 1 := by rw [hW]; simp
  have ho : IntsO W (w0.heap.size + 1) W.heap.size (.slice (some ⟨w0.heap.size + 1, 0, none⟩) r r) (List.replicate r 0) := by
    rw [hW]
    have := OwnI.made0 (w := w0.alloc (.cells #[.int .i64 r, .int .i64 c, .slice A (flat r c f).length cap] 75)) (base := w0.heap.size + 1) (N := r) (by simp) (by omega)
    exact IntsO.of_own (by simpa only [World.size_alloc] using this)
  rw [colK_0 r k f] at ho
  obtain ⟨L, hL⟩ : ∃ L, (flat r c f).length = L := ⟨_, rfl⟩
  have HS := Lib.hid hs
  have HL := Lib.hid hL
  rw [hL] at hl kB hW ⊢
  have SZ := Lib.hid sz
  obtain ⟨i0, hi, hz0, hz1, hz2⟩ := info_parts infoInt
  have hmk := run_mk (P := Try.prog) Try.underlying22 hi hz0 (n := r) (by rw [hz2]; omega) (by omega)
  rw [hz1] at hmk
  rw [Nat.mul_one] at hmk
  clear hi hz0 hz1 hz2 hL hs sz
  go_enter Try.func217, Try.ntmps217
  go_wp2
  rw [← hW]
  clear hW hmk
  go_loopw [12] (fun i wr => ∃ j : Nat, j ≤ r ∧ i = .int .i64 j ∧ Below w0.heap.size w0 wr ∧ Blk wr w0.heap.size 75 #[.int .i64 r, .int .i64 c, .slice A L cap] ∧ IntsO wr (w0.heap.size + 1) W.heap.size (.slice (some ⟨w0.heap.size + 1, 0, none⟩) r r) (rowF r (colK k f j))) (fun i _ => r - (intOf i).toNat)
  case atStart => exact ⟨0, Nat.zero_le _, rfl, g0, kB, ho⟩
  case round =>
    clear g0 kB ho
    obtain ⟨j, hj, rfl, hbel, kB, ho⟩ := hrel
    by_cases hlt : j < r
    · obtain ⟨P, J, hP, hPJ, hJ, hJN, hJb⟩ := ix_walk hlt hk hr hc
      have hs := HS.out
      obtain ⟨b, o, x, rfl, hb, HX, x1, _⟩ := SlI.at_ (k := P + k) hs (by rw [flat_length]; omega)
      have hx := HX.out
      rw [hPJ, hJ, flat_get f hlt hk] at hx
      injection hx with hx
      subst hx
      rw [← flat_length r c f, HL.out] at hJN
      have hPl : P + k < L := by omega
      have c1 := kB.cell' (i := 1) rfl
      have c2 := kB.cell' (i := 2) rfl
      have d1 := bcell hbel hb x1
      have d2 : wr.cell? ⟨b, o + P + k, none⟩ = some (.int .i64 (f j k)) := by rw [Nat.add_assoc]; exact d1
      have cA := (ho.1.cellG (j := j) (by rw [rowF_length]; exact hlt)).1
      have fA := ho.1.frozenG j
      have hxr := SlI.i64 hs (f j k) (List.mem_of_getElem? (flat_get f hlt hk))
      have hc1 : Chg (w0.heap.size + 1) W.heap.size wr (wr.setCell ⟨w0.heap.size + 1, j, none⟩ (.int .i64 (f j k))) := chg_set (Nat.le_refl _) (by have := SZ.out; simp; omega)
      have ho2 := ho.put (j := j) (x := f j k) hxr
      rw [colK_succ f hlt] at ho2
      have HO2 := Lib.hid ho2
      have KB := Lib.hid (kB.chg hc1 (by omega))
      have HB := Lib.hid (hbel.trans (hc1.below (by omega) hbel.size))
      clear hs HX hJ hPJ hJN x1 ho ho2 kB hbel hc1 hb
      go_wp2
      go_roundw
      case rel => exact ⟨j + 1, by omega, by go_num, HB.out, KB.out, HO2.out⟩
      case measure => simp [intOf]; omega
    · obtain rfl : j = r := by omega
      rw [colK_r] at ho
      go_wp2
      go_ret
      have h3 : w0.heap.size + 1 < wr.heap.size := (ho.1.lt _ rfl).2
      have h4 := SZ.out
      exact ⟨_, rfl, ho.wider (by omega) (by omega), hbel⟩
set_option maxHeartbeats 1600000 in
theorem columns_any (u : Value) (r c : Nat) (f : Nat → Nat → Int) (w0 : World) (hu : MxR w0 w0.heap.size u (mxF r c f)) (hr : r ≤ 1000) (hc : c ≤ 1000) :
    Calls Try.prog 198 #[u] w0 fun e w' => ∃ v, e = .returned v ∧ IntssO w' w0.heap.size w'.heap.size v (rowsF c r (fun a b => f b a)) ∧ Below w0.heap.size w0 w' := by
  have hu' := hu
  obtain ⟨A, cap, rfl, hs, i1, i2, hl⟩ := hu.open_
  clear hu
  simp only [mxF] at hs hl i1 i2 ⊢
  obtain ⟨W, hW⟩ : ∃ W, W = w0.alloc (.cells #[.int .i64 r, .int .i64 c, .slice A (flat r c f).length cap] 75) := ⟨_, rfl⟩
  have g0 : Below w0.heap.size w0 W := by rw [hW]; exact below_alloc _ _
  have kB : Blk W w0.heap.size 75 #[.int .i64 r, .int .i64 c, .slice A (flat r c f).length cap] := by rw [hW]; exact Blk.new _ _ _
  obtain ⟨L, hL⟩ : ∃ L, (flat r c f).length = L := ⟨_, rfl⟩
  simp only [mxF] at hu'
  rw [hL] at hu' hs hl kB hW ⊢
  clear hL
  have c0 := kB.cell' (i := 0) rfl
  have c1 := kB.cell' (i := 1) rfl
  have c2 := kB.cell' (i := 2) rfl
  have HU := Lib.hid (MxR.next g0 hu')
  have sz : w0.heap.size < W.heap.size := kB.lt
  go_enter Try.func198, Try.ntmps198
  go_wp2
  rw [← hW]
  clear hW
  go_loopw [3, 7] (fun out i wr => ∃ (k : Nat) (vs : List Value), k ≤ c ∧ i = .int .i64 k ∧ Below W.heap.size W wr ∧ OutO wr W.heap.size wr.heap.size out vs ∧ vs.length = k ∧ Fam wr W.heap.size wr.heap.size (vs.zip (rowsF k r (fun a b => f b a)))) (fun _ i _ => c - (intOf i).toNat)
  case atStart => exact ⟨0, [], Nat.zero_le _, rfl, Below.refl _ _, ⟨World.ownsRow_nil _ _ _ _, by simp [Value.ownBlock], by simp⟩, rfl, ⟨fun p hp => by simp at hp, by simp⟩⟩
  case round =>
    clear c0 c1 c2
    obtain ⟨k, vs, hk, rfl, hbel, hO, hvl, hF⟩ := hrel
    have kB2 := kB.call hbel
    have c0 := kB2.cell' (i := 0) rfl
    have c1 := kB2.cell' (i := 1) rfl
    have c2 := kB2.cell' (i := 2) rfl
    have HVL := Lib.hid hvl
    clear hvl
    by_cases hlt : k < c
    · have HUR := Lib.hid (MxR.more hbel.size (MxR.below hbel HU.out))
      have hws := hbel.size
      obtain ⟨OA, oc, rfl, _, _⟩ := hO.form
      have HO := Lib.hid hO
      have HF := Lib.hid hF
      clear hO hF
      go_wp2_with fail
      refine (column_any _ r c k f _ HUR.out hr hc hlt).mono ?_; rintro e w1 ⟨v1, rfl, hv1, hb1⟩
      obtain ⟨wC, ewC⟩ : ∃ x, x = w1 := ⟨_, rfl⟩
      subst ewC
      have hI := hv1
      have hbC := hb1
      have hlo := Nat.le_refl wr.heap.size
      obtain ⟨VA, vc, ev⟩ := hI.form
      rw [rowF_length] at ev
      subst ev
      have hO2 := HO.out.below hbC
      have hF2 := HF.out.below hbC
      have hbs := hbC.size
      have HI := Lib.hid hI
      have HO2 := Lib.hid hO2
      have HF2 := Lib.hid hF2
      have HBC := Lib.hid hbC
      clear hI hO2 hF2 hbC hb1 hv1
      (go_wp2_with (at_builtin; refine Hold.stop ?_)); unfold Hold
      obtain ⟨X, hX⟩ : ∃ X, X = wC.alloc (.cells #[.slice VA r vc] 22) := ⟨_, rfl⟩
      have gn : Below wC.heap.size wC X := by rw [hX]; exact below_alloc _ _
      have kn : Blk X wC.heap.size 22 #[.slice VA r vc] := by rw [hX]; exact Blk.new _ _ _
      have hO3 := HO2.out.below gn
      have hF3 := (HF2.out.snoc (HI.out.wider (lo' := wr.heap.size) hlo (Nat.le_refl _)) hws (by omega)).below gn
      have hXs := gn.size
      rw [← hX]
      clear hX
      refine wpList_appS rfl (.tmp 10) (.tmp 14) rfl W.heap.size (.slice OA vs.length oc) vs rfl hO3.1 _ _ (.slice VA r vc) rfl ⟨wC.heap.size, 0, rfl, kn.cell' (i := 0) rfl⟩ rfl (by have := HVL.out; omega) (by omega) ?_
      intro v' w' hn' hg' hv'
      have hbg : Below W.heap.size X w' := below_grown hg' (fun k hk => (hO3.1.lt k hk).1) (by omega)
      have hbt := (hbel.trans ((HBC.out).mono hws)).trans ((gn.mono (by omega)).trans hbg)
      have hF4 := Fam.grownO hF3 hO3.1 hg'
      have hws' := hbg.size
      have hO4 : OutO w' W.heap.size w'.heap.size v' (vs ++ [.slice VA r vc]) := ⟨hn', fun k hk => (hn'.lt k hk).2, by simp; have := HVL.out; omega⟩
      have HF4 := Lib.hid hF4
      have HO4 := Lib.hid hO4
      have HBT := Lib.hid hbt
      clear hn' hg' hv' hbg hbt hF4 hO4 hO3 hF3 kn gn
      go_wp2
      go_roundw
      case rel =>
        refine ⟨k + 1, vs ++ [.slice VA r vc], by omega, by go_num, HBT.out, HO4.out, by simp [HVL.out], ?_⟩
        have := HF4.out.mono (Nat.le_refl _) (show wC.heap.size ≤ w'.heap.size by omega)
        have e : (vs ++ [Value.slice VA r vc]).zip (rowsF (k + 1) r (fun a b => f b a)) = vs.zip (rowsF k r (fun a b => f b a)) ++ [(Value.slice VA r vc, rowF r (fun i => f i k))] := by
          rw [rowsF_succ, List.zip_append (by rw [HVL.out, rowsF_length])]; rfl
        rw [e]
        exact this
      case measure => simp [intOf]; omega
    · obtain rfl : k = c := by omega
      have hO' := hO
      have hF' := hF
      go_wp2
      go_ret
      exact ⟨_, rfl, ⟨vs, hO'.mono (by omega) (Nat.le_refl _), by rw [HVL.out, rowsF_length], hF'.mono (by omega) (Nat.le_refl _)⟩, g0.trans (hbel.mono (by omega))⟩
end Go.Proofs.Ytjhllgldllbaaaa

/- The matrix of some columns; the reference's transposed matrix. -/
namespace Go.Proofs.Ytjhllgldllbaaaa
set_option linter.unusedVariables false
set_option linter.unusedSimpArgs false
open Go.RowKit

def fcK (f : Nat → Nat → Int) (k i a b : Nat) : Int := if b < k ∨ (b = k ∧ a < i) then f a b else 0
theorem fcK_0 (R K : Nat) (f : Nat → Nat → Int) : flat R K (fun _ _ => 0) = flat R K (fcK f 0 0) := flat_congr fun a b _ _ => by simp [fcK]
theorem fcK_put {R K k i : Nat} (f : Nat → Nat → Int) (hi : i < R) (hk : k < K) : (flat R K (fcK f k i)).set (i * K + k) (f i k) = flat R K (fcK f k (i + 1)) := by
  rw [flat_set _ _ hi hk]
  refine flat_congr fun a b _ _ => ?_
  simp only [fcK]
  (repeat' split) <;> first | rfl | omega | (rename_i h _; rw [h.1, h.2])
theorem fcK_next (R K k : Nat) (f : Nat → Nat → Int) : flat R K (fcK f k R) = flat R K (fcK f (k + 1) 0) := by
  refine flat_congr fun a b ha _ => ?_
  simp only [fcK]
  (repeat' split) <;> first | rfl | omega
theorem fcK_K (R K : Nat) (f : Nat → Nat → Int) : flat R K (fcK f K 0) = flat R K f := flat_congr fun a b _ hb => by simp [fcK, hb]

set_option maxHeartbeats 1600000 in
theorem fromColumns_any (u : Value) (R K : Nat) (f : Nat → Nat → Int) (w : World) (hu : SlII w w.heap.size u (rowsF K R (fun a b => f b a))) (hR : R ≤ 1000) (hK : K ≤ 1000) :
    Calls Try.prog 197 #[.int .i64 R, u] w fun e w' => ∃ v, e = .returned v ∧ MxO w' w.heap.size w'.heap.size v (mxF R K f) ∧ Below w.heap.size w w' := by
  obtain ⟨U, uc, rfl, _, _, hul, hx⟩ := hu.open_
  clear hu
  have HX := Lib.hid hx
  rw [rowsF_length] at hul ⊢
  obtain ⟨W, hW⟩ : ∃ W, W = w.alloc (.cells #[.int .i64 0, .int .i64 0, .slice none 0 0] 75) := ⟨_, rfl⟩
  have g0 : Below w.heap.size w W := by rw [hW]; exact below_alloc _ _
  have k2 : Blk W w.heap.size 75 #[.int .i64 0, .int .i64 0, .slice none 0 0] := by rw [hW]; exact Blk.new _ _ _
  have sz : W.heap.size = w.heap.size + 1 := by rw [hW]; simp
  have K2 := Lib.hid k2
  have SZ := Lib.hid sz
  clear k2 sz hx
  go_enter Try.func197, Try.ntmps197
  go_wp2_with fail
  rw [← hW]; clear hW
  refine (zero_any (R : Int) K W (by omega) (by omega) (by omega) (by omega)).mono ?_; rintro e w1 ⟨v1, rfl, ⟨sA, rfl, oA, hr, hc⟩, hb1⟩
  rw [zmx_flat] at oA hr hc ⊢
  simp only [mxF] at oA hr hc ⊢
  rw [fcK_0 R K f] at oA
  obtain ⟨A1, c1, e1⟩ := oA.form
  obtain ⟨N, hN⟩ : ∃ N, R * K = N := ⟨_, rfl⟩
  rw [flat_length, hN] at e1
  subst e1
  have HN := Lib.hid hN
  clear hN
  have s1 := hb1.size
  obtain ⟨W4, hW4⟩ : ∃ W4, W4 = w1.alloc (.cells #[.int .i64 R, .int .i64 K, .slice A1 N c1] 75) := ⟨_, rfl⟩
  have b4 : Below w1.heap.size w1 W4 := by rw [hW4]; exact below_alloc _ _
  have k4 : Blk W4 w1.heap.size 75 #[.int .i64 R, .int .i64 K, .slice A1 N c1] := by rw [hW4]; exact Blk.new _ _ _
  have oA := oA.below b4
  have gW := bthen hb1 b4
  clear b4 hb1
  go_wp2
  rw [← hW4]; clear hW4
  go_loopw [16] (fun i wr => ∃ k : Nat, k ≤ K ∧ i = .int .i64 k ∧ Blk wr w1.heap.size 75 #[.int .i64 R, .int .i64 K, .slice A1 N c1] ∧ IntsO wr W.heap.size w1.heap.size (.slice A1 N c1) (flat R K (fcK f k 0)) ∧ Below W.heap.size W wr) (fun i _ => K - (intOf i).toNat)
  case atStart => exact ⟨0, Nat.zero_le _, rfl, k4, oA, gW⟩
  case round =>
    clear k4 oA gW
    obtain ⟨k, hk, rfl, k4, oA, gW⟩ := hrel
    have s6 := gW.size
    by_cases hlt : k < K
    · have hx := HX.out
      rw [← rowsF_length K R (fun a b => f b a)] at hlt
      obtain ⟨b, o, l, LA, lc, rfl, hb, HL, x1, hl⟩ := SlII.at_ hx hlt
      rw [rowsF_length] at hlt
      have hl' := HL.out
      rw [rowsF_get _ hlt] at hl'
      injection hl' with hl'
      subst hl'
      rw [rowF_length] at x1
      have gww : Below w.heap.size w wr := g0.trans (gW.mono g0.size)
      have x2 := bcell gww hb x1
      have HLC := Lib.hid hl
      clear hx HL x1 hl
      go_wp2
      go_loopw [23] (fun i wr => ∃ j : Nat, j ≤ R ∧ i = .int .i64 j ∧ Blk wr w1.heap.size 75 #[.int .i64 R, .int .i64 K, .slice A1 N c1] ∧ IntsO wr W.heap.size w1.heap.size (.slice A1 N c1) (flat R K (fcK f k j)) ∧ Below W.heap.size W wr) (fun i _ => R - (intOf i).toNat)
      case atStart => exact ⟨0, Nat.zero_le _, rfl, k4, oA, gW⟩
      case round =>
        clear k4 oA gW s6 x2 gww
        obtain ⟨j, hj, rfl, k4, oA, gW⟩ := hrel
        have s6 := gW.size
        by_cases hlj : j < R
        · obtain ⟨P, J, hP, hPJ, hJ, hJN, hJb⟩ := ix_walk hlj hlt hR hK
          rw [HN.out] at hJN
          have hst := fcK_put f hlj hlt
          rw [← hJ] at hst
          subst hPJ
          have hl := HLC.out
          rw [← rowF_length R (fun b => f b k)] at hlj
          obtain ⟨b2, o2, x, rfl, hb2, HX2, x1, xr⟩ := SlI.at_ hl hlj
          rw [rowF_length] at hlj
          have hx2 := HX2.out
          rw [rowF_get _ hlj] at hx2
          injection hx2 with hx2
          subst hx2
          have gww : Below w.heap.size w wr := g0.trans (gW.mono g0.size)
          have x2 := bcell gww hb2 x1
          obtain ⟨gA, cA, eA, a1, a2, a3⟩ := oA.at_ (by rw [flat_length, HN.out]; omega)
          rw [flat_length, HN.out] at eA
          injection eA with eA1 eA2 eA3
          subst eA1 eA3
          have r1 := k4.cell' (i := 1) rfl
          have r2 := k4.cell' (i := 2) rfl
          have fA := oA.1.frozenG (P + k)
          have cA := (oA.1.cellG (j := P + k) (by rw [flat_length, HN.out]; omega)).1
          have hc1 : Chg W.heap.size w1.heap.size wr (wr.setCell ⟨gA, P + k, none⟩ (.int .i64 (f j k))) := chg_set a1 a2
          have oA2 := oA.put (j := P + k) (x := f j k) xr
          rw [hst] at oA2
          have OA2 := Lib.hid oA2
          have K4 := Lib.hid (k4.chg hc1 (by omega))
          have GW := Lib.hid (gW.trans (hc1.below (Nat.le_refl _) s6))
          clear oA2 k4 oA gW hc1 hst hJ hl HX2 x1 gww hb2
          go_wp2
          go_roundw
          case rel => exact ⟨j + 1, by omega, by go_num, K4.out, OA2.out, GW.out⟩
          case measure => simp [intOf]; omega
        · obtain rfl : j = R := by omega
          rw [fcK_next] at oA
          have OA := Lib.hid oA
          have K4 := Lib.hid k4
          have GW := Lib.hid gW
          clear oA k4 gW
          go_wp2
          go_roundw
          case rel => exact ⟨k + 1, by omega, by go_num, K4.out, OA.out, GW.out⟩
          case measure => simp [intOf]; omega
    · obtain rfl : k = K := by omega
      rw [fcK_K] at oA
      have k2 := K2.out.below gW (by have := SZ.out; omega)
      have z0 := k4.cell' (i := 0) rfl
      have z1 := k4.cell' (i := 1) rfl
      have z2 := k4.cell' (i := 2) rfl
      have p0 := k2.cell' (i := 0) rfl
      have p1 := k2.cell' (i := 1) rfl
      have p2 := k2.cell' (i := 2) rfl
      have f2 := k2.frozen
      have h2 := chg3 wr w.heap.size (.int .i64 (R : Int)) (.int .i64 k) (.slice A1 N c1)
      have gw : Below w.heap.size w wr := g0.trans (gW.mono g0.size)
      have gs := gw.size
      have oA2 := (oA.chg h2 (.inr (by have := SZ.out; omega))).wider (lo' := w.heap.size) (hi' := wr.heap.size) (by have := SZ.out; omega) (by have := k4.lt; omega)
      have fg := gw.trans (h2.below (Nat.le_refl _) gs)
      have OA2 := Lib.hid oA2
      have FG := Lib.hid fg
      clear oA oA2 fg gw h2 k2 k4 gW
      go_wp2
      exact bodyPost_ret (v := .agg #[.int .i64 (R : Int), .int .i64 k, .slice A1 N c1]) (by simp [results, go_sem, p0, p1, p2]) rfl ⟨_, rfl, ⟨_, rfl, by simpa [mxF] using OA2.out, by simp only [mxF, I64]; omega, by simp only [mxF, I64]; omega⟩, FG.out⟩
end Go.Proofs.Ytjhllgldllbaaaa

/- The reference's transposed matrix. -/
namespace Go.Proofs.Ytjhllgldllbaaaa
set_option linter.unusedVariables false
set_option linter.unusedSimpArgs false
open Go.RowKit

/-- cells of the transposed matrix, filled row by row of the given one -/
def trK (f : Nat → Nat → Int) (i k a b : Nat) : Int := if b < i ∨ (b = i ∧ a < k) then f b a else 0
theorem trK_0 (r c : Nat) (f : Nat → Nat → Int) : flat c r (fun _ _ => 0) = flat c r (trK f 0 0) := flat_congr fun a b _ _ => by simp [trK]
theorem trK_put {r c i k : Nat} (f : Nat → Nat → Int) (hi : i < r) (hk : k < c) : (flat c r (trK f i k)).set (k * r + i) (f i k) = flat c r (trK f i (k + 1)) := by
  rw [flat_set _ _ hk hi]
  refine flat_congr fun a b _ _ => ?_
  simp only [trK]
  (repeat' split) <;> first | rfl | omega | (rename_i h _; rw [h.1, h.2])
theorem trK_next (r c i : Nat) (f : Nat → Nat → Int) : flat c r (trK f i c) = flat c r (trK f (i + 1) 0) := by
  refine flat_congr fun a b ha _ => ?_
  simp only [trK]
  (repeat' split) <;> first | rfl | omega
theorem trK_r (r c : Nat) (f : Nat → Nat → Int) : flat c r (trK f r 0) = flat c r (fun a b => f b a) := flat_congr fun a b _ hb => by simp [trK, hb]

set_option maxHeartbeats 3200000 in
theorem l3Transpose_any (u : Value) (r c : Nat) (f : Nat → Nat → Int) (w0 : World) (hu : MxR w0 w0.heap.size u (mxF r c f)) (hr : r ≤ 1000) (hc : c ≤ 1000) :
    Calls Try.prog 196 #[u] w0 fun e w' => ∃ v, e = .returned v ∧ MxO w' w0.heap.size w'.heap.size v (mxF c r (fun a b => f b a)) ∧ Below w0.heap.size w0 w' := by
  obtain ⟨U, uc, rfl, hs, i1, i2, hl⟩ := hu.open_
  clear hu
  simp only [mxF] at hs hl i1 i2 ⊢
  have HS := Lib.hid hs
  obtain ⟨L, hL⟩ : ∃ L, (flat r c f).length = L := ⟨_, rfl⟩
  have HL := Lib.hid hL
  rw [hL] at hl ⊢
  obtain ⟨W, hW⟩ : ∃ W, W = (w0.alloc (.cells #[.int .i64 r, .int .i64 c, .slice U L uc] 75)).alloc (.cells #[.int .i64 0, .int .i64 0, .slice none 0 0] 75) := ⟨_, rfl⟩
  have g0 : Below w0.heap.size w0 W := by rw [hW]; exact ((Below.refl _ _).alloc (Nat.le_refl _) _).alloc (by simp) _
  have k1 : Blk W w0.heap.size 75 #[.int .i64 r, .int .i64 c, .slice U L uc] := by rw [hW]; exact (Blk.new _ _ _).alloc _
  have k2 : Blk W (w0.heap.size + 1) 75 #[.int .i64 0, .int .i64 0, .slice none 0 0] := by
    rw [hW]
    have := Blk.new (w0.alloc (.cells #[.int .i64 r, .int .i64 c, .slice U L uc] 75)) 75 #[.int .i64 0, .int .i64 0, .slice none 0 0]
    simpa only [World.size_alloc] using this
  have sz : W.heap.size = w0.heap.size + 1 + 1 := by rw [hW]; simp
  have K1 := Lib.hid k1
  have K2 := Lib.hid k2
  have SZ := Lib.hid sz
  have q0 := k1.cell' (i := 0) rfl
  have q1 := k1.cell' (i := 1) rfl
  clear k1 k2 sz hs hL
  go_enter Try.func196, Try.ntmps196
  go_wp2_with fail
  rw [← hW]; clear hW
  refine (l3Zero_any (c : Int) r W (by omega) (by omega) (by omega) (by omega)).mono ?_; rintro e w1 ⟨v1, rfl, ⟨sA, rfl, oA, hr2, hc2⟩, hb1⟩
  rw [zmx_flat] at oA hr2 hc2 ⊢
  simp only [mxF] at oA hr2 hc2 ⊢
  rw [trK_0 r c f] at oA
  obtain ⟨A1, c1, e1⟩ := oA.form
  obtain ⟨N, hN⟩ : ∃ N, c * r = N := ⟨_, rfl⟩
  rw [flat_length, hN] at e1
  subst e1
  have HN := Lib.hid hN
  clear hN q0 q1
  have s1 := hb1.size
  obtain ⟨W4, hW4⟩ : ∃ W4, W4 = w1.alloc (.cells #[.int .i64 c, .int .i64 r, .slice A1 N c1] 75) := ⟨_, rfl⟩
  have b4 : Below w1.heap.size w1 W4 := by rw [hW4]; exact below_alloc _ _
  have k4 : Blk W4 w1.heap.size 75 #[.int .i64 c, .int .i64 r, .slice A1 N c1] := by rw [hW4]; exact Blk.new _ _ _
  have oA := oA.below b4
  have gW := bthen hb1 b4
  clear b4 hb1
  go_wp2
  rw [← hW4]; clear hW4
  go_loopw [4] (fun i wr => ∃ j : Nat, j ≤ r ∧ i = .int .i64 j ∧ Blk wr w1.heap.size 75 #[.int .i64 c, .int .i64 r, .slice A1 N c1] ∧ IntsO wr W.heap.size w1.heap.size (.slice A1 N c1) (flat c r (trK f j 0)) ∧ Below W.heap.size W wr) (fun i _ => r - (intOf i).toNat)
  case atStart => exact ⟨0, Nat.zero_le _, rfl, k4, oA, gW⟩
  case round =>
    clear k4 oA gW
    obtain ⟨j, hj, rfl, k4, oA, gW⟩ := hrel
    have s6 := gW.size
    have k1 := (K1.out).below gW (by have := SZ.out; omega)
    have q0 := k1.cell' (i := 0) rfl
    by_cases hlt : j < r
    · go_wp2
      clear k1 q0
      go_loopw [5] (fun i wr => ∃ k : Nat, k ≤ c ∧ i = .int .i64 k ∧ Blk wr w1.heap.size 75 #[.int .i64 c, .int .i64 r, .slice A1 N c1] ∧ IntsO wr W.heap.size w1.heap.size (.slice A1 N c1) (flat c r (trK f j k)) ∧ Below W.heap.size W wr) (fun i _ => c - (intOf i).toNat)
      case atStart => exact ⟨0, Nat.zero_le _, rfl, k4, oA, gW⟩
      case round =>
        clear k4 oA gW s6
        obtain ⟨k, hk, rfl, k4, oA, gW⟩ := hrel
        have s6 := gW.size
        have k1 := (K1.out).below gW (by have := SZ.out; omega)
        have q1 := k1.cell' (i := 1) rfl
        by_cases hlk : k < c
        · obtain ⟨P, J, hP, hPJ, hJ, hJN, hJb⟩ := ix_walk hlk hlt hc hr
          rw [HN.out] at hJN
          have hst := trK_put f hlt hlk
          rw [← hJ] at hst
          subst hPJ
          obtain ⟨P2, J2, hP2, hPJ2, hJ2, hJN2, hJb2⟩ := ix_walk hlt hlk hr hc
          have hs := HS.out
          obtain ⟨b, o, x, rfl, hb, HX, x1, xr⟩ := SlI.at_ (k := P2 + k) hs (by rw [flat_length]; omega)
          have hx := HX.out
          rw [hPJ2, hJ2, flat_get f hlt hlk] at hx
          injection hx with hx
          subst hx
          have hJL : P2 + k < L := by rw [← HL.out, flat_length]; omega
          have gww : Below w0.heap.size w0 wr := g0.trans (gW.mono g0.size)
          have gwws := gww.size
          have x2 := bcell gww hb x1
          obtain ⟨gA, cA, eA, a1, a2, a3⟩ := oA.at_ (by rw [flat_length, HN.out]; omega)
          rw [flat_length, HN.out] at eA
          injection eA with eA1 eA2 eA3
          subst eA1 eA3
          have hP' := Lib.hid hP
          have hP2' := Lib.hid hP2
          clear hs HX x1 hJ hJ2 hPJ2 hJN2
          go_wp2
          refine wp_region_net (by kernel_rfl) [.eq (.pointer (some ⟨w1.heap.size, 2, none⟩)), .eq (.slice (some ⟨gA, 0, none⟩) N c1), .eq (.int .i64 k), .eq (.pointer (some ⟨w0.heap.size, 0, none⟩)), .eq (.int .i64 r), .eq (.int .i64 P), .eq (.int .i64 j), .eq (.int .i64 ((P : Int) + j)), .eq (.pointer (some ⟨w0.heap.size, 2, none⟩)), .eq (.slice (some ⟨b, o, none⟩) L uc), .eq (.int .i64 j), .eq (.pointer (some ⟨w0.heap.size, 1, none⟩)), .eq (.int .i64 c), .eq (.int .i64 P2), .eq (.int .i64 k), .eq (.int .i64 ((P2 : Int) + k)), .eq (.pointer (some ⟨b, o + (P2 + k), none⟩)), .eq (.int .i64 (f j k)), .eq (.pointer (some ⟨gA, P + j, none⟩))] [[], [0], [], [], [3], [2, 3, 4], [], [2, 3, 4, 5, 6], [], [8], [], [], [11], [10, 11, 12], [], [10, 11, 12, 13, 14], [8, 9, 10, 11, 12, 13, 14, 15], [8, 9, 10, 11, 12, 13, 14, 15, 16], [0, 1, 2, 3, 4, 5, 6, 7, 8, 9, 10, 11, 12, 13, 14, 15, 16, 17], [0, 1, 2, 3, 4, 5, 6, 7, 8, 9, 10, 11, 12, 13, 14, 15, 16, 17, 18]] 19 (by kernel_rfl) ⟨trivial, trivial, trivial, trivial, trivial, trivial, trivial, trivial, trivial, trivial, trivial, trivial, trivial, trivial, trivial, trivial, trivial, trivial, trivial, trivial⟩ ⟨?_, ?_, ?_, ?_, ?_, ?_, ?_, ?_, ?_, ?_, ?_, ?_, ?_, ?_, ?_, ?_, ?_, ?_, ?_, trivial⟩ ?_
          · intro x w hb hk Q' hQ
            clear hk
            simp only [netAct, dstAt, List.getElem?_toArray, List.getElem?_cons_zero, List.getElem?_cons_succ, Option.bind_some, Act.put, List.setIfInBounds_toArray, List.set_cons_zero, List.set_cons_succ] at hQ ⊢
            go_wp2
            exact hQ (.pointer (some ⟨w1.heap.size, 2, none⟩)) _ (Below.refl _ _) rfl
          · intro x w hb hk Q' hQ
            have h0 : x.v 0 = .pointer (some ⟨w1.heap.size, 2, none⟩) := (hk 0 (by decide)).1
            clear hk
            simp only [netAct, dstAt, List.getElem?_toArray, List.getElem?_cons_zero, List.getElem?_cons_succ, Option.bind_some, Act.put, List.setIfInBounds_toArray, List.set_cons_zero, List.set_cons_succ] at hQ ⊢
            simp only [h0] at hQ ⊢
            clear h0
            have z2 := (k4.call hb).cell' (i := 2) rfl
            go_wp2
            exact hQ (.slice (some ⟨gA, 0, none⟩) N c1) _ (Below.refl _ _) rfl
          · intro x w hb hk Q' hQ
            clear hk
            simp only [netAct, dstAt, List.getElem?_toArray, List.getElem?_cons_zero, List.getElem?_cons_succ, Option.bind_some, Act.put, List.setIfInBounds_toArray, List.set_cons_zero, List.set_cons_succ] at hQ ⊢
            go_wp2
            exact hQ (.int .i64 k) _ (Below.refl _ _) rfl
          · intro x w hb hk Q' hQ
            clear hk
            simp only [netAct, dstAt, List.getElem?_toArray, List.getElem?_cons_zero, List.getElem?_cons_succ, Option.bind_some, Act.put, List.setIfInBounds_toArray, List.set_cons_zero, List.set_cons_succ] at hQ ⊢
            go_wp2
            exact hQ (.pointer (some ⟨w0.heap.size, 0, none⟩)) _ (Below.refl _ _) rfl
          · intro x w hb hk Q' hQ
            have h3 : x.v 3 = .pointer (some ⟨w0.heap.size, 0, none⟩) := (hk 3 (by decide)).1
            clear hk
            simp only [netAct, dstAt, List.getElem?_toArray, List.getElem?_cons_zero, List.getElem?_cons_succ, Option.bind_some, Act.put, List.setIfInBounds_toArray, List.set_cons_zero, List.set_cons_succ] at hQ ⊢
            simp only [h3] at hQ ⊢
            clear h3
            have z2 := (k1.call hb).cell' (i := 0) rfl
            go_wp2
            exact hQ (.int .i64 r) _ (Below.refl _ _) rfl
          · intro x w hb hk Q' hQ
            have h2 : x.v 2 = .int .i64 k := (hk 2 (by decide)).1
            have h4 : x.v 4 = .int .i64 r := (hk 4 (by decide)).1
            clear hk
            simp only [netAct, dstAt, List.getElem?_toArray, List.getElem?_cons_zero, List.getElem?_cons_succ, Option.bind_some, Act.put, List.setIfInBounds_toArray, List.set_cons_zero, List.set_cons_succ] at hQ ⊢
            simp only [h2, h4] at hQ ⊢
            clear h2 h4
            go_wp2
            rw [hP'.out]
            exact hQ (.int .i64 P) _ (Below.refl _ _) rfl
          · intro x w hb hk Q' hQ
            clear hk
            simp only [netAct, dstAt, List.getElem?_toArray, List.getElem?_cons_zero, List.getElem?_cons_succ, Option.bind_some, Act.put, List.setIfInBounds_toArray, List.set_cons_zero, List.set_cons_succ] at hQ ⊢
            go_wp2
            exact hQ (.int .i64 j) _ (Below.refl _ _) rfl
          · intro x w hb hk Q' hQ
            have h5 : x.v 5 = .int .i64 P := (hk 5 (by decide)).1
            have h6 : x.v 6 = .int .i64 j := (hk 6 (by decide)).1
            clear hk
            simp only [netAct, dstAt, List.getElem?_toArray, List.getElem?_cons_zero, List.getElem?_cons_succ, Option.bind_some, Act.put, List.setIfInBounds_toArray, List.set_cons_zero, List.set_cons_succ] at hQ ⊢
            simp only [h5, h6] at hQ ⊢
            clear h5 h6
            go_wp2
            exact hQ (.int .i64 ((P : Int) + j)) _ (Below.refl _ _) rfl
          · intro x w hb hk Q' hQ
            clear hk
            simp only [netAct, dstAt, List.getElem?_toArray, List.getElem?_cons_zero, List.getElem?_cons_succ, Option.bind_some, Act.put, List.setIfInBounds_toArray, List.set_cons_zero, List.set_cons_succ] at hQ ⊢
            go_wp2
            exact hQ (.pointer (some ⟨w0.heap.size, 2, none⟩)) _ (Below.refl _ _) rfl
          · intro x w hb hk Q' hQ
            have h8 : x.v 8 = .pointer (some ⟨w0.heap.size, 2, none⟩) := (hk 8 (by decide)).1
            clear hk
            simp only [netAct, dstAt, List.getElem?_toArray, List.getElem?_cons_zero, List.getElem?_cons_succ, Option.bind_some, Act.put, List.setIfInBounds_toArray, List.set_cons_zero, List.set_cons_succ] at hQ ⊢
            simp only [h8] at hQ ⊢
            clear h8
            have z2 := (k1.call hb).cell' (i := 2) rfl
            go_wp2
            exact hQ (.slice (some ⟨b, o, none⟩) L uc) _ (Below.refl _ _) rfl
          · intro x w hb hk Q' hQ
            clear hk
            simp only [netAct, dstAt, List.getElem?_toArray, List.getElem?_cons_zero, List.getElem?_cons_succ, Option.bind_some, Act.put, List.setIfInBounds_toArray, List.set_cons_zero, List.set_cons_succ] at hQ ⊢
            go_wp2
            exact hQ (.int .i64 j) _ (Below.refl _ _) rfl
          · intro x w hb hk Q' hQ
            clear hk
            simp only [netAct, dstAt, List.getElem?_toArray, List.getElem?_cons_zero, List.getElem?_cons_succ, Option.bind_some, Act.put, List.setIfInBounds_toArray, List.set_cons_zero, List.set_cons_succ] at hQ ⊢
            go_wp2
            exact hQ (.pointer (some ⟨w0.heap.size, 1, none⟩)) _ (Below.refl _ _) rfl
          · intro x w hb hk Q' hQ
            have h11 : x.v 11 = .pointer (some ⟨w0.heap.size, 1, none⟩) := (hk 11 (by decide)).1
            clear hk
            simp only [netAct, dstAt, List.getElem?_toArray, List.getElem?_cons_zero, List.getElem?_cons_succ, Option.bind_some, Act.put, List.setIfInBounds_toArray, List.set_cons_zero, List.set_cons_succ] at hQ ⊢
            simp only [h11] at hQ ⊢
            clear h11
            have z2 := (k1.call hb).cell' (i := 1) rfl
            go_wp2
            exact hQ (.int .i64 c) _ (Below.refl _ _) rfl
          · intro x w hb hk Q' hQ
            have h10 : x.v 10 = .int .i64 j := (hk 10 (by decide)).1
            have h12 : x.v 12 = .int .i64 c := (hk 12 (by decide)).1
            clear hk
            simp only [netAct, dstAt, List.getElem?_toArray, List.getElem?_cons_zero, List.getElem?_cons_succ, Option.bind_some, Act.put, List.setIfInBounds_toArray, List.set_cons_zero, List.set_cons_succ] at hQ ⊢
            simp only [h10, h12] at hQ ⊢
            clear h10 h12
            go_wp2
            rw [hP2'.out]
            exact hQ (.int .i64 P2) _ (Below.refl _ _) rfl
          · intro x w hb hk Q' hQ
            clear hk
            simp only [netAct, dstAt, List.getElem?_toArray, List.getElem?_cons_zero, List.getElem?_cons_succ, Option.bind_some, Act.put, List.setIfInBounds_toArray, List.set_cons_zero, List.set_cons_succ] at hQ ⊢
            go_wp2
            exact hQ (.int .i64 k) _ (Below.refl _ _) rfl
          · intro x w hb hk Q' hQ
            have h13 : x.v 13 = .int .i64 P2 := (hk 13 (by decide)).1
            have h14 : x.v 14 = .int .i64 k := (hk 14 (by decide)).1
            clear hk
            simp only [netAct, dstAt, List.getElem?_toArray, List.getElem?_cons_zero, List.getElem?_cons_succ, Option.bind_some, Act.put, List.setIfInBounds_toArray, List.set_cons_zero, List.set_cons_succ] at hQ ⊢
            simp only [h13, h14] at hQ ⊢
            clear h13 h14
            go_wp2
            exact hQ (.int .i64 ((P2 : Int) + k)) _ (Below.refl _ _) rfl
          · intro x w hb hk Q' hQ
            have h9 : x.v 9 = .slice (some ⟨b, o, none⟩) L uc := (hk 9 (by decide)).1
            have h15 : x.v 15 = .int .i64 ((P2 : Int) + k) := (hk 15 (by decide)).1
            clear hk
            simp only [netAct, dstAt, List.getElem?_toArray, List.getElem?_cons_zero, List.getElem?_cons_succ, Option.bind_some, Act.put, List.setIfInBounds_toArray, List.set_cons_zero, List.set_cons_succ] at hQ ⊢
            simp only [h9, h15] at hQ ⊢
            clear h9 h15
            go_wp2
            exact hQ (.pointer (some ⟨b, o + (P2 + k), none⟩)) _ (Below.refl _ _) rfl
          · intro x w hb hk Q' hQ
            have h16 : x.v 16 = .pointer (some ⟨b, o + (P2 + k), none⟩) := (hk 16 (by decide)).1
            clear hk
            simp only [netAct, dstAt, List.getElem?_toArray, List.getElem?_cons_zero, List.getElem?_cons_succ, Option.bind_some, Act.put, List.setIfInBounds_toArray, List.set_cons_zero, List.set_cons_succ] at hQ ⊢
            simp only [h16] at hQ ⊢
            clear h16
            have z2 := bcell hb (by omega) x2
            go_wp2
            exact hQ (.int .i64 (f j k)) _ (Below.refl _ _) rfl
          · intro x w hb hk Q' hQ
            have h1 : x.v 1 = .slice (some ⟨gA, 0, none⟩) N c1 := (hk 1 (by decide)).1
            have h7 : x.v 7 = .int .i64 ((P : Int) + j) := (hk 7 (by decide)).1
            clear hk
            simp only [netAct, dstAt, List.getElem?_toArray, List.getElem?_cons_zero, List.getElem?_cons_succ, Option.bind_some, Act.put, List.setIfInBounds_toArray, List.set_cons_zero, List.set_cons_succ] at hQ ⊢
            simp only [h1, h7] at hQ ⊢
            clear h1 h7
            go_wp2
            exact hQ (.pointer (some ⟨gA, P + j, none⟩)) _ (Below.refl _ _) rfl
          · intro x w hb hk hiv hdj
            have h0 : x.v 0 = .pointer (some ⟨w1.heap.size, 2, none⟩) := hk 0 (by decide)
            have h1 : x.v 1 = .slice (some ⟨gA, 0, none⟩) N c1 := hk 1 (by decide)
            have h2 : x.v 2 = .int .i64 k := hk 2 (by decide)
            have h3 : x.v 3 = .pointer (some ⟨w0.heap.size, 0, none⟩) := hk 3 (by decide)
            have h4 : x.v 4 = .int .i64 r := hk 4 (by decide)
            have h5 : x.v 5 = .int .i64 P := hk 5 (by decide)
            have h6 : x.v 6 = .int .i64 j := hk 6 (by decide)
            have h7 : x.v 7 = .int .i64 ((P : Int) + j) := hk 7 (by decide)
            have h8 : x.v 8 = .pointer (some ⟨w0.heap.size, 2, none⟩) := hk 8 (by decide)
            have h9 : x.v 9 = .slice (some ⟨b, o, none⟩) L uc := hk 9 (by decide)
            have h10 : x.v 10 = .int .i64 j := hk 10 (by decide)
            have h11 : x.v 11 = .pointer (some ⟨w0.heap.size, 1, none⟩) := hk 11 (by decide)
            have h12 : x.v 12 = .int .i64 c := hk 12 (by decide)
            have h13 : x.v 13 = .int .i64 P2 := hk 13 (by decide)
            have h14 : x.v 14 = .int .i64 k := hk 14 (by decide)
            have h15 : x.v 15 = .int .i64 ((P2 : Int) + k) := hk 15 (by decide)
            have h16 : x.v 16 = .pointer (some ⟨b, o + (P2 + k), none⟩) := hk 16 (by decide)
            have h17 : x.v 17 = .int .i64 (f j k) := hk 17 (by decide)
            have h18 : x.v 18 = .pointer (some ⟨gA, P + j, none⟩) := hk 18 (by decide)
            clear hk
            simp only [netAct, dstAt, List.getElem?_toArray, List.getElem?_cons_zero, List.getElem?_cons_succ, Option.bind_some, Act.put, List.setIfInBounds_toArray, List.set_cons_zero, List.set_cons_succ]
            simp only [List.drop_succ_cons, List.drop_zero, h0, h1, h2, h3, h4, h5, h6, h7, h8, h9, h10, h11, h12, h13, h14, h15, h16, h17, h18]
            clear h0 h1 h2 h3 h4 h5 h6 h7 h8 h9 h10 h11 h12 h13 h14 h15 h16 h17 h18
            have oB := oA.below hb
            have k4b := k4.call hb
            have fA := oB.1.frozenG (P + j)
            have cA := (oB.1.cellG (j := P + j) (by rw [flat_length, HN.out]; omega)).1
            have hws := hb.size
            have hc1 : Chg W.heap.size w1.heap.size w (w.setCell ⟨gA, P + j, none⟩ (.int .i64 (f j k))) := chg_set a1 a2
            have oA2 := oB.put (j := P + j) (x := f j k) xr
            rw [hst] at oA2
            have OA2 := Lib.hid oA2
            have K4 := Lib.hid (k4b.chg hc1 (by omega))
            have GW := Lib.hid ((gW.trans (hb.mono s6)).trans (hc1.below (Nat.le_refl _) (by omega)))
            clear oA2 k4 oA gW hc1 hst oB k4b hiv hdj hb k1 q1
            go_wp2
            go_roundw
            case rel => exact ⟨k + 1, by omega, by go_num, K4.out, OA2.out, GW.out⟩
            case measure => simp [intOf]; omega
        · obtain rfl : k = c := by omega
          rw [trK_next] at oA
          have OA := Lib.hid oA
          have K4 := Lib.hid k4
          have GW := Lib.hid gW
          clear oA k4 gW k1
          go_wp2
          go_roundw
          case rel => exact ⟨j + 1, by omega, by go_num, K4.out, OA.out, GW.out⟩
          case measure => simp [intOf]; omega
    · obtain rfl : j = r := by omega
      rw [trK_r] at oA
      have k2 := K2.out.below gW (by have := SZ.out; omega)
      have z0 := k4.cell' (i := 0) rfl
      have z1 := k4.cell' (i := 1) rfl
      have z2 := k4.cell' (i := 2) rfl
      have p0 := k2.cell' (i := 0) rfl
      have p1 := k2.cell' (i := 1) rfl
      have p2 := k2.cell' (i := 2) rfl
      have f2 := k2.frozen
      have h2 := chg3 wr (w0.heap.size + 1) (.int .i64 (c : Int)) (.int .i64 j) (.slice A1 N c1)
      have gw : Below w0.heap.size w0 wr := g0.trans (gW.mono g0.size)
      have gs := gw.size
      have oA2 := (oA.chg h2 (.inr (by have := SZ.out; omega))).wider (lo' := w0.heap.size) (hi' := wr.heap.size) (by have := SZ.out; omega) (by have := k4.lt; omega)
      have fg := gw.trans (h2.below (by omega) gs)
      have OA2 := Lib.hid oA2
      have FG := Lib.hid fg
      clear oA oA2 fg gw h2 k2 k4 gW k1
      go_wp2
      exact bodyPost_ret (v := .agg #[.int .i64 (c : Int), .int .i64 j, .slice A1 N c1]) (by simp [results, go_sem, p0, p1, p2]) rfl ⟨_, rfl, ⟨_, rfl, by simpa using OA2.out, hr2, hc2⟩, FG.out⟩
end Go.Proofs.Ytjhllgldllbaaaa

/- The law of Net.lean, for a region in which one operation of the net (g) writes into memory that operations ahead of it made (an append): behind it only equations and what waits for it are known. -/
namespace Go.Proofs.Ytjhllgldllbaaaa
set_option linter.unusedVariables false
set_option linter.unusedSimpArgs false
open Go.RowKit
section
variable {P : Program}
section
variable {ops : Array Oper} {Q : Exit → Act → World → Prop} {sp : List NS} {D N : List (List Nat)} {m g : Nat} {a0 : Act} {w0 : World} {E : Nat → Bool}
/-- what is to be shown of operation i: at g the memory from w0's size on may have been turned -/
def netDoC (P : Program) (ops : Array Oper) (sp : List NS) (D N : List (List Nat)) (g : Nat) (a0 : Act) (w0 : World) (i : Nat) (o : Oper) : Prop :=
  ∀ (x : Gh) (w : World), Below w0.heap.size w0 w → (∀ j ∈ N.getD i [], known sp D x j w ∧ x.hi j ≤ w.heap.size) → ∀ Q' : Exit → Act → World → Prop,
    (∀ u w', Below (bif i == g then w0.heap.size else w.heap.size) w w' → (sp.getD i (.eq undef)).holds i (D.getD i []) (x.set i u w.heap.size w'.heap.size) w' → Q' .normal ((netAct ops a0 x.v i).put o.dst u) w') → wpList P ops Q' [o] (netAct ops a0 x.v i) w

theorem net_anyC (hB : netB ops D m = true) (hst : ∀ s ∈ sp, s.stable) (hgm : g < m) (hE : ∀ i, E i = true → i = g ∨ g ∈ D.getD i [] ∨ ∃ u, sp.getD i (.eq undef) = .eq u) (hN : ∀ i, i < m → ∀ j ∈ N.getD i [], j ∈ D.getD i [] ∧ (i = g ∨ i ∈ D.getD g [] ∨ E j = true)) (hdo : ∀ i o, i < m → ops[i]? = some o → netDoC P ops sp D N g a0 w0 i o)
    (hend : ∀ x w, Below w0.heap.size w0 w → (∀ i, i < m → E i = true → known sp D x i w) → (∀ i, i < m → w0.heap.size ≤ x.lo i ∧ x.lo i ≤ x.hi i ∧ x.hi i ≤ w.heap.size) → (∀ i j, i < m → j < m → i ≠ j → x.hi i ≤ x.lo j ∨ x.hi j ≤ x.lo i) → wpList P ops Q (ops.toList.drop m) (netAct ops a0 x.v m) w) :
    ∀ (fuel : Nat) (listed : Array Bool) (x : Gh) (w : World), ((List.range ops.size).filter fun j => !listed.getD j false).length = fuel → listed.size = ops.size → (∀ j, m ≤ j → listed.getD j false = false) →
      (∀ i, listed.getD i false = true → ∀ j ∈ D.getD i [], listed.getD j false = true) → Below w0.heap.size w0 w → (∀ i, listed.getD i false = true → listed.getD g false = false ∨ E i = true → known sp D x i w) → (∀ i, listed.getD i false = true → w0.heap.size ≤ x.lo i ∧ x.lo i ≤ x.hi i ∧ x.hi i ≤ w.heap.size) →
      (∀ i j, listed.getD i false = true → listed.getD j false = true → i ≠ j → x.hi i ≤ x.lo j ∨ x.hi j ≤ x.lo i) →
      wpAny P .any ops Q fuel listed (actP ops a0 x.v (fun j => listed.getD j false) ops.size) w := by
  simp only [netB, Bool.and_eq_true, decide_eq_true_eq] at hB
  obtain ⟨⟨hm, hns⟩, hnf⟩ := hB
  have hok : ∀ i o, ops[i]? = some o → NetOk ops D m i o := fun i o ho => netAt_spec (by
    have := netFrom_spec ops.toList 0 hnf i o (by simpa using ho)
    simpa using this)
  have hst' : ∀ i, (sp.getD i (.eq undef)).stable := fun i => by
    rw [List.getD_eq_getElem?_getD]
    rcases h : sp[i]? with _ | s
    · trivial
    · exact hst s (List.mem_of_getElem? h)
  intro fuel
  induction fuel with
  | zero =>
    intro listed x w hc hls hlm hcl hb hkn hiv hdj
    -- all are listed: then m is the region's size
    have hall : ∀ j, j < ops.size → listed.getD j false = true := fun j hj => by
      rw [List.length_eq_zero_iff, List.filter_eq_nil_iff] at hc
      have := hc j (List.mem_range.2 hj)
      simpa using this
    have hms : m = ops.size := by
      rcases Nat.lt_or_ge m ops.size with h | h
      · have := hall m h
        rw [hlm m (Nat.le_refl _)] at this
        cases this
      · omega
    refine net_tail hok 0 ops.size listed _ w (by omega) (by omega) hls (fun j => ?_) ?_
    · by_cases hj : j < ops.size
      · rw [hall j hj]; simp [hj]
      · rw [hlm j (by omega)]; simp [hj]
    · have := hend x w hb (fun i hi he => hkn i (hall i (by omega)) (.inr he)) (fun i hi => hiv i (hall i (by omega))) (fun i j hi hj => hdj i j (hall i (by omega)) (hall j (by omega)))
      rw [← actP_net (p := fun j => listed.getD j false) m (fun j hj => hall j (by omega))] at this
      rwa [hms] at this
  | succ fuel ih =>
    intro listed x w hc hls hlm hcl hb hkn hiv hdj
    by_cases hfull : ∀ j, j < m → listed.getD j false = true
    · -- the tail
      have hl : ∀ j, listed.getD j false = decide (j < m) := fun j => by
        by_cases hj : j < m
        · rw [hfull j hj]; simp [hj]
        · rw [hlm j (by omega)]; simp [hj]
      have hcnt : fuel + 1 + m = ops.size := by
        rw [← hc]
        have e : (List.range ops.size).filter (fun j => !listed.getD j false) = (List.range' m (ops.size - m)) := by
          have e1 : (List.range ops.size) = List.range m ++ List.range' m (ops.size - m) := by
            have h := List.range'_append_1 (s := 0) (m := m) (n := ops.size - m)
            rw [Nat.zero_add] at h
            rw [List.range_eq_range', List.range_eq_range', h]
            congr 1
            omega
          rw [e1, List.filter_append]
          rw [List.filter_eq_nil_iff.2 (fun j hj => by rw [hl]; simp at hj ⊢; exact hj), List.nil_append]
          rw [List.filter_eq_self.2 (fun j hj => by rw [hl]; simp [List.mem_range'] at hj ⊢; omega)]
        rw [e, List.length_range']
        omega
      refine net_tail hok (fuel + 1) m listed _ w (by omega) (Nat.le_refl _) hls hl ?_
      have := hend x w hb (fun i hi he => hkn i (hfull i hi) (.inr he)) (fun i hi => hiv i (hfull i hi)) (fun i j hi hj => hdj i j (hfull i hi) (hfull j hj))
      rw [← actP_net (p := fun j => listed.getD j false) m hfull] at this
      rwa [actP_none (p := fun j => listed.getD j false) ops.size m hm (fun j h1 _ => hlm j h1)]
    · -- one of the net
      have hne : Region.ready .any ops listed ≠ [] := by
        intro h0
        -- the least that is not listed is ready
        have : ∀ n, ∀ j, j < n → j < m → listed.getD j false = true := by
          intro n
          induction n with
          | zero => intro j hj; omega
          | succ n ihn =>
            intro j hj hjm
            by_cases e : j < n
            · exact ihn j e hjm
            · rcases hlj : listed.getD j false with _ | _
              · exfalso
                have hjs : j < ops.size := by omega
                have hje := Array.getElem?_eq_getElem hjs
                have : j ∈ Region.ready .any ops listed := mem_ready.2 ⟨by
                  rw [← hlj]
                  simp [Array.getD_eq_getD_getElem?, Array.getElem?_eq_getElem (show j < listed.size by omega)], _, hje, fun e he hb => by
                  have := (hok j _ hje).direct e he hb
                  exact ihn e.on (by omega) (by omega)⟩
                rw [h0] at this
                cases this
              · rfl
        exact hfull fun j hj => this (j + 1) j (by omega) hj
      refine ⟨fun h0 => absurd h0 hne, fun i hi => ?_⟩
      obtain ⟨h0, o, ho, hall⟩ := mem_ready.1 hi
      have his := (Array.getElem?_eq_some_iff.1 ho).1
      have hO := hok i o ho
      have hDl : ∀ j ∈ D.getD i [], listed.getD j false = true := hO.danc (fun j => listed.getD j false = true) hall (fun k hk j hj => hcl k hk j hj)
      have him : i < m := by
        rcases Nat.lt_or_ge i m with h | h
        · exact h
        · exact absurd (fun j hj => hDl j (hO.tail h j (by omega))) hfull
      have hli : listed.getD i false = false := by
        rw [← h0]
        simp [Array.getD_eq_getD_getElem?, Array.getElem?_eq_getElem (show i < listed.size by omega)]
      have hgi : i ≠ g → listed.getD g false = true → i ∉ D.getD g [] := fun _ hg hD => by
        have := hcl g hg i hD
        rw [hli] at this
        cases this
      have hpre := hdo i o him ho x w hb (fun j hj => ⟨hkn j (hDl j (hN i him j hj).1) (by
          rcases (hN i him j hj).2 with h | h | h
          · subst h; exact .inl hli
          · rcases hg : listed.getD g false with _ | _
            · exact .inl rfl
            · by_cases e : i = g
              · subst e; rw [hli] at hg; cases hg
              · exact absurd h (hgi e hg)
          · exact .inr h), (hiv j (hDl j (hN i him j hj).1)).2.2⟩) (fun e b w' => e = .normal ∧ ∃ u, b = (netAct ops a0 x.v i).put o.dst u ∧ (Below (bif i == g then w0.heap.size else w.heap.size) w w' ∧ (sp.getD i (.eq undef)).holds i (D.getD i []) (x.set i u w.heap.size w'.heap.size) w'))
        (fun u w' h1 h2 => ⟨rfl, u, rfl, h1, h2⟩)
      have hwant : ∀ b : Act, Region.wanted o (yielded ops b.tmps) = true := fun b => by simp [Region.wanted, hO.guard]
      have hnl : ¬ LetsOut (fun (e : Exit) (b : Act) (w' : World) => e = .normal ∧ ∃ u, b = (netAct ops a0 x.v i).put o.dst u ∧ (Below (bif i == g then w0.heap.size else w.heap.size) w w' ∧ (sp.getD i (.eq undef)).holds i (D.getD i []) (x.set i u w.heap.size w'.heap.size) w')) := by
        rintro ⟨b, w', h, _⟩
        cases h
      simp only [wpList, hwant, if_true] at hpre
      rcases hpre with hpre | hpre
      case inr => exact absurd hpre.2 hnl
      simp only [true_and] at hpre
      have hexec : execOp (actP ops a0 x.v (fun j => listed.getD j false) ops.size).eval o = execOp (netAct ops a0 x.v i).eval o := by
        refine execOp_congr o (fun cs b => Region.noSelect_spec hns i o cs b ho) fun y hx => ?_
        by_cases hxt : ∃ t, y = .tmp t
        · obtain ⟨t, rfl⟩ := hxt
          have hlook : t ∈ o.looksAt ops := List.mem_append_left _ (List.mem_filterMap.2 ⟨.tmp t, by simpa using hx, rfl⟩)
          have e1 : netAct ops a0 x.v i = actP ops a0 x.v (fun j => decide (j < i)) ops.size := by
            rw [actP_none (p := fun j => decide (j < i)) ops.size i (by omega) (fun j h1 _ => by simp; omega)]
            exact (actP_net (p := fun j => decide (j < i)) i (fun j hj => by simp [hj])).symm
          rw [e1]
          refine actP_eval t ops.size fun j hj hd => ?_
          rcases hO.looks j t hd hlook with h | h
          · rw [hDl j h]; have := hO.dlt j h; simp [this]
          · have hlt := (hok j _ (Array.getElem?_eq_getElem hj)).dlt i h
            have : listed.getD j false = false := by
              rcases hlj : listed.getD j false with _ | _
              · rfl
              · have := hcl j hlj i h
                rw [hli] at this
                cases this
            rw [this]; simp; omega
        · exact actP_evalC y (fun t h => hxt ⟨t, h⟩) _ _
      have hsz : (netAct ops a0 x.v i).tmps.size = (actP ops a0 x.v (fun j => listed.getD j false) ops.size).tmps.size := by
        rw [actP_size, ← actP_net (p := fun _ => true) i (fun _ _ => rfl), actP_size]
      have hT := wp_transfer (Q2 := Q) hexec hsz (fun c b w' h => by cases h.1) hnl hpre
      unfold wpOp
      simp only [ho, hwant, if_true]
      refine .inl (Oper.wp_mono ?_ hT)
      rintro b w' ⟨u, rfl, hbw, hh⟩
      have hbw0 : Below w0.heap.size w w' := by
        rcases hig : (i == g) with _ | _
        · rw [hig] at hbw; exact Below.mono hbw hb.size
        · rw [hig] at hbw; exact hbw
      have hdst : o.dst = dstAt ops i := by simp [dstAt, ho]
      have hlq : ∀ j, (listed.setIfInBounds i true).getD j false = (listed.getD j false || j == i) := fun j => by
        by_cases e : i = j
        · subst e
          simp [Array.getD_eq_getD_getElem?, Array.getElem?_setIfInBounds, hls, his]
        · rw [getD_set_ne _ e]
          simp [Ne.symm e]
      rw [hdst, actP_add (v' := (x.set i u w.heap.size w'.heap.size).v) (q := fun j => (listed.setIfInBounds i true).getD j false) (fun j hj _ => by simp [Gh.set, hj]) (by simp [Gh.set]) hli hlq (fun j d hij hlj hdj hdi => by
        rcases hO.dsts j d (by omega) hdj hdi with h | h
        · have := hO.dlt j h; omega
        · have := hcl j hlj i h
          rw [hli] at this
          cases this) ops.size his]
      refine ih _ _ _ ?_ (by simpa using hls) (fun j hj => by rw [hlq, hlm j hj]; simp; omega) (fun k hk j hj => ?_) (hb.trans hbw0) (fun k hk hal => ?_) (fun k hk => ?_) (fun k j hk hj hkj => ?_)
      · -- the count
        have hmem : i ∈ (List.range ops.size).filter fun j => !listed.getD j false := by
          rw [List.mem_filter]; exact ⟨List.mem_range.2 his, by rw [hli]; rfl⟩
        have e : (List.range ops.size).filter (fun j => !(listed.setIfInBounds i true).getD j false) = ((List.range ops.size).filter fun j => !listed.getD j false).filter (fun j => j != i) := by
          rw [List.filter_filter]
          congr 1
          funext j
          rw [hlq]
          simp [Bool.not_or, Bool.and_comm, bne]
        have hnd : ((List.range ops.size).filter fun j => !listed.getD j false).Nodup := List.nodup_range.filter _
        rw [e]
        have := List.length_erase_of_mem hmem
        rw [hnd.erase_eq_filter, hc] at this
        simpa using this
      · rw [hlq] at hk ⊢
        simp only [Bool.or_eq_true, beq_iff_eq] at hk ⊢
        rcases hk with hk | rfl
        · exact .inl (hcl k hk j hj)
        · exact .inl (hDl j hj)
      · rw [hlq] at hk
        simp only [Bool.or_eq_true, beq_iff_eq] at hk
        unfold known
        by_cases e : k = i
        · subst e
          exact hh
        · rcases hk with hk | hk
          · have hst1 : (sp.getD k (.eq undef)).holds k (D.getD k []) x w' := by
              by_cases eg : i = g
              · subst eg
                rw [hlq] at hal
                simp only [beq_self_eq_true, Bool.or_true, Bool.true_eq_false, false_or] at hal
                rcases hE k hal with h | h | ⟨u', h⟩
                · exact absurd h e
                · have := hcl k hk i h
                  rw [hli] at this
                  cases this
                · have hkk := hkn k hk (.inr hal)
                  unfold known at hkk
                  rw [h] at hkk ⊢
                  exact hkk
              · have hig : (i == g) = false := by simpa using eg
                rw [hig] at hbw
                refine NS.holds_stable (hst' k) (hkn k hk ?_) hbw
                rw [hlq] at hal
                simpa [Ne.symm eg] using hal
            refine NS.holds_congr (x := x) (fun j hj => ?_) hst1
            have hji : j ≠ i := by
              rcases hj with rfl | hj
              · exact e
              · rintro rfl
                have := hcl k hk j hj
                rw [hli] at this
                cases this
            simp [Gh.set, hji]
          · exact absurd hk e
      · rw [hlq] at hk
        simp only [Bool.or_eq_true, beq_iff_eq] at hk
        by_cases e : k = i
        · subst e
          simp only [Gh.set, if_true]
          exact ⟨hb.size, hbw0.size, Nat.le_refl _⟩
        · have := hiv k (hk.resolve_right e)
          have := hbw0.size
          simp only [Gh.set, if_neg e]
          omega
      · rw [hlq] at hk hj
        simp only [Bool.or_eq_true, beq_iff_eq] at hk hj
        by_cases e : k = i
        · subst e
          have := hiv j (hj.resolve_right (Ne.symm hkj))
          simp only [Gh.set, if_true, if_neg (Ne.symm hkj)]
          exact .inr (by omega)
        · by_cases e' : j = i
          · subst e'
            have := hiv k (hk.resolve_right e)
            simp only [Gh.set, if_true, if_neg e]
            exact .inl (by omega)
          · simp only [Gh.set, if_neg e, if_neg e']
            exact hdj k j (hk.resolve_right e) (hj.resolve_right e') hkj

def netAllC (P : Program) (ops : Array Oper) (sp : List NS) (D N : List (List Nat)) (g : Nat) (a0 : Act) (w0 : World) : Nat → List Oper → Prop
  | _, [] => True
  | i, o :: l => netDoC P ops sp D N g a0 w0 i o ∧ netAllC P ops sp D N g a0 w0 (i + 1) l
theorem netAllC_spec {ops : Array Oper} {sp : List NS} {D N : List (List Nat)} {g : Nat} {a0 : Act} {w0 : World} : ∀ (l : List Oper) (k : Nat), netAllC P ops sp D N g a0 w0 k l → ∀ j o, l[j]? = some o → netDoC P ops sp D N g a0 w0 (k + j) o
  | [], _, _, _, _, h => by simp at h
  | x :: l, k, h, 0, o, hj => by
    simp at hj
    subst hj
    exact h.1
  | x :: l, k, h, j + 1, o, hj => by
    have := netAllC_spec l (k + 1) h.2 j o (by simpa using hj)
    rwa [show k + 1 + j = k + (j + 1) by omega] at this
/-- what is known behind g -/
def consB (sp : List NS) (D : List (List Nat)) (g : Nat) : List Nat → Prop
  | [] => True
  | i :: l => (i = g ∨ (D.getD i []).contains g = true ∨ ∃ u, sp.getD i (.eq undef) = .eq u) ∧ consB sp D g l
theorem consB_spec {sp : List NS} {D : List (List Nat)} {g : Nat} : ∀ {l : List Nat}, consB sp D g l → ∀ i, i ∈ l → i = g ∨ g ∈ D.getD i [] ∨ ∃ u, sp.getD i (.eq undef) = .eq u
  | [], _, i, hi => by simp at hi
  | a :: l, h, i, hi => by
    rcases List.mem_cons.1 hi with rfl | hi
    · rcases h.1 with h | h | h
      · exact .inl h
      · exact .inr (.inl (by simpa using h))
      · exact .inr (.inr h)
    · exact consB_spec h.2 i hi
/-- THE LAW. -/
theorem wp_region_netC {id : Nat} {l : List Oper} {w : World} (hmo : P.follows .mixedOrders = true) (sp : List NS) (D N : List (List Nat)) (E : List Nat) (m g : Nat) (hB : netB l.toArray D m = true) (hgm : (decide (g < m) && (List.range m).all fun i => (N.getD i []).all fun j => (D.getD i []).contains j && (i == g || (D.getD g []).contains i || E.contains j)) = true) (hE : consB sp D g E) (hst : stableAll sp)
    (hdo : netAllC P l.toArray sp D N g a0 w 0 (l.take m))
    (hend : ∀ x w', Below w.heap.size w w' → (∀ i, i < m → E.contains i = true → known sp D x i w') → (∀ i, i < m → w.heap.size ≤ x.lo i ∧ x.lo i ≤ x.hi i ∧ x.hi i ≤ w'.heap.size) → (∀ i j, i < m → j < m → i ≠ j → x.hi i ≤ x.lo j ∨ x.hi j ≤ x.lo i) → wpList P l.toArray Q (l.drop m) (netAct l.toArray a0 x.v m) w') : (Code.region id l.toArray true).wp P Q a0 w := by
  replace hst := stableAll_spec hst
  have hdo : ∀ i o, i < m → l[i]? = some o → netDoC P l.toArray sp D N g a0 w.drew i o := fun i o hi ho => by
    have := netAllC_spec (l.take m) 0 hdo i o (by rw [List.getElem?_take, if_pos hi]; exact ho)
    rw [Nat.zero_add] at this
    exact fun v w1 hb => this v w1 ⟨hb.os, hb.tape, hb.output, hb.size, hb.block⟩
  simp only [Bool.and_eq_true, decide_eq_true_eq, List.all_eq_true, List.mem_range, Bool.or_eq_true, List.contains_iff_mem, beq_iff_eq] at hgm
  refine wp_region_any hmo ?_
  have h := net_anyC (w0 := w.drew) (a0 := a0) (Q := Q) (P := P) (sp := sp) (E := fun i => E.contains i) (N := N) (g := g) hB hst hgm.1 (fun i hi => consB_spec hE i (by simpa using hi)) (fun i hi j hj => by obtain ⟨h1, h2⟩ := hgm.2 i hi j hj; exact ⟨h1, h2.elim (fun h2 => h2.elim .inl (fun h2 => .inr (.inl h2))) (fun h2 => .inr (.inr (by simpa using h2)))⟩) (fun i o hi ho => hdo i o hi (by simpa using ho)) (fun x w' hb hk hiv hdj => by simpa using hend x w' (show Below w.heap.size w w' from ⟨hb.os, hb.tape, hb.output, hb.size, hb.block⟩) hk hiv hdj)
    l.toArray.size (Array.replicate l.toArray.size false) ⟨fun _ => undef, fun _ => 0, fun _ => 0⟩ w.drew
    (by rw [List.filter_eq_self.2 (fun j _ => by rw [repl_getD]; rfl), List.length_range])
    (by simp) (fun j _ => repl_getD _ _)
    (fun i hi => by rw [repl_getD] at hi; cases hi)
    (Below.refl _ _)
    (fun i hi => by rw [repl_getD] at hi; cases hi)
    (fun i hi => by rw [repl_getD] at hi; cases hi)
    (fun i j hi => by rw [repl_getD] at hi; cases hi)
  have e : actP l.toArray a0 (fun _ => undef) (fun j => (Array.replicate l.toArray.size false).getD j false) l.toArray.size = a0 :=
    actP_none l.toArray.size 0 (by omega) (fun j _ _ => repl_getD _ _)
  rw [e] at h
  exact h
end
end
end Go.Proofs.Ytjhllgldllbaaaa

/- Matrices beside each other and below each other: the program's. -/
namespace Go.Proofs.Ytjhllgldllbaaaa
set_option linter.unusedVariables false
set_option linter.unusedSimpArgs false
open Go.RowKit

/-- a beside b: the first c columns are a's -/
def bsF (c : Nat) (f g : Nat → Nat → Int) (a b : Nat) : Int := if b < c then f a b else g a (b - c)
/-- a above b -/
def blF (r : Nat) (f g : Nat → Nat → Int) (a b : Nat) : Int := if a < r then f a b else g (a - r) b
theorem rowsF_app (r s c : Nat) (f g : Nat → Nat → Int) : rowsF r c f ++ rowsF s c g = rowsF (r + s) c (blF r f g) := by
  apply List.ext_getElem?
  intro i
  by_cases h1 : i < r
  · rw [List.getElem?_append_left (by rw [rowsF_length]; exact h1), rowsF_get _ h1, rowsF_get _ (by omega)]
    congr 1
    exact rowF_congr fun b _ => by simp [blF, h1]
  · rw [List.getElem?_append_right (by rw [rowsF_length]; omega), rowsF_length]
    by_cases h2 : i < r + s
    · rw [rowsF_get _ (by omega), rowsF_get _ h2]
      congr 1
      exact rowF_congr fun b _ => by simp [blF, h1]
    · rw [List.getElem?_eq_none (by rw [rowsF_length]; omega), List.getElem?_eq_none (by rw [rowsF_length]; omega)]
theorem colsF_app (r c d : Nat) (f g : Nat → Nat → Int) : rowsF c r (fun a b => f b a) ++ rowsF d r (fun a b => g b a) = rowsF (c + d) r (fun a b => bsF c f g b a) := rowsF_app c d r _ _

/-- append of one list of rows onto another of the call's own -/
theorem wpList_appSS {w : World} {ops : Array Oper} {rest : List Oper} {o : Oper} {a : Act} {Q : Exit → Act → World → Prop} (hgd : o.guard = none) (s x : Operand)
    (ho : o.op = .call { callee := .builtin .append, args := #[s, x], argTypes := #[65, 65] })
    (lo hi lo' hi' : Nat) (v v2 : Value) (l1 l2 : List (List Int)) (hs : a.eval s = v) (hown : IntssO w lo hi v l1) (hx : a.eval x = v2) (hown2 : IntssO w lo' hi' v2 l2) (hd : hi ≤ lo' ∨ hi' ≤ lo)
    (hn : l1.length + l2.length ≤ 1048576) (hlo : lo ≤ w.heap.size) (hhi : hi ≤ w.heap.size)
    (h : ∀ v' w', SlII w' w'.heap.size v' (l1 ++ l2) → Below lo w w' → wpList Try.prog ops Q rest (a.put o.dst v') w') : wpList Try.prog ops Q (o :: rest) a w := by
  obtain ⟨vs1, o1, e1, F1⟩ := hown
  obtain ⟨vs2, o2, e2, F2⟩ := hown2
  obtain ⟨A2, c2, ev2, _, _⟩ := o2.form
  subst ev2
  obtain ⟨i0, hi0, hz0, hz1, hz2⟩ := info_parts infoInts
  have hrd2 := o2
  refine wpList_append_G w hgd s x _ ho lo 22 i0 _ 1 24 Try.underlying65 hi0 hz0 hz1 hz2 rfl (by decide) v vs1.length _ hs o1.1 A2 vs2.length c2 vs2 hx ?_ ?_ (by simp only [maxLen]; omega) (by omega) hlo fun v' w' h1 h2 h3 => ?_
  · refine ⟨by simp, ?_⟩
    rcases Nat.eq_zero_or_pos vs2.length with h0 | h0
    · exact .inl h0
    · rcases o2.1.2 with ⟨e, h1⟩ | ⟨g, cap, cur, e, _, hg, hnc, hcm, hcs, htake⟩
      · omega
      · injection e with ea eb ec
        refine .inr ⟨g, 0, ea, fun j u hj => ?_⟩
        have hc := o2.1
        rw [ea] at hc
        have := hc.cellAt j (by have := lt_of_some hj; omega)
        rw [Nat.zero_add, this, hj]
  · intro u hu
    obtain ⟨j, hj⟩ := List.getElem?_of_mem hu
    have hjl := lt_of_some hj
    have hm := F2.1 (u, l2[j]'(by omega)) (by rw [List.mem_iff_getElem?]; exact ⟨j, by rw [List.getElem?_zip_eq_some]; exact ⟨hj, List.getElem?_eq_getElem _⟩⟩)
    obtain ⟨A, c, e⟩ := hm.form
    rw [show u = _ from e]
    rfl
  · have ho' : OutO w' lo w'.heap.size v' (vs1 ++ vs2) := ⟨by simpa using h1, fun k hk => (h1.lt k hk).2, by simp; omega⟩
    refine h v' w' (OutO.rd ho' (by simp [e1, e2]) fun p hp => ?_) (below_grown h2 (fun k hk => (o1.1.lt k hk).1) hlo)
    rw [List.zip_append e1] at hp
    rcases List.mem_append.1 hp with hp | hp
    · exact ((Fam.grownO F1 o1.1 h2).1 p hp).rd
    · exact ((Fam.grownO F2 o1.1 h2).1 p hp).rd
set_option maxHeartbeats 3200000 in
theorem beside_any (u v : Value) (r c d : Nat) (f g : Nat → Nat → Int) (w0 : World) (hu : MxR w0 w0.heap.size u (mxF r c f)) (hv : MxR w0 w0.heap.size v (mxF r d g)) (hr : r ≤ 500) (hc : c ≤ 500) (hd : d ≤ 500) :
    Calls Try.prog 155 #[u, v] w0 fun e w' => ∃ v, e = .returned v ∧ MxO w' w0.heap.size w'.heap.size v (mxF r (c + d) (bsF c f g)) ∧ Below w0.heap.size w0 w' := by
  have hu' := hu
  have hv' := hv
  obtain ⟨U, uc, rfl⟩ := hu.form
  obtain ⟨V, vc, rfl⟩ := hv.form
  obtain ⟨L, hL⟩ : ∃ L, (mxF r c f).a.length = L := ⟨_, rfl⟩
  obtain ⟨L', hL'⟩ : ∃ L, (mxF r d g).a.length = L := ⟨_, rfl⟩
  have z1 : (mxF r c f).r = (r : Int) := rfl
  have z2 : (mxF r c f).c = (c : Int) := rfl
  have z3 : (mxF r d g).r = (r : Int) := rfl
  have z4 : (mxF r d g).c = (d : Int) := rfl
  rw [hL, z1, z2] at hu' ⊢
  rw [hL', z3, z4] at hv' ⊢
  clear hu hv hL hL' z1 z2 z3 z4
  obtain ⟨W, hW⟩ : ∃ W, W = ((w0.alloc (.cells #[.int .i64 r, .int .i64 c, .slice U L uc] 75)).alloc (.cells #[.int .i64 r, .int .i64 d, .slice V L' vc] 75)).alloc (.cells #[.int .i64 0, .int .i64 0, .slice none 0 0] 75) := ⟨_, rfl⟩
  have g0 : Below w0.heap.size w0 W := by rw [hW]; exact (((Below.refl _ _).alloc (Nat.le_refl _) _).alloc (by simp) _).alloc (by simp; omega) _
  have k1 : Blk W w0.heap.size 75 #[.int .i64 r, .int .i64 c, .slice U L uc] := by rw [hW]; exact ((Blk.new _ _ _).alloc _).alloc _
  have k2 : Blk W (w0.heap.size + 1) 75 #[.int .i64 r, .int .i64 d, .slice V L' vc] := by
    rw [hW]
    have := (Blk.new (w0.alloc (.cells #[.int .i64 r, .int .i64 c, .slice U L uc] 75)) 75 #[.int .i64 r, .int .i64 d, .slice V L' vc]).alloc (.cells #[.int .i64 0, .int .i64 0, .slice none 0 0] 75)
    simpa only [World.size_alloc] using this
  have k3 : Blk W (w0.heap.size + 1 + 1) 75 #[.int .i64 0, .int .i64 0, .slice none 0 0] := by
    rw [hW]
    have := Blk.new ((w0.alloc (.cells #[.int .i64 r, .int .i64 c, .slice U L uc] 75)).alloc (.cells #[.int .i64 r, .int .i64 d, .slice V L' vc] 75)) 75 #[.int .i64 0, .int .i64 0, .slice none 0 0]
    simpa only [World.size_alloc] using this
  have sz : W.heap.size = w0.heap.size + 1 + 1 + 1 := by rw [hW]; simp
  have HU := Lib.hid (MxR.next g0 hu')
  have HV := Lib.hid (MxR.next g0 hv')
  have SZ := Lib.hid sz
  clear sz hu' hv'
  go_enter Try.func155, Try.ntmps155
  go_wp2
  rw [← hW]; clear hW
  refine wp_region_netC (by kernel_rfl) [.eq (.pointer (some ⟨w0.heap.size, 0, none⟩)), .eq (.int .i64 r), .eq (.agg #[.int .i64 r, .int .i64 c, .slice U L uc]), rel 3 (fun u lo hi w => IntssO w lo hi u (rowsF c r (fun a b => f b a)) ∧ W.heap.size ≤ lo ∧ lo ≤ hi), .eq (.agg #[.int .i64 r, .int .i64 d, .slice V L' vc]), .rel (fun x w => IntssO w (x.lo 5) (x.hi 5) (x.v 5) (rowsF d r (fun a b => g b a)) ∧ x.hi 3 ≤ x.lo 5), .rel (fun x w => SlII w w.heap.size (x.v 6) (rowsF (c + d) r (fun a b => bsF c f g b a))), rel 7 (fun u lo hi w => MxO w lo hi u (mxF r (c + d) (bsF c f g)))] [[], [0], [], [2], [], [2, 3, 4], [2, 3, 4, 5], [0, 1, 2, 3, 4, 5, 6], [0, 1, 2, 3, 4, 5, 6, 7]] [[], [0], [], [2], [], [2, 3, 4], [2, 3, 4, 5], [0, 1, 2, 4, 6]] [0, 1, 2, 4, 6, 7] 8 6 (by kernel_rfl) (by kernel_rfl) ⟨.inr (.inr ⟨_, rfl⟩), .inr (.inr ⟨_, rfl⟩), .inr (.inr ⟨_, rfl⟩), .inr (.inr ⟨_, rfl⟩), .inl rfl, .inr (.inl rfl), trivial⟩ ⟨trivial, trivial, trivial, rel_stable (fun u lo hi w w' h hb => ⟨h.1.below hb, h.2⟩), trivial, fun x w w' h hb => ⟨h.1.below hb, h.2⟩, fun x w w' h hb => SlII.next hb h, rel_stable (fun u lo hi w w' h hb => h.below hb), trivial⟩ ⟨?_, ?_, ?_, ?_, ?_, ?_, ?_, ?_, trivial⟩ ?_
  · intro x w hb hk Q' hQ
    clear hk
    simp only [netAct, dstAt, List.getElem?_toArray, List.getElem?_cons_zero, List.getElem?_cons_succ, Option.bind_some, Act.put, List.setIfInBounds_toArray, List.set_cons_zero, List.set_cons_succ] at hQ ⊢
    go_wp2
    exact hQ (.pointer (some ⟨w0.heap.size, 0, none⟩)) _ (Below.refl _ _) rfl
  · intro x w hb hk Q' hQ
    have h0 : x.v 0 = .pointer (some ⟨w0.heap.size, 0, none⟩) := (hk 0 (by decide)).1
    clear hk
    simp only [netAct, dstAt, List.getElem?_toArray, List.getElem?_cons_zero, List.getElem?_cons_succ, Option.bind_some, Act.put, List.setIfInBounds_toArray, List.set_cons_zero, List.set_cons_succ] at hQ ⊢
    simp only [h0] at hQ ⊢
    clear h0
    have z2 := (k1.below hb k1.lt).cell' (i := 0) rfl
    go_wp2
    exact hQ (.int .i64 r) _ (Below.refl _ _) rfl
  · intro x w hb hk Q' hQ
    clear hk
    simp only [netAct, dstAt, List.getElem?_toArray, List.getElem?_cons_zero, List.getElem?_cons_succ, Option.bind_some, Act.put, List.setIfInBounds_toArray, List.set_cons_zero, List.set_cons_succ] at hQ ⊢
    have z0 := (k1.below hb k1.lt).cell' (i := 0) rfl
    have z1 := (k1.below hb k1.lt).cell' (i := 1) rfl
    have z2 := (k1.below hb k1.lt).cell' (i := 2) rfl
    go_wp2
    exact hQ (.agg #[.int .i64 r, .int .i64 c, .slice U L uc]) _ (Below.refl _ _) rfl
  · intro x w hb hk Q' hQ
    have h2 : x.v 2 = .agg #[.int .i64 r, .int .i64 c, .slice U L uc] := (hk 2 (by decide)).1
    clear hk
    simp only [netAct, dstAt, List.getElem?_toArray, List.getElem?_cons_zero, List.getElem?_cons_succ, Option.bind_some, Act.put, List.setIfInBounds_toArray, List.set_cons_zero, List.set_cons_succ] at hQ ⊢
    simp only [h2] at hQ ⊢
    clear h2
    go_wp2_with fail
    refine (columns_any _ r c f _ (MxR.more hb.size (MxR.below hb HU.out)) (by omega) (by omega)).mono ?_; rintro e w5 ⟨v5, rfl, hO5, hb5⟩
    go_wp2
    exact hQ _ _ hb5 ⟨hO5, hb.size, hb5.size⟩
  · intro x w hb hk Q' hQ
    clear hk
    simp only [netAct, dstAt, List.getElem?_toArray, List.getElem?_cons_zero, List.getElem?_cons_succ, Option.bind_some, Act.put, List.setIfInBounds_toArray, List.set_cons_zero, List.set_cons_succ] at hQ ⊢
    have z0 := (k2.below hb k2.lt).cell' (i := 0) rfl
    have z1 := (k2.below hb k2.lt).cell' (i := 1) rfl
    have z2 := (k2.below hb k2.lt).cell' (i := 2) rfl
    go_wp2
    exact hQ (.agg #[.int .i64 r, .int .i64 d, .slice V L' vc]) _ (Below.refl _ _) rfl
  · intro x w hb hk Q' hQ
    have h2 : x.v 2 = .agg #[.int .i64 r, .int .i64 c, .slice U L uc] := (hk 2 (by decide)).1
    have h3 : IntssO w (x.lo 3) (x.hi 3) (x.v 3) (rowsF c r (fun a b => f b a)) ∧ W.heap.size ≤ (x.lo 3) ∧ (x.lo 3) ≤ (x.hi 3) := (hk 3 (by decide)).1
    have h4 : x.v 4 = .agg #[.int .i64 r, .int .i64 d, .slice V L' vc] := (hk 4 (by decide)).1
    have s3 := (hk 3 (by decide)).2
    clear hk
    simp only [netAct, dstAt, List.getElem?_toArray, List.getElem?_cons_zero, List.getElem?_cons_succ, Option.bind_some, Act.put, List.setIfInBounds_toArray, List.set_cons_zero, List.set_cons_succ] at hQ ⊢
    simp only [h2, h4] at hQ ⊢
    clear h2 h4
    go_wp2_with fail
    refine (columns_any _ r d g _ (MxR.more hb.size (MxR.below hb HV.out)) (by omega) (by omega)).mono ?_; rintro e w5 ⟨v5, rfl, hO5, hb5⟩
    go_wp2
    exact hQ _ _ hb5 ⟨hO5, s3⟩
  · intro x w hb hk Q' hQ
    have h2 : x.v 2 = .agg #[.int .i64 r, .int .i64 c, .slice U L uc] := (hk 2 (by decide)).1
    have h3 : IntssO w (x.lo 3) (x.hi 3) (x.v 3) (rowsF c r (fun a b => f b a)) ∧ W.heap.size ≤ (x.lo 3) ∧ (x.lo 3) ≤ (x.hi 3) := (hk 3 (by decide)).1
    have h4 : x.v 4 = .agg #[.int .i64 r, .int .i64 d, .slice V L' vc] := (hk 4 (by decide)).1
    have h5 : IntssO w (x.lo 5) (x.hi 5) (x.v 5) (rowsF d r (fun a b => g b a)) ∧ x.hi 3 ≤ x.lo 5 := (hk 5 (by decide)).1
    have s3 := (hk 3 (by decide)).2
    have s5 := (hk 5 (by decide)).2
    clear hk
    simp only [netAct, dstAt, List.getElem?_toArray, List.getElem?_cons_zero, List.getElem?_cons_succ, Option.bind_some, Act.put, List.setIfInBounds_toArray, List.set_cons_zero, List.set_cons_succ] at hQ ⊢
    simp only [h2, h4] at hQ ⊢
    clear h2 h4
    obtain ⟨h3, l3, l3'⟩ := h3
    obtain ⟨h5, l5⟩ := h5
    have HA := Lib.hid h3
    have HB := Lib.hid h5
    clear h3 h5
    (go_wp2_with (at_builtin; refine Hold.stop ?_)); unfold Hold
    refine wpList_appSS rfl (.tmp 8) (.tmp 10) rfl _ _ _ _ _ _ _ _ rfl HA.out rfl HB.out (.inl l5) (by rw [rowsF_length, rowsF_length]; omega) (by omega) s3 ?_
    intro v' w' hv' hb'
    rw [colsF_app] at hv'
    go_wp2
    exact hQ v' w' (hb'.mono l3) hv'
  · intro x w hb hk Q' hQ
    have h0 : x.v 0 = .pointer (some ⟨w0.heap.size, 0, none⟩) := (hk 0 (by decide)).1
    have h1 : x.v 1 = .int .i64 r := (hk 1 (by decide)).1
    have h2 : x.v 2 = .agg #[.int .i64 r, .int .i64 c, .slice U L uc] := (hk 2 (by decide)).1
    have h4 : x.v 4 = .agg #[.int .i64 r, .int .i64 d, .slice V L' vc] := (hk 4 (by decide)).1
    have h6 : SlII w w.heap.size (x.v 6) (rowsF (c + d) r (fun a b => bsF c f g b a)) := (hk 6 (by decide)).1
    have s6 := (hk 6 (by decide)).2
    clear hk
    simp only [netAct, dstAt, List.getElem?_toArray, List.getElem?_cons_zero, List.getElem?_cons_succ, Option.bind_some, Act.put, List.setIfInBounds_toArray, List.set_cons_zero, List.set_cons_succ] at hQ ⊢
    simp only [h0, h1, h2, h4] at hQ ⊢
    clear h0 h1 h2 h4
    have h6' := Lib.hid h6
    obtain ⟨A6, c6, e6, _⟩ := h6
    rw [e6] at h6' hQ ⊢
    go_wp2_with fail
    refine (fromColumns_any _ r (c + d) (bsF c f g) _ h6'.out (by omega) (by omega)).mono ?_; rintro e w5 ⟨v5, rfl, hO5, hb5⟩
    go_wp2
    exact hQ _ _ hb5 hO5
  · intro x w hb hk hiv hdj
    have h0 : x.v 0 = .pointer (some ⟨w0.heap.size, 0, none⟩) := hk 0 (by decide) (by decide)
    have h1 : x.v 1 = .int .i64 r := hk 1 (by decide) (by decide)
    have h2 : x.v 2 = .agg #[.int .i64 r, .int .i64 c, .slice U L uc] := hk 2 (by decide) (by decide)
    have h4 : x.v 4 = .agg #[.int .i64 r, .int .i64 d, .slice V L' vc] := hk 4 (by decide) (by decide)
    have h6 : SlII w w.heap.size (x.v 6) (rowsF (c + d) r (fun a b => bsF c f g b a)) := hk 6 (by decide) (by decide)
    have h7 : MxO w (x.lo 7) (x.hi 7) (x.v 7) (mxF r (c + d) (bsF c f g)) := hk 7 (by decide) (by decide)
    clear hk
    simp only [netAct, dstAt, List.getElem?_toArray, List.getElem?_cons_zero, List.getElem?_cons_succ, Option.bind_some, Act.put, List.setIfInBounds_toArray, List.set_cons_zero, List.set_cons_succ]
    simp only [List.drop_succ_cons, List.drop_zero, h0, h1, h2, h4]
    clear h0 h1 h2 h4
    have sz := SZ.out
    have kR := k3.below hb k3.lt
    obtain ⟨l7, _, l7h⟩ := hiv 7 (by decide)
    obtain ⟨A7, c7, e7⟩ := h7.form
    simp only [mxF] at e7
    rw [e7] at h7 ⊢
    clear hiv hdj e7 h6
    obtain ⟨N, hN⟩ : ∃ N, (flat r (c + d) (bsF c f g)).length = N := ⟨_, rfl⟩
    rw [hN] at h7 ⊢
    have p0 := kR.cell' (i := 0) rfl
    have p1 := kR.cell' (i := 1) rfl
    have p2 := kR.cell' (i := 2) rfl
    have fr := kR.frozen
    have gX := g0.trans (hb.mono g0.size)
    have gXs := gX.size
    have hbs := hb.size
    have h2 := chg3 w (w0.heap.size + 1 + 1) (.int .i64 (r : Int)) (.int .i64 ((c + d : Nat) : Int)) (.slice A7 N c7)
    have OF := Lib.hid ((h7.chg h2 (.inr (by omega))).wider (lo' := w0.heap.size) (hi' := w.heap.size) (by omega) (by omega))
    have GF := Lib.hid (gX.trans (h2.below (by omega) gXs))
    have e8 : ((c + d : Nat) : Int) = (c : Int) + d := by simp
    rw [e8] at OF GF
    clear h7 h2 gX kR hN sz gXs hbs l7 l7h hb k1 k2 k3 e8
    go_wp2
    exact bodyPost_ret (v := .agg #[.int .i64 (r : Int), .int .i64 ((c : Int) + d), .slice A7 N c7]) (by simp [results, go_sem, p0, p1, p2]) rfl ⟨_, rfl, OF.out.wider (Nat.le_refl _) (by simp), GF.out⟩
end Go.Proofs.Ytjhllgldllbaaaa

/- slices.Concat at []int, and the matrix of some rows. -/
namespace Go.Proofs
open Go.Shelf
def Try.laysGrow_ren : Go.Shelf.Ren := ⟨fun | 4 => 221 | n => n, fun | 22 => 22 | 25 => 3 | 3 => 3 | 4 => 4 | 9 => 9 | 20 => 20 | 0 => 0 | n => n, fun | n => n⟩
theorem Try.laysGrow : Go.Proofs.Lays8.n4 Try.prog Try.laysGrow_ren := {
  mixed := by kernel_rfl
  f4 := ⟨Try.f221.name, by decide, Try.func221.trans (congrArg some (by kernel_rfl))⟩
  t0 := Try.underlying0
  a0 := Try.isAgg0
  z0 := Try.sizeOf0
  v0 := Try.zeroValue0
  t3 := Try.underlying3
  a3 := Try.isAgg3
  z3 := Try.sizeOf3
  v3 := Try.zeroValue3
  t4 := Try.underlying4
  a4 := Try.isAgg4
  z4 := Try.sizeOf4
  v4 := Try.zeroValue4
  t9 := Try.underlying9
  a9 := Try.isAgg9
  z9 := Try.sizeOf9
  v9 := Try.zeroValue9
  t20 := Try.underlying20
  a20 := Try.isAgg20
  z20 := Try.sizeOf20
  v20 := Try.zeroValue20
  t22 := Try.underlying22
  a22 := Try.isAgg22
  z22 := Try.sizeOf22
  v22 := Try.zeroValue22 }
end Go.Proofs
namespace Go.Proofs.Ytjhllgldllbaaaa
set_option linter.unusedVariables false
set_option linter.unusedSimpArgs false
open Go.RowKit

theorem grow_any (n : Nat) (w : World) (hn : n ≤ 1000000) :
    Calls Try.prog 221 #[.slice none 0 0, .int .i64 n] w fun e w' => ∃ v, e = .returned v ∧ OwnI w' w.heap.size v [] ∧ Below w.heap.size w w' := by
  rcases Nat.eq_zero_or_pos n with rfl | h0
  · exact (Any8.slices_Grow_room Try.laysGrow none 0 0 0 w (by omega) (by omega) (by omega) (by omega)).mono fun e w' ⟨h1, h2⟩ => ⟨_, h1, OwnI.nil _ _, by rw [h2]; exact Below.refl _ _⟩
  · obtain ⟨i0, hi, hz0, hz1, hz2⟩ := info_parts infoInt
    have hG : Calls Try.prog 221 #[.slice none 0 0, .int .i64 n] w fun e w' => e = .returned (.slice (some ⟨w.heap.size, 0, none⟩) 0 (grownCap w (0 + n) 0 3)) ∧
        w' = w.drew.alloc (.cells (([] : List Value).toArray ++ Builtin.zeroCells (Value.int .i64 0).cells (0 + n - 0) ++ Builtin.zeroCells (Value.int .i64 0).cells (grownCap w (0 + n) 0 3 - (0 + n))) 3) :=
      Any8.slices_Grow_grow Try.laysGrow i0 _ hi hz0 (by omega) none 0 0 n [] w (by omega) (by omega) (by rw [hz2]; omega) (by omega) (by simp) (fun _ => rfl) (fun a h => by cases h)
    rw [Nat.zero_add, Nat.sub_zero] at hG
    refine hG.mono fun e w' ⟨h1, h2⟩ => ⟨_, h1, ?_, ?_⟩
    · rw [h2]
      have hg := grownCap_ge w n 0 3
      have hm := grownCap_le_maxLen w n 0 3 (by simp only [maxLen]; omega)
      refine ⟨⟨by simp, .inr ⟨w.heap.size, grownCap w n 0 3, _, rfl, Nat.le_refl _, Blk.new _ _ _, Nat.zero_le _, hm, ?_, by simp⟩⟩, by simp, by simp⟩
      have hz : (Value.int .i64 0).cells.size = 1 := rfl
      simp only [Array.size_append, size_zeroCells, List.size_toArray, List.length_nil, hz, Nat.mul_one]
      omega
    · rw [h2]
      exact bthen (drew_below w) (below_alloc _ _)

theorem flatten_len_take (ll : List (List Int)) (k : Nat) : (ll.take k).flatten.length ≤ ll.flatten.length := by
  have : ll = ll.take k ++ ll.drop k := (List.take_append_drop k ll).symm
  have h2 := congrArg (fun x => (List.flatten x).length) this
  simp only [List.flatten_append, List.length_append] at h2
  omega
set_option maxHeartbeats 1600000 in
theorem concat_any (u : Value) (ll : List (List Int)) (w : World) (hu : SlII w w.heap.size u ll) (hn : ll.length ≤ 1000000) (ht : ll.flatten.length ≤ 1000000) :
    Calls Try.prog 203 #[u] w fun e w' => ∃ v, e = .returned v ∧ IntsO w' w.heap.size w'.heap.size v ll.flatten ∧ Below w.heap.size w w' := by
  obtain ⟨A, c, rfl, _, _, _, hx⟩ := hu.open_
  clear hu
  have HX := Lib.hid hx
  have HT := Lib.hid ht
  obtain ⟨n, hnl⟩ : ∃ n, ll.length = n := ⟨_, rfl⟩
  have HNL := Lib.hid hnl
  rw [hnl] at hn ⊢
  clear hx ht hnl
  go_enter Try.func203, Try.ntmps203
  go_wp2
  go_loopw [3, 11] (fun s i wr => ∃ k : Nat, k ≤ n ∧ i = .int .i64 k ∧ s = .int .i64 ((ll.take k).flatten.length : Nat) ∧ w = wr) (fun _ i _ => n - (intOf i).toNat)
  case atStart => exact ⟨0, Nat.zero_le _, rfl, by simp, rfl⟩
  case round =>
    obtain ⟨k, hk, rfl, rfl, rfl⟩ := hrel
    have hle := flatten_len_take ll k
    have hle2 := flatten_len_take ll (k + 1)
    have ht := HT.out
    obtain ⟨s, hs⟩ : ∃ s, (ll.take k).flatten.length = s := ⟨_, rfl⟩
    by_cases hlt : k < n
    · rw [hs] at hle ⊢
      have hx := HX.out
      rw [← HNL.out] at hlt
      obtain ⟨b, o, l, LA, lc, rfl, hb, HL, x1, hl⟩ := SlII.at_ hx hlt
      rw [HNL.out] at hlt
      have e1 : (ll.take (k + 1)).flatten.length = s + l.length := by rw [take_snoc HL.out, List.flatten_append, List.length_append, hs]; simp
      rw [e1] at hle2
      have hsl : s + l.length ≤ 1000000 := by omega
      have E1 := Lib.hid e1
      clear hs e1 ht hle hle2 hx HL hl hb
      go_wp2
      go_roundw
      case rel => exact ⟨k + 1, by omega, by go_num, by rw [E1.out]; go_num, by first | rfl | trivial⟩
      case measure => simp [intOf]; omega
    · obtain rfl : k = n := by omega
      have e0 : ll.take k = ll := List.take_of_length_le (by have := HNL.out; omega)
      rw [e0] at hs ⊢
      rw [hs] at ht ⊢
      clear hle hle2 e0
      have HS := Lib.hid hs
      clear hs
      go_wp2_with fail
      refine (grow_any s _ (by omega)).mono ?_; rintro e w1 ⟨v, rfl, ho, hb1⟩
      obtain ⟨OA, oc, rfl, _, _⟩ := ho.form
      have gw := hb1
      go_wp2
      go_loopw [6, 27] (fun out i wr => ∃ j : Nat, j ≤ k ∧ i = .int .i64 j ∧ OwnI wr w.heap.size out (ll.take j).flatten ∧ Below w.heap.size w wr) (fun _ i _ => k - (intOf i).toNat)
      case atStart => exact ⟨0, Nat.zero_le _, rfl, by simpa using ho, hb1⟩
      case round =>
        clear ho hb1 gw
        obtain ⟨j, hj, rfl, ho, hb1⟩ := hrel
        have gs := hb1.size
        by_cases hlj : j < k
        · have hx := HX.out
          rw [← HNL.out] at hlj
          obtain ⟨b, o, l, LA, lc, rfl, hb, HL, x1, hl⟩ := SlII.at_ hx hlj
          rw [HNL.out] at hlj
          have x2 := bcell hb1 hb x1
          have hl2 : SlI wr w.heap.size (.slice LA l.length lc) l := SlI.below hb1 hl
          have e1 : (ll.take (j + 1)).flatten = (ll.take j).flatten ++ l := by rw [take_snoc HL.out, List.flatten_append]; simp
          have hle2 := flatten_len_take ll (j + 1)
          rw [e1, List.length_append, HS.out] at hle2
          have E1 := Lib.hid e1
          obtain ⟨OB, ob, rfl, _, _⟩ := ho.form
          have HO := Lib.hid ho
          have HL2 := Lib.hid hl2
          have HLE := Lib.hid hle2
          have GW := Lib.hid hb1
          have hlo2 := HO.out.lt
          clear e1 hx hl hl2 HL x1 ho hle2 hb1
          (go_wp2_with (at_builtin; refine Hold.stop ?_)); unfold Hold
          refine wpList_appI rfl (.tmp 31) (.tmp 32) rfl w.heap.size w.heap.size _ _ rfl HO.out LA l.length lc l rfl rfl HL2.out (by have := HLE.out; omega) gs ?_
          intro v' w' h1 h2 h3
          rw [← E1.out] at h1
          have g2 := (GW.out).trans (below_grown h2 (fun k hk => (hlo2 k hk).1) gs)
          have H1 := Lib.hid h1
          have G2 := Lib.hid g2
          clear h1 h2 h3 g2 hlo2
          go_wp2
          go_roundw
          case rel => exact ⟨j + 1, by omega, by go_num, H1.out, G2.out⟩
          case measure => simp [intOf]; omega
        · obtain rfl : j = k := by omega
          have e0 : ll.take j = ll := List.take_of_length_le (by have := HNL.out; omega)
          rw [e0] at ho
          have HO := Lib.hid ho
          clear ho e0
          go_wp2
          go_ret
          exact ⟨_, rfl, IntsO.of_own HO.out, hb1⟩

theorem rowsF_flatten (r c : Nat) (f : Nat → Nat → Int) : (rowsF r c f).flatten = flat r c f := by
  induction r with
  | zero => simp [rowsF, flat]
  | succ r ih =>
    rw [rowsF_succ, List.flatten_append, ih]
    refine flat_ext (by simp [flat_length, rowF_length, Nat.add_mul]) fun i k hi hk => ?_
    rw [List.getElem?_append]
    by_cases h : i < r
    · rw [if_pos (by rw [flat_length]; exact ix_lt h hk), flat_get f h hk]
    · obtain rfl : i = r := by omega
      rw [if_neg (by rw [flat_length]; omega), flat_length, show i * c + k - i * c = k by omega]
      simp [rowF_get _ hk]
set_option maxHeartbeats 800000 in
theorem fromRows_any (u : Value) (c r : Nat) (f : Nat → Nat → Int) (w0 : World) (hu : SlII w0 w0.heap.size u (rowsF r c f)) (hr : r ≤ 1000) (hc : c ≤ 1000) :
    Calls Try.prog 201 #[.int .i64 c, u] w0 fun e w' => ∃ v, e = .returned v ∧ MxO w' w0.heap.size w'.heap.size v (mxF r c f) ∧ Below w0.heap.size w0 w' := by
  have hu' := hu
  obtain ⟨A, ac, rfl, _⟩ := hu
  rw [rowsF_length] at hu' ⊢
  obtain ⟨W, hW⟩ : ∃ W, W = w0.alloc (.cells #[.int .i64 0, .int .i64 0, .slice none 0 0] 75) := ⟨_, rfl⟩
  have g0 : Below w0.heap.size w0 W := by rw [hW]; exact below_alloc _ _
  have k2 : Blk W w0.heap.size 75 #[.int .i64 0, .int .i64 0, .slice none 0 0] := by rw [hW]; exact Blk.new _ _ _
  have sz : W.heap.size = w0.heap.size + 1 := by rw [hW]; simp
  have hle : r * c ≤ 1000 * 1000 := Nat.mul_le_mul hr hc
  have HLE : Hid ((rowsF r c f).flatten.length ≤ 1000000) := by show _ ≤ _; rw [rowsF_flatten, flat_length]; exact Nat.le_trans hle (by decide)
  have HU := Lib.hid (SlII.next g0 hu')
  have K2 := Lib.hid k2
  have SZ := Lib.hid sz
  clear hu' k2 sz hle
  go_enter Try.func201, Try.ntmps201
  go_wp2_with fail
  rw [← hW]; clear hW
  refine (concat_any _ (rowsF r c f) W HU.out (by rw [rowsF_length]; omega) HLE.out).mono ?_; rintro e wr ⟨v1, rfl, oA, gW⟩
  rw [rowsF_flatten] at oA
  obtain ⟨A1, c1, rfl⟩ := oA.form
  obtain ⟨N, hN⟩ : ∃ N, (flat r c f).length = N := ⟨_, rfl⟩
  rw [hN] at oA ⊢
  clear hN
  have k2 := K2.out.call gW
  have p0 := k2.cell' (i := 0) rfl
  have p1 := k2.cell' (i := 1) rfl
  have p2 := k2.cell' (i := 2) rfl
  have f2 := k2.frozen
  have h2 := chg3 wr w0.heap.size (.int .i64 (r : Int)) (.int .i64 c) (.slice A1 N c1)
  have gw : Below w0.heap.size w0 wr := g0.trans (gW.mono g0.size)
  have gs := gw.size
  have oA2 := (oA.chg h2 (.inr (by have := SZ.out; omega))).wider (lo' := w0.heap.size) (hi' := wr.heap.size) (by have := SZ.out; omega) (Nat.le_refl _)
  have fg := gw.trans (h2.below (Nat.le_refl _) gs)
  have OA2 := Lib.hid oA2
  have FG := Lib.hid fg
  clear oA oA2 fg gw h2 k2 gW
  go_wp2
  exact bodyPost_ret (v := .agg #[.int .i64 (r : Int), .int .i64 c, .slice A1 N c1]) (by simp [results, go_sem, p0, p1, p2]) rfl ⟨_, rfl, ⟨_, rfl, by simpa [mxF] using OA2.out, by simp only [mxF, I64]; omega, by simp only [mxF, I64]; omega⟩, FG.out⟩
set_option maxHeartbeats 3200000 in
set_option maxRecDepth 100000 in
theorem below_any (u v : Value) (c r s : Nat) (f g : Nat → Nat → Int) (w0 : World) (hu : MxR w0 w0.heap.size u (mxF r c f)) (hv : MxR w0 w0.heap.size v (mxF s c g)) (hr : r ≤ 500) (hs : s ≤ 500) (hc : c ≤ 500) :
    Calls Try.prog 159 #[u, v] w0 fun e w' => ∃ v, e = .returned v ∧ MxO w' w0.heap.size w'.heap.size v (mxF (r + s) c (blF r f g)) ∧ Below w0.heap.size w0 w' := by
  have hu' := hu
  have hv' := hv
  obtain ⟨U, uc, rfl⟩ := hu.form
  obtain ⟨V, vc, rfl⟩ := hv.form
  obtain ⟨L, hL⟩ : ∃ L, (mxF r c f).a.length = L := ⟨_, rfl⟩
  obtain ⟨L', hL'⟩ : ∃ L, (mxF s c g).a.length = L := ⟨_, rfl⟩
  have z1 : (mxF r c f).r = (r : Int) := rfl
  have z2 : (mxF r c f).c = (c : Int) := rfl
  have z3 : (mxF s c g).r = (s : Int) := rfl
  have z4 : (mxF s c g).c = (c : Int) := rfl
  rw [hL, z1, z2] at hu' ⊢
  rw [hL', z3, z4] at hv' ⊢
  clear hu hv hL hL' z1 z2 z3 z4
  obtain ⟨W, hW⟩ : ∃ W, W = ((w0.alloc (.cells #[.int .i64 r, .int .i64 c, .slice U L uc] 75)).alloc (.cells #[.int .i64 s, .int .i64 c, .slice V L' vc] 75)).alloc (.cells #[.int .i64 0, .int .i64 0, .slice none 0 0] 75) := ⟨_, rfl⟩
  have g0 : Below w0.heap.size w0 W := by rw [hW]; exact (((Below.refl _ _).alloc (Nat.le_refl _) _).alloc (by simp) _).alloc (by simp; omega) _
  have k1 : Blk W w0.heap.size 75 #[.int .i64 r, .int .i64 c, .slice U L uc] := by rw [hW]; exact ((Blk.new _ _ _).alloc _).alloc _
  have k2 : Blk W (w0.heap.size + 1) 75 #[.int .i64 s, .int .i64 c, .slice V L' vc] := by
    rw [hW]
    have := (Blk.new (w0.alloc (.cells #[.int .i64 r, .int .i64 c, .slice U L uc] 75)) 75 #[.int .i64 s, .int .i64 c, .slice V L' vc]).alloc (.cells #[.int .i64 0, .int .i64 0, .slice none 0 0] 75)
    simpa only [World.size_alloc] using this
  have k3 : Blk W (w0.heap.size + 1 + 1) 75 #[.int .i64 0, .int .i64 0, .slice none 0 0] := by
    rw [hW]
    have := Blk.new ((w0.alloc (.cells #[.int .i64 r, .int .i64 c, .slice U L uc] 75)).alloc (.cells #[.int .i64 s, .int .i64 c, .slice V L' vc] 75)) 75 #[.int .i64 0, .int .i64 0, .slice none 0 0]
    simpa only [World.size_alloc] using this
  have sz : W.heap.size = w0.heap.size + 1 + 1 + 1 := by rw [hW]; simp
  have HU := Lib.hid (MxR.next g0 hu')
  have HV := Lib.hid (MxR.next g0 hv')
  have SZ := Lib.hid sz
  clear sz hu' hv'
  go_enter Try.func159, Try.ntmps159
  go_wp2
  rw [← hW]; clear hW
  refine wp_region_netC (by kernel_rfl) [.eq (.pointer (some ⟨w0.heap.size, 1, none⟩)), .eq (.int .i64 c), .eq (.agg #[.int .i64 r, .int .i64 c, .slice U L uc]), rel 3 (fun u lo hi w => IntssO w lo hi u (rowsF r c f) ∧ W.heap.size ≤ lo ∧ lo ≤ hi), .eq (.agg #[.int .i64 s, .int .i64 c, .slice V L' vc]), .rel (fun x w => IntssO w (x.lo 5) (x.hi 5) (x.v 5) (rowsF s c g) ∧ x.hi 3 ≤ x.lo 5), .rel (fun x w => SlII w w.heap.size (x.v 6) (rowsF (r + s) c (blF r f g))), rel 7 (fun u lo hi w => MxO w lo hi u (mxF (r + s) c (blF r f g)))] [[], [0], [], [2], [], [2, 3, 4], [2, 3, 4, 5], [0, 1, 2, 3, 4, 5, 6], [0, 1, 2, 3, 4, 5, 6, 7]] [[], [0], [], [2], [], [2, 3, 4], [2, 3, 4, 5], [0, 1, 2, 4, 6]] [0, 1, 2, 4, 6, 7] 8 6 (by kernel_rfl) (by kernel_rfl) ⟨.inr (.inr ⟨_, rfl⟩), .inr (.inr ⟨_, rfl⟩), .inr (.inr ⟨_, rfl⟩), .inr (.inr ⟨_, rfl⟩), .inl rfl, .inr (.inl rfl), trivial⟩ ⟨trivial, trivial, trivial, rel_stable (fun u lo hi w w' h hb => ⟨h.1.below hb, h.2⟩), trivial, fun x w w' h hb => ⟨h.1.below hb, h.2⟩, fun x w w' h hb => SlII.next hb h, rel_stable (fun u lo hi w w' h hb => h.below hb), trivial⟩ ⟨?_, ?_, ?_, ?_, ?_, ?_, ?_, ?_, trivial⟩ ?_
  · intro x w hb hk Q' hQ
    clear hk
    simp only [netAct, dstAt, List.getElem?_toArray, List.getElem?_cons_zero, List.getElem?_cons_succ, Option.bind_some, Act.put, List.setIfInBounds_toArray, List.set_cons_zero, List.set_cons_succ] at hQ ⊢
    go_wp2
    exact hQ (.pointer (some ⟨w0.heap.size, 1, none⟩)) _ (Below.refl _ _) rfl
  · intro x w hb hk Q' hQ
    have h0 : x.v 0 = .pointer (some ⟨w0.heap.size, 1, none⟩) := (hk 0 (by decide)).1
    clear hk
    simp only [netAct, dstAt, List.getElem?_toArray, List.getElem?_cons_zero, List.getElem?_cons_succ, Option.bind_some, Act.put, List.setIfInBounds_toArray, List.set_cons_zero, List.set_cons_succ] at hQ ⊢
    simp only [h0] at hQ ⊢
    clear h0
    have z2 := (k1.below hb k1.lt).cell' (i := 1) rfl
    go_wp2
    exact hQ (.int .i64 c) _ (Below.refl _ _) rfl
  · intro x w hb hk Q' hQ
    clear hk
    simp only [netAct, dstAt, List.getElem?_toArray, List.getElem?_cons_zero, List.getElem?_cons_succ, Option.bind_some, Act.put, List.setIfInBounds_toArray, List.set_cons_zero, List.set_cons_succ] at hQ ⊢
    have z0 := (k1.below hb k1.lt).cell' (i := 0) rfl
    have z1 := (k1.below hb k1.lt).cell' (i := 1) rfl
    have z2 := (k1.below hb k1.lt).cell' (i := 2) rfl
    go_wp2
    exact hQ (.agg #[.int .i64 r, .int .i64 c, .slice U L uc]) _ (Below.refl _ _) rfl
  · intro x w hb hk Q' hQ
    have h2 : x.v 2 = .agg #[.int .i64 r, .int .i64 c, .slice U L uc] := (hk 2 (by decide)).1
    clear hk
    simp only [netAct, dstAt, List.getElem?_toArray, List.getElem?_cons_zero, List.getElem?_cons_succ, Option.bind_some, Act.put, List.setIfInBounds_toArray, List.set_cons_zero, List.set_cons_succ] at hQ ⊢
    simp only [h2] at hQ ⊢
    clear h2
    go_wp2_with fail
    refine (rows_any _ r c f _ (MxR.more hb.size (MxR.below hb HU.out)) (by omega) (by omega)).mono ?_; rintro e w5 ⟨v5, rfl, hO5, hb5⟩
    go_wp2
    exact hQ _ _ hb5 ⟨hO5, hb.size, hb5.size⟩
  · intro x w hb hk Q' hQ
    clear hk
    simp only [netAct, dstAt, List.getElem?_toArray, List.getElem?_cons_zero, List.getElem?_cons_succ, Option.bind_some, Act.put, List.setIfInBounds_toArray, List.set_cons_zero, List.set_cons_succ] at hQ ⊢
    have z0 := (k2.below hb k2.lt).cell' (i := 0) rfl
    have z1 := (k2.below hb k2.lt).cell' (i := 1) rfl
    have z2 := (k2.below hb k2.lt).cell' (i := 2) rfl
    go_wp2
    exact hQ (.agg #[.int .i64 s, .int .i64 c, .slice V L' vc]) _ (Below.refl _ _) rfl
  · intro x w hb hk Q' hQ
    have h2 : x.v 2 = .agg #[.int .i64 r, .int .i64 c, .slice U L uc] := (hk 2 (by decide)).1
    have h3 : IntssO w (x.lo 3) (x.hi 3) (x.v 3) (rowsF r c f) ∧ W.heap.size ≤ (x.lo 3) ∧ (x.lo 3) ≤ (x.hi 3) := (hk 3 (by decide)).1
    have h4 : x.v 4 = .agg #[.int .i64 s, .int .i64 c, .slice V L' vc] := (hk 4 (by decide)).1
    have s3 := (hk 3 (by decide)).2
    clear hk
    simp only [netAct, dstAt, List.getElem?_toArray, List.getElem?_cons_zero, List.getElem?_cons_succ, Option.bind_some, Act.put, List.setIfInBounds_toArray, List.set_cons_zero, List.set_cons_succ] at hQ ⊢
    simp only [h2, h4] at hQ ⊢
    clear h2 h4
    go_wp2_with fail
    refine (rows_any _ s c g _ (MxR.more hb.size (MxR.below hb HV.out)) (by omega) (by omega)).mono ?_; rintro e w5 ⟨v5, rfl, hO5, hb5⟩
    go_wp2
    exact hQ _ _ hb5 ⟨hO5, s3⟩
  · intro x w hb hk Q' hQ
    have h2 : x.v 2 = .agg #[.int .i64 r, .int .i64 c, .slice U L uc] := (hk 2 (by decide)).1
    have h3 : IntssO w (x.lo 3) (x.hi 3) (x.v 3) (rowsF r c f) ∧ W.heap.size ≤ (x.lo 3) ∧ (x.lo 3) ≤ (x.hi 3) := (hk 3 (by decide)).1
    have h4 : x.v 4 = .agg #[.int .i64 s, .int .i64 c, .slice V L' vc] := (hk 4 (by decide)).1
    have h5 : IntssO w (x.lo 5) (x.hi 5) (x.v 5) (rowsF s c g) ∧ x.hi 3 ≤ x.lo 5 := (hk 5 (by decide)).1
    have s3 := (hk 3 (by decide)).2
    have s5 := (hk 5 (by decide)).2
    clear hk
    simp only [netAct, dstAt, List.getElem?_toArray, List.getElem?_cons_zero, List.getElem?_cons_succ, Option.bind_some, Act.put, List.setIfInBounds_toArray, List.set_cons_zero, List.set_cons_succ] at hQ ⊢
    simp only [h2, h4] at hQ ⊢
    clear h2 h4
    obtain ⟨h3, l3, l3'⟩ := h3
    obtain ⟨h5, l5⟩ := h5
    have HA := Lib.hid h3
    have HB := Lib.hid h5
    clear h3 h5
    (go_wp2_with (at_builtin; refine Hold.stop ?_)); unfold Hold
    refine wpList_appSS rfl (.tmp 8) (.tmp 10) rfl _ _ _ _ _ _ _ _ rfl HA.out rfl HB.out (.inl l5) (by rw [rowsF_length, rowsF_length]; omega) (by omega) s3 ?_
    intro v' w' hv' hb'
    rw [rowsF_app] at hv'
    go_wp2
    exact hQ v' w' (hb'.mono l3) hv'
  · intro x w hb hk Q' hQ
    have h0 : x.v 0 = .pointer (some ⟨w0.heap.size, 1, none⟩) := (hk 0 (by decide)).1
    have h1 : x.v 1 = .int .i64 c := (hk 1 (by decide)).1
    have h2 : x.v 2 = .agg #[.int .i64 r, .int .i64 c, .slice U L uc] := (hk 2 (by decide)).1
    have h4 : x.v 4 = .agg #[.int .i64 s, .int .i64 c, .slice V L' vc] := (hk 4 (by decide)).1
    have h6 : SlII w w.heap.size (x.v 6) (rowsF (r + s) c (blF r f g)) := (hk 6 (by decide)).1
    have s6 := (hk 6 (by decide)).2
    clear hk
    simp only [netAct, dstAt, List.getElem?_toArray, List.getElem?_cons_zero, List.getElem?_cons_succ, Option.bind_some, Act.put, List.setIfInBounds_toArray, List.set_cons_zero, List.set_cons_succ] at hQ ⊢
    simp only [h0, h1, h2, h4] at hQ ⊢
    clear h0 h1 h2 h4
    have h6' := Lib.hid h6
    obtain ⟨A6, c6, e6, _⟩ := h6
    rw [e6] at h6' hQ ⊢
    go_wp2_with fail
    refine (fromRows_any _ c (r + s) (blF r f g) _ h6'.out (by omega) (by omega)).mono ?_; rintro e w5 ⟨v5, rfl, hO5, hb5⟩
    go_wp2
    exact hQ _ _ hb5 hO5
  · intro x w hb hk hiv hdj
    have h0 : x.v 0 = .pointer (some ⟨w0.heap.size, 1, none⟩) := hk 0 (by decide) (by decide)
    have h1 : x.v 1 = .int .i64 c := hk 1 (by decide) (by decide)
    have h2 : x.v 2 = .agg #[.int .i64 r, .int .i64 c, .slice U L uc] := hk 2 (by decide) (by decide)
    have h4 : x.v 4 = .agg #[.int .i64 s, .int .i64 c, .slice V L' vc] := hk 4 (by decide) (by decide)
    have h6 : SlII w w.heap.size (x.v 6) (rowsF (r + s) c (blF r f g)) := hk 6 (by decide) (by decide)
    have h7 : MxO w (x.lo 7) (x.hi 7) (x.v 7) (mxF (r + s) c (blF r f g)) := hk 7 (by decide) (by decide)
    clear hk
    simp only [netAct, dstAt, List.getElem?_toArray, List.getElem?_cons_zero, List.getElem?_cons_succ, Option.bind_some, Act.put, List.setIfInBounds_toArray, List.set_cons_zero, List.set_cons_succ]
    simp only [List.drop_succ_cons, List.drop_zero, h0, h1, h2, h4]
    clear h0 h1 h2 h4
    have sz := SZ.out
    have kR := k3.below hb k3.lt
    obtain ⟨l7, _, l7h⟩ := hiv 7 (by decide)
    obtain ⟨A7, c7, e7⟩ := h7.form
    simp only [mxF] at e7
    rw [e7] at h7 ⊢
    clear hiv hdj e7 h6
    obtain ⟨N, hN⟩ : ∃ N, (flat (r + s) c (blF r f g)).length = N := ⟨_, rfl⟩
    rw [hN] at h7 ⊢
    have p0 := kR.cell' (i := 0) rfl
    have p1 := kR.cell' (i := 1) rfl
    have p2 := kR.cell' (i := 2) rfl
    have fr := kR.frozen
    have gX := g0.trans (hb.mono g0.size)
    have gXs := gX.size
    have hbs := hb.size
    have h2 := chg3 w (w0.heap.size + 1 + 1) (.int .i64 ((r + s : Nat) : Int)) (.int .i64 (c : Int)) (.slice A7 N c7)
    have OF := Lib.hid ((h7.chg h2 (.inr (by omega))).wider (lo' := w0.heap.size) (hi' := w.heap.size) (by omega) (by omega))
    have GF := Lib.hid (gX.trans (h2.below (by omega) gXs))
    have e8 : ((r + s : Nat) : Int) = (r : Int) + s := by simp
    rw [e8] at OF GF
    clear h7 h2 gX kR hN sz gXs hbs l7 l7h hb k1 k2 k3 e8
    go_wp2
    exact bodyPost_ret (v := .agg #[.int .i64 ((r : Int) + s), .int .i64 c, .slice A7 N c7]) (by simp [results, go_sem, p0, p1, p2]) rfl ⟨_, rfl, OF.out.wider (Nat.le_refl _) (by simp), GF.out⟩
end Go.Proofs.Ytjhllgldllbaaaa

/- The two OrderOf. -/
namespace Go.Proofs.Ytjhllgldllbaaaa
set_option linter.unusedVariables false
set_option linter.unusedSimpArgs false
open Go.RowKit

set_option maxHeartbeats 400000 in
theorem l4Has_any (u : Value) (xs : List Int) (v : Int) (w : World) (hu : SlI w w.heap.size u xs) :
    Calls Try.prog 141 #[u, .int .i64 v] w fun e w' => e = .returned (.bool (decide (v ∈ xs))) ∧ Below w.heap.size w w' := by
  obtain ⟨A, c, rfl, _, _, hn, hx⟩ := hu.open_
  clear hu
  go_enter Try.func141, Try.ntmps141
  go_wp2
  go_loopw [5] (fun i wr => ∃ k m : Nat, k ≤ xs.length ∧ i = .int .i64 k ∧ wr = w.drewN m ∧ Hid (∀ y ∈ xs.take k, y ≠ v)) (fun i _ => xs.length - (intOf i).toNat)
  case atStart => exact ⟨0, 0, Nat.zero_le _, rfl, rfl, by intro y hy; simp at hy⟩
  case round =>
    obtain ⟨k, m, hk, rfl, rfl, hno⟩ := hrel
    by_cases hlt : k < xs.length
    · obtain ⟨b, o, x, rfl, hb, HX, c1, _⟩ := SlI.at_ hx hlt
      clear hx
      rcases hvx : (x == v) with _ | _
      · go_wp2
        go_roundw
        case rel =>
          refine ⟨k + 1, m, by omega, by go_num, rfl, fun y hy => ?_⟩
          rw [take_snoc HX.out, List.mem_append, List.mem_singleton] at hy
          rcases hy with hy | rfl
          · exact hno.out y hy
          · simpa using hvx
        case measure => simp [intOf]; omega
      · have hfin : Hid (decide (v ∈ xs) = true) := by
          show _ = _
          rw [beq_iff_eq] at hvx
          subst hvx
          simpa using List.mem_of_getElem? HX.out
        go_wp2
        go_ret
        exact ⟨by rw [hfin.out]; rfl, drewN_below _ _ _⟩
    · go_wp2
      go_ret
      have h1 := hno.out
      rw [List.take_of_length_le (by omega)] at h1
      have : decide (v ∈ xs) = false := by simp; exact fun h => h1 v h rfl
      exact ⟨by rw [this]; rfl, drewN_below _ _ _⟩

/-- Whether arrows lead to v from those taken only. -/
def rdyAt (q : Qv) (taken : List Int) (v : Int) (k : Nat) : Bool := ((q.f.take k).zip (q.t.take k)).all fun p => !(p.2 == v) || decide (p.1 ∈ taken)
def rdy (q : Qv) (taken : List Int) (v : Int) : Bool := (q.f.zip q.t).all fun p => !(p.2 == v) || decide (p.1 ∈ taken)
theorem rdyAt_zero (q : Qv) (taken : List Int) (v : Int) : rdyAt q taken v 0 = true := by simp [rdyAt]
theorem rdyAt_succ {q : Qv} {taken : List Int} {v x y : Int} {k : Nat} (hx : q.f[k]? = some x) (hy : q.t[k]? = some y) : rdyAt q taken v (k + 1) = (rdyAt q taken v k && (!(y == v) || decide (x ∈ taken))) := by
  have h1 := lt_of_some hx
  have h2 := lt_of_some hy
  rw [rdyAt, take_snoc hx, take_snoc hy, List.zip_append (by simp; omega), List.all_append]
  simp [rdyAt]
theorem rdyAt_end {q : Qv} {taken : List Int} {v : Int} {k : Nat} (h1 : q.f.length ≤ k) (h2 : q.t.length ≤ k) : rdyAt q taken v k = rdy q taken v := by
  rw [rdyAt, List.take_of_length_le h1, List.take_of_length_le h2, rdy]
theorem rdy_bad {q : Qv} {taken : List Int} {v x y : Int} {k : Nat} (hx : q.f[k]? = some x) (hy : q.t[k]? = some y) (h : (!(y == v) || decide (x ∈ taken)) = false) : rdy q taken v = false := by
  rw [rdy, List.all_eq_false]
  refine ⟨(x, y), ?_, by simpa using h⟩
  rw [List.mem_iff_getElem?]
  exact ⟨k, by rw [List.getElem?_zip_eq_some]; exact ⟨hx, hy⟩⟩

set_option maxHeartbeats 800000 in
theorem isReady_any (u tv : Value) (q : Qv) (taken : List Int) (v : Int) (w : World) (hu : QvR w w.heap.size u q) (ht : SlI w w.heap.size tv taken) (hl : q.t.length ≤ q.f.length) :
    Calls Try.prog 188 #[u, .int .i64 v, tv] w fun e w' => e = .returned (.bool (rdy q taken v)) ∧ Below w.heap.size w w' := by
  obtain ⟨A, c, C, d, rfl, hf, hT, hr, lf, lt⟩ := hu.open_
  clear hu
  obtain ⟨W, hW⟩ : ∃ W, W = w.alloc (.cells #[.int .i64 q.v, .slice A q.f.length c, .slice C q.t.length d] 26) := ⟨_, rfl⟩
  have g0 : Below w.heap.size w W := by rw [hW]; exact below_alloc _ _
  have kB : Blk W w.heap.size 26 #[.int .i64 q.v, .slice A q.f.length c, .slice C q.t.length d] := by rw [hW]; exact Blk.new _ _ _
  have c1 := kB.cell' (i := 1) rfl
  have c2 := kB.cell' (i := 2) rfl
  have ht' := SlI.next g0 ht
  obtain ⟨TA, tc, rfl, _, _, _, _⟩ := ht.open_
  clear ht kB
  have e0 : w.heap.size ≤ W.heap.size := g0.size
  go_enter Try.func188, Try.ntmps188
  go_wp2_with fail
  rw [← hW]; clear hW
  go_loop [12] (fun i => ∃ k : Nat, k ≤ q.t.length ∧ i = .int .i64 k ∧ Hid (rdyAt q taken v k = true)) (fun i => q.t.length - (intOf i).toNat)
  case atStart => exact ⟨0, Nat.zero_le _, rfl, rdyAt_zero _ _ _⟩
  case round =>
    obtain ⟨k, hk, rfl, hok⟩ := hrel
    by_cases hlt : k < q.t.length
    · obtain ⟨b, o, y, rfl, hb, HY, y1, _⟩ := SlI.at_ hT hlt
      obtain ⟨b2, o2, x, rfl, hb2, HX, x1, _⟩ := SlI.at_ (k := k) hf (by omega)
      have y2 := bcell g0 hb y1
      have x2 := bcell g0 hb2 x1
      have hlf : k < q.f.length := by omega
      clear hf hT y1 x1
      rcases hyv : (y == v) with _ | _
      · have hst : Hid (rdyAt q taken v (k + 1) = true) := by show _ = _; rw [rdyAt_succ HX.out HY.out, hok.out, hyv]; rfl
        go_wp2
        go_round
        case rel => exact ⟨k + 1, by omega, by go_num, hst.out⟩
        case measure => simp [intOf]; omega
      · obtain ⟨B, hB⟩ : ∃ B, decide (x ∈ taken) = B := ⟨_, rfl⟩
        have HB := Lib.hid hB
        clear hB
        cases B
        · have hfin : Hid (rdy q taken v = false) := rdy_bad HX.out HY.out (by rw [hyv, HB.out]; rfl)
          go_wp2_with fail
          refine (contains_any _ taken x _ ht').mono ?_; rintro e w' ⟨rfl, rfl⟩
          rw [HB.out]
          go_wp2
          go_ret
          exact ⟨by rw [hfin.out]; rfl, g0⟩
        · have hst : Hid (rdyAt q taken v (k + 1) = true) := by show _ = _; rw [rdyAt_succ HX.out HY.out, hok.out, hyv, HB.out]; rfl
          go_wp2_with fail
          refine (contains_any _ taken x _ ht').mono ?_; rintro e w' ⟨rfl, rfl⟩
          rw [HB.out]
          go_wp2
          go_round
          case rel => exact ⟨k + 1, by omega, by go_num, hst.out⟩
          case measure => simp [intOf]; omega
    · have hfin : Hid (rdy q taken v = true) := by
        show _ = _
        have h := hok.out
        by_cases hkf : q.f.length ≤ k
        · rwa [rdyAt_end hkf (by omega)] at h
        · have h3 : (q.f.zip q.t) = (q.f.take k).zip (q.t.take k) := by
            simp only [List.zip]; rw [← List.take_zipWith, List.take_of_length_le (by simp; omega)]
          rw [rdy, h3]
          exact h
      go_wp2
      go_ret
      exact ⟨by rw [hfin.out]; rfl, g0⟩
end Go.Proofs.Ytjhllgldllbaaaa

/- Number vectors of quivers: areNumbers, l18Vector, hasVertex, l21Loop. -/
namespace Go.Proofs.Ytjhllgldllbaaaa
set_option linter.unusedVariables false
set_option linter.unusedSimpArgs false
open Go.RowKit

def isNum (q : Qv) (x : List Int) : Bool := isQ q && decide ((x.length : Int) = q.v) && allR x (-100) 100
theorem isNum_t {q : Qv} {x : List Int} : isNum q x = true ↔ isQ q = true ∧ (x.length : Int) = q.v ∧ ∀ y ∈ x, -100 ≤ y ∧ y ≤ 100 := by
  simp only [isNum, Bool.and_eq_true, decide_eq_true_eq, allR_t, and_assoc]

set_option maxHeartbeats 400000 in
theorem areNumbers_any (u xv : Value) (q : Qv) (xs : List Int) (w : World) (hu : QvR w w.heap.size u q) (hx : SlI w w.heap.size xv xs) :
    Calls Try.prog 93 #[u, xv] w fun e w' => e = .returned (.bool (isNum q xs)) ∧ Below w.heap.size w w' := by
  have hu' := hu
  obtain ⟨A, c, C, d, rfl, hf, hT, hr, lf, lt⟩ := hu.open_
  have hx' := hx
  obtain ⟨XA, xc, rfl, _, _, lx, _⟩ := hx.open_
  clear hu hx hf hT
  obtain ⟨W, hW⟩ : ∃ W, W = w.alloc (.cells #[.int .i64 q.v, .slice A q.f.length c, .slice C q.t.length d] 26) := ⟨_, rfl⟩
  have g0 : Below w.heap.size w W := by rw [hW]; exact below_alloc _ _
  have kB : Blk W w.heap.size 26 #[.int .i64 q.v, .slice A q.f.length c, .slice C q.t.length d] := by rw [hW]; exact Blk.new _ _ _
  have c0 := kB.cell' (i := 0) rfl
  have c1 := kB.cell' (i := 1) rfl
  have c2 := kB.cell' (i := 2) rfl
  have h0 := QvR.next g0 hu'
  have hx0 := SlI.next g0 hx'
  clear hu' hx'
  rcases hq : isQ q with _ | _
  · have hfin : Hid (isNum q xs = false) := by show _ = _; simp [isNum, hq]
    go_enter Try.func93, Try.ntmps93
    go_wp2_with fail
    rw [← hW]; clear hW
    refine (implIsQuiver_any _ _ _ h0).mono ?_; rintro e w1 ⟨rfl, hb1⟩
    rw [hq]
    go_wp2
    go_ret
    exact ⟨by rw [hfin.out]; rfl, bthen g0 hb1⟩
  by_cases hl : (xs.length : Int) = q.v
  · have hl' : ((xs.length : Int) == q.v) = true := by rw [beq_iff_eq]; exact hl
    obtain ⟨B, hB⟩ : ∃ B, allR xs (-100) 100 = B := ⟨_, rfl⟩
    have hfin : Hid (isNum q xs = B) := by show _ = _; simp [isNum, hq, hl, hB]
    have HB := Lib.hid hB
    clear hl hB
    cases B
    all_goals
      go_enter Try.func93, Try.ntmps93
      go_wp2_with fail
      rw [← hW]; clear hW
      refine (implIsQuiver_any _ _ _ h0).mono ?_; rintro e w1 ⟨rfl, hb1⟩
      rw [hq]
      have d0 := (kB.call hb1).cell' (i := 0) rfl
      clear c0 c1 c2
      have hx1 := SlI.next hb1 hx0
      go_wp2_with fail
      refine (allWithin_any _ xs _ _ _ hx1).mono ?_; rintro e w2 ⟨rfl, hb2⟩
      rw [HB.out]
      go_wp2
      go_ret
      exact ⟨by rw [hfin.out]; rfl, bthen (bthen g0 hb1) hb2⟩
  · have hl' : ((xs.length : Int) == q.v) = false := by rw [beq_eq_false_iff_ne]; exact hl
    have hfin : Hid (isNum q xs = false) := by show _ = _; simp [isNum, hl]
    clear hl
    go_enter Try.func93, Try.ntmps93
    go_wp2_with fail
    rw [← hW]; clear hW
    refine (implIsQuiver_any _ _ _ h0).mono ?_; rintro e w1 ⟨rfl, hb1⟩
    rw [hq]
    have d0 := (kB.call hb1).cell' (i := 0) rfl
    clear c0 c1 c2
    go_wp2
    go_ret
    exact ⟨by rw [hfin.out]; rfl, bthen g0 hb1⟩

set_option maxHeartbeats 800000 in
theorem l18Vector_any (u xv : Value) (q : Qv) (xs : List Int) (w : World) (hu : QvR w w.heap.size u q) (hx : SlI w w.heap.size xv xs) :
    Calls Try.prog 88 #[u, xv] w fun e w' => e = .returned (.bool (isNum q xs)) ∧ Below w.heap.size w w' := by
  have hu' := hu
  obtain ⟨A, c, C, d, rfl, hf, hT, hr, lf, lt⟩ := hu.open_
  obtain ⟨XA, xc, rfl, _, _, lx, hx'⟩ := hx.open_
  clear hu hx hf hT
  have g0 : Below w.heap.size w (w.alloc (.cells #[.int .i64 q.v, .slice A q.f.length c, .slice C q.t.length d] 26)) := below_alloc _ _
  have kB := Blk.new w 26 #[.int .i64 q.v, .slice A q.f.length c, .slice C q.t.length d]
  go_enter Try.func88, Try.ntmps88
  go_wp2
  go_loopw [5] (fun i wr => ∃ k : Nat, k ≤ xs.length ∧ i = .int .i64 k ∧ Below w.heap.size w wr ∧ Blk wr w.heap.size 26 #[.int .i64 q.v, .slice A q.f.length c, .slice C q.t.length d] ∧ Hid (∀ y ∈ xs.take k, inR y (-100) 100 = true)) (fun i _ => xs.length - (intOf i).toNat)
  case atStart => exact ⟨0, Nat.zero_le _, rfl, g0, kB, by intro y hy; simp at hy⟩
  case round =>
    clear g0 kB
    obtain ⟨k, hk, rfl, hbel, hkB, hok⟩ := hrel
    have e0 := hkB.cell' (i := 0) rfl
    have e1 := hkB.cell' (i := 1) rfl
    have e2 := hkB.cell' (i := 2) rfl
    by_cases hlt : k < xs.length
    · obtain ⟨b, o, x, rfl, hb, HX, x1, _⟩ := SlI.at_ hx' hlt
      have x2 := bcell hbel hb x1
      clear x1
      rcases hB1 : inR x (-100) 100 with _ | _
      · have hfin : Hid (isNum q xs = false) := by
          show _ = _
          have : allR xs (-100) 100 = false := by
            rw [allR, List.all_eq_false]
            exact ⟨x, List.mem_of_getElem? HX.out, by simp [hB1]⟩
          simp [isNum, this]
        go_wp2_with fail
        refine (l1In_any _ _ _ _).mono ?_; rintro e w9 ⟨rfl, rfl⟩
        rw [hB1]
        go_wp2
        go_ret
        exact ⟨by rw [hfin.out]; rfl, hbel⟩
      · have hst : Hid (∀ y ∈ xs.take (k + 1), inR y (-100) 100 = true) := by
          intro y hy
          rw [take_snoc HX.out, List.mem_append, List.mem_singleton] at hy
          rcases hy with hy | rfl
          · exact hok.out y hy
          · exact hB1
        go_wp2_with fail
        refine (l1In_any _ _ _ _).mono ?_; rintro e w9 ⟨rfl, rfl⟩
        rw [hB1]
        go_wp2
        go_roundw
        case rel => exact ⟨k + 1, by omega, by go_num, hbel, hkB, hst.out⟩
        case measure => simp [intOf]; omega
    · have hrq := QvR.more (B' := wr.heap.size) (by have := hbel.size; omega) (QvR.below hbel hu')
      have hall : allR xs (-100) 100 = true := by
        have h := hok.out
        rw [List.take_of_length_le (by omega)] at h
        exact List.all_eq_true.2 h
      rcases hq : isQ q with _ | _
      · have hfin : Hid (isNum q xs = false) := by show _ = _; simp [isNum, hq]
        clear hall
        go_wp2_with fail
        refine (specIsQuiver_any _ _ _ hrq).mono ?_; rintro e w1 ⟨rfl, hb1⟩
        rw [hq]
        go_wp2
        go_ret
        exact ⟨by rw [hfin.out]; rfl, hbel.trans (hb1.mono hbel.size)⟩
      · obtain ⟨B, hB⟩ : ∃ B, ((xs.length : Int) == q.v) = B := ⟨_, rfl⟩
        have hfin : Hid (isNum q xs = B) := by show _ = _; rw [← hB, isNum, hq, hall, Bool.and_true, Bool.true_and, Bool.eq_iff_iff, decide_eq_true_eq, beq_iff_eq]
        clear hall
        go_wp2_with fail
        refine (specIsQuiver_any _ _ _ hrq).mono ?_; rintro e w1 ⟨rfl, hb1⟩
        rw [hq]
        have f0 := (hkB.call hb1).cell' (i := 0) rfl
        clear e0 e1 e2
        cases B
        all_goals
          go_wp2
          go_ret
          exact ⟨by rw [hfin.out]; rfl, hbel.trans (hb1.mono hbel.size)⟩

theorem hasVertex_any (u : Value) (q : Qv) (v : Int) (w : World) (hu : QvR w w.heap.size u q) (hv : 1 ≤ q.v ∧ q.v ≤ 5) :
    Calls Try.prog 189 #[u, .int .i64 v] w fun e w' => e = .returned (.bool (inR v 0 (q.v - 1))) ∧ Below w.heap.size w w' := by
  obtain ⟨A, c, C, d, rfl, hf, hT, hr, lf, lt⟩ := hu.open_
  obtain ⟨hv1, hv2⟩ := hv
  have g0 := below_alloc w (.cells #[.int .i64 q.v, .slice A q.f.length c, .slice C q.t.length d] 26)
  go_enter Try.func189, Try.ntmps189
  go_wp2_with fail
  refine (within_any _ _ _ _).mono ?_; rintro e w' ⟨rfl, rfl⟩
  go_wp2
  go_ret
  exact ⟨rfl, g0⟩

/-- whether an arrow leads from v to v -/
def loopQ (q : Qv) (v : Int) : Bool := (q.f.zip q.t).any fun p => p.1 == v && p.2 == v
theorem loopQ_yes {q : Qv} {v x y : Int} {k : Nat} (hx : q.f[k]? = some x) (hy : q.t[k]? = some y) (h1 : (x == v) = true) (h2 : (y == v) = true) : loopQ q v = true := by
  rw [loopQ, List.any_eq_true]
  refine ⟨(x, y), ?_, by simp [h1, h2]⟩
  rw [List.mem_iff_getElem?]
  exact ⟨k, by rw [List.getElem?_zip_eq_some]; exact ⟨hx, hy⟩⟩
theorem loopQ_no {q : Qv} {v : Int} (h : ∀ (j : Nat) (x y : Int), q.f[j]? = some x → q.t[j]? = some y → (x == v && y == v) = false) : loopQ q v = false := by
  rw [loopQ, List.any_eq_false]
  rintro ⟨x, y⟩ hp
  rw [List.mem_iff_getElem?] at hp
  obtain ⟨j, hj⟩ := hp
  rw [List.getElem?_zip_eq_some] at hj
  simp [h j x y hj.1 hj.2]

set_option maxHeartbeats 400000 in
theorem l21Loop_any (u : Value) (q : Qv) (v : Int) (w : World) (hu : QvR w w.heap.size u q) (hl : q.f.length = q.t.length) :
    Calls Try.prog 219 #[u, .int .i64 v] w fun e w' => e = .returned (.bool (loopQ q v)) ∧ Below w.heap.size w w' := by
  obtain ⟨A, c, C, d, rfl, hf, hT, hr, lf, lt⟩ := hu.open_
  clear hu
  have HL := Lib.hid hl
  clear hl
  have g0 : Below w.heap.size w (w.alloc (.cells #[.int .i64 q.v, .slice A q.f.length c, .slice C q.t.length d] 26)) := below_alloc _ _
  have kB := Blk.new w 26 #[.int .i64 q.v, .slice A q.f.length c, .slice C q.t.length d]
  go_enter Try.func219, Try.ntmps219
  go_wp2
  go_loopw [5] (fun i wr => ∃ k n : Nat, k ≤ q.f.length ∧ i = .int .i64 k ∧ wr = (w.alloc (.cells #[.int .i64 q.v, .slice A q.f.length c, .slice C q.t.length d] 26)).drewN n ∧ Hid (∀ (j : Nat) (x y : Int), j < k → q.f[j]? = some x → q.t[j]? = some y → (x == v && y == v) = false)) (fun i _ => q.f.length - (intOf i).toNat)
  case atStart => exact ⟨0, 0, Nat.zero_le _, rfl, rfl, fun j x y h => absurd h (by omega)⟩
  case round =>
    obtain ⟨k, n, hk, rfl, hwr, hok⟩ := hrel
    have hbel : Below w.heap.size w wr := by rw [hwr]; exact below_drewN g0 n
    have hkB : Blk wr w.heap.size 26 #[.int .i64 q.v, .slice A q.f.length c, .slice C q.t.length d] := by rw [hwr]; exact kB.drewN n
    have HW := Lib.hid hwr
    have e1 := hkB.cell' (i := 1) rfl
    have e2 := hkB.cell' (i := 2) rfl
    clear hwr
    by_cases hlt : k < q.f.length
    · have hlt' : k < q.t.length := by have := HL.out; omega
      obtain ⟨b, o, x, rfl, hb, HX, x1, _⟩ := SlI.at_ hf hlt
      obtain ⟨b2, o2, y, rfl, hb2, HY, y1, _⟩ := SlI.at_ hT hlt'
      have x2 := bcell hbel hb x1
      have y2 := bcell hbel hb2 y1
      clear x1 y1 hf hT
      rcases hxv : (x == v) with _ | _
      · have hst : Hid (∀ (j : Nat) (x y : Int), j < k + 1 → q.f[j]? = some x → q.t[j]? = some y → (x == v && y == v) = false) := by
          intro j x' y' hj h1 h2
          by_cases e : j = k
          · subst e
            rw [HX.out] at h1
            injection h1 with h1
            rw [← h1, hxv]; rfl
          · exact hok.out j x' y' (by omega) h1 h2
        go_wp2
        go_roundw
        case rel => exact ⟨k + 1, n, by omega, by go_num, HW.out, hst.out⟩
        case measure => simp [intOf]; omega
      · rcases hyv : (y == v) with _ | _
        · have hst : Hid (∀ (j : Nat) (x y : Int), j < k + 1 → q.f[j]? = some x → q.t[j]? = some y → (x == v && y == v) = false) := by
            intro j x' y' hj h1 h2
            by_cases e : j = k
            · subst e
              rw [HY.out] at h2
              injection h2 with h2
              rw [← h2, hyv, Bool.and_false]
            · exact hok.out j x' y' (by omega) h1 h2
          go_wp2
          go_roundw
          case rel => exact ⟨k + 1, n, by omega, by go_num, HW.out, hst.out⟩
          case measure => simp [intOf]; omega
        · have hfin : Hid (loopQ q v = true) := loopQ_yes HX.out HY.out hxv hyv
          go_wp2
          go_ret
          exact ⟨by rw [hfin.out]; rfl, hbel⟩
    · have hfin : Hid (loopQ q v = false) := loopQ_no fun j x y h1 h2 => hok.out j x y (by have := lt_of_some h1; omega) h1 h2
      go_wp2
      go_ret
      exact ⟨by rw [hfin.out]; rfl, hbel⟩
end Go.Proofs.Ytjhllgldllbaaaa

/- Sources and sinks. -/
namespace Go.Proofs.Ytjhllgldllbaaaa
set_option linter.unusedVariables false
set_option linter.unusedSimpArgs false
open Go.RowKit

def endV (l : List Int) (q : Qv) (v : Int) : Bool := inR v 0 (q.v - 1) && !decide (v ∈ l)
def freeV (l : List Int) (k : Nat) : List Int := ((List.range k).map fun i : Nat => (i : Int)).filter fun u => !decide (u ∈ l)
theorem freeV_yes {l : List Int} {k : Nat} (h : decide ((k : Int) ∈ l) = false) : freeV l (k + 1) = freeV l k ++ [(k : Int)] := by
  simp only [freeV, List.range_succ, List.map_append, List.filter_append, List.map_cons, List.map_nil, List.filter_cons, h, Bool.not_false, if_true, List.filter_nil]
theorem freeV_no {l : List Int} {k : Nat} (h : decide ((k : Int) ∈ l) = true) : freeV l (k + 1) = freeV l k := by
  simp only [freeV, List.range_succ, List.map_append, List.filter_append, List.map_cons, List.map_nil, List.filter_cons, h, Bool.not_true, List.filter_nil, List.append_nil]
  simp
theorem freeV_length (l : List Int) (k : Nat) : (freeV l k).length ≤ k := by
  unfold freeV
  refine Nat.le_trans (List.length_filter_le _ _) ?_
  simp
theorem freeV_mem (l : List Int) (V : Nat) (q : Qv) (v : Int) (h : q.v = (V : Int)) : decide (v ∈ freeV l V) = endV l q v := by
  rw [Bool.eq_iff_iff]
  simp only [freeV, endV, decide_eq_true_eq, List.mem_filter, List.mem_map, List.mem_range, Bool.and_eq_true, inR_t, h]
  constructor
  · rintro ⟨⟨i, hi, rfl⟩, h2⟩
    exact ⟨by omega, h2⟩
  · rintro ⟨h1, h2⟩
    exact ⟨⟨v.toNat, by omega, by omega⟩, h2⟩

set_option maxHeartbeats 800000 in
theorem isSource_any (u : Value) (q : Qv) (v : Int) (w : World) (hu : QvR w w.heap.size u q) (hq : isQ q = true) :
    Calls Try.prog 158 #[u, .int .i64 v] w fun e w' => e = .returned (.bool (endV q.t q v)) ∧ Below w.heap.size w w' := by
  have hu' := hu
  obtain ⟨A, c, C, d, rfl, hf, hT, hr, lf, lt⟩ := hu.open_
  clear hu
  have hv := (isQ_t.1 hq).1
  have HQ := Lib.hid hq
  obtain ⟨W, hW⟩ : ∃ W, W = w.alloc (.cells #[.int .i64 q.v, .slice A q.f.length c, .slice C q.t.length d] 26) := ⟨_, rfl⟩
  have g0 : Below w.heap.size w W := by rw [hW]; exact below_alloc _ _
  have kB : Blk W w.heap.size 26 #[.int .i64 q.v, .slice A q.f.length c, .slice C q.t.length d] := by rw [hW]; exact Blk.new _ _ _
  have h0 := QvR.next g0 hu'
  have c0 := kB.cell' (i := 0) rfl
  have c1 := kB.cell' (i := 1) rfl
  have c2 := kB.cell' (i := 2) rfl
  clear hu' hq
  rcases h1 : inR v 0 (q.v - 1) with _ | _
  · have HF := Lib.hid (show endV q.t q v = false by simp [endV, h1])
    have H1 := Lib.hid h1
    clear h1
    go_enter Try.func158, Try.ntmps158
    go_wp2_with fail
    rw [← hW]; clear hW
    refine (implIsQuiver_any _ _ _ h0).mono ?_; rintro e w1 ⟨rfl, hb1⟩
    rw [HQ.out]
    have k1 := kB.call hb1
    have c0 := k1.cell' (i := 0) rfl
    have c1 := k1.cell' (i := 1) rfl
    have c2 := k1.cell' (i := 2) rfl
    go_wp2_with fail
    refine (hasVertex_any _ q _ _ (QvR.next hb1 h0) hv).mono ?_; rintro e w2 ⟨rfl, hb2⟩
    rw [H1.out]
    go_wp2
    go_ret
    exact ⟨by rw [HF.out]; rfl, bthen (bthen g0 hb1) hb2⟩
  · have HF := Lib.hid (show endV q.t q v = !decide (v ∈ q.t) by simp [endV, h1])
    have H1 := Lib.hid h1
    clear h1
    go_enter Try.func158, Try.ntmps158
    go_wp2_with fail
    rw [← hW]; clear hW
    refine (implIsQuiver_any _ _ _ h0).mono ?_; rintro e w1 ⟨rfl, hb1⟩
    rw [HQ.out]
    have k1 := kB.call hb1
    have c0 := k1.cell' (i := 0) rfl
    have c1 := k1.cell' (i := 1) rfl
    have c2 := k1.cell' (i := 2) rfl
    go_wp2_with fail
    refine (hasVertex_any _ q _ _ (QvR.next hb1 h0) hv).mono ?_; rintro e w2 ⟨rfl, hb2⟩
    rw [H1.out]
    have k2 := k1.call hb2
    have c0 := k2.cell' (i := 0) rfl
    have c1 := k2.cell' (i := 1) rfl
    have c2 := k2.cell' (i := 2) rfl
    go_wp2_with fail
    refine (contains_any _ _ _ _ (SlI.next hb2 (SlI.next hb1 (SlI.next g0 hT)))).mono ?_; rintro e w3 ⟨rfl, rfl⟩
    rcases hd : decide (v ∈ q.t) with _ | _
    · have HD := Lib.hid hd
      clear hd
      go_wp2
      go_ret
      exact ⟨by rw [HF.out, HD.out]; rfl, bthen (bthen g0 hb1) hb2⟩
    · have HD := Lib.hid hd
      clear hd
      go_wp2
      go_ret
      exact ⟨by rw [HF.out, HD.out]; rfl, bthen (bthen g0 hb1) hb2⟩
set_option maxHeartbeats 800000 in
theorem isSink_any (u : Value) (q : Qv) (v : Int) (w : World) (hu : QvR w w.heap.size u q) (hq : isQ q = true) :
    Calls Try.prog 154 #[u, .int .i64 v] w fun e w' => e = .returned (.bool (endV q.f q v)) ∧ Below w.heap.size w w' := by
  have hu' := hu
  obtain ⟨A, c, C, d, rfl, hf, hT, hr, lf, lt⟩ := hu.open_
  clear hu
  have hv := (isQ_t.1 hq).1
  have HQ := Lib.hid hq
  obtain ⟨W, hW⟩ : ∃ W, W = w.alloc (.cells #[.int .i64 q.v, .slice A q.f.length c, .slice C q.t.length d] 26) := ⟨_, rfl⟩
  have g0 : Below w.heap.size w W := by rw [hW]; exact below_alloc _ _
  have kB : Blk W w.heap.size 26 #[.int .i64 q.v, .slice A q.f.length c, .slice C q.t.length d] := by rw [hW]; exact Blk.new _ _ _
  have h0 := QvR.next g0 hu'
  have c0 := kB.cell' (i := 0) rfl
  have c1 := kB.cell' (i := 1) rfl
  have c2 := kB.cell' (i := 2) rfl
  clear hu' hq
  rcases h1 : inR v 0 (q.v - 1) with _ | _
  · have HF := Lib.hid (show endV q.f q v = false by simp [endV, h1])
    have H1 := Lib.hid h1
    clear h1
    go_enter Try.func154, Try.ntmps154
    go_wp2_with fail
    rw [← hW]; clear hW
    refine (implIsQuiver_any _ _ _ h0).mono ?_; rintro e w1 ⟨rfl, hb1⟩
    rw [HQ.out]
    have k1 := kB.call hb1
    have c0 := k1.cell' (i := 0) rfl
    have c1 := k1.cell' (i := 1) rfl
    have c2 := k1.cell' (i := 2) rfl
    go_wp2_with fail
    refine (hasVertex_any _ q _ _ (QvR.next hb1 h0) hv).mono ?_; rintro e w2 ⟨rfl, hb2⟩
    rw [H1.out]
    go_wp2
    go_ret
    exact ⟨by rw [HF.out]; rfl, bthen (bthen g0 hb1) hb2⟩
  · have HF := Lib.hid (show endV q.f q v = !decide (v ∈ q.f) by simp [endV, h1])
    have H1 := Lib.hid h1
    clear h1
    go_enter Try.func154, Try.ntmps154
    go_wp2_with fail
    rw [← hW]; clear hW
    refine (implIsQuiver_any _ _ _ h0).mono ?_; rintro e w1 ⟨rfl, hb1⟩
    rw [HQ.out]
    have k1 := kB.call hb1
    have c0 := k1.cell' (i := 0) rfl
    have c1 := k1.cell' (i := 1) rfl
    have c2 := k1.cell' (i := 2) rfl
    go_wp2_with fail
    refine (hasVertex_any _ q _ _ (QvR.next hb1 h0) hv).mono ?_; rintro e w2 ⟨rfl, hb2⟩
    rw [H1.out]
    have k2 := k1.call hb2
    have c0 := k2.cell' (i := 0) rfl
    have c1 := k2.cell' (i := 1) rfl
    have c2 := k2.cell' (i := 2) rfl
    go_wp2_with fail
    refine (contains_any _ _ _ _ (SlI.next hb2 (SlI.next hb1 (SlI.next g0 hf)))).mono ?_; rintro e w3 ⟨rfl, rfl⟩
    rcases hd : decide (v ∈ q.f) with _ | _
    · have HD := Lib.hid hd
      clear hd
      go_wp2
      go_ret
      exact ⟨by rw [HF.out, HD.out]; rfl, bthen (bthen g0 hb1) hb2⟩
    · have HD := Lib.hid hd
      clear hd
      go_wp2
      go_ret
      exact ⟨by rw [HF.out, HD.out]; rfl, bthen (bthen g0 hb1) hb2⟩

set_option maxHeartbeats 1600000 in
theorem sourcesOf_any (u : Value) (q : Qv) (w : World) (hu : QvR w w.heap.size u q) (hq : isQ q = true) :
    Calls Try.prog 157 #[u] w fun e w' => ∃ v, e = .returned v ∧ SlI w' w'.heap.size v (freeV q.t q.v.toNat) ∧ Below w.heap.size w w' := by
  have hu' := hu
  obtain ⟨A, c, C, d, rfl, hf, hT, hr, lf, lt⟩ := hu.open_
  clear hu
  obtain ⟨hv1, hv2⟩ := (isQ_t.1 hq).1
  have HQ := Lib.hid hq
  obtain ⟨V, hV⟩ : ∃ V : Nat, q.v = (V : Int) := ⟨q.v.toNat, by omega⟩
  have HV := Lib.hid hV
  rw [show q.v.toNat = V by omega]
  have hV5 : V ≤ 5 := by omega
  obtain ⟨W, hW⟩ : ∃ W, W = (w.alloc (.cells #[.int .i64 q.v, .slice A q.f.length c, .slice C q.t.length d] 26)).alloc (.cells #[] 3) := ⟨_, rfl⟩
  have g0 : Below w.heap.size w W := by rw [hW]; exact ((Below.refl _ _).alloc (Nat.le_refl _) _).alloc (by simp) _
  have kB : Blk W w.heap.size 26 #[.int .i64 q.v, .slice A q.f.length c, .slice C q.t.length d] := by rw [hW]; exact (Blk.new _ _ _).alloc _
  have ho : OwnI W (w.heap.size + 1) (.slice (some ⟨w.heap.size + 1, 0, none⟩) 0 0) [] := by
    rw [hW]
    have := OwnI.made (w := w.alloc (.cells #[.int .i64 q.v, .slice A q.f.length c, .slice C q.t.length d] 26)) (base := w.heap.size + 1) 3 rfl (by simp)
    simpa only [World.size_alloc] using this
  have sz : W.heap.size = w.heap.size + 1 + 1 := by rw [hW]; simp
  have HU := Lib.hid hu'
  have HX := Lib.hid hT
  have SZ := Lib.hid sz
  clear hu' hq sz hV
  go_enter Try.func157, Try.ntmps157
  go_wp2
  rw [← hW]; clear hW
  go_loopw [3, 4] (fun out i wr => ∃ k : Nat, k ≤ V ∧ i = .int .i64 k ∧ OwnI wr (w.heap.size + 1) out (freeV q.t k) ∧ Below w.heap.size w wr ∧ Below (w.heap.size + 1) W wr ∧ W.heap.size ≤ wr.heap.size) (fun _ i _ => V - (intOf i).toNat)
  case atStart => exact ⟨0, Nat.zero_le _, rfl, ho, g0, Below.refl _ _, Nat.le_refl _⟩
  case round =>
    clear ho
    obtain ⟨k, hk, rfl, ho, hb, hbW, hs⟩ := hrel
    have sz := SZ.out
    have kR := kB.below hbW (by omega)
    have c0 := kR.cell' (i := 0) rfl
    have c1 := kR.cell' (i := 1) rfl
    have c2 := kR.cell' (i := 2) rfl
    clear sz
    by_cases hlt : (k : Int) < q.v
    · have HL := Lib.hid hlt
      obtain ⟨OA, oc, rfl, _, _⟩ := ho.form
      go_wp2_with fail
      refine (specIsQuiver_any _ q _ (QvR.more hb.size (QvR.below hb HU.out))).mono ?_; rintro e w1 ⟨rfl, hb1⟩
      rw [HQ.out]
      have ho1 := ho.below hb1
      have kR1 := kR.call hb1
      have hbA := hb.trans (hb1.mono hb.size)
      have s1 := hb1.size
      have hx1 := SlI.more hbA.size (SlI.below hbA HX.out)
      have c0 := kR1.cell' (i := 0) rfl
      have c1 := kR1.cell' (i := 1) rfl
      have c2 := kR1.cell' (i := 2) rfl
      clear ho kR
      go_wp2_with fail
      refine (l4Has_any _ _ _ _ hx1).mono ?_; rintro e w2 ⟨rfl, hb2⟩
      have ho2 := ho1.below hb2
      have hbB := hbA.trans (hb2.mono hbA.size)
      have hbW2 := hbW.trans ((hb1.mono (by have := SZ.out; omega)).trans (hb2.mono (by have := SZ.out; omega)))
      have s2 := hb2.size
      have sB := hbB.size
      rcases hd : decide ((k : Int) ∈ q.t) with _ | _
      · have HN := Lib.hid (freeV_yes hd)
        clear hd ho1 hx1 c0 c1 c2 kR1 hbA hb1 hb2
        have HO2 := Lib.hid ho2
        have HW2 := Lib.hid hbW2
        have HB := Lib.hid hbB
        have hlo2 := ho2.lt
        clear ho2 hbW2 hbB
        (go_wp2_with (at_builtin; refine Hold.stop ?_)); unfold Hold
        obtain ⟨X, hX⟩ : ∃ X, X = w2.alloc (.cells #[.int .i64 (k : Int)] 3) := ⟨_, rfl⟩
        have gn : Below w2.heap.size w2 X := by rw [hX]; exact below_alloc _ _
        have h1x : SlI X X.heap.size (.slice (some ⟨w2.heap.size, 0, none⟩) 1 1) [(k : Int)] := by rw [hX]; exact SlI.one _ _ _ (by simp only [I64]; omega)
        have ho3 := (HO2.out).below gn
        have gns := gn.size
        rw [← hX]
        clear hX
        have hfl := freeV_length q.t k
        refine wpList_appI rfl (.tmp 21) (.tmp 23) rfl (w.heap.size + 1) X.heap.size _ _ rfl ho3 _ 1 1 [(k : Int)] rfl rfl h1x (by simp; omega) (by have := SZ.out; omega) ?_
        intro v' w' h1 h2 h3
        rw [← HN.out] at h1
        have hbX := below_grown h2 (B := w.heap.size + 1) (fun k hk => (hlo2 k hk).1) (by have := SZ.out; omega)
        have H1 := Lib.hid h1
        have G1 := Lib.hid ((HB.out).trans ((gn.mono sB).trans (hbX.mono (by omega))))
        have G2 := Lib.hid ((HW2.out).trans ((gn.mono (by have := SZ.out; omega)).trans hbX))
        have s4 := hbX.size
        clear h1 h2 h3 hbX hlo2 h1x ho3 gn
        go_wp2
        go_roundw
        case rel => exact ⟨k + 1, by have := HV.out; have := HL.out; omega, by go_num, H1.out, G1.out, G2.out, by omega⟩
        case measure => simp [intOf]; have := HV.out; have := HL.out; omega
      · have HN := Lib.hid (freeV_no hd)
        have HO2 := Lib.hid (show OwnI w2 (w.heap.size + 1) _ (freeV q.t (k + 1)) by rw [HN.out]; exact ho2)
        have HW2 := Lib.hid hbW2
        have HB := Lib.hid hbB
        clear hd ho1 hx1 c0 c1 c2 kR1 hbA hb1 hb2 ho2 hbW2 hbB
        go_wp2
        go_roundw
        case rel => exact ⟨k + 1, by have := HV.out; have := HL.out; omega, by go_num, HO2.out, HB.out, HW2.out, by omega⟩
        case measure => simp [intOf]; have := HV.out; have := HL.out; omega
    · have hkV : k = V := by have := HV.out; omega
      subst hkV
      have HO := Lib.hid ho
      have HB := Lib.hid hb
      clear ho hb
      go_wp2
      go_ret
      exact ⟨_, rfl, (HO.out).rd, HB.out⟩
set_option maxHeartbeats 1600000 in
theorem sinksOf_any (u : Value) (q : Qv) (w : World) (hu : QvR w w.heap.size u q) (hq : isQ q = true) :
    Calls Try.prog 148 #[u] w fun e w' => ∃ v, e = .returned v ∧ SlI w' w'.heap.size v (freeV q.f q.v.toNat) ∧ Below w.heap.size w w' := by
  have hu' := hu
  obtain ⟨A, c, C, d, rfl, hf, hT, hr, lf, lt⟩ := hu.open_
  clear hu
  obtain ⟨hv1, hv2⟩ := (isQ_t.1 hq).1
  have HQ := Lib.hid hq
  obtain ⟨V, hV⟩ : ∃ V : Nat, q.v = (V : Int) := ⟨q.v.toNat, by omega⟩
  have HV := Lib.hid hV
  rw [show q.v.toNat = V by omega]
  have hV5 : V ≤ 5 := by omega
  obtain ⟨W, hW⟩ : ∃ W, W = (w.alloc (.cells #[.int .i64 q.v, .slice A q.f.length c, .slice C q.t.length d] 26)).alloc (.cells #[] 3) := ⟨_, rfl⟩
  have g0 : Below w.heap.size w W := by rw [hW]; exact ((Below.refl _ _).alloc (Nat.le_refl _) _).alloc (by simp) _
  have kB : Blk W w.heap.size 26 #[.int .i64 q.v, .slice A q.f.length c, .slice C q.t.length d] := by rw [hW]; exact (Blk.new _ _ _).alloc _
  have ho : OwnI W (w.heap.size + 1) (.slice (some ⟨w.heap.size + 1, 0, none⟩) 0 0) [] := by
    rw [hW]
    have := OwnI.made (w := w.alloc (.cells #[.int .i64 q.v, .slice A q.f.length c, .slice C q.t.length d] 26)) (base := w.heap.size + 1) 3 rfl (by simp)
    simpa only [World.size_alloc] using this
  have sz : W.heap.size = w.heap.size + 1 + 1 := by rw [hW]; simp
  have HU := Lib.hid hu'
  have HX := Lib.hid hf
  have SZ := Lib.hid sz
  clear hu' hq sz hV
  go_enter Try.func148, Try.ntmps148
  go_wp2
  rw [← hW]; clear hW
  go_loopw [3, 4] (fun out i wr => ∃ k : Nat, k ≤ V ∧ i = .int .i64 k ∧ OwnI wr (w.heap.size + 1) out (freeV q.f k) ∧ Below w.heap.size w wr ∧ Below (w.heap.size + 1) W wr ∧ W.heap.size ≤ wr.heap.size) (fun _ i _ => V - (intOf i).toNat)
  case atStart => exact ⟨0, Nat.zero_le _, rfl, ho, g0, Below.refl _ _, Nat.le_refl _⟩
  case round =>
    clear ho
    obtain ⟨k, hk, rfl, ho, hb, hbW, hs⟩ := hrel
    have sz := SZ.out
    have kR := kB.below hbW (by omega)
    have c0 := kR.cell' (i := 0) rfl
    have c1 := kR.cell' (i := 1) rfl
    have c2 := kR.cell' (i := 2) rfl
    clear sz
    by_cases hlt : (k : Int) < q.v
    · have HL := Lib.hid hlt
      obtain ⟨OA, oc, rfl, _, _⟩ := ho.form
      go_wp2_with fail
      refine (specIsQuiver_any _ q _ (QvR.more hb.size (QvR.below hb HU.out))).mono ?_; rintro e w1 ⟨rfl, hb1⟩
      rw [HQ.out]
      have ho1 := ho.below hb1
      have kR1 := kR.call hb1
      have hbA := hb.trans (hb1.mono hb.size)
      have s1 := hb1.size
      have hx1 := SlI.more hbA.size (SlI.below hbA HX.out)
      have c0 := kR1.cell' (i := 0) rfl
      have c1 := kR1.cell' (i := 1) rfl
      have c2 := kR1.cell' (i := 2) rfl
      clear ho kR
      go_wp2_with fail
      refine (l4Has_any _ _ _ _ hx1).mono ?_; rintro e w2 ⟨rfl, hb2⟩
      have ho2 := ho1.below hb2
      have hbB := hbA.trans (hb2.mono hbA.size)
      have hbW2 := hbW.trans ((hb1.mono (by have := SZ.out; omega)).trans (hb2.mono (by have := SZ.out; omega)))
      have s2 := hb2.size
      have sB := hbB.size
      rcases hd : decide ((k : Int) ∈ q.f) with _ | _
      · have HN := Lib.hid (freeV_yes hd)
        clear hd ho1 hx1 c0 c1 c2 kR1 hbA hb1 hb2
        have HO2 := Lib.hid ho2
        have HW2 := Lib.hid hbW2
        have HB := Lib.hid hbB
        have hlo2 := ho2.lt
        clear ho2 hbW2 hbB
        (go_wp2_with (at_builtin; refine Hold.stop ?_)); unfold Hold
        obtain ⟨X, hX⟩ : ∃ X, X = w2.alloc (.cells #[.int .i64 (k : Int)] 3) := ⟨_, rfl⟩
        have gn : Below w2.heap.size w2 X := by rw [hX]; exact below_alloc _ _
        have h1x : SlI X X.heap.size (.slice (some ⟨w2.heap.size, 0, none⟩) 1 1) [(k : Int)] := by rw [hX]; exact SlI.one _ _ _ (by simp only [I64]; omega)
        have ho3 := (HO2.out).below gn
        have gns := gn.size
        rw [← hX]
        clear hX
        have hfl := freeV_length q.f k
        refine wpList_appI rfl (.tmp 21) (.tmp 23) rfl (w.heap.size + 1) X.heap.size _ _ rfl ho3 _ 1 1 [(k : Int)] rfl rfl h1x (by simp; omega) (by have := SZ.out; omega) ?_
        intro v' w' h1 h2 h3
        rw [← HN.out] at h1
        have hbX := below_grown h2 (B := w.heap.size + 1) (fun k hk => (hlo2 k hk).1) (by have := SZ.out; omega)
        have H1 := Lib.hid h1
        have G1 := Lib.hid ((HB.out).trans ((gn.mono sB).trans (hbX.mono (by omega))))
        have G2 := Lib.hid ((HW2.out).trans ((gn.mono (by have := SZ.out; omega)).trans hbX))
        have s4 := hbX.size
        clear h1 h2 h3 hbX hlo2 h1x ho3 gn
        go_wp2
        go_roundw
        case rel => exact ⟨k + 1, by have := HV.out; have := HL.out; omega, by go_num, H1.out, G1.out, G2.out, by omega⟩
        case measure => simp [intOf]; have := HV.out; have := HL.out; omega
      · have HN := Lib.hid (freeV_no hd)
        have HO2 := Lib.hid (show OwnI w2 (w.heap.size + 1) _ (freeV q.f (k + 1)) by rw [HN.out]; exact ho2)
        have HW2 := Lib.hid hbW2
        have HB := Lib.hid hbB
        clear hd ho1 hx1 c0 c1 c2 kR1 hbA hb1 hb2 ho2 hbW2 hbB
        go_wp2
        go_roundw
        case rel => exact ⟨k + 1, by have := HV.out; have := HL.out; omega, by go_num, HO2.out, HB.out, HW2.out, by omega⟩
        case measure => simp [intOf]; have := HV.out; have := HL.out; omega
    · have hkV : k = V := by have := HV.out; omega
      subst hkV
      have HO := Lib.hid ho
      have HB := Lib.hid hb
      clear ho hb
      go_wp2
      go_ret
      exact ⟨_, rfl, (HO.out).rd, HB.out⟩
end Go.Proofs.Ytjhllgldllbaaaa
