/- FnExactCoxeterNumber: for every argument the program's function returns what the reference's returns. Part 3 of 7 of the proof: Flat, Ident, AppS, SSO, Det0, Small, Find, IsQ, Num, Symm, Kind0, Minor, RowAt, RowZ, ColZ, FromC. No condition. -/
import Derived.Test.YtjhllgldllbaaaaBCoxeterNumber2
import Derived.Shelf.RegionOpenPlain
import Derived.Laws.Bits128
/- Matrices told by a function of the two places: cells in one row. -/
namespace Go.Proofs.Ytjhllgldllbaaaa
set_option linter.unusedVariables false
set_option linter.unusedSimpArgs false
open Go.RowKit

theorem ix_div {i k c : Nat} (hk : k < c) : (i * c + k) / c = i := by
  rw [Nat.mul_comm, Nat.mul_add_div (by omega), Nat.div_eq_of_lt hk, Nat.add_zero]
theorem ix_mod {i k c : Nat} (hk : k < c) : (i * c + k) % c = k := by
  rw [Nat.mul_comm, Nat.mul_add_mod, Nat.mod_eq_of_lt hk]
theorem ix_lt {i k r c : Nat} (hi : i < r) (hk : k < c) : i * c + k < r * c := by
  have : (i + 1) * c ≤ r * c := Nat.mul_le_mul_right _ hi
  rw [Nat.add_mul] at this
  omega
theorem ix_of {j r c : Nat} (hj : j < r * c) : ∃ i k, i < r ∧ k < c ∧ j = i * c + k := by
  have hc : 0 < c := Nat.pos_of_ne_zero (by rintro rfl; simp at hj)
  refine ⟨j / c, j % c, (Nat.div_lt_iff_lt_mul hc).2 hj, Nat.mod_lt _ hc, ?_⟩
  rw [Nat.mul_comm]; exact (Nat.div_add_mod j c).symm
theorem ix_inj {i k i' k' c : Nat} (hk : k < c) (hk' : k' < c) (h : i * c + k = i' * c + k') : i = i' ∧ k = k' := by
  have h1 := ix_div (i := i) hk
  have h2 := ix_mod (i := i) hk
  rw [h, ix_div hk'] at h1
  rw [h, ix_mod hk'] at h2
  exact ⟨h1.symm, h2.symm⟩

def flat (r c : Nat) (f : Nat → Nat → Int) : List Int := (List.range (r * c)).map fun j => f (j / c) (j % c)
theorem flat_length (r c : Nat) (f : Nat → Nat → Int) : (flat r c f).length = r * c := by simp [flat]
theorem flat_get {r c i k : Nat} (f : Nat → Nat → Int) (hi : i < r) (hk : k < c) : (flat r c f)[i * c + k]? = some (f i k) := by
  simp [flat, ix_lt hi hk, ix_div hk, ix_mod hk]
theorem flat_getD {r c i k : Nat} (f : Nat → Nat → Int) (hi : i < r) (hk : k < c) : (flat r c f).getD (i * c + k) 0 = f i k := by
  rw [List.getD_eq_getElem?_getD, flat_get f hi hk]; rfl
theorem flat_ext {r c : Nat} {l : List Int} {f : Nat → Nat → Int} (hl : l.length = r * c) (h : ∀ i k, i < r → k < c → l[i * c + k]? = some (f i k)) : l = flat r c f := by
  apply List.ext_getElem?
  intro j
  by_cases hj : j < r * c
  · obtain ⟨i, k, hi, hk, rfl⟩ := ix_of hj
    rw [h i k hi hk, flat_get f hi hk]
  · rw [List.getElem?_eq_none (by omega), List.getElem?_eq_none (by rw [flat_length]; omega)]
theorem flat_congr {r c : Nat} {f g : Nat → Nat → Int} (h : ∀ a b, a < r → b < c → f a b = g a b) : flat r c f = flat r c g :=
  flat_ext (flat_length _ _ _) fun i k hi hk => by rw [flat_get f hi hk, h i k hi hk]
theorem flat_inj {r c : Nat} {f g : Nat → Nat → Int} (h : flat r c f = flat r c g) {a b : Nat} (ha : a < r) (hb : b < c) : f a b = g a b := by
  have := flat_get f ha hb
  rw [h, flat_get g ha hb] at this
  injection this with this
  exact this.symm
theorem flat_set {r c i k : Nat} (f : Nat → Nat → Int) (x : Int) (hi : i < r) (hk : k < c) : (flat r c f).set (i * c + k) x = flat r c fun a b => if a = i ∧ b = k then x else f a b := by
  refine flat_ext (by simp [flat_length]) fun a b ha hb => ?_
  rw [List.getElem?_set]
  by_cases e : i * c + k = a * c + b
  · obtain ⟨rfl, rfl⟩ := ix_inj hk hb e
    rw [if_pos rfl, if_pos (by rw [flat_length]; exact ix_lt hi hk), if_pos ⟨rfl, rfl⟩]
  · rw [if_neg e, flat_get f ha hb, if_neg]
    rintro ⟨rfl, rfl⟩
    exact e rfl
theorem flat_zero (r c : Nat) : flat r c (fun _ _ => 0) = List.replicate (r * c) 0 := by
  refine (flat_ext (by simp) fun i k hi hk => ?_).symm
  have := ix_lt hi hk
  simp [this]
theorem flat_mem {r c : Nat} {f : Nat → Nat → Int} {x : Int} (h : x ∈ flat r c f) : ∃ i k, i < r ∧ k < c ∧ x = f i k := by
  simp only [flat, List.mem_map, List.mem_range] at h
  obtain ⟨j, hj, rfl⟩ := h
  obtain ⟨i, k, hi, hk, rfl⟩ := ix_of hj
  exact ⟨i, k, hi, hk, by rw [ix_div hk, ix_mod hk]⟩
/-- a list of so many numbers is told by its entries -/
def entry (l : List Int) (c i k : Nat) : Int := l.getD (i * c + k) 0
theorem flat_of {l : List Int} {r c : Nat} (hl : l.length = r * c) : l = flat r c (entry l c) :=
  flat_ext hl fun i k hi hk => by
    have := ix_lt hi hk
    rw [entry, List.getD_eq_getElem?_getD, List.getElem?_eq_getElem (by omega)]; rfl

def mxF (r c : Nat) (f : Nat → Nat → Int) : Mx := ⟨r, c, flat r c f⟩
theorem zmx_flat (r c : Nat) : zmx r c = mxF r c fun _ _ => 0 := by
  rw [mxF, flat_zero, zmx]
  congr
theorem mxF_congr {r c : Nat} {f g : Nat → Nat → Int} (h : ∀ a b, a < r → b < c → f a b = g a b) : mxF r c f = mxF r c g := by rw [mxF, mxF, flat_congr h]

/-- what a walk needs of an index -/
theorem ix_walk {i k r c : Nat} (hi : i < r) (hk : k < c) (hr : r ≤ 1000) (hc : c ≤ 1000) :
    ∃ P J : Nat, wrap64 ((i : Int) * (c : Int)) = (P : Int) ∧ P + k = J ∧ J = i * c + k ∧ J < r * c ∧ J ≤ 1000000 := by
  have h1 := ix_lt hi hk
  have h2 : r * c ≤ 1000 * 1000 := Nat.mul_le_mul hr hc
  refine ⟨i * c, i * c + k, ?_, rfl, rfl, h1, by omega⟩
  rw [show ((i : Int) * (c : Int)) = ((i * c : Nat) : Int) by simp]
  exact IntWalk.wrap64_in _ ⟨by omega, by omega⟩
end Go.Proofs.Ytjhllgldllbaaaa

/- Identity matrices: the program's and the reference's. -/
namespace Go.Proofs.Ytjhllgldllbaaaa
set_option linter.unusedVariables false
set_option linter.unusedSimpArgs false
open Go.RowKit

theorem IntsO.at_ {w : World} {lo hi : Nat} {v : Value} {l : List Int} (h : IntsO w lo hi v l) (h0 : 0 < l.length) : ∃ g c, v = .slice (some ⟨g, 0, none⟩) l.length c ∧ lo ≤ g ∧ g < hi ∧ g < w.heap.size := by
  rcases h.1.1.2 with ⟨rfl, h1⟩ | ⟨g, cap, cur, rfl, hg, hh, _⟩
  · omega
  · exact ⟨g, cap, rfl, hg, h.2 g rfl, (Array.getElem?_eq_some_iff.1 hh).1⟩
theorem IntsO.put {w : World} {lo hi g n cap j : Nat} {l : List Int} {x : Int} (h : IntsO w lo hi (.slice (some ⟨g, 0, none⟩) n cap) l) (hx : I64 x) : IntsO (w.setCell ⟨g, j, none⟩ (.int .i64 x)) lo hi (.slice (some ⟨g, 0, none⟩) n cap) (l.set j x) := ⟨(h.1.put hx).1, h.2⟩
def idF (a b : Nat) : Int := if a = b then 1 else 0
def idK (k a b : Nat) : Int := if a = b ∧ a < k then 1 else 0
theorem idK_0 (n : Nat) : flat n n (fun _ _ => 0) = flat n n (idK 0) := flat_congr fun a b _ _ => by simp [idK]
theorem idK_succ {n k : Nat} (h : k < n) : (flat n n (idK k)).set (k * n + k) 1 = flat n n (idK (k + 1)) := by
  rw [flat_set _ _ h h]
  refine flat_congr fun a b _ _ => ?_
  simp only [idK]
  by_cases e : a = b
  · subst e
    by_cases e2 : a = k
    · simp [e2]
    · simp only [e2, true_and, if_false, false_and]
      congr 1
      simp; omega
  · rw [if_neg (by omega), if_neg (by omega), if_neg (by omega)]
theorem idK_n (n : Nat) : flat n n (idK n) = flat n n idF := flat_congr fun a b ha _ => by simp [idK, idF, ha]

set_option maxHeartbeats 800000 in
theorem identity_any (n : Nat) (w : World) (hn : n ≤ 100) :
    Calls Try.prog 106 #[.int .i64 n] w fun e w' => ∃ v, e = .returned v ∧ MxO w' w.heap.size w'.heap.size v (mxF n n idF) ∧ Below w.heap.size w w' := by
  obtain ⟨W, hW⟩ : ∃ W, W = w.alloc (.cells #[.int .i64 0, .int .i64 0, .slice none 0 0] 75) := ⟨_, rfl⟩
  have g0 : Below w.heap.size w W := by rw [hW]; exact below_alloc _ _
  have k2 : Blk W w.heap.size 75 #[.int .i64 0, .int .i64 0, .slice none 0 0] := by rw [hW]; exact Blk.new _ _ _
  have sz : W.heap.size = w.heap.size + 1 := by rw [hW]; simp
  have K2 := Lib.hid k2
  have SZ := Lib.hid sz
  clear k2 sz
  go_enter Try.func106, Try.ntmps106
  go_wp2_with fail
  rw [← hW]; clear hW
  refine (zero_any (n : Int) n W (by omega) (by omega) (by omega) (by omega)).mono ?_; rintro e w1 ⟨v1, rfl, ⟨sA, rfl, oA, hr, hc⟩, hb1⟩
  rw [zmx_flat] at oA hr hc ⊢
  simp only [mxF] at oA hr hc ⊢
  rw [idK_0] at oA
  obtain ⟨A1, c1, e1⟩ := oA.form
  obtain ⟨N, hN⟩ : ∃ N, n * n = N := ⟨_, rfl⟩
  rw [flat_length, hN] at e1
  subst e1
  have HN := Lib.hid hN
  clear hN
  have s1 := hb1.size
  obtain ⟨W4, hW4⟩ : ∃ W4, W4 = w1.alloc (.cells #[.int .i64 n, .int .i64 n, .slice A1 N c1] 75) := ⟨_, rfl⟩
  have b4 : Below w1.heap.size w1 W4 := by rw [hW4]; exact below_alloc _ _
  have k4 : Blk W4 w1.heap.size 75 #[.int .i64 n, .int .i64 n, .slice A1 N c1] := by rw [hW4]; exact Blk.new _ _ _
  have oA := oA.below b4
  have gW := bthen hb1 b4
  clear b4 hb1
  go_wp2
  rw [← hW4]; clear hW4
  go_loopw [9] (fun i wr => ∃ k : Nat, k ≤ n ∧ i = .int .i64 k ∧ Blk wr w1.heap.size 75 #[.int .i64 n, .int .i64 n, .slice A1 N c1] ∧ IntsO wr W.heap.size w1.heap.size (.slice A1 N c1) (flat n n (idK k)) ∧ Below W.heap.size W wr) (fun i _ => n - (intOf i).toNat)
  case atStart => exact ⟨0, Nat.zero_le _, rfl, k4, oA, gW⟩
  case round =>
    clear k4 oA gW
    obtain ⟨k, hk, rfl, k4, oA, gW⟩ := hrel
    have s6 := gW.size
    by_cases hlt : k < n
    · obtain ⟨P, J, hP, hPJ, hJ, hJN, hJb⟩ := ix_walk hlt hlt (show n ≤ 1000 by omega) (by omega)
      rw [HN.out] at hJN
      have hst := idK_succ hlt
      rw [← hJ] at hst
      subst hPJ
      obtain ⟨gA, cA, eA, a1, a2, a3⟩ := oA.at_ (by rw [flat_length, HN.out]; omega)
      rw [flat_length, HN.out] at eA
      injection eA with eA1 eA2 eA3
      subst eA1 eA3
      have r2 := k4.cell' (i := 2) rfl
      have fA := oA.1.frozenG (P + k)
      have cA := (oA.1.cellG (j := P + k) (by rw [flat_length, HN.out]; omega)).1
      have hc1 : Chg W.heap.size w1.heap.size wr (wr.setCell ⟨gA, P + k, none⟩ (.int .i64 1)) := chg_set a1 a2
      have oA2 := oA.put (j := P + k) (x := 1) (by simp [I64])
      rw [hst] at oA2
      have OA2 := Lib.hid oA2
      have K4 := Lib.hid (k4.chg hc1 (by omega))
      have GW := Lib.hid (gW.trans (hc1.below (Nat.le_refl _) s6))
      clear oA2 k4 oA gW hc1 hst hJ
      go_wp2
      go_roundw
      case rel => exact ⟨k + 1, by omega, by go_num, K4.out, OA2.out, GW.out⟩
      case measure => simp [intOf]; omega
    · obtain rfl : k = n := by omega
      have k2 := K2.out.below gW (by have := SZ.out; omega)
      have z0 := k4.cell' (i := 0) rfl
      have z1 := k4.cell' (i := 1) rfl
      have z2 := k4.cell' (i := 2) rfl
      have p0 := k2.cell' (i := 0) rfl
      have p1 := k2.cell' (i := 1) rfl
      have p2 := k2.cell' (i := 2) rfl
      have f2 := k2.frozen
      have h2 := chg3 wr w.heap.size (.int .i64 (k : Int)) (.int .i64 k) (.slice A1 N c1)
      rw [idK_n] at oA
      have gw : Below w.heap.size w wr := g0.trans (gW.mono g0.size)
      have gs := gw.size
      have oA2 := (oA.chg h2 (.inr (by have := SZ.out; omega))).wider (lo' := w.heap.size) (hi' := wr.heap.size) (by have := SZ.out; omega) (by have := k4.lt; omega)
      have fg := gw.trans (h2.below (Nat.le_refl _) gs)
      have OA2 := Lib.hid oA2
      have FG := Lib.hid fg
      clear oA oA2 fg gw h2 k2 k4 gW
      go_wp2
      exact bodyPost_ret (v := .agg #[.int .i64 (k : Int), .int .i64 k, .slice A1 N c1]) (by simp [results, go_sem, p0, p1, p2]) rfl ⟨_, rfl, ⟨_, rfl, by simpa [mxF] using OA2.out, by simp only [mxF, I64]; omega, by simp only [mxF, I64]; omega⟩, FG.out⟩
set_option maxHeartbeats 800000 in
theorem l3Identity_any (n : Nat) (w : World) (hn : n ≤ 100) :
    Calls Try.prog 115 #[.int .i64 n] w fun e w' => ∃ v, e = .returned v ∧ MxO w' w.heap.size w'.heap.size v (mxF n n idF) ∧ Below w.heap.size w w' := by
  obtain ⟨W, hW⟩ : ∃ W, W = w.alloc (.cells #[.int .i64 0, .int .i64 0, .slice none 0 0] 75) := ⟨_, rfl⟩
  have g0 : Below w.heap.size w W := by rw [hW]; exact below_alloc _ _
  have k2 : Blk W w.heap.size 75 #[.int .i64 0, .int .i64 0, .slice none 0 0] := by rw [hW]; exact Blk.new _ _ _
  have sz : W.heap.size = w.heap.size + 1 := by rw [hW]; simp
  have K2 := Lib.hid k2
  have SZ := Lib.hid sz
  clear k2 sz
  go_enter Try.func115, Try.ntmps115
  go_wp2_with fail
  rw [← hW]; clear hW
  refine (l3Zero_any (n : Int) n W (by omega) (by omega) (by omega) (by omega)).mono ?_; rintro e w1 ⟨v1, rfl, ⟨sA, rfl, oA, hr, hc⟩, hb1⟩
  rw [zmx_flat] at oA hr hc ⊢
  simp only [mxF] at oA hr hc ⊢
  rw [idK_0] at oA
  obtain ⟨A1, c1, e1⟩ := oA.form
  obtain ⟨N, hN⟩ : ∃ N, n * n = N := ⟨_, rfl⟩
  rw [flat_length, hN] at e1
  subst e1
  have HN := Lib.hid hN
  clear hN
  have s1 := hb1.size
  obtain ⟨W4, hW4⟩ : ∃ W4, W4 = w1.alloc (.cells #[.int .i64 n, .int .i64 n, .slice A1 N c1] 75) := ⟨_, rfl⟩
  have b4 : Below w1.heap.size w1 W4 := by rw [hW4]; exact below_alloc _ _
  have k4 : Blk W4 w1.heap.size 75 #[.int .i64 n, .int .i64 n, .slice A1 N c1] := by rw [hW4]; exact Blk.new _ _ _
  have oA := oA.below b4
  have gW := bthen hb1 b4
  clear b4 hb1
  go_wp2
  rw [← hW4]; clear hW4
  go_loopw [4] (fun i wr => ∃ k : Nat, k ≤ n ∧ i = .int .i64 k ∧ Blk wr w1.heap.size 75 #[.int .i64 n, .int .i64 n, .slice A1 N c1] ∧ IntsO wr W.heap.size w1.heap.size (.slice A1 N c1) (flat n n (idK k)) ∧ Below W.heap.size W wr) (fun i _ => n - (intOf i).toNat)
  case atStart => exact ⟨0, Nat.zero_le _, rfl, k4, oA, gW⟩
  case round =>
    clear k4 oA gW
    obtain ⟨k, hk, rfl, k4, oA, gW⟩ := hrel
    have s6 := gW.size
    by_cases hlt : k < n
    · obtain ⟨P, J, hP, hPJ, hJ, hJN, hJb⟩ := ix_walk hlt hlt (show n ≤ 1000 by omega) (by omega)
      rw [HN.out] at hJN
      have hst := idK_succ hlt
      rw [← hJ] at hst
      subst hPJ
      obtain ⟨gA, cA, eA, a1, a2, a3⟩ := oA.at_ (by rw [flat_length, HN.out]; omega)
      rw [flat_length, HN.out] at eA
      injection eA with eA1 eA2 eA3
      subst eA1 eA3
      have r2 := k4.cell' (i := 2) rfl
      have fA := oA.1.frozenG (P + k)
      have cA := (oA.1.cellG (j := P + k) (by rw [flat_length, HN.out]; omega)).1
      have hc1 : Chg W.heap.size w1.heap.size wr (wr.setCell ⟨gA, P + k, none⟩ (.int .i64 1)) := chg_set a1 a2
      have oA2 := oA.put (j := P + k) (x := 1) (by simp [I64])
      rw [hst] at oA2
      have OA2 := Lib.hid oA2
      have K4 := Lib.hid (k4.chg hc1 (by omega))
      have GW := Lib.hid (gW.trans (hc1.below (Nat.le_refl _) s6))
      clear oA2 k4 oA gW hc1 hst hJ
      go_wp2
      go_roundw
      case rel => exact ⟨k + 1, by omega, by go_num, K4.out, OA2.out, GW.out⟩
      case measure => simp [intOf]; omega
    · obtain rfl : k = n := by omega
      have k2 := K2.out.below gW (by have := SZ.out; omega)
      have z0 := k4.cell' (i := 0) rfl
      have z1 := k4.cell' (i := 1) rfl
      have z2 := k4.cell' (i := 2) rfl
      have p0 := k2.cell' (i := 0) rfl
      have p1 := k2.cell' (i := 1) rfl
      have p2 := k2.cell' (i := 2) rfl
      have f2 := k2.frozen
      have h2 := chg3 wr w.heap.size (.int .i64 (k : Int)) (.int .i64 k) (.slice A1 N c1)
      rw [idK_n] at oA
      have gw : Below w.heap.size w wr := g0.trans (gW.mono g0.size)
      have gs := gw.size
      have oA2 := (oA.chg h2 (.inr (by have := SZ.out; omega))).wider (lo' := w.heap.size) (hi' := wr.heap.size) (by have := SZ.out; omega) (by have := k4.lt; omega)
      have fg := gw.trans (h2.below (Nat.le_refl _) gs)
      have OA2 := Lib.hid oA2
      have FG := Lib.hid fg
      clear oA oA2 fg gw h2 k2 k4 gW
      go_wp2
      exact bodyPost_ret (v := .agg #[.int .i64 (k : Int), .int .i64 k, .slice A1 N c1]) (by simp [results, go_sem, p0, p1, p2]) rfl ⟨_, rfl, ⟨_, rfl, by simpa [mxF] using OA2.out, by simp only [mxF, I64]; omega, by simp only [mxF, I64]; omega⟩, FG.out⟩
end Go.Proofs.Ytjhllgldllbaaaa

/- append of one row of ints onto a row of rows. -/
namespace Go.Proofs.Ytjhllgldllbaaaa
set_option linter.unusedVariables false
set_option linter.unusedSimpArgs false
open Go.RowKit

theorem below_grown {B : Nat} {w w' : World} {row : Option Nat} (hg : w.grownBy w' row) (hB : ∀ k, row = some k → B ≤ k) (hs : B ≤ w.heap.size) : Below B w w' :=
  ⟨hg.os, hg.tape, hg.output, hg.size, fun k hk => hg.block k (by omega) (fun e => by have := hB k e.symm; omega)⟩
theorem wpList_appS {w : World} {ops : Array Oper} {rest : List Oper} {o : Oper} {a : Act} {Q : Exit → Act → World → Prop} (hgd : o.guard = none) (s x : Operand)
    (ho : o.op = .call { callee := .builtin .append, args := #[s, x], argTypes := #[65, 65] })
    (base : Nat) (v : Value) (vs : List Value) (hs : a.eval s = v) (hown : w.ownsRow base 22 1 v vs.length vs) (A : Option Addr) (c : Nat) (u : Value) (hx : a.eval x = .slice A 1 c) (hA : ∃ b o, A = some ⟨b, o, none⟩ ∧ w.cell? ⟨b, o, none⟩ = some u) (h1 : u.oneCell' = true)
    (hn : vs.length + 1 ≤ 1048576) (hbase : base ≤ w.heap.size)
    (h : ∀ v' w', w'.ownsRow base 22 1 v' (vs ++ [u]).length (vs ++ [u]) → w.grownBy w' v.ownBlock → (v'.ownBlock = v.ownBlock ∨ v'.ownBlock = some w.heap.size) → wpList Try.prog ops Q rest (a.put o.dst v') w') : wpList Try.prog ops Q (o :: rest) a w := by
  obtain ⟨i0, hi, hz0, hz1, hz2⟩ := info_parts infoInts
  obtain ⟨b, off, rfl, hc⟩ := hA
  refine wpList_append_G w hgd s x _ ho base 22 i0 _ 1 24 Try.underlying65 hi hz0 hz1 hz2 rfl (by decide) v vs.length _ hs hown (some ⟨b, off, none⟩) 1 c [u] hx ⟨by simp, .inr ⟨b, off, rfl, fun j u' hu => ?_⟩⟩ (by simpa using h1) (by simp only [maxLen]; omega) (by omega) hbase fun v' w' h2 h3 h4 => ?_
  · match j, hu with
    | 0, hu =>
      simp at hu
      subst hu
      exact hc
  · exact h v' w' (by simpa using h2) h3 h4
theorem Fam.grownO {w w' : World} {lo hi base n : Nat} {L : List (Value × List Int)} {v : Value} {vs : List Value} (hF : Fam w lo hi L) (ho : w.ownsRow base 22 1 v n vs) (hg : w.grownBy w' v.ownBlock) : Fam w' lo hi L := by
  refine ⟨fun p hp => ⟨(hF.1 p hp).1.kept hg ?_, (hF.1 p hp).2⟩, hF.2⟩
  rcases ho.2 with ⟨rfl, _⟩ | ⟨g, cap, cur, rfl, _, hh, _⟩
  · rcases hA : p.1.ownBlock with _ | x
    · exact .inl rfl
    · right
      simp [Value.ownBlock]
  · right
    exact fun e => (hF.1 p hp).1.blkne (g := g) (t := 22) (cs := cur) hh (by decide) (by rw [e]; rfl)

theorem OutO.blkne {w : World} {lo hi g : Nat} {v : Value} {vs : List Value} {t : TypeId} {cs : Array Value} (h : OutO w lo hi v vs) (hb : Blk w g t cs) (ht : 22 ≠ t) : some g ≠ v.ownBlock := by
  rcases h.1.2 with ⟨rfl, _⟩ | ⟨g', cap, cur, rfl, _, hh, _⟩
  · simp [Value.ownBlock]
  · intro he
    have : g = g' := by simpa [Value.ownBlock] using he
    subst this
    unfold Blk at hb
    rw [hh] at hb
    injection hb with hb
    injection hb with _ hb
    exact ht hb
end Go.Proofs.Ytjhllgldllbaaaa

/- Lists of lists of ints of the call's own, taken as one thing: made, read, a row set, a number set, a row appended. -/
namespace Go.Proofs.Ytjhllgldllbaaaa
set_option linter.unusedVariables false
set_option linter.unusedSimpArgs false
open Go.RowKit

theorem IntssO.wider {w : World} {lo hi lo' hi' : Nat} {v : Value} {ll : List (List Int)} (h : IntssO w lo hi v ll) (h1 : lo' ≤ lo) (h2 : hi ≤ hi') : IntssO w lo' hi' v ll := by
  obtain ⟨vs, a, b, c⟩ := h
  exact ⟨vs, a.mono h1 h2, b, c.mono h1 h2⟩
theorem IntssO.form2 {w : World} {lo hi : Nat} {v : Value} {ll : List (List Int)} (h : IntssO w lo hi v ll) : ∃ A c, v = .slice A ll.length c ∧ ll.length ≤ c ∧ c ≤ 9223372036854775807 ∧ ll.length ≤ 17592186044416 := by
  obtain ⟨vs, a, b, c⟩ := h
  obtain ⟨A, d, h1, h2, h3⟩ := a.form
  exact ⟨A, d, by rw [h1, b], by omega, h3, by have := a.2.2; omega⟩
theorem IntssO.nil (w : World) (lo hi : Nat) : IntssO w lo hi (.slice none 0 0) [] := ⟨[], ⟨World.ownsRow_nil _ _ _ _, by simp [Value.ownBlock], by simp⟩, rfl, ⟨fun p hp => by simp at hp, by simp⟩⟩
theorem IntssO.made0 (w : World) {lo : Nat} (h : lo ≤ w.heap.size) : IntssO (w.alloc (.cells #[] 22)) lo (w.alloc (.cells #[] 22)).heap.size (.slice (some ⟨w.heap.size, 0, none⟩) 0 0) [] :=
  ⟨[], ⟨World.ownsRow_made w #[] 0 h (by simp [maxLen]) (by simp), by simp [Value.ownBlock], by simp⟩, rfl, ⟨fun p hp => by simp at hp, by simp⟩⟩
theorem IntssO.made (w : World) {lo n : Nat} (h : lo ≤ w.heap.size) (hn : n ≤ 17592186044416) : IntssO (w.alloc (.cells (mkCells (.slice none 0 0) n) 22)) lo (w.alloc (.cells (mkCells (.slice none 0 0) n) 22)).heap.size (.slice (some ⟨w.heap.size, 0, none⟩) n n) (List.replicate n []) := by
  refine ⟨List.replicate n (.slice none 0 0), ?_, by simp, ⟨fun p hp => ?_, ?_⟩⟩
  · have h1 := (Blk.new w 22 (mkCells (.slice none 0 0) n)).own (base := lo) (n := n) (cap := n) (size := 1) h (Nat.le_refl _) (by simp only [maxLen]; omega) (by rw [mkCells_size]; omega)
    rw [show (mkCells (.slice none 0 0) n).toList = List.replicate n (.slice none 0 0) from toList_madeCells_one _ _, List.take_of_length_le (by simp)] at h1
    exact ⟨by simpa using h1, fun k hk => by simp [Value.ownBlock] at hk; simp; omega, by simpa using hn⟩
  · obtain ⟨a, b⟩ := p
    have h1 := List.of_mem_zip hp
    obtain ⟨_, rfl⟩ := List.mem_replicate.1 h1.1
    obtain ⟨_, rfl⟩ := List.mem_replicate.1 h1.2
    exact ⟨OwnI.nil _ _, by simp [Value.ownBlock]⟩
  · rw [List.pairwise_iff_getElem]
    intro i j hi hj hij
    left
    simp [Value.ownBlock]
theorem IntssO.at_ {w : World} {lo hi : Nat} {v : Value} {ll : List (List Int)} (h : IntssO w lo hi v ll) (h0 : 0 < ll.length) : ∃ g c, v = .slice (some ⟨g, 0, none⟩) ll.length c ∧ lo ≤ g ∧ g < hi ∧ g < w.heap.size ∧ ll.length ≤ c ∧ c ≤ 9223372036854775807 := by
  obtain ⟨vs, a, b, c⟩ := h
  rcases a.1.2 with ⟨_, h1⟩ | ⟨g, cap, cur, rfl, hg, hh, hnc, hcm, _⟩
  · omega
  · exact ⟨g, cap, by rw [b], hg, a.2.1 g (by simp [Value.ownBlock]), (Array.getElem?_eq_some_iff.1 hh).1, by omega, by simp only [maxLen] at hcm; omega⟩
theorem IntssO.row {w : World} {lo hi g n c j : Nat} {ll : List (List Int)} {l : List Int} (h : IntssO w lo hi (.slice (some ⟨g, 0, none⟩) n c) ll) (hj : ll[j]? = some l) : ∃ u, w.cell? ⟨g, j, none⟩ = some u ∧ IntsO w lo hi u l ∧ w.frozen? ⟨g, j, none⟩ = false := by
  obtain ⟨vs, a, b, F⟩ := h
  have hl := lt_of_some hj
  have hv : vs[j]? = some (vs[j]'(by omega)) := List.getElem?_eq_getElem (by omega)
  exact ⟨_, a.cellS hv, F.1 (vs[j]'(by omega), l) (by rw [zip_split hv hj]; simp), a.frozenS j⟩
theorem OutO.blk {w : World} {lo hi g n c : Nat} {vs : List Value} (h : OutO w lo hi (.slice (some ⟨g, 0, none⟩) n c) vs) : ∃ cs, Blk w g 22 cs ∧ n = vs.length := by
  rcases h.1.2 with ⟨e, _⟩ | ⟨g', cap', cur, e, _, hh, _⟩
  · cases e
  · injection e with e1 e2 _
    injection e1 with e1
    injection e1 with e1
    subst e1
    exact ⟨cur, hh, e2⟩
/-- a row set: of memory made later than the rest -/
theorem IntssO.setRow {w : World} {lo hi mi hi' g n c j : Nat} {ll : List (List Int)} {l : List Int} {u : Value} (h : IntssO w lo hi (.slice (some ⟨g, 0, none⟩) n c) ll) (hj : j < ll.length) (hu : IntsO w mi hi' u l) (h1 : hi ≤ mi) (h2 : mi ≤ hi') (h3 : lo ≤ mi) :
    IntssO (w.setCell ⟨g, j, none⟩ u) lo hi' (.slice (some ⟨g, 0, none⟩) n c) (ll.set j l) ∧ Chg g (g + 1) w (w.setCell ⟨g, j, none⟩ u) := by
  obtain ⟨vs, a, b, F⟩ := h
  obtain ⟨cs, hb, hn⟩ := a.blk
  refine ⟨⟨vs.set j u, ?_, by simp [b], ?_⟩, chg_set (Nat.le_refl _) (Nat.lt_succ_self _)⟩
  · have h4 := (hn ▸ a.1).stored j u
    rw [hn]
    exact ⟨by simpa using h4.1, fun k hk => Nat.lt_of_lt_of_le (a.2.1 k (by simpa [Value.ownBlock] using hk)) (by omega), by simpa using a.2.2⟩
  · have hv : vs[j]? = some (vs[j]'(by omega)) := List.getElem?_eq_getElem (by omega)
    have hl : ll[j]? = some (ll[j]'hj) := List.getElem?_eq_getElem hj
    have hsv : (vs.set j u)[j]? = some u := by rw [List.getElem?_set, if_pos rfl, if_pos (by omega)]
    have hsl : (ll.set j l)[j]? = some l := by rw [List.getElem?_set, if_pos rfl, if_pos hj]
    have F2 := F.setBlk (i := j) hb (by decide) u
    have hu2 : IntsO (w.setCell ⟨g, j, none⟩ u) mi hi' u l := ⟨hu.1.setCell (p := ⟨g, j, none⟩) (fun e => hu.1.blkne hb (by decide) e.symm) u, hu.2⟩
    rw [zip_split hsv hsl, List.take_set_of_le (Nat.le_refl j), List.drop_set_of_lt (by omega), List.take_set_of_le (Nat.le_refl j), List.drop_set_of_lt (by omega)]
    rw [zip_split hv hl] at F2
    obtain ⟨G1, G2⟩ := F2
    rw [List.pairwise_append] at G2
    obtain ⟨P1, P2, P3⟩ := G2
    rw [List.pairwise_cons] at P2
    refine ⟨fun p hp => ?_, ?_⟩
    · rcases List.mem_append.1 hp with hp | hp
      · exact (G1 p (by simp [hp])).wider (Nat.le_refl _) (by omega)
      · rcases List.mem_cons.1 hp with rfl | hp
        · exact hu2.wider h3 (Nat.le_refl _)
        · exact (G1 p (by simp [hp])).wider (Nat.le_refl _) (by omega)
    · rw [List.pairwise_append, List.pairwise_cons]
      refine ⟨P1, ⟨fun p hp => ?_, P2.2⟩, fun p hp q hq => ?_⟩
      · rcases hA : u.ownBlock with _ | x
        · exact .inl rfl
        · refine .inr fun e2 => ?_
          have h5 := (G1 p (by simp [hp])).2 x e2.symm
          have h6 := (hu2.1.lt x hA).1
          omega
      · rcases List.mem_cons.1 hq with rfl | hq
        · rcases hA : p.1.ownBlock with _ | x
          · exact .inl rfl
          · refine .inr fun e => ?_
            have h5 := (G1 p (by simp [hp])).2 x hA
            have h6 := (hu2.1.lt x e.symm).1
            omega
        · exact P3 p hp q (by simp [hq])
/-- a number set in a row -/
theorem IntssO.putAt {w : World} {lo hi gr n c j i : Nat} {v : Value} {ll : List (List Int)} {l : List Int} {x : Int} (h : IntssO w lo hi v ll) (hj : ll[j]? = some l) (hx : I64 x)
    (hrow : ∀ vs, vs.length = ll.length → OutO w lo hi v vs → Fam w lo hi (vs.zip ll) → vs[j]? = some (.slice (some ⟨gr, 0, none⟩) n c)) :
    IntssO (w.setCell ⟨gr, i, none⟩ (.int .i64 x)) lo hi v (ll.set j (l.set i x)) ∧ w.grownBy (w.setCell ⟨gr, i, none⟩ (.int .i64 x)) (some gr) := by
  obtain ⟨vs, a, b, F⟩ := h
  have hv := hrow vs b a F
  have ho := F.1 (.slice (some ⟨gr, 0, none⟩) n c, l) (by rw [zip_split hv hj]; simp)
  obtain ⟨_, _, e⟩ := ho.form
  injection e with _ e _
  replace e : n = l.length := e
  subst e
  have hp := ho.1.put (j := i) hx
  exact ⟨⟨vs, a.grown ho.1 hp.2, by simp [b], F.putAt hv hj ho.1 hx⟩, hp.2⟩
theorem IntssO.cellRow {w : World} {lo hi g n' c' gr n c j : Nat} {ll : List (List Int)} (hc : w.cell? ⟨g, j, none⟩ = some (.slice (some ⟨gr, 0, none⟩) n c)) :
    ∀ vs, j < vs.length → OutO w lo hi (.slice (some ⟨g, 0, none⟩) n' c') vs → Fam w lo hi (vs.zip ll) → vs[j]? = some (.slice (some ⟨gr, 0, none⟩) n c) := fun vs hl ho _ => by
  have hv : vs[j]? = some (vs[j]'hl) := List.getElem?_eq_getElem hl
  have := ho.cellS hv
  rw [hc] at this
  rw [hv, this]
/-- a number set in a row, the row's value read from its cell -/
theorem IntssO.put {w : World} {lo hi g n' c' gr n c j i : Nat} {ll : List (List Int)} {l : List Int} {x : Int} (h : IntssO w lo hi (.slice (some ⟨g, 0, none⟩) n' c') ll) (hj : ll[j]? = some l) (hc : w.cell? ⟨g, j, none⟩ = some (.slice (some ⟨gr, 0, none⟩) n c)) (hx : I64 x) :
    IntssO (w.setCell ⟨gr, i, none⟩ (.int .i64 x)) lo hi (.slice (some ⟨g, 0, none⟩) n' c') (ll.set j (l.set i x)) ∧ w.grownBy (w.setCell ⟨gr, i, none⟩ (.int .i64 x)) (some gr) :=
  h.putAt hj hx fun vs hl ho F => IntssO.cellRow hc vs (by have := lt_of_some hj; omega) ho F
/-- append of a row -/
theorem wpList_appR {w : World} {ops : Array Oper} {rest : List Oper} {o : Oper} {a : Act} {Q : Exit → Act → World → Prop} (hgd : o.guard = none) (s x : Operand)
    (ho : o.op = .call { callee := .builtin .append, args := #[s, x], argTypes := #[65, 65] })
    (lo hi mi hi' : Nat) (v : Value) (ll : List (List Int)) (l : List Int) (hs : a.eval s = v) (hown : IntssO w lo hi v ll) (A : Option Addr) (c : Nat) (u : Value) (hx : a.eval x = .slice A 1 c) (hA : ∃ b o, A = some ⟨b, o, none⟩ ∧ w.cell? ⟨b, o, none⟩ = some u) (hu : IntsO w mi hi' u l)
    (h1 : hi ≤ mi) (h2 : mi ≤ hi') (h3 : lo ≤ mi) (hn : ll.length + 1 ≤ 1048576) (hlo : lo ≤ w.heap.size) (hhi : hi' ≤ w.heap.size)
    (h : ∀ v' w', IntssO w' lo w'.heap.size v' (ll ++ [l]) → Below lo w w' → w.grownBy w' v.ownBlock → wpList Try.prog ops Q rest (a.put o.dst v') w') : wpList Try.prog ops Q (o :: rest) a w := by
  obtain ⟨vs, h4, h5, h6⟩ := hown
  refine wpList_appS hgd s x ho lo v vs hs h4.1 A c u hx hA (by obtain ⟨A', c', rfl, _⟩ := hu.1.form; rfl) (by omega) hlo fun v' w' k1 k2 k3 => ?_
  have hbg : Below lo w w' := below_grown k2 (fun k hk => (h4.1.lt k hk).1) hlo
  have F2 := ((h6.mono (Nat.le_refl _) h1).snoc hu h3 h2).mono (Nat.le_refl _) (Nat.le_trans hhi hbg.size)
  have F3 := Fam.grownO (by simpa using F2) h4.1 k2
  refine h v' w' ⟨vs ++ [u], ⟨k1, fun k hk => (k1.lt k hk).2, by simp; omega⟩, by simp [h5], ?_⟩ hbg k2
  rw [List.zip_append h5]
  exact F3
theorem chg_belowB {B : Nat} {w w' : World} (h : Below B w w') : Chg B w.heap.size w w' := ⟨h.os, h.tape, h.output, h.size, fun k hk hne => h.block k (by omega)⟩
end Go.Proofs.Ytjhllgldllbaaaa

/- Determinants by the first row: plain part; parts of slices. -/
namespace Go.Proofs.Ytjhllgldllbaaaa
set_option linter.unusedVariables false
set_option linter.unusedSimpArgs false
open Go.RowKit

def dsF (h : Nat → Int) : Nat → Int
  | 0 => 0
  | n + 1 => dsF h n + h n
def cutR (k : Nat) (r : List Int) : List Int := r.take k ++ r.drop (k + 1)
def mnr (k : Nat) (m : List (List Int)) : List (List Int) := m.tail.map (cutR k)
def sgK (k : Nat) : Int := if k % 2 = 0 then 1 else -1
def fst0 (m : List (List Int)) (k : Nat) : Int := (m.getD 0 []).getD k 0
def detL : Nat → List (List Int) → Int
  | 0, _ => 1
  | n + 1, m => dsF (fun k => sgK k * fst0 m k * detL n (mnr k m)) (n + 1)
def dB : Nat → Int
  | 0 => 1
  | n + 1 => (n + 1 : Nat) * (12 * dB n)
structure Sq (n : Nat) (m : List (List Int)) : Prop where
  len : m.length = n
  row : ∀ r ∈ m, r.length = n
  rng : ∀ r ∈ m, ∀ x ∈ r, -12 ≤ x ∧ x ≤ 12
theorem sgK_succ (k : Nat) : sgK (k + 1) = - sgK k := by
  unfold sgK
  by_cases h : k % 2 = 0
  · rw [if_pos h, if_neg (by omega)]
  · rw [if_neg h, if_pos (by omega)]; rfl
theorem sgK_or (k : Nat) : sgK k = 1 ∨ sgK k = -1 := by
  unfold sgK
  split
  · exact .inl rfl
  · exact .inr rfl
theorem cutR_length {k : Nat} {r : List Int} {n : Nat} (h : r.length = n + 1) (hk : k ≤ n) : (cutR k r).length = n := by simp [cutR]; omega
theorem cutR_mem {k : Nat} {r : List Int} {x : Int} (h : x ∈ cutR k r) : x ∈ r := by
  rcases List.mem_append.1 h with h | h
  · exact List.mem_of_mem_take h
  · exact List.mem_of_mem_drop h
theorem Sq.mnr {n k : Nat} {m : List (List Int)} (h : Sq (n + 1) m) (hk : k ≤ n) : Sq n (mnr k m) := by
  refine ⟨by simp [Go.Proofs.Ytjhllgldllbaaaa.mnr, h.len], fun r hr => ?_, fun r hr x hx => ?_⟩
  · obtain ⟨s, hs, rfl⟩ := List.mem_map.1 hr
    exact cutR_length (h.row s (List.mem_of_mem_tail hs)) hk
  · obtain ⟨s, hs, rfl⟩ := List.mem_map.1 hr
    exact h.rng s (List.mem_of_mem_tail hs) x (cutR_mem hx)
theorem Sq.fst {n k : Nat} {m : List (List Int)} (h : Sq (n + 1) m) (hk : k < n + 1) : ∃ r, m[0]? = some r ∧ r.length = n + 1 ∧ r[k]? = some (fst0 m k) ∧ -12 ≤ fst0 m k ∧ fst0 m k ≤ 12 := by
  have hl := h.len
  have e := List.getElem?_eq_getElem (show 0 < m.length by omega)
  have hm := List.mem_of_getElem? e
  have hr := h.row _ hm
  have e2 := List.getElem?_eq_getElem (l := m[0]) (show k < m[0].length by omega)
  have e3 : fst0 m k = m[0][k] := by
    rw [fst0, List.getD_eq_getElem?_getD, List.getD_eq_getElem?_getD, e, Option.getD_some, e2, Option.getD_some]
  rw [e3]
  exact ⟨_, e, hr, e2, h.rng _ hm _ (List.mem_of_getElem? e2)⟩
theorem abs_mul {a b A B : Int} (ha : -A ≤ a ∧ a ≤ A) (hb : -B ≤ b ∧ b ≤ B) : -(A * B) ≤ a * b ∧ a * b ≤ A * B := by
  have hA : 0 ≤ A := by omega
  have hB : 0 ≤ B := by omega
  have h1 : 0 ≤ (A - a) * (B + b) := Int.mul_nonneg (by omega) (by omega)
  have h2 : 0 ≤ (A + a) * (B - b) := Int.mul_nonneg (by omega) (by omega)
  have h3 : 0 ≤ (A - a) * (B - b) := Int.mul_nonneg (by omega) (by omega)
  have h4 : 0 ≤ (A + a) * (B + b) := Int.mul_nonneg (by omega) (by omega)
  simp only [Int.sub_mul, Int.add_mul, Int.mul_sub, Int.mul_add] at h1 h2 h3 h4
  omega
theorem dB_pos : ∀ n, 0 ≤ dB n
  | 0 => by simp [dB]
  | n + 1 => by
    have := dB_pos n
    simp only [dB]
    exact Int.mul_nonneg (by omega) (by omega)
theorem term_rng {s x d D : Int} (hs : s = 1 ∨ s = -1) (hx : -12 ≤ x ∧ x ≤ 12) (hd : -D ≤ d ∧ d ≤ D) : -(12 * D) ≤ s * x * d ∧ s * x * d ≤ 12 * D := by
  refine abs_mul ?_ hd
  rcases hs with rfl | rfl <;> omega
theorem dsF_rng {h : Nat → Int} {B : Int} (hB : 0 ≤ B) : ∀ {n}, (∀ k, k < n → -B ≤ h k ∧ h k ≤ B) → -((n : Nat) * B) ≤ dsF h n ∧ dsF h n ≤ (n : Nat) * B
  | 0, _ => by simp [dsF]
  | n + 1, H => by
    have ih := dsF_rng hB (n := n) fun k hk => H k (by omega)
    have h1 := H n (by omega)
    simp only [dsF]
    have e : ((n + 1 : Nat) : Int) * B = (n : Nat) * B + B := by rw [Int.natCast_succ, Int.add_mul, Int.one_mul]
    rw [e]
    omega
theorem det_rng : ∀ {n : Nat} {m : List (List Int)}, Sq n m → -dB n ≤ detL n m ∧ detL n m ≤ dB n
  | 0, _, _ => by simp [detL, dB]
  | n + 1, m, h => by
    simp only [detL, dB]
    have hB := dB_pos n
    refine dsF_rng (by omega) fun k hk => ?_
    obtain ⟨_, _, _, _, hx⟩ := h.fst hk
    exact term_rng (sgK_or k) hx (det_rng (h.mnr (by omega)))
def detS (n : Nat) (m : List (List Int)) (k : Nat) : Int := dsF (fun k => sgK k * fst0 m k * detL n (mnr k m)) k
theorem dB_5 {n : Nat} (h : n ≤ 5) : dB n ≤ 29859840 := by
  have : n = 0 ∨ n = 1 ∨ n = 2 ∨ n = 3 ∨ n = 4 ∨ n = 5 := by omega
  rcases this with rfl | rfl | rfl | rfl | rfl | rfl <;> decide
theorem detS_rng {n k : Nat} {m : List (List Int)} (h : Sq (n + 1) m) (hk : k ≤ n + 1) (hn : n ≤ 4) : -1800000000 ≤ detS n m k ∧ detS n m k ≤ 1800000000 := by
  have hB := dB_pos n
  have h1 := dsF_rng (h := fun k => sgK k * fst0 m k * detL n (mnr k m)) (B := 12 * dB n) (n := k) (by omega) fun j hj => by
    obtain ⟨_, _, _, _, hx⟩ := h.fst (show j < n + 1 by omega)
    exact term_rng (sgK_or j) hx (det_rng (h.mnr (by omega)))
  have h5 := dB_5 (show n ≤ 5 by omega)
  have h6 : (k : Int) * (12 * dB n) ≤ 5 * (12 * dB n) := Int.mul_le_mul_of_nonneg_right (by omega) (by omega)
  unfold detS
  omega
theorem detS_succ (n : Nat) (m : List (List Int)) (k : Nat) : detS n m (k + 1) = detS n m k + sgK k * fst0 m k * detL n (mnr k m) := rfl

/-! ### parts of slices that are read -/
theorem SlI.takeS {w : World} {B c k : Nat} {A : Option Addr} {l : List Int} (h : SlI w B (.slice A l.length c) l) (hk : k ≤ l.length) : SlI w B (.slice A k c) (l.take k) := by
  obtain ⟨A', c', e, h1, h2, h3, h4⟩ := h
  injection e with e1 e2 e3
  subst e1 e3
  refine ⟨A, c, by rw [List.length_take]; congr 1; omega, by rw [List.length_take]; omega, h2, by rw [List.length_take]; omega, fun hp => ?_⟩
  rw [List.length_take] at hp
  obtain ⟨b, o, e, hb, hc⟩ := h4 (by omega)
  refine ⟨b, o, e, hb, fun j x hj => hc j x ?_⟩
  rw [List.getElem?_take] at hj
  split at hj
  · exact hj
  · cases hj
theorem SlI.dropS {w : World} {B c k g o : Nat} {l : List Int} (h : SlI w B (.slice (some ⟨g, o, none⟩) l.length c) l) (hk : k ≤ l.length) : SlI w B (.slice (some ⟨g, o + k, none⟩) (l.length - k) (c - k)) (l.drop k) := by
  have h' := h
  obtain ⟨A', c', e, h1, h2, h3, h4⟩ := h'
  injection e with e1 e2 e3
  subst e3
  refine ⟨some ⟨g, o + k, none⟩, c - k, by rw [List.length_drop], by rw [List.length_drop]; omega, by omega, by rw [List.length_drop]; omega, fun hp => ?_⟩
  rw [List.length_drop] at hp
  obtain ⟨b, o', e, hb, hc⟩ := h4 (by omega)
  rw [← e1] at e
  injection e with e
  injection e with e5 e6
  subst e5 e6
  refine ⟨g, o + k, rfl, hb, fun j x hj => ?_⟩
  rw [List.getElem?_drop] at hj
  have := hc _ x hj
  rw [show o + (k + j) * 1 = o + k + j * 1 by omega] at this
  exact this
theorem SlI.zeroS {w : World} {B : Nat} {A : Option Addr} {c : Nat} (hc : c ≤ 9223372036854775807) : SlI w B (.slice A 0 c) [] := ⟨A, c, rfl, by simp, hc, by simp, fun h => absurd h (by simp)⟩
theorem SlII.two {w : World} {t : TypeId} {a b : Value} {l m : List Int} (ha : SlI w w.heap.size a l) (hb : SlI w w.heap.size b m) :
    SlII (w.alloc (.cells #[a, b] t)) (w.alloc (.cells #[a, b] t)).heap.size (.slice (some ⟨w.heap.size, 0, none⟩) 2 2) [l, m] := by
  have hbel := below_alloc w (.cells #[a, b] t)
  have hk := Blk.new w t #[a, b]
  refine ⟨some ⟨w.heap.size, 0, none⟩, 2, rfl, by simp, by omega, by simp, fun _ => ⟨w.heap.size, 0, rfl, hk.lt, fun j x hj => ?_⟩⟩
  match j, hj with
  | 0, hj => injection hj with hj; subst hj; exact ⟨a, hk.cell' rfl, SlI.next hbel ha⟩
  | 1, hj => injection hj with hj; subst hj; exact ⟨b, hk.cell' rfl, SlI.next hbel hb⟩
/-- an element, the slice's address known -/
theorem SlI.elt {w : World} {B b o c k : Nat} {xs : List Int} (h : SlI w B (.slice (some ⟨b, o, none⟩) xs.length c) xs) (hk : k < xs.length) : ∃ x, xs[k]? = some x ∧ b < B ∧ w.cell? ⟨b, o + k, none⟩ = some (.int .i64 x) ∧ -9223372036854775808 ≤ x ∧ x ≤ 9223372036854775807 := by
  obtain ⟨b', o', x, e, h1, h2, h3, h4⟩ := SlI.at_ h hk
  injection e with e
  injection e with e1 e2
  subst e1 e2
  exact ⟨x, h2.out, h1, h3, h4⟩
theorem SlII.elt {w : World} {B b o c k : Nat} {xs : List (List Int)} (h : SlII w B (.slice (some ⟨b, o, none⟩) xs.length c) xs) (hk : k < xs.length) : ∃ l A' c', xs[k]? = some l ∧ b < B ∧ w.cell? ⟨b, o + k, none⟩ = some (.slice A' l.length c') ∧ SlI w B (.slice A' l.length c') l ∧ l.length ≤ c' ∧ c' ≤ 9223372036854775807 := by
  obtain ⟨b', o', l, A', c', e, h1, h2, h3, h4⟩ := SlII.at_ h hk
  injection e with e
  injection e with e1 e2
  subst e1 e2
  have h5 := h4
  obtain ⟨_, _, e, h6, h7, _⟩ := h5
  injection e with _ _ e
  subst e
  exact ⟨l, A', c', h2.out, h1, h3, h4, h6, h7⟩
theorem SlI.addr {w : World} {B c : Nat} {A : Option Addr} {xs : List Int} (h : SlI w B (.slice A xs.length c) xs) (h0 : 0 < xs.length) : ∃ b o, A = some ⟨b, o, none⟩ ∧ b < B := by
  obtain ⟨b, o, _, e, h1, _⟩ := SlI.at_ (k := 0) h h0
  exact ⟨b, o, e, h1⟩
theorem SlII.addr {w : World} {B c : Nat} {A : Option Addr} {xs : List (List Int)} (h : SlII w B (.slice A xs.length c) xs) (h0 : 0 < xs.length) : ∃ b o, A = some ⟨b, o, none⟩ ∧ b < B := by
  obtain ⟨b, o, _, _, _, e, h1, _⟩ := SlII.at_ (k := 0) h h0
  exact ⟨b, o, e, h1⟩
theorem SlI.form2 {w : World} {B : Nat} {v : Value} {l : List Int} (h : SlI w B v l) : ∃ A c, v = .slice A l.length c := by
  obtain ⟨A, c, e, _⟩ := h
  exact ⟨A, c, e⟩
end Go.Proofs.Ytjhllgldllbaaaa

/- Small functions of numbers. -/
namespace Go.Proofs.Ytjhllgldllbaaaa
set_option linter.unusedVariables false
set_option linter.unusedSimpArgs false
open Go.RowKit

/-- Whether a number lies in a range. -/
def inR (n lo hi : Int) : Bool := decide (lo ≤ n ∧ n ≤ hi)
theorem inR_t {n lo hi : Int} : inR n lo hi = true ↔ lo ≤ n ∧ n ≤ hi := by simp [inR]
theorem inR_f {n lo hi : Int} : inR n lo hi = false ↔ ¬ (lo ≤ n ∧ n ≤ hi) := by simp [inR]
theorem within_any (n lo hi : Int) (w : World) : Calls Try.prog 65 #[.int .i64 n, .int .i64 lo, .int .i64 hi] w fun e w' => e = .returned (.bool (inR n lo hi)) ∧ w' = w := by
  by_cases h1 : n < lo
  · go_enter Try.func65, Try.ntmps65
    go_wp2
    go_ret
    exact ⟨by rw [inR_f.2 (by omega)]; rfl, rfl⟩
  · have h1' : lo ≤ n := by omega
    by_cases h2 : n ≤ hi
    · go_enter Try.func65, Try.ntmps65
      go_wp2
      go_ret
      exact ⟨by rw [inR_t.2 (by omega)]; rfl, rfl⟩
    · have h2' : hi < n := by omega
      go_enter Try.func65, Try.ntmps65
      go_wp2
      go_ret
      exact ⟨by rw [inR_f.2 (by omega)]; rfl, rfl⟩

theorem l1In_any (n lo hi : Int) (w : World) : Calls Try.prog 61 #[.int .i64 n, .int .i64 lo, .int .i64 hi] w fun e w' => e = .returned (.bool (inR n lo hi)) ∧ w' = w := by
  by_cases h1 : n < lo
  · go_enter Try.func61, Try.ntmps61
    go_wp2
    go_ret
    exact ⟨by rw [inR_f.2 (by omega)]; rfl, rfl⟩
  · have h1' : lo ≤ n := by omega
    by_cases h2 : n ≤ hi
    · go_enter Try.func61, Try.ntmps61
      go_wp2
      go_ret
      exact ⟨by rw [inR_t.2 (by omega)]; rfl, rfl⟩
    · have h2' : hi < n := by omega
      go_enter Try.func61, Try.ntmps61
      go_wp2
      go_ret
      exact ⟨by rw [inR_f.2 (by omega)]; rfl, rfl⟩

end Go.Proofs.Ytjhllgldllbaaaa

/- Searches in lists of ints: the library's Index, Contains, IndexFunc, ContainsFunc at []int; the program's allWithin, sumOf. -/
namespace Go.Proofs.Ytjhllgldllbaaaa
set_option linter.unusedVariables false
set_option linter.unusedSimpArgs false
open Go.RowKit

/-- The first place at which p holds, or -1. -/
def fidx (p : Int → Bool) (l : List Int) : Int := if l.findIdx p < l.length then (l.findIdx p : Int) else -1
theorem fidx_none {p : Int → Bool} {l : List Int} (h : ∀ x ∈ l, p x = false) : fidx p l = -1 := by
  unfold fidx
  rw [if_neg]
  intro hlt
  have h1 := List.findIdx_getElem (w := hlt)
  have h2 := h _ (List.getElem_mem hlt)
  rw [h1] at h2
  cases h2
theorem fidx_some {p : Int → Bool} {l : List Int} {k : Nat} {x : Int} (hx : l[k]? = some x) (hp : p x = true) (hb : ∀ y ∈ l.take k, p y = false) : fidx p l = k := by
  have hk := lt_of_some hx
  have hxk : l[k] = x := by rw [List.getElem?_eq_getElem hk] at hx; injection hx
  have e : l.findIdx p = k := by
    rw [List.findIdx_eq hk]
    refine ⟨by rw [hxk]; exact hp, fun j hj => ?_⟩
    have := hb l[j] (by rw [List.mem_take_iff_getElem]; exact ⟨j, by omega, rfl⟩)
    simp [this]
  unfold fidx
  rw [e, if_pos hk]
theorem fidx_range (p : Int → Bool) (l : List Int) : -1 ≤ fidx p l ∧ fidx p l < l.length := by
  unfold fidx
  split <;> omega
theorem fidx_any (p : Int → Bool) (l : List Int) : decide (0 ≤ fidx p l) = l.any p := by
  unfold fidx
  by_cases h : l.findIdx p < l.length
  · rw [if_pos h]
    have h1 := List.findIdx_getElem (w := h)
    have : l.any p = true := List.any_eq_true.2 ⟨_, List.getElem_mem h, h1⟩
    rw [this]
    simp
  · rw [if_neg h]
    have : l.any p = false := by
      rw [List.any_eq_false]
      intro x hx hpx
      exact h (List.findIdx_lt_length_of_exists ⟨x, hx, hpx⟩)
    rw [this]
    simp

set_option maxHeartbeats 400000 in
theorem index_any (u : Value) (xs : List Int) (v : Int) (w : World) (hu : SlI w w.heap.size u xs) :
    Calls Try.prog 193 #[u, .int .i64 v] w fun e w' => e = .returned (.int .i64 (fidx (fun x => v == x) xs)) ∧ w' = w := by
  obtain ⟨A, c, rfl, _, _, hn, hx⟩ := hu.open_
  clear hu
  go_enter Try.func193, Try.ntmps193
  go_wp2
  go_loop [8] (fun i => ∃ k : Nat, k ≤ xs.length ∧ i = .int .i64 k ∧ Hid (∀ y ∈ xs.take k, (v == y) = false)) (fun i => xs.length - (intOf i).toNat)
  case atStart => exact ⟨0, Nat.zero_le _, rfl, by intro y hy; simp at hy⟩
  case round =>
    obtain ⟨k, hk, rfl, hno⟩ := hrel
    by_cases hlt : k < xs.length
    · obtain ⟨b, o, x, rfl, hb, HX, c1, _⟩ := SlI.at_ hx hlt
      clear hx
      rcases hvx : (v == x) with _ | _
      · go_wp2
        go_round
        case rel =>
          refine ⟨k + 1, by omega, by go_num, fun y hy => ?_⟩
          rw [take_snoc HX.out, List.mem_append, List.mem_singleton] at hy
          rcases hy with hy | rfl
          · exact hno.out y hy
          · exact hvx
        case measure => simp [intOf]; omega
      · have hfin := Lib.hid (fidx_some HX.out hvx hno.out)
        go_wp2
        go_ret
        exact ⟨by rw [hfin.out]; rfl, rfl⟩
    · go_wp2
      go_ret
      have h1 := hno.out
      rw [List.take_of_length_le (by omega)] at h1
      exact ⟨by rw [fidx_none h1]; rfl, rfl⟩

theorem contains_any (u : Value) (xs : List Int) (v : Int) (w : World) (hu : SlI w w.heap.size u xs) :
    Calls Try.prog 145 #[u, .int .i64 v] w fun e w' => e = .returned (.bool (decide (v ∈ xs))) ∧ w' = w := by
  have hd : decide (v ∈ xs) = decide (0 ≤ fidx (fun x => v == x) xs) := by
    rw [fidx_any, Bool.eq_iff_iff]
    simp
  have HC := index_any u xs v w hu
  rw [hd]
  generalize fidx (fun x => v == x) xs = r at *
  clear hd
  have HC := Lib.hid HC
  by_cases h : 0 ≤ r
  · have e : decide (0 ≤ r) = true := by simpa using h
    rw [e]
    go_enter Try.func145, Try.ntmps145
    go_wp2_with fail
    refine (unhide HC).mono ?_; rintro e w' ⟨rfl, rfl⟩
    go_wp2
    go_ret
    exact ⟨rfl, rfl⟩
  · have e : decide (0 ≤ r) = false := by simpa using h
    rw [e]
    go_enter Try.func145, Try.ntmps145
    go_wp2_with fail
    refine (unhide HC).mono ?_; rintro e w' ⟨rfl, rfl⟩
    go_wp2
    go_ret
    exact ⟨rfl, rfl⟩

set_option maxHeartbeats 400000 in
/-- IndexFunc at a closure of two captured variables, of which the contract is known in every world that is as this one was. -/
theorem indexFunc_any (p1 p2 : Value) (p : Int → Bool) (u : Value) (xs : List Int) (w : World) (hu : SlI w w.heap.size u xs)
    (hF : ∀ (W : World) (x : Int), Below w.heap.size w W → Calls Try.prog 195 #[.int .i64 x, p1, p2] W fun e w' => e = .returned (.bool (p x)) ∧ Below W.heap.size W w') :
    Calls Try.prog 216 #[u, .func (Fn.func 195) #[] #[p1, p2]] w fun e w' => e = .returned (.int .i64 (fidx p xs)) ∧ Below w.heap.size w w' := by
  obtain ⟨A, c, rfl, _, _, hn, hx⟩ := hu.open_
  clear hu
  have HF := Lib.hid hF
  clear hF
  go_enter Try.func216, Try.ntmps216
  go_wp2
  go_loopw [8] (fun i wr => ∃ k : Nat, k ≤ xs.length ∧ i = .int .i64 k ∧ Below w.heap.size w wr ∧ Hid (∀ y ∈ xs.take k, p y = false)) (fun i _ => xs.length - (intOf i).toNat)
  case atStart => exact ⟨0, Nat.zero_le _, rfl, Below.refl _ _, by intro y hy; simp at hy⟩
  case round =>
    obtain ⟨k, hk, rfl, hbel, hno⟩ := hrel
    by_cases hlt : k < xs.length
    · obtain ⟨b, o, x, rfl, hb, HX, c1, _⟩ := SlI.at_ hx hlt
      have d1 := bcell hbel hb c1
      clear hx c1
      have HC := HF.out wr x hbel
      obtain ⟨B, hB⟩ : ∃ B, p x = B := ⟨_, rfl⟩
      rw [hB] at HC
      have HC := Lib.hid HC
      have HB := Lib.hid hB
      clear hB
      cases B
      · go_wp2_with fail
        refine (unhide HC).mono ?_; rintro e w1 ⟨rfl, hb1⟩
        go_wp2
        go_roundw
        case rel =>
          refine ⟨k + 1, by omega, by go_num, hbel.trans (hb1.mono hbel.size), fun y hy => ?_⟩
          rw [take_snoc HX.out, List.mem_append, List.mem_singleton] at hy
          rcases hy with hy | rfl
          · exact hno.out y hy
          · exact HB.out
        case measure => simp [intOf]; omega
      · have hfin := Lib.hid (fidx_some HX.out HB.out hno.out)
        go_wp2_with fail
        refine (unhide HC).mono ?_; rintro e w1 ⟨rfl, hb1⟩
        go_wp2
        go_ret
        exact ⟨by rw [hfin.out]; rfl, hbel.trans (hb1.mono hbel.size)⟩
    · go_wp2
      go_ret
      have h1 := hno.out
      rw [List.take_of_length_le (by omega)] at h1
      exact ⟨by rw [fidx_none h1]; rfl, hbel⟩

theorem containsFunc_any (p1 p2 : Value) (p : Int → Bool) (u : Value) (xs : List Int) (w : World) (hu : SlI w w.heap.size u xs)
    (hF : ∀ (W : World) (x : Int), Below w.heap.size w W → Calls Try.prog 195 #[.int .i64 x, p1, p2] W fun e w' => e = .returned (.bool (p x)) ∧ Below W.heap.size W w') :
    Calls Try.prog 194 #[u, .func (Fn.func 195) #[] #[p1, p2]] w fun e w' => e = .returned (.bool (xs.any p)) ∧ Below w.heap.size w w' := by
  have hd := fidx_any p xs
  have HC := indexFunc_any p1 p2 p u xs w hu hF
  rw [← hd]
  generalize fidx p xs = r at *
  clear hd hF
  have HC := Lib.hid HC
  by_cases h : 0 ≤ r
  · have e : decide (0 ≤ r) = true := by simpa using h
    rw [e]
    go_enter Try.func194, Try.ntmps194
    go_wp2_with fail
    refine (unhide HC).mono ?_; rintro e w1 ⟨rfl, hb1⟩
    go_wp2
    go_ret
    exact ⟨rfl, hb1⟩
  · have e : decide (0 ≤ r) = false := by simpa using h
    rw [e]
    go_enter Try.func194, Try.ntmps194
    go_wp2_with fail
    refine (unhide HC).mono ?_; rintro e w1 ⟨rfl, hb1⟩
    go_wp2
    go_ret
    exact ⟨rfl, hb1⟩

/-- the closure of allWithin -/
theorem allWithin1_any (g1 g2 : Nat) (lo hi x : Int) (W : World) (h1 : W.cell? ⟨g1, 0, none⟩ = some (.int .i64 lo)) (h2 : W.cell? ⟨g2, 0, none⟩ = some (.int .i64 hi)) :
    Calls Try.prog 195 #[.int .i64 x, .pointer (some ⟨g1, 0, none⟩), .pointer (some ⟨g2, 0, none⟩)] W fun e w' => e = .returned (.bool (!inR x lo hi)) ∧ Below W.heap.size W w' := by
  go_enter Try.func195, Try.ntmps195
  go_wp2_with fail
  refine (within_any _ _ _ _).mono ?_; rintro e w' ⟨rfl, rfl⟩
  go_wp2
  go_ret
  exact ⟨rfl, Below.refl _ _⟩

/-- Whether all numbers of a list lie in a range. -/
def allR (l : List Int) (lo hi : Int) : Bool := l.all fun x => inR x lo hi
theorem allR_t {l : List Int} {lo hi : Int} : allR l lo hi = true ↔ ∀ x ∈ l, lo ≤ x ∧ x ≤ hi := by simp [allR, inR]
theorem allWithin_any (u : Value) (xs : List Int) (lo hi : Int) (w : World) (hu : SlI w w.heap.size u xs) :
    Calls Try.prog 146 #[u, .int .i64 lo, .int .i64 hi] w fun e w' => e = .returned (.bool (allR xs lo hi)) ∧ Below w.heap.size w w' := by
  obtain ⟨W, hW⟩ : ∃ W, W = (w.alloc (.cells #[.int .i64 lo] 3)).alloc (.cells #[.int .i64 hi] 3) := ⟨_, rfl⟩
  have g0 : Below w.heap.size w W := by rw [hW]; exact ((Below.refl _ _).alloc (Nat.le_refl _) _).alloc (by simp) _
  have k1 : Blk W w.heap.size 3 #[.int .i64 lo] := by rw [hW]; exact (Blk.new _ _ _).alloc _
  have k2 : Blk W (w.heap.size + 1) 3 #[.int .i64 hi] := by
    rw [hW]
    have := Blk.new (w.alloc (.cells #[.int .i64 lo] 3)) 3 #[.int .i64 hi]
    simpa only [World.size_alloc] using this
  have HC := containsFunc_any (.pointer (some ⟨w.heap.size, 0, none⟩)) (.pointer (some ⟨w.heap.size + 1, 0, none⟩)) (fun x => !inR x lo hi) u xs W (SlI.next g0 hu) (fun W' x hb =>
    allWithin1_any _ _ lo hi x W' ((k1.below hb k1.lt).cell' (i := 0) rfl) ((k2.below hb k2.lt).cell' (i := 0) rfl))
  have e : allR xs lo hi = !(xs.any fun x => !inR x lo hi) := by simp [allR, List.any_eq_not_all_not]
  rw [e]
  generalize (xs.any fun x => !inR x lo hi) = B at *
  obtain ⟨A, c, rfl, _, _, _, _⟩ := hu.open_
  clear hu e k1 k2
  have HC := Lib.hid HC
  have hmf : ∀ (fn : Fn) (first cap : Array Value) (w : World), (Instr.makeFunc fn first cap).run Try.prog w = .ok (.func fn first cap) w := fun _ _ _ _ => rfl
  go_enter Try.func146, Try.ntmps146
  go_wp2_with fail
  rw [← hW]
  refine (unhide HC).mono ?_; rintro e w1 ⟨rfl, hb1⟩
  go_wp2
  go_ret
  exact ⟨rfl, bthen g0 hb1⟩

/-- sums that wrap -/
def sumW (l : List Int) : Int := l.foldl (fun s x => wrap64 (s + x)) 0
theorem sumW_snoc (l : List Int) (x : Int) : sumW (l ++ [x]) = wrap64 (sumW l + x) := by simp [sumW]
theorem foldW (lo hi : Int) (h0 : lo ≤ 0) (h1 : 0 ≤ hi) : ∀ (l : List Int) (acc : Int) (m : Nat), (∀ x ∈ l, lo ≤ x ∧ x ≤ hi) → lo * m ≤ acc → acc ≤ hi * m → hi * ((m + l.length : Nat) : Int) ≤ 9223372036854775807 → -9223372036854775808 ≤ lo * ((m + l.length : Nat) : Int) →
    l.foldl (fun s x => wrap64 (s + x)) acc = acc + l.sum ∧ lo * ((m + l.length : Nat) : Int) ≤ acc + l.sum ∧ acc + l.sum ≤ hi * ((m + l.length : Nat) : Int)
  | [], acc, m, _, ha, hb, _, _ => by simp; exact ⟨ha, hb⟩
  | x :: l, acc, m, hl, ha, hb, hc, hd => by
    obtain ⟨hx1, hx2⟩ := hl x (by simp)
    have e : ((m + (x :: l).length : Nat) : Int) = (((m + 1) + l.length : Nat) : Int) := by simp; omega
    rw [e] at hc hd ⊢
    have m1 : lo * ((m + 1 : Nat) : Int) = lo * m + lo := by rw [Int.natCast_add, Int.mul_add]; simp
    have m2 : hi * ((m + 1 : Nat) : Int) = hi * m + hi := by rw [Int.natCast_add, Int.mul_add]; simp
    have n1 : lo * (((m + 1) + l.length : Nat) : Int) ≤ lo * ((m + 1 : Nat) : Int) := Int.mul_le_mul_of_nonpos_left h0 (by omega)
    have n2 : hi * ((m + 1 : Nat) : Int) ≤ hi * (((m + 1) + l.length : Nat) : Int) := Int.mul_le_mul_of_nonneg_left (by omega) h1
    have hw : wrap64 (acc + x) = acc + x := IntWalk.wrap64_in _ ⟨by omega, by omega⟩
    have ih := foldW lo hi h0 h1 l (acc + x) (m + 1) (fun y hy => hl y (by simp [hy])) (by omega) (by omega) hc hd
    rw [List.foldl_cons, hw, List.sum_cons]
    rw [← Int.add_assoc]
    exact ih
theorem sumW_small (l : List Int) (lo hi : Int) (h0 : lo ≤ 0) (h1 : 0 ≤ hi) (hl : ∀ x ∈ l, lo ≤ x ∧ x ≤ hi) (hb : hi * l.length ≤ 9223372036854775807) (hb' : -9223372036854775808 ≤ lo * l.length) : sumW l = l.sum ∧ lo * l.length ≤ l.sum ∧ l.sum ≤ hi * l.length := by
  have := foldW lo hi h0 h1 l 0 0 hl (by simp) (by simp) (by simpa using hb) (by simpa using hb')
  simpa [sumW] using this
set_option maxHeartbeats 400000 in
theorem sumOf_any (u : Value) (xs : List Int) (w : World) (hu : SlI w w.heap.size u xs) :
    Calls Try.prog 144 #[u] w fun e w' => e = .returned (.int .i64 (sumW xs)) ∧ w' = w := by
  obtain ⟨A, c, rfl, _, _, hn, hx⟩ := hu.open_
  clear hu
  go_enter Try.func144, Try.ntmps144
  go_wp2
  go_loop [3, 8] (fun s i => ∃ k : Nat, k ≤ xs.length ∧ i = .int .i64 k ∧ s = .int .i64 (sumW (xs.take k))) (fun _ i => xs.length - (intOf i).toNat)
  case atStart => exact ⟨0, Nat.zero_le _, rfl, rfl⟩
  case round =>
    obtain ⟨k, hk, rfl, rfl⟩ := hrel
    by_cases hlt : k < xs.length
    · obtain ⟨b, o, x, rfl, hb, HX, c1, _⟩ := SlI.at_ hx hlt
      clear hx
      have HS := Lib.hid (show sumW (xs.take (k + 1)) = wrap64 (sumW (xs.take k) + x) by rw [take_snoc HX.out, sumW_snoc])
      generalize sumW (xs.take k) = s at *
      go_wp2
      go_round
      case rel => exact ⟨k + 1, by omega, by go_num, by rw [HS.out]⟩
      case measure => simp [intOf]; omega
    · go_wp2
      go_ret
      exact ⟨by rw [List.take_of_length_le (by omega)]; rfl, rfl⟩
end Go.Proofs.Ytjhllgldllbaaaa

/- The two IsQuiver. -/
namespace Go.Proofs.Ytjhllgldllbaaaa
set_option linter.unusedVariables false
set_option linter.unusedSimpArgs false
open Go.RowKit

/-- A valid quiver. -/
def isQ (q : Qv) : Bool := inR q.v 1 5 && decide (q.f.length = q.t.length) && decide (q.f.length ≤ 6) && allR q.f 0 (q.v - 1) && allR q.t 0 (q.v - 1)

theorem isQ_t {q : Qv} : isQ q = true ↔ (1 ≤ q.v ∧ q.v ≤ 5) ∧ q.f.length = q.t.length ∧ q.f.length ≤ 6 ∧ (∀ x ∈ q.f, 0 ≤ x ∧ x ≤ q.v - 1) ∧ (∀ x ∈ q.t, 0 ≤ x ∧ x ≤ q.v - 1) := by
  simp only [isQ, Bool.and_eq_true, inR_t, allR_t, decide_eq_true_eq, and_assoc]

set_option maxHeartbeats 800000 in
theorem implIsQuiver_any (u : Value) (q : Qv) (w : World) (hu : QvR w w.heap.size u q) :
    Calls Try.prog 122 #[u] w fun e w' => e = .returned (.bool (isQ q)) ∧ Below w.heap.size w w' := by
  obtain ⟨A, c, C, d, rfl, hf, ht, hr, lf, lt⟩ := hu.open_
  clear hu
  obtain ⟨W, hW⟩ : ∃ W, W = w.alloc (.cells #[.int .i64 q.v, .slice A q.f.length c, .slice C q.t.length d] 26) := ⟨_, rfl⟩
  have g0 : Below w.heap.size w W := by rw [hW]; exact below_alloc _ _
  have kB : Blk W w.heap.size 26 #[.int .i64 q.v, .slice A q.f.length c, .slice C q.t.length d] := by rw [hW]; exact Blk.new _ _ _
  have c0 := kB.cell' (i := 0) rfl
  have c1 := kB.cell' (i := 1) rfl
  have c2 := kB.cell' (i := 2) rfl
  unfold isQ
  rcases h1 : inR q.v 1 5 with _ | _
  · go_enter Try.func122, Try.ntmps122
    go_wp2_with fail
    rw [← hW]; clear hW
    refine (within_any _ _ _ _).mono ?_; rintro e w' ⟨rfl, rfl⟩
    rw [h1]
    go_wp2
    go_ret
    exact ⟨rfl, g0⟩
  have hb := inR_t.1 h1
  obtain ⟨hb1, hb2⟩ := hb
  by_cases h2 : q.f.length = q.t.length
  · have e2 : ((q.f.length : Int) == q.t.length) = true := by rw [beq_iff_eq]; omega
    by_cases h3 : q.f.length ≤ 6
    · have e3 : decide (q.f.length ≤ 6) = true := by simpa using h3
      have e2' : decide (q.f.length = q.t.length) = true := by simpa using h2
      rw [e2', e3]
      clear h2 e2' e3
      obtain ⟨B1, hB1⟩ : ∃ B, allR q.f 0 (q.v - 1) = B := ⟨_, rfl⟩
      obtain ⟨B2, hB2⟩ : ∃ B, allR q.t 0 (q.v - 1) = B := ⟨_, rfl⟩
      rw [hB1, hB2]
      have HB1 := Lib.hid hB1
      have HB2 := Lib.hid hB2
      clear hB1 hB2
      cases B1
      · go_enter Try.func122, Try.ntmps122
        go_wp2_with fail
        rw [← hW]; clear hW
        refine (within_any _ _ _ _).mono ?_; rintro e w' ⟨rfl, rfl⟩
        rw [h1]
        go_wp2_with fail
        refine (allWithin_any _ q.f _ _ _ (SlI.next g0 hf)).mono ?_; rintro e w1 ⟨rfl, hb1⟩
        rw [HB1.out]
        go_wp2
        go_ret
        exact ⟨rfl, bthen g0 hb1⟩
      · go_enter Try.func122, Try.ntmps122
        go_wp2_with fail
        rw [← hW]; clear hW
        refine (within_any _ _ _ _).mono ?_; rintro e w' ⟨rfl, rfl⟩
        rw [h1]
        go_wp2_with fail
        refine (allWithin_any _ q.f _ _ _ (SlI.next g0 hf)).mono ?_; rintro e w1 ⟨rfl, hb1⟩
        rw [HB1.out]
        have d0 := (kB.call hb1).cell' (i := 0) rfl
        have d2 := (kB.call hb1).cell' (i := 2) rfl
        have g1 := bthen g0 hb1
        clear c0 c1 c2
        go_wp2_with fail
        refine (allWithin_any _ q.t _ _ _ (SlI.next g1 ht)).mono ?_; rintro e w2 ⟨rfl, hb2⟩
        rw [HB2.out]
        go_wp2
        go_ret
        exact ⟨rfl, bthen g1 hb2⟩
    · have e3 : decide (q.f.length ≤ 6) = false := by simpa using h3
      rw [e3]
      have e3' : ¬ ((q.f.length : Int) ≤ 6) := by omega
      clear h2
      simp only [Bool.and_false, Bool.false_and]
      go_enter Try.func122, Try.ntmps122
      go_wp2_with fail
      rw [← hW]; clear hW
      refine (within_any _ _ _ _).mono ?_; rintro e w' ⟨rfl, rfl⟩
      rw [h1]
      go_wp2
      go_ret
      exact ⟨rfl, g0⟩
  · have e2 : ((q.f.length : Int) == q.t.length) = false := by rw [beq_eq_false_iff_ne]; omega
    have e2' : decide (q.f.length = q.t.length) = false := by simpa using h2
    rw [e2']
    simp only [Bool.and_false, Bool.false_and]
    go_enter Try.func122, Try.ntmps122
    go_wp2_with fail
    rw [← hW]; clear hW
    refine (within_any _ _ _ _).mono ?_; rintro e w' ⟨rfl, rfl⟩
    rw [h1]
    go_wp2
    go_ret
    exact ⟨rfl, g0⟩

/-- what the reference's loop has met -/
def okTo (q : Qv) (k : Nat) : Prop := (∀ x ∈ q.f.take k, inR x 0 (wrap64 (q.v - 1)) = true) ∧ ∀ x ∈ q.t.take k, inR x 0 (wrap64 (q.v - 1)) = true
theorem isQ_bad {q : Qv} {x : Int} (hx : x ∈ q.f ∨ x ∈ q.t) (hr : inR x 0 (wrap64 (q.v - 1)) = false) : isQ q = false := by
  by_cases h : isQ q = true
  · obtain ⟨hv, _, _, hf, ht⟩ := isQ_t.1 h
    have e : wrap64 (q.v - 1) = q.v - 1 := IntWalk.wrap64_in _ ⟨by omega, by omega⟩
    rw [e, inR_f] at hr
    rcases hx with hx | hx
    · exact absurd (hf x hx) hr
    · exact absurd (ht x hx) hr
  · simpa using h
theorem isQ_end {q : Qv} {k : Nat} (h : okTo q k) (hk : ¬ (k < q.f.length ∧ k < q.t.length)) : isQ q = (inR q.v 1 5 && decide (q.f.length ≤ 6) && decide (q.t.length = q.f.length)) := by
  rw [Bool.eq_iff_iff, isQ_t]
  simp only [Bool.and_eq_true, inR_t, decide_eq_true_eq]
  constructor
  · rintro ⟨h1, h2, h3, _⟩
    exact ⟨⟨h1, h3⟩, h2.symm⟩
  · rintro ⟨⟨h1, h3⟩, h2⟩
    have e : wrap64 (q.v - 1) = q.v - 1 := IntWalk.wrap64_in _ ⟨by omega, by omega⟩
    unfold okTo at h
    rw [e, List.take_of_length_le (by omega), List.take_of_length_le (by omega)] at h
    exact ⟨h1, h2.symm, h3, fun x hx => inR_t.1 (h.1 x hx), fun x hx => inR_t.1 (h.2 x hx)⟩
theorem okTo_step {q : Qv} {k : Nat} {x y : Int} (h : okTo q k) (hx : q.f[k]? = some x) (hy : q.t[k]? = some y) (h1 : inR x 0 (wrap64 (q.v - 1)) = true) (h2 : inR y 0 (wrap64 (q.v - 1)) = true) : okTo q (k + 1) := by
  refine ⟨fun z hz => ?_, fun z hz => ?_⟩
  · rw [take_snoc hx, List.mem_append, List.mem_singleton] at hz
    rcases hz with hz | rfl
    · exact h.1 z hz
    · exact h1
  · rw [take_snoc hy, List.mem_append, List.mem_singleton] at hz
    rcases hz with hz | rfl
    · exact h.2 z hz
    · exact h2

set_option maxHeartbeats 1600000 in
theorem specIsQuiver_any (u : Value) (q : Qv) (w : World) (hu : QvR w w.heap.size u q) :
    Calls Try.prog 119 #[u] w fun e w' => e = .returned (.bool (isQ q)) ∧ Below w.heap.size w w' := by
  obtain ⟨A, c, C, d, rfl, hf, ht, hr, lf, lt⟩ := hu.open_
  clear hu
  have g0 : Below w.heap.size w (w.alloc (.cells #[.int .i64 q.v, .slice A q.f.length c, .slice C q.t.length d] 26)) := below_alloc _ _
  have kB := Blk.new w 26 #[.int .i64 q.v, .slice A q.f.length c, .slice C q.t.length d]
  go_enter Try.func119, Try.ntmps119
  go_wp2
  go_loopw [3] (fun i wr => ∃ k : Nat, k ≤ q.f.length ∧ i = .int .i64 k ∧ Below w.heap.size w wr ∧ Blk wr w.heap.size 26 #[.int .i64 q.v, .slice A q.f.length c, .slice C q.t.length d] ∧ Hid (okTo q k)) (fun i _ => q.f.length - (intOf i).toNat)
  case atStart => exact ⟨0, Nat.zero_le _, rfl, g0, kB, by intro x hx; simp at hx, by intro x hx; simp at hx⟩
  case round =>
    clear g0 kB
    obtain ⟨k, hk, rfl, hbel, kB, hok⟩ := hrel
    have c0 := kB.cell' (i := 0) rfl
    have c1 := kB.cell' (i := 1) rfl
    have c2 := kB.cell' (i := 2) rfl
    by_cases hlt : k < q.f.length ∧ k < q.t.length
    · obtain ⟨hlt1, hlt2⟩ := hlt
      obtain ⟨b, o, x, rfl, hb, HX, x1, _⟩ := SlI.at_ hf hlt1
      obtain ⟨b', o', y, rfl, hb', HY, y1, _⟩ := SlI.at_ ht hlt2
      have s := hbel.size
      have d0 := InB.cell kB.lt c0
      have d1 := InB.cell kB.lt c1
      have d2 := InB.cell kB.lt c2
      have d3 := InB.cell (by omega) (bcell hbel hb x1)
      have d4 := InB.cell (by omega) (bcell hbel hb' y1)
      obtain ⟨u, hU⟩ : ∃ u, wrap64 (q.v - 1) = u := ⟨_, rfl⟩
      have HU := Lib.hid hU
      clear x1 y1 hf ht c0
      rcases hB1 : inR x 0 u with _ | _
      · have hfin := Lib.hid (isQ_bad (q := q) (.inl (List.mem_of_getElem? HX.out)) (by rw [HU.out]; exact hB1))
        go_wp2
        (refine wp_region_inB (by kernel_rfl) (by kernel_rfl) ?_; (repeat (go_big_quiet_step ((go_at_call 61; exact InB.call_same (l1In_any _ _ _ _))))); refine wpQuiet_nil ?_; intro w1 hw'; obtain ⟨s1, hw1⟩ := hw'; have hb1 := s1.below; rw [← hw1] at hb1; clear hw1 s1)
        go_wp2
        go_ret
        exact ⟨by rw [hfin.out]; rfl, hbel.trans (hb1.mono s)⟩
      · rcases hB2 : inR y 0 u with _ | _
        · have hfin := Lib.hid (isQ_bad (q := q) (.inr (List.mem_of_getElem? HY.out)) (by rw [HU.out]; exact hB2))
          go_wp2
          (refine wp_region_inB (by kernel_rfl) (by kernel_rfl) ?_; (repeat (go_big_quiet_step ((go_at_call 61; exact InB.call_same (l1In_any _ _ _ _))))); refine wpQuiet_nil ?_; intro w1 hw'; obtain ⟨s1, hw1⟩ := hw'; have hb1 := s1.below; rw [← hw1] at hb1; clear hw1 s1)
          go_wp2
          go_ret
          exact ⟨by rw [hfin.out]; rfl, hbel.trans (hb1.mono s)⟩
        · go_wp2
          (refine wp_region_inB (by kernel_rfl) (by kernel_rfl) ?_; (repeat (go_big_quiet_step ((go_at_call 61; exact InB.call_same (l1In_any _ _ _ _))))); refine wpQuiet_nil ?_; intro w1 hw'; obtain ⟨s1, hw1⟩ := hw'; have hb1 := s1.below; rw [← hw1] at hb1; clear hw1 s1)
          go_wp2
          go_roundw
          case rel => exact ⟨k + 1, by omega, by go_num, hbel.trans (hb1.mono s), kB.call hb1, okTo_step hok.out HX.out HY.out (by rw [HU.out]; exact hB1) (by rw [HU.out]; exact hB2)⟩
          case measure => simp [intOf]; omega
    · have hE := isQ_end hok.out hlt
      have hx : k < q.f.length → ¬ k < q.t.length := fun a b => hlt ⟨a, b⟩
      clear hlt hf ht
      rcases hB1 : inR q.v 1 5 with _ | _
      · rw [hB1] at hE
        have hfin := Lib.hid hE
        clear hE
        by_cases ha : k < q.f.length
        all_goals
          first | have hb := hx ha | skip
          clear hx
          go_wp2_with (go_at_call 61; refine (l1In_any _ _ _ _).mono ?_; rintro e w' ⟨rfl, rfl⟩; rw [hB1])
          go_ret
          exact ⟨by rw [hfin.out]; rfl, hbel⟩
      · rw [hB1] at hE
        by_cases h6 : q.f.length ≤ 6
        · by_cases hl : q.t.length = q.f.length
          · have hfin : Hid (isQ q = true) := by show _ = _; rw [hE]; simp [h6, hl]
            have he : ((q.t.length : Int) == q.f.length) = true := by rw [beq_iff_eq]; omega
            have h6' : (q.f.length : Int) ≤ 6 := by omega
            clear hE hl
            by_cases ha : k < q.f.length
            all_goals
              first | have hb := hx ha | skip
              clear hx
              go_wp2_with (go_at_call 61; refine (l1In_any _ _ _ _).mono ?_; rintro e w' ⟨rfl, rfl⟩; rw [hB1])
              go_ret
              exact ⟨by rw [hfin.out]; rfl, hbel⟩
          · have hfin : Hid (isQ q = false) := by show _ = _; rw [hE]; simp [hl]
            have he : ((q.t.length : Int) == q.f.length) = false := by rw [beq_eq_false_iff_ne]; omega
            have h6' : (q.f.length : Int) ≤ 6 := by omega
            clear hE hl
            by_cases ha : k < q.f.length
            all_goals
              first | have hb := hx ha | skip
              clear hx
              go_wp2_with (go_at_call 61; refine (l1In_any _ _ _ _).mono ?_; rintro e w' ⟨rfl, rfl⟩; rw [hB1])
              go_ret
              exact ⟨by rw [hfin.out]; rfl, hbel⟩
        · have hfin : Hid (isQ q = false) := by show _ = _; rw [hE]; simp [h6]
          have h6' : ¬ ((q.f.length : Int) ≤ 6) := by omega
          clear hE h6
          by_cases ha : k < q.f.length
          all_goals
            first | have hb := hx ha | skip
            clear hx
            go_wp2_with (go_at_call 61; refine (l1In_any _ _ _ _).mono ?_; rintro e w' ⟨rfl, rfl⟩; rw [hB1])
            go_ret
            exact ⟨by rw [hfin.out]; rfl, hbel⟩
end Go.Proofs.Ytjhllgldllbaaaa

/- Number vectors of quivers: areNumbers, l18Vector, hasVertex, l21Loop. -/
namespace Go.Proofs.Ytjhllgldllbaaaa
set_option linter.unusedVariables false
set_option linter.unusedSimpArgs false
open Go.RowKit

def isNum (q : Qv) (x : List Int) : Bool := isQ q && decide ((x.length : Int) = q.v) && allR x (-100) 100
theorem isNum_t {q : Qv} {x : List Int} : isNum q x = true ↔ isQ q = true ∧ (x.length : Int) = q.v ∧ ∀ y ∈ x, -100 ≤ y ∧ y ≤ 100 := by
  simp only [isNum, Bool.and_eq_true, decide_eq_true_eq, allR_t, and_assoc]

set_option maxHeartbeats 400000 in
theorem areNumbers_any (u xv : Value) (q : Qv) (xs : List Int) (w : World) (hu : QvR w w.heap.size u q) (hx : SlI w w.heap.size xv xs) :
    Calls Try.prog 93 #[u, xv] w fun e w' => e = .returned (.bool (isNum q xs)) ∧ Below w.heap.size w w' := by
  have hu' := hu
  obtain ⟨A, c, C, d, rfl, hf, hT, hr, lf, lt⟩ := hu.open_
  have hx' := hx
  obtain ⟨XA, xc, rfl, _, _, lx, _⟩ := hx.open_
  clear hu hx hf hT
  obtain ⟨W, hW⟩ : ∃ W, W = w.alloc (.cells #[.int .i64 q.v, .slice A q.f.length c, .slice C q.t.length d] 26) := ⟨_, rfl⟩
  have g0 : Below w.heap.size w W := by rw [hW]; exact below_alloc _ _
  have kB : Blk W w.heap.size 26 #[.int .i64 q.v, .slice A q.f.length c, .slice C q.t.length d] := by rw [hW]; exact Blk.new _ _ _
  have c0 := kB.cell' (i := 0) rfl
  have c1 := kB.cell' (i := 1) rfl
  have c2 := kB.cell' (i := 2) rfl
  have h0 := QvR.next g0 hu'
  have hx0 := SlI.next g0 hx'
  clear hu' hx'
  rcases hq : isQ q with _ | _
  · have hfin : Hid (isNum q xs = false) := by show _ = _; simp [isNum, hq]
    go_enter Try.func93, Try.ntmps93
    go_wp2_with fail
    rw [← hW]; clear hW
    refine (implIsQuiver_any _ _ _ h0).mono ?_; rintro e w1 ⟨rfl, hb1⟩
    rw [hq]
    go_wp2
    go_ret
    exact ⟨by rw [hfin.out]; rfl, bthen g0 hb1⟩
  by_cases hl : (xs.length : Int) = q.v
  · have hl' : ((xs.length : Int) == q.v) = true := by rw [beq_iff_eq]; exact hl
    obtain ⟨B, hB⟩ : ∃ B, allR xs (-100) 100 = B := ⟨_, rfl⟩
    have hfin : Hid (isNum q xs = B) := by show _ = _; simp [isNum, hq, hl, hB]
    have HB := Lib.hid hB
    clear hl hB
    cases B
    all_goals
      go_enter Try.func93, Try.ntmps93
      go_wp2_with fail
      rw [← hW]; clear hW
      refine (implIsQuiver_any _ _ _ h0).mono ?_; rintro e w1 ⟨rfl, hb1⟩
      rw [hq]
      have d0 := (kB.call hb1).cell' (i := 0) rfl
      clear c0 c1 c2
      have hx1 := SlI.next hb1 hx0
      go_wp2_with fail
      refine (allWithin_any _ xs _ _ _ hx1).mono ?_; rintro e w2 ⟨rfl, hb2⟩
      rw [HB.out]
      go_wp2
      go_ret
      exact ⟨by rw [hfin.out]; rfl, bthen (bthen g0 hb1) hb2⟩
  · have hl' : ((xs.length : Int) == q.v) = false := by rw [beq_eq_false_iff_ne]; exact hl
    have hfin : Hid (isNum q xs = false) := by show _ = _; simp [isNum, hl]
    clear hl
    go_enter Try.func93, Try.ntmps93
    go_wp2_with fail
    rw [← hW]; clear hW
    refine (implIsQuiver_any _ _ _ h0).mono ?_; rintro e w1 ⟨rfl, hb1⟩
    rw [hq]
    have d0 := (kB.call hb1).cell' (i := 0) rfl
    clear c0 c1 c2
    go_wp2
    go_ret
    exact ⟨by rw [hfin.out]; rfl, bthen g0 hb1⟩

set_option maxHeartbeats 800000 in
theorem l18Vector_any (u xv : Value) (q : Qv) (xs : List Int) (w : World) (hu : QvR w w.heap.size u q) (hx : SlI w w.heap.size xv xs) :
    Calls Try.prog 88 #[u, xv] w fun e w' => e = .returned (.bool (isNum q xs)) ∧ Below w.heap.size w w' := by
  have hu' := hu
  obtain ⟨A, c, C, d, rfl, hf, hT, hr, lf, lt⟩ := hu.open_
  obtain ⟨XA, xc, rfl, _, _, lx, hx'⟩ := hx.open_
  clear hu hx hf hT
  have g0 : Below w.heap.size w (w.alloc (.cells #[.int .i64 q.v, .slice A q.f.length c, .slice C q.t.length d] 26)) := below_alloc _ _
  have kB := Blk.new w 26 #[.int .i64 q.v, .slice A q.f.length c, .slice C q.t.length d]
  go_enter Try.func88, Try.ntmps88
  go_wp2
  go_loopw [5] (fun i wr => ∃ k : Nat, k ≤ xs.length ∧ i = .int .i64 k ∧ Below w.heap.size w wr ∧ Blk wr w.heap.size 26 #[.int .i64 q.v, .slice A q.f.length c, .slice C q.t.length d] ∧ Hid (∀ y ∈ xs.take k, inR y (-100) 100 = true)) (fun i _ => xs.length - (intOf i).toNat)
  case atStart => exact ⟨0, Nat.zero_le _, rfl, g0, kB, by intro y hy; simp at hy⟩
  case round =>
    clear g0 kB
    obtain ⟨k, hk, rfl, hbel, hkB, hok⟩ := hrel
    have e0 := hkB.cell' (i := 0) rfl
    have e1 := hkB.cell' (i := 1) rfl
    have e2 := hkB.cell' (i := 2) rfl
    by_cases hlt : k < xs.length
    · obtain ⟨b, o, x, rfl, hb, HX, x1, _⟩ := SlI.at_ hx' hlt
      have x2 := bcell hbel hb x1
      clear x1
      rcases hB1 : inR x (-100) 100 with _ | _
      · have hfin : Hid (isNum q xs = false) := by
          show _ = _
          have : allR xs (-100) 100 = false := by
            rw [allR, List.all_eq_false]
            exact ⟨x, List.mem_of_getElem? HX.out, by simp [hB1]⟩
          simp [isNum, this]
        go_wp2_with fail
        refine (l1In_any _ _ _ _).mono ?_; rintro e w9 ⟨rfl, rfl⟩
        rw [hB1]
        go_wp2
        go_ret
        exact ⟨by rw [hfin.out]; rfl, hbel⟩
      · have hst : Hid (∀ y ∈ xs.take (k + 1), inR y (-100) 100 = true) := by
          intro y hy
          rw [take_snoc HX.out, List.mem_append, List.mem_singleton] at hy
          rcases hy with hy | rfl
          · exact hok.out y hy
          · exact hB1
        go_wp2_with fail
        refine (l1In_any _ _ _ _).mono ?_; rintro e w9 ⟨rfl, rfl⟩
        rw [hB1]
        go_wp2
        go_roundw
        case rel => exact ⟨k + 1, by omega, by go_num, hbel, hkB, hst.out⟩
        case measure => simp [intOf]; omega
    · have hrq := QvR.more (B' := wr.heap.size) (by have := hbel.size; omega) (QvR.below hbel hu')
      have hall : allR xs (-100) 100 = true := by
        have h := hok.out
        rw [List.take_of_length_le (by omega)] at h
        exact List.all_eq_true.2 h
      rcases hq : isQ q with _ | _
      · have hfin : Hid (isNum q xs = false) := by show _ = _; simp [isNum, hq]
        clear hall
        go_wp2_with fail
        refine (specIsQuiver_any _ _ _ hrq).mono ?_; rintro e w1 ⟨rfl, hb1⟩
        rw [hq]
        go_wp2
        go_ret
        exact ⟨by rw [hfin.out]; rfl, hbel.trans (hb1.mono hbel.size)⟩
      · obtain ⟨B, hB⟩ : ∃ B, ((xs.length : Int) == q.v) = B := ⟨_, rfl⟩
        have hfin : Hid (isNum q xs = B) := by show _ = _; rw [← hB, isNum, hq, hall, Bool.and_true, Bool.true_and, Bool.eq_iff_iff, decide_eq_true_eq, beq_iff_eq]
        clear hall
        go_wp2_with fail
        refine (specIsQuiver_any _ _ _ hrq).mono ?_; rintro e w1 ⟨rfl, hb1⟩
        rw [hq]
        have f0 := (hkB.call hb1).cell' (i := 0) rfl
        clear e0 e1 e2
        cases B
        all_goals
          go_wp2
          go_ret
          exact ⟨by rw [hfin.out]; rfl, hbel.trans (hb1.mono hbel.size)⟩

theorem hasVertex_any (u : Value) (q : Qv) (v : Int) (w : World) (hu : QvR w w.heap.size u q) (hv : 1 ≤ q.v ∧ q.v ≤ 5) :
    Calls Try.prog 189 #[u, .int .i64 v] w fun e w' => e = .returned (.bool (inR v 0 (q.v - 1))) ∧ Below w.heap.size w w' := by
  obtain ⟨A, c, C, d, rfl, hf, hT, hr, lf, lt⟩ := hu.open_
  obtain ⟨hv1, hv2⟩ := hv
  have g0 := below_alloc w (.cells #[.int .i64 q.v, .slice A q.f.length c, .slice C q.t.length d] 26)
  go_enter Try.func189, Try.ntmps189
  go_wp2_with fail
  refine (within_any _ _ _ _).mono ?_; rintro e w' ⟨rfl, rfl⟩
  go_wp2
  go_ret
  exact ⟨rfl, g0⟩

/-- whether an arrow leads from v to v -/
def loopQ (q : Qv) (v : Int) : Bool := (q.f.zip q.t).any fun p => p.1 == v && p.2 == v
theorem loopQ_yes {q : Qv} {v x y : Int} {k : Nat} (hx : q.f[k]? = some x) (hy : q.t[k]? = some y) (h1 : (x == v) = true) (h2 : (y == v) = true) : loopQ q v = true := by
  rw [loopQ, List.any_eq_true]
  refine ⟨(x, y), ?_, by simp [h1, h2]⟩
  rw [List.mem_iff_getElem?]
  exact ⟨k, by rw [List.getElem?_zip_eq_some]; exact ⟨hx, hy⟩⟩
theorem loopQ_no {q : Qv} {v : Int} (h : ∀ (j : Nat) (x y : Int), q.f[j]? = some x → q.t[j]? = some y → (x == v && y == v) = false) : loopQ q v = false := by
  rw [loopQ, List.any_eq_false]
  rintro ⟨x, y⟩ hp
  rw [List.mem_iff_getElem?] at hp
  obtain ⟨j, hj⟩ := hp
  rw [List.getElem?_zip_eq_some] at hj
  simp [h j x y hj.1 hj.2]

set_option maxHeartbeats 400000 in
theorem l21Loop_any (u : Value) (q : Qv) (v : Int) (w : World) (hu : QvR w w.heap.size u q) (hl : q.f.length = q.t.length) :
    Calls Try.prog 219 #[u, .int .i64 v] w fun e w' => e = .returned (.bool (loopQ q v)) ∧ Below w.heap.size w w' := by
  obtain ⟨A, c, C, d, rfl, hf, hT, hr, lf, lt⟩ := hu.open_
  clear hu
  have HL := Lib.hid hl
  clear hl
  have g0 : Below w.heap.size w (w.alloc (.cells #[.int .i64 q.v, .slice A q.f.length c, .slice C q.t.length d] 26)) := below_alloc _ _
  have kB := Blk.new w 26 #[.int .i64 q.v, .slice A q.f.length c, .slice C q.t.length d]
  go_enter Try.func219, Try.ntmps219
  go_wp2
  go_loopw [5] (fun i wr => ∃ k n : Nat, k ≤ q.f.length ∧ i = .int .i64 k ∧ wr = (w.alloc (.cells #[.int .i64 q.v, .slice A q.f.length c, .slice C q.t.length d] 26)).drewN n ∧ Hid (∀ (j : Nat) (x y : Int), j < k → q.f[j]? = some x → q.t[j]? = some y → (x == v && y == v) = false)) (fun i _ => q.f.length - (intOf i).toNat)
  case atStart => exact ⟨0, 0, Nat.zero_le _, rfl, rfl, fun j x y h => absurd h (by omega)⟩
  case round =>
    obtain ⟨k, n, hk, rfl, hwr, hok⟩ := hrel
    have hbel : Below w.heap.size w wr := by rw [hwr]; exact below_drewN g0 n
    have hkB : Blk wr w.heap.size 26 #[.int .i64 q.v, .slice A q.f.length c, .slice C q.t.length d] := by rw [hwr]; exact kB.drewN n
    have HW := Lib.hid hwr
    have e1 := hkB.cell' (i := 1) rfl
    have e2 := hkB.cell' (i := 2) rfl
    clear hwr
    by_cases hlt : k < q.f.length
    · have hlt' : k < q.t.length := by have := HL.out; omega
      obtain ⟨b, o, x, rfl, hb, HX, x1, _⟩ := SlI.at_ hf hlt
      obtain ⟨b2, o2, y, rfl, hb2, HY, y1, _⟩ := SlI.at_ hT hlt'
      have x2 := bcell hbel hb x1
      have y2 := bcell hbel hb2 y1
      clear x1 y1 hf hT
      rcases hxv : (x == v) with _ | _
      · have hst : Hid (∀ (j : Nat) (x y : Int), j < k + 1 → q.f[j]? = some x → q.t[j]? = some y → (x == v && y == v) = false) := by
          intro j x' y' hj h1 h2
          by_cases e : j = k
          · subst e
            rw [HX.out] at h1
            injection h1 with h1
            rw [← h1, hxv]; rfl
          · exact hok.out j x' y' (by omega) h1 h2
        go_wp2
        go_roundw
        case rel => exact ⟨k + 1, n, by omega, by go_num, HW.out, hst.out⟩
        case measure => simp [intOf]; omega
      · rcases hyv : (y == v) with _ | _
        · have hst : Hid (∀ (j : Nat) (x y : Int), j < k + 1 → q.f[j]? = some x → q.t[j]? = some y → (x == v && y == v) = false) := by
            intro j x' y' hj h1 h2
            by_cases e : j = k
            · subst e
              rw [HY.out] at h2
              injection h2 with h2
              rw [← h2, hyv, Bool.and_false]
            · exact hok.out j x' y' (by omega) h1 h2
          go_wp2
          go_roundw
          case rel => exact ⟨k + 1, n, by omega, by go_num, HW.out, hst.out⟩
          case measure => simp [intOf]; omega
        · have hfin : Hid (loopQ q v = true) := loopQ_yes HX.out HY.out hxv hyv
          go_wp2
          go_ret
          exact ⟨by rw [hfin.out]; rfl, hbel⟩
    · have hfin : Hid (loopQ q v = false) := loopQ_no fun j x y h1 h2 => hok.out j x y (by have := lt_of_some h1; omega) h1 h2
      go_wp2
      go_ret
      exact ⟨by rw [hfin.out]; rfl, hbel⟩
end Go.Proofs.Ytjhllgldllbaaaa

/- The symmetric form of a quiver. -/
namespace Go.Proofs.Ytjhllgldllbaaaa
set_option linter.unusedVariables false
set_option linter.unusedSimpArgs false
open Go.RowKit

/-- arrows from a to b among the first k -/
def arr (q : Qv) (a b k : Nat) : Nat := ((q.f.zip q.t).take k).countP fun p => p.1 == (a : Int) && p.2 == (b : Int)
def ent (q : Qv) (k a b : Nat) : Int := (if a = b then 2 else 0) - arr q a b k - arr q b a k
def symM (q : Qv) : List (List Int) := matF q.v.toNat (ent q q.f.length)
theorem arr_le (q : Qv) (a b k : Nat) : arr q a b k ≤ q.f.length := by
  refine Nat.le_trans List.countP_le_length ?_
  simp; omega
theorem arr_zero (q : Qv) (a b : Nat) : arr q a b 0 = 0 := by simp [arr]
theorem arr_succ {q : Qv} {k a b x y : Nat} (hx : q.f[k]? = some (x : Int)) (hy : q.t[k]? = some (y : Int)) : arr q a b (k + 1) = arr q a b k + if x = a ∧ y = b then 1 else 0 := by
  have e : (q.f.zip q.t)[k]? = some ((x : Int), (y : Int)) := by rw [List.getElem?_zip_eq_some]; exact ⟨hx, hy⟩
  rw [arr, take_snoc e, List.countP_append, arr]
  congr 1
  rw [List.countP_singleton]
  by_cases h : x = a ∧ y = b
  · rw [if_pos h, if_pos (by simp [h.1, h.2])]
  · rw [if_neg h, if_neg]
    simp only [Bool.and_eq_true, beq_iff_eq]
    omega
theorem ent_rng (q : Qv) (k a b : Nat) (h : q.f.length ≤ 6) : -12 ≤ ent q k a b ∧ ent q k a b ≤ 2 := by
  have h1 := arr_le q a b k
  have h2 := arr_le q b a k
  unfold ent
  split <;> omega
theorem ent_zero (q : Qv) (a b : Nat) : ent q 0 a b = if a = b then 2 else 0 := by simp [ent, arr_zero]
theorem ent_succ {q : Qv} {k x y : Nat} (hx : q.f[k]? = some (x : Int)) (hy : q.t[k]? = some (y : Int)) (a b : Nat) : ent q (k + 1) a b = ent q k a b - (if a = x ∧ b = y then 1 else 0) - (if a = y ∧ b = x then 1 else 0) := by
  rw [ent, arr_succ hx hy, arr_succ hx hy, ent]
  by_cases h1 : x = a ∧ y = b
  · rw [if_pos h1, if_pos (c := a = x ∧ b = y) ⟨h1.1.symm, h1.2.symm⟩]
    by_cases h2 : x = b ∧ y = a
    · rw [if_pos h2, if_pos (c := a = y ∧ b = x) ⟨h2.2.symm, h2.1.symm⟩]; split <;> omega
    · rw [if_neg h2, if_neg (c := a = y ∧ b = x) (fun h => h2 ⟨h.2.symm, h.1.symm⟩)]; split <;> omega
  · rw [if_neg h1, if_neg (c := a = x ∧ b = y) (fun h => h1 ⟨h.1.symm, h.2.symm⟩)]
    by_cases h2 : x = b ∧ y = a
    · rw [if_pos h2, if_pos (c := a = y ∧ b = x) ⟨h2.2.symm, h2.1.symm⟩]; split <;> omega
    · rw [if_neg h2, if_neg (c := a = y ∧ b = x) (fun h => h2 ⟨h.2.symm, h.1.symm⟩)]; split <;> omega

theorem OwnI.newBlk {w : World} {base N : Nat} {cs : Array Value} {l : List Int} (hb : base ≤ w.heap.size) (hN : N ≤ 17592186044416) (hl : l.length = N) (hc : cs.toList = l.map (Value.int .i64)) (hr : ∀ x ∈ l, I64 x) : OwnI (w.alloc (.cells cs 3)) base (.slice (some ⟨w.heap.size, 0, none⟩) N N) l := by
  have hs : cs.size = N := by rw [← Array.length_toList, hc, List.length_map, hl]
  have h := (Blk.new w 3 cs).own (base := base) (n := N) (cap := N) (size := 1) hb (Nat.le_refl _) (by simp only [maxLen]; omega) (by omega)
  rw [hc, List.take_of_length_le (by simp; omega)] at h
  exact ⟨by rw [hl]; exact h, by omega, hr⟩
theorem Fam.far {w : World} {lo hi : Nat} {L : List (Value × List Int)} (h : Fam w lo hi L) {p : Addr} (hp : hi ≤ p.block) (u : Value) : Fam (w.setCell p u) lo hi L :=
  ⟨fun x hx => ⟨(h.1 x hx).1.setCell (fun e => by have := (h.1 x hx).2 _ e; omega) u, (h.1 x hx).2⟩, h.2⟩

theorem matF_dec {V : Nat} (g : Nat → Nat → Int) (x y : Nat) : (matF V g).set x ((rowF V (g x)).set y (g x y - 1)) = matF V fun a b => g a b - if a = x ∧ b = y then 1 else 0 := by
  rw [rowF_set, matF_set]
  apply matF_congr
  intro a b _ _
  by_cases e : a = x
  · subst e
    rw [if_pos rfl]
    by_cases e2 : b = y
    · subst e2
      rw [if_pos rfl, if_pos ⟨rfl, rfl⟩]
    · rw [if_neg e2, if_neg (fun h => e2 h.2)]; omega
  · rw [if_neg e, if_neg (fun h => e h.1)]; omega

set_option maxHeartbeats 1600000 in
theorem symmetric_any (u : Value) (q : Qv) (w : World) (hu : QvR w w.heap.size u q) (hq : isQ q = true) :
    Calls Try.prog 165 #[u] w fun e w' => ∃ v, e = .returned v ∧ IntssO w' w.heap.size w'.heap.size v (symM q) ∧ Below w.heap.size w w' := by
  obtain ⟨qv, qf, qt⟩ := q
  obtain ⟨A, c, C, d, rfl, hf, hT, hr, lf, lt⟩ := hu.open_
  clear hu
  obtain ⟨⟨hv1, hv2⟩, hlen, hl6, hfr, htr⟩ := isQ_t.1 hq
  dsimp only at *
  obtain ⟨V, rfl⟩ : ∃ V : Nat, qv = V := ⟨qv.toNat, by omega⟩
  have hV5 : V ≤ 5 := by omega
  have HLE := Lib.hid hlen
  have HR := Lib.hid (And.intro hfr htr)
  clear hlen hfr htr
  obtain ⟨i0, hi, hz0, hz1, hz2⟩ := info_parts infoInts
  have hmk := run_mk (P := Try.prog) Try.underlying65 hi hz0 (n := V) (by rw [hz2]; omega) (by omega)
  rw [hz1] at hmk
  clear hi hz0 hz1 hz2
  obtain ⟨i1, hi, hz0, hz1, hz2⟩ := info_parts infoInt
  have hmk1 := run_mk (P := Try.prog) Try.underlying22 hi hz0 (n := V) (by rw [hz2]; omega) (by omega)
  rw [hz1] at hmk1
  clear hi hz0 hz1 hz2
  obtain ⟨W, hW⟩ : ∃ W, W = (w.alloc (.cells #[.int .i64 V, .slice A qf.length c, .slice C qt.length d] 26)).alloc (.cells (mkCells (.slice none 0 0) V) 22) := ⟨_, rfl⟩
  have g0 : Below w.heap.size w W := by rw [hW]; exact ((Below.refl _ _).alloc (Nat.le_refl _) _).alloc (by simp) _
  have kB : Blk W w.heap.size 26 #[.int .i64 V, .slice A qf.length c, .slice C qt.length d] := by rw [hW]; exact (Blk.new _ _ _).alloc _
  have kO : Blk W (w.heap.size + 1) 22 (mkCells (.slice none 0 0) V) := by
    rw [hW]
    have := Blk.new (w.alloc (.cells #[.int .i64 V, .slice A qf.length c, .slice C qt.length d] 26)) 22 (mkCells (.slice none 0 0) V)
    simpa only [World.size_alloc] using this
  have zW : w.heap.size + 1 < W.heap.size := kO.lt
  go_enter Try.func165, Try.ntmps165
  go_wp2
  rw [← hW]; clear hW hmk
  go_loopw [12] (fun i wr => ∃ (cs : Array Value) (vs : List Value), vs.length ≤ V ∧ i = .int .i64 vs.length ∧ Below w.heap.size w wr ∧ Blk wr w.heap.size 26 #[.int .i64 V, .slice A qf.length c, .slice C qt.length d] ∧ Blk wr (w.heap.size + 1) 22 cs ∧ OutCs cs V vs ∧ Fam wr w.heap.size wr.heap.size (vs.zip ((matF V (ent ⟨V, qf, qt⟩ 0)).take vs.length))) (fun i _ => V - (intOf i).toNat)
  case atStart => exact ⟨_, [], Nat.zero_le _, rfl, g0, kB, kO, ⟨by simp [mkCells_size], by simp, fun j v h => by simp at h⟩, ⟨fun p hp => by simp at hp, by simp⟩⟩
  case round =>
    clear g0 kB kO zW
    obtain ⟨cs, vs, hk, rfl, hbel, hkB, hblk, hcs, hF⟩ := hrel
    have e0 := hkB.cell' (i := 0) rfl
    have e1 := hkB.cell' (i := 1) rfl
    have e2 := hkB.cell' (i := 2) rfl
    have hsz := hbel.size
    by_cases hlt : vs.length < V
    · have hgo := hblk.lt
      have hvs5 : vs.length ≤ 5 := by omega
      have hO := hblk.set_ vs.length (.slice (some ⟨wr.heap.size, 0, none⟩) V V)
      have hO1 := hO.alloc (.cells (mkCells (.int .i64 0) V) 3)
      have hQ1 := (hkB.far (p := ⟨w.heap.size + 1, vs.length, none⟩) (by simp) (.slice (some ⟨wr.heap.size, 0, none⟩) V V)).alloc (.cells (mkCells (.int .i64 0) V) 3)
      have f0 := hblk.frozen vs.length
      obtain ⟨v0, c0⟩ : ∃ v0, wr.cell? ⟨w.heap.size + 1, vs.length, none⟩ = some v0 := by rw [hblk.cell]; have := hcs.1; exact ⟨_, Array.getElem?_eq_getElem (by omega)⟩
      have cS := hO1.cell' (i := vs.length) (v := .slice (some ⟨wr.heap.size, 0, none⟩) V V) (by have := hcs.1; simp [Array.getElem?_setIfInBounds]; omega)
      have k0 := hQ1.cell' (i := 0) rfl
      have hv1 := OwnI.made0 (w := wr.setCell ⟨w.heap.size + 1, vs.length, none⟩ (.slice (some ⟨wr.heap.size, 0, none⟩) V V)) (base := wr.heap.size) (N := V) (by simp) (by omega)
      have zs : (wr.setCell ⟨w.heap.size + 1, vs.length, none⟩ (.slice (some ⟨wr.heap.size, 0, none⟩) V V)).heap.size = wr.heap.size := by simp
      rw [zs] at hv1
      have ZS := Lib.hid zs
      clear zs
      have c3 := (hv1.cellG (j := vs.length) (by simpa using hlt)).1
      have f3 := hv1.frozenG vs.length
      rw [show (List.replicate V (0 : Int)).getD vs.length 0 = 0 by rw [List.getD_eq_getElem?_getD, List.getElem?_replicate, if_pos hlt]; rfl] at c3
      have hv3 : OwnI ((wr.setCell ⟨w.heap.size + 1, vs.length, none⟩ (.slice (some ⟨wr.heap.size, 0, none⟩) V V)).alloc (.cells ((mkCells (.int .i64 0) V).setIfInBounds vs.length (.int .i64 2)) 3)) wr.heap.size (.slice (some ⟨wr.heap.size, 0, none⟩) V V) ((List.replicate V (0 : Int)).set vs.length 2) := by
        have h := OwnI.newBlk (w := wr.setCell ⟨w.heap.size + 1, vs.length, none⟩ (.slice (some ⟨wr.heap.size, 0, none⟩) V V)) (base := wr.heap.size) (N := V) (cs := (mkCells (.int .i64 0) V).setIfInBounds vs.length (.int .i64 2)) (l := (List.replicate V (0 : Int)).set vs.length 2) (by simp) (by omega) (by simp) (by
          rw [Array.toList_setIfInBounds, show (mkCells (.int .i64 0) V).toList = List.replicate V (.int .i64 0) from toList_madeCells_one _ _, List.map_set, List.map_replicate]) (fun x hx => by
          rcases List.mem_or_eq_of_mem_set hx with hx | rfl
          · obtain ⟨_, rfl⟩ := List.mem_replicate.1 hx
            exact ⟨by decide, by decide⟩
          · exact ⟨by decide, by decide⟩)
        rw [ZS.out] at h
        exact h
      have hF2 := (hF.setBlk (i := vs.length) hblk (by decide) (.slice (some ⟨wr.heap.size, 0, none⟩) V V)).below (below_alloc _ (.cells ((mkCells (.int .i64 0) V).setIfInBounds vs.length (.int .i64 2)) 3))
      have hQ3 := (hkB.far (p := ⟨w.heap.size + 1, vs.length, none⟩) (by simp) (.slice (some ⟨wr.heap.size, 0, none⟩) V V)).alloc (.cells ((mkCells (.int .i64 0) V).setIfInBounds vs.length (.int .i64 2)) 3)
      have hO3 := hO.alloc (.cells ((mkCells (.int .i64 0) V).setIfInBounds vs.length (.int .i64 2)) 3)
      have hrow : (List.replicate V (0 : Int)).set vs.length 2 = rowF V (ent ⟨V, qf, qt⟩ 0 vs.length) := by
        rw [show List.replicate V (0 : Int) = rowF V (fun _ => 0) from by rw [rowF, List.map_const', List.length_range], rowF_set]
        apply rowF_congr
        intro b _
        rw [ent_zero]
        by_cases e : b = vs.length
        · rw [if_pos e, if_pos e.symm]
        · rw [if_neg e, if_neg (fun h => e h.symm)]
      rw [hrow] at hv3
      have hF3 := hF2.snoc (hi := wr.heap.size + 1) ⟨hv3, fun k hk => by simp [Value.ownBlock] at hk; omega⟩ hsz (by omega)
      have hzip : vs.zip ((matF V (ent ⟨V, qf, qt⟩ 0)).take vs.length) ++ [(Value.slice (some ⟨wr.heap.size, 0, none⟩) V V, rowF V (ent ⟨V, qf, qt⟩ 0 vs.length))] = (vs ++ [Value.slice (some ⟨wr.heap.size, 0, none⟩) V V]).zip ((matF V (ent ⟨V, qf, qt⟩ 0)).take (vs ++ [Value.slice (some ⟨wr.heap.size, 0, none⟩) V V]).length) := by
        rw [List.length_append, List.length_singleton, take_snoc (matF_get _ hlt), List.zip_append (by simp [matF_length]; omega)]
        rfl
      rw [hzip] at hF3
      have HF3 := Lib.hid hF3
      clear hF hF2 hF3 hzip hrow hv1 hv2 hv3
      go_wp2
      go_roundw
      case rel => exact ⟨_, vs ++ [.slice (some ⟨wr.heap.size, 0, none⟩) V V], by simp; omega, by simp, (hbel.setCell (by simp) _).alloc (by simpa using hsz) _, hQ3, hO3, hcs.step hlt, by simpa using HF3.out⟩
      case measure => simp [intOf]; omega
    · have hvV : vs.length = V := by omega
      have ho : OutO wr w.heap.size wr.heap.size (.slice (some ⟨w.heap.size + 1, 0, none⟩) V V) vs := by
        have h1 := hcs
        rw [← hvV] at h1 ⊢
        exact h1.own hblk (by omega) (by omega)
      have hF0 : Fam wr w.heap.size wr.heap.size (vs.zip (matF V (ent ⟨V, qf, qt⟩ 0))) := by
        rwa [List.take_of_length_le (by rw [matF_length]; omega)] at hF
      have HVV := Lib.hid hvV
      have hbel0 := hbel
      have hkB0 := hkB
      go_wp2
      clear hvV hF hcs hblk hlt hbel hkB e0 e1 e2 hmk1
      have hmo : Try.prog.follows .mixedOrders = true := by kernel_rfl
      go_loopw [31] (fun i wr => ∃ k : Nat, k ≤ qf.length ∧ i = .int .i64 k ∧ Below w.heap.size w wr ∧ Blk wr w.heap.size 26 #[.int .i64 V, .slice A qf.length c, .slice C qt.length d] ∧ OutO wr w.heap.size wr.heap.size (.slice (some ⟨w.heap.size + 1, 0, none⟩) V V) vs ∧ Fam wr w.heap.size wr.heap.size (vs.zip (matF V (ent ⟨V, qf, qt⟩ k)))) (fun i _ => qf.length - (intOf i).toNat)
      case atStart => exact ⟨0, Nat.zero_le _, rfl, hbel0, hkB0, ho, hF0⟩
      case round =>
        clear hbel0 hkB0 ho hF0
        obtain ⟨k, hk, rfl, hbel, hkB, ho, hF⟩ := hrel
        have e0 := hkB.cell' (i := 0) rfl
        have e1 := hkB.cell' (i := 1) rfl
        have e2 := hkB.cell' (i := 2) rfl
        have hsz0 := Lib.hid hbel.size
        by_cases hlt : k < qf.length
        · have hltT : k < qt.length := by have := HLE.out; omega
          obtain ⟨b, o, x', rfl, hb, HX, x1, _⟩ := SlI.at_ hf hlt
          obtain ⟨b2, o2, y', rfl, hb2, HY, y1, _⟩ := SlI.at_ hT hltT
          have hxr := HR.out.1 x' (List.mem_of_getElem? HX.out)
          have hyr := HR.out.2 y' (List.mem_of_getElem? HY.out)
          obtain ⟨x, rfl⟩ : ∃ x : Nat, x' = x := ⟨x'.toNat, by omega⟩
          obtain ⟨y, rfl⟩ : ∃ y : Nat, y' = y := ⟨y'.toNat, by omega⟩
          have hxV : x < V := by omega
          have hyV : y < V := by omega
          clear hxr hyr
          have x2 := bcell hbel hb x1
          have y2 := bcell hbel hb2 y1
          obtain ⟨gr, cr, hvr, hor, hcr1, hcr2, hgr1, hgr2⟩ := hF.rowAt (by rw [HVV.out, matF_length]) (matF_get _ hxV) (by rw [rowF_length]; omega)
          obtain ⟨n, hn⟩ : ∃ n, ent ⟨V, qf, qt⟩ k x y = n := ⟨_, rfl⟩
          have hnr := ent_rng ⟨V, qf, qt⟩ k x y hl6
          have r1 := ho.cellS hvr
          rw [rowF_length] at r1 hcr1
          have r2 := (hor.cellG (j := y) (by rw [rowF_length]; exact hyV)).1
          rw [rowF_getD _ hyV, hn] at r2
          rw [hn] at hnr
          have r3 := hor.frozenG y
          have hp := hF.putAt (i := y) (x := n - 1) hvr (matF_get _ hxV) hor ⟨by omega, by omega⟩
          rw [← hn, matF_dec, hn] at hp
          have hput := (hor.put (j := y) (x := n - 1) ⟨by omega, by omega⟩).2
          have hoo := ho.grown hor hput
          have hkk := hkB.grown hput (hor.blkne hkB (by decide))
          have hbb := hbel.grown hput hsz0.out (fun j hj => by injection hj with hj; omega)
          obtain ⟨G1, hG1⟩ : ∃ G1 : Nat → Nat → Int, G1 = fun a b => ent ⟨V, qf, qt⟩ k a b - if a = x ∧ b = y then 1 else 0 := ⟨_, rfl⟩
          rw [← hG1] at hp
          have HG1 := Lib.hid hG1
          clear hG1 hput hor hF ho hn
          obtain ⟨W1, hW1⟩ : ∃ W1, W1 = (wr.setCell ⟨gr, y, none⟩ (.int .i64 (n - 1))).drew := ⟨_, rfl⟩
          have zW1 : W1.heap.size = wr.heap.size := by rw [hW1]; simp
          have hF1 : Fam W1 w.heap.size wr.heap.size (vs.zip (matF V G1)) := by rw [hW1]; exact hp.below (drew_below _)
          have ho1 : OutO W1 w.heap.size wr.heap.size (.slice (some ⟨w.heap.size + 1, 0, none⟩) V V) vs := by rw [hW1]; exact hoo.below (drew_below _)
          have hk1 : Blk W1 w.heap.size 26 #[.int .i64 V, .slice (some ⟨b, o, none⟩) qf.length c, .slice (some ⟨b2, o2, none⟩) qt.length d] := by rw [hW1]; exact hkk.drewN 1
          have hb1 : Below w.heap.size w W1 := by rw [hW1]; exact below_drewN hbb 1
          clear hp hoo hkk hbb hkB hbel
          go_wp2_with fail
          go_region_o
          rw [← hW1]
          clear hW1 r1 r2 r3 x2 y2 e0 e1 e2 hvr
          have e2 := hk1.cell' (i := 2) rfl
          have y2 := bcell hb1 hb2 y1
          obtain ⟨gs, cr', hvr, hor, hcr1', hcr2', hgs1, hgs2⟩ := hF1.rowAt (by rw [HVV.out, matF_length]) (matF_get _ hyV) (by rw [rowF_length]; omega)
          obtain ⟨m, hm⟩ : ∃ m, G1 y x = m := ⟨_, rfl⟩
          have hmr : -13 ≤ m ∧ m ≤ 2 := by
            rw [← hm, HG1.out]
            have := ent_rng ⟨V, qf, qt⟩ k y x hl6
            dsimp only
            split <;> omega
          have r1 := ho1.cellS hvr
          rw [rowF_length] at r1 hcr1'
          have r2 := (hor.cellG (j := x) (by rw [rowF_length]; exact hxV)).1
          rw [rowF_getD _ hxV, hm] at r2
          have r3 := hor.frozenG x
          have hp := hF1.putAt (i := x) (x := m - 1) hvr (matF_get _ hyV) hor ⟨by omega, by omega⟩
          rw [← hm, matF_dec, hm] at hp
          have hput := (hor.put (j := x) (x := m - 1) ⟨by omega, by omega⟩).2
          have hoo := ho1.grown hor hput
          have hkk := hk1.grown hput (hor.blkne hk1 (by decide))
          have hbb := hb1.grown hput (by have := hsz0.out; omega) (fun j hj => by injection hj with hj; omega)
          have hst : (matF V fun a b => G1 a b - if a = y ∧ b = x then 1 else 0) = matF V (ent ⟨V, qf, qt⟩ (k + 1)) := by
            apply matF_congr
            intro a b _ _
            rw [ent_succ HX.out HY.out, HG1.out]
          rw [hst] at hp
          have HP := Lib.hid hp
          have HOO := Lib.hid hoo
          clear hst hp hput hoo hor hF1 ho1 hm hvr
          go_wp2
          go_roundw
          case rel => exact ⟨k + 1, by omega, by go_num, hbb, hkk, HOO.out.mono (Nat.le_refl _) (by simp; omega), HP.out.mono (Nat.le_refl _) (by simp; omega)⟩
          case measure => simp [intOf]; omega
        · have hst : Hid (symM ⟨V, qf, qt⟩ = matF V (ent ⟨V, qf, qt⟩ k)) := by
            show _ = _
            rw [symM, show qf.length = k by omega]
            rfl
          rw [← hst.out] at hF
          go_wp2
          exact bodyPost_ret (v := .slice (some ⟨w.heap.size + 1, 0, none⟩) V V) (by simp [results, go_sem]) rfl ⟨_, rfl, ⟨vs, ho, by rw [hst.out, matF_length]; exact HVV.out, hF⟩, hbel⟩
end Go.Proofs.Ytjhllgldllbaaaa

/- Kinds of quivers: minors by sets of rows; plain part. -/
namespace Go.Proofs.Ytjhllgldllbaaaa
set_option linter.unusedVariables false
set_option linter.unusedSimpArgs false
open Go.RowKit

theorem band1 (x : Int) : bits .and .i64 x 1 = x % 2 := by
  have h1 : (BitVec.ofInt 64 1).toNat = 2 ^ 1 - 1 := by decide
  have key : (BitVec.ofInt 64 x &&& BitVec.ofInt 64 1).toNat = (x % ((2 ^ 64 : Nat) : Int)).toNat % 2 ^ 1 := by
    rw [BitVec.toNat_and, BitVec.toNat_ofInt, h1, Nat.and_two_pow_sub_one_eq_mod]
  show IntKind.i64.wrap ((BitVec.ofInt 64 x &&& BitVec.ofInt 64 1).toNat : Nat) = x % 2
  rw [key, IntKind.wrap_i64]
  omega
def bitT (s v : Nat) : Bool := s / 2 ^ v % 2 == 1
def bitL (s n : Nat) : List Nat := (List.range n).filter (bitT s)
def mnRow (s n : Nat) (g : Nat → Int) : List Int := (bitL s n).map g
def mnTo (s n : Nat) (g : Nat → Nat → Int) (k : Nat) : List (List Int) := (bitL s k).map fun v => mnRow s n (g v)
def mnL (s n : Nat) (g : Nat → Nat → Int) : List (List Int) := mnTo s n g n
def dtS (s n : Nat) (g : Nat → Nat → Int) : Int := detL (bitL s n).length (mnL s n g)
def kdGo (n : Nat) (g : Nat → Nat → Int) : Nat → Nat → Int → Int
  | 0, _, k => k
  | m + 1, s, k => if dtS s n g < 0 then 3 else kdGo n g m (s + 1) (if dtS s n g = 0 then 2 else k)
def kindQ (q : Qv) : Int := if isQ q then kdGo q.v.toNat (ent q q.f.length) (2 ^ q.v.toNat - 1) 1 1 else 0
theorem bitL_succ_t {s k : Nat} (h : bitT s k = true) : bitL s (k + 1) = bitL s k ++ [k] := by
  simp [bitL, List.range_succ, List.filter_append, h]
theorem bitL_succ_f {s k : Nat} (h : bitT s k = false) : bitL s (k + 1) = bitL s k := by
  simp [bitL, List.range_succ, List.filter_append, h]
theorem bitL_length (s n : Nat) : (bitL s n).length ≤ n := by
  have := List.length_filter_le (bitT s) (List.range n)
  rw [List.length_range] at this
  exact this
theorem bitT_0 {s v : Nat} (h : bitT s v = false) : (s : Int) / 2 ^ v % 2 = 0 := by
  simp only [bitT, beq_eq_false_iff_ne, ne_eq] at h
  have h2 : s / 2 ^ v % 2 = 0 := by omega
  have : ((s / 2 ^ v % 2 : Nat) : Int) = 0 := by omega
  simpa using this
theorem bitT_1 {s v : Nat} (h : bitT s v = true) : (s : Int) / 2 ^ v % 2 = 1 := by
  simp only [bitT, beq_iff_eq] at h
  have : ((s / 2 ^ v % 2 : Nat) : Int) = 1 := by omega
  simpa using this
theorem mnL_sq {s n : Nat} {g : Nat → Nat → Int} (hg : ∀ a b, -12 ≤ g a b ∧ g a b ≤ 12) : Sq (bitL s n).length (mnL s n g) := by
  refine ⟨by simp [mnL, mnTo], fun r hr => ?_, fun r hr x hx => ?_⟩
  · obtain ⟨v, _, rfl⟩ := List.mem_map.1 hr
    simp [mnRow]
  · obtain ⟨v, _, rfl⟩ := List.mem_map.1 hr
    obtain ⟨w, _, rfl⟩ := List.mem_map.1 hx
    exact hg v w
theorem mnRow_i64 {s n : Nat} {g : Nat → Int} (hg : ∀ b, -12 ≤ g b ∧ g b ≤ 12) : ∀ x ∈ mnRow s n g, I64 x := fun x hx => by
  obtain ⟨w, _, rfl⟩ := List.mem_map.1 hx
  have := hg w
  exact ⟨by omega, by omega⟩
theorem kdGo_rng (n : Nat) (g : Nat → Nat → Int) : ∀ m s k, 1 ≤ k ∧ k ≤ 3 → 1 ≤ kdGo n g m s k ∧ kdGo n g m s k ≤ 3
  | 0, _, _, h => h
  | m + 1, s, k, h => by
    simp only [kdGo]
    split
    · omega
    · exact kdGo_rng n g m _ _ (by split <;> omega)
theorem kindQ_rng (q : Qv) : 0 ≤ kindQ q ∧ kindQ q ≤ 3 := by
  unfold kindQ
  split
  · have := kdGo_rng q.v.toNat (ent q q.f.length) (2 ^ q.v.toNat - 1) 1 1 (by omega)
    omega
  · omega
end Go.Proofs.Ytjhllgldllbaaaa

/- Minors by sets of rows: the reference's l18Minor. -/
namespace Go.Proofs.Ytjhllgldllbaaaa
set_option linter.unusedVariables false
set_option linter.unusedSimpArgs false
open Go.RowKit

set_option maxHeartbeats 3200000 in
set_option maxRecDepth 100000 in
theorem l18Minor_any (u : Value) (n s : Nat) (g : Nat → Nat → Int) (w0 : World) (hn : n ≤ 5) (hs : s ≤ 64) (hg : ∀ a b, -12 ≤ g a b ∧ g a b ≤ 12) (hu : SlII w0 w0.heap.size u (matF n g)) :
    Calls Try.prog 162 #[u, .int .i64 s] w0 fun e w' => ∃ v, e = .returned v ∧ IntssO w' w0.heap.size w'.heap.size v (mnL s n g) ∧ Below w0.heap.size w0 w' := by
  obtain ⟨A, c, rfl, hc1, hc2, _, hx⟩ := hu.open_
  clear hu
  have HX := Lib.hid hx
  have HG := Lib.hid hg
  have HB1 := Lib.hid band1
  rw [matF_length] at hc1 ⊢
  clear hx hg
  obtain ⟨W, hW⟩ : ∃ z, z = w0.alloc (.cells #[] 22) := ⟨_, rfl⟩
  have b1 : Below w0.heap.size w0 W := by rw [hW]; exact below_alloc _ _
  have o1 : IntssO W w0.heap.size W.heap.size (.slice (some ⟨w0.heap.size, 0, none⟩) 0 0) [] := by rw [hW]; exact IntssO.made0 w0 (Nat.le_refl _)
  have s1 := b1.size
  go_enter Try.func162, Try.ntmps162
  go_wp2
  rw [← hW]; clear hW
  go_loopw [5, 6] (fun ov i wr => ∃ k : Nat, k ≤ n ∧ i = .int .i64 k ∧ IntssO wr w0.heap.size wr.heap.size ov (mnTo s n g k) ∧ Below w0.heap.size w0 wr) (fun _ i _ => n - (intOf i).toNat)
  case atStart => exact ⟨0, Nat.zero_le _, rfl, o1, b1⟩
  case round =>
    clear o1 b1 s1
    obtain ⟨k, hk, rfl, hO, hbel⟩ := hrel
    obtain ⟨OA, oc, eo, hoc, hoc2, hol⟩ := hO.form2
    have hlo : (mnTo s n g k).length = (bitL s k).length := by simp [mnTo]
    rw [hlo] at eo hoc
    subst eo
    have hbl := bitL_length s k
    by_cases hlt : k < n
    · obtain ⟨b, o, rfl, hb0⟩ := SlII.addr HX.out (by rw [matF_length]; omega)
      obtain ⟨r, RA, rc, hr0, _, y1, hr, hrc1, hrc2⟩ := SlII.elt HX.out (k := k) (by rw [matF_length]; omega)
      rw [matF_get _ hlt] at hr0
      injection hr0 with hr0
      subst hr0
      rcases hbt : bitT s k with _ | _
      · have h0 := bitT_0 hbt
        have h1 := HB1.out
        rw [show mnTo s n g k = mnTo s n g (k + 1) by rw [mnTo, mnTo, bitL_succ_f hbt]] at hO
        have HO := Lib.hid hO
        have HBE := Lib.hid hbel
        clear hO hbel hbt hlo hr y1
        go_wp2
        clear h0 h1
        go_roundw
        case rel => exact ⟨k + 1, by omega, by go_num, HO.out, HBE.out⟩
        case measure => simp [intOf]; omega
      · have h0 := bitT_1 hbt
        have h1 := HB1.out
        rw [rowF_length] at y1 hrc1
        obtain ⟨b2, o2, rfl, hb2⟩ := SlI.addr hr (by rw [rowF_length]; omega)
        obtain ⟨w1, hw1⟩ : ∃ z, z = wr.alloc (.cells #[] 3) := ⟨_, rfl⟩
        have bw1 : Below wr.heap.size wr w1 := by rw [hw1]; exact below_alloc _ _
        have o2' : IntsO w1 wr.heap.size w1.heap.size (.slice (some ⟨wr.heap.size, 0, none⟩) 0 0) [] := by rw [hw1]; exact IntsO.of_own (OwnI.made _ rfl (Nat.le_refl _))
        have hO1 := hO.below bw1
        have hbel1 := hbel.trans (bw1.mono hbel.size)
        have HR := Lib.hid hr
        have HO := Lib.hid hO1
        have HBE := Lib.hid hbel1
        have HBT := Lib.hid hbt
        have HLO := Lib.hid hlo
        have hws := hbel.size
        have hws1 := bw1.size
        obtain ⟨LO, hLO⟩ : ∃ z, z = wr.heap.size := ⟨_, rfl⟩
        rw [← hLO] at o2' hws hws1
        have HLO2 := Lib.hid hLO
        clear hO hbel hbt hlo hr hO1 hbel1 bw1
        go_wp2
        rw [← hw1]
        rw [← hLO]
        clear hw1 hLO h0 h1
        go_loopw [7, 8] (fun rv i wq => ∃ j : Nat, j ≤ n ∧ i = .int .i64 j ∧ IntsO wq LO wq.heap.size rv ((bitL s j).map (g k)) ∧ Below LO w1 wq) (fun _ i _ => n - (intOf i).toNat)
        case atStart => exact ⟨0, Nat.zero_le _, rfl, o2', Below.refl _ _⟩
        case round =>
          clear o2'
          obtain ⟨j, hj, rfl, hI, hbq⟩ := hrel
          obtain ⟨RV, rv, er, hrv1, hrv2⟩ := hI.1.form
          have hlr : ((bitL s j).map (g k)).length = (bitL s j).length := by simp
          have hbl2 := bitL_length s j
          have hwq := hbq.size
          have hbq2 : Below w0.heap.size w0 wr := HBE.out.trans (hbq.mono (by omega))
          rw [hlr] at er hrv1
          subst er
          by_cases hjn : j < n
          · rcases hbj : bitT s j with _ | _
            · have h0 := bitT_0 hbj
              have h1 := HB1.out
              rw [show (bitL s j).map (g k) = (bitL s (j + 1)).map (g k) by rw [bitL_succ_f hbj]] at hI
              have HI := Lib.hid hI
              have HBQ := Lib.hid hbq
              clear hI hbq hbj hlr hbq2
              go_wp2
              clear h0 h1
              go_roundw
              case rel => exact ⟨j + 1, by omega, by go_num, HI.out, HBQ.out⟩
              case measure => simp [intOf]; omega
            · have h0 := bitT_1 hbj
              have h1 := HB1.out
              obtain ⟨x, hx0, _, x1, _⟩ := SlI.elt HR.out (k := j) (by rw [rowF_length]; omega)
              rw [rowF_get _ hjn] at hx0
              injection hx0 with hx0
              have hgr := HG.out k j
              rw [hx0] at hgr
              have HSX := Lib.hid (show (bitL s (j + 1)).map (g k) = (bitL s j).map (g k) ++ [x] by rw [bitL_succ_t hbj, List.map_append, ← hx0]; rfl)
              have y2 := bcell hbq2 hb0 y1
              have x2 := bcell hbq2 hb2 x1
              have bz := below_alloc wr (.cells #[.int .i64 x] 3)
              have HI2 := Lib.hid (hI.below bz)
              have HB2 := Lib.hid (hbq.trans (bz.mono (by omega)))
              have HLR := Lib.hid hlr
              clear hx0 x1 hI hbq hbj hlr hbq2 bz
              (go_wp2_with (at_builtin; refine Hold.stop ?_)); unfold Hold
              refine wpList_appI rfl (.tmp 33) (.tmp 41) rfl LO _ (.slice RV (bitL s j).length rv) ((bitL s j).map (g k)) rfl HI2.out.1 _ _ _ [x] rfl rfl (SlI.one wr _ _ ⟨by omega, by omega⟩) (by rw [HLR.out]; simp; omega) (by simp; omega) ?_
              intro v9 w9 ho9 hg9 hv9
              rw [← HSX.out] at ho9
              have hbg : Below LO _ w9 := below_grown hg9 (fun k hk => (HI2.out.1.lt k hk).1) (by simp; omega)
              have HBT2 := Lib.hid (HB2.out.trans hbg)
              have HO9 := Lib.hid (IntsO.of_own ho9)
              clear ho9 hg9 hv9 hbg h0 h1 x2 y2
              go_wp2
              go_roundw
              case rel => exact ⟨j + 1, by omega, by go_num, HO9.out, HBT2.out⟩
              case measure => simp [intOf]; omega
          · have hjn' : j = n := by omega
            replace hI : IntsO wr LO wr.heap.size (.slice RV (bitL s j).length rv) ((bitL s n).map (g k)) := by rw [show (bitL s n).map (g k) = (bitL s j).map (g k) by rw [hjn']]; exact hI
            obtain ⟨u, hu, Z, hZ⟩ : ∃ u, u = wr.heap.size ∧ ∃ Z, Z = wr.alloc (.cells #[.slice RV (bitL s j).length rv] 22) := ⟨_, rfl, _, rfl⟩
            have bZ : Below wr.heap.size wr Z := by rw [hZ]; exact below_alloc _ _
            have kZ : Blk Z u 22 #[.slice RV (bitL s j).length rv] := by rw [hZ, hu]; exact Blk.new _ _ _
            have HOZ := Lib.hid ((HO.out.chg (chg_belowB hbq) (.inl (Nat.le_of_eq HLO2.out.symm))).below bZ)
            have HRZ := Lib.hid (hI.below bZ)
            have HBZ := Lib.hid (hbq2.trans (bZ.mono (by have := hbq2.size; omega)))
            have sZ := bZ.size
            have C0 := Lib.hid (kZ.cell' (i := 0) rfl)
            have HU := Lib.hid hu
            have HSN := Lib.hid (show mnTo s n g (k + 1) = mnTo s n g k ++ [(bitL s n).map (g k)] by rw [mnTo, bitL_succ_t HBT.out, List.map_append]; rfl)
            have hb2s := hbq2.size
            clear hI hbq hbq2 bZ kZ hu hjn' hlr
            (go_wp2_with (at_builtin; refine Hold.stop ?_)); unfold Hold
            rw [← HU.out, ← hZ]
            clear hZ
            refine wpList_appR rfl (.tmp 43) (.tmp 45) rfl w0.heap.size LO LO wr.heap.size (.slice OA (bitL s k).length oc) (mnTo s n g k) ((bitL s n).map (g k)) rfl (by rw [HLO2.out]; exact HOZ.out) _ _ (.slice RV (bitL s j).length rv) rfl ⟨u, 0, rfl, C0.out⟩ HRZ.out (Nat.le_refl _) (by omega) (by omega) (by rw [HLO.out]; omega) (by omega) (by omega) ?_
            intro v9 w9 ho9 hb9 _
            rw [← HSN.out] at ho9
            have HO9 := Lib.hid ho9
            have HB9 := Lib.hid (HBZ.out.trans hb9)
            clear ho9 hb9
            go_wp2
            go_roundw
            case rel => exact ⟨k + 1, by omega, by go_num, HO9.out, HB9.out⟩
            case measure => simp [intOf]; omega
    · have hkn : k = n := by omega
      have HO := Lib.hid (show IntssO wr w0.heap.size wr.heap.size (.slice OA (bitL s k).length oc) (mnL s n g) by rw [show mnL s n g = mnTo s n g k by rw [mnL, hkn]]; exact hO)
      clear hO hkn
      go_wp2
      go_ret
      exact ⟨_, rfl, HO.out, hbel⟩
end Go.Proofs.Ytjhllgldllbaaaa

/- A row of a matrix of the program, in the matrix's own memory. -/
namespace Go.Proofs.Ytjhllgldllbaaaa
set_option linter.unusedVariables false
set_option linter.unusedSimpArgs false
open Go.RowKit

theorem ix_next {i r c P : Nat} (hi : i < r) (hr : r ≤ 1000) (hc : c ≤ 1000) (hP : wrap64 ((i : Int) * (c : Int)) = (P : Int)) :
    P = i * c ∧ wrap64 (((i : Int) + 1) * (c : Int)) = ((P + c : Nat) : Int) ∧ P + c ≤ r * c ∧ P + c ≤ 1000000 := by
  have h1 : (i + 1) * c ≤ r * c := Nat.mul_le_mul_right _ hi
  have h2 : r * c ≤ 1000 * 1000 := Nat.mul_le_mul hr hc
  have h3 : (i + 1) * c = i * c + c := by rw [Nat.add_mul, Nat.one_mul]
  have e1 : P = i * c := by
    rw [show ((i : Int) * (c : Int)) = ((i * c : Nat) : Int) by simp, IntWalk.wrap64_in _ ⟨by omega, by omega⟩] at hP
    omega
  refine ⟨e1, ?_, by omega, by omega⟩
  rw [show (((i : Int) + 1) * (c : Int)) = (((i + 1) * c : Nat) : Int) by simp, h3, ← e1]
  exact IntWalk.wrap64_in _ ⟨by omega, by omega⟩
set_option maxHeartbeats 800000 in
theorem row_at (r : Int) (c i P N cap g : Nat) (w : World) (h1 : wrap64 ((i : Int) * (c : Int)) = (P : Int)) (h2 : wrap64 (((i : Int) + 1) * (c : Int)) = ((P + c : Nat) : Int))
    (hN : P + c ≤ N) (hcap : N ≤ cap) (hb : cap ≤ 9223372036854775807) (h0 : 0 < c) (hi : i ≤ 1000) :
    Calls Try.prog 167 #[.agg #[.int .i64 r, .int .i64 c, .slice (some ⟨g, 0, none⟩) N cap], .int .i64 i] w fun e w' => e = .returned (.slice (some ⟨g, P, none⟩) c (cap - P)) ∧ Below w.heap.size w w' := by
  go_enter Try.func167, Try.ntmps167
  go_wp2
  exact bodyPost_ret (v := .slice (some ⟨g, P, none⟩) c (cap - P)) (by simp [results, go_sem]) rfl ⟨rfl, below_alloc _ _⟩
end Go.Proofs.Ytjhllgldllbaaaa

/- Rows of a matrix of the program, as lists. -/
namespace Go.Proofs.Ytjhllgldllbaaaa
set_option linter.unusedVariables false
set_option linter.unusedSimpArgs false
open Go.RowKit
set_option maxHeartbeats 800000 in
theorem row_zero (r : Int) (i cap : Nat) (A : Option Addr) (w : World) (hb : cap ≤ 9223372036854775807) (hi : i ≤ 1000) :
    Calls Try.prog 167 #[.agg #[.int .i64 r, .int .i64 0, .slice A 0 cap], .int .i64 i] w fun e w' => ∃ A, e = .returned (.slice A 0 cap) ∧ Below w.heap.size w w' := by
  go_enter Try.func167, Try.ntmps167
  go_wp2
  exact bodyPost_ret (by simp [results, go_sem]; rfl) rfl ⟨_, rfl, below_alloc _ _⟩

def rowsF (r c : Nat) (f : Nat → Nat → Int) : List (List Int) := (List.range r).map fun i => rowF c (f i)
theorem rowsF_length (r c : Nat) (f : Nat → Nat → Int) : (rowsF r c f).length = r := by simp [rowsF]
theorem rowsF_get {r c j : Nat} (f : Nat → Nat → Int) (h : j < r) : (rowsF r c f)[j]? = some (rowF c (f j)) := by simp [rowsF, h]
theorem rowsF_succ (r c : Nat) (f : Nat → Nat → Int) : rowsF (r + 1) c f = rowsF r c f ++ [rowF c (f r)] := by simp [rowsF, List.range_succ]
theorem rowF_mem {c : Nat} {g : Nat → Int} {x : Int} (h : x ∈ rowF c g) : ∃ j, j < c ∧ x = g j := by
  simp only [rowF, List.mem_map, List.mem_range] at h
  obtain ⟨j, hj, rfl⟩ := h
  exact ⟨j, hj, rfl⟩
/-- a stretch of a slice of ints -/
theorem SlI.part {w : World} {B g o n cap P c : Nat} {l l' : List Int} (h : SlI w B (.slice (some ⟨g, o, none⟩) n cap) l) (hn : n = l.length) (hc : P + l'.length ≤ l.length) (hl : ∀ j x, l'[j]? = some x → l[P + j]? = some x) (hcn : c = cap - P) :
    SlI w B (.slice (some ⟨g, o + P, none⟩) l'.length c) l' := by
  subst hn hcn
  obtain ⟨A', c', e, h1, h2, h3, h4⟩ := h
  injection e with e1 e2 e3
  subst e1 e3
  refine ⟨_, _, rfl, by omega, by omega, by omega, fun hp => ?_⟩
  obtain ⟨b, o', e, hb, hx⟩ := h4 (by omega)
  injection e with e
  injection e with e1 e2
  subst e1 e2
  refine ⟨g, o + P, rfl, hb, fun j x hj => ?_⟩
  have := hx (P + j) x (hl j x hj)
  rw [show o + P + j * 1 = o + (P + j) * 1 by omega]
  exact this
set_option maxHeartbeats 800000 in
theorem row_atO (r : Int) (c i P N cap g o : Nat) (w : World) (h1 : wrap64 ((i : Int) * (c : Int)) = (P : Int)) (h2 : wrap64 (((i : Int) + 1) * (c : Int)) = ((P + c : Nat) : Int))
    (hN : P + c ≤ N) (hcap : N ≤ cap) (hb : cap ≤ 9223372036854775807) (h0 : 0 < c) (hi : i ≤ 1000) :
    Calls Try.prog 167 #[.agg #[.int .i64 r, .int .i64 c, .slice (some ⟨g, o, none⟩) N cap], .int .i64 i] w fun e w' => e = .returned (.slice (some ⟨g, o + P, none⟩) c (cap - P)) ∧ Below w.heap.size w w' := by
  go_enter Try.func167, Try.ntmps167
  go_wp2
  exact bodyPost_ret (v := .slice (some ⟨g, o + P, none⟩) c (cap - P)) (by simp [results, go_sem]) rfl ⟨rfl, below_alloc _ _⟩
theorem row_any (u : Value) (r c i : Nat) (f : Nat → Nat → Int) (w : World) (hu : MxR w w.heap.size u (mxF r c f)) (hr : r ≤ 1000) (hc : c ≤ 1000) (hi : i < r) :
    Calls Try.prog 167 #[u, .int .i64 i] w fun e w' => ∃ v, e = .returned v ∧ SlI w' w'.heap.size v (rowF c (f i)) ∧ Below w.heap.size w w' := by
  obtain ⟨A, cap, rfl, hs, _, _, hl⟩ := hu.open_
  simp only [mxF] at hs hl ⊢
  rcases Nat.eq_zero_or_pos c with rfl | h0
  · obtain ⟨_, _, e, h1, h2, _⟩ := hs
    injection e with e1 e2 e3
    subst e1 e3
    have e : (flat r 0 f).length = 0 := by rw [flat_length]; rfl
    rw [e]
    refine (row_zero r i cap A w h2 (by omega)).mono fun e w' ⟨A', h3, h4⟩ => ⟨_, h3, ?_, h4⟩
    exact ⟨A', cap, by simp [rowF], by simp [rowF], h2, by simp [rowF], fun h => by simp [rowF] at h⟩
  · obtain ⟨P, J, hP, _, _, _, _⟩ := ix_walk hi h0 hr hc
    obtain ⟨hPi, hP2, hPL, _⟩ := ix_next hi hr hc hP
    have hlt := ix_lt hi h0
    have hs' := hs
    obtain ⟨_, _, e, h1, h2, h3, h4⟩ := hs
    injection e with e1 e2 e3
    subst e1 e3
    obtain ⟨b, o, rfl, hb, hx⟩ := h4 (by rw [flat_length]; omega)
    refine (row_atO r c i P _ cap b o w hP hP2 (by rw [flat_length]; exact hPL) h1 h2 h0 (by omega)).mono fun e w' ⟨h5, h6⟩ => ⟨_, h5, ?_, h6⟩
    have := SlI.part (P := P) (l' := rowF c (f i)) (SlI.next h6 hs') rfl (by rw [rowF_length, flat_length]; exact hPL) (fun j x hj => ?_) rfl
    · rwa [rowF_length] at this
    · have hjc := lt_of_some hj
      rw [rowF_length] at hjc
      rw [rowF_get _ hjc] at hj
      rw [hPi, flat_get f hi hjc]
      exact hj

set_option maxHeartbeats 1600000 in
theorem rows_any (u : Value) (r c : Nat) (f : Nat → Nat → Int) (w0 : World) (hu : MxR w0 w0.heap.size u (mxF r c f)) (hr : r ≤ 1000) (hc : c ≤ 1000) :
    Calls Try.prog 107 #[u] w0 fun e w' => ∃ v, e = .returned v ∧ IntssO w' w0.heap.size w'.heap.size v (rowsF r c f) ∧ Below w0.heap.size w0 w' := by
  have hu' := hu
  obtain ⟨A, cap, rfl, hs, i1, i2, hl⟩ := hu.open_
  clear hu
  simp only [mxF] at hs hl i1 i2 ⊢
  obtain ⟨W, hW⟩ : ∃ W, W = w0.alloc (.cells #[.int .i64 r, .int .i64 c, .slice A (flat r c f).length cap] 75) := ⟨_, rfl⟩
  have g0 : Below w0.heap.size w0 W := by rw [hW]; exact below_alloc _ _
  have kB : Blk W w0.heap.size 75 #[.int .i64 r, .int .i64 c, .slice A (flat r c f).length cap] := by rw [hW]; exact Blk.new _ _ _
  obtain ⟨L, hL⟩ : ∃ L, (flat r c f).length = L := ⟨_, rfl⟩
  simp only [mxF] at hu'
  rw [hL] at hu' hs hl kB hW ⊢
  clear hL
  have c0 := kB.cell' (i := 0) rfl
  have c1 := kB.cell' (i := 1) rfl
  have c2 := kB.cell' (i := 2) rfl
  have HU := Lib.hid (MxR.next g0 hu')
  have sz : w0.heap.size < W.heap.size := kB.lt
  go_enter Try.func107, Try.ntmps107
  go_wp2
  rw [← hW]
  clear hW
  go_loopw [3, 7] (fun out i wr => ∃ (k : Nat) (vs : List Value), k ≤ r ∧ i = .int .i64 k ∧ Below W.heap.size W wr ∧ OutO wr W.heap.size wr.heap.size out vs ∧ vs.length = k ∧ Fam wr W.heap.size wr.heap.size (vs.zip (rowsF k c f))) (fun _ i _ => r - (intOf i).toNat)
  case atStart => exact ⟨0, [], Nat.zero_le _, rfl, Below.refl _ _, ⟨World.ownsRow_nil _ _ _ _, by simp [Value.ownBlock], by simp⟩, rfl, ⟨fun p hp => by simp at hp, by simp⟩⟩
  case round =>
    clear c0 c1 c2
    obtain ⟨k, vs, hk, rfl, hbel, hO, hvl, hF⟩ := hrel
    have kB2 := kB.call hbel
    have c0 := kB2.cell' (i := 0) rfl
    have c1 := kB2.cell' (i := 1) rfl
    have c2 := kB2.cell' (i := 2) rfl
    have HVL := Lib.hid hvl
    clear hvl
    by_cases hlt : k < r
    · have HUR := Lib.hid (MxR.more hbel.size (MxR.below hbel HU.out))
      have hws := hbel.size
      obtain ⟨OA, oc, rfl, _, _⟩ := hO.form
      have HO := Lib.hid hO
      have HF := Lib.hid hF
      clear hO hF
      go_wp2_with fail
      refine (row_any _ r c k f _ HUR.out hr hc hlt).mono ?_; rintro e w1 ⟨v1, rfl, hv1, hb1⟩
      have hb0 := hb1
      go_wp2_with fail
      refine (clone_own _ _ _ hv1).mono ?_; rintro e wC ⟨v2, rfl, hI, hb2⟩
      have hbC := bthen hb1 hb2
      have hlo := hb1.size
      clear hb2 hb0
      obtain ⟨VA, vc, ev⟩ := hI.form
      rw [rowF_length] at ev
      subst ev
      have hO2 := HO.out.below hbC
      have hF2 := HF.out.below hbC
      have hbs := hbC.size
      have HI := Lib.hid hI
      have HO2 := Lib.hid hO2
      have HF2 := Lib.hid hF2
      have HBC := Lib.hid hbC
      clear hI hO2 hF2 hbC hb1 hv1
      (go_wp2_with (at_builtin; refine Hold.stop ?_)); unfold Hold
      obtain ⟨X, hX⟩ : ∃ X, X = wC.alloc (.cells #[.slice VA c vc] 22) := ⟨_, rfl⟩
      have gn : Below wC.heap.size wC X := by rw [hX]; exact below_alloc _ _
      have kn : Blk X wC.heap.size 22 #[.slice VA c vc] := by rw [hX]; exact Blk.new _ _ _
      have hO3 := HO2.out.below gn
      have hF3 := (HF2.out.snoc (HI.out.wider (lo' := wr.heap.size) hlo (Nat.le_refl _)) hws (by omega)).below gn
      have hXs := gn.size
      rw [← hX]
      clear hX
      refine wpList_appS rfl (.tmp 10) (.tmp 15) rfl W.heap.size (.slice OA vs.length oc) vs rfl hO3.1 _ _ (.slice VA c vc) rfl ⟨wC.heap.size, 0, rfl, kn.cell' (i := 0) rfl⟩ rfl (by have := HVL.out; omega) (by omega) ?_
      intro v' w' hn' hg' hv'
      have hbg : Below W.heap.size X w' := below_grown hg' (fun k hk => (hO3.1.lt k hk).1) (by omega)
      have hbt := (hbel.trans ((HBC.out).mono hws)).trans ((gn.mono (by omega)).trans hbg)
      have hF4 := Fam.grownO hF3 hO3.1 hg'
      have hws' := hbg.size
      have hO4 : OutO w' W.heap.size w'.heap.size v' (vs ++ [.slice VA c vc]) := ⟨hn', fun k hk => (hn'.lt k hk).2, by simp; have := HVL.out; omega⟩
      have HF4 := Lib.hid hF4
      have HO4 := Lib.hid hO4
      have HBT := Lib.hid hbt
      clear hn' hg' hv' hbg hbt hF4 hO4 hO3 hF3 kn gn
      go_wp2
      go_roundw
      case rel =>
        refine ⟨k + 1, vs ++ [.slice VA c vc], by omega, by go_num, HBT.out, HO4.out, by simp [HVL.out], ?_⟩
        have := HF4.out.mono (Nat.le_refl _) (show wC.heap.size ≤ w'.heap.size by omega)
        have e : (vs ++ [Value.slice VA c vc]).zip (rowsF (k + 1) c f) = vs.zip (rowsF k c f) ++ [(Value.slice VA c vc, rowF c (f k))] := by
          rw [rowsF_succ, List.zip_append (by rw [HVL.out, rowsF_length])]; rfl
        rw [e]
        exact this
      case measure => simp [intOf]; omega
    · obtain rfl : k = r := by omega
      have hO' := hO
      have hF' := hF
      go_wp2
      go_ret
      exact ⟨_, rfl, ⟨vs, hO'.mono (by omega) (Nat.le_refl _), by rw [HVL.out, rowsF_length], hF'.mono (by omega) (Nat.le_refl _)⟩, g0.trans (hbel.mono (by omega))⟩
end Go.Proofs.Ytjhllgldllbaaaa

/- Columns of a matrix of the program, as lists; the matrix of some columns. -/
namespace Go.Proofs.Ytjhllgldllbaaaa
set_option linter.unusedVariables false
set_option linter.unusedSimpArgs false
open Go.RowKit

def colK (k : Nat) (f : Nat → Nat → Int) (j i : Nat) : Int := if i < j then f i k else 0
theorem colK_0 (r k : Nat) (f : Nat → Nat → Int) : List.replicate r 0 = rowF r (colK k f 0) := by
  apply List.ext_getElem?
  intro i
  by_cases h : i < r
  · rw [rowF_get _ h]; simp [h, colK]
  · rw [List.getElem?_eq_none (by simp; omega), List.getElem?_eq_none (by rw [rowF_length]; omega)]
theorem colK_succ {r k j : Nat} (f : Nat → Nat → Int) (h : j < r) : (rowF r (colK k f j)).set j (f j k) = rowF r (colK k f (j + 1)) := by
  rw [rowF_set]
  refine rowF_congr fun i _ => ?_
  simp only [colK]
  (repeat' split) <;> first | rfl | omega | (subst_vars; rfl)
theorem colK_r (r k : Nat) (f : Nat → Nat → Int) : rowF r (colK k f r) = rowF r (fun i => f i k) := rowF_congr fun i h => by simp [colK, h]

set_option maxHeartbeats 1600000 in
theorem column_any (u : Value) (r c k : Nat) (f : Nat → Nat → Int) (w0 : World) (hu : MxR w0 w0.heap.size u (mxF r c f)) (hr : r ≤ 1000) (hc : c ≤ 1000) (hk : k < c) :
    Calls Try.prog 217 #[u, .int .i64 k] w0 fun e w' => ∃ v, e = .returned v ∧ IntsO w' w0.heap.size w'.heap.size v (rowF r (fun i => f i k)) ∧ Below w0.heap.size w0 w' := by
  obtain ⟨A, cap, rfl, hs, i1, i2, hl⟩ := hu.open_
  clear hu
  simp only [mxF] at hs hl i1 i2 ⊢
  obtain ⟨W, hW⟩ : ∃ W, W = (w0.alloc (.cells #[.int .i64 r, .int .i64 c, .slice A (flat r c f).length cap] 75)).alloc (.cells (mkCells (.int .i64 0) r) 3) := ⟨_, rfl⟩
  have g0 : Below w0.heap.size w0 W := by rw [hW]; exact ((Below.refl _ _).alloc (Nat.le_refl _) _).alloc (by simp) _
  have kB : Blk W w0.heap.size 75 #[.int .i64 r, .int .i64 c, .slice A (flat r c f).length cap] := by rw [hW]; exact (Blk.new _ _ _).alloc _
  have sz : W.heap.size = w0.heap.size + 1 + 1 := by rw [hW]; simp
  have ho : IntsO W (w0.heap.size + 1) W.heap.size (.slice (some ⟨w0.heap.size + 1, 0, none⟩) r r) (List.replicate r 0) := by
    rw [hW]
    have := OwnI.made0 (w := w0.alloc (.cells #[.int .i64 r, .int .i64 c, .slice A (flat r c f).length cap] 75)) (base := w0.heap.size + 1) (N := r) (by simp) (by omega)
    exact IntsO.of_own (by simpa only [World.size_alloc] using this)
  rw [colK_0 r k f] at ho
  obtain ⟨L, hL⟩ : ∃ L, (flat r c f).length = L := ⟨_, rfl⟩
  have HS := Lib.hid hs
  have HL := Lib.hid hL
  rw [hL] at hl kB hW ⊢
  have SZ := Lib.hid sz
  obtain ⟨i0, hi, hz0, hz1, hz2⟩ := info_parts infoInt
  have hmk := run_mk (P := Try.prog) Try.underlying22 hi hz0 (n := r) (by rw [hz2]; omega) (by omega)
  rw [hz1] at hmk
  rw [Nat.mul_one] at hmk
  clear hi hz0 hz1 hz2 hL hs sz
  go_enter Try.func217, Try.ntmps217
  go_wp2
  rw [← hW]
  clear hW hmk
  go_loopw [12] (fun i wr => ∃ j : Nat, j ≤ r ∧ i = .int .i64 j ∧ Below w0.heap.size w0 wr ∧ Blk wr w0.heap.size 75 #[.int .i64 r, .int .i64 c, .slice A L cap] ∧ IntsO wr (w0.heap.size + 1) W.heap.size (.slice (some ⟨w0.heap.size + 1, 0, none⟩) r r) (rowF r (colK k f j))) (fun i _ => r - (intOf i).toNat)
  case atStart => exact ⟨0, Nat.zero_le _, rfl, g0, kB, ho⟩
  case round =>
    clear g0 kB ho
    obtain ⟨j, hj, rfl, hbel, kB, ho⟩ := hrel
    by_cases hlt : j < r
    · obtain ⟨P, J, hP, hPJ, hJ, hJN, hJb⟩ := ix_walk hlt hk hr hc
      have hs := HS.out
      obtain ⟨b, o, x, rfl, hb, HX, x1, _⟩ := SlI.at_ (k := P + k) hs (by rw [flat_length]; omega)
      have hx := HX.out
      rw [hPJ, hJ, flat_get f hlt hk] at hx
      injection hx with hx
      subst hx
      rw [← flat_length r c f, HL.out] at hJN
      have hPl : P + k < L := by omega
      have c1 := kB.cell' (i := 1) rfl
      have c2 := kB.cell' (i := 2) rfl
      have d1 := bcell hbel hb x1
      have d2 : wr.cell? ⟨b, o + P + k, none⟩ = some (.int .i64 (f j k)) := by rw [Nat.add_assoc]; exact d1
      have cA := (ho.1.cellG (j := j) (by rw [rowF_length]; exact hlt)).1
      have fA := ho.1.frozenG j
      have hxr := SlI.i64 hs (f j k) (List.mem_of_getElem? (flat_get f hlt hk))
      have hc1 : Chg (w0.heap.size + 1) W.heap.size wr (wr.setCell ⟨w0.heap.size + 1, j, none⟩ (.int .i64 (f j k))) := chg_set (Nat.le_refl _) (by have := SZ.out; simp; omega)
      have ho2 := ho.put (j := j) (x := f j k) hxr
      rw [colK_succ f hlt] at ho2
      have HO2 := Lib.hid ho2
      have KB := Lib.hid (kB.chg hc1 (by omega))
      have HB := Lib.hid (hbel.trans (hc1.below (by omega) hbel.size))
      clear hs HX hJ hPJ hJN x1 ho ho2 kB hbel hc1 hb
      go_wp2
      go_roundw
      case rel => exact ⟨j + 1, by omega, by go_num, HB.out, KB.out, HO2.out⟩
      case measure => simp [intOf]; omega
    · obtain rfl : j = r := by omega
      rw [colK_r] at ho
      go_wp2
      go_ret
      have h3 : w0.heap.size + 1 < wr.heap.size := (ho.1.lt _ rfl).2
      have h4 := SZ.out
      exact ⟨_, rfl, ho.wider (by omega) (by omega), hbel⟩
set_option maxHeartbeats 1600000 in
theorem columns_any (u : Value) (r c : Nat) (f : Nat → Nat → Int) (w0 : World) (hu : MxR w0 w0.heap.size u (mxF r c f)) (hr : r ≤ 1000) (hc : c ≤ 1000) :
    Calls Try.prog 198 #[u] w0 fun e w' => ∃ v, e = .returned v ∧ IntssO w' w0.heap.size w'.heap.size v (rowsF c r (fun a b => f b a)) ∧ Below w0.heap.size w0 w' := by
  have hu' := hu
  obtain ⟨A, cap, rfl, hs, i1, i2, hl⟩ := hu.open_
  clear hu
  simp only [mxF] at hs hl i1 i2 ⊢
  obtain ⟨W, hW⟩ : ∃ W, W = w0.alloc (.cells #[.int .i64 r, .int .i64 c, .slice A (flat r c f).length cap] 75) := ⟨_, rfl⟩
  have g0 : Below w0.heap.size w0 W := by rw [hW]; exact below_alloc _ _
  have kB : Blk W w0.heap.size 75 #[.int .i64 r, .int .i64 c, .slice A (flat r c f).length cap] := by rw [hW]; exact Blk.new _ _ _
  obtain ⟨L, hL⟩ : ∃ L, (flat r c f).length = L := ⟨_, rfl⟩
  simp only [mxF] at hu'
  rw [hL] at hu' hs hl kB hW ⊢
  clear hL
  have c0 := kB.cell' (i := 0) rfl
  have c1 := kB.cell' (i := 1) rfl
  have c2 := kB.cell' (i := 2) rfl
  have HU := Lib.hid (MxR.next g0 hu')
  have sz : w0.heap.size < W.heap.size := kB.lt
  go_enter Try.func198, Try.ntmps198
  go_wp2
  rw [← hW]
  clear hW
  go_loopw [3, 7] (fun out i wr => ∃ (k : Nat) (vs : List Value), k ≤ c ∧ i = .int .i64 k ∧ Below W.heap.size W wr ∧ OutO wr W.heap.size wr.heap.size out vs ∧ vs.length = k ∧ Fam wr W.heap.size wr.heap.size (vs.zip (rowsF k r (fun a b => f b a)))) (fun _ i _ => c - (intOf i).toNat)
  case atStart => exact ⟨0, [], Nat.zero_le _, rfl, Below.refl _ _, ⟨World.ownsRow_nil _ _ _ _, by simp [Value.ownBlock], by simp⟩, rfl, ⟨fun p hp => by simp at hp, by simp⟩⟩
  case round =>
    clear c0 c1 c2
    obtain ⟨k, vs, hk, rfl, hbel, hO, hvl, hF⟩ := hrel
    have kB2 := kB.call hbel
    have c0 := kB2.cell' (i := 0) rfl
    have c1 := kB2.cell' (i := 1) rfl
    have c2 := kB2.cell' (i := 2) rfl
    have HVL := Lib.hid hvl
    clear hvl
    by_cases hlt : k < c
    · have HUR := Lib.hid (MxR.more hbel.size (MxR.below hbel HU.out))
      have hws := hbel.size
      obtain ⟨OA, oc, rfl, _, _⟩ := hO.form
      have HO := Lib.hid hO
      have HF := Lib.hid hF
      clear hO hF
      go_wp2_with fail
      refine (column_any _ r c k f _ HUR.out hr hc hlt).mono ?_; rintro e w1 ⟨v1, rfl, hv1, hb1⟩
      obtain ⟨wC, ewC⟩ : ∃ x, x = w1 := ⟨_, rfl⟩
      subst ewC
      have hI := hv1
      have hbC := hb1
      have hlo := Nat.le_refl wr.heap.size
      obtain ⟨VA, vc, ev⟩ := hI.form
      rw [rowF_length] at ev
      subst ev
      have hO2 := HO.out.below hbC
      have hF2 := HF.out.below hbC
      have hbs := hbC.size
      have HI := Lib.hid hI
      have HO2 := Lib.hid hO2
      have HF2 := Lib.hid hF2
      have HBC := Lib.hid hbC
      clear hI hO2 hF2 hbC hb1 hv1
      (go_wp2_with (at_builtin; refine Hold.stop ?_)); unfold Hold
      obtain ⟨X, hX⟩ : ∃ X, X = wC.alloc (.cells #[.slice VA r vc] 22) := ⟨_, rfl⟩
      have gn : Below wC.heap.size wC X := by rw [hX]; exact below_alloc _ _
      have kn : Blk X wC.heap.size 22 #[.slice VA r vc] := by rw [hX]; exact Blk.new _ _ _
      have hO3 := HO2.out.below gn
      have hF3 := (HF2.out.snoc (HI.out.wider (lo' := wr.heap.size) hlo (Nat.le_refl _)) hws (by omega)).below gn
      have hXs := gn.size
      rw [← hX]
      clear hX
      refine wpList_appS rfl (.tmp 10) (.tmp 14) rfl W.heap.size (.slice OA vs.length oc) vs rfl hO3.1 _ _ (.slice VA r vc) rfl ⟨wC.heap.size, 0, rfl, kn.cell' (i := 0) rfl⟩ rfl (by have := HVL.out; omega) (by omega) ?_
      intro v' w' hn' hg' hv'
      have hbg : Below W.heap.size X w' := below_grown hg' (fun k hk => (hO3.1.lt k hk).1) (by omega)
      have hbt := (hbel.trans ((HBC.out).mono hws)).trans ((gn.mono (by omega)).trans hbg)
      have hF4 := Fam.grownO hF3 hO3.1 hg'
      have hws' := hbg.size
      have hO4 : OutO w' W.heap.size w'.heap.size v' (vs ++ [.slice VA r vc]) := ⟨hn', fun k hk => (hn'.lt k hk).2, by simp; have := HVL.out; omega⟩
      have HF4 := Lib.hid hF4
      have HO4 := Lib.hid hO4
      have HBT := Lib.hid hbt
      clear hn' hg' hv' hbg hbt hF4 hO4 hO3 hF3 kn gn
      go_wp2
      go_roundw
      case rel =>
        refine ⟨k + 1, vs ++ [.slice VA r vc], by omega, by go_num, HBT.out, HO4.out, by simp [HVL.out], ?_⟩
        have := HF4.out.mono (Nat.le_refl _) (show wC.heap.size ≤ w'.heap.size by omega)
        have e : (vs ++ [Value.slice VA r vc]).zip (rowsF (k + 1) r (fun a b => f b a)) = vs.zip (rowsF k r (fun a b => f b a)) ++ [(Value.slice VA r vc, rowF r (fun i => f i k))] := by
          rw [rowsF_succ, List.zip_append (by rw [HVL.out, rowsF_length])]; rfl
        rw [e]
        exact this
      case measure => simp [intOf]; omega
    · obtain rfl : k = c := by omega
      have hO' := hO
      have hF' := hF
      go_wp2
      go_ret
      exact ⟨_, rfl, ⟨vs, hO'.mono (by omega) (Nat.le_refl _), by rw [HVL.out, rowsF_length], hF'.mono (by omega) (Nat.le_refl _)⟩, g0.trans (hbel.mono (by omega))⟩
end Go.Proofs.Ytjhllgldllbaaaa

/- The matrix of some columns; the reference's transposed matrix. -/
namespace Go.Proofs.Ytjhllgldllbaaaa
set_option linter.unusedVariables false
set_option linter.unusedSimpArgs false
open Go.RowKit

def fcK (f : Nat → Nat → Int) (k i a b : Nat) : Int := if b < k ∨ (b = k ∧ a < i) then f a b else 0
theorem fcK_0 (R K : Nat) (f : Nat → Nat → Int) : flat R K (fun _ _ => 0) = flat R K (fcK f 0 0) := flat_congr fun a b _ _ => by simp [fcK]
theorem fcK_put {R K k i : Nat} (f : Nat → Nat → Int) (hi : i < R) (hk : k < K) : (flat R K (fcK f k i)).set (i * K + k) (f i k) = flat R K (fcK f k (i + 1)) := by
  rw [flat_set _ _ hi hk]
  refine flat_congr fun a b _ _ => ?_
  simp only [fcK]
  (repeat' split) <;> first | rfl | omega | (rename_i h _; rw [h.1, h.2])
theorem fcK_next (R K k : Nat) (f : Nat → Nat → Int) : flat R K (fcK f k R) = flat R K (fcK f (k + 1) 0) := by
  refine flat_congr fun a b ha _ => ?_
  simp only [fcK]
  (repeat' split) <;> first | rfl | omega
theorem fcK_K (R K : Nat) (f : Nat → Nat → Int) : flat R K (fcK f K 0) = flat R K f := flat_congr fun a b _ hb => by simp [fcK, hb]

set_option maxHeartbeats 1600000 in
theorem fromColumns_any (u : Value) (R K : Nat) (f : Nat → Nat → Int) (w : World) (hu : SlII w w.heap.size u (rowsF K R (fun a b => f b a))) (hR : R ≤ 1000) (hK : K ≤ 1000) :
    Calls Try.prog 197 #[.int .i64 R, u] w fun e w' => ∃ v, e = .returned v ∧ MxO w' w.heap.size w'.heap.size v (mxF R K f) ∧ Below w.heap.size w w' := by
  obtain ⟨U, uc, rfl, _, _, hul, hx⟩ := hu.open_
  clear hu
  have HX := Lib.hid hx
  rw [rowsF_length] at hul ⊢
  obtain ⟨W, hW⟩ : ∃ W, W = w.alloc (.cells #[.int .i64 0, .int .i64 0, .slice none 0 0] 75) := ⟨_, rfl⟩
  have g0 : Below w.heap.size w W := by rw [hW]; exact below_alloc _ _
  have k2 : Blk W w.heap.size 75 #[.int .i64 0, .int .i64 0, .slice none 0 0] := by rw [hW]; exact Blk.new _ _ _
  have sz : W.heap.size = w.heap.size + 1 := by rw [hW]; simp
  have K2 := Lib.hid k2
  have SZ := Lib.hid sz
  clear k2 sz hx
  go_enter Try.func197, Try.ntmps197
  go_wp2_with fail
  rw [← hW]; clear hW
  refine (zero_any (R : Int) K W (by omega) (by omega) (by omega) (by omega)).mono ?_; rintro e w1 ⟨v1, rfl, ⟨sA, rfl, oA, hr, hc⟩, hb1⟩
  rw [zmx_flat] at oA hr hc ⊢
  simp only [mxF] at oA hr hc ⊢
  rw [fcK_0 R K f] at oA
  obtain ⟨A1, c1, e1⟩ := oA.form
  obtain ⟨N, hN⟩ : ∃ N, R * K = N := ⟨_, rfl⟩
  rw [flat_length, hN] at e1
  subst e1
  have HN := Lib.hid hN
  clear hN
  have s1 := hb1.size
  obtain ⟨W4, hW4⟩ : ∃ W4, W4 = w1.alloc (.cells #[.int .i64 R, .int .i64 K, .slice A1 N c1] 75) := ⟨_, rfl⟩
  have b4 : Below w1.heap.size w1 W4 := by rw [hW4]; exact below_alloc _ _
  have k4 : Blk W4 w1.heap.size 75 #[.int .i64 R, .int .i64 K, .slice A1 N c1] := by rw [hW4]; exact Blk.new _ _ _
  have oA := oA.below b4
  have gW := bthen hb1 b4
  clear b4 hb1
  go_wp2
  rw [← hW4]; clear hW4
  go_loopw [16] (fun i wr => ∃ k : Nat, k ≤ K ∧ i = .int .i64 k ∧ Blk wr w1.heap.size 75 #[.int .i64 R, .int .i64 K, .slice A1 N c1] ∧ IntsO wr W.heap.size w1.heap.size (.slice A1 N c1) (flat R K (fcK f k 0)) ∧ Below W.heap.size W wr) (fun i _ => K - (intOf i).toNat)
  case atStart => exact ⟨0, Nat.zero_le _, rfl, k4, oA, gW⟩
  case round =>
    clear k4 oA gW
    obtain ⟨k, hk, rfl, k4, oA, gW⟩ := hrel
    have s6 := gW.size
    by_cases hlt : k < K
    · have hx := HX.out
      rw [← rowsF_length K R (fun a b => f b a)] at hlt
      obtain ⟨b, o, l, LA, lc, rfl, hb, HL, x1, hl⟩ := SlII.at_ hx hlt
      rw [rowsF_length] at hlt
      have hl' := HL.out
      rw [rowsF_get _ hlt] at hl'
      injection hl' with hl'
      subst hl'
      rw [rowF_length] at x1
      have gww : Below w.heap.size w wr := g0.trans (gW.mono g0.size)
      have x2 := bcell gww hb x1
      have HLC := Lib.hid hl
      clear hx HL x1 hl
      go_wp2
      go_loopw [23] (fun i wr => ∃ j : Nat, j ≤ R ∧ i = .int .i64 j ∧ Blk wr w1.heap.size 75 #[.int .i64 R, .int .i64 K, .slice A1 N c1] ∧ IntsO wr W.heap.size w1.heap.size (.slice A1 N c1) (flat R K (fcK f k j)) ∧ Below W.heap.size W wr) (fun i _ => R - (intOf i).toNat)
      case atStart => exact ⟨0, Nat.zero_le _, rfl, k4, oA, gW⟩
      case round =>
        clear k4 oA gW s6 x2 gww
        obtain ⟨j, hj, rfl, k4, oA, gW⟩ := hrel
        have s6 := gW.size
        by_cases hlj : j < R
        · obtain ⟨P, J, hP, hPJ, hJ, hJN, hJb⟩ := ix_walk hlj hlt hR hK
          rw [HN.out] at hJN
          have hst := fcK_put f hlj hlt
          rw [← hJ] at hst
          subst hPJ
          have hl := HLC.out
          rw [← rowF_length R (fun b => f b k)] at hlj
          obtain ⟨b2, o2, x, rfl, hb2, HX2, x1, xr⟩ := SlI.at_ hl hlj
          rw [rowF_length] at hlj
          have hx2 := HX2.out
          rw [rowF_get _ hlj] at hx2
          injection hx2 with hx2
          subst hx2
          have gww : Below w.heap.size w wr := g0.trans (gW.mono g0.size)
          have x2 := bcell gww hb2 x1
          obtain ⟨gA, cA, eA, a1, a2, a3⟩ := oA.at_ (by rw [flat_length, HN.out]; omega)
          rw [flat_length, HN.out] at eA
          injection eA with eA1 eA2 eA3
          subst eA1 eA3
          have r1 := k4.cell' (i := 1) rfl
          have r2 := k4.cell' (i := 2) rfl
          have fA := oA.1.frozenG (P + k)
          have cA := (oA.1.cellG (j := P + k) (by rw [flat_length, HN.out]; omega)).1
          have hc1 : Chg W.heap.size w1.heap.size wr (wr.setCell ⟨gA, P + k, none⟩ (.int .i64 (f j k))) := chg_set a1 a2
          have oA2 := oA.put (j := P + k) (x := f j k) xr
          rw [hst] at oA2
          have OA2 := Lib.hid oA2
          have K4 := Lib.hid (k4.chg hc1 (by omega))
          have GW := Lib.hid (gW.trans (hc1.below (Nat.le_refl _) s6))
          clear oA2 k4 oA gW hc1 hst hJ hl HX2 x1 gww hb2
          go_wp2
          go_roundw
          case rel => exact ⟨j + 1, by omega, by go_num, K4.out, OA2.out, GW.out⟩
          case measure => simp [intOf]; omega
        · obtain rfl : j = R := by omega
          rw [fcK_next] at oA
          have OA := Lib.hid oA
          have K4 := Lib.hid k4
          have GW := Lib.hid gW
          clear oA k4 gW
          go_wp2
          go_roundw
          case rel => exact ⟨k + 1, by omega, by go_num, K4.out, OA.out, GW.out⟩
          case measure => simp [intOf]; omega
    · obtain rfl : k = K := by omega
      rw [fcK_K] at oA
      have k2 := K2.out.below gW (by have := SZ.out; omega)
      have z0 := k4.cell' (i := 0) rfl
      have z1 := k4.cell' (i := 1) rfl
      have z2 := k4.cell' (i := 2) rfl
      have p0 := k2.cell' (i := 0) rfl
      have p1 := k2.cell' (i := 1) rfl
      have p2 := k2.cell' (i := 2) rfl
      have f2 := k2.frozen
      have h2 := chg3 wr w.heap.size (.int .i64 (R : Int)) (.int .i64 k) (.slice A1 N c1)
      have gw : Below w.heap.size w wr := g0.trans (gW.mono g0.size)
      have gs := gw.size
      have oA2 := (oA.chg h2 (.inr (by have := SZ.out; omega))).wider (lo' := w.heap.size) (hi' := wr.heap.size) (by have := SZ.out; omega) (by have := k4.lt; omega)
      have fg := gw.trans (h2.below (Nat.le_refl _) gs)
      have OA2 := Lib.hid oA2
      have FG := Lib.hid fg
      clear oA oA2 fg gw h2 k2 k4 gW
      go_wp2
      exact bodyPost_ret (v := .agg #[.int .i64 (R : Int), .int .i64 k, .slice A1 N c1]) (by simp [results, go_sem, p0, p1, p2]) rfl ⟨_, rfl, ⟨_, rfl, by simpa [mxF] using OA2.out, by simp only [mxF, I64]; omega, by simp only [mxF, I64]; omega⟩, FG.out⟩
end Go.Proofs.Ytjhllgldllbaaaa
