/- FnPencils: the law holds for every argument. Part 10 of 18 of the proof: ElimS, Red1, Rank0, RankT, RrU, Src, KerF, HomP, EvL, HomM, Hom1, RvA, InOut, RfP. No condition. -/
import Derived.Test.YthhjoamgcfiecaaGreatBPencils9
set_option linter.unusedVariables false
set_option linter.unusedSimpArgs false
namespace Go.Proofs.YthhjoamgcfiecaaGreat
open Go.RowKit
theorem grown_then {a b c : World} {row : Option Nat} (h : a.grownBy b row) (k : b.grownBy c row) : a.grownBy c row :=
 ⟨k.os.trans h.os, k.tape.trans h.tape, k.output.trans h.output, Nat.le_trans h.size k.size, fun i hi hne => (k.block i (Nat.lt_of_lt_of_le hi h.size) hne).trans (h.block i hi hne)⟩
structure RS (B : Nat) (w1 : World) (A : Option Addr) (r c L cap : Nat) (w : World) (f : Nat → Nat → Int) (pv : Value) (ps : List Int) : Prop where
 bel : Below B w1 w
 fam : Fam w B w.heap.size [(.slice A L cap, flat r c f), (pv, ps)]
section
variable {B : Nat} {w1 w w' : World} {A : Option Addr} {r c L cap : Nat} {f : Nat → Nat → Int} {pv : Value} {ps : List Int}
theorem RS.own (h : RS B w1 A r c L cap w f pv ps) : OwnI w B (.slice A L cap) (flat r c f) := (h.fam.1 (_, flat r c f) (by simp)).1
theorem RS.ownP (h : RS B w1 A r c L cap w f pv ps) : IntsO w B w.heap.size pv ps := h.fam.1 (pv, ps) (by simp)
theorem RS.size (h : RS B w1 A r c L cap w f pv ps) (hB : B ≤ w1.heap.size) : B ≤ w.heap.size := Nat.le_trans hB h.bel.size
theorem RS.call (h : RS B w1 A r c L cap w f pv ps) (hB : B ≤ w1.heap.size) (hb : Below w.heap.size w w') : RS B w1 A r c L cap w' f pv ps :=
 ⟨h.bel.trans (hb.mono (h.size hB)), (h.fam.below hb).mono (Nat.le_refl _) hb.size⟩
theorem RS.addr (h : RS B w1 A r c L cap w f pv ps) (hL : 0 < r * c) : ∃ g, A = some ⟨g, 0, none⟩ ∧ L = r * c ∧ L ≤ cap ∧ cap ≤ 9223372036854775807 ∧ B ≤ g ∧ g < w.heap.size := by
 have ho := h.own
 rcases ho.1.2 with ⟨e, h0⟩ | ⟨g, cap', cur, e, hg, hh, hnc, hcm, _⟩
 ·rw [flat_length] at h0; omega
 ·injection e with e1 e2 e3
  subst e1 e3
  rw [flat_length] at e2 hnc
  subst e2
  exact ⟨g, rfl, rfl, hnc, by simp only [maxLen] at hcm; omega, hg, (Array.getElem?_eq_some_iff.1 hh).1⟩
theorem RS.len (h : RS B w1 A r c L cap w f pv ps) : L = r * c := by
 rcases h.own.form with ⟨A', c', e, _⟩
 injection e with _ e _
 rw [flat_length] at e
 exact e
theorem RS.cell {g i k : Nat} (h : RS B w1 (some ⟨g, 0, none⟩) r c L cap w f pv ps) (hi : i < r) (hk : k < c) : w.cell? ⟨g, i * c + k, none⟩ = some (.int .i64 (f i k)) ∧ I64 (f i k) ∧ w.frozen? ⟨g, i * c + k, none⟩ = false := by
 have h1 := h.own.cellG (j := i * c + k) (by rw [flat_length]; exact ix_lt hi hk)
 rw [flat_getD f hi hk] at h1
 exact ⟨h1.1, h1.2, h.own.frozenG _⟩
theorem RS.put {g J : Nat} {x : Int} {f2 : Nat → Nat → Int} (h : RS B w1 (some ⟨g, 0, none⟩) r c L cap w f pv ps) (hg : B ≤ g) (hs : B ≤ w.heap.size) (hx : I64 x) (e : (flat r c f).set J x = flat r c f2) :
  RS B w1 (some ⟨g, 0, none⟩) r c L cap (w.setCell ⟨g, J, none⟩ (.int .i64 x)) f2 pv ps := by
 have hp := h.own.put (j := J) hx
 rw [e] at hp
 refine ⟨h.bel.setCell hg _, ?_⟩
 have := h.fam.turn (L1 := []) hp.1 hp.2
 simpa using this
theorem RS.turn {g : Nat} {f2 : Nat → Nat → Int} (h : RS B w1 (some ⟨g, 0, none⟩) r c L cap w f pv ps) (hg : B ≤ g) (hs : B ≤ w.heap.size) (ho : OwnI w' B (.slice (some ⟨g, 0, none⟩) L cap) (flat r c f2)) (hgr : w.grownBy w' (some g)) :
  RS B w1 (some ⟨g, 0, none⟩) r c L cap w' f2 pv ps := by
 refine ⟨h.bel.trans (below_grown hgr (fun k hk => by injection hk with hk; omega) hs), ?_⟩
 have := h.fam.turn (L1 := []) ho hgr
 exact this.mono (Nat.le_refl _) hgr.size
theorem RS.app {pv' : Value} {ps' : List Int} (h : RS B w1 A r c L cap w f pv ps) (hs : B ≤ w.heap.size) (ho : OwnI w' B pv' ps') (hg : w.grownBy w' pv.ownBlock) (hv : pv'.ownBlock = pv.ownBlock ∨ pv'.ownBlock = some w.heap.size) :
  RS B w1 A r c L cap w' f pv' ps' := by
 refine ⟨h.bel.trans (below_grown hg (fun k hk => (h.ownP.1.lt k hk).1) hs), ?_⟩
 have h1 : Fam w B w.heap.size ([(.slice A L cap, flat r c f)] ++ (pv, ps) :: []) := h.fam
 have hw := hg.size
 exact h1.app hw ho hg hv
end
section
variable {B : Nat} {w1 w w' : World} {A : Option Addr} {r c L cap : Nat} {f : Nat → Nat → Int} {pv : Value} {ps : List Int}
theorem RS.cellP {g i k P : Nat} (h : RS B w1 (some ⟨g, 0, none⟩) r c L cap w f pv ps) (hi : i < r) (hk : k < c) (hP : P = i * c) : w.cell? ⟨g, P + k, none⟩ = some (.int .i64 (f i k)) ∧ I64 (f i k) ∧ w.frozen? ⟨g, P + k, none⟩ = false := by
 subst hP; exact h.cell hi hk
theorem RS.put2 {g J J' : Nat} {x y : Int} {f2 : Nat → Nat → Int} (h : RS B w1 (some ⟨g, 0, none⟩) r c L cap w f pv ps) (hg : B ≤ g) (hs : B ≤ w.heap.size) (hx : I64 x) (hy : I64 y) (e : ((flat r c f).set J x).set J' y = flat r c f2) :
  RS B w1 (some ⟨g, 0, none⟩) r c L cap ((w.setCell ⟨g, J, none⟩ (.int .i64 x)).setCell ⟨g, J', none⟩ (.int .i64 y)) f2 pv ps := by
 have hp := h.own.put (j := J) hx
 have hp2 := hp.1.put (j := J') hy
 rw [e] at hp2
 exact h.turn hg hs hp2.1 (grown_then hp.2 hp2.2)
end
theorem RS.congr {B : Nat} {w1 w : World} {A : Option Addr} {r c L cap : Nat} {f f2 : Nat → Nat → Int} {pv : Value} {ps : List Int} (h : RS B w1 A r c L cap w f pv ps) (e : flat r c f = flat r c f2) : RS B w1 A r c L cap w f2 pv ps :=
 ⟨h.bel, by rw [← e]; exact h.fam⟩
theorem invP_r {p x : Int} (hp : 2 ≤ p ∧ p ≤ 5) : 0 ≤ invP p x ∧ invP p x ≤ 4 := by
 unfold invP
 split
 ·have := emod_rng (x := x % p * (x % p) % p * (x % p)) hp.1
  omega
 ·have := emod_rng (x := x) hp.1
  omega
theorem inF_elI {p : Int} {r c n k i : Nat} {f : Nat → Nat → Int} (hp : 2 ≤ p) (h : InF p r c f) : InF p r c (elI p n k i f) := fun a b ha hb => by
 unfold elI
 split
 ·exact emod_rng hp
 ·exact h _ _ ha hb
theorem rows_apart {i n c P Q : Nat} (h : i ≠ n) (hQ : Q = i * c) (hP : P = n * c) : Q + c ≤ P ∨ P + c ≤ Q := by
 rcases Nat.lt_or_gt_of_ne h with h | h
 ·have : (i + 1) * c ≤ n * c := Nat.mul_le_mul_right _ h
  rw [Nat.add_mul, Nat.one_mul] at this
  omega
 ·have : (n + 1) * c ≤ i * c := Nat.mul_le_mul_right _ h
  rw [Nat.add_mul, Nat.one_mul] at this
  omega
theorem row_in {r c i P L cap g : Nat} (w : World) (hi : i < r) (h0 : 0 < c) (hr : r ≤ 1000) (hc : c ≤ 1000) (hL : L = r * c) (hcap : L ≤ cap) (hb : cap ≤ 9223372036854775807) (hP : P = i * c) :
  Calls Tryz.prog 33 #[.agg #[.int .i64 (r : Int), .int .i64 (c : Int), .slice (some ⟨g, 0, none⟩) L cap], .int .i64 (i : Int)] w fun e w' => e = .returned (.slice (some ⟨g, P, none⟩) c (cap - P)) ∧ Below w.heap.size w w' := by
 obtain ⟨P', J, h1, h2, h3, h4, h5⟩ := ix_walk (k := 0) hi h0 hr hc
 obtain ⟨h5', h6, h7, h8⟩ := ix_next hi hr hc h1
 have e : P' = P := h5'.trans hP.symm
 have h9 : P' + c ≤ L := by rw [hL]; exact h7
 have h10 : i ≤ 1000 := Nat.le_trans (Nat.le_of_lt hi) hr
 have := row_at (r : Int) c i P' L cap g w h1 h6 h9 hcap hb h0 h10
 rw [e] at this
 exact this
theorem rowP {r c i k P : Nat} (hi : i < r) (hk : k < c) (hr : r ≤ 1000) (hc : c ≤ 1000) (hP : P = i * c) : P + k < r * c ∧ P + c ≤ r * c ∧ r * c ≤ 1000000 := by
 have h1 : (i + 1) * c ≤ r * c := Nat.mul_le_mul_right _ hi
 have h2 : r * c ≤ 1000 * 1000 := Nat.mul_le_mul hr hc
 rw [Nat.add_mul, Nat.one_mul] at h1
 omega
theorem am_el {p : Int} {n k i r c : Nat} (F : Nat → Nat → Int) (hn : n < r) (hi : i ≠ n) :
  rowF (r * c) (amF p (p - F i k) (i * c) c (fun j => elI p n k i F (j / c) (j % c)) fun j => (fun x => elI p n k i F (x / c) (x % c)) (n * c + j)) = flat r c (elI p n k (i + 1) F) := by
 refine rowF_congr fun x hx => ?_
 obtain ⟨a, b, ha, hb, rfl⟩ := ix_of hx
 simp only [amF, ix_div hb, ix_mod hb]
 by_cases e : a = i
 ·subst e
  rw [if_pos (by omega), show a * c + b - a * c = b by omega, ix_div hb, ix_mod hb, el_rest, el_n]
  simp only [elI]
  rw [if_pos (by omega)]
 ·have h1 : ¬ (i * c ≤ a * c + b ∧ a * c + b < i * c + c) := by
   rintro ⟨h1, h2⟩
   rcases Nat.lt_or_gt_of_ne e with h | h
   ·have : (a + 1) * c ≤ i * c := Nat.mul_le_mul_right _ h
    rw [Nat.add_mul, Nat.one_mul] at this
    omega
   ·have : (i + 1) * c ≤ a * c := Nat.mul_le_mul_right _ h
    rw [Nat.add_mul, Nat.one_mul] at this
    omega
  rw [if_neg h1]
  simp only [elI]
  by_cases e2 : a < i ∧ a ≠ n
  ·rw [if_pos e2, if_pos (by omega)]
  ·rw [if_neg e2, if_neg (by omega)]
theorem rowF_flat (r c : Nat) (f : Nat → Nat → Int) : flat r c f = rowF (r * c) fun j => f (j / c) (j % c) := rfl
theorem invP_ok {p x : Int} (hp : isFld p = true) (h1 : 1 ≤ x) (h2 : x ≤ p - 1) : 1 ≤ invP p x ∧ invP p x ≤ p - 1 ∧ x * invP p x % p = 1 ∧ ∀ y, 1 ≤ y → y < invP p x → x * y % p ≠ 1 := by
 rcases isFld_t.1 hp with rfl | rfl | rfl
 ·obtain rfl : x = 1 := by omega
  refine ⟨by decide, by decide, by decide, fun y hy hy2 => ?_⟩
  have : invP 2 1 = 1 := by decide
  omega
 ·have : x = 1 ∨ x = 2 := by omega
  rcases this with rfl | rfl
  ·refine ⟨by decide, by decide, by decide, fun y hy hy2 => ?_⟩
   have : invP 3 1 = 1 := by decide
   omega
  ·refine ⟨by decide, by decide, by decide, fun y hy hy2 => ?_⟩
   have : invP 3 2 = 2 := by decide
   obtain rfl : y = 1 := by omega
   decide
 ·have : x = 1 ∨ x = 2 ∨ x = 3 ∨ x = 4 := by omega
  rcases this with rfl | rfl | rfl | rfl
  ·refine ⟨by decide, by decide, by decide, fun y hy hy2 => ?_⟩
   have : invP 5 1 = 1 := by decide
   omega
  ·refine ⟨by decide, by decide, by decide, fun y hy hy2 => ?_⟩
   have : invP 5 2 = 3 := by decide
   have : y = 1 ∨ y = 2 := by omega
   rcases this with rfl | rfl <;> decide
  ·refine ⟨by decide, by decide, by decide, fun y hy hy2 => ?_⟩
   have : invP 5 3 = 2 := by decide
   obtain rfl : y = 1 := by omega
   decide
  ·refine ⟨by decide, by decide, by decide, fun y hy hy2 => ?_⟩
   have : invP 5 4 = 4 := by decide
   have : y = 1 ∨ y = 2 ∨ y = 3 := by omega
   rcases this with rfl | rfl | rfl <;> decide
def pwF (p x : Int) : Nat → Int
 | 0 => 1
 | n + 1 => pwF p x n * (x % p) % p
theorem pwF_r {p x : Int} (hp : 2 ≤ p ∧ p ≤ 5) : ∀ n, 0 ≤ pwF p x n ∧ pwF p x n ≤ 4
 | 0 => by simp [pwF]
 | n + 1 => by
  have := emod_rng (x := pwF p x n * (x % p)) hp.1
  simp only [pwF]
  omega
theorem pwF_inv {p x : Int} (hp : isFld p = true) : pwF p x (max (p - 2) 1).toNat = invP p x := by
 have e := Int.emod_emod_of_dvd x (Int.dvd_refl p)
 rcases isFld_t.1 hp with rfl | rfl | rfl
 ·show 1 * (x % 2) % 2 = _
  rw [Int.one_mul, e]; rfl
 ·show 1 * (x % 3) % 3 = _
  rw [Int.one_mul, e]; rfl
 ·show 1 * (x % 5) % 5 * (x % 5) % 5 * (x % 5) % 5 = _
  rw [Int.one_mul, e]; rfl
set_option maxHeartbeats 800000 in
theorem powerMod_any (p x : Int) (n : Nat) (w : World) (hp : isFld p = true) (hx : I64 x) (hn : n ≤ 1000) :
  Calls Tryz.prog 106 #[.int .i64 p, .int .i64 x, .int .i64 n] w fun e w' => e = .returned (.int .i64 (pwF p x n)) ∧ w' = w := by
 have hpr := isFld_r hp
 have h2 : inR (n : Int) 0 1000 = true := inR_t.2 (by omega)
 have H1 := Lib.hid hp
 have H2 := Lib.hid h2
 have HX := Lib.hid hx
 clear hp h2
 go_enter Tryz.func106, Tryz.ntmps106
 go_wp2_with fail
 refine (implIsField_any _ _).mono ?_; rintro e w1 ⟨rfl, hww⟩; replace hww := hww.symm; subst hww
 rw [H1.out]
 go_wp2_with fail
 refine (within_any _ _ _ _).mono ?_; rintro e w1 ⟨rfl, hww⟩; replace hww := hww.symm; subst hww
 rw [H2.out]
 go_wp2
 go_loop [7, 17] (fun o i => ∃ k : Nat, k ≤ n ∧ i = .int .i64 k ∧ o = .int .i64 (pwF p x k)) (fun _ i => n - (intOf i).toNat)
 case atStart => exact ⟨0, Nat.zero_le _, rfl, rfl⟩
 case round =>
  obtain ⟨k, hk, rfl, rfl⟩ := hrel
  by_cases hlt : k < n
  ·have hr := pwF_r (x := x) hpr k
   have hm := emod_rng (x := x) hpr.1
   have hs : Hid (pwF p x (k + 1) = pwF p x k * (x % p) % p) := rfl
   obtain ⟨a, ha⟩ : ∃ a, pwF p x k = a := ⟨_, rfl⟩
   obtain ⟨m, hmm⟩ : ∃ m, x % p = m := ⟨_, rfl⟩
   rw [ha, hmm] at hs
   rw [ha] at hr ⊢
   rw [hmm] at hm
   have k0 : 0 ≤ a * m := Int.mul_nonneg hr.1 hm.1
   have k1 : a * m ≤ 4 * 4 := Int.mul_le_mul hr.2 (by omega) hm.1 (by omega)
   obtain ⟨K, hK⟩ : ∃ K, a * m = K := ⟨_, rfl⟩
   rw [hK] at k0 k1 hs
   have hKw : wrap64 (a * m) = K := by rw [hK]; exact IntWalk.wrap64_in _ ⟨by omega, by omega⟩
   have ht : K.tmod p = K % p := Int.tmod_eq_emod_of_nonneg k0
   have HMM := Lib.hid hmm
   clear ha hmm hK
   go_wp2_with fail
   refine (reduceMod_any p x _ H1.out HX.out).mono ?_; rintro e w1 ⟨rfl, hww⟩; replace hww := hww.symm; subst hww
   rw [HMM.out]
   go_wp2
   go_round
   case rel => exact ⟨k + 1, by omega, by go_num, by rw [hs.out]⟩
   case measure => simp [intOf]; omega
  ·obtain rfl : k = n := by omega
   go_wp2
   go_ret
   exact ⟨rfl, rfl⟩
theorem inverseMod_any (p x : Int) (w : World) (hp : isFld p = true) (hx : I64 x) :
  Calls Tryz.prog 89 #[.int .i64 p, .int .i64 x] w fun e w' => e = .returned (.int .i64 (invP p x)) ∧ w' = w := by
 have hpr := isFld_r hp
 obtain ⟨n, hn⟩ : ∃ n : Nat, max (p - 2) 1 = n := ⟨(max (p - 2) 1).toNat, by omega⟩
 have hi := pwF_inv (x := x) hp
 rw [hn, Int.toNat_natCast] at hi
 rw [← hi]
 have hnb : n ≤ 1000 := by omega
 have H1 := Lib.hid hp
 have HX := Lib.hid hx
 clear hp hi
 go_enter Tryz.func89, Tryz.ntmps89
 go_wp2_with fail
 refine (implIsField_any _ _).mono ?_; rintro e w1 ⟨rfl, hww⟩; replace hww := hww.symm; subst hww
 rw [H1.out]
 go_wp2_with fail
 refine (powerMod_any p x n _ H1.out HX.out hnb).mono ?_; rintro e w1 ⟨rfl, hww⟩; replace hww := hww.symm; subst hww
 go_wp2
 go_ret
 exact ⟨rfl, rfl⟩
set_option maxHeartbeats 800000 in
theorem specInverseMod_any (p x : Int) (w : World) (hp : isFld p = true) (h1 : 1 ≤ x) (h2 : x ≤ p - 1) :
  Calls Tryz.prog 114 #[.int .i64 p, .int .i64 x] w fun e w' => e = .returned (.int .i64 (invP p x)) ∧ w' = w := by
 have hpr := isFld_r hp
 obtain ⟨i1, i2, i3, i4⟩ := invP_ok hp h1 h2
 obtain ⟨v, hv⟩ : ∃ v, invP p x = v := ⟨_, rfl⟩
 rw [hv] at i1 i2 i3 i4 ⊢
 have H1 := Lib.hid hp
 have I3 := Lib.hid i3
 have I4 := Lib.hid i4
 have hxm : x % p = x := Int.emod_eq_of_lt (by omega) (by omega)
 have HXM := Lib.hid hxm
 clear hp hv i3 i4 hxm
 go_enter Tryz.func114, Tryz.ntmps114
 go_wp2
 go_loop [5] (fun i => ∃ y : Int, 1 ≤ y ∧ y ≤ v ∧ i = .int .i64 y) (fun i => (p - intOf i).toNat)
 case atStart => exact ⟨1, by omega, by omega, rfl⟩
 case round =>
  obtain ⟨y, hy1, hy2, rfl⟩ := hrel
  have hyp : y < p := by omega
  have k0 : 0 ≤ x * y := Int.mul_nonneg (by omega) (by omega)
  have k1 : x * y ≤ 4 * 4 := Int.mul_le_mul (by omega) (by omega) (by omega) (by omega)
  obtain ⟨K, hK⟩ : ∃ K, x * y = K := ⟨_, rfl⟩
  have hKw : wrap64 (x * y) = K := by rw [hK]; exact IntWalk.wrap64_in _ ⟨by omega, by omega⟩
  rw [hK] at k0 k1
  have hKI : Hid (I64 K) := by show _ ∧ _; omega
  have hxI : Hid (I64 x) := by show _ ∧ _; omega
  by_cases hlt : y < v
  ·have hne := I4.out y hy1 hlt
   rw [hK] at hne
   have hb : (K % p == 1) = false := by simpa using hne
   clear hK hne
   go_wp2_with fail
   refine (specIsField_any _ _).mono ?_; rintro e w1 ⟨rfl, hww⟩; replace hww := hww.symm; subst hww
   rw [H1.out]
   go_wp2_with fail
   refine (l2Mod_any p x _ hpr hxI.out).mono ?_; rintro e w1 ⟨rfl, hww⟩; replace hww := hww.symm; subst hww
   rw [HXM.out]
   go_wp2_with fail
   refine (l2Mod_any p K _ hpr hKI.out).mono ?_; rintro e w1 ⟨rfl, hww⟩; replace hww := hww.symm; subst hww
   go_wp2
   go_round
   case rel => exact ⟨y + 1, by omega, by omega, rfl⟩
   case measure => simp [intOf]; omega
  ·obtain rfl : y = v := by omega
   have he := I3.out
   rw [hK] at he
   have HE := Lib.hid he
   clear hK he
   go_wp2_with fail
   refine (specIsField_any _ _).mono ?_; rintro e w1 ⟨rfl, hww⟩; replace hww := hww.symm; subst hww
   rw [H1.out]
   go_wp2_with fail
   refine (l2Mod_any p x _ hpr hxI.out).mono ?_; rintro e w1 ⟨rfl, hww⟩; replace hww := hww.symm; subst hww
   rw [HXM.out]
   go_wp2_with fail
   refine (l2Mod_any p K _ hpr hKI.out).mono ?_; rintro e w1 ⟨rfl, hww⟩; replace hww := hww.symm; subst hww
   rw [HE.out]
   go_wp2
   go_ret
   exact ⟨rfl, rfl⟩
set_option maxHeartbeats 1600000 in
theorem addMultiple_in (p k : Int) (g off top n N cap ca cb : Nat) (lo : Nat) (f : Nat → Int) (w : World) (hp : 2 ≤ p ∧ p ≤ 5) (hk : 0 ≤ k ∧ k ≤ 5)
  (hown : OwnI w lo (.slice (some ⟨g, 0, none⟩) N cap) (rowF N f)) (hoff : off + n ≤ N) (htop : top + n ≤ N) (hd : off + n ≤ top ∨ top + n ≤ off) (hN : N ≤ 1000000) (hca : n ≤ ca ∧ ca ≤ 9223372036854775807) (hcb : n ≤ cb ∧ cb ≤ 9223372036854775807)
  (hf : ∀ i, i < N → 0 ≤ f i ∧ f i ≤ 4) :
  Calls Tryz.prog 90 #[.int .i64 p, .slice (some ⟨g, off, none⟩) n ca, .int .i64 k, .slice (some ⟨g, top, none⟩) n cb] w fun e w' => e = .returned (.slice (some ⟨g, off, none⟩) n ca) ∧ OwnI w' lo (.slice (some ⟨g, 0, none⟩) N cap) (rowF N (amF p k off n f fun j => f (top + j))) ∧ w.grownBy w' (some g) := by
 have HF := Lib.hid hf
 obtain ⟨y, hy⟩ : ∃ y : Nat → Int, y = fun j => f (top + j) := ⟨_, rfl⟩
 rw [← hy]
 have HY : Hid (∀ j, y j = f (top + j)) := by subst hy; exact fun _ => rfl
 rw [amF_0 p k off N f y] at hown
 clear hf hy
 go_enter Tryz.func90, Tryz.ntmps90
 go_wp2
 go_loopw [13] (fun i wr => ∃ j : Nat, j ≤ n ∧ i = .int .i64 j ∧ OwnI wr lo (.slice (some ⟨g, 0, none⟩) N cap) (rowF N (amF p k off j f y)) ∧ w.grownBy wr (some g)) (fun i _ => n - (intOf i).toNat)
 case atStart => exact ⟨0, Nat.zero_le _, rfl, hown, World.grownBy.refl _ _⟩
 case round =>
  clear hown
  obtain ⟨j, hj, rfl, ho, hgr⟩ := hrel
  by_cases hlt : j < n
  ·have cA := (ho.cellG (j := off + j) (by rw [rowF_length]; omega)).1
   rw [rowF_getD _ (by omega), amF_rest] at cA
   have cS := (ho.cellG (j := top + j) (by rw [rowF_length]; omega)).1
   rw [rowF_getD _ (by omega), amF, if_neg (by omega), ← HY.out] at cS
   have fA := ho.frozenG (off + j)
   have hf1 := HF.out (off + j) (by omega)
   have hy1 := HF.out (top + j) (by omega)
   rw [← HY.out] at hy1
   have hst := amF_succ (p := p) (k := k) (off := off) (j := j) (N := N) f y
   obtain ⟨a, ha⟩ : ∃ a, f (off + j) = a := ⟨_, rfl⟩
   obtain ⟨z, hz⟩ : ∃ z, y j = z := ⟨_, rfl⟩
   rw [ha] at cA hf1 hst
   rw [hz] at cS hy1 hst
   have hkz0 : 0 ≤ k * z := Int.mul_nonneg hk.1 hy1.1
   have hkz1 : k * z ≤ 5 * 4 := Int.mul_le_mul hk.2 hy1.2 hy1.1 (by omega)
   obtain ⟨K, hK⟩ : ∃ K, k * z = K := ⟨_, rfl⟩
   rw [hK] at hkz0 hkz1 hst
   have hKw : wrap64 (k * z) = K := by rw [hK]; exact IntWalk.wrap64_in _ ⟨by omega, by omega⟩
   have hr0 := Int.emod_nonneg (a + K) (show p ≠ 0 by omega)
   have hr1 := Int.emod_lt_of_pos (a + K) (show 0 < p by omega)
   have ho2 := ho.put (j := off + j) (x := (a + K) % p) (by simp only [I64]; omega)
   rw [hst] at ho2
   have HO2 := Lib.hid ho2
   have HG2 := Lib.hid (grown_then hgr ho2.2)
   have htm : (wrap64 (a + K)).tmod p = (a + K) % p := by
    rw [IntWalk.wrap64_in _ ⟨by omega, by omega⟩]
    exact Int.tmod_eq_emod_of_nonneg (by omega)
   have htm2 : (a + K).tmod p = (a + K) % p := Int.tmod_eq_emod_of_nonneg (by omega)
   clear hst ho2 ho hgr hr0 hr1 ha hz hK hkz0 hkz1
   go_wp2
   go_roundw
   case rel => exact ⟨j + 1, by omega, by go_num, HO2.out.1, HG2.out⟩
   case measure => simp [intOf]; omega
  ·go_wp2
   go_ret
   obtain rfl : j = n := by omega
   exact ⟨rfl, ho, hgr⟩
set_option maxHeartbeats 12800000 in
set_option maxRecDepth 100000 in
theorem implReduce_any (p : Int) (u : Value) (r c : Nat) (f : Nat → Nat → Int) (w0 : World) (hp : isFld p = true) (hr : r ≤ 1000) (hc : c ≤ 1000) (hu : MxR w0 w0.heap.size u (mxF r c f)) (hf : InF p r c f) :
  Calls Tryz.prog 69 #[.int .i64 p, u] w0 fun e w' => ∃ m v, e = .returned (.tuple #[m, v]) ∧ MxO w' w0.heap.size w'.heap.size m (mxF r c (rdTo p r f c).1) ∧ IntsO w' w0.heap.size w'.heap.size v (rdTo p r f c).2 ∧ Below w0.heap.size w0 w' := by
 have hpr := isFld_r hp
 have hu' := hu
 obtain ⟨UA, uc, rfl⟩ := hu.form
 simp only [mxF] at hu hu' ⊢
 rw [flat_length] at hu hu' ⊢
 obtain ⟨UL, hUL⟩ : ∃ n, r * c = n := ⟨_, rfl⟩
 rw [hUL] at hu hu' ⊢
 have HUL := Lib.hid hUL
 clear hUL hu
 obtain ⟨W, hW⟩ : ∃ W, W = (w0.alloc (.cells #[.int .i64 r, .int .i64 c, .slice UA UL uc] 44)).alloc (.cells #[.int .i64 0, .int .i64 0, .slice none 0 0] 44) := ⟨_, rfl⟩
 have g0 : Below w0.heap.size w0 W := by rw [hW]; exact ((Below.refl _ _).alloc (Nat.le_refl _) _).alloc (by simp) _
 have kB : Blk W w0.heap.size 44 #[.int .i64 r, .int .i64 c, .slice UA UL uc] := by rw [hW]; exact (Blk.new _ _ _).alloc _
 have kR : Blk W (w0.heap.size + 1) 44 #[.int .i64 0, .int .i64 0, .slice none 0 0] := by
  rw [hW]
  have := Blk.new (w0.alloc (.cells #[.int .i64 r, .int .i64 c, .slice UA UL uc] 44)) 44 #[.int .i64 0, .int .i64 0, .slice none 0 0]
  simpa only [World.size_alloc] using this
 have sz : W.heap.size = w0.heap.size + 1 + 1 := by rw [hW]; simp
 have SZ := Lib.hid sz
 have HU := Lib.hid (MxR.next g0 hu')
 have HF := Lib.hid hf
 have HP := Lib.hid hp
 have c0 := kB.cell' (i := 0) rfl
 have c1 := kB.cell' (i := 1) rfl
 have c2 := kB.cell' (i := 2) rfl
 clear hu' sz hf hp
 go_enter Tryz.func69, Tryz.ntmps69
 go_wp2_with fail
 rw [← hW]; clear hW
 refine (mxClone_any _ _ _ HU.out).mono ?_; rintro e w1 ⟨v1, rfl, hM, hb1⟩
 obtain ⟨A, cap, ev⟩ := hM.form
 subst ev
 simp only [flat_length] at hM ⊢
 obtain ⟨L, hL⟩ : ∃ n, r * c = n := ⟨_, rfl⟩
 rw [hL] at hM ⊢
 have HL := Lib.hid hL
 clear hL
 have kB1 := kB.call hb1
 have kR1 := kR.call hb1
 have g1 := bthen g0 hb1
 clear c0 c1 c2
 have c0 := kB1.cell' (i := 0) rfl
 have c1 := kB1.cell' (i := 1) rfl
 have c2 := kB1.cell' (i := 2) rfl
 have fr := kB1.frozen
 have s1 := hb1.size
 have sz := SZ.out
 obtain ⟨w2, hw2⟩ : ∃ w2, w2 = ((w1.setCell ⟨w0.heap.size, 0, none⟩ (.int .i64 r)).setCell ⟨w0.heap.size, 1, none⟩ (.int .i64 c)).setCell ⟨w0.heap.size, 2, none⟩ (.slice A L cap) := ⟨_, rfl⟩
 have hch : Chg w0.heap.size (w0.heap.size + 1) w1 w2 := by rw [hw2]; exact chg3 w1 _ _ _ _
 have kB2 : Blk w2 w0.heap.size 44 #[.int .i64 r, .int .i64 c, .slice A L cap] := by rw [hw2]; exact ((kB1.set_ 0 _).set_ 1 _).set_ 2 _
 have kR2 := kR1.chg hch (.inr (by omega))
 have g2 : Below w0.heap.size w0 w2 := g1.trans (hch.below (Nat.le_refl _) (by omega))
 have s2 := hch.size
 obtain ⟨sA, esA, hIA, _, _⟩ := hM
 simp only [Value.agg.injEq, Array.mk.injEq, List.cons.injEq, and_true, true_and] at esA
 subst esA
 have hI2 := hIA.chg hch (.inr (by omega))
 have hS0 : RS W.heap.size w2 A r c L cap w2 (rdTo p r f 0).1 (.slice none 0 0) (rdTo p r f 0).2 := by
  refine ⟨Below.refl _ _, ?_⟩
  refine ⟨fun q hq => ?_, List.pairwise_pair.2 (Classical.em _)⟩
  simp only [List.mem_cons, List.not_mem_nil, or_false] at hq
  rcases hq with rfl | rfl
  ·exact hI2.wider (Nat.le_refl _) s2
  ·exact ⟨OwnI.nil _ _, by simp [Value.ownBlock]⟩
 have KB := Lib.hid kB2
 have KR := Lib.hid kR2
 have G2 := Lib.hid g2
 have hWB : W.heap.size ≤ w2.heap.size := by omega
 have HB0 : Hid (w0.heap.size < W.heap.size) := by show _ < _; omega
 have HWB := Lib.hid hWB
 clear kB kB1 kR kR1 g0 g1 hIA hI2 hch kB2 kR2 g2 s1 s2 sz hb1 hWB
 go_wp2
 rw [← hw2]; clear hw2 c0 c1 c2 fr
 go_loopw [6, 18] (fun pv i wr => ∃ k : Nat, k ≤ c ∧ i = .int .i64 k ∧ RS W.heap.size w2 A r c L cap wr (rdTo p r f k).1 pv (rdTo p r f k).2) (fun _ i _ => c - (intOf i).toNat)
 case atStart => exact ⟨0, Nat.zero_le _, rfl, hS0⟩
 case round =>
  clear hS0
  obtain ⟨k, hk, rfl, S⟩ := hrel
  obtain ⟨PA, pc, ev, _, _⟩ := S.ownP.1.form
  subst ev
  have hln := rdTo_len p r f k
  have hin := inF_to hpr.1 HF.out k
  have hrs := rdTo_succ p r f k
  obtain ⟨F, hFF⟩ : ∃ F, (rdTo p r f k).1 = F := ⟨_, rfl⟩
  obtain ⟨ps, hps⟩ : ∃ ps, (rdTo p r f k).2 = ps := ⟨_, rfl⟩
  have hpm := rdTo_mem p r f k
  rw [hps] at hpm
  rw [hFF, hps] at S hrs
  rw [hps] at hln
  rw [hFF] at hin
  rw [hps]
  obtain ⟨n, hn⟩ : ∃ n, ps.length = n := ⟨_, rfl⟩
  rw [hn] at hln hrs S ⊢
  have HRS := Lib.hid hrs
  clear hrs
  have HPM := Lib.hid hpm
  have HN := Lib.hid hn
  have HIN := Lib.hid hin
  have HFF := Lib.hid hFF
  have HPS := Lib.hid hps
  clear hFF hps hn hin hpm
  by_cases hlt : k < c
  ·have kb := KB.out.below (S).bel HB0.out
   have c0 := kb.cell' (i := 0) rfl
   have c1 := kb.cell' (i := 1) rfl
   have c2 := kb.cell' (i := 2) rfl
   have hSS := Lib.hid S
   clear kb
   go_wp2
   go_loopw [8] (fun i wr => ∃ a : Nat, n ≤ a ∧ a ≤ r ∧ i = .int .i64 a ∧ RS W.heap.size w2 A r c L cap wr F (.slice PA n pc) ps ∧ Hid (∀ i, n ≤ i → i < a → F i k = 0)) (fun i _ => r - (intOf i).toNat)
   case atStart => exact ⟨n, Nat.le_refl _, hln.1, rfl, S, fun i h1 h2 => by omega⟩
   case round =>
    clear c0 c1 c2 S
    obtain ⟨a, hna, har, rfl, S, hz⟩ := hrel
    have kb := KB.out.below (S).bel HB0.out
    have c0 := kb.cell' (i := 0) rfl
    have c1 := kb.cell' (i := 1) rfl
    have c2 := kb.cell' (i := 2) rfl
    by_cases hlr : a < r
    ·obtain ⟨P1, _, P3⟩ := rowP hlr hlt hr hc rfl
     obtain ⟨g, eA, eL, hLc, hcb, hBg, hgw⟩ := S.addr (by omega)
     subst eA
     obtain ⟨Q, hQ⟩ : ∃ Q, Q = a * c := ⟨_, rfl⟩
     have HQ := Lib.hid hQ
     have EL := Lib.hid eL
     rw [← hQ] at P1
     rw [← eL] at P1 P3
     clear hQ eL
     go_wp2_with fail
     refine (row_in _ hlr (by omega) hr hc EL.out hLc hcb HQ.out).mono ?_; rintro e w3 ⟨rfl, hb3⟩
     have S3 := S.call HWB.out hb3
     obtain ⟨z1, _, _⟩ := S3.cellP hlr hlt HQ.out
     clear kb c0 c1 c2 S hb3
     have kb := KB.out.below (S3).bel HB0.out
     have c0 := kb.cell' (i := 0) rfl
     have c1 := kb.cell' (i := 1) rfl
     have c2 := kb.cell' (i := 2) rfl
     by_cases hz0 : F a k = 0
     ·rw [hz0] at z1
      have HZ : Hid (∀ i, n ≤ i → i < a + 1 → F i k = 0) := fun i h1 h2 => by
       by_cases e : i = a
       ·subst e; exact hz0
       ·exact hz.out i h1 (by omega)
      clear hz0
      go_wp2
      go_roundw
      case rel => exact ⟨a + 1, by omega, by omega, by go_num, S3, HZ.out⟩
      case measure => simp [intOf]; omega
     ·have hzb : (F a k == 0) = false := by simpa using hz0
      have hza := nzF_eq (f := F) (k := k) hna har hz.out (fun _ => hz0)
      have hnr : n < r := by omega
      have hane : (a : Int) ≠ r := by omega
      have HRS2 := Lib.hid (HRS.out.trans (if_pos (by rw [hza]; exact hlr)))
      have HZA := Lib.hid hza
      clear hz0 hza hz
      obtain ⟨P, hP⟩ : ∃ P, P = n * c := ⟨_, rfl⟩
      have hrp := rowP hnr hlt hr hc hP
      rw [← EL.out] at hrp
      have HPP := Lib.hid hP
      clear hP
      go_wp2_with fail
      refine (row_in _ hnr (by omega) hr hc EL.out hLc hcb HPP.out).mono ?_; rintro e w4 ⟨rfl, hb4⟩
      have S4 := S3.call HWB.out hb4
      rw [← sw_0 n a F] at S4
      clear kb c0 c1 c2 S3 hb4 hgw z1
      have kb := KB.out.below (S4).bel HB0.out
      have c0 := kb.cell' (i := 0) rfl
      have c1 := kb.cell' (i := 1) rfl
      have c2 := kb.cell' (i := 2) rfl
      go_wp2
      clear kb c0 c1 c2
      go_loopw [48] (fun i wr => ∃ j : Nat, j ≤ c ∧ i = .int .i64 j ∧ RS W.heap.size w2 (some ⟨g, 0, none⟩) r c L cap wr (swJ n a j F) (.slice PA n pc) ps) (fun i _ => c - (intOf i).toNat)
      case atStart => exact ⟨0, Nat.zero_le _, rfl, S4⟩
      case round =>
       clear S4
       obtain ⟨j, hj, rfl, S⟩ := hrel
       by_cases hljc : j < c
       ·obtain ⟨a1, a2, a3⟩ := rowP hlr hljc hr hc HQ.out
        obtain ⟨b1, b2, b3⟩ := rowP hnr hljc hr hc HPP.out
        rw [← EL.out] at a1 a2 a3 b1 b2 b3
        have hst := sw_step F hnr hlr hljc
        rw [← HQ.out, ← HPP.out] at hst
        have HST := Lib.hid hst
        have hsr := S.size HWB.out
        have hSS := Lib.hid S
        clear hst S
        go_wp2
        obtain ⟨y, hy⟩ : ∃ y, y = F := ⟨_, rfl⟩
        refine wp_region_net2 (by kernel_rfl) [.eq (.slice (some ⟨g, P, none⟩) c (cap - P)), .eq (.int .i64 j), .eq (.agg #[.int .i64 r, .int .i64 c, .slice (some ⟨g, 0, none⟩) L cap]), .eq (.int .i64 a), .eq (.slice (some ⟨g, Q, none⟩) c (cap - Q)), .eq (.int .i64 j), .eq (.agg #[.int .i64 r, .int .i64 c, .slice (some ⟨g, 0, none⟩) L cap]), .eq (.int .i64 a), .eq (.slice (some ⟨g, Q, none⟩) c (cap - Q)), .eq (.int .i64 j), .eq (.pointer (some ⟨g, Q + j, none⟩)), .eq (.int .i64 (F a j)), .eq (.slice (some ⟨g, P, none⟩) c (cap - P)), .eq (.int .i64 j), .eq (.pointer (some ⟨g, P + j, none⟩)), .eq (.int .i64 (F n j)), .eq (.pointer (some ⟨g, P + j, none⟩))] [[], [], [], [], [2, 3], [], [], [], [2, 3, 4, 6, 7], [], [2, 3, 4, 6, 7, 8, 9], [2, 3, 4, 6, 7, 8, 9, 10], [], [], [12, 13], [12, 13, 14], [0, 1, 2, 3, 4, 6, 7, 8, 9, 10, 11, 12, 13, 14, 15], [0, 1, 2, 3, 4, 6, 7, 8, 9, 10, 11, 12, 13, 14, 15, 16], [0, 1, 2, 3, 4, 5, 6, 7, 8, 9, 10, 11, 12, 13, 14, 15, 16, 17], [0, 1, 2, 3, 4, 5, 6, 7, 8, 9, 10, 11, 12, 13, 14, 15, 16, 17, 18]] 17 5 [0, 1, 2, 3, 4, 6, 7, 8, 9, 10, 11, 12, 13, 14, 15, 16] (by kernel_rfl) rfl ⟨trivial, trivial, trivial, trivial, trivial, trivial, trivial, trivial, trivial, trivial, trivial, trivial, trivial, trivial, trivial, trivial, trivial, trivial⟩ ⟨?_, ?_, ?_, ?_, ?_, ?_, ?_, ?_, ?_, ?_, ?_, ?_, ?_, ?_, ?_, ?_, ?_, trivial⟩ ?_ ?_
        ·intro x w hb hk Q' hQ
         clear hk
         simp only [netE] at hQ ⊢
         go_wp2
         exact hQ _ _ (Below.refl _ _) rfl
        ·intro x w hb hk Q' hQ
         clear hk
         simp only [netE] at hQ ⊢
         go_wp2
         exact hQ _ _ (Below.refl _ _) rfl
        ·intro x w hb hk Q' hQ
         clear hk
         simp only [netE] at hQ ⊢
         have S := hSS.out.call HWB.out hb
         have kb := KB.out.below (S).bel HB0.out
         have c0 := kb.cell' (i := 0) rfl
         have c1 := kb.cell' (i := 1) rfl
         have c2 := kb.cell' (i := 2) rfl
         go_wp2
         exact hQ _ _ (Below.refl _ _) rfl
        ·intro x w hb hk Q' hQ
         clear hk
         simp only [netE] at hQ ⊢
         go_wp2
         exact hQ _ _ (Below.refl _ _) rfl
        ·intro x w hb hk Q' hQ
         have h2 : x.v 2 = _ := (hk 2 (by decide)).1
         have h3 : x.v 3 = _ := (hk 3 (by decide)).1
         clear hk
         simp only [netE] at hQ ⊢
         simp only [h2, h3] at hQ ⊢
         clear h2 h3
         go_wp2_with fail
         refine (row_in _ hlr (by omega) hr hc EL.out hLc hcb HQ.out).mono ?_; rintro e w5 ⟨rfl, hb5⟩
         go_wp2
         exact hQ _ _ hb5 rfl
        ·intro x w hb hk Q' hQ
         clear hk
         simp only [netE] at hQ ⊢
         go_wp2
         exact hQ _ _ (Below.refl _ _) rfl
        ·intro x w hb hk Q' hQ
         clear hk
         simp only [netE] at hQ ⊢
         have S := hSS.out.call HWB.out hb
         have kb := KB.out.below (S).bel HB0.out
         have c0 := kb.cell' (i := 0) rfl
         have c1 := kb.cell' (i := 1) rfl
         have c2 := kb.cell' (i := 2) rfl
         go_wp2
         exact hQ _ _ (Below.refl _ _) rfl
        ·intro x w hb hk Q' hQ
         clear hk
         simp only [netE] at hQ ⊢
         go_wp2
         exact hQ _ _ (Below.refl _ _) rfl
        ·intro x w hb hk Q' hQ
         have h6 : x.v 6 = _ := (hk 6 (by decide)).1
         have h7 : x.v 7 = _ := (hk 7 (by decide)).1
         clear hk
         simp only [netE] at hQ ⊢
         simp only [h6, h7] at hQ ⊢
         clear h6 h7
         go_wp2_with fail
         refine (row_in _ hlr (by omega) hr hc EL.out hLc hcb HQ.out).mono ?_; rintro e w5 ⟨rfl, hb5⟩
         go_wp2
         exact hQ _ _ hb5 rfl
        ·intro x w hb hk Q' hQ
         clear hk
         simp only [netE] at hQ ⊢
         go_wp2
         exact hQ _ _ (Below.refl _ _) rfl
        ·intro x w hb hk Q' hQ
         have h8 : x.v 8 = _ := (hk 8 (by decide)).1
         have h9 : x.v 9 = _ := (hk 9 (by decide)).1
         clear hk
         simp only [netE] at hQ ⊢
         simp only [h8, h9] at hQ ⊢
         clear h8 h9
         go_wp2
         exact hQ _ _ (Below.refl _ _) rfl
        ·intro x w hb hk Q' hQ
         have h10 : x.v 10 = _ := (hk 10 (by decide)).1
         clear hk
         simp only [netE] at hQ ⊢
         simp only [h10] at hQ ⊢
         clear h10
         have S := hSS.out.call HWB.out hb
         have z := (S.cellP hlr hljc HQ.out).1
         rw [sw_rest] at z
         go_wp2
         exact hQ _ _ (Below.refl _ _) rfl
        ·intro x w hb hk Q' hQ
         clear hk
         simp only [netE] at hQ ⊢
         go_wp2
         exact hQ _ _ (Below.refl _ _) rfl
        ·intro x w hb hk Q' hQ
         clear hk
         simp only [netE] at hQ ⊢
         go_wp2
         exact hQ _ _ (Below.refl _ _) rfl
        ·intro x w hb hk Q' hQ
         have h12 : x.v 12 = _ := (hk 12 (by decide)).1
         have h13 : x.v 13 = _ := (hk 13 (by decide)).1
         clear hk
         simp only [netE] at hQ ⊢
         simp only [h12, h13] at hQ ⊢
         clear h12 h13
         go_wp2
         exact hQ _ _ (Below.refl _ _) rfl
        ·intro x w hb hk Q' hQ
         have h14 : x.v 14 = _ := (hk 14 (by decide)).1
         clear hk
         simp only [netE] at hQ ⊢
         simp only [h14] at hQ ⊢
         clear h14
         have S := hSS.out.call HWB.out hb
         have z := (S.cellP hnr hljc HPP.out).1
         rw [sw_rest] at z
         go_wp2
         exact hQ _ _ (Below.refl _ _) rfl
        ·intro x w hb hk Q' hQ
         have h0 : x.v 0 = _ := (hk 0 (by decide)).1
         have h1 : x.v 1 = _ := (hk 1 (by decide)).1
         clear hk
         simp only [netE] at hQ ⊢
         simp only [h0, h1] at hQ ⊢
         clear h0 h1
         go_wp2
         exact hQ _ _ (Below.refl _ _) rfl
        ·intro x w hb hk hiv hdj
         have h0 : x.v 0 = .slice (some ⟨g, P, none⟩) c (cap - P) := hk 0 (by decide)
         have h1 : x.v 1 = .int .i64 j := hk 1 (by decide)
         have h2 : x.v 2 = .agg #[.int .i64 r, .int .i64 c, .slice (some ⟨g, 0, none⟩) L cap] := hk 2 (by decide)
         have h3 : x.v 3 = .int .i64 a := hk 3 (by decide)
         have h4 : x.v 4 = .slice (some ⟨g, Q, none⟩) c (cap - Q) := hk 4 (by decide)
         have h5 : x.v 5 = .int .i64 j := hk 5 (by decide)
         have h6 : x.v 6 = .agg #[.int .i64 r, .int .i64 c, .slice (some ⟨g, 0, none⟩) L cap] := hk 6 (by decide)
         have h7 : x.v 7 = .int .i64 a := hk 7 (by decide)
         have h8 : x.v 8 = .slice (some ⟨g, Q, none⟩) c (cap - Q) := hk 8 (by decide)
         have h9 : x.v 9 = .int .i64 j := hk 9 (by decide)
         have h10 : x.v 10 = .pointer (some ⟨g, Q + j, none⟩) := hk 10 (by decide)
         have h11 : x.v 11 = .int .i64 (F a j) := hk 11 (by decide)
         have h12 : x.v 12 = .slice (some ⟨g, P, none⟩) c (cap - P) := hk 12 (by decide)
         have h13 : x.v 13 = .int .i64 j := hk 13 (by decide)
         have h14 : x.v 14 = .pointer (some ⟨g, P + j, none⟩) := hk 14 (by decide)
         have h15 : x.v 15 = .int .i64 (F n j) := hk 15 (by decide)
         have h16 : x.v 16 = .pointer (some ⟨g, P + j, none⟩) := hk 16 (by decide)
         clear hk
         simp only [netE]
         simp only [List.drop_succ_cons, List.drop_zero, h0, h1, h2, h3, h4, h5, h6, h7, h8, h9, h10, h11, h12, h13, h14, h15, h16]
         clear h0 h1 h2 h3 h4 h5 h6 h7 h8 h9 h10 h11 h12 h13 h14 h15 h16
         have S := hSS.out.call HWB.out hb
         have ia := (S.cellP hlr hljc HQ.out)
         have ib := (S.cellP hnr hljc HPP.out)
         rw [sw_rest] at ia ib
         have S2 := S.put2 hBg (S.size HWB.out) ia.2.1 ib.2.1 HST.out
         have S1 := S.put (J := P + j) (x := F a j) hBg (S.size HWB.out) ia.2.1 (by rw [HPP.out]; exact flat_set _ _ hnr hljc)
         obtain ⟨q1, _, q2⟩ := S1.cellP hlr hljc HQ.out
         obtain ⟨p1, _, p2⟩ := ib
         have HS2 := Lib.hid S2
         clear ia S S1 S2 hiv hdj
         go_wp2
         go_roundw
         case rel => exact ⟨j + 1, by omega, by go_num, HS2.out⟩
         case measure => simp [intOf]; omega
        ·intro x w hb hk hiv hdj om os hom hos
         simp only [List.getElem?_cons_zero, List.getElem?_cons_succ, Option.some.injEq] at hom hos
         subst hom hos
         have h0 : x.v 0 = .slice (some ⟨g, P, none⟩) c (cap - P) := hk 0 (by decide)
         have h1 : x.v 1 = .int .i64 j := hk 1 (by decide)
         have h2 : x.v 2 = .agg #[.int .i64 r, .int .i64 c, .slice (some ⟨g, 0, none⟩) L cap] := hk 2 (by decide)
         have h3 : x.v 3 = .int .i64 a := hk 3 (by decide)
         have h4 : x.v 4 = .slice (some ⟨g, Q, none⟩) c (cap - Q) := hk 4 (by decide)
         have h6 : x.v 6 = .agg #[.int .i64 r, .int .i64 c, .slice (some ⟨g, 0, none⟩) L cap] := hk 6 (by decide)
         have h7 : x.v 7 = .int .i64 a := hk 7 (by decide)
         have h8 : x.v 8 = .slice (some ⟨g, Q, none⟩) c (cap - Q) := hk 8 (by decide)
         have h9 : x.v 9 = .int .i64 j := hk 9 (by decide)
         have h10 : x.v 10 = .pointer (some ⟨g, Q + j, none⟩) := hk 10 (by decide)
         have h11 : x.v 11 = .int .i64 (F a j) := hk 11 (by decide)
         have h12 : x.v 12 = .slice (some ⟨g, P, none⟩) c (cap - P) := hk 12 (by decide)
         have h13 : x.v 13 = .int .i64 j := hk 13 (by decide)
         have h14 : x.v 14 = .pointer (some ⟨g, P + j, none⟩) := hk 14 (by decide)
         have h15 : x.v 15 = .int .i64 (F n j) := hk 15 (by decide)
         have h16 : x.v 16 = .pointer (some ⟨g, P + j, none⟩) := hk 16 (by decide)
         clear hk
         simp only [List.foldl_cons, List.foldl_nil, netE]
         simp only [List.drop_succ_cons, List.drop_zero, h0, h1, h2, h3, h4, h6, h7, h8, h9, h10, h11, h12, h13, h14, h15, h16]
         clear h0 h1 h2 h3 h4 h6 h7 h8 h9 h10 h11 h12 h13 h14 h15 h16
         have S := hSS.out.call HWB.out hb
         have ia := (S.cellP hlr hljc HQ.out)
         have ib := (S.cellP hnr hljc HPP.out)
         rw [sw_rest] at ia ib
         have S2 := S.put2 hBg (S.size HWB.out) ia.2.1 ib.2.1 HST.out
         have S1 := S.put (J := P + j) (x := F a j) hBg (S.size HWB.out) ia.2.1 (by rw [HPP.out]; exact flat_set _ _ hnr hljc)
         obtain ⟨q1, _, q2⟩ := S1.cellP hlr hljc HQ.out
         obtain ⟨p1, _, p2⟩ := ib
         have HS2 := Lib.hid S2
         clear ia S S1 S2 hiv hdj
         go_wp2
         go_roundw
         case rel => exact ⟨j + 1, by omega, by go_num, HS2.out⟩
         case measure => simp [intOf]; omega
       ·have hjc : j = c := by omega
        subst hjc
        have S := S.congr (sw_end n a r j F)
        have hin1 := inF_sw HIN.out hnr hlr
        obtain ⟨F1, hF1⟩ : ∃ F1, swA n a F = F1 := ⟨_, rfl⟩
        rw [hF1] at S hin1
        obtain ⟨x, hx⟩ : ∃ x, F1 n k = x := ⟨_, rfl⟩
        obtain ⟨z1, hxI, _⟩ := S.cellP hnr hlt HPP.out
        rw [hx] at z1 hxI
        obtain ⟨s, hs⟩ : ∃ s, invP p x = s := ⟨_, rfl⟩
        have hsr := invP_r (x := x) hpr
        rw [hs] at hsr
        have HS := Lib.hid hs
        have HX := Lib.hid hx
        have HXI := Lib.hid hxI
        have HF1 := Lib.hid hF1
        have HIN1 := Lib.hid hin1
        have hSS := Lib.hid S
        clear hs hx hxI hF1 hin1 S
        go_wp2_with fail
        refine (inverseMod_any p x _ HP.out HXI.out).mono ?_; rintro e w5 ⟨rfl, hww⟩; replace hww := hww.symm; subst hww
        rw [HS.out]
        have S := hSS.out
        rw [← sc_0 p n s F1] at S
        go_wp2
        clear z1
        go_loopw [78] (fun i wr => ∃ j' : Nat, j' ≤ j ∧ i = .int .i64 j' ∧ RS W.heap.size w2 (some ⟨g, 0, none⟩) r j L cap wr (scJ p n s j' F1) (.slice PA n pc) ps) (fun i _ => j - (intOf i).toNat)
        case atStart => exact ⟨0, Nat.zero_le _, rfl, S⟩
        case round =>
         clear S hSS
         obtain ⟨j', hj', rfl, S⟩ := hrel
         by_cases hl4 : j' < j
         ·obtain ⟨b1, b2, b3⟩ := rowP hnr hl4 hr hc HPP.out
          rw [← EL.out] at b1 b2 b3
          obtain ⟨z1, _, z2⟩ := S.cellP hnr hl4 HPP.out
          rw [sc_rest] at z1
          have hi1 := HIN1.out n j' hnr hl4
          have hst := sc_step (p := p) (s := s) F1 hnr hl4
          obtain ⟨a4, ha4⟩ : ∃ a4, F1 n j' = a4 := ⟨_, rfl⟩
          rw [ha4] at z1 hi1 hst
          rw [← HPP.out] at hst
          have k0 : 0 ≤ a4 * s := Int.mul_nonneg hi1.1 hsr.1
          have k1 : a4 * s ≤ 4 * 4 := Int.mul_le_mul (by omega) hsr.2 hsr.1 (by omega)
          obtain ⟨K, hK⟩ : ∃ K, a4 * s = K := ⟨_, rfl⟩
          rw [hK] at k0 k1 hst
          have hKw : wrap64 (a4 * s) = K := by rw [hK]; exact IntWalk.wrap64_in _ ⟨by omega, by omega⟩
          have ht : K.tmod p = K % p := Int.tmod_eq_emod_of_nonneg k0
          have hr1 := emod_rng (x := K) hpr.1
          have S2 := S.put (J := P + j') (x := K % p) hBg (S.size HWB.out) (by unfold I64; omega) hst
          have HS2 := Lib.hid S2
          clear ha4 hK hst S2 S k0 k1 hr1 hi1
          go_wp2
          go_roundw
          case rel => exact ⟨j' + 1, by omega, by go_num, HS2.out⟩
          case measure => simp [intOf]; omega
         ·have hje : j' = j := by omega
          subst hje
          have S := S.congr (sc_end p n r j' s F1)
          have hin2 := inF_sc (s := s) (n := n) hpr.1 HIN1.out
          obtain ⟨F2, hF2⟩ : ∃ F2, scA p n s F1 = F2 := ⟨_, rfl⟩
          rw [hF2] at S hin2
          have hfin : Hid (rdF p r F n k = elA p n k F2) := by
           show _ = _
           rw [rdF, HZA.out, HF1.out, HX.out, HS.out, hF2]
          have HIN2 := Lib.hid hin2
          clear hF2 hin2
          rw [← el_0 p n k F2] at S
          have kb := KB.out.below (S).bel HB0.out
          have c0 := kb.cell' (i := 0) rfl
          have c1 := kb.cell' (i := 1) rfl
          have c2 := kb.cell' (i := 2) rfl
          go_wp2
          clear kb c0 c1 c2
          go_loopw [95] (fun i wr => ∃ i' : Nat, i' ≤ r ∧ i = .int .i64 i' ∧ RS W.heap.size w2 (some ⟨g, 0, none⟩) r j' L cap wr (elI p n k i' F2) (.slice PA n pc) ps) (fun i _ => r - (intOf i).toNat)
          case atStart => exact ⟨0, Nat.zero_le _, rfl, S⟩
          case round =>
           clear S
           obtain ⟨i, hi, rfl, S⟩ := hrel
           by_cases hl5 : i < r
           ·by_cases hin : i = n
            ·subst hin
             rw [el_skip] at S
             go_wp2
             go_roundw
             case rel => exact ⟨i + 1, by omega, by go_num, S⟩
             case measure => simp [intOf]; omega
            ·have hne : ((i : Int) != n) = true := by rw [bne_iff_ne]; omega
             have hine : ¬ ((i : Int) = n) := by omega
             obtain ⟨R, hR⟩ : ∃ R, R = i * j' := ⟨_, rfl⟩
             obtain ⟨a1, a2, a3⟩ := rowP hl5 hlt hr hc hR
             have hap := rows_apart hin hR HPP.out
             have HR := Lib.hid hR
             rw [← EL.out] at a1 a2 a3
             have hSS := Lib.hid S
             have hr5 := HIN2.out i k hl5 hlt
             obtain ⟨q, hq⟩ : ∃ q, F2 i k = q := ⟨_, rfl⟩
             rw [hq] at hr5
             have HQQ := Lib.hid hq
             have hamel := am_el (p := p) (n := n) (k := k) (i := i) (r := r) (c := j') F2 hnr hin
             rw [hq, ← EL.out, ← HR.out, ← HPP.out] at hamel
             have HAM := Lib.hid hamel
             have HNE := Lib.hid hin
             clear hR hq hamel hin S
             go_wp2
             refine wp_region_net (by kernel_rfl) [.eq (.int .i64 p), .eq (.agg #[.int .i64 r, .int .i64 j', .slice (some ⟨g, 0, none⟩) L cap]), .eq (.int .i64 i), .eq (.slice (some ⟨g, R, none⟩) j' (cap - R)), .eq (.int .i64 p), .eq (.agg #[.int .i64 r, .int .i64 j', .slice (some ⟨g, 0, none⟩) L cap]), .eq (.int .i64 i), .eq (.slice (some ⟨g, R, none⟩) j' (cap - R)), .eq (.int .i64 k), .eq (.pointer (some ⟨g, R + k, none⟩)), .eq (.int .i64 q), .eq (.int .i64 (p - q)), .eq (.slice (some ⟨g, P, none⟩) j' (cap - P))] [[], [], [], [1, 2], [], [], [], [1, 2, 3, 5, 6], [], [1, 2, 3, 5, 6, 7, 8], [1, 2, 3, 5, 6, 7, 8, 9], [1, 2, 3, 4, 5, 6, 7, 8, 9, 10], [], [0, 1, 2, 3, 4, 5, 6, 7, 8, 9, 10, 11, 12]] 13 (by kernel_rfl) ⟨trivial, trivial, trivial, trivial, trivial, trivial, trivial, trivial, trivial, trivial, trivial, trivial, trivial, trivial⟩ ⟨?_, ?_, ?_, ?_, ?_, ?_, ?_, ?_, ?_, ?_, ?_, ?_, ?_, trivial⟩ ?_
             ·intro x w hb hk Q' hQ
              clear hk
              simp only [netE] at hQ ⊢
              go_wp2
              exact hQ _ _ (Below.refl _ _) rfl
             ·intro x w hb hk Q' hQ
              clear hk
              simp only [netE] at hQ ⊢
              have S := hSS.out.call HWB.out hb
              have kb := KB.out.below (S).bel HB0.out
              have c0 := kb.cell' (i := 0) rfl
              have c1 := kb.cell' (i := 1) rfl
              have c2 := kb.cell' (i := 2) rfl
              go_wp2
              exact hQ _ _ (Below.refl _ _) rfl
             ·intro x w hb hk Q' hQ
              clear hk
              simp only [netE] at hQ ⊢
              go_wp2
              exact hQ _ _ (Below.refl _ _) rfl
             ·intro x w hb hk Q' hQ
              have h1 : x.v 1 = _ := (hk 1 (by decide)).1
              have h2 : x.v 2 = _ := (hk 2 (by decide)).1
              clear hk
              simp only [netE] at hQ ⊢
              simp only [h1, h2] at hQ ⊢
              clear h1 h2
              go_wp2_with fail
              refine (row_in _ hl5 (by omega) hr hc EL.out hLc hcb HR.out).mono ?_; rintro e w5 ⟨rfl, hb5⟩
              go_wp2
              exact hQ _ _ hb5 rfl
             ·intro x w hb hk Q' hQ
              clear hk
              simp only [netE] at hQ ⊢
              go_wp2
              exact hQ _ _ (Below.refl _ _) rfl
             ·intro x w hb hk Q' hQ
              clear hk
              simp only [netE] at hQ ⊢
              have S := hSS.out.call HWB.out hb
              have kb := KB.out.below (S).bel HB0.out
              have c0 := kb.cell' (i := 0) rfl
              have c1 := kb.cell' (i := 1) rfl
              have c2 := kb.cell' (i := 2) rfl
              go_wp2
              exact hQ _ _ (Below.refl _ _) rfl
             ·intro x w hb hk Q' hQ
              clear hk
              simp only [netE] at hQ ⊢
              go_wp2
              exact hQ _ _ (Below.refl _ _) rfl
             ·intro x w hb hk Q' hQ
              have h5 : x.v 5 = _ := (hk 5 (by decide)).1
              have h6 : x.v 6 = _ := (hk 6 (by decide)).1
              clear hk
              simp only [netE] at hQ ⊢
              simp only [h5, h6] at hQ ⊢
              clear h5 h6
              go_wp2_with fail
              refine (row_in _ hl5 (by omega) hr hc EL.out hLc hcb HR.out).mono ?_; rintro e w5 ⟨rfl, hb5⟩
              go_wp2
              exact hQ _ _ hb5 rfl
             ·intro x w hb hk Q' hQ
              clear hk
              simp only [netE] at hQ ⊢
              go_wp2
              exact hQ _ _ (Below.refl _ _) rfl
             ·intro x w hb hk Q' hQ
              have h7 : x.v 7 = _ := (hk 7 (by decide)).1
              have h8 : x.v 8 = _ := (hk 8 (by decide)).1
              clear hk
              simp only [netE] at hQ ⊢
              simp only [h7, h8] at hQ ⊢
              clear h7 h8
              go_wp2
              exact hQ _ _ (Below.refl _ _) rfl
             ·intro x w hb hk Q' hQ
              have h9 : x.v 9 = _ := (hk 9 (by decide)).1
              clear hk
              simp only [netE] at hQ ⊢
              simp only [h9] at hQ ⊢
              clear h9
              have S := hSS.out.call HWB.out hb
              have z := (S.cellP hl5 hlt HR.out).1
              rw [el_rest, HQQ.out] at z
              go_wp2
              exact hQ _ _ (Below.refl _ _) rfl
             ·intro x w hb hk Q' hQ
              have h4 : x.v 4 = _ := (hk 4 (by decide)).1
              have h10 : x.v 10 = _ := (hk 10 (by decide)).1
              clear hk
              simp only [netE] at hQ ⊢
              simp only [h4, h10] at hQ ⊢
              clear h4 h10
              go_wp2
              exact hQ _ _ (Below.refl _ _) rfl
             ·intro x w hb hk Q' hQ
              clear hk
              simp only [netE] at hQ ⊢
              go_wp2
              exact hQ _ _ (Below.refl _ _) rfl
             ·intro x w hb hk hiv hdj
              have h0 : x.v 0 = .int .i64 p := hk 0 (by decide)
              have h1 : x.v 1 = .agg #[.int .i64 r, .int .i64 j', .slice (some ⟨g, 0, none⟩) L cap] := hk 1 (by decide)
              have h2 : x.v 2 = .int .i64 i := hk 2 (by decide)
              have h3 : x.v 3 = .slice (some ⟨g, R, none⟩) j' (cap - R) := hk 3 (by decide)
              have h4 : x.v 4 = .int .i64 p := hk 4 (by decide)
              have h5 : x.v 5 = .agg #[.int .i64 r, .int .i64 j', .slice (some ⟨g, 0, none⟩) L cap] := hk 5 (by decide)
              have h6 : x.v 6 = .int .i64 i := hk 6 (by decide)
              have h7 : x.v 7 = .slice (some ⟨g, R, none⟩) j' (cap - R) := hk 7 (by decide)
              have h8 : x.v 8 = .int .i64 k := hk 8 (by decide)
              have h9 : x.v 9 = .pointer (some ⟨g, R + k, none⟩) := hk 9 (by decide)
              have h10 : x.v 10 = .int .i64 q := hk 10 (by decide)
              have h11 : x.v 11 = .int .i64 (p - q) := hk 11 (by decide)
              have h12 : x.v 12 = .slice (some ⟨g, P, none⟩) j' (cap - P) := hk 12 (by decide)
              clear hk
              simp only [netE]
              simp only [List.drop_succ_cons, List.drop_zero, h0, h1, h2, h3, h4, h5, h6, h7, h8, h9, h10, h11, h12]
              clear h0 h1 h2 h3 h4 h5 h6 h7 h8 h9 h10 h11 h12
              have S := hSS.out.call HWB.out hb
              have hown := S.own
              rw [rowF_flat, ← EL.out] at hown
              have hfr : ∀ z, z < L → 0 ≤ (fun j => elI p n k i F2 (j / j') (j % j')) z ∧ (fun j => elI p n k i F2 (j / j') (j % j')) z ≤ 4 := by
               intro z hz
               rw [EL.out] at hz
               obtain ⟨a, b, ha, hb', rfl⟩ := ix_of hz
               simp only [ix_div hb', ix_mod hb']
               have := inF_elI (n := n) (k := k) (i := i) hpr.1 HIN2.out a b ha hb'
               omega
              have HOW := Lib.hid hown
              have HFR := Lib.hid hfr
              have HS6 := Lib.hid S
              clear hown hfr S hiv hdj
              go_wp2_with fail
              refine (addMultiple_in p (p - q) g R P j' L cap (cap - R) (cap - P) W.heap.size (fun j => elI p n k i F2 (j / j') (j % j')) _ hpr (by omega) HOW.out a2 hrp.2.1 hap (by omega) (by omega) (by omega) HFR.out).mono ?_; rintro e w6 ⟨rfl, ho6, hg6⟩
              rw [HAM.out] at ho6
              have S7 := HS6.out.turn hBg (HS6.out.size HWB.out) ho6 hg6
              clear ho6 hg6
              go_wp2
              go_roundw
              case rel => exact ⟨i + 1, by omega, by go_num, S7⟩
              case measure => simp [intOf]; omega
           ·have hir : i = r := by omega
            subst hir
            have S := S.congr (el_end p n k i j' F2)
            rw [← hfin.out] at S
            have hS8 := S.call HWB.out (below_alloc wr (.cells #[.int .i64 k] 3))
            have hsz8 := hS8.size HWB.out
            have HS8 := Lib.hid hS8
            clear S hS8
            (go_wp2_with (at_builtin; refine Hold.stop ?_)); unfold Hold
            refine wpList_appI rfl (.tmp 117) (.tmp 119) rfl W.heap.size _ (.slice PA n pc) ps rfl HS8.out.ownP.1 _ _ _ [(k : Int)] rfl rfl (SlI.one wr _ k ⟨by omega, by omega⟩) (by rw [HN.out]; simp; omega) hsz8 ?_
            intro v9 w9 ho9 hg9 hv9
            have S9 := HS8.out.app hsz8 ho9 hg9 hv9
            clear ho9 hg9 hv9
            go_wp2
            go_roundw
            case rel => exact ⟨k + 1, by omega, by go_num, by rw [HRS2.out]; exact S9⟩
            case measure => simp [intOf]; omega
    ·have hae : a = r := by omega
     have HRS2 := Lib.hid (HRS.out.trans (if_neg (by rw [nzF_eq (f := F) (k := k) hna har hz.out (fun h => absurd h hlr)]; exact hlr)))
     subst hae
     clear hz
     go_wp2
     go_roundw
     case rel => exact ⟨k + 1, by omega, by go_num, by rw [HRS2.out]; exact S⟩
     case measure => simp [intOf]; omega
  ·have hkc : k = c := by omega
   have HKC := Lib.hid hkc
   have sz := SZ.out
   have sB := S.size HWB.out
   have k4 := KB.out.below S.bel HB0.out
   have k3' := KR.out.below S.bel (by omega)
   have z0 := k4.cell' (i := 0) rfl
   have z1 := k4.cell' (i := 1) rfl
   have z2 := k4.cell' (i := 2) rfl
   have p0 := k3'.cell' (i := 0) rfl
   have p1 := k3'.cell' (i := 1) rfl
   have p2 := k3'.cell' (i := 2) rfl
   have f2 := k3'.frozen
   have h2 := chg3 wr (w0.heap.size + 1) (.int .i64 (r : Int)) (.int .i64 c) (.slice A L cap)
   have gw : Below w0.heap.size w0 wr := (G2.out).trans (S.bel.mono (by omega))
   have gs := gw.size
   have hfl := HL.out
   have oA : IntsO wr W.heap.size wr.heap.size (.slice A L cap) (flat r c F) := S.fam.1 (_, flat r c F) (by simp)
   have oA2 := (oA.chg h2 (.inr (by omega))).wider (lo' := w0.heap.size) (hi' := wr.heap.size) (by omega) (Nat.le_refl _)
   have oP2 := (S.ownP.chg h2 (.inr (by omega))).wider (lo' := w0.heap.size) (hi' := wr.heap.size) (by omega) (Nat.le_refl _)
   have fg := gw.trans (h2.below (by omega) gs)
   have OA2 := Lib.hid oA2
   have OP2 := Lib.hid oP2
   have FG := Lib.hid fg
   clear oA oA2 oP2 fg gw h2 k3' k4 S hkc hfl
   go_wp2
   refine bodyPost_ret (v := .tuple #[.agg #[.int .i64 (r : Int), .int .i64 c, .slice A L cap], .slice PA n pc]) (by simp [results, go_sem, p0, p1, p2]) rfl ⟨_, _, rfl, ?_, ?_, FG.out⟩
   ·refine ⟨_, rfl, ?_, by simp only [I64]; omega, by simp only [I64]; omega⟩
    have e : flat r c (rdTo p r f c).1 = flat r c F := by rw [← HFF.out, HKC.out]
    rw [e]
    exact (OA2.out).wider (Nat.le_refl _) (by simp)
   ·have e : (rdTo p r f c).2 = ps := by rw [← HPS.out, HKC.out]
    rw [e]
    exact (OP2.out).wider (Nat.le_refl _) (by simp)
def rkF (p : Int) (r c : Nat) (f : Nat → Nat → Int) : Nat := (rdTo p r f c).2.length
theorem rkF_le (p : Int) (r c : Nat) (f : Nat → Nat → Int) : rkF p r c f ≤ r ∧ rkF p r c f ≤ c := rdTo_len p r f c
set_option maxHeartbeats 1600000 in
set_option maxRecDepth 100000 in
theorem implRank_any (p : Int) (u : Value) (r c : Nat) (f : Nat → Nat → Int) (w0 : World) (hp : isFld p = true) (hr : r ≤ 1000) (hc : c ≤ 1000) (hu : MxR w0 w0.heap.size u (mxF r c f)) (hf : InF p r c f) :
  Calls Tryz.prog 41 #[.int .i64 p, u] w0 fun e w' => e = .returned (.int .i64 (rkF p r c f : Int)) ∧ Below w0.heap.size w0 w' := by
 have hu' := hu
 obtain ⟨UA, uc, rfl⟩ := hu.form
 simp only [mxF] at hu hu' ⊢
 rw [flat_length] at hu hu' ⊢
 obtain ⟨UL, hUL⟩ : ∃ n, r * c = n := ⟨_, rfl⟩
 rw [hUL] at hu hu' ⊢
 clear hUL hu
 obtain ⟨W, hW⟩ : ∃ W, W = w0.alloc (.cells #[.int .i64 r, .int .i64 c, .slice UA UL uc] 44) := ⟨_, rfl⟩
 have g0 : Below w0.heap.size w0 W := by rw [hW]; exact below_alloc _ _
 have kB : Blk W w0.heap.size 44 #[.int .i64 r, .int .i64 c, .slice UA UL uc] := by rw [hW]; exact Blk.new _ _ _
 have HU := Lib.hid (MxR.next g0 hu')
 have HF := Lib.hid hf
 have HP := Lib.hid hp
 have c0 := kB.cell' (i := 0) rfl
 have c1 := kB.cell' (i := 1) rfl
 have c2 := kB.cell' (i := 2) rfl
 clear hu' hf hp kB
 go_enter Tryz.func41, Tryz.ntmps41
 go_wp2_with fail
 rw [← hW]; clear hW
 refine (implReduce_any p _ r c f _ HP.out hr hc HU.out HF.out).mono ?_; rintro e w1 ⟨m, v, rfl, hM, hI, hb1⟩
 obtain ⟨MA, mc, em⟩ := hM.form
 obtain ⟨PA, pc, ev⟩ := hI.form
 subst em ev
 have g1 := bthen g0 hb1
 simp only [mxF]
 obtain ⟨rk, hrk⟩ : ∃ rk, rkF p r c f = rk := ⟨_, rfl⟩
 have hrk2 := hrk
 unfold rkF at hrk2
 rw [hrk2]
 have HRK := Lib.hid hrk
 clear hM hI hb1 g0 c0 c1 c2 hrk hrk2
 go_wp2
 go_ret
 exact ⟨by rw [HRK.out]; rfl, g1.alloc g1.size _⟩
structure Rd (r : Nat) (g : Nat → Nat → Int) (ps : List Int) (k : Nat) : Prop where
 pos : ∀ j, j < ps.length → ∃ b : Nat, ps[j]? = some (b : Int) ∧ b < k ∧ ∀ i, i < r → g i b = if i = j then 1 else 0
 low : ∀ i b, ps.length ≤ i → i < r → b < k → g i b = 0
def can (p : Nat) (k : Nat) (v : Nat → Int) : List Int := (List.range k).map fun b => v b % (p : Int)
def dmN (d : List Int) (v : Nat) : Nat := (d.getD v 0).toNat
theorem dmN_of {d : List Int} {v n : Nat} (h : d[v]? = some (n : Int)) : dmN d v = n := by simp [dmN, List.getD_eq_getElem?_getD, h]
def hOff (x y : List Int) : Nat → Nat
 | 0 => 0
 | v + 1 => hOff x y v + dmN y v * dmN x v
def srN (q : Qv) (k : Nat) : Nat := (q.f.getD k 0).toNat
def tgN (q : Qv) (k : Nat) : Nat := (q.t.getD k 0).toNat
theorem srN_of {q : Qv} {k n : Nat} (h : q.f[k]? = some (n : Int)) : srN q k = n := by simp [srN, List.getD_eq_getElem?_getD, h]
theorem tgN_of {q : Qv} {k n : Nat} (h : q.t[k]? = some (n : Int)) : tgN q k = n := by simp [tgN, List.getD_eq_getElem?_getD, h]
def arF (x : Rp) (k : Nat) : Nat → Nat → Int := entry (x.m.getD k mx0).a (dmN x.d (srN x.q k))
def hInd (a b : Nat) : Int := if a = b then 1 else 0
theorem hInd_rng (a b : Nat) : 0 ≤ hInd a b ∧ hInd a b ≤ 1 := by unfold hInd; split <;> omega
def eqS (x y : Rp) (k r c j n : Nat) : Int := sgF (fun s => arF y k r s * hInd (hOff x.d y.d (srN x.q k) + s * dmN x.d (srN x.q k) + c) j) n
def eqT (x y : Rp) (k r c j n : Nat) : Int := sgF (fun s => arF x k s c * hInd (hOff x.d y.d (tgN x.q k) + r * dmN x.d (tgN x.q k) + s) j) n
def eqE (x y : Rp) (k r c j : Nat) : Int := (eqS x y k r c j (dmN y.d (srN x.q k)) - eqT x y k r c j (dmN x.d (tgN x.q k))) % x.p
def eqRw (x y : Rp) (n k : Nat) : List (List Int) := rowsF (dmN y.d (tgN x.q k) * dmN x.d (srN x.q k)) n (fun i => eqE x y k (i / dmN x.d (srN x.q k)) (i % dmN x.d (srN x.q k)))
def eqL (x y : Rp) (n : Nat) : Nat → List (List Int)
 | 0 => []
 | k + 1 => eqL x y n k ++ eqRw x y n k
theorem eqL_mem {x y : Rp} {n K : Nat} {l : List Int} (h : l ∈ eqL x y n K) : l.length = n ∧ ∃ k r c, l = rowF n (eqE x y k r c) := by
 induction K with
 | zero => simp [eqL] at h
 | succ K ih =>
  simp only [eqL, List.mem_append] at h
  rcases h with h | h
  ·exact ih h
  ·simp only [eqRw, rowsF, List.mem_map, List.mem_range] at h
   obtain ⟨i, _, rfl⟩ := h
   exact ⟨rowF_length _ _, _, _, _, rfl⟩
def hmN (x y : Rp) : Nat := hOff x.d y.d x.d.length
def eqR (x y : Rp) : Nat := (eqL x y (hmN x y) x.q.f.length).length
def lsF (L : List (List Int)) (i j : Nat) : Int := (L.getD i []).getD j 0
def eqG (x y : Rp) : Nat → Nat → Int := lsF (eqL x y (hmN x y) x.q.f.length)
theorem lsF_col (L : List (List Int)) (a : Nat) : rowF L.length (fun i => lsF L i a) = L.map fun l => l.getD a 0 := by
 refine List.ext_getElem? fun i => ?_
 by_cases hi : i < L.length
 ·rw [rowF_get _ hi, List.getElem?_map, List.getElem?_eq_getElem hi]
  simp [lsF, List.getD_eq_getElem?_getD, hi]
 ·rw [List.getElem?_eq_none (by rw [rowF_length]; omega), List.getElem?_eq_none (by rw [List.length_map]; omega)]
def cbF (x y : Rp) (F : Nat → Nat → Nat → Int) (k : Nat) : Nat → Nat → Int :=
 plF x.p (x.p - 1) (muP x.p (dmN y.d (srN x.q k)) (arF y k) (F (srN x.q k))) (muP x.p (dmN x.d (tgN x.q k)) (F (tgN x.q k)) (arF x k))
def cbL (x y : Rp) (F : Nat → Nat → Nat → Int) (K : Nat) : List Mx := (List.range K).map fun k => mxF (dmN y.d (tgN x.q k)) (dmN x.d (srN x.q k)) (cbF x y F k)
def flM (ms : List Mx) : List Int := (ms.map Mx.a).flatten
theorem flM_app (a b : List Mx) : flM (a ++ b) = flM a ++ flM b := by simp [flM]
theorem flM_one (m : Mx) : flM [m] = m.a := by simp [flM]
theorem flM_length (ms : List Mx) : (flM ms).length = totA ms := by simp [flM, totA, tot, List.length_flatten]
theorem totA_app (a b : List Mx) : totA (a ++ b) = totA a + totA b := by simp [totA, tot]
theorem totA_one (m : Mx) : totA [m] = m.a.length := by simp [totA, tot]
theorem cbL_succ (x y : Rp) (F : Nat → Nat → Nat → Int) (K : Nat) : cbL x y F (K + 1) = cbL x y F K ++ [mxF (dmN y.d (tgN x.q K)) (dmN x.d (srN x.q K)) (cbF x y F K)] := by simp [cbL, List.range_succ]
theorem cbL_length (x y : Rp) (F : Nat → Nat → Nat → Int) (K : Nat) : (cbL x y F K).length = K := by simp [cbL]
def uF (x y : Rp) (j v s t : Nat) : Int := hInd (hOff x.d y.d v + s * dmN x.d v + t) j
theorem sub_modP {p : Int} (a b : Int) : (a % p + (p - 1) * (b % p)) % p = (a - b) % p := by
 have e1 := Int.emod_def a p
 have e2 := Int.emod_def b p
 rw [show a % p + (p - 1) * (b % p) = (a - b) + p * (-(a / p) + b % p + b / p) by rw [e1, e2]; grind, Int.add_mul_emod_self_left]
theorem sgF_congr {h g : Nat → Int} : ∀ {n : Nat}, (∀ i, i < n → h i = g i) → sgF h n = sgF g n
 | 0, _ => rfl
 | n + 1, e => by simp only [sgF]; rw [sgF_congr fun i hi => e i (by omega), e n (by omega)]
theorem cb_unit (x y : Rp) (j k r c : Nat) : cbF x y (uF x y j) k r c = eqE x y k r c j := by
 simp only [cbF, plF, muP, eqE]
 rw [sub_modP]
 congr 2
 exact sgF_congr fun i _ => Int.mul_comm _ _
theorem eq_col (x y : Rp) (n a : Nat) (ha : a < n) : ∀ K, (eqL x y n K).map (fun l => l.getD a 0) = flM (cbL x y (uF x y a) K)
 | 0 => rfl
 | K + 1 => by
  rw [eqL, List.map_append, eq_col x y n a ha K, cbL_succ, flM_app, flM_one]
  congr 1
  simp only [eqRw, rowsF, mxF, flat, List.map_map]
  refine List.map_congr_left fun i _ => ?_
  rw [Function.comp, rowF_getD _ ha, cb_unit]
theorem eqG_col (x y : Rp) (a : Nat) (ha : a < hmN x y) : rowF (eqR x y) (fun i => eqG x y i a) = flM (cbL x y (uF x y a) x.q.f.length) := by
 rw [eqR, eqG, lsF_col, eq_col x y _ a ha]
theorem eqG_inF {x : Rp} (y : Rp) (hp : 2 ≤ x.p) : InF x.p (eqR x y) (hmN x y) (eqG x y) := by
 intro a b ha hb
 have h1 : (eqL x y (hmN x y) x.q.f.length)[a]? = some (eqL x y (hmN x y) x.q.f.length)[a] := List.getElem?_eq_getElem ha
 obtain ⟨_, k, r, c, e⟩ := eqL_mem (List.mem_of_getElem? h1)
 rw [e] at h1
 have h2 : (eqL x y (hmN x y) x.q.f.length).getD a [] = rowF (hmN x y) (eqE x y k r c) := by rw [List.getD_eq_getElem?_getD, h1]; rfl
 have : eqG x y a b = eqE x y k r c b := by rw [eqG, lsF, h2, rowF_getD _ hb]
 rw [this, eqE]
 exact emod_rng hp
def shL : List Mx → List Int → List Mx
 | [], _ => []
 | m :: ms, cs => ⟨m.r, m.c, cs.take m.a.length⟩ :: shL ms (cs.drop m.a.length)
theorem shL_snoc : ∀ (ms : List Mx) (m : Mx) (cs : List Int), shL (ms ++ [m]) cs = shL ms cs ++ [⟨m.r, m.c, (cs.drop (totA ms)).take m.a.length⟩]
 | [], m, cs => by simp [shL, totA, tot]
 | a :: ms, m, cs => by
  simp only [List.cons_append, shL, shL_snoc ms m, List.drop_drop]
  have : totA (a :: ms) = a.a.length + totA ms := by simp [totA, tot]
  rw [this]
theorem shL_length : ∀ (ms : List Mx) (cs : List Int), (shL ms cs).length = ms.length
 | [], _ => rfl
 | m :: ms, cs => by simp [shL, shL_length ms]
def zrL (x y : List Int) (V : Nat) : List Mx := (List.range V).map fun v => mxF (dmN y v) (dmN x v) fun _ _ => 0
theorem zrL_succ (x y : List Int) (V : Nat) : zrL x y (V + 1) = zrL x y V ++ [mxF (dmN y V) (dmN x V) fun _ _ => 0] := by simp [zrL, List.range_succ]
theorem zrL_length (x y : List Int) (V : Nat) : (zrL x y V).length = V := by simp [zrL]
theorem zrL_tot (x y : List Int) : ∀ V, totA (zrL x y V) = hOff x y V
 | 0 => rfl
 | V + 1 => by rw [zrL_succ, totA_app, zrL_tot x y V, totA_one, mxF, flat_length, hOff]
def shF (x y : List Int) (e : Nat → Int) (V : Nat) : List Mx := (List.range V).map fun v => mxF (dmN y v) (dmN x v) fun s t => e (hOff x y v + s * dmN x v + t)
theorem shF_succ (x y : List Int) (e : Nat → Int) (V : Nat) : shF x y e (V + 1) = shF x y e V ++ [mxF (dmN y V) (dmN x V) fun s t => e (hOff x y V + s * dmN x V + t)] := by simp [shF, List.range_succ]
theorem rowF_part (n o k : Nat) (e : Nat → Int) (h : o + k ≤ n) : ((rowF n e).drop o).take k = rowF k fun i => e (o + i) := by
 refine List.ext_getElem? fun i => ?_
 by_cases hi : i < k
 ·rw [List.getElem?_take_of_lt hi, List.getElem?_drop, rowF_get _ (by omega), rowF_get _ hi]
 ·rw [List.getElem?_eq_none (by rw [List.length_take]; omega), List.getElem?_eq_none (by rw [rowF_length]; omega)]
theorem shL_zr (x y : List Int) (n : Nat) (e : Nat → Int) : ∀ V, hOff x y V ≤ n → shL (zrL x y V) (rowF n e) = shF x y e V
 | 0, _ => rfl
 | V + 1, h => by
  simp only [hOff] at h
  rw [zrL_succ, shL_snoc, shL_zr x y n e V (by omega), zrL_tot, shF_succ]
  congr 2
  simp only [mxF, flat_length]
  rw [rowF_part _ _ _ _ h]
  congr 1
  rw [flat, rowF]
  refine List.map_congr_left fun i _ => ?_
  by_cases hc : dmN x V = 0
  ·rename_i hi
   rw [List.mem_range, hc, Nat.mul_zero] at hi
   omega
  ·congr 1
   rw [Nat.add_assoc, Nat.mul_comm (i / dmN x V), Nat.div_add_mod]
def unitE (j : Nat) (i : Nat) : Int := hInd i j
theorem unit_row (n j : Nat) : (List.replicate n (0 : Int)).set j 1 = rowF n (unitE j) := by
 have : List.replicate n (0 : Int) = rowF n fun _ => 0 := by rw [rowF, List.map_const', List.length_range]
 rw [this, rowF_set]
 exact rowF_congr fun a _ => by simp [unitE, hInd]
theorem getD_set {α : Type} (L : List α) (n : Nat) (x d : α) (a : Nat) : (L.set n x).getD a d = if a = n ∧ n < L.length then x else L.getD a d := by
 rw [List.getD_eq_getElem?_getD, List.getElem?_set, List.getD_eq_getElem?_getD]
 by_cases h : n = a
 ·subst h
  rw [if_pos rfl]
  by_cases h2 : n < L.length
  ·rw [if_pos h2, if_pos ⟨rfl, h2⟩]; rfl
  ·rw [if_neg h2, if_neg (fun h => h2 h.2), List.getElem?_eq_none (by omega)]
 ·rw [if_neg h, if_neg (fun e => h e.1.symm)]
def swL (n t : Nat) (L : List (List Int)) : List (List Int) := (L.set n (L.getD t [])).set t (L.getD n [])
def scL (p : Int) (n : Nat) (s : Int) (L : List (List Int)) : List (List Int) := L.set n ((L.getD n []).map fun x => x * s % p)
def elR (p : Int) (pv : List Int) (m : Int) (row : List Int) : List Int := List.zipWith (fun x y => (x + (p - m) * y) % p) row pv
def elG (p : Int) (k n : Nat) (pv : List Int) : Nat → List (List Int) → List (List Int)
 | _, [] => []
 | a, row :: r => (if a = n then pv else elR p pv (row.getD k 0) row) :: elG p k n pv (a + 1) r
def nzL (k : Nat) : Nat → List (List Int) → Nat
 | a, [] => a
 | a, row :: r => if row.getD k 0 = 0 then nzL k (a + 1) r else a
def stL (p : Int) (k n t : Nat) (L : List (List Int)) : List (List Int) :=
 (fun M2 => elG p k n (M2.getD n []) 0 M2) ((fun M => scL p n (invP p ((M.getD n []).getD k 0)) M) (swL n t L))
def rdS (p : Int) (k : Nat) : List (List Int) × Nat → List (List Int) × Nat
 | (L, n) => if nzL k n (L.drop n) < L.length then (stL p k n (nzL k n (L.drop n)) L, n + 1) else (L, n)
def rdL (p : Int) (L : List (List Int)) : Nat → List (List Int) × Nat
 | 0 => (L, 0)
 | k + 1 => rdS p k (rdL p L k)
def rkL (p : Int) (L : List (List Int)) (c : Nat) : Nat := (rdL p L c).2
theorem map_g0 {g : Int → Int} (h0 : g 0 = 0) (l : List Int) (b : Nat) : (l.map g).getD b 0 = g (l.getD b 0) := by
 rw [List.getD_eq_getElem?_getD, List.getElem?_map, List.getD_eq_getElem?_getD]
 cases l[b]? with
 | none => exact h0.symm
 | some x => rfl
theorem elR_get {p m : Int} {pv row : List Int} (h : row.length = pv.length) (b : Nat) : (elR p pv m row).getD b 0 = (row.getD b 0 + (p - m) * pv.getD b 0) % p := by
 rw [elR, List.getD_eq_getElem?_getD, List.getElem?_zipWith, List.getD_eq_getElem?_getD, List.getD_eq_getElem?_getD]
 by_cases hb : b < row.length
 ·rw [List.getElem?_eq_getElem hb, List.getElem?_eq_getElem (h ▸ hb)]; rfl
 ·rw [List.getElem?_eq_none (by omega), List.getElem?_eq_none (by omega)]
  simp
theorem elG_length (p : Int) (k n : Nat) (pv : List Int) : ∀ (L : List (List Int)) a, (elG p k n pv a L).length = L.length
 | [], _ => rfl
 | row :: r, a => by rw [elG, List.length_cons, elG_length p k n pv r, List.length_cons]
theorem elG_get (p : Int) (k n : Nat) (pv : List Int) : ∀ (L : List (List Int)) (a i : Nat), i < L.length → (elG p k n pv a L).getD i [] = if a + i = n then pv else elR p pv ((L.getD i []).getD k 0) (L.getD i [])
 | row :: r, a, 0, _ => by simp [elG]
 | row :: r, a, i + 1, h => by
  have := elG_get p k n pv r (a + 1) i (by simpa using h)
  rw [elG, List.getD_cons_succ, this, List.getD_cons_succ, show a + 1 + i = a + (i + 1) by omega]
theorem elG_rows {p : Int} {k n c : Nat} {pv : List Int} (hp : pv.length = c) : ∀ (L : List (List Int)) a, (∀ l ∈ L, l.length = c) → ∀ l ∈ elG p k n pv a L, l.length = c
 | [], _, _, l, hl => by simp [elG] at hl
 | row :: r, a, h, l, hl => by
  rw [elG] at hl
  rcases List.mem_cons.1 hl with rfl | hl
  ·split
   ·exact hp
   ·rw [elR, List.length_zipWith, h row (by simp), hp]; omega
  ·exact elG_rows hp r (a + 1) (fun x hx => h x (by simp [hx])) l hl
theorem nzL_go (f : Nat → Nat → Int) (k : Nat) : ∀ (M : List (List Int)) (a : Nat), (∀ i, i < M.length → f (a + i) k = (M.getD i []).getD k 0) → nzL k a M = nzGo f k a M.length
 | [], a, _ => rfl
 | row :: r, a, h => by
  have h0 := h 0 (by simp)
  rw [Nat.add_zero, List.getD_cons_zero] at h0
  rw [nzL, List.length_cons, nzGo, h0]
  split
  ·exact nzL_go f k r (a + 1) fun i hi => by
    have := h (i + 1) (by simpa using hi)
    rw [List.getD_cons_succ] at this
    rw [← this]; congr 1; omega
  ·rfl
theorem row_len {L : List (List Int)} {c i : Nat} (h : ∀ l ∈ L, l.length = c) (hi : i < L.length) : (L.getD i []).length = c := by
 rw [List.getD_eq_getElem?_getD, List.getElem?_eq_getElem hi]
 exact h _ (List.getElem_mem hi)
theorem set_rows {L : List (List Int)} {c n : Nat} {x : List Int} (h : ∀ l ∈ L, l.length = c) (hx : x.length = c) : ∀ l ∈ L.set n x, l.length = c := fun l hl => by
 rcases List.mem_or_eq_of_mem_set hl with h1 | rfl
 ·exact h l h1
 ·exact hx
theorem lsF_sw {L : List (List Int)} {n t : Nat} (hn : n < L.length) (ht : t < L.length) (a b : Nat) : lsF (swL n t L) a b = swA n t (lsF L) a b := by
 simp only [lsF, swL, swA, getD_set, List.length_set]
 by_cases h1 : a = t
 ·subst h1
  rw [if_pos ⟨rfl, ht⟩]
  by_cases h2 : a = n
  ·subst h2; rw [if_pos rfl]
  ·rw [if_neg h2, if_pos rfl]
 ·rw [if_neg fun h => h1 h.1]
  by_cases h2 : a = n
  ·rw [if_pos ⟨h2, hn⟩, if_pos h2]
  ·rw [if_neg fun h => h2 h.1, if_neg h2, if_neg h1]
theorem lsF_sc {L : List (List Int)} {n : Nat} (hn : n < L.length) (p s : Int) (a b : Nat) : lsF (scL p n s L) a b = scA p n s (lsF L) a b := by
 simp only [lsF, scL, scA, getD_set]
 by_cases h : a = n
 ·subst h
  rw [if_pos ⟨rfl, hn⟩, if_pos rfl, map_g0 (by simp)]
 ·rw [if_neg fun e => h e.1, if_neg h]
theorem stL_spec {p : Int} {k n t c : Nat} {L : List (List Int)} (hL : ∀ l ∈ L, l.length = c) (hn : n < L.length) (ht : t < L.length) :
  (stL p k n t L).length = L.length ∧ (∀ l ∈ stL p k n t L, l.length = c) ∧ ∀ a, a < L.length → ∀ b, lsF (stL p k n t L) a b = elA p n k (scA p n (invP p (swA n t (lsF L) n k)) (swA n t (lsF L))) a b := by
 obtain ⟨M, hM⟩ : ∃ M, swL n t L = M := ⟨_, rfl⟩
 have m1 : M.length = L.length := by rw [← hM]; simp [swL]
 have m2 : ∀ l ∈ M, l.length = c := by rw [← hM]; exact set_rows (set_rows hL (row_len hL ht)) (row_len hL hn)
 have m3 : ∀ a b, lsF M a b = swA n t (lsF L) a b := fun a b => by rw [← hM, lsF_sw hn ht]
 obtain ⟨M2, hM2⟩ : ∃ M2, scL p n (invP p ((M.getD n []).getD k 0)) M = M2 := ⟨_, rfl⟩
 have k1 : M2.length = L.length := by rw [← hM2]; simp [scL, m1]
 have k2 : ∀ l ∈ M2, l.length = c := by rw [← hM2]; exact set_rows m2 (by rw [List.length_map]; exact row_len m2 (by omega))
 have k3 : ∀ a b, lsF M2 a b = scA p n (invP p (swA n t (lsF L) n k)) (swA n t (lsF L)) a b := fun a b => by
  rw [← hM2, lsF_sc (by omega), show (M.getD n []).getD k 0 = lsF M n k from rfl, m3]
  simp only [scA, m3]
 have e : stL p k n t L = elG p k n (M2.getD n []) 0 M2 := by
  show elG p k n ((scL p n (invP p (((swL n t L).getD n []).getD k 0)) (swL n t L)).getD n []) 0 (scL p n (invP p (((swL n t L).getD n []).getD k 0)) (swL n t L)) = _
  rw [hM, hM2]
 rw [e]
 refine ⟨by rw [elG_length, k1], elG_rows (row_len k2 (by omega)) M2 0 k2, fun a ha b => ?_⟩
 have hg := elG_get p k n (M2.getD n []) M2 0 a (by omega)
 rw [Nat.zero_add] at hg
 rw [lsF, hg, elA]
 have k3' : ∀ a b, (M2.getD a []).getD b 0 = scA p n (invP p (swA n t (lsF L) n k)) (swA n t (lsF L)) a b := k3
 by_cases h : a = n
 ·subst h
  rw [if_pos rfl, if_neg (fun h => h rfl), k3']
 ·rw [if_neg h, if_pos h, elR_get (by rw [row_len k2 (by omega), row_len k2 (by omega)]), k3', k3', k3']
theorem rdL_spec {p : Int} {c : Nat} {L : List (List Int)} (hL : ∀ l ∈ L, l.length = c) : ∀ k,
  (rdL p L k).1.length = L.length ∧ (∀ l ∈ (rdL p L k).1, l.length = c) ∧ (∀ a, a < L.length → ∀ b, lsF (rdL p L k).1 a b = (rdTo p L.length (lsF L) k).1 a b) ∧ (rdL p L k).2 = (rdTo p L.length (lsF L) k).2.length
 | 0 => ⟨rfl, hL, fun _ _ _ => rfl, rfl⟩
 | k + 1 => by
  obtain ⟨h1, h2, h3, h4⟩ := rdL_spec (p := p) hL k
  obtain ⟨hl, _⟩ := rdTo_len p L.length (lsF L) k
  obtain ⟨⟨M, n⟩, hs⟩ : ∃ s, rdL p L k = s := ⟨_, rfl⟩
  obtain ⟨⟨f, piv⟩, hf⟩ : ∃ s, rdTo p L.length (lsF L) k = s := ⟨_, rfl⟩
  rw [hs, hf] at h3 h4
  rw [hs] at h1 h2
  rw [hf] at hl
  simp only at h1 h2 h3 h4 hl
  subst h4
  have hnz : nzL k piv.length (M.drop piv.length) = nzF f k piv.length L.length := by
   rw [nzF, nzL_go f k _ _ fun i hi => ?_, List.length_drop, h1]
   rw [List.length_drop] at hi
   have e : (M.drop piv.length).getD i [] = M.getD (piv.length + i) [] := by rw [List.getD_eq_getElem?_getD, List.getElem?_drop, ← List.getD_eq_getElem?_getD]
   rw [← h3 _ (by omega), lsF, e]
  rw [rdL, hs, rdS, hnz, h1, rdTo, hf]
  simp only
  by_cases ht : nzF f k piv.length L.length < L.length
  ·rw [if_pos ht, if_pos ht]
   have hle := nzF_le (f := f) (k := k) hl
   obtain ⟨s1, s2, s3⟩ := stL_spec (p := p) (k := k) (n := piv.length) (t := nzF f k piv.length L.length) h2 (by omega) (by omega)
   refine ⟨by rw [s1, h1], s2, fun a ha b => ?_, by simp⟩
   rw [s3 a (by omega) b]
   have sw : ∀ a, a < L.length → ∀ b, swA piv.length (nzF f k piv.length L.length) (lsF M) a b = swA piv.length (nzF f k piv.length L.length) f a b := fun a ha b => by
    unfold swA
    rw [h3 _ ht, h3 _ (by omega), h3 _ ha]
   have sc : ∀ a, a < L.length → ∀ b, scA p piv.length (invP p (swA piv.length (nzF f k piv.length L.length) (lsF M) piv.length k)) (swA piv.length (nzF f k piv.length L.length) (lsF M)) a b = scA p piv.length (invP p (swA piv.length (nzF f k piv.length L.length) f piv.length k)) (swA piv.length (nzF f k piv.length L.length) f) a b := fun a ha b => by
    unfold scA
    rw [sw a ha, sw _ (by omega)]
   unfold rdF elA
   rw [sc a ha, sc a ha, sc _ (by omega)]
  ·rw [if_neg ht, if_neg ht]
   exact ⟨h1, h2, h3, rfl⟩
theorem rkF_ls {p : Int} {c : Nat} {L : List (List Int)} (hL : ∀ l ∈ L, l.length = c) : rkF p L.length c (lsF L) = rkL p L c := by
 rw [rkF, rkL, (rdL_spec hL c).2.2.2]
theorem MatsO.wider {w : World} {lo hi lo' hi' : Nat} {v : Value} {ms : List Mx} (h : MatsO w lo hi v ms) (h1 : lo' ≤ lo) (h2 : hi ≤ hi') : MatsO w lo' hi' v ms := by
 obtain ⟨vs, a, b, c, d⟩ := h
 exact ⟨vs, a.mono h1 h2, b, c.mono h1 h2, d⟩
theorem MatsO.nil (w : World) (lo hi : Nat) : MatsO w lo hi (.slice none 0 0) [] := ⟨[], RowO.nil _ _ _ _, rfl, ⟨fun p hp => by simp at hp, by simp⟩, by simp⟩
theorem MatsO.form2 {w : World} {lo hi : Nat} {v : Value} {ms : List Mx} (h : MatsO w lo hi v ms) : ∃ A c, v = .slice A ms.length c ∧ ms.length ≤ c ∧ c ≤ 9223372036854775807 := by
 obtain ⟨vs, a, b, c, d⟩ := h
 exact RowO.form a
theorem wpList_appMats {w : World} {ops : Array Oper} {rest : List Oper} {o : Oper} {a : Act} {Q : Exit → Act → World → Prop} (hgd : o.guard = none) (s x : Operand)
  (ho : o.op = .call { callee := .builtin .append, args := #[s, x], argTypes := #[29, 29] })
  (lo hi : Nat) (v : Value) (ms : List Mx) (hs : a.eval s = v) (hown : MatsO w lo hi v ms) (g c l1 h1 : Nat) (m : Mx) (u : Value) (hx : a.eval x = .slice (some ⟨g, 0, none⟩) 1 c) (hg : Blk w g 44 #[.int .i64 m.r, .int .i64 m.c, u]) (hu : IntsO w l1 h1 u m.a) (hI : I64 m.r ∧ I64 m.c)
  (hd : hi ≤ l1) (hl : lo ≤ hi) (hh : h1 ≤ w.heap.size) (hw : hi ≤ w.heap.size) (hn : ms.length ≤ 1000000)
  (h : ∀ v' w', MatsO w' lo w'.heap.size v' (ms ++ [m]) → AppT 44 lo w w' → wpList Tryz.prog ops Q rest (a.put o.dst v') w') : wpList Tryz.prog ops Q (o :: rest) a w := by
 obtain ⟨vs, hO, hvl, hF, hI2⟩ := hown
 refine wpList_appM hgd s x ho lo hi v vs ms hs hO hvl g c m u hx hg hu.cell hn (by omega) fun v' w' k1 k2 => h v' w' ⟨vs ++ [u], k1, by simp [hvl], ?_, ?_⟩ k2
 ·have hF3 : Fam w lo w.heap.size (vs.zip (ms.map Mx.a) ++ [(u, m.a)]) := hF.snoc (hu.wider hd hh) hl hw
  have hF4 := (hF3.appT (by decide) k2).mono (Nat.le_refl lo) k2.size
  rw [List.map_append, List.zip_append (by rw [List.length_map, hvl])]
  exact hF4
 ·intro y hy
  rcases List.mem_append.1 hy with hy | hy
  ·exact hI2 y hy
  ·rw [List.mem_singleton] at hy
   subst hy
   exact hI
theorem MatsO.at_ {w : World} {lo hi k : Nat} {v : Value} {ms : List Mx} (h : MatsO w lo hi v ms) (hk : k < ms.length) : ∃ b o m A' c' A c, v = .slice A ms.length c ∧ A = some ⟨b, o, none⟩ ∧ b < w.heap.size ∧ Hid (ms[k]? = some m) ∧ w.cell? ⟨b, o + k * 3, none⟩ = some (.int .i64 m.r) ∧ w.cell? ⟨b, o + k * 3 + 1, none⟩ = some (.int .i64 m.c) ∧ w.cell? ⟨b, o + k * 3 + 2, none⟩ = some (.slice A' m.a.length c') ∧ SlI w w.heap.size (.slice A' m.a.length c') m.a := by
 obtain ⟨A, c, rfl, _, _⟩ := h.form2
 obtain ⟨b, o, m, A', c', h1, h2, h3, h4, h5, h6, h7, _⟩ := SlM.at_ h.rd hk
 exact ⟨b, o, m, A', c', A, c, rfl, h1, h2, h3, h4, h5, h6, h7⟩
structure Fit2 (x y : Rp) : Prop where
 hx : isRep x = true
 hy : isRep y = true
 hp : x.p = y.p
 hq : x.q = y.q
theorem Fit2.len {x y : Rp} (h : Fit2 x y) : y.d.length = x.d.length ∧ x.d.length ≤ 5 := by
 have h1 := (areDims_t.1 (isRep_t.1 h.hx).2.1)
 have h2 := (areDims_t.1 (isRep_t.1 h.hy).2.1)
 have h3 := isQ_t.1 h1.1
 rw [← h.hq] at h2
 omega
theorem Fit2.dim {x y : Rp} (h : Fit2 x y) {k : Nat} (hk : k < x.d.length) : x.d[k]? = some (dmN x.d k : Int) ∧ y.d[k]? = some (dmN y.d k : Int) ∧ dmN x.d k ≤ 4 ∧ dmN y.d k ≤ 4 := by
 have one : ∀ (d : List Int), (∀ e ∈ d, 0 ≤ e ∧ e ≤ 4) → k < d.length → d[k]? = some (dmN d k : Int) ∧ dmN d k ≤ 4 := by
  intro d hd hl
  have e := List.getElem?_eq_getElem hl
  have := hd _ (List.mem_of_getElem? e)
  rw [dmN, List.getD_eq_getElem?_getD, e, Option.getD_some]
  exact ⟨by congr 1; omega, by omega⟩
 have h1 := one x.d (areDims_t.1 (isRep_t.1 h.hx).2.1).2.2.1 hk
 have h2 := one y.d (areDims_t.1 (isRep_t.1 h.hy).2.1).2.2.1 (by have := h.len; omega)
 exact ⟨h1.1, h2.1, h1.2, h2.2⟩
theorem Fit2.p2 {x y : Rp} (h : Fit2 x y) : 2 ≤ x.p ∧ x.p ≤ 5 := isFld_r (isRep_t.1 h.hx).1
theorem Fit2.arr {x y : Rp} (h : Fit2 x y) {k : Nat} (hk : k < x.q.f.length) : x.q.f[k]? = some (srN x.q k : Int) ∧ x.q.t[k]? = some (tgN x.q k : Int) ∧ srN x.q k < x.d.length ∧ tgN x.q k < x.d.length ∧ k < x.q.t.length ∧
  x.m[k]? = some (mxF (dmN x.d (tgN x.q k)) (dmN x.d (srN x.q k)) (arF x k)) ∧ y.m[k]? = some (mxF (dmN y.d (tgN x.q k)) (dmN y.d (srN x.q k)) (arF y k)) ∧
  InF x.p (dmN x.d (tgN x.q k)) (dmN x.d (srN x.q k)) (arF x k) ∧ InF x.p (dmN y.d (tgN x.q k)) (dmN y.d (srN x.q k)) (arF y k) := by
 obtain ⟨m, nf, nt, yf, yt, em, ef, et, df, dt, hm, hr, _, _, _, _, l1, l2, l3, _⟩ := isRep_at h.hx hk
 obtain ⟨m', nf', nt', yf', yt', em', ef', et', df', dt', hm', hr', _⟩ := isRep_at h.hy (k := k) (by rw [← h.hq]; exact hk)
 have s1 := srN_of ef
 have s2 := tgN_of et
 have s3 := srN_of ef'
 have s4 := tgN_of et'
 have e1 := dmN_of df
 have e2 := dmN_of dt
 have e3 := dmN_of df'
 have e4 := dmN_of dt'
 have q1 := h.hq
 rw [← q1, s1] at s3
 rw [← q1, s2] at s4
 subst s3 s4
 have A1 : arF x k = entry m.a yf := by rw [arF, List.getD_eq_getElem?_getD, em, Option.getD_some, s1, e1]
 have A2 : arF y k = entry m'.a yf' := by rw [arF, List.getD_eq_getElem?_getD, em', Option.getD_some, ← q1, s1, e3]
 rw [s1, s2, e1, e2, e3, e4, A1, A2]
 refine ⟨ef, et, l1, l2, l3, by rw [em, ← hm], by rw [em', ← hm'], fun a b ha hb => hr a b ha hb, fun a b ha hb => ?_⟩
 have := hr' a b ha hb
 rwa [← h.hp] at this
theorem Fit2.arrs {x y : Rp} (h : Fit2 x y) : x.q.f.length ≤ 6 ∧ x.m.length = x.q.f.length ∧ y.m.length = x.q.f.length ∧ x.q.t.length = x.q.f.length := by
 have h1 := isQ_t.1 (areDims_t.1 (isRep_t.1 h.hx).2.1).1
 have h2 := (isRep_t.1 h.hx).2.2.1
 have h3 := (isRep_t.1 h.hy).2.2.1
 rw [← h.hq] at h3
 exact ⟨h1.2.2.1, h2, h3, h1.2.1.symm⟩
theorem hOff_le {x y : Rp} (h : Fit2 x y) : ∀ {v : Nat}, v ≤ x.d.length → hOff x.d y.d v ≤ v * 16
 | 0, _ => Nat.zero_le _
 | v + 1, hv => by
  have := hOff_le h (v := v) (by omega)
  obtain ⟨_, _, h1, h2⟩ := h.dim (k := v) (by omega)
  have : dmN y.d v * dmN x.d v ≤ 4 * 4 := Nat.mul_le_mul h2 h1
  simp only [hOff]
  omega
theorem hmN_le {x y : Rp} (h : Fit2 x y) : hmN x y ≤ 80 := by
 have := hOff_le h (Nat.le_refl _)
 have := h.len.2
 unfold hmN
 omega
theorem Fit2.dims {x y : Rp} (h : Fit2 x y) (k : Nat) : dmN x.d k ≤ 4 ∧ dmN y.d k ≤ 4 := by
 by_cases hk : k < x.d.length
 ·exact (h.dim hk).2.2
 ·have h1 : x.d.length ≤ k := by omega
  have h2 : y.d.length ≤ k := by have := h.len; omega
  simp [dmN, List.getD_eq_getElem?_getD, h1, h2]
theorem eqR_le {x y : Rp} (h : Fit2 x y) : eqR x y ≤ 96 := by
 have one : ∀ K, (eqL x y (hmN x y) K).length ≤ K * 16 := by
  intro K
  induction K with
  | zero => simp [eqL]
  | succ K ih =>
   rw [eqL, List.length_append, eqRw, rowsF_length]
   have : dmN y.d (tgN x.q K) * dmN x.d (srN x.q K) ≤ 4 * 4 := Nat.mul_le_mul (h.dims _).2 (h.dims _).1
   omega
 have := one x.q.f.length
 have := h.arrs.1
 unfold eqR
 omega
set_option maxHeartbeats 3200000 in
set_option maxRecDepth 100000 in
theorem flat_any (u : Value) (ms : List Mx) (w : World) (hu : SlM w w.heap.size u ms) (hn : ms.length ≤ 1000) (ht : totA ms ≤ 100000) :
  Calls Tryz.prog 92 #[u] w fun e w' => ∃ v, e = .returned v ∧ IntsO w' w.heap.size w'.heap.size v (flM ms) ∧ Below w.heap.size w w' := by
 obtain ⟨A, c, rfl, _, _, _, hx⟩ := hu.open_
 clear hu
 have HX := Lib.hid hx
 have HT := Lib.hid ht
 obtain ⟨n, hnl⟩ : ∃ n, ms.length = n := ⟨_, rfl⟩
 have HNL := Lib.hid hnl
 rw [hnl] at hn ⊢
 clear hx ht hnl
 go_enter Tryz.func92, Tryz.ntmps92
 go_wp2
 go_loopw [3, 8] (fun out i wr => ∃ k : Nat, k ≤ n ∧ i = .int .i64 k ∧ OwnI wr w.heap.size out (flM (ms.take k)) ∧ Below w.heap.size w wr) (fun _ i _ => n - (intOf i).toNat)
 case atStart => exact ⟨0, Nat.zero_le _, rfl, by simpa [flM] using OwnI.nil _ _, Below.refl _ _⟩
 case round =>
  obtain ⟨k, hk, rfl, hO, hbel⟩ := hrel
  have hbs := hbel.size
  obtain ⟨OA, oc, eo, _, _⟩ := hO.form
  subst eo
  by_cases hlt : k < n
  ·have hx := HX.out
   obtain ⟨b, o, m, A', c', rfl, hb, HX2, x1, x2, x3, hsl, _, _, _⟩ := SlM.at_ hx (by rw [HNL.out]; exact hlt)
   have d1 := bcell hbel hb x1
   have d2 := bcell hbel hb x2
   have d3 := bcell hbel hb x3
   have e1 : flM (ms.take (k + 1)) = flM (ms.take k) ++ m.a := by rw [take_snoc HX2.out, flM_app, flM_one]
   have hle : (flM (ms.take (k + 1))).length ≤ 100000 := by
    have h1 : ms = ms.take (k + 1) ++ ms.drop (k + 1) := (List.take_append_drop _ _).symm
    have h2 := congrArg totA h1
    rw [totA_app] at h2
    have := HT.out
    rw [flM_length]
    omega
   rw [e1, List.length_append] at hle
   have E1 := Lib.hid e1
   obtain ⟨W1, hW1⟩ : ∃ z, wr.alloc (.cells #[.int .i64 m.r, .int .i64 m.c, .slice A' m.a.length c'] 44) = z := ⟨_, rfl⟩
   have ga : Below wr.heap.size wr W1 := by rw [← hW1]; exact below_alloc _ _
   have kW : Blk W1 wr.heap.size 44 #[.int .i64 m.r, .int .i64 m.c, .slice A' m.a.length c'] := by rw [← hW1]; exact Blk.new _ _ _
   have z2 := kW.cell' (i := 2) rfl
   have GW := Lib.hid (hbel.trans (ga.mono hbs))
   have HS := Lib.hid (SlI.below GW.out hsl)
   have HO := Lib.hid (hO.below ga)
   have HLE := Lib.hid hle
   have sa := ga.size
   obtain ⟨fl, hfl⟩ : ∃ z, (flM (ms.take k)).length = z := ⟨_, rfl⟩
   rw [hfl] at hO ⊢
   have HFL := Lib.hid hfl
   clear e1 hx hsl HX2 x1 x2 x3 hO hle hbel ga kW hfl
   (go_wp2_with (at_builtin; refine Hold.stop ?_)); unfold Hold
   clear hW1
   have hO1 := HO.out
   rw [HFL.out] at hO1
   have hlo2 := hO1.lt
   refine wpList_appI rfl (.tmp 12) (.tmp 14) rfl w.heap.size w.heap.size _ _ rfl hO1 A' m.a.length c' m.a rfl rfl HS.out (by have := HLE.out; omega) (by omega) ?_
   intro v' w' h1 h2 h3
   rw [← E1.out] at h1
   have g2 := (GW.out).trans (below_grown h2 (fun k hk => (hlo2 k hk).1) (by omega))
   have H1 := Lib.hid h1
   have G2 := Lib.hid g2
   clear h1 h2 h3 g2 hlo2 hO1
   go_wp2
   go_roundw
   case rel => exact ⟨k + 1, by omega, by go_num, H1.out, G2.out⟩
   case measure => simp [intOf]; omega
  ·obtain rfl : k = n := by omega
   have e0 : ms.take k = ms := List.take_of_length_le (by have := HNL.out; omega)
   rw [e0] at hO ⊢
   have HO := Lib.hid (IntsO.of_own hO)
   have HB := Lib.hid hbel
   obtain ⟨fl, hfl⟩ : ∃ z, (flM ms).length = z := ⟨_, rfl⟩
   rw [hfl]
   have HFL := Lib.hid hfl
   clear hO hbel e0 hfl
   go_wp2
   go_ret
   exact ⟨_, rfl, by have := HO.out; rw [HFL.out] at this; exact this, HB.out⟩
set_option maxHeartbeats 3200000 in
set_option maxRecDepth 100000 in
theorem zeros_any (ua ub : Value) (X Y : Rp) (w0 : World) (ha : RpR w0 w0.heap.size ua X) (hb : RpR w0 w0.heap.size ub Y) (hf : Fit2 X Y) :
  Calls Tryz.prog 91 #[ua, ub] w0 fun e w' => ∃ v, e = .returned v ∧ MatsO w' w0.heap.size w'.heap.size v (zrL X.d Y.d X.d.length) ∧ Below w0.heap.size w0 w' := by
 have ha' := ha
 have hb' := hb
 obtain ⟨A, a, C, c, Ea, ea, Ha, ha_, rfl, hqa, hda, hma, hpa, lda, lma⟩ := ha.open_
 obtain ⟨A2, a2, C2, c2, Eb, eb, Hb, hb_, rfl, hqb, hdb, hmb, hpb, ldb, lmb⟩ := hb.open_
 clear ha hb
 obtain ⟨W, hW⟩ : ∃ W, W = (w0.alloc (.cells #[.int .i64 X.p, .int .i64 X.q.v, .slice A X.q.f.length a, .slice C X.q.t.length c, .slice Ea X.d.length ea, .slice Ha X.m.length ha_] 31)).alloc (.cells #[.int .i64 Y.p, .int .i64 Y.q.v, .slice A2 Y.q.f.length a2, .slice C2 Y.q.t.length c2, .slice Eb Y.d.length eb, .slice Hb Y.m.length hb_] 31) := ⟨_, rfl⟩
 have g0 : Below w0.heap.size w0 W := by rw [hW]; exact ((Below.refl _ _).alloc (Nat.le_refl _) _).alloc (by simp) _
 have k1 : Blk W w0.heap.size 31 #[.int .i64 X.p, .int .i64 X.q.v, .slice A X.q.f.length a, .slice C X.q.t.length c, .slice Ea X.d.length ea, .slice Ha X.m.length ha_] := by rw [hW]; exact (Blk.new _ _ _).alloc _
 have k2 : Blk W (w0.heap.size + 1) 31 #[.int .i64 Y.p, .int .i64 Y.q.v, .slice A2 Y.q.f.length a2, .slice C2 Y.q.t.length c2, .slice Eb Y.d.length eb, .slice Hb Y.m.length hb_] := by
  rw [hW]
  have := Blk.new (w0.alloc (.cells #[.int .i64 X.p, .int .i64 X.q.v, .slice A X.q.f.length a, .slice C X.q.t.length c, .slice Ea X.d.length ea, .slice Ha X.m.length ha_] 31)) 31 #[.int .i64 Y.p, .int .i64 Y.q.v, .slice A2 Y.q.f.length a2, .slice C2 Y.q.t.length c2, .slice Eb Y.d.length eb, .slice Hb Y.m.length hb_]
  simpa only [World.size_alloc] using this
 have HXA := Lib.hid (RpR.next g0 ha')
 have HXB := Lib.hid (RpR.next g0 hb')
 have HQA := Lib.hid (QvR.next g0 hqa)
 have HDA := Lib.hid (SlI.next g0 hda)
 have HDB := Lib.hid (SlI.next g0 hdb)
 have HMA := Lib.hid (SlM.next g0 hma)
 have HMB := Lib.hid (SlM.next g0 hmb)
 have G0 := Lib.hid g0
 clear ha' hb' hqa hqb hda hdb hma hmb hpa hpb g0
 have HF := Lib.hid hf
 have hl5 := hf.len.2
 have HLY := Lib.hid hf.len.1
 obtain ⟨V, hV⟩ : ∃ n, X.d.length = n := ⟨_, rfl⟩
 obtain ⟨VY, hVY⟩ : ∃ n, Y.d.length = n := ⟨_, rfl⟩
 rw [hV] at hl5 k1 hW ⊢
 rw [hVY] at k2 hW ⊢
 have hVV : VY = V := by have := HLY.out; omega
 subst hVV
 have HV := Lib.hid hV
 have HVY := Lib.hid hVY
 have c4 := k1.cell' (i := 4) rfl
 clear hf hV hVY
 go_enter Tryz.func91, Tryz.ntmps91
 go_wp2
 rw [← hW]; clear hW
 go_loopw [5, 11] (fun out i wr => ∃ k : Nat, k ≤ VY ∧ i = .int .i64 k ∧ MatsO wr W.heap.size wr.heap.size out (zrL X.d Y.d k) ∧ Below W.heap.size W wr) (fun _ i _ => VY - (intOf i).toNat)
 case atStart => exact ⟨0, Nat.zero_le _, rfl, MatsO.nil _ _ _, Below.refl _ _⟩
 case round =>
  obtain ⟨k, hk, rfl, hO, hbel⟩ := hrel
  have hbs := hbel.size
  obtain ⟨OA, oc, eo, _, _⟩ := hO.form2
  rw [zrL_length] at eo
  subst eo
  by_cases hlt : k < VY
  ·obtain ⟨dx, dy, bx, by_⟩ := HF.out.dim (k := k) (by rw [HV.out]; exact hlt)
   obtain ⟨b1, o1, x1, e1, hb1, HX1, z1, _, _⟩ := SlI.at_ HDA.out (k := k) (by rw [HV.out]; exact hlt)
   obtain ⟨b2, o2, x2, e2, hb2, HX2, z2, _, _⟩ := SlI.at_ HDB.out (k := k) (by rw [HVY.out]; exact hlt)
   subst e1 e2
   have q1 := HX1.out
   rw [dx] at q1
   injection q1 with q1
   subst q1
   have q2 := HX2.out
   rw [dy] at q2
   injection q2 with q2
   subst q2
   have HZS := Lib.hid (zrL_succ X.d Y.d k)
   obtain ⟨DX, hDX⟩ : ∃ n, dmN X.d k = n := ⟨_, rfl⟩
   obtain ⟨DY, hDY⟩ : ∃ n, dmN Y.d k = n := ⟨_, rfl⟩
   rw [hDX] at z1 bx HZS
   rw [hDY] at z2 by_ HZS
   clear HX1 HX2 dx dy hDX hDY
   have z1r := bcell hbel hb1 z1
   have z2r := bcell hbel hb2 z2
   have kBr := k2.call hbel
   have z4r := kBr.cell' (i := 4) rfl
   have HO := Lib.hid hO
   have HB := Lib.hid hbel
   clear hO hbel z1 z2 kBr c4
   go_wp2_with fail
   refine (zero_any (DY : Int) (DX : Int) _ (by omega) (by omega) (by omega) (by omega)).mono ?_; rintro e w5 ⟨v5, rfl, ⟨s, rfl, hs, hI⟩, hb5⟩
   rw [zmx_flat] at hs hI ⊢
   obtain ⟨sA, sc, es⟩ := hs.form
   obtain ⟨sn, hsn⟩ : ∃ n, (mxF DY DX fun _ _ => 0).a.length = n := ⟨_, rfl⟩
   rw [hsn] at es
   subst es
   clear hsn
   simp only [mxF] at hs hI ⊢
   obtain ⟨Z, hZ⟩ : ∃ z, w5.alloc (.cells #[.int .i64 DY, .int .i64 DX, .slice sA sn sc] 44) = z := ⟨_, rfl⟩
   obtain ⟨gz, hgz⟩ : ∃ z, w5.heap.size = z := ⟨_, rfl⟩
   have bZ : Below w5.heap.size w5 Z := by rw [← hZ]; exact below_alloc _ _
   have kZ : Blk Z gz 44 #[.int .i64 DY, .int .i64 DX, .slice sA sn sc] := by rw [← hZ, ← hgz]; exact Blk.new _ _ _
   have s5 := hb5.size
   have sZ := bZ.size
   have HOZ := Lib.hid ((HO.out.below hb5).below bZ)
   have HSZ := Lib.hid (hs.below bZ)
   have HKZ := Lib.hid kZ
   have HBZ := Lib.hid ((HB.out.trans (hb5.mono hbs)).trans (bZ.mono (by omega)))
   have HI := Lib.hid hI
   have hgz2 : w5.heap.size ≤ gz := Nat.le_of_eq hgz
   clear hs hI hb5 bZ kZ z1r z2r z4r
   (go_wp2_with (at_builtin; refine Hold.stop ?_)); unfold Hold
   clear hZ hgz
   refine wpList_appMats (by rfl) (.tmp 16) (.tmp 24) (by rfl) W.heap.size wr.heap.size _ (zrL X.d Y.d k) (by rfl) HOZ.out gz 1 wr.heap.size w5.heap.size (mxF DY DX fun _ _ => 0) (.slice sA sn sc) (by rfl) HKZ.out HSZ.out HI.out (Nat.le_refl _) hbs (by omega) (by omega) (by rw [zrL_length]; omega) ?_
   intro v' w' h1 h2
   rw [← HZS.out] at h1
   have H1 := Lib.hid h1
   have H2 := Lib.hid (HBZ.out.trans (h2.below (Nat.le_refl _) (by omega)))
   clear h1 h2
   go_wp2
   go_roundw
   case rel => exact ⟨k + 1, by omega, by go_num, H1.out, H2.out⟩
   case measure => simp [intOf]; omega
  ·obtain rfl : k = VY := by omega
   have HO := Lib.hid hO
   have GF := Lib.hid (G0.out.trans (hbel.mono G0.out.size))
   have hgs := G0.out.size
   clear hO hbel
   go_wp2
   go_ret
   exact ⟨_, rfl, HO.out.wider hgs (Nat.le_refl _), GF.out⟩
def czL (X Y : Rp) (K : Nat) : List Mx := (List.range K).map fun k => mxF (dmN Y.d (tgN X.q k)) (dmN X.d (srN X.q k)) fun _ _ => 0
theorem czL_succ (X Y : Rp) (K : Nat) : czL X Y (K + 1) = czL X Y K ++ [mxF (dmN Y.d (tgN X.q K)) (dmN X.d (srN X.q K)) fun _ _ => 0] := by simp [czL, List.range_succ]
theorem czL_length (X Y : Rp) (K : Nat) : (czL X Y K).length = K := by simp [czL]
theorem czL_tot (X Y : Rp) (n : Nat) : ∀ K, totA (czL X Y K) = (eqL X Y n K).length
 | 0 => rfl
 | K + 1 => by rw [czL_succ, totA_app, czL_tot X Y n K, totA_one, eqL, List.length_append, eqRw, rowsF_length, mxF, flat_length]
set_option maxHeartbeats 6400000 in
set_option maxRecDepth 100000 in
theorem cocycleZeros_any (ua ub : Value) (X Y : Rp) (w0 : World) (ha : RpR w0 w0.heap.size ua X) (hb : RpR w0 w0.heap.size ub Y) (hf : Fit2 X Y) :
  Calls Tryz.prog 95 #[ua, ub] w0 fun e w' => ∃ v, e = .returned v ∧ MatsO w' w0.heap.size w'.heap.size v (czL X Y X.q.f.length) ∧ Below w0.heap.size w0 w' := by
 have ha' := ha
 have hb' := hb
 obtain ⟨A, a, C, c, Ea, ea, Ha, ha_, rfl, hqa, hda, hma, hpa, lda, lma⟩ := ha.open_
 obtain ⟨A2, a2, C2, c2, Eb, eb, Hb, hb_, rfl, hqb, hdb, hmb, hpb, ldb, lmb⟩ := hb.open_
 clear ha hb
 obtain ⟨W, hW⟩ : ∃ W, W = (w0.alloc (.cells #[.int .i64 X.p, .int .i64 X.q.v, .slice A X.q.f.length a, .slice C X.q.t.length c, .slice Ea X.d.length ea, .slice Ha X.m.length ha_] 31)).alloc (.cells #[.int .i64 Y.p, .int .i64 Y.q.v, .slice A2 Y.q.f.length a2, .slice C2 Y.q.t.length c2, .slice Eb Y.d.length eb, .slice Hb Y.m.length hb_] 31) := ⟨_, rfl⟩
 have g0 : Below w0.heap.size w0 W := by rw [hW]; exact ((Below.refl _ _).alloc (Nat.le_refl _) _).alloc (by simp) _
 have k1 : Blk W w0.heap.size 31 #[.int .i64 X.p, .int .i64 X.q.v, .slice A X.q.f.length a, .slice C X.q.t.length c, .slice Ea X.d.length ea, .slice Ha X.m.length ha_] := by rw [hW]; exact (Blk.new _ _ _).alloc _
 have k2 : Blk W (w0.heap.size + 1) 31 #[.int .i64 Y.p, .int .i64 Y.q.v, .slice A2 Y.q.f.length a2, .slice C2 Y.q.t.length c2, .slice Eb Y.d.length eb, .slice Hb Y.m.length hb_] := by
  rw [hW]
  have := Blk.new (w0.alloc (.cells #[.int .i64 X.p, .int .i64 X.q.v, .slice A X.q.f.length a, .slice C X.q.t.length c, .slice Ea X.d.length ea, .slice Ha X.m.length ha_] 31)) 31 #[.int .i64 Y.p, .int .i64 Y.q.v, .slice A2 Y.q.f.length a2, .slice C2 Y.q.t.length c2, .slice Eb Y.d.length eb, .slice Hb Y.m.length hb_]
  simpa only [World.size_alloc] using this
 have HXA := Lib.hid (RpR.next g0 ha')
 have HXB := Lib.hid (RpR.next g0 hb')
 have HQA := Lib.hid (QvR.next g0 hqa)
 have HDA := Lib.hid (SlI.next g0 hda)
 have HDB := Lib.hid (SlI.next g0 hdb)
 have HMA := Lib.hid (SlM.next g0 hma)
 have HMB := Lib.hid (SlM.next g0 hmb)
 have G0 := Lib.hid g0
 clear ha' hb' hqa hqb hda hdb hma hmb hpa hpb g0
 have HF := Lib.hid hf
 have hN6 := hf.arrs.1
 have HLEN := Lib.hid hf.len
 obtain ⟨_, _, _, _, eqq, hfs, hts, _⟩ := HQA.out.open_
 simp only [Value.agg.injEq, Array.mk.injEq, List.cons.injEq, and_true, Value.slice.injEq, true_and] at eqq
 obtain ⟨⟨rfl, rfl⟩, rfl, rfl⟩ := eqq
 have HFS := Lib.hid hfs
 have HTS := Lib.hid hts
 have c2_ := k1.cell' (i := 2) rfl
 clear hf hfs hts
 go_enter Tryz.func95, Tryz.ntmps95
 go_wp2
 rw [← hW]; clear hW
 go_loopw [5, 12] (fun out i wr => ∃ k : Nat, k ≤ X.q.f.length ∧ i = .int .i64 k ∧ MatsO wr W.heap.size wr.heap.size out (czL X Y k) ∧ Below W.heap.size W wr) (fun _ i _ => X.q.f.length - (intOf i).toNat)
 case atStart => exact ⟨0, Nat.zero_le _, rfl, MatsO.nil _ _ _, Below.refl _ _⟩
 case round =>
  obtain ⟨k, hk, rfl, hO, hbel⟩ := hrel
  have hbs := hbel.size
  obtain ⟨OA, oc, eo, _, _⟩ := hO.form2
  rw [czL_length] at eo
  subst eo
  by_cases hlt : k < X.q.f.length
  ·obtain ⟨ef, et, lf, lt, hkt, _⟩ := HF.out.arr hlt
   obtain ⟨dfx, _, bfx, _⟩ := HF.out.dim lf
   obtain ⟨_, dty, _, bty⟩ := HF.out.dim lt
   have HZS := Lib.hid (czL_succ X Y k)
   obtain ⟨nf, hnf⟩ : ∃ n, srN X.q k = n := ⟨_, rfl⟩
   obtain ⟨nt, hnt⟩ : ∃ n, tgN X.q k = n := ⟨_, rfl⟩
   rw [hnf] at ef lf dfx bfx HZS
   rw [hnt] at et lt dty bty HZS
   obtain ⟨YF, hYF⟩ : ∃ n, dmN X.d nf = n := ⟨_, rfl⟩
   obtain ⟨YT, hYT⟩ : ∃ n, dmN Y.d nt = n := ⟨_, rfl⟩
   rw [hYF] at dfx bfx HZS
   rw [hYT] at dty bty HZS
   clear hnf hnt hYF hYT
   obtain ⟨bf, of_, x1, e1, hbf, HX1, z1, _, _⟩ := SlI.at_ HFS.out hlt
   obtain ⟨bt, ot, x2, e2, hbt, HX2, z2, _, _⟩ := SlI.at_ HTS.out hkt
   obtain ⟨bd, od, x3, e3, hbd, HX3, z3, _, _⟩ := SlI.at_ HDA.out lf
   have lty : nt < Y.d.length := by have := HLEN.out; omega
   obtain ⟨be, oe, x4, e4, hbe, HX4, z4, _, _⟩ := SlI.at_ HDB.out lty
   subst e1 e2 e3 e4
   have q1 := HX1.out
   rw [ef] at q1
   injection q1 with q1
   subst q1
   have q2 := HX2.out
   rw [et] at q2
   injection q2 with q2
   subst q2
   have q3 := HX3.out
   rw [dfx] at q3
   injection q3 with q3
   subst q3
   have q4 := HX4.out
   rw [dty] at q4
   injection q4 with q4
   subst q4
   clear HX1 HX2 HX3 HX4 ef et dfx dty
   have K1 := Lib.hid (k1.call hbel)
   have K2 := Lib.hid (k2.call hbel)
   have y1 := bcell hbel hbf z1
   have y2 := bcell hbel hbt z2
   have y3 := bcell hbel hbd z3
   have y4 := bcell hbel hbe z4
   have Y2 := Lib.hid y2
   have Y3 := Lib.hid y3
   have Y4 := Lib.hid y4
   have HO := Lib.hid hO
   have HB := Lib.hid hbel
   clear hO hbel y2 y3 y4 z1 z2 z3 z4 c2_
   have a1' : (0 : Int) ≤ (nt : Int) := by omega
   have a2' : (nt : Int) < Y.d.length := by omega
   have a3' : (0 : Int) ≤ (nf : Int) := by omega
   have a4' : (nf : Int) < X.d.length := by omega
   have a5' : (k : Int) < X.q.t.length := by omega
   go_wp2
   clear y1
   refine wp_region_net (by kernel_rfl) [.eq (.slice OA k oc), .eq (.pointer (some ⟨w0.heap.size + 1, 4, none⟩)), .eq (.slice (some ⟨be, oe, none⟩) Y.d.length eb), .eq (.pointer (some ⟨w0.heap.size, 1, none⟩)), .eq (.pointer (some ⟨w0.heap.size, 3, none⟩)), .eq (.slice (some ⟨bt, ot, none⟩) X.q.t.length c), .eq (.int .i64 k), .eq (.pointer (some ⟨bt, ot + k, none⟩)), .eq (.int .i64 nt), .eq (.pointer (some ⟨be, oe + nt, none⟩)), .eq (.int .i64 YT), .eq (.pointer (some ⟨w0.heap.size, 4, none⟩)), .eq (.slice (some ⟨bd, od, none⟩) X.d.length ea), .eq (.int .i64 nf), .eq (.pointer (some ⟨bd, od + nf, none⟩)), .eq (.int .i64 YF), rel 16 (fun u lo hi w => MxO w lo hi u (mxF YT YF fun _ _ => 0)), .rel (fun x w => ∃ g s, x.v 17 = .slice (some ⟨g, 0, none⟩) 1 1 ∧ x.v 16 = .agg #[.int .i64 YT, .int .i64 YF, s] ∧ Blk w g 44 #[.int .i64 YT, .int .i64 YF, s])] [[], [], [1], [], [3], [3, 4], [], [3, 4, 5, 6], [3, 4, 5, 6, 7], [1, 2, 3, 4, 5, 6, 7, 8], [1, 2, 3, 4, 5, 6, 7, 8, 9], [], [11], [], [11, 12, 13], [11, 12, 13, 14], [1, 2, 3, 4, 5, 6, 7, 8, 9, 10, 11, 12, 13, 14, 15], [1, 2, 3, 4, 5, 6, 7, 8, 9, 10, 11, 12, 13, 14, 15, 16], [0, 1, 2, 3, 4, 5, 6, 7, 8, 9, 10, 11, 12, 13, 14, 15, 16, 17], [0, 1, 2, 3, 4, 5, 6, 7, 8, 9, 10, 11, 12, 13, 14, 15, 16, 17, 18]] 18 (by kernel_rfl) ⟨trivial, trivial, trivial, trivial, trivial, trivial, trivial, trivial, trivial, trivial, trivial, trivial, trivial, trivial, trivial, trivial, rel_stable (fun u lo hi w w' h hb => h.below hb), fun x w w' ⟨g, s, e1, e2, h⟩ hb => ⟨g, s, e1, e2, h.call hb⟩, trivial⟩ ⟨?_, ?_, ?_, ?_, ?_, ?_, ?_, ?_, ?_, ?_, ?_, ?_, ?_, ?_, ?_, ?_, ?_, ?_, trivial⟩ ?_
   ·intro x w hb hk Q' hQ
    clear hk
    simp only [netE] at hQ ⊢
    go_wp2
    exact hQ _ _ (Below.refl _ _) rfl
   ·intro x w hb hk Q' hQ
    clear hk
    simp only [netE] at hQ ⊢
    go_wp2
    exact hQ _ _ (Below.refl _ _) rfl
   ·intro x w hb hk Q' hQ
    have h1 : x.v 1 = _ := (hk 1 (by decide)).1
    clear hk
    simp only [netE] at hQ ⊢
    simp only [h1] at hQ ⊢
    clear h1
    have z := (K2.out.call hb).cell' (i := 4) rfl
    go_wp2
    exact hQ _ _ (Below.refl _ _) rfl
   ·intro x w hb hk Q' hQ
    clear hk
    simp only [netE] at hQ ⊢
    go_wp2
    exact hQ _ _ (Below.refl _ _) rfl
   ·intro x w hb hk Q' hQ
    have h3 : x.v 3 = _ := (hk 3 (by decide)).1
    clear hk
    simp only [netE] at hQ ⊢
    simp only [h3] at hQ ⊢
    clear h3
    go_wp2
    exact hQ _ _ (Below.refl _ _) rfl
   ·intro x w hb hk Q' hQ
    have h4 : x.v 4 = _ := (hk 4 (by decide)).1
    clear hk
    simp only [netE] at hQ ⊢
    simp only [h4] at hQ ⊢
    clear h4
    have z := (K1.out.call hb).cell' (i := 3) rfl
    go_wp2
    exact hQ _ _ (Below.refl _ _) rfl
   ·intro x w hb hk Q' hQ
    clear hk
    simp only [netE] at hQ ⊢
    go_wp2
    exact hQ _ _ (Below.refl _ _) rfl
   ·intro x w hb hk Q' hQ
    have h5 : x.v 5 = _ := (hk 5 (by decide)).1
    have h6 : x.v 6 = _ := (hk 6 (by decide)).1
    clear hk
    simp only [netE] at hQ ⊢
    simp only [h5, h6] at hQ ⊢
    clear h5 h6
    go_wp2
    exact hQ _ _ (Below.refl _ _) rfl
   ·intro x w hb hk Q' hQ
    have h7 : x.v 7 = _ := (hk 7 (by decide)).1
    clear hk
    simp only [netE] at hQ ⊢
    simp only [h7] at hQ ⊢
    clear h7
    have z := bcell hb (by omega) Y2.out
    go_wp2
    exact hQ _ _ (Below.refl _ _) rfl
   ·intro x w hb hk Q' hQ
    have h2 : x.v 2 = _ := (hk 2 (by decide)).1
    have h8 : x.v 8 = _ := (hk 8 (by decide)).1
    clear hk
    simp only [netE] at hQ ⊢
    simp only [h2, h8] at hQ ⊢
    clear h2 h8
    go_wp2
    exact hQ _ _ (Below.refl _ _) rfl
   ·intro x w hb hk Q' hQ
    have h9 : x.v 9 = _ := (hk 9 (by decide)).1
    clear hk
    simp only [netE] at hQ ⊢
    simp only [h9] at hQ ⊢
    clear h9
    have z := bcell hb (by omega) Y4.out
    go_wp2
    exact hQ _ _ (Below.refl _ _) rfl
   ·intro x w hb hk Q' hQ
    clear hk
    simp only [netE] at hQ ⊢
    go_wp2
    exact hQ _ _ (Below.refl _ _) rfl
   ·intro x w hb hk Q' hQ
    have h11 : x.v 11 = _ := (hk 11 (by decide)).1
    clear hk
    simp only [netE] at hQ ⊢
    simp only [h11] at hQ ⊢
    clear h11
    have z := (K1.out.call hb).cell' (i := 4) rfl
    go_wp2
    exact hQ _ _ (Below.refl _ _) rfl
   ·intro x w hb hk Q' hQ
    clear hk
    simp only [netE] at hQ ⊢
    go_wp2
    exact hQ _ _ (Below.refl _ _) rfl
   ·intro x w hb hk Q' hQ
    have h12 : x.v 12 = _ := (hk 12 (by decide)).1
    have h13 : x.v 13 = _ := (hk 13 (by decide)).1
    clear hk
    simp only [netE] at hQ ⊢
    simp only [h12, h13] at hQ ⊢
    clear h12 h13
    go_wp2
    exact hQ _ _ (Below.refl _ _) rfl
   ·intro x w hb hk Q' hQ
    have h14 : x.v 14 = _ := (hk 14 (by decide)).1
    clear hk
    simp only [netE] at hQ ⊢
    simp only [h14] at hQ ⊢
    clear h14
    have z := bcell hb (by omega) Y3.out
    go_wp2
    exact hQ _ _ (Below.refl _ _) rfl
   ·intro x w hb hk Q' hQ
    have h1 : x.v 1 = _ := (hk 1 (by decide)).1
    have h2 : x.v 2 = _ := (hk 2 (by decide)).1
    have h3 : x.v 3 = _ := (hk 3 (by decide)).1
    have h4 : x.v 4 = _ := (hk 4 (by decide)).1
    have h5 : x.v 5 = _ := (hk 5 (by decide)).1
    have h6 : x.v 6 = _ := (hk 6 (by decide)).1
    have h7 : x.v 7 = _ := (hk 7 (by decide)).1
    have h8 : x.v 8 = _ := (hk 8 (by decide)).1
    have h9 : x.v 9 = _ := (hk 9 (by decide)).1
    have h10 : x.v 10 = _ := (hk 10 (by decide)).1
    have h11 : x.v 11 = _ := (hk 11 (by decide)).1
    have h12 : x.v 12 = _ := (hk 12 (by decide)).1
    have h13 : x.v 13 = _ := (hk 13 (by decide)).1
    have h14 : x.v 14 = _ := (hk 14 (by decide)).1
    have h15 : x.v 15 = _ := (hk 15 (by decide)).1
    clear hk
    simp only [netE] at hQ ⊢
    simp only [h1, h2, h3, h4, h5, h6, h7, h8, h9, h10, h11, h12, h13, h14, h15] at hQ ⊢
    clear h1 h2 h3 h4 h5 h6 h7 h8 h9 h10 h11 h12 h13 h14 h15
    go_wp2_with fail
    refine (zero_any (YT : Int) (YF : Int) _ (by omega) (by omega) (by omega) (by omega)).mono ?_; rintro e w3 ⟨v3, rfl, hZ, hb3⟩
    rw [zmx_flat] at hZ
    go_wp2
    exact hQ _ _ hb3 hZ
   ·intro x w hb hk Q' hQ
    have h1 : x.v 1 = _ := (hk 1 (by decide)).1
    have h2 : x.v 2 = _ := (hk 2 (by decide)).1
    have h3 : x.v 3 = _ := (hk 3 (by decide)).1
    have h4 : x.v 4 = _ := (hk 4 (by decide)).1
    have h5 : x.v 5 = _ := (hk 5 (by decide)).1
    have h6 : x.v 6 = _ := (hk 6 (by decide)).1
    have h7 : x.v 7 = _ := (hk 7 (by decide)).1
    have h8 : x.v 8 = _ := (hk 8 (by decide)).1
    have h9 : x.v 9 = _ := (hk 9 (by decide)).1
    have h10 : x.v 10 = _ := (hk 10 (by decide)).1
    have h11 : x.v 11 = _ := (hk 11 (by decide)).1
    have h12 : x.v 12 = _ := (hk 12 (by decide)).1
    have h13 : x.v 13 = _ := (hk 13 (by decide)).1
    have h14 : x.v 14 = _ := (hk 14 (by decide)).1
    have h15 : x.v 15 = _ := (hk 15 (by decide)).1
    have h16 : MxO w (x.lo 16) (x.hi 16) (x.v 16) (mxF YT YF fun _ _ => 0) := (hk 16 (by decide)).1
    have s16 := (hk 16 (by decide)).2
    clear hk
    simp only [netE] at hQ ⊢
    simp only [h1, h2, h3, h4, h5, h6, h7, h8, h9, h10, h11, h12, h13, h14, h15] at hQ ⊢
    clear h1 h2 h3 h4 h5 h6 h7 h8 h9 h10 h11 h12 h13 h14 h15
    obtain ⟨s, e16, hs⟩ := h16
    obtain ⟨sA, sc, es⟩ := hs.1.form
    obtain ⟨sn, hsn⟩ : ∃ n, (mxF YT YF fun _ _ => 0).a.length = n := ⟨_, rfl⟩
    rw [hsn] at es
    clear hsn hs
    subst es
    have hQ' := hQ (.slice (some ⟨w.heap.size, 0, none⟩) 1 1) (w.alloc (.cells #[.int .i64 (mxF YT YF fun _ _ => 0).r, .int .i64 (mxF YT YF fun _ _ => 0).c, .slice sA sn sc] 44)) (below_alloc _ _) ⟨_, _, rfl, e16, Blk.new _ _ _⟩
    simp only [mxF] at e16 hQ'
    rw [e16] at hQ' ⊢
    go_wp2
    exact hQ'
   ·intro x w hb hk hiv hdj
    have h0 : x.v 0 = .slice OA k oc := hk 0 (by decide)
    have h1 : x.v 1 = .pointer (some ⟨w0.heap.size + 1, 4, none⟩) := hk 1 (by decide)
    have h2 : x.v 2 = .slice (some ⟨be, oe, none⟩) Y.d.length eb := hk 2 (by decide)
    have h3 : x.v 3 = .pointer (some ⟨w0.heap.size, 1, none⟩) := hk 3 (by decide)
    have h4 : x.v 4 = .pointer (some ⟨w0.heap.size, 3, none⟩) := hk 4 (by decide)
    have h5 : x.v 5 = .slice (some ⟨bt, ot, none⟩) X.q.t.length c := hk 5 (by decide)
    have h6 : x.v 6 = .int .i64 k := hk 6 (by decide)
    have h7 : x.v 7 = .pointer (some ⟨bt, ot + k, none⟩) := hk 7 (by decide)
    have h8 : x.v 8 = .int .i64 nt := hk 8 (by decide)
    have h9 : x.v 9 = .pointer (some ⟨be, oe + nt, none⟩) := hk 9 (by decide)
    have h10 : x.v 10 = .int .i64 YT := hk 10 (by decide)
    have h11 : x.v 11 = .pointer (some ⟨w0.heap.size, 4, none⟩) := hk 11 (by decide)
    have h12 : x.v 12 = .slice (some ⟨bd, od, none⟩) X.d.length ea := hk 12 (by decide)
    have h13 : x.v 13 = .int .i64 nf := hk 13 (by decide)
    have h14 : x.v 14 = .pointer (some ⟨bd, od + nf, none⟩) := hk 14 (by decide)
    have h15 : x.v 15 = .int .i64 YF := hk 15 (by decide)
    have h16 : MxO w (x.lo 16) (x.hi 16) (x.v 16) (mxF YT YF fun _ _ => 0) := hk 16 (by decide)
    have h17 : ∃ g s, x.v 17 = .slice (some ⟨g, 0, none⟩) 1 1 ∧ x.v 16 = .agg #[.int .i64 YT, .int .i64 YF, s] ∧ Blk w g 44 #[.int .i64 YT, .int .i64 YF, s] := hk 17 (by decide)
    clear hk
    simp only [netE]
    simp only [List.drop_succ_cons, List.drop_zero, h0, h1, h2, h3, h4, h5, h6, h7, h8, h9, h10, h11, h12, h13, h14, h15]
    clear h0 h1 h2 h3 h4 h5 h6 h7 h8 h9 h10 h11 h12 h13 h14 h15
    obtain ⟨g, s, ej, ei, hg⟩ := h17
    have li := (hiv 16 (by decide)).1
    have hi_ := (hiv 16 (by decide)).2.2
    obtain ⟨s', ei', hs, hI⟩ := h16
    rw [ei] at ei'
    simp only [Value.agg.injEq, Array.mk.injEq, List.cons.injEq, and_true, mxF, true_and] at ei'
    subst ei'
    rw [ej]
    have hbs2 := hb.size
    have HOZ := Lib.hid (HO.out.below hb)
    have HKZ := Lib.hid hg
    have HSZ := Lib.hid (hs.wider li hi_)
    have HI := Lib.hid hI
    have HBZ := Lib.hid (HB.out.trans (hb.mono hbs))
    clear hiv hdj hs hI ej ei hg hb
    refine wpList_appMats (by rfl) (.tmp 17) (.tmp 34) (by rfl) W.heap.size wr.heap.size _ (czL X Y k) (by rfl) HOZ.out g 1 wr.heap.size w.heap.size (mxF YT YF fun _ _ => 0) s (by rfl) HKZ.out HSZ.out HI.out (Nat.le_refl _) hbs (Nat.le_refl _) (by omega) (by rw [czL_length]; omega) ?_
    intro v' w' h1 h2
    rw [← HZS.out] at h1
    have H1 := Lib.hid h1
    have H2 := Lib.hid (HBZ.out.trans (h2.below (Nat.le_refl _) (by omega)))
    clear h1 h2
    go_wp2
    go_roundw
    case rel => exact ⟨k + 1, by omega, by go_num, H1.out, H2.out⟩
    case measure => simp [intOf]; omega
  ·obtain rfl : k = X.q.f.length := by omega
   have HO := Lib.hid hO
   have GF := Lib.hid (G0.out.trans (hbel.mono G0.out.size))
   have hgs := G0.out.size
   clear hO hbel
   go_wp2
   go_ret
   exact ⟨_, rfl, HO.out.wider hgs (Nat.le_refl _), GF.out⟩
def tch (q : Qv) (v : Int) (i : Nat) : Bool := decide (q.f.getD i 0 = v) || decide (q.t.getD i 0 = v)
theorem QuivO.addr {w : World} {lo hi n m c d : Nat} {v : Int} {A C : Option Addr} {q : Qv} (h : QuivO w lo hi (.agg #[.int .i64 v, .slice A n c, .slice C m d]) q) (hf : 0 < q.f.length) (ht : 0 < q.t.length) :
  ∃ g g', A = some ⟨g, 0, none⟩ ∧ C = some ⟨g', 0, none⟩ ∧ lo ≤ g ∧ g < hi ∧ lo ≤ g' ∧ g' < hi := by
 obtain ⟨a', b', e, hF, hr⟩ := h
 simp only [Value.agg.injEq, Array.mk.injEq, List.cons.injEq, and_true, Value.int.injEq, true_and] at e
 obtain ⟨rfl, rfl, rfl⟩ := e
 have h1 := hF.1 (.slice A n c, q.f) (by simp)
 have h2 := hF.1 (.slice C m d, q.t) (by simp)
 obtain ⟨g, k, e1, l1, l2, _⟩ := h1.at_ hf
 obtain ⟨g', k', e2, l3, l4, _⟩ := h2.at_ ht
 injection e1 with e1
 injection e2 with e2
 exact ⟨g, g', e1, e2, l1, l2, l3, l4⟩
def othN (x : Rp) (v : Int) (i : Nat) : Nat := (dAt x.d (x.q.f.getD i 0 + x.q.t.getD i 0 - v)).toNat
def atN (x : Rp) (v : Int) : Nat → Nat
 | 0 => 0
 | k + 1 => if tch x.q v k = true then atN x v k + othN x v k else atN x v k
theorem SlG.cut {α : Type} {R : World → Nat → Nat → Nat → α → Prop} {w : World} {B c : Nat} {A : Option Addr} {xs : List α} {i k : Nat} (h : SlG 1 R w B (.slice A xs.length c) xs) (hik : i ≤ k) (hk : k ≤ xs.length) :
  ∃ A', (if c = i then A else A.map (·.add (i * 1))) = A' ∧ SlG 1 R w B (.slice A' (k - i) (c - i)) ((xs.drop i).take (k - i)) := by
 obtain ⟨A2, c2, e, h1, h2, h3, h4⟩ := h
 injection e with e1 e2 e3
 subst e1 e3
 refine ⟨_, rfl, ?_⟩
 have hl : ((xs.drop i).take (k - i)).length = k - i := by simp; omega
 refine ⟨_, c - i, by rw [hl], by rw [hl]; omega, by omega, by rw [hl]; omega, fun hp => ?_⟩
 rw [hl] at hp
 obtain ⟨b, o, rfl, hb, hc⟩ := h4 (by omega)
 rw [if_neg (by omega)]
 refine ⟨b, o + i, ?_, hb, fun j x hx => ?_⟩
 ·have e : (⟨b, o, none⟩ : Addr).add i = ⟨b, o + i, none⟩ := by unfold Addr.add; split <;> simp_all
  simp [e]
 ·rw [List.getElem?_take] at hx
  split at hx
  ·rw [List.getElem?_drop] at hx
   have := hc (i + j) x hx
   rwa [show o + (i + j) * 1 = o + i + j * 1 by omega] at this
  ·cases hx
theorem SlG.takeG {α : Type} {R : World → Nat → Nat → Nat → α → Prop} {w : World} {B c k : Nat} {A : Option Addr} {xs : List α} (h : SlG 1 R w B (.slice A xs.length c) xs) (hk : k ≤ xs.length) : SlG 1 R w B (.slice A k c) (xs.take k) := by
 obtain ⟨A2, c2, e, h1, h2, h3, h4⟩ := h
 injection e with e1 e2 e3
 subst e1 e3
 have hl : (xs.take k).length = k := by simp; omega
 refine ⟨_, c, by rw [hl], by rw [hl]; omega, h2, by rw [hl]; omega, fun hp => ?_⟩
 rw [hl] at hp
 obtain ⟨b, o, rfl, hb, hc⟩ := h4 (by omega)
 refine ⟨b, o, rfl, hb, fun j x hx => ?_⟩
 rw [List.getElem?_take] at hx
 split at hx
 ·exact hc j x hx
 ·cases hx
end Go.Proofs.YthhjoamgcfiecaaGreat
