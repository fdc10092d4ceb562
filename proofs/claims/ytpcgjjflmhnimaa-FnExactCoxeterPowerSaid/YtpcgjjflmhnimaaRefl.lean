/- Reflections of number vectors. -/
import Derived.Test.YtpcgjjflmhnimaaSymm2
namespace Go.Proofs.Ytpcgjjflmhnimaa
set_option linter.unusedVariables false
set_option linter.unusedSimpArgs false
open Go.RowKit

/-- g against x, the first k -/
def dotS (g : Nat → Int) (x : List Int) : Nat → Int
  | 0 => 0
  | k + 1 => dotS g x k + g k * x.getD k 0
theorem mul_rng {a b : Int} (ha : -12 ≤ a ∧ a ≤ 12) (hb : -100 ≤ b ∧ b ≤ 100) : -1200 ≤ a * b ∧ a * b ≤ 1200 := by
  obtain ⟨a1, a2⟩ := ha
  obtain ⟨b1, b2⟩ := hb
  have h1 : 0 ≤ (12 - a) * (100 - b) := Int.mul_nonneg (by omega) (by omega)
  have h2 : 0 ≤ (12 + a) * (100 + b) := Int.mul_nonneg (by omega) (by omega)
  have h3 : 0 ≤ (12 - a) * (100 + b) := Int.mul_nonneg (by omega) (by omega)
  have h4 : 0 ≤ (12 + a) * (100 - b) := Int.mul_nonneg (by omega) (by omega)
  simp only [Int.sub_mul, Int.add_mul, Int.mul_sub, Int.mul_add] at h1 h2 h3 h4
  omega
theorem getD_rng {x : List Int} (hx : ∀ y ∈ x, -100 ≤ y ∧ y ≤ 100) (k : Nat) : -100 ≤ x.getD k 0 ∧ x.getD k 0 ≤ 100 := by
  rw [List.getD_eq_getElem?_getD]
  rcases h : x[k]? with _ | y
  · simp
  · exact hx y (List.mem_of_getElem? h)
theorem dotS_rng {g : Nat → Int} {x : List Int} (hg : ∀ k, -12 ≤ g k ∧ g k ≤ 12) (hx : ∀ y ∈ x, -100 ≤ y ∧ y ≤ 100) : ∀ k : Nat, -(1200 * (k : Int)) ≤ dotS g x k ∧ dotS g x k ≤ 1200 * k
  | 0 => by simp [dotS]
  | k + 1 => by
    have ih := dotS_rng hg hx k
    have h := mul_rng (hg k) (getD_rng hx k)
    unfold dotS
    omega
/-- the vector x reflected at v -/
def reflL (q : Qv) (x : List Int) (v : Nat) : List Int := x.set v (x.getD v 0 - dotS (ent q q.f.length v) x x.length)
def reflQ (q : Qv) (x : List Int) (v : Int) : List Int × Bool := if isNum q x && inR v 0 (q.v - 1) && !loopQ q v then (reflL q x v.toNat, true) else ([], false)
theorem loop_ent {q : Qv} {v : Nat} (hl : q.f.length = q.t.length) : (ent q q.f.length v v != 2) = loopQ q v := by
  have h1 : arr q v v q.f.length = (q.f.zip q.t).countP fun p => p.1 == (v : Int) && p.2 == (v : Int) := by
    rw [arr, List.take_of_length_le (by simp; omega)]
  have h2 : ent q q.f.length v v = 2 - 2 * (arr q v v q.f.length : Int) := by rw [ent, if_pos rfl]; omega
  rw [Bool.eq_iff_iff, bne_iff_ne, h2, h1, loopQ]
  have h3 := List.countP_pos_iff (p := fun p : Int × Int => p.1 == (v : Int) && p.2 == (v : Int)) (l := q.f.zip q.t)
  rw [List.any_eq_true]
  constructor
  · intro h
    have : 0 < List.countP (fun p : Int × Int => p.1 == (v : Int) && p.2 == (v : Int)) (q.f.zip q.t) := by omega
    exact h3.1 this
  · intro h
    have := h3.2 h
    omega

theorem SlI.atN {w : World} {B n c : Nat} {A : Option Addr} {xs : List Int} {k : Nat} (h : SlI w B (.slice A n c) xs) (hn : xs.length = n) (hk : k < n) :
    ∃ b o x, A = some ⟨b, o, none⟩ ∧ b < B ∧ Hid (xs[k]? = some x) ∧ w.cell? ⟨b, o + k, none⟩ = some (.int .i64 x) ∧ -9223372036854775808 ≤ x ∧ x ≤ 9223372036854775807 := by
  subst hn
  exact SlI.at_ h hk

set_option maxHeartbeats 800000 in
set_option maxRecDepth 20000 in
theorem l20Reflect_any (mv xv : Value) (q : Qv) (x : List Int) (v : Nat) (w : World) (hm : SlII w w.heap.size mv (symM q)) (hx : SlI w w.heap.size xv x) (hq : isNum q x = true) (hv : v < q.v.toNat) :
    Calls Try.prog 139 #[mv, xv, .int .i64 v] w fun e w' => ∃ u, e = .returned u ∧ IntsO w' w.heap.size w'.heap.size u (reflL q x v) ∧ Below w.heap.size w w' := by
  obtain ⟨hq1, hq2, hq3⟩ := isNum_t.1 hq
  obtain ⟨⟨hv1, hv2⟩, hlen, hl6, _, _⟩ := isQ_t.1 hq1
  obtain ⟨V, hV⟩ : ∃ V : Nat, q.v.toNat = V := ⟨_, rfl⟩
  have hxV : x.length = V := by omega
  have hV5 : V ≤ 5 := by omega
  rw [hV] at hv
  have hmv : (symM q)[v]? = some (rowF V (ent q q.f.length v)) := by rw [symM, hV]; exact matF_get _ hv
  have hml : v < (symM q).length := by rw [symM, hV, matF_length]; exact hv
  obtain ⟨MA, mc, rfl, _, _, lm, hm'⟩ := hm.open_
  obtain ⟨XA, xc, rfl, _, _, lx, hx'⟩ := hx.open_
  clear hm hx
  obtain ⟨mb, mo, l, LA, lc, rfl, hmb, HL, ml, hl⟩ := SlII.at_ hm' hml
  have el : l = rowF V (ent q q.f.length v) := by
    have h := HL.out
    rw [hmv] at h
    injection h with h
    exact h.symm
  have hll : l.length = V := by rw [el, rowF_length]
  have HEL := Lib.hid el
  have HLL := Lib.hid hll
  have HXV := Lib.hid hxV
  have HX3 := Lib.hid hq3
  have hmlen : (symM q).length = V := by rw [symM, hV, matF_length]
  have HML := Lib.hid hmlen
  clear el hll hmv hq hq1 hq2 hq3 hlen hm' hv1 hv2 hV hmlen
  rw [HLL.out] at ml hl
  rw [HML.out] at hml ⊢
  rw [HXV.out] at hx' lx ⊢
  have hxs := hx'
  go_enter Try.func139, Try.ntmps139
  (go_wp2_with (at_builtin; refine Hold.stop ?_)); unfold Hold
  have ho0 : OwnI (w.alloc (.cells #[] 3)) w.heap.size (.slice (some ⟨w.heap.size, 0, none⟩) 0 0) [] := OwnI.made _ rfl (Nat.le_refl _)
  refine wpList_appI rfl (.tmp 10) (.tmp 11) rfl w.heap.size w.heap.size (.slice (some ⟨w.heap.size, 0, none⟩) 0 0) [] rfl ho0 _ _ _ x rfl HXV.out.symm (by rw [HXV.out]; exact SlI.below (below_alloc _ _) hx') (by simp; omega) (by simp) ?_
  intro v1 w1 ho1 hg1 hvv
  rw [List.nil_append] at ho1
  have hb1 : Below w.heap.size w w1 := ((Below.refl _ _).alloc (Nat.le_refl _) (.cells #[] 3)).grown hg1 (by simp) (fun j hj => (ho0.lt j hj).1)
  obtain ⟨OA, oc, rfl, _, _⟩ := ho1.form
  rw [HXV.out] at ho1 ⊢
  clear hg1 hvv ho0
  go_wp2
  have hmo : Try.prog.follows .mixedOrders = true := by kernel_rfl
  have hgr : ∀ i, -12 ≤ ent q q.f.length v i ∧ ent q q.f.length v i ≤ 12 := fun i => by have := ent_rng q q.f.length v i hl6; omega
  have HGR := Lib.hid hgr
  have hsr := Lib.hid (dotS_rng hgr HX3.out)
  clear hgr hxV
  go_loopw [8, 9] (fun s i wr => ∃ k : Nat, k ≤ V ∧ i = .int .i64 k ∧ s = .int .i64 (dotS (ent q q.f.length v) x k) ∧ OwnI wr w.heap.size (.slice OA V oc) x ∧ Below w.heap.size w wr) (fun _ i _ => V - (intOf i).toNat)
  case atStart => exact ⟨0, Nat.zero_le _, rfl, rfl, ho1, hb1⟩
  case round =>
    clear ho1 hb1
    obtain ⟨k, hk, rfl, rfl, hown, hbel⟩ := hrel
    have hsk := hsr.out k
    obtain ⟨s, hs⟩ : ∃ s, dotS (ent q q.f.length v) x k = s := ⟨_, rfl⟩
    rw [hs] at hsk ⊢
    have HS := Lib.hid hs
    clear hs
    by_cases hlt : k < V
    · obtain ⟨b1, o1, y, rfl, hb1, HY, y1, _⟩ := SlI.atN hl HLL.out hlt
      obtain ⟨b2, o2, z, rfl, hb2, HZ, z1, _⟩ := SlI.atN hx' HXV.out hlt
      have m2 := bcell hbel hmb ml
      have y2 := bcell hbel hb1 y1
      have z2 := bcell hbel hb2 z1
      have hye : y = ent q q.f.length v k := by
        have h := HY.out
        rw [HEL.out, rowF_get _ hlt] at h
        injection h with h
        exact h.symm
      have hze : x.getD k 0 = z := by rw [List.getD_eq_getElem?_getD, HZ.out]; rfl
      have hyr : -12 ≤ y ∧ y ≤ 12 := by rw [hye]; exact HGR.out k
      have hzr := HX3.out z (List.mem_of_getElem? HZ.out)
      have hpr := mul_rng hyr hzr
      obtain ⟨p, hp⟩ : ∃ p, y * z = p := ⟨_, rfl⟩
      rw [hp] at hpr
      have hst : Hid (dotS (ent q q.f.length v) x (k + 1) = s + p) := by show _ = _; rw [dotS, HS.out, ← hye, hze, hp]
      clear hye hze y1 z1
      go_wp2_with fail
      go_quiet (fail)
      go_wp2
      go_roundw
      case rel => exact ⟨k + 1, by omega, by go_num, by rw [hst.out], hown.drewN nq, below_drewN hbel nq⟩
      case measure => simp [intOf]; omega
    · have HKV := Lib.hid (show k = V by omega)
      obtain ⟨g, rfl, hgl⟩ : ∃ g, OA = some ⟨g, 0, none⟩ ∧ w.heap.size ≤ g := by
        rcases hown.1.2 with ⟨e, _⟩ | ⟨g, cap, cur, e, hg, _⟩
        · injection e with _ e _
          omega
        · injection e with e _ _
          exact ⟨g, e, hg⟩
      have hzr := getD_rng HX3.out v
      have ci := (hown.cellG (j := v) (by rw [HXV.out]; exact hv)).1
      have fi := hown.frozenG v
      have HR : Hid (reflL q x v = x.set v (x.getD v 0 - s)) := by show _ = _; rw [reflL, HXV.out, ← HKV.out, HS.out]
      obtain ⟨z, hz⟩ : ∃ z, x.getD v 0 = z := ⟨_, rfl⟩
      rw [hz] at hzr ci
      have hR := HR.out
      rw [hz] at hR
      have HR2 := Lib.hid hR
      have hp := hown.put (j := v) (x := z - s) ⟨by omega, by omega⟩
      rw [← hR] at hp
      have hb2 := hbel.grown hp.2 (by have := hbel.size; omega) (fun j hj => by injection hj with hj; omega)
      have HP := Lib.hid hp.1
      clear hz hR HR hp hown
      go_wp2
      exact bodyPost_ret (v := .slice (some ⟨g, 0, none⟩) V oc) (by simp [results, go_sem]) rfl ⟨_, rfl, IntsO.of_own HP.out, hb2⟩
end Go.Proofs.Ytpcgjjflmhnimaa
