/- FnExactReflectSink: for every argument the program's function returns what the reference's returns. Part 8 of 13 of the proof: RfP, SSO, RfC, PenOf, RepCl, DsM, RfI. No condition. -/
import Derived.Test.YtcmlflppndfdcaaBReflectSink7
/- Representations reflected at a vertex, plain. -/
namespace Go.Proofs.Ytcmlflppndfdcaa
set_option linter.unusedVariables false
set_option linter.unusedSimpArgs false
open Go.RowKit

/-- the dimension at the other end of an arrow at a vertex -/
def othN (x : Rp) (v : Int) (i : Nat) : Nat := (dAt x.d (x.q.f.getD i 0 + x.q.t.getD i 0 - v)).toNat
def atN (x : Rp) (v : Int) : Nat → Nat
  | 0 => 0
  | k + 1 => if tch x.q v k = true then atN x v k + othN x v k else atN x v k
def rfM (x : Rp) (v : Int) (G : Nat → Mx) (k i : Nat) : Mx := if i < k ∧ tch x.q v i = true then G i else x.m.getD i mx0
def rfK (x : Rp) (v : Int) (K : Nat) (G : Nat → Mx) (k : Nat) : Rp := ⟨x.p, rvQ x.q v, x.d.set v.toNat K, msF x.q.f.length (rfM x v G k)⟩
def rfP (x : Rp) (v : Int) (K : Nat) (G : Nat → Mx) : Rp × Bool := if areDims (rvQ x.q v) (x.d.set v.toNat K) then (rfK x v K G x.q.f.length, true) else (rp0, false)
theorem rfM_0 {x : Rp} (h : x.m.length = x.q.f.length) (v : Int) (G : Nat → Mx) : msF x.q.f.length (rfM x v G 0) = x.m := by
  apply List.ext_getElem
  · rw [msF_length, h]
  · intro i h1 h2
    have := msF_get (rfM x v G 0) (show i < x.q.f.length by omega)
    rw [List.getElem?_eq_getElem h1] at this
    injection this with this
    rw [this, rfM, if_neg (by omega), List.getD_eq_getElem?_getD, List.getElem?_eq_getElem h2]; rfl
theorem rfM_yes {x : Rp} {v : Int} {G : Nat → Mx} {k : Nat} (h : tch x.q v k = true) : (msF x.q.f.length (rfM x v G k)).set k (G k) = msF x.q.f.length (rfM x v G (k + 1)) := by
  rw [msF_set]
  refine msF_congr fun i _ => ?_
  by_cases e : i = k
  · subst e; rw [if_pos rfl, rfM, if_pos ⟨by omega, h⟩]
  · rw [if_neg e]; unfold rfM
    by_cases e2 : i < k ∧ tch x.q v i = true
    · rw [if_pos e2, if_pos ⟨by omega, e2.2⟩]
    · rw [if_neg e2, if_neg fun e3 => e2 ⟨by omega, e3.2⟩]
theorem rfM_no {x : Rp} {v : Int} {G : Nat → Mx} {k : Nat} (h : tch x.q v k = false) : rfM x v G (k + 1) = rfM x v G k := by
  funext i
  unfold rfM
  by_cases e2 : i < k ∧ tch x.q v i = true
  · rw [if_pos e2, if_pos ⟨by omega, e2.2⟩]
  · rw [if_neg e2, if_neg fun e3 => e2 ⟨Nat.lt_of_le_of_ne (by omega) (by rintro rfl; rw [h] at e3; exact absurd e3.2 (by decide)), e3.2⟩]
theorem rfM_at {x : Rp} {v : Int} {G : Nat → Mx} {k : Nat} {m : Mx} (hm : x.m[k]? = some m) : rfM x v G k k = m := by
  rw [rfM, if_neg (by omega), List.getD_eq_getElem?_getD, hm]; rfl
theorem endV_not {l : List Int} {q : Qv} {v : Int} (h : endV l q v = true) : v ∉ l ∧ 0 ≤ v ∧ v ≤ q.v - 1 := by
  simp only [endV, Bool.and_eq_true, inR_t, Bool.not_eq_true', decide_eq_false_iff_not] at h
  exact ⟨h.2, h.1⟩
theorem oth_at {x : Rp} {v : Int} {k nf nt yf yt : Nat} (ef : x.q.f[k]? = some (nf : Int)) (et : x.q.t[k]? = some (nt : Int)) (df : x.d[nf]? = some (yf : Int)) (dt : x.d[nt]? = some (yt : Int)) :
    ((nt : Int) = v → othN x v k = yf) ∧ ((nf : Int) = v → othN x v k = yt) := by
  constructor
  · rintro rfl
    rw [othN, List.getD_eq_getElem?_getD, ef, List.getD_eq_getElem?_getD, et]
    simp only [Option.getD_some]
    rw [show (nf : Int) + nt - nt = nf by omega, dAt, Int.toNat_natCast, List.getD_eq_getElem?_getD, df]
    simp
  · rintro rfl
    rw [othN, List.getD_eq_getElem?_getD, ef, List.getD_eq_getElem?_getD, et]
    simp only [Option.getD_some]
    rw [show (nf : Int) + nt - nf = nt by omega, dAt, Int.toNat_natCast, List.getD_eq_getElem?_getD, dt]
    simp
theorem atN_in {x : Rp} {v : Int} {C : Nat} (hx : isRep x = true) (hv : endV x.q.f x.q v = true) : ∀ k, k ≤ x.q.f.length → atN x v k = (inS x v C k).1
  | 0, _ => rfl
  | k + 1, hk => by
    have ih := atN_in (C := C) hx hv k (by omega)
    obtain ⟨m, nf, nt, yf, yt, em, ef, et, df, dt, eM, _⟩ := isRep_at hx (show k < x.q.f.length by omega)
    have hnf : (nf : Int) ≠ v := fun e => (endV_not hv).1 (e ▸ List.mem_of_getElem? ef)
    obtain ⟨o1, o2⟩ := oth_at (v := v) ef et df dt
    rw [atN, tch_of ef et]
    by_cases h : (nt : Int) = v
    · rw [if_pos (by simp [h]), o1 h]
      rw [h] at et
      rw [inS_yes et em (yf := yf) (by rw [eM]; rfl), ih]
    · rw [if_neg (by simp [h, hnf]), inS_no et h, ih]
theorem atN_out {x : Rp} {v : Int} {C : Nat} (hx : isRep x = true) (hv : endV x.q.t x.q v = true) : ∀ k, k ≤ x.q.f.length → atN x v k = (outS x v C k).1
  | 0, _ => rfl
  | k + 1, hk => by
    have ih := atN_out (C := C) hx hv k (by omega)
    obtain ⟨m, nf, nt, yf, yt, em, ef, et, df, dt, eM, _⟩ := isRep_at hx (show k < x.q.f.length by omega)
    have hnt : (nt : Int) ≠ v := fun e => (endV_not hv).1 (e ▸ List.mem_of_getElem? et)
    obtain ⟨o1, o2⟩ := oth_at (v := v) ef et df dt
    rw [atN, tch_of ef et]
    by_cases h : (nf : Int) = v
    · rw [if_pos (by simp [h]), o2 h]
      rw [h] at ef
      rw [outS_yes ef em (yt := yt) (by rw [eM]; rfl), ih]
    · rw [if_neg (by simp [h, hnt]), outS_no ef h, ih]
theorem atN_mono {x : Rp} {v : Int} : ∀ m k, atN x v k ≤ atN x v (k + m)
  | 0, _ => Nat.le_refl _
  | m + 1, k => by
    have := atN_mono (x := x) (v := v) m k
    rw [← Nat.add_assoc, atN]
    split <;> omega
theorem atN_fit {x : Rp} {v : Int} {k n : Nat} (h : tch x.q v k = true) (hk : k < n) : atN x v k + othN x v k ≤ atN x v n := by
  have h1 : atN x v (k + 1) = atN x v k + othN x v k := by rw [atN, if_pos h]
  obtain ⟨m, rfl⟩ := Nat.exists_eq_add_of_lt hk
  have := atN_mono (x := x) (v := v) m (k + 1)
  rw [h1] at this
  rwa [show k + m + 1 = k + 1 + m by omega]
/-- the new matrices at a sink, and at a source -/
def gSink (x : Rp) (v : Int) (K : Nat) (F : Nat → Nat → Int) (i : Nat) : Mx := mxF (othN x v i) K fun a b => F b (atN x v i + a)
def gSrc (x : Rp) (v : Int) (K : Nat) (F : Nat → Nat → Int) (i : Nat) : Mx := mxF K (othN x v i) fun b a => F b (atN x v i + a)
theorem rowsF_drop (r c k : Nat) (f : Nat → Nat → Int) : (rowsF r c f).drop k = rowsF (r - k) c fun a b => f (k + a) b := by
  apply List.ext_getElem?
  intro i
  rw [List.getElem?_drop]
  by_cases h : k + i < r
  · rw [rowsF_get _ h, rowsF_get _ (show i < r - k by omega)]
  · rw [List.getElem?_eq_none (by rw [rowsF_length]; omega), List.getElem?_eq_none (by rw [rowsF_length]; omega)]
theorem rowsF_take (r c k : Nat) (f : Nat → Nat → Int) (hk : k ≤ r) : (rowsF r c f).take k = rowsF k c f := by
  apply List.ext_getElem?
  intro i
  rw [List.getElem?_take]
  by_cases h : i < k
  · rw [if_pos h, rowsF_get _ h, rowsF_get _ (by omega)]
  · rw [if_neg h, List.getElem?_eq_none (by rw [rowsF_length]; omega)]
/-- a part of a slice -/
theorem SlG.cut {α : Type} {R : World → Nat → Nat → Nat → α → Prop} {w : World} {B c : Nat} {A : Option Addr} {xs : List α} {i k : Nat} (h : SlG 1 R w B (.slice A xs.length c) xs) (hik : i ≤ k) (hk : k ≤ xs.length) :
    ∃ A', (if c = i then A else A.map (·.add (i * 1))) = A' ∧ SlG 1 R w B (.slice A' (k - i) (c - i)) ((xs.drop i).take (k - i)) := by
  obtain ⟨A2, c2, e, h1, h2, h3, h4⟩ := h
  injection e with e1 e2 e3
  subst e1 e3
  refine ⟨_, rfl, ?_⟩
  have hl : ((xs.drop i).take (k - i)).length = k - i := by simp; omega
  refine ⟨_, c - i, by rw [hl], by rw [hl]; omega, by omega, by rw [hl]; omega, fun hp => ?_⟩
  rw [hl] at hp
  obtain ⟨b, o, rfl, hb, hc⟩ := h4 (by omega)
  rw [if_neg (by omega)]
  refine ⟨b, o + i, ?_, hb, fun j x hx => ?_⟩
  · have e : (⟨b, o, none⟩ : Addr).add i = ⟨b, o + i, none⟩ := by unfold Addr.add; split <;> simp_all
    simp [e]
  · rw [List.getElem?_take] at hx
    split at hx
    · rw [List.getElem?_drop] at hx
      have := hc (i + j) x hx
      rwa [show o + (i + j) * 1 = o + i + j * 1 by omega] at this
    · cases hx
theorem SlG.takeG {α : Type} {R : World → Nat → Nat → Nat → α → Prop} {w : World} {B c k : Nat} {A : Option Addr} {xs : List α} (h : SlG 1 R w B (.slice A xs.length c) xs) (hk : k ≤ xs.length) : SlG 1 R w B (.slice A k c) (xs.take k) := by
  obtain ⟨A2, c2, e, h1, h2, h3, h4⟩ := h
  injection e with e1 e2 e3
  subst e1 e3
  have hl : (xs.take k).length = k := by simp; omega
  refine ⟨_, c, by rw [hl], by rw [hl]; omega, h2, by rw [hl]; omega, fun hp => ?_⟩
  rw [hl] at hp
  obtain ⟨b, o, rfl, hb, hc⟩ := h4 (by omega)
  refine ⟨b, o, rfl, hb, fun j x hx => ?_⟩
  rw [List.getElem?_take] at hx
  split at hx
  · exact hc j x hx
  · cases hx
/-- the quiver of a representation of the call's own put anew -/
theorem RepO.setQ {w : World} {lo hi lo' hi' : Nat} {p v v' : Int} {f t d m f' t' : Value} {x : Rp} {q : Qv} (h : RepO w lo hi (.agg #[.int .i64 p, .int .i64 v, f, t, d, m]) x) (hq : QuivO w lo' hi' (.agg #[.int .i64 v', f', t']) q) (h1 : hi' ≤ lo) (h2 : lo' ≤ lo) (h3 : lo ≤ hi) :
    RepO w lo' hi (.agg #[.int .i64 p, .int .i64 v', f', t', d, m]) ⟨x.p, q, x.d, x.m⟩ := by
  obtain ⟨f1, t1, d1, m1, vs, e, hO, hvl, hF, hi1, hi2⟩ := h
  simp only [Value.agg.injEq, Array.mk.injEq, List.cons.injEq, and_true, Value.int.injEq, true_and] at e
  obtain ⟨e1, e2, rfl, rfl, rfl, rfl⟩ := e
  obtain ⟨a, b, e, hF2, hr⟩ := hq
  simp only [Value.agg.injEq, Array.mk.injEq, List.cons.injEq, and_true, Value.int.injEq, true_and] at e
  obtain ⟨e3, rfl, rfl⟩ := e
  have hL2 : Fam w lo hi ((d, x.d) :: vs.zip (x.m.map Mx.a)) := ⟨fun p hp => hF.1 p (by simp only [List.cons_append, List.nil_append, List.mem_cons] at hp ⊢; rcases hp with hp | hp <;> simp [hp]), by
    have := hF.2
    simp only [List.cons_append, List.nil_append, List.pairwise_cons] at this
    rw [List.pairwise_cons]
    exact ⟨this.2.2.1, this.2.2.2⟩⟩
  refine ⟨f', t', d, m, vs, by rw [e1, e3], hO.mono h2 (Nat.le_refl _), hvl, ?_, ⟨hi1.1, hr⟩, hi2⟩
  refine ⟨fun p hp => ?_, ?_⟩
  · simp only [List.cons_append, List.nil_append, List.mem_cons] at hp
    rcases hp with rfl | rfl | hp
    · exact (hF2.1 (f', q.f) (by simp)).wider (Nat.le_refl _) (by omega)
    · exact (hF2.1 (t', q.t) (by simp)).wider (Nat.le_refl _) (by omega)
    · exact (hL2.1 p (by rw [List.mem_cons]; exact hp)).wider h2 (Nat.le_refl _)
  · have hc : ∀ a ∈ [(f', q.f), (t', q.t)], ∀ b ∈ (d, x.d) :: vs.zip (x.m.map Mx.a), a.1.ownBlock = none ∨ a.1.ownBlock ≠ b.1.ownBlock := fun a ha b hb => by
      have g1 := hF2.1 a ha
      have g2 := hL2.1 b hb
      rcases hA : a.1.ownBlock with _ | y
      · exact .inl rfl
      · refine .inr fun e => ?_
        have := g1.2 y hA
        have := (g2.1.lt y e.symm).1
        omega
    have := List.pairwise_append.2 ⟨hF2.2, hL2.2, hc⟩
    simpa using this
end Go.Proofs.Ytcmlflppndfdcaa

/- Lists of lists of ints of the call's own, taken as one thing: made, read, a row set, a number set, a row appended. -/
namespace Go.Proofs.Ytcmlflppndfdcaa
set_option linter.unusedVariables false
set_option linter.unusedSimpArgs false
open Go.RowKit

theorem IntssO.wider {w : World} {lo hi lo' hi' : Nat} {v : Value} {ll : List (List Int)} (h : IntssO w lo hi v ll) (h1 : lo' ≤ lo) (h2 : hi ≤ hi') : IntssO w lo' hi' v ll := by
  obtain ⟨vs, a, b, c⟩ := h
  exact ⟨vs, a.mono h1 h2, b, c.mono h1 h2⟩
theorem IntssO.form2 {w : World} {lo hi : Nat} {v : Value} {ll : List (List Int)} (h : IntssO w lo hi v ll) : ∃ A c, v = .slice A ll.length c ∧ ll.length ≤ c ∧ c ≤ 9223372036854775807 ∧ ll.length ≤ 17592186044416 := by
  obtain ⟨vs, a, b, c⟩ := h
  obtain ⟨A, d, h1, h2, h3⟩ := a.form
  exact ⟨A, d, by rw [h1, b], by omega, h3, by have := a.2.2; omega⟩
theorem IntssO.nil (w : World) (lo hi : Nat) : IntssO w lo hi (.slice none 0 0) [] := ⟨[], ⟨World.ownsRow_nil _ _ _ _, by simp [Value.ownBlock], by simp⟩, rfl, ⟨fun p hp => by simp at hp, by simp⟩⟩
theorem IntssO.made0 (w : World) {lo : Nat} (h : lo ≤ w.heap.size) : IntssO (w.alloc (.cells #[] 22)) lo (w.alloc (.cells #[] 22)).heap.size (.slice (some ⟨w.heap.size, 0, none⟩) 0 0) [] :=
  ⟨[], ⟨World.ownsRow_made w #[] 0 h (by simp [maxLen]) (by simp), by simp [Value.ownBlock], by simp⟩, rfl, ⟨fun p hp => by simp at hp, by simp⟩⟩
theorem IntssO.made (w : World) {lo n : Nat} (h : lo ≤ w.heap.size) (hn : n ≤ 17592186044416) : IntssO (w.alloc (.cells (mkCells (.slice none 0 0) n) 22)) lo (w.alloc (.cells (mkCells (.slice none 0 0) n) 22)).heap.size (.slice (some ⟨w.heap.size, 0, none⟩) n n) (List.replicate n []) := by
  refine ⟨List.replicate n (.slice none 0 0), ?_, by simp, ⟨fun p hp => ?_, ?_⟩⟩
  · have h1 := (Blk.new w 22 (mkCells (.slice none 0 0) n)).own (base := lo) (n := n) (cap := n) (size := 1) h (Nat.le_refl _) (by simp only [maxLen]; omega) (by rw [mkCells_size]; omega)
    rw [show (mkCells (.slice none 0 0) n).toList = List.replicate n (.slice none 0 0) from toList_madeCells_one _ _, List.take_of_length_le (by simp)] at h1
    exact ⟨by simpa using h1, fun k hk => by simp [Value.ownBlock] at hk; simp; omega, by simpa using hn⟩
  · obtain ⟨a, b⟩ := p
    have h1 := List.of_mem_zip hp
    obtain ⟨_, rfl⟩ := List.mem_replicate.1 h1.1
    obtain ⟨_, rfl⟩ := List.mem_replicate.1 h1.2
    exact ⟨OwnI.nil _ _, by simp [Value.ownBlock]⟩
  · rw [List.pairwise_iff_getElem]
    intro i j hi hj hij
    left
    simp [Value.ownBlock]
theorem IntssO.at_ {w : World} {lo hi : Nat} {v : Value} {ll : List (List Int)} (h : IntssO w lo hi v ll) (h0 : 0 < ll.length) : ∃ g c, v = .slice (some ⟨g, 0, none⟩) ll.length c ∧ lo ≤ g ∧ g < hi ∧ g < w.heap.size ∧ ll.length ≤ c ∧ c ≤ 9223372036854775807 := by
  obtain ⟨vs, a, b, c⟩ := h
  rcases a.1.2 with ⟨_, h1⟩ | ⟨g, cap, cur, rfl, hg, hh, hnc, hcm, _⟩
  · omega
  · exact ⟨g, cap, by rw [b], hg, a.2.1 g (by simp [Value.ownBlock]), (Array.getElem?_eq_some_iff.1 hh).1, by omega, by simp only [maxLen] at hcm; omega⟩
theorem IntssO.row {w : World} {lo hi g n c j : Nat} {ll : List (List Int)} {l : List Int} (h : IntssO w lo hi (.slice (some ⟨g, 0, none⟩) n c) ll) (hj : ll[j]? = some l) : ∃ u, w.cell? ⟨g, j, none⟩ = some u ∧ IntsO w lo hi u l ∧ w.frozen? ⟨g, j, none⟩ = false := by
  obtain ⟨vs, a, b, F⟩ := h
  have hl := lt_of_some hj
  have hv : vs[j]? = some (vs[j]'(by omega)) := List.getElem?_eq_getElem (by omega)
  exact ⟨_, a.cellS hv, F.1 (vs[j]'(by omega), l) (by rw [zip_split hv hj]; simp), a.frozenS j⟩
theorem OutO.blk {w : World} {lo hi g n c : Nat} {vs : List Value} (h : OutO w lo hi (.slice (some ⟨g, 0, none⟩) n c) vs) : ∃ cs, Blk w g 22 cs ∧ n = vs.length := by
  rcases h.1.2 with ⟨e, _⟩ | ⟨g', cap', cur, e, _, hh, _⟩
  · cases e
  · injection e with e1 e2 _
    injection e1 with e1
    injection e1 with e1
    subst e1
    exact ⟨cur, hh, e2⟩
/-- a row set: of memory made later than the rest -/
theorem IntssO.setRow {w : World} {lo hi mi hi' g n c j : Nat} {ll : List (List Int)} {l : List Int} {u : Value} (h : IntssO w lo hi (.slice (some ⟨g, 0, none⟩) n c) ll) (hj : j < ll.length) (hu : IntsO w mi hi' u l) (h1 : hi ≤ mi) (h2 : mi ≤ hi') (h3 : lo ≤ mi) :
    IntssO (w.setCell ⟨g, j, none⟩ u) lo hi' (.slice (some ⟨g, 0, none⟩) n c) (ll.set j l) ∧ Chg g (g + 1) w (w.setCell ⟨g, j, none⟩ u) := by
  obtain ⟨vs, a, b, F⟩ := h
  obtain ⟨cs, hb, hn⟩ := a.blk
  refine ⟨⟨vs.set j u, ?_, by simp [b], ?_⟩, chg_set (Nat.le_refl _) (Nat.lt_succ_self _)⟩
  · have h4 := (hn ▸ a.1).stored j u
    rw [hn]
    exact ⟨by simpa using h4.1, fun k hk => Nat.lt_of_lt_of_le (a.2.1 k (by simpa [Value.ownBlock] using hk)) (by omega), by simpa using a.2.2⟩
  · have hv : vs[j]? = some (vs[j]'(by omega)) := List.getElem?_eq_getElem (by omega)
    have hl : ll[j]? = some (ll[j]'hj) := List.getElem?_eq_getElem hj
    have hsv : (vs.set j u)[j]? = some u := by rw [List.getElem?_set, if_pos rfl, if_pos (by omega)]
    have hsl : (ll.set j l)[j]? = some l := by rw [List.getElem?_set, if_pos rfl, if_pos hj]
    have F2 := F.setBlk (i := j) hb (by decide) u
    have hu2 : IntsO (w.setCell ⟨g, j, none⟩ u) mi hi' u l := ⟨hu.1.setCell (p := ⟨g, j, none⟩) (fun e => hu.1.blkne hb (by decide) e.symm) u, hu.2⟩
    rw [zip_split hsv hsl, List.take_set_of_le (Nat.le_refl j), List.drop_set_of_lt (by omega), List.take_set_of_le (Nat.le_refl j), List.drop_set_of_lt (by omega)]
    rw [zip_split hv hl] at F2
    obtain ⟨G1, G2⟩ := F2
    rw [List.pairwise_append] at G2
    obtain ⟨P1, P2, P3⟩ := G2
    rw [List.pairwise_cons] at P2
    refine ⟨fun p hp => ?_, ?_⟩
    · rcases List.mem_append.1 hp with hp | hp
      · exact (G1 p (by simp [hp])).wider (Nat.le_refl _) (by omega)
      · rcases List.mem_cons.1 hp with rfl | hp
        · exact hu2.wider h3 (Nat.le_refl _)
        · exact (G1 p (by simp [hp])).wider (Nat.le_refl _) (by omega)
    · rw [List.pairwise_append, List.pairwise_cons]
      refine ⟨P1, ⟨fun p hp => ?_, P2.2⟩, fun p hp q hq => ?_⟩
      · rcases hA : u.ownBlock with _ | x
        · exact .inl rfl
        · refine .inr fun e2 => ?_
          have h5 := (G1 p (by simp [hp])).2 x e2.symm
          have h6 := (hu2.1.lt x hA).1
          omega
      · rcases List.mem_cons.1 hq with rfl | hq
        · rcases hA : p.1.ownBlock with _ | x
          · exact .inl rfl
          · refine .inr fun e => ?_
            have h5 := (G1 p (by simp [hp])).2 x hA
            have h6 := (hu2.1.lt x e.symm).1
            omega
        · exact P3 p hp q (by simp [hq])
/-- a number set in a row -/
theorem IntssO.putAt {w : World} {lo hi gr n c j i : Nat} {v : Value} {ll : List (List Int)} {l : List Int} {x : Int} (h : IntssO w lo hi v ll) (hj : ll[j]? = some l) (hx : I64 x)
    (hrow : ∀ vs, vs.length = ll.length → OutO w lo hi v vs → Fam w lo hi (vs.zip ll) → vs[j]? = some (.slice (some ⟨gr, 0, none⟩) n c)) :
    IntssO (w.setCell ⟨gr, i, none⟩ (.int .i64 x)) lo hi v (ll.set j (l.set i x)) ∧ w.grownBy (w.setCell ⟨gr, i, none⟩ (.int .i64 x)) (some gr) := by
  obtain ⟨vs, a, b, F⟩ := h
  have hv := hrow vs b a F
  have ho := F.1 (.slice (some ⟨gr, 0, none⟩) n c, l) (by rw [zip_split hv hj]; simp)
  obtain ⟨_, _, e⟩ := ho.form
  injection e with _ e _
  replace e : n = l.length := e
  subst e
  have hp := ho.1.put (j := i) hx
  exact ⟨⟨vs, a.grown ho.1 hp.2, by simp [b], F.putAt hv hj ho.1 hx⟩, hp.2⟩
theorem IntssO.cellRow {w : World} {lo hi g n' c' gr n c j : Nat} {ll : List (List Int)} (hc : w.cell? ⟨g, j, none⟩ = some (.slice (some ⟨gr, 0, none⟩) n c)) :
    ∀ vs, j < vs.length → OutO w lo hi (.slice (some ⟨g, 0, none⟩) n' c') vs → Fam w lo hi (vs.zip ll) → vs[j]? = some (.slice (some ⟨gr, 0, none⟩) n c) := fun vs hl ho _ => by
  have hv : vs[j]? = some (vs[j]'hl) := List.getElem?_eq_getElem hl
  have := ho.cellS hv
  rw [hc] at this
  rw [hv, this]
/-- a number set in a row, the row's value read from its cell -/
theorem IntssO.put {w : World} {lo hi g n' c' gr n c j i : Nat} {ll : List (List Int)} {l : List Int} {x : Int} (h : IntssO w lo hi (.slice (some ⟨g, 0, none⟩) n' c') ll) (hj : ll[j]? = some l) (hc : w.cell? ⟨g, j, none⟩ = some (.slice (some ⟨gr, 0, none⟩) n c)) (hx : I64 x) :
    IntssO (w.setCell ⟨gr, i, none⟩ (.int .i64 x)) lo hi (.slice (some ⟨g, 0, none⟩) n' c') (ll.set j (l.set i x)) ∧ w.grownBy (w.setCell ⟨gr, i, none⟩ (.int .i64 x)) (some gr) :=
  h.putAt hj hx fun vs hl ho F => IntssO.cellRow hc vs (by have := lt_of_some hj; omega) ho F
/-- append of a row -/
theorem wpList_appR {w : World} {ops : Array Oper} {rest : List Oper} {o : Oper} {a : Act} {Q : Exit → Act → World → Prop} (hgd : o.guard = none) (s x : Operand)
    (ho : o.op = .call { callee := .builtin .append, args := #[s, x], argTypes := #[51, 51] })
    (lo hi mi hi' : Nat) (v : Value) (ll : List (List Int)) (l : List Int) (hs : a.eval s = v) (hown : IntssO w lo hi v ll) (A : Option Addr) (c : Nat) (u : Value) (hx : a.eval x = .slice A 1 c) (hA : ∃ b o, A = some ⟨b, o, none⟩ ∧ w.cell? ⟨b, o, none⟩ = some u) (hu : IntsO w mi hi' u l)
    (h1 : hi ≤ mi) (h2 : mi ≤ hi') (h3 : lo ≤ mi) (hn : ll.length + 1 ≤ 1048576) (hlo : lo ≤ w.heap.size) (hhi : hi' ≤ w.heap.size)
    (h : ∀ v' w', IntssO w' lo w'.heap.size v' (ll ++ [l]) → Below lo w w' → w.grownBy w' v.ownBlock → wpList Try.prog ops Q rest (a.put o.dst v') w') : wpList Try.prog ops Q (o :: rest) a w := by
  obtain ⟨vs, h4, h5, h6⟩ := hown
  refine wpList_appS hgd s x ho lo v vs hs h4.1 A c u hx hA (by obtain ⟨A', c', rfl, _⟩ := hu.1.form; rfl) (by omega) hlo fun v' w' k1 k2 k3 => ?_
  have hbg : Below lo w w' := below_grown k2 (fun k hk => (h4.1.lt k hk).1) hlo
  have F2 := ((h6.mono (Nat.le_refl _) h1).snoc hu h3 h2).mono (Nat.le_refl _) (Nat.le_trans hhi hbg.size)
  have F3 := Fam.grownO (by simpa using F2) h4.1 k2
  refine h v' w' ⟨vs ++ [u], ⟨k1, fun k hk => (k1.lt k hk).2, by simp; omega⟩, by simp [h5], ?_⟩ hbg k2
  rw [List.zip_append h5]
  exact F3
theorem chg_belowB {B : Nat} {w w' : World} (h : Below B w w') : Chg B w.heap.size w w' := ⟨h.os, h.tape, h.output, h.size, fun k hk hne => h.block k (by omega)⟩
end Go.Proofs.Ytcmlflppndfdcaa

/- The closures of ReflectSink and ReflectSource. -/
namespace Go.Proofs.Ytcmlflppndfdcaa
set_option linter.unusedVariables false
set_option linter.unusedSimpArgs false
open Go.RowKit

set_option maxHeartbeats 1600000 in
theorem refSink1_any (u : Value) (r c : Nat) (f : Nat → Nat → Int) (w0 : World) (hu : MxR w0 w0.heap.size u (mxF r c f)) (hr : r ≤ 1000) (hc : c ≤ 1000) :
    Calls Try.prog 70 #[u] w0 fun e w' => ∃ v, e = .returned v ∧ MxO w' w0.heap.size w'.heap.size v (mxF c r fun a b => f b a) ∧ Below w0.heap.size w0 w' := by
  have hu' := hu
  obtain ⟨UA, uc, rfl⟩ := hu.form
  simp only [mxF] at hu hu' ⊢
  rw [flat_length] at hu hu' ⊢
  obtain ⟨UL, hUL⟩ : ∃ n, r * c = n := ⟨_, rfl⟩
  rw [hUL] at hu hu' ⊢
  have HUL := Lib.hid hUL
  clear hUL hu
  obtain ⟨W, hW⟩ : ∃ W, W = (w0.alloc (.cells #[.int .i64 r, .int .i64 c, .slice UA UL uc] 84)).alloc (.cells #[.int .i64 0, .int .i64 0, .slice none 0 0] 84) := ⟨_, rfl⟩
  have g0 : Below w0.heap.size w0 W := by rw [hW]; exact ((Below.refl _ _).alloc (Nat.le_refl _) _).alloc (by simp) _
  have k1 : Blk W w0.heap.size 84 #[.int .i64 r, .int .i64 c, .slice UA UL uc] := by rw [hW]; exact (Blk.new _ _ _).alloc _
  have k2 : Blk W (w0.heap.size + 1) 84 #[.int .i64 0, .int .i64 0, .slice none 0 0] := by
    rw [hW]
    have := Blk.new (w0.alloc (.cells #[.int .i64 r, .int .i64 c, .slice UA UL uc] 84)) 84 #[.int .i64 0, .int .i64 0, .slice none 0 0]
    simpa only [World.size_alloc] using this
  have sz : W.heap.size = w0.heap.size + 1 + 1 := by rw [hW]; simp
  have SZ := Lib.hid sz
  have HU := Lib.hid (MxR.next g0 hu')
  clear hu' sz
  go_enter Try.func70, Try.ntmps70
  go_wp2
  rw [← hW]; clear hW
  refine wp_region_net (by kernel_rfl) [.eq (.pointer (some ⟨w0.heap.size, 1, none⟩)), .eq (.int .i64 c), .eq (.agg #[.int .i64 r, .int .i64 c, .slice UA UL uc]), rel 3 (fun u lo hi w => IntssO w lo hi u (rowsF r c f)), rel 4 (fun u lo hi w => MxO w lo hi u (mxF c r fun a b => f b a))] [[], [0], [], [2], [0, 1, 2, 3], [0, 1, 2, 3, 4]] 5 (by kernel_rfl) ⟨trivial, trivial, trivial, rel_stable (fun u lo hi w w' h hb => h.below hb), rel_stable (fun u lo hi w w' h hb => h.below hb), trivial⟩ ⟨?_, ?_, ?_, ?_, ?_, trivial⟩ ?_
  · intro x w hb hk Q' hQ
    clear hk
    simp only [netAct, dstAt, List.getElem?_toArray, List.getElem?_cons_zero, List.getElem?_cons_succ, Option.bind_some, Act.put, List.setIfInBounds_toArray, List.set_cons_zero, List.set_cons_succ] at hQ ⊢
    go_wp2
    exact hQ (.pointer (some ⟨w0.heap.size, 1, none⟩)) _ (Below.refl _ _) rfl
  · intro x w hb hk Q' hQ
    have h0 : x.v 0 = .pointer (some ⟨w0.heap.size, 1, none⟩) := (hk 0 (by decide)).1
    clear hk
    simp only [netAct, dstAt, List.getElem?_toArray, List.getElem?_cons_zero, List.getElem?_cons_succ, Option.bind_some, Act.put, List.setIfInBounds_toArray, List.set_cons_zero, List.set_cons_succ] at hQ ⊢
    simp only [h0] at hQ ⊢
    clear h0
    have z1 := (k1.call hb).cell' (i := 1) rfl
    go_wp2
    exact hQ (.int .i64 c) _ (Below.refl _ _) rfl
  · intro x w hb hk Q' hQ
    clear hk
    simp only [netAct, dstAt, List.getElem?_toArray, List.getElem?_cons_zero, List.getElem?_cons_succ, Option.bind_some, Act.put, List.setIfInBounds_toArray, List.set_cons_zero, List.set_cons_succ] at hQ ⊢
    have z0 := (k1.call hb).cell' (i := 0) rfl
    have z1 := (k1.call hb).cell' (i := 1) rfl
    have z2 := (k1.call hb).cell' (i := 2) rfl
    go_wp2
    exact hQ (.agg #[.int .i64 r, .int .i64 c, .slice UA UL uc]) _ (Below.refl _ _) rfl
  · intro x w hb hk Q' hQ
    have h2 : x.v 2 = .agg #[.int .i64 r, .int .i64 c, .slice UA UL uc] := (hk 2 (by decide)).1
    clear hk
    simp only [netAct, dstAt, List.getElem?_toArray, List.getElem?_cons_zero, List.getElem?_cons_succ, Option.bind_some, Act.put, List.setIfInBounds_toArray, List.set_cons_zero, List.set_cons_succ] at hQ ⊢
    simp only [h2] at hQ ⊢
    clear h2
    go_wp2_with fail
    refine (rows_any _ r c f _ (MxR.next hb HU.out) hr hc).mono ?_; rintro e w1 ⟨v1, rfl, ho, hb1⟩
    go_wp2
    exact hQ _ _ hb1 ho
  · intro x w hb hk Q' hQ
    have h0 : x.v 0 = .pointer (some ⟨w0.heap.size, 1, none⟩) := (hk 0 (by decide)).1
    have h1 : x.v 1 = .int .i64 c := (hk 1 (by decide)).1
    have h2 : x.v 2 = .agg #[.int .i64 r, .int .i64 c, .slice UA UL uc] := (hk 2 (by decide)).1
    have h3 : IntssO w (x.lo 3) (x.hi 3) (x.v 3) (rowsF r c f) := (hk 3 (by decide)).1
    have s3 := (hk 3 (by decide)).2
    clear hk
    simp only [netAct, dstAt, List.getElem?_toArray, List.getElem?_cons_zero, List.getElem?_cons_succ, Option.bind_some, Act.put, List.setIfInBounds_toArray, List.set_cons_zero, List.set_cons_succ] at hQ ⊢
    simp only [h0, h1, h2] at hQ ⊢
    clear h0 h1 h2
    have H3 := Lib.hid h3.rd
    obtain ⟨A3, c3, e3, _⟩ := h3.form2
    rw [e3] at H3 hQ ⊢
    go_wp2_with fail
    refine (fromColumns_any _ c r (fun a b => f b a) _ H3.out hc hr).mono ?_; rintro e w1 ⟨v1, rfl, ho, hb1⟩
    go_wp2
    exact hQ _ _ hb1 ho
  · intro x w hb hk hiv hdj
    have h0 : x.v 0 = .pointer (some ⟨w0.heap.size, 1, none⟩) := hk 0 (by decide)
    have h1 : x.v 1 = .int .i64 c := hk 1 (by decide)
    have h2 : x.v 2 = .agg #[.int .i64 r, .int .i64 c, .slice UA UL uc] := hk 2 (by decide)
    have h3 : IntssO w (x.lo 3) (x.hi 3) (x.v 3) (rowsF r c f) := hk 3 (by decide)
    have h4 : MxO w (x.lo 4) (x.hi 4) (x.v 4) (mxF c r fun a b => f b a) := hk 4 (by decide)
    clear hk
    simp only [netAct, dstAt, List.getElem?_toArray, List.getElem?_cons_zero, List.getElem?_cons_succ, Option.bind_some, Act.put, List.setIfInBounds_toArray, List.set_cons_zero, List.set_cons_succ]
    simp only [List.drop_succ_cons, List.drop_zero, h0, h1, h2]
    clear h0 h1 h2
    have i4 := hiv 4 (by decide)
    obtain ⟨A4, c4, e4⟩ := h4.form
    simp only [mxF] at e4
    rw [flat_length] at e4
    have H4 := h4
    simp only [mxF] at H4
    rw [e4] at H4 ⊢
    obtain ⟨L4, hL4⟩ : ∃ n, c * r = n := ⟨_, rfl⟩
    have HL4 := Lib.hid hL4
    rw [hL4] at H4 ⊢
    have k2' := k2.call hb
    have f2 := k2'.frozen
    have r0 := k2'.cell' (i := 0) rfl
    have r1 := k2'.cell' (i := 1) rfl
    have r2 := k2'.cell' (i := 2) rfl
    have gf := g0.trans (hb.mono g0.size)
    have sz := SZ.out
    have hbs := hb.size
    have hc := chg3 w (w0.heap.size + 1) (.int .i64 c) (.int .i64 r) (.slice A4 L4 c4)
    have OF := Lib.hid ((H4.chg hc (.inr (by omega))).wider (lo' := w0.heap.size) (hi' := w.heap.size) (by omega) (by omega))
    have GF := Lib.hid (gf.trans (hc.below (by omega) gf.size))
    clear h3 h4 H4 e4 k1 k2 k2' hb hL4 hiv hdj i4 gf hc
    go_wp2
    exact bodyPost_ret (v := .agg #[.int .i64 c, .int .i64 r, .slice A4 L4 c4]) (by simp [results, go_sem, r0, r1, r2]) rfl ⟨_, rfl, by have := OF.out.wider (Nat.le_refl _) (Nat.le_refl _); simpa [mxF] using this, GF.out⟩
end Go.Proofs.Ytcmlflppndfdcaa

/- copyMatrices; the two PencilOf. -/
namespace Go.Proofs.Ytcmlflppndfdcaa
set_option linter.unusedVariables false
set_option linter.unusedSimpArgs false
open Go.RowKit

theorem SlM.I64s {w : World} {B : Nat} {v : Value} {l : List Mx} (h : SlM w B v l) : ∀ m ∈ l, I64 m.r ∧ I64 m.c := by
  obtain ⟨A, c, rfl, _, _, _, h⟩ := h.open_
  intro m hm
  obtain ⟨j, hj⟩ := List.getElem?_of_mem hm
  obtain ⟨_, _, m', _, _, _, _, HX, _, _, _, _, h1, h2, _⟩ := SlM.at_ h (lt_of_some hj)
  have := HX.out
  rw [hj] at this
  injection this with this
  subst this
  exact ⟨h1, h2⟩

set_option maxHeartbeats 3200000 in
set_option maxRecDepth 100000 in
theorem copyMatrices_any (u : Value) (ms : List Mx) (w : World) (hu : SlM w w.heap.size u ms) (hn : ms.length ≤ 1000000) :
    Calls Try.prog 146 #[u] w fun e w' => ∃ v, e = .returned v ∧ MatsO w' w.heap.size w'.heap.size v ms ∧ Below w.heap.size w w' := by
  have hI := Lib.hid (SlM.I64s hu)
  obtain ⟨A, c, rfl, _, _, _, hx⟩ := hu.open_
  clear hu
  go_enter Try.func146, Try.ntmps146
  go_wp2
  go_loopw [3, 8] (fun mv i wr => ∃ (k : Nat) (vs : List Value), k ≤ ms.length ∧ i = .int .i64 k ∧ Below w.heap.size w wr ∧ RowO 84 3 wr w.heap.size wr.heap.size mv k (mxCs vs (ms.take k)) ∧ vs.length = k ∧ Fam wr w.heap.size wr.heap.size (vs.zip ((ms.take k).map Mx.a))) (fun _ i _ => ms.length - (intOf i).toNat)
  case atStart => exact ⟨0, [], Nat.zero_le _, rfl, Below.refl _ _, RowO.nil _ _ _ _, rfl, ⟨fun p hp => by simp at hp, by simp⟩⟩
  case round =>
    obtain ⟨k, vs, hk, rfl, hbel, hO, hvl, hF⟩ := hrel
    have HVL := Lib.hid hvl
    clear hvl
    by_cases hlt : k < ms.length
    · obtain ⟨b, o, m, A', c', rfl, hb, HX, x1, x2, x3, hsl, i1, i2, _⟩ := SlM.at_ hx hlt
      have d1 := bcell hbel hb x1
      have d2 := bcell hbel hb x2
      have d3 := bcell hbel hb x3
      have hbs := hbel.size
      obtain ⟨W1, hW1⟩ : ∃ W, W = wr.alloc (.cells #[.int .i64 m.r, .int .i64 m.c, .slice A' m.a.length c'] 84) := ⟨_, rfl⟩
      have ga : Below wr.heap.size wr W1 := by rw [hW1]; exact below_alloc _ _
      have hmx : MxR W1 W1.heap.size (.agg #[.int .i64 m.r, .int .i64 m.c, .slice A' m.a.length c']) m := ⟨_, rfl, SlI.next ga (SlI.more hbs (SlI.below hbel hsl)), i1, i2⟩
      have HTK := Lib.hid (show ms.take (k + 1) = ms.take k ++ [m] by rw [take_snoc HX.out])
      have hTL := Lib.hid (show (ms.take k).length = k by simp; omega)
      replace hO := hO.below ga
      replace hF := hF.below ga
      have sa := ga.size
      obtain ⟨mA, mc, emv, _, _⟩ := hO.form
      subst emv
      clear x1 x2 x3 hx hsl i1 i2
      go_wp2_with fail
      rw [← hW1]; clear hW1
      refine (mxClone_any _ m _ hmx).mono ?_; rintro e w1 ⟨v1, rfl, ⟨s, rfl, hs, _⟩, hb1⟩
      have s1 := hb1.size
      obtain ⟨sA, sc, es⟩ := hs.form
      obtain ⟨sn, hsn⟩ : ∃ n, m.a.length = n := ⟨_, rfl⟩
      rw [hsn] at es
      clear hsn
      subst es
      have gb1 : Below w.heap.size w w1 := hbel.trans ((bthen ga hb1).mono hbs)
      replace hO := (hO.below hb1).below (below_alloc w1 (.cells #[.int .i64 m.r, .int .i64 m.c, .slice sA sn sc] 84))
      have hF1 := (hF.below hb1).snoc (hs.wider sa (Nat.le_refl _)) (by omega) (by omega)
      have hF2 := hF1.below (below_alloc w1 (.cells #[.int .i64 m.r, .int .i64 m.c, .slice sA sn sc] 84))
      have HF2 := Lib.hid hF2
      clear hF hF1 hF2 hs hmx hb1 ga d1 d2 d3
      (go_wp2_with (at_builtin; refine Hold.stop ?_)); unfold Hold
      have hO'' : OutM (w1.alloc (.cells #[.int .i64 m.r, .int .i64 m.c, .slice sA sn sc] 84)) w.heap.size wr.heap.size (.slice mA k mc) vs (ms.take k) := by rw [OutM, hTL.out]; exact hO
      refine wpList_appM (by rfl) (.tmp 12) (.tmp 15) (by rfl) w.heap.size wr.heap.size (.slice mA k mc) vs (ms.take k) (by rfl) hO'' (by rw [HVL.out, hTL.out]) w1.heap.size 1 m (.slice sA sn sc) (by rfl) (Blk.new _ _ _) (by rfl) (by rw [hTL.out]; omega) (by simp; omega) ?_
      intro v' w' hO3 hA
      have gb3 : Below w.heap.size w w' := (gb1.alloc (by omega) _).trans (hA.below (Nat.le_refl _) (by simp; omega))
      have hF3 := HF2.out.appT (by decide) hA
      have hs3 := hA.size
      simp only [World.size_alloc] at hs3
      have HF3 := Lib.hid hF3
      have HO3 := Lib.hid hO3
      clear hF3 hO3 HF2 hO'' hO hA gb1
      go_wp2
      go_roundw
      case rel =>
        refine ⟨k + 1, vs ++ [.slice sA sn sc], by omega, by go_num, gb3, ?_, by simp [HVL.out], ?_⟩
        · have := HO3.out
          rw [OutM, List.length_append, hTL.out] at this
          rw [HTK.out]
          exact this
        · have e : (vs ++ [Value.slice sA sn sc]).zip ((ms.take (k + 1)).map Mx.a) = vs.zip ((ms.take k).map Mx.a) ++ [(.slice sA sn sc, m.a)] := by
            rw [HTK.out, List.map_append, List.zip_append (by rw [List.length_map, HVL.out, hTL.out])]
            rfl
          rw [e]
          exact HF3.out.mono (Nat.le_refl _) (by omega)
      case measure => simp [intOf]; omega
    · obtain rfl : k = ms.length := by omega
      obtain ⟨mA, mc, emv, _, _⟩ := hO.form
      subst emv
      rw [List.take_length] at hO hF
      have hM : MatsO wr w.heap.size wr.heap.size (.slice mA ms.length mc) ms := ⟨vs, hO, HVL.out, hF, hI.out⟩
      have HM := Lib.hid hM
      clear hM hO hF
      go_wp2
      go_ret
      exact ⟨_, rfl, HM.out, hbel⟩

theorem SlM.two {w : World} {B g : Nat} {a b : Mx} {u v : Value} (hB : B = w.heap.size) (hg : Blk w g 84 #[.int .i64 a.r, .int .i64 a.c, u, .int .i64 b.r, .int .i64 b.c, v]) (ha : SlI w B u a.a) (hb : SlI w B v b.a) (i1 : I64 a.r ∧ I64 a.c) (i2 : I64 b.r ∧ I64 b.c) : SlM w B (.slice (some ⟨g, 0, none⟩) 2 2) [a, b] := by
  refine ⟨_, 2, rfl, by simp, by omega, by simp, fun _ => ⟨g, 0, rfl, by rw [hB]; exact hg.lt, fun j x hj => ?_⟩⟩
  match j, hj with
  | 0, hj =>
    simp at hj
    subst hj
    exact ⟨u, hg.cell' (i := 0) rfl, hg.cell' (i := 1) rfl, hg.cell' (i := 2) rfl, ha, i1⟩
  | 1, hj =>
    simp at hj
    subst hj
    exact ⟨v, hg.cell' (i := 3) rfl, hg.cell' (i := 4) rfl, hg.cell' (i := 5) rfl, hb, i2⟩
  | j + 2, hj => simp at hj
theorem IntsO.two (w : World) {lo : Nat} (x y : Int) (hx : I64 x) (hy : I64 y) (hlo : lo ≤ w.heap.size) : IntsO (w.alloc (.cells #[.int .i64 x, .int .i64 y] 3)) lo (w.alloc (.cells #[.int .i64 x, .int .i64 y] 3)).heap.size (.slice (some ⟨w.heap.size, 0, none⟩) 2 2) [x, y] :=
  IntsO.of_own (OwnI.of_blk (xs := [x, y]) (Blk.new _ _ _) hlo ⟨rfl, fun j z hj hz => by
    match j, hz with
    | 0, hz => simp at hz; subst hz; rfl
    | 1, hz => simp at hz; subst hz; rfl
    | j + 2, hz => simp at hz⟩ (by simp) (by simp [hx, hy]))
/-- three families of three stretches that are apart -/
theorem Fam.three {w : World} {lo hi l1 h1 l2 h2 l3 h3 : Nat} {L1 L2 L3 : List (Value × List Int)} (f1 : Fam w l1 h1 L1) (f2 : Fam w l2 h2 L2) (f3 : Fam w l3 h3 L3) (d12 : h1 ≤ l2 ∨ h2 ≤ l1) (d13 : h1 ≤ l3 ∨ h3 ≤ l1) (d23 : h2 ≤ l3 ∨ h3 ≤ l2)
    (b1 : lo ≤ l1 ∧ h1 ≤ hi) (b2 : lo ≤ l2 ∧ h2 ≤ hi) (b3 : lo ≤ l3 ∧ h3 ≤ hi) : Fam w lo hi (L1 ++ (L2 ++ L3)) := by
  have ap : ∀ {l1 h1 l2 h2 : Nat} {L1 L2 : List (Value × List Int)}, Fam w l1 h1 L1 → Fam w l2 h2 L2 → (h1 ≤ l2 ∨ h2 ≤ l1) → ∀ a ∈ L1, ∀ b ∈ L2, a.1.ownBlock = none ∨ a.1.ownBlock ≠ b.1.ownBlock := by
    intro l1 h1 l2 h2 L1 L2 f g hd a ha b hb
    rcases hA : a.1.ownBlock with _ | x
    · exact .inl rfl
    · right
      intro e
      have q1 := (f.1 a ha).2 x hA
      have q2 := ((f.1 a ha).1.lt x hA).1
      have q3 := (g.1 b hb).2 x e.symm
      have q4 := ((g.1 b hb).1.lt x e.symm).1
      omega
  refine ⟨fun p hp => ?_, ?_⟩
  · rcases List.mem_append.1 hp with hp | hp
    · exact (f1.1 p hp).wider b1.1 b1.2
    · rcases List.mem_append.1 hp with hp | hp
      · exact (f2.1 p hp).wider b2.1 b2.2
      · exact (f3.1 p hp).wider b3.1 b3.2
  · rw [List.pairwise_append, List.pairwise_append]
    refine ⟨f1.2, ⟨f2.2, f3.2, ap f2 f3 d23⟩, fun a ha b hb => ?_⟩
    rcases List.mem_append.1 hb with hb | hb
    · exact ap f1 f2 d12 a ha b hb
    · exact ap f1 f3 d13 a ha b hb

def penRep (p : Int) (a b : Mx) : Rp := ⟨p, pQ, [a.c, a.r], [a, b]⟩
def penOf (p : Int) (a b : Mx) : Rp × Bool := if isRep (penRep p a b) then (penRep p a b, true) else (rp0, false)


end Go.Proofs.Ytcmlflppndfdcaa

/- (Rep).clone. -/
namespace Go.Proofs.Ytcmlflppndfdcaa
set_option linter.unusedVariables false
set_option linter.unusedSimpArgs false
open Go.RowKit

set_option maxHeartbeats 6400000 in
set_option maxRecDepth 100000 in
theorem repClone_any (u : Value) (y : Rp) (w0 : World) (hu : RpR w0 w0.heap.size u y) (hn : y.m.length ≤ 1000000) :
    Calls Try.prog 118 #[u] w0 fun e w' => ∃ v, e = .returned v ∧ RepO w' w0.heap.size w'.heap.size v y ∧ Below w0.heap.size w0 w' := by
  obtain ⟨A, a, C, c, E, e, H, h, rfl, hq, hd, hm, hp, ld, lm⟩ := hu.open_
  have hv := hu
  clear hu
  obtain ⟨W, hW⟩ : ∃ W, W = (w0.alloc (.cells #[.int .i64 y.p, .int .i64 y.q.v, .slice A y.q.f.length a, .slice C y.q.t.length c, .slice E y.d.length e, .slice H y.m.length h] 31)).alloc (.cells #[.int .i64 0, .int .i64 0, .slice none 0 0, .slice none 0 0, .slice none 0 0, .slice none 0 0] 31) := ⟨_, rfl⟩
  have g0 : Below w0.heap.size w0 W := by rw [hW]; exact ((Below.refl _ _).alloc (Nat.le_refl _) _).alloc (by simp) _
  have k1 : Blk W w0.heap.size 31 #[.int .i64 y.p, .int .i64 y.q.v, .slice A y.q.f.length a, .slice C y.q.t.length c, .slice E y.d.length e, .slice H y.m.length h] := by rw [hW]; exact (Blk.new _ _ _).alloc _
  have k2 : Blk W (w0.heap.size + 1) 31 #[.int .i64 0, .int .i64 0, .slice none 0 0, .slice none 0 0, .slice none 0 0, .slice none 0 0] := by
    rw [hW]
    have := Blk.new (w0.alloc (.cells #[.int .i64 y.p, .int .i64 y.q.v, .slice A y.q.f.length a, .slice C y.q.t.length c, .slice E y.d.length e, .slice H y.m.length h] 31)) 31 #[.int .i64 0, .int .i64 0, .slice none 0 0, .slice none 0 0, .slice none 0 0, .slice none 0 0]
    simpa only [World.size_alloc] using this
  have sz : W.heap.size = w0.heap.size + 1 + 1 := by rw [hW]; simp
  have SZ := Lib.hid sz
  clear sz
  have HIm := Lib.hid (SlM.I64s hm)
  have HQ := Lib.hid (QvR.next g0 hq)
  have HD := Lib.hid (SlI.next g0 hd)
  have HM := Lib.hid (SlM.next g0 hm)
  have HI := Lib.hid (show I64 y.p ∧ I64 y.q.v from by obtain ⟨_, _, _, _, _, _, _, _, _, h⟩ := hv; exact h)
  clear hq hd hm hv hp
  go_enter Try.func118, Try.ntmps118
  go_wp2
  rw [← hW]; clear hW
  refine wp_region_net (by kernel_rfl) [.eq (.pointer (some ⟨w0.heap.size, 0, none⟩)), .eq (.int .i64 y.p), .eq (.pointer (some ⟨w0.heap.size, 1, none⟩)), .eq (.agg #[.int .i64 y.q.v, .slice A y.q.f.length a, .slice C y.q.t.length c]), rel 4 (fun u lo hi w => QuivO w lo hi u y.q), .eq (.pointer (some ⟨w0.heap.size, 4, none⟩)), .eq (.slice E y.d.length e), rel 7 (fun u lo hi w => IntsO w lo hi u y.d), .eq (.pointer (some ⟨w0.heap.size, 5, none⟩)), .eq (.slice H y.m.length h), rel 10 (fun u lo hi w => MatsO w lo hi u y.m), .rel (fun x w => ∃ qa qb, x.v 4 = .agg #[.int .i64 y.q.v, qa, qb] ∧ x.v 11 = .agg #[.int .i64 y.p, .int .i64 y.q.v, qa, qb, x.v 7, x.v 10])] [[], [0], [], [2], [2, 3], [], [5], [2, 3, 4, 5, 6], [], [8], [2, 3, 4, 5, 6, 7, 8, 9], [0, 1, 2, 3, 4, 5, 6, 7, 8, 9, 10], [0, 1, 2, 3, 4, 5, 6, 7, 8, 9, 10, 11]] 12 (by kernel_rfl) ⟨trivial, trivial, trivial, trivial, rel_stable (fun u lo hi w w' h hb => h.below hb), trivial, trivial, rel_stable (fun u lo hi w w' h hb => h.below hb), trivial, trivial, rel_stable (fun u lo hi w w' h hb => h.below hb), fun x w w' h hb => h, trivial⟩ ⟨?_, ?_, ?_, ?_, ?_, ?_, ?_, ?_, ?_, ?_, ?_, ?_, trivial⟩ ?_
  · intro x w hb hk Q' hQ
    clear hk
    simp only [netAct, dstAt, List.getElem?_toArray, List.getElem?_cons_zero, List.getElem?_cons_succ, Option.bind_some, Act.put, List.setIfInBounds_toArray, List.set_cons_zero, List.set_cons_succ] at hQ ⊢
    go_wp2
    exact hQ (.pointer (some ⟨w0.heap.size, 0, none⟩)) _ (Below.refl _ _) rfl
  · intro x w hb hk Q' hQ
    have h0 : x.v 0 = .pointer (some ⟨w0.heap.size, 0, none⟩) := (hk 0 (by decide)).1
    clear hk
    simp only [netAct, dstAt, List.getElem?_toArray, List.getElem?_cons_zero, List.getElem?_cons_succ, Option.bind_some, Act.put, List.setIfInBounds_toArray, List.set_cons_zero, List.set_cons_succ] at hQ ⊢
    simp only [h0] at hQ ⊢
    clear h0
    have z := (k1.call hb).cell' (i := 0) rfl
    go_wp2
    exact hQ (.int .i64 y.p) _ (Below.refl _ _) rfl
  · intro x w hb hk Q' hQ
    clear hk
    simp only [netAct, dstAt, List.getElem?_toArray, List.getElem?_cons_zero, List.getElem?_cons_succ, Option.bind_some, Act.put, List.setIfInBounds_toArray, List.set_cons_zero, List.set_cons_succ] at hQ ⊢
    go_wp2
    exact hQ (.pointer (some ⟨w0.heap.size, 1, none⟩)) _ (Below.refl _ _) rfl
  · intro x w hb hk Q' hQ
    have h2 : x.v 2 = .pointer (some ⟨w0.heap.size, 1, none⟩) := (hk 2 (by decide)).1
    clear hk
    simp only [netAct, dstAt, List.getElem?_toArray, List.getElem?_cons_zero, List.getElem?_cons_succ, Option.bind_some, Act.put, List.setIfInBounds_toArray, List.set_cons_zero, List.set_cons_succ] at hQ ⊢
    simp only [h2] at hQ ⊢
    clear h2
    have z1 := (k1.call hb).cell' (i := 1) rfl
    have z2 := (k1.call hb).cell' (i := 2) rfl
    have z3 := (k1.call hb).cell' (i := 3) rfl
    go_wp2
    exact hQ (.agg #[.int .i64 y.q.v, .slice A y.q.f.length a, .slice C y.q.t.length c]) _ (Below.refl _ _) rfl
  · intro x w hb hk Q' hQ
    have h2 : x.v 2 = .pointer (some ⟨w0.heap.size, 1, none⟩) := (hk 2 (by decide)).1
    have h3 : x.v 3 = .agg #[.int .i64 y.q.v, .slice A y.q.f.length a, .slice C y.q.t.length c] := (hk 3 (by decide)).1
    clear hk
    simp only [netAct, dstAt, List.getElem?_toArray, List.getElem?_cons_zero, List.getElem?_cons_succ, Option.bind_some, Act.put, List.setIfInBounds_toArray, List.set_cons_zero, List.set_cons_succ] at hQ ⊢
    simp only [h2, h3] at hQ ⊢
    clear h2 h3
    go_wp2_with fail
    refine (qvClone_any _ y.q _ (QvR.next hb HQ.out)).mono ?_; rintro e w1 ⟨v1, rfl, ho, hb1⟩
    go_wp2
    exact hQ _ _ hb1 ho
  · intro x w hb hk Q' hQ
    clear hk
    simp only [netAct, dstAt, List.getElem?_toArray, List.getElem?_cons_zero, List.getElem?_cons_succ, Option.bind_some, Act.put, List.setIfInBounds_toArray, List.set_cons_zero, List.set_cons_succ] at hQ ⊢
    go_wp2
    exact hQ (.pointer (some ⟨w0.heap.size, 4, none⟩)) _ (Below.refl _ _) rfl
  · intro x w hb hk Q' hQ
    have h5 : x.v 5 = .pointer (some ⟨w0.heap.size, 4, none⟩) := (hk 5 (by decide)).1
    clear hk
    simp only [netAct, dstAt, List.getElem?_toArray, List.getElem?_cons_zero, List.getElem?_cons_succ, Option.bind_some, Act.put, List.setIfInBounds_toArray, List.set_cons_zero, List.set_cons_succ] at hQ ⊢
    simp only [h5] at hQ ⊢
    clear h5
    have z := (k1.call hb).cell' (i := 4) rfl
    go_wp2
    exact hQ (.slice E y.d.length e) _ (Below.refl _ _) rfl
  · intro x w hb hk Q' hQ
    have h2 : x.v 2 = .pointer (some ⟨w0.heap.size, 1, none⟩) := (hk 2 (by decide)).1
    have h3 : x.v 3 = .agg #[.int .i64 y.q.v, .slice A y.q.f.length a, .slice C y.q.t.length c] := (hk 3 (by decide)).1
    have h4 : QuivO w (x.lo 4) (x.hi 4) (x.v 4) y.q := (hk 4 (by decide)).1
    have h5 : x.v 5 = .pointer (some ⟨w0.heap.size, 4, none⟩) := (hk 5 (by decide)).1
    have h6 : x.v 6 = .slice E y.d.length e := (hk 6 (by decide)).1
    have s4 := (hk 4 (by decide)).2
    clear hk
    simp only [netAct, dstAt, List.getElem?_toArray, List.getElem?_cons_zero, List.getElem?_cons_succ, Option.bind_some, Act.put, List.setIfInBounds_toArray, List.set_cons_zero, List.set_cons_succ] at hQ ⊢
    simp only [h2, h3, h5, h6] at hQ ⊢
    clear h2 h3 h5 h6
    go_wp2_with fail
    refine (clone_own _ y.d _ (SlI.next hb HD.out)).mono ?_; rintro e w1 ⟨v1, rfl, ho, hb1⟩
    go_wp2
    exact hQ _ _ hb1 ho
  · intro x w hb hk Q' hQ
    clear hk
    simp only [netAct, dstAt, List.getElem?_toArray, List.getElem?_cons_zero, List.getElem?_cons_succ, Option.bind_some, Act.put, List.setIfInBounds_toArray, List.set_cons_zero, List.set_cons_succ] at hQ ⊢
    go_wp2
    exact hQ (.pointer (some ⟨w0.heap.size, 5, none⟩)) _ (Below.refl _ _) rfl
  · intro x w hb hk Q' hQ
    have h8 : x.v 8 = .pointer (some ⟨w0.heap.size, 5, none⟩) := (hk 8 (by decide)).1
    clear hk
    simp only [netAct, dstAt, List.getElem?_toArray, List.getElem?_cons_zero, List.getElem?_cons_succ, Option.bind_some, Act.put, List.setIfInBounds_toArray, List.set_cons_zero, List.set_cons_succ] at hQ ⊢
    simp only [h8] at hQ ⊢
    clear h8
    have z := (k1.call hb).cell' (i := 5) rfl
    go_wp2
    exact hQ (.slice H y.m.length h) _ (Below.refl _ _) rfl
  · intro x w hb hk Q' hQ
    have h2 : x.v 2 = .pointer (some ⟨w0.heap.size, 1, none⟩) := (hk 2 (by decide)).1
    have h3 : x.v 3 = .agg #[.int .i64 y.q.v, .slice A y.q.f.length a, .slice C y.q.t.length c] := (hk 3 (by decide)).1
    have h4 : QuivO w (x.lo 4) (x.hi 4) (x.v 4) y.q := (hk 4 (by decide)).1
    have h5 : x.v 5 = .pointer (some ⟨w0.heap.size, 4, none⟩) := (hk 5 (by decide)).1
    have h6 : x.v 6 = .slice E y.d.length e := (hk 6 (by decide)).1
    have h7 : IntsO w (x.lo 7) (x.hi 7) (x.v 7) y.d := (hk 7 (by decide)).1
    have h8 : x.v 8 = .pointer (some ⟨w0.heap.size, 5, none⟩) := (hk 8 (by decide)).1
    have h9 : x.v 9 = .slice H y.m.length h := (hk 9 (by decide)).1
    have s4 := (hk 4 (by decide)).2
    have s7 := (hk 7 (by decide)).2
    clear hk
    simp only [netAct, dstAt, List.getElem?_toArray, List.getElem?_cons_zero, List.getElem?_cons_succ, Option.bind_some, Act.put, List.setIfInBounds_toArray, List.set_cons_zero, List.set_cons_succ] at hQ ⊢
    simp only [h2, h3, h5, h6, h8, h9] at hQ ⊢
    clear h2 h3 h5 h6 h8 h9
    go_wp2_with fail
    refine (copyMatrices_any _ y.m _ (SlM.next hb HM.out) hn).mono ?_; rintro e w1 ⟨v1, rfl, ho, hb1⟩
    go_wp2
    exact hQ _ _ hb1 ho
  · intro x w hb hk Q' hQ
    have h0 : x.v 0 = .pointer (some ⟨w0.heap.size, 0, none⟩) := (hk 0 (by decide)).1
    have h1 : x.v 1 = .int .i64 y.p := (hk 1 (by decide)).1
    have h2 : x.v 2 = .pointer (some ⟨w0.heap.size, 1, none⟩) := (hk 2 (by decide)).1
    have h3 : x.v 3 = .agg #[.int .i64 y.q.v, .slice A y.q.f.length a, .slice C y.q.t.length c] := (hk 3 (by decide)).1
    have h4 : QuivO w (x.lo 4) (x.hi 4) (x.v 4) y.q := (hk 4 (by decide)).1
    have h5 : x.v 5 = .pointer (some ⟨w0.heap.size, 4, none⟩) := (hk 5 (by decide)).1
    have h6 : x.v 6 = .slice E y.d.length e := (hk 6 (by decide)).1
    have h7 : IntsO w (x.lo 7) (x.hi 7) (x.v 7) y.d := (hk 7 (by decide)).1
    have h8 : x.v 8 = .pointer (some ⟨w0.heap.size, 5, none⟩) := (hk 8 (by decide)).1
    have h9 : x.v 9 = .slice H y.m.length h := (hk 9 (by decide)).1
    have h10 : MatsO w (x.lo 10) (x.hi 10) (x.v 10) y.m := (hk 10 (by decide)).1
    have s4 := (hk 4 (by decide)).2
    have s7 := (hk 7 (by decide)).2
    have s10 := (hk 10 (by decide)).2
    clear hk
    simp only [netAct, dstAt, List.getElem?_toArray, List.getElem?_cons_zero, List.getElem?_cons_succ, Option.bind_some, Act.put, List.setIfInBounds_toArray, List.set_cons_zero, List.set_cons_succ] at hQ ⊢
    simp only [h0, h1, h2, h3, h5, h6, h8, h9] at hQ ⊢
    clear h0 h1 h2 h3 h5 h6 h8 h9
    obtain ⟨qa, qb, e4, hqF, _⟩ := h4
    have f1 : IntsO w (x.lo 4) (x.hi 4) qa y.q.f := hqF.1 (qa, y.q.f) (by simp)
    have f2 : IntsO w (x.lo 4) (x.hi 4) qb y.q.t := hqF.1 (qb, y.q.t) (by simp)
    obtain ⟨qA, qc, rfl⟩ := f1.form
    obtain ⟨qB, qd, rfl⟩ := f2.form
    obtain ⟨dA, dc, e7⟩ := h7.form
    obtain ⟨vs, h10, _⟩ := h10
    obtain ⟨mA, mc, e10, _, _⟩ := RowO.form h10
    have hQ' := hQ (.agg #[.int .i64 y.p, .int .i64 y.q.v, .slice qA y.q.f.length qc, .slice qB y.q.t.length qd, x.v 7, x.v 10]) w (Below.refl _ _) ⟨_, _, e4, rfl⟩
    rw [e4, e7, e10] at hQ' ⊢
    go_wp2
    exact hQ'
  · intro x w hb hk hiv hdj
    have h0 : x.v 0 = .pointer (some ⟨w0.heap.size, 0, none⟩) := hk 0 (by decide)
    have h1 : x.v 1 = .int .i64 y.p := hk 1 (by decide)
    have h2 : x.v 2 = .pointer (some ⟨w0.heap.size, 1, none⟩) := hk 2 (by decide)
    have h3 : x.v 3 = .agg #[.int .i64 y.q.v, .slice A y.q.f.length a, .slice C y.q.t.length c] := hk 3 (by decide)
    have h4 : QuivO w (x.lo 4) (x.hi 4) (x.v 4) y.q := hk 4 (by decide)
    have h5 : x.v 5 = .pointer (some ⟨w0.heap.size, 4, none⟩) := hk 5 (by decide)
    have h6 : x.v 6 = .slice E y.d.length e := hk 6 (by decide)
    have h7 : IntsO w (x.lo 7) (x.hi 7) (x.v 7) y.d := hk 7 (by decide)
    have h8 : x.v 8 = .pointer (some ⟨w0.heap.size, 5, none⟩) := hk 8 (by decide)
    have h9 : x.v 9 = .slice H y.m.length h := hk 9 (by decide)
    have h10 : MatsO w (x.lo 10) (x.hi 10) (x.v 10) y.m := hk 10 (by decide)
    have h11 : ∃ qa qb, x.v 4 = .agg #[.int .i64 y.q.v, qa, qb] ∧ x.v 11 = .agg #[.int .i64 y.p, .int .i64 y.q.v, qa, qb, x.v 7, x.v 10] := hk 11 (by decide)
    clear hk
    simp only [netAct, dstAt, List.getElem?_toArray, List.getElem?_cons_zero, List.getElem?_cons_succ, Option.bind_some, Act.put, List.setIfInBounds_toArray, List.set_cons_zero, List.set_cons_succ]
    simp only [List.drop_succ_cons, List.drop_zero, h0, h1, h2, h3, h5, h6, h8, h9]
    clear h0 h1 h2 h3 h5 h6 h8 h9
    obtain ⟨qa, qb, e4, hqF, _⟩ := h4
    have f1 : IntsO w (x.lo 4) (x.hi 4) qa y.q.f := hqF.1 (qa, y.q.f) (by simp)
    have f2 : IntsO w (x.lo 4) (x.hi 4) qb y.q.t := hqF.1 (qb, y.q.t) (by simp)
    obtain ⟨qA, qc, rfl⟩ := f1.form
    obtain ⟨qB, qd, rfl⟩ := f2.form
    obtain ⟨dA, dc, e7⟩ := h7.form
    obtain ⟨vs, ho, hvl, hFm, hIm⟩ := h10
    obtain ⟨mA, mc, e10, _, _⟩ := RowO.form ho
    obtain ⟨qa', qb', e4', e11⟩ := h11
    rw [e4] at e4'
    simp only [Value.agg.injEq, Array.mk.injEq, List.cons.injEq, and_true, true_and] at e4'
    obtain ⟨rfl, rfl⟩ := e4'
    rw [e7] at h7
    rw [e10] at ho
    rw [e7, e10] at e11
    have i4 := hiv 4 (by decide)
    have i7 := hiv 7 (by decide)
    have i10 := hiv 10 (by decide)
    have hF3 : Fam w W.heap.size w.heap.size ([(.slice qA y.q.f.length qc, y.q.f), (.slice qB y.q.t.length qd, y.q.t)] ++ ([(.slice dA y.d.length dc, y.d)] ++ vs.zip (y.m.map Mx.a))) :=
      Fam.three hqF (Fam.one h7) hFm (hdj 4 7 (by decide) (by decide) (by decide)) (hdj 4 10 (by decide) (by decide) (by decide)) (hdj 7 10 (by decide) (by decide) (by decide)) ⟨i4.1, i4.2.2⟩ ⟨i7.1, i7.2.2⟩ ⟨i10.1, i10.2.2⟩
    have hR : RepO w W.heap.size w.heap.size (.agg #[.int .i64 y.p, .int .i64 y.q.v, .slice qA y.q.f.length qc, .slice qB y.q.t.length qd, .slice dA y.d.length dc, .slice mA y.m.length mc]) y :=
      ⟨_, _, _, _, vs, rfl, ho.mono i10.1 i10.2.2, hvl, hF3, HI.out, hIm⟩
    rw [e11]
    have kz := k2.call hb
    have fr := kz.frozen
    have s0 := kz.cell' (i := 0) rfl
    have s1 := kz.cell' (i := 1) rfl
    have s2 := kz.cell' (i := 2) rfl
    have s3 := kz.cell' (i := 3) rfl
    have s4 := kz.cell' (i := 4) rfl
    have s5 := kz.cell' (i := 5) rfl
    have gf := g0.trans (hb.mono g0.size)
    have hc := chg6 w (w0.heap.size + 1) (.int .i64 y.p) (.int .i64 y.q.v) (.slice qA y.q.f.length qc) (.slice qB y.q.t.length qd) (.slice dA y.d.length dc) (.slice mA y.m.length mc)
    have sz := SZ.out
    have OF := Lib.hid ((hR.chg hc (.inr (by omega))).wider (lo' := w0.heap.size) (hi' := w.heap.size) (by omega) (Nat.le_refl _))
    have GF := Lib.hid (gf.trans (hc.below (by omega) gf.size))
    clear hR hF3 hqF hFm hIm h7 ho e4 e7 e10 e11 f1 f2 hiv hdj i4 i7 i10 kz gf hc sz hb k1 k2
    go_wp2
    exact bodyPost_ret (v := .agg #[.int .i64 y.p, .int .i64 y.q.v, .slice qA y.q.f.length qc, .slice qB y.q.t.length qd, .slice dA y.d.length dc, .slice mA y.m.length mc]) (by simp [results, go_sem, s0, s1, s2, s3, s4, s5]) rfl ⟨_, rfl, OF.out.wider (Nat.le_refl _) (by simp), GF.out⟩
end Go.Proofs.Ytcmlflppndfdcaa

/- Memory of sums: a number put into the dimensions, a matrix put in its place. -/
namespace Go.Proofs.Ytcmlflppndfdcaa
set_option linter.unusedVariables false
set_option linter.unusedSimpArgs false
open Go.RowKit

theorem mxCs_set3 : ∀ {vs : List Value} {ms : List Mx} {j : Nat}, j < ms.length → vs.length = ms.length → ∀ (m : Mx) (u : Value),
    (((mxCs vs ms).set (j * 3) (.int .i64 m.r)).set (j * 3 + 1) (.int .i64 m.c)).set (j * 3 + 2) u = mxCs (vs.set j u) (ms.set j m)
  | _, [], _, h, _, _, _ => by simp at h
  | [], _ :: _, _, _, h, _, _ => by simp at h
  | v :: vs, m :: ms, 0, _, _, x, u => by simp [mxCs]
  | v :: vs, m :: ms, j + 1, h, h2, x, u => by
    have := mxCs_set3 (vs := vs) (ms := ms) (j := j) (by simpa using h) (by simpa using h2) x u
    simp only [mxCs, show (j + 1) * 3 = j * 3 + 1 + 1 + 1 by omega, show j * 3 + 1 + 1 + 1 + 1 = (j * 3 + 1) + 1 + 1 + 1 by omega, show j * 3 + 1 + 1 + 1 + 2 = (j * 3 + 2) + 1 + 1 + 1 by omega, List.set_cons_succ, this]
abbrev set3 (w : World) (g i : Nat) (a b c : Value) : World := ((w.setCell ⟨g, i, none⟩ a).setCell ⟨g, i + 1, none⟩ b).setCell ⟨g, i + 2, none⟩ c
theorem RowO.len {T : TypeId} {sz : Nat} {w : World} {lo hi g c n m : Nat} {cs : List Value} (h : RowO T sz w lo hi (.slice (some ⟨g, 0, none⟩) n c) m cs) : n = m := by
  rcases h.1.2 with ⟨e, _⟩ | ⟨g', cap', cur, e, _⟩
  · cases e
  · injection e with _ e _
theorem chg_set1 (w : World) (g i : Nat) (u : Value) : Chg g (g + 1) w (w.setCell ⟨g, i, none⟩ u) := chg_set (Nat.le_refl _) (Nat.lt_succ_self _)
theorem chg_set3 (w : World) (g i : Nat) (a b c : Value) : Chg g (g + 1) w (set3 w g i a b c) :=
  ((chg_set1 w g i a).trans (chg_set1 _ g (i + 1) b)).trans (chg_set1 _ g (i + 2) c)
theorem OutM.setMx {w : World} {lo hi g n c j : Nat} {vs : List Value} {ms : List Mx} (h : OutM w lo hi (.slice (some ⟨g, 0, none⟩) n c) vs ms) (hl : vs.length = ms.length) (hj : j < ms.length) (m : Mx) (u : Value) :
    OutM (set3 w g (j * 3) (.int .i64 m.r) (.int .i64 m.c) u) lo hi (.slice (some ⟨g, 0, none⟩) n c) (vs.set j u) (ms.set j m) := by
  have e := RowO.len h
  subst e
  have h1 := (RowO.stored h (j * 3) (.int .i64 m.r)).1
  have h2 := (RowO.stored h1 (j * 3 + 1) (.int .i64 m.c)).1
  have h3 := (RowO.stored h2 (j * 3 + 2) u).1
  rw [mxCs_set3 hj hl] at h3
  unfold OutM
  rw [List.length_set]
  exact h3
theorem Fam.swap {w : World} {lo hi mi hi' j : Nat} {L0 : List (Value × List Int)} {vs : List Value} {ll : List (List Int)} {u : Value} {l : List Int} (h : Fam w lo hi (L0 ++ vs.zip ll)) (hj : j < ll.length) (hl : vs.length = ll.length) (hu : IntsO w mi hi' u l) (h1 : hi ≤ mi) (h2 : mi ≤ hi') (h3 : lo ≤ mi) :
    Fam w lo hi' (L0 ++ (vs.set j u).zip (ll.set j l)) := by
  have hv : vs[j]? = some (vs[j]'(by omega)) := List.getElem?_eq_getElem (by omega)
  have hl' : ll[j]? = some (ll[j]'hj) := List.getElem?_eq_getElem hj
  have hsv : (vs.set j u)[j]? = some u := by rw [List.getElem?_set, if_pos rfl, if_pos (by omega)]
  have hsl : (ll.set j l)[j]? = some l := by rw [List.getElem?_set, if_pos rfl, if_pos hj]
  rw [zip_split hsv hsl, List.take_set_of_le (Nat.le_refl j), List.drop_set_of_lt (by omega), List.take_set_of_le (Nat.le_refl j), List.drop_set_of_lt (by omega)]
  rw [zip_split hv hl', ← List.append_assoc] at h
  rw [← List.append_assoc]
  generalize L0 ++ (vs.take j).zip (ll.take j) = M1 at h ⊢
  generalize (vs.drop (j + 1)).zip (ll.drop (j + 1)) = M2 at h ⊢
  obtain ⟨G1, G2⟩ := h
  rw [List.pairwise_append] at G2
  obtain ⟨P1, P2, P3⟩ := G2
  rw [List.pairwise_cons] at P2
  refine ⟨fun p hp => ?_, ?_⟩
  · rcases List.mem_append.1 hp with hp | hp
    · exact (G1 p (by simp [hp])).wider (Nat.le_refl _) (by omega)
    · rcases List.mem_cons.1 hp with rfl | hp
      · exact hu.wider h3 (Nat.le_refl _)
      · exact (G1 p (by simp [hp])).wider (Nat.le_refl _) (by omega)
  · rw [List.pairwise_append, List.pairwise_cons]
    refine ⟨P1, ⟨fun p hp => ?_, P2.2⟩, fun p hp q hq => ?_⟩
    · rcases hA : u.ownBlock with _ | x
      · exact .inl rfl
      · refine .inr fun e2 => ?_
        have h5 := (G1 p (by simp [hp])).2 x e2.symm
        have h6 := (hu.1.lt x hA).1
        omega
    · rcases List.mem_cons.1 hq with rfl | hq
      · rcases hA : p.1.ownBlock with _ | x
        · exact .inl rfl
        · refine .inr fun e => ?_
          have h5 := (G1 p (by simp [hp])).2 x hA
          have h6 := (hu.1.lt x e.symm).1
          omega
      · exact P3 p hp q (by simp [hq])
theorem OutM.blk {w : World} {lo hi g n c : Nat} {vs : List Value} {ms : List Mx} (h : OutM w lo hi (.slice (some ⟨g, 0, none⟩) n c) vs ms) : ∃ cs, Blk w g 84 cs ∧ lo ≤ g ∧ g < hi := by
  have hg := h.2.1 g rfl
  rcases h.1.2 with ⟨e, _⟩ | ⟨g', cap', cur, e, k1, hh, _⟩
  · cases e
  · injection e with e1 e2 _
    injection e1 with e1
    injection e1 with e1
    subst e1
    exact ⟨cur, hh, k1, hg⟩
theorem Fam.set3 {w : World} {lo hi g i : Nat} {L : List (Value × List Int)} {t : TypeId} {cs : Array Value} (h : Fam w lo hi L) (hb : Blk w g t cs) (ht : 3 ≠ t) (a b c : Value) : Fam (set3 w g i a b c) lo hi L :=
  ((h.setBlk hb ht a).setBlk (hb.set_ i a) ht b).setBlk ((hb.set_ i a).set_ (i + 1) b) ht c
/-- a matrix of later memory put in its place -/
theorem RepO.setMx {w : World} {lo hi mi hi' g n c j : Nat} {p v r k : Int} {f t d u : Value} {x : Rp} {m : Mx} (h : RepO w lo hi (.agg #[.int .i64 p, .int .i64 v, f, t, d, .slice (some ⟨g, 0, none⟩) n c]) x) (hj : j < x.m.length)
    (hu : MxO w mi hi' (.agg #[.int .i64 r, .int .i64 k, u]) m) (h1 : hi ≤ mi) (h2 : mi ≤ hi') (h3 : lo ≤ mi) :
    RepO (set3 w g (j * 3) (.int .i64 r) (.int .i64 k) u) lo hi' (.agg #[.int .i64 p, .int .i64 v, f, t, d, .slice (some ⟨g, 0, none⟩) n c]) ⟨x.p, x.q, x.d, x.m.set j m⟩ ∧ lo ≤ g ∧ g < hi := by
  obtain ⟨f', t', d', m', vs, e, hO, hvl, hF, hi1, hi2⟩ := h
  simp only [Value.agg.injEq, Array.mk.injEq, List.cons.injEq, and_true] at e
  obtain ⟨rfl2, rfl3, rfl, rfl, rfl, rfl⟩ := e
  obtain ⟨s, e, hs, i1, i2⟩ := hu
  simp only [Value.agg.injEq, Array.mk.injEq, List.cons.injEq, and_true, Value.int.injEq, true_and] at e
  obtain ⟨rfl, rfl, rfl⟩ := e
  obtain ⟨cs, hb, hg1, hg2⟩ := OutM.blk hO
  refine ⟨⟨f, t, d, _, vs.set j u, by rw [rfl2, rfl3], (OutM.setMx hO hvl hj m u).mono (Nat.le_refl _) (by omega), by simp [hvl], ?_, hi1, fun y hy => ?_⟩, hg1, hg2⟩
  · have hF2 := hF.swap (j := j) (by simpa using hj) (by simpa using hvl) hs h1 h2 h3
    have hF3 := hF2.set3 (i := j * 3) hb (by decide) (.int .i64 m.r) (.int .i64 m.c) u
    rw [List.map_set]
    exact hF3
  · rcases List.mem_or_eq_of_mem_set hy with hy | rfl
    · exact hi2 y hy
    · exact ⟨i1, i2⟩
/-- a number put into the dimensions -/
theorem RepO.setDim {w : World} {lo hi g n c j : Nat} {p v y : Int} {f t m : Value} {x : Rp} (h : RepO w lo hi (.agg #[.int .i64 p, .int .i64 v, f, t, .slice (some ⟨g, 0, none⟩) n c, m]) x) (hy : I64 y) :
    RepO (w.setCell ⟨g, j, none⟩ (.int .i64 y)) lo hi (.agg #[.int .i64 p, .int .i64 v, f, t, .slice (some ⟨g, 0, none⟩) n c, m]) ⟨x.p, x.q, x.d.set j y, x.m⟩ ∧ lo ≤ g ∧ g < hi := by
  obtain ⟨f', t', d', m', vs, e, hO, hvl, hF, hi1, hi2⟩ := h
  simp only [Value.agg.injEq, Array.mk.injEq, List.cons.injEq, and_true] at e
  obtain ⟨rfl2, rfl3, rfl, rfl, rfl, rfl⟩ := e
  have hd : IntsO w lo hi (.slice (some ⟨g, 0, none⟩) n c) x.d := hF.1 (.slice (some ⟨g, 0, none⟩) n c, x.d) (by simp)
  have hp := hd.1.put (j := j) hy
  have hgb := hd.2 g rfl
  have hgl := (hd.1.lt g rfl).1
  refine ⟨⟨f, t, _, m, vs, by rw [rfl2, rfl3], ?_, hvl, ?_, hi1, hi2⟩, hgl, hgb⟩
  · exact RowO.grown hO (by decide) hd.1 hp.2
  · have := Fam.turn (L1 := [(f, x.q.f), (t, x.q.t)]) (L2 := vs.zip (x.m.map Mx.a)) (v := .slice (some ⟨g, 0, none⟩) n c) (l := x.d) (l' := x.d.set j y) (by simpa using hF) hp.1 hp.2
    simpa using this
/-- the cells of a representation of the call's own -/
theorem RepO.dimAt {w : World} {lo hi j : Nat} {p v : Int} {f t d m : Value} {x : Rp} (h : RepO w lo hi (.agg #[.int .i64 p, .int .i64 v, f, t, d, m]) x) (hj : j < x.d.length) :
    ∃ g c, d = .slice (some ⟨g, 0, none⟩) x.d.length c ∧ lo ≤ g ∧ g < hi ∧ w.cell? ⟨g, j, none⟩ = some (.int .i64 (x.d.getD j 0)) ∧ w.frozen? ⟨g, j, none⟩ = false ∧ I64 (x.d.getD j 0) := by
  obtain ⟨f', t', d', m', vs, e, hO, hvl, hF, hi1, hi2⟩ := h
  simp only [Value.agg.injEq, Array.mk.injEq, List.cons.injEq, and_true] at e
  obtain ⟨_, _, rfl, rfl, rfl, rfl⟩ := e
  have hd : IntsO w lo hi d x.d := hF.1 (d, x.d) (by simp)
  rcases hd.1.1.2 with ⟨rfl, h0⟩ | ⟨g, cap, cur, rfl, k1, hh, _⟩
  · omega
  · have h1 := hd.1.cellG hj
    exact ⟨g, cap, rfl, k1, hd.2 g rfl, h1.1, hd.1.frozenG j, h1.2⟩
theorem RepO.mxAt {w : World} {lo hi j : Nat} {p v : Int} {f t d m : Value} {x : Rp} {y : Mx} (h : RepO w lo hi (.agg #[.int .i64 p, .int .i64 v, f, t, d, m]) x) (hj : x.m[j]? = some y) :
    ∃ g c s, m = .slice (some ⟨g, 0, none⟩) x.m.length c ∧ lo ≤ g ∧ g < hi ∧ w.cell? ⟨g, j * 3, none⟩ = some (.int .i64 y.r) ∧ w.cell? ⟨g, j * 3 + 1, none⟩ = some (.int .i64 y.c) ∧ w.cell? ⟨g, j * 3 + 2, none⟩ = some s ∧ IntsO w lo hi s y.a ∧ (∀ i, w.frozen? ⟨g, i, none⟩ = false) ∧ I64 y.r ∧ I64 y.c := by
  obtain ⟨f', t', d', m', vs, e, hO, hvl, hF, hi1, hi2⟩ := h
  simp only [Value.agg.injEq, Array.mk.injEq, List.cons.injEq, and_true] at e
  obtain ⟨_, _, rfl, rfl, rfl, rfl⟩ := e
  have hjl := lt_of_some hj
  have hv : vs[j]? = some (vs[j]'(by omega)) := List.getElem?_eq_getElem (by omega)
  obtain ⟨a, b, c⟩ := mxCs_get hv hj
  rcases hO.1.2 with ⟨rfl, h0⟩ | ⟨g, cap, cur, rfl, k1, hh, _⟩
  · omega
  · have e := fun i (hi : i < 3) => hO.1.cellAt (j * 3 + i) (by omega)
    have hs := Fam.getAt (L0 := [(f, x.q.f), (t, x.q.t), (d, x.d)]) hF hv (l := y.a) (by simp [hj])
    exact ⟨g, cap, _, rfl, k1, hO.2.1 g rfl, by rw [show j * 3 = j * 3 + 0 by omega, e 0 (by omega)]; exact a, by rw [e 1 (by omega)]; exact b, by rw [e 2 (by omega)]; exact c, hs, fun i => hO.1.frozenAt i, hi2 y (List.mem_of_getElem? hj)⟩
end Go.Proofs.Ytcmlflppndfdcaa

/- The program's (Rep).reflected. -/
namespace Go.Proofs.Ytcmlflppndfdcaa
set_option linter.unusedVariables false
set_option linter.unusedSimpArgs false
open Go.RowKit

theorem rvQ_len (q : Qv) (v : Int) : (rvQ q v).f.length = q.f.length ∧ (rvQ q v).t.length = q.f.length ∧ (rvQ q v).v = q.v := ⟨rowF_length _ _, rowF_length _ _, rfl⟩
theorem rfP_yes {x : Rp} {v : Int} {K : Nat} {G : Nat → Mx} (h : areDims (rvQ x.q v) (x.d.set v.toNat K) = true) : rfP x v K G = (rfK x v K G x.q.f.length, true) := by rw [rfP, if_pos h]
theorem rfP_no {x : Rp} {v : Int} {K : Nat} {G : Nat → Mx} (h : areDims (rvQ x.q v) (x.d.set v.toNat K) = false) : rfP x v K G = (rp0, false) := by rw [rfP, if_neg (by rw [h]; decide)]
theorem atN_le {x : Rp} {v : Int} (hx : isRep x = true) : ∀ k, k ≤ x.q.f.length → atN x v k ≤ 4 * k
  | 0, _ => by simp [atN]
  | k + 1, hk => by
    have ih := atN_le (v := v) hx k (by omega)
    obtain ⟨m, nf, nt, yf, yt, em, ef, et, df, dt, eM, _, b1, b2, _⟩ := isRep_at hx (show k < x.q.f.length by omega)
    obtain ⟨o1, o2⟩ := oth_at (v := v) ef et df dt
    rw [atN]
    split
    · rename_i h
      rw [tch_of ef et] at h
      simp only [Bool.or_eq_true, decide_eq_true_eq] at h
      rcases h with h | h
      · rw [o2 h]; omega
      · rw [o1 h]; omega
    · omega

theorem RepO.dims {w : World} {lo hi : Nat} {p v : Int} {f t d m : Value} {x : Rp} (h : RepO w lo hi (.agg #[.int .i64 p, .int .i64 v, f, t, d, m]) x) : SlI w w.heap.size d x.d := by
  obtain ⟨f1, t1, d1, m1, vs, e, hO, hvl, hF, _⟩ := h
  simp only [Value.agg.injEq, Array.mk.injEq, List.cons.injEq, and_true] at e
  obtain ⟨_, _, rfl, rfl, rfl, rfl⟩ := e
  exact (hF.1 (d, x.d) (by simp)).rd
theorem oth_two {y : Rp} {nv k nf nt yf yt : Nat} (ef : y.q.f[k]? = some (nf : Int)) (et : y.q.t[k]? = some (nt : Int)) (df : y.d[nf]? = some (yf : Int)) (dt : y.d[nt]? = some (yt : Int)) (b1 : yf ≤ 4) (b2 : yt ≤ 4) (h : tch y.q nv k = true) :
    ∃ u s : Nat, (nf : Int) + nt - nv = u ∧ y.d[u]? = some (s : Int) ∧ othN y nv k = s ∧ s ≤ 4 ∧ u < y.d.length := by
  obtain ⟨o1, o2⟩ := oth_at (v := (nv : Int)) ef et df dt
  rw [tch_of ef et] at h
  simp only [Bool.or_eq_true, decide_eq_true_eq] at h
  rcases h with h | h
  · exact ⟨nt, yt, by omega, dt, o2 h, b2, lt_of_some dt⟩
  · exact ⟨nf, yf, by omega, df, o1 h, b1, lt_of_some df⟩
set_option maxHeartbeats 6400000 in
set_option maxRecDepth 100000 in
theorem reflSink_any (ru mv : Value) (y : Rp) (v : Int) (K : Nat) (F : Nat → Nat → Int) (w0 : World) (hr : RpR w0 w0.heap.size ru y) (hm : MxR w0 w0.heap.size mv (mxF K (atN y v y.q.f.length) F)) (hy : isRep y = true) (hv : endV y.q.t y.q v = true ∨ endV y.q.f y.q v = true) (hK : K ≤ 1000) :
    Calls Try.prog 68 #[ru, .int .i64 v, mv, .func (.func 70) #[] #[]] w0 fun e w' => ∃ r, e = .returned (.tuple #[r, .bool (rfP y v K (gSink y v K F)).2]) ∧ RepO w' w0.heap.size w'.heap.size r (rfP y v K (gSink y v K F)).1 ∧ Below w0.heap.size w0 w' := by
  have hdm := (isRep_t.1 hy).2.1
  have hq : isQ y.q = true := (areDims_t.1 hdm).1
  have hml : y.m.length = y.q.f.length := (isRep_t.1 hy).2.2.1
  have hn6 : y.q.f.length ≤ 6 := (isQ_t.1 hq).2.2.1
  have hlt : y.q.f.length = y.q.t.length := (isQ_t.1 hq).2.1
  have hN := atN_le (v := v) hy _ (Nat.le_refl _)
  obtain ⟨nv, Cv, env, hnvl, _, _, _, hnv5⟩ : ∃ n C : Nat, v = (n : Int) ∧ n < y.d.length ∧ y.d[n]? = some (C : Int) ∧ dAt y.d v = (C : Int) ∧ C ≤ 4 ∧ n ≤ 5 := by
    rcases hv with hv | hv <;> exact vert_at hy hv
  have hr' := hr
  have hm' := hm
  obtain ⟨A, a, C, c, E, e, H, h, rfl, hqr, hdr, hmr, hp, ld, lm⟩ := hr.open_
  obtain ⟨MA, mc, rfl⟩ := hm.form
  clear hr hm
  simp only [mxF] at hm' ⊢
  rw [flat_length] at hm' ⊢
  obtain ⟨ML, hML⟩ : ∃ n, K * atN y v y.q.f.length = n := ⟨_, rfl⟩
  rw [hML] at hm' ⊢
  obtain ⟨N, hNN⟩ : ∃ n, atN y v y.q.f.length = n := ⟨_, rfl⟩
  rw [hNN] at hm' hN hML ⊢
  have HNN := Lib.hid hNN
  have HML := Lib.hid hML
  obtain ⟨W, hW⟩ : ∃ W, W = ((w0.alloc (.cells #[.int .i64 y.p, .int .i64 y.q.v, .slice A y.q.f.length a, .slice C y.q.t.length c, .slice E y.d.length e, .slice H y.m.length h] 31)).alloc (.cells #[.int .i64 K, .int .i64 N, .slice MA ML mc] 84)).alloc (.cells #[.int .i64 0, .int .i64 0, .slice none 0 0, .slice none 0 0, .slice none 0 0, .slice none 0 0] 31) := ⟨_, rfl⟩
  have g0 : Below w0.heap.size w0 W := by rw [hW]; exact (((Below.refl _ _).alloc (Nat.le_refl _) _).alloc (by simp) _).alloc (by simp; omega) _
  have k1 : Blk W w0.heap.size 31 #[.int .i64 y.p, .int .i64 y.q.v, .slice A y.q.f.length a, .slice C y.q.t.length c, .slice E y.d.length e, .slice H y.m.length h] := by rw [hW]; exact ((Blk.new _ _ _).alloc _).alloc _
  have k2 : Blk W (w0.heap.size + 1) 84 #[.int .i64 K, .int .i64 N, .slice MA ML mc] := by
    rw [hW]
    have := (Blk.new (w0.alloc (.cells #[.int .i64 y.p, .int .i64 y.q.v, .slice A y.q.f.length a, .slice C y.q.t.length c, .slice E y.d.length e, .slice H y.m.length h] 31)) 84 #[.int .i64 K, .int .i64 N, .slice MA ML mc]).alloc (.cells #[.int .i64 0, .int .i64 0, .slice none 0 0, .slice none 0 0, .slice none 0 0, .slice none 0 0] 31)
    simpa only [World.size_alloc] using this
  have k3 : Blk W (w0.heap.size + 1 + 1) 31 #[.int .i64 0, .int .i64 0, .slice none 0 0, .slice none 0 0, .slice none 0 0, .slice none 0 0] := by
    rw [hW]
    have := Blk.new ((w0.alloc (.cells #[.int .i64 y.p, .int .i64 y.q.v, .slice A y.q.f.length a, .slice C y.q.t.length c, .slice E y.d.length e, .slice H y.m.length h] 31)).alloc (.cells #[.int .i64 K, .int .i64 N, .slice MA ML mc] 84)) 31 #[.int .i64 0, .int .i64 0, .slice none 0 0, .slice none 0 0, .slice none 0 0, .slice none 0 0]
    simpa only [World.size_alloc] using this
  have sz : W.heap.size = w0.heap.size + 1 + 1 + 1 := by rw [hW]; simp
  have SZ := Lib.hid sz
  have HRR := Lib.hid (RpR.next g0 hr')
  have HQR := Lib.hid (QvR.next g0 hqr)
  have HDR := Lib.hid (SlI.next g0 hdr)
  have HMR := Lib.hid (MxR.next g0 hm')
  have HY := Lib.hid hy
  have HQ := Lib.hid hq
  have HML2 := Lib.hid hml
  have HLT := Lib.hid hlt
  have HVV := Lib.hid hv
  clear hr' hqr hdr hmr hm' hy hq hml hlt hML hNN hdm sz hv
  subst env
  have c1 := k1.cell' (i := 1) rfl
  have c2 := k1.cell' (i := 2) rfl
  have c3 := k1.cell' (i := 3) rfl
  go_enter Try.func68, Try.ntmps68
  go_wp2_with fail
  rw [← hW]; clear hW
  refine (implReverseAt_any _ y.q nv _ HQR.out HQ.out HVV.out).mono ?_; rintro er w1 ⟨vq, rfl, hQr, hb1⟩
  obtain ⟨QA, qa, QB, qb, ev⟩ := hQr.form
  obtain ⟨l1, l2, l3⟩ := rvQ_len y.q nv
  rw [l1, l2, l3] at ev
  subst ev
  obtain ⟨W2, hW2⟩ : ∃ u, w1.alloc (.cells #[.int .i64 y.q.v, .slice QA y.q.f.length qa, .slice QB y.q.f.length qb] 28) = u := ⟨_, rfl⟩
  have ga : Below w1.heap.size w1 W2 := by rw [← hW2]; exact below_alloc _ _
  have kq : Blk W2 w1.heap.size 28 #[.int .i64 y.q.v, .slice QA y.q.f.length qa, .slice QB y.q.f.length qb] := by rw [← hW2]; exact Blk.new _ _ _
  have g12 := bthen hb1 ga
  have k12 := k1.call g12
  clear c1 c2 c3 l1 l2 l3
  have c0 := k12.cell' (i := 0) rfl
  have c1 := k12.cell' (i := 1) rfl
  have c2 := k12.cell' (i := 2) rfl
  have c3 := k12.cell' (i := 3) rfl
  have c4 := k12.cell' (i := 4) rfl
  have c5 := k12.cell' (i := 5) rfl
  have HQ2 := Lib.hid (hQr.below ga)
  have s1 := hb1.size
  have s2 := ga.size
  have lq := kq.lt
  clear hQr ga hb1 k12
  go_wp2_with fail
  clear hW2
  refine (repClone_any _ y _ (RpR.next g12 HRR.out) (by have := HML2.out; omega)).mono ?_; rintro er w3 ⟨vr, rfl, hO, hb3⟩
  obtain ⟨A3, a3, C3, c3', E3, e3, HM, h3, ev⟩ := hO.form
  subst ev
  obtain ⟨gE, ce, eE, hE1, hE2, dc, df, _⟩ := hO.dimAt hnvl
  simp only [Value.slice.injEq, true_and] at eE
  obtain ⟨eE, ece⟩ := eE
  subst eE
  subst ece
  have HHM := Lib.hid (show ∀ (j : Nat) (m : Mx), y.m[j]? = some m → ∃ gH, HM = some ⟨gH, 0, none⟩ ∧ W2.heap.size ≤ gH ∧ gH < w3.heap.size from fun j m hj => by
    obtain ⟨g, c, s, e, h1, h2, _⟩ := hO.mxAt hj
    simp only [Value.slice.injEq, true_and] at e
    exact ⟨g, e.1, h1, h2⟩)
  obtain ⟨W4, hW4⟩ : ∃ u, w3.alloc (.cells #[.int .i64 y.p, .int .i64 y.q.v, .slice A3 y.q.f.length a3, .slice C3 y.q.t.length c3', .slice (some ⟨gE, 0, none⟩) y.d.length e3, .slice HM y.m.length h3] 31) = u := ⟨_, rfl⟩
  have ga : Below w3.heap.size w3 W4 := by rw [← hW4]; exact below_alloc _ _
  have kO4 : Blk W4 w3.heap.size 31 #[.int .i64 y.p, .int .i64 y.q.v, .slice A3 y.q.f.length a3, .slice C3 y.q.t.length c3', .slice (some ⟨gE, 0, none⟩) y.d.length e3, .slice HM y.m.length h3] := by rw [← hW4]; exact Blk.new _ _ _
  have hb34 := bthen hb3 ga
  have s3 := hb3.size
  have s4 := ga.size
  have kq4 := kq.call hb34
  have g14 := bthen g12 hb34
  have k14 := k2.call g14
  clear c0 c1 c2 c3 c4 c5
  have q0 := kq4.cell' (i := 0) rfl
  have q1 := kq4.cell' (i := 1) rfl
  have q2 := kq4.cell' (i := 2) rfl
  have o1 := kO4.cell' (i := 1) rfl
  have o2 := kO4.cell' (i := 2) rfl
  have o3 := kO4.cell' (i := 3) rfl
  have o4 := kO4.cell' (i := 4) rfl
  have of_ := kO4.frozen
  have m0 := k14.cell' (i := 0) rfl
  obtain ⟨W5, hW5⟩ : ∃ u, ((W4.setCell ⟨w3.heap.size, 1, none⟩ (.int .i64 y.q.v)).setCell ⟨w3.heap.size, 2, none⟩ (.slice QA y.q.f.length qa)).setCell ⟨w3.heap.size, 3, none⟩ (.slice QB y.q.f.length qb) = u := ⟨_, rfl⟩
  have hc5 : Chg w3.heap.size (w3.heap.size + 1) W4 W5 := by rw [← hW5]; exact ((chg_set1 _ _ _ _).trans (chg_set1 _ _ _ _)).trans (chg_set1 _ _ _ _)
  have k5 : Blk W5 w3.heap.size 31 #[.int .i64 y.p, .int .i64 y.q.v, .slice QA y.q.f.length qa, .slice QB y.q.f.length qb, .slice (some ⟨gE, 0, none⟩) y.d.length e3, .slice HM y.m.length h3] := by
    rw [← hW5]
    exact ((kO4.set_ 1 (.int .i64 y.q.v)).set_ 2 (.slice QA y.q.f.length qa)).set_ 3 (.slice QB y.q.f.length qb)
  have hO5 : RepO W5 W2.heap.size w3.heap.size (.agg #[.int .i64 y.p, .int .i64 y.q.v, .slice A3 y.q.f.length a3, .slice C3 y.q.t.length c3', .slice (some ⟨gE, 0, none⟩) y.d.length e3, .slice HM y.m.length h3]) y := (hO.below ga).chg hc5 (.inl (Nat.le_refl _))
  have hQ5 := ((HQ2.out.below hb34).chg hc5 (.inl (by omega)))
  have hO6 := hO5.setQ hQ5 (by omega) (by omega) (by omega)
  obtain ⟨W6, hW6⟩ : ∃ u, W5.setCell ⟨gE, nv, none⟩ (.int .i64 K) = u := ⟨_, rfl⟩
  have hO7 := (hO6.setDim (j := nv) (y := (K : Int)) (by unfold I64; omega)).1
  rw [hW6] at hO7
  have hc6 : Chg gE (gE + 1) W5 W6 := by rw [← hW6]; exact chg_set1 _ _ _ _
  have d5 := (hO6.dimAt (j := nv) hnvl)
  obtain ⟨gE', ce', eE', _, _, dc5, df5, _⟩ := d5
  simp only [Value.slice.injEq, Option.some.injEq, Addr.mk.injEq, and_true, true_and] at eE'
  obtain ⟨eE', ece'⟩ := eE'
  subst eE'
  subst ece'
  have kq5 := (kq4.chg hc5 (.inl (by omega)))
  have k15 := (k14.chg hc5 (.inl (by have := SZ.out; omega)))
  have o5' := k5.cell' (i := 4) rfl
  have m0' := k15.cell' (i := 0) rfl
  have kq6 := kq5.chg hc6 (.inl (by omega))
  have k6 := k5.chg hc6 (.inr (by omega))
  have p0 := kq6.cell' (i := 0) rfl
  have p1 := kq6.cell' (i := 1) rfl
  have p2 := kq6.cell' (i := 2) rfl
  have o6' := k6.cell' (i := 4) rfl
  have hQ6 := hQ5.chg hc6 (.inl (by omega))
  have b46 : Below W2.heap.size W4 W6 := (hc5.below (by omega) (by omega)).trans (hc6.below (by omega) (by have := hc5.size; omega))
  have G6 := Lib.hid ((g12.trans (hb34.mono g12.size)).trans (b46.mono (by omega)))
  have KQ6 := Lib.hid kq6
  have K6 := Lib.hid k6
  have HO6 := Lib.hid hO7
  have HQ6 := Lib.hid hQ6.rd
  have s6 := G6.out.size
  have s56 : W6.heap.size = W4.heap.size := by rw [← hW6, ← hW5]; simp
  have S56 := Lib.hid s56
  have HD6 := Lib.hid hO7.dims
  clear hO7 hQ6 b46 s56 kq6 k6 hO5 hO6 hQ5 hc5 hc6 kq5 k15 k5 hO hb34 hb3 ga g14 k14 kO4 kq4 df dc hE1 hE2
  go_wp2_with fail
  clear hW4 hW5 hW6 o1 o2 o3 o4 of_ q0 q1 q2 m0 m0' dc5 df5 o5' o6' p0 p1 p2
  refine (implAreDims_any _ _ (rvQ y.q nv) (y.d.set nv (K : Int)) _ HQ6.out (by have := HD6.out; simpa using this)).mono ?_; rintro er w7 ⟨rfl, hb7⟩
  have G7 := Lib.hid (G6.out.trans (hb7.mono s6))
  rcases hA : areDims (rvQ y.q nv) (y.d.set nv (K : Int)) with _ | _
  · have HE := Lib.hid (rfP_no (G := gSink y nv K F) (by rw [Int.toNat_natCast]; exact hA))
    have kz := k3.call G7.out
    have fr := kz.frozen
    have s0 := kz.cell' (i := 0) rfl
    have s1' := kz.cell' (i := 1) rfl
    have s2' := kz.cell' (i := 2) rfl
    have s3' := kz.cell' (i := 3) rfl
    have s4' := kz.cell' (i := 4) rfl
    have s5' := kz.cell' (i := 5) rfl
    have gf := g0.trans (G7.out.mono g0.size)
    have GF := Lib.hid gf
    clear kz gf hA hb7
    go_wp2
    have gf := GF.out
    have hE := HE.out
    exact bodyPost_ret (v := .tuple #[.agg #[.int .i64 0, .int .i64 0, .slice none 0 0, .slice none 0 0, .slice none 0 0, .slice none 0 0], .bool false]) (by simp [results, go_sem, s0, s1', s2', s3', s4', s5']) rfl ⟨_, by rw [hE], by rw [hE]; exact RepO.zero _ _ _, (((((gf.setCell (by simp; omega) _).setCell (by simp; omega) _).setCell (by simp; omega) _).setCell (by simp; omega) _).setCell (by simp; omega) _).setCell (by simp; omega) _⟩
  · have HE := Lib.hid (rfP_yes (G := gSink y nv K F) (by rw [Int.toNat_natCast]; exact hA))
    have k27 := k2.call G7.out
    have m0 := k27.cell' (i := 0) rfl
    have m1 := k27.cell' (i := 1) rfl
    have m2 := k27.cell' (i := 2) rfl
    have s7 := hb7.size
    have K7 := Lib.hid (K6.out.call hb7)
    have HO7 := Lib.hid (HO6.out.below hb7)
    clear hA hb7 k27
    go_wp2_with fail
    refine (columns_any _ K N F _ (MxR.next G7.out HMR.out) hK (by omega)).mono ?_; rintro er w8 ⟨v8, rfl, hC8, hb8⟩
    obtain ⟨CA0, cc0, ev, hcc0, hcc1, _⟩ := hC8.form2
    rw [rowsF_length] at ev hcc0
    subst ev
    have G8 := Lib.hid (G7.out.trans (hb8.mono G7.out.size))
    have K8 := Lib.hid (K7.out.call hb8)
    have HO8 := Lib.hid ((HO7.out.below hb8).wider (Nat.le_refl _) (show w3.heap.size ≤ w8.heap.size by have := hb8.size; have := S56.out; omega))
    have HC8 := Lib.hid hC8
    have s8 := hb8.size
    have k18 := k1.call G8.out
    have c2 := k18.cell' (i := 2) rfl
    have HF := Lib.hid (QvR.sl HQR.out).1
    have HT := Lib.hid (QvR.sl HQR.out).2
    have hlt' : y.q.f.length ≤ y.q.t.length := Nat.le_of_eq HLT.out
    have hml' : y.q.f.length ≤ y.m.length := Nat.le_of_eq HML2.out.symm
    have s56 : W4.heap.size ≤ W6.heap.size := Nat.le_of_eq S56.out.symm
    clear m0 m1 m2 hC8 hb8 k18
    go_wp2
    clear c2
    go_loopw [13, 46] (fun cv i wr => ∃ (k : Nat) (CA : Option Addr) (cn cc : Nat), k ≤ y.q.f.length ∧ i = .int .i64 k ∧ cv = .slice CA cn cc ∧ Hid (cn + atN y nv k = N) ∧ (cn ≤ cc ∧ cc ≤ 9223372036854775807) ∧ (∀ (w : World) (B : Nat), SlII w B (.slice CA0 N cc0) (rowsF N K fun a b => F b a) → SlII w B (.slice CA cn cc) ((rowsF N K fun a b => F b a).drop (atN y nv k))) ∧ Chg W2.heap.size w3.heap.size w8 wr ∧ RepO wr W.heap.size wr.heap.size (.agg #[.int .i64 y.p, .int .i64 y.q.v, .slice QA y.q.f.length qa, .slice QB y.q.f.length qb, .slice (some ⟨gE, 0, none⟩) y.d.length e3, .slice HM y.m.length h3]) (rfK y nv K (gSink y nv K F) k)) (fun _ i _ => y.q.f.length - (intOf i).toNat)
    case atStart => exact ⟨0, CA0, N, cc0, Nat.zero_le _, rfl, rfl, rfl, ⟨hcc0, hcc1⟩, fun w B h => by simpa [atN] using h, Chg.refl _ _ _, by have := HO8.out; rw [rfK, rfM_0 HML2.out, Int.toNat_natCast]; exact this⟩
    case round =>
      obtain ⟨k, CA, cn, cc, hk, rfl, rfl, HCN, ⟨hcn, hcc⟩, hcut, hch, hO⟩ := hrel
      have hcs := hch.size
      have gWr := G8.out.trans (hch.below (B := W.heap.size) (by omega) G8.out.size)
      have gws := gWr.size
      by_cases hkn : k < y.q.f.length
      · obtain ⟨m, nf, nt, yf, yt, em, ef, et, df, dt, eM, _, b1, b2, b3, b4, hfd, htd, b8, b9⟩ := isRep_at HY.out hkn
        obtain ⟨bf, of_, xf, eA, hbf, HXF, f1, _⟩ := SlI.at_ HF.out hkn
        obtain ⟨bt, ot, xt, eC, hbt, HXT, t1, _⟩ := SlI.at_ HT.out b8
        subst eA eC
        have q1 := HXF.out
        rw [ef] at q1
        injection q1 with q1
        subst q1
        have q2 := HXT.out
        rw [et] at q2
        injection q2 with q2
        subst q2
        have f1' := bcell gWr hbf f1
        have t1' := bcell gWr hbt t1
        have kr := k1.call gWr
        have c1 := kr.cell' (i := 1) rfl
        have c3 := kr.cell' (i := 3) rfl
        have HTC := Lib.hid (tch_of (v := (nv : Int)) ef et)
        have HOU := Lib.hid (fun h => oth_two (nv := nv) ef et df dt b1 b2 h)
        obtain ⟨gH, eH, hgH1, hgH2⟩ := HHM.out k m em
        have HEM := Lib.hid em
        have F1 := Lib.hid f1
        have T1 := Lib.hid t1
        have GWr := Lib.hid gWr
        have HCUT := Lib.hid hcut
        have HCH := Lib.hid hch
        have HOr := Lib.hid hO
        have HNO := Lib.hid (fun h : tch y.q nv k = false => rfM_no (x := y) (v := nv) (G := gSink y nv K F) h)
        have HYES := Lib.hid (fun h : tch y.q nv k = true => rfM_yes (x := y) (v := nv) (G := gSink y nv K F) h)
        have HAT := Lib.hid (fun h : tch y.q nv k = true => atN_fit (x := y) (v := nv) (n := y.q.f.length) h hkn)
        have HA1 := Lib.hid (show atN y nv (k + 1) = if tch y.q nv k = true then atN y nv k + othN y nv k else atN y nv k from rfl)
        have hsr : W.heap.size ≤ wr.heap.size := gws
        obtain ⟨w9, hw9⟩ : ∃ u, u = wr := ⟨_, rfl⟩
        subst hw9
        subst eH
        clear f1 t1 kr gWr hcut hch hO em ef et df dt eM
        rcases htc : tch y.q nv k with _ | _
        · rw [htc] at HTC
          have h12 : ¬ (nf : Int) = nv ∧ ¬ (nt : Int) = nv := by
            have := HTC.out.symm
            simpa only [Bool.or_eq_false_iff, decide_eq_false_iff_not] using this
          have hd1 : ((nf : Int) != (nv : Int)) = true := by rw [bne_iff_ne]; exact h12.1
          have hd2 : ((nt : Int) != (nv : Int)) = true := by rw [bne_iff_ne]; exact h12.2
          have hN2 := Lib.hid (HNO.out htc)
          have hA2 := Lib.hid (show atN y nv (k + 1) = atN y nv k by rw [HA1.out, htc]; rfl)
          clear htc h12 HTC HOU HNO HYES HAT HA1 HEM
          go_wp2
          go_roundw
          case rel => exact ⟨k + 1, CA, cn, cc, by omega, by go_num, rfl, by rw [hA2.out]; exact HCN, ⟨hcn, hcc⟩, by rw [hA2.out]; exact HCUT.out, HCH.out, by rw [rfK, hN2.out]; exact HOr.out⟩
          case measure => simp [intOf]; omega
        · obtain ⟨u, s, huv, hds, hos, hs4, hud⟩ := HOU.out htc
          obtain ⟨bd, od, xd, eE', hbd, HXD, d1, _⟩ := SlI.at_ HDR.out hud
          subst eE'
          have q3 := HXD.out
          rw [hds] at q3
          injection q3 with q3
          subst q3
          have D1 := Lib.hid d1
          have HUV := Lib.hid huv
          have HOS := Lib.hid hos
          have HYS := Lib.hid (HYES.out htc)
          have hfit := HAT.out htc
          rw [HNN.out, hos] at hfit
          have hA2 := Lib.hid (show atN y nv (k + 1) = atN y nv k + s by rw [HA1.out, htc, hos]; rfl)
          have hscn : s ≤ cn := by have := HCN.out; omega
          have hu5 : u ≤ 10 := by omega
          clear hds hos huv d1 HOU HNO HYES HAT HA1 HXD
          by_cases h1 : (nf : Int) = nv
          · have hd1 : ((nf : Int) != (nv : Int)) = false := by rw [bne_eq_false_iff_eq]; exact h1
            clear h1 htc HTC
            go_wp2
            refine wp_region_net (by kernel_rfl) [.eq (.pointer (some ⟨w0.heap.size, 4, none⟩)), .eq (.slice (some ⟨bd, od, none⟩) y.d.length e), .eq (.int .i64 nf), .eq (.pointer (some ⟨w0.heap.size, 1, none⟩)), .eq (.pointer (some ⟨w0.heap.size, 3, none⟩)), .eq (.slice (some ⟨bt, ot, none⟩) y.q.t.length c), .eq (.int .i64 k), .eq (.pointer (some ⟨bt, ot + k, none⟩)), .eq (.int .i64 nt), .eq (.int .i64 ((nf : Int) + nt)), .eq (.int .i64 nv), .eq (.int .i64 u), .eq (.pointer (some ⟨bd, od + u, none⟩)), .eq (.int .i64 s)] [[], [0], [], [], [3], [3, 4], [], [3, 4, 5, 6], [3, 4, 5, 6, 7], [2, 3, 4, 5, 6, 7, 8], [], [2, 3, 4, 5, 6, 7, 8, 9, 10], [0, 1, 2, 3, 4, 5, 6, 7, 8, 9, 10, 11], [0, 1, 2, 3, 4, 5, 6, 7, 8, 9, 10, 11, 12], [0, 1, 2, 3, 4, 5, 6, 7, 8, 9, 10, 11, 12, 13]] 14 (by kernel_rfl) ⟨trivial, trivial, trivial, trivial, trivial, trivial, trivial, trivial, trivial, trivial, trivial, trivial, trivial, trivial, trivial⟩ ⟨?_, ?_, ?_, ?_, ?_, ?_, ?_, ?_, ?_, ?_, ?_, ?_, ?_, ?_, trivial⟩ ?_
            · intro x w hb hk Q' hQ
              clear hk
              simp only [netAct, dstAt, List.getElem?_toArray, List.getElem?_cons_zero, List.getElem?_cons_succ, Option.bind_some, Act.put, List.setIfInBounds_toArray, List.set_cons_zero, List.set_cons_succ] at hQ ⊢
              go_wp2
              exact hQ (.pointer (some ⟨w0.heap.size, 4, none⟩)) _ (Below.refl _ _) rfl
            · intro x w hb hk Q' hQ
              have h0 : x.v 0 = .pointer (some ⟨w0.heap.size, 4, none⟩) := (hk 0 (by decide)).1
              clear hk
              simp only [netAct, dstAt, List.getElem?_toArray, List.getElem?_cons_zero, List.getElem?_cons_succ, Option.bind_some, Act.put, List.setIfInBounds_toArray, List.set_cons_zero, List.set_cons_succ] at hQ ⊢
              simp only [h0] at hQ ⊢
              clear h0
              have z := (k1.call (GWr.out.trans (hb.mono hsr))).cell' (i := 4) rfl
              go_wp2
              exact hQ (.slice (some ⟨bd, od, none⟩) y.d.length e) _ (Below.refl _ _) rfl
            · intro x w hb hk Q' hQ
              clear hk
              simp only [netAct, dstAt, List.getElem?_toArray, List.getElem?_cons_zero, List.getElem?_cons_succ, Option.bind_some, Act.put, List.setIfInBounds_toArray, List.set_cons_zero, List.set_cons_succ] at hQ ⊢
              go_wp2
              exact hQ (.int .i64 nf) _ (Below.refl _ _) rfl
            · intro x w hb hk Q' hQ
              clear hk
              simp only [netAct, dstAt, List.getElem?_toArray, List.getElem?_cons_zero, List.getElem?_cons_succ, Option.bind_some, Act.put, List.setIfInBounds_toArray, List.set_cons_zero, List.set_cons_succ] at hQ ⊢
              go_wp2
              exact hQ (.pointer (some ⟨w0.heap.size, 1, none⟩)) _ (Below.refl _ _) rfl
            · intro x w hb hk Q' hQ
              have h3 : x.v 3 = .pointer (some ⟨w0.heap.size, 1, none⟩) := (hk 3 (by decide)).1
              clear hk
              simp only [netAct, dstAt, List.getElem?_toArray, List.getElem?_cons_zero, List.getElem?_cons_succ, Option.bind_some, Act.put, List.setIfInBounds_toArray, List.set_cons_zero, List.set_cons_succ] at hQ ⊢
              simp only [h3] at hQ ⊢
              clear h3
              go_wp2
              exact hQ (.pointer (some ⟨w0.heap.size, 3, none⟩)) _ (Below.refl _ _) rfl
            · intro x w hb hk Q' hQ
              have h4 : x.v 4 = .pointer (some ⟨w0.heap.size, 3, none⟩) := (hk 4 (by decide)).1
              clear hk
              simp only [netAct, dstAt, List.getElem?_toArray, List.getElem?_cons_zero, List.getElem?_cons_succ, Option.bind_some, Act.put, List.setIfInBounds_toArray, List.set_cons_zero, List.set_cons_succ] at hQ ⊢
              simp only [h4] at hQ ⊢
              clear h4
              have z := (k1.call (GWr.out.trans (hb.mono hsr))).cell' (i := 3) rfl
              go_wp2
              exact hQ (.slice (some ⟨bt, ot, none⟩) y.q.t.length c) _ (Below.refl _ _) rfl
            · intro x w hb hk Q' hQ
              clear hk
              simp only [netAct, dstAt, List.getElem?_toArray, List.getElem?_cons_zero, List.getElem?_cons_succ, Option.bind_some, Act.put, List.setIfInBounds_toArray, List.set_cons_zero, List.set_cons_succ] at hQ ⊢
              go_wp2
              exact hQ (.int .i64 k) _ (Below.refl _ _) rfl
            · intro x w hb hk Q' hQ
              have h5 : x.v 5 = .slice (some ⟨bt, ot, none⟩) y.q.t.length c := (hk 5 (by decide)).1
              have h6 : x.v 6 = .int .i64 k := (hk 6 (by decide)).1
              clear hk
              simp only [netAct, dstAt, List.getElem?_toArray, List.getElem?_cons_zero, List.getElem?_cons_succ, Option.bind_some, Act.put, List.setIfInBounds_toArray, List.set_cons_zero, List.set_cons_succ] at hQ ⊢
              simp only [h5, h6] at hQ ⊢
              clear h5 h6
              go_wp2
              exact hQ (.pointer (some ⟨bt, ot + k, none⟩)) _ (Below.refl _ _) rfl
            · intro x w hb hk Q' hQ
              have h7 : x.v 7 = .pointer (some ⟨bt, ot + k, none⟩) := (hk 7 (by decide)).1
              clear hk
              simp only [netAct, dstAt, List.getElem?_toArray, List.getElem?_cons_zero, List.getElem?_cons_succ, Option.bind_some, Act.put, List.setIfInBounds_toArray, List.set_cons_zero, List.set_cons_succ] at hQ ⊢
              simp only [h7] at hQ ⊢
              clear h7
              have z := bcell (GWr.out.trans (hb.mono hsr)) hbt T1.out
              go_wp2
              exact hQ (.int .i64 nt) _ (Below.refl _ _) rfl
            · intro x w hb hk Q' hQ
              have h2 : x.v 2 = .int .i64 nf := (hk 2 (by decide)).1
              have h8 : x.v 8 = .int .i64 nt := (hk 8 (by decide)).1
              clear hk
              simp only [netAct, dstAt, List.getElem?_toArray, List.getElem?_cons_zero, List.getElem?_cons_succ, Option.bind_some, Act.put, List.setIfInBounds_toArray, List.set_cons_zero, List.set_cons_succ] at hQ ⊢
              simp only [h2, h8] at hQ ⊢
              clear h2 h8
              go_wp2
              exact hQ (.int .i64 ((nf : Int) + nt)) _ (Below.refl _ _) rfl
            · intro x w hb hk Q' hQ
              clear hk
              simp only [netAct, dstAt, List.getElem?_toArray, List.getElem?_cons_zero, List.getElem?_cons_succ, Option.bind_some, Act.put, List.setIfInBounds_toArray, List.set_cons_zero, List.set_cons_succ] at hQ ⊢
              go_wp2
              exact hQ (.int .i64 nv) _ (Below.refl _ _) rfl
            · intro x w hb hk Q' hQ
              have h9 : x.v 9 = .int .i64 ((nf : Int) + nt) := (hk 9 (by decide)).1
              have h10 : x.v 10 = .int .i64 nv := (hk 10 (by decide)).1
              clear hk
              simp only [netAct, dstAt, List.getElem?_toArray, List.getElem?_cons_zero, List.getElem?_cons_succ, Option.bind_some, Act.put, List.setIfInBounds_toArray, List.set_cons_zero, List.set_cons_succ] at hQ ⊢
              simp only [h9, h10] at hQ ⊢
              clear h9 h10
              go_wp2
              rw [HUV.out]
              exact hQ (.int .i64 u) _ (Below.refl _ _) rfl
            · intro x w hb hk Q' hQ
              have h1 : x.v 1 = .slice (some ⟨bd, od, none⟩) y.d.length e := (hk 1 (by decide)).1
              have h11 : x.v 11 = .int .i64 u := (hk 11 (by decide)).1
              clear hk
              simp only [netAct, dstAt, List.getElem?_toArray, List.getElem?_cons_zero, List.getElem?_cons_succ, Option.bind_some, Act.put, List.setIfInBounds_toArray, List.set_cons_zero, List.set_cons_succ] at hQ ⊢
              simp only [h1, h11] at hQ ⊢
              clear h1 h11
              go_wp2
              exact hQ (.pointer (some ⟨bd, od + u, none⟩)) _ (Below.refl _ _) rfl
            · intro x w hb hk Q' hQ
              have h12 : x.v 12 = .pointer (some ⟨bd, od + u, none⟩) := (hk 12 (by decide)).1
              clear hk
              simp only [netAct, dstAt, List.getElem?_toArray, List.getElem?_cons_zero, List.getElem?_cons_succ, Option.bind_some, Act.put, List.setIfInBounds_toArray, List.set_cons_zero, List.set_cons_succ] at hQ ⊢
              simp only [h12] at hQ ⊢
              clear h12
              have z := bcell (GWr.out.trans (hb.mono hsr)) hbd D1.out
              go_wp2
              exact hQ (.int .i64 s) _ (Below.refl _ _) rfl
            · intro x w hb hk hiv hdj
              have h0 : x.v 0 = .pointer (some ⟨w0.heap.size, 4, none⟩) := hk 0 (by decide)
              have h1 : x.v 1 = .slice (some ⟨bd, od, none⟩) y.d.length e := hk 1 (by decide)
              have h2 : x.v 2 = .int .i64 nf := hk 2 (by decide)
              have h3 : x.v 3 = .pointer (some ⟨w0.heap.size, 1, none⟩) := hk 3 (by decide)
              have h4 : x.v 4 = .pointer (some ⟨w0.heap.size, 3, none⟩) := hk 4 (by decide)
              have h5 : x.v 5 = .slice (some ⟨bt, ot, none⟩) y.q.t.length c := hk 5 (by decide)
              have h6 : x.v 6 = .int .i64 k := hk 6 (by decide)
              have h7 : x.v 7 = .pointer (some ⟨bt, ot + k, none⟩) := hk 7 (by decide)
              have h8 : x.v 8 = .int .i64 nt := hk 8 (by decide)
              have h9 : x.v 9 = .int .i64 ((nf : Int) + nt) := hk 9 (by decide)
              have h10 : x.v 10 = .int .i64 nv := hk 10 (by decide)
              have h11 : x.v 11 = .int .i64 u := hk 11 (by decide)
              have h12 : x.v 12 = .pointer (some ⟨bd, od + u, none⟩) := hk 12 (by decide)
              have h13 : x.v 13 = .int .i64 s := hk 13 (by decide)
              clear hk
              simp only [netAct, dstAt, List.getElem?_toArray, List.getElem?_cons_zero, List.getElem?_cons_succ, Option.bind_some, Act.put, List.setIfInBounds_toArray, List.set_cons_zero, List.set_cons_succ]
              simp only [List.drop_succ_cons, List.drop_zero, h0, h1, h2, h3, h4, h5, h6, h7, h8, h9, h10, h11, h12, h13]
              clear h0 h1 h2 h3 h4 h5 h6 h7 h8 h9 h10 h11 h12 h13
              have GW12 := Lib.hid (GWr.out.trans (hb.mono hsr))
              have HCH12 := Lib.hid (HCH.out.trans (Chg.of_below hb))
              have HO12 := Lib.hid ((HOr.out.below hb).wider (Nat.le_refl _) hb.size)
              have hb12s := hb.size
              obtain ⟨w12, hw12⟩ : ∃ z, z = w := ⟨_, rfl⟩
              subst hw12
              clear hiv hdj hb
              go_wp2
              have hs12 : W.heap.size ≤ w12.heap.size := GW12.out.size
              have h38 : w3.heap.size ≤ w12.heap.size := by omega
              have hslc := HC8.out.chg HCH12.out (.inr (by omega))
              have hS12 := HCUT.out _ _ hslc.rd
              have hcl : ((rowsF N K fun a b => F b a).drop (atN y nv k)).length = cn := by rw [List.length_drop, rowsF_length]; have := HCN.out; omega
              rw [← hcl] at hS12
              have hSB := SlG.takeG (k := s) hS12 (by rw [hcl]; exact hscn)
              rw [rowsF_drop, rowsF_take _ _ _ _ (by have := HCN.out; omega)] at hSB
              have HSB := Lib.hid hSB
              have KM12 := Lib.hid (k2.call GW12.out)
              have KO12 := Lib.hid (K8.out.chg HCH12.out (.inr (by omega)))
              clear hslc hS12 hcl hSB
              refine wp_region_net (by kernel_rfl) [.eq (.pointer (some ⟨w3.heap.size, 5, none⟩)), .eq (.slice (some ⟨gH, 0, none⟩) y.m.length h3), .eq (.int .i64 k), .eq (.func (.func 70) #[] #[]), .eq (.pointer (some ⟨w0.heap.size + 1, 0, none⟩)), .eq (.int .i64 K), .eq (.slice CA cn cc), .eq (.int .i64 s), .eq (.slice CA s cc), rel 9 (fun u lo hi w => MxO w lo hi u (mxF K s fun b a => F b (atN y nv k + a))), .rel (fun x w => ∃ h', h' ≤ w.heap.size ∧ MxO w w12.heap.size h' (x.v 10) (gSink y nv K F k)), .eq (.pointer (some ⟨gH, k * 3, none⟩))] [[], [0], [], [], [], [4], [], [], [6, 7], [4, 5, 6, 7, 8], [3, 4, 5, 6, 7, 8, 9], [0, 1, 2, 3, 4, 5, 6, 7, 8, 9, 10], [0, 1, 2, 3, 4, 5, 6, 7, 8, 9, 10, 11]] 12 (by kernel_rfl) ⟨trivial, trivial, trivial, trivial, trivial, trivial, trivial, trivial, trivial, rel_stable (fun u lo hi w w' h hb => h.below hb), fun x w w' ⟨h', l, o⟩ hb => ⟨h', Nat.le_trans l hb.size, o.below hb⟩, trivial, trivial⟩ ⟨?_, ?_, ?_, ?_, ?_, ?_, ?_, ?_, ?_, ?_, ?_, ?_, trivial⟩ ?_
              · intro x w hb hk Q' hQ
                clear hk
                simp only [netAct, dstAt, List.getElem?_toArray, List.getElem?_cons_zero, List.getElem?_cons_succ, Option.bind_some, Act.put, List.setIfInBounds_toArray, List.set_cons_zero, List.set_cons_succ] at hQ ⊢
                go_wp2
                exact hQ (.pointer (some ⟨w3.heap.size, 5, none⟩)) _ (Below.refl _ _) rfl
              · intro x w hb hk Q' hQ
                have h0 : x.v 0 = .pointer (some ⟨w3.heap.size, 5, none⟩) := (hk 0 (by decide)).1
                clear hk
                simp only [netAct, dstAt, List.getElem?_toArray, List.getElem?_cons_zero, List.getElem?_cons_succ, Option.bind_some, Act.put, List.setIfInBounds_toArray, List.set_cons_zero, List.set_cons_succ] at hQ ⊢
                simp only [h0] at hQ ⊢
                clear h0
                have z := (KO12.out.call hb).cell' (i := 5) rfl
                go_wp2
                exact hQ (.slice (some ⟨gH, 0, none⟩) y.m.length h3) _ (Below.refl _ _) rfl
              · intro x w hb hk Q' hQ
                clear hk
                simp only [netAct, dstAt, List.getElem?_toArray, List.getElem?_cons_zero, List.getElem?_cons_succ, Option.bind_some, Act.put, List.setIfInBounds_toArray, List.set_cons_zero, List.set_cons_succ] at hQ ⊢
                go_wp2
                exact hQ (.int .i64 k) _ (Below.refl _ _) rfl
              · intro x w hb hk Q' hQ
                clear hk
                simp only [netAct, dstAt, List.getElem?_toArray, List.getElem?_cons_zero, List.getElem?_cons_succ, Option.bind_some, Act.put, List.setIfInBounds_toArray, List.set_cons_zero, List.set_cons_succ] at hQ ⊢
                go_wp2
                exact hQ (.func (.func 70) #[] #[]) _ (Below.refl _ _) rfl
              · intro x w hb hk Q' hQ
                clear hk
                simp only [netAct, dstAt, List.getElem?_toArray, List.getElem?_cons_zero, List.getElem?_cons_succ, Option.bind_some, Act.put, List.setIfInBounds_toArray, List.set_cons_zero, List.set_cons_succ] at hQ ⊢
                go_wp2
                exact hQ (.pointer (some ⟨w0.heap.size + 1, 0, none⟩)) _ (Below.refl _ _) rfl
              · intro x w hb hk Q' hQ
                have h4 : x.v 4 = .pointer (some ⟨w0.heap.size + 1, 0, none⟩) := (hk 4 (by decide)).1
                clear hk
                simp only [netAct, dstAt, List.getElem?_toArray, List.getElem?_cons_zero, List.getElem?_cons_succ, Option.bind_some, Act.put, List.setIfInBounds_toArray, List.set_cons_zero, List.set_cons_succ] at hQ ⊢
                simp only [h4] at hQ ⊢
                clear h4
                have z := (KM12.out.call hb).cell' (i := 0) rfl
                go_wp2
                exact hQ (.int .i64 K) _ (Below.refl _ _) rfl
              · intro x w hb hk Q' hQ
                clear hk
                simp only [netAct, dstAt, List.getElem?_toArray, List.getElem?_cons_zero, List.getElem?_cons_succ, Option.bind_some, Act.put, List.setIfInBounds_toArray, List.set_cons_zero, List.set_cons_succ] at hQ ⊢
                go_wp2
                exact hQ (.slice CA cn cc) _ (Below.refl _ _) rfl
              · intro x w hb hk Q' hQ
                clear hk
                simp only [netAct, dstAt, List.getElem?_toArray, List.getElem?_cons_zero, List.getElem?_cons_succ, Option.bind_some, Act.put, List.setIfInBounds_toArray, List.set_cons_zero, List.set_cons_succ] at hQ ⊢
                go_wp2
                exact hQ (.int .i64 s) _ (Below.refl _ _) rfl
              · intro x w hb hk Q' hQ
                have h6 : x.v 6 = .slice CA cn cc := (hk 6 (by decide)).1
                have h7 : x.v 7 = .int .i64 s := (hk 7 (by decide)).1
                clear hk
                simp only [netAct, dstAt, List.getElem?_toArray, List.getElem?_cons_zero, List.getElem?_cons_succ, Option.bind_some, Act.put, List.setIfInBounds_toArray, List.set_cons_zero, List.set_cons_succ] at hQ ⊢
                simp only [h6, h7] at hQ ⊢
                clear h6 h7
                go_wp2
                exact hQ (.slice CA s cc) _ (Below.refl _ _) rfl
              · intro x w hb hk Q' hQ
                have h4 : x.v 4 = .pointer (some ⟨w0.heap.size + 1, 0, none⟩) := (hk 4 (by decide)).1
                have h5 : x.v 5 = .int .i64 K := (hk 5 (by decide)).1
                have h6 : x.v 6 = .slice CA cn cc := (hk 6 (by decide)).1
                have h7 : x.v 7 = .int .i64 s := (hk 7 (by decide)).1
                have h8 : x.v 8 = .slice CA s cc := (hk 8 (by decide)).1
                clear hk
                simp only [netAct, dstAt, List.getElem?_toArray, List.getElem?_cons_zero, List.getElem?_cons_succ, Option.bind_some, Act.put, List.setIfInBounds_toArray, List.set_cons_zero, List.set_cons_succ] at hQ ⊢
                simp only [h4, h5, h6, h7, h8] at hQ ⊢
                clear h4 h5 h6 h7 h8
                go_wp2_with fail
                refine (fromColumns_any _ K s (fun b a => F b (atN y nv k + a)) _ (SlII.next hb HSB.out) hK (by omega)).mono ?_; rintro er w6 ⟨v6, rfl, ho6, hb6⟩
                go_wp2
                exact hQ _ _ hb6 ho6
              · intro x w hb hk Q' hQ
                have h3 : x.v 3 = .func (.func 70) #[] #[] := (hk 3 (by decide)).1
                have h4 : x.v 4 = .pointer (some ⟨w0.heap.size + 1, 0, none⟩) := (hk 4 (by decide)).1
                have h5 : x.v 5 = .int .i64 K := (hk 5 (by decide)).1
                have h6 : x.v 6 = .slice CA cn cc := (hk 6 (by decide)).1
                have h7 : x.v 7 = .int .i64 s := (hk 7 (by decide)).1
                have h8 : x.v 8 = .slice CA s cc := (hk 8 (by decide)).1
                have h9 : MxO w (x.lo 9) (x.hi 9) (x.v 9) (mxF K s fun b a => F b (atN y nv k + a)) := (hk 9 (by decide)).1
                have s9 := (hk 9 (by decide)).2
                clear hk
                simp only [netAct, dstAt, List.getElem?_toArray, List.getElem?_cons_zero, List.getElem?_cons_succ, Option.bind_some, Act.put, List.setIfInBounds_toArray, List.set_cons_zero, List.set_cons_succ] at hQ ⊢
                simp only [h3, h4, h5, h6, h7, h8] at hQ ⊢
                clear h3 h4 h5 h6 h7 h8
                obtain ⟨A9, c9, e9⟩ := h9.form
                have H9 := Lib.hid h9.rd
                rw [e9] at H9 hQ ⊢
                go_wp2_with fail
                refine (refSink1_any _ K s (fun b a => F b (atN y nv k + a)) _ H9.out hK (by omega)).mono ?_; rintro er w6 ⟨v6, rfl, ho6, hb6⟩
                go_wp2
                exact hQ _ _ hb6 ⟨_, Nat.le_refl _, by rw [gSink, HOS.out]; exact ho6.wider hb.size (Nat.le_refl _)⟩
              · intro x w hb hk Q' hQ
                have h1 : x.v 1 = .slice (some ⟨gH, 0, none⟩) y.m.length h3 := (hk 1 (by decide)).1
                have h2 : x.v 2 = .int .i64 k := (hk 2 (by decide)).1
                clear hk
                simp only [netAct, dstAt, List.getElem?_toArray, List.getElem?_cons_zero, List.getElem?_cons_succ, Option.bind_some, Act.put, List.setIfInBounds_toArray, List.set_cons_zero, List.set_cons_succ] at hQ ⊢
                simp only [h1, h2] at hQ ⊢
                clear h1 h2
                go_wp2
                exact hQ (.pointer (some ⟨gH, k * 3, none⟩)) _ (Below.refl _ _) rfl
              · intro x w hb hk hiv hdj
                have h0 : x.v 0 = .pointer (some ⟨w3.heap.size, 5, none⟩) := hk 0 (by decide)
                have h1 : x.v 1 = .slice (some ⟨gH, 0, none⟩) y.m.length h3 := hk 1 (by decide)
                have h2 : x.v 2 = .int .i64 k := hk 2 (by decide)
                have h3 : x.v 3 = .func (.func 70) #[] #[] := hk 3 (by decide)
                have h4 : x.v 4 = .pointer (some ⟨w0.heap.size + 1, 0, none⟩) := hk 4 (by decide)
                have h5 : x.v 5 = .int .i64 K := hk 5 (by decide)
                have h6 : x.v 6 = .slice CA cn cc := hk 6 (by decide)
                have h7 : x.v 7 = .int .i64 s := hk 7 (by decide)
                have h8 : x.v 8 = .slice CA s cc := hk 8 (by decide)
                have h9 : MxO w (x.lo 9) (x.hi 9) (x.v 9) (mxF K s fun b a => F b (atN y nv k + a)) := hk 9 (by decide)
                have h10 : ∃ h', h' ≤ w.heap.size ∧ MxO w w12.heap.size h' (x.v 10) (gSink y nv K F k) := hk 10 (by decide)
                have h11 : x.v 11 = .pointer (some ⟨gH, k * 3, none⟩) := hk 11 (by decide)
                clear hk
                simp only [netAct, dstAt, List.getElem?_toArray, List.getElem?_cons_zero, List.getElem?_cons_succ, Option.bind_some, Act.put, List.setIfInBounds_toArray, List.set_cons_zero, List.set_cons_succ]
                simp only [List.drop_succ_cons, List.drop_zero, h0, h1, h2, h3, h4, h5, h6, h7, h8, h11]
                clear h0 h1 h2 h3 h4 h5 h6 h7 h8 h11
                obtain ⟨h', l', o10⟩ := h10
                obtain ⟨AM, am, e10⟩ := o10.form
                rw [e10] at o10 ⊢
                replace o10 := o10.wider (Nat.le_refl _) l'
                obtain ⟨mr, hmr⟩ : ∃ z, (gSink y nv K F k).r = z := ⟨_, rfl⟩
                obtain ⟨mk, hmk⟩ : ∃ z, (gSink y nv K F k).c = z := ⟨_, rfl⟩
                obtain ⟨ml, hml2⟩ : ∃ z, (gSink y nv K F k).a.length = z := ⟨_, rfl⟩
                rw [hmr, hmk, hml2] at o10 ⊢
                have hOw := HO12.out.below hb
                have hbs := hb.size
                have hkm : k < (rfK y nv K (gSink y nv K F) k).m.length := by rw [rfK, msF_length]; exact hkn
                have hset := RepO.setMx hOw hkm o10 (Nat.le_refl _) (by omega) hs12
                obtain ⟨W14, hW14⟩ : ∃ u, set3 w gH (k * 3) (.int .i64 mr) (.int .i64 mk) (.slice AM ml am) = u := ⟨_, rfl⟩
                rw [hW14] at hset
                have hch3 : Chg gH (gH + 1) w W14 := by rw [← hW14]; exact chg_set3 _ _ _ _ _ _
                have hs14 : W14.heap.size = w.heap.size := by rw [← hW14]; simp
                have hRep : RepO W14 W.heap.size W14.heap.size (.agg #[.int .i64 y.p, .int .i64 y.q.v, .slice QA y.q.f.length qa, .slice QB y.q.f.length qb, .slice (some ⟨gE, 0, none⟩) y.d.length e3, .slice (some ⟨gH, 0, none⟩) y.m.length h3]) (rfK y nv K (gSink y nv K F) (k + 1)) := by
                  have := hset.1.wider (lo' := W.heap.size) (hi' := W14.heap.size) (Nat.le_refl _) (by omega)
                  rw [rfK, ← HYS.out]
                  exact this
                have HREP := Lib.hid hRep
                have HCH14 := Lib.hid ((HCH12.out.trans (Chg.of_below hb)).trans (hch3.wider (show W2.heap.size ≤ gH by omega) (by omega)))
                obtain ⟨hk0, hk1, hk2, hkf⟩ : (∃ u, w.cell? ⟨gH, k * 3, none⟩ = some u) ∧ (∃ u, w.cell? ⟨gH, k * 3 + 1, none⟩ = some u) ∧ (∃ u, w.cell? ⟨gH, k * 3 + 2, none⟩ = some u) ∧ ∀ i, w.frozen? ⟨gH, i, none⟩ = false := by
                  obtain ⟨g, c0', s0', e, _, _, z0, z1, z2, _, zf, _⟩ := hOw.mxAt (j := k) (List.getElem?_eq_getElem hkm)
                  simp only [Value.slice.injEq, Option.some.injEq, Addr.mk.injEq, and_true, true_and] at e
                  obtain ⟨e1, _⟩ := e
                  subst e1
                  exact ⟨⟨_, z0⟩, ⟨_, z1⟩, ⟨_, z2⟩, zf⟩
                obtain ⟨u0, z0⟩ := hk0
                obtain ⟨u1, z1⟩ := hk1
                obtain ⟨u2, z2⟩ := hk2
                clear hset hRep hch3 hs14 hOw hmr hmk hml2 hiv hdj e10 o10 h9 hkm
                go_wp2
                clear hW14 z0 z1 z2 hkf
                refine ⟨⟨k + 1, _, cn - s, cc - s, by omega, by go_num, rfl, ?_, ⟨by omega, by omega⟩, fun w B h => ?_, HCH14.out, HREP.out⟩, ?_⟩
                · have := HCN.out
                  have h2 := hA2.out
                  show cn - s + atN y (nv : Int) (k + 1) = N
                  omega
                · have h2 := HCUT.out w B h
                  have hcl : ((rowsF N K fun a b => F b a).drop (atN y nv k)).length = cn := by rw [List.length_drop, rowsF_length]; have := HCN.out; omega
                  rw [← hcl] at h2
                  obtain ⟨CB, eCB, h3⟩ := SlG.cut (i := s) (k := cn) h2 hscn (Nat.le_of_eq hcl.symm)
                  rw [List.take_of_length_le (by rw [List.length_drop, hcl]; exact Nat.le_refl _), List.drop_drop, ← hA2.out] at h3
                  rw [← eCB, Nat.mul_one] at h3
                  exact h3
                · simp [intOf]; omega
          · have h2 : (nt : Int) = nv := by
              have := HTC.out
              rw [htc] at this
              have := this.symm
              simp only [Bool.or_eq_true, decide_eq_true_eq] at this
              exact this.resolve_left h1
            have hd1 : ((nf : Int) != (nv : Int)) = true := by rw [bne_iff_ne]; exact h1
            have hd2 : ((nt : Int) != (nv : Int)) = false := by rw [bne_eq_false_iff_eq]; exact h2
            clear h1 h2 htc HTC
            go_wp2
            refine wp_region_net (by kernel_rfl) [.eq (.pointer (some ⟨w0.heap.size, 4, none⟩)), .eq (.slice (some ⟨bd, od, none⟩) y.d.length e), .eq (.int .i64 nf), .eq (.pointer (some ⟨w0.heap.size, 1, none⟩)), .eq (.pointer (some ⟨w0.heap.size, 3, none⟩)), .eq (.slice (some ⟨bt, ot, none⟩) y.q.t.length c), .eq (.int .i64 k), .eq (.pointer (some ⟨bt, ot + k, none⟩)), .eq (.int .i64 nt), .eq (.int .i64 ((nf : Int) + nt)), .eq (.int .i64 nv), .eq (.int .i64 u), .eq (.pointer (some ⟨bd, od + u, none⟩)), .eq (.int .i64 s)] [[], [0], [], [], [3], [3, 4], [], [3, 4, 5, 6], [3, 4, 5, 6, 7], [2, 3, 4, 5, 6, 7, 8], [], [2, 3, 4, 5, 6, 7, 8, 9, 10], [0, 1, 2, 3, 4, 5, 6, 7, 8, 9, 10, 11], [0, 1, 2, 3, 4, 5, 6, 7, 8, 9, 10, 11, 12], [0, 1, 2, 3, 4, 5, 6, 7, 8, 9, 10, 11, 12, 13]] 14 (by kernel_rfl) ⟨trivial, trivial, trivial, trivial, trivial, trivial, trivial, trivial, trivial, trivial, trivial, trivial, trivial, trivial, trivial⟩ ⟨?_, ?_, ?_, ?_, ?_, ?_, ?_, ?_, ?_, ?_, ?_, ?_, ?_, ?_, trivial⟩ ?_
            · intro x w hb hk Q' hQ
              clear hk
              simp only [netAct, dstAt, List.getElem?_toArray, List.getElem?_cons_zero, List.getElem?_cons_succ, Option.bind_some, Act.put, List.setIfInBounds_toArray, List.set_cons_zero, List.set_cons_succ] at hQ ⊢
              go_wp2
              exact hQ (.pointer (some ⟨w0.heap.size, 4, none⟩)) _ (Below.refl _ _) rfl
            · intro x w hb hk Q' hQ
              have h0 : x.v 0 = .pointer (some ⟨w0.heap.size, 4, none⟩) := (hk 0 (by decide)).1
              clear hk
              simp only [netAct, dstAt, List.getElem?_toArray, List.getElem?_cons_zero, List.getElem?_cons_succ, Option.bind_some, Act.put, List.setIfInBounds_toArray, List.set_cons_zero, List.set_cons_succ] at hQ ⊢
              simp only [h0] at hQ ⊢
              clear h0
              have z := (k1.call (GWr.out.trans (hb.mono hsr))).cell' (i := 4) rfl
              go_wp2
              exact hQ (.slice (some ⟨bd, od, none⟩) y.d.length e) _ (Below.refl _ _) rfl
            · intro x w hb hk Q' hQ
              clear hk
              simp only [netAct, dstAt, List.getElem?_toArray, List.getElem?_cons_zero, List.getElem?_cons_succ, Option.bind_some, Act.put, List.setIfInBounds_toArray, List.set_cons_zero, List.set_cons_succ] at hQ ⊢
              go_wp2
              exact hQ (.int .i64 nf) _ (Below.refl _ _) rfl
            · intro x w hb hk Q' hQ
              clear hk
              simp only [netAct, dstAt, List.getElem?_toArray, List.getElem?_cons_zero, List.getElem?_cons_succ, Option.bind_some, Act.put, List.setIfInBounds_toArray, List.set_cons_zero, List.set_cons_succ] at hQ ⊢
              go_wp2
              exact hQ (.pointer (some ⟨w0.heap.size, 1, none⟩)) _ (Below.refl _ _) rfl
            · intro x w hb hk Q' hQ
              have h3 : x.v 3 = .pointer (some ⟨w0.heap.size, 1, none⟩) := (hk 3 (by decide)).1
              clear hk
              simp only [netAct, dstAt, List.getElem?_toArray, List.getElem?_cons_zero, List.getElem?_cons_succ, Option.bind_some, Act.put, List.setIfInBounds_toArray, List.set_cons_zero, List.set_cons_succ] at hQ ⊢
              simp only [h3] at hQ ⊢
              clear h3
              go_wp2
              exact hQ (.pointer (some ⟨w0.heap.size, 3, none⟩)) _ (Below.refl _ _) rfl
            · intro x w hb hk Q' hQ
              have h4 : x.v 4 = .pointer (some ⟨w0.heap.size, 3, none⟩) := (hk 4 (by decide)).1
              clear hk
              simp only [netAct, dstAt, List.getElem?_toArray, List.getElem?_cons_zero, List.getElem?_cons_succ, Option.bind_some, Act.put, List.setIfInBounds_toArray, List.set_cons_zero, List.set_cons_succ] at hQ ⊢
              simp only [h4] at hQ ⊢
              clear h4
              have z := (k1.call (GWr.out.trans (hb.mono hsr))).cell' (i := 3) rfl
              go_wp2
              exact hQ (.slice (some ⟨bt, ot, none⟩) y.q.t.length c) _ (Below.refl _ _) rfl
            · intro x w hb hk Q' hQ
              clear hk
              simp only [netAct, dstAt, List.getElem?_toArray, List.getElem?_cons_zero, List.getElem?_cons_succ, Option.bind_some, Act.put, List.setIfInBounds_toArray, List.set_cons_zero, List.set_cons_succ] at hQ ⊢
              go_wp2
              exact hQ (.int .i64 k) _ (Below.refl _ _) rfl
            · intro x w hb hk Q' hQ
              have h5 : x.v 5 = .slice (some ⟨bt, ot, none⟩) y.q.t.length c := (hk 5 (by decide)).1
              have h6 : x.v 6 = .int .i64 k := (hk 6 (by decide)).1
              clear hk
              simp only [netAct, dstAt, List.getElem?_toArray, List.getElem?_cons_zero, List.getElem?_cons_succ, Option.bind_some, Act.put, List.setIfInBounds_toArray, List.set_cons_zero, List.set_cons_succ] at hQ ⊢
              simp only [h5, h6] at hQ ⊢
              clear h5 h6
              go_wp2
              exact hQ (.pointer (some ⟨bt, ot + k, none⟩)) _ (Below.refl _ _) rfl
            · intro x w hb hk Q' hQ
              have h7 : x.v 7 = .pointer (some ⟨bt, ot + k, none⟩) := (hk 7 (by decide)).1
              clear hk
              simp only [netAct, dstAt, List.getElem?_toArray, List.getElem?_cons_zero, List.getElem?_cons_succ, Option.bind_some, Act.put, List.setIfInBounds_toArray, List.set_cons_zero, List.set_cons_succ] at hQ ⊢
              simp only [h7] at hQ ⊢
              clear h7
              have z := bcell (GWr.out.trans (hb.mono hsr)) hbt T1.out
              go_wp2
              exact hQ (.int .i64 nt) _ (Below.refl _ _) rfl
            · intro x w hb hk Q' hQ
              have h2 : x.v 2 = .int .i64 nf := (hk 2 (by decide)).1
              have h8 : x.v 8 = .int .i64 nt := (hk 8 (by decide)).1
              clear hk
              simp only [netAct, dstAt, List.getElem?_toArray, List.getElem?_cons_zero, List.getElem?_cons_succ, Option.bind_some, Act.put, List.setIfInBounds_toArray, List.set_cons_zero, List.set_cons_succ] at hQ ⊢
              simp only [h2, h8] at hQ ⊢
              clear h2 h8
              go_wp2
              exact hQ (.int .i64 ((nf : Int) + nt)) _ (Below.refl _ _) rfl
            · intro x w hb hk Q' hQ
              clear hk
              simp only [netAct, dstAt, List.getElem?_toArray, List.getElem?_cons_zero, List.getElem?_cons_succ, Option.bind_some, Act.put, List.setIfInBounds_toArray, List.set_cons_zero, List.set_cons_succ] at hQ ⊢
              go_wp2
              exact hQ (.int .i64 nv) _ (Below.refl _ _) rfl
            · intro x w hb hk Q' hQ
              have h9 : x.v 9 = .int .i64 ((nf : Int) + nt) := (hk 9 (by decide)).1
              have h10 : x.v 10 = .int .i64 nv := (hk 10 (by decide)).1
              clear hk
              simp only [netAct, dstAt, List.getElem?_toArray, List.getElem?_cons_zero, List.getElem?_cons_succ, Option.bind_some, Act.put, List.setIfInBounds_toArray, List.set_cons_zero, List.set_cons_succ] at hQ ⊢
              simp only [h9, h10] at hQ ⊢
              clear h9 h10
              go_wp2
              rw [HUV.out]
              exact hQ (.int .i64 u) _ (Below.refl _ _) rfl
            · intro x w hb hk Q' hQ
              have h1 : x.v 1 = .slice (some ⟨bd, od, none⟩) y.d.length e := (hk 1 (by decide)).1
              have h11 : x.v 11 = .int .i64 u := (hk 11 (by decide)).1
              clear hk
              simp only [netAct, dstAt, List.getElem?_toArray, List.getElem?_cons_zero, List.getElem?_cons_succ, Option.bind_some, Act.put, List.setIfInBounds_toArray, List.set_cons_zero, List.set_cons_succ] at hQ ⊢
              simp only [h1, h11] at hQ ⊢
              clear h1 h11
              go_wp2
              exact hQ (.pointer (some ⟨bd, od + u, none⟩)) _ (Below.refl _ _) rfl
            · intro x w hb hk Q' hQ
              have h12 : x.v 12 = .pointer (some ⟨bd, od + u, none⟩) := (hk 12 (by decide)).1
              clear hk
              simp only [netAct, dstAt, List.getElem?_toArray, List.getElem?_cons_zero, List.getElem?_cons_succ, Option.bind_some, Act.put, List.setIfInBounds_toArray, List.set_cons_zero, List.set_cons_succ] at hQ ⊢
              simp only [h12] at hQ ⊢
              clear h12
              have z := bcell (GWr.out.trans (hb.mono hsr)) hbd D1.out
              go_wp2
              exact hQ (.int .i64 s) _ (Below.refl _ _) rfl
            · intro x w hb hk hiv hdj
              have h0 : x.v 0 = .pointer (some ⟨w0.heap.size, 4, none⟩) := hk 0 (by decide)
              have h1 : x.v 1 = .slice (some ⟨bd, od, none⟩) y.d.length e := hk 1 (by decide)
              have h2 : x.v 2 = .int .i64 nf := hk 2 (by decide)
              have h3 : x.v 3 = .pointer (some ⟨w0.heap.size, 1, none⟩) := hk 3 (by decide)
              have h4 : x.v 4 = .pointer (some ⟨w0.heap.size, 3, none⟩) := hk 4 (by decide)
              have h5 : x.v 5 = .slice (some ⟨bt, ot, none⟩) y.q.t.length c := hk 5 (by decide)
              have h6 : x.v 6 = .int .i64 k := hk 6 (by decide)
              have h7 : x.v 7 = .pointer (some ⟨bt, ot + k, none⟩) := hk 7 (by decide)
              have h8 : x.v 8 = .int .i64 nt := hk 8 (by decide)
              have h9 : x.v 9 = .int .i64 ((nf : Int) + nt) := hk 9 (by decide)
              have h10 : x.v 10 = .int .i64 nv := hk 10 (by decide)
              have h11 : x.v 11 = .int .i64 u := hk 11 (by decide)
              have h12 : x.v 12 = .pointer (some ⟨bd, od + u, none⟩) := hk 12 (by decide)
              have h13 : x.v 13 = .int .i64 s := hk 13 (by decide)
              clear hk
              simp only [netAct, dstAt, List.getElem?_toArray, List.getElem?_cons_zero, List.getElem?_cons_succ, Option.bind_some, Act.put, List.setIfInBounds_toArray, List.set_cons_zero, List.set_cons_succ]
              simp only [List.drop_succ_cons, List.drop_zero, h0, h1, h2, h3, h4, h5, h6, h7, h8, h9, h10, h11, h12, h13]
              clear h0 h1 h2 h3 h4 h5 h6 h7 h8 h9 h10 h11 h12 h13
              have GW12 := Lib.hid (GWr.out.trans (hb.mono hsr))
              have HCH12 := Lib.hid (HCH.out.trans (Chg.of_below hb))
              have HO12 := Lib.hid ((HOr.out.below hb).wider (Nat.le_refl _) hb.size)
              have hb12s := hb.size
              obtain ⟨w12, hw12⟩ : ∃ z, z = w := ⟨_, rfl⟩
              subst hw12
              clear hiv hdj hb
              go_wp2
              have hs12 : W.heap.size ≤ w12.heap.size := GW12.out.size
              have h38 : w3.heap.size ≤ w12.heap.size := by omega
              have hslc := HC8.out.chg HCH12.out (.inr (by omega))
              have hS12 := HCUT.out _ _ hslc.rd
              have hcl : ((rowsF N K fun a b => F b a).drop (atN y nv k)).length = cn := by rw [List.length_drop, rowsF_length]; have := HCN.out; omega
              rw [← hcl] at hS12
              have hSB := SlG.takeG (k := s) hS12 (by rw [hcl]; exact hscn)
              rw [rowsF_drop, rowsF_take _ _ _ _ (by have := HCN.out; omega)] at hSB
              have HSB := Lib.hid hSB
              have KM12 := Lib.hid (k2.call GW12.out)
              have KO12 := Lib.hid (K8.out.chg HCH12.out (.inr (by omega)))
              clear hslc hS12 hcl hSB
              refine wp_region_net (by kernel_rfl) [.eq (.pointer (some ⟨w3.heap.size, 5, none⟩)), .eq (.slice (some ⟨gH, 0, none⟩) y.m.length h3), .eq (.int .i64 k), .eq (.func (.func 70) #[] #[]), .eq (.pointer (some ⟨w0.heap.size + 1, 0, none⟩)), .eq (.int .i64 K), .eq (.slice CA cn cc), .eq (.int .i64 s), .eq (.slice CA s cc), rel 9 (fun u lo hi w => MxO w lo hi u (mxF K s fun b a => F b (atN y nv k + a))), .rel (fun x w => ∃ h', h' ≤ w.heap.size ∧ MxO w w12.heap.size h' (x.v 10) (gSink y nv K F k)), .eq (.pointer (some ⟨gH, k * 3, none⟩))] [[], [0], [], [], [], [4], [], [], [6, 7], [4, 5, 6, 7, 8], [3, 4, 5, 6, 7, 8, 9], [0, 1, 2, 3, 4, 5, 6, 7, 8, 9, 10], [0, 1, 2, 3, 4, 5, 6, 7, 8, 9, 10, 11]] 12 (by kernel_rfl) ⟨trivial, trivial, trivial, trivial, trivial, trivial, trivial, trivial, trivial, rel_stable (fun u lo hi w w' h hb => h.below hb), fun x w w' ⟨h', l, o⟩ hb => ⟨h', Nat.le_trans l hb.size, o.below hb⟩, trivial, trivial⟩ ⟨?_, ?_, ?_, ?_, ?_, ?_, ?_, ?_, ?_, ?_, ?_, ?_, trivial⟩ ?_
              · intro x w hb hk Q' hQ
                clear hk
                simp only [netAct, dstAt, List.getElem?_toArray, List.getElem?_cons_zero, List.getElem?_cons_succ, Option.bind_some, Act.put, List.setIfInBounds_toArray, List.set_cons_zero, List.set_cons_succ] at hQ ⊢
                go_wp2
                exact hQ (.pointer (some ⟨w3.heap.size, 5, none⟩)) _ (Below.refl _ _) rfl
              · intro x w hb hk Q' hQ
                have h0 : x.v 0 = .pointer (some ⟨w3.heap.size, 5, none⟩) := (hk 0 (by decide)).1
                clear hk
                simp only [netAct, dstAt, List.getElem?_toArray, List.getElem?_cons_zero, List.getElem?_cons_succ, Option.bind_some, Act.put, List.setIfInBounds_toArray, List.set_cons_zero, List.set_cons_succ] at hQ ⊢
                simp only [h0] at hQ ⊢
                clear h0
                have z := (KO12.out.call hb).cell' (i := 5) rfl
                go_wp2
                exact hQ (.slice (some ⟨gH, 0, none⟩) y.m.length h3) _ (Below.refl _ _) rfl
              · intro x w hb hk Q' hQ
                clear hk
                simp only [netAct, dstAt, List.getElem?_toArray, List.getElem?_cons_zero, List.getElem?_cons_succ, Option.bind_some, Act.put, List.setIfInBounds_toArray, List.set_cons_zero, List.set_cons_succ] at hQ ⊢
                go_wp2
                exact hQ (.int .i64 k) _ (Below.refl _ _) rfl
              · intro x w hb hk Q' hQ
                clear hk
                simp only [netAct, dstAt, List.getElem?_toArray, List.getElem?_cons_zero, List.getElem?_cons_succ, Option.bind_some, Act.put, List.setIfInBounds_toArray, List.set_cons_zero, List.set_cons_succ] at hQ ⊢
                go_wp2
                exact hQ (.func (.func 70) #[] #[]) _ (Below.refl _ _) rfl
              · intro x w hb hk Q' hQ
                clear hk
                simp only [netAct, dstAt, List.getElem?_toArray, List.getElem?_cons_zero, List.getElem?_cons_succ, Option.bind_some, Act.put, List.setIfInBounds_toArray, List.set_cons_zero, List.set_cons_succ] at hQ ⊢
                go_wp2
                exact hQ (.pointer (some ⟨w0.heap.size + 1, 0, none⟩)) _ (Below.refl _ _) rfl
              · intro x w hb hk Q' hQ
                have h4 : x.v 4 = .pointer (some ⟨w0.heap.size + 1, 0, none⟩) := (hk 4 (by decide)).1
                clear hk
                simp only [netAct, dstAt, List.getElem?_toArray, List.getElem?_cons_zero, List.getElem?_cons_succ, Option.bind_some, Act.put, List.setIfInBounds_toArray, List.set_cons_zero, List.set_cons_succ] at hQ ⊢
                simp only [h4] at hQ ⊢
                clear h4
                have z := (KM12.out.call hb).cell' (i := 0) rfl
                go_wp2
                exact hQ (.int .i64 K) _ (Below.refl _ _) rfl
              · intro x w hb hk Q' hQ
                clear hk
                simp only [netAct, dstAt, List.getElem?_toArray, List.getElem?_cons_zero, List.getElem?_cons_succ, Option.bind_some, Act.put, List.setIfInBounds_toArray, List.set_cons_zero, List.set_cons_succ] at hQ ⊢
                go_wp2
                exact hQ (.slice CA cn cc) _ (Below.refl _ _) rfl
              · intro x w hb hk Q' hQ
                clear hk
                simp only [netAct, dstAt, List.getElem?_toArray, List.getElem?_cons_zero, List.getElem?_cons_succ, Option.bind_some, Act.put, List.setIfInBounds_toArray, List.set_cons_zero, List.set_cons_succ] at hQ ⊢
                go_wp2
                exact hQ (.int .i64 s) _ (Below.refl _ _) rfl
              · intro x w hb hk Q' hQ
                have h6 : x.v 6 = .slice CA cn cc := (hk 6 (by decide)).1
                have h7 : x.v 7 = .int .i64 s := (hk 7 (by decide)).1
                clear hk
                simp only [netAct, dstAt, List.getElem?_toArray, List.getElem?_cons_zero, List.getElem?_cons_succ, Option.bind_some, Act.put, List.setIfInBounds_toArray, List.set_cons_zero, List.set_cons_succ] at hQ ⊢
                simp only [h6, h7] at hQ ⊢
                clear h6 h7
                go_wp2
                exact hQ (.slice CA s cc) _ (Below.refl _ _) rfl
              · intro x w hb hk Q' hQ
                have h4 : x.v 4 = .pointer (some ⟨w0.heap.size + 1, 0, none⟩) := (hk 4 (by decide)).1
                have h5 : x.v 5 = .int .i64 K := (hk 5 (by decide)).1
                have h6 : x.v 6 = .slice CA cn cc := (hk 6 (by decide)).1
                have h7 : x.v 7 = .int .i64 s := (hk 7 (by decide)).1
                have h8 : x.v 8 = .slice CA s cc := (hk 8 (by decide)).1
                clear hk
                simp only [netAct, dstAt, List.getElem?_toArray, List.getElem?_cons_zero, List.getElem?_cons_succ, Option.bind_some, Act.put, List.setIfInBounds_toArray, List.set_cons_zero, List.set_cons_succ] at hQ ⊢
                simp only [h4, h5, h6, h7, h8] at hQ ⊢
                clear h4 h5 h6 h7 h8
                go_wp2_with fail
                refine (fromColumns_any _ K s (fun b a => F b (atN y nv k + a)) _ (SlII.next hb HSB.out) hK (by omega)).mono ?_; rintro er w6 ⟨v6, rfl, ho6, hb6⟩
                go_wp2
                exact hQ _ _ hb6 ho6
              · intro x w hb hk Q' hQ
                have h3 : x.v 3 = .func (.func 70) #[] #[] := (hk 3 (by decide)).1
                have h4 : x.v 4 = .pointer (some ⟨w0.heap.size + 1, 0, none⟩) := (hk 4 (by decide)).1
                have h5 : x.v 5 = .int .i64 K := (hk 5 (by decide)).1
                have h6 : x.v 6 = .slice CA cn cc := (hk 6 (by decide)).1
                have h7 : x.v 7 = .int .i64 s := (hk 7 (by decide)).1
                have h8 : x.v 8 = .slice CA s cc := (hk 8 (by decide)).1
                have h9 : MxO w (x.lo 9) (x.hi 9) (x.v 9) (mxF K s fun b a => F b (atN y nv k + a)) := (hk 9 (by decide)).1
                have s9 := (hk 9 (by decide)).2
                clear hk
                simp only [netAct, dstAt, List.getElem?_toArray, List.getElem?_cons_zero, List.getElem?_cons_succ, Option.bind_some, Act.put, List.setIfInBounds_toArray, List.set_cons_zero, List.set_cons_succ] at hQ ⊢
                simp only [h3, h4, h5, h6, h7, h8] at hQ ⊢
                clear h3 h4 h5 h6 h7 h8
                obtain ⟨A9, c9, e9⟩ := h9.form
                have H9 := Lib.hid h9.rd
                rw [e9] at H9 hQ ⊢
                go_wp2_with fail
                refine (refSink1_any _ K s (fun b a => F b (atN y nv k + a)) _ H9.out hK (by omega)).mono ?_; rintro er w6 ⟨v6, rfl, ho6, hb6⟩
                go_wp2
                exact hQ _ _ hb6 ⟨_, Nat.le_refl _, by rw [gSink, HOS.out]; exact ho6.wider hb.size (Nat.le_refl _)⟩
              · intro x w hb hk Q' hQ
                have h1 : x.v 1 = .slice (some ⟨gH, 0, none⟩) y.m.length h3 := (hk 1 (by decide)).1
                have h2 : x.v 2 = .int .i64 k := (hk 2 (by decide)).1
                clear hk
                simp only [netAct, dstAt, List.getElem?_toArray, List.getElem?_cons_zero, List.getElem?_cons_succ, Option.bind_some, Act.put, List.setIfInBounds_toArray, List.set_cons_zero, List.set_cons_succ] at hQ ⊢
                simp only [h1, h2] at hQ ⊢
                clear h1 h2
                go_wp2
                exact hQ (.pointer (some ⟨gH, k * 3, none⟩)) _ (Below.refl _ _) rfl
              · intro x w hb hk hiv hdj
                have h0 : x.v 0 = .pointer (some ⟨w3.heap.size, 5, none⟩) := hk 0 (by decide)
                have h1 : x.v 1 = .slice (some ⟨gH, 0, none⟩) y.m.length h3 := hk 1 (by decide)
                have h2 : x.v 2 = .int .i64 k := hk 2 (by decide)
                have h3 : x.v 3 = .func (.func 70) #[] #[] := hk 3 (by decide)
                have h4 : x.v 4 = .pointer (some ⟨w0.heap.size + 1, 0, none⟩) := hk 4 (by decide)
                have h5 : x.v 5 = .int .i64 K := hk 5 (by decide)
                have h6 : x.v 6 = .slice CA cn cc := hk 6 (by decide)
                have h7 : x.v 7 = .int .i64 s := hk 7 (by decide)
                have h8 : x.v 8 = .slice CA s cc := hk 8 (by decide)
                have h9 : MxO w (x.lo 9) (x.hi 9) (x.v 9) (mxF K s fun b a => F b (atN y nv k + a)) := hk 9 (by decide)
                have h10 : ∃ h', h' ≤ w.heap.size ∧ MxO w w12.heap.size h' (x.v 10) (gSink y nv K F k) := hk 10 (by decide)
                have h11 : x.v 11 = .pointer (some ⟨gH, k * 3, none⟩) := hk 11 (by decide)
                clear hk
                simp only [netAct, dstAt, List.getElem?_toArray, List.getElem?_cons_zero, List.getElem?_cons_succ, Option.bind_some, Act.put, List.setIfInBounds_toArray, List.set_cons_zero, List.set_cons_succ]
                simp only [List.drop_succ_cons, List.drop_zero, h0, h1, h2, h3, h4, h5, h6, h7, h8, h11]
                clear h0 h1 h2 h3 h4 h5 h6 h7 h8 h11
                obtain ⟨h', l', o10⟩ := h10
                obtain ⟨AM, am, e10⟩ := o10.form
                rw [e10] at o10 ⊢
                replace o10 := o10.wider (Nat.le_refl _) l'
                obtain ⟨mr, hmr⟩ : ∃ z, (gSink y nv K F k).r = z := ⟨_, rfl⟩
                obtain ⟨mk, hmk⟩ : ∃ z, (gSink y nv K F k).c = z := ⟨_, rfl⟩
                obtain ⟨ml, hml2⟩ : ∃ z, (gSink y nv K F k).a.length = z := ⟨_, rfl⟩
                rw [hmr, hmk, hml2] at o10 ⊢
                have hOw := HO12.out.below hb
                have hbs := hb.size
                have hkm : k < (rfK y nv K (gSink y nv K F) k).m.length := by rw [rfK, msF_length]; exact hkn
                have hset := RepO.setMx hOw hkm o10 (Nat.le_refl _) (by omega) hs12
                obtain ⟨W14, hW14⟩ : ∃ u, set3 w gH (k * 3) (.int .i64 mr) (.int .i64 mk) (.slice AM ml am) = u := ⟨_, rfl⟩
                rw [hW14] at hset
                have hch3 : Chg gH (gH + 1) w W14 := by rw [← hW14]; exact chg_set3 _ _ _ _ _ _
                have hs14 : W14.heap.size = w.heap.size := by rw [← hW14]; simp
                have hRep : RepO W14 W.heap.size W14.heap.size (.agg #[.int .i64 y.p, .int .i64 y.q.v, .slice QA y.q.f.length qa, .slice QB y.q.f.length qb, .slice (some ⟨gE, 0, none⟩) y.d.length e3, .slice (some ⟨gH, 0, none⟩) y.m.length h3]) (rfK y nv K (gSink y nv K F) (k + 1)) := by
                  have := hset.1.wider (lo' := W.heap.size) (hi' := W14.heap.size) (Nat.le_refl _) (by omega)
                  rw [rfK, ← HYS.out]
                  exact this
                have HREP := Lib.hid hRep
                have HCH14 := Lib.hid ((HCH12.out.trans (Chg.of_below hb)).trans (hch3.wider (show W2.heap.size ≤ gH by omega) (by omega)))
                obtain ⟨hk0, hk1, hk2, hkf⟩ : (∃ u, w.cell? ⟨gH, k * 3, none⟩ = some u) ∧ (∃ u, w.cell? ⟨gH, k * 3 + 1, none⟩ = some u) ∧ (∃ u, w.cell? ⟨gH, k * 3 + 2, none⟩ = some u) ∧ ∀ i, w.frozen? ⟨gH, i, none⟩ = false := by
                  obtain ⟨g, c0', s0', e, _, _, z0, z1, z2, _, zf, _⟩ := hOw.mxAt (j := k) (List.getElem?_eq_getElem hkm)
                  simp only [Value.slice.injEq, Option.some.injEq, Addr.mk.injEq, and_true, true_and] at e
                  obtain ⟨e1, _⟩ := e
                  subst e1
                  exact ⟨⟨_, z0⟩, ⟨_, z1⟩, ⟨_, z2⟩, zf⟩
                obtain ⟨u0, z0⟩ := hk0
                obtain ⟨u1, z1⟩ := hk1
                obtain ⟨u2, z2⟩ := hk2
                clear hset hRep hch3 hs14 hOw hmr hmk hml2 hiv hdj e10 o10 h9 hkm
                go_wp2
                clear hW14 z0 z1 z2 hkf
                refine ⟨⟨k + 1, _, cn - s, cc - s, by omega, by go_num, rfl, ?_, ⟨by omega, by omega⟩, fun w B h => ?_, HCH14.out, HREP.out⟩, ?_⟩
                · have := HCN.out
                  have h2 := hA2.out
                  show cn - s + atN y (nv : Int) (k + 1) = N
                  omega
                · have h2 := HCUT.out w B h
                  have hcl : ((rowsF N K fun a b => F b a).drop (atN y nv k)).length = cn := by rw [List.length_drop, rowsF_length]; have := HCN.out; omega
                  rw [← hcl] at h2
                  obtain ⟨CB, eCB, h3⟩ := SlG.cut (i := s) (k := cn) h2 hscn (Nat.le_of_eq hcl.symm)
                  rw [List.take_of_length_le (by rw [List.length_drop, hcl]; exact Nat.le_refl _), List.drop_drop, ← hA2.out] at h3
                  rw [← eCB, Nat.mul_one] at h3
                  exact h3
                · simp [intOf]; omega
      · obtain rfl : k = y.q.f.length := by omega
        have kz := k3.call gWr
        have fr := kz.frozen
        have s0 := kz.cell' (i := 0) rfl
        have s1' := kz.cell' (i := 1) rfl
        have s2' := kz.cell' (i := 2) rfl
        have s3' := kz.cell' (i := 3) rfl
        have s4' := kz.cell' (i := 4) rfl
        have s5' := kz.cell' (i := 5) rfl
        have kr := K8.out.chg hch (.inr (by omega))
        have r0 := kr.cell' (i := 0) rfl
        have r1 := kr.cell' (i := 1) rfl
        have r2 := kr.cell' (i := 2) rfl
        have r3 := kr.cell' (i := 3) rfl
        have r4 := kr.cell' (i := 4) rfl
        have r5 := kr.cell' (i := 5) rfl
        have gf := g0.trans (gWr.mono g0.size)
        have hc := chg6 wr (w0.heap.size + 1 + 1) (.int .i64 y.p) (.int .i64 y.q.v) (.slice QA y.q.f.length qa) (.slice QB y.q.f.length qb) (.slice (some ⟨gE, 0, none⟩) y.d.length e3) (.slice HM y.m.length h3)
        have OF := Lib.hid ((hO.chg hc (.inr (by have := SZ.out; omega))).wider (lo' := w0.heap.size) (hi' := wr.heap.size) (by have := SZ.out; omega) (Nat.le_refl _))
        have GF := Lib.hid (gf.trans (hc.below (by omega) gf.size))
        clear hO kz kr gf hc hcut hch
        go_wp2
        have hE := HE.out
        exact bodyPost_ret (v := .tuple #[.agg #[.int .i64 y.p, .int .i64 y.q.v, .slice QA y.q.f.length qa, .slice QB y.q.f.length qb, .slice (some ⟨gE, 0, none⟩) y.d.length e3, .slice HM y.m.length h3], .bool true]) (by simp [results, go_sem, s0, s1', s2', s3', s4', s5']) rfl ⟨_, by rw [hE], by rw [hE]; have := OF.out.wider (Nat.le_refl _) (Nat.le_refl _); simpa using this, GF.out⟩
end Go.Proofs.Ytcmlflppndfdcaa
