/- FnPencils: the law holds for every argument. Part 8 of 18 of the proof: DsM, RpJ, PenOf2, Shift, Prep, RowAt, PenSz, Reg, Reg2, Reg3, RowZ, ColZ, FromC. No condition. -/
import Derived.Test.YthhjoamgcfiecaaGreatBPencils7
import Derived.LoopN
set_option linter.unusedVariables false
set_option linter.unusedSimpArgs false
namespace Go.Proofs.YthhjoamgcfiecaaGreat
open Go.RowKit
theorem mxCs_set3 : ∀ {vs : List Value} {ms : List Mx} {j : Nat}, j < ms.length → vs.length = ms.length → ∀ (m : Mx) (u : Value),
  (((mxCs vs ms).set (j * 3) (.int .i64 m.r)).set (j * 3 + 1) (.int .i64 m.c)).set (j * 3 + 2) u = mxCs (vs.set j u) (ms.set j m)
 | _, [], _, h, _, _, _ => by simp at h
 | [], _ :: _, _, _, h, _, _ => by simp at h
 | v :: vs, m :: ms, 0, _, _, x, u => by simp [mxCs]
 | v :: vs, m :: ms, j + 1, h, h2, x, u => by
  have := mxCs_set3 (vs := vs) (ms := ms) (j := j) (by simpa using h) (by simpa using h2) x u
  simp only [mxCs, show (j + 1) * 3 = j * 3 + 1 + 1 + 1 by omega, show j * 3 + 1 + 1 + 1 + 1 = (j * 3 + 1) + 1 + 1 + 1 by omega, show j * 3 + 1 + 1 + 1 + 2 = (j * 3 + 2) + 1 + 1 + 1 by omega, List.set_cons_succ, this]
abbrev set3 (w : World) (g i : Nat) (a b c : Value) : World := ((w.setCell ⟨g, i, none⟩ a).setCell ⟨g, i + 1, none⟩ b).setCell ⟨g, i + 2, none⟩ c
theorem RowO.len {T : TypeId} {sz : Nat} {w : World} {lo hi g c n m : Nat} {cs : List Value} (h : RowO T sz w lo hi (.slice (some ⟨g, 0, none⟩) n c) m cs) : n = m := by
 rcases h.1.2 with ⟨e, _⟩ | ⟨g', cap', cur, e, _⟩
 ·cases e
 ·injection e with _ e _
theorem chg_set1 (w : World) (g i : Nat) (u : Value) : Chg g (g + 1) w (w.setCell ⟨g, i, none⟩ u) := chg_set (Nat.le_refl _) (Nat.lt_succ_self _)
theorem chg_set3 (w : World) (g i : Nat) (a b c : Value) : Chg g (g + 1) w (set3 w g i a b c) :=
 ((chg_set1 w g i a).trans (chg_set1 _ g (i + 1) b)).trans (chg_set1 _ g (i + 2) c)
theorem OutM.setMx {w : World} {lo hi g n c j : Nat} {vs : List Value} {ms : List Mx} (h : OutM w lo hi (.slice (some ⟨g, 0, none⟩) n c) vs ms) (hl : vs.length = ms.length) (hj : j < ms.length) (m : Mx) (u : Value) :
  OutM (set3 w g (j * 3) (.int .i64 m.r) (.int .i64 m.c) u) lo hi (.slice (some ⟨g, 0, none⟩) n c) (vs.set j u) (ms.set j m) := by
 have e := RowO.len h
 subst e
 have h1 := (RowO.stored h (j * 3) (.int .i64 m.r)).1
 have h2 := (RowO.stored h1 (j * 3 + 1) (.int .i64 m.c)).1
 have h3 := (RowO.stored h2 (j * 3 + 2) u).1
 rw [mxCs_set3 hj hl] at h3
 unfold OutM
 rw [List.length_set]
 exact h3
theorem Fam.swap {w : World} {lo hi mi hi' j : Nat} {L0 : List (Value × List Int)} {vs : List Value} {ll : List (List Int)} {u : Value} {l : List Int} (h : Fam w lo hi (L0 ++ vs.zip ll)) (hj : j < ll.length) (hl : vs.length = ll.length) (hu : IntsO w mi hi' u l) (h1 : hi ≤ mi) (h2 : mi ≤ hi') (h3 : lo ≤ mi) :
  Fam w lo hi' (L0 ++ (vs.set j u).zip (ll.set j l)) := by
 have hv : vs[j]? = some (vs[j]'(by omega)) := List.getElem?_eq_getElem (by omega)
 have hl' : ll[j]? = some (ll[j]'hj) := List.getElem?_eq_getElem hj
 have hsv : (vs.set j u)[j]? = some u := by rw [List.getElem?_set, if_pos rfl, if_pos (by omega)]
 have hsl : (ll.set j l)[j]? = some l := by rw [List.getElem?_set, if_pos rfl, if_pos hj]
 rw [zip_split hsv hsl, List.take_set_of_le (Nat.le_refl j), List.drop_set_of_lt (by omega), List.take_set_of_le (Nat.le_refl j), List.drop_set_of_lt (by omega)]
 rw [zip_split hv hl', ← List.append_assoc] at h
 rw [← List.append_assoc]
 generalize L0 ++ (vs.take j).zip (ll.take j) = M1 at h ⊢
 generalize (vs.drop (j + 1)).zip (ll.drop (j + 1)) = M2 at h ⊢
 obtain ⟨G1, G2⟩ := h
 rw [List.pairwise_append] at G2
 obtain ⟨P1, P2, P3⟩ := G2
 rw [List.pairwise_cons] at P2
 refine ⟨fun p hp => ?_, ?_⟩
 ·rcases List.mem_append.1 hp with hp | hp
  ·exact (G1 p (by simp [hp])).wider (Nat.le_refl _) (by omega)
  ·rcases List.mem_cons.1 hp with rfl | hp
   ·exact hu.wider h3 (Nat.le_refl _)
   ·exact (G1 p (by simp [hp])).wider (Nat.le_refl _) (by omega)
 ·rw [List.pairwise_append, List.pairwise_cons]
  refine ⟨P1, ⟨fun p hp => ?_, P2.2⟩, fun p hp q hq => ?_⟩
  ·rcases hA : u.ownBlock with _ | x
   ·exact .inl rfl
   ·refine .inr fun e2 => ?_
    have h5 := (G1 p (by simp [hp])).2 x e2.symm
    have h6 := (hu.1.lt x hA).1
    omega
  ·rcases List.mem_cons.1 hq with rfl | hq
   ·rcases hA : p.1.ownBlock with _ | x
    ·exact .inl rfl
    ·refine .inr fun e => ?_
     have h5 := (G1 p (by simp [hp])).2 x hA
     have h6 := (hu.1.lt x e.symm).1
     omega
   ·exact P3 p hp q (by simp [hq])
theorem OutM.blk {w : World} {lo hi g n c : Nat} {vs : List Value} {ms : List Mx} (h : OutM w lo hi (.slice (some ⟨g, 0, none⟩) n c) vs ms) : ∃ cs, Blk w g 44 cs ∧ lo ≤ g ∧ g < hi := by
 have hg := h.2.1 g rfl
 rcases h.1.2 with ⟨e, _⟩ | ⟨g', cap', cur, e, k1, hh, _⟩
 ·cases e
 ·injection e with e1 e2 _
  injection e1 with e1
  injection e1 with e1
  subst e1
  exact ⟨cur, hh, k1, hg⟩
theorem Fam.set3 {w : World} {lo hi g i : Nat} {L : List (Value × List Int)} {t : TypeId} {cs : Array Value} (h : Fam w lo hi L) (hb : Blk w g t cs) (ht : 3 ≠ t) (a b c : Value) : Fam (set3 w g i a b c) lo hi L :=
 ((h.setBlk hb ht a).setBlk (hb.set_ i a) ht b).setBlk ((hb.set_ i a).set_ (i + 1) b) ht c
theorem RepO.setMx {w : World} {lo hi mi hi' g n c j : Nat} {p v r k : Int} {f t d u : Value} {x : Rp} {m : Mx} (h : RepO w lo hi (.agg #[.int .i64 p, .int .i64 v, f, t, d, .slice (some ⟨g, 0, none⟩) n c]) x) (hj : j < x.m.length)
  (hu : MxO w mi hi' (.agg #[.int .i64 r, .int .i64 k, u]) m) (h1 : hi ≤ mi) (h2 : mi ≤ hi') (h3 : lo ≤ mi) :
  RepO (set3 w g (j * 3) (.int .i64 r) (.int .i64 k) u) lo hi' (.agg #[.int .i64 p, .int .i64 v, f, t, d, .slice (some ⟨g, 0, none⟩) n c]) ⟨x.p, x.q, x.d, x.m.set j m⟩ ∧ lo ≤ g ∧ g < hi := by
 obtain ⟨f', t', d', m', vs, e, hO, hvl, hF, hi1, hi2⟩ := h
 simp only [Value.agg.injEq, Array.mk.injEq, List.cons.injEq, and_true] at e
 obtain ⟨rfl2, rfl3, rfl, rfl, rfl, rfl⟩ := e
 obtain ⟨s, e, hs, i1, i2⟩ := hu
 simp only [Value.agg.injEq, Array.mk.injEq, List.cons.injEq, and_true, Value.int.injEq, true_and] at e
 obtain ⟨rfl, rfl, rfl⟩ := e
 obtain ⟨cs, hb, hg1, hg2⟩ := OutM.blk hO
 refine ⟨⟨f, t, d, _, vs.set j u, by rw [rfl2, rfl3], (OutM.setMx hO hvl hj m u).mono (Nat.le_refl _) (by omega), by simp [hvl], ?_, hi1, fun y hy => ?_⟩, hg1, hg2⟩
 ·have hF2 := hF.swap (j := j) (by simpa using hj) (by simpa using hvl) hs h1 h2 h3
  have hF3 := hF2.set3 (i := j * 3) hb (by decide) (.int .i64 m.r) (.int .i64 m.c) u
  rw [List.map_set]
  exact hF3
 ·rcases List.mem_or_eq_of_mem_set hy with hy | rfl
  ·exact hi2 y hy
  ·exact ⟨i1, i2⟩
theorem RepO.mxAt {w : World} {lo hi j : Nat} {p v : Int} {f t d m : Value} {x : Rp} {y : Mx} (h : RepO w lo hi (.agg #[.int .i64 p, .int .i64 v, f, t, d, m]) x) (hj : x.m[j]? = some y) :
  ∃ g c s, m = .slice (some ⟨g, 0, none⟩) x.m.length c ∧ lo ≤ g ∧ g < hi ∧ w.cell? ⟨g, j * 3, none⟩ = some (.int .i64 y.r) ∧ w.cell? ⟨g, j * 3 + 1, none⟩ = some (.int .i64 y.c) ∧ w.cell? ⟨g, j * 3 + 2, none⟩ = some s ∧ IntsO w lo hi s y.a ∧ (∀ i, w.frozen? ⟨g, i, none⟩ = false) ∧ I64 y.r ∧ I64 y.c := by
 obtain ⟨f', t', d', m', vs, e, hO, hvl, hF, hi1, hi2⟩ := h
 simp only [Value.agg.injEq, Array.mk.injEq, List.cons.injEq, and_true] at e
 obtain ⟨_, _, rfl, rfl, rfl, rfl⟩ := e
 have hjl := lt_of_some hj
 have hv : vs[j]? = some (vs[j]'(by omega)) := List.getElem?_eq_getElem (by omega)
 obtain ⟨a, b, c⟩ := mxCs_get hv hj
 rcases hO.1.2 with ⟨rfl, h0⟩ | ⟨g, cap, cur, rfl, k1, hh, _⟩
 ·omega
 ·have e := fun i (hi : i < 3) => hO.1.cellAt (j * 3 + i) (by omega)
  have hs := Fam.getAt (L0 := [(f, x.q.f), (t, x.q.t), (d, x.d)]) hF hv (l := y.a) (by simp [hj])
  exact ⟨g, cap, _, rfl, k1, hO.2.1 g rfl, by rw [show j * 3 = j * 3 + 0 by omega, e 0 (by omega)]; exact a, by rw [e 1 (by omega)]; exact b, by rw [e 2 (by omega)]; exact c, hs, fun i => hO.1.frozenAt i, hi2 y (List.mem_of_getElem? hj)⟩
theorem IntsO.set3 {w : World} {lo hi g i : Nat} {v : Value} {l : List Int} {t : TypeId} {cs : Array Value} (h : IntsO w lo hi v l) (hb : Blk w g t cs) (ht : 3 ≠ t) (a b c : Value) : IntsO (set3 w g i a b c) lo hi v l := by
 have h1 : Fam w lo hi [(v, l)] := ⟨fun p hp => by simp at hp; rw [hp]; exact h, by simp⟩
 exact (h1.set3 (i := i) hb ht a b c).1 (v, l) (by simp)
theorem RepI.setMx {w : World} {lo hi mi hi' g n c j : Nat} {p v r k : Int} {f t d u : Value} {x : Rp} {m : Mx} (h : RepI w lo hi (.agg #[.int .i64 p, .int .i64 v, f, t, d, .slice (some ⟨g, 0, none⟩) n c]) x) (hj : j < x.m.length)
  (hu : MxO w mi hi' (.agg #[.int .i64 r, .int .i64 k, u]) m) (h1 : hi ≤ mi) (h2 : mi ≤ hi') :
  RepI (set3 w g (j * 3) (.int .i64 r) (.int .i64 k) u) lo hi' (.agg #[.int .i64 p, .int .i64 v, f, t, d, .slice (some ⟨g, 0, none⟩) n c]) ⟨x.p, x.q, x.d, x.m.set j m⟩ ∧ lo ≤ g ∧ g < hi := by
 obtain ⟨f', t', d', m', vs, mi0, e, i1, i2, i3, hO, hvl, hF, hmi, hi1, hi2⟩ := h
 simp only [Value.agg.injEq, Array.mk.injEq, List.cons.injEq, and_true] at e
 obtain ⟨rfl2, rfl3, rfl, rfl, rfl, rfl⟩ := e
 obtain ⟨s, e, hs, j1, j2⟩ := hu
 simp only [Value.agg.injEq, Array.mk.injEq, List.cons.injEq, and_true, Value.int.injEq, true_and] at e
 obtain ⟨rfl, rfl, rfl⟩ := e
 obtain ⟨cs, hb, hg1, hg2⟩ := OutM.blk hO
 refine ⟨⟨f, t, d, _, vs.set j u, mi0, by rw [rfl2, rfl3], i1.set3 hb (by decide) _ _ _, i2.set3 hb (by decide) _ _ _, i3.set3 hb (by decide) _ _ _, (OutM.setMx hO hvl hj m u).mono (Nat.le_refl _) (by omega), by simp [hvl], ?_, ⟨hmi.1, by omega⟩, hi1, fun y hy => ?_⟩, hg1, hg2⟩
 ·have hF' : Fam w mi0 hi ([] ++ vs.zip (x.m.map Mx.a)) := by simpa using hF
  have hF2 := hF'.swap (j := j) (by simpa using hj) (by simpa using hvl) hs h1 h2 (by omega)
  have hF3 := hF2.set3 (i := j * 3) hb (by decide) (.int .i64 m.r) (.int .i64 m.c) u
  rw [List.map_set]
  simpa using hF3
 ·rcases List.mem_or_eq_of_mem_set hy with hy | rfl
  ·exact hi2 y hy
  ·exact ⟨j1, j2⟩
theorem RepI.blk {w : World} {lo hi g n c : Nat} {p v : Int} {f t d : Value} {x : Rp} (h : RepI w lo hi (.agg #[.int .i64 p, .int .i64 v, f, t, d, .slice (some ⟨g, 0, none⟩) n c]) x) : ∃ cs, Blk w g 44 cs ∧ lo ≤ g ∧ g < hi := by
 obtain ⟨f', t', d', m', vs, mi0, e, i1, i2, i3, hO, hvl, hF, hmi, hi1, hi2⟩ := h
 simp only [Value.agg.injEq, Array.mk.injEq, List.cons.injEq, and_true] at e
 obtain ⟨rfl2, rfl3, rfl, rfl, rfl, rfl⟩ := e
 exact OutM.blk hO
theorem RepI.mxAt {w : World} {lo hi j : Nat} {p v : Int} {f t d m : Value} {x : Rp} {y : Mx} (h : RepI w lo hi (.agg #[.int .i64 p, .int .i64 v, f, t, d, m]) x) (hj : x.m[j]? = some y) :
  ∃ g c s, m = .slice (some ⟨g, 0, none⟩) x.m.length c ∧ lo ≤ g ∧ g < hi ∧ w.cell? ⟨g, j * 3, none⟩ = some (.int .i64 y.r) ∧ w.cell? ⟨g, j * 3 + 1, none⟩ = some (.int .i64 y.c) ∧ w.cell? ⟨g, j * 3 + 2, none⟩ = some s ∧ IntsO w lo hi s y.a ∧ (∀ i, w.frozen? ⟨g, i, none⟩ = false) := by
 obtain ⟨f', t', d', m', vs, mi0, e, i1, i2, i3, hO, hvl, hF, hmi, hi1, hi2⟩ := h
 simp only [Value.agg.injEq, Array.mk.injEq, List.cons.injEq, and_true] at e
 obtain ⟨_, _, rfl, rfl, rfl, rfl⟩ := e
 have hjl := lt_of_some hj
 have hv : vs[j]? = some (vs[j]'(by omega)) := List.getElem?_eq_getElem (by omega)
 obtain ⟨a, b, c⟩ := mxCs_get hv hj
 have hR : RepO w lo hi (.agg #[.int .i64 x.p, .int .i64 x.q.v, .slice none 0 0, .slice none 0 0, .slice none 0 0, m]) ⟨x.p, ⟨x.q.v, [], []⟩, [], x.m⟩ := by
  refine ⟨_, _, _, _, vs, rfl, hO, hvl, ?_, hi1, hi2⟩
  have hn : ∀ b : Value × List Int, (Value.slice none 0 0).ownBlock = none ∨ (Value.slice none 0 0).ownBlock ≠ b.1.ownBlock := fun b => .inl rfl
  refine ⟨fun p hp => ?_, ?_⟩
  ·simp only [List.cons_append, List.nil_append, List.mem_cons] at hp
   rcases hp with rfl | rfl | rfl | hp
   ·exact ⟨OwnI.nil _ _, by simp [Value.ownBlock]⟩
   ·exact ⟨OwnI.nil _ _, by simp [Value.ownBlock]⟩
   ·exact ⟨OwnI.nil _ _, by simp [Value.ownBlock]⟩
   ·exact (hF.1 p hp).wider hmi.1 (Nat.le_refl _)
  ·simp only [List.cons_append, List.nil_append, List.pairwise_cons]
   exact ⟨fun b _ => .inl rfl, fun b _ => .inl rfl, fun b _ => .inl rfl, hF.2⟩
 obtain ⟨g, c', s, e, k1, k2, z0, z1, z2, hs, hf, _⟩ := hR.mxAt hj
 exact ⟨g, c', s, e, k1, k2, z0, z1, z2, hs, hf⟩
theorem OutM.two {w : World} {lo hi g : Nat} {a b : Mx} {u v : Value} (hg : Blk w g 44 #[.int .i64 a.r, .int .i64 a.c, u, .int .i64 b.r, .int .i64 b.c, v]) (h1 : lo ≤ g) (h2 : g < hi) : OutM w lo hi (.slice (some ⟨g, 0, none⟩) 2 2) [u, v] [a, b] :=
 ⟨⟨rfl, .inr ⟨g, 2, _, rfl, h1, hg, Nat.le_refl _, by decide, rfl, rfl⟩⟩, fun k hk => by simp [Value.ownBlock] at hk; omega, by simp⟩
theorem fam_ap {w : World} {l1 h1 l2 h2 : Nat} {L1 L2 : List (Value × List Int)} (f : Fam w l1 h1 L1) (g : Fam w l2 h2 L2) (hd : h1 ≤ l2 ∨ h2 ≤ l1) : ∀ a ∈ L1, ∀ b ∈ L2, a.1.ownBlock = none ∨ a.1.ownBlock ≠ b.1.ownBlock := by
 intro a ha b hb
 rcases hA : a.1.ownBlock with _ | x
 ·exact .inl rfl
 ·right
  intro e
  have q1 := (f.1 a ha).2 x hA
  have q2 := ((f.1 a ha).1.lt x hA).1
  have q3 := (g.1 b hb).2 x e.symm
  have q4 := ((g.1 b hb).1.lt x e.symm).1
  omega
theorem Fam.put {w : World} {lo hi l1 h1 : Nat} {L1 L2 : List (Value × List Int)} (f1 : Fam w l1 h1 L1) (f2 : Fam w lo hi L2) (ap : ∀ a ∈ L1, ∀ b ∈ L2, a.1.ownBlock = none ∨ a.1.ownBlock ≠ b.1.ownBlock) (b1 : lo ≤ l1 ∧ h1 ≤ hi) : Fam w lo hi (L1 ++ L2) := by
 refine ⟨fun p hp => ?_, ?_⟩
 ·rcases List.mem_append.1 hp with hp | hp
  ·exact (f1.1 p hp).wider b1.1 b1.2
  ·exact f2.1 p hp
 ·rw [List.pairwise_append]
  exact ⟨f1.2, f2.2, ap⟩
theorem Fam.four {w : World} {lo hi l1 h1 l2 h2 l3 h3 l4 h4 : Nat} {L1 L2 L3 L4 : List (Value × List Int)} (f1 : Fam w l1 h1 L1) (f2 : Fam w l2 h2 L2) (f3 : Fam w l3 h3 L3) (f4 : Fam w l4 h4 L4) (d12 : h1 ≤ l2 ∨ h2 ≤ l1) (d13 : h1 ≤ l3 ∨ h3 ≤ l1) (d14 : h1 ≤ l4 ∨ h4 ≤ l1) (d23 : h2 ≤ l3 ∨ h3 ≤ l2) (d24 : h2 ≤ l4 ∨ h4 ≤ l2) (d34 : h3 ≤ l4 ∨ h4 ≤ l3)
  (b1 : lo ≤ l1 ∧ h1 ≤ hi) (b2 : lo ≤ l2 ∧ h2 ≤ hi) (b3 : lo ≤ l3 ∧ h3 ≤ hi) (b4 : lo ≤ l4 ∧ h4 ≤ hi) : Fam w lo hi (L1 ++ (L2 ++ (L3 ++ L4))) := by
 refine Fam.put f1 (Fam.three f2 f3 f4 d23 d24 d34 b2 b3 b4) (fun a ha b hb => ?_) b1
 rcases List.mem_append.1 hb with hb | hb
 ·exact fam_ap f1 f2 d12 a ha b hb
 ·rcases List.mem_append.1 hb with hb | hb
  ·exact fam_ap f1 f3 d13 a ha b hb
  ·exact fam_ap f1 f4 d14 a ha b hb
set_option maxHeartbeats 6400000 in
set_option maxRecDepth 100000 in
theorem specPencilOf_any (p : Int) (u : Value) (a : Mx) (v : Value) (b : Mx) (w0 : World) (hp : I64 p) (ha : MxR w0 w0.heap.size u a) (hbm : MxR w0 w0.heap.size v b) :
  Calls Tryz.prog 23 #[.int .i64 p, u, v] w0 fun e w' => ∃ r, e = .returned (.tuple #[r, .bool (penOf p a b).2]) ∧ RepO w' w0.heap.size w'.heap.size r (penOf p a b).1 ∧ Below w0.heap.size w0 w' := by
 obtain ⟨A, ac, rfl, hfa, har, hac, la⟩ := ha.open_
 obtain ⟨C, cc, rfl, hfb, hbr, hbc, lb⟩ := hbm.open_
 clear ha hbm
 obtain ⟨W, hW⟩ : ∃ W, W = ((w0.alloc (.cells #[.int .i64 a.r, .int .i64 a.c, .slice A a.a.length ac] 44)).alloc (.cells #[.int .i64 b.r, .int .i64 b.c, .slice C b.a.length cc] 44)).alloc (.cells #[.int .i64 0, .int .i64 0, .slice none 0 0, .slice none 0 0, .slice none 0 0, .slice none 0 0] 31) := ⟨_, rfl⟩
 have g0 : Below w0.heap.size w0 W := by rw [hW]; exact (((Below.refl _ _).alloc (Nat.le_refl _) _).alloc (by simp) _).alloc (by simp; omega) _
 have k1 : Blk W w0.heap.size 44 #[.int .i64 a.r, .int .i64 a.c, .slice A a.a.length ac] := by rw [hW]; exact ((Blk.new _ _ _).alloc _).alloc _
 have k2 : Blk W (w0.heap.size + 1) 44 #[.int .i64 b.r, .int .i64 b.c, .slice C b.a.length cc] := by
  rw [hW]
  have := (Blk.new (w0.alloc (.cells #[.int .i64 a.r, .int .i64 a.c, .slice A a.a.length ac] 44)) 44 #[.int .i64 b.r, .int .i64 b.c, .slice C b.a.length cc]).alloc (.cells #[.int .i64 0, .int .i64 0, .slice none 0 0, .slice none 0 0, .slice none 0 0, .slice none 0 0] 31)
  simpa only [World.size_alloc] using this
 have k3 : Blk W (w0.heap.size + 1 + 1) 31 #[.int .i64 0, .int .i64 0, .slice none 0 0, .slice none 0 0, .slice none 0 0, .slice none 0 0] := by
  rw [hW]
  have := Blk.new ((w0.alloc (.cells #[.int .i64 a.r, .int .i64 a.c, .slice A a.a.length ac] 44)).alloc (.cells #[.int .i64 b.r, .int .i64 b.c, .slice C b.a.length cc] 44)) 31 #[.int .i64 0, .int .i64 0, .slice none 0 0, .slice none 0 0, .slice none 0 0, .slice none 0 0]
  simpa only [World.size_alloc] using this
 have sz : W.heap.size = w0.heap.size + 1 + 1 + 1 := by rw [hW]; simp
 have SZ := Lib.hid sz
 clear sz
 have hfaW := SlI.next g0 hfa
 have hfbW := SlI.next g0 hfb
 go_enter Tryz.func23, Tryz.ntmps23
 go_wp2
 rw [← hW]; clear hW
 refine wp_region_net (by kernel_rfl) [.eq (.int .i64 p), rel 1 (fun u lo hi w => QuivO w lo hi u pQ), .eq (.pointer (some ⟨w0.heap.size, 1, none⟩)), .eq (.int .i64 a.c), .eq (.pointer (some ⟨w0.heap.size, 0, none⟩)), .eq (.int .i64 a.r), rel 6 (fun u lo hi w => IntsO w lo hi u [a.c, a.r]), .eq (.agg #[.int .i64 a.r, .int .i64 a.c, .slice A a.a.length ac]), rel 8 (fun u lo hi w => MxO w lo hi u a), .eq (.agg #[.int .i64 b.r, .int .i64 b.c, .slice C b.a.length cc]), rel 10 (fun u lo hi w => MxO w lo hi u b), .rel (fun x w => ∃ g s t, (x.lo 11 ≤ g ∧ g < x.hi 11) ∧ x.v 11 = .slice (some ⟨g, 0, none⟩) 2 2 ∧ x.v 8 = .agg #[.int .i64 a.r, .int .i64 a.c, s] ∧ x.v 10 = .agg #[.int .i64 b.r, .int .i64 b.c, t] ∧ Blk w g 44 #[.int .i64 a.r, .int .i64 a.c, s, .int .i64 b.r, .int .i64 b.c, t]), .rel (fun x w => ∃ qa qb, x.v 1 = .agg #[.int .i64 2, qa, qb] ∧ x.v 12 = .agg #[.int .i64 p, .int .i64 2, qa, qb, x.v 6, x.v 11]), rel 13 (fun u lo hi w => ∃ g, u = .pointer (some ⟨g, 0, none⟩) ∧ (lo ≤ g ∧ g < hi) ∧ Blk w g 31 #[.int .i64 0, .int .i64 0, .slice none 0 0, .slice none 0 0, .slice none 0 0, .slice none 0 0])] [[], [], [], [2], [], [4], [2, 3, 4, 5], [], [1, 7], [], [1, 7, 8, 9], [1, 7, 8, 9, 10], [0, 1, 2, 3, 4, 5, 6, 7, 8, 9, 10, 11], [], [0, 1, 2, 3, 4, 5, 6, 7, 8, 9, 10, 11, 12, 13]] 14 (by kernel_rfl) ⟨trivial, rel_stable (fun u lo hi w w' h hb => h.below hb), trivial, trivial, trivial, trivial, rel_stable (fun u lo hi w w' h hb => h.below hb), trivial, rel_stable (fun u lo hi w w' h hb => h.below hb), trivial, rel_stable (fun u lo hi w w' h hb => h.below hb), fun x w w' ⟨g, s, t, e0, e1, e2, e3, h⟩ hb => ⟨g, s, t, e0, e1, e2, e3, h.call hb⟩, fun x w w' h hb => h, rel_stable (fun u lo hi w w' ⟨g, e, h1, h⟩ hb => ⟨g, e, h1, h.call hb⟩), trivial⟩ ⟨?_, ?_, ?_, ?_, ?_, ?_, ?_, ?_, ?_, ?_, ?_, ?_, ?_, ?_, trivial⟩ ?_
 ·intro x w hb hk Q' hQ
  clear hk
  simp only [netE] at hQ ⊢
  go_wp2
  exact hQ _ _ (Below.refl _ _) rfl
 ·intro x w hb hk Q' hQ
  clear hk
  simp only [netE] at hQ ⊢
  go_wp2_with fail
  refine (l26Quiver_any _).mono ?_; rintro e w1 ⟨v1, rfl, ho, hb1⟩
  go_wp2
  exact hQ _ _ hb1 ho
 ·intro x w hb hk Q' hQ
  clear hk
  simp only [netE] at hQ ⊢
  go_wp2
  exact hQ _ _ (Below.refl _ _) rfl
 ·intro x w hb hk Q' hQ
  have h2 : x.v 2 = _ := (hk 2 (by decide)).1
  clear hk
  simp only [netE] at hQ ⊢
  simp only [h2] at hQ ⊢
  clear h2
  have z := (k1.call hb).cell' (i := 1) rfl
  go_wp2
  exact hQ _ _ (Below.refl _ _) rfl
 ·intro x w hb hk Q' hQ
  clear hk
  simp only [netE] at hQ ⊢
  go_wp2
  exact hQ _ _ (Below.refl _ _) rfl
 ·intro x w hb hk Q' hQ
  have h4 : x.v 4 = _ := (hk 4 (by decide)).1
  clear hk
  simp only [netE] at hQ ⊢
  simp only [h4] at hQ ⊢
  clear h4
  have z := (k1.call hb).cell' (i := 0) rfl
  go_wp2
  exact hQ _ _ (Below.refl _ _) rfl
 ·intro x w hb hk Q' hQ
  have h2 : x.v 2 = _ := (hk 2 (by decide)).1
  have h3 : x.v 3 = _ := (hk 3 (by decide)).1
  have h4 : x.v 4 = _ := (hk 4 (by decide)).1
  have h5 : x.v 5 = _ := (hk 5 (by decide)).1
  clear hk
  simp only [netE] at hQ ⊢
  simp only [h2, h3, h4, h5] at hQ ⊢
  clear h2 h3 h4 h5
  go_wp2
  exact hQ _ _ (below_alloc _ _) (IntsO.two w a.c a.r hac har (Nat.le_refl _))
 ·intro x w hb hk Q' hQ
  clear hk
  simp only [netE] at hQ ⊢
  have z0 := (k1.call hb).cell' (i := 0) rfl
  have z1 := (k1.call hb).cell' (i := 1) rfl
  have z2 := (k1.call hb).cell' (i := 2) rfl
  go_wp2
  exact hQ _ _ (Below.refl _ _) rfl
 ·intro x w hb hk Q' hQ
  have h1 : QuivO w (x.lo 1) (x.hi 1) (x.v 1) pQ := (hk 1 (by decide)).1
  have h7 : x.v 7 = _ := (hk 7 (by decide)).1
  have s1 := (hk 1 (by decide)).2
  clear hk
  simp only [netE] at hQ ⊢
  simp only [h7] at hQ ⊢
  clear h7
  go_wp2_with fail
  refine (l3Copy_any _ a _ ⟨_, rfl, SlI.next hb hfaW, har, hac⟩).mono ?_; rintro e w1 ⟨v1, rfl, ho, hb1⟩
  go_wp2
  exact hQ _ _ hb1 ho
 ·intro x w hb hk Q' hQ
  clear hk
  simp only [netE] at hQ ⊢
  have z0 := (k2.call hb).cell' (i := 0) rfl
  have z1 := (k2.call hb).cell' (i := 1) rfl
  have z2 := (k2.call hb).cell' (i := 2) rfl
  go_wp2
  exact hQ _ _ (Below.refl _ _) rfl
 ·intro x w hb hk Q' hQ
  have h1 : QuivO w (x.lo 1) (x.hi 1) (x.v 1) pQ := (hk 1 (by decide)).1
  have h7 : x.v 7 = _ := (hk 7 (by decide)).1
  have h8 : MxO w (x.lo 8) (x.hi 8) (x.v 8) a := (hk 8 (by decide)).1
  have h9 : x.v 9 = _ := (hk 9 (by decide)).1
  have s1 := (hk 1 (by decide)).2
  have s8 := (hk 8 (by decide)).2
  clear hk
  simp only [netE] at hQ ⊢
  simp only [h7, h9] at hQ ⊢
  clear h7 h9
  go_wp2_with fail
  refine (l3Copy_any _ b _ ⟨_, rfl, SlI.next hb hfbW, hbr, hbc⟩).mono ?_; rintro e w1 ⟨v1, rfl, ho, hb1⟩
  go_wp2
  exact hQ _ _ hb1 ho
 ·intro x w hb hk Q' hQ
  have h1 : QuivO w (x.lo 1) (x.hi 1) (x.v 1) pQ := (hk 1 (by decide)).1
  have h7 : x.v 7 = _ := (hk 7 (by decide)).1
  have h8 : MxO w (x.lo 8) (x.hi 8) (x.v 8) a := (hk 8 (by decide)).1
  have h9 : x.v 9 = _ := (hk 9 (by decide)).1
  have h10 : MxO w (x.lo 10) (x.hi 10) (x.v 10) b := (hk 10 (by decide)).1
  have s1 := (hk 1 (by decide)).2
  have s8 := (hk 8 (by decide)).2
  have s10 := (hk 10 (by decide)).2
  clear hk
  simp only [netE] at hQ ⊢
  simp only [h7, h9] at hQ ⊢
  clear h7 h9
  obtain ⟨s, e8, hs, _⟩ := h8
  obtain ⟨t, e10, ht, _⟩ := h10
  obtain ⟨sA, sc, es⟩ := hs.form
  obtain ⟨tA, tc, et⟩ := ht.form
  obtain ⟨sn, hsn⟩ : ∃ n, a.a.length = n := ⟨_, rfl⟩
  obtain ⟨tn, htn⟩ : ∃ n, b.a.length = n := ⟨_, rfl⟩
  rw [hsn] at es
  rw [htn] at et
  clear hsn htn hs ht
  subst es et
  have hQ' := hQ (.slice (some ⟨w.heap.size, 0, none⟩) 2 2) (w.alloc (.cells #[.int .i64 a.r, .int .i64 a.c, .slice sA sn sc, .int .i64 b.r, .int .i64 b.c, .slice tA tn tc] 44)) (below_alloc _ _) ⟨_, _, _, ⟨Nat.le_refl _, by show w.heap.size < (w.alloc _).heap.size; simp⟩, rfl, e8, e10, Blk.new _ _ _⟩
  rw [e8, e10] at hQ' ⊢
  go_wp2
  exact hQ'
 ·intro x w hb hk Q' hQ
  have h0 : x.v 0 = _ := (hk 0 (by decide)).1
  have h1 : QuivO w (x.lo 1) (x.hi 1) (x.v 1) pQ := (hk 1 (by decide)).1
  have h2 : x.v 2 = _ := (hk 2 (by decide)).1
  have h3 : x.v 3 = _ := (hk 3 (by decide)).1
  have h4 : x.v 4 = _ := (hk 4 (by decide)).1
  have h5 : x.v 5 = _ := (hk 5 (by decide)).1
  have h6 : IntsO w (x.lo 6) (x.hi 6) (x.v 6) [a.c, a.r] := (hk 6 (by decide)).1
  have h7 : x.v 7 = _ := (hk 7 (by decide)).1
  have h8 : MxO w (x.lo 8) (x.hi 8) (x.v 8) a := (hk 8 (by decide)).1
  have h9 : x.v 9 = _ := (hk 9 (by decide)).1
  have h10 : MxO w (x.lo 10) (x.hi 10) (x.v 10) b := (hk 10 (by decide)).1
  have h11 : ∃ g s t, (x.lo 11 ≤ g ∧ g < x.hi 11) ∧ x.v 11 = .slice (some ⟨g, 0, none⟩) 2 2 ∧ x.v 8 = .agg #[.int .i64 a.r, .int .i64 a.c, s] ∧ x.v 10 = .agg #[.int .i64 b.r, .int .i64 b.c, t] ∧ Blk w g 44 #[.int .i64 a.r, .int .i64 a.c, s, .int .i64 b.r, .int .i64 b.c, t] := (hk 11 (by decide)).1
  have s1 := (hk 1 (by decide)).2
  have s6 := (hk 6 (by decide)).2
  have s8 := (hk 8 (by decide)).2
  have s10 := (hk 10 (by decide)).2
  have s11 := (hk 11 (by decide)).2
  clear hk
  simp only [netE] at hQ ⊢
  simp only [h0, h2, h3, h4, h5, h7, h9] at hQ ⊢
  clear h0 h2 h3 h4 h5 h7 h9
  obtain ⟨qa, qb, e1, hqF, _⟩ := h1
  have f1 : IntsO w (x.lo 1) (x.hi 1) qa [0, 0] := hqF.1 (qa, [0, 0]) (by simp [pQ])
  have f2 : IntsO w (x.lo 1) (x.hi 1) qb [1, 1] := hqF.1 (qb, [1, 1]) (by simp [pQ])
  obtain ⟨qA, qc, rfl⟩ := f1.form
  obtain ⟨qB, qd, rfl⟩ := f2.form
  obtain ⟨dA, dc, e6⟩ := h6.form
  obtain ⟨g, s, t, _, e11, _⟩ := h11
  have e1 : x.v 1 = .agg #[.int .i64 2, .slice qA 2 qc, .slice qB 2 qd] := e1
  have e6 : x.v 6 = .slice dA 2 dc := e6
  have hQ' := hQ (.agg #[.int .i64 p, .int .i64 2, .slice qA 2 qc, .slice qB 2 qd, x.v 6, x.v 11]) w (Below.refl _ _) ⟨_, _, e1, rfl⟩
  rw [e1, e6, e11] at hQ' ⊢
  go_wp2
  exact hQ'
 ·intro x w hb hk Q' hQ
  clear hk
  simp only [netE] at hQ ⊢
  go_wp2
  exact hQ _ _ (below_alloc _ _) ⟨_, rfl, ⟨Nat.le_refl _, by show w.heap.size < (w.alloc _).heap.size; simp⟩, Blk.new _ _ _⟩
 ·intro x w hb hk hiv hdj
  have h0 : x.v 0 = .int .i64 p := hk 0 (by decide)
  have h1 : QuivO w (x.lo 1) (x.hi 1) (x.v 1) pQ := hk 1 (by decide)
  have h2 : x.v 2 = .pointer (some ⟨w0.heap.size, 1, none⟩) := hk 2 (by decide)
  have h3 : x.v 3 = .int .i64 a.c := hk 3 (by decide)
  have h4 : x.v 4 = .pointer (some ⟨w0.heap.size, 0, none⟩) := hk 4 (by decide)
  have h5 : x.v 5 = .int .i64 a.r := hk 5 (by decide)
  have h6 : IntsO w (x.lo 6) (x.hi 6) (x.v 6) [a.c, a.r] := hk 6 (by decide)
  have h7 : x.v 7 = .agg #[.int .i64 a.r, .int .i64 a.c, .slice A a.a.length ac] := hk 7 (by decide)
  have h8 : MxO w (x.lo 8) (x.hi 8) (x.v 8) a := hk 8 (by decide)
  have h9 : x.v 9 = .agg #[.int .i64 b.r, .int .i64 b.c, .slice C b.a.length cc] := hk 9 (by decide)
  have h10 : MxO w (x.lo 10) (x.hi 10) (x.v 10) b := hk 10 (by decide)
  have h11 : ∃ g s t, (x.lo 11 ≤ g ∧ g < x.hi 11) ∧ x.v 11 = .slice (some ⟨g, 0, none⟩) 2 2 ∧ x.v 8 = .agg #[.int .i64 a.r, .int .i64 a.c, s] ∧ x.v 10 = .agg #[.int .i64 b.r, .int .i64 b.c, t] ∧ Blk w g 44 #[.int .i64 a.r, .int .i64 a.c, s, .int .i64 b.r, .int .i64 b.c, t] := hk 11 (by decide)
  have h12 : ∃ qa qb, x.v 1 = .agg #[.int .i64 2, qa, qb] ∧ x.v 12 = .agg #[.int .i64 p, .int .i64 2, qa, qb, x.v 6, x.v 11] := hk 12 (by decide)
  have h13 : ∃ g, (x.v 13) = .pointer (some ⟨g, 0, none⟩) ∧ ((x.lo 13) ≤ g ∧ g < (x.hi 13)) ∧ Blk w g 31 #[.int .i64 0, .int .i64 0, .slice none 0 0, .slice none 0 0, .slice none 0 0, .slice none 0 0] := hk 13 (by decide)
  clear hk
  simp only [netE]
  simp only [List.drop_succ_cons, List.drop_zero, h0, h2, h3, h4, h5, h7, h9]
  clear h0 h2 h3 h4 h5 h7 h9
  obtain ⟨qa, qb, e1, hqF, _⟩ := h1
  have f1 : IntsO w (x.lo 1) (x.hi 1) qa [0, 0] := hqF.1 (qa, [0, 0]) (by simp [pQ])
  have f2 : IntsO w (x.lo 1) (x.hi 1) qb [1, 1] := hqF.1 (qb, [1, 1]) (by simp [pQ])
  obtain ⟨qA, qc, rfl⟩ := f1.form
  obtain ⟨qB, qd, rfl⟩ := f2.form
  obtain ⟨dA, dc, e6⟩ := h6.form
  obtain ⟨gm, s, t, hgi, e11, e8, e10, hBm⟩ := h11
  obtain ⟨s', e8', hs, _⟩ := h8
  obtain ⟨t', e10', ht, _⟩ := h10
  rw [e8] at e8'
  rw [e10] at e10'
  simp only [Value.agg.injEq, Array.mk.injEq, List.cons.injEq, and_true, true_and] at e8' e10'
  subst e8' e10'
  obtain ⟨qa', qb', e1', e12⟩ := h12
  obtain ⟨gR, e13, hgR, hBR⟩ := h13
  have e1 : x.v 1 = .agg #[.int .i64 2, .slice qA 2 qc, .slice qB 2 qd] := e1
  have e6 : x.v 6 = .slice dA 2 dc := e6
  rw [e1] at e1'
  simp only [Value.agg.injEq, Array.mk.injEq, List.cons.injEq, and_true, true_and] at e1'
  obtain ⟨rfl, rfl⟩ := e1'
  rw [e6] at h6
  rw [e6, e11] at e12
  have i1 := hiv 1 (by decide)
  have i6 := hiv 6 (by decide)
  have i8 := hiv 8 (by decide)
  have i10 := hiv 10 (by decide)
  have i13 := hiv 13 (by decide)
  have d1 := hdj 1 13 (by decide) (by decide) (by decide)
  have d6 := hdj 6 13 (by decide) (by decide) (by decide)
  have d8 := hdj 8 13 (by decide) (by decide) (by decide)
  have d10 := hdj 10 13 (by decide) (by decide) (by decide)
  rw [e12, e13]
  have fr := hBR.frozen
  have r0 := hBR.cell' (i := 0) rfl
  have r1 := hBR.cell' (i := 1) rfl
  have r2 := hBR.cell' (i := 2) rfl
  have r3 := hBR.cell' (i := 3) rfl
  have r4 := hBR.cell' (i := 4) rfl
  have r5 := hBR.cell' (i := 5) rfl
  obtain ⟨W3, hW3⟩ : ∃ W3, W3 = (((((w.setCell ⟨gR, 0, none⟩ (.int .i64 p)).setCell ⟨gR, 1, none⟩ (.int .i64 2)).setCell ⟨gR, 2, none⟩ (.slice qA 2 qc)).setCell ⟨gR, 3, none⟩ (.slice qB 2 qd)).setCell ⟨gR, 4, none⟩ (.slice dA 2 dc)).setCell ⟨gR, 5, none⟩ (.slice (some ⟨gm, 0, none⟩) 2 2) := ⟨_, rfl⟩
  have hB3 : Blk W3 gR 31 #[.int .i64 p, .int .i64 2, .slice qA 2 qc, .slice qB 2 qd, .slice dA 2 dc, .slice (some ⟨gm, 0, none⟩) 2 2] := by
   rw [hW3]
   exact (((((hBR.set_ 0 _).set_ 1 _).set_ 2 _).set_ 3 _).set_ 4 _).set_ 5 _
  have hCh : Chg gR (gR + 1) w W3 := by
   rw [hW3]
   exact chg6 _ _ _ _ _ _ _ _
  have hgm : gm ≠ gR := by
   rintro rfl
   unfold Blk at hBm hBR
   rw [hBm] at hBR
   injection hBR with hBR
   injection hBR with _ hBR
   exact absurd hBR (by decide)
  have hBm3 := hBm.chg hCh (by omega)
  have hs3 : W3.heap.size = w.heap.size := by rw [hW3]; simp
  have hbs := hb.size
  have sz := SZ.out
  have k3w := k3.call hb
  have k33 : Blk W3 (w0.heap.size + 1 + 1) 31 _ := k3w.chg hCh (by omega)
  have gW3 : Below W.heap.size W W3 := hb.trans (hCh.below (by omega) (by omega))
  have g3 : Below w0.heap.size w0 W3 := g0.trans (gW3.mono g0.size)
  have gml := hBm.lt
  have hgmW : W.heap.size ≤ gm := by have := (hiv 11 (by decide)).1; omega
  have hgh : gm < w.heap.size := by have := (hiv 11 (by decide)).2.2; omega
  have hF3 : Fam W3 W.heap.size W3.heap.size ([(.slice qA 2 qc, [0, 0]), (.slice qB 2 qd, [1, 1])] ++ ([(.slice dA 2 dc, [a.c, a.r])] ++ ([(s, a.a)] ++ [(t, b.a)]))) := by
   rw [hs3]
   exact Fam.four (hqF.chg hCh (by omega)) (Fam.one (h6.chg hCh (by omega))) (Fam.one (hs.chg hCh (by omega))) (Fam.one (ht.chg hCh (by omega))) (hdj 1 6 (by decide) (by decide) (by decide)) (hdj 1 8 (by decide) (by decide) (by decide)) (hdj 1 10 (by decide) (by decide) (by decide)) (hdj 6 8 (by decide) (by decide) (by decide)) (hdj 6 10 (by decide) (by decide) (by decide)) (hdj 8 10 (by decide) (by decide) (by decide)) ⟨i1.1, i1.2.2⟩ ⟨i6.1, i6.2.2⟩ ⟨i8.1, i8.2.2⟩ ⟨i10.1, i10.2.2⟩
  have hR3 : RepO W3 W.heap.size W3.heap.size (.agg #[.int .i64 p, .int .i64 2, .slice qA 2 qc, .slice qB 2 qd, .slice dA 2 dc, .slice (some ⟨gm, 0, none⟩) 2 2]) (penRep p a b) :=
   ⟨_, _, _, _, [s, t], rfl, OutM.two hBm3 hgmW (by omega), rfl, hF3, ⟨hp, by simp [penRep, pQ, I64]⟩, by intro m hm; simp only [penRep, List.mem_cons, List.not_mem_nil, or_false] at hm; rcases hm with h | h <;> subst h <;> first | exact ⟨har, hac⟩ | exact ⟨hbr, hbc⟩⟩
  have hS : W.heap.size ≤ W3.heap.size := gW3.size
  have HS := Lib.hid hS
  have HR3 := Lib.hid hR3
  have H3 := Lib.hid hB3
  have K3 := Lib.hid k33
  have G3 := Lib.hid g3
  clear hqF hF3 hgh hR3 hB3 k33 k3w gW3 g3 hCh hs3 hS h6 f1 f2 hiv hdj i1 i6 i8 i10 i13 d1 d6 d8 d10 e1 e6 e8 e10 e11 e12 e13 hBR hb hbs sz k1 k2 k3 hs ht hBm hBm3 hgm hgi gml hgmW
  rcases hRep : isRep (penRep p a b) with _ | _
  ·have hE := Lib.hid (show penOf p a b = (rp0, false) by rw [penOf, hRep]; rfl)
   have HREP := Lib.hid hRep
   clear hRep
   have z0 := H3.out.cell' (i := 0) rfl
   have z1 := H3.out.cell' (i := 1) rfl
   have z2 := H3.out.cell' (i := 2) rfl
   have z3 := H3.out.cell' (i := 3) rfl
   have z4 := H3.out.cell' (i := 4) rfl
   have z5 := H3.out.cell' (i := 5) rfl
   go_wp2_with fail
   rw [← hW3]
   clear hW3 r0 r1 r2 r3 r4 r5 fr
   refine (specIsRep_any _ (penRep p a b) _ HR3.out.rd).mono ?_; rintro e w4 ⟨rfl, hb4⟩
   rw [HREP.out]
   have k4 := K3.out.call hb4
   have fr := k4.frozen
   have s0 := k4.cell' (i := 0) rfl
   have s1 := k4.cell' (i := 1) rfl
   have s2 := k4.cell' (i := 2) rfl
   have s3 := k4.cell' (i := 3) rfl
   have s4 := k4.cell' (i := 4) rfl
   have s5 := k4.cell' (i := 5) rfl
   have HB4 := Lib.hid hb4
   clear z0 z1 z2 z3 z4 z5 hb4 k4
   go_wp2
   have gf := G3.out.trans (HB4.out.mono (G3.out).size)
   refine bodyPost_ret (v := .tuple #[.agg #[.int .i64 0, .int .i64 0, .slice none 0 0, .slice none 0 0, .slice none 0 0, .slice none 0 0], .bool false]) (by simp [results, go_sem, s0, s1, s2, s3, s4, s5]) rfl ⟨_, by rw [hE.out], by rw [hE.out]; exact RepO.zero _ _ _, (((((gf.setCell (by simp; omega) _).setCell (by simp; omega) _).setCell (by simp; omega) _).setCell (by simp; omega) _).setCell (by simp; omega) _).setCell (by simp; omega) _⟩
  ·have hE := Lib.hid (show penOf p a b = (penRep p a b, true) by rw [penOf, hRep]; rfl)
   have HREP := Lib.hid hRep
   clear hRep
   have z0 := H3.out.cell' (i := 0) rfl
   have z1 := H3.out.cell' (i := 1) rfl
   have z2 := H3.out.cell' (i := 2) rfl
   have z3 := H3.out.cell' (i := 3) rfl
   have z4 := H3.out.cell' (i := 4) rfl
   have z5 := H3.out.cell' (i := 5) rfl
   go_wp2_with fail
   rw [← hW3]
   clear hW3 r0 r1 r2 r3 r4 r5 fr
   refine (specIsRep_any _ (penRep p a b) _ HR3.out.rd).mono ?_; rintro e w4 ⟨rfl, hb4⟩
   rw [HREP.out]
   have k4 := K3.out.call hb4
   have h4 := H3.out.call hb4
   have fr := k4.frozen
   have s0 := k4.cell' (i := 0) rfl
   have s1 := k4.cell' (i := 1) rfl
   have s2 := k4.cell' (i := 2) rfl
   have s3 := k4.cell' (i := 3) rfl
   have s4 := k4.cell' (i := 4) rfl
   have s5 := k4.cell' (i := 5) rfl
   clear z0 z1 z2 z3 z4 z5
   have z0 := h4.cell' (i := 0) rfl
   have z1 := h4.cell' (i := 1) rfl
   have z2 := h4.cell' (i := 2) rfl
   have z3 := h4.cell' (i := 3) rfl
   have z4 := h4.cell' (i := 4) rfl
   have z5 := h4.cell' (i := 5) rfl
   have hs4 := hb4.size
   have HS4 := Lib.hid hs4
   have HR4 := Lib.hid (HR3.out.below hb4)
   have HB4 := Lib.hid hb4
   clear hb4 k4 h4 hs4
   go_wp2
   have gf := G3.out.trans (HB4.out.mono (G3.out).size)
   have sz := SZ.out
   have hs4 := HS4.out
   have hS := HS.out
   refine bodyPost_ret (v := .tuple #[.agg #[.int .i64 p, .int .i64 2, .slice qA 2 qc, .slice qB 2 qd, .slice dA 2 dc, .slice (some ⟨gm, 0, none⟩) 2 2], .bool true]) (by simp [results, go_sem, s0, s1, s2, s3, s4, s5]) rfl ⟨_, by rw [hE.out], ?_, (((((gf.setCell (by simp; omega) _).setCell (by simp; omega) _).setCell (by simp; omega) _).setCell (by simp; omega) _).setCell (by simp; omega) _).setCell (by simp; omega) _⟩
   rw [hE.out]
   have hc : Chg (w0.heap.size + 1 + 1) (w0.heap.size + 1 + 1 + 1) w4 _ := chg6 w4 (w0.heap.size + 1 + 1) (.int .i64 p) (.int .i64 2) (.slice qA 2 qc) (.slice qB 2 qd) (.slice dA 2 dc) (.slice (some ⟨gm, 0, none⟩) 2 2)
   exact RepO.wider (HR4.out.chg hc (.inr (by omega))) (by omega) (by simp; omega)
def stA (n : Nat) : Nat → List Int
 | 0 => List.replicate ((n + 1) * n) 0
 | k + 1 => (stA n k).set (k * n + k) 1
def stB (n : Nat) : Nat → List Int
 | 0 => List.replicate ((n + 1) * n) 0
 | k + 1 => (stB n k).set ((k + 1) * n + k) 1
def shA (n : Nat) : Mx := ⟨n + 1, n, stA n n⟩
def shB (n : Nat) : Mx := ⟨n + 1, n, stB n n⟩
theorem stA_length (n : Nat) : ∀ k, (stA n k).length = (n + 1) * n
 | 0 => by simp [stA]
 | k + 1 => by simp [stA, stA_length n k]
theorem stB_length (n : Nat) : ∀ k, (stB n k).length = (n + 1) * n
 | 0 => by simp [stB]
 | k + 1 => by simp [stB, stB_length n k]
theorem zmx_shift (n : Nat) : zmx ((n : Int) + 1) n = ⟨n + 1, n, stA n 0⟩ := by
 rw [zmx, stA]
 congr 2
set_option maxHeartbeats 800000 in
theorem l26Shift_any (n : Nat) (w : World) (hn : n ≤ 3) :
  Calls Tryz.prog 35 #[.int .i64 n] w fun e w' => ∃ a b, e = .returned (.tuple #[a, b]) ∧ MxR w' w'.heap.size a (shA n) ∧ MxR w' w'.heap.size b (shB n) ∧ Below w.heap.size w w' := by
 obtain ⟨W, hW⟩ : ∃ W, W = (w.alloc (.cells #[.int .i64 0, .int .i64 0, .slice none 0 0] 44)).alloc (.cells #[.int .i64 0, .int .i64 0, .slice none 0 0] 44) := ⟨_, rfl⟩
 have g0 : Below w.heap.size w W := by rw [hW]; exact ((Below.refl _ _).alloc (Nat.le_refl _) _).alloc (by simp) _
 have k2 : Blk W w.heap.size 44 #[.int .i64 0, .int .i64 0, .slice none 0 0] := by rw [hW]; exact (Blk.new _ _ _).alloc _
 have k3 : Blk W (w.heap.size + 1) 44 #[.int .i64 0, .int .i64 0, .slice none 0 0] := by
  rw [hW]
  have := Blk.new (w.alloc (.cells #[.int .i64 0, .int .i64 0, .slice none 0 0] 44)) 44 #[.int .i64 0, .int .i64 0, .slice none 0 0]
  simpa only [World.size_alloc] using this
 have sz : W.heap.size = w.heap.size + 1 + 1 := by rw [hW]; simp
 have K2 := Lib.hid k2
 have K3 := Lib.hid k3
 have SZ := Lib.hid sz
 clear k2 k3 sz
 go_enter Tryz.func35, Tryz.ntmps35
 go_wp2_with fail
 rw [← hW]; clear hW
 refine (l3Zero_any ((n : Int) + 1) n W (by omega) (by omega) (by omega) (by omega)).mono ?_; rintro e w1 ⟨v1, rfl, ⟨sA, rfl, oA, hr, hc⟩, hb1⟩
 rw [zmx_shift] at oA hr hc ⊢
 simp only at oA hr hc ⊢
 obtain ⟨A1, c1, e1⟩ := oA.form
 rw [stA_length] at e1
 obtain ⟨N, hN⟩ : ∃ N, (n + 1) * n = N := ⟨_, rfl⟩
 rw [hN] at e1
 subst e1
 go_wp2_with fail
 obtain ⟨W4, hW4⟩ : ∃ W4, W4 = w1.alloc (.cells #[.int .i64 ((n : Int) + 1), .int .i64 n, .slice A1 N c1] 44) := ⟨_, rfl⟩
 rw [← hW4]
 have b4 : Below w1.heap.size w1 W4 := by rw [hW4]; exact below_alloc _ _
 have k4 : Blk W4 w1.heap.size 44 #[.int .i64 ((n : Int) + 1), .int .i64 n, .slice A1 N c1] := by rw [hW4]; exact Blk.new _ _ _
 have hl4 : w1.heap.size < W4.heap.size := by rw [hW4]; simp
 clear hW4
 refine (l3Zero_any ((n : Int) + 1) n W4 (by omega) (by omega) (by omega) (by omega)).mono ?_; rintro e w2 ⟨v2, rfl, ⟨sB, rfl, oB, _, _⟩, hb2⟩
 rw [zmx_shift] at oB ⊢
 simp only at oB ⊢
 obtain ⟨B1, d1, e1⟩ := oB.form
 rw [stA_length, hN] at e1
 subst e1
 go_wp2
 obtain ⟨W5, hW5⟩ : ∃ W5, W5 = w2.alloc (.cells #[.int .i64 ((n : Int) + 1), .int .i64 n, .slice B1 N d1] 44) := ⟨_, rfl⟩
 rw [← hW5]
 have b5 : Below w2.heap.size w2 W5 := by rw [hW5]; exact below_alloc _ _
 have k5 : Blk W5 w2.heap.size 44 #[.int .i64 ((n : Int) + 1), .int .i64 n, .slice B1 N d1] := by rw [hW5]; exact Blk.new _ _ _
 clear hW5
 have k4 := (k4.call hb2).call b5
 have oA := (((oA.below b4).below hb2).below b5)
 have oB := oB.below b5
 have s1 := hb1.size
 have s4 := b4.size
 have s2 := hb2.size
 have s5 := b5.size
 have gW : Below W.heap.size W W5 := bthen (bthen (bthen hb1 b4) hb2) b5
 clear b4 b5 hb1 hb2
 go_loopw [6] (fun i wr => ∃ k : Nat, k ≤ n ∧ i = .int .i64 k ∧ Blk wr w1.heap.size 44 #[.int .i64 ((n : Int) + 1), .int .i64 n, .slice A1 N c1] ∧ Blk wr w2.heap.size 44 #[.int .i64 ((n : Int) + 1), .int .i64 n, .slice B1 N d1] ∧ IntsO wr W.heap.size w1.heap.size (.slice A1 N c1) (stA n k) ∧ IntsO wr W4.heap.size w2.heap.size (.slice B1 N d1) (stB n k) ∧ Below W.heap.size W wr) (fun i _ => n - (intOf i).toNat)
 case atStart => exact ⟨0, Nat.zero_le _, rfl, k4, k5, oA, oB, gW⟩
 case round =>
  clear k4 k5 oA oB gW
  obtain ⟨k, hk, rfl, k4, k5, oA, oB, gW⟩ := hrel
  have s6 := gW.size
  by_cases hlt : k < n
  ·have hcase : (n = 1 ∧ k = 0) ∨ (n = 2 ∧ k = 0) ∨ (n = 2 ∧ k = 1) ∨ (n = 3 ∧ k = 0) ∨ (n = 3 ∧ k = 1) ∨ (n = 3 ∧ k = 2) := by omega
   rcases hcase with ⟨rfl, rfl⟩ | ⟨rfl, rfl⟩ | ⟨rfl, rfl⟩ | ⟨rfl, rfl⟩ | ⟨rfl, rfl⟩ | ⟨rfl, rfl⟩
   ·subst hN
    obtain ⟨gA, cA, eA, a1, a2, a3⟩ := oA.at_ (by simp [stA_length])
    obtain ⟨gB, cB, eB, b1, b2, b3⟩ := oB.at_ (by simp [stB_length])
    simp only [stA_length] at eA
    simp only [stB_length] at eB
    injection eA with eA1 eA2 eA3
    injection eB with eB1 eB2 eB3
    subst eA1 eA3 eB1 eB3
    have r2 := k4.cell' (i := 2) rfl
    have fA := oA.1.frozenG 0
    have cA := (oA.1.cellG (j := 0) (by simp [stA_length])).1
    have hc1 : Chg W.heap.size w1.heap.size wr (wr.setCell ⟨gA, 0, none⟩ (.int .i64 1)) := chg_set a1 a2
    have oA2 := oA.put (j := 0) (x := 1) (by simp [I64])
    have oB2 := oB.chg hc1 (.inr (by omega))
    have k4' := k4.chg hc1 (by omega)
    have k5' := k5.chg hc1 (by omega)
    have q2 := k5'.cell' (i := 2) rfl
    have fB := oB2.1.frozenG 1
    have cB := (oB2.1.cellG (j := 1) (by simp [stB_length])).1
    have OA2 := Lib.hid oA2
    have OB2 := Lib.hid oB2
    have K4 := Lib.hid k4'
    have K5 := Lib.hid k5'
    have HC1 := Lib.hid hc1
    clear oA2 oB2 k4' k5' hc1
    have hx := OA2.out
    go_wp2
    have hc2 : Chg W4.heap.size w2.heap.size (wr.setCell ⟨gA, 0, none⟩ (.int .i64 1)) ((wr.setCell ⟨gA, 0, none⟩ (.int .i64 1)).setCell ⟨gB, 1, none⟩ (.int .i64 1)) := chg_set b1 b2
    exact ⟨⟨1, by omega, rfl, K4.out.chg hc2 (by omega), K5.out.chg hc2 (by omega), OA2.out.chg hc2 (.inl (by omega)), OB2.out.put (j := 1) (x := 1) (by simp [I64]), (gW.trans (HC1.out.below (Nat.le_refl _) s6)).trans (hc2.below (by omega) (by simp; omega))⟩, by simp [intOf]⟩
   ·subst hN
    obtain ⟨gA, cA, eA, a1, a2, a3⟩ := oA.at_ (by simp [stA_length])
    obtain ⟨gB, cB, eB, b1, b2, b3⟩ := oB.at_ (by simp [stB_length])
    simp only [stA_length] at eA
    simp only [stB_length] at eB
    injection eA with eA1 eA2 eA3
    injection eB with eB1 eB2 eB3
    subst eA1 eA3 eB1 eB3
    have r2 := k4.cell' (i := 2) rfl
    have fA := oA.1.frozenG 0
    have cA := (oA.1.cellG (j := 0) (by simp [stA_length])).1
    have hc1 : Chg W.heap.size w1.heap.size wr (wr.setCell ⟨gA, 0, none⟩ (.int .i64 1)) := chg_set a1 a2
    have oA2 := oA.put (j := 0) (x := 1) (by simp [I64])
    have oB2 := oB.chg hc1 (.inr (by omega))
    have k4' := k4.chg hc1 (by omega)
    have k5' := k5.chg hc1 (by omega)
    have q2 := k5'.cell' (i := 2) rfl
    have fB := oB2.1.frozenG 2
    have cB := (oB2.1.cellG (j := 2) (by simp [stB_length])).1
    have OA2 := Lib.hid oA2
    have OB2 := Lib.hid oB2
    have K4 := Lib.hid k4'
    have K5 := Lib.hid k5'
    have HC1 := Lib.hid hc1
    clear oA2 oB2 k4' k5' hc1
    have hx := OA2.out
    go_wp2
    have hc2 : Chg W4.heap.size w2.heap.size (wr.setCell ⟨gA, 0, none⟩ (.int .i64 1)) ((wr.setCell ⟨gA, 0, none⟩ (.int .i64 1)).setCell ⟨gB, 2, none⟩ (.int .i64 1)) := chg_set b1 b2
    exact ⟨⟨1, by omega, rfl, K4.out.chg hc2 (by omega), K5.out.chg hc2 (by omega), OA2.out.chg hc2 (.inl (by omega)), OB2.out.put (j := 2) (x := 1) (by simp [I64]), (gW.trans (HC1.out.below (Nat.le_refl _) s6)).trans (hc2.below (by omega) (by simp; omega))⟩, by simp [intOf]⟩
   ·subst hN
    obtain ⟨gA, cA, eA, a1, a2, a3⟩ := oA.at_ (by simp [stA_length])
    obtain ⟨gB, cB, eB, b1, b2, b3⟩ := oB.at_ (by simp [stB_length])
    simp only [stA_length] at eA
    simp only [stB_length] at eB
    injection eA with eA1 eA2 eA3
    injection eB with eB1 eB2 eB3
    subst eA1 eA3 eB1 eB3
    have r2 := k4.cell' (i := 2) rfl
    have fA := oA.1.frozenG 3
    have cA := (oA.1.cellG (j := 3) (by simp [stA_length])).1
    have hc1 : Chg W.heap.size w1.heap.size wr (wr.setCell ⟨gA, 3, none⟩ (.int .i64 1)) := chg_set a1 a2
    have oA2 := oA.put (j := 3) (x := 1) (by simp [I64])
    have oB2 := oB.chg hc1 (.inr (by omega))
    have k4' := k4.chg hc1 (by omega)
    have k5' := k5.chg hc1 (by omega)
    have q2 := k5'.cell' (i := 2) rfl
    have fB := oB2.1.frozenG 5
    have cB := (oB2.1.cellG (j := 5) (by simp [stB_length])).1
    have OA2 := Lib.hid oA2
    have OB2 := Lib.hid oB2
    have K4 := Lib.hid k4'
    have K5 := Lib.hid k5'
    have HC1 := Lib.hid hc1
    clear oA2 oB2 k4' k5' hc1
    have hx := OA2.out
    go_wp2
    have hc2 : Chg W4.heap.size w2.heap.size (wr.setCell ⟨gA, 3, none⟩ (.int .i64 1)) ((wr.setCell ⟨gA, 3, none⟩ (.int .i64 1)).setCell ⟨gB, 5, none⟩ (.int .i64 1)) := chg_set b1 b2
    exact ⟨⟨2, by omega, rfl, K4.out.chg hc2 (by omega), K5.out.chg hc2 (by omega), OA2.out.chg hc2 (.inl (by omega)), OB2.out.put (j := 5) (x := 1) (by simp [I64]), (gW.trans (HC1.out.below (Nat.le_refl _) s6)).trans (hc2.below (by omega) (by simp; omega))⟩, by simp [intOf]⟩
   ·subst hN
    obtain ⟨gA, cA, eA, a1, a2, a3⟩ := oA.at_ (by simp [stA_length])
    obtain ⟨gB, cB, eB, b1, b2, b3⟩ := oB.at_ (by simp [stB_length])
    simp only [stA_length] at eA
    simp only [stB_length] at eB
    injection eA with eA1 eA2 eA3
    injection eB with eB1 eB2 eB3
    subst eA1 eA3 eB1 eB3
    have r2 := k4.cell' (i := 2) rfl
    have fA := oA.1.frozenG 0
    have cA := (oA.1.cellG (j := 0) (by simp [stA_length])).1
    have hc1 : Chg W.heap.size w1.heap.size wr (wr.setCell ⟨gA, 0, none⟩ (.int .i64 1)) := chg_set a1 a2
    have oA2 := oA.put (j := 0) (x := 1) (by simp [I64])
    have oB2 := oB.chg hc1 (.inr (by omega))
    have k4' := k4.chg hc1 (by omega)
    have k5' := k5.chg hc1 (by omega)
    have q2 := k5'.cell' (i := 2) rfl
    have fB := oB2.1.frozenG 3
    have cB := (oB2.1.cellG (j := 3) (by simp [stB_length])).1
    have OA2 := Lib.hid oA2
    have OB2 := Lib.hid oB2
    have K4 := Lib.hid k4'
    have K5 := Lib.hid k5'
    have HC1 := Lib.hid hc1
    clear oA2 oB2 k4' k5' hc1
    have hx := OA2.out
    go_wp2
    have hc2 : Chg W4.heap.size w2.heap.size (wr.setCell ⟨gA, 0, none⟩ (.int .i64 1)) ((wr.setCell ⟨gA, 0, none⟩ (.int .i64 1)).setCell ⟨gB, 3, none⟩ (.int .i64 1)) := chg_set b1 b2
    exact ⟨⟨1, by omega, rfl, K4.out.chg hc2 (by omega), K5.out.chg hc2 (by omega), OA2.out.chg hc2 (.inl (by omega)), OB2.out.put (j := 3) (x := 1) (by simp [I64]), (gW.trans (HC1.out.below (Nat.le_refl _) s6)).trans (hc2.below (by omega) (by simp; omega))⟩, by simp [intOf]⟩
   ·subst hN
    obtain ⟨gA, cA, eA, a1, a2, a3⟩ := oA.at_ (by simp [stA_length])
    obtain ⟨gB, cB, eB, b1, b2, b3⟩ := oB.at_ (by simp [stB_length])
    simp only [stA_length] at eA
    simp only [stB_length] at eB
    injection eA with eA1 eA2 eA3
    injection eB with eB1 eB2 eB3
    subst eA1 eA3 eB1 eB3
    have r2 := k4.cell' (i := 2) rfl
    have fA := oA.1.frozenG 4
    have cA := (oA.1.cellG (j := 4) (by simp [stA_length])).1
    have hc1 : Chg W.heap.size w1.heap.size wr (wr.setCell ⟨gA, 4, none⟩ (.int .i64 1)) := chg_set a1 a2
    have oA2 := oA.put (j := 4) (x := 1) (by simp [I64])
    have oB2 := oB.chg hc1 (.inr (by omega))
    have k4' := k4.chg hc1 (by omega)
    have k5' := k5.chg hc1 (by omega)
    have q2 := k5'.cell' (i := 2) rfl
    have fB := oB2.1.frozenG 7
    have cB := (oB2.1.cellG (j := 7) (by simp [stB_length])).1
    have OA2 := Lib.hid oA2
    have OB2 := Lib.hid oB2
    have K4 := Lib.hid k4'
    have K5 := Lib.hid k5'
    have HC1 := Lib.hid hc1
    clear oA2 oB2 k4' k5' hc1
    have hx := OA2.out
    go_wp2
    have hc2 : Chg W4.heap.size w2.heap.size (wr.setCell ⟨gA, 4, none⟩ (.int .i64 1)) ((wr.setCell ⟨gA, 4, none⟩ (.int .i64 1)).setCell ⟨gB, 7, none⟩ (.int .i64 1)) := chg_set b1 b2
    exact ⟨⟨2, by omega, rfl, K4.out.chg hc2 (by omega), K5.out.chg hc2 (by omega), OA2.out.chg hc2 (.inl (by omega)), OB2.out.put (j := 7) (x := 1) (by simp [I64]), (gW.trans (HC1.out.below (Nat.le_refl _) s6)).trans (hc2.below (by omega) (by simp; omega))⟩, by simp [intOf]⟩
   ·subst hN
    obtain ⟨gA, cA, eA, a1, a2, a3⟩ := oA.at_ (by simp [stA_length])
    obtain ⟨gB, cB, eB, b1, b2, b3⟩ := oB.at_ (by simp [stB_length])
    simp only [stA_length] at eA
    simp only [stB_length] at eB
    injection eA with eA1 eA2 eA3
    injection eB with eB1 eB2 eB3
    subst eA1 eA3 eB1 eB3
    have r2 := k4.cell' (i := 2) rfl
    have fA := oA.1.frozenG 8
    have cA := (oA.1.cellG (j := 8) (by simp [stA_length])).1
    have hc1 : Chg W.heap.size w1.heap.size wr (wr.setCell ⟨gA, 8, none⟩ (.int .i64 1)) := chg_set a1 a2
    have oA2 := oA.put (j := 8) (x := 1) (by simp [I64])
    have oB2 := oB.chg hc1 (.inr (by omega))
    have k4' := k4.chg hc1 (by omega)
    have k5' := k5.chg hc1 (by omega)
    have q2 := k5'.cell' (i := 2) rfl
    have fB := oB2.1.frozenG 11
    have cB := (oB2.1.cellG (j := 11) (by simp [stB_length])).1
    have OA2 := Lib.hid oA2
    have OB2 := Lib.hid oB2
    have K4 := Lib.hid k4'
    have K5 := Lib.hid k5'
    have HC1 := Lib.hid hc1
    clear oA2 oB2 k4' k5' hc1
    have hx := OA2.out
    go_wp2
    have hc2 : Chg W4.heap.size w2.heap.size (wr.setCell ⟨gA, 8, none⟩ (.int .i64 1)) ((wr.setCell ⟨gA, 8, none⟩ (.int .i64 1)).setCell ⟨gB, 11, none⟩ (.int .i64 1)) := chg_set b1 b2
    exact ⟨⟨3, by omega, rfl, K4.out.chg hc2 (by omega), K5.out.chg hc2 (by omega), OA2.out.chg hc2 (.inl (by omega)), OB2.out.put (j := 11) (x := 1) (by simp [I64]), (gW.trans (HC1.out.below (Nat.le_refl _) s6)).trans (hc2.below (by omega) (by simp; omega))⟩, by simp [intOf]⟩
  ·obtain rfl : k = n := by omega
   have sz := SZ.out
   have k2 := K2.out.below gW (by omega)
   have k3 := K3.out.below gW (by omega)
   have z0 := k4.cell' (i := 0) rfl
   have z1 := k4.cell' (i := 1) rfl
   have z2 := k4.cell' (i := 2) rfl
   have y0 := k5.cell' (i := 0) rfl
   have y1 := k5.cell' (i := 1) rfl
   have y2 := k5.cell' (i := 2) rfl
   have p0 := k2.cell' (i := 0) rfl
   have p1 := k2.cell' (i := 1) rfl
   have p2 := k2.cell' (i := 2) rfl
   have q0 := k3.cell' (i := 0) rfl
   have q1 := k3.cell' (i := 1) rfl
   have q2 := k3.cell' (i := 2) rfl
   have f2 := k2.frozen
   have f3 := k3.frozen
   have h2 := chg3 wr w.heap.size (.int .i64 ((k : Int) + 1)) (.int .i64 k) (.slice A1 N c1)
   have h3 := chg3 wr (w.heap.size + 1) (.int .i64 ((k : Int) + 1)) (.int .i64 k) (.slice B1 N d1)
   have k52 := k5.chg h2 (by omega)
   have k32 := k3.chg h2 (by omega)
   have k43 := k4.chg h3 (by omega)
   have k23 := k2.chg h3 (by omega)
   have y02 := k52.cell' (i := 0) rfl
   have y12 := k52.cell' (i := 1) rfl
   have y22 := k52.cell' (i := 2) rfl
   have f32 := k32.frozen
   have z03 := k43.cell' (i := 0) rfl
   have z13 := k43.cell' (i := 1) rfl
   have z23 := k43.cell' (i := 2) rfl
   have f23 := k23.frozen
   have hmo : Tryz.prog.follows .mixedOrders = true := by kernel_rfl
   have OA := Lib.hid oA
   have OB := Lib.hid oB
   have GW := Lib.hid gW
   have HN := Lib.hid hN
   clear oA oB gW hN k2 k3 k4 k5 k52 k32 k43 k23
   go_wp2
   go_region_o
   go_wp2
   have h3 := chg3 (((wr.setCell ⟨w.heap.size, 0, none⟩ (.int .i64 ((k : Int) + 1))).setCell ⟨w.heap.size, 1, none⟩ (.int .i64 k)).setCell ⟨w.heap.size, 2, none⟩ (.slice A1 N c1)) (w.heap.size + 1) (.int .i64 ((k : Int) + 1)) (.int .i64 k) (.slice B1 N d1)
   have gw : Below w.heap.size w wr := g0.trans (GW.out.mono g0.size)
   have gs := gw.size
   have fa := ((OA.out.chg h2 (.inr (by omega))).chg h3 (.inr (by omega))).rd
   have fb := ((OB.out.chg h2 (.inr (by omega))).chg h3 (.inr (by omega))).rd
   have fg := (gw.trans (h2.below (Nat.le_refl _) gs)).trans (h3.below (by omega) (by simp; omega))
   exact bodyPost_ret (v := .tuple #[.agg #[.int .i64 ((k : Int) + 1), .int .i64 k, .slice A1 N c1], .agg #[.int .i64 ((k : Int) + 1), .int .i64 k, .slice B1 N d1]]) (by simp [results, go_sem, p0, p1, p2, q0, q1, q2]) rfl ⟨_, _, rfl, ⟨_, rfl, SlI.next (drew_below _) fa, hr, hc⟩, ⟨_, rfl, SlI.next (drew_below _) fb, hr, hc⟩, fg.drew⟩
def prepP (p n : Int) : Rp × Bool := if inR n 0 3 then penOf p (shA n.toNat) (shB n.toNat) else (rp0, false)
set_option maxHeartbeats 1600000 in
set_option maxRecDepth 100000 in
theorem specPreprojectivePencil_any (p n : Int) (w : World) (hp : I64 p) (hn : I64 n) :
  Calls Tryz.prog 7 #[.int .i64 p, .int .i64 n] w fun e w' => ∃ r, e = .returned (.tuple #[r, .bool (prepP p n).2]) ∧ RepO w' w.heap.size w'.heap.size r (prepP p n).1 ∧ Below w.heap.size w w' := by
 obtain ⟨W, hW⟩ : ∃ W, W = w.alloc (.cells #[.int .i64 0, .int .i64 0, .slice none 0 0, .slice none 0 0, .slice none 0 0, .slice none 0 0] 31) := ⟨_, rfl⟩
 have g0 : Below w.heap.size w W := by rw [hW]; exact below_alloc _ _
 have kR : Blk W w.heap.size 31 #[.int .i64 0, .int .i64 0, .slice none 0 0, .slice none 0 0, .slice none 0 0, .slice none 0 0] := by rw [hW]; exact Blk.new _ _ _
 have sz : W.heap.size = w.heap.size + 1 := by rw [hW]; simp
 have SZ := Lib.hid sz
 rcases hB : inR n 0 3 with _ | _
 ·have hF : Hid (prepP p n = (rp0, false)) := by show _ = _; simp [prepP, hB]
  have fr := kR.frozen
  have s0 := kR.cell' (i := 0) rfl
  have s1 := kR.cell' (i := 1) rfl
  have s2 := kR.cell' (i := 2) rfl
  have s3 := kR.cell' (i := 3) rfl
  have s4 := kR.cell' (i := 4) rfl
  have s5 := kR.cell' (i := 5) rfl
  have HB := Lib.hid hB
  clear hB sz
  go_enter Tryz.func7, Tryz.ntmps7
  go_wp2_with fail
  rw [← hW]; clear hW
  refine (l1In_any _ _ _ _).mono ?_; rintro e w1 ⟨rfl, rfl⟩
  rw [HB.out]
  go_wp2
  have sz := SZ.out
  refine bodyPost_ret (v := .tuple #[.agg #[.int .i64 0, .int .i64 0, .slice none 0 0, .slice none 0 0, .slice none 0 0, .slice none 0 0], .bool false]) (by simp [results, go_sem, s0, s1, s2, s3, s4, s5]) rfl ⟨_, by rw [hF.out], by rw [hF.out]; exact RepO.zero _ _ _, (((((g0.setCell (by simp) _).setCell (by simp) _).setCell (by simp) _).setCell (by simp) _).setCell (by simp) _).setCell (by simp) _⟩
 ·obtain ⟨n1, n2⟩ := inR_t.1 hB
  obtain ⟨N, rfl⟩ := Int.eq_ofNat_of_zero_le n1
  have hF : Hid (prepP p N = penOf p (shA N) (shB N)) := by show _ = _; rw [prepP, hB]; rfl
  have HB := Lib.hid hB
  clear hB
  go_enter Tryz.func7, Tryz.ntmps7
  go_wp2_with fail
  rw [← hW]; clear hW
  refine (l1In_any _ _ _ _).mono ?_; rintro e w1' ⟨rfl, rfl⟩
  rw [HB.out]
  go_wp2_with fail
  refine (l26Shift_any N _ (by omega)).mono ?_; rintro e w1 ⟨a, b, rfl, ha, hb, hb1⟩
  obtain ⟨A, ac, ea⟩ := ha.form
  obtain ⟨B, bc, eb⟩ := hb.form
  subst ea eb
  generalize shA N = MA at *
  generalize shB N = MB at *
  obtain ⟨W2, hW2⟩ : ∃ u, u = (w1.alloc (.cells #[.int .i64 MA.r, .int .i64 MA.c, .slice A MA.a.length ac] 44)).alloc (.cells #[.int .i64 MB.r, .int .i64 MB.c, .slice B MB.a.length bc] 44) := ⟨_, rfl⟩
  have hb2 : Below w1.heap.size w1 W2 := by rw [hW2]; exact ((Below.refl _ _).alloc (Nat.le_refl _) _).alloc (by simp) _
  go_wp2_with fail
  rw [← hW2]
  clear hW2
  refine (specPencilOf_any p _ MA _ MB W2 hp (MxR.next hb2 ha) (MxR.next hb2 hb)).mono ?_; rintro e w2 ⟨r, rfl, ho, hb3⟩
  have g2 := bthen (bthen hb1 hb2) hb3
  have g3 := g0.trans (g2.mono g0.size)
  have s1 := hb1.size
  have s2 := hb2.size
  have s3 := hb3.size
  have kR2 := kR.call g2
  generalize penOf p MA MB = R at *
  obtain ⟨RA, ra, RC, rc, RE, re, RH, rh, er⟩ := ho.form
  subst er
  obtain ⟨X, hX⟩ : ∃ X, X = w2.alloc (.cells #[.int .i64 R.1.p, .int .i64 R.1.q.v, .slice RA R.1.q.f.length ra, .slice RC R.1.q.t.length rc, .slice RE R.1.d.length re, .slice RH R.1.m.length rh] 31) := ⟨_, rfl⟩
  have hbX : Below w2.heap.size w2 X := by rw [hX]; exact below_alloc _ _
  have kX := kR2.call hbX
  have fr := kX.frozen
  have p0 := kX.cell' (i := 0) rfl
  have p1 := kX.cell' (i := 1) rfl
  have p2 := kX.cell' (i := 2) rfl
  have p3 := kX.cell' (i := 3) rfl
  have p4 := kX.cell' (i := 4) rfl
  have p5 := kX.cell' (i := 5) rfl
  have oX := ho.below hbX
  have sX := hbX.size
  have gX := g3.trans (hbX.mono g3.size)
  have hc := chg6 X w.heap.size (.int .i64 R.1.p) (.int .i64 R.1.q.v) (.slice RA R.1.q.f.length ra) (.slice RC R.1.q.t.length rc) (.slice RE R.1.d.length re) (.slice RH R.1.m.length rh)
  have OF := Lib.hid (RepO.wider (oX.chg hc (.inr (by omega))) (lo' := w.heap.size) (by omega) (hi' := X.heap.size) (by omega))
  have GF := Lib.hid (gX.trans (hc.below (Nat.le_refl _) gX.size))
  clear ho oX hc gX g3 g2 hbX kX kR2 kR hb1 hb2 hb3 ha hb sX s1 s2 s3
  rw [hX] at fr p0 p1 p2 p3 p4 p5
  go_wp2
  rw [← hX]
  rw [← hX] at p0 p1 p2 p3 p4 p5
  exact bodyPost_ret (v := .tuple #[.agg #[.int .i64 R.1.p, .int .i64 R.1.q.v, .slice RA R.1.q.f.length ra, .slice RC R.1.q.t.length rc, .slice RE R.1.d.length re, .slice RH R.1.m.length rh], .bool R.2]) (by simp [results, go_sem, p0, p1, p2, p3, p4, p5]) rfl ⟨_, by rw [hF.out], by rw [hF.out]; exact RepO.wider OF.out (Nat.le_refl _) (by simp), GF.out⟩
theorem ix_next {i r c P : Nat} (hi : i < r) (hr : r ≤ 1000) (hc : c ≤ 1000) (hP : wrap64 ((i : Int) * (c : Int)) = (P : Int)) :
  P = i * c ∧ wrap64 (((i : Int) + 1) * (c : Int)) = ((P + c : Nat) : Int) ∧ P + c ≤ r * c ∧ P + c ≤ 1000000 := by
 have h1 : (i + 1) * c ≤ r * c := Nat.mul_le_mul_right _ hi
 have h2 : r * c ≤ 1000 * 1000 := Nat.mul_le_mul hr hc
 have h3 : (i + 1) * c = i * c + c := by rw [Nat.add_mul, Nat.one_mul]
 have e1 : P = i * c := by
  rw [show ((i : Int) * (c : Int)) = ((i * c : Nat) : Int) by simp, IntWalk.wrap64_in _ ⟨by omega, by omega⟩] at hP
  omega
 refine ⟨e1, ?_, by omega, by omega⟩
 rw [show (((i : Int) + 1) * (c : Int)) = (((i + 1) * c : Nat) : Int) by simp, h3, ← e1]
 exact IntWalk.wrap64_in _ ⟨by omega, by omega⟩
set_option maxHeartbeats 800000 in
theorem row_at (r : Int) (c i P N cap g : Nat) (w : World) (h1 : wrap64 ((i : Int) * (c : Int)) = (P : Int)) (h2 : wrap64 (((i : Int) + 1) * (c : Int)) = ((P + c : Nat) : Int))
  (hN : P + c ≤ N) (hcap : N ≤ cap) (hb : cap ≤ 9223372036854775807) (h0 : 0 < c) (hi : i ≤ 1000) :
  Calls Tryz.prog 33 #[.agg #[.int .i64 r, .int .i64 c, .slice (some ⟨g, 0, none⟩) N cap], .int .i64 i] w fun e w' => e = .returned (.slice (some ⟨g, P, none⟩) c (cap - P)) ∧ Below w.heap.size w w' := by
 go_enter Tryz.func33, Tryz.ntmps33
 go_wp2
 exact bodyPost_ret (v := .slice (some ⟨g, P, none⟩) c (cap - P)) (by simp [results, go_sem]) rfl ⟨rfl, below_alloc _ _⟩
def regF (k : Int) (a b : Nat) : Int := if a = b then k else if b = a + 1 then 1 else 0
def regK (k : Int) (i a b : Nat) : Int := if i ≤ a then 0 else regF k a b
def regH (k : Int) (i a b : Nat) : Int := if a = i ∧ b = i then k else regK k i a b
theorem regK_0 (k : Int) (n : Nat) : flat n n (fun _ _ => 0) = flat n n (regK k 0) := flat_congr fun a b _ _ => by simp [regK]
theorem regH_of {n i : Nat} (k : Int) (h : i < n) : (flat n n (regK k i)).set (i * n + i) k = flat n n (regH k i) := flat_set _ _ h h
theorem regK_of {n i : Nat} (k : Int) (h : i + 1 < n) : (flat n n (regH k i)).set (i * n + (i + 1)) 1 = flat n n (regK k (i + 1)) := by
 rw [flat_set _ _ (by omega) h]
 refine flat_congr fun a b _ _ => ?_
 simp only [regH, regK, regF]
 (repeat' split) <;> first | rfl | omega
theorem regK_last {n i : Nat} (k : Int) (h : i + 1 = n) : flat n n (regH k i) = flat n n (regK k (i + 1)) := by
 refine flat_congr fun a b _ hb => ?_
 simp only [regH, regK, regF]
 (repeat' split) <;> first | rfl | omega
theorem regK_n (k : Int) (n : Nat) : flat n n (regK k n) = flat n n (regF k) := flat_congr fun a b ha _ => by rw [regK, if_neg (by omega)]
def regOk (p n k : Int) : Bool := isFld p && (inR n 1 4 && inR k 0 (p - 1))
def regP (p n k : Int) : Rp × Bool := if regOk p n k then penOf p (mxF n.toNat n.toNat idF) (mxF n.toNat n.toNat (regF k)) else (rp0, false)
theorem regP_no {p n k : Int} (h : regOk p n k = false) : regP p n k = (rp0, false) := by simp [regP, h]
theorem regP_yes {p n k : Int} (h : regOk p n k = true) : regP p n k = penOf p (mxF n.toNat n.toNat idF) (mxF n.toNat n.toNat (regF k)) := by simp [regP, h]
set_option maxHeartbeats 1600000 in
theorem specReg_no (p n k : Int) (w : World) (hp : I64 p) (hn : I64 n) (hk : I64 k) (hno : regOk p n k = false) :
  Calls Tryz.prog 16 #[.int .i64 p, .int .i64 n, .int .i64 k] w fun e w' => ∃ r, e = .returned (.tuple #[r, .bool (regP p n k).2]) ∧ RepO w' w.heap.size w'.heap.size r (regP p n k).1 ∧ Below w.heap.size w w' := by
 obtain ⟨W, hW⟩ : ∃ W, W = w.alloc (.cells #[.int .i64 0, .int .i64 0, .slice none 0 0, .slice none 0 0, .slice none 0 0, .slice none 0 0] 31) := ⟨_, rfl⟩
 have g0 : Below w.heap.size w W := by rw [hW]; exact below_alloc _ _
 have kR : Blk W w.heap.size 31 #[.int .i64 0, .int .i64 0, .slice none 0 0, .slice none 0 0, .slice none 0 0, .slice none 0 0] := by rw [hW]; exact Blk.new _ _ _
 have sz : W.heap.size = w.heap.size + 1 := by rw [hW]; simp
 have SZ := Lib.hid sz
 have hF := Lib.hid (regP_no hno)
 have fr := kR.frozen
 have s0 := kR.cell' (i := 0) rfl
 have s1 := kR.cell' (i := 1) rfl
 have s2 := kR.cell' (i := 2) rfl
 have s3 := kR.cell' (i := 3) rfl
 have s4 := kR.cell' (i := 4) rfl
 have s5 := kR.cell' (i := 5) rfl
 clear sz kR
 unfold regOk at hno
 rcases h1 : isFld p with _ | _
 ·have H1 := Lib.hid h1
  clear h1 hno
  go_enter Tryz.func16, Tryz.ntmps16
  go_wp2_with fail
  rw [← hW]; clear hW
  refine (specIsField_any _ _).mono ?_; rintro e w1 ⟨rfl, rfl⟩
  rw [H1.out]
  go_wp2
  have sz := SZ.out
  refine bodyPost_ret (v := .tuple #[.agg #[.int .i64 0, .int .i64 0, .slice none 0 0, .slice none 0 0, .slice none 0 0, .slice none 0 0], .bool false]) (by simp [results, go_sem, s0, s1, s2, s3, s4, s5]) rfl ⟨_, by rw [hF.out], by rw [hF.out]; exact RepO.zero _ _ _, (((((g0.setCell (by simp) _).setCell (by simp) _).setCell (by simp) _).setCell (by simp) _).setCell (by simp) _).setCell (by simp) _⟩
 have b1 := isFld_r h1
 rcases h2 : inR n 1 4 with _ | _
 ·have H1 := Lib.hid h1
  have H2 := Lib.hid h2
  clear h1 h2 hno
  go_enter Tryz.func16, Tryz.ntmps16
  go_wp2_with fail
  rw [← hW]; clear hW
  refine (specIsField_any _ _).mono ?_; rintro e w1 ⟨rfl, rfl⟩
  rw [H1.out]
  go_wp2_with fail
  refine (l1In_any _ _ _ _).mono ?_; rintro e w2 ⟨rfl, rfl⟩
  rw [H2.out]
  go_wp2
  have sz := SZ.out
  refine bodyPost_ret (v := .tuple #[.agg #[.int .i64 0, .int .i64 0, .slice none 0 0, .slice none 0 0, .slice none 0 0, .slice none 0 0], .bool false]) (by simp [results, go_sem, s0, s1, s2, s3, s4, s5]) rfl ⟨_, by rw [hF.out], by rw [hF.out]; exact RepO.zero _ _ _, (((((g0.setCell (by simp) _).setCell (by simp) _).setCell (by simp) _).setCell (by simp) _).setCell (by simp) _).setCell (by simp) _⟩
 ·have h3 : inR k 0 (p - 1) = false := by simpa [h1, h2] using hno
  have H1 := Lib.hid h1
  have H2 := Lib.hid h2
  have H3 := Lib.hid h3
  clear h1 h2 h3 hno
  go_enter Tryz.func16, Tryz.ntmps16
  go_wp2_with fail
  rw [← hW]; clear hW
  refine (specIsField_any _ _).mono ?_; rintro e w1 ⟨rfl, rfl⟩
  rw [H1.out]
  go_wp2_with fail
  refine (l1In_any _ _ _ _).mono ?_; rintro e w2 ⟨rfl, rfl⟩
  rw [H2.out]
  go_wp2_with fail
  refine (l1In_any _ _ _ _).mono ?_; rintro e w3 ⟨rfl, rfl⟩
  rw [H3.out]
  go_wp2
  have sz := SZ.out
  refine bodyPost_ret (v := .tuple #[.agg #[.int .i64 0, .int .i64 0, .slice none 0 0, .slice none 0 0, .slice none 0 0, .slice none 0 0], .bool false]) (by simp [results, go_sem, s0, s1, s2, s3, s4, s5]) rfl ⟨_, by rw [hF.out], by rw [hF.out]; exact RepO.zero _ _ _, (((((g0.setCell (by simp) _).setCell (by simp) _).setCell (by simp) _).setCell (by simp) _).setCell (by simp) _).setCell (by simp) _⟩
set_option maxHeartbeats 1600000 in
theorem implReg_no (p n k : Int) (w : World) (hp : I64 p) (hn : I64 n) (hk : I64 k) (hno : regOk p n k = false) :
  Calls Tryz.prog 15 #[.int .i64 p, .int .i64 n, .int .i64 k] w fun e w' => ∃ r, e = .returned (.tuple #[r, .bool (regP p n k).2]) ∧ RepO w' w.heap.size w'.heap.size r (regP p n k).1 ∧ Below w.heap.size w w' := by
 obtain ⟨W, hW⟩ : ∃ W, W = w.alloc (.cells #[.int .i64 0, .int .i64 0, .slice none 0 0, .slice none 0 0, .slice none 0 0, .slice none 0 0] 31) := ⟨_, rfl⟩
 have g0 : Below w.heap.size w W := by rw [hW]; exact below_alloc _ _
 have kR : Blk W w.heap.size 31 #[.int .i64 0, .int .i64 0, .slice none 0 0, .slice none 0 0, .slice none 0 0, .slice none 0 0] := by rw [hW]; exact Blk.new _ _ _
 have sz : W.heap.size = w.heap.size + 1 := by rw [hW]; simp
 have SZ := Lib.hid sz
 have hF := Lib.hid (regP_no hno)
 have fr := kR.frozen
 have s0 := kR.cell' (i := 0) rfl
 have s1 := kR.cell' (i := 1) rfl
 have s2 := kR.cell' (i := 2) rfl
 have s3 := kR.cell' (i := 3) rfl
 have s4 := kR.cell' (i := 4) rfl
 have s5 := kR.cell' (i := 5) rfl
 clear sz kR
 unfold regOk at hno
 rcases h1 : isFld p with _ | _
 ·have H1 := Lib.hid h1
  clear h1 hno
  go_enter Tryz.func15, Tryz.ntmps15
  go_wp2_with fail
  rw [← hW]; clear hW
  refine (implIsField_any _ _).mono ?_; rintro e w1 ⟨rfl, rfl⟩
  rw [H1.out]
  go_wp2
  have sz := SZ.out
  refine bodyPost_ret (v := .tuple #[.agg #[.int .i64 0, .int .i64 0, .slice none 0 0, .slice none 0 0, .slice none 0 0, .slice none 0 0], .bool false]) (by simp [results, go_sem, s0, s1, s2, s3, s4, s5]) rfl ⟨_, by rw [hF.out], by rw [hF.out]; exact RepO.zero _ _ _, (((((g0.setCell (by simp) _).setCell (by simp) _).setCell (by simp) _).setCell (by simp) _).setCell (by simp) _).setCell (by simp) _⟩
 have b1 := isFld_r h1
 rcases h2 : inR n 1 4 with _ | _
 ·have H1 := Lib.hid h1
  have H2 := Lib.hid h2
  clear h1 h2 hno
  go_enter Tryz.func15, Tryz.ntmps15
  go_wp2_with fail
  rw [← hW]; clear hW
  refine (implIsField_any _ _).mono ?_; rintro e w1 ⟨rfl, rfl⟩
  rw [H1.out]
  go_wp2_with fail
  refine (within_any _ _ _ _).mono ?_; rintro e w2 ⟨rfl, rfl⟩
  rw [H2.out]
  go_wp2
  have sz := SZ.out
  refine bodyPost_ret (v := .tuple #[.agg #[.int .i64 0, .int .i64 0, .slice none 0 0, .slice none 0 0, .slice none 0 0, .slice none 0 0], .bool false]) (by simp [results, go_sem, s0, s1, s2, s3, s4, s5]) rfl ⟨_, by rw [hF.out], by rw [hF.out]; exact RepO.zero _ _ _, (((((g0.setCell (by simp) _).setCell (by simp) _).setCell (by simp) _).setCell (by simp) _).setCell (by simp) _).setCell (by simp) _⟩
 ·have h3 : inR k 0 (p - 1) = false := by simpa [h1, h2] using hno
  have H1 := Lib.hid h1
  have H2 := Lib.hid h2
  have H3 := Lib.hid h3
  clear h1 h2 h3 hno
  go_enter Tryz.func15, Tryz.ntmps15
  go_wp2_with fail
  rw [← hW]; clear hW
  refine (implIsField_any _ _).mono ?_; rintro e w1 ⟨rfl, rfl⟩
  rw [H1.out]
  go_wp2_with fail
  refine (within_any _ _ _ _).mono ?_; rintro e w2 ⟨rfl, rfl⟩
  rw [H2.out]
  go_wp2_with fail
  refine (within_any _ _ _ _).mono ?_; rintro e w3 ⟨rfl, rfl⟩
  rw [H3.out]
  go_wp2
  have sz := SZ.out
  refine bodyPost_ret (v := .tuple #[.agg #[.int .i64 0, .int .i64 0, .slice none 0 0, .slice none 0 0, .slice none 0 0, .slice none 0 0], .bool false]) (by simp [results, go_sem, s0, s1, s2, s3, s4, s5]) rfl ⟨_, by rw [hF.out], by rw [hF.out]; exact RepO.zero _ _ _, (((((g0.setCell (by simp) _).setCell (by simp) _).setCell (by simp) _).setCell (by simp) _).setCell (by simp) _).setCell (by simp) _⟩
set_option maxHeartbeats 6400000 in
set_option maxRecDepth 100000 in
theorem specReg_yes (p n k : Int) (w0 : World) (hp : I64 p) (hn : I64 n) (hk : I64 k) (hyes : regOk p n k = true) :
  Calls Tryz.prog 16 #[.int .i64 p, .int .i64 n, .int .i64 k] w0 fun e w' => ∃ r, e = .returned (.tuple #[r, .bool (regP p n k).2]) ∧ RepO w' w0.heap.size w'.heap.size r (regP p n k).1 ∧ Below w0.heap.size w0 w' := by
 obtain ⟨W, hW⟩ : ∃ W, W = w0.alloc (.cells #[.int .i64 0, .int .i64 0, .slice none 0 0, .slice none 0 0, .slice none 0 0, .slice none 0 0] 31) := ⟨_, rfl⟩
 have g0 : Below w0.heap.size w0 W := by rw [hW]; exact below_alloc _ _
 have kR : Blk W w0.heap.size 31 #[.int .i64 0, .int .i64 0, .slice none 0 0, .slice none 0 0, .slice none 0 0, .slice none 0 0] := by rw [hW]; exact Blk.new _ _ _
 have sz : W.heap.size = w0.heap.size + 1 := by rw [hW]; simp
 have SZ := Lib.hid sz
 have KR := Lib.hid kR
 have G0 := Lib.hid g0
 have HF := Lib.hid (regP_yes hyes)
 unfold regOk at hyes
 simp only [Bool.and_eq_true] at hyes
 obtain ⟨h1, h2, h3⟩ := hyes
 have b1 := isFld_r h1
 obtain ⟨n1, n2⟩ := inR_t.1 h2
 obtain ⟨N, rfl⟩ := Int.eq_ofNat_of_zero_le (show 0 ≤ n by omega)
 have H1 := Lib.hid h1
 have H2 := Lib.hid h2
 have H3 := Lib.hid h3
 clear h1 h2 h3 sz kR g0
 go_enter Tryz.func16, Tryz.ntmps16
 go_wp2_with fail
 rw [← hW]; clear hW
 refine (specIsField_any _ _).mono ?_; rintro e w1 ⟨rfl, rfl⟩
 rw [H1.out]
 go_wp2_with fail
 refine (l1In_any _ _ _ _).mono ?_; rintro e w2 ⟨rfl, rfl⟩
 rw [H2.out]
 go_wp2_with fail
 refine (l1In_any _ _ _ _).mono ?_; rintro e wz ⟨rfl, rfl⟩
 rw [H3.out]
 go_wp2_with fail
 refine (l3Zero_any (N : Int) N wz (by omega) (by omega) (by omega) (by omega)).mono ?_; rintro e w1 ⟨v1, rfl, ⟨sA, rfl, oA, hr, hc⟩, hb1⟩
 rw [zmx_flat] at oA hr hc ⊢
 simp only [mxF] at oA hr hc ⊢
 rw [regK_0 k] at oA
 obtain ⟨A1, c1, e1⟩ := oA.form
 obtain ⟨L, hL⟩ : ∃ L, N * N = L := ⟨_, rfl⟩
 rw [flat_length, hL] at e1
 subst e1
 have HL := Lib.hid hL
 clear hL
 have s1 := hb1.size
 obtain ⟨W4, hW4⟩ : ∃ W4, W4 = w1.alloc (.cells #[.int .i64 N, .int .i64 N, .slice A1 L c1] 44) := ⟨_, rfl⟩
 have b4 : Below w1.heap.size w1 W4 := by rw [hW4]; exact below_alloc _ _
 have k4 : Blk W4 w1.heap.size 44 #[.int .i64 N, .int .i64 N, .slice A1 L c1] := by rw [hW4]; exact Blk.new _ _ _
 have oA := oA.below b4
 have gW := bthen hb1 b4
 clear b4 hb1
 go_wp2
 rw [← hW4]; clear hW4
 go_loopw [9] (fun i wr => ∃ j : Nat, j ≤ N ∧ i = .int .i64 j ∧ Blk wr w1.heap.size 44 #[.int .i64 N, .int .i64 N, .slice A1 L c1] ∧ IntsO wr wz.heap.size w1.heap.size (.slice A1 L c1) (flat N N (regK k j)) ∧ Below wz.heap.size wz wr) (fun i _ => N - (intOf i).toNat)
 case atStart => exact ⟨0, Nat.zero_le _, rfl, k4, oA, gW⟩
 case round =>
  clear k4 oA gW
  obtain ⟨j, hj, rfl, k4, oA, gW⟩ := hrel
  have s6 := gW.size
  by_cases hlt : j < N
  ·obtain ⟨P, J, hP, hPJ, hJ, hJN, hJb⟩ := ix_walk hlt hlt (show N ≤ 1000 by omega) (by omega)
   rw [HL.out] at hJN
   have hst := regH_of k hlt
   rw [← hJ] at hst
   subst hPJ
   have hPn := ix_next hlt (show N ≤ 1000 by omega) (show N ≤ 1000 by omega) hP
   rw [HL.out] at hPn
   obtain ⟨hPm, hP2, hPL, _⟩ := hPn
   obtain ⟨gA, cA, eA, a1, a2, a3⟩ := oA.at_ (by rw [flat_length, HL.out]; omega)
   rw [flat_length, HL.out] at eA
   injection eA with eA1 eA2 eA3
   subst eA1 eA3
   clear hPm hP2 hPL
   have r2 := k4.cell' (i := 2) rfl
   by_cases hl2 : j + 1 < N
   ·have hst2 := regK_of k hl2
    obtain ⟨P', J', hP', hPJ', hJ', hJN', hJb'⟩ := ix_walk hlt hl2 (show N ≤ 1000 by omega) (by omega)
    rw [HL.out] at hJN'
    rw [hP] at hP'
    have hPP : P = P' := by omega
    subst hPP
    rw [← hJ', ← hPJ'] at hst2
    have hJ3 : P + j + 1 < L := by omega
    have cB := (oA.1.cellG (j := P + j + 1) (by rw [flat_length, HL.out]; omega)).1
    have fB := oA.1.frozenG (P + j + 1)
    have fA := oA.1.frozenG (P + j)
    have cA := (oA.1.cellG (j := P + j) (by rw [flat_length, HL.out]; omega)).1
    have hc1 : Chg wz.heap.size w1.heap.size wr (wr.setCell ⟨gA, P + j, none⟩ (.int .i64 k)) := chg_set a1 (by omega)
    have o2 := oA.put (j := P + j) (x := k) hk
    rw [hst] at o2
    have k5 := k4.chg hc1 (by omega)
    have g5 := gW.trans (hc1.below (Nat.le_refl _) s6)
    clear k4 oA gW hc1
    have sg5 := g5.size
    have hc2 : Chg wz.heap.size w1.heap.size (wr.setCell ⟨gA, P + j, none⟩ (.int .i64 k)) ((wr.setCell ⟨gA, P + j, none⟩ (.int .i64 k)).setCell ⟨gA, P + j + 1, none⟩ (.int .i64 1)) := chg_set a1 (by omega)
    have o3 := o2.put (j := P + j + 1) (x := 1) (by simp [I64])
    rw [show P + j + 1 = P + (j + 1) by omega, hst2, show P + (j + 1) = P + j + 1 by omega] at o3
    have O3 := Lib.hid o3
    have K6 := Lib.hid (k5.chg hc2 (by omega))
    have G6 := Lib.hid (g5.trans (hc2.below (Nat.le_refl _) sg5))
    have q2 := k5.cell' (i := 2) rfl
    clear hst2 hP' hPJ' hJ' hJ hst k5 o2 o3 g5 hc2
    go_wp2
    go_roundw
    case rel => exact ⟨j + 1, by omega, by go_num, K6.out, O3.out, G6.out⟩
    case measure => simp [intOf]; omega
   ·have fA := oA.1.frozenG (P + j)
    have cA := (oA.1.cellG (j := P + j) (by rw [flat_length, HL.out]; omega)).1
    have hc1 : Chg wz.heap.size w1.heap.size wr (wr.setCell ⟨gA, P + j, none⟩ (.int .i64 k)) := chg_set a1 (by omega)
    have o2 := oA.put (j := P + j) (x := k) hk
    rw [hst] at o2
    have k5 := k4.chg hc1 (by omega)
    have g5 := gW.trans (hc1.below (Nat.le_refl _) s6)
    clear k4 oA gW hc1
    rw [regK_last k (by omega)] at o2
    have O3 := Lib.hid o2
    have K6 := Lib.hid k5
    have G6 := Lib.hid g5
    clear hJ hst k5 o2 g5
    go_wp2
    go_roundw
    case rel => exact ⟨j + 1, by omega, by go_num, K6.out, O3.out, G6.out⟩
    case measure => simp [intOf]; omega
  ·obtain rfl : j = N := by omega
   rw [regK_n] at oA
   have HM := Lib.hid (show MxR wr wr.heap.size (.agg #[.int .i64 j, .int .i64 j, .slice A1 L c1]) (mxF j j (regF k)) from ⟨_, rfl, oA.rd, hr, hc⟩)
   have GF := Lib.hid (G0.out.trans (gW.mono (G0.out).size))
   obtain ⟨R, hR⟩ : ∃ R, R = penOf p (mxF j j idF) (mxF j j (regF k)) := ⟨_, rfl⟩
   have HR := Lib.hid hR
   have HKR := Lib.hid (KR.out.below gW (by have := SZ.out; omega))
   have HRF := Lib.hid (show regP p j k = R from by rw [HF.out, hR]; rfl)
   clear oA hR gW
   go_wp2_with fail
   refine wp_region_net2 (by kernel_rfl) [.eq (.int .i64 p), .eq (.int .i64 j), rel 2 (fun u lo hi w => MxO w lo hi u (mxF j j idF)), .eq (.agg #[.int .i64 j, .int .i64 j, .slice A1 L c1]), .rel (fun x w => ∃ A a C c E e H h, x.v 4 = .tuple #[.agg #[.int .i64 R.1.p, .int .i64 R.1.q.v, .slice A R.1.q.f.length a, .slice C R.1.q.t.length c, .slice E R.1.d.length e, .slice H R.1.m.length h], .bool R.2] ∧ RepO w (x.lo 4) (x.hi 4) (.agg #[.int .i64 R.1.p, .int .i64 R.1.q.v, .slice A R.1.q.f.length a, .slice C R.1.q.t.length c, .slice E R.1.d.length e, .slice H R.1.m.length h]) R.1), .rel (fun x w => ∃ A a C c E e H h, x.v 5 = .tuple #[.agg #[.int .i64 R.1.p, .int .i64 R.1.q.v, .slice A R.1.q.f.length a, .slice C R.1.q.t.length c, .slice E R.1.d.length e, .slice H R.1.m.length h], .bool R.2] ∧ RepO w (x.lo 4) (x.hi 4) (.agg #[.int .i64 R.1.p, .int .i64 R.1.q.v, .slice A R.1.q.f.length a, .slice C R.1.q.t.length c, .slice E R.1.d.length e, .slice H R.1.m.length h]) R.1), .rel (fun x w => ∃ A a C c E e H h, x.v 6 = .agg #[.int .i64 R.1.p, .int .i64 R.1.q.v, .slice A R.1.q.f.length a, .slice C R.1.q.t.length c, .slice E R.1.d.length e, .slice H R.1.m.length h] ∧ RepO w (x.lo 4) (x.hi 4) (.agg #[.int .i64 R.1.p, .int .i64 R.1.q.v, .slice A R.1.q.f.length a, .slice C R.1.q.t.length c, .slice E R.1.d.length e, .slice H R.1.m.length h]) R.1), .eq (.bool R.2), rel 8 (fun u lo hi w => ∃ g, u = .pointer (some ⟨g, 0, none⟩) ∧ (lo ≤ g ∧ g < hi) ∧ Blk w g 31 #[.int .i64 0, .int .i64 0, .slice none 0 0, .slice none 0 0, .slice none 0 0, .slice none 0 0])] [[], [], [1], [], [0, 1, 2, 3], [0, 1, 2, 3, 4], [0, 1, 2, 3, 4, 5], [0, 1, 2, 3, 4, 5], [], [0, 1, 2, 3, 4, 5, 6, 8], [0, 1, 2, 3, 4, 5, 6, 7, 8, 9]] 9 7 [0, 1, 2, 3, 4, 5, 6, 8] (by kernel_rfl) rfl ⟨trivial, trivial, rel_stable (fun u lo hi w w' h hb => h.below hb), trivial, fun x w w' ⟨A, a, C, c, E, e, H, h, e1, h1⟩ hb => ⟨A, a, C, c, E, e, H, h, e1, h1.below hb⟩, fun x w w' ⟨A, a, C, c, E, e, H, h, e1, h1⟩ hb => ⟨A, a, C, c, E, e, H, h, e1, h1.below hb⟩, fun x w w' ⟨A, a, C, c, E, e, H, h, e1, h1⟩ hb => ⟨A, a, C, c, E, e, H, h, e1, h1.below hb⟩, trivial, rel_stable (fun u lo hi w w' ⟨g, e, h1, h⟩ hb => ⟨g, e, h1, h.call hb⟩), trivial⟩ ⟨?_, ?_, ?_, ?_, ?_, ?_, ?_, ?_, ?_, trivial⟩ ?_ ?_
   ·intro x w hb hk Q' hQ
    clear hk
    simp only [netE] at hQ ⊢
    go_wp2
    exact hQ _ _ (Below.refl _ _) rfl
   ·intro x w hb hk Q' hQ
    clear hk
    simp only [netE] at hQ ⊢
    go_wp2
    exact hQ _ _ (Below.refl _ _) rfl
   ·intro x w hb hk Q' hQ
    have h1 : x.v 1 = _ := (hk 1 (by decide)).1
    clear hk
    simp only [netE] at hQ ⊢
    simp only [h1] at hQ ⊢
    clear h1
    go_wp2_with fail
    refine (l3Identity_any j _ (by omega)).mono ?_; rintro e w5 ⟨v5, rfl, hO5, hb5⟩
    go_wp2
    exact hQ _ _ hb5 hO5
   ·intro x w hb hk Q' hQ
    clear hk
    simp only [netE] at hQ ⊢
    have z0 := (k4.call hb).cell' (i := 0) rfl
    have z1 := (k4.call hb).cell' (i := 1) rfl
    have z2 := (k4.call hb).cell' (i := 2) rfl
    go_wp2
    exact hQ _ _ (Below.refl _ _) rfl
   ·intro x w hb hk Q' hQ
    have h0 : x.v 0 = _ := (hk 0 (by decide)).1
    have h1 : x.v 1 = _ := (hk 1 (by decide)).1
    have h2 : MxO w (x.lo 2) (x.hi 2) (x.v 2) (mxF j j idF) := (hk 2 (by decide)).1
    have h3 : x.v 3 = _ := (hk 3 (by decide)).1
    have s2 := (hk 2 (by decide)).2
    clear hk
    simp only [netE] at hQ ⊢
    simp only [h0, h1, h3] at hQ ⊢
    clear h0 h1 h3
    obtain ⟨A2, c2, e2⟩ := h2.form
    simp only [mxF] at e2
    rw [e2] at h2 hQ ⊢
    rw [HR.out] at hQ
    go_wp2_with fail
    refine (specPencilOf_any p _ _ _ (mxF j j (regF k)) _ hp h2.rd (MxR.more hb.size (MxR.below hb HM.out))).mono ?_; rintro e w5 ⟨v5, rfl, hO5, hb5⟩
    have HO5 := Lib.hid hO5
    obtain ⟨A, a, C, c, E, e, H, h, e5⟩ := hO5.form
    subst e5
    clear hO5
    go_wp2
    exact hQ _ _ hb5 ⟨A, a, C, c, E, e, H, h, rfl, HO5.out⟩
   ·intro x w hb hk Q' hQ
    have h0 : x.v 0 = _ := (hk 0 (by decide)).1
    have h1 : x.v 1 = _ := (hk 1 (by decide)).1
    have h2 : MxO w (x.lo 2) (x.hi 2) (x.v 2) (mxF j j idF) := (hk 2 (by decide)).1
    have h3 : x.v 3 = _ := (hk 3 (by decide)).1
    have h4 : ∃ A a C c E e H h, x.v 4 = .tuple #[.agg #[.int .i64 R.1.p, .int .i64 R.1.q.v, .slice A R.1.q.f.length a, .slice C R.1.q.t.length c, .slice E R.1.d.length e, .slice H R.1.m.length h], .bool R.2] ∧ RepO w (x.lo 4) (x.hi 4) (.agg #[.int .i64 R.1.p, .int .i64 R.1.q.v, .slice A R.1.q.f.length a, .slice C R.1.q.t.length c, .slice E R.1.d.length e, .slice H R.1.m.length h]) R.1 := (hk 4 (by decide)).1
    have s2 := (hk 2 (by decide)).2
    have s4 := (hk 4 (by decide)).2
    clear hk
    simp only [netE] at hQ ⊢
    simp only [h0, h1, h3] at hQ ⊢
    clear h0 h1 h3
    obtain ⟨A, a, C, c, E, e, H, h, e4, ho⟩ := h4
    have hQ' := hQ (.tuple #[.agg #[.int .i64 R.1.p, .int .i64 R.1.q.v, .slice A R.1.q.f.length a, .slice C R.1.q.t.length c, .slice E R.1.d.length e, .slice H R.1.m.length h], .bool R.2]) w (Below.refl _ _) ⟨A, a, C, c, E, e, H, h, rfl, ho⟩
    rw [e4] at hQ' ⊢
    go_wp2
    exact hQ'
   ·intro x w hb hk Q' hQ
    have h0 : x.v 0 = _ := (hk 0 (by decide)).1
    have h1 : x.v 1 = _ := (hk 1 (by decide)).1
    have h2 : MxO w (x.lo 2) (x.hi 2) (x.v 2) (mxF j j idF) := (hk 2 (by decide)).1
    have h3 : x.v 3 = _ := (hk 3 (by decide)).1
    have h4 : ∃ A a C c E e H h, x.v 4 = .tuple #[.agg #[.int .i64 R.1.p, .int .i64 R.1.q.v, .slice A R.1.q.f.length a, .slice C R.1.q.t.length c, .slice E R.1.d.length e, .slice H R.1.m.length h], .bool R.2] ∧ RepO w (x.lo 4) (x.hi 4) (.agg #[.int .i64 R.1.p, .int .i64 R.1.q.v, .slice A R.1.q.f.length a, .slice C R.1.q.t.length c, .slice E R.1.d.length e, .slice H R.1.m.length h]) R.1 := (hk 4 (by decide)).1
    have h5 : ∃ A a C c E e H h, x.v 5 = .tuple #[.agg #[.int .i64 R.1.p, .int .i64 R.1.q.v, .slice A R.1.q.f.length a, .slice C R.1.q.t.length c, .slice E R.1.d.length e, .slice H R.1.m.length h], .bool R.2] ∧ RepO w (x.lo 4) (x.hi 4) (.agg #[.int .i64 R.1.p, .int .i64 R.1.q.v, .slice A R.1.q.f.length a, .slice C R.1.q.t.length c, .slice E R.1.d.length e, .slice H R.1.m.length h]) R.1 := (hk 5 (by decide)).1
    have s2 := (hk 2 (by decide)).2
    have s4 := (hk 4 (by decide)).2
    have s5 := (hk 5 (by decide)).2
    clear hk
    simp only [netE] at hQ ⊢
    simp only [h0, h1, h3] at hQ ⊢
    clear h0 h1 h3
    obtain ⟨A, a, C, c, E, e, H, h, e4, ho⟩ := h5
    have hQ' := hQ (.agg #[.int .i64 R.1.p, .int .i64 R.1.q.v, .slice A R.1.q.f.length a, .slice C R.1.q.t.length c, .slice E R.1.d.length e, .slice H R.1.m.length h]) w (Below.refl _ _) ⟨A, a, C, c, E, e, H, h, rfl, ho⟩
    rw [e4] at hQ' ⊢
    go_wp2
    exact hQ'
   ·intro x w hb hk Q' hQ
    have h5 : ∃ A a C c E e H h, x.v 5 = .tuple #[.agg #[.int .i64 R.1.p, .int .i64 R.1.q.v, .slice A R.1.q.f.length a, .slice C R.1.q.t.length c, .slice E R.1.d.length e, .slice H R.1.m.length h], .bool R.2] ∧ RepO w (x.lo 4) (x.hi 4) (.agg #[.int .i64 R.1.p, .int .i64 R.1.q.v, .slice A R.1.q.f.length a, .slice C R.1.q.t.length c, .slice E R.1.d.length e, .slice H R.1.m.length h]) R.1 := (hk 5 (by decide)).1
    clear hk
    simp only [netE] at hQ ⊢
    obtain ⟨A, a, C, c, E, e, H, h, e4, ho⟩ := h5
    rw [e4] at hQ ⊢
    go_wp2
    exact hQ _ _ (Below.refl _ _) rfl
   ·intro x w hb hk Q' hQ
    clear hk
    simp only [netE] at hQ ⊢
    go_wp2
    exact hQ _ _ (below_alloc _ _) ⟨_, rfl, ⟨Nat.le_refl _, by show w.heap.size < (w.alloc _).heap.size; simp⟩, Blk.new _ _ _⟩
   ·intro x w hb hk hiv hdj
    have h0 : x.v 0 = .int .i64 p := hk 0 (by decide)
    have h1 : x.v 1 = .int .i64 j := hk 1 (by decide)
    have h2 : MxO w (x.lo 2) (x.hi 2) (x.v 2) (mxF j j idF) := hk 2 (by decide)
    have h3 : x.v 3 = .agg #[.int .i64 j, .int .i64 j, .slice A1 L c1] := hk 3 (by decide)
    have h4 : ∃ A a C c E e H h, x.v 4 = .tuple #[.agg #[.int .i64 R.1.p, .int .i64 R.1.q.v, .slice A R.1.q.f.length a, .slice C R.1.q.t.length c, .slice E R.1.d.length e, .slice H R.1.m.length h], .bool R.2] ∧ RepO w (x.lo 4) (x.hi 4) (.agg #[.int .i64 R.1.p, .int .i64 R.1.q.v, .slice A R.1.q.f.length a, .slice C R.1.q.t.length c, .slice E R.1.d.length e, .slice H R.1.m.length h]) R.1 := hk 4 (by decide)
    have h5 : ∃ A a C c E e H h, x.v 5 = .tuple #[.agg #[.int .i64 R.1.p, .int .i64 R.1.q.v, .slice A R.1.q.f.length a, .slice C R.1.q.t.length c, .slice E R.1.d.length e, .slice H R.1.m.length h], .bool R.2] ∧ RepO w (x.lo 4) (x.hi 4) (.agg #[.int .i64 R.1.p, .int .i64 R.1.q.v, .slice A R.1.q.f.length a, .slice C R.1.q.t.length c, .slice E R.1.d.length e, .slice H R.1.m.length h]) R.1 := hk 5 (by decide)
    have h6 : ∃ A a C c E e H h, x.v 6 = .agg #[.int .i64 R.1.p, .int .i64 R.1.q.v, .slice A R.1.q.f.length a, .slice C R.1.q.t.length c, .slice E R.1.d.length e, .slice H R.1.m.length h] ∧ RepO w (x.lo 4) (x.hi 4) (.agg #[.int .i64 R.1.p, .int .i64 R.1.q.v, .slice A R.1.q.f.length a, .slice C R.1.q.t.length c, .slice E R.1.d.length e, .slice H R.1.m.length h]) R.1 := hk 6 (by decide)
    have h7 : x.v 7 = .bool R.2 := hk 7 (by decide)
    have h8 : ∃ g, (x.v 8) = .pointer (some ⟨g, 0, none⟩) ∧ ((x.lo 8) ≤ g ∧ g < (x.hi 8)) ∧ Blk w g 31 #[.int .i64 0, .int .i64 0, .slice none 0 0, .slice none 0 0, .slice none 0 0, .slice none 0 0] := hk 8 (by decide)
    clear hk
    simp only [netE]
    simp only [List.drop_succ_cons, List.drop_zero, h0, h1, h3, h7]
    clear h0 h1 h3 h7
    obtain ⟨A, a, C, c, E, e, H, h, e6, ho⟩ := h6
    obtain ⟨gR, e8, hg, kG⟩ := h8
    obtain ⟨An, an, Cn, cn, En, en, Hn, hn', e5, _⟩ := h5
    obtain ⟨l4, _, l4h⟩ := hiv 4 (by decide)
    obtain ⟨l8, _, l8h⟩ := hiv 8 (by decide)
    have d48 := hdj 4 8 (by decide) (by decide) (by decide)
    rw [e6, e8, e5]
    clear hiv hdj e6 e8 e5 h4 h2
    have sz := SZ.out
    have hkR := HKR.out.call hb
    have gX := (GF.out).trans (hb.mono (GF.out).size)
    have gXs := gX.size
    have hbs := hb.size
    have gfs := (GF.out).size
    have frG := kG.frozen
    have r0 := kG.cell' (i := 0) rfl
    have r1 := kG.cell' (i := 1) rfl
    have r2 := kG.cell' (i := 2) rfl
    have r3 := kG.cell' (i := 3) rfl
    have r4 := kG.cell' (i := 4) rfl
    have r5 := kG.cell' (i := 5) rfl
    obtain ⟨W3, e3⟩ : ∃ u, u = ((((((w.setCell ⟨gR, 0, none⟩ (.int .i64 R.1.p)).setCell ⟨gR, 1, none⟩ (.int .i64 R.1.q.v)).setCell ⟨gR, 2, none⟩ (.slice A R.1.q.f.length a)).setCell ⟨gR, 3, none⟩ (.slice C R.1.q.t.length c)).setCell ⟨gR, 4, none⟩ (.slice E R.1.d.length e)).setCell ⟨gR, 5, none⟩ (.slice H R.1.m.length h)) := ⟨_, rfl⟩
    have kB : Blk W3 gR 31 #[.int .i64 R.1.p, .int .i64 R.1.q.v, .slice A R.1.q.f.length a, .slice C R.1.q.t.length c, .slice E R.1.d.length e, .slice H R.1.m.length h] := by rw [e3]; exact ((((((kG.set_ 0 _).set_ 1 _).set_ 2 _).set_ 3 _).set_ 4 _).set_ 5 _)
    have hc : Chg gR (gR + 1) w W3 := by rw [e3]; exact chg6 _ _ _ _ _ _ _ _
    have hO3 := ho.chg hc (by omega)
    have hkR3 := hkR.chg hc (by omega)
    have g3 := gX.trans (hc.below (by omega) (by omega))
    have s3 := hc.size
    have fr3 := hkR3.frozen
    have p0 := kB.cell' (i := 0) rfl
    have p1 := kB.cell' (i := 1) rfl
    have p2 := kB.cell' (i := 2) rfl
    have p3 := kB.cell' (i := 3) rfl
    have p4 := kB.cell' (i := 4) rfl
    have p5 := kB.cell' (i := 5) rfl
    have q0 := hkR3.cell' (i := 0) rfl
    have q1 := hkR3.cell' (i := 1) rfl
    have q2 := hkR3.cell' (i := 2) rfl
    have q3 := hkR3.cell' (i := 3) rfl
    have q4 := hkR3.cell' (i := 4) rfl
    have q5 := hkR3.cell' (i := 5) rfl
    rw [e3] at fr3 p0 p1 p2 p3 p4 p5 q0 q1 q2 q3 q4 q5
    have hc6 := chg6 W3 w0.heap.size (.int .i64 R.1.p) (.int .i64 R.1.q.v) (.slice A R.1.q.f.length a) (.slice C R.1.q.t.length c) (.slice E R.1.d.length e) (.slice H R.1.m.length h)
    have OF := Lib.hid (RepO.wider (hO3.chg hc6 (.inr (by omega))) (lo' := w0.heap.size) (by omega) (hi' := W3.heap.size) (by omega))
    have GF2 := Lib.hid (g3.trans (hc6.below (Nat.le_refl _) g3.size))
    clear hO3 hc hc6 g3 kB hkR hkR3 kG gX ho k4 hb sz gXs hbs gfs s3 hg l4 l4h l8 l8h d48
    go_wp2
    rw [← e3]
    rw [← e3] at p0 p1 p2 p3 p4 p5 q0 q1 q2 q3 q4 q5
    exact bodyPost_ret (v := .tuple #[.agg #[.int .i64 R.1.p, .int .i64 R.1.q.v, .slice A R.1.q.f.length a, .slice C R.1.q.t.length c, .slice E R.1.d.length e, .slice H R.1.m.length h], .bool R.2]) (by simp [results, go_sem, q0, q1, q2, q3, q4, q5]) rfl ⟨_, by rw [HRF.out], by rw [HRF.out]; exact RepO.wider OF.out (Nat.le_refl _) (by simp), GF2.out⟩
   ·intro x w hb hk hiv hdj om os hom hos
    simp only [List.getElem?_cons_zero, List.getElem?_cons_succ, Option.some.injEq] at hom hos
    subst hom hos
    have h0 : x.v 0 = .int .i64 p := hk 0 (by decide)
    have h1 : x.v 1 = .int .i64 j := hk 1 (by decide)
    have h2 : MxO w (x.lo 2) (x.hi 2) (x.v 2) (mxF j j idF) := hk 2 (by decide)
    have h3 : x.v 3 = .agg #[.int .i64 j, .int .i64 j, .slice A1 L c1] := hk 3 (by decide)
    have h4 : ∃ A a C c E e H h, x.v 4 = .tuple #[.agg #[.int .i64 R.1.p, .int .i64 R.1.q.v, .slice A R.1.q.f.length a, .slice C R.1.q.t.length c, .slice E R.1.d.length e, .slice H R.1.m.length h], .bool R.2] ∧ RepO w (x.lo 4) (x.hi 4) (.agg #[.int .i64 R.1.p, .int .i64 R.1.q.v, .slice A R.1.q.f.length a, .slice C R.1.q.t.length c, .slice E R.1.d.length e, .slice H R.1.m.length h]) R.1 := hk 4 (by decide)
    have h5 : ∃ A a C c E e H h, x.v 5 = .tuple #[.agg #[.int .i64 R.1.p, .int .i64 R.1.q.v, .slice A R.1.q.f.length a, .slice C R.1.q.t.length c, .slice E R.1.d.length e, .slice H R.1.m.length h], .bool R.2] ∧ RepO w (x.lo 4) (x.hi 4) (.agg #[.int .i64 R.1.p, .int .i64 R.1.q.v, .slice A R.1.q.f.length a, .slice C R.1.q.t.length c, .slice E R.1.d.length e, .slice H R.1.m.length h]) R.1 := hk 5 (by decide)
    have h6 : ∃ A a C c E e H h, x.v 6 = .agg #[.int .i64 R.1.p, .int .i64 R.1.q.v, .slice A R.1.q.f.length a, .slice C R.1.q.t.length c, .slice E R.1.d.length e, .slice H R.1.m.length h] ∧ RepO w (x.lo 4) (x.hi 4) (.agg #[.int .i64 R.1.p, .int .i64 R.1.q.v, .slice A R.1.q.f.length a, .slice C R.1.q.t.length c, .slice E R.1.d.length e, .slice H R.1.m.length h]) R.1 := hk 6 (by decide)
    have h8 : ∃ g, (x.v 8) = .pointer (some ⟨g, 0, none⟩) ∧ ((x.lo 8) ≤ g ∧ g < (x.hi 8)) ∧ Blk w g 31 #[.int .i64 0, .int .i64 0, .slice none 0 0, .slice none 0 0, .slice none 0 0, .slice none 0 0] := hk 8 (by decide)
    clear hk
    simp only [List.foldl_cons, List.foldl_nil, netE]
    simp only [List.drop_succ_cons, List.drop_zero, h0, h1, h3]
    clear h0 h1 h3
    obtain ⟨A, a, C, c, E, e, H, h, e6, ho⟩ := h6
    obtain ⟨gR, e8, hg, kG⟩ := h8
    obtain ⟨An, an, Cn, cn, En, en, Hn, hn', e5, _⟩ := h5
    obtain ⟨l4, _, l4h⟩ := hiv 4 (by decide)
    obtain ⟨l8, _, l8h⟩ := hiv 8 (by decide)
    have d48 := hdj 4 8 (by decide) (by decide) (by decide)
    rw [e6, e8, e5]
    clear hiv hdj e6 e8 e5 h4 h2
    have sz := SZ.out
    have hkR := HKR.out.call hb
    have gX := (GF.out).trans (hb.mono (GF.out).size)
    have gXs := gX.size
    have hbs := hb.size
    have gfs := (GF.out).size
    have frG := kG.frozen
    have r0 := kG.cell' (i := 0) rfl
    have r1 := kG.cell' (i := 1) rfl
    have r2 := kG.cell' (i := 2) rfl
    have r3 := kG.cell' (i := 3) rfl
    have r4 := kG.cell' (i := 4) rfl
    have r5 := kG.cell' (i := 5) rfl
    obtain ⟨W3, e3⟩ : ∃ u, u = ((((((w.setCell ⟨gR, 0, none⟩ (.int .i64 R.1.p)).setCell ⟨gR, 1, none⟩ (.int .i64 R.1.q.v)).setCell ⟨gR, 2, none⟩ (.slice A R.1.q.f.length a)).setCell ⟨gR, 3, none⟩ (.slice C R.1.q.t.length c)).setCell ⟨gR, 4, none⟩ (.slice E R.1.d.length e)).setCell ⟨gR, 5, none⟩ (.slice H R.1.m.length h)) := ⟨_, rfl⟩
    have kB : Blk W3 gR 31 #[.int .i64 R.1.p, .int .i64 R.1.q.v, .slice A R.1.q.f.length a, .slice C R.1.q.t.length c, .slice E R.1.d.length e, .slice H R.1.m.length h] := by rw [e3]; exact ((((((kG.set_ 0 _).set_ 1 _).set_ 2 _).set_ 3 _).set_ 4 _).set_ 5 _)
    have hc : Chg gR (gR + 1) w W3 := by rw [e3]; exact chg6 _ _ _ _ _ _ _ _
    have hO3 := ho.chg hc (by omega)
    have hkR3 := hkR.chg hc (by omega)
    have g3 := gX.trans (hc.below (by omega) (by omega))
    have s3 := hc.size
    have fr3 := hkR3.frozen
    have p0 := kB.cell' (i := 0) rfl
    have p1 := kB.cell' (i := 1) rfl
    have p2 := kB.cell' (i := 2) rfl
    have p3 := kB.cell' (i := 3) rfl
    have p4 := kB.cell' (i := 4) rfl
    have p5 := kB.cell' (i := 5) rfl
    have q0 := hkR3.cell' (i := 0) rfl
    have q1 := hkR3.cell' (i := 1) rfl
    have q2 := hkR3.cell' (i := 2) rfl
    have q3 := hkR3.cell' (i := 3) rfl
    have q4 := hkR3.cell' (i := 4) rfl
    have q5 := hkR3.cell' (i := 5) rfl
    rw [e3] at fr3 p0 p1 p2 p3 p4 p5 q0 q1 q2 q3 q4 q5
    have hc6 := chg6 W3 w0.heap.size (.int .i64 R.1.p) (.int .i64 R.1.q.v) (.slice A R.1.q.f.length a) (.slice C R.1.q.t.length c) (.slice E R.1.d.length e) (.slice H R.1.m.length h)
    have OF := Lib.hid (RepO.wider (hO3.chg hc6 (.inr (by omega))) (lo' := w0.heap.size) (by omega) (hi' := W3.heap.size) (by omega))
    have GF2 := Lib.hid (g3.trans (hc6.below (Nat.le_refl _) g3.size))
    clear hO3 hc hc6 g3 kB hkR hkR3 kG gX ho k4 hb sz gXs hbs gfs s3 hg l4 l4h l8 l8h d48
    go_wp2
    rw [← e3]
    rw [← e3] at p0 p1 p2 p3 p4 p5 q0 q1 q2 q3 q4 q5
    exact bodyPost_ret (v := .tuple #[.agg #[.int .i64 R.1.p, .int .i64 R.1.q.v, .slice A R.1.q.f.length a, .slice C R.1.q.t.length c, .slice E R.1.d.length e, .slice H R.1.m.length h], .bool R.2]) (by simp [results, go_sem, q0, q1, q2, q3, q4, q5]) rfl ⟨_, by rw [HRF.out], by rw [HRF.out]; exact RepO.wider OF.out (Nat.le_refl _) (by simp), GF2.out⟩
set_option maxHeartbeats 6400000 in
set_option maxRecDepth 100000 in
theorem implReg_yes (p n k : Int) (w0 : World) (hp : I64 p) (hn : I64 n) (hk : I64 k) (hyes : regOk p n k = true) :
  Calls Tryz.prog 15 #[.int .i64 p, .int .i64 n, .int .i64 k] w0 fun e w' => ∃ r, e = .returned (.tuple #[r, .bool (regP p n k).2]) ∧ RepO w' w0.heap.size w'.heap.size r (regP p n k).1 ∧ Below w0.heap.size w0 w' := by
 obtain ⟨W, hW⟩ : ∃ W, W = w0.alloc (.cells #[.int .i64 0, .int .i64 0, .slice none 0 0, .slice none 0 0, .slice none 0 0, .slice none 0 0] 31) := ⟨_, rfl⟩
 have g0 : Below w0.heap.size w0 W := by rw [hW]; exact below_alloc _ _
 have kR : Blk W w0.heap.size 31 #[.int .i64 0, .int .i64 0, .slice none 0 0, .slice none 0 0, .slice none 0 0, .slice none 0 0] := by rw [hW]; exact Blk.new _ _ _
 have sz : W.heap.size = w0.heap.size + 1 := by rw [hW]; simp
 have SZ := Lib.hid sz
 have KR := Lib.hid kR
 have G0 := Lib.hid g0
 have HF := Lib.hid (regP_yes hyes)
 unfold regOk at hyes
 simp only [Bool.and_eq_true] at hyes
 obtain ⟨h1, h2, h3⟩ := hyes
 have b1 := isFld_r h1
 obtain ⟨n1, n2⟩ := inR_t.1 h2
 obtain ⟨N, rfl⟩ := Int.eq_ofNat_of_zero_le (show 0 ≤ n by omega)
 have H1 := Lib.hid h1
 have H2 := Lib.hid h2
 have H3 := Lib.hid h3
 clear h1 h2 h3 sz kR g0
 go_enter Tryz.func15, Tryz.ntmps15
 go_wp2_with fail
 rw [← hW]; clear hW
 refine (implIsField_any _ _).mono ?_; rintro e w1 ⟨rfl, rfl⟩
 rw [H1.out]
 go_wp2_with fail
 refine (within_any _ _ _ _).mono ?_; rintro e w2 ⟨rfl, rfl⟩
 rw [H2.out]
 go_wp2_with fail
 refine (within_any _ _ _ _).mono ?_; rintro e wz ⟨rfl, rfl⟩
 rw [H3.out]
 go_wp2_with fail
 refine (zero_any (N : Int) N wz (by omega) (by omega) (by omega) (by omega)).mono ?_; rintro e w1 ⟨v1, rfl, ⟨sA, rfl, oA, hr, hc⟩, hb1⟩
 rw [zmx_flat] at oA hr hc ⊢
 simp only [mxF] at oA hr hc ⊢
 rw [regK_0 k] at oA
 obtain ⟨A1, c1, e1⟩ := oA.form
 obtain ⟨L, hL⟩ : ∃ L, N * N = L := ⟨_, rfl⟩
 rw [flat_length, hL] at e1
 subst e1
 have HL := Lib.hid hL
 clear hL
 have s1 := hb1.size
 obtain ⟨W4, hW4⟩ : ∃ W4, W4 = w1.alloc (.cells #[.int .i64 N, .int .i64 N, .slice A1 L c1] 44) := ⟨_, rfl⟩
 have b4 : Below w1.heap.size w1 W4 := by rw [hW4]; exact below_alloc _ _
 have k4 : Blk W4 w1.heap.size 44 #[.int .i64 N, .int .i64 N, .slice A1 L c1] := by rw [hW4]; exact Blk.new _ _ _
 have oA := oA.below b4
 have gW := bthen hb1 b4
 clear b4 hb1
 go_wp2
 rw [← hW4]; clear hW4
 go_loopw [9, 30] (fun q i wr => ∃ j : Nat, j ≤ N ∧ i = .int .i64 j ∧ Blk wr w1.heap.size 44 #[.int .i64 N, .int .i64 N, .slice A1 L c1] ∧ IntsO wr wz.heap.size w1.heap.size (.slice A1 L c1) (flat N N (regK k j)) ∧ Below wz.heap.size wz wr) (fun _ i _ => N - (intOf i).toNat)
 case atStart => exact ⟨0, Nat.zero_le _, rfl, k4, oA, gW⟩
 case round =>
  clear k4 oA gW
  obtain ⟨j, hj, rfl, k4, oA, gW⟩ := hrel
  have s6 := gW.size
  by_cases hlt : j < N
  ·obtain ⟨P, J, hP, hPJ, hJ, hJN, hJb⟩ := ix_walk hlt hlt (show N ≤ 1000 by omega) (by omega)
   rw [HL.out] at hJN
   have hst := regH_of k hlt
   rw [← hJ] at hst
   subst hPJ
   have hPn := ix_next hlt (show N ≤ 1000 by omega) (show N ≤ 1000 by omega) hP
   rw [HL.out] at hPn
   obtain ⟨hPm, hP2, hPL, _⟩ := hPn
   obtain ⟨gA, cA, eA, a1, a2, a3⟩ := oA.at_ (by rw [flat_length, HL.out]; omega)
   rw [flat_length, HL.out] at eA
   injection eA with eA1 eA2 eA3
   subst eA1 eA3
   obtain ⟨_, cL, eL, lA1, lA2⟩ := oA.1.form
   injection eL with eLx eLy eL3
   rw [← eL3, flat_length, HL.out] at lA1
   rw [← eL3] at lA2
   clear eLx eLy eL3 hPm
   have r0 := k4.cell' (i := 0) rfl
   have r1 := k4.cell' (i := 1) rfl
   have r2 := k4.cell' (i := 2) rfl
   have HP := Lib.hid hP
   have HP2 := Lib.hid hP2
   have HST := Lib.hid hst
   clear hP hP2 hJ hst
   go_wp2_with fail
   refine (row_at _ N j P L _ gA _ HP.out HP2.out hPL lA1 lA2 (by omega) (by omega)).mono ?_; rintro e w7 ⟨rfl, hb7⟩
   have k4 := k4.call hb7
   have oA := oA.below hb7
   have gW := bthen gW hb7
   have s6 := gW.size
   have s7 := hb7.size
   clear r0 r1 r2 hb7
   have hst := HST.out
   by_cases hl2 : j + 1 < N
   ·have hst2 := regK_of k hl2
    obtain ⟨P', J', hP', hPJ', hJ', hJN', hJb'⟩ := ix_walk hlt hl2 (show N ≤ 1000 by omega) (by omega)
    rw [HL.out] at hJN'
    rw [HP.out] at hP'
    have hPP : P = P' := by omega
    subst hPP
    rw [← hJ', ← hPJ'] at hst2
    have hJ3 : P + j + 1 < L := by omega
    clear hP' hPJ' hJ'
    have fA := oA.1.frozenG (P + j)
    have cA := (oA.1.cellG (j := P + j) (by rw [flat_length, HL.out]; omega)).1
    have hc1 : Chg wz.heap.size w1.heap.size w7 (w7.setCell ⟨gA, P + j, none⟩ (.int .i64 k)) := chg_set a1 (by omega)
    have o2 := oA.put (j := P + j) (x := k) hk
    rw [hst] at o2
    have k5 := k4.chg hc1 (by omega)
    have g5 := gW.trans (hc1.below (Nat.le_refl _) s6)
    clear k4 oA gW hc1
    have y0 := k5.cell' (i := 0) rfl
    have y1 := k5.cell' (i := 1) rfl
    have y2 := k5.cell' (i := 2) rfl
    have HST2 := Lib.hid hst2
    clear hst hst2
    obtain ⟨X1, hX1⟩ : ∃ u, u = w7.setCell ⟨gA, P + j, none⟩ (.int .i64 k) := ⟨_, rfl⟩
    rw [← hX1] at o2 k5 g5
    have sX1 : w7.heap.size ≤ X1.heap.size := by rw [hX1]; simp
    go_wp2_with fail
    rw [← hX1]
    clear hX1 fA cA y0 y1 y2
    refine (row_at _ N j P L _ gA _ HP.out HP2.out hPL lA1 lA2 (by omega) (by omega)).mono ?_; rintro e w8 ⟨rfl, hb8⟩
    have k4 := k5.call hb8
    have oA := o2.below hb8
    have gW := bthen g5 hb8
    have s8 := hb8.size
    have cB := (oA.1.cellG (j := P + (j + 1)) (by rw [flat_length, HL.out]; omega)).1
    have fB := oA.1.frozenG (P + (j + 1))
    have hc2 : Chg wz.heap.size w1.heap.size w8 (w8.setCell ⟨gA, P + (j + 1), none⟩ (.int .i64 1)) := chg_set a1 (by omega)
    have o3 := oA.put (j := P + (j + 1)) (x := 1) (by simp [I64])
    rw [HST2.out] at o3
    have O3 := Lib.hid o3
    have K6 := Lib.hid (k4.chg hc2 (by omega))
    have G6 := Lib.hid (gW.trans (hc2.below (Nat.le_refl _) (by omega)))
    clear k5 o2 o3 g5 hc2 k4 oA gW hb8
    go_wp2
    go_roundw
    case rel => exact ⟨j + 1, by omega, by go_num, K6.out, O3.out, G6.out⟩
    case measure => simp [intOf]; omega
   ·have fA := oA.1.frozenG (P + j)
    have cA := (oA.1.cellG (j := P + j) (by rw [flat_length, HL.out]; omega)).1
    have hc1 : Chg wz.heap.size w1.heap.size w7 (w7.setCell ⟨gA, P + j, none⟩ (.int .i64 k)) := chg_set a1 (by omega)
    have o2 := oA.put (j := P + j) (x := k) hk
    rw [hst] at o2
    have k5 := k4.chg hc1 (by omega)
    have g5 := gW.trans (hc1.below (Nat.le_refl _) s6)
    clear k4 oA gW hc1
    rw [regK_last k (by omega)] at o2
    have O3 := Lib.hid o2
    have K6 := Lib.hid k5
    have G6 := Lib.hid g5
    clear hst k5 o2 g5
    go_wp2
    go_roundw
    case rel => exact ⟨j + 1, by omega, by go_num, K6.out, O3.out, G6.out⟩
    case measure => simp [intOf]; omega
  ·obtain rfl : j = N := by omega
   rw [regK_n] at oA
   have HM := Lib.hid (show MxR wr wr.heap.size (.agg #[.int .i64 j, .int .i64 j, .slice A1 L c1]) (mxF j j (regF k)) from ⟨_, rfl, oA.rd, hr, hc⟩)
   have GF := Lib.hid (G0.out.trans (gW.mono (G0.out).size))
   obtain ⟨R, hR⟩ : ∃ R, R = penOf p (mxF j j idF) (mxF j j (regF k)) := ⟨_, rfl⟩
   have HR := Lib.hid hR
   have HKR := Lib.hid (KR.out.below gW (by have := SZ.out; omega))
   have HRF := Lib.hid (show regP p j k = R from by rw [HF.out, hR]; rfl)
   clear oA hR gW
   go_wp2_with fail
   refine wp_region_net (by kernel_rfl) [.eq (.int .i64 p), .eq (.int .i64 j), rel 2 (fun u lo hi w => MxO w lo hi u (mxF j j idF)), .eq (.agg #[.int .i64 j, .int .i64 j, .slice A1 L c1]), .rel (fun x w => ∃ A a C c E e H h, x.v 4 = .tuple #[.agg #[.int .i64 R.1.p, .int .i64 R.1.q.v, .slice A R.1.q.f.length a, .slice C R.1.q.t.length c, .slice E R.1.d.length e, .slice H R.1.m.length h], .bool R.2] ∧ RepO w (x.lo 4) (x.hi 4) (.agg #[.int .i64 R.1.p, .int .i64 R.1.q.v, .slice A R.1.q.f.length a, .slice C R.1.q.t.length c, .slice E R.1.d.length e, .slice H R.1.m.length h]) R.1), .rel (fun x w => ∃ A a C c E e H h, x.v 5 = .agg #[.int .i64 R.1.p, .int .i64 R.1.q.v, .slice A R.1.q.f.length a, .slice C R.1.q.t.length c, .slice E R.1.d.length e, .slice H R.1.m.length h] ∧ RepO w (x.lo 4) (x.hi 4) (.agg #[.int .i64 R.1.p, .int .i64 R.1.q.v, .slice A R.1.q.f.length a, .slice C R.1.q.t.length c, .slice E R.1.d.length e, .slice H R.1.m.length h]) R.1), .eq (.bool R.2)] [[], [], [1], [], [0, 1, 2, 3], [0, 1, 2, 3, 4], [0, 1, 2, 3, 4], [0, 1, 2, 3, 4, 5, 6], [0, 1, 2, 3, 4, 5, 6, 7]] 7 (by kernel_rfl) ⟨trivial, trivial, rel_stable (fun u lo hi w w' h hb => h.below hb), trivial, fun x w w' ⟨A, a, C, c, E, e, H, h, e1, h1⟩ hb => ⟨A, a, C, c, E, e, H, h, e1, h1.below hb⟩, fun x w w' ⟨A, a, C, c, E, e, H, h, e1, h1⟩ hb => ⟨A, a, C, c, E, e, H, h, e1, h1.below hb⟩, trivial, trivial⟩ ⟨?_, ?_, ?_, ?_, ?_, ?_, ?_, trivial⟩ ?_
   ·intro x w hb hk Q' hQ
    clear hk
    simp only [netE] at hQ ⊢
    go_wp2
    exact hQ _ _ (Below.refl _ _) rfl
   ·intro x w hb hk Q' hQ
    clear hk
    simp only [netE] at hQ ⊢
    go_wp2
    exact hQ _ _ (Below.refl _ _) rfl
   ·intro x w hb hk Q' hQ
    have h1 : x.v 1 = _ := (hk 1 (by decide)).1
    clear hk
    simp only [netE] at hQ ⊢
    simp only [h1] at hQ ⊢
    clear h1
    go_wp2_with fail
    refine (identity_any j _ (by omega)).mono ?_; rintro e w5 ⟨v5, rfl, hO5, hb5⟩
    go_wp2
    exact hQ _ _ hb5 hO5
   ·intro x w hb hk Q' hQ
    clear hk
    simp only [netE] at hQ ⊢
    have z0 := (k4.call hb).cell' (i := 0) rfl
    have z1 := (k4.call hb).cell' (i := 1) rfl
    have z2 := (k4.call hb).cell' (i := 2) rfl
    go_wp2
    exact hQ _ _ (Below.refl _ _) rfl
   ·intro x w hb hk Q' hQ
    have h0 : x.v 0 = _ := (hk 0 (by decide)).1
    have h1 : x.v 1 = _ := (hk 1 (by decide)).1
    have h2 : MxO w (x.lo 2) (x.hi 2) (x.v 2) (mxF j j idF) := (hk 2 (by decide)).1
    have h3 : x.v 3 = _ := (hk 3 (by decide)).1
    have s2 := (hk 2 (by decide)).2
    clear hk
    simp only [netE] at hQ ⊢
    simp only [h0, h1, h3] at hQ ⊢
    clear h0 h1 h3
    obtain ⟨A2, c2, e2⟩ := h2.form
    simp only [mxF] at e2
    rw [e2] at h2 hQ ⊢
    rw [HR.out] at hQ
    go_wp2_with fail
    refine (implPencilOf_any p _ _ _ (mxF j j (regF k)) _ hp h2.rd (MxR.more hb.size (MxR.below hb HM.out))).mono ?_; rintro e w5 ⟨v5, rfl, hO5, hb5⟩
    have HO5 := Lib.hid hO5
    obtain ⟨A, a, C, c, E, e, H, h, e5⟩ := hO5.form
    subst e5
    clear hO5
    go_wp2
    exact hQ _ _ hb5 ⟨A, a, C, c, E, e, H, h, rfl, HO5.out⟩
   ·intro x w hb hk Q' hQ
    have h0 : x.v 0 = _ := (hk 0 (by decide)).1
    have h1 : x.v 1 = _ := (hk 1 (by decide)).1
    have h2 : MxO w (x.lo 2) (x.hi 2) (x.v 2) (mxF j j idF) := (hk 2 (by decide)).1
    have h3 : x.v 3 = _ := (hk 3 (by decide)).1
    have h4 : ∃ A a C c E e H h, x.v 4 = .tuple #[.agg #[.int .i64 R.1.p, .int .i64 R.1.q.v, .slice A R.1.q.f.length a, .slice C R.1.q.t.length c, .slice E R.1.d.length e, .slice H R.1.m.length h], .bool R.2] ∧ RepO w (x.lo 4) (x.hi 4) (.agg #[.int .i64 R.1.p, .int .i64 R.1.q.v, .slice A R.1.q.f.length a, .slice C R.1.q.t.length c, .slice E R.1.d.length e, .slice H R.1.m.length h]) R.1 := (hk 4 (by decide)).1
    have s2 := (hk 2 (by decide)).2
    have s4 := (hk 4 (by decide)).2
    clear hk
    simp only [netE] at hQ ⊢
    simp only [h0, h1, h3] at hQ ⊢
    clear h0 h1 h3
    obtain ⟨A, a, C, c, E, e, H, h, e4, ho⟩ := h4
    have hQ' := hQ (.agg #[.int .i64 R.1.p, .int .i64 R.1.q.v, .slice A R.1.q.f.length a, .slice C R.1.q.t.length c, .slice E R.1.d.length e, .slice H R.1.m.length h]) w (Below.refl _ _) ⟨A, a, C, c, E, e, H, h, rfl, ho⟩
    rw [e4] at hQ' ⊢
    go_wp2
    exact hQ'
   ·intro x w hb hk Q' hQ
    have h4 : ∃ A a C c E e H h, x.v 4 = .tuple #[.agg #[.int .i64 R.1.p, .int .i64 R.1.q.v, .slice A R.1.q.f.length a, .slice C R.1.q.t.length c, .slice E R.1.d.length e, .slice H R.1.m.length h], .bool R.2] ∧ RepO w (x.lo 4) (x.hi 4) (.agg #[.int .i64 R.1.p, .int .i64 R.1.q.v, .slice A R.1.q.f.length a, .slice C R.1.q.t.length c, .slice E R.1.d.length e, .slice H R.1.m.length h]) R.1 := (hk 4 (by decide)).1
    clear hk
    simp only [netE] at hQ ⊢
    obtain ⟨A, a, C, c, E, e, H, h, e4, ho⟩ := h4
    rw [e4] at hQ ⊢
    go_wp2
    exact hQ _ _ (Below.refl _ _) rfl
   ·intro x w hb hk hiv hdj
    have h0 : x.v 0 = .int .i64 p := hk 0 (by decide)
    have h1 : x.v 1 = .int .i64 j := hk 1 (by decide)
    have h2 : MxO w (x.lo 2) (x.hi 2) (x.v 2) (mxF j j idF) := hk 2 (by decide)
    have h3 : x.v 3 = .agg #[.int .i64 j, .int .i64 j, .slice A1 L c1] := hk 3 (by decide)
    have h4 : ∃ A a C c E e H h, x.v 4 = .tuple #[.agg #[.int .i64 R.1.p, .int .i64 R.1.q.v, .slice A R.1.q.f.length a, .slice C R.1.q.t.length c, .slice E R.1.d.length e, .slice H R.1.m.length h], .bool R.2] ∧ RepO w (x.lo 4) (x.hi 4) (.agg #[.int .i64 R.1.p, .int .i64 R.1.q.v, .slice A R.1.q.f.length a, .slice C R.1.q.t.length c, .slice E R.1.d.length e, .slice H R.1.m.length h]) R.1 := hk 4 (by decide)
    have h5 : ∃ A a C c E e H h, x.v 5 = .agg #[.int .i64 R.1.p, .int .i64 R.1.q.v, .slice A R.1.q.f.length a, .slice C R.1.q.t.length c, .slice E R.1.d.length e, .slice H R.1.m.length h] ∧ RepO w (x.lo 4) (x.hi 4) (.agg #[.int .i64 R.1.p, .int .i64 R.1.q.v, .slice A R.1.q.f.length a, .slice C R.1.q.t.length c, .slice E R.1.d.length e, .slice H R.1.m.length h]) R.1 := hk 5 (by decide)
    have h6 : x.v 6 = .bool R.2 := hk 6 (by decide)
    clear hk
    simp only [netE]
    simp only [List.drop_succ_cons, List.drop_zero, h0, h1, h3, h6]
    clear h0 h1 h3 h6
    obtain ⟨A, a, C, c, E, e, H, h, e5, ho⟩ := h5
    obtain ⟨l4, _, l4h⟩ := hiv 4 (by decide)
    rw [e5]
    clear hiv hdj e5 h4 h2
    have sz := SZ.out
    have kX := HKR.out.call hb
    have gX := (GF.out).trans (hb.mono (GF.out).size)
    have gXs := gX.size
    have hbs := hb.size
    have gfs := (GF.out).size
    have fr := kX.frozen
    have p0 := kX.cell' (i := 0) rfl
    have p1 := kX.cell' (i := 1) rfl
    have p2 := kX.cell' (i := 2) rfl
    have p3 := kX.cell' (i := 3) rfl
    have p4 := kX.cell' (i := 4) rfl
    have p5 := kX.cell' (i := 5) rfl
    have hc6 := chg6 w w0.heap.size (.int .i64 R.1.p) (.int .i64 R.1.q.v) (.slice A R.1.q.f.length a) (.slice C R.1.q.t.length c) (.slice E R.1.d.length e) (.slice H R.1.m.length h)
    have OF := Lib.hid (RepO.wider (ho.chg hc6 (.inr (by omega))) (lo' := w0.heap.size) (by omega) (hi' := w.heap.size) (by omega))
    have GF2 := Lib.hid (gX.trans (hc6.below (Nat.le_refl _) gX.size))
    clear ho hc6 gX kX k4 hb sz gXs hbs gfs l4 l4h
    go_wp2
    exact bodyPost_ret (v := .tuple #[.agg #[.int .i64 R.1.p, .int .i64 R.1.q.v, .slice A R.1.q.f.length a, .slice C R.1.q.t.length c, .slice E R.1.d.length e, .slice H R.1.m.length h], .bool R.2]) (by simp [results, go_sem, p0, p1, p2, p3, p4, p5]) rfl ⟨_, by rw [HRF.out], by rw [HRF.out]; exact RepO.wider OF.out (Nat.le_refl _) (by simp), GF2.out⟩
theorem specRegularPencil_any (p n k : Int) (w0 : World) (hp : I64 p) (hn : I64 n) (hk : I64 k) :
  Calls Tryz.prog 16 #[.int .i64 p, .int .i64 n, .int .i64 k] w0 fun e w' => ∃ r, e = .returned (.tuple #[r, .bool (regP p n k).2]) ∧ RepO w' w0.heap.size w'.heap.size r (regP p n k).1 ∧ Below w0.heap.size w0 w' := by
 rcases h : regOk p n k with _ | _
 ·exact specReg_no p n k w0 hp hn hk h
 ·exact specReg_yes p n k w0 hp hn hk h
theorem implRegularPencil_any (p n k : Int) (w0 : World) (hp : I64 p) (hn : I64 n) (hk : I64 k) :
  Calls Tryz.prog 15 #[.int .i64 p, .int .i64 n, .int .i64 k] w0 fun e w' => ∃ r, e = .returned (.tuple #[r, .bool (regP p n k).2]) ∧ RepO w' w0.heap.size w'.heap.size r (regP p n k).1 ∧ Below w0.heap.size w0 w' := by
 rcases h : regOk p n k with _ | _
 ·exact implReg_no p n k w0 hp hn hk h
 ·exact implReg_yes p n k w0 hp hn hk h
set_option maxHeartbeats 800000 in
theorem row_zero (r : Int) (i cap : Nat) (A : Option Addr) (w : World) (hb : cap ≤ 9223372036854775807) (hi : i ≤ 1000) :
  Calls Tryz.prog 33 #[.agg #[.int .i64 r, .int .i64 0, .slice A 0 cap], .int .i64 i] w fun e w' => ∃ A, e = .returned (.slice A 0 cap) ∧ Below w.heap.size w w' := by
 go_enter Tryz.func33, Tryz.ntmps33
 go_wp2
 exact bodyPost_ret (by simp [results, go_sem]; rfl) rfl ⟨_, rfl, below_alloc _ _⟩
def rowsF (r c : Nat) (f : Nat → Nat → Int) : List (List Int) := (List.range r).map fun i => rowF c (f i)
theorem rowsF_length (r c : Nat) (f : Nat → Nat → Int) : (rowsF r c f).length = r := by simp [rowsF]
theorem rowsF_get {r c j : Nat} (f : Nat → Nat → Int) (h : j < r) : (rowsF r c f)[j]? = some (rowF c (f j)) := by simp [rowsF, h]
theorem rowsF_succ (r c : Nat) (f : Nat → Nat → Int) : rowsF (r + 1) c f = rowsF r c f ++ [rowF c (f r)] := by simp [rowsF, List.range_succ]
theorem SlI.part {w : World} {B g o n cap P c : Nat} {l l' : List Int} (h : SlI w B (.slice (some ⟨g, o, none⟩) n cap) l) (hn : n = l.length) (hc : P + l'.length ≤ l.length) (hl : ∀ j x, l'[j]? = some x → l[P + j]? = some x) (hcn : c = cap - P) :
  SlI w B (.slice (some ⟨g, o + P, none⟩) l'.length c) l' := by
 subst hn hcn
 obtain ⟨A', c', e, h1, h2, h3, h4⟩ := h
 injection e with e1 e2 e3
 subst e1 e3
 refine ⟨_, _, rfl, by omega, by omega, by omega, fun hp => ?_⟩
 obtain ⟨b, o', e, hb, hx⟩ := h4 (by omega)
 injection e with e
 injection e with e1 e2
 subst e1 e2
 refine ⟨g, o + P, rfl, hb, fun j x hj => ?_⟩
 have := hx (P + j) x (hl j x hj)
 rw [show o + P + j * 1 = o + (P + j) * 1 by omega]
 exact this
set_option maxHeartbeats 800000 in
theorem row_atO (r : Int) (c i P N cap g o : Nat) (w : World) (h1 : wrap64 ((i : Int) * (c : Int)) = (P : Int)) (h2 : wrap64 (((i : Int) + 1) * (c : Int)) = ((P + c : Nat) : Int))
  (hN : P + c ≤ N) (hcap : N ≤ cap) (hb : cap ≤ 9223372036854775807) (h0 : 0 < c) (hi : i ≤ 1000) :
  Calls Tryz.prog 33 #[.agg #[.int .i64 r, .int .i64 c, .slice (some ⟨g, o, none⟩) N cap], .int .i64 i] w fun e w' => e = .returned (.slice (some ⟨g, o + P, none⟩) c (cap - P)) ∧ Below w.heap.size w w' := by
 go_enter Tryz.func33, Tryz.ntmps33
 go_wp2
 exact bodyPost_ret (v := .slice (some ⟨g, o + P, none⟩) c (cap - P)) (by simp [results, go_sem]) rfl ⟨rfl, below_alloc _ _⟩
theorem row_any (u : Value) (r c i : Nat) (f : Nat → Nat → Int) (w : World) (hu : MxR w w.heap.size u (mxF r c f)) (hr : r ≤ 1000) (hc : c ≤ 1000) (hi : i < r) :
  Calls Tryz.prog 33 #[u, .int .i64 i] w fun e w' => ∃ v, e = .returned v ∧ SlI w' w'.heap.size v (rowF c (f i)) ∧ Below w.heap.size w w' := by
 obtain ⟨A, cap, rfl, hs, _, _, hl⟩ := hu.open_
 simp only [mxF] at hs hl ⊢
 rcases Nat.eq_zero_or_pos c with rfl | h0
 ·obtain ⟨_, _, e, h1, h2, _⟩ := hs
  injection e with e1 e2 e3
  subst e1 e3
  have e : (flat r 0 f).length = 0 := by rw [flat_length]; rfl
  rw [e]
  refine (row_zero r i cap A w h2 (by omega)).mono fun e w' ⟨A', h3, h4⟩ => ⟨_, h3, ?_, h4⟩
  exact ⟨A', cap, by simp [rowF], by simp [rowF], h2, by simp [rowF], fun h => by simp [rowF] at h⟩
 ·obtain ⟨P, J, hP, _, _, _, _⟩ := ix_walk hi h0 hr hc
  obtain ⟨hPi, hP2, hPL, _⟩ := ix_next hi hr hc hP
  have hlt := ix_lt hi h0
  have hs' := hs
  obtain ⟨_, _, e, h1, h2, h3, h4⟩ := hs
  injection e with e1 e2 e3
  subst e1 e3
  obtain ⟨b, o, rfl, hb, hx⟩ := h4 (by rw [flat_length]; omega)
  refine (row_atO r c i P _ cap b o w hP hP2 (by rw [flat_length]; exact hPL) h1 h2 h0 (by omega)).mono fun e w' ⟨h5, h6⟩ => ⟨_, h5, ?_, h6⟩
  have := SlI.part (P := P) (l' := rowF c (f i)) (SlI.next h6 hs') rfl (by rw [rowF_length, flat_length]; exact hPL) (fun j x hj => ?_) rfl
  ·rwa [rowF_length] at this
  ·have hjc := lt_of_some hj
   rw [rowF_length] at hjc
   rw [rowF_get _ hjc] at hj
   rw [hPi, flat_get f hi hjc]
   exact hj
set_option maxHeartbeats 1600000 in
theorem rows_any (u : Value) (r c : Nat) (f : Nat → Nat → Int) (w0 : World) (hu : MxR w0 w0.heap.size u (mxF r c f)) (hr : r ≤ 1000) (hc : c ≤ 1000) :
  Calls Tryz.prog 37 #[u] w0 fun e w' => ∃ v, e = .returned v ∧ IntssO w' w0.heap.size w'.heap.size v (rowsF r c f) ∧ Below w0.heap.size w0 w' := by
 have hu' := hu
 obtain ⟨A, cap, rfl, hs, i1, i2, hl⟩ := hu.open_
 clear hu
 simp only [mxF] at hs hl i1 i2 ⊢
 obtain ⟨W, hW⟩ : ∃ W, W = w0.alloc (.cells #[.int .i64 r, .int .i64 c, .slice A (flat r c f).length cap] 44) := ⟨_, rfl⟩
 have g0 : Below w0.heap.size w0 W := by rw [hW]; exact below_alloc _ _
 have kB : Blk W w0.heap.size 44 #[.int .i64 r, .int .i64 c, .slice A (flat r c f).length cap] := by rw [hW]; exact Blk.new _ _ _
 obtain ⟨L, hL⟩ : ∃ L, (flat r c f).length = L := ⟨_, rfl⟩
 simp only [mxF] at hu'
 rw [hL] at hu' hs hl kB hW ⊢
 clear hL
 have c0 := kB.cell' (i := 0) rfl
 have c1 := kB.cell' (i := 1) rfl
 have c2 := kB.cell' (i := 2) rfl
 have HU := Lib.hid (MxR.next g0 hu')
 have sz : w0.heap.size < W.heap.size := kB.lt
 go_enter Tryz.func37, Tryz.ntmps37
 go_wp2
 rw [← hW]
 clear hW
 go_loopw [3, 7] (fun out i wr => ∃ (k : Nat) (vs : List Value), k ≤ r ∧ i = .int .i64 k ∧ Below W.heap.size W wr ∧ OutO wr W.heap.size wr.heap.size out vs ∧ vs.length = k ∧ Fam wr W.heap.size wr.heap.size (vs.zip (rowsF k c f))) (fun _ i _ => r - (intOf i).toNat)
 case atStart => exact ⟨0, [], Nat.zero_le _, rfl, Below.refl _ _, ⟨World.ownsRow_nil _ _ _ _, by simp [Value.ownBlock], by simp⟩, rfl, ⟨fun p hp => by simp at hp, by simp⟩⟩
 case round =>
  clear c0 c1 c2
  obtain ⟨k, vs, hk, rfl, hbel, hO, hvl, hF⟩ := hrel
  have kB2 := kB.call hbel
  have c0 := kB2.cell' (i := 0) rfl
  have c1 := kB2.cell' (i := 1) rfl
  have c2 := kB2.cell' (i := 2) rfl
  have HVL := Lib.hid hvl
  clear hvl
  by_cases hlt : k < r
  ·have HUR := Lib.hid (MxR.more hbel.size (MxR.below hbel HU.out))
   have hws := hbel.size
   obtain ⟨OA, oc, rfl, _, _⟩ := hO.form
   have HO := Lib.hid hO
   have HF := Lib.hid hF
   clear hO hF
   go_wp2_with fail
   refine (row_any _ r c k f _ HUR.out hr hc hlt).mono ?_; rintro e w1 ⟨v1, rfl, hv1, hb1⟩
   have hb0 := hb1
   go_wp2_with fail
   refine (clone_own _ _ _ hv1).mono ?_; rintro e wC ⟨v2, rfl, hI, hb2⟩
   have hbC := bthen hb1 hb2
   have hlo := hb1.size
   clear hb2 hb0
   obtain ⟨VA, vc, ev⟩ := hI.form
   rw [rowF_length] at ev
   subst ev
   have hO2 := HO.out.below hbC
   have hF2 := HF.out.below hbC
   have hbs := hbC.size
   have HI := Lib.hid hI
   have HO2 := Lib.hid hO2
   have HF2 := Lib.hid hF2
   have HBC := Lib.hid hbC
   clear hI hO2 hF2 hbC hb1 hv1
   (go_wp2_with (at_builtin; refine Hold.stop ?_)); unfold Hold
   obtain ⟨X, hX⟩ : ∃ X, X = wC.alloc (.cells #[.slice VA c vc] 26) := ⟨_, rfl⟩
   have gn : Below wC.heap.size wC X := by rw [hX]; exact below_alloc _ _
   have kn : Blk X wC.heap.size 26 #[.slice VA c vc] := by rw [hX]; exact Blk.new _ _ _
   have hO3 := HO2.out.below gn
   have hF3 := (HF2.out.snoc (HI.out.wider (lo' := wr.heap.size) hlo (Nat.le_refl _)) hws (by omega)).below gn
   have hXs := gn.size
   rw [← hX]
   clear hX
   refine wpList_appS rfl (.tmp 10) (.tmp 15) rfl W.heap.size (.slice OA vs.length oc) vs rfl hO3.1 _ _ (.slice VA c vc) rfl ⟨wC.heap.size, 0, rfl, kn.cell' (i := 0) rfl⟩ rfl (by have := HVL.out; omega) (by omega) ?_
   intro v' w' hn' hg' hv'
   have hbg : Below W.heap.size X w' := below_grown hg' (fun k hk => (hO3.1.lt k hk).1) (by omega)
   have hbt := (hbel.trans ((HBC.out).mono hws)).trans ((gn.mono (by omega)).trans hbg)
   have hF4 := Fam.grownO hF3 hO3.1 hg'
   have hws' := hbg.size
   have hO4 : OutO w' W.heap.size w'.heap.size v' (vs ++ [.slice VA c vc]) := ⟨hn', fun k hk => (hn'.lt k hk).2, by simp; have := HVL.out; omega⟩
   have HF4 := Lib.hid hF4
   have HO4 := Lib.hid hO4
   have HBT := Lib.hid hbt
   clear hn' hg' hv' hbg hbt hF4 hO4 hO3 hF3 kn gn
   go_wp2
   go_roundw
   case rel =>
    refine ⟨k + 1, vs ++ [.slice VA c vc], by omega, by go_num, HBT.out, HO4.out, by simp [HVL.out], ?_⟩
    have := HF4.out.mono (Nat.le_refl _) (show wC.heap.size ≤ w'.heap.size by omega)
    have e : (vs ++ [Value.slice VA c vc]).zip (rowsF (k + 1) c f) = vs.zip (rowsF k c f) ++ [(Value.slice VA c vc, rowF c (f k))] := by
     rw [rowsF_succ, List.zip_append (by rw [HVL.out, rowsF_length])]; rfl
    rw [e]
    exact this
   case measure => simp [intOf]; omega
  ·obtain rfl : k = r := by omega
   have hO' := hO
   have hF' := hF
   go_wp2
   go_ret
   exact ⟨_, rfl, ⟨vs, hO'.mono (by omega) (Nat.le_refl _), by rw [HVL.out, rowsF_length], hF'.mono (by omega) (Nat.le_refl _)⟩, g0.trans (hbel.mono (by omega))⟩
def fcK (f : Nat → Nat → Int) (k i a b : Nat) : Int := if b < k ∨ (b = k ∧ a < i) then f a b else 0
theorem fcK_0 (R K : Nat) (f : Nat → Nat → Int) : flat R K (fun _ _ => 0) = flat R K (fcK f 0 0) := flat_congr fun a b _ _ => by simp [fcK]
theorem fcK_put {R K k i : Nat} (f : Nat → Nat → Int) (hi : i < R) (hk : k < K) : (flat R K (fcK f k i)).set (i * K + k) (f i k) = flat R K (fcK f k (i + 1)) := by
 rw [flat_set _ _ hi hk]
 refine flat_congr fun a b _ _ => ?_
 simp only [fcK]
 (repeat' split) <;> first | rfl | omega | (rename_i h _; rw [h.1, h.2])
theorem fcK_next (R K k : Nat) (f : Nat → Nat → Int) : flat R K (fcK f k R) = flat R K (fcK f (k + 1) 0) := by
 refine flat_congr fun a b ha _ => ?_
 simp only [fcK]
 (repeat' split) <;> first | rfl | omega
theorem fcK_K (R K : Nat) (f : Nat → Nat → Int) : flat R K (fcK f K 0) = flat R K f := flat_congr fun a b _ hb => by simp [fcK, hb]
set_option maxHeartbeats 1600000 in
theorem fromColumns_any (u : Value) (R K : Nat) (f : Nat → Nat → Int) (w : World) (hu : SlII w w.heap.size u (rowsF K R (fun a b => f b a))) (hR : R ≤ 1000) (hK : K ≤ 1000) :
  Calls Tryz.prog 36 #[.int .i64 R, u] w fun e w' => ∃ v, e = .returned v ∧ MxO w' w.heap.size w'.heap.size v (mxF R K f) ∧ Below w.heap.size w w' := by
 obtain ⟨U, uc, rfl, _, _, hul, hx⟩ := hu.open_
 clear hu
 have HX := Lib.hid hx
 rw [rowsF_length] at hul ⊢
 obtain ⟨W, hW⟩ : ∃ W, W = w.alloc (.cells #[.int .i64 0, .int .i64 0, .slice none 0 0] 44) := ⟨_, rfl⟩
 have g0 : Below w.heap.size w W := by rw [hW]; exact below_alloc _ _
 have k2 : Blk W w.heap.size 44 #[.int .i64 0, .int .i64 0, .slice none 0 0] := by rw [hW]; exact Blk.new _ _ _
 have sz : W.heap.size = w.heap.size + 1 := by rw [hW]; simp
 have K2 := Lib.hid k2
 have SZ := Lib.hid sz
 clear k2 sz hx
 go_enter Tryz.func36, Tryz.ntmps36
 go_wp2_with fail
 rw [← hW]; clear hW
 refine (zero_any (R : Int) K W (by omega) (by omega) (by omega) (by omega)).mono ?_; rintro e w1 ⟨v1, rfl, ⟨sA, rfl, oA, hr, hc⟩, hb1⟩
 rw [zmx_flat] at oA hr hc ⊢
 simp only [mxF] at oA hr hc ⊢
 rw [fcK_0 R K f] at oA
 obtain ⟨A1, c1, e1⟩ := oA.form
 obtain ⟨N, hN⟩ : ∃ N, R * K = N := ⟨_, rfl⟩
 rw [flat_length, hN] at e1
 subst e1
 have HN := Lib.hid hN
 clear hN
 have s1 := hb1.size
 obtain ⟨W4, hW4⟩ : ∃ W4, W4 = w1.alloc (.cells #[.int .i64 R, .int .i64 K, .slice A1 N c1] 44) := ⟨_, rfl⟩
 have b4 : Below w1.heap.size w1 W4 := by rw [hW4]; exact below_alloc _ _
 have k4 : Blk W4 w1.heap.size 44 #[.int .i64 R, .int .i64 K, .slice A1 N c1] := by rw [hW4]; exact Blk.new _ _ _
 have oA := oA.below b4
 have gW := bthen hb1 b4
 clear b4 hb1
 go_wp2
 rw [← hW4]; clear hW4
 go_loopw [16] (fun i wr => ∃ k : Nat, k ≤ K ∧ i = .int .i64 k ∧ Blk wr w1.heap.size 44 #[.int .i64 R, .int .i64 K, .slice A1 N c1] ∧ IntsO wr W.heap.size w1.heap.size (.slice A1 N c1) (flat R K (fcK f k 0)) ∧ Below W.heap.size W wr) (fun i _ => K - (intOf i).toNat)
 case atStart => exact ⟨0, Nat.zero_le _, rfl, k4, oA, gW⟩
 case round =>
  clear k4 oA gW
  obtain ⟨k, hk, rfl, k4, oA, gW⟩ := hrel
  have s6 := gW.size
  by_cases hlt : k < K
  ·have hx := HX.out
   rw [← rowsF_length K R (fun a b => f b a)] at hlt
   obtain ⟨b, o, l, LA, lc, rfl, hb, HL, x1, hl⟩ := SlII.at_ hx hlt
   rw [rowsF_length] at hlt
   have hl' := HL.out
   rw [rowsF_get _ hlt] at hl'
   injection hl' with hl'
   subst hl'
   rw [rowF_length] at x1
   have gww : Below w.heap.size w wr := g0.trans (gW.mono g0.size)
   have x2 := bcell gww hb x1
   have HLC := Lib.hid hl
   clear hx HL x1 hl
   go_wp2
   go_loopw [23] (fun i wr => ∃ j : Nat, j ≤ R ∧ i = .int .i64 j ∧ Blk wr w1.heap.size 44 #[.int .i64 R, .int .i64 K, .slice A1 N c1] ∧ IntsO wr W.heap.size w1.heap.size (.slice A1 N c1) (flat R K (fcK f k j)) ∧ Below W.heap.size W wr) (fun i _ => R - (intOf i).toNat)
   case atStart => exact ⟨0, Nat.zero_le _, rfl, k4, oA, gW⟩
   case round =>
    clear k4 oA gW s6 x2 gww
    obtain ⟨j, hj, rfl, k4, oA, gW⟩ := hrel
    have s6 := gW.size
    by_cases hlj : j < R
    ·obtain ⟨P, J, hP, hPJ, hJ, hJN, hJb⟩ := ix_walk hlj hlt hR hK
     rw [HN.out] at hJN
     have hst := fcK_put f hlj hlt
     rw [← hJ] at hst
     subst hPJ
     have hl := HLC.out
     rw [← rowF_length R (fun b => f b k)] at hlj
     obtain ⟨b2, o2, x, rfl, hb2, HX2, x1, xr⟩ := SlI.at_ hl hlj
     rw [rowF_length] at hlj
     have hx2 := HX2.out
     rw [rowF_get _ hlj] at hx2
     injection hx2 with hx2
     subst hx2
     have gww : Below w.heap.size w wr := g0.trans (gW.mono g0.size)
     have x2 := bcell gww hb2 x1
     obtain ⟨gA, cA, eA, a1, a2, a3⟩ := oA.at_ (by rw [flat_length, HN.out]; omega)
     rw [flat_length, HN.out] at eA
     injection eA with eA1 eA2 eA3
     subst eA1 eA3
     have r1 := k4.cell' (i := 1) rfl
     have r2 := k4.cell' (i := 2) rfl
     have fA := oA.1.frozenG (P + k)
     have cA := (oA.1.cellG (j := P + k) (by rw [flat_length, HN.out]; omega)).1
     have hc1 : Chg W.heap.size w1.heap.size wr (wr.setCell ⟨gA, P + k, none⟩ (.int .i64 (f j k))) := chg_set a1 a2
     have oA2 := oA.put (j := P + k) (x := f j k) xr
     rw [hst] at oA2
     have OA2 := Lib.hid oA2
     have K4 := Lib.hid (k4.chg hc1 (by omega))
     have GW := Lib.hid (gW.trans (hc1.below (Nat.le_refl _) s6))
     clear oA2 k4 oA gW hc1 hst hJ hl HX2 x1 gww hb2
     go_wp2
     go_roundw
     case rel => exact ⟨j + 1, by omega, by go_num, K4.out, OA2.out, GW.out⟩
     case measure => simp [intOf]; omega
    ·obtain rfl : j = R := by omega
     rw [fcK_next] at oA
     have OA := Lib.hid oA
     have K4 := Lib.hid k4
     have GW := Lib.hid gW
     clear oA k4 gW
     go_wp2
     go_roundw
     case rel => exact ⟨k + 1, by omega, by go_num, K4.out, OA.out, GW.out⟩
     case measure => simp [intOf]; omega
  ·obtain rfl : k = K := by omega
   rw [fcK_K] at oA
   have k2 := K2.out.below gW (by have := SZ.out; omega)
   have z0 := k4.cell' (i := 0) rfl
   have z1 := k4.cell' (i := 1) rfl
   have z2 := k4.cell' (i := 2) rfl
   have p0 := k2.cell' (i := 0) rfl
   have p1 := k2.cell' (i := 1) rfl
   have p2 := k2.cell' (i := 2) rfl
   have f2 := k2.frozen
   have h2 := chg3 wr w.heap.size (.int .i64 (R : Int)) (.int .i64 k) (.slice A1 N c1)
   have gw : Below w.heap.size w wr := g0.trans (gW.mono g0.size)
   have gs := gw.size
   have oA2 := (oA.chg h2 (.inr (by have := SZ.out; omega))).wider (lo' := w.heap.size) (hi' := wr.heap.size) (by have := SZ.out; omega) (by have := k4.lt; omega)
   have fg := gw.trans (h2.below (Nat.le_refl _) gs)
   have OA2 := Lib.hid oA2
   have FG := Lib.hid fg
   clear oA oA2 fg gw h2 k2 k4 gW
   go_wp2
   exact bodyPost_ret (v := .agg #[.int .i64 (R : Int), .int .i64 k, .slice A1 N c1]) (by simp [results, go_sem, p0, p1, p2]) rfl ⟨_, rfl, ⟨_, rfl, by simpa [mxF] using OA2.out, by simp only [mxF, I64]; omega, by simp only [mxF, I64]; omega⟩, FG.out⟩
end Go.Proofs.YthhjoamgcfiecaaGreat
