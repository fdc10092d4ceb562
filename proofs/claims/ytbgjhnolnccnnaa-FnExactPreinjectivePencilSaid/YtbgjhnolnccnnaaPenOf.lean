/- copyMatrices; the two PencilOf. -/
import Derived.Test.YtbgjhnolnccnnaaZero
import Derived.Test.YtbgjhnolnccnnaaPencil
namespace Go.Proofs.Ytbgjhnolnccnnaa
set_option linter.unusedVariables false
set_option linter.unusedSimpArgs false
open Go.RowKit

theorem SlM.I64s {w : World} {B : Nat} {v : Value} {l : List Mx} (h : SlM w B v l) : ∀ m ∈ l, I64 m.r ∧ I64 m.c := by
  obtain ⟨A, c, rfl, _, _, _, h⟩ := h.open_
  intro m hm
  obtain ⟨j, hj⟩ := List.getElem?_of_mem hm
  obtain ⟨_, _, m', _, _, _, _, HX, _, _, _, _, h1, h2, _⟩ := SlM.at_ h (lt_of_some hj)
  have := HX.out
  rw [hj] at this
  injection this with this
  subst this
  exact ⟨h1, h2⟩

set_option maxHeartbeats 3200000 in
set_option maxRecDepth 100000 in
theorem copyMatrices_any (u : Value) (ms : List Mx) (w : World) (hu : SlM w w.heap.size u ms) (hn : ms.length ≤ 1000000) :
    Calls Try.prog 138 #[u] w fun e w' => ∃ v, e = .returned v ∧ MatsO w' w.heap.size w'.heap.size v ms ∧ Below w.heap.size w w' := by
  have hI := Lib.hid (SlM.I64s hu)
  obtain ⟨A, c, rfl, _, _, _, hx⟩ := hu.open_
  clear hu
  go_enter Try.func138, Try.ntmps138
  go_wp2
  go_loopw [3, 8] (fun mv i wr => ∃ (k : Nat) (vs : List Value), k ≤ ms.length ∧ i = .int .i64 k ∧ Below w.heap.size w wr ∧ RowO 60 3 wr w.heap.size wr.heap.size mv k (mxCs vs (ms.take k)) ∧ vs.length = k ∧ Fam wr w.heap.size wr.heap.size (vs.zip ((ms.take k).map Mx.a))) (fun _ i _ => ms.length - (intOf i).toNat)
  case atStart => exact ⟨0, [], Nat.zero_le _, rfl, Below.refl _ _, RowO.nil _ _ _ _, rfl, ⟨fun p hp => by simp at hp, by simp⟩⟩
  case round =>
    obtain ⟨k, vs, hk, rfl, hbel, hO, hvl, hF⟩ := hrel
    have HVL := Lib.hid hvl
    clear hvl
    by_cases hlt : k < ms.length
    · obtain ⟨b, o, m, A', c', rfl, hb, HX, x1, x2, x3, hsl, i1, i2, _⟩ := SlM.at_ hx hlt
      have d1 := bcell hbel hb x1
      have d2 := bcell hbel hb x2
      have d3 := bcell hbel hb x3
      have hbs := hbel.size
      obtain ⟨W1, hW1⟩ : ∃ W, W = wr.alloc (.cells #[.int .i64 m.r, .int .i64 m.c, .slice A' m.a.length c'] 60) := ⟨_, rfl⟩
      have ga : Below wr.heap.size wr W1 := by rw [hW1]; exact below_alloc _ _
      have hmx : MxR W1 W1.heap.size (.agg #[.int .i64 m.r, .int .i64 m.c, .slice A' m.a.length c']) m := ⟨_, rfl, SlI.next ga (SlI.more hbs (SlI.below hbel hsl)), i1, i2⟩
      have HTK := Lib.hid (show ms.take (k + 1) = ms.take k ++ [m] by rw [take_snoc HX.out])
      have hTL := Lib.hid (show (ms.take k).length = k by simp; omega)
      replace hO := hO.below ga
      replace hF := hF.below ga
      have sa := ga.size
      obtain ⟨mA, mc, emv, _, _⟩ := hO.form
      subst emv
      clear x1 x2 x3 hx hsl i1 i2
      go_wp2_with fail
      rw [← hW1]; clear hW1
      refine (mxClone_any _ m _ hmx).mono ?_; rintro e w1 ⟨v1, rfl, ⟨s, rfl, hs, _⟩, hb1⟩
      have s1 := hb1.size
      obtain ⟨sA, sc, es⟩ := hs.form
      obtain ⟨sn, hsn⟩ : ∃ n, m.a.length = n := ⟨_, rfl⟩
      rw [hsn] at es
      clear hsn
      subst es
      have gb1 : Below w.heap.size w w1 := hbel.trans ((bthen ga hb1).mono hbs)
      replace hO := (hO.below hb1).below (below_alloc w1 (.cells #[.int .i64 m.r, .int .i64 m.c, .slice sA sn sc] 60))
      have hF1 := (hF.below hb1).snoc (hs.wider sa (Nat.le_refl _)) (by omega) (by omega)
      have hF2 := hF1.below (below_alloc w1 (.cells #[.int .i64 m.r, .int .i64 m.c, .slice sA sn sc] 60))
      have HF2 := Lib.hid hF2
      clear hF hF1 hF2 hs hmx hb1 ga d1 d2 d3
      (go_wp2_with (at_builtin; refine Hold.stop ?_)); unfold Hold
      have hO'' : OutM (w1.alloc (.cells #[.int .i64 m.r, .int .i64 m.c, .slice sA sn sc] 60)) w.heap.size wr.heap.size (.slice mA k mc) vs (ms.take k) := by rw [OutM, hTL.out]; exact hO
      refine wpList_appM (by rfl) (.tmp 12) (.tmp 15) (by rfl) w.heap.size wr.heap.size (.slice mA k mc) vs (ms.take k) (by rfl) hO'' (by rw [HVL.out, hTL.out]) w1.heap.size 1 m (.slice sA sn sc) (by rfl) (Blk.new _ _ _) (by rfl) (by rw [hTL.out]; omega) (by simp; omega) ?_
      intro v' w' hO3 hA
      have gb3 : Below w.heap.size w w' := (gb1.alloc (by omega) _).trans (hA.below (Nat.le_refl _) (by simp; omega))
      have hF3 := HF2.out.appT (by decide) hA
      have hs3 := hA.size
      simp only [World.size_alloc] at hs3
      have HF3 := Lib.hid hF3
      have HO3 := Lib.hid hO3
      clear hF3 hO3 HF2 hO'' hO hA gb1
      go_wp2
      go_roundw
      case rel =>
        refine ⟨k + 1, vs ++ [.slice sA sn sc], by omega, by go_num, gb3, ?_, by simp [HVL.out], ?_⟩
        · have := HO3.out
          rw [OutM, List.length_append, hTL.out] at this
          rw [HTK.out]
          exact this
        · have e : (vs ++ [Value.slice sA sn sc]).zip ((ms.take (k + 1)).map Mx.a) = vs.zip ((ms.take k).map Mx.a) ++ [(.slice sA sn sc, m.a)] := by
            rw [HTK.out, List.map_append, List.zip_append (by rw [List.length_map, HVL.out, hTL.out])]
            rfl
          rw [e]
          exact HF3.out.mono (Nat.le_refl _) (by omega)
      case measure => simp [intOf]; omega
    · obtain rfl : k = ms.length := by omega
      obtain ⟨mA, mc, emv, _, _⟩ := hO.form
      subst emv
      rw [List.take_length] at hO hF
      have hM : MatsO wr w.heap.size wr.heap.size (.slice mA ms.length mc) ms := ⟨vs, hO, HVL.out, hF, hI.out⟩
      have HM := Lib.hid hM
      clear hM hO hF
      go_wp2
      go_ret
      exact ⟨_, rfl, HM.out, hbel⟩

theorem SlM.two {w : World} {B g : Nat} {a b : Mx} {u v : Value} (hB : B = w.heap.size) (hg : Blk w g 60 #[.int .i64 a.r, .int .i64 a.c, u, .int .i64 b.r, .int .i64 b.c, v]) (ha : SlI w B u a.a) (hb : SlI w B v b.a) (i1 : I64 a.r ∧ I64 a.c) (i2 : I64 b.r ∧ I64 b.c) : SlM w B (.slice (some ⟨g, 0, none⟩) 2 2) [a, b] := by
  refine ⟨_, 2, rfl, by simp, by omega, by simp, fun _ => ⟨g, 0, rfl, by rw [hB]; exact hg.lt, fun j x hj => ?_⟩⟩
  match j, hj with
  | 0, hj =>
    simp at hj
    subst hj
    exact ⟨u, hg.cell' (i := 0) rfl, hg.cell' (i := 1) rfl, hg.cell' (i := 2) rfl, ha, i1⟩
  | 1, hj =>
    simp at hj
    subst hj
    exact ⟨v, hg.cell' (i := 3) rfl, hg.cell' (i := 4) rfl, hg.cell' (i := 5) rfl, hb, i2⟩
  | j + 2, hj => simp at hj
theorem IntsO.two (w : World) {lo : Nat} (x y : Int) (hx : I64 x) (hy : I64 y) (hlo : lo ≤ w.heap.size) : IntsO (w.alloc (.cells #[.int .i64 x, .int .i64 y] 3)) lo (w.alloc (.cells #[.int .i64 x, .int .i64 y] 3)).heap.size (.slice (some ⟨w.heap.size, 0, none⟩) 2 2) [x, y] :=
  IntsO.of_own (OwnI.of_blk (xs := [x, y]) (Blk.new _ _ _) hlo ⟨rfl, fun j z hj hz => by
    match j, hz with
    | 0, hz => simp at hz; subst hz; rfl
    | 1, hz => simp at hz; subst hz; rfl
    | j + 2, hz => simp at hz⟩ (by simp) (by simp [hx, hy]))
/-- three families of three stretches that are apart -/
theorem Fam.three {w : World} {lo hi l1 h1 l2 h2 l3 h3 : Nat} {L1 L2 L3 : List (Value × List Int)} (f1 : Fam w l1 h1 L1) (f2 : Fam w l2 h2 L2) (f3 : Fam w l3 h3 L3) (d12 : h1 ≤ l2 ∨ h2 ≤ l1) (d13 : h1 ≤ l3 ∨ h3 ≤ l1) (d23 : h2 ≤ l3 ∨ h3 ≤ l2)
    (b1 : lo ≤ l1 ∧ h1 ≤ hi) (b2 : lo ≤ l2 ∧ h2 ≤ hi) (b3 : lo ≤ l3 ∧ h3 ≤ hi) : Fam w lo hi (L1 ++ (L2 ++ L3)) := by
  have ap : ∀ {l1 h1 l2 h2 : Nat} {L1 L2 : List (Value × List Int)}, Fam w l1 h1 L1 → Fam w l2 h2 L2 → (h1 ≤ l2 ∨ h2 ≤ l1) → ∀ a ∈ L1, ∀ b ∈ L2, a.1.ownBlock = none ∨ a.1.ownBlock ≠ b.1.ownBlock := by
    intro l1 h1 l2 h2 L1 L2 f g hd a ha b hb
    rcases hA : a.1.ownBlock with _ | x
    · exact .inl rfl
    · right
      intro e
      have q1 := (f.1 a ha).2 x hA
      have q2 := ((f.1 a ha).1.lt x hA).1
      have q3 := (g.1 b hb).2 x e.symm
      have q4 := ((g.1 b hb).1.lt x e.symm).1
      omega
  refine ⟨fun p hp => ?_, ?_⟩
  · rcases List.mem_append.1 hp with hp | hp
    · exact (f1.1 p hp).wider b1.1 b1.2
    · rcases List.mem_append.1 hp with hp | hp
      · exact (f2.1 p hp).wider b2.1 b2.2
      · exact (f3.1 p hp).wider b3.1 b3.2
  · rw [List.pairwise_append, List.pairwise_append]
    refine ⟨f1.2, ⟨f2.2, f3.2, ap f2 f3 d23⟩, fun a ha b hb => ?_⟩
    rcases List.mem_append.1 hb with hb | hb
    · exact ap f1 f2 d12 a ha b hb
    · exact ap f1 f3 d13 a ha b hb

theorem chg6 (w : World) (g : Nat) (u0 u1 u2 u3 u4 u5 : Value) : Chg g (g + 1) w ((((((w.setCell ⟨g, 0, none⟩ u0).setCell ⟨g, 1, none⟩ u1).setCell ⟨g, 2, none⟩ u2).setCell ⟨g, 3, none⟩ u3).setCell ⟨g, 4, none⟩ u4).setCell ⟨g, 5, none⟩ u5) := by
  have s : ∀ (w : World) (i : Nat) (u : Value), Chg g (g + 1) w (w.setCell ⟨g, i, none⟩ u) := fun w i u => chg_set (Nat.le_refl _) (Nat.lt_succ_self _)
  exact (((((s _ _ _).trans (s _ _ _)).trans (s _ _ _)).trans (s _ _ _)).trans (s _ _ _)).trans (s _ _ _)

def penRep (p : Int) (a b : Mx) : Rp := ⟨p, pQ, [a.c, a.r], [a, b]⟩
def penOf (p : Int) (a b : Mx) : Rp × Bool := if isRep (penRep p a b) then (penRep p a b, true) else (rp0, false)


set_option maxHeartbeats 6400000 in
set_option maxRecDepth 100000 in
theorem implPencilOf_any (p : Int) (u : Value) (a : Mx) (v : Value) (b : Mx) (w0 : World) (hp : I64 p) (ha : MxR w0 w0.heap.size u a) (hbm : MxR w0 w0.heap.size v b) :
    Calls Try.prog 84 #[.int .i64 p, u, v] w0 fun e w' => ∃ r, e = .returned (.tuple #[r, .bool (penOf p a b).2]) ∧ RepO w' w0.heap.size w'.heap.size r (penOf p a b).1 ∧ Below w0.heap.size w0 w' := by
  obtain ⟨A, ac, rfl, hfa, har, hac, la⟩ := ha.open_
  obtain ⟨C, cc, rfl, hfb, hbr, hbc, lb⟩ := hbm.open_
  clear ha hbm
  obtain ⟨W, hW⟩ : ∃ W, W = ((w0.alloc (.cells #[.int .i64 a.r, .int .i64 a.c, .slice A a.a.length ac] 60)).alloc (.cells #[.int .i64 b.r, .int .i64 b.c, .slice C b.a.length cc] 60)).alloc (.cells #[.int .i64 0, .int .i64 0, .slice none 0 0, .slice none 0 0, .slice none 0 0, .slice none 0 0] 40) := ⟨_, rfl⟩
  have g0 : Below w0.heap.size w0 W := by rw [hW]; exact (((Below.refl _ _).alloc (Nat.le_refl _) _).alloc (by simp) _).alloc (by simp; omega) _
  have k1 : Blk W w0.heap.size 60 #[.int .i64 a.r, .int .i64 a.c, .slice A a.a.length ac] := by rw [hW]; exact ((Blk.new _ _ _).alloc _).alloc _
  have k2 : Blk W (w0.heap.size + 1) 60 #[.int .i64 b.r, .int .i64 b.c, .slice C b.a.length cc] := by
    rw [hW]
    have := (Blk.new (w0.alloc (.cells #[.int .i64 a.r, .int .i64 a.c, .slice A a.a.length ac] 60)) 60 #[.int .i64 b.r, .int .i64 b.c, .slice C b.a.length cc]).alloc (.cells #[.int .i64 0, .int .i64 0, .slice none 0 0, .slice none 0 0, .slice none 0 0, .slice none 0 0] 40)
    simpa only [World.size_alloc] using this
  have k3 : Blk W (w0.heap.size + 1 + 1) 40 #[.int .i64 0, .int .i64 0, .slice none 0 0, .slice none 0 0, .slice none 0 0, .slice none 0 0] := by
    rw [hW]
    have := Blk.new ((w0.alloc (.cells #[.int .i64 a.r, .int .i64 a.c, .slice A a.a.length ac] 60)).alloc (.cells #[.int .i64 b.r, .int .i64 b.c, .slice C b.a.length cc] 60)) 40 #[.int .i64 0, .int .i64 0, .slice none 0 0, .slice none 0 0, .slice none 0 0, .slice none 0 0]
    simpa only [World.size_alloc] using this
  have sz : W.heap.size = w0.heap.size + 1 + 1 + 1 := by rw [hW]; simp
  have SZ := Lib.hid sz
  clear sz
  have hfaW := SlI.next g0 hfa
  have hfbW := SlI.next g0 hfb
  go_enter Try.func84, Try.ntmps84
  go_wp2
  rw [← hW]; clear hW
  refine wp_region_net (by kernel_rfl) [.eq (.int .i64 p), rel 1 (fun u lo hi w => QuivO w lo hi u pQ), .eq (.pointer (some ⟨w0.heap.size, 1, none⟩)), .eq (.int .i64 a.c), .eq (.pointer (some ⟨w0.heap.size, 0, none⟩)), .eq (.int .i64 a.r), rel 6 (fun u lo hi w => IntsO w lo hi u [a.c, a.r]), .eq (.agg #[.int .i64 a.r, .int .i64 a.c, .slice A a.a.length ac]), .eq (.agg #[.int .i64 b.r, .int .i64 b.c, .slice C b.a.length cc]), rel 9 (fun u lo hi w => SlM w w.heap.size u [a, b]), rel 10 (fun u lo hi w => MatsO w lo hi u [a, b]), .rel (fun x w => ∃ qa qb, x.v 1 = .agg #[.int .i64 2, qa, qb] ∧ x.v 11 = .agg #[.int .i64 p, .int .i64 2, qa, qb, x.v 6, x.v 10]), rel 12 (fun u lo hi w => ∃ g, u = .pointer (some ⟨g, 0, none⟩) ∧ (lo ≤ g ∧ g < hi) ∧ Blk w g 40 #[.int .i64 0, .int .i64 0, .slice none 0 0, .slice none 0 0, .slice none 0 0, .slice none 0 0])] [[], [], [], [2], [], [4], [2, 3, 4, 5], [], [], [7, 8], [1, 7, 8, 9], [0, 1, 2, 3, 4, 5, 6, 7, 8, 9, 10], [], [0, 1, 2, 3, 4, 5, 6, 7, 8, 9, 10, 11, 12]] 13 (by kernel_rfl) ⟨trivial, rel_stable (fun u lo hi w w' h hb => h.below hb), trivial, trivial, trivial, trivial, rel_stable (fun u lo hi w w' h hb => h.below hb), trivial, trivial, rel_stable (fun u lo hi w w' h hb => SlM.next hb h), rel_stable (fun u lo hi w w' h hb => h.below hb), fun x w w' h hb => h, rel_stable (fun u lo hi w w' ⟨g, e, h1, h⟩ hb => ⟨g, e, h1, h.call hb⟩), trivial⟩ ⟨?_, ?_, ?_, ?_, ?_, ?_, ?_, ?_, ?_, ?_, ?_, ?_, ?_, trivial⟩ ?_
  · intro x w hb hk Q' hQ
    clear hk
    simp only [netAct, dstAt, List.getElem?_toArray, List.getElem?_cons_zero, List.getElem?_cons_succ, Option.bind_some, Act.put, List.setIfInBounds_toArray, List.set_cons_zero, List.set_cons_succ] at hQ ⊢
    go_wp2
    exact hQ (.int .i64 p) _ (Below.refl _ _) rfl
  · intro x w hb hk Q' hQ
    clear hk
    simp only [netAct, dstAt, List.getElem?_toArray, List.getElem?_cons_zero, List.getElem?_cons_succ, Option.bind_some, Act.put, List.setIfInBounds_toArray, List.set_cons_zero, List.set_cons_succ] at hQ ⊢
    go_wp2_with fail
    refine (pencilQuiver_any _).mono ?_; rintro e w1 ⟨v1, rfl, ho, hb1⟩
    go_wp2
    exact hQ _ _ hb1 ho
  · intro x w hb hk Q' hQ
    clear hk
    simp only [netAct, dstAt, List.getElem?_toArray, List.getElem?_cons_zero, List.getElem?_cons_succ, Option.bind_some, Act.put, List.setIfInBounds_toArray, List.set_cons_zero, List.set_cons_succ] at hQ ⊢
    go_wp2
    exact hQ (.pointer (some ⟨w0.heap.size, 1, none⟩)) _ (Below.refl _ _) rfl
  · intro x w hb hk Q' hQ
    have h2 : x.v 2 = .pointer (some ⟨w0.heap.size, 1, none⟩) := (hk 2 (by decide)).1
    clear hk
    simp only [netAct, dstAt, List.getElem?_toArray, List.getElem?_cons_zero, List.getElem?_cons_succ, Option.bind_some, Act.put, List.setIfInBounds_toArray, List.set_cons_zero, List.set_cons_succ] at hQ ⊢
    simp only [h2] at hQ ⊢
    clear h2
    have z := (k1.call hb).cell' (i := 1) rfl
    go_wp2
    exact hQ (.int .i64 a.c) _ (Below.refl _ _) rfl
  · intro x w hb hk Q' hQ
    clear hk
    simp only [netAct, dstAt, List.getElem?_toArray, List.getElem?_cons_zero, List.getElem?_cons_succ, Option.bind_some, Act.put, List.setIfInBounds_toArray, List.set_cons_zero, List.set_cons_succ] at hQ ⊢
    go_wp2
    exact hQ (.pointer (some ⟨w0.heap.size, 0, none⟩)) _ (Below.refl _ _) rfl
  · intro x w hb hk Q' hQ
    have h4 : x.v 4 = .pointer (some ⟨w0.heap.size, 0, none⟩) := (hk 4 (by decide)).1
    clear hk
    simp only [netAct, dstAt, List.getElem?_toArray, List.getElem?_cons_zero, List.getElem?_cons_succ, Option.bind_some, Act.put, List.setIfInBounds_toArray, List.set_cons_zero, List.set_cons_succ] at hQ ⊢
    simp only [h4] at hQ ⊢
    clear h4
    have z := (k1.call hb).cell' (i := 0) rfl
    go_wp2
    exact hQ (.int .i64 a.r) _ (Below.refl _ _) rfl
  · intro x w hb hk Q' hQ
    have h2 : x.v 2 = .pointer (some ⟨w0.heap.size, 1, none⟩) := (hk 2 (by decide)).1
    have h3 : x.v 3 = .int .i64 a.c := (hk 3 (by decide)).1
    have h4 : x.v 4 = .pointer (some ⟨w0.heap.size, 0, none⟩) := (hk 4 (by decide)).1
    have h5 : x.v 5 = .int .i64 a.r := (hk 5 (by decide)).1
    clear hk
    simp only [netAct, dstAt, List.getElem?_toArray, List.getElem?_cons_zero, List.getElem?_cons_succ, Option.bind_some, Act.put, List.setIfInBounds_toArray, List.set_cons_zero, List.set_cons_succ] at hQ ⊢
    simp only [h2, h3, h4, h5] at hQ ⊢
    clear h2 h3 h4 h5
    go_wp2
    exact hQ _ _ (below_alloc _ _) (IntsO.two w a.c a.r hac har (Nat.le_refl _))
  · intro x w hb hk Q' hQ
    clear hk
    simp only [netAct, dstAt, List.getElem?_toArray, List.getElem?_cons_zero, List.getElem?_cons_succ, Option.bind_some, Act.put, List.setIfInBounds_toArray, List.set_cons_zero, List.set_cons_succ] at hQ ⊢
    have z0 := (k1.call hb).cell' (i := 0) rfl
    have z1 := (k1.call hb).cell' (i := 1) rfl
    have z2 := (k1.call hb).cell' (i := 2) rfl
    go_wp2
    exact hQ (.agg #[.int .i64 a.r, .int .i64 a.c, .slice A a.a.length ac]) _ (Below.refl _ _) rfl
  · intro x w hb hk Q' hQ
    clear hk
    simp only [netAct, dstAt, List.getElem?_toArray, List.getElem?_cons_zero, List.getElem?_cons_succ, Option.bind_some, Act.put, List.setIfInBounds_toArray, List.set_cons_zero, List.set_cons_succ] at hQ ⊢
    have z0 := (k2.call hb).cell' (i := 0) rfl
    have z1 := (k2.call hb).cell' (i := 1) rfl
    have z2 := (k2.call hb).cell' (i := 2) rfl
    go_wp2
    exact hQ (.agg #[.int .i64 b.r, .int .i64 b.c, .slice C b.a.length cc]) _ (Below.refl _ _) rfl
  · intro x w hb hk Q' hQ
    have h7 : x.v 7 = .agg #[.int .i64 a.r, .int .i64 a.c, .slice A a.a.length ac] := (hk 7 (by decide)).1
    have h8 : x.v 8 = .agg #[.int .i64 b.r, .int .i64 b.c, .slice C b.a.length cc] := (hk 8 (by decide)).1
    clear hk
    simp only [netAct, dstAt, List.getElem?_toArray, List.getElem?_cons_zero, List.getElem?_cons_succ, Option.bind_some, Act.put, List.setIfInBounds_toArray, List.set_cons_zero, List.set_cons_succ] at hQ ⊢
    simp only [h7, h8] at hQ ⊢
    clear h7 h8
    go_wp2
    exact hQ _ _ (below_alloc _ _) (SlM.two rfl (Blk.new _ _ _) (SlI.next (below_alloc _ _) (SlI.next hb hfaW)) (SlI.next (below_alloc _ _) (SlI.next hb hfbW)) ⟨har, hac⟩ ⟨hbr, hbc⟩)
  · intro x w hb hk Q' hQ
    have h1 : QuivO w (x.lo 1) (x.hi 1) (x.v 1) pQ := (hk 1 (by decide)).1
    have h7 : x.v 7 = .agg #[.int .i64 a.r, .int .i64 a.c, .slice A a.a.length ac] := (hk 7 (by decide)).1
    have h8 : x.v 8 = .agg #[.int .i64 b.r, .int .i64 b.c, .slice C b.a.length cc] := (hk 8 (by decide)).1
    have h9 : SlM w w.heap.size (x.v 9) [a, b] := (hk 9 (by decide)).1
    have s1 := (hk 1 (by decide)).2
    have s9 := (hk 9 (by decide)).2
    clear hk
    simp only [netAct, dstAt, List.getElem?_toArray, List.getElem?_cons_zero, List.getElem?_cons_succ, Option.bind_some, Act.put, List.setIfInBounds_toArray, List.set_cons_zero, List.set_cons_succ] at hQ ⊢
    simp only [h7, h8] at hQ ⊢
    clear h7 h8
    obtain ⟨A9, c9, e9, _, _, _, h9⟩ := h9.open_
    simp only [List.length_cons, List.length_nil] at e9 h9
    rw [e9] at hQ ⊢
    go_wp2_with fail
    refine (copyMatrices_any _ [a, b] _ h9 (by simp)).mono ?_; rintro e w1 ⟨v1, rfl, ho, hb1⟩
    go_wp2
    exact hQ _ _ hb1 ho
  · intro x w hb hk Q' hQ
    have h0 : x.v 0 = .int .i64 p := (hk 0 (by decide)).1
    have h1 : QuivO w (x.lo 1) (x.hi 1) (x.v 1) pQ := (hk 1 (by decide)).1
    have h2 : x.v 2 = .pointer (some ⟨w0.heap.size, 1, none⟩) := (hk 2 (by decide)).1
    have h3 : x.v 3 = .int .i64 a.c := (hk 3 (by decide)).1
    have h4 : x.v 4 = .pointer (some ⟨w0.heap.size, 0, none⟩) := (hk 4 (by decide)).1
    have h5 : x.v 5 = .int .i64 a.r := (hk 5 (by decide)).1
    have h6 : IntsO w (x.lo 6) (x.hi 6) (x.v 6) [a.c, a.r] := (hk 6 (by decide)).1
    have h7 : x.v 7 = .agg #[.int .i64 a.r, .int .i64 a.c, .slice A a.a.length ac] := (hk 7 (by decide)).1
    have h8 : x.v 8 = .agg #[.int .i64 b.r, .int .i64 b.c, .slice C b.a.length cc] := (hk 8 (by decide)).1
    have h9 : SlM w w.heap.size (x.v 9) [a, b] := (hk 9 (by decide)).1
    have h10 : MatsO w (x.lo 10) (x.hi 10) (x.v 10) [a, b] := (hk 10 (by decide)).1
    have s1 := (hk 1 (by decide)).2
    have s6 := (hk 6 (by decide)).2
    have s9 := (hk 9 (by decide)).2
    have s10 := (hk 10 (by decide)).2
    clear hk
    simp only [netAct, dstAt, List.getElem?_toArray, List.getElem?_cons_zero, List.getElem?_cons_succ, Option.bind_some, Act.put, List.setIfInBounds_toArray, List.set_cons_zero, List.set_cons_succ] at hQ ⊢
    simp only [h0, h2, h3, h4, h5, h7, h8] at hQ ⊢
    clear h0 h2 h3 h4 h5 h7 h8
    obtain ⟨qa, qb, e1, hqF, _⟩ := h1
    have f1 : IntsO w (x.lo 1) (x.hi 1) qa [0, 0] := hqF.1 (qa, [0, 0]) (by simp [pQ])
    have f2 : IntsO w (x.lo 1) (x.hi 1) qb [1, 1] := hqF.1 (qb, [1, 1]) (by simp [pQ])
    obtain ⟨qA, qc, rfl⟩ := f1.form
    obtain ⟨qB, qd, rfl⟩ := f2.form
    obtain ⟨dA, dc, e6⟩ := h6.form
    obtain ⟨vs, ho, _⟩ := h10
    obtain ⟨mA, mc, e10, _, _⟩ := ho.form
    have e1 : x.v 1 = .agg #[.int .i64 2, .slice qA 2 qc, .slice qB 2 qd] := e1
    have e6 : x.v 6 = .slice dA 2 dc := e6
    have e10 : x.v 10 = .slice mA 2 mc := e10
    have hQ' := hQ (.agg #[.int .i64 p, .int .i64 2, .slice qA 2 qc, .slice qB 2 qd, x.v 6, x.v 10]) w (Below.refl _ _) ⟨_, _, e1, rfl⟩
    rw [e1, e6, e10] at hQ' ⊢
    go_wp2
    exact hQ'
  · intro x w hb hk Q' hQ
    clear hk
    simp only [netAct, dstAt, List.getElem?_toArray, List.getElem?_cons_zero, List.getElem?_cons_succ, Option.bind_some, Act.put, List.setIfInBounds_toArray, List.set_cons_zero, List.set_cons_succ] at hQ ⊢
    go_wp2
    exact hQ _ _ (below_alloc _ _) ⟨_, rfl, ⟨Nat.le_refl _, by show w.heap.size < (w.alloc _).heap.size; simp⟩, Blk.new _ _ _⟩
  · intro x w hb hk hiv hdj
    have h0 : x.v 0 = .int .i64 p := hk 0 (by decide)
    have h1 : QuivO w (x.lo 1) (x.hi 1) (x.v 1) pQ := hk 1 (by decide)
    have h2 : x.v 2 = .pointer (some ⟨w0.heap.size, 1, none⟩) := hk 2 (by decide)
    have h3 : x.v 3 = .int .i64 a.c := hk 3 (by decide)
    have h4 : x.v 4 = .pointer (some ⟨w0.heap.size, 0, none⟩) := hk 4 (by decide)
    have h5 : x.v 5 = .int .i64 a.r := hk 5 (by decide)
    have h6 : IntsO w (x.lo 6) (x.hi 6) (x.v 6) [a.c, a.r] := hk 6 (by decide)
    have h7 : x.v 7 = .agg #[.int .i64 a.r, .int .i64 a.c, .slice A a.a.length ac] := hk 7 (by decide)
    have h8 : x.v 8 = .agg #[.int .i64 b.r, .int .i64 b.c, .slice C b.a.length cc] := hk 8 (by decide)
    have h9 : SlM w w.heap.size (x.v 9) [a, b] := hk 9 (by decide)
    have h10 : MatsO w (x.lo 10) (x.hi 10) (x.v 10) [a, b] := hk 10 (by decide)
    have h11 : ∃ qa qb, x.v 1 = .agg #[.int .i64 2, qa, qb] ∧ x.v 11 = .agg #[.int .i64 p, .int .i64 2, qa, qb, x.v 6, x.v 10] := hk 11 (by decide)
    have h12 : ∃ g, (x.v 12) = .pointer (some ⟨g, 0, none⟩) ∧ ((x.lo 12) ≤ g ∧ g < (x.hi 12)) ∧ Blk w g 40 #[.int .i64 0, .int .i64 0, .slice none 0 0, .slice none 0 0, .slice none 0 0, .slice none 0 0] := hk 12 (by decide)
    clear hk
    simp only [netAct, dstAt, List.getElem?_toArray, List.getElem?_cons_zero, List.getElem?_cons_succ, Option.bind_some, Act.put, List.setIfInBounds_toArray, List.set_cons_zero, List.set_cons_succ]
    simp only [List.drop_succ_cons, List.drop_zero, h0, h2, h3, h4, h5, h7, h8]
    clear h0 h2 h3 h4 h5 h7 h8
    obtain ⟨qa, qb, e1, hqF, _⟩ := h1
    have f1 : IntsO w (x.lo 1) (x.hi 1) qa [0, 0] := hqF.1 (qa, [0, 0]) (by simp [pQ])
    have f2 : IntsO w (x.lo 1) (x.hi 1) qb [1, 1] := hqF.1 (qb, [1, 1]) (by simp [pQ])
    obtain ⟨qA, qc, rfl⟩ := f1.form
    obtain ⟨qB, qd, rfl⟩ := f2.form
    obtain ⟨dA, dc, e6⟩ := h6.form
    obtain ⟨vs, ho, hvl, hFm, hIm⟩ := h10
    obtain ⟨mA, mc, e10, _, _⟩ := ho.form
    obtain ⟨qa', qb', e1', e11⟩ := h11
    obtain ⟨gR, e12, hgR, hBR⟩ := h12
    have e1 : x.v 1 = .agg #[.int .i64 2, .slice qA 2 qc, .slice qB 2 qd] := e1
    have e6 : x.v 6 = .slice dA 2 dc := e6
    have e10 : x.v 10 = .slice mA 2 mc := e10
    rw [e1] at e1'
    simp only [Value.agg.injEq, Array.mk.injEq, List.cons.injEq, and_true, true_and] at e1'
    obtain ⟨rfl, rfl⟩ := e1'
    rw [e6] at h6
    rw [e10] at ho
    rw [e6, e10] at e11
    have I := fun i (h : i < 13) => hiv i h
    have DJ := fun i j (h1 : i < 13) (h2 : j < 13) (h3 : i ≠ j) => hdj i j h1 h2 h3
    have i1 := I 1 (by decide)
    have i6 := I 6 (by decide)
    have i10 := I 10 (by decide)
    have i12 := I 12 (by decide)
    have d1 := DJ 1 12 (by decide) (by decide) (by decide)
    have d6 := DJ 6 12 (by decide) (by decide) (by decide)
    have d10 := DJ 10 12 (by decide) (by decide) (by decide)
    have hF3 : Fam w W.heap.size w.heap.size ([(.slice qA 2 qc, [0, 0]), (.slice qB 2 qd, [1, 1])] ++ ([(.slice dA 2 dc, [a.c, a.r])] ++ vs.zip ([a, b].map Mx.a))) :=
      Fam.three hqF (Fam.one h6) hFm (DJ 1 6 (by decide) (by decide) (by decide)) (DJ 1 10 (by decide) (by decide) (by decide)) (DJ 6 10 (by decide) (by decide) (by decide)) ⟨i1.1, i1.2.2⟩ ⟨i6.1, i6.2.2⟩ ⟨i10.1, i10.2.2⟩
    have hR : RepO w W.heap.size w.heap.size (.agg #[.int .i64 p, .int .i64 2, .slice qA 2 qc, .slice qB 2 qd, .slice dA 2 dc, .slice mA 2 mc]) (penRep p a b) :=
      ⟨_, _, _, _, vs, rfl, ho.mono i10.1 i10.2.2, hvl, hF3, ⟨hp, by simp [penRep, pQ, I64]⟩, hIm⟩
    rw [e11, e12]
    have fr := hBR.frozen
    have r0 := hBR.cell' (i := 0) rfl
    have r1 := hBR.cell' (i := 1) rfl
    have r2 := hBR.cell' (i := 2) rfl
    have r3 := hBR.cell' (i := 3) rfl
    have r4 := hBR.cell' (i := 4) rfl
    have r5 := hBR.cell' (i := 5) rfl
    obtain ⟨W3, hW3⟩ : ∃ W3, W3 = (((((w.setCell ⟨gR, 0, none⟩ (.int .i64 p)).setCell ⟨gR, 1, none⟩ (.int .i64 2)).setCell ⟨gR, 2, none⟩ (.slice qA 2 qc)).setCell ⟨gR, 3, none⟩ (.slice qB 2 qd)).setCell ⟨gR, 4, none⟩ (.slice dA 2 dc)).setCell ⟨gR, 5, none⟩ (.slice mA 2 mc) := ⟨_, rfl⟩
    have hB3 : Blk W3 gR 40 #[.int .i64 p, .int .i64 2, .slice qA 2 qc, .slice qB 2 qd, .slice dA 2 dc, .slice mA 2 mc] := by
      rw [hW3]
      exact (((((hBR.set_ 0 _).set_ 1 _).set_ 2 _).set_ 3 _).set_ 4 _).set_ 5 _
    have hCh : Chg gR (gR + 1) w W3 := by
      rw [hW3]
      exact chg6 _ _ _ _ _ _ _ _
    have hs3 : W3.heap.size = w.heap.size := by rw [hW3]; simp
    have hbs := hb.size
    have sz := SZ.out
    have k3w := k3.call hb
    have k33 : Blk W3 (w0.heap.size + 1 + 1) 40 _ := k3w.chg hCh (by omega)
    have gW3 : Below W.heap.size W W3 := hb.trans (hCh.below (by omega) (by omega))
    have g3 : Below w0.heap.size w0 W3 := g0.trans (gW3.mono g0.size)
    have hF3' : Fam W3 W.heap.size w.heap.size ([(.slice qA 2 qc, [0, 0]), (.slice qB 2 qd, [1, 1])] ++ ([(.slice dA 2 dc, [a.c, a.r])] ++ vs.zip ([a, b].map Mx.a))) :=
      Fam.three (hqF.chg hCh (by omega)) (Fam.one (h6.chg hCh (by omega))) (hFm.chg hCh (by omega)) (DJ 1 6 (by decide) (by decide) (by decide)) (DJ 1 10 (by decide) (by decide) (by decide)) (DJ 6 10 (by decide) (by decide) (by decide)) ⟨i1.1, i1.2.2⟩ ⟨i6.1, i6.2.2⟩ ⟨i10.1, i10.2.2⟩
    have hR3 : RepO W3 W.heap.size W3.heap.size (.agg #[.int .i64 p, .int .i64 2, .slice qA 2 qc, .slice qB 2 qd, .slice dA 2 dc, .slice mA 2 mc]) (penRep p a b) := by
      rw [hs3]
      exact ⟨_, _, _, _, vs, rfl, (ho.chg hCh (by omega)).mono i10.1 i10.2.2, hvl, hF3', ⟨hp, by simp [penRep, pQ, I64]⟩, hIm⟩
    have hS : W.heap.size ≤ W3.heap.size := gW3.size
    have HS := Lib.hid hS
    have HR3 := Lib.hid hR3
    have H3 := Lib.hid hB3
    have K3 := Lib.hid k33
    have G3 := Lib.hid g3
    clear h9 hqF hF3 hR hF3' hR3 hB3 k33 k3w gW3 g3 hCh hs3 hS ho hFm hIm h6 f1 f2 hiv hdj I DJ i1 i6 i10 i12 d1 d6 d10 e1 e6 e10 e11 e12 hBR hb hbs sz k1 k2 k3 hvl
    rcases hRep : isRep (penRep p a b) with _ | _
    · have hE := Lib.hid (show penOf p a b = (rp0, false) by rw [penOf, hRep]; rfl)
      have HREP := Lib.hid hRep
      clear hRep
      have z0 := H3.out.cell' (i := 0) rfl
      have z1 := H3.out.cell' (i := 1) rfl
      have z2 := H3.out.cell' (i := 2) rfl
      have z3 := H3.out.cell' (i := 3) rfl
      have z4 := H3.out.cell' (i := 4) rfl
      have z5 := H3.out.cell' (i := 5) rfl
      go_wp2_with fail
      rw [← hW3]
      clear hW3 r0 r1 r2 r3 r4 r5 fr
      refine (implIsRep_any _ (penRep p a b) _ HR3.out.rd).mono ?_; rintro e w4 ⟨rfl, hb4⟩
      rw [HREP.out]
      have k4 := K3.out.call hb4
      have fr := k4.frozen
      have s0 := k4.cell' (i := 0) rfl
      have s1 := k4.cell' (i := 1) rfl
      have s2 := k4.cell' (i := 2) rfl
      have s3 := k4.cell' (i := 3) rfl
      have s4 := k4.cell' (i := 4) rfl
      have s5 := k4.cell' (i := 5) rfl
      have HB4 := Lib.hid hb4
      clear z0 z1 z2 z3 z4 z5 hb4 k4
      go_wp2
      have gf := G3.out.trans (HB4.out.mono (G3.out).size)
      refine bodyPost_ret (v := .tuple #[.agg #[.int .i64 0, .int .i64 0, .slice none 0 0, .slice none 0 0, .slice none 0 0, .slice none 0 0], .bool false]) (by simp [results, go_sem, s0, s1, s2, s3, s4, s5]) rfl ⟨_, by rw [hE.out], by rw [hE.out]; exact RepO.zero _ _ _, (((((gf.setCell (by simp; omega) _).setCell (by simp; omega) _).setCell (by simp; omega) _).setCell (by simp; omega) _).setCell (by simp; omega) _).setCell (by simp; omega) _⟩
    · have hE := Lib.hid (show penOf p a b = (penRep p a b, true) by rw [penOf, hRep]; rfl)
      have HREP := Lib.hid hRep
      clear hRep
      have z0 := H3.out.cell' (i := 0) rfl
      have z1 := H3.out.cell' (i := 1) rfl
      have z2 := H3.out.cell' (i := 2) rfl
      have z3 := H3.out.cell' (i := 3) rfl
      have z4 := H3.out.cell' (i := 4) rfl
      have z5 := H3.out.cell' (i := 5) rfl
      go_wp2_with fail
      rw [← hW3]
      clear hW3 r0 r1 r2 r3 r4 r5 fr
      refine (implIsRep_any _ (penRep p a b) _ HR3.out.rd).mono ?_; rintro e w4 ⟨rfl, hb4⟩
      rw [HREP.out]
      have k4 := K3.out.call hb4
      have h4 := H3.out.call hb4
      have fr := k4.frozen
      have s0 := k4.cell' (i := 0) rfl
      have s1 := k4.cell' (i := 1) rfl
      have s2 := k4.cell' (i := 2) rfl
      have s3 := k4.cell' (i := 3) rfl
      have s4 := k4.cell' (i := 4) rfl
      have s5 := k4.cell' (i := 5) rfl
      clear z0 z1 z2 z3 z4 z5
      have z0 := h4.cell' (i := 0) rfl
      have z1 := h4.cell' (i := 1) rfl
      have z2 := h4.cell' (i := 2) rfl
      have z3 := h4.cell' (i := 3) rfl
      have z4 := h4.cell' (i := 4) rfl
      have z5 := h4.cell' (i := 5) rfl
      have hs4 := hb4.size
      have HS4 := Lib.hid hs4
      have HR4 := Lib.hid (HR3.out.below hb4)
      have HB4 := Lib.hid hb4
      clear hb4 k4 h4 hs4
      go_wp2
      have gf := G3.out.trans (HB4.out.mono (G3.out).size)
      have sz := SZ.out
      have hs4 := HS4.out
      have hS := HS.out
      refine bodyPost_ret (v := .tuple #[.agg #[.int .i64 p, .int .i64 2, .slice qA 2 qc, .slice qB 2 qd, .slice dA 2 dc, .slice mA 2 mc], .bool true]) (by simp [results, go_sem, s0, s1, s2, s3, s4, s5]) rfl ⟨_, by rw [hE.out], ?_, (((((gf.setCell (by simp; omega) _).setCell (by simp; omega) _).setCell (by simp; omega) _).setCell (by simp; omega) _).setCell (by simp; omega) _).setCell (by simp; omega) _⟩
      rw [hE.out]
      have hc : Chg (w0.heap.size + 1 + 1) (w0.heap.size + 1 + 1 + 1) w4 _ := (((((chg_set (w := w4) (p := ⟨w0.heap.size + 1 + 1, 0, none⟩) (u := .int .i64 p) (by simp) (by simp)).trans (chg_set (p := ⟨w0.heap.size + 1 + 1, 1, none⟩) (u := .int .i64 2) (by simp) (by simp))).trans (chg_set (p := ⟨w0.heap.size + 1 + 1, 2, none⟩) (u := .slice qA 2 qc) (by simp) (by simp))).trans (chg_set (p := ⟨w0.heap.size + 1 + 1, 3, none⟩) (u := .slice qB 2 qd) (by simp) (by simp))).trans (chg_set (p := ⟨w0.heap.size + 1 + 1, 4, none⟩) (u := .slice dA 2 dc) (by simp) (by simp))).trans (chg_set (p := ⟨w0.heap.size + 1 + 1, 5, none⟩) (u := .slice mA 2 mc) (by simp) (by simp))
      exact RepO.wider (HR4.out.chg hc (.inr (by omega))) (by omega) (by simp; omega)
end Go.Proofs.Ytbgjhnolnccnnaa
