/- The reference's PencilOf. -/
import Derived.Test.YtbgjhnolnccnnaaPenOf
namespace Go.Proofs.Ytbgjhnolnccnnaa
set_option linter.unusedVariables false
set_option linter.unusedSimpArgs false
open Go.RowKit

/-- a reading out of blocks from lo on alone -/
theorem OutM.two {w : World} {lo hi g : Nat} {a b : Mx} {u v : Value} (hg : Blk w g 60 #[.int .i64 a.r, .int .i64 a.c, u, .int .i64 b.r, .int .i64 b.c, v]) (h1 : lo ≤ g) (h2 : g < hi) : OutM w lo hi (.slice (some ⟨g, 0, none⟩) 2 2) [u, v] [a, b] :=
  ⟨⟨rfl, .inr ⟨g, 2, _, rfl, h1, hg, Nat.le_refl _, by decide, rfl, rfl⟩⟩, fun k hk => by simp [Value.ownBlock] at hk; omega, by simp⟩
theorem fam_ap {w : World} {l1 h1 l2 h2 : Nat} {L1 L2 : List (Value × List Int)} (f : Fam w l1 h1 L1) (g : Fam w l2 h2 L2) (hd : h1 ≤ l2 ∨ h2 ≤ l1) : ∀ a ∈ L1, ∀ b ∈ L2, a.1.ownBlock = none ∨ a.1.ownBlock ≠ b.1.ownBlock := by
  intro a ha b hb
  rcases hA : a.1.ownBlock with _ | x
  · exact .inl rfl
  · right
    intro e
    have q1 := (f.1 a ha).2 x hA
    have q2 := ((f.1 a ha).1.lt x hA).1
    have q3 := (g.1 b hb).2 x e.symm
    have q4 := ((g.1 b hb).1.lt x e.symm).1
    omega
theorem Fam.put {w : World} {lo hi l1 h1 : Nat} {L1 L2 : List (Value × List Int)} (f1 : Fam w l1 h1 L1) (f2 : Fam w lo hi L2) (ap : ∀ a ∈ L1, ∀ b ∈ L2, a.1.ownBlock = none ∨ a.1.ownBlock ≠ b.1.ownBlock) (b1 : lo ≤ l1 ∧ h1 ≤ hi) : Fam w lo hi (L1 ++ L2) := by
  refine ⟨fun p hp => ?_, ?_⟩
  · rcases List.mem_append.1 hp with hp | hp
    · exact (f1.1 p hp).wider b1.1 b1.2
    · exact f2.1 p hp
  · rw [List.pairwise_append]
    exact ⟨f1.2, f2.2, ap⟩
/-- four families of four stretches that are apart -/
theorem Fam.four {w : World} {lo hi l1 h1 l2 h2 l3 h3 l4 h4 : Nat} {L1 L2 L3 L4 : List (Value × List Int)} (f1 : Fam w l1 h1 L1) (f2 : Fam w l2 h2 L2) (f3 : Fam w l3 h3 L3) (f4 : Fam w l4 h4 L4) (d12 : h1 ≤ l2 ∨ h2 ≤ l1) (d13 : h1 ≤ l3 ∨ h3 ≤ l1) (d14 : h1 ≤ l4 ∨ h4 ≤ l1) (d23 : h2 ≤ l3 ∨ h3 ≤ l2) (d24 : h2 ≤ l4 ∨ h4 ≤ l2) (d34 : h3 ≤ l4 ∨ h4 ≤ l3)
    (b1 : lo ≤ l1 ∧ h1 ≤ hi) (b2 : lo ≤ l2 ∧ h2 ≤ hi) (b3 : lo ≤ l3 ∧ h3 ≤ hi) (b4 : lo ≤ l4 ∧ h4 ≤ hi) : Fam w lo hi (L1 ++ (L2 ++ (L3 ++ L4))) := by
  refine Fam.put f1 (Fam.three f2 f3 f4 d23 d24 d34 b2 b3 b4) (fun a ha b hb => ?_) b1
  rcases List.mem_append.1 hb with hb | hb
  · exact fam_ap f1 f2 d12 a ha b hb
  · rcases List.mem_append.1 hb with hb | hb
    · exact fam_ap f1 f3 d13 a ha b hb
    · exact fam_ap f1 f4 d14 a ha b hb

set_option maxHeartbeats 6400000 in
set_option maxRecDepth 100000 in
theorem specPencilOf_any (p : Int) (u : Value) (a : Mx) (v : Value) (b : Mx) (w0 : World) (hp : I64 p) (ha : MxR w0 w0.heap.size u a) (hbm : MxR w0 w0.heap.size v b) :
    Calls Try.prog 80 #[.int .i64 p, u, v] w0 fun e w' => ∃ r, e = .returned (.tuple #[r, .bool (penOf p a b).2]) ∧ RepO w' w0.heap.size w'.heap.size r (penOf p a b).1 ∧ Below w0.heap.size w0 w' := by
  obtain ⟨A, ac, rfl, hfa, har, hac, la⟩ := ha.open_
  obtain ⟨C, cc, rfl, hfb, hbr, hbc, lb⟩ := hbm.open_
  clear ha hbm
  obtain ⟨W, hW⟩ : ∃ W, W = ((w0.alloc (.cells #[.int .i64 a.r, .int .i64 a.c, .slice A a.a.length ac] 60)).alloc (.cells #[.int .i64 b.r, .int .i64 b.c, .slice C b.a.length cc] 60)).alloc (.cells #[.int .i64 0, .int .i64 0, .slice none 0 0, .slice none 0 0, .slice none 0 0, .slice none 0 0] 40) := ⟨_, rfl⟩
  have g0 : Below w0.heap.size w0 W := by rw [hW]; exact (((Below.refl _ _).alloc (Nat.le_refl _) _).alloc (by simp) _).alloc (by simp; omega) _
  have k1 : Blk W w0.heap.size 60 #[.int .i64 a.r, .int .i64 a.c, .slice A a.a.length ac] := by rw [hW]; exact ((Blk.new _ _ _).alloc _).alloc _
  have k2 : Blk W (w0.heap.size + 1) 60 #[.int .i64 b.r, .int .i64 b.c, .slice C b.a.length cc] := by
    rw [hW]
    have := (Blk.new (w0.alloc (.cells #[.int .i64 a.r, .int .i64 a.c, .slice A a.a.length ac] 60)) 60 #[.int .i64 b.r, .int .i64 b.c, .slice C b.a.length cc]).alloc (.cells #[.int .i64 0, .int .i64 0, .slice none 0 0, .slice none 0 0, .slice none 0 0, .slice none 0 0] 40)
    simpa only [World.size_alloc] using this
  have k3 : Blk W (w0.heap.size + 1 + 1) 40 #[.int .i64 0, .int .i64 0, .slice none 0 0, .slice none 0 0, .slice none 0 0, .slice none 0 0] := by
    rw [hW]
    have := Blk.new ((w0.alloc (.cells #[.int .i64 a.r, .int .i64 a.c, .slice A a.a.length ac] 60)).alloc (.cells #[.int .i64 b.r, .int .i64 b.c, .slice C b.a.length cc] 60)) 40 #[.int .i64 0, .int .i64 0, .slice none 0 0, .slice none 0 0, .slice none 0 0, .slice none 0 0]
    simpa only [World.size_alloc] using this
  have sz : W.heap.size = w0.heap.size + 1 + 1 + 1 := by rw [hW]; simp
  have SZ := Lib.hid sz
  clear sz
  have hfaW := SlI.next g0 hfa
  have hfbW := SlI.next g0 hfb
  go_enter Try.func80, Try.ntmps80
  go_wp2
  rw [← hW]; clear hW
  refine wp_region_net (by kernel_rfl) [.eq (.int .i64 p), rel 1 (fun u lo hi w => QuivO w lo hi u pQ), .eq (.pointer (some ⟨w0.heap.size, 1, none⟩)), .eq (.int .i64 a.c), .eq (.pointer (some ⟨w0.heap.size, 0, none⟩)), .eq (.int .i64 a.r), rel 6 (fun u lo hi w => IntsO w lo hi u [a.c, a.r]), .eq (.agg #[.int .i64 a.r, .int .i64 a.c, .slice A a.a.length ac]), rel 8 (fun u lo hi w => MxO w lo hi u a), .eq (.agg #[.int .i64 b.r, .int .i64 b.c, .slice C b.a.length cc]), rel 10 (fun u lo hi w => MxO w lo hi u b), .rel (fun x w => ∃ g s t, (x.lo 11 ≤ g ∧ g < x.hi 11) ∧ x.v 11 = .slice (some ⟨g, 0, none⟩) 2 2 ∧ x.v 8 = .agg #[.int .i64 a.r, .int .i64 a.c, s] ∧ x.v 10 = .agg #[.int .i64 b.r, .int .i64 b.c, t] ∧ Blk w g 60 #[.int .i64 a.r, .int .i64 a.c, s, .int .i64 b.r, .int .i64 b.c, t]), .rel (fun x w => ∃ qa qb, x.v 1 = .agg #[.int .i64 2, qa, qb] ∧ x.v 12 = .agg #[.int .i64 p, .int .i64 2, qa, qb, x.v 6, x.v 11]), rel 13 (fun u lo hi w => ∃ g, u = .pointer (some ⟨g, 0, none⟩) ∧ (lo ≤ g ∧ g < hi) ∧ Blk w g 40 #[.int .i64 0, .int .i64 0, .slice none 0 0, .slice none 0 0, .slice none 0 0, .slice none 0 0])] [[], [], [], [2], [], [4], [2, 3, 4, 5], [], [1, 7], [], [1, 7, 8, 9], [1, 7, 8, 9, 10], [0, 1, 2, 3, 4, 5, 6, 7, 8, 9, 10, 11], [], [0, 1, 2, 3, 4, 5, 6, 7, 8, 9, 10, 11, 12, 13]] 14 (by kernel_rfl) ⟨trivial, rel_stable (fun u lo hi w w' h hb => h.below hb), trivial, trivial, trivial, trivial, rel_stable (fun u lo hi w w' h hb => h.below hb), trivial, rel_stable (fun u lo hi w w' h hb => h.below hb), trivial, rel_stable (fun u lo hi w w' h hb => h.below hb), fun x w w' ⟨g, s, t, e0, e1, e2, e3, h⟩ hb => ⟨g, s, t, e0, e1, e2, e3, h.call hb⟩, fun x w w' h hb => h, rel_stable (fun u lo hi w w' ⟨g, e, h1, h⟩ hb => ⟨g, e, h1, h.call hb⟩), trivial⟩ ⟨?_, ?_, ?_, ?_, ?_, ?_, ?_, ?_, ?_, ?_, ?_, ?_, ?_, ?_, trivial⟩ ?_
  · intro x w hb hk Q' hQ
    clear hk
    simp only [netAct, dstAt, List.getElem?_toArray, List.getElem?_cons_zero, List.getElem?_cons_succ, Option.bind_some, Act.put, List.setIfInBounds_toArray, List.set_cons_zero, List.set_cons_succ] at hQ ⊢
    go_wp2
    exact hQ (.int .i64 p) _ (Below.refl _ _) rfl
  · intro x w hb hk Q' hQ
    clear hk
    simp only [netAct, dstAt, List.getElem?_toArray, List.getElem?_cons_zero, List.getElem?_cons_succ, Option.bind_some, Act.put, List.setIfInBounds_toArray, List.set_cons_zero, List.set_cons_succ] at hQ ⊢
    go_wp2_with fail
    refine (l26Quiver_any _).mono ?_; rintro e w1 ⟨v1, rfl, ho, hb1⟩
    go_wp2
    exact hQ _ _ hb1 ho
  · intro x w hb hk Q' hQ
    clear hk
    simp only [netAct, dstAt, List.getElem?_toArray, List.getElem?_cons_zero, List.getElem?_cons_succ, Option.bind_some, Act.put, List.setIfInBounds_toArray, List.set_cons_zero, List.set_cons_succ] at hQ ⊢
    go_wp2
    exact hQ (.pointer (some ⟨w0.heap.size, 1, none⟩)) _ (Below.refl _ _) rfl
  · intro x w hb hk Q' hQ
    have h2 : x.v 2 = .pointer (some ⟨w0.heap.size, 1, none⟩) := (hk 2 (by decide)).1
    clear hk
    simp only [netAct, dstAt, List.getElem?_toArray, List.getElem?_cons_zero, List.getElem?_cons_succ, Option.bind_some, Act.put, List.setIfInBounds_toArray, List.set_cons_zero, List.set_cons_succ] at hQ ⊢
    simp only [h2] at hQ ⊢
    clear h2
    have z := (k1.call hb).cell' (i := 1) rfl
    go_wp2
    exact hQ (.int .i64 a.c) _ (Below.refl _ _) rfl
  · intro x w hb hk Q' hQ
    clear hk
    simp only [netAct, dstAt, List.getElem?_toArray, List.getElem?_cons_zero, List.getElem?_cons_succ, Option.bind_some, Act.put, List.setIfInBounds_toArray, List.set_cons_zero, List.set_cons_succ] at hQ ⊢
    go_wp2
    exact hQ (.pointer (some ⟨w0.heap.size, 0, none⟩)) _ (Below.refl _ _) rfl
  · intro x w hb hk Q' hQ
    have h4 : x.v 4 = .pointer (some ⟨w0.heap.size, 0, none⟩) := (hk 4 (by decide)).1
    clear hk
    simp only [netAct, dstAt, List.getElem?_toArray, List.getElem?_cons_zero, List.getElem?_cons_succ, Option.bind_some, Act.put, List.setIfInBounds_toArray, List.set_cons_zero, List.set_cons_succ] at hQ ⊢
    simp only [h4] at hQ ⊢
    clear h4
    have z := (k1.call hb).cell' (i := 0) rfl
    go_wp2
    exact hQ (.int .i64 a.r) _ (Below.refl _ _) rfl
  · intro x w hb hk Q' hQ
    have h2 : x.v 2 = .pointer (some ⟨w0.heap.size, 1, none⟩) := (hk 2 (by decide)).1
    have h3 : x.v 3 = .int .i64 a.c := (hk 3 (by decide)).1
    have h4 : x.v 4 = .pointer (some ⟨w0.heap.size, 0, none⟩) := (hk 4 (by decide)).1
    have h5 : x.v 5 = .int .i64 a.r := (hk 5 (by decide)).1
    clear hk
    simp only [netAct, dstAt, List.getElem?_toArray, List.getElem?_cons_zero, List.getElem?_cons_succ, Option.bind_some, Act.put, List.setIfInBounds_toArray, List.set_cons_zero, List.set_cons_succ] at hQ ⊢
    simp only [h2, h3, h4, h5] at hQ ⊢
    clear h2 h3 h4 h5
    go_wp2
    exact hQ _ _ (below_alloc _ _) (IntsO.two w a.c a.r hac har (Nat.le_refl _))
  · intro x w hb hk Q' hQ
    clear hk
    simp only [netAct, dstAt, List.getElem?_toArray, List.getElem?_cons_zero, List.getElem?_cons_succ, Option.bind_some, Act.put, List.setIfInBounds_toArray, List.set_cons_zero, List.set_cons_succ] at hQ ⊢
    have z0 := (k1.call hb).cell' (i := 0) rfl
    have z1 := (k1.call hb).cell' (i := 1) rfl
    have z2 := (k1.call hb).cell' (i := 2) rfl
    go_wp2
    exact hQ (.agg #[.int .i64 a.r, .int .i64 a.c, .slice A a.a.length ac]) _ (Below.refl _ _) rfl
  · intro x w hb hk Q' hQ
    have h1 : QuivO w (x.lo 1) (x.hi 1) (x.v 1) pQ := (hk 1 (by decide)).1
    have h7 : x.v 7 = .agg #[.int .i64 a.r, .int .i64 a.c, .slice A a.a.length ac] := (hk 7 (by decide)).1
    have s1 := (hk 1 (by decide)).2
    clear hk
    simp only [netAct, dstAt, List.getElem?_toArray, List.getElem?_cons_zero, List.getElem?_cons_succ, Option.bind_some, Act.put, List.setIfInBounds_toArray, List.set_cons_zero, List.set_cons_succ] at hQ ⊢
    simp only [h7] at hQ ⊢
    clear h7
    go_wp2_with fail
    refine (l3Copy_any _ a _ ⟨_, rfl, SlI.next hb hfaW, har, hac⟩).mono ?_; rintro e w1 ⟨v1, rfl, ho, hb1⟩
    go_wp2
    exact hQ _ _ hb1 ho
  · intro x w hb hk Q' hQ
    clear hk
    simp only [netAct, dstAt, List.getElem?_toArray, List.getElem?_cons_zero, List.getElem?_cons_succ, Option.bind_some, Act.put, List.setIfInBounds_toArray, List.set_cons_zero, List.set_cons_succ] at hQ ⊢
    have z0 := (k2.call hb).cell' (i := 0) rfl
    have z1 := (k2.call hb).cell' (i := 1) rfl
    have z2 := (k2.call hb).cell' (i := 2) rfl
    go_wp2
    exact hQ (.agg #[.int .i64 b.r, .int .i64 b.c, .slice C b.a.length cc]) _ (Below.refl _ _) rfl
  · intro x w hb hk Q' hQ
    have h1 : QuivO w (x.lo 1) (x.hi 1) (x.v 1) pQ := (hk 1 (by decide)).1
    have h7 : x.v 7 = .agg #[.int .i64 a.r, .int .i64 a.c, .slice A a.a.length ac] := (hk 7 (by decide)).1
    have h8 : MxO w (x.lo 8) (x.hi 8) (x.v 8) a := (hk 8 (by decide)).1
    have h9 : x.v 9 = .agg #[.int .i64 b.r, .int .i64 b.c, .slice C b.a.length cc] := (hk 9 (by decide)).1
    have s1 := (hk 1 (by decide)).2
    have s8 := (hk 8 (by decide)).2
    clear hk
    simp only [netAct, dstAt, List.getElem?_toArray, List.getElem?_cons_zero, List.getElem?_cons_succ, Option.bind_some, Act.put, List.setIfInBounds_toArray, List.set_cons_zero, List.set_cons_succ] at hQ ⊢
    simp only [h7, h9] at hQ ⊢
    clear h7 h9
    go_wp2_with fail
    refine (l3Copy_any _ b _ ⟨_, rfl, SlI.next hb hfbW, hbr, hbc⟩).mono ?_; rintro e w1 ⟨v1, rfl, ho, hb1⟩
    go_wp2
    exact hQ _ _ hb1 ho
  · intro x w hb hk Q' hQ
    have h1 : QuivO w (x.lo 1) (x.hi 1) (x.v 1) pQ := (hk 1 (by decide)).1
    have h7 : x.v 7 = .agg #[.int .i64 a.r, .int .i64 a.c, .slice A a.a.length ac] := (hk 7 (by decide)).1
    have h8 : MxO w (x.lo 8) (x.hi 8) (x.v 8) a := (hk 8 (by decide)).1
    have h9 : x.v 9 = .agg #[.int .i64 b.r, .int .i64 b.c, .slice C b.a.length cc] := (hk 9 (by decide)).1
    have h10 : MxO w (x.lo 10) (x.hi 10) (x.v 10) b := (hk 10 (by decide)).1
    have s1 := (hk 1 (by decide)).2
    have s8 := (hk 8 (by decide)).2
    have s10 := (hk 10 (by decide)).2
    clear hk
    simp only [netAct, dstAt, List.getElem?_toArray, List.getElem?_cons_zero, List.getElem?_cons_succ, Option.bind_some, Act.put, List.setIfInBounds_toArray, List.set_cons_zero, List.set_cons_succ] at hQ ⊢
    simp only [h7, h9] at hQ ⊢
    clear h7 h9
    obtain ⟨s, e8, hs, _⟩ := h8
    obtain ⟨t, e10, ht, _⟩ := h10
    obtain ⟨sA, sc, es⟩ := hs.form
    obtain ⟨tA, tc, et⟩ := ht.form
    obtain ⟨sn, hsn⟩ : ∃ n, a.a.length = n := ⟨_, rfl⟩
    obtain ⟨tn, htn⟩ : ∃ n, b.a.length = n := ⟨_, rfl⟩
    rw [hsn] at es
    rw [htn] at et
    clear hsn htn hs ht
    subst es et
    have hQ' := hQ (.slice (some ⟨w.heap.size, 0, none⟩) 2 2) (w.alloc (.cells #[.int .i64 a.r, .int .i64 a.c, .slice sA sn sc, .int .i64 b.r, .int .i64 b.c, .slice tA tn tc] 60)) (below_alloc _ _) ⟨_, _, _, ⟨Nat.le_refl _, by show w.heap.size < (w.alloc _).heap.size; simp⟩, rfl, e8, e10, Blk.new _ _ _⟩
    rw [e8, e10] at hQ' ⊢
    go_wp2
    exact hQ'
  · intro x w hb hk Q' hQ
    have h0 : x.v 0 = .int .i64 p := (hk 0 (by decide)).1
    have h1 : QuivO w (x.lo 1) (x.hi 1) (x.v 1) pQ := (hk 1 (by decide)).1
    have h2 : x.v 2 = .pointer (some ⟨w0.heap.size, 1, none⟩) := (hk 2 (by decide)).1
    have h3 : x.v 3 = .int .i64 a.c := (hk 3 (by decide)).1
    have h4 : x.v 4 = .pointer (some ⟨w0.heap.size, 0, none⟩) := (hk 4 (by decide)).1
    have h5 : x.v 5 = .int .i64 a.r := (hk 5 (by decide)).1
    have h6 : IntsO w (x.lo 6) (x.hi 6) (x.v 6) [a.c, a.r] := (hk 6 (by decide)).1
    have h7 : x.v 7 = .agg #[.int .i64 a.r, .int .i64 a.c, .slice A a.a.length ac] := (hk 7 (by decide)).1
    have h8 : MxO w (x.lo 8) (x.hi 8) (x.v 8) a := (hk 8 (by decide)).1
    have h9 : x.v 9 = .agg #[.int .i64 b.r, .int .i64 b.c, .slice C b.a.length cc] := (hk 9 (by decide)).1
    have h10 : MxO w (x.lo 10) (x.hi 10) (x.v 10) b := (hk 10 (by decide)).1
    have h11 : ∃ g s t, (x.lo 11 ≤ g ∧ g < x.hi 11) ∧ x.v 11 = .slice (some ⟨g, 0, none⟩) 2 2 ∧ x.v 8 = .agg #[.int .i64 a.r, .int .i64 a.c, s] ∧ x.v 10 = .agg #[.int .i64 b.r, .int .i64 b.c, t] ∧ Blk w g 60 #[.int .i64 a.r, .int .i64 a.c, s, .int .i64 b.r, .int .i64 b.c, t] := (hk 11 (by decide)).1
    have s1 := (hk 1 (by decide)).2
    have s6 := (hk 6 (by decide)).2
    have s8 := (hk 8 (by decide)).2
    have s10 := (hk 10 (by decide)).2
    have s11 := (hk 11 (by decide)).2
    clear hk
    simp only [netAct, dstAt, List.getElem?_toArray, List.getElem?_cons_zero, List.getElem?_cons_succ, Option.bind_some, Act.put, List.setIfInBounds_toArray, List.set_cons_zero, List.set_cons_succ] at hQ ⊢
    simp only [h0, h2, h3, h4, h5, h7, h9] at hQ ⊢
    clear h0 h2 h3 h4 h5 h7 h9
    obtain ⟨qa, qb, e1, hqF, _⟩ := h1
    have f1 : IntsO w (x.lo 1) (x.hi 1) qa [0, 0] := hqF.1 (qa, [0, 0]) (by simp [pQ])
    have f2 : IntsO w (x.lo 1) (x.hi 1) qb [1, 1] := hqF.1 (qb, [1, 1]) (by simp [pQ])
    obtain ⟨qA, qc, rfl⟩ := f1.form
    obtain ⟨qB, qd, rfl⟩ := f2.form
    obtain ⟨dA, dc, e6⟩ := h6.form
    obtain ⟨g, s, t, _, e11, _⟩ := h11
    have e1 : x.v 1 = .agg #[.int .i64 2, .slice qA 2 qc, .slice qB 2 qd] := e1
    have e6 : x.v 6 = .slice dA 2 dc := e6
    have hQ' := hQ (.agg #[.int .i64 p, .int .i64 2, .slice qA 2 qc, .slice qB 2 qd, x.v 6, x.v 11]) w (Below.refl _ _) ⟨_, _, e1, rfl⟩
    rw [e1, e6, e11] at hQ' ⊢
    go_wp2
    exact hQ'
  · intro x w hb hk Q' hQ
    clear hk
    simp only [netAct, dstAt, List.getElem?_toArray, List.getElem?_cons_zero, List.getElem?_cons_succ, Option.bind_some, Act.put, List.setIfInBounds_toArray, List.set_cons_zero, List.set_cons_succ] at hQ ⊢
    go_wp2
    exact hQ _ _ (below_alloc _ _) ⟨_, rfl, ⟨Nat.le_refl _, by show w.heap.size < (w.alloc _).heap.size; simp⟩, Blk.new _ _ _⟩
  · intro x w hb hk hiv hdj
    have h0 : x.v 0 = .int .i64 p := hk 0 (by decide)
    have h1 : QuivO w (x.lo 1) (x.hi 1) (x.v 1) pQ := hk 1 (by decide)
    have h2 : x.v 2 = .pointer (some ⟨w0.heap.size, 1, none⟩) := hk 2 (by decide)
    have h3 : x.v 3 = .int .i64 a.c := hk 3 (by decide)
    have h4 : x.v 4 = .pointer (some ⟨w0.heap.size, 0, none⟩) := hk 4 (by decide)
    have h5 : x.v 5 = .int .i64 a.r := hk 5 (by decide)
    have h6 : IntsO w (x.lo 6) (x.hi 6) (x.v 6) [a.c, a.r] := hk 6 (by decide)
    have h7 : x.v 7 = .agg #[.int .i64 a.r, .int .i64 a.c, .slice A a.a.length ac] := hk 7 (by decide)
    have h8 : MxO w (x.lo 8) (x.hi 8) (x.v 8) a := hk 8 (by decide)
    have h9 : x.v 9 = .agg #[.int .i64 b.r, .int .i64 b.c, .slice C b.a.length cc] := hk 9 (by decide)
    have h10 : MxO w (x.lo 10) (x.hi 10) (x.v 10) b := hk 10 (by decide)
    have h11 : ∃ g s t, (x.lo 11 ≤ g ∧ g < x.hi 11) ∧ x.v 11 = .slice (some ⟨g, 0, none⟩) 2 2 ∧ x.v 8 = .agg #[.int .i64 a.r, .int .i64 a.c, s] ∧ x.v 10 = .agg #[.int .i64 b.r, .int .i64 b.c, t] ∧ Blk w g 60 #[.int .i64 a.r, .int .i64 a.c, s, .int .i64 b.r, .int .i64 b.c, t] := hk 11 (by decide)
    have h12 : ∃ qa qb, x.v 1 = .agg #[.int .i64 2, qa, qb] ∧ x.v 12 = .agg #[.int .i64 p, .int .i64 2, qa, qb, x.v 6, x.v 11] := hk 12 (by decide)
    have h13 : ∃ g, (x.v 13) = .pointer (some ⟨g, 0, none⟩) ∧ ((x.lo 13) ≤ g ∧ g < (x.hi 13)) ∧ Blk w g 40 #[.int .i64 0, .int .i64 0, .slice none 0 0, .slice none 0 0, .slice none 0 0, .slice none 0 0] := hk 13 (by decide)
    clear hk
    simp only [netAct, dstAt, List.getElem?_toArray, List.getElem?_cons_zero, List.getElem?_cons_succ, Option.bind_some, Act.put, List.setIfInBounds_toArray, List.set_cons_zero, List.set_cons_succ]
    simp only [List.drop_succ_cons, List.drop_zero, h0, h2, h3, h4, h5, h7, h9]
    clear h0 h2 h3 h4 h5 h7 h9
    obtain ⟨qa, qb, e1, hqF, _⟩ := h1
    have f1 : IntsO w (x.lo 1) (x.hi 1) qa [0, 0] := hqF.1 (qa, [0, 0]) (by simp [pQ])
    have f2 : IntsO w (x.lo 1) (x.hi 1) qb [1, 1] := hqF.1 (qb, [1, 1]) (by simp [pQ])
    obtain ⟨qA, qc, rfl⟩ := f1.form
    obtain ⟨qB, qd, rfl⟩ := f2.form
    obtain ⟨dA, dc, e6⟩ := h6.form
    obtain ⟨gm, s, t, hgi, e11, e8, e10, hBm⟩ := h11
    obtain ⟨s', e8', hs, _⟩ := h8
    obtain ⟨t', e10', ht, _⟩ := h10
    rw [e8] at e8'
    rw [e10] at e10'
    simp only [Value.agg.injEq, Array.mk.injEq, List.cons.injEq, and_true, true_and] at e8' e10'
    subst e8' e10'
    obtain ⟨qa', qb', e1', e12⟩ := h12
    obtain ⟨gR, e13, hgR, hBR⟩ := h13
    have e1 : x.v 1 = .agg #[.int .i64 2, .slice qA 2 qc, .slice qB 2 qd] := e1
    have e6 : x.v 6 = .slice dA 2 dc := e6
    rw [e1] at e1'
    simp only [Value.agg.injEq, Array.mk.injEq, List.cons.injEq, and_true, true_and] at e1'
    obtain ⟨rfl, rfl⟩ := e1'
    rw [e6] at h6
    rw [e6, e11] at e12
    have i1 := hiv 1 (by decide)
    have i6 := hiv 6 (by decide)
    have i8 := hiv 8 (by decide)
    have i10 := hiv 10 (by decide)
    have i13 := hiv 13 (by decide)
    have d1 := hdj 1 13 (by decide) (by decide) (by decide)
    have d6 := hdj 6 13 (by decide) (by decide) (by decide)
    have d8 := hdj 8 13 (by decide) (by decide) (by decide)
    have d10 := hdj 10 13 (by decide) (by decide) (by decide)
    rw [e12, e13]
    have fr := hBR.frozen
    have r0 := hBR.cell' (i := 0) rfl
    have r1 := hBR.cell' (i := 1) rfl
    have r2 := hBR.cell' (i := 2) rfl
    have r3 := hBR.cell' (i := 3) rfl
    have r4 := hBR.cell' (i := 4) rfl
    have r5 := hBR.cell' (i := 5) rfl
    obtain ⟨W3, hW3⟩ : ∃ W3, W3 = (((((w.setCell ⟨gR, 0, none⟩ (.int .i64 p)).setCell ⟨gR, 1, none⟩ (.int .i64 2)).setCell ⟨gR, 2, none⟩ (.slice qA 2 qc)).setCell ⟨gR, 3, none⟩ (.slice qB 2 qd)).setCell ⟨gR, 4, none⟩ (.slice dA 2 dc)).setCell ⟨gR, 5, none⟩ (.slice (some ⟨gm, 0, none⟩) 2 2) := ⟨_, rfl⟩
    have hB3 : Blk W3 gR 40 #[.int .i64 p, .int .i64 2, .slice qA 2 qc, .slice qB 2 qd, .slice dA 2 dc, .slice (some ⟨gm, 0, none⟩) 2 2] := by
      rw [hW3]
      exact (((((hBR.set_ 0 _).set_ 1 _).set_ 2 _).set_ 3 _).set_ 4 _).set_ 5 _
    have hCh : Chg gR (gR + 1) w W3 := by
      rw [hW3]
      exact chg6 _ _ _ _ _ _ _ _
    have hgm : gm ≠ gR := by
      rintro rfl
      unfold Blk at hBm hBR
      rw [hBm] at hBR
      injection hBR with hBR
      injection hBR with _ hBR
      exact absurd hBR (by decide)
    have hBm3 := hBm.chg hCh (by omega)
    have hs3 : W3.heap.size = w.heap.size := by rw [hW3]; simp
    have hbs := hb.size
    have sz := SZ.out
    have k3w := k3.call hb
    have k33 : Blk W3 (w0.heap.size + 1 + 1) 40 _ := k3w.chg hCh (by omega)
    have gW3 : Below W.heap.size W W3 := hb.trans (hCh.below (by omega) (by omega))
    have g3 : Below w0.heap.size w0 W3 := g0.trans (gW3.mono g0.size)
    have gml := hBm.lt
    have hgmW : W.heap.size ≤ gm := by have := (hiv 11 (by decide)).1; omega
    have hgh : gm < w.heap.size := by have := (hiv 11 (by decide)).2.2; omega
    have hF3 : Fam W3 W.heap.size W3.heap.size ([(.slice qA 2 qc, [0, 0]), (.slice qB 2 qd, [1, 1])] ++ ([(.slice dA 2 dc, [a.c, a.r])] ++ ([(s, a.a)] ++ [(t, b.a)]))) := by
      rw [hs3]
      exact Fam.four (hqF.chg hCh (by omega)) (Fam.one (h6.chg hCh (by omega))) (Fam.one (hs.chg hCh (by omega))) (Fam.one (ht.chg hCh (by omega))) (hdj 1 6 (by decide) (by decide) (by decide)) (hdj 1 8 (by decide) (by decide) (by decide)) (hdj 1 10 (by decide) (by decide) (by decide)) (hdj 6 8 (by decide) (by decide) (by decide)) (hdj 6 10 (by decide) (by decide) (by decide)) (hdj 8 10 (by decide) (by decide) (by decide)) ⟨i1.1, i1.2.2⟩ ⟨i6.1, i6.2.2⟩ ⟨i8.1, i8.2.2⟩ ⟨i10.1, i10.2.2⟩
    have hR3 : RepO W3 W.heap.size W3.heap.size (.agg #[.int .i64 p, .int .i64 2, .slice qA 2 qc, .slice qB 2 qd, .slice dA 2 dc, .slice (some ⟨gm, 0, none⟩) 2 2]) (penRep p a b) :=
      ⟨_, _, _, _, [s, t], rfl, OutM.two hBm3 hgmW (by omega), rfl, hF3, ⟨hp, by simp [penRep, pQ, I64]⟩, by intro m hm; simp only [penRep, List.mem_cons, List.not_mem_nil, or_false] at hm; rcases hm with h | h <;> subst h <;> first | exact ⟨har, hac⟩ | exact ⟨hbr, hbc⟩⟩
    have hS : W.heap.size ≤ W3.heap.size := gW3.size
    have HS := Lib.hid hS
    have HR3 := Lib.hid hR3
    have H3 := Lib.hid hB3
    have K3 := Lib.hid k33
    have G3 := Lib.hid g3
    clear hqF hF3 hgh hR3 hB3 k33 k3w gW3 g3 hCh hs3 hS h6 f1 f2 hiv hdj i1 i6 i8 i10 i13 d1 d6 d8 d10 e1 e6 e8 e10 e11 e12 e13 hBR hb hbs sz k1 k2 k3 hs ht hBm hBm3 hgm hgi gml hgmW
    rcases hRep : isRep (penRep p a b) with _ | _
    · have hE := Lib.hid (show penOf p a b = (rp0, false) by rw [penOf, hRep]; rfl)
      have HREP := Lib.hid hRep
      clear hRep
      have z0 := H3.out.cell' (i := 0) rfl
      have z1 := H3.out.cell' (i := 1) rfl
      have z2 := H3.out.cell' (i := 2) rfl
      have z3 := H3.out.cell' (i := 3) rfl
      have z4 := H3.out.cell' (i := 4) rfl
      have z5 := H3.out.cell' (i := 5) rfl
      go_wp2_with fail
      rw [← hW3]
      clear hW3 r0 r1 r2 r3 r4 r5 fr
      refine (specIsRep_any _ (penRep p a b) _ HR3.out.rd).mono ?_; rintro e w4 ⟨rfl, hb4⟩
      rw [HREP.out]
      have k4 := K3.out.call hb4
      have fr := k4.frozen
      have s0 := k4.cell' (i := 0) rfl
      have s1 := k4.cell' (i := 1) rfl
      have s2 := k4.cell' (i := 2) rfl
      have s3 := k4.cell' (i := 3) rfl
      have s4 := k4.cell' (i := 4) rfl
      have s5 := k4.cell' (i := 5) rfl
      have HB4 := Lib.hid hb4
      clear z0 z1 z2 z3 z4 z5 hb4 k4
      go_wp2
      have gf := G3.out.trans (HB4.out.mono (G3.out).size)
      refine bodyPost_ret (v := .tuple #[.agg #[.int .i64 0, .int .i64 0, .slice none 0 0, .slice none 0 0, .slice none 0 0, .slice none 0 0], .bool false]) (by simp [results, go_sem, s0, s1, s2, s3, s4, s5]) rfl ⟨_, by rw [hE.out], by rw [hE.out]; exact RepO.zero _ _ _, (((((gf.setCell (by simp; omega) _).setCell (by simp; omega) _).setCell (by simp; omega) _).setCell (by simp; omega) _).setCell (by simp; omega) _).setCell (by simp; omega) _⟩
    · have hE := Lib.hid (show penOf p a b = (penRep p a b, true) by rw [penOf, hRep]; rfl)
      have HREP := Lib.hid hRep
      clear hRep
      have z0 := H3.out.cell' (i := 0) rfl
      have z1 := H3.out.cell' (i := 1) rfl
      have z2 := H3.out.cell' (i := 2) rfl
      have z3 := H3.out.cell' (i := 3) rfl
      have z4 := H3.out.cell' (i := 4) rfl
      have z5 := H3.out.cell' (i := 5) rfl
      go_wp2_with fail
      rw [← hW3]
      clear hW3 r0 r1 r2 r3 r4 r5 fr
      refine (specIsRep_any _ (penRep p a b) _ HR3.out.rd).mono ?_; rintro e w4 ⟨rfl, hb4⟩
      rw [HREP.out]
      have k4 := K3.out.call hb4
      have h4 := H3.out.call hb4
      have fr := k4.frozen
      have s0 := k4.cell' (i := 0) rfl
      have s1 := k4.cell' (i := 1) rfl
      have s2 := k4.cell' (i := 2) rfl
      have s3 := k4.cell' (i := 3) rfl
      have s4 := k4.cell' (i := 4) rfl
      have s5 := k4.cell' (i := 5) rfl
      clear z0 z1 z2 z3 z4 z5
      have z0 := h4.cell' (i := 0) rfl
      have z1 := h4.cell' (i := 1) rfl
      have z2 := h4.cell' (i := 2) rfl
      have z3 := h4.cell' (i := 3) rfl
      have z4 := h4.cell' (i := 4) rfl
      have z5 := h4.cell' (i := 5) rfl
      have hs4 := hb4.size
      have HS4 := Lib.hid hs4
      have HR4 := Lib.hid (HR3.out.below hb4)
      have HB4 := Lib.hid hb4
      clear hb4 k4 h4 hs4
      go_wp2
      have gf := G3.out.trans (HB4.out.mono (G3.out).size)
      have sz := SZ.out
      have hs4 := HS4.out
      have hS := HS.out
      refine bodyPost_ret (v := .tuple #[.agg #[.int .i64 p, .int .i64 2, .slice qA 2 qc, .slice qB 2 qd, .slice dA 2 dc, .slice (some ⟨gm, 0, none⟩) 2 2], .bool true]) (by simp [results, go_sem, s0, s1, s2, s3, s4, s5]) rfl ⟨_, by rw [hE.out], ?_, (((((gf.setCell (by simp; omega) _).setCell (by simp; omega) _).setCell (by simp; omega) _).setCell (by simp; omega) _).setCell (by simp; omega) _).setCell (by simp; omega) _⟩
      rw [hE.out]
      have hc : Chg (w0.heap.size + 1 + 1) (w0.heap.size + 1 + 1 + 1) w4 _ := chg6 w4 (w0.heap.size + 1 + 1) (.int .i64 p) (.int .i64 2) (.slice qA 2 qc) (.slice qB 2 qd) (.slice dA 2 dc) (.slice (some ⟨gm, 0, none⟩) 2 2)
      exact RepO.wider (HR4.out.chg hc (.inr (by omega))) (by omega) (by simp; omega)
end Go.Proofs.Ytbgjhnolnccnnaa
