/- Matrices beside each other and below each other: the program's. -/
import Derived.Test.YtbgjhnolnccnnaaTran
import Derived.Test.YtbgjhnolnccnnaaNetC
namespace Go.Proofs.Ytbgjhnolnccnnaa
set_option linter.unusedVariables false
set_option linter.unusedSimpArgs false
open Go.RowKit

/-- a beside b: the first c columns are a's -/
def bsF (c : Nat) (f g : Nat → Nat → Int) (a b : Nat) : Int := if b < c then f a b else g a (b - c)
/-- a above b -/
def blF (r : Nat) (f g : Nat → Nat → Int) (a b : Nat) : Int := if a < r then f a b else g (a - r) b
theorem rowsF_app (r s c : Nat) (f g : Nat → Nat → Int) : rowsF r c f ++ rowsF s c g = rowsF (r + s) c (blF r f g) := by
  apply List.ext_getElem?
  intro i
  by_cases h1 : i < r
  · rw [List.getElem?_append_left (by rw [rowsF_length]; exact h1), rowsF_get _ h1, rowsF_get _ (by omega)]
    congr 1
    exact rowF_congr fun b _ => by simp [blF, h1]
  · rw [List.getElem?_append_right (by rw [rowsF_length]; omega), rowsF_length]
    by_cases h2 : i < r + s
    · rw [rowsF_get _ (by omega), rowsF_get _ h2]
      congr 1
      exact rowF_congr fun b _ => by simp [blF, h1]
    · rw [List.getElem?_eq_none (by rw [rowsF_length]; omega), List.getElem?_eq_none (by rw [rowsF_length]; omega)]
theorem colsF_app (r c d : Nat) (f g : Nat → Nat → Int) : rowsF c r (fun a b => f b a) ++ rowsF d r (fun a b => g b a) = rowsF (c + d) r (fun a b => bsF c f g b a) := rowsF_app c d r _ _

/-- append of one list of rows onto another of the call's own -/
theorem wpList_appSS {w : World} {ops : Array Oper} {rest : List Oper} {o : Oper} {a : Act} {Q : Exit → Act → World → Prop} (hgd : o.guard = none) (s x : Operand)
    (ho : o.op = .call { callee := .builtin .append, args := #[s, x], argTypes := #[96, 96] })
    (lo hi lo' hi' : Nat) (v v2 : Value) (l1 l2 : List (List Int)) (hs : a.eval s = v) (hown : IntssO w lo hi v l1) (hx : a.eval x = v2) (hown2 : IntssO w lo' hi' v2 l2) (hd : hi ≤ lo' ∨ hi' ≤ lo)
    (hn : l1.length + l2.length ≤ 1048576) (hlo : lo ≤ w.heap.size) (hhi : hi ≤ w.heap.size)
    (h : ∀ v' w', SlII w' w'.heap.size v' (l1 ++ l2) → Below lo w w' → wpList Try.prog ops Q rest (a.put o.dst v') w') : wpList Try.prog ops Q (o :: rest) a w := by
  obtain ⟨vs1, o1, e1, F1⟩ := hown
  obtain ⟨vs2, o2, e2, F2⟩ := hown2
  obtain ⟨A2, c2, ev2, _, _⟩ := o2.form
  subst ev2
  obtain ⟨i0, hi0, hz0, hz1, hz2⟩ := info_parts infoInts
  have hrd2 := o2
  refine wpList_append_G w hgd s x _ ho lo 29 i0 _ 1 24 Try.underlying96 hi0 hz0 hz1 hz2 rfl (by decide) v vs1.length _ hs o1.1 A2 vs2.length c2 vs2 hx ?_ ?_ (by simp only [maxLen]; omega) (by omega) hlo fun v' w' h1 h2 h3 => ?_
  · refine ⟨by simp, ?_⟩
    rcases Nat.eq_zero_or_pos vs2.length with h0 | h0
    · exact .inl h0
    · rcases o2.1.2 with ⟨e, h1⟩ | ⟨g, cap, cur, e, _, hg, hnc, hcm, hcs, htake⟩
      · omega
      · injection e with ea eb ec
        refine .inr ⟨g, 0, ea, fun j u hj => ?_⟩
        have hc := o2.1
        rw [ea] at hc
        have := hc.cellAt j (by have := lt_of_some hj; omega)
        rw [Nat.zero_add, this, hj]
  · intro u hu
    obtain ⟨j, hj⟩ := List.getElem?_of_mem hu
    have hjl := lt_of_some hj
    have hm := F2.1 (u, l2[j]'(by omega)) (by rw [List.mem_iff_getElem?]; exact ⟨j, by rw [List.getElem?_zip_eq_some]; exact ⟨hj, List.getElem?_eq_getElem _⟩⟩)
    obtain ⟨A, c, e⟩ := hm.form
    rw [show u = _ from e]
    rfl
  · have ho' : OutO w' lo w'.heap.size v' (vs1 ++ vs2) := ⟨by simpa using h1, fun k hk => (h1.lt k hk).2, by simp; omega⟩
    refine h v' w' (OutO.rd ho' (by simp [e1, e2]) fun p hp => ?_) (below_grown h2 (fun k hk => (o1.1.lt k hk).1) hlo)
    rw [List.zip_append e1] at hp
    rcases List.mem_append.1 hp with hp | hp
    · exact ((Fam.grownO F1 o1.1 h2).1 p hp).rd
    · exact ((Fam.grownO F2 o1.1 h2).1 p hp).rd
set_option maxHeartbeats 3200000 in
theorem beside_any (u v : Value) (r c d : Nat) (f g : Nat → Nat → Int) (w0 : World) (hu : MxR w0 w0.heap.size u (mxF r c f)) (hv : MxR w0 w0.heap.size v (mxF r d g)) (hr : r ≤ 500) (hc : c ≤ 500) (hd : d ≤ 500) :
    Calls Try.prog 107 #[u, v] w0 fun e w' => ∃ v, e = .returned v ∧ MxO w' w0.heap.size w'.heap.size v (mxF r (c + d) (bsF c f g)) ∧ Below w0.heap.size w0 w' := by
  have hu' := hu
  have hv' := hv
  obtain ⟨U, uc, rfl⟩ := hu.form
  obtain ⟨V, vc, rfl⟩ := hv.form
  obtain ⟨L, hL⟩ : ∃ L, (mxF r c f).a.length = L := ⟨_, rfl⟩
  obtain ⟨L', hL'⟩ : ∃ L, (mxF r d g).a.length = L := ⟨_, rfl⟩
  have z1 : (mxF r c f).r = (r : Int) := rfl
  have z2 : (mxF r c f).c = (c : Int) := rfl
  have z3 : (mxF r d g).r = (r : Int) := rfl
  have z4 : (mxF r d g).c = (d : Int) := rfl
  rw [hL, z1, z2] at hu' ⊢
  rw [hL', z3, z4] at hv' ⊢
  clear hu hv hL hL' z1 z2 z3 z4
  obtain ⟨W, hW⟩ : ∃ W, W = ((w0.alloc (.cells #[.int .i64 r, .int .i64 c, .slice U L uc] 60)).alloc (.cells #[.int .i64 r, .int .i64 d, .slice V L' vc] 60)).alloc (.cells #[.int .i64 0, .int .i64 0, .slice none 0 0] 60) := ⟨_, rfl⟩
  have g0 : Below w0.heap.size w0 W := by rw [hW]; exact (((Below.refl _ _).alloc (Nat.le_refl _) _).alloc (by simp) _).alloc (by simp; omega) _
  have k1 : Blk W w0.heap.size 60 #[.int .i64 r, .int .i64 c, .slice U L uc] := by rw [hW]; exact ((Blk.new _ _ _).alloc _).alloc _
  have k2 : Blk W (w0.heap.size + 1) 60 #[.int .i64 r, .int .i64 d, .slice V L' vc] := by
    rw [hW]
    have := (Blk.new (w0.alloc (.cells #[.int .i64 r, .int .i64 c, .slice U L uc] 60)) 60 #[.int .i64 r, .int .i64 d, .slice V L' vc]).alloc (.cells #[.int .i64 0, .int .i64 0, .slice none 0 0] 60)
    simpa only [World.size_alloc] using this
  have k3 : Blk W (w0.heap.size + 1 + 1) 60 #[.int .i64 0, .int .i64 0, .slice none 0 0] := by
    rw [hW]
    have := Blk.new ((w0.alloc (.cells #[.int .i64 r, .int .i64 c, .slice U L uc] 60)).alloc (.cells #[.int .i64 r, .int .i64 d, .slice V L' vc] 60)) 60 #[.int .i64 0, .int .i64 0, .slice none 0 0]
    simpa only [World.size_alloc] using this
  have sz : W.heap.size = w0.heap.size + 1 + 1 + 1 := by rw [hW]; simp
  have HU := Lib.hid (MxR.next g0 hu')
  have HV := Lib.hid (MxR.next g0 hv')
  have SZ := Lib.hid sz
  clear sz hu' hv'
  go_enter Try.func107, Try.ntmps107
  go_wp2
  rw [← hW]; clear hW
  refine wp_region_netC (by kernel_rfl) [.eq (.pointer (some ⟨w0.heap.size, 0, none⟩)), .eq (.int .i64 r), .eq (.agg #[.int .i64 r, .int .i64 c, .slice U L uc]), rel 3 (fun u lo hi w => IntssO w lo hi u (rowsF c r (fun a b => f b a)) ∧ W.heap.size ≤ lo ∧ lo ≤ hi), .eq (.agg #[.int .i64 r, .int .i64 d, .slice V L' vc]), .rel (fun x w => IntssO w (x.lo 5) (x.hi 5) (x.v 5) (rowsF d r (fun a b => g b a)) ∧ x.hi 3 ≤ x.lo 5), .rel (fun x w => SlII w w.heap.size (x.v 6) (rowsF (c + d) r (fun a b => bsF c f g b a))), rel 7 (fun u lo hi w => MxO w lo hi u (mxF r (c + d) (bsF c f g)))] [[], [0], [], [2], [], [2, 3, 4], [2, 3, 4, 5], [0, 1, 2, 3, 4, 5, 6], [0, 1, 2, 3, 4, 5, 6, 7]] [[], [0], [], [2], [], [2, 3, 4], [2, 3, 4, 5], [0, 1, 2, 4, 6]] [0, 1, 2, 4, 6, 7] 8 6 (by kernel_rfl) (by kernel_rfl) ⟨.inr (.inr ⟨_, rfl⟩), .inr (.inr ⟨_, rfl⟩), .inr (.inr ⟨_, rfl⟩), .inr (.inr ⟨_, rfl⟩), .inl rfl, .inr (.inl rfl), trivial⟩ ⟨trivial, trivial, trivial, rel_stable (fun u lo hi w w' h hb => ⟨h.1.below hb, h.2⟩), trivial, fun x w w' h hb => ⟨h.1.below hb, h.2⟩, fun x w w' h hb => SlII.next hb h, rel_stable (fun u lo hi w w' h hb => h.below hb), trivial⟩ ⟨?_, ?_, ?_, ?_, ?_, ?_, ?_, ?_, trivial⟩ ?_
  · intro x w hb hk Q' hQ
    clear hk
    simp only [netAct, dstAt, List.getElem?_toArray, List.getElem?_cons_zero, List.getElem?_cons_succ, Option.bind_some, Act.put, List.setIfInBounds_toArray, List.set_cons_zero, List.set_cons_succ] at hQ ⊢
    go_wp2
    exact hQ (.pointer (some ⟨w0.heap.size, 0, none⟩)) _ (Below.refl _ _) rfl
  · intro x w hb hk Q' hQ
    have h0 : x.v 0 = .pointer (some ⟨w0.heap.size, 0, none⟩) := (hk 0 (by decide)).1
    clear hk
    simp only [netAct, dstAt, List.getElem?_toArray, List.getElem?_cons_zero, List.getElem?_cons_succ, Option.bind_some, Act.put, List.setIfInBounds_toArray, List.set_cons_zero, List.set_cons_succ] at hQ ⊢
    simp only [h0] at hQ ⊢
    clear h0
    have z2 := (k1.below hb k1.lt).cell' (i := 0) rfl
    go_wp2
    exact hQ (.int .i64 r) _ (Below.refl _ _) rfl
  · intro x w hb hk Q' hQ
    clear hk
    simp only [netAct, dstAt, List.getElem?_toArray, List.getElem?_cons_zero, List.getElem?_cons_succ, Option.bind_some, Act.put, List.setIfInBounds_toArray, List.set_cons_zero, List.set_cons_succ] at hQ ⊢
    have z0 := (k1.below hb k1.lt).cell' (i := 0) rfl
    have z1 := (k1.below hb k1.lt).cell' (i := 1) rfl
    have z2 := (k1.below hb k1.lt).cell' (i := 2) rfl
    go_wp2
    exact hQ (.agg #[.int .i64 r, .int .i64 c, .slice U L uc]) _ (Below.refl _ _) rfl
  · intro x w hb hk Q' hQ
    have h2 : x.v 2 = .agg #[.int .i64 r, .int .i64 c, .slice U L uc] := (hk 2 (by decide)).1
    clear hk
    simp only [netAct, dstAt, List.getElem?_toArray, List.getElem?_cons_zero, List.getElem?_cons_succ, Option.bind_some, Act.put, List.setIfInBounds_toArray, List.set_cons_zero, List.set_cons_succ] at hQ ⊢
    simp only [h2] at hQ ⊢
    clear h2
    go_wp2_with fail
    refine (columns_any _ r c f _ (MxR.more hb.size (MxR.below hb HU.out)) (by omega) (by omega)).mono ?_; rintro e w5 ⟨v5, rfl, hO5, hb5⟩
    go_wp2
    exact hQ _ _ hb5 ⟨hO5, hb.size, hb5.size⟩
  · intro x w hb hk Q' hQ
    clear hk
    simp only [netAct, dstAt, List.getElem?_toArray, List.getElem?_cons_zero, List.getElem?_cons_succ, Option.bind_some, Act.put, List.setIfInBounds_toArray, List.set_cons_zero, List.set_cons_succ] at hQ ⊢
    have z0 := (k2.below hb k2.lt).cell' (i := 0) rfl
    have z1 := (k2.below hb k2.lt).cell' (i := 1) rfl
    have z2 := (k2.below hb k2.lt).cell' (i := 2) rfl
    go_wp2
    exact hQ (.agg #[.int .i64 r, .int .i64 d, .slice V L' vc]) _ (Below.refl _ _) rfl
  · intro x w hb hk Q' hQ
    have h2 : x.v 2 = .agg #[.int .i64 r, .int .i64 c, .slice U L uc] := (hk 2 (by decide)).1
    have h3 : IntssO w (x.lo 3) (x.hi 3) (x.v 3) (rowsF c r (fun a b => f b a)) ∧ W.heap.size ≤ (x.lo 3) ∧ (x.lo 3) ≤ (x.hi 3) := (hk 3 (by decide)).1
    have h4 : x.v 4 = .agg #[.int .i64 r, .int .i64 d, .slice V L' vc] := (hk 4 (by decide)).1
    have s3 := (hk 3 (by decide)).2
    clear hk
    simp only [netAct, dstAt, List.getElem?_toArray, List.getElem?_cons_zero, List.getElem?_cons_succ, Option.bind_some, Act.put, List.setIfInBounds_toArray, List.set_cons_zero, List.set_cons_succ] at hQ ⊢
    simp only [h2, h4] at hQ ⊢
    clear h2 h4
    go_wp2_with fail
    refine (columns_any _ r d g _ (MxR.more hb.size (MxR.below hb HV.out)) (by omega) (by omega)).mono ?_; rintro e w5 ⟨v5, rfl, hO5, hb5⟩
    go_wp2
    exact hQ _ _ hb5 ⟨hO5, s3⟩
  · intro x w hb hk Q' hQ
    have h2 : x.v 2 = .agg #[.int .i64 r, .int .i64 c, .slice U L uc] := (hk 2 (by decide)).1
    have h3 : IntssO w (x.lo 3) (x.hi 3) (x.v 3) (rowsF c r (fun a b => f b a)) ∧ W.heap.size ≤ (x.lo 3) ∧ (x.lo 3) ≤ (x.hi 3) := (hk 3 (by decide)).1
    have h4 : x.v 4 = .agg #[.int .i64 r, .int .i64 d, .slice V L' vc] := (hk 4 (by decide)).1
    have h5 : IntssO w (x.lo 5) (x.hi 5) (x.v 5) (rowsF d r (fun a b => g b a)) ∧ x.hi 3 ≤ x.lo 5 := (hk 5 (by decide)).1
    have s3 := (hk 3 (by decide)).2
    have s5 := (hk 5 (by decide)).2
    clear hk
    simp only [netAct, dstAt, List.getElem?_toArray, List.getElem?_cons_zero, List.getElem?_cons_succ, Option.bind_some, Act.put, List.setIfInBounds_toArray, List.set_cons_zero, List.set_cons_succ] at hQ ⊢
    simp only [h2, h4] at hQ ⊢
    clear h2 h4
    obtain ⟨h3, l3, l3'⟩ := h3
    obtain ⟨h5, l5⟩ := h5
    have HA := Lib.hid h3
    have HB := Lib.hid h5
    clear h3 h5
    (go_wp2_with (at_builtin; refine Hold.stop ?_)); unfold Hold
    refine wpList_appSS rfl (.tmp 8) (.tmp 10) rfl _ _ _ _ _ _ _ _ rfl HA.out rfl HB.out (.inl l5) (by rw [rowsF_length, rowsF_length]; omega) (by omega) s3 ?_
    intro v' w' hv' hb'
    rw [colsF_app] at hv'
    go_wp2
    exact hQ v' w' (hb'.mono l3) hv'
  · intro x w hb hk Q' hQ
    have h0 : x.v 0 = .pointer (some ⟨w0.heap.size, 0, none⟩) := (hk 0 (by decide)).1
    have h1 : x.v 1 = .int .i64 r := (hk 1 (by decide)).1
    have h2 : x.v 2 = .agg #[.int .i64 r, .int .i64 c, .slice U L uc] := (hk 2 (by decide)).1
    have h4 : x.v 4 = .agg #[.int .i64 r, .int .i64 d, .slice V L' vc] := (hk 4 (by decide)).1
    have h6 : SlII w w.heap.size (x.v 6) (rowsF (c + d) r (fun a b => bsF c f g b a)) := (hk 6 (by decide)).1
    have s6 := (hk 6 (by decide)).2
    clear hk
    simp only [netAct, dstAt, List.getElem?_toArray, List.getElem?_cons_zero, List.getElem?_cons_succ, Option.bind_some, Act.put, List.setIfInBounds_toArray, List.set_cons_zero, List.set_cons_succ] at hQ ⊢
    simp only [h0, h1, h2, h4] at hQ ⊢
    clear h0 h1 h2 h4
    have h6' := Lib.hid h6
    obtain ⟨A6, c6, e6, _⟩ := h6
    rw [e6] at h6' hQ ⊢
    go_wp2_with fail
    refine (fromColumns_any _ r (c + d) (bsF c f g) _ h6'.out (by omega) (by omega)).mono ?_; rintro e w5 ⟨v5, rfl, hO5, hb5⟩
    go_wp2
    exact hQ _ _ hb5 hO5
  · intro x w hb hk hiv hdj
    have h0 : x.v 0 = .pointer (some ⟨w0.heap.size, 0, none⟩) := hk 0 (by decide) (by decide)
    have h1 : x.v 1 = .int .i64 r := hk 1 (by decide) (by decide)
    have h2 : x.v 2 = .agg #[.int .i64 r, .int .i64 c, .slice U L uc] := hk 2 (by decide) (by decide)
    have h4 : x.v 4 = .agg #[.int .i64 r, .int .i64 d, .slice V L' vc] := hk 4 (by decide) (by decide)
    have h6 : SlII w w.heap.size (x.v 6) (rowsF (c + d) r (fun a b => bsF c f g b a)) := hk 6 (by decide) (by decide)
    have h7 : MxO w (x.lo 7) (x.hi 7) (x.v 7) (mxF r (c + d) (bsF c f g)) := hk 7 (by decide) (by decide)
    clear hk
    simp only [netAct, dstAt, List.getElem?_toArray, List.getElem?_cons_zero, List.getElem?_cons_succ, Option.bind_some, Act.put, List.setIfInBounds_toArray, List.set_cons_zero, List.set_cons_succ]
    simp only [List.drop_succ_cons, List.drop_zero, h0, h1, h2, h4]
    clear h0 h1 h2 h4
    have sz := SZ.out
    have kR := k3.below hb k3.lt
    obtain ⟨l7, _, l7h⟩ := hiv 7 (by decide)
    obtain ⟨A7, c7, e7⟩ := h7.form
    simp only [mxF] at e7
    rw [e7] at h7 ⊢
    clear hiv hdj e7 h6
    obtain ⟨N, hN⟩ : ∃ N, (flat r (c + d) (bsF c f g)).length = N := ⟨_, rfl⟩
    rw [hN] at h7 ⊢
    have p0 := kR.cell' (i := 0) rfl
    have p1 := kR.cell' (i := 1) rfl
    have p2 := kR.cell' (i := 2) rfl
    have fr := kR.frozen
    have gX := g0.trans (hb.mono g0.size)
    have gXs := gX.size
    have hbs := hb.size
    have h2 := chg3 w (w0.heap.size + 1 + 1) (.int .i64 (r : Int)) (.int .i64 ((c + d : Nat) : Int)) (.slice A7 N c7)
    have OF := Lib.hid ((h7.chg h2 (.inr (by omega))).wider (lo' := w0.heap.size) (hi' := w.heap.size) (by omega) (by omega))
    have GF := Lib.hid (gX.trans (h2.below (by omega) gXs))
    have e8 : ((c + d : Nat) : Int) = (c : Int) + d := by simp
    rw [e8] at OF GF
    clear h7 h2 gX kR hN sz gXs hbs l7 l7h hb k1 k2 k3 e8
    go_wp2
    exact bodyPost_ret (v := .agg #[.int .i64 (r : Int), .int .i64 ((c : Int) + d), .slice A7 N c7]) (by simp [results, go_sem, p0, p1, p2]) rfl ⟨_, rfl, OF.out.wider (Nat.le_refl _) (by simp), GF.out⟩
end Go.Proofs.Ytbgjhnolnccnnaa
