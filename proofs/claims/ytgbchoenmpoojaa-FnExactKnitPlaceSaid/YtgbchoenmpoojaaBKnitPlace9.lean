/- FnExactKnitPlace: for every argument the program's function returns what the reference's returns. Part 9 of 9 of the proof: Det2, Kind, KindI, KnR, KnI, KnS, KnPl, KnPs, LawKnitPlace, LawKnitPlaceRow. No condition. -/
import Derived.Test.YtgbchoenmpoojaaBKnitPlace8
/- Determinants by the first row: the reference's. -/
namespace Go.Proofs.Ytgbchoenmpoojaa
set_option linter.unusedVariables false
set_option linter.unusedSimpArgs false
open Go.RowKit

set_option maxHeartbeats 6400000 in
set_option maxRecDepth 100000 in
theorem l18Det_any : ∀ (n : Nat), n ≤ 5 → ∀ (u : Value) (m : List (List Int)) (w0 : World), SlII w0 w0.heap.size u m → Sq n m →
    Calls Try.prog 85 #[u] w0 fun e w' => e = .returned (.int .i64 (detL n m)) ∧ Below w0.heap.size w0 w'
  | 0, _, u, m, w0, hu, hs => by
    obtain ⟨A, c, rfl, _, _, _, _⟩ := hu.open_
    obtain rfl : m = [] := List.eq_nil_of_length_eq_zero hs.len
    clear hu
    go_enter Try.func85, Try.ntmps85
    go_wp2
    go_ret
    exact ⟨rfl, Below.refl _ _⟩
  | n + 1, hn, u, m, w0, hu, hs => by
    have ih := l18Det_any n (by omega)
    obtain ⟨A, c, rfl, hc1, hc2, _, hx⟩ := hu.open_
    clear hu
    have hl := hs.len
    obtain ⟨b, o, rfl, hb0⟩ := SlII.addr hx (by omega)
    have HX := Lib.hid hx
    have HL := Lib.hid hl
    have HS := Lib.hid hs
    have IH := Lib.hid ih
    rw [hl] at hc1 ⊢
    have HDL := Lib.hid (show detL (n + 1) m = detS n m (n + 1) from rfl)
    clear ih hx hl hs
    have hne0 : (((n : Int) + 1) == 0) = false := by rw [beq_eq_false_iff_ne]; omega
    go_enter Try.func85, Try.ntmps85
    go_wp2
    go_loopw [3, 4, 5] (fun s g i wr => ∃ (k : Nat) (T S : Int), k ≤ n + 1 ∧ i = .int .i64 k ∧ s = .int .i64 T ∧ g = .int .i64 S ∧ Hid (T = detS n m k) ∧ Hid (S = sgK k) ∧ Below w0.heap.size w0 wr) (fun _ _ i _ => n + 1 - (intOf i).toNat)
    case atStart => exact ⟨0, 0, 1, Nat.zero_le _, rfl, rfl, rfl, rfl, rfl, Below.refl _ _⟩
    case round =>
      obtain ⟨k, T, S, hk, rfl, rfl, rfl, HT, HSG, hbel⟩ := hrel
      by_cases hlt : k < n + 1
      · obtain ⟨r0, A0, c0, e0, _, x0, hr0, _, _⟩ := SlII.elt HX.out (k := 0) (by rw [HL.out]; omega)
        have hr0l := HS.out.row _ (List.mem_of_getElem? e0)
        obtain ⟨b0, o0, rfl, hb00⟩ := SlI.addr hr0 (by omega)
        obtain ⟨X, hX0, _, x1, _⟩ := SlI.elt hr0 (k := k) (by omega)
        have hXr : -12 ≤ X ∧ X ≤ 12 := by
          obtain ⟨r, h1, h2, h3, h4⟩ := HS.out.fst hlt
          rw [e0] at h1
          injection h1 with h1
          subst h1
          rw [hX0] at h3
          injection h3 with h3
          subst h3
          exact h4
        have HXF : Hid (fst0 m k = X) := by
          show _ = _
          rw [fst0, List.getD_eq_getElem?_getD, List.getD_eq_getElem?_getD, e0, Option.getD_some, hX0]; rfl
        have hSr : -1 ≤ S ∧ S ≤ 1 := by
          have := sgK_or k
          rw [← HSG.out] at this
          omega
        have hTr := detS_rng HS.out hk (by omega)
        rw [← (HT.out : T = _)] at hTr
        have HSQ := Lib.hid (HS.out.mnr (k := k) (by omega))
        rw [hr0l, Nat.add_zero] at x0
        have hbel2 := hbel
        have hb2s := hbel2.size
        obtain ⟨w1, hw1⟩ : ∃ z, z = wr.alloc (.cells #[] 22) := ⟨_, rfl⟩
        have b1 : Below wr.heap.size wr w1 := by rw [hw1]; exact below_alloc _ _
        have o1 : IntssO w1 wr.heap.size w1.heap.size (.slice (some ⟨wr.heap.size, 0, none⟩) 0 0) [] := by rw [hw1]; exact IntssO.made0 wr (Nat.le_refl _)
        have s1 := b1.size
        have hbel3 := hbel2.trans (b1.mono hb2s)
        have HB2 := Lib.hid hbel2
        obtain ⟨LO, hLO⟩ : ∃ z, z = wr.heap.size := ⟨_, rfl⟩
        have hdk : decide ((k : Int) < (n : Int) + 1) = true := decide_eq_true (by omega)
        clear e0 hr0 hr0l hX0 hbel hbel2
        go_wp2
        rw [← hw1]
        rw [← hLO] at o1 s1 hb2s ⊢
        clear hw1 hLO b1 hdk
        go_loopw [6, 7] (fun ov i wq => ∃ j i' : Nat, j ≤ n ∧ i = .int .i64 i' ∧ Hid (i' = j + 1) ∧ IntssO wq LO wq.heap.size ov ((m.tail.take j).map (cutR k)) ∧ Below LO w1 wq) (fun _ i _ => n + 1 - (intOf i).toNat)
        case atStart => exact ⟨0, 1, Nat.zero_le _, rfl, rfl, by simpa using o1, Below.refl _ _⟩
        case round =>
          clear o1
          obtain ⟨j, i, hj, rfl, HI, hO, hbq⟩ := hrel
          obtain ⟨OA, oc, eo, hoc, hoc2, hol⟩ := hO.form2
          have hlo : ((m.tail.take j).map (cutR k)).length = j := by rw [List.length_map, List.length_take, List.length_tail, HL.out]; omega
          rw [hlo] at eo hoc
          subst eo
          have hbq2 : Below w0.heap.size w0 wr := hbel3.trans (hbq.mono (by omega))
          have hi1 : i ≤ j + 1 := Nat.le_of_eq HI.out
          have hi2 : j + 1 ≤ i := Nat.le_of_eq HI.out.symm
          have hqs := hbq.size
          by_cases hjn : i < n + 1
          · obtain ⟨r, RA, rc, hr0, _, y1, hr, hrc1, hrc2⟩ := SlII.elt HX.out (k := i) (by rw [HL.out]; omega)
            have hrl := HS.out.row _ (List.mem_of_getElem? hr0)
            obtain ⟨br, or, rfl, hbr⟩ := SlI.addr hr (by omega)
            have y2 := bcell hbq2 hb0 y1
            have HR := Lib.hid (SlI.more hbq2.size (SlI.below hbq2 hr))
            have HRL2 := Lib.hid hrl
            rw [hrl] at y2 hrc1
            have hrt : m.tail[j]? = some r := by rw [List.getElem?_tail, ← HI.out]; exact hr0
            have HSN := Lib.hid (show (m.tail.take (j + 1)).map (cutR k) = (m.tail.take j).map (cutR k) ++ [cutR k r] by rw [take_snoc hrt, List.map_append]; rfl)
            have HO := Lib.hid hO
            have HBQ := Lib.hid hbq
            have HLO := Lib.hid hlo
            clear hr y1 hrl hrt hO hbq hr0 hlo
            go_wp2
            obtain ⟨wA, hwA⟩ : ∃ z, z = wr := ⟨_, rfl⟩
            subst hwA
            refine wp_region_netC (by kernel_rfl) [.eq (.slice OA j oc), rel 1 (fun u lo hi w => Fresh w wA.heap.size u), .eq (.slice (some ⟨b, o, none⟩) (n + 1) c), .eq (.int .i64 i), .eq (.pointer (some ⟨b, o + i, none⟩)), .eq (.slice (some ⟨br, or, none⟩) (n + 1) rc), .eq (.int .i64 k), .eq (.slice (some ⟨br, or, none⟩) k rc), rel 8 (fun u lo hi w => OwnI w wA.heap.size u (r.take k)), .eq (.slice (some ⟨b, o, none⟩) (n + 1) c), .eq (.int .i64 i), .eq (.pointer (some ⟨b, o + i, none⟩)), .eq (.slice (some ⟨br, or, none⟩) (n + 1) rc), .eq (.int .i64 k), .eq (.int .i64 ((k : Int) + 1)), rel 15 (fun u lo hi w => wA.heap.size ≤ w.heap.size ∧ SlI w wA.heap.size u (r.drop (k + 1))), rel 16 (fun u lo hi w => OwnI w wA.heap.size u (cutR k r)), .rel (fun x w => ∃ g, x.v 17 = .slice (some ⟨g, 0, none⟩) 1 1 ∧ Blk w g 22 #[x.v 16])] [[], [], [], [], [2, 3], [2, 3, 4], [], [2, 3, 4, 5, 6], [1, 2, 3, 4, 5, 6, 7], [], [], [9, 10], [9, 10, 11], [], [13], [9, 10, 11, 12, 13, 14], [1, 2, 3, 4, 5, 6, 7, 8, 9, 10, 11, 12, 13, 14, 15], [1, 2, 3, 4, 5, 6, 7, 8, 9, 10, 11, 12, 13, 14, 15, 16], [0, 1, 2, 3, 4, 5, 6, 7, 8, 9, 10, 11, 12, 13, 14, 15, 16, 17], [0, 1, 2, 3, 4, 5, 6, 7, 8, 9, 10, 11, 12, 13, 14, 15, 16, 17, 18]] [[], [], [], [], [2, 3], [2, 3, 4], [], [2, 3, 4, 5, 6], [1, 2, 3, 4, 5, 6, 7], [], [], [9, 10], [9, 10, 11], [], [13], [9, 10, 11, 12, 13, 14], [1, 2, 3, 4, 5, 6, 7, 8, 9, 10, 11, 12, 13, 14, 15], [2, 3, 4, 5, 6, 7, 9, 10, 11, 12, 13, 14, 16]] [0, 2, 3, 4, 5, 6, 7, 9, 10, 11, 12, 13, 14, 16, 17] 18 16 (by kernel_rfl) (by kernel_rfl) ⟨.inr (.inr ⟨_, rfl⟩), .inr (.inr ⟨_, rfl⟩), .inr (.inr ⟨_, rfl⟩), .inr (.inr ⟨_, rfl⟩), .inr (.inr ⟨_, rfl⟩), .inr (.inr ⟨_, rfl⟩), .inr (.inr ⟨_, rfl⟩), .inr (.inr ⟨_, rfl⟩), .inr (.inr ⟨_, rfl⟩), .inr (.inr ⟨_, rfl⟩), .inr (.inr ⟨_, rfl⟩), .inr (.inr ⟨_, rfl⟩), .inr (.inr ⟨_, rfl⟩), .inl rfl, .inr (.inl rfl), trivial⟩ ⟨trivial, rel_stable (fun u lo hi w w' h hb => h.below hb), trivial, trivial, trivial, trivial, trivial, trivial, rel_stable (fun u lo hi w w' h hb => h.below hb), trivial, trivial, trivial, trivial, trivial, trivial, rel_stable (fun u lo hi w w' ⟨h1, h2⟩ hb => ⟨Nat.le_trans h1 hb.size, SlI.below (hb.mono h1) h2⟩), rel_stable (fun u lo hi w w' h hb => h.below hb), fun x w w' ⟨g, e, h⟩ hb => ⟨g, e, h.call hb⟩, trivial⟩ ⟨?_, ?_, ?_, ?_, ?_, ?_, ?_, ?_, ?_, ?_, ?_, ?_, ?_, ?_, ?_, ?_, ?_, ?_, trivial⟩ ?_
            · intro x w hb hk Q' hQ
              clear hk
              simp only [netAct, dstAt, List.getElem?_toArray, List.getElem?_cons_zero, List.getElem?_cons_succ, Option.bind_some, Act.put, List.setIfInBounds_toArray, List.set_cons_zero, List.set_cons_succ] at hQ ⊢
              go_wp2
              exact hQ (.slice OA j oc) _ (Below.refl _ _) rfl
            · intro x w hb hk Q' hQ
              clear hk
              simp only [netAct, dstAt, List.getElem?_toArray, List.getElem?_cons_zero, List.getElem?_cons_succ, Option.bind_some, Act.put, List.setIfInBounds_toArray, List.set_cons_zero, List.set_cons_succ] at hQ ⊢
              go_wp2
              exact hQ _ _ (below_alloc _ _) (Fresh.new _ hb.size)
            · intro x w hb hk Q' hQ
              clear hk
              simp only [netAct, dstAt, List.getElem?_toArray, List.getElem?_cons_zero, List.getElem?_cons_succ, Option.bind_some, Act.put, List.setIfInBounds_toArray, List.set_cons_zero, List.set_cons_succ] at hQ ⊢
              go_wp2
              exact hQ (.slice (some ⟨b, o, none⟩) (n + 1) c) _ (Below.refl _ _) rfl
            · intro x w hb hk Q' hQ
              clear hk
              simp only [netAct, dstAt, List.getElem?_toArray, List.getElem?_cons_zero, List.getElem?_cons_succ, Option.bind_some, Act.put, List.setIfInBounds_toArray, List.set_cons_zero, List.set_cons_succ] at hQ ⊢
              go_wp2
              exact hQ (.int .i64 i) _ (Below.refl _ _) rfl
            · intro x w hb hk Q' hQ
              have h2 : x.v 2 = .slice (some ⟨b, o, none⟩) (n + 1) c := (hk 2 (by decide)).1
              have h3 : x.v 3 = .int .i64 i := (hk 3 (by decide)).1
              clear hk
              simp only [netAct, dstAt, List.getElem?_toArray, List.getElem?_cons_zero, List.getElem?_cons_succ, Option.bind_some, Act.put, List.setIfInBounds_toArray, List.set_cons_zero, List.set_cons_succ] at hQ ⊢
              simp only [h2, h3] at hQ ⊢
              clear h2 h3
              go_wp2
              exact hQ (.pointer (some ⟨b, o + i, none⟩)) _ (Below.refl _ _) rfl
            · intro x w hb hk Q' hQ
              have h4 : x.v 4 = .pointer (some ⟨b, o + i, none⟩) := (hk 4 (by decide)).1
              clear hk
              simp only [netAct, dstAt, List.getElem?_toArray, List.getElem?_cons_zero, List.getElem?_cons_succ, Option.bind_some, Act.put, List.setIfInBounds_toArray, List.set_cons_zero, List.set_cons_succ] at hQ ⊢
              simp only [h4] at hQ ⊢
              clear h4
              have q0 := bcell hb (show b < wA.heap.size by omega) y2
              go_wp2
              exact hQ (.slice (some ⟨br, or, none⟩) (n + 1) rc) _ (Below.refl _ _) rfl
            · intro x w hb hk Q' hQ
              clear hk
              simp only [netAct, dstAt, List.getElem?_toArray, List.getElem?_cons_zero, List.getElem?_cons_succ, Option.bind_some, Act.put, List.setIfInBounds_toArray, List.set_cons_zero, List.set_cons_succ] at hQ ⊢
              go_wp2
              exact hQ (.int .i64 k) _ (Below.refl _ _) rfl
            · intro x w hb hk Q' hQ
              have h5 : x.v 5 = .slice (some ⟨br, or, none⟩) (n + 1) rc := (hk 5 (by decide)).1
              have h6 : x.v 6 = .int .i64 k := (hk 6 (by decide)).1
              clear hk
              simp only [netAct, dstAt, List.getElem?_toArray, List.getElem?_cons_zero, List.getElem?_cons_succ, Option.bind_some, Act.put, List.setIfInBounds_toArray, List.set_cons_zero, List.set_cons_succ] at hQ ⊢
              simp only [h5, h6] at hQ ⊢
              clear h5 h6
              go_wp2
              exact hQ (.slice (some ⟨br, or, none⟩) k rc) _ (Below.refl _ _) rfl
            · intro x w hb hk Q' hQ
              have h1 : Fresh w wA.heap.size (x.v 1) := (hk 1 (by decide)).1
              have h2 : x.v 2 = .slice (some ⟨b, o, none⟩) (n + 1) c := (hk 2 (by decide)).1
              have h3 : x.v 3 = .int .i64 i := (hk 3 (by decide)).1
              have h4 : x.v 4 = .pointer (some ⟨b, o + i, none⟩) := (hk 4 (by decide)).1
              have h5 : x.v 5 = .slice (some ⟨br, or, none⟩) (n + 1) rc := (hk 5 (by decide)).1
              have h6 : x.v 6 = .int .i64 k := (hk 6 (by decide)).1
              have h7 : x.v 7 = .slice (some ⟨br, or, none⟩) k rc := (hk 7 (by decide)).1
              have s1 := (hk 1 (by decide)).2
              clear hk
              simp only [netAct, dstAt, List.getElem?_toArray, List.getElem?_cons_zero, List.getElem?_cons_succ, Option.bind_some, Act.put, List.setIfInBounds_toArray, List.set_cons_zero, List.set_cons_succ] at hQ ⊢
              simp only [h2, h3, h4, h5, h6, h7] at hQ ⊢
              clear h2 h3 h4 h5 h6 h7
              obtain ⟨g7, e7, hg7, hB7⟩ := h1
              have hT2 := SlI.takeS (k := k) (SlI.below hb HR.out) (by rw [HRL2.out]; omega)
              have hk2 : (r.take k).length = k := by rw [List.length_take, HRL2.out]; omega
              rw [e7] at hQ ⊢
              refine wpList_append_fresh (by rfl) (.tmp 25) (.tmp 31) (by rfl) g7 wA.heap.size wA.heap.size #[] (by rfl) hB7 rfl hg7 _ _ (r.take k) (by rw [hk2]; rfl) (by rw [hk2]; exact hT2) ?_
              intro v' w' ho hb'
              exact hQ _ _ hb' ho
            · intro x w hb hk Q' hQ
              clear hk
              simp only [netAct, dstAt, List.getElem?_toArray, List.getElem?_cons_zero, List.getElem?_cons_succ, Option.bind_some, Act.put, List.setIfInBounds_toArray, List.set_cons_zero, List.set_cons_succ] at hQ ⊢
              go_wp2
              exact hQ (.slice (some ⟨b, o, none⟩) (n + 1) c) _ (Below.refl _ _) rfl
            · intro x w hb hk Q' hQ
              clear hk
              simp only [netAct, dstAt, List.getElem?_toArray, List.getElem?_cons_zero, List.getElem?_cons_succ, Option.bind_some, Act.put, List.setIfInBounds_toArray, List.set_cons_zero, List.set_cons_succ] at hQ ⊢
              go_wp2
              exact hQ (.int .i64 i) _ (Below.refl _ _) rfl
            · intro x w hb hk Q' hQ
              have h9 : x.v 9 = .slice (some ⟨b, o, none⟩) (n + 1) c := (hk 9 (by decide)).1
              have h10 : x.v 10 = .int .i64 i := (hk 10 (by decide)).1
              clear hk
              simp only [netAct, dstAt, List.getElem?_toArray, List.getElem?_cons_zero, List.getElem?_cons_succ, Option.bind_some, Act.put, List.setIfInBounds_toArray, List.set_cons_zero, List.set_cons_succ] at hQ ⊢
              simp only [h9, h10] at hQ ⊢
              clear h9 h10
              go_wp2
              exact hQ (.pointer (some ⟨b, o + i, none⟩)) _ (Below.refl _ _) rfl
            · intro x w hb hk Q' hQ
              have h11 : x.v 11 = .pointer (some ⟨b, o + i, none⟩) := (hk 11 (by decide)).1
              clear hk
              simp only [netAct, dstAt, List.getElem?_toArray, List.getElem?_cons_zero, List.getElem?_cons_succ, Option.bind_some, Act.put, List.setIfInBounds_toArray, List.set_cons_zero, List.set_cons_succ] at hQ ⊢
              simp only [h11] at hQ ⊢
              clear h11
              have q0 := bcell hb (show b < wA.heap.size by omega) y2
              go_wp2
              exact hQ (.slice (some ⟨br, or, none⟩) (n + 1) rc) _ (Below.refl _ _) rfl
            · intro x w hb hk Q' hQ
              clear hk
              simp only [netAct, dstAt, List.getElem?_toArray, List.getElem?_cons_zero, List.getElem?_cons_succ, Option.bind_some, Act.put, List.setIfInBounds_toArray, List.set_cons_zero, List.set_cons_succ] at hQ ⊢
              go_wp2
              exact hQ (.int .i64 k) _ (Below.refl _ _) rfl
            · intro x w hb hk Q' hQ
              have h13 : x.v 13 = .int .i64 k := (hk 13 (by decide)).1
              clear hk
              simp only [netAct, dstAt, List.getElem?_toArray, List.getElem?_cons_zero, List.getElem?_cons_succ, Option.bind_some, Act.put, List.setIfInBounds_toArray, List.set_cons_zero, List.set_cons_succ] at hQ ⊢
              simp only [h13] at hQ ⊢
              clear h13
              go_wp2
              exact hQ (.int .i64 ((k : Int) + 1)) _ (Below.refl _ _) rfl
            · intro x w hb hk Q' hQ
              have h9 : x.v 9 = .slice (some ⟨b, o, none⟩) (n + 1) c := (hk 9 (by decide)).1
              have h10 : x.v 10 = .int .i64 i := (hk 10 (by decide)).1
              have h11 : x.v 11 = .pointer (some ⟨b, o + i, none⟩) := (hk 11 (by decide)).1
              have h12 : x.v 12 = .slice (some ⟨br, or, none⟩) (n + 1) rc := (hk 12 (by decide)).1
              have h13 : x.v 13 = .int .i64 k := (hk 13 (by decide)).1
              have h14 : x.v 14 = .int .i64 ((k : Int) + 1) := (hk 14 (by decide)).1
              clear hk
              simp only [netAct, dstAt, List.getElem?_toArray, List.getElem?_cons_zero, List.getElem?_cons_succ, Option.bind_some, Act.put, List.setIfInBounds_toArray, List.set_cons_zero, List.set_cons_succ] at hQ ⊢
              simp only [h9, h10, h11, h12, h13, h14] at hQ ⊢
              clear h9 h10 h11 h12 h13 h14
              have hbz := hb.size
              have hR2 := SlI.below hb HR.out
              have hD2 := SlI.dropS (k := k + 1) hR2 (by rw [HRL2.out]; omega)
              rw [HRL2.out] at hD2
              by_cases hrc : rc = k + 1
              · have hz : r.drop (k + 1) = [] := by rw [List.drop_of_length_le (by rw [HRL2.out]; omega)]
                have hz2 : SlI w wA.heap.size (.slice (some ⟨br, or, none⟩) 0 0) (r.drop (k + 1)) := by rw [hz]; exact SlI.zeroS (by omega)
                have HZ := Lib.hid hz2
                have HN := Lib.hid (show n + 1 - (k + 1) = 0 by omega)
                have hn0 : n ≤ k := by omega
                clear hz hz2 hD2 hR2
                subst hrc
                go_wp2
                first | exact hQ _ _ (Below.refl _ _) ⟨hbz, HZ.out⟩ | (have := HN.out; simp only [this] at *; exact hQ _ _ (Below.refl _ _) ⟨hbz, HZ.out⟩)
              · have HD2 := Lib.hid hD2
                clear hD2 hR2
                go_wp2
                have HD3 : SlI w wA.heap.size (.slice (some ⟨br, or + (k + 1), none⟩) (n - k) (rc - (k + 1))) (r.drop (k + 1)) := by rw [show n - k = n + 1 - (k + 1) by omega]; exact HD2.out
                exact hQ _ _ (Below.refl _ _) ⟨hbz, HD3⟩
            · intro x w hb hk Q' hQ
              have h1 : Fresh w wA.heap.size (x.v 1) := (hk 1 (by decide)).1
              have h2 : x.v 2 = .slice (some ⟨b, o, none⟩) (n + 1) c := (hk 2 (by decide)).1
              have h3 : x.v 3 = .int .i64 i := (hk 3 (by decide)).1
              have h4 : x.v 4 = .pointer (some ⟨b, o + i, none⟩) := (hk 4 (by decide)).1
              have h5 : x.v 5 = .slice (some ⟨br, or, none⟩) (n + 1) rc := (hk 5 (by decide)).1
              have h6 : x.v 6 = .int .i64 k := (hk 6 (by decide)).1
              have h7 : x.v 7 = .slice (some ⟨br, or, none⟩) k rc := (hk 7 (by decide)).1
              have h8 : OwnI w wA.heap.size (x.v 8) (r.take k) := (hk 8 (by decide)).1
              have h9 : x.v 9 = .slice (some ⟨b, o, none⟩) (n + 1) c := (hk 9 (by decide)).1
              have h10 : x.v 10 = .int .i64 i := (hk 10 (by decide)).1
              have h11 : x.v 11 = .pointer (some ⟨b, o + i, none⟩) := (hk 11 (by decide)).1
              have h12 : x.v 12 = .slice (some ⟨br, or, none⟩) (n + 1) rc := (hk 12 (by decide)).1
              have h13 : x.v 13 = .int .i64 k := (hk 13 (by decide)).1
              have h14 : x.v 14 = .int .i64 ((k : Int) + 1) := (hk 14 (by decide)).1
              have h15 : wA.heap.size ≤ w.heap.size ∧ SlI w wA.heap.size (x.v 15) (r.drop (k + 1)) := (hk 15 (by decide)).1
              have s1 := (hk 1 (by decide)).2
              have s8 := (hk 8 (by decide)).2
              have s15 := (hk 15 (by decide)).2
              clear hk
              simp only [netAct, dstAt, List.getElem?_toArray, List.getElem?_cons_zero, List.getElem?_cons_succ, Option.bind_some, Act.put, List.setIfInBounds_toArray, List.set_cons_zero, List.set_cons_succ] at hQ ⊢
              simp only [h2, h3, h4, h5, h6, h7, h9, h10, h11, h12, h13, h14] at hQ ⊢
              clear h2 h3 h4 h5 h6 h7 h9 h10 h11 h12 h13 h14
              obtain ⟨_, h15⟩ := h15
              obtain ⟨DA, dc, e15⟩ := h15.form2
              rw [e15] at h15
              have hlo := h8.lt
              refine wpList_appI (by rfl) (.tmp 32) (.tmp 39) (by rfl) wA.heap.size wA.heap.size _ _ (by rfl) h8 DA _ dc (r.drop (k + 1)) (by show x.v 15 = _; exact e15) rfl h15 (by rw [List.length_take, List.length_drop, HRL2.out]; omega) hb.size ?_
              intro v' w' h1 h2 h3
              exact hQ v' w' (below_grown h2 (fun k hk => (hlo k hk).1) hb.size) h1
            · intro x w hb hk Q' hQ
              have h2 : x.v 2 = .slice (some ⟨b, o, none⟩) (n + 1) c := (hk 2 (by decide)).1
              have h3 : x.v 3 = .int .i64 i := (hk 3 (by decide)).1
              have h4 : x.v 4 = .pointer (some ⟨b, o + i, none⟩) := (hk 4 (by decide)).1
              have h5 : x.v 5 = .slice (some ⟨br, or, none⟩) (n + 1) rc := (hk 5 (by decide)).1
              have h6 : x.v 6 = .int .i64 k := (hk 6 (by decide)).1
              have h7 : x.v 7 = .slice (some ⟨br, or, none⟩) k rc := (hk 7 (by decide)).1
              have h9 : x.v 9 = .slice (some ⟨b, o, none⟩) (n + 1) c := (hk 9 (by decide)).1
              have h10 : x.v 10 = .int .i64 i := (hk 10 (by decide)).1
              have h11 : x.v 11 = .pointer (some ⟨b, o + i, none⟩) := (hk 11 (by decide)).1
              have h12 : x.v 12 = .slice (some ⟨br, or, none⟩) (n + 1) rc := (hk 12 (by decide)).1
              have h13 : x.v 13 = .int .i64 k := (hk 13 (by decide)).1
              have h14 : x.v 14 = .int .i64 ((k : Int) + 1) := (hk 14 (by decide)).1
              have h16 : OwnI w wA.heap.size (x.v 16) (cutR k r) := (hk 16 (by decide)).1
              have s16 := (hk 16 (by decide)).2
              clear hk
              simp only [netAct, dstAt, List.getElem?_toArray, List.getElem?_cons_zero, List.getElem?_cons_succ, Option.bind_some, Act.put, List.setIfInBounds_toArray, List.set_cons_zero, List.set_cons_succ] at hQ ⊢
              simp only [h2, h3, h4, h5, h6, h7, h9, h10, h11, h12, h13, h14] at hQ ⊢
              clear h2 h3 h4 h5 h6 h7 h9 h10 h11 h12 h13 h14
              obtain ⟨A9, c9, e9, _⟩ := h16.form
              have hq2 := hQ (.slice (some ⟨w.heap.size, 0, none⟩) 1 1) (w.alloc (.cells #[x.v 16] 22)) (below_alloc _ _) ⟨w.heap.size, rfl, Blk.new w 22 #[x.v 16]⟩
              rw [e9] at hq2 ⊢
              clear h16 e9
              go_wp2
              exact hq2
            · intro x w hb hk hiv hdj
              have h0 : x.v 0 = .slice OA j oc := hk 0 (by decide) (by decide)
              have h2 : x.v 2 = .slice (some ⟨b, o, none⟩) (n + 1) c := hk 2 (by decide) (by decide)
              have h3 : x.v 3 = .int .i64 i := hk 3 (by decide) (by decide)
              have h4 : x.v 4 = .pointer (some ⟨b, o + i, none⟩) := hk 4 (by decide) (by decide)
              have h5 : x.v 5 = .slice (some ⟨br, or, none⟩) (n + 1) rc := hk 5 (by decide) (by decide)
              have h6 : x.v 6 = .int .i64 k := hk 6 (by decide) (by decide)
              have h7 : x.v 7 = .slice (some ⟨br, or, none⟩) k rc := hk 7 (by decide) (by decide)
              have h9 : x.v 9 = .slice (some ⟨b, o, none⟩) (n + 1) c := hk 9 (by decide) (by decide)
              have h10 : x.v 10 = .int .i64 i := hk 10 (by decide) (by decide)
              have h11 : x.v 11 = .pointer (some ⟨b, o + i, none⟩) := hk 11 (by decide) (by decide)
              have h12 : x.v 12 = .slice (some ⟨br, or, none⟩) (n + 1) rc := hk 12 (by decide) (by decide)
              have h13 : x.v 13 = .int .i64 k := hk 13 (by decide) (by decide)
              have h14 : x.v 14 = .int .i64 ((k : Int) + 1) := hk 14 (by decide) (by decide)
              have h16 : OwnI w wA.heap.size (x.v 16) (cutR k r) := hk 16 (by decide) (by decide)
              have h17 : ∃ g, x.v 17 = .slice (some ⟨g, 0, none⟩) 1 1 ∧ Blk w g 22 #[x.v 16] := hk 17 (by decide) (by decide)
              clear hk
              simp only [netAct, dstAt, List.getElem?_toArray, List.getElem?_cons_zero, List.getElem?_cons_succ, Option.bind_some, Act.put, List.setIfInBounds_toArray, List.set_cons_zero, List.set_cons_succ]
              simp only [List.drop_succ_cons, List.drop_zero, h0, h2, h3, h4, h5, h6, h7, h9, h10, h11, h12, h13, h14]
              clear h0 h2 h3 h4 h5 h6 h7 h9 h10 h11 h12 h13 h14
              obtain ⟨g, e10, k10⟩ := h17
              rw [e10]
              have c10 := k10.cell' (i := 0) rfl
              have hws := hb.size
              have hO2 := HO.out.below hb
              have HBQ2 := Lib.hid (HBQ.out.trans (hb.mono (by omega)))
              refine wpList_appR rfl (.tmp 24) (.tmp 41) rfl LO wA.heap.size wA.heap.size w.heap.size (.slice OA j oc) _ (cutR k r) rfl hO2 _ _ (x.v 16) rfl ⟨g, 0, rfl, c10⟩ (IntsO.of_own h16) (Nat.le_refl _) (by omega) (by omega) (by rw [HLO.out]; omega) (by omega) (by omega) ?_
              intro v9 w9 ho9 hb9 _
              rw [← HSN.out] at ho9
              have HO9 := Lib.hid ho9
              have HB9 := Lib.hid (HBQ2.out.trans hb9)
              clear ho9 hb9 hO2 hb hiv hdj e10 k10 c10 h16 HBQ2
              go_wp2
              go_roundw
              case rel => exact ⟨j + 1, i + 1, by omega, by go_num, (by show i + 1 = j + 1 + 1; omega), HO9.out, HB9.out⟩
              case measure => simp [intOf]; omega
          · have hjn' : j = n := by omega
            have e1 : (m.tail.take j).map (cutR k) = mnr k m := by rw [List.take_of_length_le (by rw [List.length_tail, HL.out]; omega)]; rfl
            rw [e1] at hO
            have HO := Lib.hid hO
            have HBQ2 := Lib.hid hbq2
            obtain ⟨D, hD⟩ : ∃ z, detL n (mnr k m) = z := ⟨_, rfl⟩
            have hDr := det_rng HSQ.out
            have hDB := dB_5 (show n ≤ 5 by omega)
            rw [hD] at hDr
            have HD := Lib.hid hD
            have h1 := abs_mul (A := 1) (B := 12) (show -1 ≤ S ∧ S ≤ 1 by omega) hXr
            have h2 := abs_mul (A := 12) (B := 29859840) (a := S * X) (b := D) (by omega) (by omega)
            obtain ⟨P, hP⟩ : ∃ z, S * X = z := ⟨_, rfl⟩
            rw [hP] at h1 h2
            obtain ⟨Z, hZ⟩ : ∃ z, P * D = z := ⟨_, rfl⟩
            rw [hZ] at h2
            have HP := Lib.hid hP
            have HZ := Lib.hid hZ
            have x2 := bcell hbq2 hb0 x0
            have x3 := bcell hbq2 hb00 x1
            have hqs2 := hbq2.size
            clear hO hbq hbq2 hlo e1 hjn' hD hP hZ x0 x1
            go_wp2
            obtain ⟨wA, hwA⟩ : ∃ z, z = wr := ⟨_, rfl⟩
            subst hwA
            obtain ⟨XX, hXX⟩ : ∃ z, z = X := ⟨_, rfl⟩
            subst hXX
            refine wp_region_net (by kernel_rfl) [.eq (.int .i64 T), .eq (.int .i64 S), .eq (.slice (some ⟨b, o, none⟩) (n + 1) c), .eq (.pointer (some ⟨b, o, none⟩)), .eq (.slice (some ⟨b0, o0, none⟩) (n + 1) c0), .eq (.int .i64 k), .eq (.pointer (some ⟨b0, o0 + k, none⟩)), .eq (.int .i64 XX), .eq (.int .i64 P), .eq (.slice OA j oc), .eq (.int .i64 D), .eq (.int .i64 Z)] [[], [], [], [2], [2, 3], [], [2, 3, 4, 5], [2, 3, 4, 5, 6], [1, 2, 3, 4, 5, 6, 7], [], [9], [1, 2, 3, 4, 5, 6, 7, 8, 9, 10], [0, 1, 2, 3, 4, 5, 6, 7, 8, 9, 10, 11], [0, 1, 2, 3, 4, 5, 6, 7, 8, 9, 10, 11, 12]] 12 (by kernel_rfl) ⟨trivial, trivial, trivial, trivial, trivial, trivial, trivial, trivial, trivial, trivial, trivial, trivial, trivial⟩ ⟨?_, ?_, ?_, ?_, ?_, ?_, ?_, ?_, ?_, ?_, ?_, ?_, trivial⟩ ?_
            · intro x w hb hk Q' hQ
              clear hk
              simp only [netAct, dstAt, List.getElem?_toArray, List.getElem?_cons_zero, List.getElem?_cons_succ, Option.bind_some, Act.put, List.setIfInBounds_toArray, List.set_cons_zero, List.set_cons_succ] at hQ ⊢
              go_wp2
              exact hQ (.int .i64 T) _ (Below.refl _ _) rfl
            · intro x w hb hk Q' hQ
              clear hk
              simp only [netAct, dstAt, List.getElem?_toArray, List.getElem?_cons_zero, List.getElem?_cons_succ, Option.bind_some, Act.put, List.setIfInBounds_toArray, List.set_cons_zero, List.set_cons_succ] at hQ ⊢
              go_wp2
              exact hQ (.int .i64 S) _ (Below.refl _ _) rfl
            · intro x w hb hk Q' hQ
              clear hk
              simp only [netAct, dstAt, List.getElem?_toArray, List.getElem?_cons_zero, List.getElem?_cons_succ, Option.bind_some, Act.put, List.setIfInBounds_toArray, List.set_cons_zero, List.set_cons_succ] at hQ ⊢
              go_wp2
              exact hQ (.slice (some ⟨b, o, none⟩) (n + 1) c) _ (Below.refl _ _) rfl
            · intro x w hb hk Q' hQ
              have h2 : x.v 2 = .slice (some ⟨b, o, none⟩) (n + 1) c := (hk 2 (by decide)).1
              clear hk
              simp only [netAct, dstAt, List.getElem?_toArray, List.getElem?_cons_zero, List.getElem?_cons_succ, Option.bind_some, Act.put, List.setIfInBounds_toArray, List.set_cons_zero, List.set_cons_succ] at hQ ⊢
              simp only [h2] at hQ ⊢
              clear h2
              go_wp2
              exact hQ (.pointer (some ⟨b, o, none⟩)) _ (Below.refl _ _) rfl
            · intro x w hb hk Q' hQ
              have h3 : x.v 3 = .pointer (some ⟨b, o, none⟩) := (hk 3 (by decide)).1
              clear hk
              simp only [netAct, dstAt, List.getElem?_toArray, List.getElem?_cons_zero, List.getElem?_cons_succ, Option.bind_some, Act.put, List.setIfInBounds_toArray, List.set_cons_zero, List.set_cons_succ] at hQ ⊢
              simp only [h3] at hQ ⊢
              clear h3
              have q0 := bcell hb (show b < wA.heap.size by omega) x2
              go_wp2
              exact hQ (.slice (some ⟨b0, o0, none⟩) (n + 1) c0) _ (Below.refl _ _) rfl
            · intro x w hb hk Q' hQ
              clear hk
              simp only [netAct, dstAt, List.getElem?_toArray, List.getElem?_cons_zero, List.getElem?_cons_succ, Option.bind_some, Act.put, List.setIfInBounds_toArray, List.set_cons_zero, List.set_cons_succ] at hQ ⊢
              go_wp2
              exact hQ (.int .i64 k) _ (Below.refl _ _) rfl
            · intro x w hb hk Q' hQ
              have h4 : x.v 4 = .slice (some ⟨b0, o0, none⟩) (n + 1) c0 := (hk 4 (by decide)).1
              have h5 : x.v 5 = .int .i64 k := (hk 5 (by decide)).1
              clear hk
              simp only [netAct, dstAt, List.getElem?_toArray, List.getElem?_cons_zero, List.getElem?_cons_succ, Option.bind_some, Act.put, List.setIfInBounds_toArray, List.set_cons_zero, List.set_cons_succ] at hQ ⊢
              simp only [h4, h5] at hQ ⊢
              clear h4 h5
              go_wp2
              exact hQ (.pointer (some ⟨b0, o0 + k, none⟩)) _ (Below.refl _ _) rfl
            · intro x w hb hk Q' hQ
              have h6 : x.v 6 = .pointer (some ⟨b0, o0 + k, none⟩) := (hk 6 (by decide)).1
              clear hk
              simp only [netAct, dstAt, List.getElem?_toArray, List.getElem?_cons_zero, List.getElem?_cons_succ, Option.bind_some, Act.put, List.setIfInBounds_toArray, List.set_cons_zero, List.set_cons_succ] at hQ ⊢
              simp only [h6] at hQ ⊢
              clear h6
              have q0 := bcell hb (show b0 < wA.heap.size by omega) x3
              go_wp2
              exact hQ (.int .i64 XX) _ (Below.refl _ _) rfl
            · intro x w hb hk Q' hQ
              have h1 : x.v 1 = .int .i64 S := (hk 1 (by decide)).1
              have h7 : x.v 7 = .int .i64 XX := (hk 7 (by decide)).1
              clear hk
              simp only [netAct, dstAt, List.getElem?_toArray, List.getElem?_cons_zero, List.getElem?_cons_succ, Option.bind_some, Act.put, List.setIfInBounds_toArray, List.set_cons_zero, List.set_cons_succ] at hQ ⊢
              simp only [h1, h7] at hQ ⊢
              clear h1 h7
              go_wp2
              rw [HP.out, IntWalk.wrap64_in _ ⟨by omega, by omega⟩]
              exact hQ (.int .i64 P) _ (Below.refl _ _) rfl
            · intro x w hb hk Q' hQ
              clear hk
              simp only [netAct, dstAt, List.getElem?_toArray, List.getElem?_cons_zero, List.getElem?_cons_succ, Option.bind_some, Act.put, List.setIfInBounds_toArray, List.set_cons_zero, List.set_cons_succ] at hQ ⊢
              go_wp2
              exact hQ (.slice OA j oc) _ (Below.refl _ _) rfl
            · intro x w hb hk Q' hQ
              have h9 : x.v 9 = .slice OA j oc := (hk 9 (by decide)).1
              clear hk
              simp only [netAct, dstAt, List.getElem?_toArray, List.getElem?_cons_zero, List.getElem?_cons_succ, Option.bind_some, Act.put, List.setIfInBounds_toArray, List.set_cons_zero, List.set_cons_succ] at hQ ⊢
              simp only [h9] at hQ ⊢
              clear h9
              have HMN := Lib.hid (HO.out.below hb).rd
              go_wp2_with fail
              refine (IH.out _ (mnr k m) _ HMN.out HSQ.out).mono ?_; rintro e w6 ⟨rfl, hb6⟩
              rw [HD.out]
              go_wp2
              exact hQ _ _ hb6 rfl
            · intro x w hb hk Q' hQ
              have h8 : x.v 8 = .int .i64 P := (hk 8 (by decide)).1
              have h10 : x.v 10 = .int .i64 D := (hk 10 (by decide)).1
              clear hk
              simp only [netAct, dstAt, List.getElem?_toArray, List.getElem?_cons_zero, List.getElem?_cons_succ, Option.bind_some, Act.put, List.setIfInBounds_toArray, List.set_cons_zero, List.set_cons_succ] at hQ ⊢
              simp only [h8, h10] at hQ ⊢
              clear h8 h10
              go_wp2
              rw [HZ.out, IntWalk.wrap64_in _ ⟨by omega, by omega⟩]
              exact hQ (.int .i64 Z) _ (Below.refl _ _) rfl
            · intro x w hb hk hiv hdj
              have h0 : x.v 0 = .int .i64 T := hk 0 (by decide)
              have h1 : x.v 1 = .int .i64 S := hk 1 (by decide)
              have h2 : x.v 2 = .slice (some ⟨b, o, none⟩) (n + 1) c := hk 2 (by decide)
              have h3 : x.v 3 = .pointer (some ⟨b, o, none⟩) := hk 3 (by decide)
              have h4 : x.v 4 = .slice (some ⟨b0, o0, none⟩) (n + 1) c0 := hk 4 (by decide)
              have h5 : x.v 5 = .int .i64 k := hk 5 (by decide)
              have h6 : x.v 6 = .pointer (some ⟨b0, o0 + k, none⟩) := hk 6 (by decide)
              have h7 : x.v 7 = .int .i64 XX := hk 7 (by decide)
              have h8 : x.v 8 = .int .i64 P := hk 8 (by decide)
              have h9 : x.v 9 = .slice OA j oc := hk 9 (by decide)
              have h10 : x.v 10 = .int .i64 D := hk 10 (by decide)
              have h11 : x.v 11 = .int .i64 Z := hk 11 (by decide)
              clear hk
              simp only [netAct, dstAt, List.getElem?_toArray, List.getElem?_cons_zero, List.getElem?_cons_succ, Option.bind_some, Act.put, List.setIfInBounds_toArray, List.set_cons_zero, List.set_cons_succ]
              simp only [List.drop_succ_cons, List.drop_zero, h0, h1, h2, h3, h4, h5, h6, h7, h8, h9, h10, h11]
              clear h0 h1 h2 h3 h4 h5 h6 h7 h8 h9 h10 h11
              have HB3 := Lib.hid (HBQ2.out.trans (hb.mono hqs2))
              clear hb hiv hdj x2 x3
              go_wp2
              go_roundw
              case rel =>
                refine ⟨k + 1, T + Z, -S, by omega, by go_num, rfl, rfl, ?_, ?_, HB3.out⟩
                · show _ = _
                  rw [detS_succ, HD.out, ← HSG.out, ← HT.out, HXF.out, HP.out, HZ.out]
                · show _ = _
                  rw [sgK_succ, ← HSG.out]
              case measure => simp [intOf]; omega
      · have hkn : k = n + 1 := by omega
        have HTE := Lib.hid (show T = detL (n + 1) m by rw [HDL.out, HT.out, hkn])
        clear hkn
        go_wp2
        go_ret
        exact ⟨by rw [← HTE.out]; rfl, hbel⟩
end Go.Proofs.Ytgbchoenmpoojaa

/- KindOfQuiver: the reference's. -/
namespace Go.Proofs.Ytgbchoenmpoojaa
set_option linter.unusedVariables false
set_option linter.unusedSimpArgs false
open Go.RowKit

theorem ent_rng' (q : Qv) (h : q.f.length ≤ 6) : ∀ a b, -12 ≤ ent q q.f.length a b ∧ ent q q.f.length a b ≤ 12 := fun a b => by
  have := ent_rng q q.f.length a b h
  omega
set_option maxHeartbeats 3200000 in
set_option maxRecDepth 100000 in
theorem specKind_any (u : Value) (q : Qv) (w0 : World) (hu : QvR w0 w0.heap.size u q) :
    Calls Try.prog 48 #[u] w0 fun e w' => e = .returned (.int .i64 (kindQ q)) ∧ Below w0.heap.size w0 w' := by
  have hu' := hu
  obtain ⟨A, c, C, d, rfl, hf, hT, hr, lf, lt⟩ := hu.open_
  clear hu hf hT
  obtain ⟨W, hW⟩ : ∃ W, W = w0.alloc (.cells #[.int .i64 q.v, .slice A q.f.length c, .slice C q.t.length d] 27) := ⟨_, rfl⟩
  have g0 : Below w0.heap.size w0 W := by rw [hW]; exact below_alloc _ _
  have kB : Blk W w0.heap.size 27 #[.int .i64 q.v, .slice A q.f.length c, .slice C q.t.length d] := by rw [hW]; exact Blk.new _ _ _
  have HQ := Lib.hid (QvR.next g0 hu')
  clear hu'
  have c0 := kB.cell' (i := 0) rfl
  have c1 := kB.cell' (i := 1) rfl
  have c2 := kB.cell' (i := 2) rfl
  rcases hq : isQ q with _ | _
  · have HF := Lib.hid (show kindQ q = 0 by simp [kindQ, hq])
    have HQN := Lib.hid hq
    clear hq
    go_enter Try.func48, Try.ntmps48
    go_wp2_with fail
    rw [← hW]; clear hW
    refine (specIsQuiver_any _ q _ HQ.out).mono ?_; rintro e w1 ⟨rfl, hb1⟩
    rw [HQN.out]
    have g1 := bthen g0 hb1
    clear hb1 c0 c1 c2 kB
    go_wp2
    go_ret
    exact ⟨by rw [HF.out]; rfl, g1⟩
  · obtain ⟨⟨hv1, hv5⟩, hlen, h6, _⟩ := isQ_t.1 hq
    clear hlen
    obtain ⟨V, hV⟩ := Int.eq_ofNat_of_zero_le (show 0 ≤ q.v by omega)
    have HF := Lib.hid (show kindQ q = kdGo V (ent q q.f.length) (2 ^ V - 1) 1 1 by simp [kindQ, hq, hV])
    have HQN := Lib.hid hq
    have HER := Lib.hid (ent_rng' q h6)
    have HVV := Lib.hid hV
    replace HQ := Lib.hid (show QvR W W.heap.size (.agg #[.int .i64 (V : Int), .slice A q.f.length c, .slice C q.t.length d]) q by rw [← hV]; exact HQ.out)
    have hV1 : 1 ≤ V := by omega
    have hV5 : V ≤ 5 := by omega
    rw [hV] at kB c0 hW ⊢
    clear hq h6 hV hv1 hv5
    go_enter Try.func48, Try.ntmps48
    go_wp2_with fail
    rw [← hW]; clear hW
    refine (specIsQuiver_any _ q _ HQ.out).mono ?_; rintro e w1 ⟨rfl, hb1⟩
    rw [HQN.out]
    have g1 := bthen g0 hb1
    have kB1 := kB.call hb1
    have HQ1 := Lib.hid (QvR.next hb1 HQ.out)
    clear hb1 c0 c1 c2 kB g0
    have c0 := kB1.cell' (i := 0) rfl
    have c1 := kB1.cell' (i := 1) rfl
    have c2 := kB1.cell' (i := 2) rfl
    go_wp2_with fail
    refine (symmetricForm_any _ q _ HQ1.out HQN.out).mono ?_; rintro e w2 ⟨m2, rfl, hM, hb2⟩
    obtain ⟨MA, mc, em, _⟩ := hM.form2
    subst em
    have HMM := Lib.hid hM
    have kB2 := kB1.call hb2
    have g2 := bthen g1 hb2
    have s2 := g2.size
    clear hM hb2 c0 c1 c2 kB1 g1
    obtain ⟨N, hN⟩ : ∃ z, z = 2 ^ V := ⟨_, rfl⟩
    have hN32 : N ≤ 32 := by
      have : (2 : Nat) ^ V ≤ 2 ^ 5 := Nat.pow_le_pow_right (by omega) hV5
      omega
    have hN1 : 1 ≤ N := by have := Nat.one_le_two_pow (n := V); omega
    have hsh : wrap64 ((2 : Int) ^ V) = (N : Int) := by
      rw [show ((2 : Int) ^ V) = ((2 ^ V : Nat) : Int) by simp, ← hN]
      exact IntWalk.wrap64_in _ ⟨by omega, by omega⟩
    rw [← hN] at HF
    have HSM := Lib.hid (show symM q = matF V (ent q q.f.length) by rw [symM, HVV.out]; rfl)
    clear hN
    go_wp2
    go_loopw [4, 5] (fun kd i wr => ∃ (s : Nat) (k : Int), 1 ≤ s ∧ s ≤ N ∧ i = .int .i64 s ∧ kd = .int .i64 k ∧ 1 ≤ k ∧ k ≤ 3 ∧ Hid (kindQ q = kdGo V (ent q q.f.length) (N - s) s k) ∧ Below w2.heap.size w2 wr) (fun _ i _ => N - (intOf i).toNat)
    case atStart => exact ⟨1, 1, Nat.le_refl _, hN1, rfl, rfl, by omega, by omega, HF, Below.refl _ _⟩
    case round =>
      obtain ⟨s, k, hs1, hs, rfl, rfl, hk1, hk3, HK, hbel⟩ := hrel
      have c0 := (kB2.call hbel).cell' (i := 0) rfl
      by_cases hlt : s < N
      · have hMr := (HMM.out.below hbel).rd
        rw [(show symM q = _ from HSM.out)] at hMr
        have HMR := Lib.hid hMr
        have HBE := Lib.hid hbel
        have hsl := congrArg List.length (show symM q = _ from HSM.out)
        have HSL := Lib.hid hsl
        clear hMr hbel hsl
        go_wp2_with fail
        refine (l18Minor_any _ V s (ent q q.f.length) _ hV5 (by omega) HER.out (by rw [HSL.out]; exact HMR.out)).mono ?_; rintro e w3 ⟨m3, rfl, hm3, hb3⟩
        obtain ⟨A3, c3, e3, _⟩ := hm3.form2
        subst e3
        have HM3 := Lib.hid hm3.rd
        have HBE3 := Lib.hid (HBE.out.trans (hb3.mono HBE.out.size))
        have HSQ := Lib.hid (mnL_sq (s := s) (n := V) HER.out)
        have hbl := bitL_length s V
        obtain ⟨D, hD⟩ : ∃ z, dtS s V (ent q q.f.length) = z := ⟨_, rfl⟩
        have HD := Lib.hid hD
        clear hm3 hb3 hD c0
        go_wp2_with fail
        refine (l18Det_any (bitL s V).length (by omega) _ (mnL s V (ent q q.f.length)) _ HM3.out HSQ.out).mono ?_; rintro e w4 ⟨rfl, hb4⟩
        rw [show detL (bitL s V).length (mnL s V (ent q q.f.length)) = D from HD.out]
        have HBE4 := Lib.hid (HBE3.out.trans (hb4.mono HBE3.out.size))
        have HG4 := Lib.hid (g2.trans (HBE4.out.mono s2))
        obtain ⟨m, hm⟩ : ∃ m, N - s = m + 1 := ⟨N - s - 1, by omega⟩
        have hK := HK.out
        rw [hm] at hK
        simp only [kdGo] at hK
        rw [show dtS s V (ent q q.f.length) = D from HD.out] at hK
        have hm2 : m = N - (s + 1) := by omega
        rw [hm2] at hK
        clear hb4 hm hm2 HD
        by_cases hD0 : D < 0
        · rw [if_pos hD0] at hK
          have HKK := Lib.hid hK
          clear hK
          go_wp2
          go_ret
          exact ⟨by rw [HKK.out]; rfl, HG4.out⟩
        · rw [if_neg hD0] at hK
          by_cases hD1 : D = 0
          · rw [if_pos hD1] at hK
            have HKK := Lib.hid hK
            clear hK
            subst hD1
            go_wp2
            go_roundw
            case rel => exact ⟨s + 1, 2, by omega, by omega, by go_num, rfl, by omega, by omega, HKK, HBE4.out⟩
            case measure => simp [intOf]; omega
          · rw [if_neg hD1] at hK
            have HKK := Lib.hid hK
            have hne : (D == 0) = false := by rw [beq_eq_false_iff_ne]; exact hD1
            clear hK
            go_wp2
            go_roundw
            case rel => exact ⟨s + 1, k, by omega, by omega, by go_num, rfl, by omega, by omega, HKK, HBE4.out⟩
            case measure => simp [intOf]; omega
      · have HKK := Lib.hid (show kindQ q = k by rw [(HK.out : kindQ q = _), show N - s = 0 by omega]; rfl)
        have HG := Lib.hid (g2.trans (hbel.mono s2))
        clear hbel
        go_wp2
        go_ret
        exact ⟨by rw [HKK.out]; rfl, HG.out⟩
end Go.Proofs.Ytgbchoenmpoojaa

/- KindOfQuiver: the program's. -/
namespace Go.Proofs.Ytgbchoenmpoojaa
set_option linter.unusedVariables false
set_option linter.unusedSimpArgs false
open Go.RowKit

set_option maxHeartbeats 6400000 in
set_option maxRecDepth 100000 in
theorem implKind_any (u : Value) (q : Qv) (w0 : World) (hu : QvR w0 w0.heap.size u q) :
    Calls Try.prog 54 #[u] w0 fun e w' => e = .returned (.int .i64 (kindQ q)) ∧ Below w0.heap.size w0 w' := by
  have hu' := hu
  obtain ⟨A, c, C, d, rfl, hf, hT, hr, lf, lt⟩ := hu.open_
  clear hu hf hT
  obtain ⟨W, hW⟩ : ∃ W, W = w0.alloc (.cells #[.int .i64 q.v, .slice A q.f.length c, .slice C q.t.length d] 27) := ⟨_, rfl⟩
  have g0 : Below w0.heap.size w0 W := by rw [hW]; exact below_alloc _ _
  have kB : Blk W w0.heap.size 27 #[.int .i64 q.v, .slice A q.f.length c, .slice C q.t.length d] := by rw [hW]; exact Blk.new _ _ _
  have HQ := Lib.hid (QvR.next g0 hu')
  clear hu'
  have c0 := kB.cell' (i := 0) rfl
  have c1 := kB.cell' (i := 1) rfl
  have c2 := kB.cell' (i := 2) rfl
  rcases hq : isQ q with _ | _
  · have HF := Lib.hid (show kindQ q = 0 by simp [kindQ, hq])
    have HQN := Lib.hid hq
    clear hq
    go_enter Try.func54, Try.ntmps54
    go_wp2_with fail
    rw [← hW]; clear hW
    refine (implIsQuiver_any _ q _ HQ.out).mono ?_; rintro e w1 ⟨rfl, hb1⟩
    rw [HQN.out]
    have g1 := bthen g0 hb1
    clear hb1 c0 c1 c2 kB
    go_wp2
    go_ret
    exact ⟨by rw [HF.out]; rfl, g1⟩
  · obtain ⟨⟨hv1, hv5⟩, hlen, h6, _⟩ := isQ_t.1 hq
    clear hlen
    obtain ⟨V, hV⟩ := Int.eq_ofNat_of_zero_le (show 0 ≤ q.v by omega)
    have HF := Lib.hid (show kindQ q = kdGo V (ent q q.f.length) (2 ^ V - 1) 1 1 by simp [kindQ, hq, hV])
    have HQN := Lib.hid hq
    have HER := Lib.hid (ent_rng' q h6)
    have HVV := Lib.hid hV
    replace HQ := Lib.hid (show QvR W W.heap.size (.agg #[.int .i64 (V : Int), .slice A q.f.length c, .slice C q.t.length d]) q by rw [← hV]; exact HQ.out)
    have hV1 : 1 ≤ V := by omega
    have hV5 : V ≤ 5 := by omega
    rw [hV] at kB c0 hW ⊢
    clear hq h6 hV hv1 hv5
    go_enter Try.func54, Try.ntmps54
    go_wp2_with fail
    rw [← hW]; clear hW
    refine (implIsQuiver_any _ q _ HQ.out).mono ?_; rintro e w1 ⟨rfl, hb1⟩
    rw [HQN.out]
    have g1 := bthen g0 hb1
    have kB1 := kB.call hb1
    have HQ1 := Lib.hid (QvR.next hb1 HQ.out)
    clear hb1 c0 c1 c2 kB g0
    have c0 := kB1.cell' (i := 0) rfl
    have c1 := kB1.cell' (i := 1) rfl
    have c2 := kB1.cell' (i := 2) rfl
    go_wp2_with fail
    refine (symmetric_any _ q _ HQ1.out HQN.out).mono ?_; rintro e w2 ⟨m2, rfl, hM, hb2⟩
    obtain ⟨MA, mc, em, _⟩ := hM.form2
    subst em
    have HSM := Lib.hid (show symM q = matF V (ent q q.f.length) by rw [symM, HVV.out]; rfl)
    rw [HSM.out, matF_length] at hM ⊢
    have HMM := Lib.hid hM
    have kB2 := kB1.call hb2
    have g2 := bthen g1 hb2
    have s2 := g2.size
    obtain ⟨MB, MO, rfl, hMB0⟩ : ∃ b o, MA = some ⟨b, o, none⟩ ∧ b < w2.heap.size := by
      have h1 := hM.rd
      obtain ⟨_, _, e, _, _, _, h4⟩ := h1
      injection e with e1 _ _
      obtain ⟨b, o, e2, hb, _⟩ := h4 (by rw [matF_length]; omega)
      exact ⟨b, o, by rw [e1, e2], hb⟩
    clear hM hb2 c0 c1 c2 kB1 g1
    obtain ⟨N, hN⟩ : ∃ z, z = 2 ^ V := ⟨_, rfl⟩
    have hN32 : N ≤ 32 := by
      have : (2 : Nat) ^ V ≤ 2 ^ 5 := Nat.pow_le_pow_right (by omega) hV5
      omega
    have hN1 : 1 ≤ N := by have := Nat.one_le_two_pow (n := V); omega
    have hsh : wrap64 ((2 : Int) ^ V) = (N : Int) := by
      rw [show ((2 : Int) ^ V) = ((2 ^ V : Nat) : Int) by simp, ← hN]
      exact IntWalk.wrap64_in _ ⟨by omega, by omega⟩
    rw [← hN] at HF
    have HB1 := Lib.hid band1
    obtain ⟨g, hg⟩ : ∃ g, ent q q.f.length = g := ⟨_, rfl⟩
    rw [hg] at HMM HF HER
    clear hN HSM hg HQ HQ1
    go_wp2
    go_loopw [3, 5] (fun kd i wr => ∃ (s : Nat) (k : Int), 1 ≤ s ∧ s ≤ N ∧ i = .int .i64 s ∧ kd = .int .i64 k ∧ 1 ≤ k ∧ k ≤ 3 ∧ Hid (kindQ q = kdGo V g (N - s) s k) ∧ Below w2.heap.size w2 wr) (fun _ i _ => N - (intOf i).toNat)
    case atStart => exact ⟨1, 1, Nat.le_refl _, hN1, rfl, rfl, by omega, by omega, HF, Below.refl _ _⟩
    case round =>
      obtain ⟨s, k, hs1, hs, rfl, rfl, hk1, hk3, HK, hbel⟩ := hrel
      have c0 := (kB2.call hbel).cell' (i := 0) rfl
      by_cases hlt : s < N
      · have hMr := (HMM.out.below hbel).rd
        have HX : Hid (SlII wr wr.heap.size (.slice (some ⟨MB, MO, none⟩) (matF V g).length mc) (matF V g)) := by rw [matF_length]; exact hMr
        have HBE := Lib.hid hbel
        have hws := hbel.size
        obtain ⟨LO, hLO⟩ : ∃ z, z = wr.heap.size := ⟨_, rfl⟩
        clear hMr hbel
        go_wp2
        obtain ⟨w3, hw3⟩ : ∃ z, z = wr := ⟨_, rfl⟩
        subst hw3
        clear c0 hsh
        go_loopw [6, 27] (fun ov i wq => ∃ j : Nat, j ≤ V ∧ i = .int .i64 j ∧ IntssO wq w3.heap.size wq.heap.size ov (mnTo s V g j) ∧ Below w3.heap.size w3 wq) (fun _ i _ => V - (intOf i).toNat)
        case atStart => exact ⟨0, Nat.zero_le _, rfl, by simpa [mnTo, bitL] using IntssO.nil w3 _ _, Below.refl _ _⟩
        case round =>
          obtain ⟨j, hj, rfl, hO, hbq⟩ := hrel
          obtain ⟨OA, oc, eo, hoc, hoc2, hol⟩ := hO.form2
          have hlo : (mnTo s V g j).length = (bitL s j).length := by simp [mnTo]
          rw [hlo] at eo hoc
          subst eo
          have hbl := bitL_length s j
          have hqs := hbq.size
          by_cases hjn : j < V
          · obtain ⟨r, RA, rc, hr0, _, y1, hr, hrc1, hrc2⟩ := SlII.elt HX.out (k := j) (by rw [matF_length]; omega)
            rw [matF_get _ hjn] at hr0
            injection hr0 with hr0
            subst hr0
            have y2 := bcell hbq (show MB < w3.heap.size by omega) y1
            rw [rowF_length] at y2 hrc1
            obtain ⟨b2, o2, rfl, hb2⟩ := SlI.addr hr (by rw [rowF_length]; omega)
            have HR := Lib.hid hr
            have HLO := Lib.hid hlo
            rcases hbt : bitT s j with _ | _
            · have h0 := bitT_0 hbt
              have h1 := HB1.out
              rw [show mnTo s V g j = mnTo s V g (j + 1) by rw [mnTo, mnTo, bitL_succ_f hbt]] at hO
              have HO := Lib.hid hO
              have HBQ := Lib.hid hbq
              clear hO hbq hbt hlo hr y1
              go_wp2
              clear h0 h1
              go_roundw
              case rel => exact ⟨j + 1, by omega, by go_num, HO.out, HBQ.out⟩
              case measure => simp [intOf]; omega
            · have h0 := bitT_1 hbt
              have h1 := HB1.out
              have HO := Lib.hid hO
              have HBQ := Lib.hid hbq
              have HBT := Lib.hid hbt
              clear hO hbq hbt hlo hr y1
              go_wp2
              obtain ⟨w4, hw4⟩ : ∃ z, z = wr := ⟨_, rfl⟩
              subst hw4
              clear h0 h1 y2
              go_loopw [9, 39] (fun rv i wq => ∃ l : Nat, l ≤ V ∧ i = .int .i64 l ∧ IntsO wq w4.heap.size wq.heap.size rv ((bitL s l).map (g j)) ∧ Below w4.heap.size w4 wq) (fun _ i _ => V - (intOf i).toNat)
              case atStart => exact ⟨0, Nat.zero_le _, rfl, by simpa [bitL] using (show IntsO w4 w4.heap.size w4.heap.size (.slice none 0 0) [] from ⟨OwnI.nil _ _, by simp [Value.ownBlock]⟩), Below.refl _ _⟩
              case round =>
                obtain ⟨l, hl, rfl, hI, hbz⟩ := hrel
                obtain ⟨RV, rv, er, hrv1, hrv2⟩ := hI.1.form
                have hlr : ((bitL s l).map (g j)).length = (bitL s l).length := by simp
                have hbl2 := bitL_length s l
                have hwz := hbz.size
                rw [hlr] at er hrv1
                subst er
                by_cases hln : l < V
                · obtain ⟨x, hx0, _, x1, _⟩ := SlI.elt HR.out (k := l) (by rw [rowF_length]; omega)
                  rw [rowF_get _ hln] at hx0
                  injection hx0 with hx0
                  have hgr := HER.out j l
                  rw [hx0] at hgr
                  have x2 := bcell (HBQ.out.trans (hbz.mono (by omega))) (show b2 < w3.heap.size by omega) x1
                  rcases hbj : bitT s l with _ | _
                  · have h0 := bitT_0 hbj
                    have h1 := HB1.out
                    rw [show (bitL s l).map (g j) = (bitL s (l + 1)).map (g j) by rw [bitL_succ_f hbj]] at hI
                    have HI := Lib.hid hI
                    have HBZ := Lib.hid hbz
                    clear hI hbz hbj hlr hx0 x1
                    go_wp2
                    clear h0 h1
                    go_roundw
                    case rel => exact ⟨l + 1, by omega, by go_num, HI.out, HBZ.out⟩
                    case measure => simp [intOf]; omega
                  · have h0 := bitT_1 hbj
                    have h1 := HB1.out
                    have HSX := Lib.hid (show (bitL s (l + 1)).map (g j) = (bitL s l).map (g j) ++ [x] by rw [bitL_succ_t hbj, List.map_append, ← hx0]; rfl)
                    have bz := below_alloc wr (.cells #[.int .i64 x] 3)
                    have HI2 := Lib.hid (hI.below bz)
                    have HB2 := Lib.hid (hbz.trans (bz.mono (by omega)))
                    have HLR := Lib.hid hlr
                    clear hx0 x1 hI hbz hbj hlr bz
                    (go_wp2_with (at_builtin; refine Hold.stop ?_)); unfold Hold
                    refine wpList_appI rfl (.tmp 49) (.tmp 51) rfl w4.heap.size _ (.slice RV (bitL s l).length rv) ((bitL s l).map (g j)) rfl HI2.out.1 _ _ _ [x] rfl rfl (SlI.one wr _ _ ⟨by omega, by omega⟩) (by rw [HLR.out]; simp; omega) (by simp; omega) ?_
                    intro v9 w9 ho9 hg9 hv9
                    rw [← HSX.out] at ho9
                    have hbg : Below w4.heap.size _ w9 := below_grown hg9 (fun k hk => (HI2.out.1.lt k hk).1) (by simp; omega)
                    have HBT2 := Lib.hid (HB2.out.trans hbg)
                    have HO9 := Lib.hid (IntsO.of_own ho9)
                    clear ho9 hg9 hv9 hbg h0 h1 x2
                    go_wp2
                    go_roundw
                    case rel => exact ⟨l + 1, by omega, by go_num, HO9.out, HBT2.out⟩
                    case measure => simp [intOf]; omega
                · have hln' : l = V := by omega
                  replace hI : IntsO wr w4.heap.size wr.heap.size (.slice RV (bitL s l).length rv) ((bitL s V).map (g j)) := by rw [show (bitL s V).map (g j) = (bitL s l).map (g j) by rw [hln']]; exact hI
                  obtain ⟨u, hu, Z, hZ⟩ : ∃ u, u = wr.heap.size ∧ ∃ Z, Z = wr.alloc (.cells #[.slice RV (bitL s l).length rv] 22) := ⟨_, rfl, _, rfl⟩
                  have bZ : Below wr.heap.size wr Z := by rw [hZ]; exact below_alloc _ _
                  have kZ : Blk Z u 22 #[.slice RV (bitL s l).length rv] := by rw [hZ, hu]; exact Blk.new _ _ _
                  have HOZ := Lib.hid ((HO.out.below hbz).below bZ)
                  have HRZ := Lib.hid (hI.below bZ)
                  have HBZ := Lib.hid ((HBQ.out.trans (hbz.mono (by omega))).trans (bZ.mono (by omega)))
                  have sZ := bZ.size
                  have C0 := Lib.hid (kZ.cell' (i := 0) rfl)
                  have HU := Lib.hid hu
                  have HSN := Lib.hid (show mnTo s V g (j + 1) = mnTo s V g j ++ [(bitL s V).map (g j)] by rw [mnTo, bitL_succ_t HBT.out, List.map_append]; rfl)
                  clear hI hbz bZ kZ hu hln' hlr
                  (go_wp2_with (at_builtin; refine Hold.stop ?_)); unfold Hold
                  rw [← HU.out, ← hZ]
                  clear hZ
                  refine wpList_appR rfl (.tmp 54) (.tmp 56) rfl w3.heap.size w4.heap.size w4.heap.size wr.heap.size (.slice OA (bitL s j).length oc) (mnTo s V g j) ((bitL s V).map (g j)) rfl HOZ.out _ _ (.slice RV (bitL s l).length rv) rfl ⟨u, 0, rfl, C0.out⟩ HRZ.out (Nat.le_refl _) (by omega) (by omega) (by rw [HLO.out]; omega) (by omega) (by omega) ?_
                  intro v9 w9 ho9 hb9 _
                  rw [← HSN.out] at ho9
                  have HO9 := Lib.hid ho9
                  have HB9 := Lib.hid (HBZ.out.trans hb9)
                  clear ho9 hb9
                  go_wp2
                  go_roundw
                  case rel => exact ⟨j + 1, by omega, by go_num, HO9.out, HB9.out⟩
                  case measure => simp [intOf]; omega
          · have hkn : j = V := by omega
            have HM3 := Lib.hid (show SlII wr wr.heap.size (.slice OA (bitL s j).length oc) (mnL s V g) by rw [show mnL s V g = mnTo s V g j by rw [mnL, hkn]]; exact hO.rd)
            have HBE3 := Lib.hid (HBE.out.trans (hbq.mono hws))
            have HSQ := Lib.hid (mnL_sq (s := s) (n := V) HER.out)
            have hblV := bitL_length s V
            obtain ⟨D, hD⟩ : ∃ z, dtS s V g = z := ⟨_, rfl⟩
            have HD := Lib.hid hD
            clear hO hbq hlo hD hkn
            go_wp2_with fail
            refine (determinant_any (bitL s V).length (by omega) _ (mnL s V g) _ HM3.out HSQ.out).mono ?_; rintro e w5 ⟨rfl, hb5⟩
            rw [show detL (bitL s V).length (mnL s V g) = D from HD.out]
            have HBE4 := Lib.hid (HBE3.out.trans (hb5.mono HBE3.out.size))
            have HG4 := Lib.hid (g2.trans (HBE4.out.mono s2))
            obtain ⟨m, hm⟩ : ∃ m, N - s = m + 1 := ⟨N - s - 1, by omega⟩
            have hK := HK.out
            rw [hm] at hK
            simp only [kdGo] at hK
            rw [show dtS s V g = D from HD.out] at hK
            have hm2 : m = N - (s + 1) := by omega
            rw [hm2] at hK
            clear hb5 hm hm2 HD
            by_cases hD0 : D < 0
            · rw [if_pos hD0] at hK
              have HKK := Lib.hid hK
              clear hK
              go_wp2
              go_ret
              exact ⟨by rw [HKK.out]; rfl, HG4.out⟩
            · rw [if_neg hD0] at hK
              by_cases hD1 : D = 0
              · rw [if_pos hD1] at hK
                have HKK := Lib.hid hK
                clear hK
                subst hD1
                go_wp2
                go_roundw
                case rel => exact ⟨s + 1, 2, by omega, by omega, by go_num, rfl, by omega, by omega, HKK, HBE4.out⟩
                case measure => simp [intOf]; omega
              · rw [if_neg hD1] at hK
                have HKK := Lib.hid hK
                have hne : (D == 0) = false := by rw [beq_eq_false_iff_ne]; exact hD1
                clear hK
                go_wp2
                go_roundw
                case rel => exact ⟨s + 1, k, by omega, by omega, by go_num, rfl, by omega, by omega, HKK, HBE4.out⟩
                case measure => simp [intOf]; omega
      · have HKK := Lib.hid (show kindQ q = k by rw [(HK.out : kindQ q = _), show N - s = 0 by omega]; rfl)
        have HG := Lib.hid (g2.trans (hbel.mono s2))
        clear hbel
        go_wp2
        go_ret
        exact ⟨by rw [HKK.out]; rfl, HG.out⟩
end Go.Proofs.Ytgbchoenmpoojaa

/- KnitRow: both sides. -/
namespace Go.Proofs.Ytgbchoenmpoojaa
set_option linter.unusedVariables false
set_option linter.unusedSimpArgs false
open Go.RowKit

set_option maxHeartbeats 800000 in
theorem l27Positive_any (u : Value) (x : List Int) (w : World) (hu : SlI w w.heap.size u x) :
    Calls Try.prog 52 #[u] w fun e w' => e = .returned (.bool (posL x)) ∧ w' = w := by
  obtain ⟨A, c, rfl, _, _, hn, hx⟩ := hu.open_
  clear hu
  obtain ⟨R, hR⟩ : ∃ R, posL x = R := ⟨_, rfl⟩
  rw [hR]
  have HR := Lib.hid hR
  clear hR
  go_enter Try.func52, Try.ntmps52
  go_wp2
  go_loop [3, 4] (fun m i => ∃ k : Nat, k ≤ x.length ∧ i = .int .i64 k ∧ m = .bool ((x.take k).any fun y => decide (0 < y)) ∧ Hid (nnL (x.take k) = true)) (fun _ i => x.length - (intOf i).toNat)
  case atStart => exact ⟨0, Nat.zero_le _, rfl, by simp, rfl⟩
  case round =>
    obtain ⟨k, hk, rfl, rfl, hnn⟩ := hrel
    by_cases hlt : k < x.length
    · obtain ⟨b, o, a, rfl, hb, HX, c1, hx1, hx2⟩ := SlI.at_ hx hlt
      have hst := Lib.hid (show (x.take (k + 1)).any (fun y => decide (0 < y)) = ((x.take k).any (fun y => decide (0 < y)) || decide (0 < a)) by rw [take_snoc HX.out]; simp)
      have hn2 := Lib.hid (show nnL (x.take (k + 1)) = (nnL (x.take k) && decide (0 ≤ a)) by rw [take_snoc HX.out]; simp [nnL])
      obtain ⟨M, hM⟩ : ∃ M, (x.take k).any (fun y => decide (0 < y)) = M := ⟨_, rfl⟩
      rw [hM] at hst ⊢
      clear hM hx
      by_cases h0 : a < 0
      · have HF : Hid (R = false) := by
          show _ = _
          rw [← HR.out, posL]
          have : nnL x = false := by
            cases h : nnL x with
            | false => rfl
            | true =>
              have := nnL_t.1 h a (List.mem_of_getElem? HX.out)
              omega
          rw [this]; rfl
        go_wp2
        go_ret
        exact ⟨by rw [HF.out]; rfl, rfl⟩
      · have HN : Hid (nnL (x.take (k + 1)) = true) := by show _ = _; rw [hn2.out, hnn.out, show decide (0 ≤ a) = true from decide_eq_true (by omega)]; rfl
        cases M
        · go_wp2
          go_round
          case rel => exact ⟨k + 1, by omega, by go_num, by rw [hst.out]; rfl, HN⟩
          case measure => simp [intOf]; omega
        · go_wp2
          go_round
          case rel => exact ⟨k + 1, by omega, by go_num, by rw [hst.out]; rfl, HN⟩
          case measure => simp [intOf]; omega
    · obtain rfl : k = x.length := by omega
      have HF : Hid ((x.take x.length).any (fun y => decide (0 < y)) = R) := by
        show _ = _
        rw [← HR.out, posL]
        have := hnn.out
        rw [List.take_length] at this ⊢
        rw [this]; rfl
      rw [HF.out]
      go_wp2
      go_ret
      exact ⟨rfl, rfl⟩
end Go.Proofs.Ytgbchoenmpoojaa

/- KnitRow: the program's. -/
namespace Go.Proofs.Ytgbchoenmpoojaa
set_option linter.unusedVariables false
set_option linter.unusedSimpArgs false
open Go.RowKit

theorem IntssO.neO {w : World} {lo hi base : Nat} {v u : Value} {ll : List (List Int)} {l : List Int} (h : IntssO w lo hi v ll) (hu : OwnI w base u l) : u.ownBlock = none ∨ u.ownBlock ≠ v.ownBlock := by
  obtain ⟨vs, h4, _, _⟩ := h
  rcases h4.1.2 with ⟨rfl, _⟩ | ⟨g, cap, cur, rfl, _, hh, _⟩
  · rcases hA : u.ownBlock with _ | x
    · exact .inl rfl
    · exact .inr (by simp [Value.ownBlock])
  · exact .inr (fun e => hu.blkne (g := g) (t := 22) (cs := cur) hh (by decide) (by rw [e]; rfl))
theorem knQ_no1 {q : Qv} {v : Int} (h : kindQ q ≠ 1) : knQ q v = ([], false) := by rw [knQ, if_neg fun h' => h h'.1]
theorem knQ_no2 {q : Qv} {v : Int} (h : inR v 0 (q.v - 1) = false) : knQ q v = ([], false) := by rw [knQ, if_neg fun h' => by rw [h] at h'; cases h'.2]
theorem map_rs (f : Nat → List Int) (k : Nat) : (List.range (k + 1)).map f = (List.range k).map f ++ [f k] := by simp [List.range_succ]
theorem minL_neg {x : List Int} (hx : x ≠ []) : decide (minL x ≥ 0) = nnL x := minL_nn hx
set_option maxRecDepth 100000 in
set_option maxHeartbeats 3200000 in
theorem implKnitRow_any (u : Value) (q : Qv) (v : Int) (w0 : World) (hu : QvR w0 w0.heap.size u q) (hi : I64 v) :
    Calls Try.prog 23 #[u, .int .i64 v] w0 fun e w' => ∃ o, e = .returned (.tuple #[o, .bool (knQ q v).2]) ∧ IntssO w' w0.heap.size w'.heap.size o (knQ q v).1 ∧ Below w0.heap.size w0 w' := by
  have hu' := hu
  obtain ⟨A, c, C, d, rfl, hf, hT, hr, lf, lt⟩ := hu.open_
  clear hu hf hT
  obtain ⟨W, hW⟩ : ∃ W, w0.alloc (.cells #[.int .i64 q.v, .slice A q.f.length c, .slice C q.t.length d] 27) = W := ⟨_, rfl⟩
  have g0 : Below w0.heap.size w0 W := by rw [← hW]; exact below_alloc _ _
  have kB : Blk W w0.heap.size 27 #[.int .i64 q.v, .slice A q.f.length c, .slice C q.t.length d] := by rw [← hW]; exact Blk.new _ _ _
  have HQ := Lib.hid (QvR.next g0 hu')
  clear hu'
  have c0 := kB.cell' (i := 0) rfl
  have c1 := kB.cell' (i := 1) rfl
  have c2 := kB.cell' (i := 2) rfl
  obtain ⟨K, hK⟩ : ∃ k, kindQ q = k := ⟨_, rfl⟩
  by_cases h1 : K = 1
  case neg =>
    have hn := Lib.hid (knQ_no1 (v := v) (show kindQ q ≠ 1 by rw [hK]; exact h1))
    rw [hn.out]
    have hd : (K != 1) = true := bne_iff_ne.2 h1
    have HK := Lib.hid hK
    clear hK kB
    go_enter Try.func23, Try.ntmps23
    go_wp2_with fail
    clear hW
    refine (implKind_any _ q _ HQ.out).mono ?_; rintro e w1 ⟨rfl, hb1⟩
    rw [HK.out]
    go_wp2
    go_ret2
    exact ⟨_, rfl, IntssO.nil _ _ _, bthen g0 hb1⟩
  case pos =>
  subst h1
  have hv5 := (isQ_t.1 (fin_isQ hK)).1
  by_cases hs : inR v 0 (q.v - 1) = true
  case neg =>
    rw [Bool.not_eq_true] at hs
    have hn := Lib.hid (knQ_no2 hs)
    rw [hn.out]
    have HK := Lib.hid hK
    have HS := Lib.hid hs
    clear hK hs
    go_enter Try.func23, Try.ntmps23
    go_wp2_with fail
    clear hW
    refine (implKind_any _ q _ HQ.out).mono ?_; rintro e w1 ⟨rfl, hb1⟩
    rw [HK.out]
    have k1 := kB.call hb1
    clear c0 c1 c2
    have c0 := k1.cell' (i := 0) rfl
    have c1 := k1.cell' (i := 1) rfl
    have c2 := k1.cell' (i := 2) rfl
    go_wp2_with fail
    refine (hasVertex_any _ q v _ (QvR.next hb1 HQ.out) hv5).mono ?_; rintro e w2 ⟨rfl, hb2⟩
    rw [HS.out]
    go_wp2
    go_ret2
    exact ⟨_, rfl, IntssO.nil _ _ _, bthen (bthen g0 hb1) hb2⟩
  case pos =>
  obtain ⟨N, hN20, hkn, hall, hnf, hfac⟩ := knit_facts hK hs
  have hdm : dmQ q v = itL q (dmP q v) 0 := by rw [dmQ, dimOk, kind_acy hK, hs]; rfl
  obtain ⟨f, hf⟩ : ∃ f, f = itL q (dmP q v) := ⟨_, rfl⟩
  rw [← hf] at hkn hall hnf hfac hdm
  rw [hkn]
  have HALL := Lib.hid hall
  have HNF := Lib.hid hnf
  have HFAC := Lib.hid hfac
  have HDM := Lib.hid hdm
  have HK := Lib.hid hK
  have HS := Lib.hid hs
  have HVP : Hid (0 < q.v.toNat) := by show 0 < _; omega
  clear hK hs hf hkn hall hnf hfac hdm
  go_enter Try.func23, Try.ntmps23
  go_wp2_with fail
  clear hW
  refine (implKind_any _ q _ HQ.out).mono ?_; rintro e w1 ⟨rfl, hb1⟩
  rw [HK.out]
  have k1 := kB.call hb1
  clear c0 c1 c2
  have c0 := k1.cell' (i := 0) rfl
  have c1 := k1.cell' (i := 1) rfl
  have c2 := k1.cell' (i := 2) rfl
  go_wp2_with fail
  refine (hasVertex_any _ q v _ (QvR.next hb1 HQ.out) hv5).mono ?_; rintro e w2 ⟨rfl, hb2⟩
  rw [HS.out]
  have k2 := k1.call hb2
  have HQ2 := Lib.hid (QvR.next hb2 (QvR.next hb1 HQ.out))
  have B2 := Lib.hid (bthen hb1 hb2)
  have hs2 := B2.out.size
  clear c0 c1 c2
  have c0 := k2.cell' (i := 0) rfl
  have c1 := k2.cell' (i := 1) rfl
  have c2 := k2.cell' (i := 2) rfl
  clear hb1 hb2 k1 k2
  go_wp2_with fail
  refine (implProjectiveDims_any _ q v w2 HQ2.out hi).mono ?_; rintro e w3 ⟨o3, rfl, ho3, hb3⟩
  rw [HDM.out] at ho3
  have HX3 := Lib.hid (IntsO.of_own ho3)
  have B3 := Lib.hid (bthen B2.out hb3)
  have hs3 := hb3.size
  have KB := Lib.hid kB
  have G0 := Lib.hid g0
  have hsg := g0.size
  clear c0 c1 c2 ho3 hb3 kB g0 HQ2
  go_wp2
  go_loopw [6, 7, 8] (fun o x b wr => ∃ (k mi hi0 : Nat), k ≤ N ∧ b = .bool true ∧ IntssO wr W.heap.size hi0 o ((List.range k).map f) ∧ IntsO wr mi wr.heap.size x (f k) ∧ hi0 ≤ mi ∧ mi ≤ wr.heap.size ∧ W.heap.size ≤ mi ∧ Below W.heap.size W wr) (fun o _ _ _ => 30 - lenOf o)
  case atStart => exact ⟨0, w2.heap.size, w2.heap.size, Nat.zero_le _, rfl, IntssO.nil _ _ _, HX3.out, Nat.le_refl _, hs3, hs2, B3.out⟩
  case round =>
    obtain ⟨k, mi, hi0, hk, rfl, hO, hX, hm1, hm2, hm3, hbel⟩ := hrel
    have hkr := KB.out.call hbel
    obtain ⟨fl, f2, fc, fp⟩ := HFAC.out k
    obtain ⟨OA, oc, rfl, _, _, _⟩ := hO.form2
    have hol : ((List.range k).map f).length = k := by simp
    rw [hol] at hO ⊢
    obtain ⟨X, hXe⟩ : ∃ X, f k = X := ⟨_, rfl⟩
    have hmn : decide (0 ≤ minL X) = nnL X := minL_nn (by rintro rfl; rw [hXe] at fl; have := HVP.out; simp at fl; omega)
    have HMN := Lib.hid hmn
    rw [hXe] at hX fl f2 fc fp
    have HXE := Lib.hid hXe
    have HMIN := Lib.hid (sliceMin_any _ X wr hX.1.rd (by have := HVP.out; omega) (fun a ha => by have := f2 a ha; omega))
    have HO := Lib.hid hO
    have HX := Lib.hid hX
    have HBE := Lib.hid hbel
    have HFC := Lib.hid fc
    have HKR := Lib.hid hkr
    have hwr := hbel.size
    obtain ⟨M, hM⟩ : ∃ M, minL X = M := ⟨_, rfl⟩
    rw [hM] at HMIN HMN
    clear hol hO hX hbel hkr fl f2 fc fp hM hmn hXe
    by_cases hlt : k < N
    · have hd : decide (0 ≤ M) = true := by rw [HMN.out, ← HXE.out]; exact HALL.out k hlt
      go_wp2_with fail
      refine HMIN.out.mono ?_; rintro e wz ⟨rfl, hwz⟩
      replace hwz := hwz.symm
      subst hwz
      obtain ⟨XA, xc, eX⟩ := HX.out.1.form2
      subst eX
      have bz := below_alloc wr (.cells #[.slice XA X.length xc] 22)
      have kz := Blk.new wr 22 #[.slice XA X.length xc]
      have HOZ := Lib.hid (HO.out.below bz)
      have HXZ := Lib.hid (HX.out.below bz)
      have C0 := Lib.hid (kz.cell' (i := 0) rfl)
      have HBZ := Lib.hid (HBE.out.trans (bz.mono hwr))
      have hsz := bz.size
      clear bz kz HMIN
      (go_wp2_with (at_builtin; refine Hold.stop ?_)); unfold Hold
      refine wpList_appR rfl (.tmp 33) (.tmp 35) rfl W.heap.size hi0 mi wr.heap.size (.slice OA k oc) ((List.range k).map f) X rfl HOZ.out _ _ (.slice XA X.length xc) rfl ⟨wr.heap.size, 0, rfl, C0.out⟩ HXZ.out hm1 hm2 hm3 (by simp; omega) (by omega) (by omega) ?_
      intro v9 w9 ho9 hb9 hg9
      have hx9 := HXZ.out.1.kept hg9 (IntssO.neO HOZ.out HXZ.out.1)
      have hbe9 := HBZ.out.trans hb9
      have HO9 := Lib.hid (show IntssO w9 W.heap.size w9.heap.size v9 ((List.range (k + 1)).map f) by rw [map_rs, HXE.out]; exact ho9)
      obtain ⟨O9, c9, e9, _, _, _⟩ := HO9.out.form2
      rw [show ((List.range (k + 1)).map f).length = k + 1 by simp] at e9
      subst e9
      have k9 := KB.out.call hbe9
      have HQ9 := Lib.hid (QvR.next hbe9 HQ.out)
      have hcx := implCoxeterPower_any _ q _ X (-1) w9 HQ9.out hx9.rd ⟨by omega, by omega⟩
      rw [HFC.out] at hcx
      have HCX := Lib.hid hcx
      have HBE9 := Lib.hid hbe9
      have hw9 := hbe9.size
      have c0 := k9.cell' (i := 0) rfl
      have c1 := k9.cell' (i := 1) rfl
      have c2 := k9.cell' (i := 2) rfl
      clear hcx hx9 ho9 hb9 hg9 hbe9 k9
      go_wp2_with fail
      refine HCX.out.mono ?_; rintro e w10 ⟨r, rfl, hr10, hb10⟩
      have HO10 := Lib.hid (HO9.out.below hb10)
      have HR10 := Lib.hid hr10
      have HB10 := Lib.hid (HBE9.out.trans (hb10.mono HBE9.out.size))
      have hs10 := hb10.size
      clear HCX c0 c1 c2 hr10 hb10
      go_wp2
      go_roundw
      case rel => exact ⟨k + 1, w9.heap.size, w9.heap.size, by omega, rfl, HO10.out, HR10.out, Nat.le_refl _, hs10, hw9, HB10.out⟩
      case measure => simp [lenOf]; omega
    · have hkN : k = N := by omega
      have hd : decide (0 ≤ M) = false := by rw [HMN.out, ← HXE.out, hkN]; exact HNF.out
      have HE : Hid (IntssO wr W.heap.size hi0 (.slice OA k oc) ((List.range N).map f)) := by rw [← hkN]; exact HO.out
      clear hkN
      go_wp2_with fail
      refine HMIN.out.mono ?_; rintro e wz ⟨rfl, hwz⟩
      replace hwz := hwz.symm
      subst hwz
      go_wp2
      go_ret2
      exact ⟨_, rfl, HE.out.wider hsg (by omega), bthen G0.out HBE.out⟩
end Go.Proofs.Ytgbchoenmpoojaa

/- KnitRow: the reference's. -/
namespace Go.Proofs.Ytgbchoenmpoojaa
set_option linter.unusedVariables false
set_option linter.unusedSimpArgs false
open Go.RowKit

theorem tot_leK {n : Nat} : ∀ {ll : List (List Int)}, (∀ x ∈ ll, x.length ≤ n) → tot ll ≤ ll.length * n
  | [], _ => by simp [tot]
  | l :: ll, h => by
    have h1 := tot_leK (ll := ll) fun x hx => h x (by simp [hx])
    have h2 := h l (by simp)
    simp only [tot, List.map_cons, List.sum_cons, List.length_cons] at h1 ⊢
    rw [Nat.succ_mul]; omega
theorem knQ_tot (q : Qv) (v : Int) : tot (knQ q v).1 ≤ 100 ∧ (knQ q v).1.length ≤ 20 := by
  by_cases hk : kindQ q = 1
  · by_cases hv : inR v 0 (q.v - 1) = true
    · obtain ⟨K, hK, e, _, _, hf⟩ := knit_facts hk hv
      have hv5 := (isQ_t.1 (fin_isQ hk)).1
      rw [e]
      have h1 : ((List.range K).map (itL q (dmP q v))).length = K := by simp
      have h2 := tot_leK (n := 5) (ll := (List.range K).map (itL q (dmP q v))) fun x hx => by
        obtain ⟨k, _, rfl⟩ := List.mem_map.1 hx
        have := (hf k).1
        omega
      rw [h1] at h2
      exact ⟨by show tot ((List.range K).map (itL q (dmP q v))) ≤ 100; omega, by show ((List.range K).map (itL q (dmP q v))).length ≤ 20; omega⟩
    · rw [knQ_no2 (by simpa using hv)]; simp [tot]
  · rw [knQ_no1 hk]; simp [tot]
set_option maxRecDepth 100000 in
set_option maxHeartbeats 3200000 in
theorem specKnitRow_any (u : Value) (q : Qv) (v : Int) (w0 : World) (hu : QvR w0 w0.heap.size u q) (hi : I64 v) :
    Calls Try.prog 22 #[u, .int .i64 v] w0 fun e w' => ∃ o, e = .returned (.tuple #[o, .bool (knQ q v).2]) ∧ IntssO w' w0.heap.size w'.heap.size o (knQ q v).1 ∧ Below w0.heap.size w0 w' := by
  have hu' := hu
  obtain ⟨A, c, C, d, rfl, hf, hT, hr, lf, lt⟩ := hu.open_
  clear hu hf hT
  obtain ⟨W, hW⟩ : ∃ W, w0.alloc (.cells #[.int .i64 q.v, .slice A q.f.length c, .slice C q.t.length d] 27) = W := ⟨_, rfl⟩
  have g0 : Below w0.heap.size w0 W := by rw [← hW]; exact below_alloc _ _
  have kB : Blk W w0.heap.size 27 #[.int .i64 q.v, .slice A q.f.length c, .slice C q.t.length d] := by rw [← hW]; exact Blk.new _ _ _
  have HQ := Lib.hid (QvR.next g0 hu')
  clear hu'
  have c0 := kB.cell' (i := 0) rfl
  have c1 := kB.cell' (i := 1) rfl
  have c2 := kB.cell' (i := 2) rfl
  obtain ⟨W1, hW1⟩ : ∃ W1, W.alloc (.cells #[] 22) = W1 := ⟨_, rfl⟩
  have b1 : Below W.heap.size W W1 := by rw [← hW1]; exact below_alloc _ _
  have gw : W.heap.size = w0.heap.size + 1 := by rw [← hW]; simp
  have HE0 := Lib.hid (show IntssO W1 W.heap.size W1.heap.size (.slice (some ⟨w0.heap.size + 1, 0, none⟩) 0 0) [] by rw [← hW1, ← gw]; exact IntssO.made0 W (Nat.le_refl _))
  have kB1 := kB.call b1
  have HQ1 := Lib.hid (QvR.next b1 HQ.out)
  have hsg := g0.size
  have hs1 := b1.size
  clear c0 c1 c2
  have c0 := kB1.cell' (i := 0) rfl
  have c1 := kB1.cell' (i := 1) rfl
  have c2 := kB1.cell' (i := 2) rfl
  obtain ⟨K, hK⟩ : ∃ k, kindQ q = k := ⟨_, rfl⟩
  by_cases h1 : K = 1
  case neg =>
    have hn := Lib.hid (knQ_no1 (v := v) (show kindQ q ≠ 1 by rw [hK]; exact h1))
    rw [hn.out]
    have hd : (K != 1) = true := bne_iff_ne.2 h1
    have HK := Lib.hid hK
    clear hK kB
    go_enter Try.func22, Try.ntmps22
    go_wp2_with fail
    clear hW hW1
    refine (specKind_any _ q _ HQ1.out).mono ?_; rintro e w1 ⟨rfl, hb1⟩
    rw [HK.out]
    go_wp2
    go_ret2
    exact ⟨_, rfl, (HE0.out.below hb1).wider hsg hb1.size, bthen g0 (bthen b1 hb1)⟩
  case pos =>
  subst h1
  have hv5 := (isQ_t.1 (fin_isQ hK)).1
  by_cases hs : inR v 0 (q.v - 1) = true
  case neg =>
    rw [Bool.not_eq_true] at hs
    have hn := Lib.hid (knQ_no2 hs)
    rw [hn.out]
    have HK := Lib.hid hK
    have HS := Lib.hid hs
    clear hK hs
    go_enter Try.func22, Try.ntmps22
    go_wp2_with fail
    clear hW hW1
    refine (specKind_any _ q _ HQ1.out).mono ?_; rintro e w1 ⟨rfl, hb1⟩
    rw [HK.out]
    have k1 := kB1.call hb1
    clear c0 c1 c2
    have c0 := k1.cell' (i := 0) rfl
    have c1 := k1.cell' (i := 1) rfl
    have c2 := k1.cell' (i := 2) rfl
    go_wp2_with fail
    refine (l1In_any _ _ _ _).mono ?_; rintro e wz ⟨rfl, hwz⟩
    replace hwz := hwz.symm
    subst hwz
    rw [HS.out]
    go_wp2
    go_ret2
    exact ⟨_, rfl, (HE0.out.below hb1).wider hsg hb1.size, bthen g0 (bthen b1 hb1)⟩
  case pos =>
  obtain ⟨N, hN20, hkn, hall, hnf, hfac⟩ := knit_facts hK hs
  have hdm : dmQ q v = itL q (dmP q v) 0 := by rw [dmQ, dimOk, kind_acy hK, hs]; rfl
  obtain ⟨f, hf⟩ : ∃ f, f = itL q (dmP q v) := ⟨_, rfl⟩
  rw [← hf] at hkn hall hnf hfac hdm
  rw [hkn]
  have HALL := Lib.hid hall
  have HNF := Lib.hid hnf
  have HFAC := Lib.hid hfac
  have HDM := Lib.hid hdm
  have HK := Lib.hid hK
  have HS := Lib.hid hs
  have HVP : Hid (0 < q.v.toNat) := by show 0 < _; omega
  clear hK hs hf hkn hall hnf hfac hdm
  go_enter Try.func22, Try.ntmps22
  go_wp2_with fail
  clear hW hW1
  refine (specKind_any _ q _ HQ1.out).mono ?_; rintro e w1 ⟨rfl, hb1⟩
  rw [HK.out]
  have k1 := kB1.call hb1
  clear c0 c1 c2
  have c0 := k1.cell' (i := 0) rfl
  have c1 := k1.cell' (i := 1) rfl
  have c2 := k1.cell' (i := 2) rfl
  go_wp2_with fail
  refine (l1In_any _ _ _ _).mono ?_; rintro e wz ⟨rfl, hwz⟩
  replace hwz := hwz.symm
  subst hwz
  rw [HS.out]
  have HQ2 := Lib.hid (QvR.next hb1 HQ1.out)
  have B2 := Lib.hid (bthen b1 hb1)
  have HE2 := Lib.hid (HE0.out.below hb1)
  have hs2 := B2.out.size
  have hs12 := hb1.size
  clear hb1 k1 kB1 b1
  obtain ⟨w2, hw2⟩ : ∃ z, z = w1 := ⟨_, rfl⟩
  subst hw2
  go_wp2_with fail
  refine (specProjectiveDims_any _ q v w2 HQ2.out hi).mono ?_; rintro e w3 ⟨o3, rfl, ho3, hb3⟩
  have HE3 := Lib.hid (HE2.out.below hb3)
  rw [HDM.out] at ho3
  have HX3 := Lib.hid (IntsO.of_own ho3)
  have B3 := Lib.hid (bthen B2.out hb3)
  have hs3 := hb3.size
  have KB := Lib.hid kB
  have G0 := Lib.hid g0
  clear c0 c1 c2 ho3 hb3 kB g0 HQ2
  go_wp2
  go_loopw [6, 7, 8] (fun o x b wr => ∃ (k mi hi0 : Nat), k ≤ N ∧ b = .int .i64 k ∧ IntssO wr W.heap.size hi0 o ((List.range k).map f) ∧ IntsO wr mi wr.heap.size x (f k) ∧ hi0 ≤ mi ∧ mi ≤ wr.heap.size ∧ W.heap.size ≤ mi ∧ Below W.heap.size W wr) (fun o _ _ _ => 30 - lenOf o)
  case atStart => exact ⟨0, w2.heap.size, W1.heap.size, Nat.zero_le _, rfl, by rw [← gw]; rw [← gw] at HE3; exact HE3.out, HX3.out, hs12, hs3, hs2, B3.out⟩
  case round =>
    obtain ⟨k, mi, hi0, hk, rfl, hO, hX, hm1, hm2, hm3, hbel⟩ := hrel
    have hkr := KB.out.call hbel
    obtain ⟨fl, f2, fc, fp⟩ := HFAC.out k
    obtain ⟨OA, oc, rfl, _, _, _⟩ := hO.form2
    have hol : ((List.range k).map f).length = k := by simp
    rw [hol] at hO ⊢
    obtain ⟨X, hXe⟩ : ∃ X, f k = X := ⟨_, rfl⟩
    rw [hXe] at hX fl f2 fc fp
    have HXE := Lib.hid hXe
    have HMIN := Lib.hid (l27Positive_any _ X wr hX.1.rd)
    have HO := Lib.hid hO
    have HX := Lib.hid hX
    have HBE := Lib.hid hbel
    have HFC := Lib.hid fc
    have HKR := Lib.hid hkr
    have hwr := hbel.size
    rw [fp] at HMIN
    obtain ⟨M, hM⟩ : ∃ M, nnL X = M := ⟨_, rfl⟩
    rw [hM] at HMIN
    have HMN := Lib.hid hM
    clear hol hO hX hbel hkr fl f2 fc fp hM hXe
    by_cases hlt : k < N
    · have hd : M = true := by rw [← HMN.out, ← HXE.out]; exact HALL.out k hlt
      subst hd
      go_wp2_with fail
      refine HMIN.out.mono ?_; rintro e wz ⟨rfl, hwz⟩
      replace hwz := hwz.symm
      subst hwz
      obtain ⟨XA, xc, eX⟩ := HX.out.1.form2
      subst eX
      have bz := below_alloc wr (.cells #[.slice XA X.length xc] 22)
      have kz := Blk.new wr 22 #[.slice XA X.length xc]
      have HOZ := Lib.hid (HO.out.below bz)
      have HXZ := Lib.hid (HX.out.below bz)
      have C0 := Lib.hid (kz.cell' (i := 0) rfl)
      have HBZ := Lib.hid (HBE.out.trans (bz.mono hwr))
      have hsz := bz.size
      clear bz kz HMIN
      (go_wp2_with (at_builtin; refine Hold.stop ?_)); unfold Hold
      refine wpList_appR rfl (.tmp 33) (.tmp 35) rfl W.heap.size hi0 mi wr.heap.size (.slice OA k oc) ((List.range k).map f) X rfl HOZ.out _ _ (.slice XA X.length xc) rfl ⟨wr.heap.size, 0, rfl, C0.out⟩ HXZ.out hm1 hm2 hm3 (by simp; omega) (by omega) (by omega) ?_
      intro v9 w9 ho9 hb9 hg9
      have hx9 := HXZ.out.1.kept hg9 (IntssO.neO HOZ.out HXZ.out.1)
      have hbe9 := HBZ.out.trans hb9
      have HO9 := Lib.hid (show IntssO w9 W.heap.size w9.heap.size v9 ((List.range (k + 1)).map f) by rw [map_rs, HXE.out]; exact ho9)
      obtain ⟨O9, c9, e9, _, _, _⟩ := HO9.out.form2
      rw [show ((List.range (k + 1)).map f).length = k + 1 by simp] at e9
      subst e9
      have k9 := KB.out.call hbe9
      have HQ9 := Lib.hid (QvR.next hbe9 HQ.out)
      have hcx := specCoxeterPower_any _ q _ X (-1) w9 HQ9.out hx9.rd ⟨by omega, by omega⟩
      rw [HFC.out] at hcx
      have HCX := Lib.hid hcx
      have HBE9 := Lib.hid hbe9
      have hw9 := hbe9.size
      have c0 := k9.cell' (i := 0) rfl
      have c1 := k9.cell' (i := 1) rfl
      have c2 := k9.cell' (i := 2) rfl
      clear hcx hx9 ho9 hb9 hg9 hbe9 k9
      go_wp2_with fail
      refine HCX.out.mono ?_; rintro e w10 ⟨r, rfl, hr10, hb10⟩
      have HO10 := Lib.hid (HO9.out.below hb10)
      have HR10 := Lib.hid hr10
      have HB10 := Lib.hid (HBE9.out.trans (hb10.mono HBE9.out.size))
      have hs10 := hb10.size
      clear HCX c0 c1 c2 hr10 hb10
      go_wp2
      go_roundw
      case rel => exact ⟨k + 1, w9.heap.size, w9.heap.size, by omega, by go_num, HO10.out, HR10.out, Nat.le_refl _, hs10, hw9, HB10.out⟩
      case measure => simp [lenOf]; omega
    · have hkN : k = N := by omega
      have hd : M = false := by rw [← HMN.out, ← HXE.out, hkN]; exact HNF.out
      subst hd
      have HE : Hid (IntssO wr W.heap.size hi0 (.slice OA k oc) ((List.range N).map f)) := by rw [← hkN]; exact HO.out
      clear hkN
      go_wp2_with fail
      refine HMIN.out.mono ?_; rintro e wz ⟨rfl, hwz⟩
      replace hwz := hwz.symm
      subst hwz
      go_wp2
      go_ret2
      exact ⟨_, rfl, HE.out.wider hsg (by omega), bthen G0.out HBE.out⟩
end Go.Proofs.Ytgbchoenmpoojaa

/- KnitPlace: both sides. -/
namespace Go.Proofs.Ytgbchoenmpoojaa
set_option linter.unusedVariables false
set_option linter.unusedSimpArgs false
open Go.RowKit

/-- the first v, n of them from k on, at which g is not negative -/
def kpF (g : Nat → Int) : Nat → Nat → Int × Int × Bool
  | 0, _ => (0, 0, false)
  | n + 1, v => if 0 ≤ g v then ((v : Int), g v, true) else kpF g n (v + 1)
def kpG (q : Qv) (x : List Int) (v : Nat) : Int := gidx (fun l => decide (l = x)) (knQ q (v : Int)).1
def kpQ (q : Qv) (x : List Int) : Int × Int × Bool := kpF (kpG q x) (max 0 (min q.v 5)).toNat 0
theorem kpF_no {g : Nat → Int} : ∀ (n v : Nat), (∀ v, g v < 0) → kpF g n v = (0, 0, false)
  | 0, _, _ => rfl
  | n + 1, v, h => by rw [kpF, if_neg (by have := h v; omega)]; exact kpF_no n (v + 1) h
theorem kpF_yes {g : Nat → Int} {N k : Nat} (hk : k < N) (h : 0 ≤ g k) : kpF g (N - k) k = ((k : Int), g k, true) := by
  rw [show N - k = (N - (k + 1)) + 1 by omega, kpF, if_pos h]
theorem kpF_step {g : Nat → Int} {N k : Nat} (hk : k < N) (h : ¬ 0 ≤ g k) : kpF g (N - k) k = kpF g (N - (k + 1)) (k + 1) := by
  rw [show N - k = (N - (k + 1)) + 1 by omega, kpF, if_neg h]
theorem kpQ_no {q : Qv} {x : List Int} (h : kindQ q ≠ 1) : kpQ q x = (0, 0, false) := kpF_no _ _ fun v => by
  rw [kpG, knQ_no1 h, gidx_none (by simp)]; omega
theorem gidx_i64 (p : List Int → Bool) {l : List (List Int)} (h : l.length ≤ 20) : I64 (gidx p l) := by
  have := gidx_range p l
  exact ⟨by omega, by omega⟩
set_option maxRecDepth 100000 in
set_option maxHeartbeats 3200000 in
theorem implKnitPlace_any (u xv : Value) (q : Qv) (x : List Int) (w0 : World) (hu : QvR w0 w0.heap.size u q) (hx : SlI w0 w0.heap.size xv x) :
    Calls Try.prog 21 #[u, xv] w0 fun e w' => e = .returned (.tuple #[.int .i64 (kpQ q x).1, .int .i64 (kpQ q x).2.1, .bool (kpQ q x).2.2]) ∧ Below w0.heap.size w0 w' := by
  have hu' := hu
  have hx' := hx
  obtain ⟨A, c, C, d, rfl, hf, ht, hr, _⟩ := hu.open_
  obtain ⟨XA, xc, rfl, _⟩ := hx.open_
  clear hu hf ht hx
  obtain ⟨W, hW⟩ : ∃ W, (w0.alloc (.cells #[.int .i64 q.v, .slice A q.f.length c, .slice C q.t.length d] 27)).alloc (.cells #[.slice XA x.length xc] 22) = W := ⟨_, rfl⟩
  have kB : Blk W w0.heap.size 27 #[.int .i64 q.v, .slice A q.f.length c, .slice C q.t.length d] := by rw [← hW]; exact (Blk.new _ _ _).alloc _
  have kX : Blk W (w0.heap.size + 1) 22 #[.slice XA x.length xc] := by
    rw [← hW]
    have := Blk.new (w0.alloc (.cells #[.int .i64 q.v, .slice A q.f.length c, .slice C q.t.length d] 27)) 22 #[.slice XA x.length xc]
    simpa only [World.size_alloc] using this
  have g0 : Below w0.heap.size w0 W := by rw [← hW]; exact ((Below.refl _ _).alloc (Nat.le_refl _) _).alloc (by simp) _
  have HQ := Lib.hid (QvR.next g0 hu')
  have HX := Lib.hid (SlI.next g0 hx')
  have KB := Lib.hid kB
  have KX := Lib.hid kX
  have c0 := kB.cell' (i := 0) rfl
  clear hu' hx' kX
  obtain ⟨N, hN⟩ : ∃ N, (max 0 (min q.v 5)).toNat = N := ⟨_, rfl⟩
  have HNM := Lib.hid (show max 0 (min q.v 5) = (N : Int) by omega)
  have HN := Lib.hid (show kpQ q x = kpF (kpG q x) (N - 0) 0 by rw [kpQ, hN, Nat.sub_zero])
  have hN5 : N ≤ 5 := by omega
  clear hN
  go_enter Try.func21, Try.ntmps21
  go_wp2
  clear hW c0 kB
  go_loopw [15] (fun i wr => ∃ k : Nat, k ≤ N ∧ i = .int .i64 k ∧ Below W.heap.size W wr ∧ Hid (kpQ q x = kpF (kpG q x) (N - k) k)) (fun i _ => N - (intOf i).toNat)
  case atStart => exact ⟨0, Nat.zero_le _, rfl, Below.refl _ _, HN.out⟩
  case round =>
    obtain ⟨k, hk, rfl, hbel, HR⟩ := hrel
    have kr := KB.out.call hbel
    have kXr := KX.out.call hbel
    have c0 := kr.cell' (i := 0) rfl
    have c1 := kr.cell' (i := 1) rfl
    have c2 := kr.cell' (i := 2) rfl
    by_cases hlt : k < N
    · have hdl : decide ((k : Int) < max 0 (min q.v 5)) = true := decide_eq_true (by rw [HNM.out]; omega)
      have HKR := Lib.hid (implKnitRow_any _ q (k : Int) wr (QvR.next hbel HQ.out) ⟨by omega, by omega⟩)
      have HXr := Lib.hid (SlI.next hbel HX.out)
      have HBE := Lib.hid hbel
      clear hbel
      go_wp2_with fail
      refine HKR.out.mono ?_; rintro e w1 ⟨o, rfl, ho, hb1⟩
      have kX1 := kXr.call hb1
      have hx2 := SlI.next hb1 HXr.out
      have HI := Lib.hid (indexFuncK_any (.pointer (some ⟨w0.heap.size + 1, 0, none⟩)) (fun l => decide (l = x)) o (knQ q (k : Int)).1 w1 ho.rd (fun W a l hbW ha => knitEq_any _ a _ l x W ha (bcell hbW kX1.lt (kX1.cell' (i := 0) rfl)) (SlI.next hbW hx2)))
      have HGE := Lib.hid (show kpG q x k = gidx (fun l => decide (l = x)) (knQ q (k : Int)).1 from rfl)
      obtain ⟨G, hG⟩ : ∃ G, gidx (fun l => decide (l = x)) (knQ q (k : Int)).1 = G := ⟨_, rfl⟩
      have hgi := gidx_i64 (fun l => decide (l = x)) (knQ_tot q (k : Int)).2
      rw [hG] at HI HGE hgi
      have HB1 := Lib.hid (HBE.out.trans (hb1.mono HBE.out.size))
      have hgi1 := hgi.1
      have hgi2 := hgi.2
      clear hG hgi HKR HBE HXr kX1 hx2 kXr kr hb1 ho c0 c1 c2
      by_cases hg : 0 ≤ G
      · have hd : decide (0 ≤ G) = true := decide_eq_true hg
        have HF := Lib.hid (show kpQ q x = ((k : Int), G, true) by rw [HR.out, kpF_yes hlt (by rw [HGE.out]; exact hg), HGE.out])
        go_wp2_with fail
        refine HI.out.mono ?_; rintro e w2 ⟨rfl, hb2⟩
        clear HI
        go_wp2
        go_ret3
        exact ⟨by rw [HF.out]; rfl, bthen g0 (HB1.out.trans (hb2.mono HB1.out.size))⟩
      · have hd : decide (0 ≤ G) = false := decide_eq_false hg
        have HF := Lib.hid (show kpQ q x = kpF (kpG q x) (N - (k + 1)) (k + 1) by rw [HR.out, kpF_step hlt (by rw [HGE.out]; exact hg)])
        go_wp2_with fail
        refine HI.out.mono ?_; rintro e w2 ⟨rfl, hb2⟩
        clear HI
        go_wp2
        go_roundw
        case rel => exact ⟨k + 1, by omega, by go_num, HB1.out.trans (hb2.mono HB1.out.size), HF⟩
        case measure => simp [intOf]; omega
    · have hdl : decide ((k : Int) < max 0 (min q.v 5)) = false := decide_eq_false (by rw [HNM.out]; omega)
      have HF := Lib.hid (show kpQ q x = (0, 0, false) by rw [HR.out, show N - k = 0 by omega]; rfl)
      go_wp2
      go_ret3
      exact ⟨by rw [HF.out]; rfl, bthen g0 hbel⟩
end Go.Proofs.Ytgbchoenmpoojaa

/- KnitPlace: the reference's. -/
namespace Go.Proofs.Ytgbchoenmpoojaa
set_option linter.unusedVariables false
set_option linter.unusedSimpArgs false
open Go.RowKit

set_option maxRecDepth 100000 in
set_option maxHeartbeats 3200000 in
theorem specKnitPlace_any (u xv : Value) (q : Qv) (x : List Int) (w0 : World) (hu : QvR w0 w0.heap.size u q) (hx : SlI w0 w0.heap.size xv x) :
    Calls Try.prog 20 #[u, xv] w0 fun e w' => e = .returned (.tuple #[.int .i64 (kpQ q x).1, .int .i64 (kpQ q x).2.1, .bool (kpQ q x).2.2]) ∧ Below w0.heap.size w0 w' := by
  have hx' := hx
  obtain ⟨XA, xc, rfl, _⟩ := hx.open_
  clear hx
  have hu' := hu
  obtain ⟨A, c, C, d, rfl, hf, hT, hr, lf, lt⟩ := hu.open_
  clear hu hf hT
  obtain ⟨W, hW⟩ : ∃ W, w0.alloc (.cells #[.int .i64 q.v, .slice A q.f.length c, .slice C q.t.length d] 27) = W := ⟨_, rfl⟩
  have g0 : Below w0.heap.size w0 W := by rw [← hW]; exact below_alloc _ _
  have kB : Blk W w0.heap.size 27 #[.int .i64 q.v, .slice A q.f.length c, .slice C q.t.length d] := by rw [← hW]; exact Blk.new _ _ _
  have HQ := Lib.hid (QvR.next g0 hu')
  clear hu'
  have c0 := kB.cell' (i := 0) rfl
  have c1 := kB.cell' (i := 1) rfl
  have c2 := kB.cell' (i := 2) rfl
  have HX := Lib.hid (SlI.next g0 hx')
  have KB := Lib.hid kB
  clear hx'
  obtain ⟨K, hK⟩ : ∃ k, kindQ q = k := ⟨_, rfl⟩
  by_cases h1 : K = 1
  case neg =>
    have HF := Lib.hid (kpQ_no (x := x) (show kindQ q ≠ 1 by rw [hK]; exact h1))
    have hd1 : (K == 1) = false := beq_eq_false_iff_ne.2 h1
    have HK := Lib.hid hK
    clear hK
    go_enter Try.func20, Try.ntmps20
    go_wp2
    clear hW
    go_loopw [7] (fun i wr => i = .int .i64 0 ∧ wr = W) (fun _ _ => 0)
    case atStart => exact ⟨rfl, rfl⟩
    case round =>
      obtain ⟨rfl, rfl⟩ := hrel
      by_cases h0 : 0 < q.v
      · have hd : decide (0 < q.v) = true := decide_eq_true h0
        go_wp2_with fail
        refine (specKind_any _ q _ HQ.out).mono ?_; rintro e w1 ⟨rfl, hb1⟩
        rw [HK.out]
        go_wp2
        go_ret3
        exact ⟨by rw [HF.out]; rfl, bthen g0 hb1⟩
      · have hd : decide (0 < q.v) = false := decide_eq_false h0
        go_wp2
        go_ret3
        exact ⟨by rw [HF.out]; rfl, g0⟩
  case pos =>
  subst h1
  have hv5 := (isQ_t.1 (fin_isQ hK)).1
  obtain ⟨N, hN⟩ : ∃ N, q.v.toNat = N := ⟨_, rfl⟩
  have HNM := Lib.hid (show q.v = (N : Int) by omega)
  have HN := Lib.hid (show kpQ q x = kpF (kpG q x) (N - 0) 0 by rw [kpQ, show (max 0 (min q.v 5)).toNat = N by omega, Nat.sub_zero])
  have hN5 : N ≤ 5 := by omega
  have HK := Lib.hid hK
  clear hN hK kB
  go_enter Try.func20, Try.ntmps20
  go_wp2
  clear hW
  go_loopw [7, 8, 9, 10] (fun i _ _ _ wr => ∃ k : Nat, k ≤ N ∧ i = .int .i64 k ∧ Below W.heap.size W wr ∧ Hid (kpQ q x = kpF (kpG q x) (N - k) k)) (fun i _ _ _ _ => N - (intOf i).toNat)
  case atStart => exact ⟨0, Nat.zero_le _, rfl, Below.refl _ _, HN⟩
  case round =>
    clear c0 c1 c2
    obtain ⟨k, hk, rfl, hbel, HR⟩ := hrel
    have kr := KB.out.call hbel
    have c0 := kr.cell' (i := 0) rfl
    have c1 := kr.cell' (i := 1) rfl
    have c2 := kr.cell' (i := 2) rfl
    by_cases hlt : k < N
    · have hd : decide ((k : Int) < q.v) = true := decide_eq_true (by rw [HNM.out]; omega)
      have HQr := Lib.hid (QvR.next hbel HQ.out)
      have HXr := Lib.hid (SlI.next hbel HX.out)
      have HBE := Lib.hid hbel
      clear hbel
      go_wp2_with fail
      refine (specKind_any _ q _ HQr.out).mono ?_; rintro e w1 ⟨rfl, hb1⟩
      rw [HK.out]
      have k1 := kr.call hb1
      have HKR := Lib.hid (specKnitRow_any _ q (k : Int) w1 (QvR.next hb1 HQr.out) ⟨by omega, by omega⟩)
      have HX1 := Lib.hid (SlI.next hb1 HXr.out)
      have HB1 := Lib.hid (HBE.out.trans (hb1.mono HBE.out.size))
      clear c0 c1 c2
      have c0 := k1.cell' (i := 0) rfl
      have c1 := k1.cell' (i := 1) rfl
      have c2 := k1.cell' (i := 2) rfl
      clear HBE HXr HQr hb1 kr k1
      go_wp2_with fail
      refine HKR.out.mono ?_; rintro e w2 ⟨o, rfl, ho, hb2⟩
      obtain ⟨L, hL⟩ : ∃ L, (knQ q (k : Int)).1 = L := ⟨_, rfl⟩
      have hln := (knQ_tot q (k : Int)).2
      have HGE := Lib.hid (show kpG q x k = gidx (fun l => decide (l = x)) L by rw [← hL]; rfl)
      rw [hL] at ho hln
      obtain ⟨OA, oc, rfl, _, _, _⟩ := ho.form2
      have hro := ho.rd
      have HX2 := Lib.hid (SlI.next hb2 HX1.out)
      have HB2 := Lib.hid (HB1.out.trans (hb2.mono HB1.out.size))
      have HRO := Lib.hid hro
      clear hL ho hro hb2 HKR HX1 HB1 c0 c1 c2
      obtain ⟨w9, hw9⟩ : ∃ z, z = wr := ⟨_, rfl⟩
      subst hw9
      go_wp2
      go_loopw [10] (fun i wr => ∃ j : Nat, j ≤ L.length ∧ i = .int .i64 j ∧ Below w2.heap.size w2 wr ∧ Hid (∀ y ∈ L.take j, decide (y = x) = false)) (fun i _ => L.length - (intOf i).toNat)
      case atStart => exact ⟨0, Nat.zero_le _, rfl, Below.refl _ _, by intro y hy; simp at hy⟩
      case round =>
        obtain ⟨j, hj, rfl, hbj, hno⟩ := hrel
        have HBJ := Lib.hid (HB2.out.trans (hbj.mono HB2.out.size))
        by_cases hjl : j < L.length
        · obtain ⟨b, o, l, A', c', rfl, hb, HXL, e1, hl⟩ := SlII.at_ HRO.out hjl
          have d1 := bcell hbj hb e1
          have HEQ := Lib.hid (l6Same_any _ _ l x wr (SlI.more hbj.size (SlI.below hbj hl)) (SlI.next hbj HX2.out))
          obtain ⟨B, hB⟩ : ∃ B, decide (l = x) = B := ⟨_, rfl⟩
          rw [hB] at HEQ
          have HB := Lib.hid hB
          clear e1 hl hb hB
          cases B
          · go_wp2_with fail
            refine HEQ.out.mono ?_; rintro e w3 ⟨rfl, hb3⟩
            clear HEQ
            go_wp2
            go_roundw
            case rel =>
              refine ⟨j + 1, by omega, by go_num, hbj.trans (hb3.mono hbj.size), fun y hy => ?_⟩
              rw [take_snoc HXL.out, List.mem_append, List.mem_singleton] at hy
              rcases hy with hy | rfl
              · exact hno.out y hy
              · exact HB.out
            case measure => simp [intOf]; omega
          · have hG := gidx_some (p := fun l => decide (l = x)) HXL.out HB.out hno.out
            have HF := Lib.hid (show kpQ q x = ((k : Int), (j : Int), true) by rw [HR.out, kpF_yes hlt (by rw [HGE.out, hG]; omega), HGE.out, hG])
            clear hG
            go_wp2_with fail
            refine HEQ.out.mono ?_; rintro e w3 ⟨rfl, hb3⟩
            clear HEQ
            go_wp2
            go_ret3
            exact ⟨by rw [HF.out]; rfl, bthen g0 (HBJ.out.trans (hb3.mono HBJ.out.size))⟩
        · have hG := gidx_none (p := fun l => decide (l = x)) (l := L) (by have := hno.out; rwa [List.take_of_length_le (by omega)] at this)
          have HF := Lib.hid (show kpQ q x = kpF (kpG q x) (N - (k + 1)) (k + 1) by rw [HR.out, kpF_step hlt (by rw [HGE.out, hG]; omega)])
          clear hG
          go_wp2
          go_roundw
          case rel => exact ⟨k + 1, by omega, by go_num, HBJ.out, HF⟩
          case measure => simp [intOf]; omega
    · have hd : decide ((k : Int) < q.v) = false := decide_eq_false (by rw [HNM.out]; omega)
      have HF := Lib.hid (show kpQ q x = (0, 0, false) by rw [HR.out, show N - k = 0 by omega]; rfl)
      go_wp2
      go_ret3
      exact ⟨by rw [HF.out]; rfl, bthen g0 hbel⟩
end Go.Proofs.Ytgbchoenmpoojaa

/- The walk of FnExactKnitPlace, printed by program (wip/law.py) out of the contracts of what it calls. -/
namespace Go.Proofs.Ytgbchoenmpoojaa
set_option linter.unusedVariables false
set_option linter.unusedSimpArgs false
open Go.RowKit

set_option maxHeartbeats 1600000 in
set_option maxRecDepth 100000 in
theorem lawKnitPlace_any (uq : Value) (q : Qv) (ux : Value) (x : List Int) (w : World) (hq : QvR w w.heap.size uq q) (hx : SlI w w.heap.size ux x) :
    Calls Try.prog 6 #[uq, ux] w fun e w' => e = .returned (.bool true) ∧ Below w.heap.size w w' := by
  obtain ⟨Auq, cuq, Cuq, duq, eq⟩ := QvR.form hq
  subst eq
  have lq := QvR.lens hq
  obtain ⟨Ax, cx, rfl, _, _, lx, _⟩ := hx.open_
  have g0 := Below.refl w.heap.size w
  by_cases z0 : (1048576 : Int) < x.length
  · go_enter Try.func6, Try.ntmps6
    go_wp2
    go_ret
    exact ⟨rfl, (g0).alloc (by simp) _⟩
  by_cases z1 : (1048576 : Int) < (q.size : Nat)
  · have y1 : szLeft (1048576 : Int) (q.size) = -1 := by rw [szLeft, if_pos z1]
    go_enter Try.func6, Try.ntmps6
    go_wp2_with fail
    obtain ⟨W2, e3⟩ : ∃ W, W = w.alloc (.cells #[.int .i64 (q).v, .slice Auq (q).f.length cuq, .slice Cuq (q).t.length duq] 24) := ⟨_, rfl⟩
    rw [← e3]
    have b4 : Below w.heap.size w W2 := by rw [e3]; exact below_alloc _ _
    have k5 : Blk W2 w.heap.size 24 #[.int .i64 (q).v, .slice Auq (q).f.length cuq, .slice Cuq (q).t.length duq] := by rw [e3]; exact Blk.new _ _ _
    have s6 : w.heap.size < W2.heap.size := by rw [e3]; simp
    clear e3
    have h7 := QvR.below (b4.mono (by omega)) hq
    have h8 := SlI.below (b4.mono (by omega)) hx
    have s9 : w.heap.size ≤ W2.heap.size := b4.size
    have g10 := bthen g0 b4
    clear hq hx g0 b4
    have c11 := k5.cell' (i := 0) rfl
    have c12 := k5.cell' (i := 1) rfl
    have c13 := k5.cell' (i := 2) rfl
    refine (szQuiver_any _ _ (1048576 : Int) _ (QvR.more (by omega) h7) (by omega) (by omega)).mono ?_; rintro e W14 ⟨rfl, b1⟩
    have h15 := QvR.below (b1.mono (by omega)) h7
    have h16 := SlI.below (b1.mono (by omega)) h8
    have k17 := k5.call b1
    have s18 : W2.heap.size ≤ W14.heap.size := b1.size
    have g19 := bthen g10 b1
    clear h7 h8 k5 g10 b1 c11 c12 c13
    have c20 := k17.cell' (i := 0) rfl
    have c21 := k17.cell' (i := 1) rfl
    have c22 := k17.cell' (i := 2) rfl
    go_wp2
    go_ret
    exact ⟨rfl, g19⟩
  have y1 : szLeft (1048576 : Int) (q.size) = (1048576 : Int) - (q.size : Nat) := by rw [szLeft, if_neg z1]
  have x1 : ¬ ((1048576 : Int) - ((q.size : Nat) : Int) < 0) := by omega
  go_enter Try.func6, Try.ntmps6
  go_wp2_with fail
  obtain ⟨W24, e25⟩ : ∃ W, W = w.alloc (.cells #[.int .i64 (q).v, .slice Auq (q).f.length cuq, .slice Cuq (q).t.length duq] 24) := ⟨_, rfl⟩
  rw [← e25]
  have b26 : Below w.heap.size w W24 := by rw [e25]; exact below_alloc _ _
  have k27 : Blk W24 w.heap.size 24 #[.int .i64 (q).v, .slice Auq (q).f.length cuq, .slice Cuq (q).t.length duq] := by rw [e25]; exact Blk.new _ _ _
  have s28 : w.heap.size < W24.heap.size := by rw [e25]; simp
  clear e25
  have h29 := QvR.below (b26.mono (by omega)) hq
  have h30 := SlI.below (b26.mono (by omega)) hx
  have s31 : w.heap.size ≤ W24.heap.size := b26.size
  have g32 := bthen g0 b26
  clear hq hx g0 b26
  have c33 := k27.cell' (i := 0) rfl
  have c34 := k27.cell' (i := 1) rfl
  have c35 := k27.cell' (i := 2) rfl
  refine (szQuiver_any _ _ (1048576 : Int) _ (QvR.more (by omega) h29) (by omega) (by omega)).mono ?_; rintro e W36 ⟨rfl, b23⟩
  have h37 := QvR.below (b23.mono (by omega)) h29
  have h38 := SlI.below (b23.mono (by omega)) h30
  have k39 := k27.call b23
  have s40 : W24.heap.size ≤ W36.heap.size := b23.size
  have g41 := bthen g32 b23
  clear h29 h30 k27 g32 b23 c33 c34 c35
  have c42 := k39.cell' (i := 0) rfl
  have c43 := k39.cell' (i := 1) rfl
  have c44 := k39.cell' (i := 2) rfl
  go_wp2_with fail
  refine (quiv_to _ _ _ (QvR.more (by omega) h37) (by omega)).mono ?_; rintro e W48 ⟨v45, rfl, h46, b47⟩
  have h49 := QvR.below (b47.mono (by omega)) h37
  have h50 := SlI.below (b47.mono (by omega)) h38
  have k51 := k39.call b47
  have s52 : W36.heap.size ≤ W48.heap.size := b47.size
  have g53 := bthen g41 b47
  clear h37 h38 k39 g41 b47 c42 c43 c44
  have c54 := k51.cell' (i := 0) rfl
  have c55 := k51.cell' (i := 1) rfl
  have c56 := k51.cell' (i := 2) rfl
  go_wp2_with fail
  refine (ints_to _ _ _ (SlI.more (by omega) h50) (by omega)).mono ?_; rintro e W60 ⟨v57, rfl, h58, b59⟩
  have h61 := QvR.below (b59.mono (by omega)) h49
  have h62 := SlI.below (b59.mono (by omega)) h50
  have h63 := h46.below b59
  have k64 := k51.call b59
  have s65 : W48.heap.size ≤ W60.heap.size := b59.size
  have g66 := bthen g53 b59
  clear h49 h50 h46 k51 g53 b59 c54 c55 c56
  have c67 := k64.cell' (i := 0) rfl
  have c68 := k64.cell' (i := 1) rfl
  have c69 := k64.cell' (i := 2) rfl
  go_wp2_with fail
  refine (specKnitPlace_any _ _ _ _ _ h63.rd h58.rd).mono ?_; rintro e W71 ⟨rfl, b70⟩
  have h72 := QvR.below (b70.mono (by omega)) h61
  have h73 := SlI.below (b70.mono (by omega)) h62
  have h74 := h63.below b70
  have h75 := h58.below b70
  have k76 := k64.call b70
  have s77 : W60.heap.size ≤ W71.heap.size := b70.size
  have g78 := bthen g66 b70
  clear h61 h62 h63 h58 k64 g66 b70 c67 c68 c69
  have c79 := k76.cell' (i := 0) rfl
  have c80 := k76.cell' (i := 1) rfl
  have c81 := k76.cell' (i := 2) rfl
  clear h74
  clear h75
  go_wp2_with fail
  refine (quiv_to _ _ _ (QvR.more (by omega) h72) (by omega)).mono ?_; rintro e W85 ⟨v82, rfl, h83, b84⟩
  have h86 := QvR.below (b84.mono (by omega)) h72
  have h87 := SlI.below (b84.mono (by omega)) h73
  have k88 := k76.call b84
  have s89 : W71.heap.size ≤ W85.heap.size := b84.size
  have g90 := bthen g78 b84
  clear h72 h73 k76 g78 b84 c79 c80 c81
  have c91 := k88.cell' (i := 0) rfl
  have c92 := k88.cell' (i := 1) rfl
  have c93 := k88.cell' (i := 2) rfl
  obtain ⟨Ax94, cx94, Cx94, dx94, e95⟩ := h83.form
  subst e95
  have c99 := fun o => (k88.alloc o).cell' (i := 0) rfl
  have c100 := fun o => (k88.alloc o).cell' (i := 1) rfl
  have c101 := fun o => (k88.alloc o).cell' (i := 2) rfl
  go_wp2_with fail
  obtain ⟨W102, e103⟩ : ∃ W, W = W85.alloc (.cells #[.int .i64 (q).v, .slice Ax94 (q).f.length cx94, .slice Cx94 (q).t.length dx94] 27) := ⟨_, rfl⟩
  rw [← e103]
  have b104 : Below W85.heap.size W85 W102 := by rw [e103]; exact below_alloc _ _
  have k105 : Blk W102 W85.heap.size 27 #[.int .i64 (q).v, .slice Ax94 (q).f.length cx94, .slice Cx94 (q).t.length dx94] := by rw [e103]; exact Blk.new _ _ _
  have s106 : W85.heap.size < W102.heap.size := by rw [e103]; simp
  clear e103
  have h107 := QvR.below (b104.mono (by omega)) h86
  have h108 := SlI.below (b104.mono (by omega)) h87
  have h109 := h83.below b104
  have k110 := k88.call b104
  have s111 : W85.heap.size ≤ W102.heap.size := b104.size
  have g112 := bthen g90 b104
  clear h86 h87 h83 k88 g90 b104 c91 c92 c93 c99 c100 c101
  have c113 := k110.cell' (i := 0) rfl
  have c114 := k110.cell' (i := 1) rfl
  have c115 := k110.cell' (i := 2) rfl
  have c116 := k105.cell' (i := 0) rfl
  have c117 := k105.cell' (i := 1) rfl
  have c118 := k105.cell' (i := 2) rfl
  refine (ints_to _ _ _ (SlI.more (by omega) h108) (by omega)).mono ?_; rintro e W119 ⟨v96, rfl, h97, b98⟩
  have h120 := QvR.below (b98.mono (by omega)) h107
  have h121 := SlI.below (b98.mono (by omega)) h108
  have h122 := h109.below b98
  have k123 := k110.call b98
  have k124 := k105.call b98
  have s125 : W102.heap.size ≤ W119.heap.size := b98.size
  have g126 := bthen g112 b98
  clear h107 h108 h109 k110 k105 g112 b98 c113 c114 c115 c116 c117 c118
  have c127 := k123.cell' (i := 0) rfl
  have c128 := k123.cell' (i := 1) rfl
  have c129 := k123.cell' (i := 2) rfl
  have c130 := k124.cell' (i := 0) rfl
  have c131 := k124.cell' (i := 1) rfl
  have c132 := k124.cell' (i := 2) rfl
  go_wp2_with fail
  refine (implKnitPlace_any _ _ _ _ _ h122.rd h97.rd).mono ?_; rintro e W134 ⟨rfl, b133⟩
  have h135 := QvR.below (b133.mono (by omega)) h120
  have h136 := SlI.below (b133.mono (by omega)) h121
  have h137 := h122.below b133
  have h138 := h97.below b133
  have k139 := k123.call b133
  have k140 := k124.call b133
  have s141 : W119.heap.size ≤ W134.heap.size := b133.size
  have g142 := bthen g126 b133
  clear h120 h121 h122 h97 k123 k124 g126 b133 c127 c128 c129 c130 c131 c132
  have c143 := k139.cell' (i := 0) rfl
  have c144 := k139.cell' (i := 1) rfl
  have c145 := k139.cell' (i := 2) rfl
  have c146 := k140.cell' (i := 0) rfl
  have c147 := k140.cell' (i := 1) rfl
  have c148 := k140.cell' (i := 2) rfl
  go_wp2_with fail
  have b149 := drew_below W134
  have h150 := QvR.below (b149.mono (by omega)) h135
  have h151 := SlI.below (b149.mono (by omega)) h136
  have h152 := h137.below b149
  have h153 := h138.below b149
  have k154 := k139.call b149
  have k155 := k140.call b149
  have s156 : W134.heap.size ≤ W134.drew.heap.size := b149.size
  have g157 := bthen g142 b149
  clear h135 h136 h137 h138 k139 k140 g142 b149 c143 c144 c145 c146 c147 c148
  have c158 := k154.cell' (i := 0) rfl
  have c159 := k154.cell' (i := 1) rfl
  have c160 := k154.cell' (i := 2) rfl
  have c161 := k155.cell' (i := 0) rfl
  have c162 := k155.cell' (i := 1) rfl
  have c163 := k155.cell' (i := 2) rfl
  go_region_held3 (fun W' => W'.cell? ⟨w.heap.size, 0, none⟩ = some (.int .i64 (q).v) ∧ W'.cell? ⟨w.heap.size, 1, none⟩ = some (.slice Auq (q).f.length cuq) ∧ W'.cell? ⟨w.heap.size, 2, none⟩ = some (.slice Cuq (q).t.length duq) ∧ W'.cell? ⟨W85.heap.size, 0, none⟩ = some (.int .i64 (q).v) ∧ W'.cell? ⟨W85.heap.size, 1, none⟩ = some (.slice Ax94 (q).f.length cx94) ∧ W'.cell? ⟨W85.heap.size, 2, none⟩ = some (.slice Cx94 (q).t.length dx94))
    (first | exact ⟨c158, c159, c160, c161, c162, c163⟩ | exact ⟨c176, c177, c178, c179, c180, c181⟩ | exact ⟨c193, c194, c195, c196, c197, c198⟩)
    (first | (go_at_call 11; refine (quiv_to _ _ _ (QvR.more (by omega) h150) (by omega)).mono ?_; rintro e W167 ⟨v164, rfl, h165, b166⟩; have h168 := QvR.below (b166.mono (by omega)) h150; have h169 := SlI.below (b166.mono (by omega)) h151; have h170 := h152.below b166; have h171 := h153.below b166; have k172 := k154.call b166; have k173 := k155.call b166; have s174 : W134.drew.heap.size ≤ W167.heap.size := b166.size; have g175 := bthen g157 b166; clear h150 h151 h152 h153 k154 k155 g157 b166 c158 c159 c160 c161 c162 c163; have c176 := k172.cell' (i := 0) rfl; have c177 := k172.cell' (i := 1) rfl; have c178 := k172.cell' (i := 2) rfl; have c179 := k173.cell' (i := 0) rfl; have c180 := k173.cell' (i := 1) rfl; have c181 := k173.cell' (i := 2) rfl) | (go_at_call 14; refine (eqQuiver_any _ _ _ _ _ h170.rd h165.rd).mono ?_; rintro e W183 ⟨rfl, b182⟩; have h184 := QvR.below (b182.mono (by omega)) h168; have h185 := SlI.below (b182.mono (by omega)) h169; have h186 := h170.below b182; have h187 := h171.below b182; have h188 := h165.below b182; have k189 := k172.call b182; have k190 := k173.call b182; have s191 : W167.heap.size ≤ W183.heap.size := b182.size; have g192 := bthen g175 b182; clear h168 h169 h170 h171 h165 k172 k173 g175 b182 c176 c177 c178 c179 c180 c181; have c193 := k189.cell' (i := 0) rfl; have c194 := k189.cell' (i := 1) rfl; have c195 := k189.cell' (i := 2) rfl; have c196 := k190.cell' (i := 0) rfl; have c197 := k190.cell' (i := 1) rfl; have c198 := k190.cell' (i := 2) rfl))
  clear h188
  go_wp2_with fail
  refine (ints_to _ _ _ (SlI.more (by omega) h185) (by omega)).mono ?_; rintro e W202 ⟨v199, rfl, h200, b201⟩
  have h203 := QvR.below (b201.mono (by omega)) h184
  have h204 := SlI.below (b201.mono (by omega)) h185
  have h205 := h186.below b201
  have h206 := h187.below b201
  have k207 := k189.call b201
  have k208 := k190.call b201
  have s209 : W183.heap.size ≤ W202.heap.size := b201.size
  have g210 := bthen g192 b201
  clear h184 h185 h186 h187 k189 k190 g192 b201 c193 c194 c195 c196 c197 c198
  have c211 := k207.cell' (i := 0) rfl
  have c212 := k207.cell' (i := 1) rfl
  have c213 := k207.cell' (i := 2) rfl
  have c214 := k208.cell' (i := 0) rfl
  have c215 := k208.cell' (i := 1) rfl
  have c216 := k208.cell' (i := 2) rfl
  go_wp2_with fail
  refine (eqIntS_any _ _ _ _ _ h206.rd h200.rd).mono ?_; rintro e W218 ⟨rfl, b217⟩
  have h219 := QvR.below (b217.mono (by omega)) h203
  have h220 := SlI.below (b217.mono (by omega)) h204
  have h221 := h205.below b217
  have h222 := h206.below b217
  have h223 := h200.below b217
  have k224 := k207.call b217
  have k225 := k208.call b217
  have s226 : W202.heap.size ≤ W218.heap.size := b217.size
  have g227 := bthen g210 b217
  clear h203 h204 h205 h206 h200 k207 k208 g210 b217 c211 c212 c213 c214 c215 c216
  have c228 := k224.cell' (i := 0) rfl
  have c229 := k224.cell' (i := 1) rfl
  have c230 := k224.cell' (i := 2) rfl
  have c231 := k225.cell' (i := 0) rfl
  have c232 := k225.cell' (i := 1) rfl
  have c233 := k225.cell' (i := 2) rfl
  clear h223
  go_wp2
  go_ret
  exact ⟨rfl, g227⟩
end Go.Proofs.Ytgbchoenmpoojaa

/- FnExactKnitPlace is proved: for every argument the program's KnitPlace returns what the reference's returns, leaves its arguments as they were, and returns memory of its own. No condition. -/
namespace Go.Proofs.Ytgbchoenmpoojaa
set_option linter.unusedVariables false
set_option linter.unusedSimpArgs false
open Go.RowKit Go.ChangeShapes Go.WideShapes Go.ChangeAt Go.Deep

set_option maxRecDepth 100000 in
theorem knitPlace_lifted (os : Os) (started : os.Started) (H : Type) (enc : TypeId × Value → H) :
    ReturnsInHanded {} Try.checked os 6 .any (Rows.fnExactKnitPlaceSpec.pre6 enc Try.prog Try.f6 Rows.fnExactKnitPlaceRow.domain false) (Rows.fnExactKnitPlaceSpec.post enc Try.prog Try.f6 false true false false) := by
  refine lift_law started (by kernel_rfl) Try.func6 (ChangeSpec.witness6 (enc := enc) (C := Try.checked) false ⟨#[], #[.agg #[.int .i64 0, .slice none 0 0, .slice none 0 0], .slice none 0 0], []⟩ 8 (by kernel_rfl) (by kernel_rfl) (by kernel_rfl) (by kernel_rfl))
    rfl rfl (by rw [Try.params6]; intro t ht; simp only [List.mem_cons, List.not_mem_nil, or_false] at ht; rcases ht with rfl | rfl <;> exact ⟨by kernel_rfl, of_decide_eq_true (by kernel_rfl)⟩) (fun ds hl => by rw [Try.params6] at hl; match ds, hl with | [_, _], _ => rfl) ?_
  intro W args ds ps base hval hA hwt
  rw [Try.params6] at hA hval hwt
  obtain ⟨v0, v1, d0, d1, p0, p1, hargs, rfl, rfl, h0, h1⟩ := trodAll_two hA
  obtain rfl : args = #[v0, v1] := by cases args; simp_all
  obtain ⟨x0, r0⟩ := argQuiver (hval 0 _ _ rfl rfl) h0 (hwt 0 _ _ rfl rfl)
  obtain ⟨x1, r1⟩ := argInts (hval 1 _ _ rfl rfl) h1 (hwt 1 _ _ rfl rfl)
  exact lawKnitPlace_any _ _ _ _ W r0 r1

theorem knitPlace_closed : joinedFacts Try.prog 6 Try.f6 Rows.fnExactKnitPlaceSpec Rows.fnExactKnitPlaceRow = true := by
  unfold joinedFacts
  refine band (band (band (band (band (band (band ?_ seatEnter) seatLifts) seatMake) ?_) ?_) ?_) ?_ <;> kernel_rfl

theorem knitPlace_holds : Rows.FnExactKnitPlaceSaid :=
  OpenClaim.holds_of_wide 6 Try.f6 rfl rfl rfl rfl rfl rfl rfl ⟨rfl, rfl, rfl, rfl, rfl⟩ rfl rfl rfl rfl rfl (by kernel_rfl) Try.func6 knitPlace_closed
    (of_decide_eq_true (by kernel_rfl)) (by unfold Func.isWrapper; first | (rw [if_pos (by decide +kernel)]; kernel_rfl) | (rw [if_neg (by decide +kernel)]; exact ⟨rfl, rfl⟩))
    (fun os started H enc _ => knitPlace_lifted os started H enc)
#print axioms knitPlace_holds
end Go.Proofs.Ytgbchoenmpoojaa
