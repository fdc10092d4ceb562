/- FnExactCoxeterNumber: for every argument the program's function returns what the reference's returns. Part 5 of 7 of the proof: Det2, Symm2, Kind, KindI, Refl, Order, Order2, Order3, Refl2, Refl3. No condition. -/
import Derived.Test.YtjhllgldllbaaaaBCoxeterNumber4
/- Determinants by the first row: the reference's. -/
namespace Go.Proofs.Ytjhllgldllbaaaa
set_option linter.unusedVariables false
set_option linter.unusedSimpArgs false
open Go.RowKit

set_option maxHeartbeats 6400000 in
set_option maxRecDepth 100000 in
theorem l18Det_any : ∀ (n : Nat), n ≤ 5 → ∀ (u : Value) (m : List (List Int)) (w0 : World), SlII w0 w0.heap.size u m → Sq n m →
    Calls Try.prog 161 #[u] w0 fun e w' => e = .returned (.int .i64 (detL n m)) ∧ Below w0.heap.size w0 w'
  | 0, _, u, m, w0, hu, hs => by
    obtain ⟨A, c, rfl, _, _, _, _⟩ := hu.open_
    obtain rfl : m = [] := List.eq_nil_of_length_eq_zero hs.len
    clear hu
    go_enter Try.func161, Try.ntmps161
    go_wp2
    go_ret
    exact ⟨rfl, Below.refl _ _⟩
  | n + 1, hn, u, m, w0, hu, hs => by
    have ih := l18Det_any n (by omega)
    obtain ⟨A, c, rfl, hc1, hc2, _, hx⟩ := hu.open_
    clear hu
    have hl := hs.len
    obtain ⟨b, o, rfl, hb0⟩ := SlII.addr hx (by omega)
    have HX := Lib.hid hx
    have HL := Lib.hid hl
    have HS := Lib.hid hs
    have IH := Lib.hid ih
    rw [hl] at hc1 ⊢
    have HDL := Lib.hid (show detL (n + 1) m = detS n m (n + 1) from rfl)
    clear ih hx hl hs
    have hne0 : (((n : Int) + 1) == 0) = false := by rw [beq_eq_false_iff_ne]; omega
    go_enter Try.func161, Try.ntmps161
    go_wp2
    go_loopw [3, 4, 5] (fun s g i wr => ∃ (k : Nat) (T S : Int), k ≤ n + 1 ∧ i = .int .i64 k ∧ s = .int .i64 T ∧ g = .int .i64 S ∧ Hid (T = detS n m k) ∧ Hid (S = sgK k) ∧ Below w0.heap.size w0 wr) (fun _ _ i _ => n + 1 - (intOf i).toNat)
    case atStart => exact ⟨0, 0, 1, Nat.zero_le _, rfl, rfl, rfl, rfl, rfl, Below.refl _ _⟩
    case round =>
      obtain ⟨k, T, S, hk, rfl, rfl, rfl, HT, HSG, hbel⟩ := hrel
      by_cases hlt : k < n + 1
      · obtain ⟨r0, A0, c0, e0, _, x0, hr0, _, _⟩ := SlII.elt HX.out (k := 0) (by rw [HL.out]; omega)
        have hr0l := HS.out.row _ (List.mem_of_getElem? e0)
        obtain ⟨b0, o0, rfl, hb00⟩ := SlI.addr hr0 (by omega)
        obtain ⟨X, hX0, _, x1, _⟩ := SlI.elt hr0 (k := k) (by omega)
        have hXr : -12 ≤ X ∧ X ≤ 12 := by
          obtain ⟨r, h1, h2, h3, h4⟩ := HS.out.fst hlt
          rw [e0] at h1
          injection h1 with h1
          subst h1
          rw [hX0] at h3
          injection h3 with h3
          subst h3
          exact h4
        have HXF : Hid (fst0 m k = X) := by
          show _ = _
          rw [fst0, List.getD_eq_getElem?_getD, List.getD_eq_getElem?_getD, e0, Option.getD_some, hX0]; rfl
        have hSr : -1 ≤ S ∧ S ≤ 1 := by
          have := sgK_or k
          rw [← HSG.out] at this
          omega
        have hTr := detS_rng HS.out hk (by omega)
        rw [← (HT.out : T = _)] at hTr
        have HSQ := Lib.hid (HS.out.mnr (k := k) (by omega))
        rw [hr0l, Nat.add_zero] at x0
        have hbel2 := hbel
        have hb2s := hbel2.size
        obtain ⟨w1, hw1⟩ : ∃ z, z = wr.alloc (.cells #[] 22) := ⟨_, rfl⟩
        have b1 : Below wr.heap.size wr w1 := by rw [hw1]; exact below_alloc _ _
        have o1 : IntssO w1 wr.heap.size w1.heap.size (.slice (some ⟨wr.heap.size, 0, none⟩) 0 0) [] := by rw [hw1]; exact IntssO.made0 wr (Nat.le_refl _)
        have s1 := b1.size
        have hbel3 := hbel2.trans (b1.mono hb2s)
        have HB2 := Lib.hid hbel2
        obtain ⟨LO, hLO⟩ : ∃ z, z = wr.heap.size := ⟨_, rfl⟩
        have hdk : decide ((k : Int) < (n : Int) + 1) = true := decide_eq_true (by omega)
        clear e0 hr0 hr0l hX0 hbel hbel2
        go_wp2
        rw [← hw1]
        rw [← hLO] at o1 s1 hb2s ⊢
        clear hw1 hLO b1 hdk
        go_loopw [6, 7] (fun ov i wq => ∃ j i' : Nat, j ≤ n ∧ i = .int .i64 i' ∧ Hid (i' = j + 1) ∧ IntssO wq LO wq.heap.size ov ((m.tail.take j).map (cutR k)) ∧ Below LO w1 wq) (fun _ i _ => n + 1 - (intOf i).toNat)
        case atStart => exact ⟨0, 1, Nat.zero_le _, rfl, rfl, by simpa using o1, Below.refl _ _⟩
        case round =>
          clear o1
          obtain ⟨j, i, hj, rfl, HI, hO, hbq⟩ := hrel
          obtain ⟨OA, oc, eo, hoc, hoc2, hol⟩ := hO.form2
          have hlo : ((m.tail.take j).map (cutR k)).length = j := by rw [List.length_map, List.length_take, List.length_tail, HL.out]; omega
          rw [hlo] at eo hoc
          subst eo
          have hbq2 : Below w0.heap.size w0 wr := hbel3.trans (hbq.mono (by omega))
          have hi1 : i ≤ j + 1 := Nat.le_of_eq HI.out
          have hi2 : j + 1 ≤ i := Nat.le_of_eq HI.out.symm
          have hqs := hbq.size
          by_cases hjn : i < n + 1
          · obtain ⟨r, RA, rc, hr0, _, y1, hr, hrc1, hrc2⟩ := SlII.elt HX.out (k := i) (by rw [HL.out]; omega)
            have hrl := HS.out.row _ (List.mem_of_getElem? hr0)
            obtain ⟨br, or, rfl, hbr⟩ := SlI.addr hr (by omega)
            have y2 := bcell hbq2 hb0 y1
            have HR := Lib.hid (SlI.more hbq2.size (SlI.below hbq2 hr))
            have HRL2 := Lib.hid hrl
            rw [hrl] at y2 hrc1
            have hrt : m.tail[j]? = some r := by rw [List.getElem?_tail, ← HI.out]; exact hr0
            have HSN := Lib.hid (show (m.tail.take (j + 1)).map (cutR k) = (m.tail.take j).map (cutR k) ++ [cutR k r] by rw [take_snoc hrt, List.map_append]; rfl)
            have HO := Lib.hid hO
            have HBQ := Lib.hid hbq
            have HLO := Lib.hid hlo
            clear hr y1 hrl hrt hO hbq hr0 hlo
            go_wp2
            obtain ⟨wA, hwA⟩ : ∃ z, z = wr := ⟨_, rfl⟩
            subst hwA
            refine wp_region_netC (by kernel_rfl) [.eq (.slice OA j oc), rel 1 (fun u lo hi w => Fresh w wA.heap.size u), .eq (.slice (some ⟨b, o, none⟩) (n + 1) c), .eq (.int .i64 i), .eq (.pointer (some ⟨b, o + i, none⟩)), .eq (.slice (some ⟨br, or, none⟩) (n + 1) rc), .eq (.int .i64 k), .eq (.slice (some ⟨br, or, none⟩) k rc), rel 8 (fun u lo hi w => OwnI w wA.heap.size u (r.take k)), .eq (.slice (some ⟨b, o, none⟩) (n + 1) c), .eq (.int .i64 i), .eq (.pointer (some ⟨b, o + i, none⟩)), .eq (.slice (some ⟨br, or, none⟩) (n + 1) rc), .eq (.int .i64 k), .eq (.int .i64 ((k : Int) + 1)), rel 15 (fun u lo hi w => wA.heap.size ≤ w.heap.size ∧ SlI w wA.heap.size u (r.drop (k + 1))), rel 16 (fun u lo hi w => OwnI w wA.heap.size u (cutR k r)), .rel (fun x w => ∃ g, x.v 17 = .slice (some ⟨g, 0, none⟩) 1 1 ∧ Blk w g 22 #[x.v 16])] [[], [], [], [], [2, 3], [2, 3, 4], [], [2, 3, 4, 5, 6], [1, 2, 3, 4, 5, 6, 7], [], [], [9, 10], [9, 10, 11], [], [13], [9, 10, 11, 12, 13, 14], [1, 2, 3, 4, 5, 6, 7, 8, 9, 10, 11, 12, 13, 14, 15], [1, 2, 3, 4, 5, 6, 7, 8, 9, 10, 11, 12, 13, 14, 15, 16], [0, 1, 2, 3, 4, 5, 6, 7, 8, 9, 10, 11, 12, 13, 14, 15, 16, 17], [0, 1, 2, 3, 4, 5, 6, 7, 8, 9, 10, 11, 12, 13, 14, 15, 16, 17, 18]] [[], [], [], [], [2, 3], [2, 3, 4], [], [2, 3, 4, 5, 6], [1, 2, 3, 4, 5, 6, 7], [], [], [9, 10], [9, 10, 11], [], [13], [9, 10, 11, 12, 13, 14], [1, 2, 3, 4, 5, 6, 7, 8, 9, 10, 11, 12, 13, 14, 15], [2, 3, 4, 5, 6, 7, 9, 10, 11, 12, 13, 14, 16]] [0, 2, 3, 4, 5, 6, 7, 9, 10, 11, 12, 13, 14, 16, 17] 18 16 (by kernel_rfl) (by kernel_rfl) ⟨.inr (.inr ⟨_, rfl⟩), .inr (.inr ⟨_, rfl⟩), .inr (.inr ⟨_, rfl⟩), .inr (.inr ⟨_, rfl⟩), .inr (.inr ⟨_, rfl⟩), .inr (.inr ⟨_, rfl⟩), .inr (.inr ⟨_, rfl⟩), .inr (.inr ⟨_, rfl⟩), .inr (.inr ⟨_, rfl⟩), .inr (.inr ⟨_, rfl⟩), .inr (.inr ⟨_, rfl⟩), .inr (.inr ⟨_, rfl⟩), .inr (.inr ⟨_, rfl⟩), .inl rfl, .inr (.inl rfl), trivial⟩ ⟨trivial, rel_stable (fun u lo hi w w' h hb => h.below hb), trivial, trivial, trivial, trivial, trivial, trivial, rel_stable (fun u lo hi w w' h hb => h.below hb), trivial, trivial, trivial, trivial, trivial, trivial, rel_stable (fun u lo hi w w' ⟨h1, h2⟩ hb => ⟨Nat.le_trans h1 hb.size, SlI.below (hb.mono h1) h2⟩), rel_stable (fun u lo hi w w' h hb => h.below hb), fun x w w' ⟨g, e, h⟩ hb => ⟨g, e, h.call hb⟩, trivial⟩ ⟨?_, ?_, ?_, ?_, ?_, ?_, ?_, ?_, ?_, ?_, ?_, ?_, ?_, ?_, ?_, ?_, ?_, ?_, trivial⟩ ?_
            · intro x w hb hk Q' hQ
              clear hk
              simp only [netAct, dstAt, List.getElem?_toArray, List.getElem?_cons_zero, List.getElem?_cons_succ, Option.bind_some, Act.put, List.setIfInBounds_toArray, List.set_cons_zero, List.set_cons_succ] at hQ ⊢
              go_wp2
              exact hQ (.slice OA j oc) _ (Below.refl _ _) rfl
            · intro x w hb hk Q' hQ
              clear hk
              simp only [netAct, dstAt, List.getElem?_toArray, List.getElem?_cons_zero, List.getElem?_cons_succ, Option.bind_some, Act.put, List.setIfInBounds_toArray, List.set_cons_zero, List.set_cons_succ] at hQ ⊢
              go_wp2
              exact hQ _ _ (below_alloc _ _) (Fresh.new _ hb.size)
            · intro x w hb hk Q' hQ
              clear hk
              simp only [netAct, dstAt, List.getElem?_toArray, List.getElem?_cons_zero, List.getElem?_cons_succ, Option.bind_some, Act.put, List.setIfInBounds_toArray, List.set_cons_zero, List.set_cons_succ] at hQ ⊢
              go_wp2
              exact hQ (.slice (some ⟨b, o, none⟩) (n + 1) c) _ (Below.refl _ _) rfl
            · intro x w hb hk Q' hQ
              clear hk
              simp only [netAct, dstAt, List.getElem?_toArray, List.getElem?_cons_zero, List.getElem?_cons_succ, Option.bind_some, Act.put, List.setIfInBounds_toArray, List.set_cons_zero, List.set_cons_succ] at hQ ⊢
              go_wp2
              exact hQ (.int .i64 i) _ (Below.refl _ _) rfl
            · intro x w hb hk Q' hQ
              have h2 : x.v 2 = .slice (some ⟨b, o, none⟩) (n + 1) c := (hk 2 (by decide)).1
              have h3 : x.v 3 = .int .i64 i := (hk 3 (by decide)).1
              clear hk
              simp only [netAct, dstAt, List.getElem?_toArray, List.getElem?_cons_zero, List.getElem?_cons_succ, Option.bind_some, Act.put, List.setIfInBounds_toArray, List.set_cons_zero, List.set_cons_succ] at hQ ⊢
              simp only [h2, h3] at hQ ⊢
              clear h2 h3
              go_wp2
              exact hQ (.pointer (some ⟨b, o + i, none⟩)) _ (Below.refl _ _) rfl
            · intro x w hb hk Q' hQ
              have h4 : x.v 4 = .pointer (some ⟨b, o + i, none⟩) := (hk 4 (by decide)).1
              clear hk
              simp only [netAct, dstAt, List.getElem?_toArray, List.getElem?_cons_zero, List.getElem?_cons_succ, Option.bind_some, Act.put, List.setIfInBounds_toArray, List.set_cons_zero, List.set_cons_succ] at hQ ⊢
              simp only [h4] at hQ ⊢
              clear h4
              have q0 := bcell hb (show b < wA.heap.size by omega) y2
              go_wp2
              exact hQ (.slice (some ⟨br, or, none⟩) (n + 1) rc) _ (Below.refl _ _) rfl
            · intro x w hb hk Q' hQ
              clear hk
              simp only [netAct, dstAt, List.getElem?_toArray, List.getElem?_cons_zero, List.getElem?_cons_succ, Option.bind_some, Act.put, List.setIfInBounds_toArray, List.set_cons_zero, List.set_cons_succ] at hQ ⊢
              go_wp2
              exact hQ (.int .i64 k) _ (Below.refl _ _) rfl
            · intro x w hb hk Q' hQ
              have h5 : x.v 5 = .slice (some ⟨br, or, none⟩) (n + 1) rc := (hk 5 (by decide)).1
              have h6 : x.v 6 = .int .i64 k := (hk 6 (by decide)).1
              clear hk
              simp only [netAct, dstAt, List.getElem?_toArray, List.getElem?_cons_zero, List.getElem?_cons_succ, Option.bind_some, Act.put, List.setIfInBounds_toArray, List.set_cons_zero, List.set_cons_succ] at hQ ⊢
              simp only [h5, h6] at hQ ⊢
              clear h5 h6
              go_wp2
              exact hQ (.slice (some ⟨br, or, none⟩) k rc) _ (Below.refl _ _) rfl
            · intro x w hb hk Q' hQ
              have h1 : Fresh w wA.heap.size (x.v 1) := (hk 1 (by decide)).1
              have h2 : x.v 2 = .slice (some ⟨b, o, none⟩) (n + 1) c := (hk 2 (by decide)).1
              have h3 : x.v 3 = .int .i64 i := (hk 3 (by decide)).1
              have h4 : x.v 4 = .pointer (some ⟨b, o + i, none⟩) := (hk 4 (by decide)).1
              have h5 : x.v 5 = .slice (some ⟨br, or, none⟩) (n + 1) rc := (hk 5 (by decide)).1
              have h6 : x.v 6 = .int .i64 k := (hk 6 (by decide)).1
              have h7 : x.v 7 = .slice (some ⟨br, or, none⟩) k rc := (hk 7 (by decide)).1
              have s1 := (hk 1 (by decide)).2
              clear hk
              simp only [netAct, dstAt, List.getElem?_toArray, List.getElem?_cons_zero, List.getElem?_cons_succ, Option.bind_some, Act.put, List.setIfInBounds_toArray, List.set_cons_zero, List.set_cons_succ] at hQ ⊢
              simp only [h2, h3, h4, h5, h6, h7] at hQ ⊢
              clear h2 h3 h4 h5 h6 h7
              obtain ⟨g7, e7, hg7, hB7⟩ := h1
              have hT2 := SlI.takeS (k := k) (SlI.below hb HR.out) (by rw [HRL2.out]; omega)
              have hk2 : (r.take k).length = k := by rw [List.length_take, HRL2.out]; omega
              rw [e7] at hQ ⊢
              refine wpList_append_fresh (by rfl) (.tmp 25) (.tmp 31) (by rfl) g7 wA.heap.size wA.heap.size #[] (by rfl) hB7 rfl hg7 _ _ (r.take k) (by rw [hk2]; rfl) (by rw [hk2]; exact hT2) ?_
              intro v' w' ho hb'
              exact hQ _ _ hb' ho
            · intro x w hb hk Q' hQ
              clear hk
              simp only [netAct, dstAt, List.getElem?_toArray, List.getElem?_cons_zero, List.getElem?_cons_succ, Option.bind_some, Act.put, List.setIfInBounds_toArray, List.set_cons_zero, List.set_cons_succ] at hQ ⊢
              go_wp2
              exact hQ (.slice (some ⟨b, o, none⟩) (n + 1) c) _ (Below.refl _ _) rfl
            · intro x w hb hk Q' hQ
              clear hk
              simp only [netAct, dstAt, List.getElem?_toArray, List.getElem?_cons_zero, List.getElem?_cons_succ, Option.bind_some, Act.put, List.setIfInBounds_toArray, List.set_cons_zero, List.set_cons_succ] at hQ ⊢
              go_wp2
              exact hQ (.int .i64 i) _ (Below.refl _ _) rfl
            · intro x w hb hk Q' hQ
              have h9 : x.v 9 = .slice (some ⟨b, o, none⟩) (n + 1) c := (hk 9 (by decide)).1
              have h10 : x.v 10 = .int .i64 i := (hk 10 (by decide)).1
              clear hk
              simp only [netAct, dstAt, List.getElem?_toArray, List.getElem?_cons_zero, List.getElem?_cons_succ, Option.bind_some, Act.put, List.setIfInBounds_toArray, List.set_cons_zero, List.set_cons_succ] at hQ ⊢
              simp only [h9, h10] at hQ ⊢
              clear h9 h10
              go_wp2
              exact hQ (.pointer (some ⟨b, o + i, none⟩)) _ (Below.refl _ _) rfl
            · intro x w hb hk Q' hQ
              have h11 : x.v 11 = .pointer (some ⟨b, o + i, none⟩) := (hk 11 (by decide)).1
              clear hk
              simp only [netAct, dstAt, List.getElem?_toArray, List.getElem?_cons_zero, List.getElem?_cons_succ, Option.bind_some, Act.put, List.setIfInBounds_toArray, List.set_cons_zero, List.set_cons_succ] at hQ ⊢
              simp only [h11] at hQ ⊢
              clear h11
              have q0 := bcell hb (show b < wA.heap.size by omega) y2
              go_wp2
              exact hQ (.slice (some ⟨br, or, none⟩) (n + 1) rc) _ (Below.refl _ _) rfl
            · intro x w hb hk Q' hQ
              clear hk
              simp only [netAct, dstAt, List.getElem?_toArray, List.getElem?_cons_zero, List.getElem?_cons_succ, Option.bind_some, Act.put, List.setIfInBounds_toArray, List.set_cons_zero, List.set_cons_succ] at hQ ⊢
              go_wp2
              exact hQ (.int .i64 k) _ (Below.refl _ _) rfl
            · intro x w hb hk Q' hQ
              have h13 : x.v 13 = .int .i64 k := (hk 13 (by decide)).1
              clear hk
              simp only [netAct, dstAt, List.getElem?_toArray, List.getElem?_cons_zero, List.getElem?_cons_succ, Option.bind_some, Act.put, List.setIfInBounds_toArray, List.set_cons_zero, List.set_cons_succ] at hQ ⊢
              simp only [h13] at hQ ⊢
              clear h13
              go_wp2
              exact hQ (.int .i64 ((k : Int) + 1)) _ (Below.refl _ _) rfl
            · intro x w hb hk Q' hQ
              have h9 : x.v 9 = .slice (some ⟨b, o, none⟩) (n + 1) c := (hk 9 (by decide)).1
              have h10 : x.v 10 = .int .i64 i := (hk 10 (by decide)).1
              have h11 : x.v 11 = .pointer (some ⟨b, o + i, none⟩) := (hk 11 (by decide)).1
              have h12 : x.v 12 = .slice (some ⟨br, or, none⟩) (n + 1) rc := (hk 12 (by decide)).1
              have h13 : x.v 13 = .int .i64 k := (hk 13 (by decide)).1
              have h14 : x.v 14 = .int .i64 ((k : Int) + 1) := (hk 14 (by decide)).1
              clear hk
              simp only [netAct, dstAt, List.getElem?_toArray, List.getElem?_cons_zero, List.getElem?_cons_succ, Option.bind_some, Act.put, List.setIfInBounds_toArray, List.set_cons_zero, List.set_cons_succ] at hQ ⊢
              simp only [h9, h10, h11, h12, h13, h14] at hQ ⊢
              clear h9 h10 h11 h12 h13 h14
              have hbz := hb.size
              have hR2 := SlI.below hb HR.out
              have hD2 := SlI.dropS (k := k + 1) hR2 (by rw [HRL2.out]; omega)
              rw [HRL2.out] at hD2
              by_cases hrc : rc = k + 1
              · have hz : r.drop (k + 1) = [] := by rw [List.drop_of_length_le (by rw [HRL2.out]; omega)]
                have hz2 : SlI w wA.heap.size (.slice (some ⟨br, or, none⟩) 0 0) (r.drop (k + 1)) := by rw [hz]; exact SlI.zeroS (by omega)
                have HZ := Lib.hid hz2
                have HN := Lib.hid (show n + 1 - (k + 1) = 0 by omega)
                have hn0 : n ≤ k := by omega
                clear hz hz2 hD2 hR2
                subst hrc
                go_wp2
                first | exact hQ _ _ (Below.refl _ _) ⟨hbz, HZ.out⟩ | (have := HN.out; simp only [this] at *; exact hQ _ _ (Below.refl _ _) ⟨hbz, HZ.out⟩)
              · have HD2 := Lib.hid hD2
                clear hD2 hR2
                go_wp2
                have HD3 : SlI w wA.heap.size (.slice (some ⟨br, or + (k + 1), none⟩) (n - k) (rc - (k + 1))) (r.drop (k + 1)) := by rw [show n - k = n + 1 - (k + 1) by omega]; exact HD2.out
                exact hQ _ _ (Below.refl _ _) ⟨hbz, HD3⟩
            · intro x w hb hk Q' hQ
              have h1 : Fresh w wA.heap.size (x.v 1) := (hk 1 (by decide)).1
              have h2 : x.v 2 = .slice (some ⟨b, o, none⟩) (n + 1) c := (hk 2 (by decide)).1
              have h3 : x.v 3 = .int .i64 i := (hk 3 (by decide)).1
              have h4 : x.v 4 = .pointer (some ⟨b, o + i, none⟩) := (hk 4 (by decide)).1
              have h5 : x.v 5 = .slice (some ⟨br, or, none⟩) (n + 1) rc := (hk 5 (by decide)).1
              have h6 : x.v 6 = .int .i64 k := (hk 6 (by decide)).1
              have h7 : x.v 7 = .slice (some ⟨br, or, none⟩) k rc := (hk 7 (by decide)).1
              have h8 : OwnI w wA.heap.size (x.v 8) (r.take k) := (hk 8 (by decide)).1
              have h9 : x.v 9 = .slice (some ⟨b, o, none⟩) (n + 1) c := (hk 9 (by decide)).1
              have h10 : x.v 10 = .int .i64 i := (hk 10 (by decide)).1
              have h11 : x.v 11 = .pointer (some ⟨b, o + i, none⟩) := (hk 11 (by decide)).1
              have h12 : x.v 12 = .slice (some ⟨br, or, none⟩) (n + 1) rc := (hk 12 (by decide)).1
              have h13 : x.v 13 = .int .i64 k := (hk 13 (by decide)).1
              have h14 : x.v 14 = .int .i64 ((k : Int) + 1) := (hk 14 (by decide)).1
              have h15 : wA.heap.size ≤ w.heap.size ∧ SlI w wA.heap.size (x.v 15) (r.drop (k + 1)) := (hk 15 (by decide)).1
              have s1 := (hk 1 (by decide)).2
              have s8 := (hk 8 (by decide)).2
              have s15 := (hk 15 (by decide)).2
              clear hk
              simp only [netAct, dstAt, List.getElem?_toArray, List.getElem?_cons_zero, List.getElem?_cons_succ, Option.bind_some, Act.put, List.setIfInBounds_toArray, List.set_cons_zero, List.set_cons_succ] at hQ ⊢
              simp only [h2, h3, h4, h5, h6, h7, h9, h10, h11, h12, h13, h14] at hQ ⊢
              clear h2 h3 h4 h5 h6 h7 h9 h10 h11 h12 h13 h14
              obtain ⟨_, h15⟩ := h15
              obtain ⟨DA, dc, e15⟩ := h15.form2
              rw [e15] at h15
              have hlo := h8.lt
              refine wpList_appI (by rfl) (.tmp 32) (.tmp 39) (by rfl) wA.heap.size wA.heap.size _ _ (by rfl) h8 DA _ dc (r.drop (k + 1)) (by show x.v 15 = _; exact e15) rfl h15 (by rw [List.length_take, List.length_drop, HRL2.out]; omega) hb.size ?_
              intro v' w' h1 h2 h3
              exact hQ v' w' (below_grown h2 (fun k hk => (hlo k hk).1) hb.size) h1
            · intro x w hb hk Q' hQ
              have h2 : x.v 2 = .slice (some ⟨b, o, none⟩) (n + 1) c := (hk 2 (by decide)).1
              have h3 : x.v 3 = .int .i64 i := (hk 3 (by decide)).1
              have h4 : x.v 4 = .pointer (some ⟨b, o + i, none⟩) := (hk 4 (by decide)).1
              have h5 : x.v 5 = .slice (some ⟨br, or, none⟩) (n + 1) rc := (hk 5 (by decide)).1
              have h6 : x.v 6 = .int .i64 k := (hk 6 (by decide)).1
              have h7 : x.v 7 = .slice (some ⟨br, or, none⟩) k rc := (hk 7 (by decide)).1
              have h9 : x.v 9 = .slice (some ⟨b, o, none⟩) (n + 1) c := (hk 9 (by decide)).1
              have h10 : x.v 10 = .int .i64 i := (hk 10 (by decide)).1
              have h11 : x.v 11 = .pointer (some ⟨b, o + i, none⟩) := (hk 11 (by decide)).1
              have h12 : x.v 12 = .slice (some ⟨br, or, none⟩) (n + 1) rc := (hk 12 (by decide)).1
              have h13 : x.v 13 = .int .i64 k := (hk 13 (by decide)).1
              have h14 : x.v 14 = .int .i64 ((k : Int) + 1) := (hk 14 (by decide)).1
              have h16 : OwnI w wA.heap.size (x.v 16) (cutR k r) := (hk 16 (by decide)).1
              have s16 := (hk 16 (by decide)).2
              clear hk
              simp only [netAct, dstAt, List.getElem?_toArray, List.getElem?_cons_zero, List.getElem?_cons_succ, Option.bind_some, Act.put, List.setIfInBounds_toArray, List.set_cons_zero, List.set_cons_succ] at hQ ⊢
              simp only [h2, h3, h4, h5, h6, h7, h9, h10, h11, h12, h13, h14] at hQ ⊢
              clear h2 h3 h4 h5 h6 h7 h9 h10 h11 h12 h13 h14
              obtain ⟨A9, c9, e9, _⟩ := h16.form
              have hq2 := hQ (.slice (some ⟨w.heap.size, 0, none⟩) 1 1) (w.alloc (.cells #[x.v 16] 22)) (below_alloc _ _) ⟨w.heap.size, rfl, Blk.new w 22 #[x.v 16]⟩
              rw [e9] at hq2 ⊢
              clear h16 e9
              go_wp2
              exact hq2
            · intro x w hb hk hiv hdj
              have h0 : x.v 0 = .slice OA j oc := hk 0 (by decide) (by decide)
              have h2 : x.v 2 = .slice (some ⟨b, o, none⟩) (n + 1) c := hk 2 (by decide) (by decide)
              have h3 : x.v 3 = .int .i64 i := hk 3 (by decide) (by decide)
              have h4 : x.v 4 = .pointer (some ⟨b, o + i, none⟩) := hk 4 (by decide) (by decide)
              have h5 : x.v 5 = .slice (some ⟨br, or, none⟩) (n + 1) rc := hk 5 (by decide) (by decide)
              have h6 : x.v 6 = .int .i64 k := hk 6 (by decide) (by decide)
              have h7 : x.v 7 = .slice (some ⟨br, or, none⟩) k rc := hk 7 (by decide) (by decide)
              have h9 : x.v 9 = .slice (some ⟨b, o, none⟩) (n + 1) c := hk 9 (by decide) (by decide)
              have h10 : x.v 10 = .int .i64 i := hk 10 (by decide) (by decide)
              have h11 : x.v 11 = .pointer (some ⟨b, o + i, none⟩) := hk 11 (by decide) (by decide)
              have h12 : x.v 12 = .slice (some ⟨br, or, none⟩) (n + 1) rc := hk 12 (by decide) (by decide)
              have h13 : x.v 13 = .int .i64 k := hk 13 (by decide) (by decide)
              have h14 : x.v 14 = .int .i64 ((k : Int) + 1) := hk 14 (by decide) (by decide)
              have h16 : OwnI w wA.heap.size (x.v 16) (cutR k r) := hk 16 (by decide) (by decide)
              have h17 : ∃ g, x.v 17 = .slice (some ⟨g, 0, none⟩) 1 1 ∧ Blk w g 22 #[x.v 16] := hk 17 (by decide) (by decide)
              clear hk
              simp only [netAct, dstAt, List.getElem?_toArray, List.getElem?_cons_zero, List.getElem?_cons_succ, Option.bind_some, Act.put, List.setIfInBounds_toArray, List.set_cons_zero, List.set_cons_succ]
              simp only [List.drop_succ_cons, List.drop_zero, h0, h2, h3, h4, h5, h6, h7, h9, h10, h11, h12, h13, h14]
              clear h0 h2 h3 h4 h5 h6 h7 h9 h10 h11 h12 h13 h14
              obtain ⟨g, e10, k10⟩ := h17
              rw [e10]
              have c10 := k10.cell' (i := 0) rfl
              have hws := hb.size
              have hO2 := HO.out.below hb
              have HBQ2 := Lib.hid (HBQ.out.trans (hb.mono (by omega)))
              refine wpList_appR rfl (.tmp 24) (.tmp 41) rfl LO wA.heap.size wA.heap.size w.heap.size (.slice OA j oc) _ (cutR k r) rfl hO2 _ _ (x.v 16) rfl ⟨g, 0, rfl, c10⟩ (IntsO.of_own h16) (Nat.le_refl _) (by omega) (by omega) (by rw [HLO.out]; omega) (by omega) (by omega) ?_
              intro v9 w9 ho9 hb9 _
              rw [← HSN.out] at ho9
              have HO9 := Lib.hid ho9
              have HB9 := Lib.hid (HBQ2.out.trans hb9)
              clear ho9 hb9 hO2 hb hiv hdj e10 k10 c10 h16 HBQ2
              go_wp2
              go_roundw
              case rel => exact ⟨j + 1, i + 1, by omega, by go_num, (by show i + 1 = j + 1 + 1; omega), HO9.out, HB9.out⟩
              case measure => simp [intOf]; omega
          · have hjn' : j = n := by omega
            have e1 : (m.tail.take j).map (cutR k) = mnr k m := by rw [List.take_of_length_le (by rw [List.length_tail, HL.out]; omega)]; rfl
            rw [e1] at hO
            have HO := Lib.hid hO
            have HBQ2 := Lib.hid hbq2
            obtain ⟨D, hD⟩ : ∃ z, detL n (mnr k m) = z := ⟨_, rfl⟩
            have hDr := det_rng HSQ.out
            have hDB := dB_5 (show n ≤ 5 by omega)
            rw [hD] at hDr
            have HD := Lib.hid hD
            have h1 := abs_mul (A := 1) (B := 12) (show -1 ≤ S ∧ S ≤ 1 by omega) hXr
            have h2 := abs_mul (A := 12) (B := 29859840) (a := S * X) (b := D) (by omega) (by omega)
            obtain ⟨P, hP⟩ : ∃ z, S * X = z := ⟨_, rfl⟩
            rw [hP] at h1 h2
            obtain ⟨Z, hZ⟩ : ∃ z, P * D = z := ⟨_, rfl⟩
            rw [hZ] at h2
            have HP := Lib.hid hP
            have HZ := Lib.hid hZ
            have x2 := bcell hbq2 hb0 x0
            have x3 := bcell hbq2 hb00 x1
            have hqs2 := hbq2.size
            clear hO hbq hbq2 hlo e1 hjn' hD hP hZ x0 x1
            go_wp2
            obtain ⟨wA, hwA⟩ : ∃ z, z = wr := ⟨_, rfl⟩
            subst hwA
            obtain ⟨XX, hXX⟩ : ∃ z, z = X := ⟨_, rfl⟩
            subst hXX
            refine wp_region_net (by kernel_rfl) [.eq (.int .i64 T), .eq (.int .i64 S), .eq (.slice (some ⟨b, o, none⟩) (n + 1) c), .eq (.pointer (some ⟨b, o, none⟩)), .eq (.slice (some ⟨b0, o0, none⟩) (n + 1) c0), .eq (.int .i64 k), .eq (.pointer (some ⟨b0, o0 + k, none⟩)), .eq (.int .i64 XX), .eq (.int .i64 P), .eq (.slice OA j oc), .eq (.int .i64 D), .eq (.int .i64 Z)] [[], [], [], [2], [2, 3], [], [2, 3, 4, 5], [2, 3, 4, 5, 6], [1, 2, 3, 4, 5, 6, 7], [], [9], [1, 2, 3, 4, 5, 6, 7, 8, 9, 10], [0, 1, 2, 3, 4, 5, 6, 7, 8, 9, 10, 11], [0, 1, 2, 3, 4, 5, 6, 7, 8, 9, 10, 11, 12]] 12 (by kernel_rfl) ⟨trivial, trivial, trivial, trivial, trivial, trivial, trivial, trivial, trivial, trivial, trivial, trivial, trivial⟩ ⟨?_, ?_, ?_, ?_, ?_, ?_, ?_, ?_, ?_, ?_, ?_, ?_, trivial⟩ ?_
            · intro x w hb hk Q' hQ
              clear hk
              simp only [netAct, dstAt, List.getElem?_toArray, List.getElem?_cons_zero, List.getElem?_cons_succ, Option.bind_some, Act.put, List.setIfInBounds_toArray, List.set_cons_zero, List.set_cons_succ] at hQ ⊢
              go_wp2
              exact hQ (.int .i64 T) _ (Below.refl _ _) rfl
            · intro x w hb hk Q' hQ
              clear hk
              simp only [netAct, dstAt, List.getElem?_toArray, List.getElem?_cons_zero, List.getElem?_cons_succ, Option.bind_some, Act.put, List.setIfInBounds_toArray, List.set_cons_zero, List.set_cons_succ] at hQ ⊢
              go_wp2
              exact hQ (.int .i64 S) _ (Below.refl _ _) rfl
            · intro x w hb hk Q' hQ
              clear hk
              simp only [netAct, dstAt, List.getElem?_toArray, List.getElem?_cons_zero, List.getElem?_cons_succ, Option.bind_some, Act.put, List.setIfInBounds_toArray, List.set_cons_zero, List.set_cons_succ] at hQ ⊢
              go_wp2
              exact hQ (.slice (some ⟨b, o, none⟩) (n + 1) c) _ (Below.refl _ _) rfl
            · intro x w hb hk Q' hQ
              have h2 : x.v 2 = .slice (some ⟨b, o, none⟩) (n + 1) c := (hk 2 (by decide)).1
              clear hk
              simp only [netAct, dstAt, List.getElem?_toArray, List.getElem?_cons_zero, List.getElem?_cons_succ, Option.bind_some, Act.put, List.setIfInBounds_toArray, List.set_cons_zero, List.set_cons_succ] at hQ ⊢
              simp only [h2] at hQ ⊢
              clear h2
              go_wp2
              exact hQ (.pointer (some ⟨b, o, none⟩)) _ (Below.refl _ _) rfl
            · intro x w hb hk Q' hQ
              have h3 : x.v 3 = .pointer (some ⟨b, o, none⟩) := (hk 3 (by decide)).1
              clear hk
              simp only [netAct, dstAt, List.getElem?_toArray, List.getElem?_cons_zero, List.getElem?_cons_succ, Option.bind_some, Act.put, List.setIfInBounds_toArray, List.set_cons_zero, List.set_cons_succ] at hQ ⊢
              simp only [h3] at hQ ⊢
              clear h3
              have q0 := bcell hb (show b < wA.heap.size by omega) x2
              go_wp2
              exact hQ (.slice (some ⟨b0, o0, none⟩) (n + 1) c0) _ (Below.refl _ _) rfl
            · intro x w hb hk Q' hQ
              clear hk
              simp only [netAct, dstAt, List.getElem?_toArray, List.getElem?_cons_zero, List.getElem?_cons_succ, Option.bind_some, Act.put, List.setIfInBounds_toArray, List.set_cons_zero, List.set_cons_succ] at hQ ⊢
              go_wp2
              exact hQ (.int .i64 k) _ (Below.refl _ _) rfl
            · intro x w hb hk Q' hQ
              have h4 : x.v 4 = .slice (some ⟨b0, o0, none⟩) (n + 1) c0 := (hk 4 (by decide)).1
              have h5 : x.v 5 = .int .i64 k := (hk 5 (by decide)).1
              clear hk
              simp only [netAct, dstAt, List.getElem?_toArray, List.getElem?_cons_zero, List.getElem?_cons_succ, Option.bind_some, Act.put, List.setIfInBounds_toArray, List.set_cons_zero, List.set_cons_succ] at hQ ⊢
              simp only [h4, h5] at hQ ⊢
              clear h4 h5
              go_wp2
              exact hQ (.pointer (some ⟨b0, o0 + k, none⟩)) _ (Below.refl _ _) rfl
            · intro x w hb hk Q' hQ
              have h6 : x.v 6 = .pointer (some ⟨b0, o0 + k, none⟩) := (hk 6 (by decide)).1
              clear hk
              simp only [netAct, dstAt, List.getElem?_toArray, List.getElem?_cons_zero, List.getElem?_cons_succ, Option.bind_some, Act.put, List.setIfInBounds_toArray, List.set_cons_zero, List.set_cons_succ] at hQ ⊢
              simp only [h6] at hQ ⊢
              clear h6
              have q0 := bcell hb (show b0 < wA.heap.size by omega) x3
              go_wp2
              exact hQ (.int .i64 XX) _ (Below.refl _ _) rfl
            · intro x w hb hk Q' hQ
              have h1 : x.v 1 = .int .i64 S := (hk 1 (by decide)).1
              have h7 : x.v 7 = .int .i64 XX := (hk 7 (by decide)).1
              clear hk
              simp only [netAct, dstAt, List.getElem?_toArray, List.getElem?_cons_zero, List.getElem?_cons_succ, Option.bind_some, Act.put, List.setIfInBounds_toArray, List.set_cons_zero, List.set_cons_succ] at hQ ⊢
              simp only [h1, h7] at hQ ⊢
              clear h1 h7
              go_wp2
              rw [HP.out, IntWalk.wrap64_in _ ⟨by omega, by omega⟩]
              exact hQ (.int .i64 P) _ (Below.refl _ _) rfl
            · intro x w hb hk Q' hQ
              clear hk
              simp only [netAct, dstAt, List.getElem?_toArray, List.getElem?_cons_zero, List.getElem?_cons_succ, Option.bind_some, Act.put, List.setIfInBounds_toArray, List.set_cons_zero, List.set_cons_succ] at hQ ⊢
              go_wp2
              exact hQ (.slice OA j oc) _ (Below.refl _ _) rfl
            · intro x w hb hk Q' hQ
              have h9 : x.v 9 = .slice OA j oc := (hk 9 (by decide)).1
              clear hk
              simp only [netAct, dstAt, List.getElem?_toArray, List.getElem?_cons_zero, List.getElem?_cons_succ, Option.bind_some, Act.put, List.setIfInBounds_toArray, List.set_cons_zero, List.set_cons_succ] at hQ ⊢
              simp only [h9] at hQ ⊢
              clear h9
              have HMN := Lib.hid (HO.out.below hb).rd
              go_wp2_with fail
              refine (IH.out _ (mnr k m) _ HMN.out HSQ.out).mono ?_; rintro e w6 ⟨rfl, hb6⟩
              rw [HD.out]
              go_wp2
              exact hQ _ _ hb6 rfl
            · intro x w hb hk Q' hQ
              have h8 : x.v 8 = .int .i64 P := (hk 8 (by decide)).1
              have h10 : x.v 10 = .int .i64 D := (hk 10 (by decide)).1
              clear hk
              simp only [netAct, dstAt, List.getElem?_toArray, List.getElem?_cons_zero, List.getElem?_cons_succ, Option.bind_some, Act.put, List.setIfInBounds_toArray, List.set_cons_zero, List.set_cons_succ] at hQ ⊢
              simp only [h8, h10] at hQ ⊢
              clear h8 h10
              go_wp2
              rw [HZ.out, IntWalk.wrap64_in _ ⟨by omega, by omega⟩]
              exact hQ (.int .i64 Z) _ (Below.refl _ _) rfl
            · intro x w hb hk hiv hdj
              have h0 : x.v 0 = .int .i64 T := hk 0 (by decide)
              have h1 : x.v 1 = .int .i64 S := hk 1 (by decide)
              have h2 : x.v 2 = .slice (some ⟨b, o, none⟩) (n + 1) c := hk 2 (by decide)
              have h3 : x.v 3 = .pointer (some ⟨b, o, none⟩) := hk 3 (by decide)
              have h4 : x.v 4 = .slice (some ⟨b0, o0, none⟩) (n + 1) c0 := hk 4 (by decide)
              have h5 : x.v 5 = .int .i64 k := hk 5 (by decide)
              have h6 : x.v 6 = .pointer (some ⟨b0, o0 + k, none⟩) := hk 6 (by decide)
              have h7 : x.v 7 = .int .i64 XX := hk 7 (by decide)
              have h8 : x.v 8 = .int .i64 P := hk 8 (by decide)
              have h9 : x.v 9 = .slice OA j oc := hk 9 (by decide)
              have h10 : x.v 10 = .int .i64 D := hk 10 (by decide)
              have h11 : x.v 11 = .int .i64 Z := hk 11 (by decide)
              clear hk
              simp only [netAct, dstAt, List.getElem?_toArray, List.getElem?_cons_zero, List.getElem?_cons_succ, Option.bind_some, Act.put, List.setIfInBounds_toArray, List.set_cons_zero, List.set_cons_succ]
              simp only [List.drop_succ_cons, List.drop_zero, h0, h1, h2, h3, h4, h5, h6, h7, h8, h9, h10, h11]
              clear h0 h1 h2 h3 h4 h5 h6 h7 h8 h9 h10 h11
              have HB3 := Lib.hid (HBQ2.out.trans (hb.mono hqs2))
              clear hb hiv hdj x2 x3
              go_wp2
              go_roundw
              case rel =>
                refine ⟨k + 1, T + Z, -S, by omega, by go_num, rfl, rfl, ?_, ?_, HB3.out⟩
                · show _ = _
                  rw [detS_succ, HD.out, ← HSG.out, ← HT.out, HXF.out, HP.out, HZ.out]
                · show _ = _
                  rw [sgK_succ, ← HSG.out]
              case measure => simp [intOf]; omega
      · have hkn : k = n + 1 := by omega
        have HTE := Lib.hid (show T = detL (n + 1) m by rw [HDL.out, HT.out, hkn])
        clear hkn
        go_wp2
        go_ret
        exact ⟨by rw [← HTE.out]; rfl, hbel⟩
end Go.Proofs.Ytjhllgldllbaaaa

/- The reference's symmetric form. -/
namespace Go.Proofs.Ytjhllgldllbaaaa
set_option linter.unusedVariables false
set_option linter.unusedSimpArgs false
open Go.RowKit

/-- append of one slice onto a row of slices of the call's own -/
theorem rowF_dec {V : Nat} (g : Nat → Int) (j : Nat) : (rowF V g).set j (g j - 1) = rowF V fun b => g b - if b = j then 1 else 0 := by
  rw [rowF_set]
  apply rowF_congr
  intro b _
  by_cases e : b = j
  · subst e; rw [if_pos rfl, if_pos rfl]
  · rw [if_neg e, if_neg e]; omega
theorem if_pos_and {p r : Prop} [Decidable p] [Decidable r] (h : p) : (if p ∧ r then (1 : Int) else 0) = if r then 1 else 0 := by
  by_cases hr : r
  · rw [if_pos ⟨h, hr⟩, if_pos hr]
  · rw [if_neg (fun x => hr x.2), if_neg hr]

set_option maxHeartbeats 1600000 in
set_option maxRecDepth 20000 in
theorem symmetricForm_any (u : Value) (q : Qv) (w : World) (hu : QvR w w.heap.size u q) (hq : isQ q = true) :
    Calls Try.prog 160 #[u] w fun e w' => ∃ v, e = .returned v ∧ IntssO w' w.heap.size w'.heap.size v (symM q) ∧ Below w.heap.size w w' := by
  obtain ⟨qv, qf, qt⟩ := q
  have hu' := hu
  obtain ⟨A, c, C, d, rfl, hf, hT, hr, lf, lt⟩ := hu.open_
  clear hu
  obtain ⟨⟨hv1, hv2⟩, hlen, hl6, hfr, htr⟩ := isQ_t.1 hq
  dsimp only at *
  obtain ⟨V, rfl⟩ : ∃ V : Nat, qv = V := ⟨qv.toNat, by omega⟩
  have hV5 : V ≤ 5 := by omega
  have HLE := Lib.hid hlen
  have HR := Lib.hid (And.intro hfr htr)
  clear hlen hfr htr
  obtain ⟨i1, hi, hz0, hz1, hz2⟩ := info_parts infoInt
  have hmk1 := run_mk (P := Try.prog) Try.underlying22 hi hz0 (n := V) (by rw [hz2]; omega) (by omega)
  rw [hz1] at hmk1
  clear hi hz0 hz1 hz2
  have g0 : Below w.heap.size w ((w.alloc (.cells #[.int .i64 V, .slice A qf.length c, .slice C qt.length d] 26)).alloc (.cells #[] 22)) := ((Below.refl _ _).alloc (Nat.le_refl _) _).alloc (by simp) _
  have kB : Blk ((w.alloc (.cells #[.int .i64 V, .slice A qf.length c, .slice C qt.length d] 26)).alloc (.cells #[] 22)) w.heap.size 26 #[.int .i64 V, .slice A qf.length c, .slice C qt.length d] := (Blk.new _ _ _).alloc _
  go_enter Try.func160, Try.ntmps160
  go_wp2
  have hmo : Try.prog.follows .mixedOrders = true := by kernel_rfl
  have ho0 : OutO ((w.alloc (.cells #[.int .i64 V, .slice A qf.length c, .slice C qt.length d] 26)).alloc (.cells #[] 22)) w.heap.size ((w.alloc (.cells #[.int .i64 V, .slice A qf.length c, .slice C qt.length d] 26)).alloc (.cells #[] 22)).heap.size (.slice (some ⟨w.heap.size + 1, 0, none⟩) 0 0) [] := by
    have hb := Blk.new (w.alloc (.cells #[.int .i64 V, .slice A qf.length c, .slice C qt.length d] 26)) 22 #[]
    have h := OutCs.own (lo := w.heap.size) (vs := []) ⟨rfl, by simp, fun j v h => by simp at h⟩ hb (by simp) (by simp)
    simpa only [World.size_alloc, List.length_nil] using h
  go_loopw [3, 4] (fun a i wr => ∃ vs : List Value, vs.length ≤ V ∧ i = .int .i64 vs.length ∧ Below w.heap.size w wr ∧ Blk wr w.heap.size 26 #[.int .i64 V, .slice A qf.length c, .slice C qt.length d] ∧ OutO wr w.heap.size wr.heap.size a vs ∧ Fam wr w.heap.size wr.heap.size (vs.zip ((symM ⟨V, qf, qt⟩).take vs.length))) (fun _ i _ => V - (intOf i).toNat)
  case atStart => exact ⟨[], Nat.zero_le _, rfl, g0, kB, ho0, ⟨fun p hp => by simp at hp, by simp⟩⟩
  case round =>
    clear g0 kB ho0
    obtain ⟨vs, hk, rfl, hbel, hkB, ho, hF⟩ := hrel
    have e0 := hkB.cell' (i := 0) rfl
    have e1 := hkB.cell' (i := 1) rfl
    have e2 := hkB.cell' (i := 2) rfl
    obtain ⟨OA, oc, rfl, _, _⟩ := ho.form
    obtain ⟨N, hN⟩ : ∃ N, vs.length = N := ⟨_, rfl⟩
    have HN := Lib.hid hN
    rw [hN] at hk hF ⊢
    rw [hN] at ho
    clear hN
    by_cases hlt : N < V
    · have hN5 : N ≤ 5 := by omega
      have hrq := QvR.more (B' := wr.heap.size) (by have := hbel.size; omega) (QvR.below hbel hu')
      go_wp2_with fail
      refine (specIsQuiver_any _ _ _ hrq).mono ?_; rintro e w5 ⟨rfl, hb5⟩
      rw [hq]
      have hkB' := hkB.call hb5
      have ho' := (ho.below hb5).mono (Nat.le_refl _) hb5.size
      have hF' := (hF.below hb5).mono (Nat.le_refl _) hb5.size
      have hbel' := hbel.trans (hb5.mono hbel.size)
      clear hkB ho hF hbel e0 e1 e2 hrq hb5
      have hkB := hkB'
      clear hkB'
      have e0 := hkB.cell' (i := 0) rfl
      have e1 := hkB.cell' (i := 1) rfl
      have e2 := hkB.cell' (i := 2) rfl
      have hs5 := hbel'.size
      have hv1 := OwnI.made0 (w := w5) (base := w5.heap.size) (N := V) (Nat.le_refl _) (by omega)
      have c3 := (hv1.cellG (j := N) (by simpa using hlt)).1
      have f3 := hv1.frozenG N
      rw [show (List.replicate V (0 : Int)).getD N 0 = 0 by rw [List.getD_eq_getElem?_getD, List.getElem?_replicate, if_pos hlt]; rfl] at c3
      have hv3 : OwnI (w5.alloc (.cells ((mkCells (.int .i64 0) V).setIfInBounds N (.int .i64 2)) 3)) w5.heap.size (Value.slice (some ⟨w5.heap.size, 0, none⟩) V V) ((List.replicate V (0 : Int)).set N 2) :=
        OwnI.newBlk (w := w5) (base := w5.heap.size) (N := V) (Nat.le_refl _) (by omega) (by simp) (by
          rw [Array.toList_setIfInBounds, show (mkCells (.int .i64 0) V).toList = List.replicate V (.int .i64 0) from toList_madeCells_one _ _, List.map_set, List.map_replicate]) (fun x hx => by
          rcases List.mem_or_eq_of_mem_set hx with hx | rfl
          · obtain ⟨_, rfl⟩ := List.mem_replicate.1 hx
            exact ⟨by decide, by decide⟩
          · exact ⟨by decide, by decide⟩)
      have hrow : (List.replicate V (0 : Int)).set N 2 = rowF V (ent ⟨V, qf, qt⟩ 0 N) := by
        rw [show List.replicate V (0 : Int) = rowF V (fun _ => 0) from by rw [rowF, List.map_const', List.length_range], rowF_set]
        apply rowF_congr
        intro b _
        rw [ent_zero]
        by_cases e : b = N
        · rw [if_pos e, if_pos e.symm]
        · rw [if_neg e, if_neg (fun h => e h.symm)]
      rw [hrow] at hv3
      have hb3 := below_alloc w5 (.cells ((mkCells (.int .i64 0) V).setIfInBounds N (.int .i64 2)) 3)
      have zs3 : (w5.alloc (.cells ((mkCells (.int .i64 0) V).setIfInBounds N (.int .i64 2)) 3)).heap.size = w5.heap.size + 1 := by simp
      clear hrow hv1
      go_wp2
      clear c3 f3 e0 e1 e2
      go_loopw [6] (fun i wr => ∃ k : Nat, k ≤ qf.length ∧ i = .int .i64 k ∧ OwnI wr w5.heap.size (Value.slice (some ⟨w5.heap.size, 0, none⟩) V V) (rowF V (ent ⟨V, qf, qt⟩ k N)) ∧ Below w5.heap.size w5 wr ∧ wr.heap.size = w5.heap.size + 1) (fun i _ => qf.length - (intOf i).toNat)
      case atStart => exact ⟨0, Nat.zero_le _, rfl, hv3, hb3, zs3⟩
      case round =>
        clear hv3 hb3 zs3
        obtain ⟨k, hk, rfl, hown, hbel, hsz⟩ := hrel
        have hSZ := Lib.hid hsz
        have e1 := (hkB.call hbel).cell' (i := 1) rfl
        have e2 := (hkB.call hbel).cell' (i := 2) rfl
        by_cases hltk : k < qf.length
        · have hltT : k < qt.length := by have := HLE.out; omega
          obtain ⟨b, o, x', rfl, hb, HX, x1, _⟩ := SlI.at_ hf hltk
          obtain ⟨b2, o2, y', rfl, hb2, HY, y1, _⟩ := SlI.at_ hT hltT
          have hxr := HR.out.1 x' (List.mem_of_getElem? HX.out)
          have hyr := HR.out.2 y' (List.mem_of_getElem? HY.out)
          obtain ⟨x, rfl⟩ : ∃ x : Nat, x' = x := ⟨x'.toNat, by omega⟩
          obtain ⟨y, rfl⟩ : ∃ y : Nat, y' = y := ⟨y'.toNat, by omega⟩
          have hxV : x < V := by omega
          have hyV : y < V := by omega
          clear hxr hyr
          have x2 := bcell (hbel'.trans (hbel.mono hs5)) hb x1
          have y2 := bcell (hbel'.trans (hbel.mono hs5)) hb2 y1
          by_cases ex : x = N
          · have exb : ((x : Int) == (N : Int)) = true := by rw [beq_iff_eq]; omega
            by_cases ey : y = N
            · have eyb : ((y : Int) == (N : Int)) = true := by rw [beq_iff_eq]; omega
              have EX := Lib.hid ex
              have EY := Lib.hid ey
              clear ex ey
              obtain ⟨m1, hm1⟩ : ∃ m, (ent ⟨V, qf, qt⟩ k N) y = m := ⟨_, rfl⟩
              have hmr1 : -13 ≤ m1 ∧ m1 ≤ 2 := by
                rw [← hm1]
                have := ent_rng ⟨V, qf, qt⟩ k N y hl6
                first | omega | (dsimp only; split <;> omega)
              have r21 := (hown.cellG (j := y) (by rw [rowF_length]; exact hyV)).1
              rw [rowF_getD _ hyV, hm1] at r21
              have r31 := hown.frozenG y
              have hp1 := hown.put (j := y) (x := m1 - 1) ⟨by omega, by omega⟩
              rw [← hm1, rowF_dec, hm1] at hp1
              have hz1 := hbel.grown hp1.2 (by have := hbel.size; omega) (fun j hj => by injection hj with hj; omega)
              have HP1 := Lib.hid hp1.1
              have HZ1 := Lib.hid hz1
              clear hp1 hz1 hm1 hown
              go_wp2_with fail
              go_region_o
              obtain ⟨Wq1, hWq1⟩ : ∃ Wq, Wq = (wr.setCell ⟨w5.heap.size, y, none⟩ (.int .i64 (m1 - 1))).drew := ⟨_, rfl⟩
              rw [← hWq1]
              have hown1 : OwnI Wq1 w5.heap.size (Value.slice (some ⟨w5.heap.size, 0, none⟩) V V) (rowF V (fun b => (ent ⟨V, qf, qt⟩ k N) b - if b = y then 1 else 0)) := by rw [hWq1]; exact HP1.out.drewN 1
              have hbel1 : Below w5.heap.size w5 Wq1 := by rw [hWq1]; exact below_drewN HZ1.out 1
              have hsz1 : Wq1.heap.size = wr.heap.size := by rw [hWq1]; simp
              have SZ1 := Lib.hid hsz1
              clear hWq1 hsz1 r21 r31
              clear e1 e2 x2 y2
              have e1 := (hkB.call hbel1).cell' (i := 1) rfl
              have e2 := (hkB.call hbel1).cell' (i := 2) rfl
              have x2 := bcell (hbel'.trans (hbel1.mono hs5)) hb x1
              have y2 := bcell (hbel'.trans (hbel1.mono hs5)) hb2 y1
              obtain ⟨G1, hG1⟩ : ∃ G : Nat → Int, G = fun b => (ent ⟨V, qf, qt⟩ k N) b - if b = y then 1 else 0 := ⟨_, rfl⟩
              rw [← hG1] at hown1
              have HG1 := Lib.hid hG1
              clear hG1
              obtain ⟨m2, hm2⟩ : ∃ m, (G1) x = m := ⟨_, rfl⟩
              have hmr2 : -13 ≤ m2 ∧ m2 ≤ 2 := by
                rw [← hm2, HG1.out]
                have := ent_rng ⟨V, qf, qt⟩ k N x hl6
                first | omega | (dsimp only; split <;> omega)
              have r22 := (hown1.cellG (j := x) (by rw [rowF_length]; exact hxV)).1
              rw [rowF_getD _ hxV, hm2] at r22
              have r32 := hown1.frozenG x
              have hp2 := hown1.put (j := x) (x := m2 - 1) ⟨by omega, by omega⟩
              rw [← hm2, rowF_dec, hm2] at hp2
              have hz2 := hbel1.grown hp2.2 (by have := hbel1.size; omega) (fun j hj => by injection hj with hj; omega)
              have HP2 := Lib.hid hp2.1
              have HZ2 := Lib.hid hz2
              clear hp2 hz2 hm2 hown1
              go_wp2_with fail
              go_region_o
              obtain ⟨Wq2, hWq2⟩ : ∃ Wq, Wq = (Wq1.setCell ⟨w5.heap.size, x, none⟩ (.int .i64 (m2 - 1))).drew := ⟨_, rfl⟩
              rw [← hWq2]
              have hown2 : OwnI Wq2 w5.heap.size (Value.slice (some ⟨w5.heap.size, 0, none⟩) V V) (rowF V (fun b => (G1) b - if b = x then 1 else 0)) := by rw [hWq2]; exact HP2.out.drewN 1
              have hbel2 : Below w5.heap.size w5 Wq2 := by rw [hWq2]; exact below_drewN HZ2.out 1
              have hsz2 : Wq2.heap.size = Wq1.heap.size := by rw [hWq2]; simp
              have SZ2 := Lib.hid hsz2
              clear hWq2 hsz2 r22 r32
              have hst : Hid (rowF V (fun b => (G1) b - if b = x then 1 else 0) = rowF V (ent ⟨V, qf, qt⟩ (k + 1) N)) := by
                show rowF V (fun b => (G1) b - if b = x then 1 else 0) = _
                apply rowF_congr
                intro b _
                rw [ent_succ HX.out HY.out]
                rw [HG1.out, if_pos_and EX.out.symm, if_pos_and EY.out.symm]
              rw [hst.out] at hown2
              go_wp2
              go_roundw
              case rel => exact ⟨k + 1, by omega, by go_num, hown2, hbel2, (SZ2.out.trans (SZ1.out.trans hsz))⟩
              case measure => simp [intOf]; omega
            · have eyb : ((y : Int) == (N : Int)) = false := by rw [beq_eq_false_iff_ne]; omega
              have hyn := ey
              have EX := Lib.hid ex
              clear ex ey
              obtain ⟨m1, hm1⟩ : ∃ m, (ent ⟨V, qf, qt⟩ k N) y = m := ⟨_, rfl⟩
              have hmr1 : -13 ≤ m1 ∧ m1 ≤ 2 := by
                rw [← hm1]
                have := ent_rng ⟨V, qf, qt⟩ k N y hl6
                first | omega | (dsimp only; split <;> omega)
              have r21 := (hown.cellG (j := y) (by rw [rowF_length]; exact hyV)).1
              rw [rowF_getD _ hyV, hm1] at r21
              have r31 := hown.frozenG y
              have hp1 := hown.put (j := y) (x := m1 - 1) ⟨by omega, by omega⟩
              rw [← hm1, rowF_dec, hm1] at hp1
              have hz1 := hbel.grown hp1.2 (by have := hbel.size; omega) (fun j hj => by injection hj with hj; omega)
              have HP1 := Lib.hid hp1.1
              have HZ1 := Lib.hid hz1
              clear hp1 hz1 hm1 hown
              go_wp2_with fail
              go_region_o
              obtain ⟨Wq1, hWq1⟩ : ∃ Wq, Wq = (wr.setCell ⟨w5.heap.size, y, none⟩ (.int .i64 (m1 - 1))).drew := ⟨_, rfl⟩
              rw [← hWq1]
              have hown1 : OwnI Wq1 w5.heap.size (Value.slice (some ⟨w5.heap.size, 0, none⟩) V V) (rowF V (fun b => (ent ⟨V, qf, qt⟩ k N) b - if b = y then 1 else 0)) := by rw [hWq1]; exact HP1.out.drewN 1
              have hbel1 : Below w5.heap.size w5 Wq1 := by rw [hWq1]; exact below_drewN HZ1.out 1
              have hsz1 : Wq1.heap.size = wr.heap.size := by rw [hWq1]; simp
              have SZ1 := Lib.hid hsz1
              clear hWq1 hsz1 r21 r31
              clear e1 e2 x2 y2
              have e1 := (hkB.call hbel1).cell' (i := 1) rfl
              have e2 := (hkB.call hbel1).cell' (i := 2) rfl
              have x2 := bcell (hbel'.trans (hbel1.mono hs5)) hb x1
              have y2 := bcell (hbel'.trans (hbel1.mono hs5)) hb2 y1
              have hst : Hid (rowF V (fun b => (ent ⟨V, qf, qt⟩ k N) b - if b = y then 1 else 0) = rowF V (ent ⟨V, qf, qt⟩ (k + 1) N)) := by
                show rowF V (fun b => (ent ⟨V, qf, qt⟩ k N) b - if b = y then 1 else 0) = _
                apply rowF_congr
                intro b _
                rw [ent_succ HX.out HY.out]
                rw [if_pos_and EX.out.symm, if_neg (c := N = y ∧ b = x) (fun h => hyn h.1.symm)]; omega
              rw [hst.out] at hown1
              go_wp2
              go_roundw
              case rel => exact ⟨k + 1, by omega, by go_num, hown1, hbel1, (SZ1.out.trans hsz)⟩
              case measure => simp [intOf]; omega
          · have exb : ((x : Int) == (N : Int)) = false := by rw [beq_eq_false_iff_ne]; omega
            have hxn := ex
            clear ex
            by_cases ey : y = N
            · have eyb : ((y : Int) == (N : Int)) = true := by rw [beq_iff_eq]; omega
              have EY := Lib.hid ey
              clear ey
              obtain ⟨m1, hm1⟩ : ∃ m, (ent ⟨V, qf, qt⟩ k N) x = m := ⟨_, rfl⟩
              have hmr1 : -13 ≤ m1 ∧ m1 ≤ 2 := by
                rw [← hm1]
                have := ent_rng ⟨V, qf, qt⟩ k N x hl6
                first | omega | (dsimp only; split <;> omega)
              have r21 := (hown.cellG (j := x) (by rw [rowF_length]; exact hxV)).1
              rw [rowF_getD _ hxV, hm1] at r21
              have r31 := hown.frozenG x
              have hp1 := hown.put (j := x) (x := m1 - 1) ⟨by omega, by omega⟩
              rw [← hm1, rowF_dec, hm1] at hp1
              have hz1 := hbel.grown hp1.2 (by have := hbel.size; omega) (fun j hj => by injection hj with hj; omega)
              have HP1 := Lib.hid hp1.1
              have HZ1 := Lib.hid hz1
              clear hp1 hz1 hm1 hown
              go_wp2_with fail
              go_region_o
              obtain ⟨Wq1, hWq1⟩ : ∃ Wq, Wq = (wr.setCell ⟨w5.heap.size, x, none⟩ (.int .i64 (m1 - 1))).drew := ⟨_, rfl⟩
              rw [← hWq1]
              have hown1 : OwnI Wq1 w5.heap.size (Value.slice (some ⟨w5.heap.size, 0, none⟩) V V) (rowF V (fun b => (ent ⟨V, qf, qt⟩ k N) b - if b = x then 1 else 0)) := by rw [hWq1]; exact HP1.out.drewN 1
              have hbel1 : Below w5.heap.size w5 Wq1 := by rw [hWq1]; exact below_drewN HZ1.out 1
              have hsz1 : Wq1.heap.size = wr.heap.size := by rw [hWq1]; simp
              have SZ1 := Lib.hid hsz1
              clear hWq1 hsz1 r21 r31
              have hst : Hid (rowF V (fun b => (ent ⟨V, qf, qt⟩ k N) b - if b = x then 1 else 0) = rowF V (ent ⟨V, qf, qt⟩ (k + 1) N)) := by
                show rowF V (fun b => (ent ⟨V, qf, qt⟩ k N) b - if b = x then 1 else 0) = _
                apply rowF_congr
                intro b _
                rw [ent_succ HX.out HY.out]
                rw [if_neg (c := N = x ∧ b = y) (fun h => hxn h.1.symm), if_pos_and EY.out.symm]; omega
              rw [hst.out] at hown1
              go_wp2
              go_roundw
              case rel => exact ⟨k + 1, by omega, by go_num, hown1, hbel1, (SZ1.out.trans hsz)⟩
              case measure => simp [intOf]; omega
            · have eyb : ((y : Int) == (N : Int)) = false := by rw [beq_eq_false_iff_ne]; omega
              have hyn := ey
              clear ey
              have hst : Hid (rowF V (ent ⟨V, qf, qt⟩ k N) = rowF V (ent ⟨V, qf, qt⟩ (k + 1) N)) := by
                show rowF V (ent ⟨V, qf, qt⟩ k N) = _
                apply rowF_congr
                intro b _
                rw [ent_succ HX.out HY.out]
                rw [if_neg (c := N = x ∧ b = y) (fun h => hxn h.1.symm), if_neg (c := N = y ∧ b = x) (fun h => hyn h.1.symm)]; omega
              rw [hst.out] at hown
              go_wp2
              go_roundw
              case rel => exact ⟨k + 1, by omega, by go_num, hown, hbel, hsz⟩
              case measure => simp [intOf]; omega
        · have hst : Hid (ent ⟨V, qf, qt⟩ k N = ent ⟨V, qf, qt⟩ qf.length N) := by show _ = _; rw [show k = qf.length by omega]
          rw [hst.out] at hown
          have ho1 := ho'.below hbel
          have hF1 := hF'.below hbel
          have hkB1 := hkB.call hbel
          have hb1 := hbel'.trans (hbel.mono hs5)
          have hsz' := hSZ.out
          have hF2 := hF1.snoc (hi := wr.heap.size) ⟨hown, fun k hk => by simp [Value.ownBlock] at hk; omega⟩ hs5 (by omega)
          have hzip : vs.zip ((symM ⟨V, qf, qt⟩).take N) ++ [((Value.slice (some ⟨w5.heap.size, 0, none⟩) V V), rowF V (ent ⟨V, qf, qt⟩ qf.length N))] = (vs ++ [(Value.slice (some ⟨w5.heap.size, 0, none⟩) V V)]).zip ((symM ⟨V, qf, qt⟩).take (vs ++ [(Value.slice (some ⟨w5.heap.size, 0, none⟩) V V)]).length) := by
            rw [List.length_append, List.length_singleton, HN.out, take_snoc (show (symM ⟨V, qf, qt⟩)[N]? = some (rowF V (ent ⟨V, qf, qt⟩ qf.length N)) from matF_get (V := V) _ hlt), List.zip_append (by rw [HN.out, List.length_take, symM, matF_length]; show N = min N V; omega)]
            rfl
          rw [hzip] at hF2
          have hoA := ho1.below (below_alloc wr (.cells #[(Value.slice (some ⟨w5.heap.size, 0, none⟩) V V)] 22))
          have hFA := hF2.below (below_alloc wr (.cells #[(Value.slice (some ⟨w5.heap.size, 0, none⟩) V V)] 22))
          have hkA := hkB1.call (below_alloc wr (.cells #[(Value.slice (some ⟨w5.heap.size, 0, none⟩) V V)] 22))
          clear hF2 hF1 hzip ho1 hown hkB1 hsz hsz'
          (go_wp2_with (at_builtin; refine Hold.stop ?_)); unfold Hold
          refine wpList_appS rfl (.tmp 77) (.tmp 79) rfl w.heap.size (.slice OA N oc) vs rfl hoA.1 _ _ (Value.slice (some ⟨w5.heap.size, 0, none⟩) V V) rfl ⟨wr.heap.size, 0, rfl, (Blk.new wr 22 #[(Value.slice (some ⟨w5.heap.size, 0, none⟩) V V)]).cell' (i := 0) rfl⟩ rfl (by have := HN.out; omega) (by rw [World.size_alloc]; have := hb1.size; omega) ?_
          intro v1 w2 ho2 hg hv
          have hF3 := (hFA.grownO hoA.1 hg).mono (Nat.le_refl _) (show wr.heap.size ≤ w2.heap.size by have := hg.size; simp at this; omega)
          have hk3 := hkA.grown hg (hoA.blkne hkA (by decide))
          have hb3 := (hb1.alloc hb1.size (.cells #[(Value.slice (some ⟨w5.heap.size, 0, none⟩) V V)] 22)).grown hg (by have := hb1.size; simp; omega) (fun j hj => (hoA.1.lt j hj).1)
          have ho3 : OutO w2 w.heap.size w2.heap.size v1 (vs ++ [(Value.slice (some ⟨w5.heap.size, 0, none⟩) V V)]) := ⟨ho2, fun k hk => (ho2.lt k hk).2, by have := HN.out; simp; omega⟩
          have HF3 := Lib.hid hF3
          have HL : Hid ((vs ++ [(Value.slice (some ⟨w5.heap.size, 0, none⟩) V V)]).length = N + 1) := by show _ = _; rw [List.length_append, HN.out]; rfl
          clear hF3 hFA hoA hkA hg hv ho2
          go_wp2
          go_roundw
          case rel => exact ⟨vs ++ [(Value.slice (some ⟨w5.heap.size, 0, none⟩) V V)], by rw [HL.out]; omega, by rw [HL.out]; go_num, hb3, hk3, ho3, HF3.out⟩
          case measure => simp [intOf]; omega
    · have hrq := QvR.more (B' := wr.heap.size) (by have := hbel.size; omega) (QvR.below hbel hu')
      have hNV : N = V := by omega
      go_wp2
      refine bodyPost_ret (v := .slice OA N oc) (by simp [results, go_sem]) rfl ⟨_, rfl, ⟨vs, ho, by rw [symM, matF_length, HN.out, hNV]; rfl, ?_⟩, hbel⟩
      rwa [List.take_of_length_le (by rw [symM, matF_length]; show V ≤ N; omega)] at hF
end Go.Proofs.Ytjhllgldllbaaaa

/- KindOfQuiver: the reference's. -/
namespace Go.Proofs.Ytjhllgldllbaaaa
set_option linter.unusedVariables false
set_option linter.unusedSimpArgs false
open Go.RowKit

theorem ent_rng' (q : Qv) (h : q.f.length ≤ 6) : ∀ a b, -12 ≤ ent q q.f.length a b ∧ ent q q.f.length a b ≤ 12 := fun a b => by
  have := ent_rng q q.f.length a b h
  omega
set_option maxHeartbeats 3200000 in
set_option maxRecDepth 100000 in
theorem specKind_any (u : Value) (q : Qv) (w0 : World) (hu : QvR w0 w0.heap.size u q) :
    Calls Try.prog 103 #[u] w0 fun e w' => e = .returned (.int .i64 (kindQ q)) ∧ Below w0.heap.size w0 w' := by
  have hu' := hu
  obtain ⟨A, c, C, d, rfl, hf, hT, hr, lf, lt⟩ := hu.open_
  clear hu hf hT
  obtain ⟨W, hW⟩ : ∃ W, W = w0.alloc (.cells #[.int .i64 q.v, .slice A q.f.length c, .slice C q.t.length d] 26) := ⟨_, rfl⟩
  have g0 : Below w0.heap.size w0 W := by rw [hW]; exact below_alloc _ _
  have kB : Blk W w0.heap.size 26 #[.int .i64 q.v, .slice A q.f.length c, .slice C q.t.length d] := by rw [hW]; exact Blk.new _ _ _
  have HQ := Lib.hid (QvR.next g0 hu')
  clear hu'
  have c0 := kB.cell' (i := 0) rfl
  have c1 := kB.cell' (i := 1) rfl
  have c2 := kB.cell' (i := 2) rfl
  rcases hq : isQ q with _ | _
  · have HF := Lib.hid (show kindQ q = 0 by simp [kindQ, hq])
    have HQN := Lib.hid hq
    clear hq
    go_enter Try.func103, Try.ntmps103
    go_wp2_with fail
    rw [← hW]; clear hW
    refine (specIsQuiver_any _ q _ HQ.out).mono ?_; rintro e w1 ⟨rfl, hb1⟩
    rw [HQN.out]
    have g1 := bthen g0 hb1
    clear hb1 c0 c1 c2 kB
    go_wp2
    go_ret
    exact ⟨by rw [HF.out]; rfl, g1⟩
  · obtain ⟨⟨hv1, hv5⟩, hlen, h6, _⟩ := isQ_t.1 hq
    clear hlen
    obtain ⟨V, hV⟩ := Int.eq_ofNat_of_zero_le (show 0 ≤ q.v by omega)
    have HF := Lib.hid (show kindQ q = kdGo V (ent q q.f.length) (2 ^ V - 1) 1 1 by simp [kindQ, hq, hV])
    have HQN := Lib.hid hq
    have HER := Lib.hid (ent_rng' q h6)
    have HVV := Lib.hid hV
    replace HQ := Lib.hid (show QvR W W.heap.size (.agg #[.int .i64 (V : Int), .slice A q.f.length c, .slice C q.t.length d]) q by rw [← hV]; exact HQ.out)
    have hV1 : 1 ≤ V := by omega
    have hV5 : V ≤ 5 := by omega
    rw [hV] at kB c0 hW ⊢
    clear hq h6 hV hv1 hv5
    go_enter Try.func103, Try.ntmps103
    go_wp2_with fail
    rw [← hW]; clear hW
    refine (specIsQuiver_any _ q _ HQ.out).mono ?_; rintro e w1 ⟨rfl, hb1⟩
    rw [HQN.out]
    have g1 := bthen g0 hb1
    have kB1 := kB.call hb1
    have HQ1 := Lib.hid (QvR.next hb1 HQ.out)
    clear hb1 c0 c1 c2 kB g0
    have c0 := kB1.cell' (i := 0) rfl
    have c1 := kB1.cell' (i := 1) rfl
    have c2 := kB1.cell' (i := 2) rfl
    go_wp2_with fail
    refine (symmetricForm_any _ q _ HQ1.out HQN.out).mono ?_; rintro e w2 ⟨m2, rfl, hM, hb2⟩
    obtain ⟨MA, mc, em, _⟩ := hM.form2
    subst em
    have HMM := Lib.hid hM
    have kB2 := kB1.call hb2
    have g2 := bthen g1 hb2
    have s2 := g2.size
    clear hM hb2 c0 c1 c2 kB1 g1
    obtain ⟨N, hN⟩ : ∃ z, z = 2 ^ V := ⟨_, rfl⟩
    have hN32 : N ≤ 32 := by
      have : (2 : Nat) ^ V ≤ 2 ^ 5 := Nat.pow_le_pow_right (by omega) hV5
      omega
    have hN1 : 1 ≤ N := by have := Nat.one_le_two_pow (n := V); omega
    have hsh : wrap64 ((2 : Int) ^ V) = (N : Int) := by
      rw [show ((2 : Int) ^ V) = ((2 ^ V : Nat) : Int) by simp, ← hN]
      exact IntWalk.wrap64_in _ ⟨by omega, by omega⟩
    rw [← hN] at HF
    have HSM := Lib.hid (show symM q = matF V (ent q q.f.length) by rw [symM, HVV.out]; rfl)
    clear hN
    go_wp2
    go_loopw [4, 5] (fun kd i wr => ∃ (s : Nat) (k : Int), 1 ≤ s ∧ s ≤ N ∧ i = .int .i64 s ∧ kd = .int .i64 k ∧ 1 ≤ k ∧ k ≤ 3 ∧ Hid (kindQ q = kdGo V (ent q q.f.length) (N - s) s k) ∧ Below w2.heap.size w2 wr) (fun _ i _ => N - (intOf i).toNat)
    case atStart => exact ⟨1, 1, Nat.le_refl _, hN1, rfl, rfl, by omega, by omega, HF, Below.refl _ _⟩
    case round =>
      obtain ⟨s, k, hs1, hs, rfl, rfl, hk1, hk3, HK, hbel⟩ := hrel
      have c0 := (kB2.call hbel).cell' (i := 0) rfl
      by_cases hlt : s < N
      · have hMr := (HMM.out.below hbel).rd
        rw [(show symM q = _ from HSM.out)] at hMr
        have HMR := Lib.hid hMr
        have HBE := Lib.hid hbel
        have hsl := congrArg List.length (show symM q = _ from HSM.out)
        have HSL := Lib.hid hsl
        clear hMr hbel hsl
        go_wp2_with fail
        refine (l18Minor_any _ V s (ent q q.f.length) _ hV5 (by omega) HER.out (by rw [HSL.out]; exact HMR.out)).mono ?_; rintro e w3 ⟨m3, rfl, hm3, hb3⟩
        obtain ⟨A3, c3, e3, _⟩ := hm3.form2
        subst e3
        have HM3 := Lib.hid hm3.rd
        have HBE3 := Lib.hid (HBE.out.trans (hb3.mono HBE.out.size))
        have HSQ := Lib.hid (mnL_sq (s := s) (n := V) HER.out)
        have hbl := bitL_length s V
        obtain ⟨D, hD⟩ : ∃ z, dtS s V (ent q q.f.length) = z := ⟨_, rfl⟩
        have HD := Lib.hid hD
        clear hm3 hb3 hD c0
        go_wp2_with fail
        refine (l18Det_any (bitL s V).length (by omega) _ (mnL s V (ent q q.f.length)) _ HM3.out HSQ.out).mono ?_; rintro e w4 ⟨rfl, hb4⟩
        rw [show detL (bitL s V).length (mnL s V (ent q q.f.length)) = D from HD.out]
        have HBE4 := Lib.hid (HBE3.out.trans (hb4.mono HBE3.out.size))
        have HG4 := Lib.hid (g2.trans (HBE4.out.mono s2))
        obtain ⟨m, hm⟩ : ∃ m, N - s = m + 1 := ⟨N - s - 1, by omega⟩
        have hK := HK.out
        rw [hm] at hK
        simp only [kdGo] at hK
        rw [show dtS s V (ent q q.f.length) = D from HD.out] at hK
        have hm2 : m = N - (s + 1) := by omega
        rw [hm2] at hK
        clear hb4 hm hm2 HD
        by_cases hD0 : D < 0
        · rw [if_pos hD0] at hK
          have HKK := Lib.hid hK
          clear hK
          go_wp2
          go_ret
          exact ⟨by rw [HKK.out]; rfl, HG4.out⟩
        · rw [if_neg hD0] at hK
          by_cases hD1 : D = 0
          · rw [if_pos hD1] at hK
            have HKK := Lib.hid hK
            clear hK
            subst hD1
            go_wp2
            go_roundw
            case rel => exact ⟨s + 1, 2, by omega, by omega, by go_num, rfl, by omega, by omega, HKK, HBE4.out⟩
            case measure => simp [intOf]; omega
          · rw [if_neg hD1] at hK
            have HKK := Lib.hid hK
            have hne : (D == 0) = false := by rw [beq_eq_false_iff_ne]; exact hD1
            clear hK
            go_wp2
            go_roundw
            case rel => exact ⟨s + 1, k, by omega, by omega, by go_num, rfl, by omega, by omega, HKK, HBE4.out⟩
            case measure => simp [intOf]; omega
      · have HKK := Lib.hid (show kindQ q = k by rw [(HK.out : kindQ q = _), show N - s = 0 by omega]; rfl)
        have HG := Lib.hid (g2.trans (hbel.mono s2))
        clear hbel
        go_wp2
        go_ret
        exact ⟨by rw [HKK.out]; rfl, HG.out⟩
end Go.Proofs.Ytjhllgldllbaaaa

/- KindOfQuiver: the program's. -/
namespace Go.Proofs.Ytjhllgldllbaaaa
set_option linter.unusedVariables false
set_option linter.unusedSimpArgs false
open Go.RowKit

set_option maxHeartbeats 6400000 in
set_option maxRecDepth 100000 in
theorem implKind_any (u : Value) (q : Qv) (w0 : World) (hu : QvR w0 w0.heap.size u q) :
    Calls Try.prog 105 #[u] w0 fun e w' => e = .returned (.int .i64 (kindQ q)) ∧ Below w0.heap.size w0 w' := by
  have hu' := hu
  obtain ⟨A, c, C, d, rfl, hf, hT, hr, lf, lt⟩ := hu.open_
  clear hu hf hT
  obtain ⟨W, hW⟩ : ∃ W, W = w0.alloc (.cells #[.int .i64 q.v, .slice A q.f.length c, .slice C q.t.length d] 26) := ⟨_, rfl⟩
  have g0 : Below w0.heap.size w0 W := by rw [hW]; exact below_alloc _ _
  have kB : Blk W w0.heap.size 26 #[.int .i64 q.v, .slice A q.f.length c, .slice C q.t.length d] := by rw [hW]; exact Blk.new _ _ _
  have HQ := Lib.hid (QvR.next g0 hu')
  clear hu'
  have c0 := kB.cell' (i := 0) rfl
  have c1 := kB.cell' (i := 1) rfl
  have c2 := kB.cell' (i := 2) rfl
  rcases hq : isQ q with _ | _
  · have HF := Lib.hid (show kindQ q = 0 by simp [kindQ, hq])
    have HQN := Lib.hid hq
    clear hq
    go_enter Try.func105, Try.ntmps105
    go_wp2_with fail
    rw [← hW]; clear hW
    refine (implIsQuiver_any _ q _ HQ.out).mono ?_; rintro e w1 ⟨rfl, hb1⟩
    rw [HQN.out]
    have g1 := bthen g0 hb1
    clear hb1 c0 c1 c2 kB
    go_wp2
    go_ret
    exact ⟨by rw [HF.out]; rfl, g1⟩
  · obtain ⟨⟨hv1, hv5⟩, hlen, h6, _⟩ := isQ_t.1 hq
    clear hlen
    obtain ⟨V, hV⟩ := Int.eq_ofNat_of_zero_le (show 0 ≤ q.v by omega)
    have HF := Lib.hid (show kindQ q = kdGo V (ent q q.f.length) (2 ^ V - 1) 1 1 by simp [kindQ, hq, hV])
    have HQN := Lib.hid hq
    have HER := Lib.hid (ent_rng' q h6)
    have HVV := Lib.hid hV
    replace HQ := Lib.hid (show QvR W W.heap.size (.agg #[.int .i64 (V : Int), .slice A q.f.length c, .slice C q.t.length d]) q by rw [← hV]; exact HQ.out)
    have hV1 : 1 ≤ V := by omega
    have hV5 : V ≤ 5 := by omega
    rw [hV] at kB c0 hW ⊢
    clear hq h6 hV hv1 hv5
    go_enter Try.func105, Try.ntmps105
    go_wp2_with fail
    rw [← hW]; clear hW
    refine (implIsQuiver_any _ q _ HQ.out).mono ?_; rintro e w1 ⟨rfl, hb1⟩
    rw [HQN.out]
    have g1 := bthen g0 hb1
    have kB1 := kB.call hb1
    have HQ1 := Lib.hid (QvR.next hb1 HQ.out)
    clear hb1 c0 c1 c2 kB g0
    have c0 := kB1.cell' (i := 0) rfl
    have c1 := kB1.cell' (i := 1) rfl
    have c2 := kB1.cell' (i := 2) rfl
    go_wp2_with fail
    refine (symmetric_any _ q _ HQ1.out HQN.out).mono ?_; rintro e w2 ⟨m2, rfl, hM, hb2⟩
    obtain ⟨MA, mc, em, _⟩ := hM.form2
    subst em
    have HSM := Lib.hid (show symM q = matF V (ent q q.f.length) by rw [symM, HVV.out]; rfl)
    rw [HSM.out, matF_length] at hM ⊢
    have HMM := Lib.hid hM
    have kB2 := kB1.call hb2
    have g2 := bthen g1 hb2
    have s2 := g2.size
    obtain ⟨MB, MO, rfl, hMB0⟩ : ∃ b o, MA = some ⟨b, o, none⟩ ∧ b < w2.heap.size := by
      have h1 := hM.rd
      obtain ⟨_, _, e, _, _, _, h4⟩ := h1
      injection e with e1 _ _
      obtain ⟨b, o, e2, hb, _⟩ := h4 (by rw [matF_length]; omega)
      exact ⟨b, o, by rw [e1, e2], hb⟩
    clear hM hb2 c0 c1 c2 kB1 g1
    obtain ⟨N, hN⟩ : ∃ z, z = 2 ^ V := ⟨_, rfl⟩
    have hN32 : N ≤ 32 := by
      have : (2 : Nat) ^ V ≤ 2 ^ 5 := Nat.pow_le_pow_right (by omega) hV5
      omega
    have hN1 : 1 ≤ N := by have := Nat.one_le_two_pow (n := V); omega
    have hsh : wrap64 ((2 : Int) ^ V) = (N : Int) := by
      rw [show ((2 : Int) ^ V) = ((2 ^ V : Nat) : Int) by simp, ← hN]
      exact IntWalk.wrap64_in _ ⟨by omega, by omega⟩
    rw [← hN] at HF
    have HB1 := Lib.hid band1
    obtain ⟨g, hg⟩ : ∃ g, ent q q.f.length = g := ⟨_, rfl⟩
    rw [hg] at HMM HF HER
    clear hN HSM hg HQ HQ1
    go_wp2
    go_loopw [3, 5] (fun kd i wr => ∃ (s : Nat) (k : Int), 1 ≤ s ∧ s ≤ N ∧ i = .int .i64 s ∧ kd = .int .i64 k ∧ 1 ≤ k ∧ k ≤ 3 ∧ Hid (kindQ q = kdGo V g (N - s) s k) ∧ Below w2.heap.size w2 wr) (fun _ i _ => N - (intOf i).toNat)
    case atStart => exact ⟨1, 1, Nat.le_refl _, hN1, rfl, rfl, by omega, by omega, HF, Below.refl _ _⟩
    case round =>
      obtain ⟨s, k, hs1, hs, rfl, rfl, hk1, hk3, HK, hbel⟩ := hrel
      have c0 := (kB2.call hbel).cell' (i := 0) rfl
      by_cases hlt : s < N
      · have hMr := (HMM.out.below hbel).rd
        have HX : Hid (SlII wr wr.heap.size (.slice (some ⟨MB, MO, none⟩) (matF V g).length mc) (matF V g)) := by rw [matF_length]; exact hMr
        have HBE := Lib.hid hbel
        have hws := hbel.size
        obtain ⟨LO, hLO⟩ : ∃ z, z = wr.heap.size := ⟨_, rfl⟩
        clear hMr hbel
        go_wp2
        obtain ⟨w3, hw3⟩ : ∃ z, z = wr := ⟨_, rfl⟩
        subst hw3
        clear c0 hsh
        go_loopw [6, 27] (fun ov i wq => ∃ j : Nat, j ≤ V ∧ i = .int .i64 j ∧ IntssO wq w3.heap.size wq.heap.size ov (mnTo s V g j) ∧ Below w3.heap.size w3 wq) (fun _ i _ => V - (intOf i).toNat)
        case atStart => exact ⟨0, Nat.zero_le _, rfl, by simpa [mnTo, bitL] using IntssO.nil w3 _ _, Below.refl _ _⟩
        case round =>
          obtain ⟨j, hj, rfl, hO, hbq⟩ := hrel
          obtain ⟨OA, oc, eo, hoc, hoc2, hol⟩ := hO.form2
          have hlo : (mnTo s V g j).length = (bitL s j).length := by simp [mnTo]
          rw [hlo] at eo hoc
          subst eo
          have hbl := bitL_length s j
          have hqs := hbq.size
          by_cases hjn : j < V
          · obtain ⟨r, RA, rc, hr0, _, y1, hr, hrc1, hrc2⟩ := SlII.elt HX.out (k := j) (by rw [matF_length]; omega)
            rw [matF_get _ hjn] at hr0
            injection hr0 with hr0
            subst hr0
            have y2 := bcell hbq (show MB < w3.heap.size by omega) y1
            rw [rowF_length] at y2 hrc1
            obtain ⟨b2, o2, rfl, hb2⟩ := SlI.addr hr (by rw [rowF_length]; omega)
            have HR := Lib.hid hr
            have HLO := Lib.hid hlo
            rcases hbt : bitT s j with _ | _
            · have h0 := bitT_0 hbt
              have h1 := HB1.out
              rw [show mnTo s V g j = mnTo s V g (j + 1) by rw [mnTo, mnTo, bitL_succ_f hbt]] at hO
              have HO := Lib.hid hO
              have HBQ := Lib.hid hbq
              clear hO hbq hbt hlo hr y1
              go_wp2
              clear h0 h1
              go_roundw
              case rel => exact ⟨j + 1, by omega, by go_num, HO.out, HBQ.out⟩
              case measure => simp [intOf]; omega
            · have h0 := bitT_1 hbt
              have h1 := HB1.out
              have HO := Lib.hid hO
              have HBQ := Lib.hid hbq
              have HBT := Lib.hid hbt
              clear hO hbq hbt hlo hr y1
              go_wp2
              obtain ⟨w4, hw4⟩ : ∃ z, z = wr := ⟨_, rfl⟩
              subst hw4
              clear h0 h1 y2
              go_loopw [9, 39] (fun rv i wq => ∃ l : Nat, l ≤ V ∧ i = .int .i64 l ∧ IntsO wq w4.heap.size wq.heap.size rv ((bitL s l).map (g j)) ∧ Below w4.heap.size w4 wq) (fun _ i _ => V - (intOf i).toNat)
              case atStart => exact ⟨0, Nat.zero_le _, rfl, by simpa [bitL] using (show IntsO w4 w4.heap.size w4.heap.size (.slice none 0 0) [] from ⟨OwnI.nil _ _, by simp [Value.ownBlock]⟩), Below.refl _ _⟩
              case round =>
                obtain ⟨l, hl, rfl, hI, hbz⟩ := hrel
                obtain ⟨RV, rv, er, hrv1, hrv2⟩ := hI.1.form
                have hlr : ((bitL s l).map (g j)).length = (bitL s l).length := by simp
                have hbl2 := bitL_length s l
                have hwz := hbz.size
                rw [hlr] at er hrv1
                subst er
                by_cases hln : l < V
                · obtain ⟨x, hx0, _, x1, _⟩ := SlI.elt HR.out (k := l) (by rw [rowF_length]; omega)
                  rw [rowF_get _ hln] at hx0
                  injection hx0 with hx0
                  have hgr := HER.out j l
                  rw [hx0] at hgr
                  have x2 := bcell (HBQ.out.trans (hbz.mono (by omega))) (show b2 < w3.heap.size by omega) x1
                  rcases hbj : bitT s l with _ | _
                  · have h0 := bitT_0 hbj
                    have h1 := HB1.out
                    rw [show (bitL s l).map (g j) = (bitL s (l + 1)).map (g j) by rw [bitL_succ_f hbj]] at hI
                    have HI := Lib.hid hI
                    have HBZ := Lib.hid hbz
                    clear hI hbz hbj hlr hx0 x1
                    go_wp2
                    clear h0 h1
                    go_roundw
                    case rel => exact ⟨l + 1, by omega, by go_num, HI.out, HBZ.out⟩
                    case measure => simp [intOf]; omega
                  · have h0 := bitT_1 hbj
                    have h1 := HB1.out
                    have HSX := Lib.hid (show (bitL s (l + 1)).map (g j) = (bitL s l).map (g j) ++ [x] by rw [bitL_succ_t hbj, List.map_append, ← hx0]; rfl)
                    have bz := below_alloc wr (.cells #[.int .i64 x] 3)
                    have HI2 := Lib.hid (hI.below bz)
                    have HB2 := Lib.hid (hbz.trans (bz.mono (by omega)))
                    have HLR := Lib.hid hlr
                    clear hx0 x1 hI hbz hbj hlr bz
                    (go_wp2_with (at_builtin; refine Hold.stop ?_)); unfold Hold
                    refine wpList_appI rfl (.tmp 49) (.tmp 51) rfl w4.heap.size _ (.slice RV (bitL s l).length rv) ((bitL s l).map (g j)) rfl HI2.out.1 _ _ _ [x] rfl rfl (SlI.one wr _ _ ⟨by omega, by omega⟩) (by rw [HLR.out]; simp; omega) (by simp; omega) ?_
                    intro v9 w9 ho9 hg9 hv9
                    rw [← HSX.out] at ho9
                    have hbg : Below w4.heap.size _ w9 := below_grown hg9 (fun k hk => (HI2.out.1.lt k hk).1) (by simp; omega)
                    have HBT2 := Lib.hid (HB2.out.trans hbg)
                    have HO9 := Lib.hid (IntsO.of_own ho9)
                    clear ho9 hg9 hv9 hbg h0 h1 x2
                    go_wp2
                    go_roundw
                    case rel => exact ⟨l + 1, by omega, by go_num, HO9.out, HBT2.out⟩
                    case measure => simp [intOf]; omega
                · have hln' : l = V := by omega
                  replace hI : IntsO wr w4.heap.size wr.heap.size (.slice RV (bitL s l).length rv) ((bitL s V).map (g j)) := by rw [show (bitL s V).map (g j) = (bitL s l).map (g j) by rw [hln']]; exact hI
                  obtain ⟨u, hu, Z, hZ⟩ : ∃ u, u = wr.heap.size ∧ ∃ Z, Z = wr.alloc (.cells #[.slice RV (bitL s l).length rv] 22) := ⟨_, rfl, _, rfl⟩
                  have bZ : Below wr.heap.size wr Z := by rw [hZ]; exact below_alloc _ _
                  have kZ : Blk Z u 22 #[.slice RV (bitL s l).length rv] := by rw [hZ, hu]; exact Blk.new _ _ _
                  have HOZ := Lib.hid ((HO.out.below hbz).below bZ)
                  have HRZ := Lib.hid (hI.below bZ)
                  have HBZ := Lib.hid ((HBQ.out.trans (hbz.mono (by omega))).trans (bZ.mono (by omega)))
                  have sZ := bZ.size
                  have C0 := Lib.hid (kZ.cell' (i := 0) rfl)
                  have HU := Lib.hid hu
                  have HSN := Lib.hid (show mnTo s V g (j + 1) = mnTo s V g j ++ [(bitL s V).map (g j)] by rw [mnTo, bitL_succ_t HBT.out, List.map_append]; rfl)
                  clear hI hbz bZ kZ hu hln' hlr
                  (go_wp2_with (at_builtin; refine Hold.stop ?_)); unfold Hold
                  rw [← HU.out, ← hZ]
                  clear hZ
                  refine wpList_appR rfl (.tmp 54) (.tmp 56) rfl w3.heap.size w4.heap.size w4.heap.size wr.heap.size (.slice OA (bitL s j).length oc) (mnTo s V g j) ((bitL s V).map (g j)) rfl HOZ.out _ _ (.slice RV (bitL s l).length rv) rfl ⟨u, 0, rfl, C0.out⟩ HRZ.out (Nat.le_refl _) (by omega) (by omega) (by rw [HLO.out]; omega) (by omega) (by omega) ?_
                  intro v9 w9 ho9 hb9 _
                  rw [← HSN.out] at ho9
                  have HO9 := Lib.hid ho9
                  have HB9 := Lib.hid (HBZ.out.trans hb9)
                  clear ho9 hb9
                  go_wp2
                  go_roundw
                  case rel => exact ⟨j + 1, by omega, by go_num, HO9.out, HB9.out⟩
                  case measure => simp [intOf]; omega
          · have hkn : j = V := by omega
            have HM3 := Lib.hid (show SlII wr wr.heap.size (.slice OA (bitL s j).length oc) (mnL s V g) by rw [show mnL s V g = mnTo s V g j by rw [mnL, hkn]]; exact hO.rd)
            have HBE3 := Lib.hid (HBE.out.trans (hbq.mono hws))
            have HSQ := Lib.hid (mnL_sq (s := s) (n := V) HER.out)
            have hblV := bitL_length s V
            obtain ⟨D, hD⟩ : ∃ z, dtS s V g = z := ⟨_, rfl⟩
            have HD := Lib.hid hD
            clear hO hbq hlo hD hkn
            go_wp2_with fail
            refine (determinant_any (bitL s V).length (by omega) _ (mnL s V g) _ HM3.out HSQ.out).mono ?_; rintro e w5 ⟨rfl, hb5⟩
            rw [show detL (bitL s V).length (mnL s V g) = D from HD.out]
            have HBE4 := Lib.hid (HBE3.out.trans (hb5.mono HBE3.out.size))
            have HG4 := Lib.hid (g2.trans (HBE4.out.mono s2))
            obtain ⟨m, hm⟩ : ∃ m, N - s = m + 1 := ⟨N - s - 1, by omega⟩
            have hK := HK.out
            rw [hm] at hK
            simp only [kdGo] at hK
            rw [show dtS s V g = D from HD.out] at hK
            have hm2 : m = N - (s + 1) := by omega
            rw [hm2] at hK
            clear hb5 hm hm2 HD
            by_cases hD0 : D < 0
            · rw [if_pos hD0] at hK
              have HKK := Lib.hid hK
              clear hK
              go_wp2
              go_ret
              exact ⟨by rw [HKK.out]; rfl, HG4.out⟩
            · rw [if_neg hD0] at hK
              by_cases hD1 : D = 0
              · rw [if_pos hD1] at hK
                have HKK := Lib.hid hK
                clear hK
                subst hD1
                go_wp2
                go_roundw
                case rel => exact ⟨s + 1, 2, by omega, by omega, by go_num, rfl, by omega, by omega, HKK, HBE4.out⟩
                case measure => simp [intOf]; omega
              · rw [if_neg hD1] at hK
                have HKK := Lib.hid hK
                have hne : (D == 0) = false := by rw [beq_eq_false_iff_ne]; exact hD1
                clear hK
                go_wp2
                go_roundw
                case rel => exact ⟨s + 1, k, by omega, by omega, by go_num, rfl, by omega, by omega, HKK, HBE4.out⟩
                case measure => simp [intOf]; omega
      · have HKK := Lib.hid (show kindQ q = k by rw [(HK.out : kindQ q = _), show N - s = 0 by omega]; rfl)
        have HG := Lib.hid (g2.trans (hbel.mono s2))
        clear hbel
        go_wp2
        go_ret
        exact ⟨by rw [HKK.out]; rfl, HG.out⟩
end Go.Proofs.Ytjhllgldllbaaaa

/- Reflections of number vectors. -/
namespace Go.Proofs.Ytjhllgldllbaaaa
set_option linter.unusedVariables false
set_option linter.unusedSimpArgs false
open Go.RowKit

/-- g against x, the first k -/
def dotS (g : Nat → Int) (x : List Int) : Nat → Int
  | 0 => 0
  | k + 1 => dotS g x k + g k * x.getD k 0
theorem mul_rng {a b : Int} (ha : -12 ≤ a ∧ a ≤ 12) (hb : -100 ≤ b ∧ b ≤ 100) : -1200 ≤ a * b ∧ a * b ≤ 1200 := by
  obtain ⟨a1, a2⟩ := ha
  obtain ⟨b1, b2⟩ := hb
  have h1 : 0 ≤ (12 - a) * (100 - b) := Int.mul_nonneg (by omega) (by omega)
  have h2 : 0 ≤ (12 + a) * (100 + b) := Int.mul_nonneg (by omega) (by omega)
  have h3 : 0 ≤ (12 - a) * (100 + b) := Int.mul_nonneg (by omega) (by omega)
  have h4 : 0 ≤ (12 + a) * (100 - b) := Int.mul_nonneg (by omega) (by omega)
  simp only [Int.sub_mul, Int.add_mul, Int.mul_sub, Int.mul_add] at h1 h2 h3 h4
  omega
theorem getD_rng {x : List Int} (hx : ∀ y ∈ x, -100 ≤ y ∧ y ≤ 100) (k : Nat) : -100 ≤ x.getD k 0 ∧ x.getD k 0 ≤ 100 := by
  rw [List.getD_eq_getElem?_getD]
  rcases h : x[k]? with _ | y
  · simp
  · exact hx y (List.mem_of_getElem? h)
theorem dotS_rng {g : Nat → Int} {x : List Int} (hg : ∀ k, -12 ≤ g k ∧ g k ≤ 12) (hx : ∀ y ∈ x, -100 ≤ y ∧ y ≤ 100) : ∀ k : Nat, -(1200 * (k : Int)) ≤ dotS g x k ∧ dotS g x k ≤ 1200 * k
  | 0 => by simp [dotS]
  | k + 1 => by
    have ih := dotS_rng hg hx k
    have h := mul_rng (hg k) (getD_rng hx k)
    unfold dotS
    omega
/-- the vector x reflected at v -/
def reflL (q : Qv) (x : List Int) (v : Nat) : List Int := x.set v (x.getD v 0 - dotS (ent q q.f.length v) x x.length)
def reflQ (q : Qv) (x : List Int) (v : Int) : List Int × Bool := if isNum q x && inR v 0 (q.v - 1) && !loopQ q v then (reflL q x v.toNat, true) else ([], false)
theorem loop_ent {q : Qv} {v : Nat} (hl : q.f.length = q.t.length) : (ent q q.f.length v v != 2) = loopQ q v := by
  have h1 : arr q v v q.f.length = (q.f.zip q.t).countP fun p => p.1 == (v : Int) && p.2 == (v : Int) := by
    rw [arr, List.take_of_length_le (by simp; omega)]
  have h2 : ent q q.f.length v v = 2 - 2 * (arr q v v q.f.length : Int) := by rw [ent, if_pos rfl]; omega
  rw [Bool.eq_iff_iff, bne_iff_ne, h2, h1, loopQ]
  have h3 := List.countP_pos_iff (p := fun p : Int × Int => p.1 == (v : Int) && p.2 == (v : Int)) (l := q.f.zip q.t)
  rw [List.any_eq_true]
  constructor
  · intro h
    have : 0 < List.countP (fun p : Int × Int => p.1 == (v : Int) && p.2 == (v : Int)) (q.f.zip q.t) := by omega
    exact h3.1 this
  · intro h
    have := h3.2 h
    omega

theorem SlI.atN {w : World} {B n c : Nat} {A : Option Addr} {xs : List Int} {k : Nat} (h : SlI w B (.slice A n c) xs) (hn : xs.length = n) (hk : k < n) :
    ∃ b o x, A = some ⟨b, o, none⟩ ∧ b < B ∧ Hid (xs[k]? = some x) ∧ w.cell? ⟨b, o + k, none⟩ = some (.int .i64 x) ∧ -9223372036854775808 ≤ x ∧ x ≤ 9223372036854775807 := by
  subst hn
  exact SlI.at_ h hk

set_option maxHeartbeats 800000 in
set_option maxRecDepth 20000 in
theorem l20Reflect_any (mv xv : Value) (q : Qv) (x : List Int) (v : Nat) (w : World) (hm : SlII w w.heap.size mv (symM q)) (hx : SlI w w.heap.size xv x) (hq : isNum q x = true) (hv : v < q.v.toNat) :
    Calls Try.prog 220 #[mv, xv, .int .i64 v] w fun e w' => ∃ u, e = .returned u ∧ IntsO w' w.heap.size w'.heap.size u (reflL q x v) ∧ Below w.heap.size w w' := by
  obtain ⟨hq1, hq2, hq3⟩ := isNum_t.1 hq
  obtain ⟨⟨hv1, hv2⟩, hlen, hl6, _, _⟩ := isQ_t.1 hq1
  obtain ⟨V, hV⟩ : ∃ V : Nat, q.v.toNat = V := ⟨_, rfl⟩
  have hxV : x.length = V := by omega
  have hV5 : V ≤ 5 := by omega
  rw [hV] at hv
  have hmv : (symM q)[v]? = some (rowF V (ent q q.f.length v)) := by rw [symM, hV]; exact matF_get _ hv
  have hml : v < (symM q).length := by rw [symM, hV, matF_length]; exact hv
  obtain ⟨MA, mc, rfl, _, _, lm, hm'⟩ := hm.open_
  obtain ⟨XA, xc, rfl, _, _, lx, hx'⟩ := hx.open_
  clear hm hx
  obtain ⟨mb, mo, l, LA, lc, rfl, hmb, HL, ml, hl⟩ := SlII.at_ hm' hml
  have el : l = rowF V (ent q q.f.length v) := by
    have h := HL.out
    rw [hmv] at h
    injection h with h
    exact h.symm
  have hll : l.length = V := by rw [el, rowF_length]
  have HEL := Lib.hid el
  have HLL := Lib.hid hll
  have HXV := Lib.hid hxV
  have HX3 := Lib.hid hq3
  have hmlen : (symM q).length = V := by rw [symM, hV, matF_length]
  have HML := Lib.hid hmlen
  clear el hll hmv hq hq1 hq2 hq3 hlen hm' hv1 hv2 hV hmlen
  rw [HLL.out] at ml hl
  rw [HML.out] at hml ⊢
  rw [HXV.out] at hx' lx ⊢
  have hxs := hx'
  go_enter Try.func220, Try.ntmps220
  (go_wp2_with (at_builtin; refine Hold.stop ?_)); unfold Hold
  have ho0 : OwnI (w.alloc (.cells #[] 3)) w.heap.size (.slice (some ⟨w.heap.size, 0, none⟩) 0 0) [] := OwnI.made _ rfl (Nat.le_refl _)
  refine wpList_appI rfl (.tmp 10) (.tmp 11) rfl w.heap.size w.heap.size (.slice (some ⟨w.heap.size, 0, none⟩) 0 0) [] rfl ho0 _ _ _ x rfl HXV.out.symm (by rw [HXV.out]; exact SlI.below (below_alloc _ _) hx') (by simp; omega) (by simp) ?_
  intro v1 w1 ho1 hg1 hvv
  rw [List.nil_append] at ho1
  have hb1 : Below w.heap.size w w1 := ((Below.refl _ _).alloc (Nat.le_refl _) (.cells #[] 3)).grown hg1 (by simp) (fun j hj => (ho0.lt j hj).1)
  obtain ⟨OA, oc, rfl, _, _⟩ := ho1.form
  rw [HXV.out] at ho1 ⊢
  clear hg1 hvv ho0
  go_wp2
  have hmo : Try.prog.follows .mixedOrders = true := by kernel_rfl
  have hgr : ∀ i, -12 ≤ ent q q.f.length v i ∧ ent q q.f.length v i ≤ 12 := fun i => by have := ent_rng q q.f.length v i hl6; omega
  have HGR := Lib.hid hgr
  have hsr := Lib.hid (dotS_rng hgr HX3.out)
  clear hgr hxV
  go_loopw [8, 9] (fun s i wr => ∃ k : Nat, k ≤ V ∧ i = .int .i64 k ∧ s = .int .i64 (dotS (ent q q.f.length v) x k) ∧ OwnI wr w.heap.size (.slice OA V oc) x ∧ Below w.heap.size w wr) (fun _ i _ => V - (intOf i).toNat)
  case atStart => exact ⟨0, Nat.zero_le _, rfl, rfl, ho1, hb1⟩
  case round =>
    clear ho1 hb1
    obtain ⟨k, hk, rfl, rfl, hown, hbel⟩ := hrel
    have hsk := hsr.out k
    obtain ⟨s, hs⟩ : ∃ s, dotS (ent q q.f.length v) x k = s := ⟨_, rfl⟩
    rw [hs] at hsk ⊢
    have HS := Lib.hid hs
    clear hs
    by_cases hlt : k < V
    · obtain ⟨b1, o1, y, rfl, hb1, HY, y1, _⟩ := SlI.atN hl HLL.out hlt
      obtain ⟨b2, o2, z, rfl, hb2, HZ, z1, _⟩ := SlI.atN hx' HXV.out hlt
      have m2 := bcell hbel hmb ml
      have y2 := bcell hbel hb1 y1
      have z2 := bcell hbel hb2 z1
      have hye : y = ent q q.f.length v k := by
        have h := HY.out
        rw [HEL.out, rowF_get _ hlt] at h
        injection h with h
        exact h.symm
      have hze : x.getD k 0 = z := by rw [List.getD_eq_getElem?_getD, HZ.out]; rfl
      have hyr : -12 ≤ y ∧ y ≤ 12 := by rw [hye]; exact HGR.out k
      have hzr := HX3.out z (List.mem_of_getElem? HZ.out)
      have hpr := mul_rng hyr hzr
      obtain ⟨p, hp⟩ : ∃ p, y * z = p := ⟨_, rfl⟩
      rw [hp] at hpr
      have hst : Hid (dotS (ent q q.f.length v) x (k + 1) = s + p) := by show _ = _; rw [dotS, HS.out, ← hye, hze, hp]
      clear hye hze y1 z1
      go_wp2_with fail
      go_quiet (fail)
      go_wp2
      go_roundw
      case rel => exact ⟨k + 1, by omega, by go_num, by rw [hst.out], hown.drewN nq, below_drewN hbel nq⟩
      case measure => simp [intOf]; omega
    · have HKV := Lib.hid (show k = V by omega)
      obtain ⟨g, rfl, hgl⟩ : ∃ g, OA = some ⟨g, 0, none⟩ ∧ w.heap.size ≤ g := by
        rcases hown.1.2 with ⟨e, _⟩ | ⟨g, cap, cur, e, hg, _⟩
        · injection e with _ e _
          omega
        · injection e with e _ _
          exact ⟨g, e, hg⟩
      have hzr := getD_rng HX3.out v
      have ci := (hown.cellG (j := v) (by rw [HXV.out]; exact hv)).1
      have fi := hown.frozenG v
      have HR : Hid (reflL q x v = x.set v (x.getD v 0 - s)) := by show _ = _; rw [reflL, HXV.out, ← HKV.out, HS.out]
      obtain ⟨z, hz⟩ : ∃ z, x.getD v 0 = z := ⟨_, rfl⟩
      rw [hz] at hzr ci
      have hR := HR.out
      rw [hz] at hR
      have HR2 := Lib.hid hR
      have hp := hown.put (j := v) (x := z - s) ⟨by omega, by omega⟩
      rw [← hR] at hp
      have hb2 := hbel.grown hp.2 (by have := hbel.size; omega) (fun j hj => by injection hj with hj; omega)
      have HP := Lib.hid hp.1
      clear hz hR HR hp hown
      go_wp2
      exact bodyPost_ret (v := .slice (some ⟨g, 0, none⟩) V oc) (by simp [results, go_sem]) rfl ⟨_, rfl, IntsO.of_own HP.out, hb2⟩
end Go.Proofs.Ytjhllgldllbaaaa

/- The two OrderOf. -/
namespace Go.Proofs.Ytjhllgldllbaaaa
set_option linter.unusedVariables false
set_option linter.unusedSimpArgs false
open Go.RowKit

set_option maxHeartbeats 400000 in
theorem l4Has_any (u : Value) (xs : List Int) (v : Int) (w : World) (hu : SlI w w.heap.size u xs) :
    Calls Try.prog 141 #[u, .int .i64 v] w fun e w' => e = .returned (.bool (decide (v ∈ xs))) ∧ Below w.heap.size w w' := by
  obtain ⟨A, c, rfl, _, _, hn, hx⟩ := hu.open_
  clear hu
  go_enter Try.func141, Try.ntmps141
  go_wp2
  go_loopw [5] (fun i wr => ∃ k m : Nat, k ≤ xs.length ∧ i = .int .i64 k ∧ wr = w.drewN m ∧ Hid (∀ y ∈ xs.take k, y ≠ v)) (fun i _ => xs.length - (intOf i).toNat)
  case atStart => exact ⟨0, 0, Nat.zero_le _, rfl, rfl, by intro y hy; simp at hy⟩
  case round =>
    obtain ⟨k, m, hk, rfl, rfl, hno⟩ := hrel
    by_cases hlt : k < xs.length
    · obtain ⟨b, o, x, rfl, hb, HX, c1, _⟩ := SlI.at_ hx hlt
      clear hx
      rcases hvx : (x == v) with _ | _
      · go_wp2
        go_roundw
        case rel =>
          refine ⟨k + 1, m, by omega, by go_num, rfl, fun y hy => ?_⟩
          rw [take_snoc HX.out, List.mem_append, List.mem_singleton] at hy
          rcases hy with hy | rfl
          · exact hno.out y hy
          · simpa using hvx
        case measure => simp [intOf]; omega
      · have hfin : Hid (decide (v ∈ xs) = true) := by
          show _ = _
          rw [beq_iff_eq] at hvx
          subst hvx
          simpa using List.mem_of_getElem? HX.out
        go_wp2
        go_ret
        exact ⟨by rw [hfin.out]; rfl, drewN_below _ _ _⟩
    · go_wp2
      go_ret
      have h1 := hno.out
      rw [List.take_of_length_le (by omega)] at h1
      have : decide (v ∈ xs) = false := by simp; exact fun h => h1 v h rfl
      exact ⟨by rw [this]; rfl, drewN_below _ _ _⟩

/-- Whether arrows lead to v from those taken only. -/
def rdyAt (q : Qv) (taken : List Int) (v : Int) (k : Nat) : Bool := ((q.f.take k).zip (q.t.take k)).all fun p => !(p.2 == v) || decide (p.1 ∈ taken)
def rdy (q : Qv) (taken : List Int) (v : Int) : Bool := (q.f.zip q.t).all fun p => !(p.2 == v) || decide (p.1 ∈ taken)
theorem rdyAt_zero (q : Qv) (taken : List Int) (v : Int) : rdyAt q taken v 0 = true := by simp [rdyAt]
theorem rdyAt_succ {q : Qv} {taken : List Int} {v x y : Int} {k : Nat} (hx : q.f[k]? = some x) (hy : q.t[k]? = some y) : rdyAt q taken v (k + 1) = (rdyAt q taken v k && (!(y == v) || decide (x ∈ taken))) := by
  have h1 := lt_of_some hx
  have h2 := lt_of_some hy
  rw [rdyAt, take_snoc hx, take_snoc hy, List.zip_append (by simp; omega), List.all_append]
  simp [rdyAt]
theorem rdyAt_end {q : Qv} {taken : List Int} {v : Int} {k : Nat} (h1 : q.f.length ≤ k) (h2 : q.t.length ≤ k) : rdyAt q taken v k = rdy q taken v := by
  rw [rdyAt, List.take_of_length_le h1, List.take_of_length_le h2, rdy]
theorem rdy_bad {q : Qv} {taken : List Int} {v x y : Int} {k : Nat} (hx : q.f[k]? = some x) (hy : q.t[k]? = some y) (h : (!(y == v) || decide (x ∈ taken)) = false) : rdy q taken v = false := by
  rw [rdy, List.all_eq_false]
  refine ⟨(x, y), ?_, by simpa using h⟩
  rw [List.mem_iff_getElem?]
  exact ⟨k, by rw [List.getElem?_zip_eq_some]; exact ⟨hx, hy⟩⟩

set_option maxHeartbeats 800000 in
theorem isReady_any (u tv : Value) (q : Qv) (taken : List Int) (v : Int) (w : World) (hu : QvR w w.heap.size u q) (ht : SlI w w.heap.size tv taken) (hl : q.t.length ≤ q.f.length) :
    Calls Try.prog 188 #[u, .int .i64 v, tv] w fun e w' => e = .returned (.bool (rdy q taken v)) ∧ Below w.heap.size w w' := by
  obtain ⟨A, c, C, d, rfl, hf, hT, hr, lf, lt⟩ := hu.open_
  clear hu
  obtain ⟨W, hW⟩ : ∃ W, W = w.alloc (.cells #[.int .i64 q.v, .slice A q.f.length c, .slice C q.t.length d] 26) := ⟨_, rfl⟩
  have g0 : Below w.heap.size w W := by rw [hW]; exact below_alloc _ _
  have kB : Blk W w.heap.size 26 #[.int .i64 q.v, .slice A q.f.length c, .slice C q.t.length d] := by rw [hW]; exact Blk.new _ _ _
  have c1 := kB.cell' (i := 1) rfl
  have c2 := kB.cell' (i := 2) rfl
  have ht' := SlI.next g0 ht
  obtain ⟨TA, tc, rfl, _, _, _, _⟩ := ht.open_
  clear ht kB
  have e0 : w.heap.size ≤ W.heap.size := g0.size
  go_enter Try.func188, Try.ntmps188
  go_wp2_with fail
  rw [← hW]; clear hW
  go_loop [12] (fun i => ∃ k : Nat, k ≤ q.t.length ∧ i = .int .i64 k ∧ Hid (rdyAt q taken v k = true)) (fun i => q.t.length - (intOf i).toNat)
  case atStart => exact ⟨0, Nat.zero_le _, rfl, rdyAt_zero _ _ _⟩
  case round =>
    obtain ⟨k, hk, rfl, hok⟩ := hrel
    by_cases hlt : k < q.t.length
    · obtain ⟨b, o, y, rfl, hb, HY, y1, _⟩ := SlI.at_ hT hlt
      obtain ⟨b2, o2, x, rfl, hb2, HX, x1, _⟩ := SlI.at_ (k := k) hf (by omega)
      have y2 := bcell g0 hb y1
      have x2 := bcell g0 hb2 x1
      have hlf : k < q.f.length := by omega
      clear hf hT y1 x1
      rcases hyv : (y == v) with _ | _
      · have hst : Hid (rdyAt q taken v (k + 1) = true) := by show _ = _; rw [rdyAt_succ HX.out HY.out, hok.out, hyv]; rfl
        go_wp2
        go_round
        case rel => exact ⟨k + 1, by omega, by go_num, hst.out⟩
        case measure => simp [intOf]; omega
      · obtain ⟨B, hB⟩ : ∃ B, decide (x ∈ taken) = B := ⟨_, rfl⟩
        have HB := Lib.hid hB
        clear hB
        cases B
        · have hfin : Hid (rdy q taken v = false) := rdy_bad HX.out HY.out (by rw [hyv, HB.out]; rfl)
          go_wp2_with fail
          refine (contains_any _ taken x _ ht').mono ?_; rintro e w' ⟨rfl, rfl⟩
          rw [HB.out]
          go_wp2
          go_ret
          exact ⟨by rw [hfin.out]; rfl, g0⟩
        · have hst : Hid (rdyAt q taken v (k + 1) = true) := by show _ = _; rw [rdyAt_succ HX.out HY.out, hok.out, hyv, HB.out]; rfl
          go_wp2_with fail
          refine (contains_any _ taken x _ ht').mono ?_; rintro e w' ⟨rfl, rfl⟩
          rw [HB.out]
          go_wp2
          go_round
          case rel => exact ⟨k + 1, by omega, by go_num, hst.out⟩
          case measure => simp [intOf]; omega
    · have hfin : Hid (rdy q taken v = true) := by
        show _ = _
        have h := hok.out
        by_cases hkf : q.f.length ≤ k
        · rwa [rdyAt_end hkf (by omega)] at h
        · have h3 : (q.f.zip q.t) = (q.f.take k).zip (q.t.take k) := by
            simp only [List.zip]; rw [← List.take_zipWith, List.take_of_length_le (by simp; omega)]
          rw [rdy, h3]
          exact h
      go_wp2
      go_ret
      exact ⟨by rw [hfin.out]; rfl, g0⟩
end Go.Proofs.Ytjhllgldllbaaaa

/- The two OrderOf. -/
namespace Go.Proofs.Ytjhllgldllbaaaa
set_option linter.unusedVariables false
set_option linter.unusedSimpArgs false
open Go.RowKit

def fre (q : Qv) (out : List Int) (v : Int) : Bool := !decide (v ∈ out) && rdy q out v
/-- What the search holds behind m vertices, from the last one down. -/
def bst (q : Qv) (out : List Int) (V : Nat) : Nat → Int
  | 0 => -1
  | m + 1 => if fre q out ((V : Int) - 1 - m) then (V : Int) - 1 - m else bst q out V m
theorem bst_rng (q : Qv) (out : List Int) (V : Nat) : ∀ m, m ≤ V → -1 ≤ bst q out V m ∧ bst q out V m ≤ (V : Int) - 1
  | 0, _ => ⟨by simp [bst], by simp [bst]; omega⟩
  | m + 1, h => by
    have ih := bst_rng q out V m (by omega)
    unfold bst
    split <;> omega
def ordGo (q : Qv) (V : Nat) : Nat → List Int → List Int × Bool
  | 0, out => (out, true)
  | n + 1, out => if bst q out V V < 0 then ([], false) else ordGo q V n (out ++ [bst q out V V])
def ordQ (q : Qv) : List Int × Bool := if isQ q then ordGo q q.v.toNat q.v.toNat [] else ([], false)

theorem IntsO.nil_ (w : World) (lo hi : Nat) : IntsO w lo hi (.slice none 0 0) [] := ⟨OwnI.nil _ _, fun k hk => by simp [Value.ownBlock] at hk⟩
def lenOf : Value → Nat
  | .slice _ n _ => n
  | _ => 0

set_option maxHeartbeats 800000 in
theorem implOrderOf_any (u : Value) (q : Qv) (w : World) (hu : QvR w w.heap.size u q) :
    Calls Try.prog 134 #[u] w fun e w' => ∃ v, e = .returned (.tuple #[v, .bool (ordQ q).2]) ∧ IntsO w' w.heap.size w'.heap.size v (ordQ q).1 ∧ Below w.heap.size w w' := by
  obtain ⟨qv, qf, qt⟩ := q
  have hu0 := hu
  obtain ⟨A, c, C, d, rfl, hf, hT, hr, lf, lt⟩ := hu.open_
  dsimp only at *
  obtain ⟨W, hW⟩ : ∃ W, W = w.alloc (.cells #[.int .i64 qv, .slice A qf.length c, .slice C qt.length d] 26) := ⟨_, rfl⟩
  have g0 : Below w.heap.size w W := by rw [hW]; exact below_alloc _ _
  have kB : Blk W w.heap.size 26 #[.int .i64 qv, .slice A qf.length c, .slice C qt.length d] := by rw [hW]; exact Blk.new _ _ _
  have c0 := kB.cell' (i := 0) rfl
  have c1 := kB.cell' (i := 1) rfl
  have c2 := kB.cell' (i := 2) rfl
  have h0 := QvR.next g0 hu0
  clear hu hu0
  rcases hq : isQ ⟨qv, qf, qt⟩ with _ | _
  · have hF : Hid (ordQ ⟨qv, qf, qt⟩ = ([], false)) := by show _ = _; simp [ordQ, hq]
    go_enter Try.func134, Try.ntmps134
    go_wp2_with fail
    rw [← hW]; clear hW
    refine (implIsQuiver_any _ _ _ h0).mono ?_; rintro e w1 ⟨rfl, hb1⟩
    rw [hq]
    go_wp2
    exact bodyPost_ret (v := .tuple #[.slice none 0 0, .bool false]) (by simp [results, go_sem]) rfl ⟨_, by rw [hF.out], by rw [hF.out]; exact IntsO.nil_ _ _ _, bthen g0 hb1⟩
  · obtain ⟨⟨hv1, hv2⟩, hlen, _, _, _⟩ := isQ_t.1 hq
    dsimp only at hv1 hv2 hlen
    obtain ⟨V, rfl⟩ : ∃ V : Nat, qv = V := ⟨qv.toNat, by omega⟩
    have HE := Lib.hid (show ordQ ⟨V, qf, qt⟩ = ordGo ⟨V, qf, qt⟩ V V [] by simp [ordQ, hq])
    have HLE := Lib.hid hlen
    have hr0 : QvR w w.heap.size (.agg #[.int .i64 V, .slice A qf.length c, .slice C qt.length d]) ⟨V, qf, qt⟩ := ⟨_, _, rfl, hf, hT, hr⟩
    clear hlen hf hT
    generalize ordQ ⟨V, qf, qt⟩ = R at *
    go_enter Try.func134, Try.ntmps134
    go_wp2_with fail
    rw [← hW]; clear hW
    refine (implIsQuiver_any _ _ _ h0).mono ?_; rintro e w1 ⟨rfl, hb1⟩
    rw [hq]
    have k1 := kB.call hb1
    have g1 := bthen g0 hb1
    clear c0 c1 c2 kB g0 hb1 h0
    go_wp2
    go_loopw [4] (fun a wr => ∃ out : List Int, out.length ≤ V ∧ OwnI wr w.heap.size a out ∧ Below w.heap.size w wr ∧ Blk wr w.heap.size 26 #[.int .i64 V, .slice A qf.length c, .slice C qt.length d] ∧ Hid (R = ordGo ⟨V, qf, qt⟩ V (V - out.length) out)) (fun a _ => V - lenOf a)
    case atStart => exact ⟨[], by simp, OwnI.nil _ _, g1, k1, HE⟩
    case round =>
      clear g1 k1 HE
      obtain ⟨out, hn, hown, hbel, hkB, hR⟩ := hrel
      obtain ⟨OA, oc, rfl, _, _⟩ := hown.form
      have c0 := hkB.cell' (i := 0) rfl
      have c1 := hkB.cell' (i := 1) rfl
      have c2 := hkB.cell' (i := 2) rfl
      by_cases hlt : out.length < V
      · go_wp2
        have HN := Lib.hid hn
        clear hn c0 c1 c2
        have hs := hbel.size
        generalize wr = wo at hown hbel hkB hs ⊢
        go_loopw [5, 6] (fun n v w2 => ∃ m : Nat, m ≤ V ∧ v = .int .i64 ((V : Int) - 1 - m) ∧ n = .int .i64 (bst ⟨V, qf, qt⟩ out V m) ∧ Below wo.heap.size wo w2) (fun _ v _ => (intOf v + 1).toNat)
        case atStart => exact ⟨0, Nat.zero_le _, by simp, rfl, Below.refl _ _⟩
        case round =>
          obtain ⟨m, hm, rfl, rfl, hbel2⟩ := hrel
          have hk2 := hkB.call hbel2
          have e0 := hk2.cell' (i := 0) rfl
          have e1 := hk2.cell' (i := 1) rfl
          have e2 := hk2.cell' (i := 2) rfl
          have ho2 : OwnI wr w.heap.size (.slice OA out.length oc) out := hown.below hbel2
          have hr2 := QvR.more (B' := wr.heap.size) (by have := hbel2.size; omega) (QvR.below (hbel.trans (hbel2.mono hs)) hr0)
          by_cases hlt2 : m < V
          · have hnn : (0 : Int) ≤ (V : Int) - 1 - m := by omega
            obtain ⟨B1, hB1⟩ : ∃ B, decide (((V : Int) - 1 - m) ∈ out) = B := ⟨_, rfl⟩
            have HB1 := Lib.hid hB1
            clear hB1
            cases B1
            · obtain ⟨B2, hB2⟩ : ∃ B, rdy ⟨V, qf, qt⟩ out ((V : Int) - 1 - m) = B := ⟨_, rfl⟩
              have HB2 := Lib.hid hB2
              clear hB2
              cases B2
              · have hst : Hid (bst ⟨V, qf, qt⟩ out V (m + 1) = bst ⟨V, qf, qt⟩ out V m) := by show _ = _; rw [bst, if_neg]; simp [fre, HB1.out, HB2.out]
                go_wp2_with fail
                refine (contains_any _ out _ _ ho2.rd).mono ?_; rintro e w' ⟨rfl, rfl⟩
                rw [HB1.out]
                go_wp2_with fail
                refine (isReady_any _ _ _ out _ _ hr2 ho2.rd (by have := HLE.out; dsimp only; omega)).mono ?_; rintro e w3 ⟨rfl, hb3⟩
                rw [HB2.out]
                go_wp2
                go_roundw
                case rel => exact ⟨m + 1, by omega, by go_num, by rw [hst.out], hbel2.trans (hb3.mono hbel2.size)⟩
                case measure => simp [intOf]; omega
              · have hst : Hid (bst ⟨V, qf, qt⟩ out V (m + 1) = (V : Int) - 1 - m) := by show _ = _; rw [bst, if_pos]; simp [fre, HB1.out, HB2.out]
                go_wp2_with fail
                refine (contains_any _ out _ _ ho2.rd).mono ?_; rintro e w' ⟨rfl, rfl⟩
                rw [HB1.out]
                go_wp2_with fail
                refine (isReady_any _ _ _ out _ _ hr2 ho2.rd (by have := HLE.out; dsimp only; omega)).mono ?_; rintro e w3 ⟨rfl, hb3⟩
                rw [HB2.out]
                go_wp2
                go_roundw
                case rel => exact ⟨m + 1, by omega, by go_num, by rw [hst.out], hbel2.trans (hb3.mono hbel2.size)⟩
                case measure => simp [intOf]; omega
            · have hst : Hid (bst ⟨V, qf, qt⟩ out V (m + 1) = bst ⟨V, qf, qt⟩ out V m) := by show _ = _; rw [bst, if_neg]; simp [fre, HB1.out]
              go_wp2_with fail
              refine (contains_any _ out _ _ ho2.rd).mono ?_; rintro e w' ⟨rfl, rfl⟩
              rw [HB1.out]
              go_wp2
              go_roundw
              case rel => exact ⟨m + 1, by omega, by go_num, by rw [hst.out], hbel2⟩
              case measure => simp [intOf]; omega
          · obtain rfl : m = V := by omega
            have hrg := bst_rng ⟨m, qf, qt⟩ out m m (Nat.le_refl _)
            obtain ⟨x, hx⟩ : ∃ x, bst ⟨m, qf, qt⟩ out m m = x := ⟨_, rfl⟩
            rw [hx] at hrg ⊢
            have HX := Lib.hid hx
            clear hx hr2 e1 e2
            have hnn : ¬ (0 : Int) ≤ (m : Int) - 1 - m := by omega
            have g2 := hbel.trans (hbel2.mono hs)
            by_cases hx0 : x < 0
            · have hF : Hid (R = ([], false)) := by
                show _ = _
                have h := hR.out
                rw [show m - out.length = (m - out.length - 1) + 1 by omega, ordGo, HX.out, if_pos hx0] at h
                exact h
              go_wp2
              exact bodyPost_ret (v := .tuple #[.slice none 0 0, .bool false]) (by simp [results, go_sem]) rfl ⟨_, by rw [hF.out], by rw [hF.out]; exact IntsO.nil_ _ _ _, g2⟩
            · have hF : Hid (R = ordGo ⟨m, qf, qt⟩ m (m - (out ++ [x]).length) (out ++ [x])) := by
                show _ = _
                have h := hR.out
                rw [show m - out.length = (m - out.length - 1) + 1 by omega, ordGo, HX.out, if_neg hx0] at h
                rw [h, List.length_append]
                rfl
              have hs2 := hbel2.size
              (go_wp2_with (at_builtin; refine Hold.stop ?_)); unfold Hold
              have b0 := below_alloc wr (.cells #[.int .i64 x] 3)
              have ho3 := ho2.alloc (.cells #[.int .i64 x] 3)
              refine wpList_appI rfl (.tmp 35) (.tmp 37) rfl w.heap.size _ (.slice OA out.length oc) out rfl ho3 _ _ _ [x] rfl rfl (SlI.one wr _ x ⟨by omega, by omega⟩) (by have := HN.out; simp; omega) (by simp; omega) ?_
              intro v1 w3 ho1 hg1 hv1
              have hk3 := (hk2.call b0).grown hg1 (ho3.blkne (hk2.call b0) (by decide))
              have hb3 := (g2.trans (b0.mono g2.size)).grown hg1 (by simp; omega) (fun j hj => (ho3.lt j hj).1)
              obtain ⟨A1, c1, rfl, _, _⟩ := ho1.form
              clear ho3 hg1 hv1 b0
              go_wp2
              go_roundw
              case rel => exact ⟨out ++ [x], by simp; omega, by rw [List.length_append] at ho1; exact ho1, hb3, hk3, hF.out⟩
              case measure => simp [lenOf]; omega
      · have hF : Hid (R = (out, true)) := by
          show _ = _
          have h := hR.out
          rw [show V - out.length = 0 by omega, ordGo] at h
          exact h
        go_wp2
        exact bodyPost_ret (v := .tuple #[.slice OA out.length oc, .bool true]) (by simp [results, go_sem]) rfl ⟨_, by rw [hF.out], by rw [hF.out]; exact IntsO.of_own hown, hbel⟩
end Go.Proofs.Ytjhllgldllbaaaa

/- The reference's OrderOf. -/
namespace Go.Proofs.Ytjhllgldllbaaaa
set_option linter.unusedVariables false
set_option linter.unusedSimpArgs false
open Go.RowKit

theorem IntsO.made_ (w : World) {lo : Nat} (h : lo ≤ w.heap.size) : IntsO (w.alloc (.cells #[] 3)) lo (w.alloc (.cells #[] 3)).heap.size (.slice (some ⟨w.heap.size, 0, none⟩) 0 0) [] :=
  ⟨OwnI.made _ rfl h, fun k hk => by simp [Value.ownBlock] at hk; simp; omega⟩

set_option maxHeartbeats 800000 in
theorem specOrderOf_any (u : Value) (q : Qv) (w : World) (hu : QvR w w.heap.size u q) :
    Calls Try.prog 132 #[u] w fun e w' => ∃ v, e = .returned (.tuple #[v, .bool (ordQ q).2]) ∧ IntsO w' w.heap.size w'.heap.size v (ordQ q).1 ∧ Below w.heap.size w w' := by
  obtain ⟨qv, qf, qt⟩ := q
  have hu0 := hu
  obtain ⟨A, c, C, d, rfl, hf, hT, hr, lf, lt⟩ := hu.open_
  dsimp only at *
  have g0 : Below w.heap.size w ((w.alloc (.cells #[.int .i64 qv, .slice A qf.length c, .slice C qt.length d] 26)).alloc (.cells #[] 3)) := ((Below.refl _ _).alloc (Nat.le_refl _) _).alloc (by simp) _
  have kB : Blk ((w.alloc (.cells #[.int .i64 qv, .slice A qf.length c, .slice C qt.length d] 26)).alloc (.cells #[] 3)) w.heap.size 26 #[.int .i64 qv, .slice A qf.length c, .slice C qt.length d] := (Blk.new _ _ _).alloc _
  have ho0 : OwnI ((w.alloc (.cells #[.int .i64 qv, .slice A qf.length c, .slice C qt.length d] 26)).alloc (.cells #[] 3)) w.heap.size (.slice (some ⟨w.heap.size + 1, 0, none⟩) 0 0) [] := by
    have := OwnI.made (w := w.alloc (.cells #[.int .i64 qv, .slice A qf.length c, .slice C qt.length d] 26)) (base := w.heap.size) _ rfl (by simp)
    simpa only [World.size_alloc] using this
  clear hu
  rcases hq : isQ ⟨qv, qf, qt⟩ with _ | _
  · have hF : Hid (ordQ ⟨qv, qf, qt⟩ = ([], false)) := by show _ = _; simp [ordQ, hq]
    generalize ordQ ⟨qv, qf, qt⟩ = R at *
    go_enter Try.func132, Try.ntmps132
    go_wp2
    go_loopw [4] (fun a wr => a = .slice (some ⟨w.heap.size + 1, 0, none⟩) 0 0 ∧ OwnI wr w.heap.size a [] ∧ Below w.heap.size w wr ∧ Blk wr w.heap.size 26 #[.int .i64 qv, .slice A qf.length c, .slice C qt.length d]) (fun a _ => 0)
    case atStart => exact ⟨rfl, ho0, g0, kB⟩
    case round =>
      clear g0 kB ho0
      obtain ⟨rfl, hown, hbel, hkB⟩ := hrel
      have c0 := hkB.cell' (i := 0) rfl
      have c1 := hkB.cell' (i := 1) rfl
      have c2 := hkB.cell' (i := 2) rfl
      have hrq := QvR.more (B' := wr.heap.size) (by have := hbel.size; omega) (QvR.below hbel hu0)
      go_wp2_with fail
      refine (specIsQuiver_any _ _ _ hrq).mono ?_; rintro e w5 ⟨rfl, hb5⟩
      rw [hq]
      have hkB' := hkB.call hb5
      have hbel' := hbel.trans (hb5.mono hbel.size)
      clear c0 c1 c2
      have c0 := hkB'.cell' (i := 0) rfl
      have c1 := hkB'.cell' (i := 1) rfl
      have c2 := hkB'.cell' (i := 2) rfl
      have hrq' := QvR.next hb5 hrq
      go_wp2_with fail
      refine (specIsQuiver_any _ _ _ hrq').mono ?_; rintro e w6 ⟨rfl, hb6⟩
      rw [hq]
      go_wp2
      exact bodyPost_ret (v := .tuple #[.slice (some ⟨w.heap.size + 1, 0, none⟩) 0 0, .bool false]) (by simp [results, go_sem]) rfl ⟨_, by rw [hF.out], by rw [hF.out]; exact IntsO.of_own ((hown.below hb5).below hb6), hbel'.trans (hb6.mono hbel'.size)⟩
  · obtain ⟨⟨hv1, hv2⟩, hlen, _, _, _⟩ := isQ_t.1 hq
    dsimp only at hv1 hv2 hlen
    obtain ⟨V, rfl⟩ : ∃ V : Nat, qv = V := ⟨qv.toNat, by omega⟩
    have HE := Lib.hid (show ordQ ⟨V, qf, qt⟩ = ordGo ⟨V, qf, qt⟩ V V [] by simp [ordQ, hq])
    have HLE := Lib.hid hlen
    have hr0 : QvR w w.heap.size (.agg #[.int .i64 V, .slice A qf.length c, .slice C qt.length d]) ⟨V, qf, qt⟩ := ⟨_, _, rfl, hf, hT, hr⟩
    clear hlen hu0
    generalize ordQ ⟨V, qf, qt⟩ = R at *
    go_enter Try.func132, Try.ntmps132
    go_wp2
    go_loopw [4] (fun a wr => ∃ out : List Int, out.length ≤ V ∧ OwnI wr w.heap.size a out ∧ Below w.heap.size w wr ∧ Blk wr w.heap.size 26 #[.int .i64 V, .slice A qf.length c, .slice C qt.length d] ∧ Hid (R = ordGo ⟨V, qf, qt⟩ V (V - out.length) out)) (fun a _ => V - lenOf a)
    case atStart => exact ⟨[], by simp, ho0, g0, kB, HE⟩
    case round =>
      clear g0 kB HE ho0
      obtain ⟨out, hn, hown, hbel, hkB, hR⟩ := hrel
      obtain ⟨OA, oc, rfl, _, _⟩ := hown.form
      have c0 := hkB.cell' (i := 0) rfl
      have c1 := hkB.cell' (i := 1) rfl
      have c2 := hkB.cell' (i := 2) rfl
      have hrq := QvR.more (B' := wr.heap.size) (by have := hbel.size; omega) (QvR.below hbel hr0)
      go_wp2_with fail
      refine (specIsQuiver_any _ _ _ hrq).mono ?_; rintro e w5 ⟨rfl, hb5⟩
      rw [hq]
      have hkB' := hkB.call hb5
      have hown' := hown.below hb5
      have hbel' := hbel.trans (hb5.mono hbel.size)
      clear hkB hown hbel c0 c1 c2 hrq hb5
      have c0 := hkB'.cell' (i := 0) rfl
      have c1 := hkB'.cell' (i := 1) rfl
      have c2 := hkB'.cell' (i := 2) rfl
      by_cases hlt : out.length < V
      · go_wp2
        have HN := Lib.hid hn
        clear hn c0 c1 c2
        have hs := hbel'.size
        clear wr
        rename World => wo
        go_loopw [5, 6] (fun n v w2 => ∃ m : Nat, m ≤ V ∧ v = .int .i64 ((V : Int) - 1 - m) ∧ n = .int .i64 (bst ⟨V, qf, qt⟩ out V m) ∧ Below wo.heap.size wo w2) (fun _ v _ => (intOf v + 1).toNat)
        case atStart => exact ⟨0, Nat.zero_le _, by simp, rfl, Below.refl _ _⟩
        case round =>
          obtain ⟨m, hm, rfl, rfl, hbel2⟩ := hrel
          have hk2 := hkB'.call hbel2
          have ho2 : OwnI wr w.heap.size (.slice OA out.length oc) out := hown'.below hbel2
          have g2 := hbel'.trans (hbel2.mono hs)
          by_cases hlt2 : m < V
          · have hnn : (0 : Int) ≤ (V : Int) - 1 - m := by omega
            obtain ⟨B1, hB1⟩ : ∃ B, decide (((V : Int) - 1 - m) ∈ out) = B := ⟨_, rfl⟩
            have HB1 := Lib.hid hB1
            clear hB1
            go_wp2_with fail
            refine (l4Has_any _ out _ _ ho2.rd).mono ?_; rintro e w3 ⟨rfl, hb3⟩
            rw [HB1.out]
            have hk3 := hk2.call hb3
            have ho3 := ho2.below hb3
            have g3 := g2.trans (hb3.mono g2.size)
            have hbel3 := hbel2.trans (hb3.mono hbel2.size)
            have hx3 : Hid (fre ⟨V, qf, qt⟩ out ((V : Int) - 1 - m) = (!B1 && rdy ⟨V, qf, qt⟩ out ((V : Int) - 1 - m))) := by show _ = _; rw [fre, HB1.out]
            clear hk2 ho2 g2 hb3 hbel2
            go_wp2
            go_loopw [7, 8] (fun fr i w4 => ∃ (k : Nat) (F : Bool), k ≤ qf.length ∧ i = .int .i64 k ∧ fr = .bool F ∧ Hid (F = (!B1 && rdyAt ⟨V, qf, qt⟩ out ((V : Int) - 1 - m) k)) ∧ Below w3.heap.size w3 w4) (fun _ i _ => qf.length - (intOf i).toNat)
            case atStart => exact ⟨0, !B1, Nat.zero_le _, rfl, rfl, by show _ = _; simp [rdyAt_zero], Below.refl _ _⟩
            case round =>
              obtain ⟨k, F, hk, rfl, rfl, hFr, hbel4⟩ := hrel
              have hk4 := hk3.call hbel4
              have ho4 := ho3.below hbel4
              have g4 := g3.trans (hbel4.mono g3.size)
              have hbel5 := hbel3.trans (hbel4.mono hbel3.size)
              have e0 := hk4.cell' (i := 0) rfl
              have e1 := hk4.cell' (i := 1) rfl
              have e2 := hk4.cell' (i := 2) rfl
              by_cases hltk : k < qf.length
              · have hltk' : k < qt.length := by have := HLE.out; omega
                obtain ⟨b, o, y, rfl, hb, HY, y1, _⟩ := SlI.at_ hT hltk'
                obtain ⟨b2, o2, x, rfl, hb2, HX, x1, _⟩ := SlI.at_ (k := k) hf hltk
                have y2 := bcell g4 hb y1
                have x2 := bcell g4 hb2 x1
                clear y1 x1
                have hsu := rdyAt_succ (q := ⟨V, qf, qt⟩) (taken := out) (v := (V : Int) - 1 - m) HX.out HY.out
                cases F
                · have hst : Hid (false = (!B1 && rdyAt ⟨V, qf, qt⟩ out ((V : Int) - 1 - m) (k + 1))) := by show _ = _; rw [hsu, ← Bool.and_assoc, ← hFr.out]; rfl
                  clear hsu
                  go_wp2
                  go_roundw
                  case rel => exact ⟨k + 1, false, by omega, by go_num, rfl, hst.out, hbel4⟩
                  case measure => simp [intOf]; omega
                · rcases hyv : (y == ((V : Int) - 1 - m)) with _ | _
                  · have hyv' : (y != ((V : Int) - 1 - m)) = true := by rw [bne, hyv]; rfl
                    have hst : Hid (true = (!B1 && rdyAt ⟨V, qf, qt⟩ out ((V : Int) - 1 - m) (k + 1))) := by show _ = _; rw [hsu, ← Bool.and_assoc, ← hFr.out, hyv]; rfl
                    clear hsu
                    go_wp2
                    go_roundw
                    case rel => exact ⟨k + 1, true, by omega, by go_num, rfl, hst.out, hbel4⟩
                    case measure => simp [intOf]; omega
                  · have hyv' : (y != ((V : Int) - 1 - m)) = false := by rw [bne, hyv]; rfl
                    obtain ⟨B2, hB2⟩ : ∃ B, decide (x ∈ out) = B := ⟨_, rfl⟩
                    have hst : Hid (B2 = (!B1 && rdyAt ⟨V, qf, qt⟩ out ((V : Int) - 1 - m) (k + 1))) := by show _ = _; rw [hsu, ← Bool.and_assoc, ← hFr.out, hyv, hB2]; rfl
                    have HB2 := Lib.hid hB2
                    clear hsu hB2
                    go_wp2_with fail
                    refine (l4Has_any _ out _ _ ho4.rd).mono ?_; rintro e w6 ⟨rfl, hb6⟩
                    rw [HB2.out]
                    go_wp2
                    go_roundw
                    case rel => exact ⟨k + 1, B2, by omega, by go_num, rfl, hst.out, hbel4.trans (hb6.mono hbel4.size)⟩
                    case measure => simp [intOf]; omega
              · have hre : Hid (F = fre ⟨V, qf, qt⟩ out ((V : Int) - 1 - m)) := by
                  show _ = _
                  rw [hx3.out, hFr.out, rdyAt_end (by dsimp only; omega) (by have := HLE.out; dsimp only; omega)]
                cases F
                · have hst : Hid (bst ⟨V, qf, qt⟩ out V (m + 1) = bst ⟨V, qf, qt⟩ out V m) := by show _ = _; rw [bst, if_neg]; rw [← hre.out]; simp
                  go_wp2
                  go_roundw
                  case rel => exact ⟨m + 1, by omega, by go_num, by rw [hst.out], hbel5⟩
                  case measure => simp [intOf]; omega
                · have hst : Hid (bst ⟨V, qf, qt⟩ out V (m + 1) = (V : Int) - 1 - m) := by show _ = _; rw [bst, if_pos]; rw [← hre.out]
                  go_wp2
                  go_roundw
                  case rel => exact ⟨m + 1, by omega, by go_num, by rw [hst.out], hbel5⟩
                  case measure => simp [intOf]; omega
          · obtain rfl : m = V := by omega
            have hrg := bst_rng ⟨m, qf, qt⟩ out m m (Nat.le_refl _)
            obtain ⟨x, hx⟩ : ∃ x, bst ⟨m, qf, qt⟩ out m m = x := ⟨_, rfl⟩
            rw [hx] at hrg ⊢
            have HX := Lib.hid hx
            clear hx
            have hnn : ¬ (0 : Int) ≤ (m : Int) - 1 - m := by omega
            by_cases hx0 : x < 0
            · have hF : Hid (R = ([], false)) := by
                show _ = _
                have h := hR.out
                rw [show m - out.length = (m - out.length - 1) + 1 by omega, ordGo, HX.out, if_pos hx0] at h
                exact h
              go_wp2
              exact bodyPost_ret (v := .tuple #[.slice (some ⟨wr.heap.size, 0, none⟩) 0 0, .bool false]) (by simp [results, go_sem]) rfl ⟨_, by rw [hF.out], by rw [hF.out]; exact IntsO.made_ _ g2.size, g2.alloc g2.size _⟩
            · have hF : Hid (R = ordGo ⟨m, qf, qt⟩ m (m - (out ++ [x]).length) (out ++ [x])) := by
                show _ = _
                have h := hR.out
                rw [show m - out.length = (m - out.length - 1) + 1 by omega, ordGo, HX.out, if_neg hx0] at h
                rw [h, List.length_append]
                rfl
              have hs2 := hbel2.size
              (go_wp2_with (at_builtin; refine Hold.stop ?_)); unfold Hold
              have b0 := below_alloc wr (.cells #[.int .i64 x] 3)
              have ho3 := ho2.alloc (.cells #[.int .i64 x] 3)
              refine wpList_appI rfl (.tmp 61) (.tmp 63) rfl w.heap.size _ (.slice OA out.length oc) out rfl ho3 _ _ _ [x] rfl rfl (SlI.one wr _ x ⟨by omega, by omega⟩) (by have := HN.out; simp; omega) (by simp; omega) ?_
              intro v1 w3 ho1 hg1 hv1
              have hk3 := (hk2.call b0).grown hg1 (ho3.blkne (hk2.call b0) (by decide))
              have hb3 := (g2.trans (b0.mono g2.size)).grown hg1 (by simp; omega) (fun j hj => (ho3.lt j hj).1)
              obtain ⟨A1, c1, rfl, _, _⟩ := ho1.form
              clear ho3 hg1 hv1 b0
              go_wp2
              go_roundw
              case rel => exact ⟨out ++ [x], by simp; omega, by rw [List.length_append] at ho1; exact ho1, hb3, hk3, hF.out⟩
              case measure => simp [lenOf]; omega
      · have hF : Hid (R = (out, true)) := by
          show _ = _
          have h := hR.out
          rw [show V - out.length = 0 by omega, ordGo] at h
          exact h
        have hrq := QvR.more (B' := w5.heap.size) (by have := hbel'.size; omega) (QvR.below hbel' hr0)
        go_wp2_with fail
        refine (specIsQuiver_any _ _ _ hrq).mono ?_; rintro e w6 ⟨rfl, hb6⟩
        rw [hq]
        go_wp2
        exact bodyPost_ret (v := .tuple #[.slice OA out.length oc, .bool true]) (by simp [results, go_sem]) rfl ⟨_, by rw [hF.out], by rw [hF.out]; exact IntsO.of_own (hown'.below hb6), hbel'.trans (hb6.mono hbel'.size)⟩
end Go.Proofs.Ytjhllgldllbaaaa

/- The reference's ReflectDims. -/
namespace Go.Proofs.Ytjhllgldllbaaaa
set_option linter.unusedVariables false
set_option linter.unusedSimpArgs false
open Go.RowKit

set_option maxHeartbeats 800000 in
set_option maxRecDepth 20000 in
theorem specReflectDims_any (u : Value) (q : Qv) (xv : Value) (x : List Int) (v : Int) (w : World) (hu : QvR w w.heap.size u q) (hx : SlI w w.heap.size xv x) (_ : I64 v) :
    Calls Try.prog 202 #[u, xv, .int .i64 v] w fun e w' => ∃ r, e = .returned (.tuple #[r, .bool (reflQ q x v).2]) ∧ IntsO w' w.heap.size w'.heap.size r (reflQ q x v).1 ∧ Below w.heap.size w w' := by
  have hu' := hu
  obtain ⟨A, c, C, d, rfl, hf, hT, hr, lf, lt⟩ := hu.open_
  have hx' := hx
  obtain ⟨XA, xc, rfl, _, _, lx, _⟩ := hx.open_
  clear hu hx hf hT
  obtain ⟨W, hW⟩ : ∃ W, W = w.alloc (.cells #[.int .i64 q.v, .slice A q.f.length c, .slice C q.t.length d] 26) := ⟨_, rfl⟩
  have g0 : Below w.heap.size w W := by rw [hW]; exact below_alloc _ _
  have kB : Blk W w.heap.size 26 #[.int .i64 q.v, .slice A q.f.length c, .slice C q.t.length d] := by rw [hW]; exact Blk.new _ _ _
  have c0 := kB.cell' (i := 0) rfl
  have c1 := kB.cell' (i := 1) rfl
  have c2 := kB.cell' (i := 2) rfl
  have h0 := QvR.next g0 hu'
  have hx0 := SlI.next g0 hx'
  clear hu' hx'
  rcases hq : isNum q x with _ | _
  · have hF : Hid (reflQ q x v = ([], false)) := by show _ = _; simp [reflQ, hq]
    go_enter Try.func202, Try.ntmps202
    go_wp2_with fail
    rw [← hW]; clear hW
    refine (l18Vector_any _ _ _ _ _ h0 hx0).mono ?_; rintro e w1 ⟨rfl, hb1⟩
    rw [hq]
    have g1 := bthen g0 hb1
    go_wp2
    exact bodyPost_ret (v := .tuple #[.slice (some ⟨w1.heap.size, 0, none⟩) 0 0, .bool false]) (by simp [results, go_sem]) rfl ⟨_, by rw [hF.out], by rw [hF.out]; exact IntsO.made_ _ g1.size, g1.alloc g1.size _⟩
  obtain ⟨hq1, hq2, hq3⟩ := isNum_t.1 hq
  obtain ⟨⟨hv1, hv2⟩, hlen, _, _, _⟩ := isQ_t.1 hq1
  have HQ1 := Lib.hid hq1
  have HLE := Lib.hid hlen
  clear hq1 hq2 hq3 hlen
  rcases hin : inR v 0 (q.v - 1) with _ | _
  · have hF : Hid (reflQ q x v = ([], false)) := by show _ = _; simp [reflQ, hin]
    go_enter Try.func202, Try.ntmps202
    go_wp2_with fail
    rw [← hW]; clear hW
    refine (l18Vector_any _ _ _ _ _ h0 hx0).mono ?_; rintro e w1 ⟨rfl, hb1⟩
    rw [hq]
    have g1 := bthen g0 hb1
    have d0 := (kB.call hb1).cell' (i := 0) rfl
    clear c0 c1 c2
    go_wp2_with fail
    refine (l1In_any _ _ _ _).mono ?_; rintro e w9 ⟨rfl, rfl⟩
    rw [hin]
    go_wp2
    exact bodyPost_ret (v := .tuple #[.slice (some ⟨w9.heap.size, 0, none⟩) 0 0, .bool false]) (by simp [results, go_sem]) rfl ⟨_, by rw [hF.out], by rw [hF.out]; exact IntsO.made_ _ g1.size, g1.alloc g1.size _⟩
  have hvr := inR_t.1 hin
  rcases hlo : loopQ q v with _ | _
  · obtain ⟨n, rfl⟩ : ∃ n : Nat, v = n := ⟨v.toNat, by omega⟩
    have hF : Hid (reflQ q x n = (reflL q x n, true)) := by show _ = _; simp [reflQ, hq, hin, hlo]
    have hnv : n < q.v.toNat := by omega
    go_enter Try.func202, Try.ntmps202
    go_wp2_with fail
    rw [← hW]; clear hW
    refine (l18Vector_any _ _ _ _ _ h0 hx0).mono ?_; rintro e w1 ⟨rfl, hb1⟩
    rw [hq]
    have g1 := bthen g0 hb1
    have k1 := kB.call hb1
    have h1 := QvR.next hb1 h0
    have hx1 := SlI.next hb1 hx0
    clear c0 c1 c2 h0 hx0 kB
    have d0 := k1.cell' (i := 0) rfl
    have d1 := k1.cell' (i := 1) rfl
    have d2 := k1.cell' (i := 2) rfl
    go_wp2_with fail
    refine (l1In_any _ _ _ _).mono ?_; rintro e w9 ⟨rfl, rfl⟩
    rw [hin]
    go_wp2_with fail
    refine (l21Loop_any _ _ _ _ h1 HLE.out).mono ?_; rintro e w2 ⟨rfl, hb2⟩
    rw [hlo]
    have g2 := bthen g1 hb2
    have k2 := k1.call hb2
    have h2 := QvR.next hb2 h1
    have hx2 := SlI.next hb2 hx1
    clear d0 d1 d2 h1 hx1 k1
    have d0 := k2.cell' (i := 0) rfl
    have d1 := k2.cell' (i := 1) rfl
    have d2 := k2.cell' (i := 2) rfl
    go_wp2_with fail
    refine (symmetricForm_any _ _ _ h2 HQ1.out).mono ?_; rintro e w3 ⟨mv, rfl, hm, hb3⟩
    have g3 := bthen g2 hb3
    have hx3 := SlI.next hb3 hx2
    go_wp2_with fail
    refine (l20Reflect_any _ _ q x n _ hm.rd hx3 hq hnv).mono ?_; rintro e w4 ⟨r, rfl, hr4, hb4⟩
    go_wp2
    exact bodyPost_ret (v := .tuple #[r, .bool true]) (by simp [results, go_sem]) rfl ⟨_, by rw [hF.out], by rw [hF.out]; exact hr4.wider g3.size (Nat.le_refl _), bthen g3 hb4⟩
  · have hF : Hid (reflQ q x v = ([], false)) := by show _ = _; simp [reflQ, hlo]
    go_enter Try.func202, Try.ntmps202
    go_wp2_with fail
    rw [← hW]; clear hW
    refine (l18Vector_any _ _ _ _ _ h0 hx0).mono ?_; rintro e w1 ⟨rfl, hb1⟩
    rw [hq]
    have g1 := bthen g0 hb1
    have k1 := kB.call hb1
    have h1 := QvR.next hb1 h0
    clear c0 c1 c2 h0 hx0 kB
    have d0 := k1.cell' (i := 0) rfl
    have d1 := k1.cell' (i := 1) rfl
    have d2 := k1.cell' (i := 2) rfl
    go_wp2_with fail
    refine (l1In_any _ _ _ _).mono ?_; rintro e w9 ⟨rfl, rfl⟩
    rw [hin]
    go_wp2_with fail
    refine (l21Loop_any _ _ _ _ h1 HLE.out).mono ?_; rintro e w2 ⟨rfl, hb2⟩
    rw [hlo]
    have g2 := bthen g1 hb2
    go_wp2
    exact bodyPost_ret (v := .tuple #[.slice (some ⟨w2.heap.size, 0, none⟩) 0 0, .bool false]) (by simp [results, go_sem]) rfl ⟨_, by rw [hF.out], by rw [hF.out]; exact IntsO.made_ _ g2.size, g2.alloc g2.size _⟩
end Go.Proofs.Ytjhllgldllbaaaa

/- The program's ReflectDims. -/
namespace Go.Proofs.Ytjhllgldllbaaaa
set_option linter.unusedVariables false
set_option linter.unusedSimpArgs false
open Go.RowKit

theorem clone_any (u : Value) (xs : List Int) (w : World) (hu : SlI w w.heap.size u xs) (hp : 0 < xs.length) (hr : ∀ y ∈ xs, I64 y) :
    Calls Try.prog 124 #[u] w fun e w' => ∃ g c, e = .returned (.slice (some ⟨g, 0, none⟩) xs.length c) ∧ OwnI w' w.heap.size (.slice (some ⟨g, 0, none⟩) xs.length c) xs ∧ xs.length ≤ c ∧ c ≤ 9223372036854775807 ∧ Below w.heap.size w w' := by
  obtain ⟨A, c, rfl, _, _, hn, hx⟩ := hu
  obtain ⟨b, o, rfl, hb, hc⟩ := hx hp
  refine (Any.slices_Clone_int Try.laysClone b o xs.length c xs w (Nat.le_refl _) (by omega) (fun j hj => ?_)).mono ?_
  · have h := (hc j (xs.getD j 0) (by rw [List.getD_eq_getElem?_getD, List.getElem?_eq_getElem hj]; rfl)).1
    simpa using h
  · rintro e w' ⟨v', rfl, ho, hnn, hb⟩
    rw [List.take_of_length_le (Nat.le_refl _)] at ho
    rcases ho.2 with ⟨e, _⟩ | ⟨g, cap, cur, rfl, hg, hh, hnc, hcm, _⟩
    · exact absurd e hnn
    · exact ⟨g, cap, rfl, ⟨ho, hn, hr⟩, hnc, by simp only [maxLen] at hcm; omega, hb⟩

theorem set_self {x : List Int} {n : Nat} : x.set n (x.getD n 0) = x := by
  apply List.ext_getElem?
  intro i
  rw [List.getElem?_set]
  by_cases e : n = i
  · subst e
    rw [if_pos rfl]
    by_cases h : n < x.length
    · rw [if_pos h, List.getD_eq_getElem?_getD, List.getElem?_eq_getElem h]; rfl
    · rw [if_neg h, List.getElem?_eq_none (by omega)]
  · rw [if_neg e]
theorem IntssO.entry {w : World} {lo hi V i : Nat} {g : Nat → Nat → Int} {mv : Value} {ll : List (List Int)} (h : IntssO w lo hi mv ll) (e : ll = matF V g) (hi' : i < V) : ∃ gm cm gr cr, mv = .slice (some ⟨gm, 0, none⟩) V cm ∧ w.cell? ⟨gm, i, none⟩ = some (.slice (some ⟨gr, 0, none⟩) V cr) ∧ OwnI w lo (.slice (some ⟨gr, 0, none⟩) V cr) (rowF V (g i)) ∧ lo ≤ gr ∧ V ≤ cr ∧ cr ≤ 9223372036854775807 := by
  subst e
  obtain ⟨vs, h1, h2, h3⟩ := h
  obtain ⟨gr, cr, hv, ho, hc1, hc2, hg1, _⟩ := h3.rowAt h2 (matF_get g hi') (by rw [rowF_length]; omega)
  rw [rowF_length] at hv ho hc1
  rw [matF_length] at h2
  have hf := h1
  rcases h1.1.2 with ⟨_, h0⟩ | ⟨gm, cap, cur, rfl, _, _, _, _, _⟩
  · omega
  · rw [h2] at hf ⊢
    exact ⟨gm, cap, gr, cr, rfl, hf.cellS hv, ho, hg1, hc1, hc2⟩

set_option maxHeartbeats 1600000 in
set_option maxRecDepth 20000 in
theorem implReflectDims_any (u : Value) (q : Qv) (xv : Value) (x : List Int) (v : Int) (w : World) (hu : QvR w w.heap.size u q) (hx : SlI w w.heap.size xv x) (_ : I64 v) :
    Calls Try.prog 204 #[u, xv, .int .i64 v] w fun e w' => ∃ r, e = .returned (.tuple #[r, .bool (reflQ q x v).2]) ∧ IntsO w' w.heap.size w'.heap.size r (reflQ q x v).1 ∧ Below w.heap.size w w' := by
  have hu' := hu
  obtain ⟨A, c, C, d, rfl, hf, hT, hr, lf, lt⟩ := hu.open_
  have hx' := hx
  obtain ⟨XA, xc, rfl, _, _, lx, _⟩ := hx.open_
  clear hu hx hf hT
  obtain ⟨W, hW⟩ : ∃ W, W = w.alloc (.cells #[.int .i64 q.v, .slice A q.f.length c, .slice C q.t.length d] 26) := ⟨_, rfl⟩
  have g0 : Below w.heap.size w W := by rw [hW]; exact below_alloc _ _
  have kB : Blk W w.heap.size 26 #[.int .i64 q.v, .slice A q.f.length c, .slice C q.t.length d] := by rw [hW]; exact Blk.new _ _ _
  have c0 := kB.cell' (i := 0) rfl
  have c1 := kB.cell' (i := 1) rfl
  have c2 := kB.cell' (i := 2) rfl
  have h0 := QvR.next g0 hu'
  have hx0 := SlI.next g0 hx'
  have HXO := Lib.hid hx'
  clear hu' hx'
  rcases hq : isNum q x with _ | _
  · have hF : Hid (reflQ q x v = ([], false)) := by show _ = _; simp [reflQ, hq]
    go_enter Try.func204, Try.ntmps204
    go_wp2_with fail
    first | (rw [← hW]; clear hW) | skip
    refine (areNumbers_any _ _ _ _ _ h0 hx0).mono ?_; rintro e w1 ⟨rfl, hb1⟩
    rw [hq]
    have g1 := bthen g0 hb1
    go_wp2
    exact bodyPost_ret (v := .tuple #[.slice none 0 0, .bool false]) (by simp [results, go_sem]) rfl ⟨_, by rw [hF.out], by rw [hF.out]; exact IntsO.nil_ _ _ _, g1⟩
  obtain ⟨hq1, hq2, hq3⟩ := isNum_t.1 hq
  obtain ⟨⟨hv1, hv2⟩, hlen, hl6, _, _⟩ := isQ_t.1 hq1
  have HQ1 := Lib.hid hq1
  have HQ3 := Lib.hid hq3
  have HQ2 := Lib.hid hq2
  have HLE := Lib.hid hlen
  clear hq1 hq2 hq3 hlen
  rcases hin : inR v 0 (q.v - 1) with _ | _
  · have hF : Hid (reflQ q x v = ([], false)) := by show _ = _; simp [reflQ, hin]
    go_enter Try.func204, Try.ntmps204
    go_wp2_with fail
    rw [← hW]; clear hW
    refine (areNumbers_any _ _ _ _ _ h0 hx0).mono ?_; rintro e w1 ⟨rfl, hb1⟩
    rw [hq]
    have g1 := bthen g0 hb1
    have k1 := kB.call hb1
    have h1 := QvR.next hb1 h0
    clear c0 c1 c2
    have d0 := k1.cell' (i := 0) rfl
    have d1 := k1.cell' (i := 1) rfl
    have d2 := k1.cell' (i := 2) rfl
    go_wp2_with fail
    refine (hasVertex_any _ _ _ _ h1 ⟨hv1, hv2⟩).mono ?_; rintro e w2 ⟨rfl, hb2⟩
    rw [hin]
    have g2 := bthen g1 hb2
    go_wp2
    exact bodyPost_ret (v := .tuple #[.slice none 0 0, .bool false]) (by simp [results, go_sem]) rfl ⟨_, by rw [hF.out], by rw [hF.out]; exact IntsO.nil_ _ _ _, g2⟩
  have hvr := inR_t.1 hin
  obtain ⟨n, rfl⟩ : ∃ n : Nat, v = n := ⟨v.toNat, by omega⟩
  obtain ⟨V, hV⟩ : ∃ V : Nat, q.v = V := ⟨q.v.toNat, by omega⟩
  have hnV : n < V := by omega
  have hV5 : V ≤ 5 := by omega
  have hV1 : 0 < V := by omega
  have hsV : Hid (symM q = matF V (ent q q.f.length)) := by show _ = _; rw [symM, hV]; rfl
  have hxV : Hid (x.length = V) := by have := HQ2.out; show _ = _; omega
  have hlp := loop_ent (q := q) (v := n) HLE.out
  obtain ⟨z, hz⟩ : ∃ z, ent q q.f.length n n = z := ⟨_, rfl⟩
  rw [hz] at hlp
  have HZ := Lib.hid hz
  clear hz hvr hv1 hv2
  have hv1 : 1 ≤ q.v ∧ q.v ≤ 5 := by omega
  have HV1 := Lib.hid hv1
  clear hv1 hV
  rcases hlo : loopQ q n with _ | _
  · have hF : Hid (reflQ q x n = (reflL q x n, true)) := by show _ = _; simp [reflQ, hq, hin, hlo]
    rw [hlo] at hlp
    go_enter Try.func204, Try.ntmps204
    go_wp2_with fail
    rw [← hW]; clear hW
    refine (areNumbers_any _ _ _ _ _ h0 hx0).mono ?_; rintro e w1 ⟨rfl, hb1⟩
    rw [hq]
    have g1 := bthen g0 hb1
    have k1 := kB.call hb1
    have h1 := QvR.next hb1 h0
    have hx1 := SlI.next hb1 hx0
    clear c0 c1 c2
    have d0 := k1.cell' (i := 0) rfl
    have d1 := k1.cell' (i := 1) rfl
    have d2 := k1.cell' (i := 2) rfl
    go_wp2_with fail
    refine (hasVertex_any _ _ _ _ h1 HV1.out).mono ?_; rintro e w2 ⟨rfl, hb2⟩
    rw [hin]
    have g2 := bthen g1 hb2
    have k2 := k1.call hb2
    have h2 := QvR.next hb2 h1
    have hx2 := SlI.next hb2 hx1
    clear d0 d1 d2
    have d0 := k2.cell' (i := 0) rfl
    have d1 := k2.cell' (i := 1) rfl
    have d2 := k2.cell' (i := 2) rfl
    go_wp2_with fail
    refine (symmetric_any _ _ _ h2 HQ1.out).mono ?_; rintro e w3 ⟨mv, rfl, hm, hb3⟩
    have g3 := bthen g2 hb3
    have k3 := k2.call hb3
    have h3 := QvR.next hb3 h2
    have hx3 := SlI.next hb3 hx2
    obtain ⟨gm, cm, gr, cr, rfl, m1, hrow, _, hcr1, hcr2⟩ := hm.entry hsV.out hnV
    have m2 := (hrow.cellG (j := n) (by rw [rowF_length]; exact hnV)).1
    rw [rowF_getD _ hnV, HZ.out] at m2
    clear hm hrow d0 d1 d2 g0 g1 g2 hb1 hb2 hb3 kB k1 k2 h0 h1 h2 hx0 hx1 hx2
    have d0 := k3.cell' (i := 0) rfl
    have d1 := k3.cell' (i := 1) rfl
    have d2 := k3.cell' (i := 2) rfl
    have hxp : 0 < x.length := by have := hxV.out; omega
    have hxr : ∀ y ∈ x, I64 y := fun y hy => by have := HQ3.out y hy; exact ⟨by omega, by omega⟩
    go_wp2_with fail
    refine (clone_any _ x _ hx3 hxp hxr).mono ?_; rintro e w4 ⟨g, gc, rfl, ho4, hgc1, hgc2, hb4⟩
    have HXR := Lib.hid hxr
    have g4 := bthen g3 hb4
    have k4 := k3.call hb4
    have h4 := QvR.next hb4 h3
    have hx4 := SlI.next hb4 hx3
    clear d0 d1 d2 m1 m2 hxr
    have d0 := k4.cell' (i := 0) rfl
    have d1 := k4.cell' (i := 1) rfl
    have d2 := k4.cell' (i := 2) rfl
    go_wp2_with fail
    refine (symmetric_any _ _ _ h4 HQ1.out).mono ?_; rintro e w5 ⟨mv, rfl, hm, hb5⟩
    obtain ⟨gm2, cm2, gr2, cr2, rfl, m1, hrow, hgr2, hcr3, hcr4⟩ := hm.entry hsV.out hnV
    have hgw4 : g < w4.heap.size := (ho4.lt g rfl).2
    have hb4' := g4.trans (hb5.mono g4.size)
    have ho5 := (ho4.lower g3.size).below hb5
    have hbw4 := g4.size
    have hE0 := set_self (x := x) (n := n)
    obtain ⟨E, hE⟩ : ∃ E, ent q q.f.length n = E := ⟨_, rfl⟩
    have hgr : ∀ i, -12 ≤ E i ∧ E i ≤ 12 := fun i => by have := ent_rng q q.f.length n i hl6; rw [hE] at this; omega
    have HGR := Lib.hid hgr
    have hsr := Lib.hid (dotS_rng hgr HQ3.out)
    have hRL : Hid (reflL q x n = x.set n (x.getD n 0 - dotS E x V)) := by show _ = _; rw [reflL, hxV.out, hE]
    rw [hE] at hrow
    have HXN := Lib.hid (getD_rng HQ3.out n)
    have hwg : w.heap.size ≤ g := Nat.le_trans g3.size (ho4.lt g rfl).1
    rw [← hE0, show x.getD n 0 = x.getD n 0 - dotS E x 0 by simp [dotS]] at ho5
    have HLX := Lib.hid (show (x.set n (x.getD n 0 - dotS E x 0)).length = x.length by simp)
    rw [HLX.out] at ho5
    clear hE hgr hE0 hm hb5 ho4 hb4 g4 k4 h4 hx4 d0 d1 d2 k3 h3 hx3 g3
    have hmo : Try.prog.follows .mixedOrders = true := by kernel_rfl
    go_wp2
    clear m1
    go_loopw [40] (fun i wr => ∃ k : Nat, k ≤ V ∧ i = .int .i64 k ∧ OwnI wr w.heap.size (.slice (some ⟨g, 0, none⟩) x.length gc) (x.set n (x.getD n 0 - dotS E x k)) ∧ OwnI wr w4.heap.size (.slice (some ⟨gr2, 0, none⟩) V cr2) (rowF V E) ∧ Below w.heap.size w wr) (fun i _ => V - (intOf i).toNat)
    case atStart => exact ⟨0, Nat.zero_le _, rfl, ho5, hrow, hb4'⟩
    case round =>
      clear ho5 hrow hb4'
      obtain ⟨k, hk, rfl, hown, hrow, hbel⟩ := hrel
      by_cases hlt : k < V
      · have hsk := hsr.out k
        have hlx : k < x.length := by have := hxV.out; omega
        have hnx : n < x.length := by have := hxV.out; omega
        obtain ⟨b2, o2, t, rfl, hb2, HT, t1, _⟩ := SlI.at_ HXO.out hlx
        have t2 := bcell hbel hb2 t1
        have r1 := (hrow.cellG (j := k) (by rw [rowF_length]; exact hlt)).1
        rw [rowF_getD _ hlt] at r1
        have ci := (hown.cellG (j := n) (by simpa using hnx)).1
        have fi := hown.frozenG n
        rw [show (x.set n (x.getD n 0 - dotS E x k)).getD n 0 = x.getD n 0 - dotS E x k by rw [List.getD_eq_getElem?_getD, List.getElem?_set, if_pos rfl, if_pos hnx]; rfl] at ci
        have hxn := HXN.out
        have hyr := HGR.out k
        have htr := HQ3.out t (List.mem_of_getElem? HT.out)
        obtain ⟨y, hy⟩ : ∃ y, E k = y := ⟨_, rfl⟩
        rw [hy] at r1 hyr
        have hpr := mul_rng hyr htr
        obtain ⟨p, hp⟩ : ∃ p, y * t = p := ⟨_, rfl⟩
        rw [hp] at hpr
        have hst : x.getD n 0 - dotS E x (k + 1) = x.getD n 0 - dotS E x k - p := by
          have : x.getD k 0 = t := by rw [List.getD_eq_getElem?_getD, HT.out]; rfl
          rw [dotS, hy, this, hp]; omega
        obtain ⟨a, ha⟩ : ∃ a, x.getD n 0 - dotS E x k = a := ⟨_, rfl⟩
        rw [ha] at ci hst hown
        have har : -6100 ≤ a ∧ a ≤ 6100 := by omega
        have hpt := hown.put (j := n) (x := a - p) ⟨by omega, by omega⟩
        rw [List.set_set] at hpt
        have hrw := hrow.kept hpt.2 (.inr (by simp [Value.ownBlock]; omega))
        have hbb := hbel.grown hpt.2 (by have := hbel.size; omega) (fun j hj => by injection hj with hj; omega)
        have HP := Lib.hid (show OwnI (wr.setCell ⟨g, n, none⟩ (.int .i64 (a - p))) w.heap.size (.slice (some ⟨g, 0, none⟩) x.length gc) (x.set n (x.getD n 0 - dotS E x (k + 1))) by rw [hst]; exact hpt.1)
        have HRW := Lib.hid hrw
        have HBB := Lib.hid hbb
        clear hpt hrw hbb hst ha hy hown hrow hsk hxn t1 hbel
        go_wp2_with fail
        go_region_o
        go_wp2
        go_roundw
        case rel => exact ⟨k + 1, by omega, by go_num, HP.out.drewN 1, HRW.out.drewN 1, below_drewN HBB.out 1⟩
        case measure => simp [intOf]; omega
      · have hkV : Hid (k = V) := by show _ = _; omega
        rw [hkV.out, ← hRL.out] at hown
        go_wp2
        exact bodyPost_ret (v := .tuple #[.slice (some ⟨g, 0, none⟩) x.length gc, .bool true]) (by simp [results, go_sem]) rfl ⟨_, by rw [hF.out], by rw [hF.out]; exact IntsO.of_own hown, hbel⟩
  · have hF : Hid (reflQ q x n = ([], false)) := by show _ = _; simp [reflQ, hlo]
    rw [hlo] at hlp
    go_enter Try.func204, Try.ntmps204
    go_wp2_with fail
    rw [← hW]; clear hW
    refine (areNumbers_any _ _ _ _ _ h0 hx0).mono ?_; rintro e w1 ⟨rfl, hb1⟩
    rw [hq]
    have g1 := bthen g0 hb1
    have k1 := kB.call hb1
    have h1 := QvR.next hb1 h0
    clear c0 c1 c2
    have d0 := k1.cell' (i := 0) rfl
    have d1 := k1.cell' (i := 1) rfl
    have d2 := k1.cell' (i := 2) rfl
    go_wp2_with fail
    refine (hasVertex_any _ _ _ _ h1 HV1.out).mono ?_; rintro e w2 ⟨rfl, hb2⟩
    rw [hin]
    have g2 := bthen g1 hb2
    have k2 := k1.call hb2
    have h2 := QvR.next hb2 h1
    clear d0 d1 d2
    have d0 := k2.cell' (i := 0) rfl
    have d1 := k2.cell' (i := 1) rfl
    have d2 := k2.cell' (i := 2) rfl
    go_wp2_with fail
    refine (symmetric_any _ _ _ h2 HQ1.out).mono ?_; rintro e w3 ⟨mv, rfl, hm, hb3⟩
    have g3 := bthen g2 hb3
    obtain ⟨gm, cm, gr, cr, rfl, m1, hrow, _, hcr1, hcr2⟩ := hm.entry hsV.out hnV
    have m2 := (hrow.cellG (j := n) (by rw [rowF_length]; exact hnV)).1
    rw [rowF_getD _ hnV, HZ.out] at m2
    clear hm hrow
    go_wp2
    exact bodyPost_ret (v := .tuple #[.slice none 0 0, .bool false]) (by simp [results, go_sem]) rfl ⟨_, by rw [hF.out], by rw [hF.out]; exact IntsO.nil_ _ _ _, g3⟩
end Go.Proofs.Ytjhllgldllbaaaa
