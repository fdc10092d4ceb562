/- FnReflections: the law holds for every argument. Part 4 of 13 of the proof: DrwN, NetD, DrwR, Order, Order2, PthP, Order3. No condition. -/
import Derived.Test.YtaefpblpfjhgoaaBReflections3
/- The draws of number vectors and words, and of quivers of finite kind. -/
namespace Go.Proofs.Ytaefpblpfjhgoaa
set_option linter.unusedVariables false
set_option linter.unusedSimpArgs false
open Go.RowKit

theorem IntsO.ck {w w' : World} {lo hi c : Nat} {v : Value} {l : List Int} (h : IntsO w lo hi v l) (k : Ck c w w') (hc : c < lo) : IntsO w' lo hi v l := h.chg k.chg (.inr (by omega))
theorem OwnI.ck {w w' : World} {lo c : Nat} {v : Value} {l : List Int} (h : OwnI w lo v l) (k : Ck c w w') (hc : c < lo) : OwnI w' lo v l := ((IntsO.of_own h).ck k hc).1
theorem IntsO.wid2 {w : World} {lo hi lo' hi' : Nat} {v : Value} {l : List Int} (h : IntsO w lo hi v l) (h1 : lo' ≤ lo) (h2 : hi ≤ hi') : IntsO w lo' hi' v l := ⟨h.1.lower h1, fun k hk => Nat.lt_of_lt_of_le (h.2 k hk) h2⟩
theorem OwnI.adr {w : World} {lo n c : Nat} {A : Option Addr} {l : List Int} (h : OwnI w lo (.slice A n c) l) (h0 : 0 < l.length) : ∃ g, A = some ⟨g, 0, none⟩ ∧ lo ≤ g ∧ g < w.heap.size := by
  rcases h.1.2 with ⟨_, h1⟩ | ⟨g, cap, cur, e, hg, _⟩
  · omega
  · injection e with e1 _ _
    subst e1
    exact ⟨g, rfl, hg, (h.lt g rfl).2⟩
set_option maxHeartbeats 3200000 in
set_option maxRecDepth 100000 in
theorem l18Numbers_any (c : Nat) (V : Int) (A C : Option Addr) (n1 c1 n2 c2 : Nat) (w0 : World) (hc : Cur w0 c) (hV : I64 V) :
    Calls Try.prog 31 #[.pointer (some ⟨c, 0, none⟩), .agg #[.int .i64 V, .slice A n1 c1, .slice C n2 c2]] w0 fun e w' => ∃ v l, e = .returned v ∧ IntsO w' w0.heap.size w'.heap.size v l ∧ l.length ≤ 5 ∧ Ck c w0 w' := by
  have hcl := hc.lt
  obtain ⟨hV1, hV2⟩ := hV
  obtain ⟨W, hW⟩ : ∃ W, (w0.alloc (.cells #[.int .i64 V, .slice A n1 c1, .slice C n2 c2] 26)).alloc (.cells #[] 3) = W := ⟨_, rfl⟩
  have gb : Below w0.heap.size w0 W := by rw [← hW]; exact ((Below.refl _ _).alloc (Nat.le_refl _) _).alloc (by simp) _
  have kB : Blk W w0.heap.size 26 #[.int .i64 V, .slice A n1 c1, .slice C n2 c2] := by rw [← hW]; exact (Blk.new _ _ _).alloc _
  have hO : OwnI W (w0.heap.size + 1) (.slice (some ⟨w0.heap.size + 1, 0, none⟩) 0 0) [] := by
    rw [← hW]
    have := OwnI.made (w := w0.alloc (.cells #[.int .i64 V, .slice A n1 c1, .slice C n2 c2] 26)) (base := w0.heap.size + 1) 3 rfl (by simp)
    simpa only [World.size_alloc] using this
  have g0 : Ck c w0 W := Ck.of_below gb
  have sW : W.heap.size = w0.heap.size + 1 + 1 := by rw [← hW]; simp
  have hcw : w0.heap.size ≠ c := by omega
  have KB := Lib.hid kB
  have hC0 := g0.keep hc
  clear kB gb hc
  go_enter Try.func31, Try.ntmps31
  go_wp2
  clear hW
  go_loopw [5, 6] (fun xv i wr => ∃ (k : Nat) (l : List Int) (X : Option Addr) (cx : Nat), k ≤ 5 ∧ i = .int .i64 k ∧ xv = .slice X k cx ∧ l.length = k ∧ OwnI wr (w0.heap.size + 1) (.slice X k cx) l ∧ Cur wr c ∧ Ck c w0 wr ∧ Blk wr w0.heap.size 26 #[.int .i64 V, .slice A n1 c1, .slice C n2 c2]) (fun _ i _ => 5 - (intOf i).toNat)
  case atStart => exact ⟨0, [], _, 0, Nat.zero_le _, rfl, rfl, rfl, hO, hC0, g0, KB.out⟩
  case round =>
    clear hO hC0 g0
    obtain ⟨k, l, X, cx, hk, rfl, rfl, hl, hO, hC, hB, kr⟩ := hrel
    have c0 := kr.cell' (i := 0) rfl
    have hsz := hB.size
    have HL := Lib.hid hl
    have HO := Lib.hid hO
    have HC := Lib.hid hC
    have HB := Lib.hid hB
    have HK := Lib.hid kr
    have hszK := kr.lt
    clear hl hO hC hB kr
    by_cases hlt : (k : Int) < V ∧ k < 5
    · obtain ⟨h1, h2⟩ := hlt
      go_wp2_with fail
      refine (l1Below_any c 5 _ HC.out ⟨by omega, by omega⟩).mono ?_; rintro e w5 ⟨a, ha, _, rfl, hb5⟩
      have ha4 : a ≤ 4 := by omega
      have hO5 := HO.out.ck hb5 (by omega)
      have gX := below_alloc w5 (.cells #[.int .i64 ((a : Int) - 1)] 3)
      have kX := Blk.new w5 3 #[.int .i64 ((a : Int) - 1)]
      have HOX := Lib.hid (hO5.below gX)
      have HKX := Lib.hid kX
      have hs5 := hb5.size
      have HCX := Lib.hid ((Ck.of_below (c := c) gX).keep (hb5.keep HC.out))
      have HBX := Lib.hid ((HB.out.trans hb5).trans (Ck.of_below gX))
      have HKK := Lib.hid ((HK.out.ck hb5 hcw).call gX)
      clear hb5 hO5 gX kX c0
      (go_wp2_with (at_builtin; refine Hold.stop ?_)); unfold Hold
      refine wpList_appI (by rfl) (.tmp 18) (.tmp 22) (by rfl) (w0.heap.size + 1) (w5.alloc (.cells #[.int .i64 ((a : Int) - 1)] 3)).heap.size _ l (by rfl) HOX.out (some ⟨w5.heap.size, 0, none⟩) 1 1 [(a : Int) - 1] (by rfl) rfl (sl_one2 HKX.out ⟨by omega, by omega⟩) (by have := HL.out; simp; omega) (by simp; omega) ?_
      intro v3 w3 ho3 hg3 hv3
      have hlow : Below (w0.heap.size + 1) (w5.alloc (.cells #[.int .i64 ((a : Int) - 1)] 3)) w3 := below_grown hg3 (fun j hj => (HOX.out.lt j hj).1) (by simp; omega)
      obtain ⟨A3, c3, rfl, _⟩ := ho3.form
      have hl3 : (l ++ [(a : Int) - 1]).length = k + 1 := by rw [List.length_append, HL.out]; rfl
      rw [hl3] at ho3 ⊢
      have HL3 := Lib.hid hl3
      have HO3 := Lib.hid ho3
      have HC3 := Lib.hid (HCX.out.below hlow (by omega))
      have HB3 := Lib.hid (HBX.out.low hlow (by omega) (by omega))
      have HK3 := Lib.hid (HKK.out.below hlow (by omega))
      clear ho3 hg3 hv3 hlow hl3
      go_wp2
      go_roundw
      case rel => exact ⟨k + 1, _, A3, c3, by omega, by go_num, rfl, HL3.out, HO3.out, HC3.out, HB3.out, HK3.out⟩
      case measure => simp [intOf]; omega
    · by_cases hk0 : 0 < k
      · have hkn : ¬ ((k : Int) < V ∧ k < 5) := hlt
        by_cases hv : (k : Int) < V
        · have hk5 : ¬ k < 5 := fun h => hlt ⟨hv, h⟩
          clear hlt hkn
          go_wp2_with fail
          refine (l1Once_any c 12 _ HC.out ⟨by omega, by omega⟩).mono ?_; rintro e w5 ⟨b, rfl, hb5⟩
          have HC5 := Lib.hid (hb5.keep HC.out)
          have HO5 := Lib.hid (HO.out.ck hb5 (by omega))
          have HB5 := Lib.hid (HB.out.trans hb5)
          have hs5 := hb5.size
          clear hb5
          rcases b with _ | _
          · go_wp2
            go_ret
            exact ⟨_, l, rfl, (IntsO.of_own HO5.out).wid2 (by omega) (Nat.le_refl _), by have := HL.out; omega, HB5.out⟩
          · go_wp2_with fail
            obtain ⟨W4, hW4⟩ : ∃ z, w5.alloc (.cells #[.int .i64 (-101), .int .i64 101, .int .i64 100, .int .i64 9223372036854775807] 3) = z := ⟨_, rfl⟩
            have gb : Below w5.heap.size w5 W4 := by rw [← hW4]; exact below_alloc _ _
            have kS : Blk W4 w5.heap.size 3 #[.int .i64 (-101), .int .i64 101, .int .i64 100, .int .i64 9223372036854775807] := by rw [← hW4]; exact Blk.new _ _ _
            rw [hW4]
            refine (l1PickInt_any IntP c w5.heap.size 4 4 _ _ ((Ck.of_below (c := c) gb).keep HC5.out) kS (by omega) (by omega) (by omega) (fun i hi => ?_) fun v h => ⟨_, h.choose_spec.1⟩).mono ?_
            · match i, hi with
              | 0, _ => exact ⟨_, rfl, _, rfl, by decide, by decide⟩
              | 1, _ => exact ⟨_, rfl, _, rfl, by decide, by decide⟩
              | 2, _ => exact ⟨_, rfl, _, rfl, by decide, by decide⟩
              | 3, _ => exact ⟨_, rfl, _, rfl, by decide, by decide⟩
              | i + 4, h => omega
            rintro e w6 ⟨v, ⟨x, rfl, hx⟩, rfl, hb6⟩
            have hO6 := (HO5.out.below gb).ck hb6 (by omega)
            have HB6 := Lib.hid ((HB5.out.trans (Ck.of_below gb)).trans hb6)
            have hs4 := gb.size
            have hs6 := hb6.size
            obtain ⟨gx, rfl, hgx1, hgx2⟩ := hO6.adr (by rw [HL.out]; exact hk0)
            have cX := (hO6.cellG (j := 0) (by rw [HL.out]; exact hk0)).1
            have fX := hO6.frozenG 0
            have hput := hO6.put (j := 0) hx
            have hcg : Chg gx (gx + 1) w6 (w6.setCell ⟨gx, 0, none⟩ (.int .i64 x)) := chg_set (lo := gx) (hi := gx + 1) (w := w6) (p := ⟨gx, 0, none⟩) (u := .int .i64 x) (Nat.le_refl _) (Nat.lt_succ_self _)
            have OF := Lib.hid hput.1
            have GF := Lib.hid (HB6.out.low (lo := w0.heap.size + 1) (hcg.below (by omega) (by omega)) (by omega) (by omega))
            have HLS := Lib.hid (show (l.set 0 x).length ≤ 5 by rw [List.length_set, HL.out]; exact hk)
            clear hput hcg hO6 hb6 gb kS hW4
            go_wp2
            go_ret
            exact ⟨_, _, rfl, (IntsO.of_own OF.out).wid2 (by omega) (by simp), HLS.out, GF.out⟩
        · clear hlt hkn
          go_wp2_with fail
          refine (l1Once_any c 12 _ HC.out ⟨by omega, by omega⟩).mono ?_; rintro e w5 ⟨b, rfl, hb5⟩
          have HC5 := Lib.hid (hb5.keep HC.out)
          have HO5 := Lib.hid (HO.out.ck hb5 (by omega))
          have HB5 := Lib.hid (HB.out.trans hb5)
          have hs5 := hb5.size
          clear hb5
          rcases b with _ | _
          · go_wp2
            go_ret
            exact ⟨_, l, rfl, (IntsO.of_own HO5.out).wid2 (by omega) (Nat.le_refl _), by have := HL.out; omega, HB5.out⟩
          · go_wp2_with fail
            obtain ⟨W4, hW4⟩ : ∃ z, w5.alloc (.cells #[.int .i64 (-101), .int .i64 101, .int .i64 100, .int .i64 9223372036854775807] 3) = z := ⟨_, rfl⟩
            have gb : Below w5.heap.size w5 W4 := by rw [← hW4]; exact below_alloc _ _
            have kS : Blk W4 w5.heap.size 3 #[.int .i64 (-101), .int .i64 101, .int .i64 100, .int .i64 9223372036854775807] := by rw [← hW4]; exact Blk.new _ _ _
            rw [hW4]
            refine (l1PickInt_any IntP c w5.heap.size 4 4 _ _ ((Ck.of_below (c := c) gb).keep HC5.out) kS (by omega) (by omega) (by omega) (fun i hi => ?_) fun v h => ⟨_, h.choose_spec.1⟩).mono ?_
            · match i, hi with
              | 0, _ => exact ⟨_, rfl, _, rfl, by decide, by decide⟩
              | 1, _ => exact ⟨_, rfl, _, rfl, by decide, by decide⟩
              | 2, _ => exact ⟨_, rfl, _, rfl, by decide, by decide⟩
              | 3, _ => exact ⟨_, rfl, _, rfl, by decide, by decide⟩
              | i + 4, h => omega
            rintro e w6 ⟨v, ⟨x, rfl, hx⟩, rfl, hb6⟩
            have hO6 := (HO5.out.below gb).ck hb6 (by omega)
            have HB6 := Lib.hid ((HB5.out.trans (Ck.of_below gb)).trans hb6)
            have hs4 := gb.size
            have hs6 := hb6.size
            obtain ⟨gx, rfl, hgx1, hgx2⟩ := hO6.adr (by rw [HL.out]; exact hk0)
            have cX := (hO6.cellG (j := 0) (by rw [HL.out]; exact hk0)).1
            have fX := hO6.frozenG 0
            have hput := hO6.put (j := 0) hx
            have hcg : Chg gx (gx + 1) w6 (w6.setCell ⟨gx, 0, none⟩ (.int .i64 x)) := chg_set (lo := gx) (hi := gx + 1) (w := w6) (p := ⟨gx, 0, none⟩) (u := .int .i64 x) (Nat.le_refl _) (Nat.lt_succ_self _)
            have OF := Lib.hid hput.1
            have GF := Lib.hid (HB6.out.low (lo := w0.heap.size + 1) (hcg.below (by omega) (by omega)) (by omega) (by omega))
            have HLS := Lib.hid (show (l.set 0 x).length ≤ 5 by rw [List.length_set, HL.out]; exact hk)
            clear hput hcg hO6 hb6 gb kS hW4
            go_wp2
            go_ret
            exact ⟨_, _, rfl, (IntsO.of_own OF.out).wid2 (by omega) (by simp), HLS.out, GF.out⟩
      · have hkn : ¬ ((k : Int) < V ∧ k < 5) := hlt
        by_cases hv : (k : Int) < V
        · have hk5 : ¬ k < 5 := fun h => hlt ⟨hv, h⟩
          omega
        · clear hlt hkn
          go_wp2
          go_ret
          have h1 := (IntsO.of_own HO.out).wid2 (lo' := w0.heap.size) (hi' := wr.heap.size) (by omega) (Nat.le_refl _)
          have h2 : l.length ≤ 5 := by have := HL.out; omega
          first | exact ⟨_, l, rfl, h1, h2, HB.out⟩ | exact ⟨_, rfl, l, h1, h2, HB.out⟩ | exact ⟨_, rfl, ⟨l, h1, h2⟩, HB.out⟩
set_option maxHeartbeats 3200000 in
set_option maxRecDepth 100000 in
theorem l21Word_any (c : Nat) (V : Int) (A C : Option Addr) (n1 c1 n2 c2 : Nat) (w0 : World) (hc : Cur w0 c) (hV : I64 V) :
    Calls Try.prog 56 #[.pointer (some ⟨c, 0, none⟩), .agg #[.int .i64 V, .slice A n1 c1, .slice C n2 c2]] w0 fun e w' => ∃ v l, e = .returned v ∧ IntsO w' w0.heap.size w'.heap.size v l ∧ l.length ≤ 7 ∧ Ck c w0 w' := by
  have hcl := hc.lt
  obtain ⟨hV1, hV2⟩ := hV
  obtain ⟨W, hW⟩ : ∃ W, (w0.alloc (.cells #[.int .i64 V, .slice A n1 c1, .slice C n2 c2] 26)).alloc (.cells #[] 3) = W := ⟨_, rfl⟩
  have gb : Below w0.heap.size w0 W := by rw [← hW]; exact ((Below.refl _ _).alloc (Nat.le_refl _) _).alloc (by simp) _
  have kB : Blk W w0.heap.size 26 #[.int .i64 V, .slice A n1 c1, .slice C n2 c2] := by rw [← hW]; exact (Blk.new _ _ _).alloc _
  have hO : OwnI W (w0.heap.size + 1) (.slice (some ⟨w0.heap.size + 1, 0, none⟩) 0 0) [] := by
    rw [← hW]
    have := OwnI.made (w := w0.alloc (.cells #[.int .i64 V, .slice A n1 c1, .slice C n2 c2] 26)) (base := w0.heap.size + 1) 3 rfl (by simp)
    simpa only [World.size_alloc] using this
  have g0 : Ck c w0 W := Ck.of_below gb
  have sW : W.heap.size = w0.heap.size + 1 + 1 := by rw [← hW]; simp
  have hcw : w0.heap.size ≠ c := by omega
  have KB := Lib.hid kB
  have hC0 := g0.keep hc
  clear kB gb hc
  go_enter Try.func56, Try.ntmps56
  go_wp2_with fail
  clear hW
  refine (l1Below_any c 6 _ hC0 ⟨by omega, by omega⟩).mono ?_; rintro e w1 ⟨m, hm, _, rfl, hb1⟩
  have hm5 : m ≤ 5 := by omega
  have hO1 := hO.ck hb1 (by omega)
  have hC1 := hb1.keep hC0
  have hB1 := g0.trans hb1
  have hK1 := KB.out.ck hb1 hcw
  clear hb1 hO hC0 g0 hm
  go_wp2
  go_loopw [5, 6] (fun xv nv wr => ∃ (k ln : Nat) (l : List Int) (X : Option Addr) (cx : Nat), k ≤ 5 ∧ nv = .int .i64 k ∧ xv = .slice X ln cx ∧ l.length = ln ∧ ln + k ≤ 5 ∧ OwnI wr (w0.heap.size + 1) (.slice X ln cx) l ∧ Cur wr c ∧ Ck c w0 wr ∧ Blk wr w0.heap.size 26 #[.int .i64 V, .slice A n1 c1, .slice C n2 c2]) (fun _ nv _ => (intOf nv).toNat)
  case atStart => exact ⟨m, 0, [], _, 0, hm5, rfl, rfl, rfl, by omega, hO1, hC1, hB1, hK1⟩
  case round =>
    clear hO1 hC1 hB1 hK1
    obtain ⟨k, ln, l, X, cx, hk, rfl, rfl, hl, hlk, hO, hC, hB, kr⟩ := hrel
    have c0 := kr.cell' (i := 0) rfl
    have hsz := hB.size
    have HL := Lib.hid hl
    have HO := Lib.hid hO
    have HC := Lib.hid hC
    have HB := Lib.hid hB
    have HK := Lib.hid kr
    have hszK := kr.lt
    clear hl hO hC hB kr
    by_cases hlt : 0 < k
    · by_cases hv1 : V < 5
      · by_cases hv2 : 1 < V
        · go_wp2_with fail
          refine (l1Below_any c _ _ HC.out ⟨by omega, by omega⟩).mono ?_; rintro e w5 ⟨a, ha, ha2, rfl, hb5⟩
          have hO5 := HO.out.ck hb5 (by omega)
          have gX := below_alloc w5 (.cells #[.int .i64 (a : Int)] 3)
          have kX := Blk.new w5 3 #[.int .i64 (a : Int)]
          have HOX := Lib.hid (hO5.below gX)
          have HKX := Lib.hid kX
          have hs5 := hb5.size
          have HCX := Lib.hid ((Ck.of_below (c := c) gX).keep (hb5.keep HC.out))
          have HBX := Lib.hid ((HB.out.trans hb5).trans (Ck.of_below gX))
          have HKK := Lib.hid ((HK.out.ck hb5 hcw).call gX)
          clear hb5 hO5 gX kX c0
          (go_wp2_with (at_builtin; refine Hold.stop ?_)); unfold Hold
          refine wpList_appI (by rfl) (.tmp 14) (.tmp 21) (by rfl) (w0.heap.size + 1) (w5.alloc (.cells #[.int .i64 (a : Int)] 3)).heap.size _ l (by rfl) HOX.out (some ⟨w5.heap.size, 0, none⟩) 1 1 [(a : Int)] (by rfl) rfl (sl_one2 HKX.out ⟨by omega, by omega⟩) (by have := HL.out; simp; omega) (by simp; omega) ?_
          intro v3 w3 ho3 hg3 hv3
          have hlow : Below (w0.heap.size + 1) (w5.alloc (.cells #[.int .i64 (a : Int)] 3)) w3 := below_grown hg3 (fun j hj => (HOX.out.lt j hj).1) (by simp; omega)
          obtain ⟨A3, c3, rfl, _⟩ := ho3.form
          have hl3 : (l ++ [(a : Int)]).length = ln + 1 := by rw [List.length_append, HL.out]; rfl
          rw [hl3] at ho3 ⊢
          have HL3 := Lib.hid hl3
          have HO3 := Lib.hid ho3
          have HC3 := Lib.hid (HCX.out.below hlow (by omega))
          have HB3 := Lib.hid (HBX.out.low hlow (by omega) (by omega))
          have HK3 := Lib.hid (HKK.out.below hlow (by omega))
          clear ho3 hg3 hv3 hlow hl3
          go_wp2
          go_roundw
          case rel => exact ⟨k - 1, ln + 1, _, A3, c3, by omega, by rw [show ((k - 1 : Nat) : Int) = (k : Int) - 1 by omega], rfl, HL3.out, by omega, HO3.out, HC3.out, HB3.out, HK3.out⟩
          case measure => simp [intOf]; omega
        · go_wp2_with fail
          refine (l1Below_any c _ _ HC.out ⟨by omega, by omega⟩).mono ?_; rintro e w5 ⟨a, ha, ha2, rfl, hb5⟩
          have hO5 := HO.out.ck hb5 (by omega)
          have gX := below_alloc w5 (.cells #[.int .i64 (a : Int)] 3)
          have kX := Blk.new w5 3 #[.int .i64 (a : Int)]
          have HOX := Lib.hid (hO5.below gX)
          have HKX := Lib.hid kX
          have hs5 := hb5.size
          have HCX := Lib.hid ((Ck.of_below (c := c) gX).keep (hb5.keep HC.out))
          have HBX := Lib.hid ((HB.out.trans hb5).trans (Ck.of_below gX))
          have HKK := Lib.hid ((HK.out.ck hb5 hcw).call gX)
          clear hb5 hO5 gX kX c0
          (go_wp2_with (at_builtin; refine Hold.stop ?_)); unfold Hold
          refine wpList_appI (by rfl) (.tmp 14) (.tmp 21) (by rfl) (w0.heap.size + 1) (w5.alloc (.cells #[.int .i64 (a : Int)] 3)).heap.size _ l (by rfl) HOX.out (some ⟨w5.heap.size, 0, none⟩) 1 1 [(a : Int)] (by rfl) rfl (sl_one2 HKX.out ⟨by omega, by omega⟩) (by have := HL.out; simp; omega) (by simp; omega) ?_
          intro v3 w3 ho3 hg3 hv3
          have hlow : Below (w0.heap.size + 1) (w5.alloc (.cells #[.int .i64 (a : Int)] 3)) w3 := below_grown hg3 (fun j hj => (HOX.out.lt j hj).1) (by simp; omega)
          obtain ⟨A3, c3, rfl, _⟩ := ho3.form
          have hl3 : (l ++ [(a : Int)]).length = ln + 1 := by rw [List.length_append, HL.out]; rfl
          rw [hl3] at ho3 ⊢
          have HL3 := Lib.hid hl3
          have HO3 := Lib.hid ho3
          have HC3 := Lib.hid (HCX.out.below hlow (by omega))
          have HB3 := Lib.hid (HBX.out.low hlow (by omega) (by omega))
          have HK3 := Lib.hid (HKK.out.below hlow (by omega))
          clear ho3 hg3 hv3 hlow hl3
          go_wp2
          go_roundw
          case rel => exact ⟨k - 1, ln + 1, _, A3, c3, by omega, by rw [show ((k - 1 : Nat) : Int) = (k : Int) - 1 by omega], rfl, HL3.out, by omega, HO3.out, HC3.out, HB3.out, HK3.out⟩
          case measure => simp [intOf]; omega
      · go_wp2_with fail
        refine (l1Below_any c _ _ HC.out ⟨by omega, by omega⟩).mono ?_; rintro e w5 ⟨a, ha, ha2, rfl, hb5⟩
        have hO5 := HO.out.ck hb5 (by omega)
        have gX := below_alloc w5 (.cells #[.int .i64 (a : Int)] 3)
        have kX := Blk.new w5 3 #[.int .i64 (a : Int)]
        have HOX := Lib.hid (hO5.below gX)
        have HKX := Lib.hid kX
        have hs5 := hb5.size
        have HCX := Lib.hid ((Ck.of_below (c := c) gX).keep (hb5.keep HC.out))
        have HBX := Lib.hid ((HB.out.trans hb5).trans (Ck.of_below gX))
        have HKK := Lib.hid ((HK.out.ck hb5 hcw).call gX)
        clear hb5 hO5 gX kX c0
        (go_wp2_with (at_builtin; refine Hold.stop ?_)); unfold Hold
        refine wpList_appI (by rfl) (.tmp 14) (.tmp 21) (by rfl) (w0.heap.size + 1) (w5.alloc (.cells #[.int .i64 (a : Int)] 3)).heap.size _ l (by rfl) HOX.out (some ⟨w5.heap.size, 0, none⟩) 1 1 [(a : Int)] (by rfl) rfl (sl_one2 HKX.out ⟨by omega, by omega⟩) (by have := HL.out; simp; omega) (by simp; omega) ?_
        intro v3 w3 ho3 hg3 hv3
        have hlow : Below (w0.heap.size + 1) (w5.alloc (.cells #[.int .i64 (a : Int)] 3)) w3 := below_grown hg3 (fun j hj => (HOX.out.lt j hj).1) (by simp; omega)
        obtain ⟨A3, c3, rfl, _⟩ := ho3.form
        have hl3 : (l ++ [(a : Int)]).length = ln + 1 := by rw [List.length_append, HL.out]; rfl
        rw [hl3] at ho3 ⊢
        have HL3 := Lib.hid hl3
        have HO3 := Lib.hid ho3
        have HC3 := Lib.hid (HCX.out.below hlow (by omega))
        have HB3 := Lib.hid (HBX.out.low hlow (by omega) (by omega))
        have HK3 := Lib.hid (HKK.out.below hlow (by omega))
        clear ho3 hg3 hv3 hlow hl3
        go_wp2
        go_roundw
        case rel => exact ⟨k - 1, ln + 1, _, A3, c3, by omega, by rw [show ((k - 1 : Nat) : Int) = (k : Int) - 1 by omega], rfl, HL3.out, by omega, HO3.out, HC3.out, HB3.out, HK3.out⟩
        case measure => simp [intOf]; omega
    · go_wp2_with fail
      refine (l1Once_any c 14 _ HC.out ⟨by omega, by omega⟩).mono ?_; rintro e w5 ⟨b, rfl, hb5⟩
      have HC5 := Lib.hid (hb5.keep HC.out)
      have HO5 := Lib.hid (HO.out.ck hb5 (by omega))
      have HB5 := Lib.hid (HB.out.trans hb5)
      have hs5 := hb5.size
      clear hb5
      rcases b with _ | _
      · go_wp2
        go_ret
        have h1 := (IntsO.of_own HO5.out).wid2 (lo' := w0.heap.size) (hi' := w5.heap.size) (by omega) (Nat.le_refl _)
        have h2 : l.length ≤ 7 := by have := HL.out; omega
        first | exact ⟨_, l, rfl, h1, h2, HB5.out⟩ | exact ⟨_, rfl, l, h1, h2, HB5.out⟩ | exact ⟨_, rfl, ⟨l, h1, h2⟩, HB5.out⟩
      · go_wp2_with fail
        obtain ⟨W4, hW4⟩ : ∃ z, w5.alloc (.cells #[.int .i64 (-1), .int .i64 5] 3) = z := ⟨_, rfl⟩
        have gb : Below w5.heap.size w5 W4 := by rw [← hW4]; exact below_alloc _ _
        have kS : Blk W4 w5.heap.size 3 #[.int .i64 (-1), .int .i64 5] := by rw [← hW4]; exact Blk.new _ _ _
        rw [hW4]
        refine (l1PickInt_any IntP c w5.heap.size 2 2 _ _ ((Ck.of_below (c := c) gb).keep HC5.out) kS (by omega) (by omega) (by omega) (fun i hi => ?_) fun v h => ⟨_, h.choose_spec.1⟩).mono ?_
        · match i, hi with
          | 0, _ => exact ⟨_, rfl, _, rfl, by decide, by decide⟩
          | 1, _ => exact ⟨_, rfl, _, rfl, by decide, by decide⟩
          | i + 2, h => omega
        rintro e w6 ⟨v, ⟨x, rfl, hx⟩, rfl, hb6⟩
        have hO6 := (HO5.out.below gb).ck hb6 (by omega)
        have HB6 := Lib.hid ((HB5.out.trans (Ck.of_below gb)).trans hb6)
        have hs4 := gb.size
        have hs6 := hb6.size
        have gX := below_alloc w6 (.cells #[.int .i64 x] 3)
        have kX := Blk.new w6 3 #[.int .i64 x]
        have HOX := Lib.hid (hO6.below gX)
        have HKX := Lib.hid kX
        have HBX := Lib.hid (HB6.out.trans (Ck.of_below gX))
        clear hb6 hO6 gX kX c0 gb kS hW4
        (go_wp2_with (at_builtin; refine Hold.stop ?_)); unfold Hold
        refine wpList_appI (by rfl) (.tmp 25) (.tmp 29) (by rfl) (w0.heap.size + 1) (w6.alloc (.cells #[.int .i64 x] 3)).heap.size _ l (by rfl) HOX.out (some ⟨w6.heap.size, 0, none⟩) 1 1 [x] (by rfl) rfl (sl_one2 HKX.out hx) (by have := HL.out; simp; omega) (by simp; omega) ?_
        intro v3 w3 ho3 hg3 hv3
        have hlow : Below (w0.heap.size + 1) (w6.alloc (.cells #[.int .i64 x] 3)) w3 := below_grown hg3 (fun j hj => (HOX.out.lt j hj).1) (by simp; omega)
        have HO3 := Lib.hid ho3
        have HB3 := Lib.hid (HBX.out.low hlow (by omega) (by omega))
        have HLS := Lib.hid (show (l ++ [x]).length ≤ 7 by rw [List.length_append, HL.out]; simp; omega)
        have hsl : w0.heap.size + 1 ≤ w3.heap.size := by have := hlow.size; simp at this; omega
        clear ho3 hg3 hv3 hlow
        go_wp2
        go_ret
        exact ⟨_, _, rfl, (IntsO.of_own HO3.out).wid2 (by omega) (Nat.le_refl _), HLS.out, HB3.out⟩
set_option maxHeartbeats 3200000 in
set_option maxRecDepth 100000 in
theorem l20Quiver_any (c : Nat) (w0 : World) (hc : Cur w0 c) :
    Calls Try.prog 58 #[.pointer (some ⟨c, 0, none⟩)] w0 fun e w' => ∃ v q, e = .returned v ∧ QuivO w' w0.heap.size w'.heap.size v q ∧ q.f.length ≤ 62 ∧ q.t.length ≤ 62 ∧ Ck c w0 w' := by
  have hcl := hc.lt
  obtain ⟨W, hW⟩ : ∃ W, W = w0.alloc (.cells #[.int .i64 0, .slice none 0 0, .slice none 0 0] 26) := ⟨_, rfl⟩
  have g0 : Ck c w0 W := by rw [hW]; exact Ck.of_below (below_alloc _ _)
  have kR : Blk W w0.heap.size 26 #[.int .i64 0, .slice none 0 0, .slice none 0 0] := by rw [hW]; exact Blk.new _ _ _
  have sW : W.heap.size = w0.heap.size + 1 := by rw [hW]; simp
  have hcw : w0.heap.size ≠ c := by omega
  have KR := Lib.hid kR
  have G0 := Lib.hid g0
  have HC := Lib.hid hc
  clear kR hc
  go_enter Try.func58, Try.ntmps58
  go_wp2_with fail
  rw [← hW]; clear hW
  refine (l1Once_any c 6 _ (g0.keep HC.out) ⟨by omega, by omega⟩).mono ?_; rintro e w1 ⟨b, rfl, hb1⟩
  have HC1 := Lib.hid ((g0.trans hb1).keep HC.out)
  have s1 := hb1.size
  have HB1 := Lib.hid hb1
  have hclW : c < W.heap.size := by omega
  clear hb1 g0
  rcases b with _ | _
  · go_wp2_with fail
    obtain ⟨W4, hW4⟩ : ∃ z, w1.alloc (.cells #[.string ⟨#[65, 49]⟩, .string ⟨#[65, 50]⟩, .string ⟨#[65, 51]⟩, .string ⟨#[65, 51, 105, 110]⟩, .string ⟨#[65, 52]⟩, .string ⟨#[68, 52]⟩, .string ⟨#[68, 53]⟩] 9) = z := ⟨_, rfl⟩
    have gb : Below w1.heap.size w1 W4 := by rw [← hW4]; exact below_alloc _ _
    have kS : Blk W4 w1.heap.size 9 #[.string ⟨#[65, 49]⟩, .string ⟨#[65, 50]⟩, .string ⟨#[65, 51]⟩, .string ⟨#[65, 51, 105, 110]⟩, .string ⟨#[65, 52]⟩, .string ⟨#[68, 52]⟩, .string ⟨#[68, 53]⟩] := by rw [← hW4]; exact Blk.new _ _ _
    rw [hW4]
    refine (l1Pick_any StrP c w1.heap.size 7 7 _ _ ((Ck.of_below (c := c) gb).keep HC1.out) kS (by omega) (by omega) (by omega) (fun i hi => ?_) fun v h => h).mono ?_
    · match i, hi with
      | 0, _ => exact ⟨_, rfl, _, rfl⟩
      | 1, _ => exact ⟨_, rfl, _, rfl⟩
      | 2, _ => exact ⟨_, rfl, _, rfl⟩
      | 3, _ => exact ⟨_, rfl, _, rfl⟩
      | 4, _ => exact ⟨_, rfl, _, rfl⟩
      | 5, _ => exact ⟨_, rfl, _, rfl⟩
      | 6, _ => exact ⟨_, rfl, _, rfl⟩
      | i + 7, h => omega
    rintro e w5 ⟨v, ⟨s, rfl⟩, rfl, hb5⟩
    have HB5 := Lib.hid ((HB1.out.trans (Ck.of_below gb)).trans hb5)
    have hs5 := hb5.size
    have hs4 := gb.size
    clear hW4 gb kS hb5
    go_wp2_with fail
    refine (namedQuiver_any s _).mono ?_; rintro e w6 ⟨v6, b6, ⟨V6, F6, T6⟩, rfl, hQ6, hf6, ht6, hb6⟩
    obtain ⟨A6, c6, C6, d6, rfl⟩ := hQ6.form
    simp only at hf6 ht6 hQ6 ⊢
    obtain ⟨W7, hW7⟩ : ∃ z, w6.alloc (.cells #[.int .i64 V6, .slice A6 F6.length c6, .slice C6 T6.length d6] 26) = z := ⟨_, rfl⟩
    have ga : Below w6.heap.size w6 W7 := by rw [← hW7]; exact below_alloc _ _
    obtain ⟨gq, hgq⟩ : ∃ z, w6.heap.size = z := ⟨_, rfl⟩
    have kq : Blk W7 gq 26 #[.int .i64 V6, .slice A6 F6.length c6, .slice C6 T6.length d6] := by rw [← hW7, ← hgq]; exact Blk.new _ _ _
    have hs6 := hb6.size
    have hs7 := ga.size
    have hG : GQ W7 w5.heap.size gq V6 A6 c6 C6 d6 F6 T6 := by
      obtain ⟨a, b, e, hFm, hV⟩ := hQ6
      simp only [Value.agg.injEq, Array.mk.injEq, List.cons.injEq, and_true, true_and] at e
      obtain ⟨rfl, rfl⟩ := e
      exact ⟨kq, (hFm.below ga).mono (Nat.le_refl _) hs7, hV, by omega⟩
    have hB : Ck c W W7 := (HB5.out.trans (Ck.of_below hb6)).trans (Ck.of_below ga)
    have HL := Lib.hid (show F6.length ≤ 62 ∧ T6.length ≤ 62 by omega)
    have hg0 : w0.heap.size < gq := by omega
    clear ga kq hQ6 hb6 hf6 ht6
    have q0 := hG.1.cell' (i := 0) rfl
    have q1 := hG.1.cell' (i := 1) rfl
    have q2 := hG.1.cell' (i := 2) rfl
    have hbz := hB.size
    have hlw := hG.2.2.2
    have hQq := hG.quiv
    have k2 := KR.out.ck hB hcw
    have fr := k2.frozen
    have r0 := k2.cell' (i := 0) rfl
    have r1 := k2.cell' (i := 1) rfl
    have r2 := k2.cell' (i := 2) rfl
    have hc3 := ((chg_set (lo := w0.heap.size) (hi := w0.heap.size + 1) (w := W7) (p := ⟨w0.heap.size, 0, none⟩) (u := .int .i64 V6) (Nat.le_refl _) (Nat.lt_succ_self _)).trans (chg_set (p := ⟨w0.heap.size, 1, none⟩) (u := .slice A6 (F6).length c6) (Nat.le_refl _) (Nat.lt_succ_self _))).trans (chg_set (p := ⟨w0.heap.size, 2, none⟩) (u := .slice C6 (T6).length d6) (Nat.le_refl _) (Nat.lt_succ_self _))
    have OF := Lib.hid ((hQq.chg hc3 (.inr (by omega))).wid (lo' := w0.heap.size) (hi' := W7.heap.size) (by omega) (Nat.le_refl _))
    have GS := Lib.hid ((G0.out.trans hB).low (lo := w0.heap.size) (hc3.below (Nat.le_refl _) (by omega)) (Nat.le_refl _) hcl)
    clear hc3 k2 hQq hG hB
    go_wp2
    clear hW7 hgq
    exact bodyPost_ret (v := .agg #[.int .i64 V6, .slice A6 (F6).length c6, .slice C6 (T6).length d6]) (by simp [results, go_sem, r0, r1, r2]) rfl ⟨_, ⟨V6, F6, T6⟩, rfl, by simpa using OF.out, HL.out.1, HL.out.2, GS.out⟩
  · go_wp2_with fail
    refine (l6Any_any c _ HC1.out).mono ?_; rintro e w6 ⟨v6, ⟨V6, F6, T6⟩, rfl, hQ6, hf6, ht6, hb6⟩
    obtain ⟨A6, c6, C6, d6, rfl⟩ := hQ6.form
    simp only at hf6 ht6 hQ6 ⊢
    have hB := HB1.out.trans hb6
    have hs6 := hb6.size
    have k2 := KR.out.ck hB hcw
    have fr := k2.frozen
    have r0 := k2.cell' (i := 0) rfl
    have r1 := k2.cell' (i := 1) rfl
    have r2 := k2.cell' (i := 2) rfl
    have hc3 := ((chg_set (lo := w0.heap.size) (hi := w0.heap.size + 1) (w := w6) (p := ⟨w0.heap.size, 0, none⟩) (u := .int .i64 V6) (Nat.le_refl _) (Nat.lt_succ_self _)).trans (chg_set (p := ⟨w0.heap.size, 1, none⟩) (u := .slice A6 (F6).length c6) (Nat.le_refl _) (Nat.lt_succ_self _))).trans (chg_set (p := ⟨w0.heap.size, 2, none⟩) (u := .slice C6 (T6).length d6) (Nat.le_refl _) (Nat.lt_succ_self _))
    have OF := Lib.hid ((hQ6.chg hc3 (.inr (by omega))).wid (lo' := w0.heap.size) (hi' := w6.heap.size) (by omega) (Nat.le_refl _))
    have GS := Lib.hid ((G0.out.trans hB).low (lo := w0.heap.size) (hc3.below (Nat.le_refl _) (by omega)) (Nat.le_refl _) hcl)
    have HL := Lib.hid (show F6.length ≤ 62 ∧ T6.length ≤ 62 by omega)
    clear hc3 k2 hQ6 hB hb6 hf6 ht6
    go_wp2
    exact bodyPost_ret (v := .agg #[.int .i64 V6, .slice A6 (F6).length c6, .slice C6 (T6).length d6]) (by simp [results, go_sem, r0, r1, r2]) rfl ⟨_, ⟨V6, F6, T6⟩, rfl, by simpa using OF.out, HL.out.1, HL.out.2, GS.out⟩
end Go.Proofs.Ytaefpblpfjhgoaa

/- The law of NetK.lean where a store into a result's block kd may come among them (Cd). -/
namespace Go.Proofs.Ytaefpblpfjhgoaa
set_option linter.unusedVariables false
set_option linter.unusedSimpArgs false
open Go.RowKit

def QB (w : World) (d : Nat) : Prop := ∃ (V : Int) (A : Option Addr) (n e : Nat) (C : Option Addr) (m f : Nat), Blk w d 26 #[.int .i64 V, .slice A n e, .slice C m f]
structure Cd (c d : Nat) (fin : Array Value) (w w' : World) : Prop where
  os : w'.os = w.os
  tape : w'.tape = w.tape
  output : w'.output = w.output
  size : w.heap.size ≤ w'.heap.size
  block : ∀ k, k < w.heap.size → k ≠ c ∧ k ≠ d → w'.heap[k]? = w.heap[k]?
  keep : Cur w c → Cur w' c
  keepD : Blk w d 26 fin → Blk w' d 26 fin
  keepE : QB w d → QB w' d
theorem Cd.refl (c d : Nat) (fin : Array Value) (w : World) : Cd c d fin w w := ⟨rfl, rfl, rfl, Nat.le_refl _, fun _ _ _ => rfl, id, id, id⟩
theorem Cd.trans {c d : Nat} {fin : Array Value} {w w' w'' : World} (h : Cd c d fin w w') (k : Cd c d fin w' w'') : Cd c d fin w w'' :=
  ⟨k.os.trans h.os, k.tape.trans h.tape, k.output.trans h.output, Nat.le_trans h.size k.size, fun i hi hne => (k.block i (Nat.lt_of_lt_of_le hi h.size) hne).trans (h.block i hi hne), fun h0 => k.keep (h.keep h0), fun h0 => k.keepD (h.keepD h0), fun h0 => k.keepE (h.keepE h0)⟩
theorem Cd.of_ck {c d : Nat} {fin : Array Value} {w w' : World} (h : Ck c w w') (hd : d ≠ c) : Cd c d fin w w' :=
  ⟨h.os, h.tape, h.output, h.size, fun k hk hn => h.block k hk hn.1, h.keep, fun hB => hB.ck h hd, fun ⟨V, A, n, e, C, m, f, hB⟩ => ⟨V, A, n, e, C, m, f, hB.ck h hd⟩⟩
theorem Blk.cd {c d g : Nat} {fin : Array Value} {w w' : World} {t : TypeId} {cs : Array Value} (h : Blk w g t cs) (k : Cd c d fin w w') (hc : g ≠ c) (hd : g ≠ d) : Blk w' g t cs := (k.block g h.lt ⟨hc, hd⟩).trans h
theorem Cd.low {c d : Nat} {fin : Array Value} {w w' : World} {B : Nat} (h : Cd c d fin w w') (h1 : B ≤ c) (h2 : B ≤ d) (hs : B ≤ w.heap.size) : Below B w w' := ⟨h.os, h.tape, h.output, h.size, fun k hk => h.block k (by omega) ⟨by omega, by omega⟩⟩
theorem Cd.chg {c d : Nat} {fin : Array Value} {w w' : World} (h : Cd c d fin w w') {hi : Nat} (h1 : c < hi) (h2 : d < hi) : Chg 0 hi w w' := ⟨h.os, h.tape, h.output, h.size, fun k hk hn => h.block k hk (by omega)⟩
def NS.stableD (s : NS) (kc kd : Nat) (kf : Array Value) : Prop :=
  match s with
  | .eq _ => True
  | .rel R => ∀ x w w', R x w → Cd kc kd kf w w' → R x w'
theorem NS.holds_stableD {kc kd : Nat} {kf : Array Value} {s : NS} (h : s.stableD kc kd kf) {i : Nat} {D : List Nat} {x : Gh} {w w' : World} (hh : s.holds i D x w) (hb : Cd kc kd kf w w') : s.holds i D x w' := by
  cases s with
  | eq f => exact hh
  | rel R => exact h _ _ _ hh hb
section
variable {P : Program}
section
variable {ops : Array Oper} {Q : Exit → Act → World → Prop} {sp : List NS} {D : List (List Nat)} {m : Nat} {a0 : Act} {w0 : World}
/-- what is to be shown of operation i -/
def netDoD (kc kd : Nat) (kf : Array Value) (P : Program) (ops : Array Oper) (sp : List NS) (D : List (List Nat)) (a0 : Act) (w0 : World) (i : Nat) (o : Oper) : Prop :=
  ∀ (x : Gh) (w : World), Cd kc kd kf w0 w → (∀ j ∈ D.getD i [], known sp D x j w ∧ x.hi j ≤ w.heap.size) → ∀ Q' : Exit → Act → World → Prop,
    (∀ u w', Cd kc kd kf w w' → (sp.getD i (.eq undef)).holds i (D.getD i []) (x.set i u w.heap.size w'.heap.size) w' → Q' .normal ((netAct ops a0 x.v i).put o.dst u) w') → wpList P ops Q' [o] (netAct ops a0 x.v i) w

theorem net_anyD {kc kd : Nat} {kf : Array Value} (hB : netB ops D m = true) (hst : ∀ s ∈ sp, s.stableD kc kd kf) (hdo : ∀ i o, i < m → ops[i]? = some o → netDoD kc kd kf P ops sp D a0 w0 i o)
    (hend : ∀ x w, Cd kc kd kf w0 w → (∀ i, i < m → known sp D x i w) → (∀ i, i < m → w0.heap.size ≤ x.lo i ∧ x.lo i ≤ x.hi i ∧ x.hi i ≤ w.heap.size) → (∀ i j, i < m → j < m → i ≠ j → x.hi i ≤ x.lo j ∨ x.hi j ≤ x.lo i) → wpList P ops Q (ops.toList.drop m) (netAct ops a0 x.v m) w) :
    ∀ (fuel : Nat) (listed : Array Bool) (x : Gh) (w : World), ((List.range ops.size).filter fun j => !listed.getD j false).length = fuel → listed.size = ops.size → (∀ j, m ≤ j → listed.getD j false = false) →
      (∀ i, listed.getD i false = true → ∀ j ∈ D.getD i [], listed.getD j false = true) → Cd kc kd kf w0 w → (∀ i, listed.getD i false = true → known sp D x i w) → (∀ i, listed.getD i false = true → w0.heap.size ≤ x.lo i ∧ x.lo i ≤ x.hi i ∧ x.hi i ≤ w.heap.size) →
      (∀ i j, listed.getD i false = true → listed.getD j false = true → i ≠ j → x.hi i ≤ x.lo j ∨ x.hi j ≤ x.lo i) →
      wpAny P .any ops Q fuel listed (actP ops a0 x.v (fun j => listed.getD j false) ops.size) w := by
  simp only [netB, Bool.and_eq_true, decide_eq_true_eq] at hB
  obtain ⟨⟨hm, hns⟩, hnf⟩ := hB
  have hok : ∀ i o, ops[i]? = some o → NetOk ops D m i o := fun i o ho => netAt_spec (by
    have := netFrom_spec ops.toList 0 hnf i o (by simpa using ho)
    simpa using this)
  have hst' : ∀ i, (sp.getD i (.eq undef)).stableD kc kd kf := fun i => by
    rw [List.getD_eq_getElem?_getD]
    rcases h : sp[i]? with _ | s
    · trivial
    · exact hst s (List.mem_of_getElem? h)
  intro fuel
  induction fuel with
  | zero =>
    intro listed x w hc hls hlm hcl hb hkn hiv hdj
    -- all are listed: then m is the region's size
    have hall : ∀ j, j < ops.size → listed.getD j false = true := fun j hj => by
      rw [List.length_eq_zero_iff, List.filter_eq_nil_iff] at hc
      have := hc j (List.mem_range.2 hj)
      simpa using this
    have hms : m = ops.size := by
      rcases Nat.lt_or_ge m ops.size with h | h
      · have := hall m h
        rw [hlm m (Nat.le_refl _)] at this
        cases this
      · omega
    refine net_tail hok 0 ops.size listed _ w (by omega) (by omega) hls (fun j => ?_) ?_
    · by_cases hj : j < ops.size
      · rw [hall j hj]; simp [hj]
      · rw [hlm j (by omega)]; simp [hj]
    · have := hend x w hb (fun i hi => hkn i (hall i (by omega))) (fun i hi => hiv i (hall i (by omega))) (fun i j hi hj => hdj i j (hall i (by omega)) (hall j (by omega)))
      rw [← actP_net (p := fun j => listed.getD j false) m (fun j hj => hall j (by omega))] at this
      rwa [hms] at this
  | succ fuel ih =>
    intro listed x w hc hls hlm hcl hb hkn hiv hdj
    by_cases hfull : ∀ j, j < m → listed.getD j false = true
    · -- the tail
      have hl : ∀ j, listed.getD j false = decide (j < m) := fun j => by
        by_cases hj : j < m
        · rw [hfull j hj]; simp [hj]
        · rw [hlm j (by omega)]; simp [hj]
      have hcnt : fuel + 1 + m = ops.size := by
        rw [← hc]
        have e : (List.range ops.size).filter (fun j => !listed.getD j false) = (List.range' m (ops.size - m)) := by
          have e1 : (List.range ops.size) = List.range m ++ List.range' m (ops.size - m) := by
            have h := List.range'_append_1 (s := 0) (m := m) (n := ops.size - m)
            rw [Nat.zero_add] at h
            rw [List.range_eq_range', List.range_eq_range', h]
            congr 1
            omega
          rw [e1, List.filter_append]
          rw [List.filter_eq_nil_iff.2 (fun j hj => by rw [hl]; simp at hj ⊢; exact hj), List.nil_append]
          rw [List.filter_eq_self.2 (fun j hj => by rw [hl]; simp [List.mem_range'] at hj ⊢; omega)]
        rw [e, List.length_range']
        omega
      refine net_tail hok (fuel + 1) m listed _ w (by omega) (Nat.le_refl _) hls hl ?_
      have := hend x w hb (fun i hi => hkn i (hfull i hi)) (fun i hi => hiv i (hfull i hi)) (fun i j hi hj => hdj i j (hfull i hi) (hfull j hj))
      rw [← actP_net (p := fun j => listed.getD j false) m hfull] at this
      rwa [actP_none (p := fun j => listed.getD j false) ops.size m hm (fun j h1 _ => hlm j h1)]
    · -- one of the net
      have hne : Region.ready .any ops listed ≠ [] := by
        intro h0
        -- the least that is not listed is ready
        have : ∀ n, ∀ j, j < n → j < m → listed.getD j false = true := by
          intro n
          induction n with
          | zero => intro j hj; omega
          | succ n ihn =>
            intro j hj hjm
            by_cases e : j < n
            · exact ihn j e hjm
            · rcases hlj : listed.getD j false with _ | _
              · exfalso
                have hjs : j < ops.size := by omega
                have hje := Array.getElem?_eq_getElem hjs
                have : j ∈ Region.ready .any ops listed := mem_ready.2 ⟨by
                  rw [← hlj]
                  simp [Array.getD_eq_getD_getElem?, Array.getElem?_eq_getElem (show j < listed.size by omega)], _, hje, fun e he hb => by
                  have := (hok j _ hje).direct e he hb
                  exact ihn e.on (by omega) (by omega)⟩
                rw [h0] at this
                cases this
              · rfl
        exact hfull fun j hj => this (j + 1) j (by omega) hj
      refine ⟨fun h0 => absurd h0 hne, fun i hi => ?_⟩
      obtain ⟨h0, o, ho, hall⟩ := mem_ready.1 hi
      have his := (Array.getElem?_eq_some_iff.1 ho).1
      have hO := hok i o ho
      have hDl : ∀ j ∈ D.getD i [], listed.getD j false = true := hO.danc (fun j => listed.getD j false = true) hall (fun k hk j hj => hcl k hk j hj)
      have him : i < m := by
        rcases Nat.lt_or_ge i m with h | h
        · exact h
        · exact absurd (fun j hj => hDl j (hO.tail h j (by omega))) hfull
      have hli : listed.getD i false = false := by
        rw [← h0]
        simp [Array.getD_eq_getD_getElem?, Array.getElem?_eq_getElem (show i < listed.size by omega)]
      have hpre := hdo i o him ho x w hb (fun j hj => ⟨hkn j (hDl j hj), (hiv j (hDl j hj)).2.2⟩) (fun e b w' => e = .normal ∧ ∃ u, b = (netAct ops a0 x.v i).put o.dst u ∧ (Cd kc kd kf w w' ∧ (sp.getD i (.eq undef)).holds i (D.getD i []) (x.set i u w.heap.size w'.heap.size) w'))
        (fun u w' h1 h2 => ⟨rfl, u, rfl, h1, h2⟩)
      have hwant : ∀ b : Act, Region.wanted o (yielded ops b.tmps) = true := fun b => by simp [Region.wanted, hO.guard]
      have hnl : ¬ LetsOut (fun (e : Exit) (b : Act) (w' : World) => e = .normal ∧ ∃ u, b = (netAct ops a0 x.v i).put o.dst u ∧ (Cd kc kd kf w w' ∧ (sp.getD i (.eq undef)).holds i (D.getD i []) (x.set i u w.heap.size w'.heap.size) w')) := by
        rintro ⟨b, w', h, _⟩
        cases h
      simp only [wpList, hwant, if_true] at hpre
      rcases hpre with hpre | hpre
      case inr => exact absurd hpre.2 hnl
      simp only [true_and] at hpre
      have hexec : execOp (actP ops a0 x.v (fun j => listed.getD j false) ops.size).eval o = execOp (netAct ops a0 x.v i).eval o := by
        refine execOp_congr o (fun cs b => Region.noSelect_spec hns i o cs b ho) fun y hx => ?_
        by_cases hxt : ∃ t, y = .tmp t
        · obtain ⟨t, rfl⟩ := hxt
          have hlook : t ∈ o.looksAt ops := List.mem_append_left _ (List.mem_filterMap.2 ⟨.tmp t, by simpa using hx, rfl⟩)
          have e1 : netAct ops a0 x.v i = actP ops a0 x.v (fun j => decide (j < i)) ops.size := by
            rw [actP_none (p := fun j => decide (j < i)) ops.size i (by omega) (fun j h1 _ => by simp; omega)]
            exact (actP_net (p := fun j => decide (j < i)) i (fun j hj => by simp [hj])).symm
          rw [e1]
          refine actP_eval t ops.size fun j hj hd => ?_
          rcases hO.looks j t hd hlook with h | h
          · rw [hDl j h]; have := hO.dlt j h; simp [this]
          · have hlt := (hok j _ (Array.getElem?_eq_getElem hj)).dlt i h
            have : listed.getD j false = false := by
              rcases hlj : listed.getD j false with _ | _
              · rfl
              · have := hcl j hlj i h
                rw [hli] at this
                cases this
            rw [this]; simp; omega
        · exact actP_evalC y (fun t h => hxt ⟨t, h⟩) _ _
      have hsz : (netAct ops a0 x.v i).tmps.size = (actP ops a0 x.v (fun j => listed.getD j false) ops.size).tmps.size := by
        rw [actP_size, ← actP_net (p := fun _ => true) i (fun _ _ => rfl), actP_size]
      have hT := wp_transfer (Q2 := Q) hexec hsz (fun c b w' h => by cases h.1) hnl hpre
      unfold wpOp
      simp only [ho, hwant, if_true]
      refine .inl (Oper.wp_mono ?_ hT)
      rintro b w' ⟨u, rfl, hbw, hh⟩
      have hdst : o.dst = dstAt ops i := by simp [dstAt, ho]
      have hlq : ∀ j, (listed.setIfInBounds i true).getD j false = (listed.getD j false || j == i) := fun j => by
        by_cases e : i = j
        · subst e
          simp [Array.getD_eq_getD_getElem?, Array.getElem?_setIfInBounds, hls, his]
        · rw [getD_set_ne _ e]
          simp [Ne.symm e]
      rw [hdst, actP_add (v' := (x.set i u w.heap.size w'.heap.size).v) (q := fun j => (listed.setIfInBounds i true).getD j false) (fun j hj _ => by simp [Gh.set, hj]) (by simp [Gh.set]) hli hlq (fun j d hij hlj hdj hdi => by
        rcases hO.dsts j d (by omega) hdj hdi with h | h
        · have := hO.dlt j h; omega
        · have := hcl j hlj i h
          rw [hli] at this
          cases this) ops.size his]
      refine ih _ _ _ ?_ (by simpa using hls) (fun j hj => by rw [hlq, hlm j hj]; simp; omega) (fun k hk j hj => ?_) (hb.trans hbw) (fun k hk => ?_) (fun k hk => ?_) (fun k j hk hj hkj => ?_)
      · -- the count
        have hmem : i ∈ (List.range ops.size).filter fun j => !listed.getD j false := by
          rw [List.mem_filter]; exact ⟨List.mem_range.2 his, by rw [hli]; rfl⟩
        have e : (List.range ops.size).filter (fun j => !(listed.setIfInBounds i true).getD j false) = ((List.range ops.size).filter fun j => !listed.getD j false).filter (fun j => j != i) := by
          rw [List.filter_filter]
          congr 1
          funext j
          rw [hlq]
          simp [Bool.not_or, Bool.and_comm, bne]
        have hnd : ((List.range ops.size).filter fun j => !listed.getD j false).Nodup := List.nodup_range.filter _
        rw [e]
        have := List.length_erase_of_mem hmem
        rw [hnd.erase_eq_filter, hc] at this
        simpa using this
      · rw [hlq] at hk ⊢
        simp only [Bool.or_eq_true, beq_iff_eq] at hk ⊢
        rcases hk with hk | rfl
        · exact .inl (hcl k hk j hj)
        · exact .inl (hDl j hj)
      · rw [hlq] at hk
        simp only [Bool.or_eq_true, beq_iff_eq] at hk
        unfold known
        by_cases e : k = i
        · subst e
          exact hh
        · rcases hk with hk | hk
          · refine NS.holds_congr (x := x) (fun j hj => ?_) (NS.holds_stableD (hst' k) (hkn k hk) hbw)
            have hji : j ≠ i := by
              rcases hj with rfl | hj
              · exact e
              · rintro rfl
                have := hcl k hk j hj
                rw [hli] at this
                cases this
            simp [Gh.set, hji]
          · exact absurd hk e
      · rw [hlq] at hk
        simp only [Bool.or_eq_true, beq_iff_eq] at hk
        by_cases e : k = i
        · subst e
          simp only [Gh.set, if_true]
          exact ⟨hb.size, hbw.size, Nat.le_refl _⟩
        · have := hiv k (hk.resolve_right e)
          have := hbw.size
          simp only [Gh.set, if_neg e]
          omega
      · rw [hlq] at hk hj
        simp only [Bool.or_eq_true, beq_iff_eq] at hk hj
        by_cases e : k = i
        · subst e
          have := hiv j (hj.resolve_right (Ne.symm hkj))
          simp only [Gh.set, if_true, if_neg (Ne.symm hkj)]
          exact .inr (by omega)
        · by_cases e' : j = i
          · subst e'
            have := hiv k (hk.resolve_right e)
            simp only [Gh.set, if_true, if_neg e]
            exact .inl (by omega)
          · simp only [Gh.set, if_neg e, if_neg e']
            exact hdj k j (hk.resolve_right e) (hj.resolve_right e') hkj

def stableAllD (kc kd : Nat) (kf : Array Value) : List NS → Prop
  | [] => True
  | s :: l => s.stableD kc kd kf ∧ stableAllD kc kd kf l
theorem stableAllD_spec {kc kd : Nat} {kf : Array Value} : ∀ {l : List NS}, stableAllD kc kd kf l → ∀ s ∈ l, s.stableD kc kd kf
  | [], _, s, hs => by simp at hs
  | a :: l, h, s, hs => by
    rcases List.mem_cons.1 hs with rfl | hs
    · exact h.1
    · exact stableAllD_spec h.2 s hs
def netAllD (kc kd : Nat) (kf : Array Value) (P : Program) (ops : Array Oper) (sp : List NS) (D : List (List Nat)) (a0 : Act) (w0 : World) : Nat → List Oper → Prop
  | _, [] => True
  | i, o :: l => netDoD kc kd kf P ops sp D a0 w0 i o ∧ netAllD kc kd kf P ops sp D a0 w0 (i + 1) l
theorem netAllD_spec {kc kd : Nat} {kf : Array Value} {ops : Array Oper} {sp : List NS} {D : List (List Nat)} {a0 : Act} {w0 : World} : ∀ (l : List Oper) (k : Nat), netAllD kc kd kf P ops sp D a0 w0 k l → ∀ j o, l[j]? = some o → netDoD kc kd kf P ops sp D a0 w0 (k + j) o
  | [], _, _, _, _, h => by simp at h
  | x :: l, k, h, 0, o, hj => by
    simp at hj
    subst hj
    exact h.1
  | x :: l, k, h, j + 1, o, hj => by
    have := netAllD_spec l (k + 1) h.2 j o (by simpa using hj)
    rwa [show k + 1 + j = k + (j + 1) by omega] at this
theorem rel_stableD {kc kd : Nat} {kf : Array Value} {i : Nat} {R : Value → Nat → Nat → World → Prop} (h : ∀ u lo hi w w', R u lo hi w → Cd kc kd kf w w' → R u lo hi w') : (rel i R).stableD kc kd kf := fun v w w' hr hb => h _ _ _ _ _ hr hb
/-- THE LAW. -/
theorem wp_region_netD (kc kd : Nat) (kf : Array Value) {id : Nat} {l : List Oper} {w : World} (hmo : P.follows .mixedOrders = true) (sp : List NS) (D : List (List Nat)) (m : Nat) (hB : netB l.toArray D m = true) (hst : stableAllD kc kd kf sp)
    (hdo : netAllD kc kd kf P l.toArray sp D a0 w 0 (l.take m))
    (hend : ∀ x w', Cd kc kd kf w w' → (∀ i, i < m → known sp D x i w') → (∀ i, i < m → w.heap.size ≤ x.lo i ∧ x.lo i ≤ x.hi i ∧ x.hi i ≤ w'.heap.size) → (∀ i j, i < m → j < m → i ≠ j → x.hi i ≤ x.lo j ∨ x.hi j ≤ x.lo i) → wpList P l.toArray Q (l.drop m) (netAct l.toArray a0 x.v m) w') : (Code.region id l.toArray true).wp P Q a0 w := by
  replace hst := stableAllD_spec hst
  have hdo : ∀ i o, i < m → l[i]? = some o → netDoD kc kd kf P l.toArray sp D a0 w.drew i o := fun i o hi ho => by
    have := netAllD_spec (l.take m) 0 hdo i o (by rw [List.getElem?_take, if_pos hi]; exact ho)
    rw [Nat.zero_add] at this
    exact fun v w1 hb => this v w1 ⟨hb.os, hb.tape, hb.output, hb.size, hb.block, hb.keep, hb.keepD, hb.keepE⟩
  refine wp_region_any hmo ?_
  have h := net_anyD (w0 := w.drew) (a0 := a0) (Q := Q) (P := P) (sp := sp) hB hst (fun i o hi ho => hdo i o hi (by simpa using ho)) (fun x w' hb hk hiv hdj => by simpa using hend x w' (show Cd kc kd kf w w' from ⟨hb.os, hb.tape, hb.output, hb.size, hb.block, hb.keep, hb.keepD, hb.keepE⟩) hk hiv hdj)
    l.toArray.size (Array.replicate l.toArray.size false) ⟨fun _ => undef, fun _ => 0, fun _ => 0⟩ w.drew
    (by rw [List.filter_eq_self.2 (fun j _ => by rw [repl_getD]; rfl), List.length_range])
    (by simp) (fun j _ => repl_getD _ _)
    (fun i hi => by rw [repl_getD] at hi; cases hi)
    (Cd.refl _ _ _ _)
    (fun i hi => by rw [repl_getD] at hi; cases hi)
    (fun i hi => by rw [repl_getD] at hi; cases hi)
    (fun i j hi => by rw [repl_getD] at hi; cases hi)
  have e : actP l.toArray a0 (fun _ => undef) (fun j => (Array.replicate l.toArray.size false).getD j false) l.toArray.size = a0 :=
    actP_none l.toArray.size 0 (by omega) (fun j _ _ => repl_getD _ _)
  rw [e] at h
  exact h
end
end
end Go.Proofs.Ytaefpblpfjhgoaa

/- The draws of the law FnReflections: a quiver with numbers, a word, a power; quivers by name. -/
namespace Go.Proofs.Ytaefpblpfjhgoaa
set_option linter.unusedVariables false
set_option linter.unusedSimpArgs false
open Go.RowKit

theorem QB.noY {w : World} {d o : Nat} {x : Int} (h : QB w d) (hc : w.cell? ⟨d, o, none⟩ = some (.int .u8 x)) : False := by
  obtain ⟨V, A, n, e, C, m, f, hB⟩ := h
  match o, hc with
  | 0, hc => rw [hB.cell' (i := 0) rfl] at hc; simp at hc
  | 1, hc => rw [hB.cell' (i := 1) rfl] at hc; simp at hc
  | 2, hc => rw [hB.cell' (i := 2) rfl] at hc; simp at hc
  | o + 3, hc =>
    unfold Blk at hB
    simp [World.cell?, hB] at hc
theorem QuivO.ck {w w' : World} {lo hi c : Nat} {v : Value} {q : Qv} (h : QuivO w lo hi v q) (k : Ck c w w') (hc : c < lo) : QuivO w' lo hi v q := h.chg k.chg (.inr (by omega))
theorem QuivO.cd {w w' : World} {lo hi c d : Nat} {fin : Array Value} {v : Value} {q : Qv} (h : QuivO w lo hi v q) (k : Cd c d fin w w') (hc : c < lo) (hd : d < lo) : QuivO w' lo hi v q := h.chg (k.chg hc hd) (.inr (Nat.le_refl _))
theorem IntsO.cd {w w' : World} {lo hi c d : Nat} {fin : Array Value} {v : Value} {l : List Int} (h : IntsO w lo hi v l) (k : Cd c d fin w w') (hc : c < lo) (hd : d < lo) : IntsO w' lo hi v l := h.chg (k.chg hc hd) (.inr (Nat.le_refl _))
theorem Cd.store {c d : Nat} {w : World} {V : Int} {A C : Option Addr} {n e m f : Nat} (hdc : d ≠ c) (hE : QB w d) :
    Cd c d #[.int .i64 V, .slice A n e, .slice C m f] w (((w.setCell ⟨d, 0, none⟩ (.int .i64 V)).setCell ⟨d, 1, none⟩ (.slice A n e)).setCell ⟨d, 2, none⟩ (.slice C m f)) ∧ Blk (((w.setCell ⟨d, 0, none⟩ (.int .i64 V)).setCell ⟨d, 1, none⟩ (.slice A n e)).setCell ⟨d, 2, none⟩ (.slice C m f)) d 26 #[.int .i64 V, .slice A n e, .slice C m f] := by
  have h3 : Blk (((w.setCell ⟨d, 0, none⟩ (.int .i64 V)).setCell ⟨d, 1, none⟩ (.slice A n e)).setCell ⟨d, 2, none⟩ (.slice C m f)) d 26 #[.int .i64 V, .slice A n e, .slice C m f] := by
    obtain ⟨V', A', n', e', C', m', f', hB⟩ := hE
    have := ((hB.set_ 0 (.int .i64 V)).set_ 1 (.slice A n e)).set_ 2 (.slice C m f)
    simpa using this
  have hc : Chg d (d + 1) w (((w.setCell ⟨d, 0, none⟩ (.int .i64 V)).setCell ⟨d, 1, none⟩ (.slice A n e)).setCell ⟨d, 2, none⟩ (.slice C m f)) :=
    ((chg_set (lo := d) (hi := d + 1) (w := w) (p := ⟨d, 0, none⟩) (u := .int .i64 V) (Nat.le_refl _) (Nat.lt_succ_self _)).trans (chg_set (p := ⟨d, 1, none⟩) (u := .slice A n e) (Nat.le_refl _) (Nat.lt_succ_self _))).trans (chg_set (p := ⟨d, 2, none⟩) (u := .slice C m f) (Nat.le_refl _) (Nat.lt_succ_self _))
  refine ⟨⟨hc.os, hc.tape, hc.output, hc.size, fun k hk hn => hc.block k hk (by omega), ?_, fun _ => h3, fun _ => ⟨V, A, n, e, C, m, f, h3⟩⟩, h3⟩
  rintro ⟨X, cc, i, h, l, hB', h1, h2, hy⟩
  refine ⟨X, cc, i, h, l, (hc.block c hB'.lt (by omega)).trans hB', h1, h2, ?_⟩
  refine SlG.mono (B := c) (B' := c) (fun b o x hlt hx => ?_) (Nat.le_refl _) hy
  have hbd : b ≠ d := fun hbd => by
    subst hbd
    exact hE.noY hx.1
  exact ⟨(World.cell?_of_block (w := w) (hc.block b (by have := hB'.lt; omega) (by omega))).trans hx.1, hx.2⟩

set_option maxHeartbeats 3200000 in
set_option maxRecDepth 100000 in
theorem drawReflectDims_any (u : Value) (l : List Int) (w0 : World) (hu : SlY w0 w0.heap.size u l) :
    Calls Try.prog 5 #[u] w0 fun e w' => ∃ v q X x k, e = .returned (.tuple #[v, X, .int .i64 k]) ∧ QvR w' w'.heap.size v q ∧ q.f.length ≤ 62 ∧ q.t.length ≤ 62 ∧ SlI w' w'.heap.size X x ∧ x.length ≤ 5 ∧ I64 k ∧ Below w0.heap.size w0 w' := by
  obtain ⟨W, hW⟩ : ∃ W, W = w0.alloc (.cells #[.int .i64 0, .slice none 0 0, .slice none 0 0] 26) := ⟨_, rfl⟩
  have g0 : Below w0.heap.size w0 W := by rw [hW]; exact below_alloc _ _
  have kR : Blk W w0.heap.size 26 #[.int .i64 0, .slice none 0 0, .slice none 0 0] := by rw [hW]; exact Blk.new _ _ _
  have sW : W.heap.size = w0.heap.size + 1 := by rw [hW]; simp
  have hu' := SlY.next g0 hu
  clear hu
  go_enter Try.func5, Try.ntmps5
  go_wp2_with fail
  rw [← hW]; clear hW
  refine (l1New_any u l _ hu').mono ?_; rintro e w1 ⟨c, rfl, hcs, hC1, hb1⟩
  have kR1 := kR.call hb1
  have g1 := g0.trans (hb1.mono (by omega))
  have hs1 := hb1.size
  clear kR g0 hb1 hu'
  go_wp2_with fail
  refine (l6Any_any c _ hC1).mono ?_; rintro e w2 ⟨v, ⟨V, F, T⟩, rfl, hQ2, hf2, ht2, hb2⟩
  obtain ⟨A, a2, C, d2, rfl⟩ := hQ2.form
  simp only at hf2 ht2 hQ2 ⊢
  have hV : I64 V := by obtain ⟨_, _, _, _, hV⟩ := hQ2; exact hV
  have hcl := hC1.lt
  have hC2 := hb2.keep hC1
  have kR2 := kR1.ck hb2 (by omega)
  have g2 := g1.trans (hb2.below (B := w0.heap.size) (by omega) (by omega))
  have hs2 := hb2.size
  clear hC1 hb2 kR1 g1
  obtain ⟨W3, hW3⟩ : ∃ z, w2.alloc (.cells #[.int .i64 V, .slice A F.length a2, .slice C T.length d2] 26) = z := ⟨_, rfl⟩
  have ga : Below w2.heap.size w2 W3 := by rw [← hW3]; exact below_alloc _ _
  obtain ⟨gq, hgq⟩ : ∃ z, w2.heap.size = z := ⟨_, rfl⟩
  have hgq2 : w2.heap.size ≤ gq ∧ gq ≤ w2.heap.size := by omega
  have kq : Blk W3 gq 26 #[.int .i64 V, .slice A F.length a2, .slice C T.length d2] := by rw [← hW3, ← hgq]; exact Blk.new _ _ _
  have hs3 : W3.heap.size = gq + 1 := by rw [← hW3, ← hgq]; simp
  have hC3 := (Ck.of_below (c := c) ga).keep hC2
  have kR3 := kR2.call ga
  have hQ3 := hQ2.below ga
  have g3 := g2.trans (ga.mono (by omega))
  have HF := Lib.hid hf2
  have HT := Lib.hid ht2
  clear hC2 kR2 hQ2 g2 ga hf2 ht2
  have z0 := kq.cell' (i := 0) rfl
  have z1 := kq.cell' (i := 1) rfl
  have z2 := kq.cell' (i := 2) rfl
  go_wp2_with fail
  clear hW3 hgq
  refine (l18Numbers_any c V A C _ a2 _ d2 _ hC3 hV).mono ?_; rintro e w4 ⟨X, x, rfl, hX4, hx4, hb4⟩
  have hC4 := hb4.keep hC3
  have hcl := hC4.lt
  have kR4 := kR3.ck hb4 (by omega)
  have kq4 := kq.ck hb4 (by omega)
  have hQ4 := hQ3.ck hb4 (by omega)
  have g4 := g3.trans (hb4.below (B := w0.heap.size) (by omega) (by omega))
  have hs4 := hb4.size
  have HQ := Lib.hid hQ4
  have HX := Lib.hid hX4
  have HK := Lib.hid kq4
  have HR := Lib.hid kR4
  have HC := Lib.hid hC4
  have HXL := Lib.hid hx4
  clear hC3 kR3 kq hQ3 g3 hb4 z0 z1 z2 hQ4 hX4 kq4 kR4 hC4 hx4
  go_wp2_with fail
  have hgqc : gq ≠ c := by omega
  have hdc : w0.heap.size ≠ c := by omega
  have hgqd : gq ≠ w0.heap.size := by omega
  refine wp_region_netD (c) (w0.heap.size) (#[.int .i64 V, .slice A F.length a2, .slice C T.length d2]) (by kernel_rfl) [.eq (.agg #[.int .i64 V, .slice A F.length a2, .slice C T.length d2]), .eq (X), .eq (.pointer (some ⟨c, 0, none⟩)), rel 3 (fun u lo hi w => ∃ i : Nat, u = .int .i64 i ∧ i ≤ 6), rel 4 (fun u lo hi w => ∃ k : Int, u = .int .i64 k ∧ I64 k), .rel (fun x w => Blk w w0.heap.size 26 #[.int .i64 V, .slice A F.length a2, .slice C T.length d2]), .eq (X)] [[], [], [], [2], [2, 3], [0, 2, 3], [0, 1, 2, 3, 5], [0, 1, 2, 3, 4, 5, 6]] 7 (by kernel_rfl) ⟨trivial, trivial, trivial, rel_stableD (fun u lo hi w w' h hb => h), rel_stableD (fun u lo hi w w' h hb => h), fun x w w' h hb => hb.keepD h, trivial, trivial⟩ ⟨?_, ?_, ?_, ?_, ?_, ?_, ?_, trivial⟩ ?_
  · intro x w hb hk Q' hQ
    clear hk
    simp only [netAct, dstAt, List.getElem?_toArray, List.getElem?_cons_zero, List.getElem?_cons_succ, Option.bind_some, Act.put, List.setIfInBounds_toArray, List.set_cons_zero, List.set_cons_succ] at hQ ⊢
    have z0 := (HK.out.cd hb hgqc hgqd).cell' (i := 0) rfl
    have z1 := (HK.out.cd hb hgqc hgqd).cell' (i := 1) rfl
    have z2 := (HK.out.cd hb hgqc hgqd).cell' (i := 2) rfl
    go_wp2
    exact hQ (.agg #[.int .i64 V, .slice A F.length a2, .slice C T.length d2]) _ (Cd.refl _ _ _ _) rfl
  · intro x w hb hk Q' hQ
    clear hk
    simp only [netAct, dstAt, List.getElem?_toArray, List.getElem?_cons_zero, List.getElem?_cons_succ, Option.bind_some, Act.put, List.setIfInBounds_toArray, List.set_cons_zero, List.set_cons_succ] at hQ ⊢
    go_wp2
    exact hQ (X) _ (Cd.refl _ _ _ _) rfl
  · intro x w hb hk Q' hQ
    clear hk
    simp only [netAct, dstAt, List.getElem?_toArray, List.getElem?_cons_zero, List.getElem?_cons_succ, Option.bind_some, Act.put, List.setIfInBounds_toArray, List.set_cons_zero, List.set_cons_succ] at hQ ⊢
    go_wp2
    exact hQ (.pointer (some ⟨c, 0, none⟩)) _ (Cd.refl _ _ _ _) rfl
  · intro x w hb hk Q' hQ
    have h2 : x.v 2 = .pointer (some ⟨c, 0, none⟩) := (hk 2 (by decide)).1
    clear hk
    simp only [netAct, dstAt, List.getElem?_toArray, List.getElem?_cons_zero, List.getElem?_cons_succ, Option.bind_some, Act.put, List.setIfInBounds_toArray, List.set_cons_zero, List.set_cons_succ] at hQ ⊢
    simp only [h2] at hQ ⊢
    clear h2
    go_wp2_with fail
    refine (l1Below_any c 6 _ (hb.keep HC.out) ⟨by omega, by omega⟩).mono ?_; rintro e w7 ⟨i, hi, _, rfl, hb7⟩
    go_wp2
    exact hQ _ _ (Cd.of_ck hb7 hdc) ⟨i, rfl, by omega⟩
  · intro x w hb hk Q' hQ
    have h2 : x.v 2 = .pointer (some ⟨c, 0, none⟩) := (hk 2 (by decide)).1
    have h3 : ∃ i : Nat, (x.v 3) = .int .i64 i ∧ i ≤ 6 := (hk 3 (by decide)).1
    have s3 := (hk 3 (by decide)).2
    clear hk
    simp only [netAct, dstAt, List.getElem?_toArray, List.getElem?_cons_zero, List.getElem?_cons_succ, Option.bind_some, Act.put, List.setIfInBounds_toArray, List.set_cons_zero, List.set_cons_succ] at hQ ⊢
    simp only [h2] at hQ ⊢
    clear h2
    obtain ⟨i, e, hi⟩ := h3
    have hQ' := hQ (.int .i64 ((i : Int) - 1)) w (Cd.refl _ _ _ _) ⟨_, rfl, by omega, by omega⟩
    rw [e] at hQ' ⊢
    go_wp2
    exact hQ'
  · intro x w hb hk Q' hQ
    have h0 : x.v 0 = .agg #[.int .i64 V, .slice A F.length a2, .slice C T.length d2] := (hk 0 (by decide)).1
    have h2 : x.v 2 = .pointer (some ⟨c, 0, none⟩) := (hk 2 (by decide)).1
    have h3 : ∃ i : Nat, (x.v 3) = .int .i64 i ∧ i ≤ 6 := (hk 3 (by decide)).1
    have s3 := (hk 3 (by decide)).2
    clear hk
    simp only [netAct, dstAt, List.getElem?_toArray, List.getElem?_cons_zero, List.getElem?_cons_succ, Option.bind_some, Act.put, List.setIfInBounds_toArray, List.set_cons_zero, List.set_cons_succ] at hQ ⊢
    simp only [h0, h2] at hQ ⊢
    clear h0 h2
    have hE := hb.keepE ⟨_, _, _, _, _, _, _, HR.out⟩
    have hS := Cd.store (V := V) (A := A) (n := F.length) (e := a2) (C := C) (m := T.length) (f := d2) hdc hE
    obtain ⟨V', A', n', e', C', m', f', hB⟩ := hE
    have y0 := hB.cell' (i := 0) rfl
    have y1 := hB.cell' (i := 1) rfl
    have y2 := hB.cell' (i := 2) rfl
    have fr := hB.frozen
    have HS := Lib.hid hS
    clear hS hB
    go_wp2
    exact hQ undef _ HS.out.1 HS.out.2
  · intro x w hb hk Q' hQ
    have h1 : x.v 1 = X := (hk 1 (by decide)).1
    clear hk
    simp only [netAct, dstAt, List.getElem?_toArray, List.getElem?_cons_zero, List.getElem?_cons_succ, Option.bind_some, Act.put, List.setIfInBounds_toArray, List.set_cons_zero, List.set_cons_succ] at hQ ⊢
    simp only [h1] at hQ ⊢
    clear h1
    go_wp2
    exact hQ (X) _ (Cd.refl _ _ _ _) rfl
  · intro x w hb hk hiv hdj
    have h0 : x.v 0 = .agg #[.int .i64 V, .slice A F.length a2, .slice C T.length d2] := hk 0 (by decide)
    have h1 : x.v 1 = X := hk 1 (by decide)
    have h2 : x.v 2 = .pointer (some ⟨c, 0, none⟩) := hk 2 (by decide)
    have h3 : ∃ i : Nat, (x.v 3) = .int .i64 i ∧ i ≤ 6 := hk 3 (by decide)
    have h4 : ∃ k : Int, (x.v 4) = .int .i64 k ∧ I64 k := hk 4 (by decide)
    have h5 : Blk w w0.heap.size 26 #[.int .i64 V, .slice A F.length a2, .slice C T.length d2] := hk 5 (by decide)
    have h6 : x.v 6 = X := hk 6 (by decide)
    clear hk
    simp only [netAct, dstAt, List.getElem?_toArray, List.getElem?_cons_zero, List.getElem?_cons_succ, Option.bind_some, Act.put, List.setIfInBounds_toArray, List.set_cons_zero, List.set_cons_succ]
    simp only [List.drop_succ_cons, List.drop_zero, h0, h1, h2, h6]
    clear h0 h1 h2 h6
    obtain ⟨k, e4, hk⟩ := h4
    rw [e4]
    have r0 := h5.cell' (i := 0) rfl
    have r1 := h5.cell' (i := 1) rfl
    have r2 := h5.cell' (i := 2) rfl
    have HQF := Lib.hid (HQ.out.cd hb (by omega) (by omega))
    have HXF := Lib.hid (HX.out.cd hb (by omega) (by omega))
    have GF := Lib.hid (g4.trans (hb.low (B := w0.heap.size) (by omega) (Nat.le_refl _) (by omega)))
    clear hb hiv hdj
    go_wp2
    refine bodyPost_ret (v := .tuple #[.agg #[.int .i64 V, .slice A F.length a2, .slice C T.length d2], X, .int .i64 k]) (by simp [results, go_sem, r0, r1, r2]) rfl ?_
    exact ⟨_, _, _, _, _, rfl, HQF.out.rd, HF.out, HT.out, HXF.out.rd, HXL.out, hk, GF.out⟩
set_option maxHeartbeats 3200000 in
set_option maxRecDepth 100000 in
theorem drawReflectWord_any (u : Value) (l : List Int) (w0 : World) (hu : SlY w0 w0.heap.size u l) :
    Calls Try.prog 21 #[u] w0 fun e w' => ∃ v q X x Y y, e = .returned (.tuple #[v, X, Y]) ∧ QvR w' w'.heap.size v q ∧ q.f.length ≤ 62 ∧ q.t.length ≤ 62 ∧ SlI w' w'.heap.size X x ∧ x.length ≤ 5 ∧ SlI w' w'.heap.size Y y ∧ y.length ≤ 7 ∧ Below w0.heap.size w0 w' := by
  obtain ⟨W, hW⟩ : ∃ W, W = w0.alloc (.cells #[.int .i64 0, .slice none 0 0, .slice none 0 0] 26) := ⟨_, rfl⟩
  have g0 : Below w0.heap.size w0 W := by rw [hW]; exact below_alloc _ _
  have kR : Blk W w0.heap.size 26 #[.int .i64 0, .slice none 0 0, .slice none 0 0] := by rw [hW]; exact Blk.new _ _ _
  have sW : W.heap.size = w0.heap.size + 1 := by rw [hW]; simp
  have hu' := SlY.next g0 hu
  clear hu
  go_enter Try.func21, Try.ntmps21
  go_wp2_with fail
  rw [← hW]; clear hW
  refine (l1New_any u l _ hu').mono ?_; rintro e w1 ⟨c, rfl, hcs, hC1, hb1⟩
  have kR1 := kR.call hb1
  have g1 := g0.trans (hb1.mono (by omega))
  have hs1 := hb1.size
  clear kR g0 hb1 hu'
  go_wp2_with fail
  refine (l6Any_any c _ hC1).mono ?_; rintro e w2 ⟨v, ⟨V, F, T⟩, rfl, hQ2, hf2, ht2, hb2⟩
  obtain ⟨A, a2, C, d2, rfl⟩ := hQ2.form
  simp only at hf2 ht2 hQ2 ⊢
  have hV : I64 V := by obtain ⟨_, _, _, _, hV⟩ := hQ2; exact hV
  have hcl := hC1.lt
  have hC2 := hb2.keep hC1
  have kR2 := kR1.ck hb2 (by omega)
  have g2 := g1.trans (hb2.below (B := w0.heap.size) (by omega) (by omega))
  have hs2 := hb2.size
  clear hC1 hb2 kR1 g1
  obtain ⟨W3, hW3⟩ : ∃ z, w2.alloc (.cells #[.int .i64 V, .slice A F.length a2, .slice C T.length d2] 26) = z := ⟨_, rfl⟩
  have ga : Below w2.heap.size w2 W3 := by rw [← hW3]; exact below_alloc _ _
  obtain ⟨gq, hgq⟩ : ∃ z, w2.heap.size = z := ⟨_, rfl⟩
  have hgq2 : w2.heap.size ≤ gq ∧ gq ≤ w2.heap.size := by omega
  have kq : Blk W3 gq 26 #[.int .i64 V, .slice A F.length a2, .slice C T.length d2] := by rw [← hW3, ← hgq]; exact Blk.new _ _ _
  have hs3 : W3.heap.size = gq + 1 := by rw [← hW3, ← hgq]; simp
  have hC3 := (Ck.of_below (c := c) ga).keep hC2
  have kR3 := kR2.call ga
  have hQ3 := hQ2.below ga
  have g3 := g2.trans (ga.mono (by omega))
  have HF := Lib.hid hf2
  have HT := Lib.hid ht2
  clear hC2 kR2 hQ2 g2 ga hf2 ht2
  have z0 := kq.cell' (i := 0) rfl
  have z1 := kq.cell' (i := 1) rfl
  have z2 := kq.cell' (i := 2) rfl
  go_wp2_with fail
  clear hW3 hgq
  refine (l18Numbers_any c V A C _ a2 _ d2 _ hC3 hV).mono ?_; rintro e w4 ⟨X, x, rfl, hX4, hx4, hb4⟩
  have hC4 := hb4.keep hC3
  have hcl := hC4.lt
  have kR4 := kR3.ck hb4 (by omega)
  have kq4 := kq.ck hb4 (by omega)
  have hQ4 := hQ3.ck hb4 (by omega)
  have g4 := g3.trans (hb4.below (B := w0.heap.size) (by omega) (by omega))
  have hs4 := hb4.size
  have HQ := Lib.hid hQ4
  have HX := Lib.hid hX4
  have HK := Lib.hid kq4
  have HR := Lib.hid kR4
  have HC := Lib.hid hC4
  have HXL := Lib.hid hx4
  clear hC3 kR3 kq hQ3 g3 hb4 z0 z1 z2 hQ4 hX4 kq4 kR4 hC4 hx4
  go_wp2_with fail
  have hgqc : gq ≠ c := by omega
  have hdc : w0.heap.size ≠ c := by omega
  have hgqd : gq ≠ w0.heap.size := by omega
  refine wp_region_netD (c) (w0.heap.size) (#[.int .i64 V, .slice A F.length a2, .slice C T.length d2]) (by kernel_rfl) [.eq (.agg #[.int .i64 V, .slice A F.length a2, .slice C T.length d2]), .eq (X), .eq (.pointer (some ⟨c, 0, none⟩)), .eq (.agg #[.int .i64 V, .slice A F.length a2, .slice C T.length d2]), rel 4 (fun u lo hi w => ∃ y, IntsO w lo hi u y ∧ y.length ≤ 7 ∧ c < lo ∧ w0.heap.size < lo), .rel (fun x w => Blk w w0.heap.size 26 #[.int .i64 V, .slice A F.length a2, .slice C T.length d2])] [[], [], [], [], [2, 3], [0, 2, 3, 4], [0, 1, 2, 3, 4, 5], [0, 1, 2, 3, 4, 5, 6]] 6 (by kernel_rfl) ⟨trivial, trivial, trivial, trivial, rel_stableD (fun u lo hi w w' ⟨y, h1, h2, h3, h4⟩ hb => ⟨y, h1.cd hb h3 h4, h2, h3, h4⟩), fun x w w' h hb => hb.keepD h, trivial⟩ ⟨?_, ?_, ?_, ?_, ?_, ?_, trivial⟩ ?_
  · intro x w hb hk Q' hQ
    clear hk
    simp only [netAct, dstAt, List.getElem?_toArray, List.getElem?_cons_zero, List.getElem?_cons_succ, Option.bind_some, Act.put, List.setIfInBounds_toArray, List.set_cons_zero, List.set_cons_succ] at hQ ⊢
    have z0 := (HK.out.cd hb hgqc hgqd).cell' (i := 0) rfl
    have z1 := (HK.out.cd hb hgqc hgqd).cell' (i := 1) rfl
    have z2 := (HK.out.cd hb hgqc hgqd).cell' (i := 2) rfl
    go_wp2
    exact hQ (.agg #[.int .i64 V, .slice A F.length a2, .slice C T.length d2]) _ (Cd.refl _ _ _ _) rfl
  · intro x w hb hk Q' hQ
    clear hk
    simp only [netAct, dstAt, List.getElem?_toArray, List.getElem?_cons_zero, List.getElem?_cons_succ, Option.bind_some, Act.put, List.setIfInBounds_toArray, List.set_cons_zero, List.set_cons_succ] at hQ ⊢
    go_wp2
    exact hQ (X) _ (Cd.refl _ _ _ _) rfl
  · intro x w hb hk Q' hQ
    clear hk
    simp only [netAct, dstAt, List.getElem?_toArray, List.getElem?_cons_zero, List.getElem?_cons_succ, Option.bind_some, Act.put, List.setIfInBounds_toArray, List.set_cons_zero, List.set_cons_succ] at hQ ⊢
    go_wp2
    exact hQ (.pointer (some ⟨c, 0, none⟩)) _ (Cd.refl _ _ _ _) rfl
  · intro x w hb hk Q' hQ
    clear hk
    simp only [netAct, dstAt, List.getElem?_toArray, List.getElem?_cons_zero, List.getElem?_cons_succ, Option.bind_some, Act.put, List.setIfInBounds_toArray, List.set_cons_zero, List.set_cons_succ] at hQ ⊢
    have z0 := (HK.out.cd hb hgqc hgqd).cell' (i := 0) rfl
    have z1 := (HK.out.cd hb hgqc hgqd).cell' (i := 1) rfl
    have z2 := (HK.out.cd hb hgqc hgqd).cell' (i := 2) rfl
    go_wp2
    exact hQ (.agg #[.int .i64 V, .slice A F.length a2, .slice C T.length d2]) _ (Cd.refl _ _ _ _) rfl
  · intro x w hb hk Q' hQ
    have h2 : x.v 2 = .pointer (some ⟨c, 0, none⟩) := (hk 2 (by decide)).1
    have h3 : x.v 3 = .agg #[.int .i64 V, .slice A F.length a2, .slice C T.length d2] := (hk 3 (by decide)).1
    clear hk
    simp only [netAct, dstAt, List.getElem?_toArray, List.getElem?_cons_zero, List.getElem?_cons_succ, Option.bind_some, Act.put, List.setIfInBounds_toArray, List.set_cons_zero, List.set_cons_succ] at hQ ⊢
    simp only [h2, h3] at hQ ⊢
    clear h2 h3
    have hcw := (hb.keep HC.out).lt
    have hsb := hb.size
    have hdw : w0.heap.size < w.heap.size := by omega
    go_wp2_with fail
    refine (l21Word_any c V A C _ a2 _ d2 _ (hb.keep HC.out) hV).mono ?_; rintro e w7 ⟨Y, y, rfl, hy, hyl, hb7⟩
    go_wp2
    exact hQ _ _ (Cd.of_ck hb7 hdc) ⟨y, hy, hyl, hcw, hdw⟩
  · intro x w hb hk Q' hQ
    have h0 : x.v 0 = .agg #[.int .i64 V, .slice A F.length a2, .slice C T.length d2] := (hk 0 (by decide)).1
    have h2 : x.v 2 = .pointer (some ⟨c, 0, none⟩) := (hk 2 (by decide)).1
    have h3 : x.v 3 = .agg #[.int .i64 V, .slice A F.length a2, .slice C T.length d2] := (hk 3 (by decide)).1
    have h4 : ∃ y, IntsO w (x.lo 4) (x.hi 4) (x.v 4) y ∧ y.length ≤ 7 ∧ c < (x.lo 4) ∧ w0.heap.size < (x.lo 4) := (hk 4 (by decide)).1
    have s4 := (hk 4 (by decide)).2
    clear hk
    simp only [netAct, dstAt, List.getElem?_toArray, List.getElem?_cons_zero, List.getElem?_cons_succ, Option.bind_some, Act.put, List.setIfInBounds_toArray, List.set_cons_zero, List.set_cons_succ] at hQ ⊢
    simp only [h0, h2, h3] at hQ ⊢
    clear h0 h2 h3
    have hE := hb.keepE ⟨_, _, _, _, _, _, _, HR.out⟩
    have hS := Cd.store (V := V) (A := A) (n := F.length) (e := a2) (C := C) (m := T.length) (f := d2) hdc hE
    obtain ⟨V', A', n', e', C', m', f', hB⟩ := hE
    have y0 := hB.cell' (i := 0) rfl
    have y1 := hB.cell' (i := 1) rfl
    have y2 := hB.cell' (i := 2) rfl
    have fr := hB.frozen
    have HS := Lib.hid hS
    clear hS hB
    go_wp2
    exact hQ undef _ HS.out.1 HS.out.2
  · intro x w hb hk hiv hdj
    have h0 : x.v 0 = .agg #[.int .i64 V, .slice A F.length a2, .slice C T.length d2] := hk 0 (by decide)
    have h1 : x.v 1 = X := hk 1 (by decide)
    have h2 : x.v 2 = .pointer (some ⟨c, 0, none⟩) := hk 2 (by decide)
    have h3 : x.v 3 = .agg #[.int .i64 V, .slice A F.length a2, .slice C T.length d2] := hk 3 (by decide)
    have h4 : ∃ y, IntsO w (x.lo 4) (x.hi 4) (x.v 4) y ∧ y.length ≤ 7 ∧ c < (x.lo 4) ∧ w0.heap.size < (x.lo 4) := hk 4 (by decide)
    have h5 : Blk w w0.heap.size 26 #[.int .i64 V, .slice A F.length a2, .slice C T.length d2] := hk 5 (by decide)
    clear hk
    simp only [netAct, dstAt, List.getElem?_toArray, List.getElem?_cons_zero, List.getElem?_cons_succ, Option.bind_some, Act.put, List.setIfInBounds_toArray, List.set_cons_zero, List.set_cons_succ]
    simp only [List.drop_succ_cons, List.drop_zero, h0, h1, h2, h3]
    clear h0 h1 h2 h3
    obtain ⟨y, hy, hyl, _, _⟩ := h4
    have r0 := h5.cell' (i := 0) rfl
    have r1 := h5.cell' (i := 1) rfl
    have r2 := h5.cell' (i := 2) rfl
    have HQF := Lib.hid (HQ.out.cd hb (by omega) (by omega))
    have HXF := Lib.hid (HX.out.cd hb (by omega) (by omega))
    have GF := Lib.hid (g4.trans (hb.low (B := w0.heap.size) (by omega) (Nat.le_refl _) (by omega)))
    have HYF := Lib.hid hy
    obtain ⟨Y, hY⟩ : ∃ Y, x.v 4 = Y := ⟨_, rfl⟩
    rw [hY] at HYF ⊢
    clear hY hb hiv hdj hy
    go_wp2
    refine bodyPost_ret (v := .tuple #[.agg #[.int .i64 V, .slice A F.length a2, .slice C T.length d2], X, Y]) (by simp [results, go_sem, r0, r1, r2]) rfl ?_
    exact ⟨_, _, _, _, _, _, rfl, HQF.out.rd, HF.out, HT.out, HXF.out.rd, HXL.out, HYF.out.rd, hyl, GF.out⟩
set_option maxHeartbeats 3200000 in
set_option maxRecDepth 100000 in
theorem drawCoxeterPower_any (u : Value) (l : List Int) (w0 : World) (hu : SlY w0 w0.heap.size u l) :
    Calls Try.prog 14 #[u] w0 fun e w' => ∃ v q X x k, e = .returned (.tuple #[v, X, .int .i64 k]) ∧ QvR w' w'.heap.size v q ∧ q.f.length ≤ 62 ∧ q.t.length ≤ 62 ∧ SlI w' w'.heap.size X x ∧ x.length ≤ 5 ∧ (-41 ≤ k ∧ k ≤ 41) ∧ Below w0.heap.size w0 w' := by
  obtain ⟨W, hW⟩ : ∃ W, W = w0.alloc (.cells #[.int .i64 0, .slice none 0 0, .slice none 0 0] 26) := ⟨_, rfl⟩
  have g0 : Below w0.heap.size w0 W := by rw [hW]; exact below_alloc _ _
  have kR : Blk W w0.heap.size 26 #[.int .i64 0, .slice none 0 0, .slice none 0 0] := by rw [hW]; exact Blk.new _ _ _
  have sW : W.heap.size = w0.heap.size + 1 := by rw [hW]; simp
  have hu' := SlY.next g0 hu
  clear hu
  go_enter Try.func14, Try.ntmps14
  go_wp2_with fail
  rw [← hW]; clear hW
  refine (l1New_any u l _ hu').mono ?_; rintro e w1 ⟨c, rfl, hcs, hC1, hb1⟩
  have kR1 := kR.call hb1
  have g1 := g0.trans (hb1.mono (by omega))
  have hs1 := hb1.size
  clear kR g0 hb1 hu'
  go_wp2_with fail
  refine (l6Any_any c _ hC1).mono ?_; rintro e w2 ⟨v, ⟨V, F, T⟩, rfl, hQ2, hf2, ht2, hb2⟩
  obtain ⟨A, a2, C, d2, rfl⟩ := hQ2.form
  simp only at hf2 ht2 hQ2 ⊢
  have hV : I64 V := by obtain ⟨_, _, _, _, hV⟩ := hQ2; exact hV
  have hcl := hC1.lt
  have hC2 := hb2.keep hC1
  have kR2 := kR1.ck hb2 (by omega)
  have g2 := g1.trans (hb2.below (B := w0.heap.size) (by omega) (by omega))
  have hs2 := hb2.size
  clear hC1 hb2 kR1 g1
  obtain ⟨W3, hW3⟩ : ∃ z, w2.alloc (.cells #[.int .i64 V, .slice A F.length a2, .slice C T.length d2] 26) = z := ⟨_, rfl⟩
  have ga : Below w2.heap.size w2 W3 := by rw [← hW3]; exact below_alloc _ _
  obtain ⟨gq, hgq⟩ : ∃ z, w2.heap.size = z := ⟨_, rfl⟩
  have hgq2 : w2.heap.size ≤ gq ∧ gq ≤ w2.heap.size := by omega
  have kq : Blk W3 gq 26 #[.int .i64 V, .slice A F.length a2, .slice C T.length d2] := by rw [← hW3, ← hgq]; exact Blk.new _ _ _
  have hs3 : W3.heap.size = gq + 1 := by rw [← hW3, ← hgq]; simp
  have hC3 := (Ck.of_below (c := c) ga).keep hC2
  have kR3 := kR2.call ga
  have hQ3 := hQ2.below ga
  have g3 := g2.trans (ga.mono (by omega))
  have HF := Lib.hid hf2
  have HT := Lib.hid ht2
  clear hC2 kR2 hQ2 g2 ga hf2 ht2
  have z0 := kq.cell' (i := 0) rfl
  have z1 := kq.cell' (i := 1) rfl
  have z2 := kq.cell' (i := 2) rfl
  go_wp2_with fail
  clear hW3 hgq
  refine (l18Numbers_any c V A C _ a2 _ d2 _ hC3 hV).mono ?_; rintro e w4 ⟨X, x, rfl, hX4, hx4, hb4⟩
  have hC4 := hb4.keep hC3
  have hcl := hC4.lt
  have kR4 := kR3.ck hb4 (by omega)
  have kq4 := kq.ck hb4 (by omega)
  have hQ4 := hQ3.ck hb4 (by omega)
  have g4 := g3.trans (hb4.below (B := w0.heap.size) (by omega) (by omega))
  have hs4 := hb4.size
  have HQ := Lib.hid hQ4
  have HX := Lib.hid hX4
  have HK := Lib.hid kq4
  have HR := Lib.hid kR4
  have HC := Lib.hid hC4
  have HXL := Lib.hid hx4
  clear hC3 kR3 kq hQ3 g3 hb4 z0 z1 z2 hQ4 hX4 kq4 kR4 hC4 hx4
  go_wp2_with fail
  have hgqc : gq ≠ c := by omega
  have hdc : w0.heap.size ≠ c := by omega
  have hgqd : gq ≠ w0.heap.size := by omega
  refine wp_region_netD (c) (w0.heap.size) (#[.int .i64 V, .slice A F.length a2, .slice C T.length d2]) (by kernel_rfl) [.eq (.agg #[.int .i64 V, .slice A F.length a2, .slice C T.length d2]), .eq (X), .eq (.pointer (some ⟨c, 0, none⟩)), rel 3 (fun u lo hi w => ∃ g, u = .slice (some ⟨g, 0, none⟩) 8 8 ∧ Blk w g 3 #[.int .i64 (-3), .int .i64 (-1), .int .i64 0, .int .i64 1, .int .i64 2, .int .i64 5, .int .i64 41, .int .i64 (-41)] ∧ c < g ∧ w0.heap.size < g), rel 4 (fun u lo hi w => ∃ k : Int, u = .int .i64 k ∧ (-41 ≤ k ∧ k ≤ 41)), .rel (fun x w => Blk w w0.heap.size 26 #[.int .i64 V, .slice A F.length a2, .slice C T.length d2])] [[], [], [], [], [2, 3], [0, 2, 3, 4], [0, 1, 2, 3, 4, 5], [0, 1, 2, 3, 4, 5, 6]] 6 (by kernel_rfl) ⟨trivial, trivial, trivial, rel_stableD (fun u lo hi w w' ⟨g, h1, h2, h3, h4⟩ hb => ⟨g, h1, h2.cd hb (by omega) (by omega), h3, h4⟩), rel_stableD (fun u lo hi w w' h hb => h), fun x w w' h hb => hb.keepD h, trivial⟩ ⟨?_, ?_, ?_, ?_, ?_, ?_, trivial⟩ ?_
  · intro x w hb hk Q' hQ
    clear hk
    simp only [netAct, dstAt, List.getElem?_toArray, List.getElem?_cons_zero, List.getElem?_cons_succ, Option.bind_some, Act.put, List.setIfInBounds_toArray, List.set_cons_zero, List.set_cons_succ] at hQ ⊢
    have z0 := (HK.out.cd hb hgqc hgqd).cell' (i := 0) rfl
    have z1 := (HK.out.cd hb hgqc hgqd).cell' (i := 1) rfl
    have z2 := (HK.out.cd hb hgqc hgqd).cell' (i := 2) rfl
    go_wp2
    exact hQ (.agg #[.int .i64 V, .slice A F.length a2, .slice C T.length d2]) _ (Cd.refl _ _ _ _) rfl
  · intro x w hb hk Q' hQ
    clear hk
    simp only [netAct, dstAt, List.getElem?_toArray, List.getElem?_cons_zero, List.getElem?_cons_succ, Option.bind_some, Act.put, List.setIfInBounds_toArray, List.set_cons_zero, List.set_cons_succ] at hQ ⊢
    go_wp2
    exact hQ (X) _ (Cd.refl _ _ _ _) rfl
  · intro x w hb hk Q' hQ
    clear hk
    simp only [netAct, dstAt, List.getElem?_toArray, List.getElem?_cons_zero, List.getElem?_cons_succ, Option.bind_some, Act.put, List.setIfInBounds_toArray, List.set_cons_zero, List.set_cons_succ] at hQ ⊢
    go_wp2
    exact hQ (.pointer (some ⟨c, 0, none⟩)) _ (Cd.refl _ _ _ _) rfl
  · intro x w hb hk Q' hQ
    clear hk
    simp only [netAct, dstAt, List.getElem?_toArray, List.getElem?_cons_zero, List.getElem?_cons_succ, Option.bind_some, Act.put, List.setIfInBounds_toArray, List.set_cons_zero, List.set_cons_succ] at hQ ⊢
    have hcw := (hb.keep HC.out).lt
    have hsb := hb.size
    have hdw : w0.heap.size < w.heap.size := by omega
    go_wp2
    exact hQ _ _ (Cd.of_ck (Ck.of_below (below_alloc _ _)) hdc) ⟨_, rfl, Blk.new _ _ _, hcw, hdw⟩
  · intro x w hb hk Q' hQ
    have h2 : x.v 2 = .pointer (some ⟨c, 0, none⟩) := (hk 2 (by decide)).1
    have h3 : ∃ g, (x.v 3) = .slice (some ⟨g, 0, none⟩) 8 8 ∧ Blk w g 3 #[.int .i64 (-3), .int .i64 (-1), .int .i64 0, .int .i64 1, .int .i64 2, .int .i64 5, .int .i64 41, .int .i64 (-41)] ∧ c < g ∧ w0.heap.size < g := (hk 3 (by decide)).1
    have s3 := (hk 3 (by decide)).2
    clear hk
    simp only [netAct, dstAt, List.getElem?_toArray, List.getElem?_cons_zero, List.getElem?_cons_succ, Option.bind_some, Act.put, List.setIfInBounds_toArray, List.set_cons_zero, List.set_cons_succ] at hQ ⊢
    simp only [h2] at hQ ⊢
    clear h2
    obtain ⟨g, e3, hB3, hcg, hdg⟩ := h3
    obtain ⟨z3, hz3⟩ : ∃ z, x.v 3 = z := ⟨_, rfl⟩
    rw [hz3] at e3 hQ ⊢
    clear hz3
    subst e3
    go_wp2_with fail
    refine (l1PickInt_any (fun v => ∃ k : Int, v = .int .i64 k ∧ (-41 ≤ k ∧ k ≤ 41)) c g 8 8 _ _ (hb.keep HC.out) hB3 (by omega) (by omega) (by omega) (fun i hi => ?_) fun v h => ⟨_, h.choose_spec.1⟩).mono ?_
    · match i, hi with
      | 0, _ => exact ⟨_, rfl, _, rfl, by decide, by decide⟩
      | 1, _ => exact ⟨_, rfl, _, rfl, by decide, by decide⟩
      | 2, _ => exact ⟨_, rfl, _, rfl, by decide, by decide⟩
      | 3, _ => exact ⟨_, rfl, _, rfl, by decide, by decide⟩
      | 4, _ => exact ⟨_, rfl, _, rfl, by decide, by decide⟩
      | 5, _ => exact ⟨_, rfl, _, rfl, by decide, by decide⟩
      | 6, _ => exact ⟨_, rfl, _, rfl, by decide, by decide⟩
      | 7, _ => exact ⟨_, rfl, _, rfl, by decide, by decide⟩
      | i + 8, h => omega
    rintro e w7 ⟨v, ⟨k, rfl, hk⟩, rfl, hb7⟩
    go_wp2
    exact hQ _ _ (Cd.of_ck hb7 hdc) ⟨k, rfl, hk⟩
  · intro x w hb hk Q' hQ
    have h0 : x.v 0 = .agg #[.int .i64 V, .slice A F.length a2, .slice C T.length d2] := (hk 0 (by decide)).1
    have h2 : x.v 2 = .pointer (some ⟨c, 0, none⟩) := (hk 2 (by decide)).1
    have h3 : ∃ g, (x.v 3) = .slice (some ⟨g, 0, none⟩) 8 8 ∧ Blk w g 3 #[.int .i64 (-3), .int .i64 (-1), .int .i64 0, .int .i64 1, .int .i64 2, .int .i64 5, .int .i64 41, .int .i64 (-41)] ∧ c < g ∧ w0.heap.size < g := (hk 3 (by decide)).1
    have h4 : ∃ k : Int, (x.v 4) = .int .i64 k ∧ (-41 ≤ k ∧ k ≤ 41) := (hk 4 (by decide)).1
    have s3 := (hk 3 (by decide)).2
    have s4 := (hk 4 (by decide)).2
    clear hk
    simp only [netAct, dstAt, List.getElem?_toArray, List.getElem?_cons_zero, List.getElem?_cons_succ, Option.bind_some, Act.put, List.setIfInBounds_toArray, List.set_cons_zero, List.set_cons_succ] at hQ ⊢
    simp only [h0, h2] at hQ ⊢
    clear h0 h2
    have hE := hb.keepE ⟨_, _, _, _, _, _, _, HR.out⟩
    have hS := Cd.store (V := V) (A := A) (n := F.length) (e := a2) (C := C) (m := T.length) (f := d2) hdc hE
    obtain ⟨V', A', n', e', C', m', f', hB⟩ := hE
    have y0 := hB.cell' (i := 0) rfl
    have y1 := hB.cell' (i := 1) rfl
    have y2 := hB.cell' (i := 2) rfl
    have fr := hB.frozen
    have HS := Lib.hid hS
    clear hS hB
    go_wp2
    exact hQ undef _ HS.out.1 HS.out.2
  · intro x w hb hk hiv hdj
    have h0 : x.v 0 = .agg #[.int .i64 V, .slice A F.length a2, .slice C T.length d2] := hk 0 (by decide)
    have h1 : x.v 1 = X := hk 1 (by decide)
    have h2 : x.v 2 = .pointer (some ⟨c, 0, none⟩) := hk 2 (by decide)
    have h3 : ∃ g, (x.v 3) = .slice (some ⟨g, 0, none⟩) 8 8 ∧ Blk w g 3 #[.int .i64 (-3), .int .i64 (-1), .int .i64 0, .int .i64 1, .int .i64 2, .int .i64 5, .int .i64 41, .int .i64 (-41)] ∧ c < g ∧ w0.heap.size < g := hk 3 (by decide)
    have h4 : ∃ k : Int, (x.v 4) = .int .i64 k ∧ (-41 ≤ k ∧ k ≤ 41) := hk 4 (by decide)
    have h5 : Blk w w0.heap.size 26 #[.int .i64 V, .slice A F.length a2, .slice C T.length d2] := hk 5 (by decide)
    clear hk
    simp only [netAct, dstAt, List.getElem?_toArray, List.getElem?_cons_zero, List.getElem?_cons_succ, Option.bind_some, Act.put, List.setIfInBounds_toArray, List.set_cons_zero, List.set_cons_succ]
    simp only [List.drop_succ_cons, List.drop_zero, h0, h1, h2]
    clear h0 h1 h2
    obtain ⟨k, e4, hk⟩ := h4
    rw [e4]
    have r0 := h5.cell' (i := 0) rfl
    have r1 := h5.cell' (i := 1) rfl
    have r2 := h5.cell' (i := 2) rfl
    have HQF := Lib.hid (HQ.out.cd hb (by omega) (by omega))
    have HXF := Lib.hid (HX.out.cd hb (by omega) (by omega))
    have GF := Lib.hid (g4.trans (hb.low (B := w0.heap.size) (by omega) (Nat.le_refl _) (by omega)))
    clear hb hiv hdj
    go_wp2
    refine bodyPost_ret (v := .tuple #[.agg #[.int .i64 V, .slice A F.length a2, .slice C T.length d2], X, .int .i64 k]) (by simp [results, go_sem, r0, r1, r2]) rfl ?_
    exact ⟨_, _, _, _, _, rfl, HQF.out.rd, HF.out, HT.out, HXF.out.rd, HXL.out, hk, GF.out⟩
set_option maxHeartbeats 3200000 in
set_option maxRecDepth 100000 in
theorem drawCoxeterNumber_any (u : Value) (l : List Int) (w0 : World) (hu : SlY w0 w0.heap.size u l) :
    Calls Try.prog 26 #[u] w0 fun e w' => ∃ v q, e = .returned v ∧ QvR w' w'.heap.size v q ∧ q.f.length ≤ 62 ∧ q.t.length ≤ 62 ∧ Below w0.heap.size w0 w' := by
  obtain ⟨W, hW⟩ : ∃ W, W = w0.alloc (.cells #[.int .i64 0, .slice none 0 0, .slice none 0 0] 26) := ⟨_, rfl⟩
  have g0 : Below w0.heap.size w0 W := by rw [hW]; exact below_alloc _ _
  have kR : Blk W w0.heap.size 26 #[.int .i64 0, .slice none 0 0, .slice none 0 0] := by rw [hW]; exact Blk.new _ _ _
  have sW : W.heap.size = w0.heap.size + 1 := by rw [hW]; simp
  have hu' := SlY.next g0 hu
  clear hu
  go_enter Try.func26, Try.ntmps26
  go_wp2_with fail
  rw [← hW]; clear hW
  refine (l1New_any u l _ hu').mono ?_; rintro e w1 ⟨c, rfl, hcs, hC1, hb1⟩
  have kR1 := kR.call hb1
  have g1 := g0.trans (hb1.mono (by omega))
  have hs1 := hb1.size
  clear kR g0 hb1 hu'
  go_wp2_with fail
  refine (l20Quiver_any c _ hC1).mono ?_; rintro e w2 ⟨v, ⟨V, F, T⟩, rfl, hQ2, hf2, ht2, hb2⟩
  obtain ⟨A, a2, C, d2, rfl⟩ := hQ2.form
  simp only at hf2 ht2 hQ2 ⊢
  have hcl := hC1.lt
  have kR2 := kR1.ck hb2 (by omega)
  have g2 := g1.trans (hb2.below (B := w0.heap.size) (by omega) (by omega))
  have hs2 := hb2.size
  have fr := kR2.frozen
  have r0 := kR2.cell' (i := 0) rfl
  have r1 := kR2.cell' (i := 1) rfl
  have r2 := kR2.cell' (i := 2) rfl
  have hc3 := ((chg_set (lo := w0.heap.size) (hi := w0.heap.size + 1) (w := w2) (p := ⟨w0.heap.size, 0, none⟩) (u := .int .i64 V) (Nat.le_refl _) (Nat.lt_succ_self _)).trans (chg_set (p := ⟨w0.heap.size, 1, none⟩) (u := .slice A (F).length a2) (Nat.le_refl _) (Nat.lt_succ_self _))).trans (chg_set (p := ⟨w0.heap.size, 2, none⟩) (u := .slice C (T).length d2) (Nat.le_refl _) (Nat.lt_succ_self _))
  have OF := Lib.hid ((hQ2.chg hc3 (.inr (by omega))).wid (lo' := w0.heap.size) (hi' := w2.heap.size) (by omega) (Nat.le_refl _)).rd
  have GS := Lib.hid (g2.trans (hc3.below (B := w0.heap.size) (Nat.le_refl _) (by omega)))
  have HB := Lib.hid (Cd.store (c := c) (V := V) (A := A) (n := F.length) (e := a2) (C := C) (m := T.length) (f := d2) (w := w2) (d := w0.heap.size) (by omega) ⟨_, _, _, _, _, _, _, kR2⟩).2
  have HL := Lib.hid (show F.length ≤ 62 ∧ T.length ≤ 62 by omega)
  clear hc3 kR2 hQ2 g2 hb2 hf2 ht2 kR1 g1 hC1
  go_wp2
  have y0 := HB.out.cell' (i := 0) rfl
  have y1 := HB.out.cell' (i := 1) rfl
  have y2 := HB.out.cell' (i := 2) rfl
  refine bodyPost_ret (v := .agg #[.int .i64 V, .slice A F.length a2, .slice C T.length d2]) (by simp [results, go_sem, y0, y1, y2]) rfl ?_
  exact ⟨_, _, rfl, OF.out, HL.out.1, HL.out.2, GS.out⟩
set_option maxHeartbeats 3200000 in
set_option maxRecDepth 100000 in
theorem drawDefectOf_any (u : Value) (l : List Int) (w0 : World) (hu : SlY w0 w0.heap.size u l) :
    Calls Try.prog 17 #[u] w0 fun e w' => ∃ v q X x, e = .returned (.tuple #[v, X]) ∧ QvR w' w'.heap.size v q ∧ q.f.length ≤ 62 ∧ q.t.length ≤ 62 ∧ SlI w' w'.heap.size X x ∧ x.length ≤ 5 ∧ Below w0.heap.size w0 w' := by
  obtain ⟨W, hW⟩ : ∃ W, W = w0.alloc (.cells #[.int .i64 0, .slice none 0 0, .slice none 0 0] 26) := ⟨_, rfl⟩
  have g0 : Below w0.heap.size w0 W := by rw [hW]; exact below_alloc _ _
  have kR : Blk W w0.heap.size 26 #[.int .i64 0, .slice none 0 0, .slice none 0 0] := by rw [hW]; exact Blk.new _ _ _
  have sW : W.heap.size = w0.heap.size + 1 := by rw [hW]; simp
  have hu' := SlY.next g0 hu
  clear hu
  go_enter Try.func17, Try.ntmps17
  go_wp2_with fail
  rw [← hW]; clear hW
  refine (l1New_any u l _ hu').mono ?_; rintro e w1 ⟨c, rfl, hcs, hC1, hb1⟩
  have kR1 := kR.call hb1
  have g1 := g0.trans (hb1.mono (by omega))
  have hs1 := hb1.size
  clear kR g0 hb1 hu'
  go_wp2_with fail
  obtain ⟨W4, hW4⟩ : ∃ z, w1.alloc (.cells #[.string ⟨#[75, 50]⟩, .string ⟨#[115, 116, 97, 114, 52]⟩, .string ⟨#[115, 113, 117, 97, 114, 101]⟩, .string ⟨#[108, 111, 111, 112]⟩, .string ⟨#[65, 51]⟩, .string ⟨#[99, 105, 114, 99, 108, 101]⟩] 9) = z := ⟨_, rfl⟩
  have gb : Below w1.heap.size w1 W4 := by rw [← hW4]; exact below_alloc _ _
  have kS : Blk W4 w1.heap.size 9 #[.string ⟨#[75, 50]⟩, .string ⟨#[115, 116, 97, 114, 52]⟩, .string ⟨#[115, 113, 117, 97, 114, 101]⟩, .string ⟨#[108, 111, 111, 112]⟩, .string ⟨#[65, 51]⟩, .string ⟨#[99, 105, 114, 99, 108, 101]⟩] := by rw [← hW4]; exact Blk.new _ _ _
  rw [hW4]
  refine (l1Pick_any StrP c w1.heap.size 6 6 _ _ ((Ck.of_below (c := c) gb).keep hC1) kS (by have := hC1.lt; omega) (by omega) (by omega) (fun i hi => ?_) fun v h => h).mono ?_
  · match i, hi with
    | 0, _ => exact ⟨_, rfl, _, rfl⟩
    | 1, _ => exact ⟨_, rfl, _, rfl⟩
    | 2, _ => exact ⟨_, rfl, _, rfl⟩
    | 3, _ => exact ⟨_, rfl, _, rfl⟩
    | 4, _ => exact ⟨_, rfl, _, rfl⟩
    | 5, _ => exact ⟨_, rfl, _, rfl⟩
    | i + 6, h => omega
  rintro e w5 ⟨v, ⟨s, rfl⟩, rfl, hb5⟩
  have hC5 := hb5.keep ((Ck.of_below (c := c) gb).keep hC1)
  have hcl1 := hC1.lt
  have hs5 := hb5.size
  have hs4 := gb.size
  have kR5 := (kR1.call gb).ck hb5 (by omega)
  have g5 := (g1.trans (gb.mono (by omega))).trans (hb5.below (B := w0.heap.size) (by omega) (by omega))
  clear hW4 gb kS hb5 hC1 kR1 g1
  go_wp2_with fail
  refine (namedQuiver_any s _).mono ?_; rintro e w2 ⟨v2, b2, ⟨V, F, T⟩, rfl, hQ2, hf2, ht2, hb2⟩
  obtain ⟨A, a2, C, d2, rfl⟩ := hQ2.form
  simp only at hf2 ht2 hQ2 ⊢
  have hV : I64 V := by obtain ⟨_, _, _, _, hV⟩ := hQ2; exact hV
  have hC2 := (Ck.of_below (c := c) hb2).keep hC5
  have hcl := hC5.lt
  have kR2 := kR5.call hb2
  have g2 := g5.trans (hb2.mono (by omega))
  have hs2 := hb2.size
  clear hC5 hb2 kR5 g5
  obtain ⟨W3, hW3⟩ : ∃ z, w2.alloc (.cells #[.int .i64 V, .slice A F.length a2, .slice C T.length d2] 26) = z := ⟨_, rfl⟩
  have ga : Below w2.heap.size w2 W3 := by rw [← hW3]; exact below_alloc _ _
  obtain ⟨gq, hgq⟩ : ∃ z, w2.heap.size = z := ⟨_, rfl⟩
  have hgq2 : w2.heap.size ≤ gq ∧ gq ≤ w2.heap.size := by omega
  have kq : Blk W3 gq 26 #[.int .i64 V, .slice A F.length a2, .slice C T.length d2] := by rw [← hW3, ← hgq]; exact Blk.new _ _ _
  have hs3 : W3.heap.size = gq + 1 := by rw [← hW3, ← hgq]; simp
  have hC3 := (Ck.of_below (c := c) ga).keep hC2
  have kR3 := kR2.call ga
  have hQ3 := hQ2.below ga
  have g3 := g2.trans (ga.mono (by omega))
  have HF := Lib.hid (show F.length ≤ 62 by omega)
  have HT := Lib.hid (show T.length ≤ 62 by omega)
  clear hC2 kR2 hQ2 g2 ga hf2 ht2
  have HQ := Lib.hid hQ3
  have HK := Lib.hid kq
  have HR := Lib.hid kR3
  have HC := Lib.hid hC3
  have hgqc : gq ≠ c := by omega
  have hdc : w0.heap.size ≠ c := by omega
  clear hQ3 kR3
  go_wp2_with fail
  clear hW3 hgq kq
  refine wp_region_netK (c) (by kernel_rfl) [.eq (.agg #[.int .i64 V, .slice A F.length a2, .slice C T.length d2]), .eq (.pointer (some ⟨c, 0, none⟩)), .eq (.agg #[.int .i64 V, .slice A F.length a2, .slice C T.length d2]), rel 3 (fun u lo hi w => ∃ y, IntsO w lo hi u y ∧ y.length ≤ 5 ∧ c < lo ∧ w0.heap.size < lo)] [[], [], [], [1, 2], [0, 1, 2, 3], [0, 1, 2, 3, 4]] 4 (by kernel_rfl) ⟨trivial, trivial, trivial, rel_stableK (fun u lo hi w w' ⟨y, h1, h2, h3, h4⟩ hb => ⟨y, h1.ck hb h3, h2, h3, h4⟩), trivial⟩ ⟨?_, ?_, ?_, ?_, trivial⟩ ?_
  · intro x w hb hk Q' hQ
    clear hk
    simp only [netAct, dstAt, List.getElem?_toArray, List.getElem?_cons_zero, List.getElem?_cons_succ, Option.bind_some, Act.put, List.setIfInBounds_toArray, List.set_cons_zero, List.set_cons_succ] at hQ ⊢
    have z0 := (HK.out.ck hb hgqc).cell' (i := 0) rfl
    have z1 := (HK.out.ck hb hgqc).cell' (i := 1) rfl
    have z2 := (HK.out.ck hb hgqc).cell' (i := 2) rfl
    go_wp2
    exact hQ (.agg #[.int .i64 V, .slice A F.length a2, .slice C T.length d2]) _ (Ck.refl _ _) rfl
  · intro x w hb hk Q' hQ
    clear hk
    simp only [netAct, dstAt, List.getElem?_toArray, List.getElem?_cons_zero, List.getElem?_cons_succ, Option.bind_some, Act.put, List.setIfInBounds_toArray, List.set_cons_zero, List.set_cons_succ] at hQ ⊢
    go_wp2
    exact hQ (.pointer (some ⟨c, 0, none⟩)) _ (Ck.refl _ _) rfl
  · intro x w hb hk Q' hQ
    clear hk
    simp only [netAct, dstAt, List.getElem?_toArray, List.getElem?_cons_zero, List.getElem?_cons_succ, Option.bind_some, Act.put, List.setIfInBounds_toArray, List.set_cons_zero, List.set_cons_succ] at hQ ⊢
    have z0 := (HK.out.ck hb hgqc).cell' (i := 0) rfl
    have z1 := (HK.out.ck hb hgqc).cell' (i := 1) rfl
    have z2 := (HK.out.ck hb hgqc).cell' (i := 2) rfl
    go_wp2
    exact hQ (.agg #[.int .i64 V, .slice A F.length a2, .slice C T.length d2]) _ (Ck.refl _ _) rfl
  · intro x w hb hk Q' hQ
    have h1 : x.v 1 = .pointer (some ⟨c, 0, none⟩) := (hk 1 (by decide)).1
    have h2 : x.v 2 = .agg #[.int .i64 V, .slice A F.length a2, .slice C T.length d2] := (hk 2 (by decide)).1
    clear hk
    simp only [netAct, dstAt, List.getElem?_toArray, List.getElem?_cons_zero, List.getElem?_cons_succ, Option.bind_some, Act.put, List.setIfInBounds_toArray, List.set_cons_zero, List.set_cons_succ] at hQ ⊢
    simp only [h1, h2] at hQ ⊢
    clear h1 h2
    have hcw := (hb.keep HC.out).lt
    have hsb := hb.size
    have hdw : w0.heap.size < w.heap.size := by omega
    go_wp2_with fail
    refine (l18Numbers_any c V A C _ a2 _ d2 _ (hb.keep HC.out) hV).mono ?_; rintro e w7 ⟨Y, y, rfl, hy, hyl, hb7⟩
    go_wp2
    exact hQ _ _ hb7 ⟨y, hy, hyl, hcw, hdw⟩
  · intro x w hb hk hiv hdj
    have h0 : x.v 0 = .agg #[.int .i64 V, .slice A F.length a2, .slice C T.length d2] := hk 0 (by decide)
    have h1 : x.v 1 = .pointer (some ⟨c, 0, none⟩) := hk 1 (by decide)
    have h2 : x.v 2 = .agg #[.int .i64 V, .slice A F.length a2, .slice C T.length d2] := hk 2 (by decide)
    have h3 : ∃ y, IntsO w (x.lo 3) (x.hi 3) (x.v 3) y ∧ y.length ≤ 5 ∧ c < (x.lo 3) ∧ w0.heap.size < (x.lo 3) := hk 3 (by decide)
    clear hk
    simp only [netAct, dstAt, List.getElem?_toArray, List.getElem?_cons_zero, List.getElem?_cons_succ, Option.bind_some, Act.put, List.setIfInBounds_toArray, List.set_cons_zero, List.set_cons_succ]
    simp only [List.drop_succ_cons, List.drop_zero, h0, h1, h2]
    clear h0 h1 h2
    obtain ⟨y, hy, hyl, _, hdl⟩ := h3
    have hsb := hb.size
    have kR2 := HR.out.ck hb hdc
    have fr := kR2.frozen
    have r0 := kR2.cell' (i := 0) rfl
    have r1 := kR2.cell' (i := 1) rfl
    have r2 := kR2.cell' (i := 2) rfl
    have hc3 := ((chg_set (lo := w0.heap.size) (hi := w0.heap.size + 1) (w := w) (p := ⟨w0.heap.size, 0, none⟩) (u := .int .i64 V) (Nat.le_refl _) (Nat.lt_succ_self _)).trans (chg_set (p := ⟨w0.heap.size, 1, none⟩) (u := .slice A (F).length a2) (Nat.le_refl _) (Nat.lt_succ_self _))).trans (chg_set (p := ⟨w0.heap.size, 2, none⟩) (u := .slice C (T).length d2) (Nat.le_refl _) (Nat.lt_succ_self _))
    have OF := Lib.hid ((HQ.out.ck hb (by omega)).chg hc3 (.inr (by omega))).rd
    have HYF := Lib.hid (hy.chg hc3 (.inr (by omega))).rd
    have GS := Lib.hid ((g3.trans (hb.below (B := w0.heap.size) (by omega) (by omega))).trans (hc3.below (B := w0.heap.size) (Nat.le_refl _) (by omega)))
    have HB := Lib.hid (Cd.store (c := c) (V := V) (A := A) (n := F.length) (e := a2) (C := C) (m := T.length) (f := d2) (w := w) (d := w0.heap.size) hdc ⟨_, _, _, _, _, _, _, kR2⟩).2
    obtain ⟨Y, hY⟩ : ∃ Y, x.v 3 = Y := ⟨_, rfl⟩
    rw [hY] at HYF ⊢
    clear hY hb hiv hdj hy hc3 kR2
    go_wp2
    have y0 := HB.out.cell' (i := 0) rfl
    have y1 := HB.out.cell' (i := 1) rfl
    have y2 := HB.out.cell' (i := 2) rfl
    refine bodyPost_ret (v := .tuple #[.agg #[.int .i64 V, .slice A F.length a2, .slice C T.length d2], Y]) (by simp [results, go_sem, y0, y1, y2]) rfl ?_
    exact ⟨_, _, _, _, rfl, OF.out, HF.out, HT.out, HYF.out, hyl, GS.out⟩
end Go.Proofs.Ytaefpblpfjhgoaa

/- The two OrderOf. -/
namespace Go.Proofs.Ytaefpblpfjhgoaa
set_option linter.unusedVariables false
set_option linter.unusedSimpArgs false
open Go.RowKit

set_option maxHeartbeats 400000 in
theorem l4Has_any (u : Value) (xs : List Int) (v : Int) (w : World) (hu : SlI w w.heap.size u xs) :
    Calls Try.prog 71 #[u, .int .i64 v] w fun e w' => e = .returned (.bool (decide (v ∈ xs))) ∧ Below w.heap.size w w' := by
  obtain ⟨A, c, rfl, _, _, hn, hx⟩ := hu.open_
  clear hu
  go_enter Try.func71, Try.ntmps71
  go_wp2
  go_loopw [5] (fun i wr => ∃ k m : Nat, k ≤ xs.length ∧ i = .int .i64 k ∧ wr = w.drewN m ∧ Hid (∀ y ∈ xs.take k, y ≠ v)) (fun i _ => xs.length - (intOf i).toNat)
  case atStart => exact ⟨0, 0, Nat.zero_le _, rfl, rfl, by intro y hy; simp at hy⟩
  case round =>
    obtain ⟨k, m, hk, rfl, rfl, hno⟩ := hrel
    by_cases hlt : k < xs.length
    · obtain ⟨b, o, x, rfl, hb, HX, c1, _⟩ := SlI.at_ hx hlt
      clear hx
      rcases hvx : (x == v) with _ | _
      · go_wp2
        go_roundw
        case rel =>
          refine ⟨k + 1, m, by omega, by go_num, rfl, fun y hy => ?_⟩
          rw [take_snoc HX.out, List.mem_append, List.mem_singleton] at hy
          rcases hy with hy | rfl
          · exact hno.out y hy
          · simpa using hvx
        case measure => simp [intOf]; omega
      · have hfin : Hid (decide (v ∈ xs) = true) := by
          show _ = _
          rw [beq_iff_eq] at hvx
          subst hvx
          simpa using List.mem_of_getElem? HX.out
        go_wp2
        go_ret
        exact ⟨by rw [hfin.out]; rfl, drewN_below _ _ _⟩
    · go_wp2
      go_ret
      have h1 := hno.out
      rw [List.take_of_length_le (by omega)] at h1
      have : decide (v ∈ xs) = false := by simp; exact fun h => h1 v h rfl
      exact ⟨by rw [this]; rfl, drewN_below _ _ _⟩

/-- Whether arrows lead to v from those taken only. -/
def rdyAt (q : Qv) (taken : List Int) (v : Int) (k : Nat) : Bool := ((q.f.take k).zip (q.t.take k)).all fun p => !(p.2 == v) || decide (p.1 ∈ taken)
def rdy (q : Qv) (taken : List Int) (v : Int) : Bool := (q.f.zip q.t).all fun p => !(p.2 == v) || decide (p.1 ∈ taken)
theorem rdyAt_zero (q : Qv) (taken : List Int) (v : Int) : rdyAt q taken v 0 = true := by simp [rdyAt]
theorem rdyAt_succ {q : Qv} {taken : List Int} {v x y : Int} {k : Nat} (hx : q.f[k]? = some x) (hy : q.t[k]? = some y) : rdyAt q taken v (k + 1) = (rdyAt q taken v k && (!(y == v) || decide (x ∈ taken))) := by
  have h1 := lt_of_some hx
  have h2 := lt_of_some hy
  rw [rdyAt, take_snoc hx, take_snoc hy, List.zip_append (by simp; omega), List.all_append]
  simp [rdyAt]
theorem rdyAt_end {q : Qv} {taken : List Int} {v : Int} {k : Nat} (h1 : q.f.length ≤ k) (h2 : q.t.length ≤ k) : rdyAt q taken v k = rdy q taken v := by
  rw [rdyAt, List.take_of_length_le h1, List.take_of_length_le h2, rdy]
theorem rdy_bad {q : Qv} {taken : List Int} {v x y : Int} {k : Nat} (hx : q.f[k]? = some x) (hy : q.t[k]? = some y) (h : (!(y == v) || decide (x ∈ taken)) = false) : rdy q taken v = false := by
  rw [rdy, List.all_eq_false]
  refine ⟨(x, y), ?_, by simpa using h⟩
  rw [List.mem_iff_getElem?]
  exact ⟨k, by rw [List.getElem?_zip_eq_some]; exact ⟨hx, hy⟩⟩

set_option maxHeartbeats 800000 in
theorem isReady_any (u tv : Value) (q : Qv) (taken : List Int) (v : Int) (w : World) (hu : QvR w w.heap.size u q) (ht : SlI w w.heap.size tv taken) (hl : q.t.length ≤ q.f.length) :
    Calls Try.prog 80 #[u, .int .i64 v, tv] w fun e w' => e = .returned (.bool (rdy q taken v)) ∧ Below w.heap.size w w' := by
  obtain ⟨A, c, C, d, rfl, hf, hT, hr, lf, lt⟩ := hu.open_
  clear hu
  obtain ⟨W, hW⟩ : ∃ W, W = w.alloc (.cells #[.int .i64 q.v, .slice A q.f.length c, .slice C q.t.length d] 26) := ⟨_, rfl⟩
  have g0 : Below w.heap.size w W := by rw [hW]; exact below_alloc _ _
  have kB : Blk W w.heap.size 26 #[.int .i64 q.v, .slice A q.f.length c, .slice C q.t.length d] := by rw [hW]; exact Blk.new _ _ _
  have c1 := kB.cell' (i := 1) rfl
  have c2 := kB.cell' (i := 2) rfl
  have ht' := SlI.next g0 ht
  obtain ⟨TA, tc, rfl, _, _, _, _⟩ := ht.open_
  clear ht kB
  have e0 : w.heap.size ≤ W.heap.size := g0.size
  go_enter Try.func80, Try.ntmps80
  go_wp2_with fail
  rw [← hW]; clear hW
  go_loop [12] (fun i => ∃ k : Nat, k ≤ q.t.length ∧ i = .int .i64 k ∧ Hid (rdyAt q taken v k = true)) (fun i => q.t.length - (intOf i).toNat)
  case atStart => exact ⟨0, Nat.zero_le _, rfl, rdyAt_zero _ _ _⟩
  case round =>
    obtain ⟨k, hk, rfl, hok⟩ := hrel
    by_cases hlt : k < q.t.length
    · obtain ⟨b, o, y, rfl, hb, HY, y1, _⟩ := SlI.at_ hT hlt
      obtain ⟨b2, o2, x, rfl, hb2, HX, x1, _⟩ := SlI.at_ (k := k) hf (by omega)
      have y2 := bcell g0 hb y1
      have x2 := bcell g0 hb2 x1
      have hlf : k < q.f.length := by omega
      clear hf hT y1 x1
      rcases hyv : (y == v) with _ | _
      · have hst : Hid (rdyAt q taken v (k + 1) = true) := by show _ = _; rw [rdyAt_succ HX.out HY.out, hok.out, hyv]; rfl
        go_wp2
        go_round
        case rel => exact ⟨k + 1, by omega, by go_num, hst.out⟩
        case measure => simp [intOf]; omega
      · obtain ⟨B, hB⟩ : ∃ B, decide (x ∈ taken) = B := ⟨_, rfl⟩
        have HB := Lib.hid hB
        clear hB
        cases B
        · have hfin : Hid (rdy q taken v = false) := rdy_bad HX.out HY.out (by rw [hyv, HB.out]; rfl)
          go_wp2_with fail
          refine (contains_any _ taken x _ ht').mono ?_; rintro e w' ⟨rfl, rfl⟩
          rw [HB.out]
          go_wp2
          go_ret
          exact ⟨by rw [hfin.out]; rfl, g0⟩
        · have hst : Hid (rdyAt q taken v (k + 1) = true) := by show _ = _; rw [rdyAt_succ HX.out HY.out, hok.out, hyv, HB.out]; rfl
          go_wp2_with fail
          refine (contains_any _ taken x _ ht').mono ?_; rintro e w' ⟨rfl, rfl⟩
          rw [HB.out]
          go_wp2
          go_round
          case rel => exact ⟨k + 1, by omega, by go_num, hst.out⟩
          case measure => simp [intOf]; omega
    · have hfin : Hid (rdy q taken v = true) := by
        show _ = _
        have h := hok.out
        by_cases hkf : q.f.length ≤ k
        · rwa [rdyAt_end hkf (by omega)] at h
        · have h3 : (q.f.zip q.t) = (q.f.take k).zip (q.t.take k) := by
            simp only [List.zip]; rw [← List.take_zipWith, List.take_of_length_le (by simp; omega)]
          rw [rdy, h3]
          exact h
      go_wp2
      go_ret
      exact ⟨by rw [hfin.out]; rfl, g0⟩
end Go.Proofs.Ytaefpblpfjhgoaa

/- The two OrderOf. -/
namespace Go.Proofs.Ytaefpblpfjhgoaa
set_option linter.unusedVariables false
set_option linter.unusedSimpArgs false
open Go.RowKit

def fre (q : Qv) (out : List Int) (v : Int) : Bool := !decide (v ∈ out) && rdy q out v
/-- What the search holds behind m vertices, from the last one down. -/
def bst (q : Qv) (out : List Int) (V : Nat) : Nat → Int
  | 0 => -1
  | m + 1 => if fre q out ((V : Int) - 1 - m) then (V : Int) - 1 - m else bst q out V m
theorem bst_rng (q : Qv) (out : List Int) (V : Nat) : ∀ m, m ≤ V → -1 ≤ bst q out V m ∧ bst q out V m ≤ (V : Int) - 1
  | 0, _ => ⟨by simp [bst], by simp [bst]; omega⟩
  | m + 1, h => by
    have ih := bst_rng q out V m (by omega)
    unfold bst
    split <;> omega
def ordGo (q : Qv) (V : Nat) : Nat → List Int → List Int × Bool
  | 0, out => (out, true)
  | n + 1, out => if bst q out V V < 0 then ([], false) else ordGo q V n (out ++ [bst q out V V])
def ordQ (q : Qv) : List Int × Bool := if isQ q then ordGo q q.v.toNat q.v.toNat [] else ([], false)

theorem IntsO.nil_ (w : World) (lo hi : Nat) : IntsO w lo hi (.slice none 0 0) [] := ⟨OwnI.nil _ _, fun k hk => by simp [Value.ownBlock] at hk⟩
def lenOf : Value → Nat
  | .slice _ n _ => n
  | _ => 0

set_option maxHeartbeats 800000 in
theorem implOrderOf_any (u : Value) (q : Qv) (w : World) (hu : QvR w w.heap.size u q) :
    Calls Try.prog 57 #[u] w fun e w' => ∃ v, e = .returned (.tuple #[v, .bool (ordQ q).2]) ∧ IntsO w' w.heap.size w'.heap.size v (ordQ q).1 ∧ Below w.heap.size w w' := by
  obtain ⟨qv, qf, qt⟩ := q
  have hu0 := hu
  obtain ⟨A, c, C, d, rfl, hf, hT, hr, lf, lt⟩ := hu.open_
  dsimp only at *
  obtain ⟨W, hW⟩ : ∃ W, W = w.alloc (.cells #[.int .i64 qv, .slice A qf.length c, .slice C qt.length d] 26) := ⟨_, rfl⟩
  have g0 : Below w.heap.size w W := by rw [hW]; exact below_alloc _ _
  have kB : Blk W w.heap.size 26 #[.int .i64 qv, .slice A qf.length c, .slice C qt.length d] := by rw [hW]; exact Blk.new _ _ _
  have c0 := kB.cell' (i := 0) rfl
  have c1 := kB.cell' (i := 1) rfl
  have c2 := kB.cell' (i := 2) rfl
  have h0 := QvR.next g0 hu0
  clear hu hu0
  rcases hq : isQ ⟨qv, qf, qt⟩ with _ | _
  · have hF : Hid (ordQ ⟨qv, qf, qt⟩ = ([], false)) := by show _ = _; simp [ordQ, hq]
    go_enter Try.func57, Try.ntmps57
    go_wp2_with fail
    rw [← hW]; clear hW
    refine (implIsQuiver_any _ _ _ h0).mono ?_; rintro e w1 ⟨rfl, hb1⟩
    rw [hq]
    go_wp2
    exact bodyPost_ret (v := .tuple #[.slice none 0 0, .bool false]) (by simp [results, go_sem]) rfl ⟨_, by rw [hF.out], by rw [hF.out]; exact IntsO.nil_ _ _ _, bthen g0 hb1⟩
  · obtain ⟨⟨hv1, hv2⟩, hlen, _, _, _⟩ := isQ_t.1 hq
    dsimp only at hv1 hv2 hlen
    obtain ⟨V, rfl⟩ : ∃ V : Nat, qv = V := ⟨qv.toNat, by omega⟩
    have HE := Lib.hid (show ordQ ⟨V, qf, qt⟩ = ordGo ⟨V, qf, qt⟩ V V [] by simp [ordQ, hq])
    have HLE := Lib.hid hlen
    have hr0 : QvR w w.heap.size (.agg #[.int .i64 V, .slice A qf.length c, .slice C qt.length d]) ⟨V, qf, qt⟩ := ⟨_, _, rfl, hf, hT, hr⟩
    clear hlen hf hT
    generalize ordQ ⟨V, qf, qt⟩ = R at *
    go_enter Try.func57, Try.ntmps57
    go_wp2_with fail
    rw [← hW]; clear hW
    refine (implIsQuiver_any _ _ _ h0).mono ?_; rintro e w1 ⟨rfl, hb1⟩
    rw [hq]
    have k1 := kB.call hb1
    have g1 := bthen g0 hb1
    clear c0 c1 c2 kB g0 hb1 h0
    go_wp2
    go_loopw [4] (fun a wr => ∃ out : List Int, out.length ≤ V ∧ OwnI wr w.heap.size a out ∧ Below w.heap.size w wr ∧ Blk wr w.heap.size 26 #[.int .i64 V, .slice A qf.length c, .slice C qt.length d] ∧ Hid (R = ordGo ⟨V, qf, qt⟩ V (V - out.length) out)) (fun a _ => V - lenOf a)
    case atStart => exact ⟨[], by simp, OwnI.nil _ _, g1, k1, HE⟩
    case round =>
      clear g1 k1 HE
      obtain ⟨out, hn, hown, hbel, hkB, hR⟩ := hrel
      obtain ⟨OA, oc, rfl, _, _⟩ := hown.form
      have c0 := hkB.cell' (i := 0) rfl
      have c1 := hkB.cell' (i := 1) rfl
      have c2 := hkB.cell' (i := 2) rfl
      by_cases hlt : out.length < V
      · go_wp2
        have HN := Lib.hid hn
        clear hn c0 c1 c2
        have hs := hbel.size
        generalize wr = wo at hown hbel hkB hs ⊢
        go_loopw [5, 6] (fun n v w2 => ∃ m : Nat, m ≤ V ∧ v = .int .i64 ((V : Int) - 1 - m) ∧ n = .int .i64 (bst ⟨V, qf, qt⟩ out V m) ∧ Below wo.heap.size wo w2) (fun _ v _ => (intOf v + 1).toNat)
        case atStart => exact ⟨0, Nat.zero_le _, by simp, rfl, Below.refl _ _⟩
        case round =>
          obtain ⟨m, hm, rfl, rfl, hbel2⟩ := hrel
          have hk2 := hkB.call hbel2
          have e0 := hk2.cell' (i := 0) rfl
          have e1 := hk2.cell' (i := 1) rfl
          have e2 := hk2.cell' (i := 2) rfl
          have ho2 : OwnI wr w.heap.size (.slice OA out.length oc) out := hown.below hbel2
          have hr2 := QvR.more (B' := wr.heap.size) (by have := hbel2.size; omega) (QvR.below (hbel.trans (hbel2.mono hs)) hr0)
          by_cases hlt2 : m < V
          · have hnn : (0 : Int) ≤ (V : Int) - 1 - m := by omega
            obtain ⟨B1, hB1⟩ : ∃ B, decide (((V : Int) - 1 - m) ∈ out) = B := ⟨_, rfl⟩
            have HB1 := Lib.hid hB1
            clear hB1
            cases B1
            · obtain ⟨B2, hB2⟩ : ∃ B, rdy ⟨V, qf, qt⟩ out ((V : Int) - 1 - m) = B := ⟨_, rfl⟩
              have HB2 := Lib.hid hB2
              clear hB2
              cases B2
              · have hst : Hid (bst ⟨V, qf, qt⟩ out V (m + 1) = bst ⟨V, qf, qt⟩ out V m) := by show _ = _; rw [bst, if_neg]; simp [fre, HB1.out, HB2.out]
                go_wp2_with fail
                refine (contains_any _ out _ _ ho2.rd).mono ?_; rintro e w' ⟨rfl, rfl⟩
                rw [HB1.out]
                go_wp2_with fail
                refine (isReady_any _ _ _ out _ _ hr2 ho2.rd (by have := HLE.out; dsimp only; omega)).mono ?_; rintro e w3 ⟨rfl, hb3⟩
                rw [HB2.out]
                go_wp2
                go_roundw
                case rel => exact ⟨m + 1, by omega, by go_num, by rw [hst.out], hbel2.trans (hb3.mono hbel2.size)⟩
                case measure => simp [intOf]; omega
              · have hst : Hid (bst ⟨V, qf, qt⟩ out V (m + 1) = (V : Int) - 1 - m) := by show _ = _; rw [bst, if_pos]; simp [fre, HB1.out, HB2.out]
                go_wp2_with fail
                refine (contains_any _ out _ _ ho2.rd).mono ?_; rintro e w' ⟨rfl, rfl⟩
                rw [HB1.out]
                go_wp2_with fail
                refine (isReady_any _ _ _ out _ _ hr2 ho2.rd (by have := HLE.out; dsimp only; omega)).mono ?_; rintro e w3 ⟨rfl, hb3⟩
                rw [HB2.out]
                go_wp2
                go_roundw
                case rel => exact ⟨m + 1, by omega, by go_num, by rw [hst.out], hbel2.trans (hb3.mono hbel2.size)⟩
                case measure => simp [intOf]; omega
            · have hst : Hid (bst ⟨V, qf, qt⟩ out V (m + 1) = bst ⟨V, qf, qt⟩ out V m) := by show _ = _; rw [bst, if_neg]; simp [fre, HB1.out]
              go_wp2_with fail
              refine (contains_any _ out _ _ ho2.rd).mono ?_; rintro e w' ⟨rfl, rfl⟩
              rw [HB1.out]
              go_wp2
              go_roundw
              case rel => exact ⟨m + 1, by omega, by go_num, by rw [hst.out], hbel2⟩
              case measure => simp [intOf]; omega
          · obtain rfl : m = V := by omega
            have hrg := bst_rng ⟨m, qf, qt⟩ out m m (Nat.le_refl _)
            obtain ⟨x, hx⟩ : ∃ x, bst ⟨m, qf, qt⟩ out m m = x := ⟨_, rfl⟩
            rw [hx] at hrg ⊢
            have HX := Lib.hid hx
            clear hx hr2 e1 e2
            have hnn : ¬ (0 : Int) ≤ (m : Int) - 1 - m := by omega
            have g2 := hbel.trans (hbel2.mono hs)
            by_cases hx0 : x < 0
            · have hF : Hid (R = ([], false)) := by
                show _ = _
                have h := hR.out
                rw [show m - out.length = (m - out.length - 1) + 1 by omega, ordGo, HX.out, if_pos hx0] at h
                exact h
              go_wp2
              exact bodyPost_ret (v := .tuple #[.slice none 0 0, .bool false]) (by simp [results, go_sem]) rfl ⟨_, by rw [hF.out], by rw [hF.out]; exact IntsO.nil_ _ _ _, g2⟩
            · have hF : Hid (R = ordGo ⟨m, qf, qt⟩ m (m - (out ++ [x]).length) (out ++ [x])) := by
                show _ = _
                have h := hR.out
                rw [show m - out.length = (m - out.length - 1) + 1 by omega, ordGo, HX.out, if_neg hx0] at h
                rw [h, List.length_append]
                rfl
              have hs2 := hbel2.size
              (go_wp2_with (at_builtin; refine Hold.stop ?_)); unfold Hold
              have b0 := below_alloc wr (.cells #[.int .i64 x] 3)
              have ho3 := ho2.alloc (.cells #[.int .i64 x] 3)
              refine wpList_appI rfl (.tmp 35) (.tmp 37) rfl w.heap.size _ (.slice OA out.length oc) out rfl ho3 _ _ _ [x] rfl rfl (SlI.one wr _ x ⟨by omega, by omega⟩) (by have := HN.out; simp; omega) (by simp; omega) ?_
              intro v1 w3 ho1 hg1 hv1
              have hk3 := (hk2.call b0).grown hg1 (ho3.blkne (hk2.call b0) (by decide))
              have hb3 := (g2.trans (b0.mono g2.size)).grown hg1 (by simp; omega) (fun j hj => (ho3.lt j hj).1)
              obtain ⟨A1, c1, rfl, _, _⟩ := ho1.form
              clear ho3 hg1 hv1 b0
              go_wp2
              go_roundw
              case rel => exact ⟨out ++ [x], by simp; omega, by rw [List.length_append] at ho1; exact ho1, hb3, hk3, hF.out⟩
              case measure => simp [lenOf]; omega
      · have hF : Hid (R = (out, true)) := by
          show _ = _
          have h := hR.out
          rw [show V - out.length = 0 by omega, ordGo] at h
          exact h
        go_wp2
        exact bodyPost_ret (v := .tuple #[.slice OA out.length oc, .bool true]) (by simp [results, go_sem]) rfl ⟨_, by rw [hF.out], by rw [hF.out]; exact IntsO.of_own hown, hbel⟩
end Go.Proofs.Ytaefpblpfjhgoaa

/- Paths of acyclic quivers: plain. -/
namespace Go.Proofs.Ytaefpblpfjhgoaa
set_option linter.unusedVariables false
set_option linter.unusedSimpArgs false
open Go.RowKit

def acyQ (q : Qv) : Bool := (ordQ q).2
/-- the lists of arrows of the paths from v of at most n arrows, in order -/
def pthF (q : Qv) : Nat → Int → List (List Int)
  | 0, _ => [[]]
  | n + 1, v => [] :: (List.range q.f.length).flatMap fun i => if q.f.getD i 0 = v then (pthF q n (q.t.getD i 0)).map fun r => (i : Int) :: r else []
/-- .. by the first k arrows -/
def pthR (q : Qv) (n : Nat) (v : Int) (k : Nat) : List (List Int) := [] :: (List.range k).flatMap fun i => if q.f.getD i 0 = v then (pthF q n (q.t.getD i 0)).map fun r => (i : Int) :: r else []
theorem pthR_0 (q : Qv) (n : Nat) (v : Int) : pthR q n v 0 = [[]] := rfl
theorem pthR_yes {q : Qv} {n k : Nat} {v a b : Int} (ha : q.f[k]? = some a) (hb : q.t[k]? = some b) (h : a = v) : pthR q n v (k + 1) = pthR q n v k ++ (pthF q n b).map fun r => (k : Int) :: r := by
  have e1 : q.f.getD k 0 = a := by rw [List.getD_eq_getElem?_getD, ha]; rfl
  have e2 : q.t.getD k 0 = b := by rw [List.getD_eq_getElem?_getD, hb]; rfl
  simp only [pthR, List.range_succ, List.flatMap_append, List.flatMap_cons, List.flatMap_nil, List.append_nil, e1, e2, h, if_true, List.cons_append]
theorem pthR_no {q : Qv} {n k : Nat} {v a : Int} (ha : q.f[k]? = some a) (h : a ≠ v) : pthR q n v (k + 1) = pthR q n v k := by
  have e1 : q.f.getD k 0 = a := by rw [List.getD_eq_getElem?_getD, ha]; rfl
  simp only [pthR, List.range_succ, List.flatMap_append, List.flatMap_cons, List.flatMap_nil, List.append_nil, e1, h, if_false]
theorem pthF_R (q : Qv) (n : Nat) (v : Int) : pthF q (n + 1) v = pthR q n v q.f.length := rfl
/-- a height: it falls along arrows -/
def Hgt (q : Qv) (h : Int → Nat) : Prop := ∀ (i : Nat) (a b : Int), q.f[i]? = some a → q.t[i]? = some b → h b < h a
theorem pthF_le {q : Qv} (h6 : q.f.length ≤ 6) : ∀ (n : Nat) (v : Int), (pthF q n v).length ≤ 10 ^ n
  | 0, _ => by simp [pthF]
  | n + 1, v => by
    have : ∀ k, (pthR q n v k).length ≤ 1 + k * 10 ^ n := by
      intro k
      induction k with
      | zero => simp [pthR_0]
      | succ k ih =>
        have h1 : (pthR q n v (k + 1)).length ≤ (pthR q n v k).length + 10 ^ n := by
          simp only [pthR, List.range_succ, List.flatMap_append, List.flatMap_cons, List.flatMap_nil, List.append_nil, List.length_cons, List.length_append]
          split
          · rw [List.length_map]; have := pthF_le h6 n (q.t.getD k 0); omega
          · simp
        rw [Nat.succ_mul]; omega
    rw [pthF_R]
    have h1 := this q.f.length
    have h2 : q.f.length * 10 ^ n ≤ 6 * 10 ^ n := Nat.mul_le_mul_right _ h6
    have h3 : 1 ≤ 10 ^ n := Nat.one_le_pow _ _ (by omega)
    rw [Nat.pow_succ]; omega
/-- a chain of arrows from v -/
def vldP (q : Qv) : Int → List Int → Prop
  | _, [] => True
  | v, i :: r => 0 ≤ i ∧ q.f[i.toNat]? = some v ∧ ∃ b, q.t[i.toNat]? = some b ∧ vldP q b r
def endP (q : Qv) : Int → List Int → Int
  | v, [] => v
  | _, i :: r => endP q (q.t.getD i.toNat 0) r
theorem pthF_vld {q : Qv} (hl : q.f.length = q.t.length) : ∀ (n : Nat) (v : Int), ∀ r ∈ pthF q n v, vldP q v r ∧ r.length ≤ n
  | 0, v => fun r h => by simp [pthF] at h; subst h; exact ⟨trivial, by simp⟩
  | n + 1, v => fun r h => by
    rw [pthF, List.mem_cons, List.mem_flatMap] at h
    rcases h with rfl | ⟨i, hi, h⟩
    · exact ⟨trivial, by simp⟩
    · rw [List.mem_range] at hi
      split at h
      · rename_i hv
        obtain ⟨r', hr', rfl⟩ := List.mem_map.1 h
        have := pthF_vld hl n _ r' hr'
        have hf : q.f[i]? = some q.f[i] := List.getElem?_eq_getElem hi
        have ht : q.t[i]? = some (q.t[i]'(by omega)) := List.getElem?_eq_getElem (by omega)
        rw [List.getD_eq_getElem?_getD, hf, Option.getD_some] at hv
        rw [List.getD_eq_getElem?_getD, ht, Option.getD_some] at this
        refine ⟨⟨by omega, by rw [Int.toNat_natCast, hf, hv], _, by rw [Int.toNat_natCast]; exact ht, this.1⟩, by simp; exact this.2⟩
      · simp at h
theorem vldP_mem {q : Qv} : ∀ (r : List Int) (v : Int), vldP q v r → ∀ i ∈ r, 0 ≤ i ∧ i < (q.f.length : Int)
  | [], _, _, i, hi => by simp at hi
  | a :: r, v, h, i, hi => by
    obtain ⟨h0, h1, b, h2, h3⟩ := h
    rcases List.mem_cons.1 hi with rfl | hi
    · have := lt_of_some h1; omega
    · exact vldP_mem r b h3 i hi
theorem endP_last {q : Qv} : ∀ (r : List Int) (v i : Int), endP q v (r ++ [i]) = q.t.getD i.toNat 0
  | [], _, _ => rfl
  | _ :: r, v, i => by rw [List.cons_append, endP]; exact endP_last r _ i
/-- a vertex of height 0 has no arrows -/
theorem hgt_0 {q : Qv} {h : Int → Nat} (hh : Hgt q h) (hl : q.f.length = q.t.length) {v : Int} (h0 : h v = 0) {i : Nat} {a : Int} (ha : q.f[i]? = some a) : a ≠ v := by
  rintro rfl
  have hi := lt_of_some ha
  have := hh i a _ ha (List.getElem?_eq_getElem (by omega))
  omega
/-! ### an order gives a height -/
structure OrdOk (q : Qv) (s : List Int) : Prop where
  nd : s.Nodup
  rng : ∀ x ∈ s, 0 ≤ x ∧ x ≤ q.v - 1
  rd : ∀ (j : Nat) (x : Int), s[j]? = some x → ∀ (i : Nat) (a : Int), q.f[i]? = some a → q.t[i]? = some x → a ∈ s.take j
theorem rdy_t {q : Qv} {s : List Int} {v : Int} (h : rdy q s v = true) {i : Nat} {a : Int} (ha : q.f[i]? = some a) (hb : q.t[i]? = some v) : a ∈ s := by
  have hm : (a, v) ∈ q.f.zip q.t := by rw [List.mem_iff_getElem?]; exact ⟨i, by rw [List.getElem?_zip_eq_some]; exact ⟨ha, hb⟩⟩
  have := List.all_eq_true.1 h _ hm
  simpa using this
theorem bst_fre {q : Qv} {out : List Int} {V : Nat} : ∀ m, 0 ≤ bst q out V m → fre q out (bst q out V m) = true
  | 0, h => by simp [bst] at h
  | m + 1, h => by
    by_cases hf : fre q out ((V : Int) - 1 - m) = true
    · rw [bst, if_pos hf]; exact hf
    · rw [bst, if_neg hf] at h ⊢; exact bst_fre m h
theorem OrdOk.nil (q : Qv) : OrdOk q [] := ⟨by simp, by simp, by simp⟩
theorem OrdOk.snoc {q : Qv} {s : List Int} {v : Int} (h : OrdOk q s) (h0 : 0 ≤ v) (h1 : v ≤ q.v - 1) (hf : fre q s v = true) : OrdOk q (s ++ [v]) := by
  rw [fre, Bool.and_eq_true, Bool.not_eq_true', decide_eq_false_iff_not] at hf
  refine ⟨?_, ?_, ?_⟩
  · rw [List.nodup_append]; exact ⟨h.nd, by simp, by intro a ha b hb; rw [List.mem_singleton] at hb; subst hb; rintro rfl; exact hf.1 ha⟩
  · intro x hx; rcases List.mem_append.1 hx with hx | hx
    · exact h.rng x hx
    · rw [List.mem_singleton] at hx; subst hx; exact ⟨h0, h1⟩
  · intro j x hj i a ha hb
    by_cases hl : j < s.length
    · rw [List.getElem?_append_left hl] at hj
      have := h.rd j x hj i a ha hb
      rw [List.take_append_of_le_length (by omega)]; exact this
    · have hj2 := lt_of_some hj
      rw [List.length_append, List.length_singleton] at hj2
      have : j = s.length := by omega
      subst this
      simp only [List.getElem?_concat_length, Option.some.injEq] at hj
      subst hj
      rw [List.take_left']
      · exact rdy_t hf.2 ha hb
      · rfl
theorem ordGo_ok {q : Qv} {V : Nat} (hV : q.v = V) : ∀ (n : Nat) (out : List Int), OrdOk q out → (ordGo q V n out).2 = true → OrdOk q (ordGo q V n out).1 ∧ (ordGo q V n out).1.length = out.length + n
  | 0, out, h, _ => ⟨h, rfl⟩
  | n + 1, out, h, h2 => by
    by_cases hb : bst q out V V < 0
    · rw [ordGo, if_pos hb] at h2; simp at h2
    · rw [ordGo, if_neg hb] at h2 ⊢
      have hr := bst_rng q out V V (Nat.le_refl _)
      have := ordGo_ok hV n _ (h.snoc (by omega) (by omega) (bst_fre V (by omega))) h2
      exact ⟨this.1, by rw [this.2]; simp; omega⟩
def hgtQ (q : Qv) (v : Int) : Nat := q.v.toNat - 1 - (ordQ q).1.idxOf v
theorem acy_isQ {q : Qv} (h : acyQ q = true) : isQ q = true := by
  by_cases hq : isQ q = true
  · exact hq
  · rw [acyQ, ordQ, if_neg hq] at h; simp at h
theorem acy_ord {q : Qv} (h : acyQ q = true) : OrdOk q (ordQ q).1 ∧ (ordQ q).1.length = q.v.toNat := by
  have hq := acy_isQ h
  have hv := (isQ_t.1 hq).1
  rw [acyQ, ordQ, if_pos hq] at h
  have := ordGo_ok (V := q.v.toNat) (by omega) q.v.toNat [] (OrdOk.nil q) h
  rw [ordQ, if_pos hq]
  exact ⟨this.1, by rw [this.2]; simp⟩
/-- the vertices as a list -/
theorem ord_all {q : Qv} {s : List Int} (h : OrdOk q s) (hl : s.length = q.v.toNat) {v : Int} (h0 : 0 ≤ v) (h1 : v ≤ q.v - 1) : v ∈ s := by
  apply Classical.byContradiction
  intro hn
  have hnd : (v :: s).Nodup := List.nodup_cons.2 ⟨hn, h.nd⟩
  have hsub : (v :: s) ⊆ (List.range q.v.toNat).map fun n : Nat => (n : Int) := by
    intro x hx
    have hx2 : 0 ≤ x ∧ x ≤ q.v - 1 := by
      rcases List.mem_cons.1 hx with rfl | hx
      · exact ⟨h0, h1⟩
      · exact h.rng x hx
    exact List.mem_map.2 ⟨x.toNat, List.mem_range.2 (by omega), by omega⟩
  have := hnd.length_le_of_subset hsub
  simp at this; omega
theorem acy_hgt {q : Qv} (h : acyQ q = true) : Hgt q (hgtQ q) := by
  obtain ⟨ho, hl⟩ := acy_ord h
  obtain ⟨hv, hlen, h6, hf, ht⟩ := isQ_t.1 (acy_isQ h)
  intro i a b ha hb
  have hbr := ht b (List.mem_iff_getElem?.2 ⟨i, hb⟩)
  have hbm := ord_all ho hl hbr.1 hbr.2
  have hj := List.idxOf_lt_length_of_mem hbm
  have hat := ho.rd _ b (by rw [List.getElem?_eq_getElem hj, List.getElem_idxOf]) i a ha hb
  have h3 : (ordQ q).1.idxOf a < (ordQ q).1.idxOf b := by
    have h4 := List.idxOf_lt_length_of_mem hat
    have h5 : ((ordQ q).1.take ((ordQ q).1.idxOf b) ++ (ordQ q).1.drop ((ordQ q).1.idxOf b)).idxOf a = ((ordQ q).1.take ((ordQ q).1.idxOf b)).idxOf a := by
      rw [List.idxOf_append, if_pos hat]
    rw [List.take_append_drop] at h5
    rw [h5]
    have := List.length_take_le ((ordQ q).1.idxOf b) (ordQ q).1
    omega
  unfold hgtQ
  omega
theorem hgtQ_le (q : Qv) (v : Int) : hgtQ q v ≤ q.v.toNat - 1 := by unfold hgtQ; omega
theorem pthR_le {q : Qv} (h6 : q.f.length ≤ 6) (n : Nat) (v : Int) (k : Nat) : (pthR q n v k).length ≤ 1 + k * 10 ^ n := by
  induction k with
  | zero => simp [pthR_0]
  | succ k ih =>
    have h1 : (pthR q n v (k + 1)).length ≤ (pthR q n v k).length + 10 ^ n := by
      simp only [pthR, List.range_succ, List.flatMap_append, List.flatMap_cons, List.flatMap_nil, List.append_nil, List.length_cons, List.length_append]
      split
      · rw [List.length_map]; have := pthF_le h6 n (q.t.getD k 0); omega
      · simp
    rw [Nat.succ_mul]; omega
def pthK (q : Qv) : Nat → Int → Nat → List (List Int)
  | 0, _, _ => [[]]
  | n + 1, v, k => pthR q n v k
theorem pthK_0 (q : Qv) (n : Nat) (v : Int) : pthK q n v 0 = [[]] := by cases n <;> rfl
theorem pthK_end (q : Qv) (n : Nat) (v : Int) : pthK q n v q.f.length = pthF q n v := by cases n <;> rfl
theorem pthK_no {q : Qv} {n k : Nat} {v a : Int} (ha : q.f[k]? = some a) (h : a ≠ v) : pthK q n v (k + 1) = pthK q n v k := by
  cases n with
  | zero => rfl
  | succ n => exact pthR_no ha h
theorem pthK_yes {q : Qv} {n k : Nat} {v a b : Int} (ha : q.f[k]? = some a) (hb : q.t[k]? = some b) (h : a = v) : pthK q (n + 1) v (k + 1) = pthK q (n + 1) v k ++ (pthF q n b).map fun r => (k : Int) :: r := pthR_yes ha hb h
end Go.Proofs.Ytaefpblpfjhgoaa

/- The reference's OrderOf. -/
namespace Go.Proofs.Ytaefpblpfjhgoaa
set_option linter.unusedVariables false
set_option linter.unusedSimpArgs false
open Go.RowKit

theorem IntsO.made_ (w : World) {lo : Nat} (h : lo ≤ w.heap.size) : IntsO (w.alloc (.cells #[] 3)) lo (w.alloc (.cells #[] 3)).heap.size (.slice (some ⟨w.heap.size, 0, none⟩) 0 0) [] :=
  ⟨OwnI.made _ rfl h, fun k hk => by simp [Value.ownBlock] at hk; simp; omega⟩

set_option maxHeartbeats 800000 in
theorem specOrderOf_any (u : Value) (q : Qv) (w : World) (hu : QvR w w.heap.size u q) :
    Calls Try.prog 43 #[u] w fun e w' => ∃ v, e = .returned (.tuple #[v, .bool (ordQ q).2]) ∧ IntsO w' w.heap.size w'.heap.size v (ordQ q).1 ∧ Below w.heap.size w w' := by
  obtain ⟨qv, qf, qt⟩ := q
  have hu0 := hu
  obtain ⟨A, c, C, d, rfl, hf, hT, hr, lf, lt⟩ := hu.open_
  dsimp only at *
  have g0 : Below w.heap.size w ((w.alloc (.cells #[.int .i64 qv, .slice A qf.length c, .slice C qt.length d] 26)).alloc (.cells #[] 3)) := ((Below.refl _ _).alloc (Nat.le_refl _) _).alloc (by simp) _
  have kB : Blk ((w.alloc (.cells #[.int .i64 qv, .slice A qf.length c, .slice C qt.length d] 26)).alloc (.cells #[] 3)) w.heap.size 26 #[.int .i64 qv, .slice A qf.length c, .slice C qt.length d] := (Blk.new _ _ _).alloc _
  have ho0 : OwnI ((w.alloc (.cells #[.int .i64 qv, .slice A qf.length c, .slice C qt.length d] 26)).alloc (.cells #[] 3)) w.heap.size (.slice (some ⟨w.heap.size + 1, 0, none⟩) 0 0) [] := by
    have := OwnI.made (w := w.alloc (.cells #[.int .i64 qv, .slice A qf.length c, .slice C qt.length d] 26)) (base := w.heap.size) _ rfl (by simp)
    simpa only [World.size_alloc] using this
  clear hu
  rcases hq : isQ ⟨qv, qf, qt⟩ with _ | _
  · have hF : Hid (ordQ ⟨qv, qf, qt⟩ = ([], false)) := by show _ = _; simp [ordQ, hq]
    generalize ordQ ⟨qv, qf, qt⟩ = R at *
    go_enter Try.func43, Try.ntmps43
    go_wp2
    go_loopw [4] (fun a wr => a = .slice (some ⟨w.heap.size + 1, 0, none⟩) 0 0 ∧ OwnI wr w.heap.size a [] ∧ Below w.heap.size w wr ∧ Blk wr w.heap.size 26 #[.int .i64 qv, .slice A qf.length c, .slice C qt.length d]) (fun a _ => 0)
    case atStart => exact ⟨rfl, ho0, g0, kB⟩
    case round =>
      clear g0 kB ho0
      obtain ⟨rfl, hown, hbel, hkB⟩ := hrel
      have c0 := hkB.cell' (i := 0) rfl
      have c1 := hkB.cell' (i := 1) rfl
      have c2 := hkB.cell' (i := 2) rfl
      have hrq := QvR.more (B' := wr.heap.size) (by have := hbel.size; omega) (QvR.below hbel hu0)
      go_wp2_with fail
      refine (specIsQuiver_any _ _ _ hrq).mono ?_; rintro e w5 ⟨rfl, hb5⟩
      rw [hq]
      have hkB' := hkB.call hb5
      have hbel' := hbel.trans (hb5.mono hbel.size)
      clear c0 c1 c2
      have c0 := hkB'.cell' (i := 0) rfl
      have c1 := hkB'.cell' (i := 1) rfl
      have c2 := hkB'.cell' (i := 2) rfl
      have hrq' := QvR.next hb5 hrq
      go_wp2_with fail
      refine (specIsQuiver_any _ _ _ hrq').mono ?_; rintro e w6 ⟨rfl, hb6⟩
      rw [hq]
      go_wp2
      exact bodyPost_ret (v := .tuple #[.slice (some ⟨w.heap.size + 1, 0, none⟩) 0 0, .bool false]) (by simp [results, go_sem]) rfl ⟨_, by rw [hF.out], by rw [hF.out]; exact IntsO.of_own ((hown.below hb5).below hb6), hbel'.trans (hb6.mono hbel'.size)⟩
  · obtain ⟨⟨hv1, hv2⟩, hlen, _, _, _⟩ := isQ_t.1 hq
    dsimp only at hv1 hv2 hlen
    obtain ⟨V, rfl⟩ : ∃ V : Nat, qv = V := ⟨qv.toNat, by omega⟩
    have HE := Lib.hid (show ordQ ⟨V, qf, qt⟩ = ordGo ⟨V, qf, qt⟩ V V [] by simp [ordQ, hq])
    have HLE := Lib.hid hlen
    have hr0 : QvR w w.heap.size (.agg #[.int .i64 V, .slice A qf.length c, .slice C qt.length d]) ⟨V, qf, qt⟩ := ⟨_, _, rfl, hf, hT, hr⟩
    clear hlen hu0
    generalize ordQ ⟨V, qf, qt⟩ = R at *
    go_enter Try.func43, Try.ntmps43
    go_wp2
    go_loopw [4] (fun a wr => ∃ out : List Int, out.length ≤ V ∧ OwnI wr w.heap.size a out ∧ Below w.heap.size w wr ∧ Blk wr w.heap.size 26 #[.int .i64 V, .slice A qf.length c, .slice C qt.length d] ∧ Hid (R = ordGo ⟨V, qf, qt⟩ V (V - out.length) out)) (fun a _ => V - lenOf a)
    case atStart => exact ⟨[], by simp, ho0, g0, kB, HE⟩
    case round =>
      clear g0 kB HE ho0
      obtain ⟨out, hn, hown, hbel, hkB, hR⟩ := hrel
      obtain ⟨OA, oc, rfl, _, _⟩ := hown.form
      have c0 := hkB.cell' (i := 0) rfl
      have c1 := hkB.cell' (i := 1) rfl
      have c2 := hkB.cell' (i := 2) rfl
      have hrq := QvR.more (B' := wr.heap.size) (by have := hbel.size; omega) (QvR.below hbel hr0)
      go_wp2_with fail
      refine (specIsQuiver_any _ _ _ hrq).mono ?_; rintro e w5 ⟨rfl, hb5⟩
      rw [hq]
      have hkB' := hkB.call hb5
      have hown' := hown.below hb5
      have hbel' := hbel.trans (hb5.mono hbel.size)
      clear hkB hown hbel c0 c1 c2 hrq hb5
      have c0 := hkB'.cell' (i := 0) rfl
      have c1 := hkB'.cell' (i := 1) rfl
      have c2 := hkB'.cell' (i := 2) rfl
      by_cases hlt : out.length < V
      · go_wp2
        have HN := Lib.hid hn
        clear hn c0 c1 c2
        have hs := hbel'.size
        clear wr
        rename World => wo
        go_loopw [5, 6] (fun n v w2 => ∃ m : Nat, m ≤ V ∧ v = .int .i64 ((V : Int) - 1 - m) ∧ n = .int .i64 (bst ⟨V, qf, qt⟩ out V m) ∧ Below wo.heap.size wo w2) (fun _ v _ => (intOf v + 1).toNat)
        case atStart => exact ⟨0, Nat.zero_le _, by simp, rfl, Below.refl _ _⟩
        case round =>
          obtain ⟨m, hm, rfl, rfl, hbel2⟩ := hrel
          have hk2 := hkB'.call hbel2
          have ho2 : OwnI wr w.heap.size (.slice OA out.length oc) out := hown'.below hbel2
          have g2 := hbel'.trans (hbel2.mono hs)
          by_cases hlt2 : m < V
          · have hnn : (0 : Int) ≤ (V : Int) - 1 - m := by omega
            obtain ⟨B1, hB1⟩ : ∃ B, decide (((V : Int) - 1 - m) ∈ out) = B := ⟨_, rfl⟩
            have HB1 := Lib.hid hB1
            clear hB1
            go_wp2_with fail
            refine (l4Has_any _ out _ _ ho2.rd).mono ?_; rintro e w3 ⟨rfl, hb3⟩
            rw [HB1.out]
            have hk3 := hk2.call hb3
            have ho3 := ho2.below hb3
            have g3 := g2.trans (hb3.mono g2.size)
            have hbel3 := hbel2.trans (hb3.mono hbel2.size)
            have hx3 : Hid (fre ⟨V, qf, qt⟩ out ((V : Int) - 1 - m) = (!B1 && rdy ⟨V, qf, qt⟩ out ((V : Int) - 1 - m))) := by show _ = _; rw [fre, HB1.out]
            clear hk2 ho2 g2 hb3 hbel2
            go_wp2
            go_loopw [7, 8] (fun fr i w4 => ∃ (k : Nat) (F : Bool), k ≤ qf.length ∧ i = .int .i64 k ∧ fr = .bool F ∧ Hid (F = (!B1 && rdyAt ⟨V, qf, qt⟩ out ((V : Int) - 1 - m) k)) ∧ Below w3.heap.size w3 w4) (fun _ i _ => qf.length - (intOf i).toNat)
            case atStart => exact ⟨0, !B1, Nat.zero_le _, rfl, rfl, by show _ = _; simp [rdyAt_zero], Below.refl _ _⟩
            case round =>
              obtain ⟨k, F, hk, rfl, rfl, hFr, hbel4⟩ := hrel
              have hk4 := hk3.call hbel4
              have ho4 := ho3.below hbel4
              have g4 := g3.trans (hbel4.mono g3.size)
              have hbel5 := hbel3.trans (hbel4.mono hbel3.size)
              have e0 := hk4.cell' (i := 0) rfl
              have e1 := hk4.cell' (i := 1) rfl
              have e2 := hk4.cell' (i := 2) rfl
              by_cases hltk : k < qf.length
              · have hltk' : k < qt.length := by have := HLE.out; omega
                obtain ⟨b, o, y, rfl, hb, HY, y1, _⟩ := SlI.at_ hT hltk'
                obtain ⟨b2, o2, x, rfl, hb2, HX, x1, _⟩ := SlI.at_ (k := k) hf hltk
                have y2 := bcell g4 hb y1
                have x2 := bcell g4 hb2 x1
                clear y1 x1
                have hsu := rdyAt_succ (q := ⟨V, qf, qt⟩) (taken := out) (v := (V : Int) - 1 - m) HX.out HY.out
                cases F
                · have hst : Hid (false = (!B1 && rdyAt ⟨V, qf, qt⟩ out ((V : Int) - 1 - m) (k + 1))) := by show _ = _; rw [hsu, ← Bool.and_assoc, ← hFr.out]; rfl
                  clear hsu
                  go_wp2
                  go_roundw
                  case rel => exact ⟨k + 1, false, by omega, by go_num, rfl, hst.out, hbel4⟩
                  case measure => simp [intOf]; omega
                · rcases hyv : (y == ((V : Int) - 1 - m)) with _ | _
                  · have hyv' : (y != ((V : Int) - 1 - m)) = true := by rw [bne, hyv]; rfl
                    have hst : Hid (true = (!B1 && rdyAt ⟨V, qf, qt⟩ out ((V : Int) - 1 - m) (k + 1))) := by show _ = _; rw [hsu, ← Bool.and_assoc, ← hFr.out, hyv]; rfl
                    clear hsu
                    go_wp2
                    go_roundw
                    case rel => exact ⟨k + 1, true, by omega, by go_num, rfl, hst.out, hbel4⟩
                    case measure => simp [intOf]; omega
                  · have hyv' : (y != ((V : Int) - 1 - m)) = false := by rw [bne, hyv]; rfl
                    obtain ⟨B2, hB2⟩ : ∃ B, decide (x ∈ out) = B := ⟨_, rfl⟩
                    have hst : Hid (B2 = (!B1 && rdyAt ⟨V, qf, qt⟩ out ((V : Int) - 1 - m) (k + 1))) := by show _ = _; rw [hsu, ← Bool.and_assoc, ← hFr.out, hyv, hB2]; rfl
                    have HB2 := Lib.hid hB2
                    clear hsu hB2
                    go_wp2_with fail
                    refine (l4Has_any _ out _ _ ho4.rd).mono ?_; rintro e w6 ⟨rfl, hb6⟩
                    rw [HB2.out]
                    go_wp2
                    go_roundw
                    case rel => exact ⟨k + 1, B2, by omega, by go_num, rfl, hst.out, hbel4.trans (hb6.mono hbel4.size)⟩
                    case measure => simp [intOf]; omega
              · have hre : Hid (F = fre ⟨V, qf, qt⟩ out ((V : Int) - 1 - m)) := by
                  show _ = _
                  rw [hx3.out, hFr.out, rdyAt_end (by dsimp only; omega) (by have := HLE.out; dsimp only; omega)]
                cases F
                · have hst : Hid (bst ⟨V, qf, qt⟩ out V (m + 1) = bst ⟨V, qf, qt⟩ out V m) := by show _ = _; rw [bst, if_neg]; rw [← hre.out]; simp
                  go_wp2
                  go_roundw
                  case rel => exact ⟨m + 1, by omega, by go_num, by rw [hst.out], hbel5⟩
                  case measure => simp [intOf]; omega
                · have hst : Hid (bst ⟨V, qf, qt⟩ out V (m + 1) = (V : Int) - 1 - m) := by show _ = _; rw [bst, if_pos]; rw [← hre.out]
                  go_wp2
                  go_roundw
                  case rel => exact ⟨m + 1, by omega, by go_num, by rw [hst.out], hbel5⟩
                  case measure => simp [intOf]; omega
          · obtain rfl : m = V := by omega
            have hrg := bst_rng ⟨m, qf, qt⟩ out m m (Nat.le_refl _)
            obtain ⟨x, hx⟩ : ∃ x, bst ⟨m, qf, qt⟩ out m m = x := ⟨_, rfl⟩
            rw [hx] at hrg ⊢
            have HX := Lib.hid hx
            clear hx
            have hnn : ¬ (0 : Int) ≤ (m : Int) - 1 - m := by omega
            by_cases hx0 : x < 0
            · have hF : Hid (R = ([], false)) := by
                show _ = _
                have h := hR.out
                rw [show m - out.length = (m - out.length - 1) + 1 by omega, ordGo, HX.out, if_pos hx0] at h
                exact h
              go_wp2
              exact bodyPost_ret (v := .tuple #[.slice (some ⟨wr.heap.size, 0, none⟩) 0 0, .bool false]) (by simp [results, go_sem]) rfl ⟨_, by rw [hF.out], by rw [hF.out]; exact IntsO.made_ _ g2.size, g2.alloc g2.size _⟩
            · have hF : Hid (R = ordGo ⟨m, qf, qt⟩ m (m - (out ++ [x]).length) (out ++ [x])) := by
                show _ = _
                have h := hR.out
                rw [show m - out.length = (m - out.length - 1) + 1 by omega, ordGo, HX.out, if_neg hx0] at h
                rw [h, List.length_append]
                rfl
              have hs2 := hbel2.size
              (go_wp2_with (at_builtin; refine Hold.stop ?_)); unfold Hold
              have b0 := below_alloc wr (.cells #[.int .i64 x] 3)
              have ho3 := ho2.alloc (.cells #[.int .i64 x] 3)
              refine wpList_appI rfl (.tmp 61) (.tmp 63) rfl w.heap.size _ (.slice OA out.length oc) out rfl ho3 _ _ _ [x] rfl rfl (SlI.one wr _ x ⟨by omega, by omega⟩) (by have := HN.out; simp; omega) (by simp; omega) ?_
              intro v1 w3 ho1 hg1 hv1
              have hk3 := (hk2.call b0).grown hg1 (ho3.blkne (hk2.call b0) (by decide))
              have hb3 := (g2.trans (b0.mono g2.size)).grown hg1 (by simp; omega) (fun j hj => (ho3.lt j hj).1)
              obtain ⟨A1, c1, rfl, _, _⟩ := ho1.form
              clear ho3 hg1 hv1 b0
              go_wp2
              go_roundw
              case rel => exact ⟨out ++ [x], by simp; omega, by rw [List.length_append] at ho1; exact ho1, hb3, hk3, hF.out⟩
              case measure => simp [lenOf]; omega
      · have hF : Hid (R = (out, true)) := by
          show _ = _
          have h := hR.out
          rw [show V - out.length = 0 by omega, ordGo] at h
          exact h
        have hrq := QvR.more (B' := w5.heap.size) (by have := hbel'.size; omega) (QvR.below hbel' hr0)
        go_wp2_with fail
        refine (specIsQuiver_any _ _ _ hrq).mono ?_; rintro e w6 ⟨rfl, hb6⟩
        rw [hq]
        go_wp2
        exact bodyPost_ret (v := .tuple #[.slice OA out.length oc, .bool true]) (by simp [results, go_sem]) rfl ⟨_, by rw [hF.out], by rw [hF.out]; exact IntsO.of_own (hown'.below hb6), hbel'.trans (hb6.mono hbel'.size)⟩
end Go.Proofs.Ytaefpblpfjhgoaa
