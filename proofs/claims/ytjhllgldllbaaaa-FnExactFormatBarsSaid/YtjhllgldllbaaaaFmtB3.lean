/- FormatBars: the program's walk. -/
import Derived.Test.YtjhllgldllbaaaaFmtB2
namespace Go.Proofs.Ytjhllgldllbaaaa
set_option linter.unusedVariables false
set_option linter.unusedSimpArgs false
open Go.RowKit

theorem join_row (bk c : Nat) (xs : List ByteArray) (w : World) (hcells : ∀ (j : Nat) x, xs[j]? = some x → w.cell? ⟨bk, j, none⟩ = some (.string x)) (hbk : bk < w.heap.size) (hN : xs.length ≤ 1048576) (hcap : xs.length ≤ c) (hlen : (Lib.join (xs.map (·.data.toList)) [32]).length ≤ 1048576) :
    Calls Try.prog 76 #[.slice (some ⟨bk, 0, none⟩) xs.length c, .string ⟨#[32]⟩] w fun e w' => e = .returned (.string ⟨(Lib.join (xs.map (·.data.toList)) [32]).toArray⟩) ∧ Below w.heap.size w w' :=
  Any.strings_Join Try.laysJoin Try.extraJoin bk 0 c xs ⟨#[32]⟩ w (fun j x h => by rw [Nat.zero_add]; exact hcells j x h) hbk (by omega) hcap (by
    have : (⟨#[32]⟩ : ByteArray).data.toList = [32] := rfl
    rw [this]; omega)

set_option maxHeartbeats 3200000 in
set_option maxRecDepth 100000 in
theorem implFormatBars_any (v : Value) (l : List Bar) (w0 : World) (hv : SlB w0 w0.heap.size v l) :
    Calls Try.prog 29 #[v] w0 fun e w' => e = .returned (.string (fmtB l)) ∧ Below w0.heap.size w0 w' := by
  obtain ⟨D, d, rfl, _, _, hn, hx⟩ := hv.open_
  clear hv
  rcases h20 : inR (l.length : Int) 1 20 with _ | _
  · have hF : Hid (fmtB l = bNone) := by
      show _ = _
      rw [fmtB, if_neg]
      have := inR_f.1 h20
      omega
    have H20 := Lib.hid h20
    clear h20
    go_enter Try.func29, Try.ntmps29
    go_wp2_with fail
    refine (within_any _ _ _ _).mono ?_; rintro e w1 ⟨rfl, rfl⟩
    rw [H20.out]
    go_wp2
    go_ret
    exact ⟨by rw [hF.out]; rfl, Below.refl _ _⟩
  · obtain ⟨hl1, hl20⟩ := inR_t.1 h20
    have hF : Hid (fmtB l = fmtTo l l.length) := by
      show _ = _
      rw [fmtB, if_pos (by omega)]
    have H20 := Lib.hid h20
    clear h20
    go_enter Try.func29, Try.ntmps29
    go_wp2_with fail
    refine (within_any _ _ _ _).mono ?_; rintro e w1 ⟨rfl, hww⟩; replace hww := hww.symm; subst hww
    rw [H20.out]
    go_wp2
    go_loopw [3, 12] (fun wv i wr => ∃ k : Nat, k ≤ l.length ∧ i = .int .i64 k ∧ RowO 9 1 wr w0.heap.size wr.heap.size wv (fmtW l k).length ((fmtW l k).map Value.string) ∧ Below w0.heap.size w0 wr) (fun _ i _ => l.length - (intOf i).toNat)
    case atStart => exact ⟨0, Nat.zero_le _, rfl, RowO.nil _ _ _ _, Below.refl _ _⟩
    case round =>
      obtain ⟨k, hk, rfl, hO, hbel⟩ := hrel
      have hwl := fmtW_length hk
      have ws := hbel.size
      obtain ⟨wA, wc, ev, lw1, lw2⟩ := hO.form
      subst ev
      rw [hwl] at hO lw1 ⊢
      by_cases hlt : k < l.length
      · obtain ⟨b, o, p1, p2, p3, rfl, hb, HX, y1, y2, y3, rx, ry, rz⟩ := SlB.at_ hx hlt
        have z1 := bcell hbel hb y1
        have z2 := bcell hbel hb y2
        have z3 := bcell hbel hb y3
        have hfs := Lib.hid (fmtW_succ HX.out)
        obtain ⟨X, hX⟩ : ∃ X, X = wr.alloc (.cells #[.int .i64 p1, .int .i64 p2, .int .i64 p3] 80) := ⟨_, rfl⟩
        have gX : Below wr.heap.size wr X := by rw [hX]; exact below_alloc _ _
        have kX : Blk X wr.heap.size 80 #[.int .i64 p1, .int .i64 p2, .int .i64 p3] := by rw [hX]; exact Blk.new _ _ _
        have sX := gX.size
        have HO := Lib.hid (hO.below gX)
        have HBX := Lib.hid (hbel.trans (gX.mono ws))
        have I1 : I64 p1 := rx
        have I2 : I64 p2 := ry
        have I3 : I64 p3 := rz
        have HI1 := Lib.hid I1
        have HI2 := Lib.hid I2
        have HI3 := Lib.hid I3
        have HWL := Lib.hid hwl
        clear hO y1 y2 y3 gX I1 I2 I3 hwl
        have s2 : (dgS p1 ++ (⟨#[45]⟩ : ByteArray)).size ≤ 17592186044416 := by have : (⟨#[45]⟩ : ByteArray).size = 1 := rfl; simp only [ByteArray.size_append, dgS_size]; omega
        have s3 : (dgS p1 ++ (⟨#[45]⟩ : ByteArray) ++ dgS p2).size ≤ 17592186044416 := by have : (⟨#[45]⟩ : ByteArray).size = 1 := rfl; simp only [ByteArray.size_append, dgS_size]; omega
        have s4 : (dgS p1 ++ (⟨#[45]⟩ : ByteArray) ++ dgS p2 ++ (⟨#[120]⟩ : ByteArray)).size ≤ 17592186044416 := by have : (⟨#[45]⟩ : ByteArray).size = 1 := rfl; have : (⟨#[120]⟩ : ByteArray).size = 1 := rfl; simp only [ByteArray.size_append, dgS_size]; omega
        have d1 : (dgS p1).size ≤ 17592186044416 := by rw [dgS_size]; omega
        have d2 : (dgS p2).size ≤ 17592186044416 := by rw [dgS_size]; omega
        have d3 : (dgS p3).size ≤ 17592186044416 := by rw [dgS_size]; omega
        go_wp2
        rw [← hX]; clear hX z1 z2 z3
        refine wp_region_net (by kernel_rfl) [.eq (.slice wA k wc), .eq (.pointer (some ⟨wr.heap.size, 0, none⟩)), .eq (.int .i64 p1), rel 3 (fun u lo hi w => ∃ g, u = .slice (some ⟨g, 0, none⟩) 1 1 ∧ Blk w g 3 #[.int .i64 p1]), .eq (.string (dgS p1)), .eq (.string (dgS p1 ++ (⟨#[45]⟩ : ByteArray))), .eq (.pointer (some ⟨wr.heap.size, 1, none⟩)), .eq (.int .i64 p2), rel 8 (fun u lo hi w => ∃ g, u = .slice (some ⟨g, 0, none⟩) 1 1 ∧ Blk w g 3 #[.int .i64 p2]), .eq (.string (dgS p2)), .eq (.string (dgS p1 ++ (⟨#[45]⟩ : ByteArray) ++ dgS p2)), .eq (.string (dgS p1 ++ (⟨#[45]⟩ : ByteArray) ++ dgS p2 ++ (⟨#[120]⟩ : ByteArray))), .eq (.pointer (some ⟨wr.heap.size, 2, none⟩)), .eq (.int .i64 p3), rel 14 (fun u lo hi w => ∃ g, u = .slice (some ⟨g, 0, none⟩) 1 1 ∧ Blk w g 3 #[.int .i64 p3]), .eq (.string (dgS p3)), .eq (.string (dgS p1 ++ (⟨#[45]⟩ : ByteArray) ++ dgS p2 ++ (⟨#[120]⟩ : ByteArray) ++ dgS p3)), rel 17 (fun u lo hi w => ∃ g, u = .slice (some ⟨g, 0, none⟩) 1 1 ∧ Blk w g 9 #[.string (dgS p1 ++ (⟨#[45]⟩ : ByteArray) ++ dgS p2 ++ (⟨#[120]⟩ : ByteArray) ++ dgS p3)])] [[], [], [1], [1, 2], [1, 2, 3], [1, 2, 3, 4], [], [6], [6, 7], [1, 2, 3, 4, 6, 7, 8], [1, 2, 3, 4, 5, 6, 7, 8, 9], [1, 2, 3, 4, 5, 6, 7, 8, 9, 10], [], [12], [12, 13], [1, 2, 3, 4, 6, 7, 8, 9, 12, 13, 14], [1, 2, 3, 4, 5, 6, 7, 8, 9, 10, 11, 12, 13, 14, 15], [1, 2, 3, 4, 5, 6, 7, 8, 9, 10, 11, 12, 13, 14, 15, 16], [0, 1, 2, 3, 4, 5, 6, 7, 8, 9, 10, 11, 12, 13, 14, 15, 16, 17], [0, 1, 2, 3, 4, 5, 6, 7, 8, 9, 10, 11, 12, 13, 14, 15, 16, 17, 18]] 18 (by kernel_rfl) ⟨trivial, trivial, trivial, rel_stable (fun u lo hi w w' ⟨g, e, h⟩ hb => ⟨g, e, h.call hb⟩), trivial, trivial, trivial, trivial, rel_stable (fun u lo hi w w' ⟨g, e, h⟩ hb => ⟨g, e, h.call hb⟩), trivial, trivial, trivial, trivial, trivial, rel_stable (fun u lo hi w w' ⟨g, e, h⟩ hb => ⟨g, e, h.call hb⟩), trivial, trivial, rel_stable (fun u lo hi w w' ⟨g, e, h⟩ hb => ⟨g, e, h.call hb⟩), trivial⟩ ⟨?_, ?_, ?_, ?_, ?_, ?_, ?_, ?_, ?_, ?_, ?_, ?_, ?_, ?_, ?_, ?_, ?_, ?_, trivial⟩ ?_
        · intro x w hb hk Q' hQ
          clear hk
          simp only [netAct, dstAt, List.getElem?_toArray, List.getElem?_cons_zero, List.getElem?_cons_succ, Option.bind_some, Act.put, List.setIfInBounds_toArray, List.set_cons_zero, List.set_cons_succ] at hQ ⊢
          go_wp2
          exact hQ (.slice wA k wc) _ (Below.refl _ _) rfl
        · intro x w hb hk Q' hQ
          clear hk
          simp only [netAct, dstAt, List.getElem?_toArray, List.getElem?_cons_zero, List.getElem?_cons_succ, Option.bind_some, Act.put, List.setIfInBounds_toArray, List.set_cons_zero, List.set_cons_succ] at hQ ⊢
          go_wp2
          exact hQ (.pointer (some ⟨wr.heap.size, 0, none⟩)) _ (Below.refl _ _) rfl
        · intro x w hb hk Q' hQ
          have h1 : x.v 1 = .pointer (some ⟨wr.heap.size, 0, none⟩) := (hk 1 (by decide)).1
          clear hk
          simp only [netAct, dstAt, List.getElem?_toArray, List.getElem?_cons_zero, List.getElem?_cons_succ, Option.bind_some, Act.put, List.setIfInBounds_toArray, List.set_cons_zero, List.set_cons_succ] at hQ ⊢
          simp only [h1] at hQ ⊢
          clear h1
          have q0 := (kX.call hb).cell' (i := 0) rfl
          go_wp2
          exact hQ (.int .i64 p1) _ (Below.refl _ _) rfl
        · intro x w hb hk Q' hQ
          have h1 : x.v 1 = .pointer (some ⟨wr.heap.size, 0, none⟩) := (hk 1 (by decide)).1
          have h2 : x.v 2 = .int .i64 p1 := (hk 2 (by decide)).1
          clear hk
          simp only [netAct, dstAt, List.getElem?_toArray, List.getElem?_cons_zero, List.getElem?_cons_succ, Option.bind_some, Act.put, List.setIfInBounds_toArray, List.set_cons_zero, List.set_cons_succ] at hQ ⊢
          simp only [h1, h2] at hQ ⊢
          clear h1 h2
          go_wp2
          exact hQ _ _ (below_alloc _ _) ⟨_, rfl, Blk.new _ _ _⟩
        · intro x w hb hk Q' hQ
          have h3 : ∃ g, (x.v 3) = .slice (some ⟨g, 0, none⟩) 1 1 ∧ Blk w g 3 #[.int .i64 p1] := (hk 3 (by decide)).1
          clear hk
          simp only [netAct, dstAt, List.getElem?_toArray, List.getElem?_cons_zero, List.getElem?_cons_succ, Option.bind_some, Act.put, List.setIfInBounds_toArray, List.set_cons_zero, List.set_cons_succ] at hQ ⊢
          obtain ⟨g, e1, hk⟩ := h3
          rw [e1] at hQ ⊢
          have HS := Lib.hid (sl_one hk HI1.out)
          go_wp2_with fail
          refine (digits_one _ _ _ HS.out).mono ?_; rintro e w1 ⟨rfl, hb1⟩
          go_wp2
          exact hQ _ _ hb1 rfl
        · intro x w hb hk Q' hQ
          have h4 : x.v 4 = .string (dgS p1) := (hk 4 (by decide)).1
          clear hk
          simp only [netAct, dstAt, List.getElem?_toArray, List.getElem?_cons_zero, List.getElem?_cons_succ, Option.bind_some, Act.put, List.setIfInBounds_toArray, List.set_cons_zero, List.set_cons_succ] at hQ ⊢
          simp only [h4] at hQ ⊢
          clear h4
          go_wp2
          exact hQ (.string (dgS p1 ++ (⟨#[45]⟩ : ByteArray))) _ (Below.refl _ _) rfl
        · intro x w hb hk Q' hQ
          clear hk
          simp only [netAct, dstAt, List.getElem?_toArray, List.getElem?_cons_zero, List.getElem?_cons_succ, Option.bind_some, Act.put, List.setIfInBounds_toArray, List.set_cons_zero, List.set_cons_succ] at hQ ⊢
          go_wp2
          exact hQ (.pointer (some ⟨wr.heap.size, 1, none⟩)) _ (Below.refl _ _) rfl
        · intro x w hb hk Q' hQ
          have h6 : x.v 6 = .pointer (some ⟨wr.heap.size, 1, none⟩) := (hk 6 (by decide)).1
          clear hk
          simp only [netAct, dstAt, List.getElem?_toArray, List.getElem?_cons_zero, List.getElem?_cons_succ, Option.bind_some, Act.put, List.setIfInBounds_toArray, List.set_cons_zero, List.set_cons_succ] at hQ ⊢
          simp only [h6] at hQ ⊢
          clear h6
          have q0 := (kX.call hb).cell' (i := 1) rfl
          go_wp2
          exact hQ (.int .i64 p2) _ (Below.refl _ _) rfl
        · intro x w hb hk Q' hQ
          have h6 : x.v 6 = .pointer (some ⟨wr.heap.size, 1, none⟩) := (hk 6 (by decide)).1
          have h7 : x.v 7 = .int .i64 p2 := (hk 7 (by decide)).1
          clear hk
          simp only [netAct, dstAt, List.getElem?_toArray, List.getElem?_cons_zero, List.getElem?_cons_succ, Option.bind_some, Act.put, List.setIfInBounds_toArray, List.set_cons_zero, List.set_cons_succ] at hQ ⊢
          simp only [h6, h7] at hQ ⊢
          clear h6 h7
          go_wp2
          exact hQ _ _ (below_alloc _ _) ⟨_, rfl, Blk.new _ _ _⟩
        · intro x w hb hk Q' hQ
          have h8 : ∃ g, (x.v 8) = .slice (some ⟨g, 0, none⟩) 1 1 ∧ Blk w g 3 #[.int .i64 p2] := (hk 8 (by decide)).1
          clear hk
          simp only [netAct, dstAt, List.getElem?_toArray, List.getElem?_cons_zero, List.getElem?_cons_succ, Option.bind_some, Act.put, List.setIfInBounds_toArray, List.set_cons_zero, List.set_cons_succ] at hQ ⊢
          obtain ⟨g, e1, hk⟩ := h8
          rw [e1] at hQ ⊢
          have HS := Lib.hid (sl_one hk HI2.out)
          go_wp2_with fail
          refine (digits_one _ _ _ HS.out).mono ?_; rintro e w1 ⟨rfl, hb1⟩
          go_wp2
          exact hQ _ _ hb1 rfl
        · intro x w hb hk Q' hQ
          have h5 : x.v 5 = .string (dgS p1 ++ (⟨#[45]⟩ : ByteArray)) := (hk 5 (by decide)).1
          have h9 : x.v 9 = .string (dgS p2) := (hk 9 (by decide)).1
          clear hk
          simp only [netAct, dstAt, List.getElem?_toArray, List.getElem?_cons_zero, List.getElem?_cons_succ, Option.bind_some, Act.put, List.setIfInBounds_toArray, List.set_cons_zero, List.set_cons_succ] at hQ ⊢
          simp only [h5, h9] at hQ ⊢
          clear h5 h9
          go_wp2
          exact hQ (.string (dgS p1 ++ (⟨#[45]⟩ : ByteArray) ++ dgS p2)) _ (Below.refl _ _) rfl
        · intro x w hb hk Q' hQ
          have h10 : x.v 10 = .string (dgS p1 ++ (⟨#[45]⟩ : ByteArray) ++ dgS p2) := (hk 10 (by decide)).1
          clear hk
          simp only [netAct, dstAt, List.getElem?_toArray, List.getElem?_cons_zero, List.getElem?_cons_succ, Option.bind_some, Act.put, List.setIfInBounds_toArray, List.set_cons_zero, List.set_cons_succ] at hQ ⊢
          simp only [h10] at hQ ⊢
          clear h10
          go_wp2
          exact hQ (.string (dgS p1 ++ (⟨#[45]⟩ : ByteArray) ++ dgS p2 ++ (⟨#[120]⟩ : ByteArray))) _ (Below.refl _ _) rfl
        · intro x w hb hk Q' hQ
          clear hk
          simp only [netAct, dstAt, List.getElem?_toArray, List.getElem?_cons_zero, List.getElem?_cons_succ, Option.bind_some, Act.put, List.setIfInBounds_toArray, List.set_cons_zero, List.set_cons_succ] at hQ ⊢
          go_wp2
          exact hQ (.pointer (some ⟨wr.heap.size, 2, none⟩)) _ (Below.refl _ _) rfl
        · intro x w hb hk Q' hQ
          have h12 : x.v 12 = .pointer (some ⟨wr.heap.size, 2, none⟩) := (hk 12 (by decide)).1
          clear hk
          simp only [netAct, dstAt, List.getElem?_toArray, List.getElem?_cons_zero, List.getElem?_cons_succ, Option.bind_some, Act.put, List.setIfInBounds_toArray, List.set_cons_zero, List.set_cons_succ] at hQ ⊢
          simp only [h12] at hQ ⊢
          clear h12
          have q0 := (kX.call hb).cell' (i := 2) rfl
          go_wp2
          exact hQ (.int .i64 p3) _ (Below.refl _ _) rfl
        · intro x w hb hk Q' hQ
          have h12 : x.v 12 = .pointer (some ⟨wr.heap.size, 2, none⟩) := (hk 12 (by decide)).1
          have h13 : x.v 13 = .int .i64 p3 := (hk 13 (by decide)).1
          clear hk
          simp only [netAct, dstAt, List.getElem?_toArray, List.getElem?_cons_zero, List.getElem?_cons_succ, Option.bind_some, Act.put, List.setIfInBounds_toArray, List.set_cons_zero, List.set_cons_succ] at hQ ⊢
          simp only [h12, h13] at hQ ⊢
          clear h12 h13
          go_wp2
          exact hQ _ _ (below_alloc _ _) ⟨_, rfl, Blk.new _ _ _⟩
        · intro x w hb hk Q' hQ
          have h14 : ∃ g, (x.v 14) = .slice (some ⟨g, 0, none⟩) 1 1 ∧ Blk w g 3 #[.int .i64 p3] := (hk 14 (by decide)).1
          clear hk
          simp only [netAct, dstAt, List.getElem?_toArray, List.getElem?_cons_zero, List.getElem?_cons_succ, Option.bind_some, Act.put, List.setIfInBounds_toArray, List.set_cons_zero, List.set_cons_succ] at hQ ⊢
          obtain ⟨g, e1, hk⟩ := h14
          rw [e1] at hQ ⊢
          have HS := Lib.hid (sl_one hk HI3.out)
          go_wp2_with fail
          refine (digits_one _ _ _ HS.out).mono ?_; rintro e w1 ⟨rfl, hb1⟩
          go_wp2
          exact hQ _ _ hb1 rfl
        · intro x w hb hk Q' hQ
          have h11 : x.v 11 = .string (dgS p1 ++ (⟨#[45]⟩ : ByteArray) ++ dgS p2 ++ (⟨#[120]⟩ : ByteArray)) := (hk 11 (by decide)).1
          have h15 : x.v 15 = .string (dgS p3) := (hk 15 (by decide)).1
          clear hk
          simp only [netAct, dstAt, List.getElem?_toArray, List.getElem?_cons_zero, List.getElem?_cons_succ, Option.bind_some, Act.put, List.setIfInBounds_toArray, List.set_cons_zero, List.set_cons_succ] at hQ ⊢
          simp only [h11, h15] at hQ ⊢
          clear h11 h15
          go_wp2
          exact hQ (.string (dgS p1 ++ (⟨#[45]⟩ : ByteArray) ++ dgS p2 ++ (⟨#[120]⟩ : ByteArray) ++ dgS p3)) _ (Below.refl _ _) rfl
        · intro x w hb hk Q' hQ
          have h1 : x.v 1 = .pointer (some ⟨wr.heap.size, 0, none⟩) := (hk 1 (by decide)).1
          have h2 : x.v 2 = .int .i64 p1 := (hk 2 (by decide)).1
          have h3 : ∃ g, (x.v 3) = .slice (some ⟨g, 0, none⟩) 1 1 ∧ Blk w g 3 #[.int .i64 p1] := (hk 3 (by decide)).1
          have h4 : x.v 4 = .string (dgS p1) := (hk 4 (by decide)).1
          have h5 : x.v 5 = .string (dgS p1 ++ (⟨#[45]⟩ : ByteArray)) := (hk 5 (by decide)).1
          have h6 : x.v 6 = .pointer (some ⟨wr.heap.size, 1, none⟩) := (hk 6 (by decide)).1
          have h7 : x.v 7 = .int .i64 p2 := (hk 7 (by decide)).1
          have h8 : ∃ g, (x.v 8) = .slice (some ⟨g, 0, none⟩) 1 1 ∧ Blk w g 3 #[.int .i64 p2] := (hk 8 (by decide)).1
          have h9 : x.v 9 = .string (dgS p2) := (hk 9 (by decide)).1
          have h10 : x.v 10 = .string (dgS p1 ++ (⟨#[45]⟩ : ByteArray) ++ dgS p2) := (hk 10 (by decide)).1
          have h11 : x.v 11 = .string (dgS p1 ++ (⟨#[45]⟩ : ByteArray) ++ dgS p2 ++ (⟨#[120]⟩ : ByteArray)) := (hk 11 (by decide)).1
          have h12 : x.v 12 = .pointer (some ⟨wr.heap.size, 2, none⟩) := (hk 12 (by decide)).1
          have h13 : x.v 13 = .int .i64 p3 := (hk 13 (by decide)).1
          have h14 : ∃ g, (x.v 14) = .slice (some ⟨g, 0, none⟩) 1 1 ∧ Blk w g 3 #[.int .i64 p3] := (hk 14 (by decide)).1
          have h15 : x.v 15 = .string (dgS p3) := (hk 15 (by decide)).1
          have h16 : x.v 16 = .string (dgS p1 ++ (⟨#[45]⟩ : ByteArray) ++ dgS p2 ++ (⟨#[120]⟩ : ByteArray) ++ dgS p3) := (hk 16 (by decide)).1
          have s3 := (hk 3 (by decide)).2
          have s8 := (hk 8 (by decide)).2
          have s14 := (hk 14 (by decide)).2
          clear hk
          simp only [netAct, dstAt, List.getElem?_toArray, List.getElem?_cons_zero, List.getElem?_cons_succ, Option.bind_some, Act.put, List.setIfInBounds_toArray, List.set_cons_zero, List.set_cons_succ] at hQ ⊢
          simp only [h1, h2, h4, h5, h6, h7, h9, h10, h11, h12, h13, h15, h16] at hQ ⊢
          clear h1 h2 h4 h5 h6 h7 h9 h10 h11 h12 h13 h15 h16
          go_wp2
          exact hQ _ _ (below_alloc _ _) ⟨_, rfl, Blk.new _ _ _⟩
        · intro x w hb hk hiv hdj
          have h0 : x.v 0 = .slice wA k wc := hk 0 (by decide)
          have h1 : x.v 1 = .pointer (some ⟨wr.heap.size, 0, none⟩) := hk 1 (by decide)
          have h2 : x.v 2 = .int .i64 p1 := hk 2 (by decide)
          have h3 : ∃ g, (x.v 3) = .slice (some ⟨g, 0, none⟩) 1 1 ∧ Blk w g 3 #[.int .i64 p1] := hk 3 (by decide)
          have h4 : x.v 4 = .string (dgS p1) := hk 4 (by decide)
          have h5 : x.v 5 = .string (dgS p1 ++ (⟨#[45]⟩ : ByteArray)) := hk 5 (by decide)
          have h6 : x.v 6 = .pointer (some ⟨wr.heap.size, 1, none⟩) := hk 6 (by decide)
          have h7 : x.v 7 = .int .i64 p2 := hk 7 (by decide)
          have h8 : ∃ g, (x.v 8) = .slice (some ⟨g, 0, none⟩) 1 1 ∧ Blk w g 3 #[.int .i64 p2] := hk 8 (by decide)
          have h9 : x.v 9 = .string (dgS p2) := hk 9 (by decide)
          have h10 : x.v 10 = .string (dgS p1 ++ (⟨#[45]⟩ : ByteArray) ++ dgS p2) := hk 10 (by decide)
          have h11 : x.v 11 = .string (dgS p1 ++ (⟨#[45]⟩ : ByteArray) ++ dgS p2 ++ (⟨#[120]⟩ : ByteArray)) := hk 11 (by decide)
          have h12 : x.v 12 = .pointer (some ⟨wr.heap.size, 2, none⟩) := hk 12 (by decide)
          have h13 : x.v 13 = .int .i64 p3 := hk 13 (by decide)
          have h14 : ∃ g, (x.v 14) = .slice (some ⟨g, 0, none⟩) 1 1 ∧ Blk w g 3 #[.int .i64 p3] := hk 14 (by decide)
          have h15 : x.v 15 = .string (dgS p3) := hk 15 (by decide)
          have h16 : x.v 16 = .string (dgS p1 ++ (⟨#[45]⟩ : ByteArray) ++ dgS p2 ++ (⟨#[120]⟩ : ByteArray) ++ dgS p3) := hk 16 (by decide)
          have h17 : ∃ g, (x.v 17) = .slice (some ⟨g, 0, none⟩) 1 1 ∧ Blk w g 9 #[.string (dgS p1 ++ (⟨#[45]⟩ : ByteArray) ++ dgS p2 ++ (⟨#[120]⟩ : ByteArray) ++ dgS p3)] := hk 17 (by decide)
          clear hk
          simp only [netAct, dstAt, List.getElem?_toArray, List.getElem?_cons_zero, List.getElem?_cons_succ, Option.bind_some, Act.put, List.setIfInBounds_toArray, List.set_cons_zero, List.set_cons_succ]
          simp only [List.drop_succ_cons, List.drop_zero, h0, h1, h2, h4, h5, h6, h7, h9, h10, h11, h12, h13, h15, h16]
          clear h0 h1 h2 h4 h5 h6 h7 h9 h10 h11 h12 h13 h15 h16
          obtain ⟨g, e17, hk17⟩ := h17
          rw [e17]
          have hO2 := (HO.out).below hb
          have sw := hb.size
          have hbw := (HBX.out).trans (hb.mono (by omega))
          have hml : ((fmtW l k).map Value.string).length = k := by simp [HWL.out]
          have hown : w.ownsRow w0.heap.size 9 1 (.slice wA k wc) ((fmtW l k).map Value.string).length ((fmtW l k).map Value.string) := by rw [hml]; exact hO2.1
          refine wpList_appStr rfl (.tmp 16) (.tmp 33) rfl w0.heap.size (.slice wA k wc) ((fmtW l k).map Value.string) rfl hown _ _ (.string (barS (p1, p2, p3))) rfl ⟨g, 0, rfl, hk17.cell' (i := 0) rfl⟩ rfl (by omega) (by omega) ?_
          intro v' w' hn' hg' hv'
          have hbg : Below w0.heap.size w w' := below_grown hg' (fun k hk => (hO2.1.lt k hk).1) (by omega)
          have HBT := Lib.hid (hbw.trans hbg)
          have HO4 : Hid (RowO 9 1 w' w0.heap.size w'.heap.size v' (fmtW l (k + 1)).length ((fmtW l (k + 1)).map Value.string)) := by
            rw [hfs.out, List.map_append]
            have e1 : (fmtW l k ++ [barS (p1, p2, p3)]).length = ((fmtW l k).map Value.string ++ [Value.string (barS (p1, p2, p3))]).length := by simp
            rw [e1]
            exact ⟨hn', fun k hk => (hn'.lt k hk).2, by simp [HWL.out]; omega⟩
          clear hn' hg' hv' hbg hO2 hown hml hk17 e17 hbw
          go_wp2
          go_roundw
          case rel => exact ⟨k + 1, by omega, by go_num, HO4.out, HBT.out⟩
          case measure => simp [intOf]; omega
      · have hkl : k = l.length := by omega
        subst hkl
        obtain ⟨gw, cw, cur, ew, hg1, hg2, hg3, _⟩ := RowO.at_ hO (by omega)
        injection ew with ew1 ew2 ew3
        subst ew1 ew3
        have hcs : ∀ (j : Nat) x, (fmtW l l.length)[j]? = some x → wr.cell? ⟨gw, j, none⟩ = some (.string x) := by
          intro j x hj
          have hjl := lt_of_some hj
          rw [hwl] at hjl
          rw [hO.1.cellAt j (by omega), List.getElem?_map, hj]
          rfl
        have hjn := fmtW_join l (l.length - 1) (by omega)
        rw [show l.length - 1 + 1 = l.length by omega] at hjn
        have hsz := fmtTo_size l l.length
        have hlen : (Lib.join ((fmtW l l.length).map (·.data.toList)) [32]).length ≤ 1048576 := by
          rw [hjn]
          have : (fmtTo l l.length).data.toList.length = (fmtTo l l.length).size := by simp
          omega
        have HC := Lib.hid (join_row gw wc (fmtW l l.length) wr hcs hg3 (by omega) (by omega) hlen)
        rw [hwl] at HC
        have HR : Hid (fmtB l = ⟨(Lib.join ((fmtW l l.length).map (·.data.toList)) [32]).toArray⟩) := by
          show _ = _
          rw [hF.out, hjn]
        clear hcs hjn hsz hlen hO hwl
        go_wp2_with fail
        refine (HC.out).mono ?_; rintro e w1 ⟨rfl, hb1⟩
        go_wp2
        go_ret
        exact ⟨by rw [HR.out]; rfl, hbel.trans (hb1.mono ws)⟩
end Go.Proofs.Ytjhllgldllbaaaa
