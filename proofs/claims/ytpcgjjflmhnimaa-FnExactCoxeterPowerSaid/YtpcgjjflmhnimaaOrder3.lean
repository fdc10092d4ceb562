/- The reference's OrderOf. -/
import Derived.Test.YtpcgjjflmhnimaaOrder2
namespace Go.Proofs.Ytpcgjjflmhnimaa
set_option linter.unusedVariables false
set_option linter.unusedSimpArgs false
open Go.RowKit

theorem IntsO.made_ (w : World) {lo : Nat} (h : lo ≤ w.heap.size) : IntsO (w.alloc (.cells #[] 3)) lo (w.alloc (.cells #[] 3)).heap.size (.slice (some ⟨w.heap.size, 0, none⟩) 0 0) [] :=
  ⟨OwnI.made _ rfl h, fun k hk => by simp [Value.ownBlock] at hk; simp; omega⟩

set_option maxHeartbeats 800000 in
theorem specOrderOf_any (u : Value) (q : Qv) (w : World) (hu : QvR w w.heap.size u q) :
    Calls Try.prog 123 #[u] w fun e w' => ∃ v, e = .returned (.tuple #[v, .bool (ordQ q).2]) ∧ IntsO w' w.heap.size w'.heap.size v (ordQ q).1 ∧ Below w.heap.size w w' := by
  obtain ⟨qv, qf, qt⟩ := q
  have hu0 := hu
  obtain ⟨A, c, C, d, rfl, hf, hT, hr, lf, lt⟩ := hu.open_
  dsimp only at *
  have g0 : Below w.heap.size w ((w.alloc (.cells #[.int .i64 qv, .slice A qf.length c, .slice C qt.length d] 29)).alloc (.cells #[] 3)) := ((Below.refl _ _).alloc (Nat.le_refl _) _).alloc (by simp) _
  have kB : Blk ((w.alloc (.cells #[.int .i64 qv, .slice A qf.length c, .slice C qt.length d] 29)).alloc (.cells #[] 3)) w.heap.size 29 #[.int .i64 qv, .slice A qf.length c, .slice C qt.length d] := (Blk.new _ _ _).alloc _
  have ho0 : OwnI ((w.alloc (.cells #[.int .i64 qv, .slice A qf.length c, .slice C qt.length d] 29)).alloc (.cells #[] 3)) w.heap.size (.slice (some ⟨w.heap.size + 1, 0, none⟩) 0 0) [] := by
    have := OwnI.made (w := w.alloc (.cells #[.int .i64 qv, .slice A qf.length c, .slice C qt.length d] 29)) (base := w.heap.size) _ rfl (by simp)
    simpa only [World.size_alloc] using this
  clear hu
  rcases hq : isQ ⟨qv, qf, qt⟩ with _ | _
  · have hF : Hid (ordQ ⟨qv, qf, qt⟩ = ([], false)) := by show _ = _; simp [ordQ, hq]
    generalize ordQ ⟨qv, qf, qt⟩ = R at *
    go_enter Try.func123, Try.ntmps123
    go_wp2
    go_loopw [4] (fun a wr => a = .slice (some ⟨w.heap.size + 1, 0, none⟩) 0 0 ∧ OwnI wr w.heap.size a [] ∧ Below w.heap.size w wr ∧ Blk wr w.heap.size 29 #[.int .i64 qv, .slice A qf.length c, .slice C qt.length d]) (fun a _ => 0)
    case atStart => exact ⟨rfl, ho0, g0, kB⟩
    case round =>
      clear g0 kB ho0
      obtain ⟨rfl, hown, hbel, hkB⟩ := hrel
      have c0 := hkB.cell' (i := 0) rfl
      have c1 := hkB.cell' (i := 1) rfl
      have c2 := hkB.cell' (i := 2) rfl
      have hrq := QvR.more (B' := wr.heap.size) (by have := hbel.size; omega) (QvR.below hbel hu0)
      go_wp2_with fail
      refine (specIsQuiver_any _ _ _ hrq).mono ?_; rintro e w5 ⟨rfl, hb5⟩
      rw [hq]
      have hkB' := hkB.call hb5
      have hbel' := hbel.trans (hb5.mono hbel.size)
      clear c0 c1 c2
      have c0 := hkB'.cell' (i := 0) rfl
      have c1 := hkB'.cell' (i := 1) rfl
      have c2 := hkB'.cell' (i := 2) rfl
      have hrq' := QvR.next hb5 hrq
      go_wp2_with fail
      refine (specIsQuiver_any _ _ _ hrq').mono ?_; rintro e w6 ⟨rfl, hb6⟩
      rw [hq]
      go_wp2
      exact bodyPost_ret (v := .tuple #[.slice (some ⟨w.heap.size + 1, 0, none⟩) 0 0, .bool false]) (by simp [results, go_sem]) rfl ⟨_, by rw [hF.out], by rw [hF.out]; exact IntsO.of_own ((hown.below hb5).below hb6), hbel'.trans (hb6.mono hbel'.size)⟩
  · obtain ⟨⟨hv1, hv2⟩, hlen, _, _, _⟩ := isQ_t.1 hq
    dsimp only at hv1 hv2 hlen
    obtain ⟨V, rfl⟩ : ∃ V : Nat, qv = V := ⟨qv.toNat, by omega⟩
    have HE := Lib.hid (show ordQ ⟨V, qf, qt⟩ = ordGo ⟨V, qf, qt⟩ V V [] by simp [ordQ, hq])
    have HLE := Lib.hid hlen
    have hr0 : QvR w w.heap.size (.agg #[.int .i64 V, .slice A qf.length c, .slice C qt.length d]) ⟨V, qf, qt⟩ := ⟨_, _, rfl, hf, hT, hr⟩
    clear hlen hu0
    generalize ordQ ⟨V, qf, qt⟩ = R at *
    go_enter Try.func123, Try.ntmps123
    go_wp2
    go_loopw [4] (fun a wr => ∃ out : List Int, out.length ≤ V ∧ OwnI wr w.heap.size a out ∧ Below w.heap.size w wr ∧ Blk wr w.heap.size 29 #[.int .i64 V, .slice A qf.length c, .slice C qt.length d] ∧ Hid (R = ordGo ⟨V, qf, qt⟩ V (V - out.length) out)) (fun a _ => V - lenOf a)
    case atStart => exact ⟨[], by simp, ho0, g0, kB, HE⟩
    case round =>
      clear g0 kB HE ho0
      obtain ⟨out, hn, hown, hbel, hkB, hR⟩ := hrel
      obtain ⟨OA, oc, rfl, _, _⟩ := hown.form
      have c0 := hkB.cell' (i := 0) rfl
      have c1 := hkB.cell' (i := 1) rfl
      have c2 := hkB.cell' (i := 2) rfl
      have hrq := QvR.more (B' := wr.heap.size) (by have := hbel.size; omega) (QvR.below hbel hr0)
      go_wp2_with fail
      refine (specIsQuiver_any _ _ _ hrq).mono ?_; rintro e w5 ⟨rfl, hb5⟩
      rw [hq]
      have hkB' := hkB.call hb5
      have hown' := hown.below hb5
      have hbel' := hbel.trans (hb5.mono hbel.size)
      clear hkB hown hbel c0 c1 c2 hrq hb5
      have c0 := hkB'.cell' (i := 0) rfl
      have c1 := hkB'.cell' (i := 1) rfl
      have c2 := hkB'.cell' (i := 2) rfl
      by_cases hlt : out.length < V
      · go_wp2
        have HN := Lib.hid hn
        clear hn c0 c1 c2
        have hs := hbel'.size
        clear wr
        rename World => wo
        go_loopw [5, 6] (fun n v w2 => ∃ m : Nat, m ≤ V ∧ v = .int .i64 ((V : Int) - 1 - m) ∧ n = .int .i64 (bst ⟨V, qf, qt⟩ out V m) ∧ Below wo.heap.size wo w2) (fun _ v _ => (intOf v + 1).toNat)
        case atStart => exact ⟨0, Nat.zero_le _, by simp, rfl, Below.refl _ _⟩
        case round =>
          obtain ⟨m, hm, rfl, rfl, hbel2⟩ := hrel
          have hk2 := hkB'.call hbel2
          have ho2 : OwnI wr w.heap.size (.slice OA out.length oc) out := hown'.below hbel2
          have g2 := hbel'.trans (hbel2.mono hs)
          by_cases hlt2 : m < V
          · have hnn : (0 : Int) ≤ (V : Int) - 1 - m := by omega
            obtain ⟨B1, hB1⟩ : ∃ B, decide (((V : Int) - 1 - m) ∈ out) = B := ⟨_, rfl⟩
            have HB1 := Lib.hid hB1
            clear hB1
            go_wp2_with fail
            refine (l4Has_any _ out _ _ ho2.rd).mono ?_; rintro e w3 ⟨rfl, hb3⟩
            rw [HB1.out]
            have hk3 := hk2.call hb3
            have ho3 := ho2.below hb3
            have g3 := g2.trans (hb3.mono g2.size)
            have hbel3 := hbel2.trans (hb3.mono hbel2.size)
            have hx3 : Hid (fre ⟨V, qf, qt⟩ out ((V : Int) - 1 - m) = (!B1 && rdy ⟨V, qf, qt⟩ out ((V : Int) - 1 - m))) := by show _ = _; rw [fre, HB1.out]
            clear hk2 ho2 g2 hb3 hbel2
            go_wp2
            go_loopw [7, 8] (fun fr i w4 => ∃ (k : Nat) (F : Bool), k ≤ qf.length ∧ i = .int .i64 k ∧ fr = .bool F ∧ Hid (F = (!B1 && rdyAt ⟨V, qf, qt⟩ out ((V : Int) - 1 - m) k)) ∧ Below w3.heap.size w3 w4) (fun _ i _ => qf.length - (intOf i).toNat)
            case atStart => exact ⟨0, !B1, Nat.zero_le _, rfl, rfl, by show _ = _; simp [rdyAt_zero], Below.refl _ _⟩
            case round =>
              obtain ⟨k, F, hk, rfl, rfl, hFr, hbel4⟩ := hrel
              have hk4 := hk3.call hbel4
              have ho4 := ho3.below hbel4
              have g4 := g3.trans (hbel4.mono g3.size)
              have hbel5 := hbel3.trans (hbel4.mono hbel3.size)
              have e0 := hk4.cell' (i := 0) rfl
              have e1 := hk4.cell' (i := 1) rfl
              have e2 := hk4.cell' (i := 2) rfl
              by_cases hltk : k < qf.length
              · have hltk' : k < qt.length := by have := HLE.out; omega
                obtain ⟨b, o, y, rfl, hb, HY, y1, _⟩ := SlI.at_ hT hltk'
                obtain ⟨b2, o2, x, rfl, hb2, HX, x1, _⟩ := SlI.at_ (k := k) hf hltk
                have y2 := bcell g4 hb y1
                have x2 := bcell g4 hb2 x1
                clear y1 x1
                have hsu := rdyAt_succ (q := ⟨V, qf, qt⟩) (taken := out) (v := (V : Int) - 1 - m) HX.out HY.out
                cases F
                · have hst : Hid (false = (!B1 && rdyAt ⟨V, qf, qt⟩ out ((V : Int) - 1 - m) (k + 1))) := by show _ = _; rw [hsu, ← Bool.and_assoc, ← hFr.out]; rfl
                  clear hsu
                  go_wp2
                  go_roundw
                  case rel => exact ⟨k + 1, false, by omega, by go_num, rfl, hst.out, hbel4⟩
                  case measure => simp [intOf]; omega
                · rcases hyv : (y == ((V : Int) - 1 - m)) with _ | _
                  · have hyv' : (y != ((V : Int) - 1 - m)) = true := by rw [bne, hyv]; rfl
                    have hst : Hid (true = (!B1 && rdyAt ⟨V, qf, qt⟩ out ((V : Int) - 1 - m) (k + 1))) := by show _ = _; rw [hsu, ← Bool.and_assoc, ← hFr.out, hyv]; rfl
                    clear hsu
                    go_wp2
                    go_roundw
                    case rel => exact ⟨k + 1, true, by omega, by go_num, rfl, hst.out, hbel4⟩
                    case measure => simp [intOf]; omega
                  · have hyv' : (y != ((V : Int) - 1 - m)) = false := by rw [bne, hyv]; rfl
                    obtain ⟨B2, hB2⟩ : ∃ B, decide (x ∈ out) = B := ⟨_, rfl⟩
                    have hst : Hid (B2 = (!B1 && rdyAt ⟨V, qf, qt⟩ out ((V : Int) - 1 - m) (k + 1))) := by show _ = _; rw [hsu, ← Bool.and_assoc, ← hFr.out, hyv, hB2]; rfl
                    have HB2 := Lib.hid hB2
                    clear hsu hB2
                    go_wp2_with fail
                    refine (l4Has_any _ out _ _ ho4.rd).mono ?_; rintro e w6 ⟨rfl, hb6⟩
                    rw [HB2.out]
                    go_wp2
                    go_roundw
                    case rel => exact ⟨k + 1, B2, by omega, by go_num, rfl, hst.out, hbel4.trans (hb6.mono hbel4.size)⟩
                    case measure => simp [intOf]; omega
              · have hre : Hid (F = fre ⟨V, qf, qt⟩ out ((V : Int) - 1 - m)) := by
                  show _ = _
                  rw [hx3.out, hFr.out, rdyAt_end (by dsimp only; omega) (by have := HLE.out; dsimp only; omega)]
                cases F
                · have hst : Hid (bst ⟨V, qf, qt⟩ out V (m + 1) = bst ⟨V, qf, qt⟩ out V m) := by show _ = _; rw [bst, if_neg]; rw [← hre.out]; simp
                  go_wp2
                  go_roundw
                  case rel => exact ⟨m + 1, by omega, by go_num, by rw [hst.out], hbel5⟩
                  case measure => simp [intOf]; omega
                · have hst : Hid (bst ⟨V, qf, qt⟩ out V (m + 1) = (V : Int) - 1 - m) := by show _ = _; rw [bst, if_pos]; rw [← hre.out]
                  go_wp2
                  go_roundw
                  case rel => exact ⟨m + 1, by omega, by go_num, by rw [hst.out], hbel5⟩
                  case measure => simp [intOf]; omega
          · obtain rfl : m = V := by omega
            have hrg := bst_rng ⟨m, qf, qt⟩ out m m (Nat.le_refl _)
            obtain ⟨x, hx⟩ : ∃ x, bst ⟨m, qf, qt⟩ out m m = x := ⟨_, rfl⟩
            rw [hx] at hrg ⊢
            have HX := Lib.hid hx
            clear hx
            have hnn : ¬ (0 : Int) ≤ (m : Int) - 1 - m := by omega
            by_cases hx0 : x < 0
            · have hF : Hid (R = ([], false)) := by
                show _ = _
                have h := hR.out
                rw [show m - out.length = (m - out.length - 1) + 1 by omega, ordGo, HX.out, if_pos hx0] at h
                exact h
              go_wp2
              exact bodyPost_ret (v := .tuple #[.slice (some ⟨wr.heap.size, 0, none⟩) 0 0, .bool false]) (by simp [results, go_sem]) rfl ⟨_, by rw [hF.out], by rw [hF.out]; exact IntsO.made_ _ g2.size, g2.alloc g2.size _⟩
            · have hF : Hid (R = ordGo ⟨m, qf, qt⟩ m (m - (out ++ [x]).length) (out ++ [x])) := by
                show _ = _
                have h := hR.out
                rw [show m - out.length = (m - out.length - 1) + 1 by omega, ordGo, HX.out, if_neg hx0] at h
                rw [h, List.length_append]
                rfl
              have hs2 := hbel2.size
              (go_wp2_with (at_builtin; refine Hold.stop ?_)); unfold Hold
              have b0 := below_alloc wr (.cells #[.int .i64 x] 3)
              have ho3 := ho2.alloc (.cells #[.int .i64 x] 3)
              refine wpList_appI rfl (.tmp 61) (.tmp 63) rfl w.heap.size _ (.slice OA out.length oc) out rfl ho3 _ _ _ [x] rfl rfl (SlI.one wr _ x ⟨by omega, by omega⟩) (by have := HN.out; simp; omega) (by simp; omega) ?_
              intro v1 w3 ho1 hg1 hv1
              have hk3 := (hk2.call b0).grown hg1 (ho3.blkne (hk2.call b0) (by decide))
              have hb3 := (g2.trans (b0.mono g2.size)).grown hg1 (by simp; omega) (fun j hj => (ho3.lt j hj).1)
              obtain ⟨A1, c1, rfl, _, _⟩ := ho1.form
              clear ho3 hg1 hv1 b0
              go_wp2
              go_roundw
              case rel => exact ⟨out ++ [x], by simp; omega, by rw [List.length_append] at ho1; exact ho1, hb3, hk3, hF.out⟩
              case measure => simp [lenOf]; omega
      · have hF : Hid (R = (out, true)) := by
          show _ = _
          have h := hR.out
          rw [show V - out.length = 0 by omega, ordGo] at h
          exact h
        have hrq := QvR.more (B' := w5.heap.size) (by have := hbel'.size; omega) (QvR.below hbel' hr0)
        go_wp2_with fail
        refine (specIsQuiver_any _ _ _ hrq).mono ?_; rintro e w6 ⟨rfl, hb6⟩
        rw [hq]
        go_wp2
        exact bodyPost_ret (v := .tuple #[.slice OA out.length oc, .bool true]) (by simp [results, go_sem]) rfl ⟨_, by rw [hF.out], by rw [hF.out]; exact IntsO.of_own (hown'.below hb6), hbel'.trans (hb6.mono hbel'.size)⟩
end Go.Proofs.Ytpcgjjflmhnimaa
