/- The two OrderOf. -/
import Derived.Test.YtpcgjjflmhnimaaOrder
namespace Go.Proofs.Ytpcgjjflmhnimaa
set_option linter.unusedVariables false
set_option linter.unusedSimpArgs false
open Go.RowKit

def fre (q : Qv) (out : List Int) (v : Int) : Bool := !decide (v ∈ out) && rdy q out v
/-- What the search holds behind m vertices, from the last one down. -/
def bst (q : Qv) (out : List Int) (V : Nat) : Nat → Int
  | 0 => -1
  | m + 1 => if fre q out ((V : Int) - 1 - m) then (V : Int) - 1 - m else bst q out V m
theorem bst_rng (q : Qv) (out : List Int) (V : Nat) : ∀ m, m ≤ V → -1 ≤ bst q out V m ∧ bst q out V m ≤ (V : Int) - 1
  | 0, _ => ⟨by simp [bst], by simp [bst]; omega⟩
  | m + 1, h => by
    have ih := bst_rng q out V m (by omega)
    unfold bst
    split <;> omega
def ordGo (q : Qv) (V : Nat) : Nat → List Int → List Int × Bool
  | 0, out => (out, true)
  | n + 1, out => if bst q out V V < 0 then ([], false) else ordGo q V n (out ++ [bst q out V V])
def ordQ (q : Qv) : List Int × Bool := if isQ q then ordGo q q.v.toNat q.v.toNat [] else ([], false)

theorem IntsO.nil_ (w : World) (lo hi : Nat) : IntsO w lo hi (.slice none 0 0) [] := ⟨OwnI.nil _ _, fun k hk => by simp [Value.ownBlock] at hk⟩
def lenOf : Value → Nat
  | .slice _ n _ => n
  | _ => 0

set_option maxHeartbeats 800000 in
theorem implOrderOf_any (u : Value) (q : Qv) (w : World) (hu : QvR w w.heap.size u q) :
    Calls Try.prog 126 #[u] w fun e w' => ∃ v, e = .returned (.tuple #[v, .bool (ordQ q).2]) ∧ IntsO w' w.heap.size w'.heap.size v (ordQ q).1 ∧ Below w.heap.size w w' := by
  obtain ⟨qv, qf, qt⟩ := q
  have hu0 := hu
  obtain ⟨A, c, C, d, rfl, hf, hT, hr, lf, lt⟩ := hu.open_
  dsimp only at *
  obtain ⟨W, hW⟩ : ∃ W, W = w.alloc (.cells #[.int .i64 qv, .slice A qf.length c, .slice C qt.length d] 29) := ⟨_, rfl⟩
  have g0 : Below w.heap.size w W := by rw [hW]; exact below_alloc _ _
  have kB : Blk W w.heap.size 29 #[.int .i64 qv, .slice A qf.length c, .slice C qt.length d] := by rw [hW]; exact Blk.new _ _ _
  have c0 := kB.cell' (i := 0) rfl
  have c1 := kB.cell' (i := 1) rfl
  have c2 := kB.cell' (i := 2) rfl
  have h0 := QvR.next g0 hu0
  clear hu hu0
  rcases hq : isQ ⟨qv, qf, qt⟩ with _ | _
  · have hF : Hid (ordQ ⟨qv, qf, qt⟩ = ([], false)) := by show _ = _; simp [ordQ, hq]
    go_enter Try.func126, Try.ntmps126
    go_wp2_with fail
    rw [← hW]; clear hW
    refine (implIsQuiver_any _ _ _ h0).mono ?_; rintro e w1 ⟨rfl, hb1⟩
    rw [hq]
    go_wp2
    exact bodyPost_ret (v := .tuple #[.slice none 0 0, .bool false]) (by simp [results, go_sem]) rfl ⟨_, by rw [hF.out], by rw [hF.out]; exact IntsO.nil_ _ _ _, bthen g0 hb1⟩
  · obtain ⟨⟨hv1, hv2⟩, hlen, _, _, _⟩ := isQ_t.1 hq
    dsimp only at hv1 hv2 hlen
    obtain ⟨V, rfl⟩ : ∃ V : Nat, qv = V := ⟨qv.toNat, by omega⟩
    have HE := Lib.hid (show ordQ ⟨V, qf, qt⟩ = ordGo ⟨V, qf, qt⟩ V V [] by simp [ordQ, hq])
    have HLE := Lib.hid hlen
    have hr0 : QvR w w.heap.size (.agg #[.int .i64 V, .slice A qf.length c, .slice C qt.length d]) ⟨V, qf, qt⟩ := ⟨_, _, rfl, hf, hT, hr⟩
    clear hlen hf hT
    generalize ordQ ⟨V, qf, qt⟩ = R at *
    go_enter Try.func126, Try.ntmps126
    go_wp2_with fail
    rw [← hW]; clear hW
    refine (implIsQuiver_any _ _ _ h0).mono ?_; rintro e w1 ⟨rfl, hb1⟩
    rw [hq]
    have k1 := kB.call hb1
    have g1 := bthen g0 hb1
    clear c0 c1 c2 kB g0 hb1 h0
    go_wp2
    go_loopw [4] (fun a wr => ∃ out : List Int, out.length ≤ V ∧ OwnI wr w.heap.size a out ∧ Below w.heap.size w wr ∧ Blk wr w.heap.size 29 #[.int .i64 V, .slice A qf.length c, .slice C qt.length d] ∧ Hid (R = ordGo ⟨V, qf, qt⟩ V (V - out.length) out)) (fun a _ => V - lenOf a)
    case atStart => exact ⟨[], by simp, OwnI.nil _ _, g1, k1, HE⟩
    case round =>
      clear g1 k1 HE
      obtain ⟨out, hn, hown, hbel, hkB, hR⟩ := hrel
      obtain ⟨OA, oc, rfl, _, _⟩ := hown.form
      have c0 := hkB.cell' (i := 0) rfl
      have c1 := hkB.cell' (i := 1) rfl
      have c2 := hkB.cell' (i := 2) rfl
      by_cases hlt : out.length < V
      · go_wp2
        have HN := Lib.hid hn
        clear hn c0 c1 c2
        have hs := hbel.size
        generalize wr = wo at hown hbel hkB hs ⊢
        go_loopw [5, 6] (fun n v w2 => ∃ m : Nat, m ≤ V ∧ v = .int .i64 ((V : Int) - 1 - m) ∧ n = .int .i64 (bst ⟨V, qf, qt⟩ out V m) ∧ Below wo.heap.size wo w2) (fun _ v _ => (intOf v + 1).toNat)
        case atStart => exact ⟨0, Nat.zero_le _, by simp, rfl, Below.refl _ _⟩
        case round =>
          obtain ⟨m, hm, rfl, rfl, hbel2⟩ := hrel
          have hk2 := hkB.call hbel2
          have e0 := hk2.cell' (i := 0) rfl
          have e1 := hk2.cell' (i := 1) rfl
          have e2 := hk2.cell' (i := 2) rfl
          have ho2 : OwnI wr w.heap.size (.slice OA out.length oc) out := hown.below hbel2
          have hr2 := QvR.more (B' := wr.heap.size) (by have := hbel2.size; omega) (QvR.below (hbel.trans (hbel2.mono hs)) hr0)
          by_cases hlt2 : m < V
          · have hnn : (0 : Int) ≤ (V : Int) - 1 - m := by omega
            obtain ⟨B1, hB1⟩ : ∃ B, decide (((V : Int) - 1 - m) ∈ out) = B := ⟨_, rfl⟩
            have HB1 := Lib.hid hB1
            clear hB1
            cases B1
            · obtain ⟨B2, hB2⟩ : ∃ B, rdy ⟨V, qf, qt⟩ out ((V : Int) - 1 - m) = B := ⟨_, rfl⟩
              have HB2 := Lib.hid hB2
              clear hB2
              cases B2
              · have hst : Hid (bst ⟨V, qf, qt⟩ out V (m + 1) = bst ⟨V, qf, qt⟩ out V m) := by show _ = _; rw [bst, if_neg]; simp [fre, HB1.out, HB2.out]
                go_wp2_with fail
                refine (contains_any _ out _ _ ho2.rd).mono ?_; rintro e w' ⟨rfl, rfl⟩
                rw [HB1.out]
                go_wp2_with fail
                refine (isReady_any _ _ _ out _ _ hr2 ho2.rd (by have := HLE.out; dsimp only; omega)).mono ?_; rintro e w3 ⟨rfl, hb3⟩
                rw [HB2.out]
                go_wp2
                go_roundw
                case rel => exact ⟨m + 1, by omega, by go_num, by rw [hst.out], hbel2.trans (hb3.mono hbel2.size)⟩
                case measure => simp [intOf]; omega
              · have hst : Hid (bst ⟨V, qf, qt⟩ out V (m + 1) = (V : Int) - 1 - m) := by show _ = _; rw [bst, if_pos]; simp [fre, HB1.out, HB2.out]
                go_wp2_with fail
                refine (contains_any _ out _ _ ho2.rd).mono ?_; rintro e w' ⟨rfl, rfl⟩
                rw [HB1.out]
                go_wp2_with fail
                refine (isReady_any _ _ _ out _ _ hr2 ho2.rd (by have := HLE.out; dsimp only; omega)).mono ?_; rintro e w3 ⟨rfl, hb3⟩
                rw [HB2.out]
                go_wp2
                go_roundw
                case rel => exact ⟨m + 1, by omega, by go_num, by rw [hst.out], hbel2.trans (hb3.mono hbel2.size)⟩
                case measure => simp [intOf]; omega
            · have hst : Hid (bst ⟨V, qf, qt⟩ out V (m + 1) = bst ⟨V, qf, qt⟩ out V m) := by show _ = _; rw [bst, if_neg]; simp [fre, HB1.out]
              go_wp2_with fail
              refine (contains_any _ out _ _ ho2.rd).mono ?_; rintro e w' ⟨rfl, rfl⟩
              rw [HB1.out]
              go_wp2
              go_roundw
              case rel => exact ⟨m + 1, by omega, by go_num, by rw [hst.out], hbel2⟩
              case measure => simp [intOf]; omega
          · obtain rfl : m = V := by omega
            have hrg := bst_rng ⟨m, qf, qt⟩ out m m (Nat.le_refl _)
            obtain ⟨x, hx⟩ : ∃ x, bst ⟨m, qf, qt⟩ out m m = x := ⟨_, rfl⟩
            rw [hx] at hrg ⊢
            have HX := Lib.hid hx
            clear hx hr2 e1 e2
            have hnn : ¬ (0 : Int) ≤ (m : Int) - 1 - m := by omega
            have g2 := hbel.trans (hbel2.mono hs)
            by_cases hx0 : x < 0
            · have hF : Hid (R = ([], false)) := by
                show _ = _
                have h := hR.out
                rw [show m - out.length = (m - out.length - 1) + 1 by omega, ordGo, HX.out, if_pos hx0] at h
                exact h
              go_wp2
              exact bodyPost_ret (v := .tuple #[.slice none 0 0, .bool false]) (by simp [results, go_sem]) rfl ⟨_, by rw [hF.out], by rw [hF.out]; exact IntsO.nil_ _ _ _, g2⟩
            · have hF : Hid (R = ordGo ⟨m, qf, qt⟩ m (m - (out ++ [x]).length) (out ++ [x])) := by
                show _ = _
                have h := hR.out
                rw [show m - out.length = (m - out.length - 1) + 1 by omega, ordGo, HX.out, if_neg hx0] at h
                rw [h, List.length_append]
                rfl
              have hs2 := hbel2.size
              (go_wp2_with (at_builtin; refine Hold.stop ?_)); unfold Hold
              have b0 := below_alloc wr (.cells #[.int .i64 x] 3)
              have ho3 := ho2.alloc (.cells #[.int .i64 x] 3)
              refine wpList_appI rfl (.tmp 35) (.tmp 37) rfl w.heap.size _ (.slice OA out.length oc) out rfl ho3 _ _ _ [x] rfl rfl (SlI.one wr _ x ⟨by omega, by omega⟩) (by have := HN.out; simp; omega) (by simp; omega) ?_
              intro v1 w3 ho1 hg1 hv1
              have hk3 := (hk2.call b0).grown hg1 (ho3.blkne (hk2.call b0) (by decide))
              have hb3 := (g2.trans (b0.mono g2.size)).grown hg1 (by simp; omega) (fun j hj => (ho3.lt j hj).1)
              obtain ⟨A1, c1, rfl, _, _⟩ := ho1.form
              clear ho3 hg1 hv1 b0
              go_wp2
              go_roundw
              case rel => exact ⟨out ++ [x], by simp; omega, by rw [List.length_append] at ho1; exact ho1, hb3, hk3, hF.out⟩
              case measure => simp [lenOf]; omega
      · have hF : Hid (R = (out, true)) := by
          show _ = _
          have h := hR.out
          rw [show V - out.length = 0 by omega, ordGo] at h
          exact h
        go_wp2
        exact bodyPost_ret (v := .tuple #[.slice OA out.length oc, .bool true]) (by simp [results, go_sem]) rfl ⟨_, by rw [hF.out], by rw [hF.out]; exact IntsO.of_own hown, hbel⟩
end Go.Proofs.Ytpcgjjflmhnimaa
