/- The two ReflectWord. -/
import Derived.Test.YtpcgjjflmhnimaaRefl3
namespace Go.Proofs.Ytpcgjjflmhnimaa
set_option linter.unusedVariables false
set_option linter.unusedSimpArgs false
open Go.RowKit

/-- the word's reflections, one behind the other -/
def wordGo (q : Qv) : List Int → List Int → List Int × Bool
  | x, [] => (x, true)
  | x, v :: r => if (reflQ q x v).2 then wordGo q (reflQ q x v).1 r else ([], false)
def wordQ (q : Qv) (x word : List Int) : List Int × Bool := if isNum q x && decide (word.length ≤ 200) then wordGo q x word else ([], false)
theorem wordGo_step {q : Qv} {x word : List Int} {k : Nat} {v : Int} (h : word[k]? = some v) : wordGo q x (word.drop k) = if (reflQ q x v).2 then wordGo q (reflQ q x v).1 (word.drop (k + 1)) else ([], false) := by
  have hk := lt_of_some h
  have e : word[k] = v := by rw [List.getElem?_eq_getElem hk] at h; injection h
  rw [List.drop_eq_getElem_cons hk, e, wordGo]
theorem wordGo_end {q : Qv} {x word : List Int} {k : Nat} (h : word.length ≤ k) : wordGo q x (word.drop k) = (x, true) := by
  rw [List.drop_of_length_le h, wordGo]

set_option maxHeartbeats 800000 in
set_option maxRecDepth 20000 in
theorem implReflectWord_any (u : Value) (q : Qv) (xv : Value) (x : List Int) (dv : Value) (word : List Int) (w : World) (hu : QvR w w.heap.size u q) (hx : SlI w w.heap.size xv x) (hd : SlI w w.heap.size dv word) :
    Calls Try.prog 108 #[u, xv, dv] w fun e w' => ∃ r, e = .returned (.tuple #[r, .bool (wordQ q x word).2]) ∧ IntsO w' w.heap.size w'.heap.size r (wordQ q x word).1 ∧ Below w.heap.size w w' := by
  have hu' := hu
  obtain ⟨A, c, C, d, rfl, hf, hT, hr, lf, lt⟩ := hu.open_
  have hx' := hx
  obtain ⟨XA, xc, rfl, _, _, lx, _⟩ := hx.open_
  obtain ⟨DA, dc, rfl, _, _, ld, hd'⟩ := hd.open_
  clear hu hx hf hT hd
  obtain ⟨W, hW⟩ : ∃ W, W = w.alloc (.cells #[.int .i64 q.v, .slice A q.f.length c, .slice C q.t.length d] 29) := ⟨_, rfl⟩
  have g0 : Below w.heap.size w W := by rw [hW]; exact below_alloc _ _
  have kB : Blk W w.heap.size 29 #[.int .i64 q.v, .slice A q.f.length c, .slice C q.t.length d] := by rw [hW]; exact Blk.new _ _ _
  have c0 := kB.cell' (i := 0) rfl
  have c1 := kB.cell' (i := 1) rfl
  have c2 := kB.cell' (i := 2) rfl
  have h0 := QvR.next g0 hu'
  have hx0 := SlI.next g0 hx'
  clear hu' hx'
  rcases hq : isNum q x with _ | _
  · have hF : Hid (wordQ q x word = ([], false)) := by show _ = _; simp [wordQ, hq]
    go_enter Try.func108, Try.ntmps108
    go_wp2_with fail
    rw [← hW]; clear hW
    refine (areNumbers_any _ _ _ _ _ h0 hx0).mono ?_; rintro e w1 ⟨rfl, hb1⟩
    rw [hq]
    go_wp2
    exact bodyPost_ret (v := .tuple #[.slice none 0 0, .bool false]) (by simp [results, go_sem]) rfl ⟨_, by rw [hF.out], by rw [hF.out]; exact IntsO.nil_ _ _ _, bthen g0 hb1⟩
  · obtain ⟨hq1, hq2, hq3⟩ := isNum_t.1 hq
    obtain ⟨hv1, hv2⟩ := (isQ_t.1 hq1).1
    have hxp : 0 < x.length := by omega
    have hxr : ∀ y ∈ x, I64 y := fun y hy => by have := hq3 y hy; exact ⟨by omega, by omega⟩
    clear hq1 hq2 hq3 hv1 hv2
    by_cases hl : word.length ≤ 200
    · have hl' : ¬ (200 : Int) < word.length := by omega
      have HE : Hid (wordQ q x word = wordGo q x (word.drop 0)) := by show _ = _; simp [wordQ, hq, hl]
      have HXR := Lib.hid hxr
      clear hxr
      go_enter Try.func108, Try.ntmps108
      go_wp2_with fail
      rw [← hW]; clear hW
      refine (areNumbers_any _ _ _ _ _ h0 hx0).mono ?_; rintro e w1 ⟨rfl, hb1⟩
      rw [hq]
      go_wp2_with fail
      refine (clone_any _ x _ (SlI.next hb1 hx0) hxp HXR.out).mono ?_; rintro e w2 ⟨g, gc, rfl, ho2, hgc1, hgc2, hb2⟩
      have g2 := bthen (bthen g0 hb1) hb2
      have hk2 := (kB.call hb1).call hb2
      have hWb := bthen hb1 hb2
      have hs0 := g0.size
      have ho3 := ho2.lower (bthen g0 hb1).size
      have hr0 := Lib.hid h0
      clear c0 c1 c2 hb1 hb2 ho2 hxp hx0
      go_wp2
      go_loopw [8, 25] (fun a i wr => ∃ (k : Nat) (cur : List Int), k ≤ word.length ∧ i = .int .i64 k ∧ OwnI wr w.heap.size a cur ∧ Below w.heap.size w wr ∧ Below W.heap.size W wr ∧ Blk wr w.heap.size 29 #[.int .i64 q.v, .slice A q.f.length c, .slice C q.t.length d] ∧ Hid (wordQ q x word = wordGo q cur (word.drop k))) (fun _ i _ => word.length - (intOf i).toNat)
      case atStart => exact ⟨0, x, Nat.zero_le _, rfl, ho3, g2, hWb, hk2, HE⟩
      case round =>
        clear ho3 hk2 g2 hWb HE
        obtain ⟨k, cur, hk, rfl, hown, hbel, hbW, hkB, hR⟩ := hrel
        obtain ⟨OA, oc, rfl, _, _⟩ := hown.form
        have e0 := hkB.cell' (i := 0) rfl
        have e1 := hkB.cell' (i := 1) rfl
        have e2 := hkB.cell' (i := 2) rfl
        have hs1 := hbW.size
        by_cases hlt : k < word.length
        · obtain ⟨b, o, v, rfl, hb, HV, v1, hv1, hv2⟩ := SlI.at_ hd' hlt
          have v2 := bcell hbel hb v1
          have hrq := QvR.more (B' := wr.heap.size) hs1 (QvR.below hbW hr0.out)
          have hst := wordGo_step (q := q) (x := cur) HV.out
          rw [← hR.out] at hst
          have HST := Lib.hid hst
          clear hst hR v1
          have HC := implReflectDims_any _ q _ cur v wr hrq hown.rd ⟨hv1, hv2⟩
          obtain ⟨nx, hnx⟩ : ∃ nx, reflQ q cur v = nx := ⟨_, rfl⟩
          rw [hnx] at HC
          have HNX := Lib.hid hnx
          clear hnx
          obtain ⟨l, B⟩ := nx
          have HC := Lib.hid HC
          cases B
          · have hF : Hid (wordQ q x word = ([], false)) := by show _ = _; rw [HST.out, HNX.out]; rfl
            go_wp2_with fail
            refine (unhide HC).mono ?_; rintro e w3 ⟨r, rfl, hr3, hb3⟩
            go_wp2
            exact bodyPost_ret (v := .tuple #[.slice none 0 0, .bool false]) (by simp [results, go_sem]) rfl ⟨_, by rw [hF.out], by rw [hF.out]; exact IntsO.nil_ _ _ _, hbel.trans (hb3.mono hbel.size)⟩
          · have hF : Hid (wordQ q x word = wordGo q l (word.drop (k + 1))) := by show _ = _; rw [HST.out, HNX.out]; rfl
            go_wp2_with fail
            refine (unhide HC).mono ?_; rintro e w3 ⟨r, rfl, hr3, hb3⟩
            have hk3 := hkB.call hb3
            have hW3 := hbW.trans (hb3.mono hs1)
            have hb4 := hbel.trans (hb3.mono hbel.size)
            have ho4 := hr3.1.lower hbel.size
            go_wp2
            go_roundw
            case rel => exact ⟨k + 1, l, by omega, by go_num, ho4, hb4, hW3, hk3, hF.out⟩
            case measure => simp [intOf]; omega
        · have hF : Hid (wordQ q x word = (cur, true)) := by show _ = _; rw [hR.out, wordGo_end (by omega)]
          go_wp2
          exact bodyPost_ret (v := .tuple #[.slice OA cur.length oc, .bool true]) (by simp [results, go_sem]) rfl ⟨_, by rw [hF.out], by rw [hF.out]; exact IntsO.of_own hown, hbel⟩
    · have hl' : (200 : Int) < word.length := by omega
      have hF : Hid (wordQ q x word = ([], false)) := by show _ = _; simp [wordQ, hl]
      go_enter Try.func108, Try.ntmps108
      go_wp2_with fail
      rw [← hW]; clear hW
      refine (areNumbers_any _ _ _ _ _ h0 hx0).mono ?_; rintro e w1 ⟨rfl, hb1⟩
      rw [hq]
      go_wp2
      exact bodyPost_ret (v := .tuple #[.slice none 0 0, .bool false]) (by simp [results, go_sem]) rfl ⟨_, by rw [hF.out], by rw [hF.out]; exact IntsO.nil_ _ _ _, bthen g0 hb1⟩
end Go.Proofs.Ytpcgjjflmhnimaa
