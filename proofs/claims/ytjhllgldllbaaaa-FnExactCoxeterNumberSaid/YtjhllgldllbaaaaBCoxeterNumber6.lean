/- FnExactCoxeterNumber: for every argument the program's function returns what the reference's returns. Part 6 of 7 of the proof: Word, Word2, CoxOrd, CoxP, CoxP2, Mat, Mat2, Mat3, Pencil. No condition. -/
import Derived.Test.YtjhllgldllbaaaaBCoxeterNumber5
/- The two ReflectWord. -/
namespace Go.Proofs.Ytjhllgldllbaaaa
set_option linter.unusedVariables false
set_option linter.unusedSimpArgs false
open Go.RowKit

/-- the word's reflections, one behind the other -/
def wordGo (q : Qv) : List Int → List Int → List Int × Bool
  | x, [] => (x, true)
  | x, v :: r => if (reflQ q x v).2 then wordGo q (reflQ q x v).1 r else ([], false)
def wordQ (q : Qv) (x word : List Int) : List Int × Bool := if isNum q x && decide (word.length ≤ 200) then wordGo q x word else ([], false)
theorem wordGo_step {q : Qv} {x word : List Int} {k : Nat} {v : Int} (h : word[k]? = some v) : wordGo q x (word.drop k) = if (reflQ q x v).2 then wordGo q (reflQ q x v).1 (word.drop (k + 1)) else ([], false) := by
  have hk := lt_of_some h
  have e : word[k] = v := by rw [List.getElem?_eq_getElem hk] at h; injection h
  rw [List.drop_eq_getElem_cons hk, e, wordGo]
theorem wordGo_end {q : Qv} {x word : List Int} {k : Nat} (h : word.length ≤ k) : wordGo q x (word.drop k) = (x, true) := by
  rw [List.drop_of_length_le h, wordGo]

set_option maxHeartbeats 800000 in
set_option maxRecDepth 20000 in
theorem implReflectWord_any (u : Value) (q : Qv) (xv : Value) (x : List Int) (dv : Value) (word : List Int) (w : World) (hu : QvR w w.heap.size u q) (hx : SlI w w.heap.size xv x) (hd : SlI w w.heap.size dv word) :
    Calls Try.prog 170 #[u, xv, dv] w fun e w' => ∃ r, e = .returned (.tuple #[r, .bool (wordQ q x word).2]) ∧ IntsO w' w.heap.size w'.heap.size r (wordQ q x word).1 ∧ Below w.heap.size w w' := by
  have hu' := hu
  obtain ⟨A, c, C, d, rfl, hf, hT, hr, lf, lt⟩ := hu.open_
  have hx' := hx
  obtain ⟨XA, xc, rfl, _, _, lx, _⟩ := hx.open_
  obtain ⟨DA, dc, rfl, _, _, ld, hd'⟩ := hd.open_
  clear hu hx hf hT hd
  obtain ⟨W, hW⟩ : ∃ W, W = w.alloc (.cells #[.int .i64 q.v, .slice A q.f.length c, .slice C q.t.length d] 26) := ⟨_, rfl⟩
  have g0 : Below w.heap.size w W := by rw [hW]; exact below_alloc _ _
  have kB : Blk W w.heap.size 26 #[.int .i64 q.v, .slice A q.f.length c, .slice C q.t.length d] := by rw [hW]; exact Blk.new _ _ _
  have c0 := kB.cell' (i := 0) rfl
  have c1 := kB.cell' (i := 1) rfl
  have c2 := kB.cell' (i := 2) rfl
  have h0 := QvR.next g0 hu'
  have hx0 := SlI.next g0 hx'
  clear hu' hx'
  rcases hq : isNum q x with _ | _
  · have hF : Hid (wordQ q x word = ([], false)) := by show _ = _; simp [wordQ, hq]
    go_enter Try.func170, Try.ntmps170
    go_wp2_with fail
    rw [← hW]; clear hW
    refine (areNumbers_any _ _ _ _ _ h0 hx0).mono ?_; rintro e w1 ⟨rfl, hb1⟩
    rw [hq]
    go_wp2
    exact bodyPost_ret (v := .tuple #[.slice none 0 0, .bool false]) (by simp [results, go_sem]) rfl ⟨_, by rw [hF.out], by rw [hF.out]; exact IntsO.nil_ _ _ _, bthen g0 hb1⟩
  · obtain ⟨hq1, hq2, hq3⟩ := isNum_t.1 hq
    obtain ⟨hv1, hv2⟩ := (isQ_t.1 hq1).1
    have hxp : 0 < x.length := by omega
    have hxr : ∀ y ∈ x, I64 y := fun y hy => by have := hq3 y hy; exact ⟨by omega, by omega⟩
    clear hq1 hq2 hq3 hv1 hv2
    by_cases hl : word.length ≤ 200
    · have hl' : ¬ (200 : Int) < word.length := by omega
      have HE : Hid (wordQ q x word = wordGo q x (word.drop 0)) := by show _ = _; simp [wordQ, hq, hl]
      have HXR := Lib.hid hxr
      clear hxr
      go_enter Try.func170, Try.ntmps170
      go_wp2_with fail
      rw [← hW]; clear hW
      refine (areNumbers_any _ _ _ _ _ h0 hx0).mono ?_; rintro e w1 ⟨rfl, hb1⟩
      rw [hq]
      go_wp2_with fail
      refine (clone_any _ x _ (SlI.next hb1 hx0) hxp HXR.out).mono ?_; rintro e w2 ⟨g, gc, rfl, ho2, hgc1, hgc2, hb2⟩
      have g2 := bthen (bthen g0 hb1) hb2
      have hk2 := (kB.call hb1).call hb2
      have hWb := bthen hb1 hb2
      have hs0 := g0.size
      have ho3 := ho2.lower (bthen g0 hb1).size
      have hr0 := Lib.hid h0
      clear c0 c1 c2 hb1 hb2 ho2 hxp hx0
      go_wp2
      go_loopw [8, 25] (fun a i wr => ∃ (k : Nat) (cur : List Int), k ≤ word.length ∧ i = .int .i64 k ∧ OwnI wr w.heap.size a cur ∧ Below w.heap.size w wr ∧ Below W.heap.size W wr ∧ Blk wr w.heap.size 26 #[.int .i64 q.v, .slice A q.f.length c, .slice C q.t.length d] ∧ Hid (wordQ q x word = wordGo q cur (word.drop k))) (fun _ i _ => word.length - (intOf i).toNat)
      case atStart => exact ⟨0, x, Nat.zero_le _, rfl, ho3, g2, hWb, hk2, HE⟩
      case round =>
        clear ho3 hk2 g2 hWb HE
        obtain ⟨k, cur, hk, rfl, hown, hbel, hbW, hkB, hR⟩ := hrel
        obtain ⟨OA, oc, rfl, _, _⟩ := hown.form
        have e0 := hkB.cell' (i := 0) rfl
        have e1 := hkB.cell' (i := 1) rfl
        have e2 := hkB.cell' (i := 2) rfl
        have hs1 := hbW.size
        by_cases hlt : k < word.length
        · obtain ⟨b, o, v, rfl, hb, HV, v1, hv1, hv2⟩ := SlI.at_ hd' hlt
          have v2 := bcell hbel hb v1
          have hrq := QvR.more (B' := wr.heap.size) hs1 (QvR.below hbW hr0.out)
          have hst := wordGo_step (q := q) (x := cur) HV.out
          rw [← hR.out] at hst
          have HST := Lib.hid hst
          clear hst hR v1
          have HC := implReflectDims_any _ q _ cur v wr hrq hown.rd ⟨hv1, hv2⟩
          obtain ⟨nx, hnx⟩ : ∃ nx, reflQ q cur v = nx := ⟨_, rfl⟩
          rw [hnx] at HC
          have HNX := Lib.hid hnx
          clear hnx
          obtain ⟨l, B⟩ := nx
          have HC := Lib.hid HC
          cases B
          · have hF : Hid (wordQ q x word = ([], false)) := by show _ = _; rw [HST.out, HNX.out]; rfl
            go_wp2_with fail
            refine (unhide HC).mono ?_; rintro e w3 ⟨r, rfl, hr3, hb3⟩
            go_wp2
            exact bodyPost_ret (v := .tuple #[.slice none 0 0, .bool false]) (by simp [results, go_sem]) rfl ⟨_, by rw [hF.out], by rw [hF.out]; exact IntsO.nil_ _ _ _, hbel.trans (hb3.mono hbel.size)⟩
          · have hF : Hid (wordQ q x word = wordGo q l (word.drop (k + 1))) := by show _ = _; rw [HST.out, HNX.out]; rfl
            go_wp2_with fail
            refine (unhide HC).mono ?_; rintro e w3 ⟨r, rfl, hr3, hb3⟩
            have hk3 := hkB.call hb3
            have hW3 := hbW.trans (hb3.mono hs1)
            have hb4 := hbel.trans (hb3.mono hbel.size)
            have ho4 := hr3.1.lower hbel.size
            go_wp2
            go_roundw
            case rel => exact ⟨k + 1, l, by omega, by go_num, ho4, hb4, hW3, hk3, hF.out⟩
            case measure => simp [intOf]; omega
        · have hF : Hid (wordQ q x word = (cur, true)) := by show _ = _; rw [hR.out, wordGo_end (by omega)]
          go_wp2
          exact bodyPost_ret (v := .tuple #[.slice OA cur.length oc, .bool true]) (by simp [results, go_sem]) rfl ⟨_, by rw [hF.out], by rw [hF.out]; exact IntsO.of_own hown, hbel⟩
    · have hl' : (200 : Int) < word.length := by omega
      have hF : Hid (wordQ q x word = ([], false)) := by show _ = _; simp [wordQ, hl]
      go_enter Try.func170, Try.ntmps170
      go_wp2_with fail
      rw [← hW]; clear hW
      refine (areNumbers_any _ _ _ _ _ h0 hx0).mono ?_; rintro e w1 ⟨rfl, hb1⟩
      rw [hq]
      go_wp2
      exact bodyPost_ret (v := .tuple #[.slice none 0 0, .bool false]) (by simp [results, go_sem]) rfl ⟨_, by rw [hF.out], by rw [hF.out]; exact IntsO.nil_ _ _ _, bthen g0 hb1⟩
end Go.Proofs.Ytjhllgldllbaaaa

/- The reference's ReflectWord (turned from Word.lean). -/
namespace Go.Proofs.Ytjhllgldllbaaaa
set_option linter.unusedVariables false
set_option linter.unusedSimpArgs false
open Go.RowKit

set_option maxHeartbeats 800000 in
set_option maxRecDepth 20000 in
theorem specReflectWord_any (u : Value) (q : Qv) (xv : Value) (x : List Int) (dv : Value) (word : List Int) (w : World) (hu : QvR w w.heap.size u q) (hx : SlI w w.heap.size xv x) (hd : SlI w w.heap.size dv word) :
    Calls Try.prog 164 #[u, xv, dv] w fun e w' => ∃ r, e = .returned (.tuple #[r, .bool (wordQ q x word).2]) ∧ IntsO w' w.heap.size w'.heap.size r (wordQ q x word).1 ∧ Below w.heap.size w w' := by
  have hu' := hu
  obtain ⟨A, c, C, d, rfl, hf, hT, hr, lf, lt⟩ := hu.open_
  have hx' := hx
  obtain ⟨XA, xc, rfl, _, _, lx, _⟩ := hx.open_
  obtain ⟨DA, dc, rfl, _, _, ld, hd'⟩ := hd.open_
  clear hu hx hf hT hd
  obtain ⟨W, hW⟩ : ∃ W, W = w.alloc (.cells #[.int .i64 q.v, .slice A q.f.length c, .slice C q.t.length d] 26) := ⟨_, rfl⟩
  have g0 : Below w.heap.size w W := by rw [hW]; exact below_alloc _ _
  have kB : Blk W w.heap.size 26 #[.int .i64 q.v, .slice A q.f.length c, .slice C q.t.length d] := by rw [hW]; exact Blk.new _ _ _
  have c0 := kB.cell' (i := 0) rfl
  have c1 := kB.cell' (i := 1) rfl
  have c2 := kB.cell' (i := 2) rfl
  have h0 := QvR.next g0 hu'
  have hx0 := SlI.next g0 hx'
  clear hu' hx'
  rcases hq : isNum q x with _ | _
  · have hF : Hid (wordQ q x word = ([], false)) := by show _ = _; simp [wordQ, hq]
    go_enter Try.func164, Try.ntmps164
    go_wp2_with fail
    rw [← hW]; clear hW
    refine (l18Vector_any _ _ _ _ _ h0 hx0).mono ?_; rintro e w1 ⟨rfl, hb1⟩
    rw [hq]
    go_wp2
    exact bodyPost_ret (v := .tuple #[.slice (some ⟨w1.heap.size, 0, none⟩) 0 0, .bool false]) (by simp [results, go_sem]) rfl ⟨_, by rw [hF.out], by rw [hF.out]; exact IntsO.made_ _ (bthen g0 hb1).size, (bthen g0 hb1).alloc (bthen g0 hb1).size _⟩
  · obtain ⟨hq1, hq2, hq3⟩ := isNum_t.1 hq
    obtain ⟨hv1, hv2⟩ := (isQ_t.1 hq1).1
    have hxp : 0 < x.length := by omega
    have hxr : ∀ y ∈ x, I64 y := fun y hy => by have := hq3 y hy; exact ⟨by omega, by omega⟩
    clear hq1 hq2 hq3 hv1 hv2
    by_cases hl : word.length ≤ 200
    · have hl' : ¬ (200 : Int) < word.length := by omega
      have HE : Hid (wordQ q x word = wordGo q x (word.drop 0)) := by show _ = _; simp [wordQ, hq, hl]
      have HXR := Lib.hid hxr
      clear hxr
      go_enter Try.func164, Try.ntmps164
      go_wp2_with fail
      rw [← hW]; clear hW
      refine (l18Vector_any _ _ _ _ _ h0 hx0).mono ?_; rintro e w1 ⟨rfl, hb1⟩
      rw [hq]
      (go_wp2_with (at_builtin; refine Hold.stop ?_)); unfold Hold
      have ho0 : OwnI (w1.alloc (.cells #[] 3)) w1.heap.size (.slice (some ⟨w1.heap.size, 0, none⟩) 0 0) [] := OwnI.made _ rfl (Nat.le_refl _)
      refine wpList_appI rfl (.tmp 22) (.tmp 23) rfl w1.heap.size w1.heap.size (.slice (some ⟨w1.heap.size, 0, none⟩) 0 0) [] rfl ho0 _ _ _ x rfl rfl (SlI.below (below_alloc _ _) (SlI.next hb1 hx0)) (by simp; omega) (by simp) ?_
      intro v1 w2 ho2 hg2 hvv
      rw [List.nil_append] at ho2
      have hb2 : Below w1.heap.size w1 w2 := ((Below.refl _ _).alloc (Nat.le_refl _) (.cells #[] 3)).grown hg2 (by simp) (fun j hj => (ho0.lt j hj).1)
      have g2 := bthen (bthen g0 hb1) hb2
      clear hg2 hvv ho0
      have hk2 := (kB.call hb1).call hb2
      have hWb := bthen hb1 hb2
      have hs0 := g0.size
      have ho3 := ho2.lower (bthen g0 hb1).size
      have hr0 := Lib.hid h0
      clear c0 c1 c2 hb1 hb2 ho2 hxp hx0
      go_wp2
      go_loopw [8, 9] (fun a i wr => ∃ (k : Nat) (cur : List Int), k ≤ word.length ∧ i = .int .i64 k ∧ OwnI wr w.heap.size a cur ∧ Below w.heap.size w wr ∧ Below W.heap.size W wr ∧ Blk wr w.heap.size 26 #[.int .i64 q.v, .slice A q.f.length c, .slice C q.t.length d] ∧ Hid (wordQ q x word = wordGo q cur (word.drop k))) (fun _ i _ => word.length - (intOf i).toNat)
      case atStart => exact ⟨0, x, Nat.zero_le _, rfl, ho3, g2, hWb, hk2, HE⟩
      case round =>
        clear ho3 hk2 g2 hWb HE
        obtain ⟨k, cur, hk, rfl, hown, hbel, hbW, hkB, hR⟩ := hrel
        obtain ⟨OA, oc, rfl, _, _⟩ := hown.form
        have e0 := hkB.cell' (i := 0) rfl
        have e1 := hkB.cell' (i := 1) rfl
        have e2 := hkB.cell' (i := 2) rfl
        have hs1 := hbW.size
        by_cases hlt : k < word.length
        · obtain ⟨b, o, v, rfl, hb, HV, v1, hv1, hv2⟩ := SlI.at_ hd' hlt
          have v2 := bcell hbel hb v1
          have HVC := Lib.hid v1
          have hrq := QvR.more (B' := wr.heap.size) hs1 (QvR.below hbW hr0.out)
          have hst := wordGo_step (q := q) (x := cur) HV.out
          rw [← hR.out] at hst
          have HST := Lib.hid hst
          clear hst hR v1
          have hdr := drew_below wr
          have hrq' := QvR.next hdr hrq
          have hown' := hown.below hdr
          have hbel' := hbel.trans (hdr.mono hbel.size)
          have hbW' := hbW.trans (hdr.mono hs1)
          have hkB' := hkB.call hdr
          have q0 := hkB'.cell' (i := 0) rfl
          have q1 := hkB'.cell' (i := 1) rfl
          have q2 := hkB'.cell' (i := 2) rfl
          have q3 := bcell hbel' hb (show w.cell? ⟨b, o + k, none⟩ = some (.int .i64 v) from HVC.out)
          have HC := specReflectDims_any _ q _ cur v wr.drew hrq' hown'.rd ⟨hv1, hv2⟩
          obtain ⟨nx, hnx⟩ : ∃ nx, reflQ q cur v = nx := ⟨_, rfl⟩
          rw [hnx] at HC
          have HNX := Lib.hid hnx
          clear hnx
          obtain ⟨l, B⟩ := nx
          have HC := Lib.hid HC
          cases B
          · have hF : Hid (wordQ q x word = ([], false)) := by show _ = _; rw [HST.out, HNX.out]; rfl
            go_wp2_with fail
            go_region_held3 (fun W' => W'.cell? ⟨w.heap.size, 0, none⟩ = some (.int .i64 q.v) ∧ W'.cell? ⟨w.heap.size, 1, none⟩ = some (.slice A q.f.length c) ∧ W'.cell? ⟨w.heap.size, 2, none⟩ = some (.slice C q.t.length d) ∧ W'.cell? ⟨b, o + k, none⟩ = some (.int .i64 v))
              (first | exact ⟨q0, q1, q2, q3⟩ | exact ⟨z0, z1, z2, z3⟩)
              (first | (go_at_call 202; refine (unhide HC).mono ?_; rintro e w3 ⟨r, rfl, hr3, hb3⟩; have hk3 := hkB'.call hb3; have z0 := hk3.cell' (i := 0) rfl; have z1 := hk3.cell' (i := 1) rfl; have z2 := hk3.cell' (i := 2) rfl; have z3 := bcell (hbel'.trans (hb3.mono hbel'.size)) hb HVC.out))
            go_wp2
            have g9 := hbel'.trans (hb3.mono hbel'.size)
            exact bodyPost_ret (v := .tuple #[.slice (some ⟨w3.heap.size, 0, none⟩) 0 0, .bool false]) (by simp [results, go_sem]) rfl ⟨_, by rw [hF.out], by rw [hF.out]; exact IntsO.made_ _ g9.size, g9.alloc g9.size _⟩
          · have hF : Hid (wordQ q x word = wordGo q l (word.drop (k + 1))) := by show _ = _; rw [HST.out, HNX.out]; rfl
            go_wp2_with fail
            go_region_held3 (fun W' => W'.cell? ⟨w.heap.size, 0, none⟩ = some (.int .i64 q.v) ∧ W'.cell? ⟨w.heap.size, 1, none⟩ = some (.slice A q.f.length c) ∧ W'.cell? ⟨w.heap.size, 2, none⟩ = some (.slice C q.t.length d) ∧ W'.cell? ⟨b, o + k, none⟩ = some (.int .i64 v))
              (first | exact ⟨q0, q1, q2, q3⟩ | exact ⟨z0, z1, z2, z3⟩)
              (first | (go_at_call 202; refine (unhide HC).mono ?_; rintro e w3 ⟨r, rfl, hr3, hb3⟩; have hk3 := hkB'.call hb3; have z0 := hk3.cell' (i := 0) rfl; have z1 := hk3.cell' (i := 1) rfl; have z2 := hk3.cell' (i := 2) rfl; have z3 := bcell (hbel'.trans (hb3.mono hbel'.size)) hb HVC.out))
            have hW3 := hbW'.trans (hb3.mono hbW'.size)
            have hb4 := hbel'.trans (hb3.mono hbel'.size)
            have ho4 := hr3.1.lower hbel'.size
            go_wp2
            go_roundw
            case rel => exact ⟨k + 1, l, by omega, by go_num, ho4, hb4, hW3, hk3, hF.out⟩
            case measure => simp [intOf]; omega
        · have hF : Hid (wordQ q x word = (cur, true)) := by show _ = _; rw [hR.out, wordGo_end (by omega)]
          go_wp2
          exact bodyPost_ret (v := .tuple #[.slice OA cur.length oc, .bool true]) (by simp [results, go_sem]) rfl ⟨_, by rw [hF.out], by rw [hF.out]; exact IntsO.of_own hown, hbel⟩
    · have hl' : (200 : Int) < word.length := by omega
      have hF : Hid (wordQ q x word = ([], false)) := by show _ = _; simp [wordQ, hl]
      go_enter Try.func164, Try.ntmps164
      go_wp2_with fail
      rw [← hW]; clear hW
      refine (l18Vector_any _ _ _ _ _ h0 hx0).mono ?_; rintro e w1 ⟨rfl, hb1⟩
      rw [hq]
      go_wp2
      exact bodyPost_ret (v := .tuple #[.slice (some ⟨w1.heap.size, 0, none⟩) 0 0, .bool false]) (by simp [results, go_sem]) rfl ⟨_, by rw [hF.out], by rw [hF.out]; exact IntsO.made_ _ (bthen g0 hb1).size, (bthen g0 hb1).alloc (bthen g0 hb1).size _⟩
end Go.Proofs.Ytjhllgldllbaaaa

/- The two CoxeterOrder. -/
namespace Go.Proofs.Ytjhllgldllbaaaa
set_option linter.unusedVariables false
set_option linter.unusedSimpArgs false
open Go.RowKit

set_option maxHeartbeats 400000 in
theorem implCoxeterOrder_any (u : Value) (q : Qv) (w : World) (hu : QvR w w.heap.size u q) :
    Calls Try.prog 168 #[u] w fun e w' => ∃ v, e = .returned (.tuple #[v, .bool (ordQ q).2]) ∧ IntsO w' w.heap.size w'.heap.size v (ordQ q).1.reverse ∧ Below w.heap.size w w' := by
  have hu' := hu
  obtain ⟨A, c, C, d, rfl, hf, hT, hr, lf, lt⟩ := hu.open_
  clear hu hf hT
  obtain ⟨W, hW⟩ : ∃ W, W = w.alloc (.cells #[.int .i64 q.v, .slice A q.f.length c, .slice C q.t.length d] 26) := ⟨_, rfl⟩
  have g0 : Below w.heap.size w W := by rw [hW]; exact below_alloc _ _
  have HC := Lib.hid (implOrderOf_any _ q W (QvR.next g0 hu'))
  clear hu'
  generalize ordQ q = R at HC ⊢
  obtain ⟨l, b⟩ := R
  dsimp only at HC ⊢
  go_enter Try.func168, Try.ntmps168
  go_wp2_with fail
  rw [← hW]; clear hW
  refine (unhide HC).mono ?_; rintro e w1 ⟨v, rfl, ho', hb1'⟩
  have ho := ho'.wider (lo' := w.heap.size) g0.size (Nat.le_refl _)
  have hb1 := bthen g0 hb1'
  clear ho' hb1' g0 HC
  obtain ⟨VA, vc, rfl, _, _⟩ := ho.1.form
  go_wp2_with fail
  refine (reverse_own _ l w.heap.size _ ho.1).mono ?_; rintro e w2 ⟨rfl, ho2, hg⟩
  go_wp2
  exact bodyPost_ret (v := .tuple #[.slice VA l.length vc, .bool b]) (by simp [results, go_sem]) rfl ⟨_, rfl, IntsO.of_own ho2, hb1.grown hg hb1.size (fun j hj => (ho.1.lt j hj).1)⟩

/-- The reference's state: it stands at i, and the elements behind it are laid, the last one first. -/
def RevSt (l : List Int) (i : Int) (out : List Int) : Prop := (∃ j : Nat, j < l.length ∧ i = j ∧ out = l.reverse.take (l.length - 1 - j)) ∨ (i = -1 ∧ out = l.reverse)
theorem RevSt.start (l : List Int) : RevSt l ((l.length : Int) - 1) [] := by
  rcases Nat.eq_zero_or_pos l.length with h | h
  · right
    obtain rfl := List.eq_nil_of_length_eq_zero h
    simp
  · exact .inl ⟨l.length - 1, by omega, by omega, by simp⟩
theorem RevSt.step {l out : List Int} {j : Nat} {x : Int} (hx : l[j]? = some x) (h : out = l.reverse.take (l.length - 1 - j)) : RevSt l ((j : Int) - 1) (out ++ [x]) := by
  have hj := lt_of_some hx
  have e : l.reverse[l.length - 1 - j]? = some x := by
    rw [List.getElem?_reverse (by omega), ← hx]
    congr 1
    omega
  have h2 := take_snoc e
  rw [← h] at h2
  rcases Nat.eq_zero_or_pos j with h0 | h0
  · subst h0
    refine .inr ⟨by simp, ?_⟩
    rw [← h2, List.take_of_length_le (by simp; omega)]
  · refine .inl ⟨j - 1, by omega, by omega, ?_⟩
    rw [← h2]
    congr 1
    omega

set_option maxHeartbeats 800000 in
theorem specCoxeterOrder_any (u : Value) (q : Qv) (w : World) (hu : QvR w w.heap.size u q) :
    Calls Try.prog 163 #[u] w fun e w' => ∃ v, e = .returned (.tuple #[v, .bool (ordQ q).2]) ∧ IntsO w' w.heap.size w'.heap.size v (ordQ q).1.reverse ∧ Below w.heap.size w w' := by
  have hu' := hu
  obtain ⟨A, c, C, d, rfl, hf, hT, hr, lf, lt⟩ := hu.open_
  clear hu hf hT
  obtain ⟨W, hW⟩ : ∃ W, W = w.alloc (.cells #[.int .i64 q.v, .slice A q.f.length c, .slice C q.t.length d] 26) := ⟨_, rfl⟩
  have g0 : Below w.heap.size w W := by rw [hW]; exact below_alloc _ _
  have HC := Lib.hid (specOrderOf_any _ q W (QvR.next g0 hu'))
  clear hu'
  generalize ordQ q = R at HC ⊢
  obtain ⟨l, b⟩ := R
  dsimp only at HC ⊢
  go_enter Try.func163, Try.ntmps163
  go_wp2_with fail
  rw [← hW]; clear hW
  refine (unhide HC).mono ?_; rintro e w1 ⟨v, rfl, ho', hb1'⟩
  have ho := ho'.wider (lo' := w.heap.size) g0.size (Nat.le_refl _)
  have hb1 := bthen g0 hb1'
  clear ho' hb1' g0 HC
  obtain ⟨VA, vc, rfl, _, _⟩ := ho.1.form
  go_wp2
  have ho0 : OwnI (w1.alloc (.cells #[] 3)) w1.heap.size (.slice (some ⟨w1.heap.size, 0, none⟩) 0 0) [] := OwnI.made _ rfl (Nat.le_refl _)
  have hln := ho.1.2.1
  have hb0 : Below w.heap.size w (w1.alloc (.cells #[] 3)) := hb1.alloc hb1.size _
  have hlr : SlI (w1.alloc (.cells #[] 3)) w1.heap.size (.slice VA l.length vc) l := SlI.below ((Below.refl _ _).alloc (Nat.le_refl _) _) ho.rd
  have hs1 : w1.heap.size ≤ (w1.alloc (.cells #[] 3)).heap.size := by simp
  have hs2 := hb1.size
  clear ho
  generalize w1.alloc (.cells #[] 3) = W2 at *
  go_loopw [6, 7] (fun a i wr => ∃ out : List Int, RevSt l (intOf i) out ∧ i = .int .i64 (intOf i) ∧ OwnI wr w1.heap.size a out ∧ Below w1.heap.size W2 wr) (fun _ i _ => (intOf i + 1).toNat)
  case atStart => exact ⟨[], RevSt.start l, rfl, ho0, Below.refl _ _⟩
  case round =>
    obtain ⟨out, hst, hi, hown, hbel⟩ := hrel
    clear ho0
    rcases hst with ⟨j, hj, e1, e2⟩ | ⟨e1, e2⟩
    · rw [e1] at hi
      subst hi
      have HO := Lib.hid e2
      clear e1 e2
      obtain ⟨b0, o, x, rfl, hb, HX, x1, hx1, hx2⟩ := SlI.at_ hlr hj
      have x2 := bcell hbel hb x1
      obtain ⟨OA, oc, rfl, _, _⟩ := hown.form
      have ho3 := hown.alloc (.cells #[.int .i64 x] 3)
      have HS : Hid (RevSt l ((j : Int) - 1) (out ++ [x])) := RevSt.step HX.out HO.out
      have hol : Hid (out.length + 1 ≤ l.length) := by show _ ≤ _; rw [HO.out]; simp; omega
      clear x1
      have hsr := hbel.size
      (go_wp2_with (at_builtin; refine Hold.stop ?_)); unfold Hold

      refine wpList_appI rfl (.tmp 21) (.tmp 26) rfl w1.heap.size _ (.slice OA out.length oc) out rfl ho3 _ _ _ [x] rfl rfl (SlI.one wr _ x ⟨hx1, hx2⟩) (by have := hol.out; simp; omega) (by simp; omega) ?_
      intro v1 w3 ho1 hg1 hv1
      have hb3 := (hbel.alloc (by omega) (.cells #[.int .i64 x] 3)).grown hg1 (by simp; omega) (fun j hj => (ho3.lt j hj).1)
      obtain ⟨A1, c1, rfl, _, _⟩ := ho1.form
      clear ho3 hg1 hv1
      go_wp2
      go_roundw
      case rel => exact ⟨out ++ [x], HS.out, rfl, by rw [List.length_append] at ho1; exact ho1, hb3⟩
      case measure => simp [intOf]
    · rw [e1] at hi
      subst hi
      have HO := Lib.hid e2
      clear e1 e2
      obtain ⟨OA, oc, rfl, _, _⟩ := hown.form
      go_wp2
      exact bodyPost_ret (v := .tuple #[.slice OA out.length oc, .bool b]) (by simp [results, go_sem]) rfl ⟨_, rfl, by rw [← HO.out]; exact (IntsO.of_own hown).wider hs2 (Nat.le_refl _), hb0.trans (hbel.mono hs2)⟩
end Go.Proofs.Ytjhllgldllbaaaa

/- The program's CoxeterPower and CoxeterOf. -/
namespace Go.Proofs.Ytjhllgldllbaaaa
set_option linter.unusedVariables false
set_option linter.unusedSimpArgs false
open Go.RowKit

/-- a word's reflections, some times over -/
def powGo (q : Qv) (wd : List Int) : List Int → Nat → List Int × Bool
  | x, 0 => (x, true)
  | x, n + 1 => if (wordQ q x wd).2 then powGo q wd (wordQ q x wd).1 n else ([], false)
def coxP (q : Qv) (x : List Int) (n : Int) : List Int × Bool :=
  if (ordQ q).2 && isNum q x && inR n (-40) 40 then powGo q (if n < 0 then (ordQ q).1 else (ordQ q).1.reverse) x n.natAbs else ([], false)
theorem wordGo_no (q : Qv) : ∀ (wd x : List Int), (wordGo q x wd).2 = false → (wordGo q x wd).1 = []
  | [], x, h => by simp [wordGo] at h
  | v :: r, x, h => by
    unfold wordGo at h ⊢
    split
    · rename_i hb; rw [if_pos hb] at h; exact wordGo_no q r _ h
    · rfl
theorem wordQ_no {q : Qv} {x wd : List Int} (h : (wordQ q x wd).2 = false) : wordQ q x wd = ([], false) := by
  have h1 : (wordQ q x wd).1 = [] := by
    unfold wordQ at h ⊢
    split
    · rename_i hb; rw [if_pos hb] at h; exact wordGo_no q wd x h
    · rfl
  generalize wordQ q x wd = p at h h1
  obtain ⟨a, b⟩ := p
  simp only at h h1
  subst h h1
  rfl
theorem powGo_step {q : Qv} {wd x : List Int} {N k : Nat} (h : k < N) : powGo q wd x (N - k) = if (wordQ q x wd).2 then powGo q wd (wordQ q x wd).1 (N - (k + 1)) else ([], false) := by
  rw [show N - k = (N - (k + 1)) + 1 by omega, powGo]


theorem OwnI.form2 {w : World} {base : Nat} {v : Value} {l : List Int} (h : OwnI w base v l) : ∃ A c, v = .slice A l.length c := by
  obtain ⟨A, c, e, _⟩ := h.form
  exact ⟨A, c, e⟩

set_option maxHeartbeats 3200000 in
set_option maxRecDepth 20000 in
theorem implCoxeterPower_any (u : Value) (q : Qv) (xv : Value) (x : List Int) (n : Int) (w : World) (hu : QvR w w.heap.size u q) (hx : SlI w w.heap.size xv x) (hn : I64 n) :
    Calls Try.prog 108 #[u, xv, .int .i64 n] w fun e w' => ∃ r, e = .returned (.tuple #[r, .bool (coxP q x n).2]) ∧ IntsO w' w.heap.size w'.heap.size r (coxP q x n).1 ∧ Below w.heap.size w w' := by
  obtain ⟨A, c, C, d, eu⟩ := hu.form
  subst eu
  obtain ⟨XA, xc, rfl, _, _, lx, hx⟩ := hx.open_
  obtain ⟨W, hW⟩ : ∃ W, W = w.alloc (.cells #[.int .i64 q.v, .slice A q.f.length c, .slice C q.t.length d] 26) := ⟨_, rfl⟩
  have g0 : Below w.heap.size w W := by rw [hW]; exact below_alloc _ _
  have kB : Blk W w.heap.size 26 #[.int .i64 q.v, .slice A q.f.length c, .slice C q.t.length d] := by rw [hW]; exact Blk.new _ _ _
  have hlt0 : w.heap.size < W.heap.size := kB.lt
  have KB := Lib.hid kB
  have c0 := kB.cell' (i := 0) rfl
  have c1 := kB.cell' (i := 1) rfl
  have c2 := kB.cell' (i := 2) rfl
  have h0 := QvR.next g0 hu
  have hx0 := SlI.next g0 hx
  clear hu hx
  obtain ⟨ol, hol⟩ : ∃ l, (ordQ q).1 = l := ⟨_, rfl⟩
  have HOL := Lib.hid hol
  clear hol
  rcases hB1 : (ordQ q).2 with _ | _
  · have hF : Hid (coxP q x n = ([], false)) := by show _ = _; simp [coxP, hB1]
    go_enter Try.func108, Try.ntmps108
    go_wp2_with fail
    rw [← hW]; clear hW
    refine (implCoxeterOrder_any _ q _ h0).mono ?_; rintro e W9 ⟨ov, rfl, hO9, hb9⟩
    rw [HOL.out] at hO9
    obtain ⟨oA, oc, eov⟩ := hO9.1.form2
    subst eov
    rw [List.length_reverse] at hO9
    clear c0 c1 c2
    rw [hB1]
    have kB9 := kB.call hb9
    have c0 := kB9.cell' (i := 0) rfl
    have c1 := kB9.cell' (i := 1) rfl
    have c2 := kB9.cell' (i := 2) rfl
    go_wp2
    exact bodyPost_ret (v := .tuple #[.slice none 0 0, .bool false]) (by simp [results, go_sem]) rfl ⟨_, by rw [hF.out], by rw [hF.out]; exact IntsO.nil_ _ _ _, bthen g0 hb9⟩
  rcases hB2 : isNum q x with _ | _
  · have hF : Hid (coxP q x n = ([], false)) := by show _ = _; simp [coxP, hB2]
    have H2 := Lib.hid hB2
    clear hB2
    go_enter Try.func108, Try.ntmps108
    go_wp2_with fail
    rw [← hW]; clear hW
    refine (implCoxeterOrder_any _ q _ h0).mono ?_; rintro e W9 ⟨ov, rfl, hO9, hb9⟩
    rw [HOL.out] at hO9
    obtain ⟨oA, oc, eov⟩ := hO9.1.form2
    subst eov
    rw [List.length_reverse] at hO9
    clear c0 c1 c2
    rw [hB1]
    have kB9 := kB.call hb9
    have c0 := kB9.cell' (i := 0) rfl
    have c1 := kB9.cell' (i := 1) rfl
    have c2 := kB9.cell' (i := 2) rfl
    go_wp2_with fail
    refine (areNumbers_any _ _ _ _ _ (QvR.next hb9 h0) (SlI.next hb9 hx0)).mono ?_; rintro e w1 ⟨rfl, hb1⟩
    rw [H2.out]
    go_wp2
    exact bodyPost_ret (v := .tuple #[.slice none 0 0, .bool false]) (by simp [results, go_sem]) rfl ⟨_, by rw [hF.out], by rw [hF.out]; exact IntsO.nil_ _ _ _, bthen (bthen g0 hb9) hb1⟩
  rcases hB3 : inR n (-40) 40 with _ | _
  · have hF : Hid (coxP q x n = ([], false)) := by show _ = _; simp [coxP, hB3]
    have H2 := Lib.hid hB2
    have H3 := Lib.hid hB3
    clear hB2 hB3
    go_enter Try.func108, Try.ntmps108
    go_wp2_with fail
    rw [← hW]; clear hW
    refine (implCoxeterOrder_any _ q _ h0).mono ?_; rintro e W9 ⟨ov, rfl, hO9, hb9⟩
    rw [HOL.out] at hO9
    obtain ⟨oA, oc, eov⟩ := hO9.1.form2
    subst eov
    rw [List.length_reverse] at hO9
    clear c0 c1 c2
    rw [hB1]
    have kB9 := kB.call hb9
    have c0 := kB9.cell' (i := 0) rfl
    have c1 := kB9.cell' (i := 1) rfl
    have c2 := kB9.cell' (i := 2) rfl
    go_wp2_with fail
    refine (areNumbers_any _ _ _ _ _ (QvR.next hb9 h0) (SlI.next hb9 hx0)).mono ?_; rintro e w1 ⟨rfl, hb1⟩
    rw [H2.out]
    go_wp2_with fail
    refine (within_any _ _ _ _).mono ?_; rintro e w1 ⟨rfl, rfl⟩
    rw [H3.out]
    go_wp2
    exact bodyPost_ret (v := .tuple #[.slice none 0 0, .bool false]) (by simp [results, go_sem]) rfl ⟨_, by rw [hF.out], by rw [hF.out]; exact IntsO.nil_ _ _ _, bthen (bthen g0 hb9) hb1⟩
  obtain ⟨n1, n2⟩ := inR_t.1 hB3
  have HB := Lib.hid (And.intro hB1 (And.intro hB2 hB3))
  have H2 := Lib.hid hB2
  have H3 := Lib.hid hB3
  clear hB2 hB3
  by_cases hneg : n < 0
  · obtain ⟨N, hN⟩ : ∃ N : Nat, n = -(N : Int) := ⟨n.natAbs, by omega⟩
    subst hN
    have hneg' : ¬ ((N : Int) ≤ -(N : Int)) := by omega
    have hneg2 : -(N : Int) < (N : Int) := by omega
    have HP : Hid (coxP q x (-(N : Int)) = powGo q ol x (N - 0)) := by
      show _ = _
      rw [coxP, HB.out.1, HB.out.2.1, HB.out.2.2, HOL.out, if_pos hneg]
      simp
    go_enter Try.func108, Try.ntmps108
    go_wp2_with fail
    rw [← hW]; clear hW
    refine (implCoxeterOrder_any _ q _ h0).mono ?_; rintro e W9 ⟨ov, rfl, hO9, hb9⟩
    rw [HOL.out] at hO9
    obtain ⟨oA, oc, eov⟩ := hO9.1.form2
    subst eov
    rw [List.length_reverse] at hO9
    clear c0 c1 c2
    rw [hB1]
    have kB9 := kB.call hb9
    have c0 := kB9.cell' (i := 0) rfl
    have c1 := kB9.cell' (i := 1) rfl
    have c2 := kB9.cell' (i := 2) rfl
    go_wp2_with fail
    refine (areNumbers_any _ _ _ _ _ (QvR.next hb9 h0) (SlI.next hb9 hx0)).mono ?_; rintro e w1 ⟨rfl, hb1⟩
    rw [H2.out]
    go_wp2_with fail
    refine (within_any _ _ _ _).mono ?_; rintro e w1 ⟨rfl, rfl⟩
    rw [H3.out]
    go_wp2_with fail
    have hO1 := hO9.below hb1
    refine (reverse_own _ _ W.heap.size _ hO1.1).mono ?_; rintro e w2 ⟨rfl, ho2, hg2⟩
    rw [List.reverse_reverse] at ho2
    have hc2 := chg_of_grown hO1 hg2
    have hO2 : IntsO w2 W.heap.size W9.heap.size (.slice oA ol.length oc) ol := ⟨ho2, hO1.2⟩
    have gW2 : Below W.heap.size W w2 := (bthen hb9 hb1).trans (hc2.below (Nat.le_refl _) (bthen hb9 hb1).size)
    clear hO1 ho2 hg2 hc2 hO9 kB9
    go_wp2_with fail
    refine (clone_own _ x _ (SlI.next gW2 hx0)).mono ?_; rintro e w3 ⟨cv, rfl, hC, hb3⟩
    have gW := bthen gW2 hb3
    have gw : Below w.heap.size w w3 := g0.trans (gW.mono g0.size)
    have gl : w.heap.size ≤ w2.heap.size := by have := gW2.size; omega
    have hOr := hO2.below hb3
    obtain ⟨xA, xc', rfl⟩ := hC.1.form2
    clear hO2 gW2 hb3 hb9 hb1 c0 c1 c2 kB
    go_wp2
    go_loopw [10, 39] (fun a i wr => ∃ (k : Nat) (cur : List Int), k ≤ N ∧ i = .int .i64 k ∧ OwnI wr w.heap.size a cur ∧ Below w.heap.size w wr ∧ Below W.heap.size W wr ∧ IntsO wr W.heap.size W9.heap.size (.slice oA ol.length oc) ol ∧ Hid (coxP q x (-(N : Int)) = powGo q ol cur (N - k))) (fun _ i _ => N - (intOf i).toNat)
    case atStart => exact ⟨0, x, Nat.zero_le _, rfl, hC.1.lower gl, gw, gW, hOr, HP.out⟩
    case round =>
      clear hC gw gW hOr HP
      obtain ⟨k, cur, hk, rfl, hown, hbel, hbW, hord, hR⟩ := hrel
      have kB := KB.out.below hbW hlt0
      have c0 := kB.cell' (i := 0) rfl
      have c1 := kB.cell' (i := 1) rfl
      have c2 := kB.cell' (i := 2) rfl
      obtain ⟨OA, oc', rfl, _, _⟩ := hown.form
      have hbs := hbW.size
      clear kB
      by_cases hlt : k < N
      · have hst := powGo_step (q := q) (wd := ol) (x := cur) hlt
        rw [← hR.out] at hst
        have HST := Lib.hid hst
        clear hst hR
        have HC := implReflectWord_any _ q _ cur _ ol wr (QvR.next hbW h0) hown.rd hord.rd
        obtain ⟨nx, hnx⟩ : ∃ nx, wordQ q cur ol = nx := ⟨_, rfl⟩
        rw [hnx] at HC
        have HNX := Lib.hid hnx
        clear hnx
        obtain ⟨l, B⟩ := nx
        have HC := Lib.hid HC
        cases B
        · have hF : Hid (coxP q x (-(N : Int)) = ([], false)) := by show _ = _; rw [HST.out, HNX.out]; rfl
          go_wp2_with fail
          refine (unhide HC).mono ?_; rintro e w3 ⟨r, rfl, hr3, hb3⟩
          go_wp2
          exact bodyPost_ret (v := .tuple #[.slice none 0 0, .bool false]) (by simp [results, go_sem]) rfl ⟨_, by rw [hF.out], by rw [hF.out]; exact IntsO.nil_ _ _ _, hbel.trans (hb3.mono hbel.size)⟩
        · have hF : Hid (coxP q x (-(N : Int)) = powGo q ol l (N - (k + 1))) := by show _ = _; rw [HST.out, HNX.out]; rfl
          go_wp2_with fail
          refine (unhide HC).mono ?_; rintro e w3 ⟨r, rfl, hr3, hb3⟩
          have hW3 := bthen hbW hb3
          have hb4 := hbel.trans (hb3.mono hbel.size)
          have ho4 := hr3.1.lower hbel.size
          have hord3 := hord.below hb3
          clear hr3 hb3 hord hown
          go_wp2
          go_roundw
          case rel => exact ⟨k + 1, l, by omega, by go_num, ho4, hb4, hW3, hord3, hF.out⟩
          case measure => simp [intOf]; omega
      · have hF : Hid (coxP q x (-(N : Int)) = (cur, true)) := by show _ = _; rw [hR.out, show N - k = 0 by omega, powGo]
        go_wp2
        exact bodyPost_ret (v := .tuple #[.slice OA cur.length oc', .bool true]) (by simp [results, go_sem]) rfl ⟨_, by rw [hF.out], by rw [hF.out]; exact IntsO.of_own hown, hbel⟩
  · obtain ⟨N, hN⟩ : ∃ N : Nat, n = (N : Int) := ⟨n.natAbs, by omega⟩
    subst hN
    have HP : Hid (coxP q x (N : Int) = powGo q ol.reverse x (N - 0)) := by
      show _ = _
      rw [coxP, HB.out.1, HB.out.2.1, HB.out.2.2, HOL.out, if_neg hneg]
      simp
    go_enter Try.func108, Try.ntmps108
    go_wp2_with fail
    rw [← hW]; clear hW
    refine (implCoxeterOrder_any _ q _ h0).mono ?_; rintro e W9 ⟨ov, rfl, hO9, hb9⟩
    rw [HOL.out] at hO9
    obtain ⟨oA, oc, eov⟩ := hO9.1.form2
    subst eov
    rw [List.length_reverse] at hO9
    clear c0 c1 c2
    rw [hB1]
    have kB9 := kB.call hb9
    have c0 := kB9.cell' (i := 0) rfl
    have c1 := kB9.cell' (i := 1) rfl
    have c2 := kB9.cell' (i := 2) rfl
    go_wp2_with fail
    refine (areNumbers_any _ _ _ _ _ (QvR.next hb9 h0) (SlI.next hb9 hx0)).mono ?_; rintro e w1 ⟨rfl, hb1⟩
    rw [H2.out]
    go_wp2_with fail
    refine (within_any _ _ _ _).mono ?_; rintro e w1 ⟨rfl, rfl⟩
    rw [H3.out]
    have hO2 := hO9.below hb1
    have gW2 := bthen hb9 hb1
    go_wp2_with fail
    refine (clone_own _ x _ (SlI.next gW2 hx0)).mono ?_; rintro e w3 ⟨cv, rfl, hC, hb3⟩
    have gW := bthen gW2 hb3
    have gw : Below w.heap.size w w3 := g0.trans (gW.mono g0.size)
    have gl : w.heap.size ≤ w1.heap.size := by have := gW2.size; omega
    have hOr := hO2.below hb3
    obtain ⟨xA, xc', rfl⟩ := hC.1.form2
    clear hO2 gW2 hb3 hb9 hb1 c0 c1 c2 kB hO9 kB9
    go_wp2
    go_loopw [10, 39] (fun a i wr => ∃ (k : Nat) (cur : List Int), k ≤ N ∧ i = .int .i64 k ∧ OwnI wr w.heap.size a cur ∧ Below w.heap.size w wr ∧ Below W.heap.size W wr ∧ IntsO wr W.heap.size W9.heap.size (.slice oA ol.length oc) ol.reverse ∧ Hid (coxP q x (N : Int) = powGo q ol.reverse cur (N - k))) (fun _ i _ => N - (intOf i).toNat)
    case atStart => exact ⟨0, x, Nat.zero_le _, rfl, hC.1.lower gl, gw, gW, hOr, HP.out⟩
    case round =>
      clear hC gw gW hOr HP
      obtain ⟨k, cur, hk, rfl, hown, hbel, hbW, hord, hR⟩ := hrel
      have kB := KB.out.below hbW hlt0
      have c0 := kB.cell' (i := 0) rfl
      have c1 := kB.cell' (i := 1) rfl
      have c2 := kB.cell' (i := 2) rfl
      obtain ⟨OA, oc', rfl, _, _⟩ := hown.form
      have hbs := hbW.size
      clear kB
      by_cases hlt : k < N
      · have hst := powGo_step (q := q) (wd := ol.reverse) (x := cur) hlt
        rw [← hR.out] at hst
        have HST := Lib.hid hst
        clear hst hR
        have HC := implReflectWord_any _ q _ cur _ ol.reverse wr (QvR.next hbW h0) hown.rd hord.rd
        obtain ⟨nx, hnx⟩ : ∃ nx, wordQ q cur ol.reverse = nx := ⟨_, rfl⟩
        rw [hnx] at HC
        have HNX := Lib.hid hnx
        clear hnx
        obtain ⟨l, B⟩ := nx
        have HC := Lib.hid HC
        cases B
        · have hF : Hid (coxP q x (N : Int) = ([], false)) := by show _ = _; rw [HST.out, HNX.out]; rfl
          go_wp2_with fail
          refine (unhide HC).mono ?_; rintro e w3 ⟨r, rfl, hr3, hb3⟩
          go_wp2
          exact bodyPost_ret (v := .tuple #[.slice none 0 0, .bool false]) (by simp [results, go_sem]) rfl ⟨_, by rw [hF.out], by rw [hF.out]; exact IntsO.nil_ _ _ _, hbel.trans (hb3.mono hbel.size)⟩
        · have hF : Hid (coxP q x (N : Int) = powGo q ol.reverse l (N - (k + 1))) := by show _ = _; rw [HST.out, HNX.out]; rfl
          go_wp2_with fail
          refine (unhide HC).mono ?_; rintro e w3 ⟨r, rfl, hr3, hb3⟩
          have hW3 := bthen hbW hb3
          have hb4 := hbel.trans (hb3.mono hbel.size)
          have ho4 := hr3.1.lower hbel.size
          have hord3 := hord.below hb3
          clear hr3 hb3 hord hown
          go_wp2
          go_roundw
          case rel => exact ⟨k + 1, l, by omega, by go_num, ho4, hb4, hW3, hord3, hF.out⟩
          case measure => simp [intOf]; omega
      · have hF : Hid (coxP q x (N : Int) = (cur, true)) := by show _ = _; rw [hR.out, show N - k = 0 by omega, powGo]
        go_wp2
        exact bodyPost_ret (v := .tuple #[.slice OA cur.length oc', .bool true]) (by simp [results, go_sem]) rfl ⟨_, by rw [hF.out], by rw [hF.out]; exact IntsO.of_own hown, hbel⟩

end Go.Proofs.Ytjhllgldllbaaaa

/- The reference's CoxeterPower and CoxeterOf. -/
namespace Go.Proofs.Ytjhllgldllbaaaa
set_option linter.unusedVariables false
set_option linter.unusedSimpArgs false
open Go.RowKit



set_option maxHeartbeats 3200000 in
set_option maxRecDepth 20000 in
theorem specCoxeterPower_any (u : Value) (q : Qv) (xv : Value) (x : List Int) (n : Int) (w : World) (hu : QvR w w.heap.size u q) (hx : SlI w w.heap.size xv x) (hn : I64 n) :
    Calls Try.prog 104 #[u, xv, .int .i64 n] w fun e w' => ∃ r, e = .returned (.tuple #[r, .bool (coxP q x n).2]) ∧ IntsO w' w.heap.size w'.heap.size r (coxP q x n).1 ∧ Below w.heap.size w w' := by
  obtain ⟨A, c, C, d, eu⟩ := hu.form
  subst eu
  obtain ⟨XA, xc, rfl, _, _, lx, hx⟩ := hx.open_
  obtain ⟨W, hW⟩ : ∃ W, W = w.alloc (.cells #[.int .i64 q.v, .slice A q.f.length c, .slice C q.t.length d] 26) := ⟨_, rfl⟩
  have g0 : Below w.heap.size w W := by rw [hW]; exact below_alloc _ _
  have kB : Blk W w.heap.size 26 #[.int .i64 q.v, .slice A q.f.length c, .slice C q.t.length d] := by rw [hW]; exact Blk.new _ _ _
  have hlt0 : w.heap.size < W.heap.size := kB.lt
  have KB := Lib.hid kB
  have c0 := kB.cell' (i := 0) rfl
  have c1 := kB.cell' (i := 1) rfl
  have c2 := kB.cell' (i := 2) rfl
  have h0 := QvR.next g0 hu
  have hx0 := SlI.next g0 hx
  clear hu hx
  obtain ⟨ol, hol⟩ : ∃ l, (ordQ q).1 = l := ⟨_, rfl⟩
  have HOL := Lib.hid hol
  clear hol
  rcases hB1 : (ordQ q).2 with _ | _
  · have hF : Hid (coxP q x n = ([], false)) := by show _ = _; simp [coxP, hB1]
    go_enter Try.func104, Try.ntmps104
    go_wp2_with fail
    rw [← hW]; clear hW
    refine (specCoxeterOrder_any _ q _ h0).mono ?_; rintro e W9 ⟨ov, rfl, hO9, hb9⟩
    rw [HOL.out] at hO9
    obtain ⟨oA, oc, eov⟩ := hO9.1.form2
    subst eov
    rw [List.length_reverse] at hO9
    clear c0 c1 c2
    rw [hB1]
    have kB9 := kB.call hb9
    have c0 := kB9.cell' (i := 0) rfl
    have c1 := kB9.cell' (i := 1) rfl
    have c2 := kB9.cell' (i := 2) rfl
    have g1 := bthen g0 hb9
    go_wp2
    exact bodyPost_ret (v := .tuple #[.slice (some ⟨W9.heap.size, 0, none⟩) 0 0, .bool false]) (by simp [results, go_sem]) rfl ⟨_, by rw [hF.out], by rw [hF.out]; exact IntsO.made_ _ g1.size, g1.alloc g1.size _⟩
  rcases hB3 : inR n (-40) 40 with _ | _
  · have hF : Hid (coxP q x n = ([], false)) := by show _ = _; simp [coxP, hB3]
    have H3 := Lib.hid hB3
    clear hB3
    go_enter Try.func104, Try.ntmps104
    go_wp2_with fail
    rw [← hW]; clear hW
    refine (specCoxeterOrder_any _ q _ h0).mono ?_; rintro e W9 ⟨ov, rfl, hO9, hb9⟩
    rw [HOL.out] at hO9
    obtain ⟨oA, oc, eov⟩ := hO9.1.form2
    subst eov
    rw [List.length_reverse] at hO9
    clear c0 c1 c2
    rw [hB1]
    have kB9 := kB.call hb9
    have c0 := kB9.cell' (i := 0) rfl
    have c1 := kB9.cell' (i := 1) rfl
    have c2 := kB9.cell' (i := 2) rfl
    have g1 := bthen g0 hb9
    go_wp2_with fail
    refine (l1In_any _ _ _ _).mono ?_; rintro e w1 ⟨rfl, rfl⟩
    rw [H3.out]
    go_wp2
    exact bodyPost_ret (v := .tuple #[.slice (some ⟨w1.heap.size, 0, none⟩) 0 0, .bool false]) (by simp [results, go_sem]) rfl ⟨_, by rw [hF.out], by rw [hF.out]; exact IntsO.made_ _ g1.size, g1.alloc g1.size _⟩
  rcases hB2 : isNum q x with _ | _
  · have hF : Hid (coxP q x n = ([], false)) := by show _ = _; simp [coxP, hB2]
    have H2 := Lib.hid hB2
    have H3 := Lib.hid hB3
    clear hB2 hB3
    go_enter Try.func104, Try.ntmps104
    go_wp2_with fail
    rw [← hW]; clear hW
    refine (specCoxeterOrder_any _ q _ h0).mono ?_; rintro e W9 ⟨ov, rfl, hO9, hb9⟩
    rw [HOL.out] at hO9
    obtain ⟨oA, oc, eov⟩ := hO9.1.form2
    subst eov
    rw [List.length_reverse] at hO9
    clear c0 c1 c2
    rw [hB1]
    have kB9 := kB.call hb9
    have c0 := kB9.cell' (i := 0) rfl
    have c1 := kB9.cell' (i := 1) rfl
    have c2 := kB9.cell' (i := 2) rfl
    go_wp2_with fail
    refine (l1In_any _ _ _ _).mono ?_; rintro e w1 ⟨rfl, rfl⟩
    rw [H3.out]
    go_wp2_with fail
    refine (l18Vector_any _ _ _ _ _ (QvR.next hb9 h0) (SlI.next hb9 hx0)).mono ?_; rintro e w1 ⟨rfl, hb1⟩
    rw [H2.out]
    have g1 := bthen (bthen g0 hb9) hb1
    go_wp2
    exact bodyPost_ret (v := .tuple #[.slice (some ⟨w1.heap.size, 0, none⟩) 0 0, .bool false]) (by simp [results, go_sem]) rfl ⟨_, by rw [hF.out], by rw [hF.out]; exact IntsO.made_ _ g1.size, g1.alloc g1.size _⟩
  obtain ⟨n1, n2⟩ := inR_t.1 hB3
  have HB := Lib.hid (And.intro hB1 (And.intro hB2 hB3))
  have H2 := Lib.hid hB2
  have H3 := Lib.hid hB3
  clear hB2 hB3
  by_cases hneg : n < 0
  · obtain ⟨N, hN⟩ : ∃ N : Nat, n = -(N : Int) := ⟨n.natAbs, by omega⟩
    subst hN
    have HP : Hid (coxP q x (-(N : Int)) = powGo q ol x (N - 0)) := by
      show _ = _
      rw [coxP, HB.out.1, HB.out.2.1, HB.out.2.2, HOL.out, if_pos hneg]
      simp
    go_enter Try.func104, Try.ntmps104
    go_wp2_with fail
    rw [← hW]; clear hW
    refine (specCoxeterOrder_any _ q _ h0).mono ?_; rintro e W9 ⟨ov, rfl, hO9, hb9⟩
    rw [HOL.out] at hO9
    obtain ⟨oA, oc, eov⟩ := hO9.1.form2
    subst eov
    rw [List.length_reverse] at hO9
    clear c0 c1 c2
    rw [hB1]
    have kB9 := kB.call hb9
    have c0 := kB9.cell' (i := 0) rfl
    have c1 := kB9.cell' (i := 1) rfl
    have c2 := kB9.cell' (i := 2) rfl
    go_wp2_with fail
    refine (l1In_any _ _ _ _).mono ?_; rintro e w1' ⟨rfl, rfl⟩
    rw [H3.out]
    go_wp2_with fail
    refine (l18Vector_any _ _ _ _ _ (QvR.next hb9 h0) (SlI.next hb9 hx0)).mono ?_; rintro e w1 ⟨rfl, hb1⟩
    rw [H2.out]
    have hO1 := hO9.below hb1
    have gW1 := bthen hb9 hb1
    obtain ⟨L, hL⟩ : ∃ L, L = ol.reverse := ⟨_, rfl⟩
    have HLR : Hid (ol = L.reverse) := by show _ = _; rw [hL, List.reverse_reverse]
    have hLl : ol.length = L.length := by rw [hL, List.length_reverse]
    rw [← hL, hLl] at hO1
    rw [hLl]
    rw [HLR.out] at HP
    have hln := hO1.1.2.1
    clear hO9 kB9 c0 c1 c2 hb9 hb1 hL hLl
    go_wp2
    have ho0 : OwnI (w1.alloc (.cells #[] 3)) w1.heap.size (.slice (some ⟨w1.heap.size, 0, none⟩) 0 0) [] := OwnI.made _ rfl (Nat.le_refl _)
    have hlr : SlI (w1.alloc (.cells #[] 3)) w1.heap.size (.slice oA L.length oc) L := SlI.below ((Below.refl _ _).alloc (Nat.le_refl _) _) hO1.rd
    have hs1 : w1.heap.size ≤ (w1.alloc (.cells #[] 3)).heap.size := by simp
    have gW2 : Below W.heap.size W (w1.alloc (.cells #[] 3)) := gW1.alloc gW1.size _
    have hs2 := gW1.size
    have gl1 : w.heap.size ≤ w1.heap.size := by omega
    clear hO1 gW1
    generalize w1.alloc (.cells #[] 3) = W2 at *
    rw [decide_eq_true (show 0 < N by omega)]
    go_loopw [10, 11] (fun a i wr => ∃ out : List Int, RevSt L (intOf i) out ∧ i = .int .i64 (intOf i) ∧ OwnI wr w1.heap.size a out ∧ Below w1.heap.size W2 wr) (fun _ i _ => (intOf i + 1).toNat)
    case atStart => exact ⟨[], RevSt.start L, rfl, ho0, Below.refl _ _⟩
    case round =>
      obtain ⟨out, hst, hi, hown, hbel⟩ := hrel
      clear ho0
      rcases hst with ⟨j, hj, e1, e2⟩ | ⟨e1, e2⟩
      · rw [e1] at hi
        subst hi
        have HO := Lib.hid e2
        clear e1 e2
        obtain ⟨b0, o, y, rfl, hb, HX, x1, hx1, hx2⟩ := SlI.at_ hlr hj
        have x2 := bcell hbel hb x1
        obtain ⟨OA, oc2, rfl, _, _⟩ := hown.form
        have ho3 := hown.alloc (.cells #[.int .i64 y] 3)
        have HS : Hid (RevSt L ((j : Int) - 1) (out ++ [y])) := RevSt.step HX.out HO.out
        have hol : Hid (out.length + 1 ≤ L.length) := by show _ ≤ _; rw [HO.out]; simp; omega
        clear x1
        have hsr := hbel.size
        (go_wp2_with (at_builtin; refine Hold.stop ?_)); unfold Hold

        refine wpList_appI rfl (.tmp 45) (.tmp 50) rfl w1.heap.size _ (.slice OA out.length oc2) out rfl ho3 _ _ _ [y] rfl rfl (SlI.one wr _ y ⟨hx1, hx2⟩) (by have := hol.out; simp; omega) (by simp; omega) ?_
        intro v1 w3 ho1 hg1 hv1
        have hb3 := (hbel.alloc (by omega) (.cells #[.int .i64 y] 3)).grown hg1 (by simp; omega) (fun j hj => (ho3.lt j hj).1)
        obtain ⟨A1, c1, rfl, _, _⟩ := ho1.form
        clear ho3 hg1 hv1
        go_wp2
        go_roundw
        case rel => exact ⟨out ++ [y], HS.out, rfl, by rw [List.length_append] at ho1; exact ho1, hb3⟩
        case measure => simp [intOf]
      · rw [e1] at hi
        subst hi
        clear e1
        subst e2
        obtain ⟨oA, oc, rfl, _, _⟩ := hown.form
        rw [List.length_reverse] at hown
        have gW2 := gW2.trans (hbel.mono hs2)
        have hO2 := IntsO.of_own hown
        have hs4 := hbel.size
        have kB := kB.below gW2 hlt0
        have c0 := kB.cell' (i := 0) rfl
        have c1 := kB.cell' (i := 1) rfl
        have c2 := kB.cell' (i := 2) rfl
        clear hown hbel hlr hln hs1
        (go_wp2_with (at_builtin; refine Hold.stop ?_)); unfold Hold

        have hoe : OwnI (wr.alloc (.cells #[] 3)) wr.heap.size (.slice (some ⟨wr.heap.size, 0, none⟩) 0 0) [] := OwnI.made _ rfl (Nat.le_refl _)
        refine wpList_appI rfl (.tmp 55) (.tmp 56) rfl wr.heap.size wr.heap.size (.slice (some ⟨wr.heap.size, 0, none⟩) 0 0) [] rfl hoe _ _ _ x rfl rfl (SlI.below (below_alloc _ _) (SlI.next gW2 hx0)) (by simp; omega) (by simp) ?_
        intro v1 w3 hC hg2 hvv
        rw [List.nil_append] at hC
        have hb3 : Below wr.heap.size wr w3 := ((Below.refl _ _).alloc (Nat.le_refl _) (.cells #[] 3)).grown hg2 (by simp) (fun j hj => (hoe.lt j hj).1)
        have gW := bthen gW2 hb3
        have gw : Below w.heap.size w w3 := g0.trans (gW.mono g0.size)
        have gl : w.heap.size ≤ wr.heap.size := by have := gW2.size; omega
        clear hoe hg2 hvv
        have hOr := hO2.below hb3
        obtain ⟨HI, hHI⟩ : ∃ n, n = wr.heap.size := ⟨_, rfl⟩
        rw [← hHI] at hOr
        obtain ⟨xA, xc', rfl, _, _⟩ := hC.form
        clear hO2 gW2 hb3 c0 c1 c2 kB hHI
        go_wp2
        go_loopw [12, 13] (fun a i wr => ∃ (k : Nat) (cur : List Int), k ≤ N ∧ i = .int .i64 k ∧ OwnI wr w.heap.size a cur ∧ Below w.heap.size w wr ∧ Below W.heap.size W wr ∧ IntsO wr w1.heap.size HI (.slice oA L.length oc) L.reverse ∧ Hid (coxP q x (-(N : Int)) = powGo q L.reverse cur (N - k))) (fun _ i _ => N - (intOf i).toNat)
        case atStart => exact ⟨0, x, Nat.zero_le _, rfl, hC.lower gl, gw, gW, hOr, HP.out⟩
        case round =>
          clear hC gw gW hOr HP
          obtain ⟨k, cur, hk, rfl, hown, hbel, hbW, hord, hR⟩ := hrel
          have kB := KB.out.below hbW hlt0
          have c0 := kB.cell' (i := 0) rfl
          have c1 := kB.cell' (i := 1) rfl
          have c2 := kB.cell' (i := 2) rfl
          obtain ⟨OA, oc', rfl, _, _⟩ := hown.form
          have hbs := hbW.size
          clear kB
          by_cases hlt : k < N
          · have hst := powGo_step (q := q) (wd := L.reverse) (x := cur) hlt
            rw [← hR.out] at hst
            have HST := Lib.hid hst
            clear hst hR
            have HC := specReflectWord_any _ q _ cur _ L.reverse wr (QvR.next hbW h0) hown.rd hord.rd
            obtain ⟨nx, hnx⟩ : ∃ nx, wordQ q cur L.reverse = nx := ⟨_, rfl⟩
            rw [hnx] at HC
            have HNX := Lib.hid hnx
            clear hnx
            obtain ⟨l, B⟩ := nx
            have HC := Lib.hid HC
            cases B
            · have hF : Hid (coxP q x (-(N : Int)) = ([], false)) := by show _ = _; rw [HST.out, HNX.out]; rfl
              go_wp2_with fail
              refine (unhide HC).mono ?_; rintro e w3 ⟨r, rfl, hr3, hb3⟩
              have hb4 := hbel.trans (hb3.mono hbel.size)
              go_wp2
              exact bodyPost_ret (v := .tuple #[.slice (some ⟨w3.heap.size, 0, none⟩) 0 0, .bool false]) (by simp [results, go_sem]) rfl ⟨_, by rw [hF.out], by rw [hF.out]; exact IntsO.made_ _ hb4.size, hb4.alloc hb4.size _⟩
            · have hF : Hid (coxP q x (-(N : Int)) = powGo q L.reverse l (N - (k + 1))) := by show _ = _; rw [HST.out, HNX.out]; rfl
              go_wp2_with fail
              refine (unhide HC).mono ?_; rintro e w3 ⟨r, rfl, hr3, hb3⟩
              have hW3 := bthen hbW hb3
              have hb4 := hbel.trans (hb3.mono hbel.size)
              have ho4 := hr3.1.lower hbel.size
              have hord3 := hord.below hb3
              clear hr3 hb3 hord hown
              go_wp2
              go_roundw
              case rel => exact ⟨k + 1, l, by omega, by go_num, ho4, hb4, hW3, hord3, hF.out⟩
              case measure => simp [intOf]; omega
          · have hF : Hid (coxP q x (-(N : Int)) = (cur, true)) := by show _ = _; rw [hR.out, show N - k = 0 by omega, powGo]
            go_wp2
            exact bodyPost_ret (v := .tuple #[.slice OA cur.length oc', .bool true]) (by simp [results, go_sem]) rfl ⟨_, by rw [hF.out], by rw [hF.out]; exact IntsO.of_own hown, hbel⟩
  · obtain ⟨N, hN⟩ : ∃ N : Nat, n = (N : Int) := ⟨n.natAbs, by omega⟩
    subst hN
    have HP : Hid (coxP q x (N : Int) = powGo q ol.reverse x (N - 0)) := by
      show _ = _
      rw [coxP, HB.out.1, HB.out.2.1, HB.out.2.2, HOL.out, if_neg hneg]
      simp
    go_enter Try.func104, Try.ntmps104
    go_wp2_with fail
    rw [← hW]; clear hW
    refine (specCoxeterOrder_any _ q _ h0).mono ?_; rintro e W9 ⟨ov, rfl, hO9, hb9⟩
    rw [HOL.out] at hO9
    obtain ⟨oA, oc, eov⟩ := hO9.1.form2
    subst eov
    rw [List.length_reverse] at hO9
    clear c0 c1 c2
    rw [hB1]
    have kB9 := kB.call hb9
    have c0 := kB9.cell' (i := 0) rfl
    have c1 := kB9.cell' (i := 1) rfl
    have c2 := kB9.cell' (i := 2) rfl
    go_wp2_with fail
    refine (l1In_any _ _ _ _).mono ?_; rintro e w1' ⟨rfl, rfl⟩
    rw [H3.out]
    go_wp2_with fail
    refine (l18Vector_any _ _ _ _ _ (QvR.next hb9 h0) (SlI.next hb9 hx0)).mono ?_; rintro e w1 ⟨rfl, hb1⟩
    rw [H2.out]
    have hO2 := hO9.below hb1
    have gW2 := bthen hb9 hb1
    clear hO9 kB9 c0 c1 c2 hb9 hb1
    (go_wp2_with (at_builtin; refine Hold.stop ?_)); unfold Hold

    have hoe : OwnI (w1.alloc (.cells #[] 3)) w1.heap.size (.slice (some ⟨w1.heap.size, 0, none⟩) 0 0) [] := OwnI.made _ rfl (Nat.le_refl _)
    refine wpList_appI rfl (.tmp 55) (.tmp 56) rfl w1.heap.size w1.heap.size (.slice (some ⟨w1.heap.size, 0, none⟩) 0 0) [] rfl hoe _ _ _ x rfl rfl (SlI.below (below_alloc _ _) (SlI.next gW2 hx0)) (by simp; omega) (by simp) ?_
    intro v1 w3 hC hg2 hvv
    rw [List.nil_append] at hC
    have hb3 : Below w1.heap.size w1 w3 := ((Below.refl _ _).alloc (Nat.le_refl _) (.cells #[] 3)).grown hg2 (by simp) (fun j hj => (hoe.lt j hj).1)
    have gW := bthen gW2 hb3
    have gw : Below w.heap.size w w3 := g0.trans (gW.mono g0.size)
    have gl : w.heap.size ≤ w1.heap.size := by have := gW2.size; omega
    clear hoe hg2 hvv
    have hOr := hO2.below hb3
    obtain ⟨xA, xc', rfl, _, _⟩ := hC.form
    clear hO2 gW2 hb3 kB
    go_wp2
    go_loopw [12, 13] (fun a i wr => ∃ (k : Nat) (cur : List Int), k ≤ N ∧ i = .int .i64 k ∧ OwnI wr w.heap.size a cur ∧ Below w.heap.size w wr ∧ Below W.heap.size W wr ∧ IntsO wr W.heap.size w1'.heap.size (.slice oA ol.length oc) ol.reverse ∧ Hid (coxP q x (N : Int) = powGo q ol.reverse cur (N - k))) (fun _ i _ => N - (intOf i).toNat)
    case atStart => exact ⟨0, x, Nat.zero_le _, rfl, hC.lower gl, gw, gW, hOr, HP.out⟩
    case round =>
      clear hC gw gW hOr HP
      obtain ⟨k, cur, hk, rfl, hown, hbel, hbW, hord, hR⟩ := hrel
      have kB := KB.out.below hbW hlt0
      have c0 := kB.cell' (i := 0) rfl
      have c1 := kB.cell' (i := 1) rfl
      have c2 := kB.cell' (i := 2) rfl
      obtain ⟨OA, oc', rfl, _, _⟩ := hown.form
      have hbs := hbW.size
      clear kB
      by_cases hlt : k < N
      · have hst := powGo_step (q := q) (wd := ol.reverse) (x := cur) hlt
        rw [← hR.out] at hst
        have HST := Lib.hid hst
        clear hst hR
        have HC := specReflectWord_any _ q _ cur _ ol.reverse wr (QvR.next hbW h0) hown.rd hord.rd
        obtain ⟨nx, hnx⟩ : ∃ nx, wordQ q cur ol.reverse = nx := ⟨_, rfl⟩
        rw [hnx] at HC
        have HNX := Lib.hid hnx
        clear hnx
        obtain ⟨l, B⟩ := nx
        have HC := Lib.hid HC
        cases B
        · have hF : Hid (coxP q x (N : Int) = ([], false)) := by show _ = _; rw [HST.out, HNX.out]; rfl
          go_wp2_with fail
          refine (unhide HC).mono ?_; rintro e w3 ⟨r, rfl, hr3, hb3⟩
          have hb4 := hbel.trans (hb3.mono hbel.size)
          go_wp2
          exact bodyPost_ret (v := .tuple #[.slice (some ⟨w3.heap.size, 0, none⟩) 0 0, .bool false]) (by simp [results, go_sem]) rfl ⟨_, by rw [hF.out], by rw [hF.out]; exact IntsO.made_ _ hb4.size, hb4.alloc hb4.size _⟩
        · have hF : Hid (coxP q x (N : Int) = powGo q ol.reverse l (N - (k + 1))) := by show _ = _; rw [HST.out, HNX.out]; rfl
          go_wp2_with fail
          refine (unhide HC).mono ?_; rintro e w3 ⟨r, rfl, hr3, hb3⟩
          have hW3 := bthen hbW hb3
          have hb4 := hbel.trans (hb3.mono hbel.size)
          have ho4 := hr3.1.lower hbel.size
          have hord3 := hord.below hb3
          clear hr3 hb3 hord hown
          go_wp2
          go_roundw
          case rel => exact ⟨k + 1, l, by omega, by go_num, ho4, hb4, hW3, hord3, hF.out⟩
          case measure => simp [intOf]; omega
      · have hF : Hid (coxP q x (N : Int) = (cur, true)) := by show _ = _; rw [hR.out, show N - k = 0 by omega, powGo]
        go_wp2
        exact bodyPost_ret (v := .tuple #[.slice OA cur.length oc', .bool true]) (by simp [results, go_sem]) rfl ⟨_, by rw [hF.out], by rw [hF.out]; exact IntsO.of_own hown, hbel⟩

theorem coxP_one {q : Qv} {x : List Int} : coxP q x 1 = if (ordQ q).2 then wordQ q x (ordQ q).1.reverse else ([], false) := by
  rcases h : (ordQ q).2 with _ | _
  · simp [coxP, h]
  · have e : coxP q x 1 = if isNum q x then powGo q (ordQ q).1.reverse x 1 else ([], false) := by
      unfold coxP
      rw [h]
      cases isNum q x <;> rfl
    rw [e, if_pos rfl]
    rcases h1 : isNum q x with _ | _
    · simp [wordQ, h1]
    · rw [if_pos rfl, powGo]
      rcases h2 : (wordQ q x (ordQ q).1.reverse).2 with _ | _
      · rw [wordQ_no h2]; rfl
      · rw [if_pos rfl, powGo, ← h2]

end Go.Proofs.Ytjhllgldllbaaaa

/- Fields, vectors, matrices, dimensions: the tests of both sides. -/
namespace Go.Proofs.Ytjhllgldllbaaaa
set_option linter.unusedVariables false
set_option linter.unusedSimpArgs false
open Go.RowKit

def isFld (p : Int) : Bool := decide (p = 2 ∨ p = 3 ∨ p = 5)
theorem isFld_t {p : Int} : isFld p = true ↔ p = 2 ∨ p = 3 ∨ p = 5 := by simp [isFld]
theorem isFld_f {p : Int} : isFld p = false ↔ p ≠ 2 ∧ p ≠ 3 ∧ p ≠ 5 := by simp [isFld]
theorem isFld_r {p : Int} (h : isFld p = true) : 2 ≤ p ∧ p ≤ 5 := by have := isFld_t.1 h; omega
def isVec (p : Int) (v : List Int) : Bool := isFld p && decide (v.length ≤ 64) && allR v 0 (p - 1)
theorem isVec_t {p : Int} {v : List Int} : isVec p v = true ↔ isFld p = true ∧ v.length ≤ 64 ∧ ∀ x ∈ v, 0 ≤ x ∧ x ≤ p - 1 := by
  simp only [isVec, Bool.and_eq_true, decide_eq_true_eq, allR_t, and_assoc]
def isMat (p : Int) (m : Mx) : Bool := inR m.r 0 8 && inR m.c 0 8 && decide ((m.a.length : Int) = m.r * m.c) && isVec p m.a
theorem isMat_t {p : Int} {m : Mx} : isMat p m = true ↔ (0 ≤ m.r ∧ m.r ≤ 8) ∧ (0 ≤ m.c ∧ m.c ≤ 8) ∧ (m.a.length : Int) = m.r * m.c ∧ isVec p m.a = true := by
  simp only [isMat, Bool.and_eq_true, inR_t, decide_eq_true_eq, and_assoc]
def areDims (q : Qv) (d : List Int) : Bool := isQ q && decide ((d.length : Int) = q.v) && allR d 0 4 && decide (d.sum ≤ 8)
theorem areDims_t {q : Qv} {d : List Int} : areDims q d = true ↔ isQ q = true ∧ (d.length : Int) = q.v ∧ (∀ x ∈ d, 0 ≤ x ∧ x ≤ 4) ∧ d.sum ≤ 8 := by
  simp only [areDims, Bool.and_eq_true, decide_eq_true_eq, allR_t, and_assoc]
theorem mul_bd {a b : Int} (ha : 0 ≤ a ∧ a ≤ 8) (hb : 0 ≤ b ∧ b ≤ 8) : 0 ≤ a * b ∧ a * b ≤ 64 := by
  obtain ⟨n, rfl⟩ := Int.eq_ofNat_of_zero_le ha.1
  obtain ⟨m, rfl⟩ := Int.eq_ofNat_of_zero_le hb.1
  have h1 : n * m ≤ 8 * 8 := Nat.mul_le_mul (by omega) (by omega)
  have e : (n : Int) * m = ((n * m : Nat) : Int) := by simp
  rw [e]
  omega

theorem implIsField_any (p : Int) (w : World) : Calls Try.prog 63 #[.int .i64 p] w fun e w' => e = .returned (.bool (isFld p)) ∧ w' = w := by
  by_cases h2 : p = 2
  · subst h2
    go_enter Try.func63, Try.ntmps63
    go_wp2
    go_ret
    exact ⟨rfl, rfl⟩
  by_cases h3 : p = 3
  · subst h3
    go_enter Try.func63, Try.ntmps63
    go_wp2
    go_ret
    exact ⟨rfl, rfl⟩
  by_cases h5 : p = 5
  · subst h5
    go_enter Try.func63, Try.ntmps63
    go_wp2
    go_ret
    exact ⟨rfl, rfl⟩
  have e : isFld p = false := isFld_f.2 ⟨h2, h3, h5⟩
  have e2 : (p == 2) = false := by rw [beq_eq_false_iff_ne]; exact h2
  have e3 : (p == 3) = false := by rw [beq_eq_false_iff_ne]; exact h3
  have e5 : (p == 5) = false := by rw [beq_eq_false_iff_ne]; exact h5
  rw [e]
  clear e h2 h3 h5
  go_enter Try.func63, Try.ntmps63
  go_wp2
  go_ret
  exact ⟨rfl, rfl⟩
theorem specIsField_any (p : Int) (w : World) : Calls Try.prog 59 #[.int .i64 p] w fun e w' => e = .returned (.bool (isFld p)) ∧ w' = w := by
  by_cases h2 : p = 2
  · subst h2
    go_enter Try.func59, Try.ntmps59
    go_wp2
    go_ret
    exact ⟨rfl, rfl⟩
  by_cases h3 : p = 3
  · subst h3
    go_enter Try.func59, Try.ntmps59
    go_wp2
    go_ret
    exact ⟨rfl, rfl⟩
  by_cases h5 : p = 5
  · subst h5
    go_enter Try.func59, Try.ntmps59
    go_wp2
    go_ret
    exact ⟨rfl, rfl⟩
  have e : isFld p = false := isFld_f.2 ⟨h2, h3, h5⟩
  have e2 : (p == 2) = false := by rw [beq_eq_false_iff_ne]; exact h2
  have e3 : (p == 3) = false := by rw [beq_eq_false_iff_ne]; exact h3
  have e5 : (p == 5) = false := by rw [beq_eq_false_iff_ne]; exact h5
  rw [e]
  clear e h2 h3 h5
  go_enter Try.func59, Try.ntmps59
  go_wp2
  go_ret
  exact ⟨rfl, rfl⟩

theorem implIsVector_any (p : Int) (u : Value) (v : List Int) (w : World) (hu : SlI w w.heap.size u v) :
    Calls Try.prog 208 #[.int .i64 p, u] w fun e w' => e = .returned (.bool (isVec p v)) ∧ Below w.heap.size w w' := by
  have hv := hu
  obtain ⟨A, c, rfl, _, _, _, _⟩ := hu.open_
  clear hu
  unfold isVec
  rcases h1 : isFld p with _ | _
  · go_enter Try.func208, Try.ntmps208
    go_wp2_with fail
    refine (implIsField_any _ _).mono ?_; rintro e w' ⟨rfl, rfl⟩
    rw [h1]
    go_wp2
    go_ret
    exact ⟨rfl, Below.refl _ _⟩
  have hp := isFld_r h1
  by_cases h2 : v.length ≤ 64
  · have e2 : decide (v.length ≤ 64) = true := by simpa using h2
    rw [e2]
    clear e2
    obtain ⟨B, hB⟩ : ∃ B, allR v 0 (p - 1) = B := ⟨_, rfl⟩
    rw [hB]
    have HB := Lib.hid hB
    clear hB
    go_enter Try.func208, Try.ntmps208
    go_wp2_with fail
    refine (implIsField_any _ _).mono ?_; rintro e w' ⟨rfl, rfl⟩
    rw [h1]
    go_wp2_with fail
    refine (allWithin_any _ v _ _ _ hv).mono ?_; rintro e w1 ⟨rfl, hb1⟩
    rw [HB.out]
    go_wp2
    go_ret
    exact ⟨rfl, hb1⟩
  · have e2 : decide (v.length ≤ 64) = false := by simpa using h2
    have e2' : ¬ ((v.length : Int) ≤ 64) := by omega
    rw [e2]
    clear e2
    go_enter Try.func208, Try.ntmps208
    go_wp2_with fail
    refine (implIsField_any _ _).mono ?_; rintro e w' ⟨rfl, rfl⟩
    rw [h1]
    go_wp2
    go_ret
    exact ⟨rfl, Below.refl _ _⟩

theorem allR_end {v : List Int} {lo hi : Int} {k : Nat} (h : ∀ x ∈ v.take k, inR x lo hi = true) (hk : v.length ≤ k) : allR v lo hi = true := by
  rw [List.take_of_length_le hk] at h
  simpa [allR] using h
theorem allR_bad {v : List Int} {lo hi x : Int} {k : Nat} (h : v[k]? = some x) (hx : inR x lo hi = false) : allR v lo hi = false := by
  rw [Bool.eq_false_iff]
  intro h2
  have := List.all_eq_true.1 h2 x (List.mem_of_getElem? h)
  rw [hx] at this
  cases this
theorem allR_step {v : List Int} {lo hi x : Int} {k : Nat} (h : ∀ x ∈ v.take k, inR x lo hi = true) (hx : v[k]? = some x) (h2 : inR x lo hi = true) : ∀ x ∈ v.take (k + 1), inR x lo hi = true := by
  intro y hy
  rw [take_snoc hx, List.mem_append, List.mem_singleton] at hy
  rcases hy with hy | rfl
  · exact h y hy
  · exact h2

set_option maxHeartbeats 400000 in
theorem specIsVector_any (p : Int) (u : Value) (v : List Int) (w : World) (hu : SlI w w.heap.size u v) :
    Calls Try.prog 207 #[.int .i64 p, u] w fun e w' => e = .returned (.bool (isVec p v)) ∧ Below w.heap.size w w' := by
  obtain ⟨A, c, rfl, _, _, _, hv⟩ := hu.open_
  clear hu
  unfold isVec
  rcases h1 : isFld p with _ | _
  · go_enter Try.func207, Try.ntmps207
    go_wp2_with fail
    refine (specIsField_any _ _).mono ?_; rintro e w ⟨rfl, rfl⟩
    rw [h1]
    go_wp2
    go_ret
    exact ⟨rfl, Below.refl _ _⟩
  have hp := isFld_r h1
  by_cases h2 : v.length ≤ 64
  · have e2 : decide (v.length ≤ 64) = true := by simpa using h2
    have e2' : ¬ ((64 : Int) < v.length) := by omega
    rw [e2]
    clear e2
    go_enter Try.func207, Try.ntmps207
    go_wp2_with fail
    refine (specIsField_any _ _).mono ?_; rintro e w ⟨rfl, rfl⟩
    rw [h1]
    go_wp2
    go_loopw [5] (fun i wr => ∃ k : Nat, k ≤ v.length ∧ i = .int .i64 k ∧ Below w.heap.size w wr ∧ Hid (∀ x ∈ v.take k, inR x 0 (p - 1) = true)) (fun i _ => v.length - (intOf i).toNat)
    case atStart => exact ⟨0, Nat.zero_le _, rfl, Below.refl _ _, by show ∀ x ∈ _, _; simp⟩
    case round =>
      obtain ⟨k, hk, rfl, hbel, hall⟩ := hrel
      by_cases hlt : k < v.length
      · obtain ⟨b, o, x, rfl, hb, HX, x1, _⟩ := SlI.at_ hv hlt
        have x2 := bcell hbel hb x1
        clear x1 hv
        rcases h3 : inR x 0 (p - 1) with _ | _
        · have HF := Lib.hid (allR_bad HX.out h3)
          have H3 := Lib.hid h3
          clear h3
          go_wp2_with fail
          refine (l1In_any _ _ _ _).mono ?_; rintro e w ⟨rfl, rfl⟩
          rw [H3.out]
          go_wp2
          go_ret
          exact ⟨by rw [HF.out]; rfl, hbel⟩
        · have HS := Lib.hid (allR_step hall.out HX.out h3)
          have H3 := Lib.hid h3
          clear h3
          go_wp2_with fail
          refine (l1In_any _ _ _ _).mono ?_; rintro e w ⟨rfl, rfl⟩
          rw [H3.out]
          go_wp2
          go_roundw
          case rel => exact ⟨k + 1, by omega, by go_num, hbel, HS.out⟩
          case measure => simp [intOf]; omega
      · have HF := Lib.hid (allR_end hall.out (by omega))
        go_wp2
        go_ret
        exact ⟨by rw [HF.out]; rfl, hbel⟩
  · have e2 : decide (v.length ≤ 64) = false := by simpa using h2
    have e2' : (64 : Int) < v.length := by omega
    rw [e2]
    clear e2
    go_enter Try.func207, Try.ntmps207
    go_wp2_with fail
    refine (specIsField_any _ _).mono ?_; rintro e w ⟨rfl, rfl⟩
    rw [h1]
    go_wp2
    go_ret
    exact ⟨rfl, Below.refl _ _⟩

set_option maxHeartbeats 800000 in
theorem implIsMatrix_any (p : Int) (u : Value) (m : Mx) (w : World) (hu : MxR w w.heap.size u m) :
    Calls Try.prog 182 #[.int .i64 p, u] w fun e w' => e = .returned (.bool (isMat p m)) ∧ Below w.heap.size w w' := by
  obtain ⟨A, c, rfl, hf, _, _, lf⟩ := hu.open_
  clear hu
  obtain ⟨W, hW⟩ : ∃ W, W = w.alloc (.cells #[.int .i64 m.r, .int .i64 m.c, .slice A m.a.length c] 75) := ⟨_, rfl⟩
  have g0 : Below w.heap.size w W := by rw [hW]; exact below_alloc _ _
  have kB : Blk W w.heap.size 75 #[.int .i64 m.r, .int .i64 m.c, .slice A m.a.length c] := by rw [hW]; exact Blk.new _ _ _
  have c0 := kB.cell' (i := 0) rfl
  have c1 := kB.cell' (i := 1) rfl
  have c2 := kB.cell' (i := 2) rfl
  replace hf := SlI.next g0 hf
  unfold isMat
  rcases h1 : inR m.r 0 8 with _ | _
  · go_enter Try.func182, Try.ntmps182
    go_wp2_with fail
    rw [← hW]; clear hW
    refine (within_any _ _ _ _).mono ?_; rintro e w' ⟨rfl, rfl⟩
    rw [h1]
    go_wp2
    go_ret
    exact ⟨rfl, g0⟩
  have b1 := inR_t.1 h1
  rcases h2 : inR m.c 0 8 with _ | _
  · go_enter Try.func182, Try.ntmps182
    go_wp2_with fail
    rw [← hW]; clear hW
    refine (within_any _ _ _ _).mono ?_; rintro e w' ⟨rfl, rfl⟩
    rw [h1]
    go_wp2_with fail
    refine (within_any _ _ _ _).mono ?_; rintro e w' ⟨rfl, rfl⟩
    rw [h2]
    go_wp2
    go_ret
    exact ⟨rfl, g0⟩
  have b2 := inR_t.1 h2
  have b3 := mul_bd b1 b2
  obtain ⟨b11, b12⟩ := b1
  obtain ⟨b21, b22⟩ := b2
  obtain ⟨b31, b32⟩ := b3
  rcases h3 : decide ((m.a.length : Int) = m.r * m.c) with _ | _
  · have e3 : ((m.a.length : Int) == m.r * m.c) = false := by rw [beq_eq_false_iff_ne]; exact of_decide_eq_false h3
    clear h3
    go_enter Try.func182, Try.ntmps182
    go_wp2_with fail
    rw [← hW]; clear hW
    refine (within_any _ _ _ _).mono ?_; rintro e w' ⟨rfl, rfl⟩
    rw [h1]
    go_wp2_with fail
    refine (within_any _ _ _ _).mono ?_; rintro e w' ⟨rfl, rfl⟩
    rw [h2]
    go_wp2
    go_ret
    exact ⟨rfl, g0⟩
  have e3 : ((m.a.length : Int) == m.r * m.c) = true := by rw [beq_iff_eq]; exact of_decide_eq_true h3
  clear h3
  obtain ⟨B, hB⟩ : ∃ B, isVec p m.a = B := ⟨_, rfl⟩
  rw [hB]
  have HB := Lib.hid hB
  clear hB
  go_enter Try.func182, Try.ntmps182
  go_wp2_with fail
  rw [← hW]; clear hW
  refine (within_any _ _ _ _).mono ?_; rintro e w' ⟨rfl, rfl⟩
  rw [h1]
  go_wp2_with fail
  refine (within_any _ _ _ _).mono ?_; rintro e w' ⟨rfl, rfl⟩
  rw [h2]
  go_wp2_with fail
  refine (implIsVector_any _ _ m.a _ hf).mono ?_; rintro e w1 ⟨rfl, hb1⟩
  rw [HB.out]
  go_wp2
  go_ret
  exact ⟨rfl, bthen g0 hb1⟩
set_option maxHeartbeats 800000 in
theorem specIsMatrix_any (p : Int) (u : Value) (m : Mx) (w : World) (hu : MxR w w.heap.size u m) :
    Calls Try.prog 180 #[.int .i64 p, u] w fun e w' => e = .returned (.bool (isMat p m)) ∧ Below w.heap.size w w' := by
  obtain ⟨A, c, rfl, hf, _, _, lf⟩ := hu.open_
  clear hu
  obtain ⟨W, hW⟩ : ∃ W, W = w.alloc (.cells #[.int .i64 m.r, .int .i64 m.c, .slice A m.a.length c] 75) := ⟨_, rfl⟩
  have g0 : Below w.heap.size w W := by rw [hW]; exact below_alloc _ _
  have kB : Blk W w.heap.size 75 #[.int .i64 m.r, .int .i64 m.c, .slice A m.a.length c] := by rw [hW]; exact Blk.new _ _ _
  have c0 := kB.cell' (i := 0) rfl
  have c1 := kB.cell' (i := 1) rfl
  have c2 := kB.cell' (i := 2) rfl
  replace hf := SlI.next g0 hf
  unfold isMat
  rcases h1 : inR m.r 0 8 with _ | _
  · go_enter Try.func180, Try.ntmps180
    go_wp2_with fail
    rw [← hW]; clear hW
    refine (l1In_any _ _ _ _).mono ?_; rintro e w' ⟨rfl, rfl⟩
    rw [h1]
    go_wp2
    go_ret
    exact ⟨rfl, g0⟩
  have b1 := inR_t.1 h1
  rcases h2 : inR m.c 0 8 with _ | _
  · go_enter Try.func180, Try.ntmps180
    go_wp2_with fail
    rw [← hW]; clear hW
    refine (l1In_any _ _ _ _).mono ?_; rintro e w' ⟨rfl, rfl⟩
    rw [h1]
    go_wp2_with fail
    refine (l1In_any _ _ _ _).mono ?_; rintro e w' ⟨rfl, rfl⟩
    rw [h2]
    go_wp2
    go_ret
    exact ⟨rfl, g0⟩
  have b2 := inR_t.1 h2
  have b3 := mul_bd b1 b2
  obtain ⟨b11, b12⟩ := b1
  obtain ⟨b21, b22⟩ := b2
  obtain ⟨b31, b32⟩ := b3
  rcases h3 : decide ((m.a.length : Int) = m.r * m.c) with _ | _
  · have e3 : ((m.a.length : Int) == m.r * m.c) = false := by rw [beq_eq_false_iff_ne]; exact of_decide_eq_false h3
    clear h3
    go_enter Try.func180, Try.ntmps180
    go_wp2_with fail
    rw [← hW]; clear hW
    refine (l1In_any _ _ _ _).mono ?_; rintro e w' ⟨rfl, rfl⟩
    rw [h1]
    go_wp2_with fail
    refine (l1In_any _ _ _ _).mono ?_; rintro e w' ⟨rfl, rfl⟩
    rw [h2]
    go_wp2
    go_ret
    exact ⟨rfl, g0⟩
  have e3 : ((m.a.length : Int) == m.r * m.c) = true := by rw [beq_iff_eq]; exact of_decide_eq_true h3
  clear h3
  obtain ⟨B, hB⟩ : ∃ B, isVec p m.a = B := ⟨_, rfl⟩
  rw [hB]
  have HB := Lib.hid hB
  clear hB
  go_enter Try.func180, Try.ntmps180
  go_wp2_with fail
  rw [← hW]; clear hW
  refine (l1In_any _ _ _ _).mono ?_; rintro e w' ⟨rfl, rfl⟩
  rw [h1]
  go_wp2_with fail
  refine (l1In_any _ _ _ _).mono ?_; rintro e w' ⟨rfl, rfl⟩
  rw [h2]
  go_wp2_with fail
  refine (specIsVector_any _ _ m.a _ hf).mono ?_; rintro e w1 ⟨rfl, hb1⟩
  rw [HB.out]
  go_wp2
  go_ret
  exact ⟨rfl, bthen g0 hb1⟩
end Go.Proofs.Ytjhllgldllbaaaa

/- Dimensions and representations: the tests of both sides. -/
namespace Go.Proofs.Ytjhllgldllbaaaa
set_option linter.unusedVariables false
set_option linter.unusedSimpArgs false
open Go.RowKit

theorem sumW_dims {d : List Int} (h : ∀ x ∈ d, 0 ≤ x ∧ x ≤ 4) (hl : d.length ≤ 5) : sumW d = d.sum ∧ 0 ≤ d.sum ∧ d.sum ≤ 20 := by
  obtain ⟨h1, h2, h3⟩ := sumW_small d 0 4 (by omega) (by omega) h (by omega) (by omega)
  exact ⟨h1, by omega, by omega⟩
theorem sum_bd : ∀ (l : List Int), (∀ x ∈ l, 0 ≤ x ∧ x ≤ 4) → 0 ≤ l.sum ∧ l.sum ≤ 4 * l.length
  | [], _ => by simp
  | a :: l, h => by
    have := sum_bd l (fun x hx => h x (by simp [hx]))
    have := h a (by simp)
    simp only [List.sum_cons, List.length_cons]
    omega
theorem sum_take_le (d : List Int) (k : Nat) (h : ∀ x ∈ d.take k, 0 ≤ x ∧ x ≤ 4) : 0 ≤ (d.take k).sum ∧ (d.take k).sum ≤ 4 * k := by
  have h1 := sum_bd _ h
  have h2 : (d.take k).length ≤ k := List.length_take_le _ _
  omega

set_option maxHeartbeats 800000 in
theorem implAreDims_any (u xv : Value) (q : Qv) (d : List Int) (w : World) (hu : QvR w w.heap.size u q) (hx : SlI w w.heap.size xv d) :
    Calls Try.prog 181 #[u, xv] w fun e w' => e = .returned (.bool (areDims q d)) ∧ Below w.heap.size w w' := by
  obtain ⟨A, c, C, d', eu⟩ := hu.form
  subst eu
  have lx := hx
  obtain ⟨XA, xc, rfl, _, _, lx, _⟩ := lx.open_
  obtain ⟨W, hW⟩ : ∃ W, W = w.alloc (.cells #[.int .i64 q.v, .slice A q.f.length c, .slice C q.t.length d'] 26) := ⟨_, rfl⟩
  have g0 : Below w.heap.size w W := by rw [hW]; exact below_alloc _ _
  have kB : Blk W w.heap.size 26 #[.int .i64 q.v, .slice A q.f.length c, .slice C q.t.length d'] := by rw [hW]; exact Blk.new _ _ _
  have c0 := kB.cell' (i := 0) rfl
  have c1 := kB.cell' (i := 1) rfl
  have c2 := kB.cell' (i := 2) rfl
  replace hu := QvR.next g0 hu
  replace hx := SlI.next g0 hx
  unfold areDims
  rcases hq : isQ q with _ | _
  · go_enter Try.func181, Try.ntmps181
    go_wp2_with fail
    rw [← hW]; clear hW
    refine (implIsQuiver_any _ _ _ hu).mono ?_; rintro e w1 ⟨rfl, hb1⟩
    rw [hq]
    clear hu
    replace g0 := bthen g0 hb1
    replace hx := SlI.next hb1 hx
    replace kB := kB.call hb1
    replace c0 := kB.cell' (i := 0) rfl
    replace c1 := kB.cell' (i := 1) rfl
    replace c2 := kB.cell' (i := 2) rfl
    clear hb1
    go_wp2
    go_ret
    exact ⟨rfl, g0⟩
  obtain ⟨hv1, hv2⟩ := (isQ_t.1 hq).1
  rcases h2 : decide ((d.length : Int) = q.v) with _ | _
  · have e2 : ((d.length : Int) == q.v) = false := by rw [beq_eq_false_iff_ne]; exact of_decide_eq_false h2
    clear h2
    go_enter Try.func181, Try.ntmps181
    go_wp2_with fail
    rw [← hW]; clear hW
    refine (implIsQuiver_any _ _ _ hu).mono ?_; rintro e w1 ⟨rfl, hb1⟩
    rw [hq]
    clear hu
    replace g0 := bthen g0 hb1
    replace hx := SlI.next hb1 hx
    replace kB := kB.call hb1
    replace c0 := kB.cell' (i := 0) rfl
    replace c1 := kB.cell' (i := 1) rfl
    replace c2 := kB.cell' (i := 2) rfl
    clear hb1
    go_wp2
    go_ret
    exact ⟨rfl, g0⟩
  have e2 : ((d.length : Int) == q.v) = true := by rw [beq_iff_eq]; exact of_decide_eq_true h2
  have hl5 : d.length ≤ 5 := by have := of_decide_eq_true h2; omega
  clear h2
  rcases h3 : allR d 0 4 with _ | _
  · have H3 := Lib.hid h3
    clear h3
    go_enter Try.func181, Try.ntmps181
    go_wp2_with fail
    rw [← hW]; clear hW
    refine (implIsQuiver_any _ _ _ hu).mono ?_; rintro e w1 ⟨rfl, hb1⟩
    rw [hq]
    clear hu
    replace g0 := bthen g0 hb1
    replace hx := SlI.next hb1 hx
    replace kB := kB.call hb1
    replace c0 := kB.cell' (i := 0) rfl
    replace c1 := kB.cell' (i := 1) rfl
    replace c2 := kB.cell' (i := 2) rfl
    clear hb1
    go_wp2_with fail
    refine (allWithin_any _ d _ _ _ hx).mono ?_; rintro e w_1 ⟨rfl, hb_1⟩
    replace g0 := bthen g0 hb_1
    replace hx := SlI.next hb_1 hx
    replace kB := kB.call hb_1
    replace c0 := kB.cell' (i := 0) rfl
    replace c1 := kB.cell' (i := 1) rfl
    replace c2 := kB.cell' (i := 2) rfl
    rw [H3.out]
    go_wp2
    go_ret
    exact ⟨rfl, g0⟩
  obtain ⟨s1, s2, s3⟩ := sumW_dims (allR_t.1 h3) hl5
  have H3 := Lib.hid h3
  have H1 := Lib.hid s1
  clear h3 s1
  obtain ⟨s, hs⟩ : ∃ s, d.sum = s := ⟨_, rfl⟩
  rw [hs] at H1 s2 s3 ⊢
  clear hs
  go_enter Try.func181, Try.ntmps181
  go_wp2_with fail
  rw [← hW]; clear hW
  refine (implIsQuiver_any _ _ _ hu).mono ?_; rintro e w1 ⟨rfl, hb1⟩
  rw [hq]
  clear hu
  replace g0 := bthen g0 hb1
  replace hx := SlI.next hb1 hx
  replace kB := kB.call hb1
  replace c0 := kB.cell' (i := 0) rfl
  replace c1 := kB.cell' (i := 1) rfl
  replace c2 := kB.cell' (i := 2) rfl
  clear hb1
  go_wp2_with fail
  refine (allWithin_any _ d _ _ _ hx).mono ?_; rintro e w_2 ⟨rfl, hb_2⟩
  replace g0 := bthen g0 hb_2
  replace hx := SlI.next hb_2 hx
  replace kB := kB.call hb_2
  replace c0 := kB.cell' (i := 0) rfl
  replace c1 := kB.cell' (i := 1) rfl
  replace c2 := kB.cell' (i := 2) rfl
  rw [H3.out]
  go_wp2_with fail
  refine (sumOf_any _ d _ hx).mono ?_; rintro e w2 ⟨rfl, rfl⟩
  rw [H1.out]
  go_wp2
  go_ret
  exact ⟨by simp, g0⟩

set_option maxHeartbeats 800000 in
theorem specAreDims_any (u xv : Value) (q : Qv) (d : List Int) (w : World) (hu : QvR w w.heap.size u q) (hx : SlI w w.heap.size xv d) :
    Calls Try.prog 179 #[u, xv] w fun e w' => e = .returned (.bool (areDims q d)) ∧ Below w.heap.size w w' := by
  obtain ⟨A, c, C, d', eu⟩ := hu.form
  subst eu
  have lx := hx
  obtain ⟨XA, xc, rfl, _, _, lx, _⟩ := lx.open_
  obtain ⟨W, hW⟩ : ∃ W, W = w.alloc (.cells #[.int .i64 q.v, .slice A q.f.length c, .slice C q.t.length d'] 26) := ⟨_, rfl⟩
  have g0 : Below w.heap.size w W := by rw [hW]; exact below_alloc _ _
  have kB : Blk W w.heap.size 26 #[.int .i64 q.v, .slice A q.f.length c, .slice C q.t.length d'] := by rw [hW]; exact Blk.new _ _ _
  have c0 := kB.cell' (i := 0) rfl
  have c1 := kB.cell' (i := 1) rfl
  have c2 := kB.cell' (i := 2) rfl
  replace hu := QvR.next g0 hu
  replace hx := SlI.next g0 hx
  unfold areDims
  rcases hq : isQ q with _ | _
  · go_enter Try.func179, Try.ntmps179
    go_wp2_with fail
    rw [← hW]; clear hW
    refine (specIsQuiver_any _ _ _ hu).mono ?_; rintro e w1 ⟨rfl, hb1⟩
    rw [hq]
    clear hu
    replace g0 := bthen g0 hb1
    replace hx := SlI.next hb1 hx
    replace kB := kB.call hb1
    replace c0 := kB.cell' (i := 0) rfl
    replace c1 := kB.cell' (i := 1) rfl
    replace c2 := kB.cell' (i := 2) rfl
    clear hb1
    go_wp2
    go_ret
    exact ⟨rfl, g0⟩
  obtain ⟨hv1, hv2⟩ := (isQ_t.1 hq).1
  rcases h2 : decide ((d.length : Int) = q.v) with _ | _
  · have e2 : ((d.length : Int) != q.v) = true := by rw [bne_iff_ne]; exact of_decide_eq_false h2
    clear h2
    go_enter Try.func179, Try.ntmps179
    go_wp2_with fail
    rw [← hW]; clear hW
    refine (specIsQuiver_any _ _ _ hu).mono ?_; rintro e w1 ⟨rfl, hb1⟩
    rw [hq]
    clear hu
    replace g0 := bthen g0 hb1
    replace hx := SlI.next hb1 hx
    replace kB := kB.call hb1
    replace c0 := kB.cell' (i := 0) rfl
    replace c1 := kB.cell' (i := 1) rfl
    replace c2 := kB.cell' (i := 2) rfl
    clear hb1
    go_wp2
    go_ret
    exact ⟨rfl, g0⟩
  have e2 : ((d.length : Int) != q.v) = false := by rw [bne_eq_false_iff_eq]; exact of_decide_eq_true h2
  have hl5 : d.length ≤ 5 := by have := of_decide_eq_true h2; omega
  clear h2
  go_enter Try.func179, Try.ntmps179
  go_wp2_with fail
  rw [← hW]; clear hW
  refine (specIsQuiver_any _ _ _ hu).mono ?_; rintro e w1 ⟨rfl, hb1⟩
  rw [hq]
  clear hu
  replace g0 := bthen g0 hb1
  replace hx := SlI.next hb1 hx
  replace kB := kB.call hb1
  replace c0 := kB.cell' (i := 0) rfl
  replace c1 := kB.cell' (i := 1) rfl
  replace c2 := kB.cell' (i := 2) rfl
  clear hb1
  go_wp2
  go_loopw [5, 6] (fun n i wr => ∃ k : Nat, k ≤ d.length ∧ i = .int .i64 k ∧ n = .int .i64 (d.take k).sum ∧ wr = w1 ∧ Hid (∀ x ∈ d.take k, inR x 0 4 = true)) (fun _ i _ => d.length - (intOf i).toNat)
  case atStart => exact ⟨0, Nat.zero_le _, rfl, by simp, rfl, by show ∀ x ∈ _, _; simp⟩
  case round =>
    obtain ⟨k, hk, rfl, rfl, rfl, hall⟩ := hrel
    have hsm := sum_take_le d k (fun x hx => inR_t.1 (hall.out x hx))
    obtain ⟨hs1, hs2⟩ := hsm
    obtain ⟨s, hs⟩ : ∃ s, (d.take k).sum = s := ⟨_, rfl⟩
    rw [hs] at hs1 hs2 ⊢
    have HS := Lib.hid hs
    clear hs
    by_cases hlt : k < d.length
    · obtain ⟨b, o, x, rfl, hb, HX, x1, _⟩ := SlI.at_ hx hlt
      clear hx
      rcases h3 : inR x 0 4 with _ | _
      · have HF := Lib.hid (allR_bad HX.out h3)
        have H3 := Lib.hid h3
        clear h3
        go_wp2_with fail
        refine (l1In_any _ _ _ _).mono ?_; rintro e w' ⟨rfl, rfl⟩
        rw [H3.out]
        go_wp2
        go_ret
        exact ⟨by rw [HF.out]; rfl, g0⟩
      · have HT := Lib.hid (allR_step hall.out HX.out h3)
        have HSU := Lib.hid (show (d.take (k + 1)).sum = s + x by rw [take_snoc HX.out, List.sum_append, HS.out]; simp)
        obtain ⟨x3, x4⟩ := inR_t.1 h3
        have H3 := Lib.hid h3
        clear h3
        go_wp2_with fail
        refine (l1In_any _ _ _ _).mono ?_; rintro e w' ⟨rfl, rfl⟩
        rw [H3.out]
        go_wp2
        go_roundw
        case rel => exact ⟨k + 1, by omega, by go_num, by rw [HSU.out], trivial, HT.out⟩
        case measure => simp [intOf]; omega
    · have HF := Lib.hid (allR_end hall.out (by omega))
      have HE := Lib.hid (show d.sum = s by rw [← HS.out, List.take_of_length_le (by omega)])
      go_wp2
      go_ret
      exact ⟨by rw [HF.out, HE.out]; simp, g0⟩

/-! ### representations -/
def dAt (d : List Int) (v : Int) : Int := d.getD v.toNat 0
def okM (x : Rp) (m : Mx) (f t : Int) : Bool := isMat x.p m && decide (m.c = dAt x.d f) && decide (m.r = dAt x.d t)
def okMs (x : Rp) (k : Nat) : Bool := (List.range k).all fun i => okM x (x.m.getD i ⟨0, 0, []⟩) (x.q.f.getD i 0) (x.q.t.getD i 0)
def isRep (x : Rp) : Bool := isFld x.p && areDims x.q x.d && decide (x.m.length = x.q.f.length) && okMs x x.m.length
theorem okMs_succ {x : Rp} {k : Nat} {m : Mx} {f t : Int} (hm : x.m[k]? = some m) (hf : x.q.f[k]? = some f) (ht : x.q.t[k]? = some t) : okMs x (k + 1) = (okMs x k && okM x m f t) := by
  simp [okMs, List.range_succ, List.getD_eq_getElem?_getD, hm, hf, ht]
theorem okMs_mono {x : Rp} {k n : Nat} (h : okMs x k = false) (hk : k ≤ n) : okMs x n = false := by
  simp only [okMs, List.all_eq_false, List.mem_range] at h ⊢
  obtain ⟨i, hi, h⟩ := h
  exact ⟨i, by omega, h⟩
theorem dAt_of {d : List Int} {n : Nat} {y : Int} (h : d[n]? = some y) : dAt d (n : Int) = y := by
  simp [dAt, List.getD_eq_getElem?_getD, h]
/-- what a round of IsRep meets -/
theorem rep_at {x : Rp} (hq : areDims x.q x.d = true) {k : Nat} (hk : k < x.q.f.length) : ∃ (nf nt : Nat) (yf yt : Int), x.q.f[k]? = some (nf : Int) ∧ x.q.t[k]? = some (nt : Int) ∧ x.d[nf]? = some yf ∧ x.d[nt]? = some yt ∧ nf < x.d.length ∧ nt < x.d.length ∧ nf ≤ 5 ∧ nt ≤ 5 ∧ k < x.q.t.length := by
  obtain ⟨h1, h2, h3, h4⟩ := areDims_t.1 hq
  obtain ⟨hv, hl, h6, hf, ht⟩ := isQ_t.1 h1
  have ef := List.getElem?_eq_getElem hk
  have et := List.getElem?_eq_getElem (show k < x.q.t.length by omega)
  have bf := hf _ (List.mem_of_getElem? ef)
  have bt := ht _ (List.mem_of_getElem? et)
  obtain ⟨nf, enf⟩ := Int.eq_ofNat_of_zero_le bf.1
  obtain ⟨nt, ent⟩ := Int.eq_ofNat_of_zero_le bt.1
  rw [enf] at ef bf
  rw [ent] at et bt
  exact ⟨nf, nt, x.d[nf]'(by omega), x.d[nt]'(by omega), ef, et, List.getElem?_eq_getElem _, List.getElem?_eq_getElem _, by omega, by omega, by omega, by omega, by omega⟩
end Go.Proofs.Ytjhllgldllbaaaa

/- The two IsRep. -/
namespace Go.Proofs.Ytjhllgldllbaaaa
set_option linter.unusedVariables false
set_option linter.unusedSimpArgs false
open Go.RowKit

theorem QvR.sl {w : World} {B n m a c : Nat} {v : Int} {A C : Option Addr} {q : Qv} (h : QvR w B (.agg #[.int .i64 v, .slice A n a, .slice C m c]) q) : SlI w B (.slice A n a) q.f ∧ SlI w B (.slice C m c) q.t := by
  obtain ⟨s, t, e, h1, h2, _⟩ := h
  simp only [Value.agg.injEq, Array.mk.injEq, List.cons.injEq, and_true] at e
  obtain ⟨_, rfl, rfl⟩ := e
  exact ⟨h1, h2⟩


set_option maxHeartbeats 3200000 in
set_option maxRecDepth 100000 in
theorem implIsRep_any (u : Value) (x : Rp) (w : World) (hu : RpR w w.heap.size u x) :
    Calls Try.prog 117 #[u] w fun e w' => e = .returned (.bool (isRep x)) ∧ Below w.heap.size w w' := by
  obtain ⟨A, a, C, c, E, e, H, h, rfl, hq, hd, hm, hp, ld, lm⟩ := hu.open_
  clear hu
  obtain ⟨W, hW⟩ : ∃ W, W = w.alloc (.cells #[.int .i64 x.p, .int .i64 x.q.v, .slice A x.q.f.length a, .slice C x.q.t.length c, .slice E x.d.length e, .slice H x.m.length h] 29) := ⟨_, rfl⟩
  have g0 : Below w.heap.size w W := by rw [hW]; exact below_alloc _ _
  have kB : Blk W w.heap.size 29 #[.int .i64 x.p, .int .i64 x.q.v, .slice A x.q.f.length a, .slice C x.q.t.length c, .slice E x.d.length e, .slice H x.m.length h] := by rw [hW]; exact Blk.new _ _ _
  have c0 := kB.cell' (i := 0) rfl
  have c1 := kB.cell' (i := 1) rfl
  have c2 := kB.cell' (i := 2) rfl
  have c3 := kB.cell' (i := 3) rfl
  have c4 := kB.cell' (i := 4) rfl
  have c5 := kB.cell' (i := 5) rfl
  replace hq := QvR.next g0 hq
  replace hd := SlI.next g0 hd
  replace hm := SlM.next g0 hm
  unfold isRep
  rcases h1 : isFld x.p with _ | _
  · go_enter Try.func117, Try.ntmps117
    go_wp2_with fail
    rw [← hW]; clear hW
    refine (implIsField_any _ _).mono ?_; rintro e w1 ⟨rfl, rfl⟩
    rw [h1]
    go_wp2
    go_ret
    exact ⟨rfl, g0⟩
  rcases h2 : areDims x.q x.d with _ | _
  · have H2 := Lib.hid h2
    clear h2
    go_enter Try.func117, Try.ntmps117
    go_wp2_with fail
    rw [← hW]; clear hW
    refine (implIsField_any _ _).mono ?_; rintro e w1 ⟨rfl, rfl⟩
    rw [h1]
    go_wp2_with fail
    refine (implAreDims_any _ _ _ _ _ hq hd).mono ?_; rintro e w_1 ⟨rfl, hb_1⟩
    replace g0 := bthen g0 hb_1
    replace hq := QvR.next hb_1 hq
    replace hd := SlI.next hb_1 hd
    replace hm := SlM.next hb_1 hm
    replace kB := kB.call hb_1
    replace c0 := kB.cell' (i := 0) rfl
    replace c1 := kB.cell' (i := 1) rfl
    replace c2 := kB.cell' (i := 2) rfl
    replace c3 := kB.cell' (i := 3) rfl
    replace c4 := kB.cell' (i := 4) rfl
    replace c5 := kB.cell' (i := 5) rfl
    rw [H2.out]
    go_wp2
    go_ret
    exact ⟨rfl, g0⟩
  obtain ⟨lf, lt⟩ := hq.lens
  rcases h3 : decide (x.m.length = x.q.f.length) with _ | _
  · have e3 : ((x.m.length : Int) != x.q.f.length) = true := by rw [bne_iff_ne]; have := of_decide_eq_false h3; omega
    have H2 := Lib.hid h2
    clear h2 h3
    go_enter Try.func117, Try.ntmps117
    go_wp2_with fail
    rw [← hW]; clear hW
    refine (implIsField_any _ _).mono ?_; rintro e w1 ⟨rfl, rfl⟩
    rw [h1]
    go_wp2_with fail
    refine (implAreDims_any _ _ _ _ _ hq hd).mono ?_; rintro e w_2 ⟨rfl, hb_2⟩
    replace g0 := bthen g0 hb_2
    replace hq := QvR.next hb_2 hq
    replace hd := SlI.next hb_2 hd
    replace hm := SlM.next hb_2 hm
    replace kB := kB.call hb_2
    replace c0 := kB.cell' (i := 0) rfl
    replace c1 := kB.cell' (i := 1) rfl
    replace c2 := kB.cell' (i := 2) rfl
    replace c3 := kB.cell' (i := 3) rfl
    replace c4 := kB.cell' (i := 4) rfl
    replace c5 := kB.cell' (i := 5) rfl
    rw [H2.out]
    go_wp2
    go_ret
    exact ⟨rfl, g0⟩
  have e3 : ((x.m.length : Int) != x.q.f.length) = false := by rw [bne_eq_false_iff_eq]; have := of_decide_eq_true h3; omega
  have H3 := Lib.hid (of_decide_eq_true h3)
  have H2 := Lib.hid h2
  clear h2 h3
  go_enter Try.func117, Try.ntmps117
  go_wp2_with fail
  rw [← hW]; clear hW
  refine (implIsField_any _ _).mono ?_; rintro e w1 ⟨rfl, rfl⟩
  rw [h1]
  go_wp2_with fail
  refine (implAreDims_any _ _ _ _ _ hq hd).mono ?_; rintro e W1 ⟨rfl, hb0⟩
  replace g0 := bthen g0 hb0
  replace hq := QvR.next hb0 hq
  replace hd := SlI.next hb0 hd
  replace hm := SlM.next hb0 hm
  replace kB := kB.call hb0
  replace c0 := kB.cell' (i := 0) rfl
  replace c1 := kB.cell' (i := 1) rfl
  replace c2 := kB.cell' (i := 2) rfl
  replace c3 := kB.cell' (i := 3) rfl
  replace c4 := kB.cell' (i := 4) rfl
  replace c5 := kB.cell' (i := 5) rfl
  clear hb0
  rw [H2.out]
  obtain ⟨hf, ht⟩ := hq.sl
  clear hq
  go_wp2
  go_loopw [30] (fun i wr => ∃ k : Nat, k ≤ x.m.length ∧ i = .int .i64 k ∧ Below W1.heap.size W1 wr ∧ Hid (okMs x k = true)) (fun i _ => x.m.length - (intOf i).toNat)
  case atStart => exact ⟨0, Nat.zero_le _, rfl, Below.refl _ _, rfl⟩
  case round =>
    obtain ⟨k, hk, rfl, hbel, hok⟩ := hrel
    clear c0 c1 c2 c3 c4 c5
    have z5 := (kB.call hbel).cell' (i := 5) rfl
    by_cases hlt : k < x.m.length
    · have hkf : k < x.q.f.length := by have := H3.out; omega
      obtain ⟨nf, nt, yf, yt, ef, et, df, dt, lnf, lnt, lnf5, lnt5, hkt⟩ := rep_at H2.out hkf
      obtain ⟨b, o, m, A', c', rfl, hb, HX, x1, x2, x3, hsl, i1, i2, lml⟩ := SlM.at_ hm hlt
      obtain ⟨bf, of_, xf, rfl, hbf, HXF, f1, _⟩ := SlI.at_ hf hkf
      obtain ⟨bt, ot, xt, rfl, hbt, HXT, t1, _⟩ := SlI.at_ ht hkt
      obtain ⟨bd, od, xdf, rfl, hbd, HXDF, d1, ddf⟩ := SlI.at_ hd lnf
      obtain ⟨bd', od', xdt, ebd, hbd', HXDT, d2, ddt⟩ := SlI.at_ hd lnt
      injection ebd with ebd
      injection ebd with ebd1 ebd2
      subst ebd1 ebd2
      have q1 := HXF.out
      rw [ef] at q1
      injection q1 with q1
      subst q1
      have q2 := HXT.out
      rw [et] at q2
      injection q2 with q2
      subst q2
      have hsucc := okMs_succ HX.out ef et
      rw [hok.out, Bool.true_and, okM, dAt_of HXDF.out, dAt_of HXDT.out] at hsucc
      have HSU := Lib.hid hsucc
      clear hsucc HXDF HXDT HXF HXT ef et df dt hf ht hd hm
      obtain ⟨Wx, hWx⟩ : ∃ W, W = wr.alloc (.cells #[.int .i64 m.r, .int .i64 m.c, .slice A' m.a.length c'] 75) := ⟨_, rfl⟩
      have gx : Below W1.heap.size W1 Wx := by rw [hWx]; exact hbel.trans ((below_alloc _ _).mono hbel.size)
      have kM : Blk Wx wr.heap.size 75 #[.int .i64 m.r, .int .i64 m.c, .slice A' m.a.length c'] := by rw [hWx]; exact Blk.new _ _ _
      have m0 := fun s : InB Wx => (kM.call s.below).cell' (i := 0) rfl
      have m1 := fun s : InB Wx => (kM.call s.below).cell' (i := 1) rfl
      have m2 := fun s : InB Wx => (kM.call s.below).cell' (i := 2) rfl
      have hx1 := bcell hbel hb x1
      have hx2 := bcell hbel hb x2
      have hx3 := bcell hbel hb x3
      clear kM
      have gx1 := gx.size
      have hF := InB.cell (w := Wx) (by omega) (bcell gx hbf f1)
      have hT := InB.cell (w := Wx) (by omega) (bcell gx hbt t1)
      have hD1 := InB.cell (w := Wx) (by omega) (bcell gx hbd d1)
      have hD2 := InB.cell (w := Wx) (by omega) (bcell gx hbd d2)
      have kBx := kB.call gx
      have r0 := fun s : InB Wx => (kBx.call s.below).cell' (i := 0) rfl
      have r2 := fun s : InB Wx => (kBx.call s.below).cell' (i := 2) rfl
      have r3 := fun s : InB Wx => (kBx.call s.below).cell' (i := 3) rfl
      have r4 := fun s : InB Wx => (kBx.call s.below).cell' (i := 4) rfl
      have r5 := fun s : InB Wx => (kBx.call s.below).cell' (i := 5) rfl
      have HM : Hid (∀ s : InB Wx, MxR s.val s.val.heap.size (.agg #[.int .i64 m.r, .int .i64 m.c, .slice A' m.a.length c']) m) := fun s => ⟨_, rfl, SlI.next s.below (SlI.next gx hsl), i1, i2⟩
      have g1 := bthen g0 gx
      have HGX := Lib.hid gx
      have HG1 := Lib.hid g1
      clear x1 x2 x3 f1 t1 d1 d2 hsl i1 i2 kB kBx gx g1 g0
      have a1 : (0 : Int) ≤ (k : Int) := by omega
      have a2 : (k : Int) < x.q.f.length := by omega
      have a3 : (k : Int) < x.q.t.length := by omega
      have a4 : (0 : Int) ≤ (nf : Int) := by omega
      have a5 : (nf : Int) < x.d.length := by omega
      have a6 : (0 : Int) ≤ (nt : Int) := by omega
      have a7 : (nt : Int) < x.d.length := by omega
      have a8 : (k : Int) < x.m.length := by omega
      rcases h4 : isMat x.p m with _ | _
      · have HF := Lib.hid (okMs_mono (x := x) (k := k + 1) (n := x.m.length) (by rw [HSU.out, h4]; rfl) (by omega))
        go_wp2
        rw [← hWx]; clear hWx
        (refine wp_region_inB (by kernel_rfl) (by kernel_rfl) ?_; (repeat (go_big_quiet_step ((go_at_call 182; exact InB.call (implIsMatrix_any _ _ m _ (HM.out _)))))); refine wpQuiet_nil ?_; intro w1 hw'; obtain ⟨s1, hw1⟩ := hw'; have hb1 := s1.below; rw [← hw1] at hb1; clear hw1 s1)
        go_wp2
        go_ret
        exact ⟨by rw [HF.out]; rfl, bthen HG1.out hb1⟩
      rcases h5 : decide (m.c = xdf) with _ | _
      · have HF := Lib.hid (okMs_mono (x := x) (k := k + 1) (n := x.m.length) (by rw [HSU.out, h5]; simp) (by omega))
        have e5 : (m.c != xdf) = true := by rw [bne_iff_ne]; exact of_decide_eq_false h5
        clear h5
        go_wp2
        rw [← hWx]; clear hWx
        (refine wp_region_inB (by kernel_rfl) (by kernel_rfl) ?_; (repeat (go_big_quiet_step ((go_at_call 182; exact InB.call (implIsMatrix_any _ _ m _ (HM.out _)))))); refine wpQuiet_nil ?_; intro w1 hw'; obtain ⟨s1, hw1⟩ := hw'; have hb1 := s1.below; rw [← hw1] at hb1; clear hw1 s1)
        go_wp2
        go_ret
        exact ⟨by rw [HF.out]; rfl, bthen HG1.out hb1⟩
      have e5 : (m.c != xdf) = false := by rw [bne_eq_false_iff_eq]; exact of_decide_eq_true h5
      rcases h6 : decide (m.r = xdt) with _ | _
      · have HF := Lib.hid (okMs_mono (x := x) (k := k + 1) (n := x.m.length) (by rw [HSU.out, h6]; simp) (by omega))
        have e6 : (m.r != xdt) = true := by rw [bne_iff_ne]; exact of_decide_eq_false h6
        clear h5 h6
        go_wp2
        rw [← hWx]; clear hWx
        (refine wp_region_inB (by kernel_rfl) (by kernel_rfl) ?_; (repeat (go_big_quiet_step ((go_at_call 182; exact InB.call (implIsMatrix_any _ _ m _ (HM.out _)))))); refine wpQuiet_nil ?_; intro w1 hw'; obtain ⟨s1, hw1⟩ := hw'; have hb1 := s1.below; rw [← hw1] at hb1; clear hw1 s1)
        go_wp2
        go_ret
        exact ⟨by rw [HF.out]; rfl, bthen HG1.out hb1⟩
      have e6 : (m.r != xdt) = false := by rw [bne_eq_false_iff_eq]; exact of_decide_eq_true h6
      have HF := Lib.hid (show okMs x (k + 1) = true by rw [HSU.out, h4, h5, h6]; rfl)
      clear h5 h6
      go_wp2
      rw [← hWx]; clear hWx
      (refine wp_region_inB (by kernel_rfl) (by kernel_rfl) ?_; (repeat (go_big_quiet_step ((go_at_call 182; exact InB.call (implIsMatrix_any _ _ m _ (HM.out _)))))); refine wpQuiet_nil ?_; intro w1 hw'; obtain ⟨s1, hw1⟩ := hw'; have hb1 := s1.below; rw [← hw1] at hb1; clear hw1 s1)
      go_wp2
      go_roundw
      case rel => exact ⟨k + 1, by omega, by go_num, bthen HGX.out hb1, HF.out⟩
      case measure => simp [intOf]; omega
    · have HF := Lib.hid (show okMs x x.m.length = true by have := hok.out; rwa [show k = x.m.length by omega] at this)
      have g1 := bthen g0 hbel
      go_wp2
      go_ret
      exact ⟨by rw [HF.out]; rfl, g1⟩
set_option maxHeartbeats 3200000 in
set_option maxRecDepth 100000 in
theorem specIsRep_any (u : Value) (x : Rp) (w : World) (hu : RpR w w.heap.size u x) :
    Calls Try.prog 114 #[u] w fun e w' => e = .returned (.bool (isRep x)) ∧ Below w.heap.size w w' := by
  obtain ⟨A, a, C, c, E, e, H, h, rfl, hq, hd, hm, hp, ld, lm⟩ := hu.open_
  clear hu
  obtain ⟨W, hW⟩ : ∃ W, W = w.alloc (.cells #[.int .i64 x.p, .int .i64 x.q.v, .slice A x.q.f.length a, .slice C x.q.t.length c, .slice E x.d.length e, .slice H x.m.length h] 29) := ⟨_, rfl⟩
  have g0 : Below w.heap.size w W := by rw [hW]; exact below_alloc _ _
  have kB : Blk W w.heap.size 29 #[.int .i64 x.p, .int .i64 x.q.v, .slice A x.q.f.length a, .slice C x.q.t.length c, .slice E x.d.length e, .slice H x.m.length h] := by rw [hW]; exact Blk.new _ _ _
  have c0 := kB.cell' (i := 0) rfl
  have c1 := kB.cell' (i := 1) rfl
  have c2 := kB.cell' (i := 2) rfl
  have c3 := kB.cell' (i := 3) rfl
  have c4 := kB.cell' (i := 4) rfl
  have c5 := kB.cell' (i := 5) rfl
  replace hq := QvR.next g0 hq
  replace hd := SlI.next g0 hd
  replace hm := SlM.next g0 hm
  unfold isRep
  rcases h1 : isFld x.p with _ | _
  · go_enter Try.func114, Try.ntmps114
    go_wp2_with fail
    rw [← hW]; clear hW
    refine (specIsField_any _ _).mono ?_; rintro e w1 ⟨rfl, rfl⟩
    rw [h1]
    go_wp2
    go_ret
    exact ⟨rfl, g0⟩
  rcases h2 : areDims x.q x.d with _ | _
  · have H2 := Lib.hid h2
    clear h2
    go_enter Try.func114, Try.ntmps114
    go_wp2_with fail
    rw [← hW]; clear hW
    refine (specIsField_any _ _).mono ?_; rintro e w1 ⟨rfl, rfl⟩
    rw [h1]
    go_wp2_with fail
    refine (specAreDims_any _ _ _ _ _ hq hd).mono ?_; rintro e w_3 ⟨rfl, hb_3⟩
    replace g0 := bthen g0 hb_3
    replace hq := QvR.next hb_3 hq
    replace hd := SlI.next hb_3 hd
    replace hm := SlM.next hb_3 hm
    replace kB := kB.call hb_3
    replace c0 := kB.cell' (i := 0) rfl
    replace c1 := kB.cell' (i := 1) rfl
    replace c2 := kB.cell' (i := 2) rfl
    replace c3 := kB.cell' (i := 3) rfl
    replace c4 := kB.cell' (i := 4) rfl
    replace c5 := kB.cell' (i := 5) rfl
    rw [H2.out]
    go_wp2
    go_ret
    exact ⟨rfl, g0⟩
  obtain ⟨lf, lt⟩ := hq.lens
  rcases h3 : decide (x.m.length = x.q.f.length) with _ | _
  · have e3 : ((x.m.length : Int) != x.q.f.length) = true := by rw [bne_iff_ne]; have := of_decide_eq_false h3; omega
    have H2 := Lib.hid h2
    clear h2 h3
    go_enter Try.func114, Try.ntmps114
    go_wp2_with fail
    rw [← hW]; clear hW
    refine (specIsField_any _ _).mono ?_; rintro e w1 ⟨rfl, rfl⟩
    rw [h1]
    go_wp2_with fail
    refine (specAreDims_any _ _ _ _ _ hq hd).mono ?_; rintro e w_4 ⟨rfl, hb_4⟩
    replace g0 := bthen g0 hb_4
    replace hq := QvR.next hb_4 hq
    replace hd := SlI.next hb_4 hd
    replace hm := SlM.next hb_4 hm
    replace kB := kB.call hb_4
    replace c0 := kB.cell' (i := 0) rfl
    replace c1 := kB.cell' (i := 1) rfl
    replace c2 := kB.cell' (i := 2) rfl
    replace c3 := kB.cell' (i := 3) rfl
    replace c4 := kB.cell' (i := 4) rfl
    replace c5 := kB.cell' (i := 5) rfl
    rw [H2.out]
    go_wp2
    go_ret
    exact ⟨rfl, g0⟩
  have e3 : ((x.m.length : Int) != x.q.f.length) = false := by rw [bne_eq_false_iff_eq]; have := of_decide_eq_true h3; omega
  have H3 := Lib.hid (of_decide_eq_true h3)
  have H2 := Lib.hid h2
  clear h2 h3
  go_enter Try.func114, Try.ntmps114
  go_wp2_with fail
  rw [← hW]; clear hW
  refine (specIsField_any _ _).mono ?_; rintro e w1 ⟨rfl, rfl⟩
  rw [h1]
  go_wp2_with fail
  refine (specAreDims_any _ _ _ _ _ hq hd).mono ?_; rintro e W1 ⟨rfl, hb0⟩
  replace g0 := bthen g0 hb0
  replace hq := QvR.next hb0 hq
  replace hd := SlI.next hb0 hd
  replace hm := SlM.next hb0 hm
  replace kB := kB.call hb0
  replace c0 := kB.cell' (i := 0) rfl
  replace c1 := kB.cell' (i := 1) rfl
  replace c2 := kB.cell' (i := 2) rfl
  replace c3 := kB.cell' (i := 3) rfl
  replace c4 := kB.cell' (i := 4) rfl
  replace c5 := kB.cell' (i := 5) rfl
  clear hb0
  rw [H2.out]
  obtain ⟨hf, ht⟩ := hq.sl
  clear hq
  go_wp2
  go_loopw [3] (fun i wr => ∃ k : Nat, k ≤ x.m.length ∧ i = .int .i64 k ∧ Below W1.heap.size W1 wr ∧ Hid (okMs x k = true)) (fun i _ => x.m.length - (intOf i).toNat)
  case atStart => exact ⟨0, Nat.zero_le _, rfl, Below.refl _ _, rfl⟩
  case round =>
    obtain ⟨k, hk, rfl, hbel, hok⟩ := hrel
    clear c0 c1 c2 c3 c4 c5
    have z5 := (kB.call hbel).cell' (i := 5) rfl
    by_cases hlt : k < x.m.length
    · have hkf : k < x.q.f.length := by have := H3.out; omega
      obtain ⟨nf, nt, yf, yt, ef, et, df, dt, lnf, lnt, lnf5, lnt5, hkt⟩ := rep_at H2.out hkf
      obtain ⟨b, o, m, A', c', rfl, hb, HX, x1, x2, x3, hsl, i1, i2, lml⟩ := SlM.at_ hm hlt
      obtain ⟨bf, of_, xf, rfl, hbf, HXF, f1, _⟩ := SlI.at_ hf hkf
      obtain ⟨bt, ot, xt, rfl, hbt, HXT, t1, _⟩ := SlI.at_ ht hkt
      obtain ⟨bd, od, xdf, rfl, hbd, HXDF, d1, ddf⟩ := SlI.at_ hd lnf
      obtain ⟨bd', od', xdt, ebd, hbd', HXDT, d2, ddt⟩ := SlI.at_ hd lnt
      injection ebd with ebd
      injection ebd with ebd1 ebd2
      subst ebd1 ebd2
      have q1 := HXF.out
      rw [ef] at q1
      injection q1 with q1
      subst q1
      have q2 := HXT.out
      rw [et] at q2
      injection q2 with q2
      subst q2
      have hsucc := okMs_succ HX.out ef et
      rw [hok.out, Bool.true_and, okM, dAt_of HXDF.out, dAt_of HXDT.out] at hsucc
      have HSU := Lib.hid hsucc
      clear hsucc HXDF HXDT HXF HXT ef et df dt hf ht hd hm
      have gx := hbel
      have hm0 := InB.cell (w := wr) (by have := hbel.size; omega) (bcell hbel hb x1)
      have hm1 := InB.cell (w := wr) (by have := hbel.size; omega) (bcell hbel hb x2)
      have hm2 := InB.cell (w := wr) (by have := hbel.size; omega) (bcell hbel hb x3)
      have gx1 := gx.size
      have hF := InB.cell (w := wr) (by omega) (bcell gx hbf f1)
      have hT := InB.cell (w := wr) (by omega) (bcell gx hbt t1)
      have hD1 := InB.cell (w := wr) (by omega) (bcell gx hbd d1)
      have hD2 := InB.cell (w := wr) (by omega) (bcell gx hbd d2)
      have kBx := kB.call gx
      have r0 := fun s : InB wr => (kBx.call s.below).cell' (i := 0) rfl
      have r2 := fun s : InB wr => (kBx.call s.below).cell' (i := 2) rfl
      have r3 := fun s : InB wr => (kBx.call s.below).cell' (i := 3) rfl
      have r4 := fun s : InB wr => (kBx.call s.below).cell' (i := 4) rfl
      have r5 := fun s : InB wr => (kBx.call s.below).cell' (i := 5) rfl
      have HM : Hid (∀ s : InB wr, MxR s.val s.val.heap.size (.agg #[.int .i64 m.r, .int .i64 m.c, .slice A' m.a.length c']) m) := fun s => ⟨_, rfl, SlI.next s.below (SlI.next gx hsl), i1, i2⟩
      have g1 := bthen g0 gx
      have HGX := Lib.hid gx
      have HG1 := Lib.hid g1
      clear x1 x2 x3 f1 t1 d1 d2 hsl i1 i2 kB kBx gx g1 g0
      have a1 : (0 : Int) ≤ (k : Int) := by omega
      have a2 : (k : Int) < x.q.f.length := by omega
      have a3 : (k : Int) < x.q.t.length := by omega
      have a4 : (0 : Int) ≤ (nf : Int) := by omega
      have a5 : (nf : Int) < x.d.length := by omega
      have a6 : (0 : Int) ≤ (nt : Int) := by omega
      have a7 : (nt : Int) < x.d.length := by omega
      have a8 : (k : Int) < x.m.length := by omega
      rcases h4 : isMat x.p m with _ | _
      · have HF := Lib.hid (okMs_mono (x := x) (k := k + 1) (n := x.m.length) (by rw [HSU.out, h4]; rfl) (by omega))
        go_wp2
        (refine wp_region_inB (by kernel_rfl) (by kernel_rfl) ?_; (repeat (go_big_quiet_step ((go_at_call 180; exact InB.call (specIsMatrix_any _ _ m _ (HM.out _)))))); refine wpQuiet_nil ?_; intro w1 hw'; obtain ⟨s1, hw1⟩ := hw'; have hb1 := s1.below; rw [← hw1] at hb1; clear hw1 s1)
        go_wp2
        go_ret
        exact ⟨by rw [HF.out]; rfl, bthen HG1.out hb1⟩
      rcases h5 : decide (m.c = xdf) with _ | _
      · have HF := Lib.hid (okMs_mono (x := x) (k := k + 1) (n := x.m.length) (by rw [HSU.out, h5]; simp) (by omega))
        have e5 : (m.c != xdf) = true := by rw [bne_iff_ne]; exact of_decide_eq_false h5
        clear h5
        go_wp2
        (refine wp_region_inB (by kernel_rfl) (by kernel_rfl) ?_; (repeat (go_big_quiet_step ((go_at_call 180; exact InB.call (specIsMatrix_any _ _ m _ (HM.out _)))))); refine wpQuiet_nil ?_; intro w1 hw'; obtain ⟨s1, hw1⟩ := hw'; have hb1 := s1.below; rw [← hw1] at hb1; clear hw1 s1)
        go_wp2
        go_ret
        exact ⟨by rw [HF.out]; rfl, bthen HG1.out hb1⟩
      have e5 : (m.c != xdf) = false := by rw [bne_eq_false_iff_eq]; exact of_decide_eq_true h5
      rcases h6 : decide (m.r = xdt) with _ | _
      · have HF := Lib.hid (okMs_mono (x := x) (k := k + 1) (n := x.m.length) (by rw [HSU.out, h6]; simp) (by omega))
        have e6 : (m.r != xdt) = true := by rw [bne_iff_ne]; exact of_decide_eq_false h6
        clear h5 h6
        go_wp2
        (refine wp_region_inB (by kernel_rfl) (by kernel_rfl) ?_; (repeat (go_big_quiet_step ((go_at_call 180; exact InB.call (specIsMatrix_any _ _ m _ (HM.out _)))))); refine wpQuiet_nil ?_; intro w1 hw'; obtain ⟨s1, hw1⟩ := hw'; have hb1 := s1.below; rw [← hw1] at hb1; clear hw1 s1)
        go_wp2
        go_ret
        exact ⟨by rw [HF.out]; rfl, bthen HG1.out hb1⟩
      have e6 : (m.r != xdt) = false := by rw [bne_eq_false_iff_eq]; exact of_decide_eq_true h6
      have HF := Lib.hid (show okMs x (k + 1) = true by rw [HSU.out, h4, h5, h6]; rfl)
      clear h5 h6
      go_wp2
      (refine wp_region_inB (by kernel_rfl) (by kernel_rfl) ?_; (repeat (go_big_quiet_step ((go_at_call 180; exact InB.call (specIsMatrix_any _ _ m _ (HM.out _)))))); refine wpQuiet_nil ?_; intro w1 hw'; obtain ⟨s1, hw1⟩ := hw'; have hb1 := s1.below; rw [← hw1] at hb1; clear hw1 s1)
      go_wp2
      go_roundw
      case rel => exact ⟨k + 1, by omega, by go_num, bthen HGX.out hb1, HF.out⟩
      case measure => simp [intOf]; omega
    · have HF := Lib.hid (show okMs x x.m.length = true by have := hok.out; rwa [show k = x.m.length by omega] at this)
      have g1 := bthen g0 hbel
      go_wp2
      go_ret
      exact ⟨by rw [HF.out]; rfl, g1⟩
end Go.Proofs.Ytjhllgldllbaaaa

/- Equal quivers, the quiver of pencils, the two IsPencil. -/
namespace Go.Proofs.Ytjhllgldllbaaaa
set_option linter.unusedVariables false
set_option linter.unusedSimpArgs false
open Go.RowKit

set_option maxHeartbeats 400000 in
theorem slEqual_any (u v : Value) (xs ys : List Int) (w : World) (hu : SlI w w.heap.size u xs) (hv : SlI w w.heap.size v ys) :
    Calls Try.prog 83 #[u, v] w fun e w' => e = .returned (.bool (decide (xs = ys))) ∧ Below w.heap.size w w' := by
  obtain ⟨A, c, rfl, _, _, hn, hx⟩ := hu.open_
  obtain ⟨C, d, rfl, _, _, hm, hy⟩ := hv.open_
  clear hu hv
  by_cases hnm : xs.length = ys.length
  · have heq : ((xs.length : Int) != ys.length) = false := by rw [bne_eq_false_iff_eq]; omega
    have HN := Lib.hid hnm
    clear hnm
    go_enter Try.func83, Try.ntmps83
    go_wp2
    go_loopw [5, 13] (fun _ i wr => ∃ k q : Nat, k ≤ xs.length ∧ i = .int .i64 k ∧ wr = w.drewN q ∧ Hid (xs.take k = ys.take k)) (fun _ i _ => xs.length - (intOf i).toNat)
    case atStart => exact ⟨0, 0, Nat.zero_le _, rfl, rfl, rfl⟩
    case round =>
      obtain ⟨k, q, hk, rfl, rfl, hxy⟩ := hrel
      by_cases hlt : k < xs.length
      · have hlt' : k < ys.length := by have := HN.out; omega
        obtain ⟨b, o, x, rfl, hb, HX, c1, _⟩ := SlI.at_ hx hlt
        obtain ⟨b', o', x', rfl, hb', HX', c1', _⟩ := SlI.at_ hy hlt'
        clear hx hy
        by_cases hE : x = x'
        · subst hE
          go_wp2
          go_quiet (fail)
          go_wp2
          go_roundw
          case rel =>
            refine ⟨k + 1, q + nq, by omega, by go_num, rfl, ?_⟩
            show _ = _
            rw [take_snoc HX.out, take_snoc HX'.out, hxy.out]
          case measure => simp [intOf]; omega
        · have hne : (x != x') = true := by simpa using hE
          have hxy' : Hid (xs ≠ ys) := by
            rintro rfl
            have h2 := HX.out
            rw [HX'.out] at h2
            exact hE (by injection h2 with h2; exact h2.symm)
          clear hE
          go_wp2
          go_quiet (fail)
          go_wp2
          go_ret
          exact ⟨by rw [decide_eq_false hxy'.out]; rfl, below_drewN (drewN_below _ _ _) _⟩
      · go_wp2
        go_ret
        refine ⟨?_, drewN_below _ _ _⟩
        have h1 := hxy.out
        rw [List.take_of_length_le (by omega), List.take_of_length_le (by have := HN.out; omega)] at h1
        simp [h1]
  · have hne : ((xs.length : Int) != ys.length) = true := by rw [bne_iff_ne]; omega
    go_enter Try.func83, Try.ntmps83
    go_wp2
    go_ret
    refine ⟨?_, Below.refl _ _⟩
    rw [decide_eq_false (by rintro rfl; omega)]; rfl
set_option maxHeartbeats 400000 in
theorem l6Same_any (u v : Value) (xs ys : List Int) (w : World) (hu : SlI w w.heap.size u xs) (hv : SlI w w.heap.size v ys) :
    Calls Try.prog 80 #[u, v] w fun e w' => e = .returned (.bool (decide (xs = ys))) ∧ Below w.heap.size w w' := by
  obtain ⟨A, c, rfl, _, _, hn, hx⟩ := hu.open_
  obtain ⟨C, d, rfl, _, _, hm, hy⟩ := hv.open_
  clear hu hv
  by_cases hnm : xs.length = ys.length
  · have heq : ((xs.length : Int) != ys.length) = false := by rw [bne_eq_false_iff_eq]; omega
    have HN := Lib.hid hnm
    clear hnm
    go_enter Try.func80, Try.ntmps80
    go_wp2
    go_loopw [5] (fun i wr => ∃ k q : Nat, k ≤ xs.length ∧ i = .int .i64 k ∧ wr = w.drewN q ∧ Hid (xs.take k = ys.take k)) (fun i _ => xs.length - (intOf i).toNat)
    case atStart => exact ⟨0, 0, Nat.zero_le _, rfl, rfl, rfl⟩
    case round =>
      obtain ⟨k, q, hk, rfl, rfl, hxy⟩ := hrel
      by_cases hlt : k < xs.length
      · have hlt' : k < ys.length := by have := HN.out; omega
        obtain ⟨b, o, x, rfl, hb, HX, c1, _⟩ := SlI.at_ hx hlt
        obtain ⟨b', o', x', rfl, hb', HX', c1', _⟩ := SlI.at_ hy hlt'
        clear hx hy
        by_cases hE : x = x'
        · subst hE
          go_wp2
          go_quiet (fail)
          go_wp2
          go_roundw
          case rel =>
            refine ⟨k + 1, q + nq, by omega, by go_num, rfl, ?_⟩
            show _ = _
            rw [take_snoc HX.out, take_snoc HX'.out, hxy.out]
          case measure => simp [intOf]; omega
        · have hne : (x != x') = true := by simpa using hE
          have hxy' : Hid (xs ≠ ys) := by
            rintro rfl
            have h2 := HX.out
            rw [HX'.out] at h2
            exact hE (by injection h2 with h2; exact h2.symm)
          clear hE
          go_wp2
          go_quiet (fail)
          go_wp2
          go_ret
          exact ⟨by rw [decide_eq_false hxy'.out]; rfl, below_drewN (drewN_below _ _ _) _⟩
      · go_wp2
        go_ret
        refine ⟨?_, drewN_below _ _ _⟩
        have h1 := hxy.out
        rw [List.take_of_length_le (by omega), List.take_of_length_le (by have := HN.out; omega)] at h1
        simp [h1]
  · have hne : ((xs.length : Int) != ys.length) = true := by rw [bne_iff_ne]; omega
    go_enter Try.func80, Try.ntmps80
    go_wp2
    go_ret
    refine ⟨?_, Below.refl _ _⟩
    rw [decide_eq_false (by rintro rfl; omega)]; rfl

set_option maxHeartbeats 800000 in
theorem implEqualQuivers_any (u v : Value) (p q : Qv) (w : World) (hu : QvR w w.heap.size u p) (hv : QvR w w.heap.size v q) :
    Calls Try.prog 176 #[u, v] w fun e w' => e = .returned (.bool (decide (p = q))) ∧ Below w.heap.size w w' := by
  obtain ⟨A, c, C, d, rfl, hf, ht, _, _, _⟩ := hu.open_
  obtain ⟨A', c', C', d', rfl, hf', ht', _, _, _⟩ := hv.open_
  clear hu hv
  obtain ⟨W, hW⟩ : ∃ W, W = (w.alloc (.cells #[.int .i64 p.v, .slice A p.f.length c, .slice C p.t.length d] 26)).alloc (.cells #[.int .i64 q.v, .slice A' q.f.length c', .slice C' q.t.length d'] 26) := ⟨_, rfl⟩
  have g0 : Below w.heap.size w W := by rw [hW]; exact ((Below.refl _ _).alloc (Nat.le_refl _) _).alloc (by simp) _
  have k1 : Blk W w.heap.size 26 #[.int .i64 p.v, .slice A p.f.length c, .slice C p.t.length d] := by rw [hW]; exact (Blk.new _ _ _).alloc _
  have k2 : Blk W (w.heap.size + 1) 26 #[.int .i64 q.v, .slice A' q.f.length c', .slice C' q.t.length d'] := by
    rw [hW]
    have := Blk.new (w.alloc (.cells #[.int .i64 p.v, .slice A p.f.length c, .slice C p.t.length d] 26)) 26 #[.int .i64 q.v, .slice A' q.f.length c', .slice C' q.t.length d']
    simpa only [World.size_alloc] using this
  replace hf := SlI.next g0 hf
  replace hf' := SlI.next g0 hf'
  replace ht := SlI.next g0 ht
  replace ht' := SlI.next g0 ht'
  by_cases h1 : p.v = q.v
  · have e1 : (p.v == q.v) = true := by rw [h1]; simp
    have H1 := Lib.hid h1
    clear h1
    by_cases h2 : p.f = q.f
    · have e2 : decide (p.f = q.f) = true := by simpa using h2
      have H2 := Lib.hid h2
      clear h2
      obtain ⟨B, hB⟩ : ∃ B, decide (p.t = q.t) = B := ⟨_, rfl⟩
      have HB := Lib.hid hB
      have hfin : decide (p = q) = B := by
        rw [← hB, decide_eq_decide, qv_ext]
        exact ⟨fun h => h.2.2, fun h => ⟨H1.out, H2.out, h⟩⟩
      rw [hfin]
      clear hfin hB
      go_enter Try.func176, Try.ntmps176
      go_wp2_with fail
      rw [← hW]; clear hW
      refine (slEqual_any _ _ _ _ _ hf hf').mono ?_; rintro e w1 ⟨rfl, hb1⟩
      clear hf hf'
      replace g0 := bthen g0 hb1
      replace ht := SlI.next hb1 ht
      replace ht' := SlI.next hb1 ht'
      replace k1 := k1.call hb1
      replace c0 := k1.cell' (i := 0) rfl
      replace c1 := k1.cell' (i := 1) rfl
      replace c2 := k1.cell' (i := 2) rfl
      replace k2 := k2.call hb1
      replace d0 := k2.cell' (i := 0) rfl
      replace d1 := k2.cell' (i := 1) rfl
      replace d2 := k2.cell' (i := 2) rfl
      clear hb1
      go_wp2_with fail
      refine (slEqual_any _ _ _ _ _ ht ht').mono ?_; rintro e w_1 ⟨rfl, hb_1⟩
      replace g0 := bthen g0 hb_1
      replace ht := SlI.next hb_1 ht
      replace ht' := SlI.next hb_1 ht'
      replace k1 := k1.call hb_1
      replace c0 := k1.cell' (i := 0) rfl
      replace c1 := k1.cell' (i := 1) rfl
      replace c2 := k1.cell' (i := 2) rfl
      replace k2 := k2.call hb_1
      replace d0 := k2.cell' (i := 0) rfl
      replace d1 := k2.cell' (i := 1) rfl
      replace d2 := k2.cell' (i := 2) rfl
      rw [HB.out]
      clear ht ht' k1 k2
      go_wp2
      go_ret
      exact ⟨rfl, g0⟩
    · have e2 : decide (p.f = q.f) = false := by simpa using h2
      have hfin : decide (p = q) = false := by
        simp only [decide_eq_false_iff_not, qv_ext]
        exact fun h => h2 h.2.1
      rw [hfin]
      clear hfin h2
      go_enter Try.func176, Try.ntmps176
      go_wp2_with fail
      rw [← hW]; clear hW
      refine (slEqual_any _ _ _ _ _ hf hf').mono ?_; rintro e w1 ⟨rfl, hb1⟩
      go_wp2
      go_ret
      exact ⟨rfl, bthen g0 hb1⟩
  · have e1 : (p.v == q.v) = false := by simpa using h1
    have hfin : decide (p = q) = false := by
      simp only [decide_eq_false_iff_not, qv_ext]
      exact fun h => h1 h.1
    rw [hfin]
    clear hfin h1
    go_enter Try.func176, Try.ntmps176
    go_wp2
    rw [← hW]
    go_ret
    exact ⟨rfl, g0⟩
set_option maxHeartbeats 800000 in
theorem specEqualQuivers_any (u v : Value) (p q : Qv) (w : World) (hu : QvR w w.heap.size u p) (hv : QvR w w.heap.size v q) :
    Calls Try.prog 171 #[u, v] w fun e w' => e = .returned (.bool (decide (p = q))) ∧ Below w.heap.size w w' := by
  obtain ⟨A, c, C, d, rfl, hf, ht, _, _, _⟩ := hu.open_
  obtain ⟨A', c', C', d', rfl, hf', ht', _, _, _⟩ := hv.open_
  clear hu hv
  obtain ⟨W, hW⟩ : ∃ W, W = (w.alloc (.cells #[.int .i64 p.v, .slice A p.f.length c, .slice C p.t.length d] 26)).alloc (.cells #[.int .i64 q.v, .slice A' q.f.length c', .slice C' q.t.length d'] 26) := ⟨_, rfl⟩
  have g0 : Below w.heap.size w W := by rw [hW]; exact ((Below.refl _ _).alloc (Nat.le_refl _) _).alloc (by simp) _
  have k1 : Blk W w.heap.size 26 #[.int .i64 p.v, .slice A p.f.length c, .slice C p.t.length d] := by rw [hW]; exact (Blk.new _ _ _).alloc _
  have k2 : Blk W (w.heap.size + 1) 26 #[.int .i64 q.v, .slice A' q.f.length c', .slice C' q.t.length d'] := by
    rw [hW]
    have := Blk.new (w.alloc (.cells #[.int .i64 p.v, .slice A p.f.length c, .slice C p.t.length d] 26)) 26 #[.int .i64 q.v, .slice A' q.f.length c', .slice C' q.t.length d']
    simpa only [World.size_alloc] using this
  replace hf := SlI.next g0 hf
  replace hf' := SlI.next g0 hf'
  replace ht := SlI.next g0 ht
  replace ht' := SlI.next g0 ht'
  by_cases h1 : p.v = q.v
  · have e1 : (p.v == q.v) = true := by rw [h1]; simp
    have H1 := Lib.hid h1
    clear h1
    by_cases h2 : p.f = q.f
    · have e2 : decide (p.f = q.f) = true := by simpa using h2
      have H2 := Lib.hid h2
      clear h2
      obtain ⟨B, hB⟩ : ∃ B, decide (p.t = q.t) = B := ⟨_, rfl⟩
      have HB := Lib.hid hB
      have hfin : decide (p = q) = B := by
        rw [← hB, decide_eq_decide, qv_ext]
        exact ⟨fun h => h.2.2, fun h => ⟨H1.out, H2.out, h⟩⟩
      rw [hfin]
      clear hfin hB
      go_enter Try.func171, Try.ntmps171
      go_wp2_with fail
      rw [← hW]; clear hW
      refine (l6Same_any _ _ _ _ _ hf hf').mono ?_; rintro e w1 ⟨rfl, hb1⟩
      clear hf hf'
      replace g0 := bthen g0 hb1
      replace ht := SlI.next hb1 ht
      replace ht' := SlI.next hb1 ht'
      replace k1 := k1.call hb1
      replace c0 := k1.cell' (i := 0) rfl
      replace c1 := k1.cell' (i := 1) rfl
      replace c2 := k1.cell' (i := 2) rfl
      replace k2 := k2.call hb1
      replace d0 := k2.cell' (i := 0) rfl
      replace d1 := k2.cell' (i := 1) rfl
      replace d2 := k2.cell' (i := 2) rfl
      clear hb1
      go_wp2_with fail
      refine (l6Same_any _ _ _ _ _ ht ht').mono ?_; rintro e w_2 ⟨rfl, hb_2⟩
      replace g0 := bthen g0 hb_2
      replace ht := SlI.next hb_2 ht
      replace ht' := SlI.next hb_2 ht'
      replace k1 := k1.call hb_2
      replace c0 := k1.cell' (i := 0) rfl
      replace c1 := k1.cell' (i := 1) rfl
      replace c2 := k1.cell' (i := 2) rfl
      replace k2 := k2.call hb_2
      replace d0 := k2.cell' (i := 0) rfl
      replace d1 := k2.cell' (i := 1) rfl
      replace d2 := k2.cell' (i := 2) rfl
      rw [HB.out]
      clear ht ht' k1 k2
      go_wp2
      go_ret
      exact ⟨rfl, g0⟩
    · have e2 : decide (p.f = q.f) = false := by simpa using h2
      have hfin : decide (p = q) = false := by
        simp only [decide_eq_false_iff_not, qv_ext]
        exact fun h => h2 h.2.1
      rw [hfin]
      clear hfin h2
      go_enter Try.func171, Try.ntmps171
      go_wp2_with fail
      rw [← hW]; clear hW
      refine (l6Same_any _ _ _ _ _ hf hf').mono ?_; rintro e w1 ⟨rfl, hb1⟩
      go_wp2
      go_ret
      exact ⟨rfl, bthen g0 hb1⟩
  · have e1 : (p.v == q.v) = false := by simpa using h1
    have hfin : decide (p = q) = false := by
      simp only [decide_eq_false_iff_not, qv_ext]
      exact fun h => h1 h.1
    rw [hfin]
    clear hfin h1
    go_enter Try.func171, Try.ntmps171
    go_wp2
    rw [← hW]
    go_ret
    exact ⟨rfl, g0⟩

/-- the quiver of pencils -/
def pQ : Qv := ⟨2, [0, 0], [1, 1]⟩
theorem pencilQuiver_any (w : World) : Calls Try.prog 177 #[] w fun e w' => ∃ v, e = .returned v ∧ QuivO w' w.heap.size w'.heap.size v pQ ∧ Below w.heap.size w w' := by
  obtain ⟨W, hW⟩ : ∃ W, W = ((w.alloc (.cells #[.int .i64 2, .slice (some ⟨w.heap.size + 1, 0, none⟩) 2 2, .slice (some ⟨w.heap.size + 1 + 1, 0, none⟩) 2 2] 26)).alloc (.cells #[.int .i64 0, .int .i64 0] 3)).alloc (.cells #[.int .i64 1, .int .i64 1] 3) := ⟨_, rfl⟩
  have g0 : Below w.heap.size w W := by rw [hW]; exact (((Below.refl _ _).alloc (Nat.le_refl _) _).alloc (by simp) _).alloc (by simp; omega) _
  have k0 : Blk W w.heap.size 26 #[.int .i64 2, .slice (some ⟨w.heap.size + 1, 0, none⟩) 2 2, .slice (some ⟨w.heap.size + 1 + 1, 0, none⟩) 2 2] := by rw [hW]; exact ((Blk.new _ _ _).alloc _).alloc _
  have k1 : Blk W (w.heap.size + 1) 3 #[.int .i64 0, .int .i64 0] := by
    rw [hW]
    have := (Blk.new (w.alloc (.cells #[.int .i64 2, .slice (some ⟨w.heap.size + 1, 0, none⟩) 2 2, .slice (some ⟨w.heap.size + 1 + 1, 0, none⟩) 2 2] 26)) 3 #[.int .i64 0, .int .i64 0]).alloc (.cells #[.int .i64 1, .int .i64 1] 3)
    simpa only [World.size_alloc] using this
  have k2 : Blk W (w.heap.size + 1 + 1) 3 #[.int .i64 1, .int .i64 1] := by
    rw [hW]
    have := Blk.new ((w.alloc (.cells #[.int .i64 2, .slice (some ⟨w.heap.size + 1, 0, none⟩) 2 2, .slice (some ⟨w.heap.size + 1 + 1, 0, none⟩) 2 2] 26)).alloc (.cells #[.int .i64 0, .int .i64 0] 3)) 3 #[.int .i64 1, .int .i64 1]
    simpa only [World.size_alloc] using this
  have zW : W.heap.size = w.heap.size + 1 + 1 + 1 := by rw [hW]; simp
  have c0 := k0.cell' (i := 0) rfl
  have c1 := k0.cell' (i := 1) rfl
  have c2 := k0.cell' (i := 2) rfl
  have o1 : OwnI W (w.heap.size + 1) (.slice (some ⟨w.heap.size + 1, 0, none⟩) 2 2) [0, 0] := OwnI.of_blk (xs := [0, 0]) k1 (Nat.le_refl _) ⟨rfl, fun j x hj hx => by
    match j, hx with
    | 0, hx => simp at hx; subst hx; rfl
    | 1, hx => simp at hx; subst hx; rfl
    | j + 2, hx => simp at hx⟩ (by simp) (by simp [I64])
  have o2 : OwnI W (w.heap.size + 1 + 1) (.slice (some ⟨w.heap.size + 1 + 1, 0, none⟩) 2 2) [1, 1] := OwnI.of_blk (xs := [1, 1]) k2 (Nat.le_refl _) ⟨rfl, fun j x hj hx => by
    match j, hx with
    | 0, hx => simp at hx; subst hx; rfl
    | 1, hx => simp at hx; subst hx; rfl
    | j + 2, hx => simp at hx⟩ (by simp) (by simp [I64])
  have hF : QuivO W w.heap.size W.heap.size (.agg #[.int .i64 2, .slice (some ⟨w.heap.size + 1, 0, none⟩) 2 2, .slice (some ⟨w.heap.size + 1 + 1, 0, none⟩) 2 2]) pQ :=
    ⟨_, _, rfl, Fam.mono (fam_two (lo := w.heap.size + 1) (mi := w.heap.size + 1 + 1) (hi := W.heap.size) ⟨o1, by simp [Value.ownBlock]⟩ (IntsO.of_own o2) (by omega) (by omega)) (by omega) (Nat.le_refl _), by simp [pQ, I64]⟩
  have HF := Lib.hid hF
  clear hF k0 k1 k2 o1 o2 zW
  go_enter Try.func177, Try.ntmps177
  go_wp2
  rw [← hW]
  exact bodyPost_ret (v := .agg #[.int .i64 2, .slice (some ⟨w.heap.size + 1, 0, none⟩) 2 2, .slice (some ⟨w.heap.size + 1 + 1, 0, none⟩) 2 2]) (by simp [results, go_sem, c0, c1, c2]) rfl ⟨_, rfl, HF.out, g0⟩
theorem l26Quiver_any (w : World) : Calls Try.prog 172 #[] w fun e w' => ∃ v, e = .returned v ∧ QuivO w' w.heap.size w'.heap.size v pQ ∧ Below w.heap.size w w' := by
  obtain ⟨W, hW⟩ : ∃ W, W = ((w.alloc (.cells #[.int .i64 2, .slice (some ⟨w.heap.size + 1, 0, none⟩) 2 2, .slice (some ⟨w.heap.size + 1 + 1, 0, none⟩) 2 2] 26)).alloc (.cells #[.int .i64 0, .int .i64 0] 3)).alloc (.cells #[.int .i64 1, .int .i64 1] 3) := ⟨_, rfl⟩
  have g0 : Below w.heap.size w W := by rw [hW]; exact (((Below.refl _ _).alloc (Nat.le_refl _) _).alloc (by simp) _).alloc (by simp; omega) _
  have k0 : Blk W w.heap.size 26 #[.int .i64 2, .slice (some ⟨w.heap.size + 1, 0, none⟩) 2 2, .slice (some ⟨w.heap.size + 1 + 1, 0, none⟩) 2 2] := by rw [hW]; exact ((Blk.new _ _ _).alloc _).alloc _
  have k1 : Blk W (w.heap.size + 1) 3 #[.int .i64 0, .int .i64 0] := by
    rw [hW]
    have := (Blk.new (w.alloc (.cells #[.int .i64 2, .slice (some ⟨w.heap.size + 1, 0, none⟩) 2 2, .slice (some ⟨w.heap.size + 1 + 1, 0, none⟩) 2 2] 26)) 3 #[.int .i64 0, .int .i64 0]).alloc (.cells #[.int .i64 1, .int .i64 1] 3)
    simpa only [World.size_alloc] using this
  have k2 : Blk W (w.heap.size + 1 + 1) 3 #[.int .i64 1, .int .i64 1] := by
    rw [hW]
    have := Blk.new ((w.alloc (.cells #[.int .i64 2, .slice (some ⟨w.heap.size + 1, 0, none⟩) 2 2, .slice (some ⟨w.heap.size + 1 + 1, 0, none⟩) 2 2] 26)).alloc (.cells #[.int .i64 0, .int .i64 0] 3)) 3 #[.int .i64 1, .int .i64 1]
    simpa only [World.size_alloc] using this
  have zW : W.heap.size = w.heap.size + 1 + 1 + 1 := by rw [hW]; simp
  have c0 := k0.cell' (i := 0) rfl
  have c1 := k0.cell' (i := 1) rfl
  have c2 := k0.cell' (i := 2) rfl
  have o1 : OwnI W (w.heap.size + 1) (.slice (some ⟨w.heap.size + 1, 0, none⟩) 2 2) [0, 0] := OwnI.of_blk (xs := [0, 0]) k1 (Nat.le_refl _) ⟨rfl, fun j x hj hx => by
    match j, hx with
    | 0, hx => simp at hx; subst hx; rfl
    | 1, hx => simp at hx; subst hx; rfl
    | j + 2, hx => simp at hx⟩ (by simp) (by simp [I64])
  have o2 : OwnI W (w.heap.size + 1 + 1) (.slice (some ⟨w.heap.size + 1 + 1, 0, none⟩) 2 2) [1, 1] := OwnI.of_blk (xs := [1, 1]) k2 (Nat.le_refl _) ⟨rfl, fun j x hj hx => by
    match j, hx with
    | 0, hx => simp at hx; subst hx; rfl
    | 1, hx => simp at hx; subst hx; rfl
    | j + 2, hx => simp at hx⟩ (by simp) (by simp [I64])
  have hF : QuivO W w.heap.size W.heap.size (.agg #[.int .i64 2, .slice (some ⟨w.heap.size + 1, 0, none⟩) 2 2, .slice (some ⟨w.heap.size + 1 + 1, 0, none⟩) 2 2]) pQ :=
    ⟨_, _, rfl, Fam.mono (fam_two (lo := w.heap.size + 1) (mi := w.heap.size + 1 + 1) (hi := W.heap.size) ⟨o1, by simp [Value.ownBlock]⟩ (IntsO.of_own o2) (by omega) (by omega)) (by omega) (Nat.le_refl _), by simp [pQ, I64]⟩
  have HF := Lib.hid hF
  clear hF k0 k1 k2 o1 o2 zW
  go_enter Try.func172, Try.ntmps172
  go_wp2
  rw [← hW]
  exact bodyPost_ret (v := .agg #[.int .i64 2, .slice (some ⟨w.heap.size + 1, 0, none⟩) 2 2, .slice (some ⟨w.heap.size + 1 + 1, 0, none⟩) 2 2]) (by simp [results, go_sem, c0, c1, c2]) rfl ⟨_, rfl, HF.out, g0⟩

def isPen (x : Rp) : Bool := isRep x && decide (x.q = pQ)
set_option maxHeartbeats 1600000 in
set_option maxRecDepth 100000 in
theorem implIsPencil_any (u : Value) (x : Rp) (w : World) (hu : RpR w w.heap.size u x) :
    Calls Try.prog 112 #[u] w fun e w' => e = .returned (.bool (isPen x)) ∧ Below w.heap.size w w' := by
  have hx := hu
  obtain ⟨A, a, C, c, E, e, H, h, rfl, hq, hd, hm, hp, ld, lm⟩ := hu.open_
  clear hu
  obtain ⟨W, hW⟩ : ∃ W, W = w.alloc (.cells #[.int .i64 x.p, .int .i64 x.q.v, .slice A x.q.f.length a, .slice C x.q.t.length c, .slice E x.d.length e, .slice H x.m.length h] 29) := ⟨_, rfl⟩
  have g0 : Below w.heap.size w W := by rw [hW]; exact below_alloc _ _
  have kB : Blk W w.heap.size 29 #[.int .i64 x.p, .int .i64 x.q.v, .slice A x.q.f.length a, .slice C x.q.t.length c, .slice E x.d.length e, .slice H x.m.length h] := by rw [hW]; exact Blk.new _ _ _
  have c0 := kB.cell' (i := 0) rfl
  have c1 := kB.cell' (i := 1) rfl
  have c2 := kB.cell' (i := 2) rfl
  have c3 := kB.cell' (i := 3) rfl
  have c4 := kB.cell' (i := 4) rfl
  have c5 := kB.cell' (i := 5) rfl
  replace hq := QvR.next g0 hq
  replace hd := SlI.next g0 hd
  replace hm := SlM.next g0 hm
  replace hx := RpR.next g0 hx
  clear hd hm
  unfold isPen
  rcases h1 : isRep x with _ | _
  · have HX : Hid (∀ s : InB W, RpR s.val s.val.heap.size (.agg #[.int .i64 x.p, .int .i64 x.q.v, .slice A x.q.f.length a, .slice C x.q.t.length c, .slice E x.d.length e, .slice H x.m.length h]) x) := fun s => RpR.next s.below hx
    have r0 := fun s : InB W => (kB.call s.below).cell' (i := 0) rfl
    have r1 := fun s : InB W => (kB.call s.below).cell' (i := 1) rfl
    have r2 := fun s : InB W => (kB.call s.below).cell' (i := 2) rfl
    have r3 := fun s : InB W => (kB.call s.below).cell' (i := 3) rfl
    have r4 := fun s : InB W => (kB.call s.below).cell' (i := 4) rfl
    have r5 := fun s : InB W => (kB.call s.below).cell' (i := 5) rfl
    have HC : Hid (∀ s : InB W, Calls Try.prog 117 #[.agg #[.int .i64 x.p, .int .i64 x.q.v, .slice A x.q.f.length a, .slice C x.q.t.length c, .slice E x.d.length e, .slice H x.m.length h]] s.val fun e w' => e = .returned (.bool false) ∧ Below s.val.heap.size s.val w') := fun s => by
      have := implIsRep_any _ x _ (HX.out s)
      rwa [h1] at this
    clear kB c0 c1 c2 c3 c4 c5 hq hx HX h1
    go_enter Try.func112, Try.ntmps112
    go_wp2
    rw [← hW]; clear hW
    (refine wp_region_inB (by kernel_rfl) (by kernel_rfl) ?_; (repeat (go_big_quiet_step ((go_at_call 117; exact InB.call (HC.out _))))); refine wpQuiet_nil ?_; intro w1 hw'; obtain ⟨s1, hw1⟩ := hw'; have hb1 := s1.below; rw [← hw1] at hb1; clear hw1 s1)
    go_wp2
    go_ret
    exact ⟨rfl, bthen g0 hb1⟩
  have hdr := drew_below W
  replace g0 := bthen g0 hdr
  replace hx := RpR.next hdr hx
  replace hq := QvR.next hdr hq
  replace kB := kB.call hdr
  replace c0 := kB.cell' (i := 0) rfl
  replace c1 := kB.cell' (i := 1) rfl
  replace c2 := kB.cell' (i := 2) rfl
  replace c3 := kB.cell' (i := 3) rfl
  replace c4 := kB.cell' (i := 4) rfl
  replace c5 := kB.cell' (i := 5) rfl
  clear hdr
  obtain ⟨B, hB⟩ : ∃ B, decide (x.q = pQ) = B := ⟨_, rfl⟩
  rw [hB]
  have HB := Lib.hid hB
  clear hB
  go_enter Try.func112, Try.ntmps112
  go_wp2
  rw [← hW]; clear hW
  go_region_held3 (fun W' => W'.cell? ⟨w.heap.size, 0, none⟩ = some (.int .i64 x.p) ∧ W'.cell? ⟨w.heap.size, 1, none⟩ = some (.int .i64 x.q.v) ∧ W'.cell? ⟨w.heap.size, 2, none⟩ = some (.slice A x.q.f.length a) ∧ W'.cell? ⟨w.heap.size, 3, none⟩ = some (.slice C x.q.t.length c) ∧ W'.cell? ⟨w.heap.size, 4, none⟩ = some (.slice E x.d.length e) ∧ W'.cell? ⟨w.heap.size, 5, none⟩ = some (.slice H x.m.length h))
    (first | exact ⟨c0, c1, c2, c3, c4, c5⟩)
    (first | (go_at_call 117; refine (implIsRep_any _ x _ hx).mono ?_; rintro e w1 ⟨rfl, hb1⟩; replace g0 := bthen g0 hb1; replace hx := RpR.next hb1 hx; replace hq := QvR.next hb1 hq; replace kB := kB.call hb1; replace c0 := kB.cell' (i := 0) rfl; replace c1 := kB.cell' (i := 1) rfl; replace c2 := kB.cell' (i := 2) rfl; replace c3 := kB.cell' (i := 3) rfl; replace c4 := kB.cell' (i := 4) rfl; replace c5 := kB.cell' (i := 5) rfl; rw [h1]) | (go_at_call 177; refine (pencilQuiver_any _).mono ?_; rintro e w1 ⟨vq, rfl, hQ, hb1⟩; replace g0 := bthen g0 hb1; replace hx := RpR.next hb1 hx; replace hq := QvR.next hb1 hq; replace kB := kB.call hb1; replace c0 := kB.cell' (i := 0) rfl; replace c1 := kB.cell' (i := 1) rfl; replace c2 := kB.cell' (i := 2) rfl; replace c3 := kB.cell' (i := 3) rfl; replace c4 := kB.cell' (i := 4) rfl; replace c5 := kB.cell' (i := 5) rfl) | (go_at_call 176; refine (implEqualQuivers_any _ _ x.q pQ _ hq hQ.rd).mono ?_; rintro e w1 ⟨rfl, hb1⟩; replace g0 := bthen g0 hb1; replace hx := RpR.next hb1 hx; replace hq := QvR.next hb1 hq; replace kB := kB.call hb1; replace c0 := kB.cell' (i := 0) rfl; replace c1 := kB.cell' (i := 1) rfl; replace c2 := kB.cell' (i := 2) rfl; replace c3 := kB.cell' (i := 3) rfl; replace c4 := kB.cell' (i := 4) rfl; replace c5 := kB.cell' (i := 5) rfl; rw [HB.out]))
  go_wp2
  go_ret
  exact ⟨rfl, g0⟩
set_option maxHeartbeats 1600000 in
set_option maxRecDepth 100000 in
theorem specIsPencil_any (u : Value) (x : Rp) (w : World) (hu : RpR w w.heap.size u x) :
    Calls Try.prog 109 #[u] w fun e w' => e = .returned (.bool (isPen x)) ∧ Below w.heap.size w w' := by
  have hx := hu
  obtain ⟨A, a, C, c, E, e, H, h, rfl, hq, hd, hm, hp, ld, lm⟩ := hu.open_
  clear hu
  obtain ⟨W, hW⟩ : ∃ W, W = w.alloc (.cells #[.int .i64 x.p, .int .i64 x.q.v, .slice A x.q.f.length a, .slice C x.q.t.length c, .slice E x.d.length e, .slice H x.m.length h] 29) := ⟨_, rfl⟩
  have g0 : Below w.heap.size w W := by rw [hW]; exact below_alloc _ _
  have kB : Blk W w.heap.size 29 #[.int .i64 x.p, .int .i64 x.q.v, .slice A x.q.f.length a, .slice C x.q.t.length c, .slice E x.d.length e, .slice H x.m.length h] := by rw [hW]; exact Blk.new _ _ _
  have c0 := kB.cell' (i := 0) rfl
  have c1 := kB.cell' (i := 1) rfl
  have c2 := kB.cell' (i := 2) rfl
  have c3 := kB.cell' (i := 3) rfl
  have c4 := kB.cell' (i := 4) rfl
  have c5 := kB.cell' (i := 5) rfl
  replace hq := QvR.next g0 hq
  replace hd := SlI.next g0 hd
  replace hm := SlM.next g0 hm
  replace hx := RpR.next g0 hx
  clear hd hm
  unfold isPen
  rcases h1 : isRep x with _ | _
  · have HX : Hid (∀ s : InB W, RpR s.val s.val.heap.size (.agg #[.int .i64 x.p, .int .i64 x.q.v, .slice A x.q.f.length a, .slice C x.q.t.length c, .slice E x.d.length e, .slice H x.m.length h]) x) := fun s => RpR.next s.below hx
    have r0 := fun s : InB W => (kB.call s.below).cell' (i := 0) rfl
    have r1 := fun s : InB W => (kB.call s.below).cell' (i := 1) rfl
    have r2 := fun s : InB W => (kB.call s.below).cell' (i := 2) rfl
    have r3 := fun s : InB W => (kB.call s.below).cell' (i := 3) rfl
    have r4 := fun s : InB W => (kB.call s.below).cell' (i := 4) rfl
    have r5 := fun s : InB W => (kB.call s.below).cell' (i := 5) rfl
    have HC : Hid (∀ s : InB W, Calls Try.prog 114 #[.agg #[.int .i64 x.p, .int .i64 x.q.v, .slice A x.q.f.length a, .slice C x.q.t.length c, .slice E x.d.length e, .slice H x.m.length h]] s.val fun e w' => e = .returned (.bool false) ∧ Below s.val.heap.size s.val w') := fun s => by
      have := specIsRep_any _ x _ (HX.out s)
      rwa [h1] at this
    clear kB c0 c1 c2 c3 c4 c5 hq hx HX h1
    go_enter Try.func109, Try.ntmps109
    go_wp2
    rw [← hW]; clear hW
    (refine wp_region_inB (by kernel_rfl) (by kernel_rfl) ?_; (repeat (go_big_quiet_step ((go_at_call 114; exact InB.call (HC.out _))))); refine wpQuiet_nil ?_; intro w1 hw'; obtain ⟨s1, hw1⟩ := hw'; have hb1 := s1.below; rw [← hw1] at hb1; clear hw1 s1)
    go_wp2
    go_ret
    exact ⟨rfl, bthen g0 hb1⟩
  have hdr := drew_below W
  replace g0 := bthen g0 hdr
  replace hx := RpR.next hdr hx
  replace hq := QvR.next hdr hq
  replace kB := kB.call hdr
  replace c0 := kB.cell' (i := 0) rfl
  replace c1 := kB.cell' (i := 1) rfl
  replace c2 := kB.cell' (i := 2) rfl
  replace c3 := kB.cell' (i := 3) rfl
  replace c4 := kB.cell' (i := 4) rfl
  replace c5 := kB.cell' (i := 5) rfl
  clear hdr
  obtain ⟨B, hB⟩ : ∃ B, decide (x.q = pQ) = B := ⟨_, rfl⟩
  rw [hB]
  have HB := Lib.hid hB
  clear hB
  go_enter Try.func109, Try.ntmps109
  go_wp2
  rw [← hW]; clear hW
  go_region_held3 (fun W' => W'.cell? ⟨w.heap.size, 0, none⟩ = some (.int .i64 x.p) ∧ W'.cell? ⟨w.heap.size, 1, none⟩ = some (.int .i64 x.q.v) ∧ W'.cell? ⟨w.heap.size, 2, none⟩ = some (.slice A x.q.f.length a) ∧ W'.cell? ⟨w.heap.size, 3, none⟩ = some (.slice C x.q.t.length c) ∧ W'.cell? ⟨w.heap.size, 4, none⟩ = some (.slice E x.d.length e) ∧ W'.cell? ⟨w.heap.size, 5, none⟩ = some (.slice H x.m.length h))
    (first | exact ⟨c0, c1, c2, c3, c4, c5⟩)
    (first | (go_at_call 114; refine (specIsRep_any _ x _ hx).mono ?_; rintro e w1 ⟨rfl, hb1⟩; replace g0 := bthen g0 hb1; replace hx := RpR.next hb1 hx; replace hq := QvR.next hb1 hq; replace kB := kB.call hb1; replace c0 := kB.cell' (i := 0) rfl; replace c1 := kB.cell' (i := 1) rfl; replace c2 := kB.cell' (i := 2) rfl; replace c3 := kB.cell' (i := 3) rfl; replace c4 := kB.cell' (i := 4) rfl; replace c5 := kB.cell' (i := 5) rfl; rw [h1]) | (go_at_call 172; refine (l26Quiver_any _).mono ?_; rintro e w1 ⟨vq, rfl, hQ, hb1⟩; replace g0 := bthen g0 hb1; replace hx := RpR.next hb1 hx; replace hq := QvR.next hb1 hq; replace kB := kB.call hb1; replace c0 := kB.cell' (i := 0) rfl; replace c1 := kB.cell' (i := 1) rfl; replace c2 := kB.cell' (i := 2) rfl; replace c3 := kB.cell' (i := 3) rfl; replace c4 := kB.cell' (i := 4) rfl; replace c5 := kB.cell' (i := 5) rfl) | (go_at_call 171; refine (specEqualQuivers_any _ _ x.q pQ _ hq hQ.rd).mono ?_; rintro e w1 ⟨rfl, hb1⟩; replace g0 := bthen g0 hb1; replace hx := RpR.next hb1 hx; replace hq := QvR.next hb1 hq; replace kB := kB.call hb1; replace c0 := kB.cell' (i := 0) rfl; replace c1 := kB.cell' (i := 1) rfl; replace c2 := kB.cell' (i := 2) rfl; replace c3 := kB.cell' (i := 3) rfl; replace c4 := kB.cell' (i := 4) rfl; replace c5 := kB.cell' (i := 5) rfl; rw [HB.out]))
  go_wp2
  go_ret
  exact ⟨rfl, g0⟩
end Go.Proofs.Ytjhllgldllbaaaa
