/- FnReflections: the law holds for every argument. Part 10 of 13 of the proof: Word2, CoxP, KnO, NulP, Psd, CoxP2, SlVs, PthM, PthE, PthI, PthF, PthD, PthX, PthY, DimI, Minor, RowAt, RowZ, ColZ, FromC, Tran, Besd, Conc. No condition. -/
import Derived.Test.YtaefpblpfjhgoaaBReflections9
import Derived.Shelf.Spec.SlicesGrow
/- The reference's ReflectWord (turned from Word.lean). -/
namespace Go.Proofs.Ytaefpblpfjhgoaa
set_option linter.unusedVariables false
set_option linter.unusedSimpArgs false
open Go.RowKit

set_option maxHeartbeats 800000 in
set_option maxRecDepth 20000 in
theorem specReflectWord_any (u : Value) (q : Qv) (xv : Value) (x : List Int) (dv : Value) (word : List Int) (w : World) (hu : QvR w w.heap.size u q) (hx : SlI w w.heap.size xv x) (hd : SlI w w.heap.size dv word) :
    Calls Try.prog 23 #[u, xv, dv] w fun e w' => ∃ r, e = .returned (.tuple #[r, .bool (wordQ q x word).2]) ∧ IntsO w' w.heap.size w'.heap.size r (wordQ q x word).1 ∧ Below w.heap.size w w' := by
  have hu' := hu
  obtain ⟨A, c, C, d, rfl, hf, hT, hr, lf, lt⟩ := hu.open_
  have hx' := hx
  obtain ⟨XA, xc, rfl, _, _, lx, _⟩ := hx.open_
  obtain ⟨DA, dc, rfl, _, _, ld, hd'⟩ := hd.open_
  clear hu hx hf hT hd
  obtain ⟨W, hW⟩ : ∃ W, W = w.alloc (.cells #[.int .i64 q.v, .slice A q.f.length c, .slice C q.t.length d] 26) := ⟨_, rfl⟩
  have g0 : Below w.heap.size w W := by rw [hW]; exact below_alloc _ _
  have kB : Blk W w.heap.size 26 #[.int .i64 q.v, .slice A q.f.length c, .slice C q.t.length d] := by rw [hW]; exact Blk.new _ _ _
  have c0 := kB.cell' (i := 0) rfl
  have c1 := kB.cell' (i := 1) rfl
  have c2 := kB.cell' (i := 2) rfl
  have h0 := QvR.next g0 hu'
  have hx0 := SlI.next g0 hx'
  clear hu' hx'
  rcases hq : isNum q x with _ | _
  · have hF : Hid (wordQ q x word = ([], false)) := by show _ = _; simp [wordQ, hq]
    go_enter Try.func23, Try.ntmps23
    go_wp2_with fail
    rw [← hW]; clear hW
    refine (l18Vector_any _ _ _ _ _ h0 hx0).mono ?_; rintro e w1 ⟨rfl, hb1⟩
    rw [hq]
    go_wp2
    exact bodyPost_ret (v := .tuple #[.slice (some ⟨w1.heap.size, 0, none⟩) 0 0, .bool false]) (by simp [results, go_sem]) rfl ⟨_, by rw [hF.out], by rw [hF.out]; exact IntsO.made_ _ (bthen g0 hb1).size, (bthen g0 hb1).alloc (bthen g0 hb1).size _⟩
  · obtain ⟨hq1, hq2, hq3⟩ := isNum_t.1 hq
    obtain ⟨hv1, hv2⟩ := (isQ_t.1 hq1).1
    have hxp : 0 < x.length := by omega
    have hxr : ∀ y ∈ x, I64 y := fun y hy => by have := hq3 y hy; exact ⟨by omega, by omega⟩
    clear hq1 hq2 hq3 hv1 hv2
    by_cases hl : word.length ≤ 200
    · have hl' : ¬ (200 : Int) < word.length := by omega
      have HE : Hid (wordQ q x word = wordGo q x (word.drop 0)) := by show _ = _; simp [wordQ, hq, hl]
      have HXR := Lib.hid hxr
      clear hxr
      go_enter Try.func23, Try.ntmps23
      go_wp2_with fail
      rw [← hW]; clear hW
      refine (l18Vector_any _ _ _ _ _ h0 hx0).mono ?_; rintro e w1 ⟨rfl, hb1⟩
      rw [hq]
      (go_wp2_with (at_builtin; refine Hold.stop ?_)); unfold Hold
      have ho0 : OwnI (w1.alloc (.cells #[] 3)) w1.heap.size (.slice (some ⟨w1.heap.size, 0, none⟩) 0 0) [] := OwnI.made _ rfl (Nat.le_refl _)
      refine wpList_appI rfl (.tmp 22) (.tmp 23) rfl w1.heap.size w1.heap.size (.slice (some ⟨w1.heap.size, 0, none⟩) 0 0) [] rfl ho0 _ _ _ x rfl rfl (SlI.below (below_alloc _ _) (SlI.next hb1 hx0)) (by simp; omega) (by simp) ?_
      intro v1 w2 ho2 hg2 hvv
      rw [List.nil_append] at ho2
      have hb2 : Below w1.heap.size w1 w2 := ((Below.refl _ _).alloc (Nat.le_refl _) (.cells #[] 3)).grown hg2 (by simp) (fun j hj => (ho0.lt j hj).1)
      have g2 := bthen (bthen g0 hb1) hb2
      clear hg2 hvv ho0
      have hk2 := (kB.call hb1).call hb2
      have hWb := bthen hb1 hb2
      have hs0 := g0.size
      have ho3 := ho2.lower (bthen g0 hb1).size
      have hr0 := Lib.hid h0
      clear c0 c1 c2 hb1 hb2 ho2 hxp hx0
      go_wp2
      go_loopw [8, 9] (fun a i wr => ∃ (k : Nat) (cur : List Int), k ≤ word.length ∧ i = .int .i64 k ∧ OwnI wr w.heap.size a cur ∧ Below w.heap.size w wr ∧ Below W.heap.size W wr ∧ Blk wr w.heap.size 26 #[.int .i64 q.v, .slice A q.f.length c, .slice C q.t.length d] ∧ Hid (wordQ q x word = wordGo q cur (word.drop k))) (fun _ i _ => word.length - (intOf i).toNat)
      case atStart => exact ⟨0, x, Nat.zero_le _, rfl, ho3, g2, hWb, hk2, HE⟩
      case round =>
        clear ho3 hk2 g2 hWb HE
        obtain ⟨k, cur, hk, rfl, hown, hbel, hbW, hkB, hR⟩ := hrel
        obtain ⟨OA, oc, rfl, _, _⟩ := hown.form
        have e0 := hkB.cell' (i := 0) rfl
        have e1 := hkB.cell' (i := 1) rfl
        have e2 := hkB.cell' (i := 2) rfl
        have hs1 := hbW.size
        by_cases hlt : k < word.length
        · obtain ⟨b, o, v, rfl, hb, HV, v1, hv1, hv2⟩ := SlI.at_ hd' hlt
          have v2 := bcell hbel hb v1
          have HVC := Lib.hid v1
          have hrq := QvR.more (B' := wr.heap.size) hs1 (QvR.below hbW hr0.out)
          have hst := wordGo_step (q := q) (x := cur) HV.out
          rw [← hR.out] at hst
          have HST := Lib.hid hst
          clear hst hR v1
          have hdr := drew_below wr
          have hrq' := QvR.next hdr hrq
          have hown' := hown.below hdr
          have hbel' := hbel.trans (hdr.mono hbel.size)
          have hbW' := hbW.trans (hdr.mono hs1)
          have hkB' := hkB.call hdr
          have q0 := hkB'.cell' (i := 0) rfl
          have q1 := hkB'.cell' (i := 1) rfl
          have q2 := hkB'.cell' (i := 2) rfl
          have q3 := bcell hbel' hb (show w.cell? ⟨b, o + k, none⟩ = some (.int .i64 v) from HVC.out)
          have HC := specReflectDims_any _ q _ cur v wr.drew hrq' hown'.rd ⟨hv1, hv2⟩
          obtain ⟨nx, hnx⟩ : ∃ nx, reflQ q cur v = nx := ⟨_, rfl⟩
          rw [hnx] at HC
          have HNX := Lib.hid hnx
          clear hnx
          obtain ⟨l, B⟩ := nx
          have HC := Lib.hid HC
          cases B
          · have hF : Hid (wordQ q x word = ([], false)) := by show _ = _; rw [HST.out, HNX.out]; rfl
            go_wp2_with fail
            go_region_held3 (fun W' => W'.cell? ⟨w.heap.size, 0, none⟩ = some (.int .i64 q.v) ∧ W'.cell? ⟨w.heap.size, 1, none⟩ = some (.slice A q.f.length c) ∧ W'.cell? ⟨w.heap.size, 2, none⟩ = some (.slice C q.t.length d) ∧ W'.cell? ⟨b, o + k, none⟩ = some (.int .i64 v))
              (first | exact ⟨q0, q1, q2, q3⟩ | exact ⟨z0, z1, z2, z3⟩)
              (first | (go_at_call 7; refine (unhide HC).mono ?_; rintro e w3 ⟨r, rfl, hr3, hb3⟩; have hk3 := hkB'.call hb3; have z0 := hk3.cell' (i := 0) rfl; have z1 := hk3.cell' (i := 1) rfl; have z2 := hk3.cell' (i := 2) rfl; have z3 := bcell (hbel'.trans (hb3.mono hbel'.size)) hb HVC.out))
            go_wp2
            have g9 := hbel'.trans (hb3.mono hbel'.size)
            exact bodyPost_ret (v := .tuple #[.slice (some ⟨w3.heap.size, 0, none⟩) 0 0, .bool false]) (by simp [results, go_sem]) rfl ⟨_, by rw [hF.out], by rw [hF.out]; exact IntsO.made_ _ g9.size, g9.alloc g9.size _⟩
          · have hF : Hid (wordQ q x word = wordGo q l (word.drop (k + 1))) := by show _ = _; rw [HST.out, HNX.out]; rfl
            go_wp2_with fail
            go_region_held3 (fun W' => W'.cell? ⟨w.heap.size, 0, none⟩ = some (.int .i64 q.v) ∧ W'.cell? ⟨w.heap.size, 1, none⟩ = some (.slice A q.f.length c) ∧ W'.cell? ⟨w.heap.size, 2, none⟩ = some (.slice C q.t.length d) ∧ W'.cell? ⟨b, o + k, none⟩ = some (.int .i64 v))
              (first | exact ⟨q0, q1, q2, q3⟩ | exact ⟨z0, z1, z2, z3⟩)
              (first | (go_at_call 7; refine (unhide HC).mono ?_; rintro e w3 ⟨r, rfl, hr3, hb3⟩; have hk3 := hkB'.call hb3; have z0 := hk3.cell' (i := 0) rfl; have z1 := hk3.cell' (i := 1) rfl; have z2 := hk3.cell' (i := 2) rfl; have z3 := bcell (hbel'.trans (hb3.mono hbel'.size)) hb HVC.out))
            have hW3 := hbW'.trans (hb3.mono hbW'.size)
            have hb4 := hbel'.trans (hb3.mono hbel'.size)
            have ho4 := hr3.1.lower hbel'.size
            go_wp2
            go_roundw
            case rel => exact ⟨k + 1, l, by omega, by go_num, ho4, hb4, hW3, hk3, hF.out⟩
            case measure => simp [intOf]; omega
        · have hF : Hid (wordQ q x word = (cur, true)) := by show _ = _; rw [hR.out, wordGo_end (by omega)]
          go_wp2
          exact bodyPost_ret (v := .tuple #[.slice OA cur.length oc, .bool true]) (by simp [results, go_sem]) rfl ⟨_, by rw [hF.out], by rw [hF.out]; exact IntsO.of_own hown, hbel⟩
    · have hl' : (200 : Int) < word.length := by omega
      have hF : Hid (wordQ q x word = ([], false)) := by show _ = _; simp [wordQ, hl]
      go_enter Try.func23, Try.ntmps23
      go_wp2_with fail
      rw [← hW]; clear hW
      refine (l18Vector_any _ _ _ _ _ h0 hx0).mono ?_; rintro e w1 ⟨rfl, hb1⟩
      rw [hq]
      go_wp2
      exact bodyPost_ret (v := .tuple #[.slice (some ⟨w1.heap.size, 0, none⟩) 0 0, .bool false]) (by simp [results, go_sem]) rfl ⟨_, by rw [hF.out], by rw [hF.out]; exact IntsO.made_ _ (bthen g0 hb1).size, (bthen g0 hb1).alloc (bthen g0 hb1).size _⟩
end Go.Proofs.Ytaefpblpfjhgoaa

/- The program's CoxeterPower and CoxeterOf. -/
namespace Go.Proofs.Ytaefpblpfjhgoaa
set_option linter.unusedVariables false
set_option linter.unusedSimpArgs false
open Go.RowKit

/-- a word's reflections, some times over -/
def powGo (q : Qv) (wd : List Int) : List Int → Nat → List Int × Bool
  | x, 0 => (x, true)
  | x, n + 1 => if (wordQ q x wd).2 then powGo q wd (wordQ q x wd).1 n else ([], false)
def coxP (q : Qv) (x : List Int) (n : Int) : List Int × Bool :=
  if (ordQ q).2 && isNum q x && inR n (-40) 40 then powGo q (if n < 0 then (ordQ q).1 else (ordQ q).1.reverse) x n.natAbs else ([], false)
theorem wordGo_no (q : Qv) : ∀ (wd x : List Int), (wordGo q x wd).2 = false → (wordGo q x wd).1 = []
  | [], x, h => by simp [wordGo] at h
  | v :: r, x, h => by
    unfold wordGo at h ⊢
    split
    · rename_i hb; rw [if_pos hb] at h; exact wordGo_no q r _ h
    · rfl
theorem wordQ_no {q : Qv} {x wd : List Int} (h : (wordQ q x wd).2 = false) : wordQ q x wd = ([], false) := by
  have h1 : (wordQ q x wd).1 = [] := by
    unfold wordQ at h ⊢
    split
    · rename_i hb; rw [if_pos hb] at h; exact wordGo_no q wd x h
    · rfl
  generalize wordQ q x wd = p at h h1
  obtain ⟨a, b⟩ := p
  simp only at h h1
  subst h h1
  rfl
theorem powGo_step {q : Qv} {wd x : List Int} {N k : Nat} (h : k < N) : powGo q wd x (N - k) = if (wordQ q x wd).2 then powGo q wd (wordQ q x wd).1 (N - (k + 1)) else ([], false) := by
  rw [show N - k = (N - (k + 1)) + 1 by omega, powGo]


theorem OwnI.form2 {w : World} {base : Nat} {v : Value} {l : List Int} (h : OwnI w base v l) : ∃ A c, v = .slice A l.length c := by
  obtain ⟨A, c, e, _⟩ := h.form
  exact ⟨A, c, e⟩

set_option maxHeartbeats 3200000 in
set_option maxRecDepth 20000 in
theorem implCoxeterPower_any (u : Value) (q : Qv) (xv : Value) (x : List Int) (n : Int) (w : World) (hu : QvR w w.heap.size u q) (hx : SlI w w.heap.size xv x) (hn : I64 n) :
    Calls Try.prog 15 #[u, xv, .int .i64 n] w fun e w' => ∃ r, e = .returned (.tuple #[r, .bool (coxP q x n).2]) ∧ IntsO w' w.heap.size w'.heap.size r (coxP q x n).1 ∧ Below w.heap.size w w' := by
  obtain ⟨A, c, C, d, eu⟩ := hu.form
  subst eu
  obtain ⟨XA, xc, rfl, _, _, lx, hx⟩ := hx.open_
  obtain ⟨W, hW⟩ : ∃ W, W = w.alloc (.cells #[.int .i64 q.v, .slice A q.f.length c, .slice C q.t.length d] 26) := ⟨_, rfl⟩
  have g0 : Below w.heap.size w W := by rw [hW]; exact below_alloc _ _
  have kB : Blk W w.heap.size 26 #[.int .i64 q.v, .slice A q.f.length c, .slice C q.t.length d] := by rw [hW]; exact Blk.new _ _ _
  have hlt0 : w.heap.size < W.heap.size := kB.lt
  have KB := Lib.hid kB
  have c0 := kB.cell' (i := 0) rfl
  have c1 := kB.cell' (i := 1) rfl
  have c2 := kB.cell' (i := 2) rfl
  have h0 := QvR.next g0 hu
  have hx0 := SlI.next g0 hx
  clear hu hx
  obtain ⟨ol, hol⟩ : ∃ l, (ordQ q).1 = l := ⟨_, rfl⟩
  have HOL := Lib.hid hol
  clear hol
  rcases hB1 : (ordQ q).2 with _ | _
  · have hF : Hid (coxP q x n = ([], false)) := by show _ = _; simp [coxP, hB1]
    go_enter Try.func15, Try.ntmps15
    go_wp2_with fail
    rw [← hW]; clear hW
    refine (implCoxeterOrder_any _ q _ h0).mono ?_; rintro e W9 ⟨ov, rfl, hO9, hb9⟩
    rw [HOL.out] at hO9
    obtain ⟨oA, oc, eov⟩ := hO9.1.form2
    subst eov
    rw [List.length_reverse] at hO9
    clear c0 c1 c2
    rw [hB1]
    have kB9 := kB.call hb9
    have c0 := kB9.cell' (i := 0) rfl
    have c1 := kB9.cell' (i := 1) rfl
    have c2 := kB9.cell' (i := 2) rfl
    go_wp2
    exact bodyPost_ret (v := .tuple #[.slice none 0 0, .bool false]) (by simp [results, go_sem]) rfl ⟨_, by rw [hF.out], by rw [hF.out]; exact IntsO.nil_ _ _ _, bthen g0 hb9⟩
  rcases hB2 : isNum q x with _ | _
  · have hF : Hid (coxP q x n = ([], false)) := by show _ = _; simp [coxP, hB2]
    have H2 := Lib.hid hB2
    clear hB2
    go_enter Try.func15, Try.ntmps15
    go_wp2_with fail
    rw [← hW]; clear hW
    refine (implCoxeterOrder_any _ q _ h0).mono ?_; rintro e W9 ⟨ov, rfl, hO9, hb9⟩
    rw [HOL.out] at hO9
    obtain ⟨oA, oc, eov⟩ := hO9.1.form2
    subst eov
    rw [List.length_reverse] at hO9
    clear c0 c1 c2
    rw [hB1]
    have kB9 := kB.call hb9
    have c0 := kB9.cell' (i := 0) rfl
    have c1 := kB9.cell' (i := 1) rfl
    have c2 := kB9.cell' (i := 2) rfl
    go_wp2_with fail
    refine (areNumbers_any _ _ _ _ _ (QvR.next hb9 h0) (SlI.next hb9 hx0)).mono ?_; rintro e w1 ⟨rfl, hb1⟩
    rw [H2.out]
    go_wp2
    exact bodyPost_ret (v := .tuple #[.slice none 0 0, .bool false]) (by simp [results, go_sem]) rfl ⟨_, by rw [hF.out], by rw [hF.out]; exact IntsO.nil_ _ _ _, bthen (bthen g0 hb9) hb1⟩
  rcases hB3 : inR n (-40) 40 with _ | _
  · have hF : Hid (coxP q x n = ([], false)) := by show _ = _; simp [coxP, hB3]
    have H2 := Lib.hid hB2
    have H3 := Lib.hid hB3
    clear hB2 hB3
    go_enter Try.func15, Try.ntmps15
    go_wp2_with fail
    rw [← hW]; clear hW
    refine (implCoxeterOrder_any _ q _ h0).mono ?_; rintro e W9 ⟨ov, rfl, hO9, hb9⟩
    rw [HOL.out] at hO9
    obtain ⟨oA, oc, eov⟩ := hO9.1.form2
    subst eov
    rw [List.length_reverse] at hO9
    clear c0 c1 c2
    rw [hB1]
    have kB9 := kB.call hb9
    have c0 := kB9.cell' (i := 0) rfl
    have c1 := kB9.cell' (i := 1) rfl
    have c2 := kB9.cell' (i := 2) rfl
    go_wp2_with fail
    refine (areNumbers_any _ _ _ _ _ (QvR.next hb9 h0) (SlI.next hb9 hx0)).mono ?_; rintro e w1 ⟨rfl, hb1⟩
    rw [H2.out]
    go_wp2_with fail
    refine (within_any _ _ _ _).mono ?_; rintro e w1 ⟨rfl, rfl⟩
    rw [H3.out]
    go_wp2
    exact bodyPost_ret (v := .tuple #[.slice none 0 0, .bool false]) (by simp [results, go_sem]) rfl ⟨_, by rw [hF.out], by rw [hF.out]; exact IntsO.nil_ _ _ _, bthen (bthen g0 hb9) hb1⟩
  obtain ⟨n1, n2⟩ := inR_t.1 hB3
  have HB := Lib.hid (And.intro hB1 (And.intro hB2 hB3))
  have H2 := Lib.hid hB2
  have H3 := Lib.hid hB3
  clear hB2 hB3
  by_cases hneg : n < 0
  · obtain ⟨N, hN⟩ : ∃ N : Nat, n = -(N : Int) := ⟨n.natAbs, by omega⟩
    subst hN
    have hneg' : ¬ ((N : Int) ≤ -(N : Int)) := by omega
    have hneg2 : -(N : Int) < (N : Int) := by omega
    have HP : Hid (coxP q x (-(N : Int)) = powGo q ol x (N - 0)) := by
      show _ = _
      rw [coxP, HB.out.1, HB.out.2.1, HB.out.2.2, HOL.out, if_pos hneg]
      simp
    go_enter Try.func15, Try.ntmps15
    go_wp2_with fail
    rw [← hW]; clear hW
    refine (implCoxeterOrder_any _ q _ h0).mono ?_; rintro e W9 ⟨ov, rfl, hO9, hb9⟩
    rw [HOL.out] at hO9
    obtain ⟨oA, oc, eov⟩ := hO9.1.form2
    subst eov
    rw [List.length_reverse] at hO9
    clear c0 c1 c2
    rw [hB1]
    have kB9 := kB.call hb9
    have c0 := kB9.cell' (i := 0) rfl
    have c1 := kB9.cell' (i := 1) rfl
    have c2 := kB9.cell' (i := 2) rfl
    go_wp2_with fail
    refine (areNumbers_any _ _ _ _ _ (QvR.next hb9 h0) (SlI.next hb9 hx0)).mono ?_; rintro e w1 ⟨rfl, hb1⟩
    rw [H2.out]
    go_wp2_with fail
    refine (within_any _ _ _ _).mono ?_; rintro e w1 ⟨rfl, rfl⟩
    rw [H3.out]
    go_wp2_with fail
    have hO1 := hO9.below hb1
    refine (reverse_own _ _ W.heap.size _ hO1.1).mono ?_; rintro e w2 ⟨rfl, ho2, hg2⟩
    rw [List.reverse_reverse] at ho2
    have hc2 := chg_of_grown hO1 hg2
    have hO2 : IntsO w2 W.heap.size W9.heap.size (.slice oA ol.length oc) ol := ⟨ho2, hO1.2⟩
    have gW2 : Below W.heap.size W w2 := (bthen hb9 hb1).trans (hc2.below (Nat.le_refl _) (bthen hb9 hb1).size)
    clear hO1 ho2 hg2 hc2 hO9 kB9
    go_wp2_with fail
    refine (clone_own _ x _ (SlI.next gW2 hx0)).mono ?_; rintro e w3 ⟨cv, rfl, hC, hb3⟩
    have gW := bthen gW2 hb3
    have gw : Below w.heap.size w w3 := g0.trans (gW.mono g0.size)
    have gl : w.heap.size ≤ w2.heap.size := by have := gW2.size; omega
    have hOr := hO2.below hb3
    obtain ⟨xA, xc', rfl⟩ := hC.1.form2
    clear hO2 gW2 hb3 hb9 hb1 c0 c1 c2 kB
    go_wp2
    go_loopw [10, 39] (fun a i wr => ∃ (k : Nat) (cur : List Int), k ≤ N ∧ i = .int .i64 k ∧ OwnI wr w.heap.size a cur ∧ Below w.heap.size w wr ∧ Below W.heap.size W wr ∧ IntsO wr W.heap.size W9.heap.size (.slice oA ol.length oc) ol ∧ Hid (coxP q x (-(N : Int)) = powGo q ol cur (N - k))) (fun _ i _ => N - (intOf i).toNat)
    case atStart => exact ⟨0, x, Nat.zero_le _, rfl, hC.1.lower gl, gw, gW, hOr, HP.out⟩
    case round =>
      clear hC gw gW hOr HP
      obtain ⟨k, cur, hk, rfl, hown, hbel, hbW, hord, hR⟩ := hrel
      have kB := KB.out.below hbW hlt0
      have c0 := kB.cell' (i := 0) rfl
      have c1 := kB.cell' (i := 1) rfl
      have c2 := kB.cell' (i := 2) rfl
      obtain ⟨OA, oc', rfl, _, _⟩ := hown.form
      have hbs := hbW.size
      clear kB
      by_cases hlt : k < N
      · have hst := powGo_step (q := q) (wd := ol) (x := cur) hlt
        rw [← hR.out] at hst
        have HST := Lib.hid hst
        clear hst hR
        have HC := implReflectWord_any _ q _ cur _ ol wr (QvR.next hbW h0) hown.rd hord.rd
        obtain ⟨nx, hnx⟩ : ∃ nx, wordQ q cur ol = nx := ⟨_, rfl⟩
        rw [hnx] at HC
        have HNX := Lib.hid hnx
        clear hnx
        obtain ⟨l, B⟩ := nx
        have HC := Lib.hid HC
        cases B
        · have hF : Hid (coxP q x (-(N : Int)) = ([], false)) := by show _ = _; rw [HST.out, HNX.out]; rfl
          go_wp2_with fail
          refine (unhide HC).mono ?_; rintro e w3 ⟨r, rfl, hr3, hb3⟩
          go_wp2
          exact bodyPost_ret (v := .tuple #[.slice none 0 0, .bool false]) (by simp [results, go_sem]) rfl ⟨_, by rw [hF.out], by rw [hF.out]; exact IntsO.nil_ _ _ _, hbel.trans (hb3.mono hbel.size)⟩
        · have hF : Hid (coxP q x (-(N : Int)) = powGo q ol l (N - (k + 1))) := by show _ = _; rw [HST.out, HNX.out]; rfl
          go_wp2_with fail
          refine (unhide HC).mono ?_; rintro e w3 ⟨r, rfl, hr3, hb3⟩
          have hW3 := bthen hbW hb3
          have hb4 := hbel.trans (hb3.mono hbel.size)
          have ho4 := hr3.1.lower hbel.size
          have hord3 := hord.below hb3
          clear hr3 hb3 hord hown
          go_wp2
          go_roundw
          case rel => exact ⟨k + 1, l, by omega, by go_num, ho4, hb4, hW3, hord3, hF.out⟩
          case measure => simp [intOf]; omega
      · have hF : Hid (coxP q x (-(N : Int)) = (cur, true)) := by show _ = _; rw [hR.out, show N - k = 0 by omega, powGo]
        go_wp2
        exact bodyPost_ret (v := .tuple #[.slice OA cur.length oc', .bool true]) (by simp [results, go_sem]) rfl ⟨_, by rw [hF.out], by rw [hF.out]; exact IntsO.of_own hown, hbel⟩
  · obtain ⟨N, hN⟩ : ∃ N : Nat, n = (N : Int) := ⟨n.natAbs, by omega⟩
    subst hN
    have HP : Hid (coxP q x (N : Int) = powGo q ol.reverse x (N - 0)) := by
      show _ = _
      rw [coxP, HB.out.1, HB.out.2.1, HB.out.2.2, HOL.out, if_neg hneg]
      simp
    go_enter Try.func15, Try.ntmps15
    go_wp2_with fail
    rw [← hW]; clear hW
    refine (implCoxeterOrder_any _ q _ h0).mono ?_; rintro e W9 ⟨ov, rfl, hO9, hb9⟩
    rw [HOL.out] at hO9
    obtain ⟨oA, oc, eov⟩ := hO9.1.form2
    subst eov
    rw [List.length_reverse] at hO9
    clear c0 c1 c2
    rw [hB1]
    have kB9 := kB.call hb9
    have c0 := kB9.cell' (i := 0) rfl
    have c1 := kB9.cell' (i := 1) rfl
    have c2 := kB9.cell' (i := 2) rfl
    go_wp2_with fail
    refine (areNumbers_any _ _ _ _ _ (QvR.next hb9 h0) (SlI.next hb9 hx0)).mono ?_; rintro e w1 ⟨rfl, hb1⟩
    rw [H2.out]
    go_wp2_with fail
    refine (within_any _ _ _ _).mono ?_; rintro e w1 ⟨rfl, rfl⟩
    rw [H3.out]
    have hO2 := hO9.below hb1
    have gW2 := bthen hb9 hb1
    go_wp2_with fail
    refine (clone_own _ x _ (SlI.next gW2 hx0)).mono ?_; rintro e w3 ⟨cv, rfl, hC, hb3⟩
    have gW := bthen gW2 hb3
    have gw : Below w.heap.size w w3 := g0.trans (gW.mono g0.size)
    have gl : w.heap.size ≤ w1.heap.size := by have := gW2.size; omega
    have hOr := hO2.below hb3
    obtain ⟨xA, xc', rfl⟩ := hC.1.form2
    clear hO2 gW2 hb3 hb9 hb1 c0 c1 c2 kB hO9 kB9
    go_wp2
    go_loopw [10, 39] (fun a i wr => ∃ (k : Nat) (cur : List Int), k ≤ N ∧ i = .int .i64 k ∧ OwnI wr w.heap.size a cur ∧ Below w.heap.size w wr ∧ Below W.heap.size W wr ∧ IntsO wr W.heap.size W9.heap.size (.slice oA ol.length oc) ol.reverse ∧ Hid (coxP q x (N : Int) = powGo q ol.reverse cur (N - k))) (fun _ i _ => N - (intOf i).toNat)
    case atStart => exact ⟨0, x, Nat.zero_le _, rfl, hC.1.lower gl, gw, gW, hOr, HP.out⟩
    case round =>
      clear hC gw gW hOr HP
      obtain ⟨k, cur, hk, rfl, hown, hbel, hbW, hord, hR⟩ := hrel
      have kB := KB.out.below hbW hlt0
      have c0 := kB.cell' (i := 0) rfl
      have c1 := kB.cell' (i := 1) rfl
      have c2 := kB.cell' (i := 2) rfl
      obtain ⟨OA, oc', rfl, _, _⟩ := hown.form
      have hbs := hbW.size
      clear kB
      by_cases hlt : k < N
      · have hst := powGo_step (q := q) (wd := ol.reverse) (x := cur) hlt
        rw [← hR.out] at hst
        have HST := Lib.hid hst
        clear hst hR
        have HC := implReflectWord_any _ q _ cur _ ol.reverse wr (QvR.next hbW h0) hown.rd hord.rd
        obtain ⟨nx, hnx⟩ : ∃ nx, wordQ q cur ol.reverse = nx := ⟨_, rfl⟩
        rw [hnx] at HC
        have HNX := Lib.hid hnx
        clear hnx
        obtain ⟨l, B⟩ := nx
        have HC := Lib.hid HC
        cases B
        · have hF : Hid (coxP q x (N : Int) = ([], false)) := by show _ = _; rw [HST.out, HNX.out]; rfl
          go_wp2_with fail
          refine (unhide HC).mono ?_; rintro e w3 ⟨r, rfl, hr3, hb3⟩
          go_wp2
          exact bodyPost_ret (v := .tuple #[.slice none 0 0, .bool false]) (by simp [results, go_sem]) rfl ⟨_, by rw [hF.out], by rw [hF.out]; exact IntsO.nil_ _ _ _, hbel.trans (hb3.mono hbel.size)⟩
        · have hF : Hid (coxP q x (N : Int) = powGo q ol.reverse l (N - (k + 1))) := by show _ = _; rw [HST.out, HNX.out]; rfl
          go_wp2_with fail
          refine (unhide HC).mono ?_; rintro e w3 ⟨r, rfl, hr3, hb3⟩
          have hW3 := bthen hbW hb3
          have hb4 := hbel.trans (hb3.mono hbel.size)
          have ho4 := hr3.1.lower hbel.size
          have hord3 := hord.below hb3
          clear hr3 hb3 hord hown
          go_wp2
          go_roundw
          case rel => exact ⟨k + 1, l, by omega, by go_num, ho4, hb4, hW3, hord3, hF.out⟩
          case measure => simp [intOf]; omega
      · have hF : Hid (coxP q x (N : Int) = (cur, true)) := by show _ = _; rw [hR.out, show N - k = 0 by omega, powGo]
        go_wp2
        exact bodyPost_ret (v := .tuple #[.slice OA cur.length oc', .bool true]) (by simp [results, go_sem]) rfl ⟨_, by rw [hF.out], by rw [hF.out]; exact IntsO.of_own hown, hbel⟩

set_option maxHeartbeats 800000 in
theorem implCoxeterOf_any (u : Value) (q : Qv) (xv : Value) (x : List Int) (w : World) (hu : QvR w w.heap.size u q) (hx : SlI w w.heap.size xv x) :
    Calls Try.prog 11 #[u, xv] w fun e w' => ∃ r, e = .returned (.tuple #[r, .bool (coxP q x 1).2]) ∧ IntsO w' w.heap.size w'.heap.size r (coxP q x 1).1 ∧ Below w.heap.size w w' := by
  obtain ⟨A, c, C, d, eu⟩ := hu.form
  subst eu
  obtain ⟨W, hW⟩ : ∃ W, W = w.alloc (.cells #[.int .i64 q.v, .slice A q.f.length c, .slice C q.t.length d] 26) := ⟨_, rfl⟩
  have g0 : Below w.heap.size w W := by rw [hW]; exact below_alloc _ _
  have kB : Blk W w.heap.size 26 #[.int .i64 q.v, .slice A q.f.length c, .slice C q.t.length d] := by rw [hW]; exact Blk.new _ _ _
  have c0 := kB.cell' (i := 0) rfl
  have c1 := kB.cell' (i := 1) rfl
  have c2 := kB.cell' (i := 2) rfl
  have gs := g0.size
  go_enter Try.func11, Try.ntmps11
  go_wp2_with fail
  rw [← hW]; clear hW
  refine (implCoxeterPower_any _ q _ x 1 _ (QvR.next g0 hu) (SlI.next g0 hx) (by simp [I64])).mono ?_; rintro e w1 ⟨r, rfl, hr, hb1⟩
  obtain ⟨rA, rc, rfl⟩ := hr.1.form2
  go_wp2
  exact bodyPost_ret (v := .tuple #[.slice rA (coxP q x 1).1.length rc, .bool (coxP q x 1).2]) (by simp [results, go_sem]) rfl ⟨_, rfl, hr.wider gs (Nat.le_refl _), bthen g0 hb1⟩
end Go.Proofs.Ytaefpblpfjhgoaa

/- Knitting, plain: the orbit of a projective under the inverse of the Coxeter map leaves the positive vectors within twenty steps. -/
namespace Go.Proofs.Ytaefpblpfjhgoaa
set_option linter.unusedVariables false
set_option linter.unusedSimpArgs false
open Go.RowKit

/-! ### reflections of vectors -/
def rfF (n : Nat) (g : Nat → Nat → Int) (x : Nat → Int) (v : Nat) : Nat → Int := mvF x v (sm n fun b => g v b * x b)
def wF (n : Nat) (g : Nat → Nat → Int) : (Nat → Int) → List Nat → Nat → Int
  | x, [] => x
  | x, v :: r => wF n g (rfF n g x v) r
theorem wF_out {n : Nat} {g : Nat → Nat → Int} {v : Nat} : ∀ (r : List Nat) (x : Nat → Int), v ∉ r → wF n g x r v = x v
  | [], _, _ => rfl
  | u :: r, x, h => by
    rw [List.mem_cons, not_or] at h
    rw [wF, wF_out r _ h.2, rfF, mvF, if_neg h.1]
def itF (n : Nat) (g : Nat → Nat → Int) (r : List Nat) (x : Nat → Int) : Nat → Nat → Int
  | 0 => x
  | k + 1 => wF n g (itF n g r x k) r
/-! ### lists -/
def itL (q : Qv) (x : List Int) : Nat → List Int
  | 0 => x
  | k + 1 => (coxP q (itL q x k) (-1)).1
def posL (x : List Int) : Bool := nnL x && x.any fun y => decide (0 < y)
/-! ### the row -/
def knGo (q : Qv) : Nat → List Int → List (List Int)
  | 0, _ => []
  | n + 1, x => if nnL x then x :: knGo q n (coxP q x (-1)).1 else []
def knQ (q : Qv) (v : Int) : List (List Int) × Bool := if kindQ q = 1 ∧ inR v 0 (q.v - 1) = true then (knGo q 40 (dmP q v), true) else ([], false)
end Go.Proofs.Ytaefpblpfjhgoaa

/- Null vectors: plain part; powers. -/
namespace Go.Proofs.Ytaefpblpfjhgoaa
set_option linter.unusedVariables false
set_option linter.unusedSimpArgs false
open Go.RowKit

theorem sum_set : ∀ (l : List Int) (i : Nat) (x : Int), i < l.length → (l.set i x).sum = l.sum - l.getD i 0 + x
  | [], i, x, h => by simp at h
  | a :: r, 0, x, _ => by simp; omega
  | a :: r, i + 1, x, h => by
    rw [List.set_cons_succ, List.sum_cons, List.sum_cons, sum_set r i x (by simpa using h)]
    simp; omega
theorem bxV_small (m N k : Nat) (hm : m ≤ 100) : smallV 100 (bxV m N k) := fun y hy => by have := bxV_rng hy; omega
/-- the last j numbers of the k-th vector, zeros ahead -/
def bxP (m N k j : Nat) : List Int := (List.range N).map fun i => if N ≤ i + j then ((k / (m + 1) ^ (N - 1 - i) % (m + 1) : Nat) : Int) else 0
theorem bxP_length (m N k j : Nat) : (bxP m N k j).length = N := by simp [bxP]
theorem bxP_0 (m N k : Nat) : bxP m N k 0 = List.replicate N 0 := by
  apply List.ext_getElem (by simp [bxP])
  intro i h1 h2
  have : i < N := by simpa [bxP] using h1
  simp [bxP]; omega
theorem bxP_N (m N k : Nat) : bxP m N k N = bxV m N k := by
  apply List.ext_getElem (by simp [bxP, bxV])
  intro i h1 h2
  simp [bxP, bxV]
theorem bxP_at {m N k j : Nat} (hj : j < N) : (bxP m N k j).getD (N - 1 - j) 0 = 0 := by
  rw [bxP, List.getD_eq_getElem?_getD, List.getElem?_map, List.getElem?_range (by omega)]
  simp only [Option.map_some, Option.getD_some]
  rw [if_neg (by omega)]
theorem bxP_step {m N k j : Nat} (hj : j < N) : (bxP m N k j).set (N - 1 - j) ((k / (m + 1) ^ j % (m + 1) : Nat) : Int) = bxP m N k (j + 1) := by
  apply List.ext_getElem (by simp [bxP])
  intro i h1 h2
  have hi : i < N := by simpa [bxP] using h2
  rw [List.getElem_set]
  simp only [bxP, List.getElem_map, List.getElem_range]
  by_cases e : N - 1 - j = i
  · rw [if_pos e, if_pos (by omega), show N - 1 - i = j by omega]
  · rw [if_neg e]
    by_cases h : N ≤ i + j
    · rw [if_pos h, if_pos (by omega)]
    · rw [if_neg h, if_neg (by omega)]
theorem bxP_sum {m N k j : Nat} (hj : j < N) : (bxP m N k (j + 1)).sum = (bxP m N k j).sum + ((k / (m + 1) ^ j % (m + 1) : Nat) : Int) := by
  rw [← bxP_step hj, sum_set _ _ _ (by rw [bxP_length]; omega), bxP_at hj]; omega
theorem bxP_rng (m N k : Nat) : ∀ j, j ≤ N → 0 ≤ (bxP m N k j).sum ∧ (bxP m N k j).sum ≤ (j : Int) * m
  | 0, _ => by
    rw [bxP_0]
    have : ∀ n, (List.replicate n (0 : Int)).sum = 0 := fun n => by induction n with | zero => rfl | succ n ih => simp [List.replicate_succ]
    rw [this]; simp
  | j + 1, hj => by
    have ih := bxP_rng m N k j (by omega)
    rw [bxP_sum (by omega)]
    have := Nat.mod_lt (k / (m + 1) ^ j) (show 0 < m + 1 by omega)
    have e : ((j + 1 : Nat) : Int) * m = (j : Int) * m + m := by rw [Int.natCast_add, Int.add_mul]; simp
    omega
theorem bxV_sum (m N k : Nat) : 0 ≤ (bxV m N k).sum ∧ (bxV m N k).sum ≤ (N : Int) * m := by rw [← bxP_N]; exact bxP_rng m N k N (Nat.le_refl _)
theorem bxP_sum0 {m N k : Nat} : ∀ j, j ≤ N → (bxP m N k j).sum = 0 → k % (m + 1) ^ j = 0
  | 0, _, _ => by simp [Nat.mod_one]
  | j + 1, hj, h => by
    have h1 := bxP_rng m N k j (by omega)
    rw [bxP_sum (by omega)] at h
    have h2 := bxP_sum0 (m := m) (N := N) (k := k) j (by omega) (by omega)
    rw [mod_pow_succ, h2, show k / (m + 1) ^ j % (m + 1) = 0 by omega]; simp
theorem bxV_pos {m N k : Nat} (h0 : 0 < k) (hk : k < (m + 1) ^ N) : 0 < (bxV m N k).sum := by
  have h1 := bxV_sum m N k
  rcases Int.lt_or_le 0 (bxV m N k).sum with h | h
  · exact h
  · have h2 := bxP_sum0 (m := m) (N := N) (k := k) N (Nat.le_refl _) (by rw [bxP_N]; omega)
    rw [Nat.mod_eq_of_lt hk] at h2
    omega
theorem bxV_0sum (m N : Nat) : (bxV m N 0).sum = 0 := by
  rw [bxV_0]
  have : ∀ n, (List.replicate n (0 : Int)).sum = 0 := fun n => by induction n with | zero => rfl | succ n ih => simp [List.replicate_succ]
  exact this N

/-- the best null vector among the first k of the box -/
def nvB (q : Qv) (V : Nat) : Nat → List Int
  | 0 => []
  | k + 1 => if 0 < (bxV 4 V k).sum ∧ eul q (bxV 4 V k) (bxV 4 V k) = 0 ∧ (nvB q V k = [] ∨ (bxV 4 V k).sum < (nvB q V k).sum) then bxV 4 V k else nvB q V k
theorem nvB_1 (q : Qv) (V : Nat) : nvB q V 1 = [] := by
  rw [nvB, if_neg]; · rfl
  rw [bxV_0sum]; simp
theorem nvB_or (q : Qv) (V : Nat) : ∀ k, nvB q V k = [] ∨ ∃ c, nvB q V k = bxV 4 V c
  | 0 => .inl rfl
  | k + 1 => by
    rw [nvB]
    split
    · exact .inr ⟨k, rfl⟩
    · exact nvB_or q V k
theorem nvB_len (q : Qv) (V k : Nat) : (nvB q V k).length ≤ V := by
  rcases nvB_or q V k with h | ⟨c, h⟩ <;> rw [h]
  · simp
  · rw [bxV_length]; omega
theorem nvB_rng (q : Qv) (V k : Nat) : 0 ≤ (nvB q V k).sum ∧ (nvB q V k).sum ≤ (V : Int) * 4 := by
  rcases nvB_or q V k with h | ⟨c, h⟩ <;> rw [h]
  · simp; omega
  · exact bxV_sum 4 V c
theorem nvB_i64 (q : Qv) (V k : Nat) : smallV 100 (nvB q V k) := by
  rcases nvB_or q V k with h | ⟨c, h⟩ <;> rw [h]
  · intro y hy; simp at hy
  · exact bxV_small 4 V c (by omega)
def nvQ (q : Qv) : List Int × Bool := if kindQ q = 2 then (nvB q q.v.toNat (5 ^ q.v.toNat), decide (0 < (nvB q q.v.toNat (5 ^ q.v.toNat)).length)) else ([], false)
theorem isNum_bx {q : Qv} (hq : isQ q = true) (k : Nat) : isNum q (bxV 4 q.v.toNat k) = true :=
  isNum_t.2 ⟨hq, by rw [bxV_length]; have := (isQ_t.1 hq).1; omega, bxV_small 4 _ k (by omega)⟩

set_option maxHeartbeats 400000 in
theorem l5Power_any (p n : Nat) (w : World) (hp : p ≤ 9) (hn : n ≤ 10) :
    Calls Try.prog 78 #[.int .i64 p, .int .i64 n] w fun e w' => e = .returned (.int .i64 ((p ^ n : Nat) : Int)) ∧ w' = w := by
  have hb : ∀ k, k ≤ n → p ^ k ≤ 9 ^ 10 := fun k hk => Nat.le_trans (Nat.pow_le_pow_left hp k) (Nat.pow_le_pow_right (by omega) (by omega))
  go_enter Try.func78, Try.ntmps78
  go_wp2
  go_loop [5, 6] (fun s i => ∃ k : Nat, k ≤ n ∧ i = .int .i64 k ∧ s = .int .i64 ((p ^ k : Nat) : Int)) (fun _ i => n - (intOf i).toNat)
  case atStart => exact ⟨0, Nat.zero_le _, rfl, by simp⟩
  case round =>
    obtain ⟨k, hk, rfl, rfl⟩ := hrel
    have h1 := hb k hk
    by_cases hlt : k < n
    · have h2 := hb (k + 1) (by omega)
      obtain ⟨P, hP⟩ : ∃ P, p ^ k = P := ⟨_, rfl⟩
      have h3 : p ^ (k + 1) = P * p := by rw [Nat.pow_succ, hP]
      rw [hP] at h1 ⊢
      rw [h3] at h2
      have H3 := Lib.hid h3
      obtain ⟨R, hR⟩ : ∃ R, P * p = R := ⟨_, rfl⟩
      rw [hR] at h2 H3
      have hm : wrap64 ((P : Int) * (p : Int)) = (R : Int) := by rw [← Int.natCast_mul, hR]; unfold wrap64; omega
      clear hP h3 hR
      go_wp2
      go_round
      case rel => exact ⟨k + 1, by omega, by go_num, by rw [H3.out, hm]⟩
      case measure => simp [intOf]; omega
    · obtain rfl : k = n := by omega
      go_wp2
      go_ret
      exact ⟨rfl, rfl⟩
end Go.Proofs.Ytaefpblpfjhgoaa

/- Quivers that are not wild, plain: the symmetric form takes no negative value; its null vectors are orthogonal to all. -/
namespace Go.Proofs.Ytaefpblpfjhgoaa
set_option linter.unusedVariables false
set_option linter.unusedSimpArgs false
open Go.RowKit

def dL (L : List Nat) (g : Nat → Nat → Int) : Int := detL L.length (L.map fun a => L.map (g a))
theorem dL_s (s n : Nat) (g : Nat → Nat → Int) : dtS s n g = dL (bitL s n) g := rfl
theorem dL_1 (g S : Nat → Nat → Int) (z a : Nat) (hS : ∀ i j, S i j = g z z * g i j - g i z * g z j) : dL [a] S = dL [z, a] g := by
  simp [dL, detL, dsF, sgK, fst0, mnr, cutR, hS]
  grind
theorem dL_2 (g S : Nat → Nat → Int) (z a b : Nat) (hS : ∀ i j, S i j = g z z * g i j - g i z * g z j) : dL [a, b] S = g z z * dL [z, a, b] g := by
  simp [dL, detL, dsF, sgK, fst0, mnr, cutR, hS]
  grind
theorem dL_3 (g S : Nat → Nat → Int) (z a b c : Nat) (hS : ∀ i j, S i j = g z z * g i j - g i z * g z j) : dL [a, b, c] S = g z z * (g z z * dL [z, a, b, c] g) := by
  simp [dL, detL, dsF, sgK, fst0, mnr, cutR, hS]
  grind
set_option maxHeartbeats 4000000 in
theorem dL_4 (g S : Nat → Nat → Int) (z a b c d : Nat) (hS : ∀ i j, S i j = g z z * g i j - g i z * g z j) : dL [a, b, c, d] S = g z z * (g z z * (g z z * dL [z, a, b, c, d] g)) := by
  simp [dL, detL, dsF, sgK, fst0, mnr, cutR, hS]
  grind
theorem dL_map (L : List Nat) (g : Nat → Nat → Int) (f : Nat → Nat) : dL (L.map f) g = dL L fun a b => g (f a) (f b) := by
  simp only [dL, List.length_map, List.map_map]
  congr 1
theorem dL_len {L : List Nat} {n : Nat} (hl : L.length ≤ n) (hn : n ≤ 4) (h0 : L ≠ []) (g S : Nat → Nat → Int) (z : Nat) (hS : ∀ i j, S i j = g z z * g i j - g i z * g z j) (hz : 0 ≤ g z z) (hd : 0 ≤ dL (z :: L) g) : 0 ≤ dL L S := by
  match L, h0, hl with
  | [a], _, _ => rw [dL_1 g S z a hS]; exact hd
  | [a, b], _, _ => rw [dL_2 g S z a b hS]; exact Int.mul_nonneg hz hd
  | [a, b, c], _, _ => rw [dL_3 g S z a b c hS]; exact Int.mul_nonneg hz (Int.mul_nonneg hz hd)
  | [a, b, c, d], _, _ => rw [dL_4 g S z a b c d hS]; exact Int.mul_nonneg hz (Int.mul_nonneg hz (Int.mul_nonneg hz hd))
  | a :: b :: c :: d :: e :: r, _, hl => simp at hl; omega
theorem bitL_odd : ∀ n, n ≤ 4 → ∀ s, s < 2 ^ n → bitL (2 * s + 1) (n + 1) = 0 :: (bitL s n).map (· + 1) := by decide +kernel
theorem bitL_even : ∀ n, n ≤ 4 → ∀ s, s < 2 ^ n → bitL (2 * s) (n + 1) = (bitL s n).map (· + 1) := by decide +kernel
theorem bitL_ne : ∀ n, n ≤ 4 → ∀ s, s < 2 ^ n → 1 ≤ s → bitL s n ≠ [] := by decide +kernel
theorem bitL_le (s n : Nat) : (bitL s n).length ≤ n := by
  have := List.length_filter_le (bitT s) (List.range n)
  simpa [bitL] using this
/-- **A form without negative minors takes no negative value.** -/
theorem psd : ∀ (n : Nat), n ≤ 5 → ∀ g : Nat → Nat → Int, (∀ a b, g a b = g b a) → (∀ s, 1 ≤ s → s < 2 ^ n → 0 ≤ dtS s n g) → ∀ x : Nat → Int, 0 ≤ bil n g x x
  | 0, _, _, _, _, _ => by simp [bil, sm]
  | n + 1, hn, g, hs, hd, x => by
    have hp : 2 ^ (n + 1) = 2 * 2 ^ n := by rw [Nat.pow_succ]; omega
    have hp0 : 0 < 2 ^ n := Nat.pow_pos (by decide)
    have h00 : 0 ≤ g 0 0 := by
      have := hd (2 ^ 0) (by decide) (by omega)
      rwa [dtS_1 hn (by omega)] at this
    rcases Int.lt_or_eq_of_le h00 with hpos | hz
    · have ih := psd n (by omega) (fun a b => g 0 0 * g (a + 1) (b + 1) - g (a + 1) 0 * g 0 (b + 1)) (fun a b => by rw [hs (a + 1) (b + 1), hs (a + 1) 0, hs 0 (b + 1)]; grind) (fun s h1 h2 => by
        have h := hd (2 * s + 1) (by omega) (by omega)
        rw [dL_s, bitL_odd n (by omega) s h2] at h
        rw [dL_s]
        have e : dL (bitL s n) (fun a b => g 0 0 * g (a + 1) (b + 1) - g (a + 1) 0 * g 0 (b + 1)) = dL ((bitL s n).map (· + 1)) (fun a b => g 0 0 * g a b - g a 0 * g 0 b) := (dL_map _ (fun a b => g 0 0 * g a b - g a 0 * g 0 b) (· + 1)).symm
        rw [e]
        exact dL_len (n := n) (by rw [List.length_map]; exact bitL_le s n) (by omega) (by simpa using bitL_ne n (by omega) s h2 h1) g _ 0 (fun i j => rfl) h00 h) (fun i => x (i + 1))
      have hb := bil_split n g hs x
      have hsq := sq_nonneg (g 0 0 * x 0 + sm n fun b => g 0 (b + 1) * x (b + 1))
      rcases Int.lt_or_le (bil (n + 1) g x x) 0 with hneg | h
      · have := Int.mul_neg_of_pos_of_neg hpos hneg
        omega
      · exact h
    · have hz' : g 0 0 = 0 := hz.symm
      have hzz : ∀ b, b < n → g 0 (b + 1) = 0 := fun b hb => by
        have h := hd (2 ^ 0 + 2 ^ (b + 1)) (Nat.le_add_right 1 _) (by
          have : 2 ^ (b + 1) ≤ 2 ^ n := Nat.pow_le_pow_right (by decide) (by omega)
          have h2 : 2 ≤ 2 ^ n := by have : 2 ^ 1 ≤ 2 ^ n := Nat.pow_le_pow_right (by decide) (by omega); omega
          rw [hp]; omega)
        rw [dtS_2 hn (by omega) (by omega), hz', hs (b + 1) 0] at h
        rcases Classical.em (g 0 (b + 1) = 0) with h0 | h0
        · exact h0
        · have := sq_pos h0; omega
      have ih := psd n (by omega) (fun a b => g (a + 1) (b + 1)) (fun a b => hs _ _) (fun s h1 h2 => by
        have h := hd (2 * s) (by omega) (by omega)
        rw [dL_s, bitL_even n (by omega) s h2, dL_map] at h
        exact h) (fun i => x (i + 1))
      have e : bil (n + 1) g x x = bil n (fun a b => g (a + 1) (b + 1)) (fun i => x (i + 1)) (fun i => x (i + 1)) := by
        rw [bil_row, bil_row, sm_front, sm_front, hz', sm_congr (f := fun i => g 0 (i + 1) * x (i + 1)) (g := fun _ => 0) n fun b hb => by rw [hzz b hb]; simp, sm_zero]
        simp only [Int.zero_mul, Int.add_zero, Int.mul_zero, Int.zero_add]
        apply sm_congr; intro i hi
        rw [sm_front, hs (i + 1) 0, hzz i hi, Int.zero_mul, Int.zero_add]
      rw [e]; exact ih
/-- a null vector of such a form is orthogonal to all -/
theorem psd_null {n : Nat} {g : Nat → Nat → Int} (hs : ∀ a b, g a b = g b a) (hp : ∀ x : Nat → Int, 0 ≤ bil n g x x) {d : Nat → Int} (hd : bil n g d d = 0) (y : Nat → Int) : bil n g d y = 0 := by
  have key : ∀ t : Int, 0 ≤ bil n g y y - 2 * t * bil n g d y := fun t => by
    have h := hp (fun i => y i - t * d i)
    rw [bil_subl n g y (fun i => t * d i), bil_mull, bil_symm hs y, bil_symm hs d, bil_subl n g y (fun i => t * d i), bil_subl n g y (fun i => t * d i), bil_mull, bil_mull, hd, bil_symm hs y d] at h
    grind
  obtain ⟨B, hB⟩ : ∃ B, bil n g d y = B := ⟨_, rfl⟩
  obtain ⟨Y, hY⟩ : ∃ Y, bil n g y y = Y := ⟨_, rfl⟩
  rw [hB, hY] at key
  rw [hB]
  have h1 := key (Y * B + B)
  have hY0 : 0 ≤ Y := hY ▸ hp y
  rcases Classical.em (B = 0) with h0 | h0
  · exact h0
  · exfalso
    have h2 := sq_pos h0
    have h3 : Y * 1 ≤ Y * (B * B) := Int.mul_le_mul_of_nonneg_left (by omega) hY0
    have h4 : 2 * (Y * B + B) * B = 2 * (Y * (B * B)) + 2 * (B * B) := by grind
    omega
theorem kdGo_t (n : Nat) (g : Nat → Nat → Int) : ∀ m s k, kdGo n g m s k ≠ 3 → ∀ t, s ≤ t → t < s + m → 0 ≤ dtS t n g
  | 0, s, k, _, t, h1, h2 => by omega
  | m + 1, s, k, h, t, h1, h2 => by
    simp only [kdGo] at h
    split at h
    · omega
    · rename_i hd
      by_cases e : t = s
      · rw [e]; exact Int.not_lt.1 hd
      · exact kdGo_t n g m (s + 1) _ h t (by omega) (by omega)
theorem kind_psd {q : Qv} (hk : kindQ q = 2) (x : Nat → Int) : 0 ≤ bil q.v.toNat (ent q q.f.length) x x := by
  have hq : isQ q = true := by
    rcases h : isQ q with _ | _
    · simp [kindQ, h] at hk
    · rfl
  have hv := (isQ_t.1 hq).1
  refine psd _ (by omega) _ (ent_symm q) (fun s h1 h2 => ?_) x
  rw [kindQ, if_pos hq] at hk
  have h3 : kdGo q.v.toNat (ent q q.f.length) (2 ^ q.v.toNat - 1) 1 1 ≠ 3 := by rw [hk]; decide
  exact kdGo_t _ _ _ _ _ h3 s h1 (by omega)
theorem nvB_null (q : Qv) (V : Nat) : ∀ k, nvB q V k = [] ∨ eul q (nvB q V k) (nvB q V k) = 0
  | 0 => .inl rfl
  | k + 1 => by
    rw [nvB]
    split
    · rename_i h; exact .inr h.2.1
    · exact nvB_null q V k
/-- the two halves of the symmetric form -/
theorem ent_eul2 {q : Qv} (hq : isQ q = true) (x y : List Int) : ∀ k, k ≤ q.f.length → bil q.v.toNat (ent q k) (vx x) (vx y) = (eulV x y q.v.toNat - eulA q x y k) + (eulV y x q.v.toNat - eulA q y x k)
  | 0, _ => by
    rw [bil_congr (h := fun a b => if a = b then 2 else 0) (x' := vx x) (y' := vx y) (fun a b _ _ => ent_zero q a b) (fun _ _ => rfl) (fun _ _ => rfl), bil_idn]
    have : eulV y x q.v.toNat = eulV x y q.v.toNat := by unfold eulV; apply sm_congr; intro i _; exact Int.mul_comm _ _
    rw [this]
    simp only [eulV, eulA, sm]; omega
  | k + 1, hk => by
    obtain ⟨_, hl, _, hf, ht⟩ := isQ_t.1 hq
    have h1 : q.f[k]? = some q.f[k] := List.getElem?_eq_getElem (by omega)
    have h2 : q.t[k]? = some q.t[k] := List.getElem?_eq_getElem (by omega)
    have r1 := hf _ (List.mem_of_getElem? h1)
    have r2 := ht _ (List.mem_of_getElem? h2)
    obtain ⟨u, hu⟩ : ∃ u : Nat, q.f[k] = (u : Int) := ⟨q.f[k].toNat, by omega⟩
    obtain ⟨v, hv⟩ : ∃ v : Nat, q.t[k] = (v : Int) := ⟨q.t[k].toNat, by omega⟩
    rw [hu] at h1 r1
    rw [hv] at h2 r2
    have e1 : vx q.f k = u := by rw [vx, List.getD_eq_getElem?_getD, h1]; rfl
    have e2 : vx q.t k = v := by rw [vx, List.getD_eq_getElem?_getD, h2]; rfl
    rw [bil_congr (h := fun a b => (ent q k a b - (if a = u ∧ b = v then 1 else 0)) - (if a = v ∧ b = u then 1 else 0)) (x' := vx x) (y' := vx y) (fun a b _ _ => ent_succ h1 h2 a b) (fun _ _ => rfl) (fun _ _ => rfl)]
    rw [bil_gsub _ (fun a b => ent q k a b - (if a = u ∧ b = v then 1 else 0)), bil_gsub _ (ent q k), ent_eul2 hq x y k (by omega), bil_ind (by omega) (by omega), bil_ind (by omega) (by omega)]
    simp only [eulA, sm, e1, e2, Int.toNat_natCast]
    grind
theorem eul_two {q : Qv} (hq : isQ q = true) (x y : List Int) : bil q.v.toNat (ent q q.f.length) (vx x) (vx y) = eul q x y + eul q y x := ent_eul2 hq x y _ (Nat.le_refl _)
/-- the null vector is orthogonal to all -/
theorem nvQ_orth {q : Qv} (h : (nvQ q).2 = true) (y : List Int) : eul q (nvQ q).1 y + eul q y (nvQ q).1 = 0 := by
  unfold nvQ at h ⊢
  split at h
  · rename_i hk
    rw [if_pos hk]
    have hq : isQ q = true := by
      rcases h : isQ q with _ | _
      · simp [kindQ, h] at hk
      · rfl
    simp only [decide_eq_true_eq] at h
    have h0 : eul q (nvB q q.v.toNat (5 ^ q.v.toNat)) (nvB q q.v.toNat (5 ^ q.v.toNat)) = 0 := by
      rcases nvB_null q q.v.toNat (5 ^ q.v.toNat) with h1 | h1
      · rw [h1] at h; simp at h
      · exact h1
    show eul q (nvB q q.v.toNat (5 ^ q.v.toNat)) y + eul q y (nvB q q.v.toNat (5 ^ q.v.toNat)) = 0
    rw [← eul_two hq]
    exact psd_null (ent_symm q) (kind_psd hk) (by rw [eul_two hq, h0]; rfl) _
  · cases h
end Go.Proofs.Ytaefpblpfjhgoaa

/- The reference's CoxeterPower and CoxeterOf. -/
namespace Go.Proofs.Ytaefpblpfjhgoaa
set_option linter.unusedVariables false
set_option linter.unusedSimpArgs false
open Go.RowKit



set_option maxHeartbeats 3200000 in
set_option maxRecDepth 20000 in
theorem specCoxeterPower_any (u : Value) (q : Qv) (xv : Value) (x : List Int) (n : Int) (w : World) (hu : QvR w w.heap.size u q) (hx : SlI w w.heap.size xv x) (hn : I64 n) :
    Calls Try.prog 16 #[u, xv, .int .i64 n] w fun e w' => ∃ r, e = .returned (.tuple #[r, .bool (coxP q x n).2]) ∧ IntsO w' w.heap.size w'.heap.size r (coxP q x n).1 ∧ Below w.heap.size w w' := by
  obtain ⟨A, c, C, d, eu⟩ := hu.form
  subst eu
  obtain ⟨XA, xc, rfl, _, _, lx, hx⟩ := hx.open_
  obtain ⟨W, hW⟩ : ∃ W, W = w.alloc (.cells #[.int .i64 q.v, .slice A q.f.length c, .slice C q.t.length d] 26) := ⟨_, rfl⟩
  have g0 : Below w.heap.size w W := by rw [hW]; exact below_alloc _ _
  have kB : Blk W w.heap.size 26 #[.int .i64 q.v, .slice A q.f.length c, .slice C q.t.length d] := by rw [hW]; exact Blk.new _ _ _
  have hlt0 : w.heap.size < W.heap.size := kB.lt
  have KB := Lib.hid kB
  have c0 := kB.cell' (i := 0) rfl
  have c1 := kB.cell' (i := 1) rfl
  have c2 := kB.cell' (i := 2) rfl
  have h0 := QvR.next g0 hu
  have hx0 := SlI.next g0 hx
  clear hu hx
  obtain ⟨ol, hol⟩ : ∃ l, (ordQ q).1 = l := ⟨_, rfl⟩
  have HOL := Lib.hid hol
  clear hol
  rcases hB1 : (ordQ q).2 with _ | _
  · have hF : Hid (coxP q x n = ([], false)) := by show _ = _; simp [coxP, hB1]
    go_enter Try.func16, Try.ntmps16
    go_wp2_with fail
    rw [← hW]; clear hW
    refine (specCoxeterOrder_any _ q _ h0).mono ?_; rintro e W9 ⟨ov, rfl, hO9, hb9⟩
    rw [HOL.out] at hO9
    obtain ⟨oA, oc, eov⟩ := hO9.1.form2
    subst eov
    rw [List.length_reverse] at hO9
    clear c0 c1 c2
    rw [hB1]
    have kB9 := kB.call hb9
    have c0 := kB9.cell' (i := 0) rfl
    have c1 := kB9.cell' (i := 1) rfl
    have c2 := kB9.cell' (i := 2) rfl
    have g1 := bthen g0 hb9
    go_wp2
    exact bodyPost_ret (v := .tuple #[.slice (some ⟨W9.heap.size, 0, none⟩) 0 0, .bool false]) (by simp [results, go_sem]) rfl ⟨_, by rw [hF.out], by rw [hF.out]; exact IntsO.made_ _ g1.size, g1.alloc g1.size _⟩
  rcases hB3 : inR n (-40) 40 with _ | _
  · have hF : Hid (coxP q x n = ([], false)) := by show _ = _; simp [coxP, hB3]
    have H3 := Lib.hid hB3
    clear hB3
    go_enter Try.func16, Try.ntmps16
    go_wp2_with fail
    rw [← hW]; clear hW
    refine (specCoxeterOrder_any _ q _ h0).mono ?_; rintro e W9 ⟨ov, rfl, hO9, hb9⟩
    rw [HOL.out] at hO9
    obtain ⟨oA, oc, eov⟩ := hO9.1.form2
    subst eov
    rw [List.length_reverse] at hO9
    clear c0 c1 c2
    rw [hB1]
    have kB9 := kB.call hb9
    have c0 := kB9.cell' (i := 0) rfl
    have c1 := kB9.cell' (i := 1) rfl
    have c2 := kB9.cell' (i := 2) rfl
    have g1 := bthen g0 hb9
    go_wp2_with fail
    refine (l1In_any _ _ _ _).mono ?_; rintro e w1 ⟨rfl, rfl⟩
    rw [H3.out]
    go_wp2
    exact bodyPost_ret (v := .tuple #[.slice (some ⟨w1.heap.size, 0, none⟩) 0 0, .bool false]) (by simp [results, go_sem]) rfl ⟨_, by rw [hF.out], by rw [hF.out]; exact IntsO.made_ _ g1.size, g1.alloc g1.size _⟩
  rcases hB2 : isNum q x with _ | _
  · have hF : Hid (coxP q x n = ([], false)) := by show _ = _; simp [coxP, hB2]
    have H2 := Lib.hid hB2
    have H3 := Lib.hid hB3
    clear hB2 hB3
    go_enter Try.func16, Try.ntmps16
    go_wp2_with fail
    rw [← hW]; clear hW
    refine (specCoxeterOrder_any _ q _ h0).mono ?_; rintro e W9 ⟨ov, rfl, hO9, hb9⟩
    rw [HOL.out] at hO9
    obtain ⟨oA, oc, eov⟩ := hO9.1.form2
    subst eov
    rw [List.length_reverse] at hO9
    clear c0 c1 c2
    rw [hB1]
    have kB9 := kB.call hb9
    have c0 := kB9.cell' (i := 0) rfl
    have c1 := kB9.cell' (i := 1) rfl
    have c2 := kB9.cell' (i := 2) rfl
    go_wp2_with fail
    refine (l1In_any _ _ _ _).mono ?_; rintro e w1 ⟨rfl, rfl⟩
    rw [H3.out]
    go_wp2_with fail
    refine (l18Vector_any _ _ _ _ _ (QvR.next hb9 h0) (SlI.next hb9 hx0)).mono ?_; rintro e w1 ⟨rfl, hb1⟩
    rw [H2.out]
    have g1 := bthen (bthen g0 hb9) hb1
    go_wp2
    exact bodyPost_ret (v := .tuple #[.slice (some ⟨w1.heap.size, 0, none⟩) 0 0, .bool false]) (by simp [results, go_sem]) rfl ⟨_, by rw [hF.out], by rw [hF.out]; exact IntsO.made_ _ g1.size, g1.alloc g1.size _⟩
  obtain ⟨n1, n2⟩ := inR_t.1 hB3
  have HB := Lib.hid (And.intro hB1 (And.intro hB2 hB3))
  have H2 := Lib.hid hB2
  have H3 := Lib.hid hB3
  clear hB2 hB3
  by_cases hneg : n < 0
  · obtain ⟨N, hN⟩ : ∃ N : Nat, n = -(N : Int) := ⟨n.natAbs, by omega⟩
    subst hN
    have HP : Hid (coxP q x (-(N : Int)) = powGo q ol x (N - 0)) := by
      show _ = _
      rw [coxP, HB.out.1, HB.out.2.1, HB.out.2.2, HOL.out, if_pos hneg]
      simp
    go_enter Try.func16, Try.ntmps16
    go_wp2_with fail
    rw [← hW]; clear hW
    refine (specCoxeterOrder_any _ q _ h0).mono ?_; rintro e W9 ⟨ov, rfl, hO9, hb9⟩
    rw [HOL.out] at hO9
    obtain ⟨oA, oc, eov⟩ := hO9.1.form2
    subst eov
    rw [List.length_reverse] at hO9
    clear c0 c1 c2
    rw [hB1]
    have kB9 := kB.call hb9
    have c0 := kB9.cell' (i := 0) rfl
    have c1 := kB9.cell' (i := 1) rfl
    have c2 := kB9.cell' (i := 2) rfl
    go_wp2_with fail
    refine (l1In_any _ _ _ _).mono ?_; rintro e w1' ⟨rfl, rfl⟩
    rw [H3.out]
    go_wp2_with fail
    refine (l18Vector_any _ _ _ _ _ (QvR.next hb9 h0) (SlI.next hb9 hx0)).mono ?_; rintro e w1 ⟨rfl, hb1⟩
    rw [H2.out]
    have hO1 := hO9.below hb1
    have gW1 := bthen hb9 hb1
    obtain ⟨L, hL⟩ : ∃ L, L = ol.reverse := ⟨_, rfl⟩
    have HLR : Hid (ol = L.reverse) := by show _ = _; rw [hL, List.reverse_reverse]
    have hLl : ol.length = L.length := by rw [hL, List.length_reverse]
    rw [← hL, hLl] at hO1
    rw [hLl]
    rw [HLR.out] at HP
    have hln := hO1.1.2.1
    clear hO9 kB9 c0 c1 c2 hb9 hb1 hL hLl
    go_wp2
    have ho0 : OwnI (w1.alloc (.cells #[] 3)) w1.heap.size (.slice (some ⟨w1.heap.size, 0, none⟩) 0 0) [] := OwnI.made _ rfl (Nat.le_refl _)
    have hlr : SlI (w1.alloc (.cells #[] 3)) w1.heap.size (.slice oA L.length oc) L := SlI.below ((Below.refl _ _).alloc (Nat.le_refl _) _) hO1.rd
    have hs1 : w1.heap.size ≤ (w1.alloc (.cells #[] 3)).heap.size := by simp
    have gW2 : Below W.heap.size W (w1.alloc (.cells #[] 3)) := gW1.alloc gW1.size _
    have hs2 := gW1.size
    have gl1 : w.heap.size ≤ w1.heap.size := by omega
    clear hO1 gW1
    generalize w1.alloc (.cells #[] 3) = W2 at *
    rw [decide_eq_true (show 0 < N by omega)]
    go_loopw [10, 11] (fun a i wr => ∃ out : List Int, RevSt L (intOf i) out ∧ i = .int .i64 (intOf i) ∧ OwnI wr w1.heap.size a out ∧ Below w1.heap.size W2 wr) (fun _ i _ => (intOf i + 1).toNat)
    case atStart => exact ⟨[], RevSt.start L, rfl, ho0, Below.refl _ _⟩
    case round =>
      obtain ⟨out, hst, hi, hown, hbel⟩ := hrel
      clear ho0
      rcases hst with ⟨j, hj, e1, e2⟩ | ⟨e1, e2⟩
      · rw [e1] at hi
        subst hi
        have HO := Lib.hid e2
        clear e1 e2
        obtain ⟨b0, o, y, rfl, hb, HX, x1, hx1, hx2⟩ := SlI.at_ hlr hj
        have x2 := bcell hbel hb x1
        obtain ⟨OA, oc2, rfl, _, _⟩ := hown.form
        have ho3 := hown.alloc (.cells #[.int .i64 y] 3)
        have HS : Hid (RevSt L ((j : Int) - 1) (out ++ [y])) := RevSt.step HX.out HO.out
        have hol : Hid (out.length + 1 ≤ L.length) := by show _ ≤ _; rw [HO.out]; simp; omega
        clear x1
        have hsr := hbel.size
        (go_wp2_with (at_builtin; refine Hold.stop ?_)); unfold Hold

        refine wpList_appI rfl (.tmp 45) (.tmp 50) rfl w1.heap.size _ (.slice OA out.length oc2) out rfl ho3 _ _ _ [y] rfl rfl (SlI.one wr _ y ⟨hx1, hx2⟩) (by have := hol.out; simp; omega) (by simp; omega) ?_
        intro v1 w3 ho1 hg1 hv1
        have hb3 := (hbel.alloc (by omega) (.cells #[.int .i64 y] 3)).grown hg1 (by simp; omega) (fun j hj => (ho3.lt j hj).1)
        obtain ⟨A1, c1, rfl, _, _⟩ := ho1.form
        clear ho3 hg1 hv1
        go_wp2
        go_roundw
        case rel => exact ⟨out ++ [y], HS.out, rfl, by rw [List.length_append] at ho1; exact ho1, hb3⟩
        case measure => simp [intOf]
      · rw [e1] at hi
        subst hi
        clear e1
        subst e2
        obtain ⟨oA, oc, rfl, _, _⟩ := hown.form
        rw [List.length_reverse] at hown
        have gW2 := gW2.trans (hbel.mono hs2)
        have hO2 := IntsO.of_own hown
        have hs4 := hbel.size
        have kB := kB.below gW2 hlt0
        have c0 := kB.cell' (i := 0) rfl
        have c1 := kB.cell' (i := 1) rfl
        have c2 := kB.cell' (i := 2) rfl
        clear hown hbel hlr hln hs1
        (go_wp2_with (at_builtin; refine Hold.stop ?_)); unfold Hold

        have hoe : OwnI (wr.alloc (.cells #[] 3)) wr.heap.size (.slice (some ⟨wr.heap.size, 0, none⟩) 0 0) [] := OwnI.made _ rfl (Nat.le_refl _)
        refine wpList_appI rfl (.tmp 55) (.tmp 56) rfl wr.heap.size wr.heap.size (.slice (some ⟨wr.heap.size, 0, none⟩) 0 0) [] rfl hoe _ _ _ x rfl rfl (SlI.below (below_alloc _ _) (SlI.next gW2 hx0)) (by simp; omega) (by simp) ?_
        intro v1 w3 hC hg2 hvv
        rw [List.nil_append] at hC
        have hb3 : Below wr.heap.size wr w3 := ((Below.refl _ _).alloc (Nat.le_refl _) (.cells #[] 3)).grown hg2 (by simp) (fun j hj => (hoe.lt j hj).1)
        have gW := bthen gW2 hb3
        have gw : Below w.heap.size w w3 := g0.trans (gW.mono g0.size)
        have gl : w.heap.size ≤ wr.heap.size := by have := gW2.size; omega
        clear hoe hg2 hvv
        have hOr := hO2.below hb3
        obtain ⟨HI, hHI⟩ : ∃ n, n = wr.heap.size := ⟨_, rfl⟩
        rw [← hHI] at hOr
        obtain ⟨xA, xc', rfl, _, _⟩ := hC.form
        clear hO2 gW2 hb3 c0 c1 c2 kB hHI
        go_wp2
        go_loopw [12, 13] (fun a i wr => ∃ (k : Nat) (cur : List Int), k ≤ N ∧ i = .int .i64 k ∧ OwnI wr w.heap.size a cur ∧ Below w.heap.size w wr ∧ Below W.heap.size W wr ∧ IntsO wr w1.heap.size HI (.slice oA L.length oc) L.reverse ∧ Hid (coxP q x (-(N : Int)) = powGo q L.reverse cur (N - k))) (fun _ i _ => N - (intOf i).toNat)
        case atStart => exact ⟨0, x, Nat.zero_le _, rfl, hC.lower gl, gw, gW, hOr, HP.out⟩
        case round =>
          clear hC gw gW hOr HP
          obtain ⟨k, cur, hk, rfl, hown, hbel, hbW, hord, hR⟩ := hrel
          have kB := KB.out.below hbW hlt0
          have c0 := kB.cell' (i := 0) rfl
          have c1 := kB.cell' (i := 1) rfl
          have c2 := kB.cell' (i := 2) rfl
          obtain ⟨OA, oc', rfl, _, _⟩ := hown.form
          have hbs := hbW.size
          clear kB
          by_cases hlt : k < N
          · have hst := powGo_step (q := q) (wd := L.reverse) (x := cur) hlt
            rw [← hR.out] at hst
            have HST := Lib.hid hst
            clear hst hR
            have HC := specReflectWord_any _ q _ cur _ L.reverse wr (QvR.next hbW h0) hown.rd hord.rd
            obtain ⟨nx, hnx⟩ : ∃ nx, wordQ q cur L.reverse = nx := ⟨_, rfl⟩
            rw [hnx] at HC
            have HNX := Lib.hid hnx
            clear hnx
            obtain ⟨l, B⟩ := nx
            have HC := Lib.hid HC
            cases B
            · have hF : Hid (coxP q x (-(N : Int)) = ([], false)) := by show _ = _; rw [HST.out, HNX.out]; rfl
              go_wp2_with fail
              refine (unhide HC).mono ?_; rintro e w3 ⟨r, rfl, hr3, hb3⟩
              have hb4 := hbel.trans (hb3.mono hbel.size)
              go_wp2
              exact bodyPost_ret (v := .tuple #[.slice (some ⟨w3.heap.size, 0, none⟩) 0 0, .bool false]) (by simp [results, go_sem]) rfl ⟨_, by rw [hF.out], by rw [hF.out]; exact IntsO.made_ _ hb4.size, hb4.alloc hb4.size _⟩
            · have hF : Hid (coxP q x (-(N : Int)) = powGo q L.reverse l (N - (k + 1))) := by show _ = _; rw [HST.out, HNX.out]; rfl
              go_wp2_with fail
              refine (unhide HC).mono ?_; rintro e w3 ⟨r, rfl, hr3, hb3⟩
              have hW3 := bthen hbW hb3
              have hb4 := hbel.trans (hb3.mono hbel.size)
              have ho4 := hr3.1.lower hbel.size
              have hord3 := hord.below hb3
              clear hr3 hb3 hord hown
              go_wp2
              go_roundw
              case rel => exact ⟨k + 1, l, by omega, by go_num, ho4, hb4, hW3, hord3, hF.out⟩
              case measure => simp [intOf]; omega
          · have hF : Hid (coxP q x (-(N : Int)) = (cur, true)) := by show _ = _; rw [hR.out, show N - k = 0 by omega, powGo]
            go_wp2
            exact bodyPost_ret (v := .tuple #[.slice OA cur.length oc', .bool true]) (by simp [results, go_sem]) rfl ⟨_, by rw [hF.out], by rw [hF.out]; exact IntsO.of_own hown, hbel⟩
  · obtain ⟨N, hN⟩ : ∃ N : Nat, n = (N : Int) := ⟨n.natAbs, by omega⟩
    subst hN
    have HP : Hid (coxP q x (N : Int) = powGo q ol.reverse x (N - 0)) := by
      show _ = _
      rw [coxP, HB.out.1, HB.out.2.1, HB.out.2.2, HOL.out, if_neg hneg]
      simp
    go_enter Try.func16, Try.ntmps16
    go_wp2_with fail
    rw [← hW]; clear hW
    refine (specCoxeterOrder_any _ q _ h0).mono ?_; rintro e W9 ⟨ov, rfl, hO9, hb9⟩
    rw [HOL.out] at hO9
    obtain ⟨oA, oc, eov⟩ := hO9.1.form2
    subst eov
    rw [List.length_reverse] at hO9
    clear c0 c1 c2
    rw [hB1]
    have kB9 := kB.call hb9
    have c0 := kB9.cell' (i := 0) rfl
    have c1 := kB9.cell' (i := 1) rfl
    have c2 := kB9.cell' (i := 2) rfl
    go_wp2_with fail
    refine (l1In_any _ _ _ _).mono ?_; rintro e w1' ⟨rfl, rfl⟩
    rw [H3.out]
    go_wp2_with fail
    refine (l18Vector_any _ _ _ _ _ (QvR.next hb9 h0) (SlI.next hb9 hx0)).mono ?_; rintro e w1 ⟨rfl, hb1⟩
    rw [H2.out]
    have hO2 := hO9.below hb1
    have gW2 := bthen hb9 hb1
    clear hO9 kB9 c0 c1 c2 hb9 hb1
    (go_wp2_with (at_builtin; refine Hold.stop ?_)); unfold Hold

    have hoe : OwnI (w1.alloc (.cells #[] 3)) w1.heap.size (.slice (some ⟨w1.heap.size, 0, none⟩) 0 0) [] := OwnI.made _ rfl (Nat.le_refl _)
    refine wpList_appI rfl (.tmp 55) (.tmp 56) rfl w1.heap.size w1.heap.size (.slice (some ⟨w1.heap.size, 0, none⟩) 0 0) [] rfl hoe _ _ _ x rfl rfl (SlI.below (below_alloc _ _) (SlI.next gW2 hx0)) (by simp; omega) (by simp) ?_
    intro v1 w3 hC hg2 hvv
    rw [List.nil_append] at hC
    have hb3 : Below w1.heap.size w1 w3 := ((Below.refl _ _).alloc (Nat.le_refl _) (.cells #[] 3)).grown hg2 (by simp) (fun j hj => (hoe.lt j hj).1)
    have gW := bthen gW2 hb3
    have gw : Below w.heap.size w w3 := g0.trans (gW.mono g0.size)
    have gl : w.heap.size ≤ w1.heap.size := by have := gW2.size; omega
    clear hoe hg2 hvv
    have hOr := hO2.below hb3
    obtain ⟨xA, xc', rfl, _, _⟩ := hC.form
    clear hO2 gW2 hb3 kB
    go_wp2
    go_loopw [12, 13] (fun a i wr => ∃ (k : Nat) (cur : List Int), k ≤ N ∧ i = .int .i64 k ∧ OwnI wr w.heap.size a cur ∧ Below w.heap.size w wr ∧ Below W.heap.size W wr ∧ IntsO wr W.heap.size w1'.heap.size (.slice oA ol.length oc) ol.reverse ∧ Hid (coxP q x (N : Int) = powGo q ol.reverse cur (N - k))) (fun _ i _ => N - (intOf i).toNat)
    case atStart => exact ⟨0, x, Nat.zero_le _, rfl, hC.lower gl, gw, gW, hOr, HP.out⟩
    case round =>
      clear hC gw gW hOr HP
      obtain ⟨k, cur, hk, rfl, hown, hbel, hbW, hord, hR⟩ := hrel
      have kB := KB.out.below hbW hlt0
      have c0 := kB.cell' (i := 0) rfl
      have c1 := kB.cell' (i := 1) rfl
      have c2 := kB.cell' (i := 2) rfl
      obtain ⟨OA, oc', rfl, _, _⟩ := hown.form
      have hbs := hbW.size
      clear kB
      by_cases hlt : k < N
      · have hst := powGo_step (q := q) (wd := ol.reverse) (x := cur) hlt
        rw [← hR.out] at hst
        have HST := Lib.hid hst
        clear hst hR
        have HC := specReflectWord_any _ q _ cur _ ol.reverse wr (QvR.next hbW h0) hown.rd hord.rd
        obtain ⟨nx, hnx⟩ : ∃ nx, wordQ q cur ol.reverse = nx := ⟨_, rfl⟩
        rw [hnx] at HC
        have HNX := Lib.hid hnx
        clear hnx
        obtain ⟨l, B⟩ := nx
        have HC := Lib.hid HC
        cases B
        · have hF : Hid (coxP q x (N : Int) = ([], false)) := by show _ = _; rw [HST.out, HNX.out]; rfl
          go_wp2_with fail
          refine (unhide HC).mono ?_; rintro e w3 ⟨r, rfl, hr3, hb3⟩
          have hb4 := hbel.trans (hb3.mono hbel.size)
          go_wp2
          exact bodyPost_ret (v := .tuple #[.slice (some ⟨w3.heap.size, 0, none⟩) 0 0, .bool false]) (by simp [results, go_sem]) rfl ⟨_, by rw [hF.out], by rw [hF.out]; exact IntsO.made_ _ hb4.size, hb4.alloc hb4.size _⟩
        · have hF : Hid (coxP q x (N : Int) = powGo q ol.reverse l (N - (k + 1))) := by show _ = _; rw [HST.out, HNX.out]; rfl
          go_wp2_with fail
          refine (unhide HC).mono ?_; rintro e w3 ⟨r, rfl, hr3, hb3⟩
          have hW3 := bthen hbW hb3
          have hb4 := hbel.trans (hb3.mono hbel.size)
          have ho4 := hr3.1.lower hbel.size
          have hord3 := hord.below hb3
          clear hr3 hb3 hord hown
          go_wp2
          go_roundw
          case rel => exact ⟨k + 1, l, by omega, by go_num, ho4, hb4, hW3, hord3, hF.out⟩
          case measure => simp [intOf]; omega
      · have hF : Hid (coxP q x (N : Int) = (cur, true)) := by show _ = _; rw [hR.out, show N - k = 0 by omega, powGo]
        go_wp2
        exact bodyPost_ret (v := .tuple #[.slice OA cur.length oc', .bool true]) (by simp [results, go_sem]) rfl ⟨_, by rw [hF.out], by rw [hF.out]; exact IntsO.of_own hown, hbel⟩

theorem coxP_one {q : Qv} {x : List Int} : coxP q x 1 = if (ordQ q).2 then wordQ q x (ordQ q).1.reverse else ([], false) := by
  rcases h : (ordQ q).2 with _ | _
  · simp [coxP, h]
  · have e : coxP q x 1 = if isNum q x then powGo q (ordQ q).1.reverse x 1 else ([], false) := by
      unfold coxP
      rw [h]
      cases isNum q x <;> rfl
    rw [e, if_pos rfl]
    rcases h1 : isNum q x with _ | _
    · simp [wordQ, h1]
    · rw [if_pos rfl, powGo]
      rcases h2 : (wordQ q x (ordQ q).1.reverse).2 with _ | _
      · rw [wordQ_no h2]; rfl
      · rw [if_pos rfl, powGo, ← h2]

set_option maxHeartbeats 800000 in
theorem specCoxeterOf_any (u : Value) (q : Qv) (xv : Value) (x : List Int) (w : World) (hu : QvR w w.heap.size u q) (hx : SlI w w.heap.size xv x) :
    Calls Try.prog 20 #[u, xv] w fun e w' => ∃ r, e = .returned (.tuple #[r, .bool (coxP q x 1).2]) ∧ IntsO w' w.heap.size w'.heap.size r (coxP q x 1).1 ∧ Below w.heap.size w w' := by
  obtain ⟨ol, hol⟩ : ∃ l, (ordQ q).1 = l := ⟨_, rfl⟩
  have HOL := Lib.hid hol
  clear hol
  obtain ⟨A, c, C, d, eu⟩ := hu.form
  subst eu
  obtain ⟨W, hW⟩ : ∃ W, W = w.alloc (.cells #[.int .i64 q.v, .slice A q.f.length c, .slice C q.t.length d] 26) := ⟨_, rfl⟩
  have g0 : Below w.heap.size w W := by rw [hW]; exact below_alloc _ _
  have kB : Blk W w.heap.size 26 #[.int .i64 q.v, .slice A q.f.length c, .slice C q.t.length d] := by rw [hW]; exact Blk.new _ _ _
  have c0 := kB.cell' (i := 0) rfl
  have c1 := kB.cell' (i := 1) rfl
  have c2 := kB.cell' (i := 2) rfl
  have gs := g0.size
  have h0 := QvR.next g0 hu
  have hx0 := SlI.next g0 hx
  clear hu hx
  rcases hB1 : (ordQ q).2 with _ | _
  · have hF : Hid (coxP q x 1 = ([], false)) := by show _ = _; rw [coxP_one, hB1]; rfl
    go_enter Try.func20, Try.ntmps20
    go_wp2_with fail
    rw [← hW]; clear hW
    refine (specCoxeterOrder_any _ q _ h0).mono ?_; rintro e W9 ⟨ov, rfl, hO9, hb9⟩
    rw [HOL.out] at hO9
    rw [hB1]
    obtain ⟨oA, oc, eov⟩ := hO9.1.form2
    subst eov
    rw [List.length_reverse] at hO9
    clear c0 c1 c2
    have kB9 := kB.call hb9
    have c0 := kB9.cell' (i := 0) rfl
    have c1 := kB9.cell' (i := 1) rfl
    have c2 := kB9.cell' (i := 2) rfl
    have g1 := bthen g0 hb9
    go_wp2
    exact bodyPost_ret (v := .tuple #[.slice (some ⟨W9.heap.size, 0, none⟩) 0 0, .bool false]) (by simp [results, go_sem]) rfl ⟨_, by rw [hF.out], by rw [hF.out]; exact IntsO.made_ _ g1.size, g1.alloc g1.size _⟩
  · have hF : Hid (coxP q x 1 = wordQ q x ol.reverse) := by show _ = _; rw [coxP_one, hB1, HOL.out]; rfl
    go_enter Try.func20, Try.ntmps20
    go_wp2_with fail
    rw [← hW]; clear hW
    refine (specCoxeterOrder_any _ q _ h0).mono ?_; rintro e W9 ⟨ov, rfl, hO9, hb9⟩
    rw [HOL.out] at hO9
    rw [hB1]
    obtain ⟨oA, oc, eov⟩ := hO9.1.form2
    subst eov
    rw [List.length_reverse] at hO9
    clear c0 c1 c2
    have kB9 := kB.call hb9
    have c0 := kB9.cell' (i := 0) rfl
    have c1 := kB9.cell' (i := 1) rfl
    have c2 := kB9.cell' (i := 2) rfl
    have g1 := bthen g0 hb9
    go_wp2_with fail
    refine (specReflectWord_any _ q _ x _ _ _ (QvR.next hb9 h0) (SlI.next hb9 hx0) hO9.rd).mono ?_; rintro e w1 ⟨r, rfl, hr, hb1⟩
    obtain ⟨rA, rc, rfl⟩ := hr.1.form2
    go_wp2
    exact bodyPost_ret (v := .tuple #[.slice rA (wordQ q x ol.reverse).1.length rc, .bool (wordQ q x ol.reverse).2]) (by simp [results, go_sem]) rfl ⟨_, by rw [hF.out], by rw [hF.out]; exact hr.wider g1.size (Nat.le_refl _), bthen g1 hb1⟩
end Go.Proofs.Ytaefpblpfjhgoaa

/- Rows of slice values, whatever they hold: reading, appending. -/
namespace Go.Proofs.Ytaefpblpfjhgoaa
set_option linter.unusedVariables false
set_option linter.unusedSimpArgs false
open Go.RowKit

def RV (w : World) (_B b o : Nat) (x : Value) : Prop := w.cell? ⟨b, o, none⟩ = some x ∧ x.oneCell' = true
abbrev SlV := SlG 1 RV
theorem SlV.below {w w' : World} {B : Nat} {v : Value} {l : List Value} (hb : Below B w w') (h : SlV w B v l) : SlV w' B v l :=
  SlG.mono (fun _ _ _ hlt ⟨hc, hx⟩ => ⟨bcell hb hlt hc, hx⟩) (Nat.le_refl _) h
theorem SlV.more {w : World} {B B' : Nat} {v : Value} {l : List Value} (hB : B ≤ B') (h : SlV w B v l) : SlV w B' v l :=
  SlG.mono (B := B) (B' := B') (fun _ _ _ _ h => h) hB h
theorem SlV.next {w w' : World} {v : Value} {l : List Value} (hb : Below w.heap.size w w') (h : SlV w w.heap.size v l) : SlV w' w'.heap.size v l := SlV.more hb.size (SlV.below hb h)
theorem SlV.one {w : World} {B : Nat} {v : Value} {l : List Value} (h : SlV w B v l) : ∀ u ∈ l, u.oneCell' = true := by
  obtain ⟨A, c, _, _, _, _, h4⟩ := h
  intro x hx
  obtain ⟨j, hj⟩ := List.getElem?_of_mem hx
  obtain ⟨_, _, _, _, hr⟩ := h4 (by have := lt_of_some hj; omega)
  exact (hr j x hj).2
theorem SlV.takeS {w : World} {B c k : Nat} {A : Option Addr} {l : List Value} (h : SlV w B (.slice A l.length c) l) (hk : k ≤ l.length) : SlV w B (.slice A k c) (l.take k) := by
  obtain ⟨A', c', e, h1, h2, h3, h4⟩ := h
  injection e with e1 e2 e3
  subst e1 e3
  refine ⟨A, c, by rw [List.length_take]; congr 1; omega, by rw [List.length_take]; omega, h2, by rw [List.length_take]; omega, fun hp => ?_⟩
  rw [List.length_take] at hp
  obtain ⟨b, o, e, hb, hc⟩ := h4 (by omega)
  refine ⟨b, o, e, hb, fun j x hj => hc j x ?_⟩
  rw [List.getElem?_take] at hj
  split at hj
  · exact hj
  · cases hj
theorem SlV.dropS {w : World} {B c k g o : Nat} {l : List Value} (h : SlV w B (.slice (some ⟨g, o, none⟩) l.length c) l) (hk : k ≤ l.length) : SlV w B (.slice (some ⟨g, o + k, none⟩) (l.length - k) (c - k)) (l.drop k) := by
  have h' := h
  obtain ⟨A', c', e, h1, h2, h3, h4⟩ := h'
  injection e with e1 e2 e3
  subst e3
  refine ⟨some ⟨g, o + k, none⟩, c - k, by rw [List.length_drop], by rw [List.length_drop]; omega, by omega, by rw [List.length_drop]; omega, fun hp => ?_⟩
  rw [List.length_drop] at hp
  obtain ⟨b, o', e, hb, hc⟩ := h4 (by omega)
  rw [← e1] at e
  injection e with e
  injection e with e5 e6
  subst e5 e6
  refine ⟨g, o + k, rfl, hb, fun j x hj => ?_⟩
  rw [List.getElem?_drop] at hj
  have := hc _ x hj
  rwa [show o + (k + j) * 1 = o + k + j * 1 by omega] at this
/-- a row of slice values of the call's own -/
def OwnV (w : World) (base : Nat) (v : Value) (vs : List Value) : Prop := w.ownsRow base 24 1 v vs.length vs ∧ vs.length ≤ 17592186044416 ∧ ∀ u ∈ vs, u.oneCell' = true
theorem OwnV.rd {w : World} {base : Nat} {v : Value} {l : List Value} (h : OwnV w base v l) : SlV w w.heap.size v l := by
  obtain ⟨h1, h2, h3⟩ := h
  rcases h1.2 with ⟨rfl, h0⟩ | ⟨g, cap, cur, rfl, _, hg, hnc, hcm, hcs, htake⟩
  · obtain rfl : l = [] := List.eq_nil_of_length_eq_zero h0
    exact SlG.nil
  · refine ⟨_, _, rfl, hnc, by simp only [maxLen] at hcm; omega, h2, fun hp => ⟨g, 0, rfl, (Array.getElem?_eq_some_iff.1 hg).1, fun j x hj => ⟨?_, h3 x (List.mem_of_getElem? hj)⟩⟩⟩
    have hc := h1.cellAt j (by have := lt_of_some hj; omega)
    rw [show 0 + j * 1 = j by omega, hc, hj]
theorem OwnV.below {w w' : World} {base : Nat} {v : Value} {l : List Value} (h : OwnV w base v l) (hb : Below w.heap.size w w') : OwnV w' base v l :=
  ⟨h.1.kept (row := none) ⟨hb.os, hb.tape, hb.output, hb.size, fun k hk _ => hb.block k hk⟩ (by cases v.ownBlock <;> simp), h.2⟩
theorem OwnV.lt {w : World} {base : Nat} {v : Value} {l : List Value} (h : OwnV w base v l) : ∀ k, v.ownBlock = some k → base ≤ k ∧ k < w.heap.size := h.1.lt
theorem OwnV.lower {w : World} {base base' : Nat} {v : Value} {l : List Value} (h : OwnV w base v l) (hb : base' ≤ base) : OwnV w base' v l := by
  obtain ⟨⟨h0, h1⟩, h2⟩ := h
  refine ⟨⟨h0, ?_⟩, h2⟩
  rcases h1 with h1 | ⟨g, cap, cur, e, hg, rest⟩
  · exact .inl h1
  · exact .inr ⟨g, cap, cur, e, by omega, rest⟩
theorem OwnV.form {w : World} {base : Nat} {v : Value} {l : List Value} (h : OwnV w base v l) : ∃ A c, v = .slice A l.length c ∧ l.length ≤ c ∧ c ≤ 9223372036854775807 := by
  rcases h.1.2 with ⟨rfl, h0⟩ | ⟨g, cap, cur, rfl, _, _, hnc, hcm, _⟩
  · exact ⟨none, 0, by rw [h0], by omega, by omega⟩
  · exact ⟨_, _, rfl, hnc, by simp only [maxLen] at hcm; omega⟩
def FreshV (w : World) (lo : Nat) (u : Value) : Prop := ∃ g, u = .slice (some ⟨g, 0, none⟩) 0 0 ∧ lo ≤ g ∧ Blk w g 24 #[]
theorem FreshV.below {w w' : World} {lo : Nat} {u : Value} (h : FreshV w lo u) (hb : Below w.heap.size w w') : FreshV w' lo u := by
  obtain ⟨g, e, h1, h2⟩ := h
  exact ⟨g, e, h1, h2.call hb⟩
theorem FreshV.new (w : World) {lo : Nat} (h : lo ≤ w.heap.size) : FreshV (w.alloc (.cells #[] 24)) lo (.slice (some ⟨w.heap.size, 0, none⟩) 0 0) := ⟨_, rfl, h, Blk.new _ _ _⟩
/-- the one-cell block that 'append(out, row)' lays first -/
theorem SlV.new (w : World) (t : TypeId) (x : Value) (hx : x.oneCell' = true) : SlV (w.alloc (.cells #[x] t)) (w.alloc (.cells #[x] t)).heap.size (.slice (some ⟨w.heap.size, 0, none⟩) 1 1) [x] := by
  refine ⟨_, 1, rfl, by simp, by omega, by simp, fun _ => ⟨w.heap.size, 0, rfl, by simp, fun j y hj => ?_⟩⟩
  match j, hj with
  | 0, hj =>
    simp at hj
    subst hj
    exact ⟨by simp, hx⟩
  | j + 1, hj => simp at hj
theorem SlI.oneC {w : World} {B : Nat} {v : Value} {l : List Int} (h : SlI w B v l) : v.oneCell' = true := by
  obtain ⟨A, c, rfl, _⟩ := h; rfl
end Go.Proofs.Ytaefpblpfjhgoaa

/- Rows of paths that begin at one vertex: read, owned, appended. -/
namespace Go.Proofs.Ytaefpblpfjhgoaa
set_option linter.unusedVariables false
set_option linter.unusedSimpArgs false
open Go.RowKit

theorem infoPath : (Try.prog.info? 99).map (fun i => (i.zero, i.size, i.bytes)) = some (some (.agg #[.int .i64 0, .slice none 0 0]), 2, 32) := by kernel_rfl
/-- .. in two cells -/
def RPt (s : Int) (w : World) (B b o : Nat) (r : List Int) : Prop := ∃ a, w.cell? ⟨b, o, none⟩ = some (.int .i64 s) ∧ w.cell? ⟨b, o + 1, none⟩ = some a ∧ SlI w B a r
abbrev SlP (s : Int) := SlG 2 (RPt s)
theorem SlP.below {s : Int} {w w' : World} {B : Nat} {v : Value} {l : List (List Int)} (hb : Below B w w') (h : SlP s w B v l) : SlP s w' B v l :=
  SlG.mono (fun _ _ _ hlt ⟨a, h0, h1, hs⟩ => ⟨a, bcell hb hlt h0, bcell hb hlt h1, SlI.below hb hs⟩) (Nat.le_refl _) h
theorem SlP.more {s : Int} {w : World} {B B' : Nat} {v : Value} {l : List (List Int)} (hB : B ≤ B') (h : SlP s w B v l) : SlP s w B' v l :=
  SlG.mono (B := B) (B' := B') (fun _ _ _ _ ⟨a, h0, h1, hs⟩ => ⟨a, h0, h1, SlI.more hB hs⟩) hB h
theorem SlP.next {s : Int} {w w' : World} {v : Value} {l : List (List Int)} (hb : Below w.heap.size w w') (h : SlP s w w.heap.size v l) : SlP s w' w'.heap.size v l := SlP.more hb.size (SlP.below hb h)
theorem SlP.at_ {s : Int} {w : World} {B c : Nat} {A : Option Addr} {xs : List (List Int)} {k : Nat} (h : SlP s w B (.slice A xs.length c) xs) (hk : k < xs.length) :
    ∃ b o r A' c', A = some ⟨b, o, none⟩ ∧ b < B ∧ Hid (xs[k]? = some r) ∧ w.cell? ⟨b, o + k * 2, none⟩ = some (.int .i64 s) ∧ w.cell? ⟨b, o + k * 2 + 1, none⟩ = some (.slice A' r.length c') ∧
      SlI w B (.slice A' r.length c') r ∧ r.length ≤ c' ∧ c' ≤ 9223372036854775807 ∧ r.length ≤ 17592186044416 := by
  obtain ⟨A', c', e, h1, h2, h3, h4⟩ := h
  injection e with e1 e2 e3; subst e1
  obtain ⟨b, o, rfl, hb, hc⟩ := h4 (by omega)
  have hx : xs[k]? = some xs[k] := List.getElem?_eq_getElem hk
  obtain ⟨a, c0, c1, hs⟩ := hc k _ hx
  obtain ⟨A2, c3, rfl, h6, h7, h5, hs⟩ := hs.open_
  exact ⟨b, o, xs[k], A2, c3, rfl, hb, hx, c0, c1, hs, h6, h7, h5⟩
def pcs (s : Int) : List Value → List Value
  | [] => []
  | u :: vs => .int .i64 s :: u :: pcs s vs
theorem pcs_length (s : Int) : ∀ vs : List Value, (pcs s vs).length = vs.length * 2
  | [] => rfl
  | _ :: vs => by simp only [pcs, List.length_cons, pcs_length s vs]; omega
theorem pcs_get {s : Int} : ∀ {vs : List Value} {j : Nat} {u : Value}, vs[j]? = some u → (pcs s vs)[j * 2]? = some (.int .i64 s) ∧ (pcs s vs)[j * 2 + 1]? = some u
  | [], _, _, h => by simp at h
  | v :: vs, 0, u, h => by simp at h; subst h; simp [pcs]
  | v :: vs, j + 1, u, h => by
    rw [List.getElem?_cons_succ] at h
    obtain ⟨a, b⟩ := pcs_get (s := s) h
    simp only [pcs, show (j + 1) * 2 = j * 2 + 1 + 1 by omega, show j * 2 + 1 + 1 + 1 = (j * 2 + 1) + 1 + 1 by omega, List.getElem?_cons_succ]
    exact ⟨a, b⟩
theorem pcs_append (s : Int) : ∀ xs ys : List Value, pcs s (xs ++ ys) = pcs s xs ++ pcs s ys
  | [], _ => rfl
  | _ :: xs, ys => by simp only [List.cons_append, pcs, pcs_append s xs ys]
theorem pcs_one {s : Int} : ∀ {vs : List Value}, (∀ u ∈ vs, u.oneCell' = true) → ∀ u ∈ pcs s vs, u.oneCell' = true
  | [], _, u, hu => by simp [pcs] at hu
  | v :: vs, h, u, hu => by
    simp only [pcs, List.mem_cons] at hu
    rcases hu with rfl | rfl | hu
    · rfl
    · exact h _ (by simp)
    · exact pcs_one (fun y hy => h y (by simp [hy])) u hu
/-- the arrows of paths: rows of the call's own -/
def ArO (w : World) (la : Nat) (vs : List Value) (ll : List (List Int)) : Prop := vs.length = ll.length ∧ ∀ (j : Nat) (u : Value) (l : List Int), vs[j]? = some u → ll[j]? = some l → OwnI w la u l
theorem ArO.below {w w' : World} {la : Nat} {vs : List Value} {ll : List (List Int)} (h : ArO w la vs ll) (hb : Below w.heap.size w w') : ArO w' la vs ll := ⟨h.1, fun j u l h1 h2 => (h.2 j u l h1 h2).below hb⟩
theorem ArO.lower {w : World} {la la' : Nat} {vs : List Value} {ll : List (List Int)} (h : ArO w la vs ll) (hl : la' ≤ la) : ArO w la' vs ll := ⟨h.1, fun j u l h1 h2 => (h.2 j u l h1 h2).lower hl⟩
/-- a row of another type turned leaves them -/
theorem ArO.grown {w w' : World} {la lo n sz : Nat} {T : TypeId} {v : Value} {cs : List Value} {vs : List Value} {ll : List (List Int)} (h : ArO w la vs ll) (ho : w.ownsRow lo T sz v n cs) (hT : 3 ≠ T) (hg : w.grownBy w' v.ownBlock) : ArO w' la vs ll := by
  refine ⟨h.1, fun j u l h1 h2 => (h.2 j u l h1 h2).kept hg ?_⟩
  rcases ho.2 with ⟨rfl, _⟩ | ⟨g, cap, cur, rfl, _, hh, _⟩
  · rcases hu : u.ownBlock with _ | k
    · exact .inl rfl
    · right; simp [Value.ownBlock]
  · right
    exact fun e => (h.2 j u l h1 h2).blkne (g := g) (t := T) (cs := cur) hh hT e.symm
theorem ArO.app {w : World} {la : Nat} {vs us : List Value} {ll mm : List (List Int)} (h : ArO w la vs ll) (k : ArO w la us mm) : ArO w la (vs ++ us) (ll ++ mm) := by
  refine ⟨by rw [List.length_append, List.length_append, h.1, k.1], fun j u l h1 h2 => ?_⟩
  by_cases hj : j < vs.length
  · rw [List.getElem?_append_left hj] at h1
    rw [List.getElem?_append_left (by rw [← h.1]; exact hj)] at h2
    exact h.2 j u l h1 h2
  · rw [List.getElem?_append_right (by omega)] at h1
    rw [List.getElem?_append_right (by rw [← h.1]; omega), ← h.1] at h2
    exact k.2 _ u l h1 h2
theorem ArO.oneC {w : World} {la : Nat} {vs : List Value} {ll : List (List Int)} (h : ArO w la vs ll) : ∀ u ∈ vs, u.oneCell' = true := by
  intro u hu
  obtain ⟨j, hj⟩ := List.getElem?_of_mem hu
  have hl := lt_of_some hj
  obtain ⟨A, c, e, _⟩ := (h.2 j u _ hj (List.getElem?_eq_getElem (by rw [← h.1]; exact hl))).form
  rw [e]; rfl
/-- a row of paths from s: the row from lo on, the arrows from la on -/
def PtsO (s : Int) (w : World) (lo la : Nat) (v : Value) (ll : List (List Int)) : Prop := ∃ vs, ArO w la vs ll ∧ w.ownsRow lo 99 2 v ll.length (pcs s vs) ∧ ll.length ≤ 17592186044416
theorem PtsO.below {s : Int} {w w' : World} {lo la : Nat} {v : Value} {ll : List (List Int)} (h : PtsO s w lo la v ll) (hb : Below w.heap.size w w') : PtsO s w' lo la v ll := by
  obtain ⟨vs, h1, h2, h3⟩ := h
  exact ⟨vs, h1.below hb, h2.kept (row := none) ⟨hb.os, hb.tape, hb.output, hb.size, fun k hk _ => hb.block k hk⟩ (by cases v.ownBlock <;> simp), h3⟩
theorem PtsO.lower {s : Int} {w : World} {lo la lo' la' : Nat} {v : Value} {ll : List (List Int)} (h : PtsO s w lo la v ll) (h1 : lo' ≤ lo) (h2 : la' ≤ la) : PtsO s w lo' la' v ll := by
  obtain ⟨vs, ha, ⟨h0, hr⟩, h3⟩ := h
  refine ⟨vs, ha.lower h2, ⟨h0, ?_⟩, h3⟩
  rcases hr with hr | ⟨g, cap, cur, e, hg, rest⟩
  · exact .inl hr
  · exact .inr ⟨g, cap, cur, e, by omega, rest⟩
theorem PtsO.form {s : Int} {w : World} {lo la : Nat} {v : Value} {ll : List (List Int)} (h : PtsO s w lo la v ll) : ∃ A c, v = .slice A ll.length c ∧ ll.length ≤ c ∧ c ≤ 9223372036854775807 := by
  obtain ⟨vs, _, h2, _⟩ := h
  rcases h2.2 with ⟨rfl, h0⟩ | ⟨g, cap, cur, rfl, _, _, hnc, hcm, _⟩
  · exact ⟨none, 0, by rw [h0], by omega, by omega⟩
  · exact ⟨_, _, rfl, hnc, by simp only [maxLen] at hcm; omega⟩
theorem PtsO.lt {s : Int} {w : World} {lo la : Nat} {v : Value} {ll : List (List Int)} (h : PtsO s w lo la v ll) : ∀ k, v.ownBlock = some k → lo ≤ k ∧ k < w.heap.size := by
  obtain ⟨vs, _, h2, _⟩ := h
  exact h2.lt
theorem PtsO.news {s : Int} {w : World} {lo la n c : Nat} {A : Option Addr} {ll : List (List Int)} (h : PtsO s w lo la (.slice A n c) ll) : n = ll.length ∧ ∃ vs, ArO w la vs ll ∧ NewsAt w A n (pcs s vs) 2 := by
  obtain ⟨vs, h1, h2, h3⟩ := h
  have hpl := pcs_length s vs
  rcases h2.2 with ⟨e, h0⟩ | ⟨g, cap, cur, e, _, hg, hnc, hcm, _⟩
  · injection e with e1 e2 e3
    exact ⟨by omega, vs, h1, by rw [hpl, h1.1]; omega, .inl (by omega)⟩
  · injection e with e1 e2 e3
    refine ⟨e2, vs, h1, by rw [hpl, h1.1, e2], .inr ⟨g, 0, e1, fun j u hj => ?_⟩⟩
    have hj2 := lt_of_some hj
    have e4 : Value.slice A n c = .slice (some ⟨g, 0, none⟩) ll.length cap := by rw [e1, e2, e3]
    rw [e4] at h2
    have := h2.cellAt j (by rw [hpl, h1.1] at hj2; exact hj2)
    rw [Nat.zero_add, this, hj]
theorem PtsO.rd {s : Int} {w : World} {lo la : Nat} {v : Value} {ll : List (List Int)} (h : PtsO s w lo la v ll) : SlP s w w.heap.size v ll := by
  obtain ⟨vs, h1, h2, h3⟩ := h
  rcases h2.2 with ⟨rfl, h0⟩ | ⟨g, cap, cur, rfl, _, hg, hnc, hcm, hcs, htake⟩
  · obtain rfl : ll = [] := List.eq_nil_of_length_eq_zero h0
    exact SlG.nil
  · refine ⟨_, _, rfl, hnc, by simp only [maxLen] at hcm; omega, h3, fun hp => ⟨g, 0, rfl, (Array.getElem?_eq_some_iff.1 hg).1, fun j x hj => ?_⟩⟩
    have hjl := lt_of_some hj
    have hv : vs[j]? = some (vs[j]'(by have := h1.1; omega)) := List.getElem?_eq_getElem (by have := h1.1; omega)
    obtain ⟨a, b⟩ := pcs_get (s := s) hv
    have e := fun i (hi : i < 2) => h2.cellAt (j * 2 + i) (by omega)
    refine ⟨vs[j]'(by have := h1.1; omega), ?_, ?_, (h1.2 j _ _ hv hj).rd⟩
    · rw [show 0 + j * 2 = j * 2 + 0 by omega, e 0 (by omega)]; exact a
    · rw [show 0 + j * 2 + 1 = j * 2 + 1 by omega, e 1 (by omega)]; exact b
theorem PtsO.nil (s : Int) (w : World) (lo la : Nat) : PtsO s w lo la (.slice none 0 0) [] := ⟨[], ⟨rfl, by simp⟩, World.ownsRow_nil _ _ _ _, by simp⟩
/-- another row of paths turned leaves it -/
theorem PtsO.grown {s s2 : Int} {w w' : World} {lo la lo2 la2 : Nat} {v u : Value} {ll mm : List (List Int)} (h : PtsO s w lo la v ll) (ho : PtsO s2 w lo2 la2 u mm) (hne : v.ownBlock = none ∨ v.ownBlock ≠ u.ownBlock) (hg : w.grownBy w' u.ownBlock) : PtsO s w' lo la v ll := by
  obtain ⟨vs, h1, h2, h3⟩ := h
  obtain ⟨us, _, k2, _⟩ := ho
  exact ⟨vs, h1.grown k2 (by decide) hg, h2.kept hg hne, h3⟩
/-- the row of one path -/
theorem PtsO.new {s : Int} {w : World} {lo la g : Nat} {u : Value} {l : List Int} (hlo : lo ≤ g) (hb : Blk w g 99 #[.int .i64 s, u]) (hu : OwnI w la u l) : PtsO s w lo la (.slice (some ⟨g, 0, none⟩) 1 1) [l] := by
  refine ⟨[u], ⟨rfl, fun j u' l' h1 h2 => ?_⟩, ?_, by simp⟩
  · match j, h1, h2 with
    | 0, h1, h2 => simp at h1 h2; subst h1 h2; exact hu
    | j + 1, h1, h2 => simp at h1
  · have := hb.own (base := lo) (n := 1) (cap := 1) (size := 2) hlo (Nat.le_refl _) (by simp only [maxLen]; omega) (by rfl)
    exact this
/-- append of paths onto a row of the call's own -/
theorem wpList_appP {w : World} {ops : Array Oper} {rest : List Oper} {o : Oper} {a : Act} {Q : Exit → Act → World → Prop} (hgd : o.guard = none) (x y : Operand)
    (ho : o.op = .call { callee := .builtin .append, args := #[x, y], argTypes := #[77, 77] })
    (s : Int) (lo la lo2 : Nat) (v : Value) (ll : List (List Int)) (hs : a.eval x = v) (hown : PtsO s w lo la v ll) (A : Option Addr) (m c : Nat) (news : List (List Int)) (hx : a.eval y = .slice A m c) (hr : PtsO s w lo2 la (.slice A m c) news)
    (hn : ll.length + news.length ≤ 1048576) (hlo : lo ≤ w.heap.size)
    (h : ∀ v' w', PtsO s w' lo la v' (ll ++ news) → Below lo w w' → w.grownBy w' v.ownBlock → (v'.ownBlock = v.ownBlock ∨ v'.ownBlock = some w.heap.size) → wpList Try.prog ops Q rest (a.put o.dst v') w') : wpList Try.prog ops Q (o :: rest) a w := by
  obtain ⟨rfl, us, hu1, hu2⟩ := hr.news
  obtain ⟨vs, h1, h2, h3⟩ := hown
  obtain ⟨i0, hi', hz0, hz1, hz2⟩ := info_parts infoPath
  refine wpList_append_G w hgd x y _ ho lo 99 i0 _ 2 32 Try.underlying77 hi' hz0 hz1 hz2 rfl (by decide) v ll.length _ hs h2 A news.length c (pcs s us) hx hu2 (pcs_one hu1.oneC) (by simp only [maxLen]; omega) (by omega) hlo fun v' w' k1 k2 k3 => ?_
  refine h v' w' ⟨vs ++ us, (h1.grown h2 (by decide) k2).app (hu1.grown h2 (by decide) k2), ?_, by simp; omega⟩ (below_grown k2 (fun k hk => (h2.lt k hk).1) hlo) k2 k3
  rw [pcs_append, List.length_append]
  exact k1
end Go.Proofs.Ytaefpblpfjhgoaa

/- (Quiver).end -/
namespace Go.Proofs.Ytaefpblpfjhgoaa
set_option linter.unusedVariables false
set_option linter.unusedSimpArgs false
open Go.RowKit

def PtR (s : Int) (w : World) (B : Nat) (val : Value) (r : List Int) : Prop := ∃ a, val = .agg #[.int .i64 s, a] ∧ SlI w B a r
theorem PtR.next {s : Int} {w w' : World} {v : Value} {r : List Int} (hb : Below w.heap.size w w') (h : PtR s w w.heap.size v r) : PtR s w' w'.heap.size v r := by
  obtain ⟨a, e, h1⟩ := h; exact ⟨a, e, SlI.next hb h1⟩
theorem PtR.open_ {s : Int} {w : World} {B : Nat} {v : Value} {r : List Int} (h : PtR s w B v r) : ∃ A c, v = .agg #[.int .i64 s, .slice A r.length c] ∧ SlI w B (.slice A r.length c) r ∧ r.length ≤ c ∧ c ≤ 9223372036854775807 ∧ r.length ≤ 17592186044416 := by
  obtain ⟨a, rfl, h1⟩ := h
  obtain ⟨A, c, rfl, h6, h7, h5, hs⟩ := h1.open_
  exact ⟨A, c, rfl, hs, h6, h7, h5⟩
/-- the last arrow of a path -/
theorem endP_get {q : Qv} {s : Int} {r : List Int} (hl : q.f.length = q.t.length) (hv : vldP q s r) (h0 : 0 < r.length) : ∃ (i : Nat) (b : Int), r[r.length - 1]? = some (i : Int) ∧ q.t[i]? = some b ∧ endP q s r = b := by
  have hd : r = r.dropLast ++ [r.getLast (List.ne_nil_of_length_pos h0)] := (List.dropLast_concat_getLast _).symm
  obtain ⟨l, a, hla⟩ : ∃ l a, r = l ++ [a] := ⟨_, _, hd⟩
  subst hla
  have hm := vldP_mem _ _ hv a (by simp)
  refine ⟨a.toNat, q.t[a.toNat]'(by omega), by simp; omega, List.getElem?_eq_getElem _, ?_⟩
  rw [endP_last, List.getD_eq_getElem?_getD, List.getElem?_eq_getElem (by omega)]; rfl
end Go.Proofs.Ytaefpblpfjhgoaa

/- The reference's IsPath and EndOf at paths. -/
namespace Go.Proofs.Ytaefpblpfjhgoaa
set_option linter.unusedVariables false
set_option linter.unusedSimpArgs false
open Go.RowKit

theorem inR_yes {x a b : Int} (h1 : a ≤ x) (h2 : x ≤ b) : inR x a b = true := inR_t.2 ⟨h1, h2⟩
set_option maxHeartbeats 1600000 in
theorem specIsPath_any (u x : Value) (q : Qv) (s : Int) (r : List Int) (w0 : World) (hu : QvR w0 w0.heap.size u q) (hx : PtR s w0 w0.heap.size x r) (hq : isQ q = true) (h0 : 0 ≤ s) (h1 : s ≤ q.v - 1) (hv : vldP q s r) (hn : r.length ≤ 20) :
    Calls Try.prog 98 #[u, x] w0 fun e w' => e = .returned (.bool true) ∧ Below w0.heap.size w0 w' := by
  have hu' := hu
  obtain ⟨A, c, C, d, rfl, hf, hT, hr, lf, lt⟩ := hu.open_
  obtain ⟨E, a, rfl, hE, he1, he2, he3⟩ := hx.open_
  clear hu hx
  obtain ⟨W, hW⟩ : ∃ W, W = (w0.alloc (.cells #[.int .i64 q.v, .slice A q.f.length c, .slice C q.t.length d] 26)).alloc (.cells #[.int .i64 s, .slice E r.length a] 99) := ⟨_, rfl⟩
  have g0 : Below w0.heap.size w0 W := by rw [hW]; exact ((Below.refl _ _).alloc (Nat.le_refl _) _).alloc (by simp) _
  have kB : Blk W w0.heap.size 26 #[.int .i64 q.v, .slice A q.f.length c, .slice C q.t.length d] := by rw [hW]; exact (Blk.new _ _ _).alloc _
  have kP : Blk W (w0.heap.size + 1) 99 #[.int .i64 s, .slice E r.length a] := by rw [hW]; have := Blk.new (w0.alloc (.cells #[.int .i64 q.v, .slice A q.f.length c, .slice C q.t.length d] 26)) 99 #[.int .i64 s, .slice E r.length a]; simpa only [World.size_alloc] using this
  obtain ⟨hv5, hlen, h6, _, _⟩ := isQ_t.1 hq
  have HL := Lib.hid hlen
  have HQ := Lib.hid hq
  have HU := Lib.hid (QvR.next g0 hu')
  have c0 := kB.cell' (i := 0) rfl
  have p0 := kP.cell' (i := 0) rfl
  have p1 := kP.cell' (i := 1) rfl
  have hin := inR_yes h0 h1
  clear hlen hq hu'
  go_enter Try.func98, Try.ntmps98
  go_wp2_with fail
  rw [← hW]; clear hW
  go_wp2_with fail
  refine (specIsQuiver_any _ q _ HU.out).mono ?_; rintro e w1 ⟨rfl, hb1⟩
  rw [HQ.out]
  have g1 := bthen g0 hb1
  have kB1 := kB.call hb1
  have kP1 := kP.call hb1
  clear c0 p0 p1 g0 hb1 HU kB kP
  have c0 := kB1.cell' (i := 0) rfl
  have p1 := kP1.cell' (i := 1) rfl
  have hsub : wrap64 (q.v - 1) = q.v - 1 := by unfold wrap64; omega
  go_wp2_with fail
  refine (l1In_any _ _ _ _).mono ?_; rintro e w' ⟨rfl, rfl⟩
  rw [hin]
  clear hsub
  have HV := Lib.hid hv
  clear hv hin
  go_wp2
  go_loopw [5, 6] (fun a i wr => ∃ (k : Nat) (t : Int), k ≤ r.length ∧ i = .int .i64 k ∧ a = .int .i64 t ∧ Hid (vldP q t (r.drop k)) ∧ Below w'.heap.size w' wr) (fun _ i _ => r.length - (intOf i).toNat)
  case atStart => exact ⟨0, s, Nat.zero_le _, rfl, rfl, HV, Below.refl _ _⟩
  case round =>
    obtain ⟨k, t, hk, rfl, rfl, hvd, hbel⟩ := hrel
    have kBr := kB1.call hbel
    have kPr := kP1.call hbel
    have gr := bthen g1 hbel
    clear c0 p1
    have p1 := kPr.cell' (i := 1) rfl
    by_cases hlt : k < r.length
    · obtain ⟨b1, o1, i, rfl, hbb1, HX, y1, _⟩ := SlI.at_ hE hlt
      have hdr : r.drop k = i :: r.drop (k + 1) := by rw [List.drop_eq_getElem_cons hlt]; have := HX.out; rw [List.getElem?_eq_getElem hlt] at this; injection this with this; rw [this]
      have hvd2 := hvd.out
      rw [hdr] at hvd2
      obtain ⟨hi0, hif, bb, hit, hrest⟩ := hvd2
      obtain ⟨i', rfl⟩ : ∃ i' : Nat, i = (i' : Int) := ⟨i.toNat, by omega⟩
      rw [Int.toNat_natCast] at hif hit
      have hil := lt_of_some hif
      have hil2 := lt_of_some hit
      obtain ⟨b2, o2, x2, rfl, hb2, HF, y2, _⟩ := SlI.at_ hf hil
      obtain rfl : x2 = t := by have := HF.out; rw [hif] at this; injection this with this; exact this.symm
      obtain ⟨b3, o3, x3, rfl, hb3, HT, y3, _⟩ := SlI.at_ hT hil2
      obtain rfl : x3 = bb := by have := HT.out; rw [hit] at this; injection this with this; exact this.symm
      have HR := Lib.hid hrest
      have s := gr.size
      have d1 := InB.cell kBr.lt (kBr.cell' (i := 1) rfl)
      have d2 := InB.cell kBr.lt (kBr.cell' (i := 2) rfl)
      have d3 := InB.cell kPr.lt p1
      have d4 := InB.cell (by omega) (bcell gr hbb1 y1)
      have d5 := InB.cell (by omega) (bcell gr hb2 y2)
      have z3 := bcell gr hb3 y3
      have z1 := bcell gr hbb1 y1
      have hin : inR (i' : Int) 0 ((q.f.length : Int) - 1) = true := inR_yes (by omega) (by omega)
      clear hdr hif hit hrest HX HF HT y1 y2 y3 hvd
      go_wp2
      (refine wp_region_inB (by kernel_rfl) (by kernel_rfl) ?_; (repeat (go_big_quiet_step ((go_at_call 38; exact InB.call_same (l1In_any _ _ _ _))))); refine wpQuiet_nil ?_; intro w1 hw'; obtain ⟨s1, hw1⟩ := hw'; have hb1 := s1.below; rw [← hw1] at hb1; clear hw1 s1)
      clear d1 d2 d3 d4 d5
      have e2 := (kBr.call hb1).cell' (i := 2) rfl
      have e1 := (kPr.call hb1).cell' (i := 1) rfl
      have z3' := bcell hb1 (by omega) z3
      have z1' := bcell hb1 (by omega) z1
      clear z1 z3
      go_wp2_with fail
      go_quiet (fail)
      go_wp2
      go_roundw
      case rel => exact ⟨k + 1, x3, by omega, by go_num, rfl, HR, below_drewN (hbel.trans (hb1.mono hbel.size)) _⟩
      case measure => simp [intOf]; omega
    · clear hvd HV hE hf hT
      go_wp2
      go_ret
      exact ⟨rfl, gr⟩
set_option maxHeartbeats 1600000 in
theorem specEndOf_any (u x : Value) (q : Qv) (s : Int) (r : List Int) (w0 : World) (hu : QvR w0 w0.heap.size u q) (hx : PtR s w0 w0.heap.size x r) (hq : isQ q = true) (h0 : 0 ≤ s) (h1 : s ≤ q.v - 1) (hv : vldP q s r) (hn : r.length ≤ 20) :
    Calls Try.prog 90 #[u, x] w0 fun e w' => e = .returned (.int .i64 (endP q s r)) ∧ Below w0.heap.size w0 w' := by
  have hu' := hu
  have hx' := hx
  obtain ⟨A, c, C, d, rfl, hf, hT, hr, lf, lt⟩ := hu.open_
  obtain ⟨E, a, rfl, hE, he1, he2, he3⟩ := hx.open_
  clear hu hx
  obtain ⟨W, hW⟩ : ∃ W, W = (w0.alloc (.cells #[.int .i64 q.v, .slice A q.f.length c, .slice C q.t.length d] 26)).alloc (.cells #[.int .i64 s, .slice E r.length a] 99) := ⟨_, rfl⟩
  have g0 : Below w0.heap.size w0 W := by rw [hW]; exact ((Below.refl _ _).alloc (Nat.le_refl _) _).alloc (by simp) _
  have kB : Blk W w0.heap.size 26 #[.int .i64 q.v, .slice A q.f.length c, .slice C q.t.length d] := by rw [hW]; exact (Blk.new _ _ _).alloc _
  have kP : Blk W (w0.heap.size + 1) 99 #[.int .i64 s, .slice E r.length a] := by rw [hW]; have := Blk.new (w0.alloc (.cells #[.int .i64 q.v, .slice A q.f.length c, .slice C q.t.length d] 26)) 99 #[.int .i64 s, .slice E r.length a]; simpa only [World.size_alloc] using this
  have hlen := (isQ_t.1 hq).2.1
  have HI := Lib.hid (specIsPath_any _ _ q s r W (QvR.next g0 hu') (PtR.next g0 hx') hq h0 h1 hv hn)
  have c0 := kB.cell' (i := 0) rfl
  have c1 := kB.cell' (i := 1) rfl
  have c2 := kB.cell' (i := 2) rfl
  have p0 := kP.cell' (i := 0) rfl
  have p1 := kP.cell' (i := 1) rfl
  clear hu' hx' hq h0 h1 hn
  by_cases h0 : r.length = 0
  · have hr0 : r = [] := List.eq_nil_of_length_eq_zero h0
    subst hr0
    simp only [List.length_nil] at hW p1 kP HI
    clear hE hv he1 he3 h0 hlen
    go_enter Try.func90, Try.ntmps90
    go_wp2_with fail
    rw [← hW]; clear hW
    go_wp2_with fail
    refine HI.out.mono ?_; rintro e w1 ⟨rfl, hb1⟩
    have g1 := bthen g0 hb1
    have kP1 := kP.call hb1
    clear c0 c1 c2 p0 p1 g0 hb1 HI kB kP
    have p0 := kP1.cell' (i := 0) rfl
    have p1 := kP1.cell' (i := 1) rfl
    go_wp2
    go_ret
    exact ⟨rfl, g1⟩
  · obtain ⟨i, b, h1, h2, h3⟩ := endP_get hlen hv (by omega)
    rw [h3]
    have hil := lt_of_some h2
    obtain ⟨b1, o1, x1, rfl, hbb1, HX, y1, _⟩ := SlI.at_ hE (k := r.length - 1) (by omega)
    obtain rfl : x1 = (i : Int) := by have := HX.out; rw [h1] at this; injection this with this; exact this.symm
    obtain ⟨b2, o2, x2, rfl, hbb2, HT, y2, _⟩ := SlI.at_ hT hil
    obtain rfl : x2 = b := by have := HT.out; rw [h2] at this; injection this with this; exact this.symm
    have hdl : decide ((r.length : Int) = 0) = false := decide_eq_false (by omega)
    have hcast : ((r.length - 1 : Nat) : Int) = (r.length : Int) - 1 := by omega
    clear hE hv h1 h2 h3 HX HT hf hT hlen
    go_enter Try.func90, Try.ntmps90
    go_wp2_with fail
    rw [← hW]; clear hW
    go_wp2_with fail
    refine HI.out.mono ?_; rintro e w1 ⟨rfl, hb1⟩
    have g1 := bthen g0 hb1
    have kB1 := kB.call hb1
    have kP1 := kP.call hb1
    clear c0 c1 c2 p0 p1 g0 hb1 HI kB kP
    have c2 := kB1.cell' (i := 2) rfl
    have p1 := kP1.cell' (i := 1) rfl
    have z1 := bcell g1 hbb1 y1
    have z2 := bcell g1 hbb2 y2
    clear y1 y2 kB1 kP1
    go_wp2_with fail
    go_quiet (fail)
    go_wp2
    go_ret
    exact ⟨rfl, below_drewN g1 _⟩
end Go.Proofs.Ytaefpblpfjhgoaa

/- pathsFrom -/
namespace Go.Proofs.Ytaefpblpfjhgoaa
set_option linter.unusedVariables false
set_option linter.unusedSimpArgs false
open Go.RowKit

end Go.Proofs.Ytaefpblpfjhgoaa

/- pathsBetween: the closure. -/
namespace Go.Proofs.Ytaefpblpfjhgoaa
set_option linter.unusedVariables false
set_option linter.unusedSimpArgs false
open Go.RowKit

end Go.Proofs.Ytaefpblpfjhgoaa

/- slices.IndexFunc and slices.DeleteFunc at paths. -/
namespace Go.Proofs.Ytaefpblpfjhgoaa
set_option linter.unusedVariables false
set_option linter.unusedSimpArgs false
open Go.RowKit

/-- what the loop of DeleteFunc keeps: the row's cells from place j on -/
def DlR (s : Int) (w : World) (lo g c : Nat) (vs : List Value) (ll : List (List Int)) (j : Nat) : Prop :=
  ∃ cur : Array Value, Blk w g 99 cur ∧ cur.size = c * 2 ∧ (∀ (k : Nat) (u : Value), j ≤ k → vs[k]? = some u → cur[k * 2]? = some (.int .i64 s) ∧ cur[k * 2 + 1]? = some u) ∧ ArO w lo vs ll
theorem ArO.setC {w : World} {la g i : Nat} {t : TypeId} {cs : Array Value} {vs : List Value} {ll : List (List Int)} (h : ArO w la vs ll) (hb : Blk w g t cs) (ht : 3 ≠ t) (u : Value) : ArO (w.setCell ⟨g, i, none⟩ u) la vs ll :=
  ⟨h.1, fun j u' l h1 h2 => (h.2 j u' l h1 h2).setCell (p := ⟨g, i, none⟩) (fun e => (h.2 j u' l h1 h2).blkne hb ht e.symm) u⟩
theorem DlR.below {s : Int} {w w' : World} {lo g c j : Nat} {vs : List Value} {ll : List (List Int)} (h : DlR s w lo g c vs ll j) (hb : Below w.heap.size w w') : DlR s w' lo g c vs ll j := by
  obtain ⟨cur, h1, h2, h3, h4⟩ := h
  exact ⟨cur, h1.call hb, h2, h3, h4.below hb⟩
theorem DlR.later {s : Int} {w : World} {lo g c j : Nat} {vs : List Value} {ll : List (List Int)} (h : DlR s w lo g c vs ll j) : DlR s w lo g c vs ll (j + 1) := by
  obtain ⟨cur, h1, h2, h3, h4⟩ := h
  exact ⟨cur, h1, h2, fun k u hk => h3 k u (by omega), h4⟩
theorem DlR.put {s : Int} {w : World} {lo g c i j : Nat} {vs : List Value} {ll : List (List Int)} (h : DlR s w lo g c vs ll j) (hij : i < j) (u0 u1 : Value) : DlR s ((w.setCell ⟨g, i * 2, none⟩ u0).setCell ⟨g, i * 2 + 1, none⟩ u1) lo g c vs ll (j + 1) := by
  obtain ⟨cur, h1, h2, h3, h4⟩ := h
  refine ⟨(cur.setIfInBounds (i * 2) u0).setIfInBounds (i * 2 + 1) u1, (h1.set_ _ _).set_ _ _, by simp [h2], fun k u hk hu => ?_, (h4.setC h1 (by decide) _).setC (h1.set_ _ _) (by decide) _⟩
  obtain ⟨e0, e1⟩ := h3 k u (by omega) hu
  rw [Array.getElem?_setIfInBounds_ne (by omega), Array.getElem?_setIfInBounds_ne (by omega), Array.getElem?_setIfInBounds_ne (by omega), Array.getElem?_setIfInBounds_ne (by omega)]
  exact ⟨e0, e1⟩
end Go.Proofs.Ytaefpblpfjhgoaa

/- The program's PathsBetween and CountPaths. -/
namespace Go.Proofs.Ytaefpblpfjhgoaa
set_option linter.unusedVariables false
set_option linter.unusedSimpArgs false
open Go.RowKit

def pbOk (q : Qv) (s t : Int) : Bool := acyQ q && inR s 0 (q.v - 1) && inR t 0 (q.v - 1)
def pbN (q : Qv) (s t : Int) : Nat := if pbOk q s t then ((pthF q 4 s).filter fun r => endP q s r == t).length else 0
def cpQ (q : Qv) (s t : Int) : Int := if pbOk q s t then cN q 4 s t else -1
theorem cp_no {q : Qv} {s t : Int} (h : pbOk q s t = false) : cpQ q s t = -1 ∧ pbN q s t = 0 := by simp [cpQ, pbN, h]
theorem cp_yes {q : Qv} {s t : Int} (h : pbOk q s t = true) : cpQ q s t = pbN q s t := by rw [cpQ, pbN, if_pos h, if_pos h, cnt_F]
theorem pbOk_acy {q : Qv} {s t : Int} (h : acyQ q = false) : pbOk q s t = false := by simp [pbOk, h]
theorem pbOk_s {q : Qv} {s t : Int} (h : inR s 0 (q.v - 1) = false) : pbOk q s t = false := by simp [pbOk, h]
theorem pbOk_t {q : Qv} {s t : Int} (h : inR t 0 (q.v - 1) = false) : pbOk q s t = false := by simp [pbOk, h]
end Go.Proofs.Ytaefpblpfjhgoaa

/- ProjectiveDims and InjectiveDims: the program's. -/
namespace Go.Proofs.Ytaefpblpfjhgoaa
set_option linter.unusedVariables false
set_option linter.unusedSimpArgs false
open Go.RowKit

def dimOk (q : Qv) (v : Int) : Bool := acyQ q && inR v 0 (q.v - 1)
def dmQ (q : Qv) (v : Int) : List Int := if dimOk q v then dmP q v else []
def dmJ (q : Qv) (v : Int) : List Int := if dimOk q v then dmI q v else []
theorem cN_rng {q : Qv} (h6 : q.f.length ≤ 6) (s w : Int) : 0 ≤ cN q 4 s w ∧ cN q 4 s w ≤ 10000 := by
  refine ⟨cN_nonneg q w 4 s, ?_⟩
  rw [← cnt_F]
  have h1 := List.length_filter_le (fun r => endP q s r == w) (pthF q 4 s)
  have h2 := pthF_le h6 4 s
  omega
theorem rowFs (n : Nat) (f : Nat → Int) : rowF (n + 1) f = rowF n f ++ [f n] := by simp [rowF, List.range_succ]
theorem cp_in {q : Qv} {v : Int} (h : dimOk q v = true) {w : Nat} (hw : w < q.v.toNat) : cpQ q v w = cN q 4 v w ∧ cpQ q w v = cN q 4 w v := by
  rw [dimOk, Bool.and_eq_true] at h
  have hw2 : inR (w : Int) 0 (q.v - 1) = true := inR_t.2 ⟨by omega, by omega⟩
  constructor
  · rw [cpQ, pbOk, h.1, h.2, hw2]; rfl
  · rw [cpQ, pbOk, h.1, h.2, hw2]; rfl
theorem dmQ_row (q : Qv) (v : Int) : dmQ q v = if dimOk q v then rowF q.v.toNat (fun w => cpQ q v w) else [] := by
  rw [dmQ]
  by_cases h : dimOk q v = true
  · rw [if_pos h, if_pos h, dmP, rowF]
    exact List.map_congr_left fun w hw => (cp_in h (List.mem_range.1 hw)).1.symm
  · rw [if_neg h, if_neg h]
theorem dmJ_row (q : Qv) (v : Int) : dmJ q v = if dimOk q v then rowF q.v.toNat (fun w => cpQ q w v) else [] := by
  rw [dmJ]
  by_cases h : dimOk q v = true
  · rw [if_pos h, if_pos h, dmI, rowF]
    exact List.map_congr_left fun w hw => (cp_in h (List.mem_range.1 hw)).2.symm
  · rw [if_neg h, if_neg h]
theorem cp_rng {q : Qv} (h : acyQ q = true) (s w : Int) : -1 ≤ cpQ q s w ∧ cpQ q s w ≤ 10000 := by
  have := cN_rng (isQ_t.1 (acy_isQ h)).2.2.1 s w
  rw [cpQ]; split <;> omega
end Go.Proofs.Ytaefpblpfjhgoaa

/- Minors by sets of rows: the reference's l18Minor. -/
namespace Go.Proofs.Ytaefpblpfjhgoaa
set_option linter.unusedVariables false
set_option linter.unusedSimpArgs false
open Go.RowKit

set_option maxHeartbeats 3200000 in
set_option maxRecDepth 100000 in
theorem l18Minor_any (u : Value) (n s : Nat) (g : Nat → Nat → Int) (w0 : World) (hn : n ≤ 5) (hs : s ≤ 64) (hg : ∀ a b, -12 ≤ g a b ∧ g a b ≤ 12) (hu : SlII w0 w0.heap.size u (matF n g)) :
    Calls Try.prog 85 #[u, .int .i64 s] w0 fun e w' => ∃ v, e = .returned v ∧ IntssO w' w0.heap.size w'.heap.size v (mnL s n g) ∧ Below w0.heap.size w0 w' := by
  obtain ⟨A, c, rfl, hc1, hc2, _, hx⟩ := hu.open_
  clear hu
  have HX := Lib.hid hx
  have HG := Lib.hid hg
  have HB1 := Lib.hid band1
  rw [matF_length] at hc1 ⊢
  clear hx hg
  obtain ⟨W, hW⟩ : ∃ z, z = w0.alloc (.cells #[] 24) := ⟨_, rfl⟩
  have b1 : Below w0.heap.size w0 W := by rw [hW]; exact below_alloc _ _
  have o1 : IntssO W w0.heap.size W.heap.size (.slice (some ⟨w0.heap.size, 0, none⟩) 0 0) [] := by rw [hW]; exact IntssO.made0 w0 (Nat.le_refl _)
  have s1 := b1.size
  go_enter Try.func85, Try.ntmps85
  go_wp2
  rw [← hW]; clear hW
  go_loopw [5, 6] (fun ov i wr => ∃ k : Nat, k ≤ n ∧ i = .int .i64 k ∧ IntssO wr w0.heap.size wr.heap.size ov (mnTo s n g k) ∧ Below w0.heap.size w0 wr) (fun _ i _ => n - (intOf i).toNat)
  case atStart => exact ⟨0, Nat.zero_le _, rfl, o1, b1⟩
  case round =>
    clear o1 b1 s1
    obtain ⟨k, hk, rfl, hO, hbel⟩ := hrel
    obtain ⟨OA, oc, eo, hoc, hoc2, hol⟩ := hO.form2
    have hlo : (mnTo s n g k).length = (bitL s k).length := by simp [mnTo]
    rw [hlo] at eo hoc
    subst eo
    have hbl := bitL_length s k
    by_cases hlt : k < n
    · obtain ⟨b, o, rfl, hb0⟩ := SlII.addr HX.out (by rw [matF_length]; omega)
      obtain ⟨r, RA, rc, hr0, _, y1, hr, hrc1, hrc2⟩ := SlII.elt HX.out (k := k) (by rw [matF_length]; omega)
      rw [matF_get _ hlt] at hr0
      injection hr0 with hr0
      subst hr0
      rcases hbt : bitT s k with _ | _
      · have h0 := bitT_0 hbt
        have h1 := HB1.out
        rw [show mnTo s n g k = mnTo s n g (k + 1) by rw [mnTo, mnTo, bitL_succ_f hbt]] at hO
        have HO := Lib.hid hO
        have HBE := Lib.hid hbel
        clear hO hbel hbt hlo hr y1
        go_wp2
        clear h0 h1
        go_roundw
        case rel => exact ⟨k + 1, by omega, by go_num, HO.out, HBE.out⟩
        case measure => simp [intOf]; omega
      · have h0 := bitT_1 hbt
        have h1 := HB1.out
        rw [rowF_length] at y1 hrc1
        obtain ⟨b2, o2, rfl, hb2⟩ := SlI.addr hr (by rw [rowF_length]; omega)
        obtain ⟨w1, hw1⟩ : ∃ z, z = wr.alloc (.cells #[] 3) := ⟨_, rfl⟩
        have bw1 : Below wr.heap.size wr w1 := by rw [hw1]; exact below_alloc _ _
        have o2' : IntsO w1 wr.heap.size w1.heap.size (.slice (some ⟨wr.heap.size, 0, none⟩) 0 0) [] := by rw [hw1]; exact IntsO.of_own (OwnI.made _ rfl (Nat.le_refl _))
        have hO1 := hO.below bw1
        have hbel1 := hbel.trans (bw1.mono hbel.size)
        have HR := Lib.hid hr
        have HO := Lib.hid hO1
        have HBE := Lib.hid hbel1
        have HBT := Lib.hid hbt
        have HLO := Lib.hid hlo
        have hws := hbel.size
        have hws1 := bw1.size
        obtain ⟨LO, hLO⟩ : ∃ z, z = wr.heap.size := ⟨_, rfl⟩
        rw [← hLO] at o2' hws hws1
        have HLO2 := Lib.hid hLO
        clear hO hbel hbt hlo hr hO1 hbel1 bw1
        go_wp2
        rw [← hw1]
        rw [← hLO]
        clear hw1 hLO h0 h1
        go_loopw [7, 8] (fun rv i wq => ∃ j : Nat, j ≤ n ∧ i = .int .i64 j ∧ IntsO wq LO wq.heap.size rv ((bitL s j).map (g k)) ∧ Below LO w1 wq) (fun _ i _ => n - (intOf i).toNat)
        case atStart => exact ⟨0, Nat.zero_le _, rfl, o2', Below.refl _ _⟩
        case round =>
          clear o2'
          obtain ⟨j, hj, rfl, hI, hbq⟩ := hrel
          obtain ⟨RV, rv, er, hrv1, hrv2⟩ := hI.1.form
          have hlr : ((bitL s j).map (g k)).length = (bitL s j).length := by simp
          have hbl2 := bitL_length s j
          have hwq := hbq.size
          have hbq2 : Below w0.heap.size w0 wr := HBE.out.trans (hbq.mono (by omega))
          rw [hlr] at er hrv1
          subst er
          by_cases hjn : j < n
          · rcases hbj : bitT s j with _ | _
            · have h0 := bitT_0 hbj
              have h1 := HB1.out
              rw [show (bitL s j).map (g k) = (bitL s (j + 1)).map (g k) by rw [bitL_succ_f hbj]] at hI
              have HI := Lib.hid hI
              have HBQ := Lib.hid hbq
              clear hI hbq hbj hlr hbq2
              go_wp2
              clear h0 h1
              go_roundw
              case rel => exact ⟨j + 1, by omega, by go_num, HI.out, HBQ.out⟩
              case measure => simp [intOf]; omega
            · have h0 := bitT_1 hbj
              have h1 := HB1.out
              obtain ⟨x, hx0, _, x1, _⟩ := SlI.elt HR.out (k := j) (by rw [rowF_length]; omega)
              rw [rowF_get _ hjn] at hx0
              injection hx0 with hx0
              have hgr := HG.out k j
              rw [hx0] at hgr
              have HSX := Lib.hid (show (bitL s (j + 1)).map (g k) = (bitL s j).map (g k) ++ [x] by rw [bitL_succ_t hbj, List.map_append, ← hx0]; rfl)
              have y2 := bcell hbq2 hb0 y1
              have x2 := bcell hbq2 hb2 x1
              have bz := below_alloc wr (.cells #[.int .i64 x] 3)
              have HI2 := Lib.hid (hI.below bz)
              have HB2 := Lib.hid (hbq.trans (bz.mono (by omega)))
              have HLR := Lib.hid hlr
              clear hx0 x1 hI hbq hbj hlr hbq2 bz
              (go_wp2_with (at_builtin; refine Hold.stop ?_)); unfold Hold
              refine wpList_appI rfl (.tmp 33) (.tmp 41) rfl LO _ (.slice RV (bitL s j).length rv) ((bitL s j).map (g k)) rfl HI2.out.1 _ _ _ [x] rfl rfl (SlI.one wr _ _ ⟨by omega, by omega⟩) (by rw [HLR.out]; simp; omega) (by simp; omega) ?_
              intro v9 w9 ho9 hg9 hv9
              rw [← HSX.out] at ho9
              have hbg : Below LO _ w9 := below_grown hg9 (fun k hk => (HI2.out.1.lt k hk).1) (by simp; omega)
              have HBT2 := Lib.hid (HB2.out.trans hbg)
              have HO9 := Lib.hid (IntsO.of_own ho9)
              clear ho9 hg9 hv9 hbg h0 h1 x2 y2
              go_wp2
              go_roundw
              case rel => exact ⟨j + 1, by omega, by go_num, HO9.out, HBT2.out⟩
              case measure => simp [intOf]; omega
          · have hjn' : j = n := by omega
            replace hI : IntsO wr LO wr.heap.size (.slice RV (bitL s j).length rv) ((bitL s n).map (g k)) := by rw [show (bitL s n).map (g k) = (bitL s j).map (g k) by rw [hjn']]; exact hI
            obtain ⟨u, hu, Z, hZ⟩ : ∃ u, u = wr.heap.size ∧ ∃ Z, Z = wr.alloc (.cells #[.slice RV (bitL s j).length rv] 24) := ⟨_, rfl, _, rfl⟩
            have bZ : Below wr.heap.size wr Z := by rw [hZ]; exact below_alloc _ _
            have kZ : Blk Z u 24 #[.slice RV (bitL s j).length rv] := by rw [hZ, hu]; exact Blk.new _ _ _
            have HOZ := Lib.hid ((HO.out.chg (chg_belowB hbq) (.inl (Nat.le_of_eq HLO2.out.symm))).below bZ)
            have HRZ := Lib.hid (hI.below bZ)
            have HBZ := Lib.hid (hbq2.trans (bZ.mono (by have := hbq2.size; omega)))
            have sZ := bZ.size
            have C0 := Lib.hid (kZ.cell' (i := 0) rfl)
            have HU := Lib.hid hu
            have HSN := Lib.hid (show mnTo s n g (k + 1) = mnTo s n g k ++ [(bitL s n).map (g k)] by rw [mnTo, bitL_succ_t HBT.out, List.map_append]; rfl)
            have hb2s := hbq2.size
            clear hI hbq hbq2 bZ kZ hu hjn' hlr
            (go_wp2_with (at_builtin; refine Hold.stop ?_)); unfold Hold
            rw [← HU.out, ← hZ]
            clear hZ
            refine wpList_appR rfl (.tmp 43) (.tmp 45) rfl w0.heap.size LO LO wr.heap.size (.slice OA (bitL s k).length oc) (mnTo s n g k) ((bitL s n).map (g k)) rfl (by rw [HLO2.out]; exact HOZ.out) _ _ (.slice RV (bitL s j).length rv) rfl ⟨u, 0, rfl, C0.out⟩ HRZ.out (Nat.le_refl _) (by omega) (by omega) (by rw [HLO.out]; omega) (by omega) (by omega) ?_
            intro v9 w9 ho9 hb9 _
            rw [← HSN.out] at ho9
            have HO9 := Lib.hid ho9
            have HB9 := Lib.hid (HBZ.out.trans hb9)
            clear ho9 hb9
            go_wp2
            go_roundw
            case rel => exact ⟨k + 1, by omega, by go_num, HO9.out, HB9.out⟩
            case measure => simp [intOf]; omega
    · have hkn : k = n := by omega
      have HO := Lib.hid (show IntssO wr w0.heap.size wr.heap.size (.slice OA (bitL s k).length oc) (mnL s n g) by rw [show mnL s n g = mnTo s n g k by rw [mnL, hkn]]; exact hO)
      clear hO hkn
      go_wp2
      go_ret
      exact ⟨_, rfl, HO.out, hbel⟩
end Go.Proofs.Ytaefpblpfjhgoaa

/- A row of a matrix of the program, in the matrix's own memory. -/
namespace Go.Proofs.Ytaefpblpfjhgoaa
set_option linter.unusedVariables false
set_option linter.unusedSimpArgs false
open Go.RowKit

theorem ix_next {i r c P : Nat} (hi : i < r) (hr : r ≤ 1000) (hc : c ≤ 1000) (hP : wrap64 ((i : Int) * (c : Int)) = (P : Int)) :
    P = i * c ∧ wrap64 (((i : Int) + 1) * (c : Int)) = ((P + c : Nat) : Int) ∧ P + c ≤ r * c ∧ P + c ≤ 1000000 := by
  have h1 : (i + 1) * c ≤ r * c := Nat.mul_le_mul_right _ hi
  have h2 : r * c ≤ 1000 * 1000 := Nat.mul_le_mul hr hc
  have h3 : (i + 1) * c = i * c + c := by rw [Nat.add_mul, Nat.one_mul]
  have e1 : P = i * c := by
    rw [show ((i : Int) * (c : Int)) = ((i * c : Nat) : Int) by simp, IntWalk.wrap64_in _ ⟨by omega, by omega⟩] at hP
    omega
  refine ⟨e1, ?_, by omega, by omega⟩
  rw [show (((i : Int) + 1) * (c : Int)) = (((i + 1) * c : Nat) : Int) by simp, h3, ← e1]
  exact IntWalk.wrap64_in _ ⟨by omega, by omega⟩
end Go.Proofs.Ytaefpblpfjhgoaa

/- Rows of a matrix of the program, as lists. -/
namespace Go.Proofs.Ytaefpblpfjhgoaa
set_option linter.unusedVariables false
set_option linter.unusedSimpArgs false
open Go.RowKit
set_option maxHeartbeats 800000 in
theorem row_zero (r : Int) (i cap : Nat) (A : Option Addr) (w : World) (hb : cap ≤ 9223372036854775807) (hi : i ≤ 1000) :
    Calls Try.prog 83 #[.agg #[.int .i64 r, .int .i64 0, .slice A 0 cap], .int .i64 i] w fun e w' => ∃ A, e = .returned (.slice A 0 cap) ∧ Below w.heap.size w w' := by
  go_enter Try.func83, Try.ntmps83
  go_wp2
  exact bodyPost_ret (by simp [results, go_sem]; rfl) rfl ⟨_, rfl, below_alloc _ _⟩

def rowsF (r c : Nat) (f : Nat → Nat → Int) : List (List Int) := (List.range r).map fun i => rowF c (f i)
theorem rowsF_length (r c : Nat) (f : Nat → Nat → Int) : (rowsF r c f).length = r := by simp [rowsF]
theorem rowsF_get {r c j : Nat} (f : Nat → Nat → Int) (h : j < r) : (rowsF r c f)[j]? = some (rowF c (f j)) := by simp [rowsF, h]
theorem rowsF_succ (r c : Nat) (f : Nat → Nat → Int) : rowsF (r + 1) c f = rowsF r c f ++ [rowF c (f r)] := by simp [rowsF, List.range_succ]
/-- a stretch of a slice of ints -/
theorem SlI.part {w : World} {B g o n cap P c : Nat} {l l' : List Int} (h : SlI w B (.slice (some ⟨g, o, none⟩) n cap) l) (hn : n = l.length) (hc : P + l'.length ≤ l.length) (hl : ∀ j x, l'[j]? = some x → l[P + j]? = some x) (hcn : c = cap - P) :
    SlI w B (.slice (some ⟨g, o + P, none⟩) l'.length c) l' := by
  subst hn hcn
  obtain ⟨A', c', e, h1, h2, h3, h4⟩ := h
  injection e with e1 e2 e3
  subst e1 e3
  refine ⟨_, _, rfl, by omega, by omega, by omega, fun hp => ?_⟩
  obtain ⟨b, o', e, hb, hx⟩ := h4 (by omega)
  injection e with e
  injection e with e1 e2
  subst e1 e2
  refine ⟨g, o + P, rfl, hb, fun j x hj => ?_⟩
  have := hx (P + j) x (hl j x hj)
  rw [show o + P + j * 1 = o + (P + j) * 1 by omega]
  exact this
set_option maxHeartbeats 800000 in
theorem row_atO (r : Int) (c i P N cap g o : Nat) (w : World) (h1 : wrap64 ((i : Int) * (c : Int)) = (P : Int)) (h2 : wrap64 (((i : Int) + 1) * (c : Int)) = ((P + c : Nat) : Int))
    (hN : P + c ≤ N) (hcap : N ≤ cap) (hb : cap ≤ 9223372036854775807) (h0 : 0 < c) (hi : i ≤ 1000) :
    Calls Try.prog 83 #[.agg #[.int .i64 r, .int .i64 c, .slice (some ⟨g, o, none⟩) N cap], .int .i64 i] w fun e w' => e = .returned (.slice (some ⟨g, o + P, none⟩) c (cap - P)) ∧ Below w.heap.size w w' := by
  go_enter Try.func83, Try.ntmps83
  go_wp2
  exact bodyPost_ret (v := .slice (some ⟨g, o + P, none⟩) c (cap - P)) (by simp [results, go_sem]) rfl ⟨rfl, below_alloc _ _⟩
theorem row_any (u : Value) (r c i : Nat) (f : Nat → Nat → Int) (w : World) (hu : MxR w w.heap.size u (mxF r c f)) (hr : r ≤ 1000) (hc : c ≤ 1000) (hi : i < r) :
    Calls Try.prog 83 #[u, .int .i64 i] w fun e w' => ∃ v, e = .returned v ∧ SlI w' w'.heap.size v (rowF c (f i)) ∧ Below w.heap.size w w' := by
  obtain ⟨A, cap, rfl, hs, _, _, hl⟩ := hu.open_
  simp only [mxF] at hs hl ⊢
  rcases Nat.eq_zero_or_pos c with rfl | h0
  · obtain ⟨_, _, e, h1, h2, _⟩ := hs
    injection e with e1 e2 e3
    subst e1 e3
    have e : (flat r 0 f).length = 0 := by rw [flat_length]; rfl
    rw [e]
    refine (row_zero r i cap A w h2 (by omega)).mono fun e w' ⟨A', h3, h4⟩ => ⟨_, h3, ?_, h4⟩
    exact ⟨A', cap, by simp [rowF], by simp [rowF], h2, by simp [rowF], fun h => by simp [rowF] at h⟩
  · obtain ⟨P, J, hP, _, _, _, _⟩ := ix_walk hi h0 hr hc
    obtain ⟨hPi, hP2, hPL, _⟩ := ix_next hi hr hc hP
    have hlt := ix_lt hi h0
    have hs' := hs
    obtain ⟨_, _, e, h1, h2, h3, h4⟩ := hs
    injection e with e1 e2 e3
    subst e1 e3
    obtain ⟨b, o, rfl, hb, hx⟩ := h4 (by rw [flat_length]; omega)
    refine (row_atO r c i P _ cap b o w hP hP2 (by rw [flat_length]; exact hPL) h1 h2 h0 (by omega)).mono fun e w' ⟨h5, h6⟩ => ⟨_, h5, ?_, h6⟩
    have := SlI.part (P := P) (l' := rowF c (f i)) (SlI.next h6 hs') rfl (by rw [rowF_length, flat_length]; exact hPL) (fun j x hj => ?_) rfl
    · rwa [rowF_length] at this
    · have hjc := lt_of_some hj
      rw [rowF_length] at hjc
      rw [rowF_get _ hjc] at hj
      rw [hPi, flat_get f hi hjc]
      exact hj

set_option maxHeartbeats 1600000 in
theorem rows_any (u : Value) (r c : Nat) (f : Nat → Nat → Int) (w0 : World) (hu : MxR w0 w0.heap.size u (mxF r c f)) (hr : r ≤ 1000) (hc : c ≤ 1000) :
    Calls Try.prog 61 #[u] w0 fun e w' => ∃ v, e = .returned v ∧ IntssO w' w0.heap.size w'.heap.size v (rowsF r c f) ∧ Below w0.heap.size w0 w' := by
  have hu' := hu
  obtain ⟨A, cap, rfl, hs, i1, i2, hl⟩ := hu.open_
  clear hu
  simp only [mxF] at hs hl i1 i2 ⊢
  obtain ⟨W, hW⟩ : ∃ W, W = w0.alloc (.cells #[.int .i64 r, .int .i64 c, .slice A (flat r c f).length cap] 68) := ⟨_, rfl⟩
  have g0 : Below w0.heap.size w0 W := by rw [hW]; exact below_alloc _ _
  have kB : Blk W w0.heap.size 68 #[.int .i64 r, .int .i64 c, .slice A (flat r c f).length cap] := by rw [hW]; exact Blk.new _ _ _
  obtain ⟨L, hL⟩ : ∃ L, (flat r c f).length = L := ⟨_, rfl⟩
  simp only [mxF] at hu'
  rw [hL] at hu' hs hl kB hW ⊢
  clear hL
  have c0 := kB.cell' (i := 0) rfl
  have c1 := kB.cell' (i := 1) rfl
  have c2 := kB.cell' (i := 2) rfl
  have HU := Lib.hid (MxR.next g0 hu')
  have sz : w0.heap.size < W.heap.size := kB.lt
  go_enter Try.func61, Try.ntmps61
  go_wp2
  rw [← hW]
  clear hW
  go_loopw [3, 7] (fun out i wr => ∃ (k : Nat) (vs : List Value), k ≤ r ∧ i = .int .i64 k ∧ Below W.heap.size W wr ∧ OutO wr W.heap.size wr.heap.size out vs ∧ vs.length = k ∧ Fam wr W.heap.size wr.heap.size (vs.zip (rowsF k c f))) (fun _ i _ => r - (intOf i).toNat)
  case atStart => exact ⟨0, [], Nat.zero_le _, rfl, Below.refl _ _, ⟨World.ownsRow_nil _ _ _ _, by simp [Value.ownBlock], by simp⟩, rfl, ⟨fun p hp => by simp at hp, by simp⟩⟩
  case round =>
    clear c0 c1 c2
    obtain ⟨k, vs, hk, rfl, hbel, hO, hvl, hF⟩ := hrel
    have kB2 := kB.call hbel
    have c0 := kB2.cell' (i := 0) rfl
    have c1 := kB2.cell' (i := 1) rfl
    have c2 := kB2.cell' (i := 2) rfl
    have HVL := Lib.hid hvl
    clear hvl
    by_cases hlt : k < r
    · have HUR := Lib.hid (MxR.more hbel.size (MxR.below hbel HU.out))
      have hws := hbel.size
      obtain ⟨OA, oc, rfl, _, _⟩ := hO.form
      have HO := Lib.hid hO
      have HF := Lib.hid hF
      clear hO hF
      go_wp2_with fail
      refine (row_any _ r c k f _ HUR.out hr hc hlt).mono ?_; rintro e w1 ⟨v1, rfl, hv1, hb1⟩
      have hb0 := hb1
      go_wp2_with fail
      refine (clone_own _ _ _ hv1).mono ?_; rintro e wC ⟨v2, rfl, hI, hb2⟩
      have hbC := bthen hb1 hb2
      have hlo := hb1.size
      clear hb2 hb0
      obtain ⟨VA, vc, ev⟩ := hI.form
      rw [rowF_length] at ev
      subst ev
      have hO2 := HO.out.below hbC
      have hF2 := HF.out.below hbC
      have hbs := hbC.size
      have HI := Lib.hid hI
      have HO2 := Lib.hid hO2
      have HF2 := Lib.hid hF2
      have HBC := Lib.hid hbC
      clear hI hO2 hF2 hbC hb1 hv1
      (go_wp2_with (at_builtin; refine Hold.stop ?_)); unfold Hold
      obtain ⟨X, hX⟩ : ∃ X, X = wC.alloc (.cells #[.slice VA c vc] 24) := ⟨_, rfl⟩
      have gn : Below wC.heap.size wC X := by rw [hX]; exact below_alloc _ _
      have kn : Blk X wC.heap.size 24 #[.slice VA c vc] := by rw [hX]; exact Blk.new _ _ _
      have hO3 := HO2.out.below gn
      have hF3 := (HF2.out.snoc (HI.out.wider (lo' := wr.heap.size) hlo (Nat.le_refl _)) hws (by omega)).below gn
      have hXs := gn.size
      rw [← hX]
      clear hX
      refine wpList_appS rfl (.tmp 10) (.tmp 15) rfl W.heap.size (.slice OA vs.length oc) vs rfl hO3.1 _ _ (.slice VA c vc) rfl ⟨wC.heap.size, 0, rfl, kn.cell' (i := 0) rfl⟩ rfl (by have := HVL.out; omega) (by omega) ?_
      intro v' w' hn' hg' hv'
      have hbg : Below W.heap.size X w' := below_grown hg' (fun k hk => (hO3.1.lt k hk).1) (by omega)
      have hbt := (hbel.trans ((HBC.out).mono hws)).trans ((gn.mono (by omega)).trans hbg)
      have hF4 := Fam.grownO hF3 hO3.1 hg'
      have hws' := hbg.size
      have hO4 : OutO w' W.heap.size w'.heap.size v' (vs ++ [.slice VA c vc]) := ⟨hn', fun k hk => (hn'.lt k hk).2, by simp; have := HVL.out; omega⟩
      have HF4 := Lib.hid hF4
      have HO4 := Lib.hid hO4
      have HBT := Lib.hid hbt
      clear hn' hg' hv' hbg hbt hF4 hO4 hO3 hF3 kn gn
      go_wp2
      go_roundw
      case rel =>
        refine ⟨k + 1, vs ++ [.slice VA c vc], by omega, by go_num, HBT.out, HO4.out, by simp [HVL.out], ?_⟩
        have := HF4.out.mono (Nat.le_refl _) (show wC.heap.size ≤ w'.heap.size by omega)
        have e : (vs ++ [Value.slice VA c vc]).zip (rowsF (k + 1) c f) = vs.zip (rowsF k c f) ++ [(Value.slice VA c vc, rowF c (f k))] := by
          rw [rowsF_succ, List.zip_append (by rw [HVL.out, rowsF_length])]; rfl
        rw [e]
        exact this
      case measure => simp [intOf]; omega
    · obtain rfl : k = r := by omega
      have hO' := hO
      have hF' := hF
      go_wp2
      go_ret
      exact ⟨_, rfl, ⟨vs, hO'.mono (by omega) (Nat.le_refl _), by rw [HVL.out, rowsF_length], hF'.mono (by omega) (Nat.le_refl _)⟩, g0.trans (hbel.mono (by omega))⟩
end Go.Proofs.Ytaefpblpfjhgoaa

/- Columns of a matrix of the program, as lists; the matrix of some columns. -/
namespace Go.Proofs.Ytaefpblpfjhgoaa
set_option linter.unusedVariables false
set_option linter.unusedSimpArgs false
open Go.RowKit

def colK (k : Nat) (f : Nat → Nat → Int) (j i : Nat) : Int := if i < j then f i k else 0
end Go.Proofs.Ytaefpblpfjhgoaa

/- The matrix of some columns; the reference's transposed matrix. -/
namespace Go.Proofs.Ytaefpblpfjhgoaa
set_option linter.unusedVariables false
set_option linter.unusedSimpArgs false
open Go.RowKit

def fcK (f : Nat → Nat → Int) (k i a b : Nat) : Int := if b < k ∨ (b = k ∧ a < i) then f a b else 0
end Go.Proofs.Ytaefpblpfjhgoaa

/- The reference's transposed matrix. -/
namespace Go.Proofs.Ytaefpblpfjhgoaa
set_option linter.unusedVariables false
set_option linter.unusedSimpArgs false
open Go.RowKit

/-- cells of the transposed matrix, filled row by row of the given one -/
def trK (f : Nat → Nat → Int) (i k a b : Nat) : Int := if b < i ∨ (b = i ∧ a < k) then f b a else 0
end Go.Proofs.Ytaefpblpfjhgoaa

/- Matrices beside each other and below each other: the program's. -/
namespace Go.Proofs.Ytaefpblpfjhgoaa
set_option linter.unusedVariables false
set_option linter.unusedSimpArgs false
open Go.RowKit

/-- a beside b: the first c columns are a's -/
def bsF (c : Nat) (f g : Nat → Nat → Int) (a b : Nat) : Int := if b < c then f a b else g a (b - c)
/-- a above b -/
def blF (r : Nat) (f g : Nat → Nat → Int) (a b : Nat) : Int := if a < r then f a b else g (a - r) b
end Go.Proofs.Ytaefpblpfjhgoaa

/- slices.Concat at []int, and the matrix of some rows. -/
namespace Go.Proofs
open Go.Shelf
def Try.laysGrow_ren : Go.Shelf.Ren := ⟨fun | 4 => 102 | n => n, fun | 22 => 24 | 25 => 3 | 3 => 3 | 4 => 4 | 9 => 9 | 20 => 20 | 0 => 0 | n => n, fun | n => n⟩
theorem Try.laysGrow : Go.Proofs.Lays8.n4 Try.prog Try.laysGrow_ren := {
  mixed := by kernel_rfl
  f4 := ⟨Try.f102.name, by decide, Try.func102.trans (congrArg some (by kernel_rfl))⟩
  t0 := Try.underlying0
  a0 := Try.isAgg0
  z0 := Try.sizeOf0
  v0 := Try.zeroValue0
  t3 := Try.underlying3
  a3 := Try.isAgg3
  z3 := Try.sizeOf3
  v3 := Try.zeroValue3
  t4 := Try.underlying4
  a4 := Try.isAgg4
  z4 := Try.sizeOf4
  v4 := Try.zeroValue4
  t9 := Try.underlying9
  a9 := Try.isAgg9
  z9 := Try.sizeOf9
  v9 := Try.zeroValue9
  t20 := Try.underlying20
  a20 := Try.isAgg20
  z20 := Try.sizeOf20
  v20 := Try.zeroValue20
  t22 := Try.underlying24
  a22 := Try.isAgg24
  z22 := Try.sizeOf24
  v22 := Try.zeroValue24 }
end Go.Proofs
namespace Go.Proofs.Ytaefpblpfjhgoaa
set_option linter.unusedVariables false
set_option linter.unusedSimpArgs false
open Go.RowKit

theorem grow_any (n : Nat) (w : World) (hn : n ≤ 1000000) :
    Calls Try.prog 102 #[.slice none 0 0, .int .i64 n] w fun e w' => ∃ v, e = .returned v ∧ OwnI w' w.heap.size v [] ∧ Below w.heap.size w w' := by
  rcases Nat.eq_zero_or_pos n with rfl | h0
  · exact (Any8.slices_Grow_room Try.laysGrow none 0 0 0 w (by omega) (by omega) (by omega) (by omega)).mono fun e w' ⟨h1, h2⟩ => ⟨_, h1, OwnI.nil _ _, by rw [h2]; exact Below.refl _ _⟩
  · obtain ⟨i0, hi, hz0, hz1, hz2⟩ := info_parts infoInt
    have hG : Calls Try.prog 102 #[.slice none 0 0, .int .i64 n] w fun e w' => e = .returned (.slice (some ⟨w.heap.size, 0, none⟩) 0 (grownCap w (0 + n) 0 3)) ∧
        w' = w.drew.alloc (.cells (([] : List Value).toArray ++ Builtin.zeroCells (Value.int .i64 0).cells (0 + n - 0) ++ Builtin.zeroCells (Value.int .i64 0).cells (grownCap w (0 + n) 0 3 - (0 + n))) 3) :=
      Any8.slices_Grow_grow Try.laysGrow i0 _ hi hz0 (by omega) none 0 0 n [] w (by omega) (by omega) (by rw [hz2]; omega) (by omega) (by simp) (fun _ => rfl) (fun a h => by cases h)
    rw [Nat.zero_add, Nat.sub_zero] at hG
    refine hG.mono fun e w' ⟨h1, h2⟩ => ⟨_, h1, ?_, ?_⟩
    · rw [h2]
      have hg := grownCap_ge w n 0 3
      have hm := grownCap_le_maxLen w n 0 3 (by simp only [maxLen]; omega)
      refine ⟨⟨by simp, .inr ⟨w.heap.size, grownCap w n 0 3, _, rfl, Nat.le_refl _, Blk.new _ _ _, Nat.zero_le _, hm, ?_, by simp⟩⟩, by simp, by simp⟩
      have hz : (Value.int .i64 0).cells.size = 1 := rfl
      simp only [Array.size_append, size_zeroCells, List.size_toArray, List.length_nil, hz, Nat.mul_one]
      omega
    · rw [h2]
      exact bthen (drew_below w) (below_alloc _ _)

theorem flatten_len_take (ll : List (List Int)) (k : Nat) : (ll.take k).flatten.length ≤ ll.flatten.length := by
  have : ll = ll.take k ++ ll.drop k := (List.take_append_drop k ll).symm
  have h2 := congrArg (fun x => (List.flatten x).length) this
  simp only [List.flatten_append, List.length_append] at h2
  omega
set_option maxHeartbeats 1600000 in
theorem concat_any (u : Value) (ll : List (List Int)) (w : World) (hu : SlII w w.heap.size u ll) (hn : ll.length ≤ 1000000) (ht : ll.flatten.length ≤ 1000000) :
    Calls Try.prog 96 #[u] w fun e w' => ∃ v, e = .returned v ∧ IntsO w' w.heap.size w'.heap.size v ll.flatten ∧ Below w.heap.size w w' := by
  obtain ⟨A, c, rfl, _, _, _, hx⟩ := hu.open_
  clear hu
  have HX := Lib.hid hx
  have HT := Lib.hid ht
  obtain ⟨n, hnl⟩ : ∃ n, ll.length = n := ⟨_, rfl⟩
  have HNL := Lib.hid hnl
  rw [hnl] at hn ⊢
  clear hx ht hnl
  go_enter Try.func96, Try.ntmps96
  go_wp2
  go_loopw [3, 11] (fun s i wr => ∃ k : Nat, k ≤ n ∧ i = .int .i64 k ∧ s = .int .i64 ((ll.take k).flatten.length : Nat) ∧ w = wr) (fun _ i _ => n - (intOf i).toNat)
  case atStart => exact ⟨0, Nat.zero_le _, rfl, by simp, rfl⟩
  case round =>
    obtain ⟨k, hk, rfl, rfl, rfl⟩ := hrel
    have hle := flatten_len_take ll k
    have hle2 := flatten_len_take ll (k + 1)
    have ht := HT.out
    obtain ⟨s, hs⟩ : ∃ s, (ll.take k).flatten.length = s := ⟨_, rfl⟩
    by_cases hlt : k < n
    · rw [hs] at hle ⊢
      have hx := HX.out
      rw [← HNL.out] at hlt
      obtain ⟨b, o, l, LA, lc, rfl, hb, HL, x1, hl⟩ := SlII.at_ hx hlt
      rw [HNL.out] at hlt
      have e1 : (ll.take (k + 1)).flatten.length = s + l.length := by rw [take_snoc HL.out, List.flatten_append, List.length_append, hs]; simp
      rw [e1] at hle2
      have hsl : s + l.length ≤ 1000000 := by omega
      have E1 := Lib.hid e1
      clear hs e1 ht hle hle2 hx HL hl hb
      go_wp2
      go_roundw
      case rel => exact ⟨k + 1, by omega, by go_num, by rw [E1.out]; go_num, by first | rfl | trivial⟩
      case measure => simp [intOf]; omega
    · obtain rfl : k = n := by omega
      have e0 : ll.take k = ll := List.take_of_length_le (by have := HNL.out; omega)
      rw [e0] at hs ⊢
      rw [hs] at ht ⊢
      clear hle hle2 e0
      have HS := Lib.hid hs
      clear hs
      go_wp2_with fail
      refine (grow_any s _ (by omega)).mono ?_; rintro e w1 ⟨v, rfl, ho, hb1⟩
      obtain ⟨OA, oc, rfl, _, _⟩ := ho.form
      have gw := hb1
      go_wp2
      go_loopw [6, 27] (fun out i wr => ∃ j : Nat, j ≤ k ∧ i = .int .i64 j ∧ OwnI wr w.heap.size out (ll.take j).flatten ∧ Below w.heap.size w wr) (fun _ i _ => k - (intOf i).toNat)
      case atStart => exact ⟨0, Nat.zero_le _, rfl, by simpa using ho, hb1⟩
      case round =>
        clear ho hb1 gw
        obtain ⟨j, hj, rfl, ho, hb1⟩ := hrel
        have gs := hb1.size
        by_cases hlj : j < k
        · have hx := HX.out
          rw [← HNL.out] at hlj
          obtain ⟨b, o, l, LA, lc, rfl, hb, HL, x1, hl⟩ := SlII.at_ hx hlj
          rw [HNL.out] at hlj
          have x2 := bcell hb1 hb x1
          have hl2 : SlI wr w.heap.size (.slice LA l.length lc) l := SlI.below hb1 hl
          have e1 : (ll.take (j + 1)).flatten = (ll.take j).flatten ++ l := by rw [take_snoc HL.out, List.flatten_append]; simp
          have hle2 := flatten_len_take ll (j + 1)
          rw [e1, List.length_append, HS.out] at hle2
          have E1 := Lib.hid e1
          obtain ⟨OB, ob, rfl, _, _⟩ := ho.form
          have HO := Lib.hid ho
          have HL2 := Lib.hid hl2
          have HLE := Lib.hid hle2
          have GW := Lib.hid hb1
          have hlo2 := HO.out.lt
          clear e1 hx hl hl2 HL x1 ho hle2 hb1
          (go_wp2_with (at_builtin; refine Hold.stop ?_)); unfold Hold
          refine wpList_appI rfl (.tmp 31) (.tmp 32) rfl w.heap.size w.heap.size _ _ rfl HO.out LA l.length lc l rfl rfl HL2.out (by have := HLE.out; omega) gs ?_
          intro v' w' h1 h2 h3
          rw [← E1.out] at h1
          have g2 := (GW.out).trans (below_grown h2 (fun k hk => (hlo2 k hk).1) gs)
          have H1 := Lib.hid h1
          have G2 := Lib.hid g2
          clear h1 h2 h3 g2 hlo2
          go_wp2
          go_roundw
          case rel => exact ⟨j + 1, by omega, by go_num, H1.out, G2.out⟩
          case measure => simp [intOf]; omega
        · obtain rfl : j = k := by omega
          have e0 : ll.take j = ll := List.take_of_length_le (by have := HNL.out; omega)
          rw [e0] at ho
          have HO := Lib.hid ho
          clear ho e0
          go_wp2
          go_ret
          exact ⟨_, rfl, IntsO.of_own HO.out, hb1⟩

end Go.Proofs.Ytaefpblpfjhgoaa
