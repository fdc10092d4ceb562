/- The two IsFiltration. -/
import Derived.Test.YtndnjbofflddfaaKit3
import Derived.Test.YtndnjbofflddfaaInterval
import Derived.Test.YtndnjbofflddfaaIsQ
namespace Go.Proofs.Ytndnjbofflddfaa
set_option linter.unusedVariables false
set_option linter.unusedSimpArgs false
open Go.RowKit

/-- An edge of a filtration: two points and a stage. -/
def okEnd (s : Int) (bi : List Int) (e : List Int) : Bool :=
  match e with
  | [a, b, t] => inR a 0 ((bi.length : Int) - 1) && inR b 0 ((bi.length : Int) - 1) && (a != b) && inR t (max (bi.getD a.toNat 0) (bi.getD b.toNat 0)) (s - 1)
  | _ => false
def isF (f : Filt) : Bool := inR f.stages 1 5 && inR f.birth.length 1 4 && allR f.birth 0 (f.stages - 1) && decide (f.ends.length ≤ 8) && f.ends.all (okEnd f.stages f.birth)

theorem endC (l : List Int) : l.length ≠ 3 ∨ ∃ a b t, l = [a, b, t] := by
  match l with
  | [a, b, t] => exact .inr ⟨a, b, t, rfl⟩
  | [] | [_] | [_, _] | _ :: _ :: _ :: _ :: _ => exact .inl (by simp)
theorem okEnd_len {s : Int} {bi l : List Int} (h : l.length ≠ 3) : okEnd s bi l = false := by
  match l, h with
  | [_, _, _], h => simp at h
  | [], _ | [_], _ | [_, _], _ | _ :: _ :: _ :: _ :: _, _ => rfl
theorem isF_bad {q : Filt} {k : Nat} {l : List Int} (hl : q.ends[k]? = some l) (h : okEnd q.stages q.birth l = false) : isF q = false := by
  have : q.ends.all (okEnd q.stages q.birth) = false := by
    rw [List.all_eq_false]
    exact ⟨l, List.mem_of_getElem? hl, by simp [h]⟩
  simp [isF, this]
theorem isF_good {q : Filt} (h1 : inR q.stages 1 5 = true) (h2 : inR q.birth.length 1 4 = true) (h3 : allR q.birth 0 (q.stages - 1) = true) (h4 : q.ends.length ≤ 8) (h : ∀ e ∈ q.ends, okEnd q.stages q.birth e = true) : isF q = true := by
  have e : q.ends.all (okEnd q.stages q.birth) = true := List.all_eq_true.2 h
  simp [isF, h1, h2, h3, h4, e]

theorem okEnd_ab {s : Int} {bi : List Int} {a b t : Int} (h : allR [a, b] 0 ((bi.length : Int) - 1) = false) : okEnd s bi [a, b, t] = false := by
  simp only [allR, List.all_cons, List.all_nil, Bool.and_true, Bool.and_eq_false_iff] at h
  simp only [okEnd]
  rcases h with h | h <;> simp [h]
theorem SlI.caps {w : World} {B n c : Nat} {A : Option Addr} {l : List Int} (h : SlI w B (.slice A n c) l) : l.length ≤ c ∧ c ≤ 9223372036854775807 := by
  obtain ⟨A', c', e, h1, h2, _⟩ := h
  injection e with _ _ e
  subst e
  exact ⟨h1, h2⟩
/-- s[:k] -/
theorem SlI.front {w : World} {B n c k : Nat} {A : Option Addr} {l m : List Int} (h : SlI w B (.slice A n c) (l ++ m)) (hk : l.length = k := by rfl) : SlI w B (.slice A k c) l := by
  subst hk
  obtain ⟨A', c', e, h1, h2, h3, h4⟩ := h
  injection e with e1 _ e
  subst e1 e
  simp only [List.length_append] at h1 h3 h4
  refine ⟨A, c, rfl, by omega, h2, by omega, fun hp => ?_⟩
  obtain ⟨b, o, rfl, hb, hc⟩ := h4 (by omega)
  exact ⟨b, o, rfl, hb, fun j x hx => hc j x (by rw [List.getElem?_append_left (lt_of_some hx)]; exact hx)⟩

theorem okEnd_eq {s : Int} {bi : List Int} {a b t : Int} (h : a = b) : okEnd s bi [a, b, t] = false := by
  subst h
  simp [okEnd]

theorem max_if (x y : Int) : max x y = if y > x then y else x := by split <;> omega
theorem okEnd_go {s : Int} {bi : List Int} {i j : Nat} {t x y : Int} (h : allR [(i : Int), (j : Int)] 0 ((bi.length : Int) - 1) = true) (hij : (i : Int) ≠ j) (hx : bi[i]? = some x) (hy : bi[j]? = some y) : okEnd s bi [(i : Int), (j : Int), t] = inR t (max x y) (s - 1) := by
  simp only [allR, List.all_cons, List.all_nil, Bool.and_true, Bool.and_eq_true] at h
  have e : ((i : Int) != (j : Int)) = true := by rw [bne_iff_ne]; exact hij
  simp only [okEnd, h.1, h.2, e, Bool.and_true, Bool.true_and, Int.toNat_natCast, List.getD_eq_getElem?_getD, hx, hy, Option.getD_some]

set_option maxHeartbeats 800000 in
theorem implIsFiltration_any (u : Value) (q : Filt) (w : World) (hu : FiR w w.heap.size u q) :
    Calls Try.prog 40 #[u] w fun e w' => e = .returned (.bool (isF q)) ∧ Below w.heap.size w w' := by
  obtain ⟨A, c, C, d, rfl, hf, ht, hr, lf, lt⟩ := hu.open_
  clear hu
  obtain ⟨W, hW⟩ : ∃ W, W = w.alloc (.cells #[.int .i64 q.stages, .slice A q.birth.length c, .slice C q.ends.length d] 52) := ⟨_, rfl⟩
  have g0 : Below w.heap.size w W := by rw [hW]; exact below_alloc _ _
  have kB : Blk W w.heap.size 52 #[.int .i64 q.stages, .slice A q.birth.length c, .slice C q.ends.length d] := by rw [hW]; exact Blk.new _ _ _
  have c0 := kB.cell' (i := 0) rfl
  have c1 := kB.cell' (i := 1) rfl
  have c2 := kB.cell' (i := 2) rfl
  rcases h1 : inR q.stages 1 5 with _ | _
  · have hfin : Hid (isF q = false) := by show _ = _; simp [isF, h1]
    go_enter Try.func40, Try.ntmps40
    go_wp2_with fail
    rw [← hW]; clear hW
    refine (within_any _ _ _ _).mono ?_; rintro e w' ⟨rfl, rfl⟩
    rw [h1]
    go_wp2
    go_ret
    exact ⟨by rw [hfin.out]; rfl, g0⟩
  rcases h2 : inR q.birth.length 1 4 with _ | _
  · have hfin : Hid (isF q = false) := by show _ = _; simp [isF, h2]
    go_enter Try.func40, Try.ntmps40
    go_wp2_with fail
    rw [← hW]; clear hW
    refine (within_any _ _ _ _).mono ?_; rintro e w' ⟨rfl, rfl⟩
    rw [h1]
    go_wp2_with fail
    refine (within_any _ _ _ _).mono ?_; rintro e w' ⟨rfl, rfl⟩
    rw [h2]
    go_wp2
    go_ret
    exact ⟨by rw [hfin.out]; rfl, g0⟩
  have hs := inR_t.1 h1
  obtain ⟨hs1, hs2⟩ := hs
  have hn := inR_t.1 h2
  obtain ⟨hn1, hn2⟩ := hn
  obtain ⟨B3, hB3⟩ : ∃ B, allR q.birth 0 (q.stages - 1) = B := ⟨_, rfl⟩
  have HB3 := Lib.hid hB3
  clear hB3
  cases B3
  · have hfin : Hid (isF q = false) := by show _ = _; simp [isF, HB3.out]
    go_enter Try.func40, Try.ntmps40
    go_wp2_with fail
    rw [← hW]; clear hW
    refine (within_any _ _ _ _).mono ?_; rintro e w' ⟨rfl, rfl⟩
    rw [h1]
    go_wp2_with fail
    refine (within_any _ _ _ _).mono ?_; rintro e w' ⟨rfl, rfl⟩
    rw [h2]
    go_wp2_with fail
    refine (allWithin_any _ q.birth _ _ _ (SlI.next g0 hf)).mono ?_; rintro e w1 ⟨rfl, hb1⟩
    rw [HB3.out]
    go_wp2
    go_ret
    exact ⟨by rw [hfin.out]; rfl, bthen g0 hb1⟩
  by_cases h4 : (q.ends.length : Int) ≤ 8
  · go_enter Try.func40, Try.ntmps40
    go_wp2_with fail
    rw [← hW]; clear hW
    refine (within_any _ _ _ _).mono ?_; rintro e w' ⟨rfl, rfl⟩
    rw [h1]
    go_wp2_with fail
    refine (within_any _ _ _ _).mono ?_; rintro e w' ⟨rfl, rfl⟩
    rw [h2]
    go_wp2_with fail
    refine (allWithin_any _ q.birth _ _ _ (SlI.next g0 hf)).mono ?_; rintro e w1 ⟨rfl, hb1⟩
    rw [HB3.out]
    have d0 := (kB.call hb1).cell' (i := 0) rfl
    have d1 := (kB.call hb1).cell' (i := 1) rfl
    have d2 := (kB.call hb1).cell' (i := 2) rfl
    have k1 := kB.call hb1
    have g1 := bthen g0 hb1
    clear c0 c1 c2
    go_wp2
    go_loopw [34] (fun i wr => ∃ k : Nat, k ≤ q.ends.length ∧ i = .int .i64 k ∧ Below w.heap.size w wr ∧ Blk wr w.heap.size 52 #[.int .i64 q.stages, .slice A q.birth.length c, .slice C q.ends.length d] ∧ Hid (∀ e ∈ q.ends.take k, okEnd q.stages q.birth e = true)) (fun i _ => q.ends.length - (intOf i).toNat)
    case atStart => exact ⟨0, Nat.zero_le _, rfl, g1, k1, by intro y hy; simp at hy⟩
    case round =>
      clear g1 k1 d0 d1 d2 hb1 kB g0
      obtain ⟨k, hk, rfl, hbel, hkB, hok⟩ := hrel
      have e0 := hkB.cell' (i := 0) rfl
      have e1 := hkB.cell' (i := 1) rfl
      have e2 := hkB.cell' (i := 2) rfl
      by_cases hlt : k < q.ends.length
      · obtain ⟨b, o, l, A', c', rfl, hb, HL, x1, hl⟩ := SlII.at_ ht hlt
        have s := hbel.size
        have f0 := InB.cell hkB.lt e0
        have f1 := InB.cell hkB.lt e1
        have x2 := bcell hbel hb x1
        clear e0 e1 x1
        rcases endC l with hl3 | ⟨ea, eb, et, rfl⟩
        · have hne : ((l.length : Int) != 3) = true := by rw [bne_iff_ne]; omega
          have hfin : Hid (isF q = false) := isF_bad HL.out (okEnd_len hl3)
          clear hl3
          go_wp2
          (refine wp_region_inB (by kernel_rfl) (by kernel_rfl) ?_; (repeat (go_big_quiet_step (fail))); refine wpQuiet_nil ?_; intro w1 hw'; obtain ⟨s1, hw1⟩ := hw'; have hb1 := s1.below; rw [← hw1] at hb1; clear hw1 s1)
          go_wp2
          go_ret
          exact ⟨by rw [hfin.out]; rfl, hbel.trans (hb1.mono s)⟩
        · have hne : (((3 : Nat) : Int) != 3) = false := by decide
          obtain ⟨b', o', y0, rfl, hb', HY0, j0, _⟩ := SlI.at_ (k := 0) hl (by simp)
          obtain ⟨b2, o2, y1, E1, _, HY1, j1, _⟩ := SlI.at_ (k := 1) hl (by simp)
          obtain ⟨b3, o3, y2, E2, _, HY2, j2, _⟩ := SlI.at_ (k := 2) hl (by simp)
          have F1 := HY0.out
          have F2 := HY1.out
          have F3 := HY2.out
          simp only [List.getElem?_cons_zero, List.getElem?_cons_succ, Option.some.injEq] at F1 F2 F3 E1 E2
          injection E1 with E1a E1b
          injection E2 with E2a E2b
          subst F1 F2 F3 E1a E1b E2a E2b
          have j0' := InB.cell (w := wr) (by omega) (bcell hbel hb' j0)
          have j1' := InB.cell (w := wr) (by omega) (bcell hbel hb' j1)
          have j2' := InB.cell (w := wr) (by omega) (bcell hbel hb' j2)
          clear j0 j1 j2 HY0 HY1 HY2
          have hcut : SlI w w.heap.size (.slice (some ⟨b', o', none⟩) 2 c') [ea, eb] := SlI.front (l := [ea, eb]) (m := [et]) hl
          have hcap := SlI.caps hl
          have hcap1 : 3 ≤ c' := hcap.1
          have hcap2 := hcap.2
          simp only [List.length_cons, List.length_nil, Nat.zero_add, Nat.reduceAdd] at x2
          simp only [Nat.add_zero] at j0'
          have HC : Hid (∀ s : InB wr, SlI s.val s.val.heap.size (.slice (some ⟨b', o', none⟩) 2 c') [ea, eb]) := fun t => SlI.next t.below (SlI.more s (SlI.below hbel hcut))
          clear hl hcut hcap
          rcases hB1 : allR [ea, eb] 0 ((q.birth.length : Int) - 1) with _ | _
          · have hfin : Hid (isF q = false) := isF_bad HL.out (okEnd_ab hB1)
            have hB1' : (!allR [ea, eb] 0 ((q.birth.length : Int) - 1)) = true := by rw [hB1]; rfl
            go_wp2
            (refine wp_region_inB (by kernel_rfl) (by kernel_rfl) ?_; (repeat (go_big_quiet_step ((go_at_call 61; exact InB.call (allWithin_any _ [ea, eb] _ _ _ (HC.out _)))))); refine wpQuiet_nil ?_; intro w1 hw'; obtain ⟨s1, hw1⟩ := hw'; have hb1 := s1.below; rw [← hw1] at hb1; clear hw1 s1)
            go_wp2
            go_ret
            exact ⟨by rw [hfin.out]; rfl, hbel.trans (hb1.mono s)⟩
          · have hB1' : (!allR [ea, eb] 0 ((q.birth.length : Int) - 1)) = false := by rw [hB1]; rfl
            have hab := allR_t.1 hB1
            have ha := hab ea (by simp)
            have hb2 := hab eb (by simp)
            clear hab
            obtain ⟨i, rfl⟩ : ∃ i : Nat, ea = i := ⟨ea.toNat, by omega⟩
            obtain ⟨j, rfl⟩ : ∃ j : Nat, eb = j := ⟨eb.toNat, by omega⟩
            obtain ⟨bb, ob, x, rfl, hbb, HX, p1, _⟩ := SlI.at_ (k := i) hf (by omega)
            obtain ⟨bb2, ob2, y, E, _, HY, p2, _⟩ := SlI.at_ (k := j) hf (by omega)
            injection E with E
            injection E with E1 E2
            subst E1 E2
            have hi : i < q.birth.length := by omega
            have hj : j < q.birth.length := by omega
            have p1' := InB.cell (w := wr) (by omega) (bcell hbel hbb p1)
            have p2' := InB.cell (w := wr) (by omega) (bcell hbel hbb p2)
            clear p1 p2 ha hb2
            by_cases hij : i = j
            · have hij' : ((i : Int) == (j : Int)) = true := by rw [beq_iff_eq]; omega
              have hfin : Hid (isF q = false) := isF_bad HL.out (okEnd_eq (by omega))
              clear hij
              go_wp2
              (refine wp_region_inB (by kernel_rfl) (by kernel_rfl) ?_; (repeat (go_big_quiet_step ((go_at_call 61; exact InB.call (allWithin_any _ [(i : Int), (j : Int)] _ _ _ (HC.out _)))))); refine wpQuiet_nil ?_; intro w1 hw'; obtain ⟨s1, hw1⟩ := hw'; have hb1 := s1.below; rw [← hw1] at hb1; clear hw1 s1)
              go_wp2
              go_ret
              exact ⟨by rw [hfin.out]; rfl, hbel.trans (hb1.mono s)⟩
            · have hij' : ((i : Int) == (j : Int)) = false := by rw [beq_eq_false_iff_ne]; omega
              obtain ⟨M, hM⟩ : ∃ M, (if y > x then y else x) = M := ⟨_, rfl⟩
              obtain ⟨B2, hB2⟩ : ∃ B, inR et M (q.stages - 1) = B := ⟨_, rfl⟩
              have HF := Lib.hid (show okEnd q.stages q.birth [(i : Int), (j : Int), et] = B2 by rw [okEnd_go hB1 (by omega) HX.out HY.out, max_if, hM, hB2])
              clear hij
              cases B2
              · have hB2' : (!inR et M (q.stages - 1)) = true := by rw [hB2]; rfl
                have hfin : Hid (isF q = false) := isF_bad HL.out HF.out
                go_wp2
                (refine wp_region_inB (by kernel_rfl) (by kernel_rfl) ?_; (repeat (go_big_quiet_step (first | (go_at_call 61; exact InB.call (allWithin_any _ [(i : Int), (j : Int)] _ _ _ (HC.out _))) | (go_at_call 59; first | rw [hM] | skip; exact InB.call_same (within_any _ _ _ _))))); refine wpQuiet_nil ?_; intro w1 hw'; obtain ⟨s1, hw1⟩ := hw'; have hb1 := s1.below; rw [← hw1] at hb1; clear hw1 s1)
                go_wp2
                go_ret
                exact ⟨by rw [hfin.out]; rfl, hbel.trans (hb1.mono s)⟩
              · have hB2' : (!inR et M (q.stages - 1)) = false := by rw [hB2]; rfl
                have hst : Hid (∀ e ∈ q.ends.take (k + 1), okEnd q.stages q.birth e = true) := by
                  intro e he
                  rw [take_snoc HL.out, List.mem_append, List.mem_singleton] at he
                  rcases he with he | rfl
                  · exact hok.out e he
                  · exact HF.out
                go_wp2
                (refine wp_region_inB (by kernel_rfl) (by kernel_rfl) ?_; (repeat (go_big_quiet_step (first | (go_at_call 61; exact InB.call (allWithin_any _ [(i : Int), (j : Int)] _ _ _ (HC.out _))) | (go_at_call 59; first | rw [hM] | skip; exact InB.call_same (within_any _ _ _ _))))); refine wpQuiet_nil ?_; intro w1 hw'; obtain ⟨s1, hw1⟩ := hw'; have hb1 := s1.below; rw [← hw1] at hb1; clear hw1 s1)
                go_wp2
                go_roundw
                case rel => exact ⟨k + 1, by omega, by go_num, hbel.trans (hb1.mono s), hkB.call hb1, hst.out⟩
                case measure => simp [intOf]; omega
      · have hfin : Hid (isF q = true) := isF_good h1 h2 HB3.out (by omega) (by have := hok.out; rwa [List.take_of_length_le (by omega)] at this)
        go_wp2
        go_ret
        exact ⟨by rw [hfin.out]; rfl, hbel⟩
  · have h4' : (8 : Int) < q.ends.length := by omega
    have hfin : Hid (isF q = false) := by
      show _ = _
      have : decide (q.ends.length ≤ 8) = false := by simp; omega
      simp [isF, this]
    clear h4
    go_enter Try.func40, Try.ntmps40
    go_wp2_with fail
    rw [← hW]; clear hW
    refine (within_any _ _ _ _).mono ?_; rintro e w' ⟨rfl, rfl⟩
    rw [h1]
    go_wp2_with fail
    refine (within_any _ _ _ _).mono ?_; rintro e w' ⟨rfl, rfl⟩
    rw [h2]
    go_wp2_with fail
    refine (allWithin_any _ q.birth _ _ _ (SlI.next g0 hf)).mono ?_; rintro e w1 ⟨rfl, hb1⟩
    rw [HB3.out]
    have d2 := (kB.call hb1).cell' (i := 2) rfl
    clear c0 c1 c2
    go_wp2
    go_ret
    exact ⟨by rw [hfin.out]; rfl, bthen g0 hb1⟩

def InB.on {w W : World} (hb : Below w.heap.size w W) (t : InB W) : InB w := ⟨t.val, bthen hb t.2⟩
theorem InB.on_val {w W : World} (hb : Below w.heap.size w W) (t : InB W) : (InB.on hb t).val = t.val := rfl
theorem okEnd_a {s : Int} {bi : List Int} {a b t : Int} (h : inR a 0 ((bi.length : Int) - 1) = false) : okEnd s bi [a, b, t] = false := by simp [okEnd, h]
theorem okEnd_b {s : Int} {bi : List Int} {a b t : Int} (h : inR b 0 ((bi.length : Int) - 1) = false) : okEnd s bi [a, b, t] = false := by simp [okEnd, h]
theorem isF_birth {q : Filt} {k : Nat} {x : Int} (hx : q.birth[k]? = some x) (h : inR x 0 (q.stages - 1) = false) : isF q = false := by
  have : allR q.birth 0 (q.stages - 1) = false := by
    unfold allR
    rw [List.all_eq_false]
    exact ⟨x, List.mem_of_getElem? hx, by simp [h]⟩
  simp [isF, this]
set_option maxHeartbeats 3200000 in
set_option maxRecDepth 20000 in
theorem specIsFiltration_any (u : Value) (q : Filt) (w : World) (hu : FiR w w.heap.size u q) :
    Calls Try.prog 38 #[u] w fun e w' => e = .returned (.bool (isF q)) ∧ Below w.heap.size w w' := by
  obtain ⟨A, c, C, d, rfl, hf, ht, hr, lf, lt⟩ := hu.open_
  clear hu
  obtain ⟨W, hW⟩ : ∃ W, W = w.alloc (.cells #[.int .i64 q.stages, .slice A q.birth.length c, .slice C q.ends.length d] 52) := ⟨_, rfl⟩
  have g0 : Below w.heap.size w W := by rw [hW]; exact below_alloc _ _
  have kB : Blk W w.heap.size 52 #[.int .i64 q.stages, .slice A q.birth.length c, .slice C q.ends.length d] := by rw [hW]; exact Blk.new _ _ _
  have c0 := kB.cell' (i := 0) rfl
  have c1 := kB.cell' (i := 1) rfl
  have c2 := kB.cell' (i := 2) rfl
  rcases h1 : inR q.stages 1 5 with _ | _
  · have hfin : Hid (isF q = false) := by show _ = _; simp [isF, h1]
    go_enter Try.func38, Try.ntmps38
    go_wp2_with fail
    rw [← hW]; clear hW
    refine (l1In_any _ _ _ _).mono ?_; rintro e w' ⟨rfl, rfl⟩
    rw [h1]
    go_wp2
    go_ret
    exact ⟨by rw [hfin.out]; rfl, g0⟩
  rcases h2 : inR q.birth.length 1 4 with _ | _
  · have hfin : Hid (isF q = false) := by show _ = _; simp [isF, h2]
    go_enter Try.func38, Try.ntmps38
    go_wp2_with fail
    rw [← hW]; clear hW
    refine (l1In_any _ _ _ _).mono ?_; rintro e w' ⟨rfl, rfl⟩
    rw [h1]
    go_wp2_with fail
    refine (l1In_any _ _ _ _).mono ?_; rintro e w' ⟨rfl, rfl⟩
    rw [h2]
    go_wp2
    go_ret
    exact ⟨by rw [hfin.out]; rfl, g0⟩
  have hs := inR_t.1 h1
  obtain ⟨hs1, hs2⟩ := hs
  have hn := inR_t.1 h2
  obtain ⟨hn1, hn2⟩ := hn
  by_cases h4 : (q.ends.length : Int) ≤ 8
  · have h4' : ¬ (8 : Int) < q.ends.length := by omega
    go_enter Try.func38, Try.ntmps38
    go_wp2_with fail
    rw [← hW]; clear hW
    refine (l1In_any _ _ _ _).mono ?_; rintro e w' ⟨rfl, rfl⟩
    rw [h1]
    go_wp2_with fail
    refine (l1In_any _ _ _ _).mono ?_; rintro e w' ⟨rfl, rfl⟩
    rw [h2]
    go_wp2
    go_loopw [3] (fun i wr => ∃ k : Nat, k ≤ q.birth.length ∧ i = .int .i64 k ∧ Below w.heap.size w wr ∧ Blk wr w.heap.size 52 #[.int .i64 q.stages, .slice A q.birth.length c, .slice C q.ends.length d] ∧ Hid (∀ x ∈ q.birth.take k, inR x 0 (q.stages - 1) = true)) (fun i _ => q.birth.length - (intOf i).toNat)
    case atStart => exact ⟨0, Nat.zero_le _, rfl, g0, kB, by intro y hy; simp at hy⟩
    case round =>
      clear g0 kB c0 c1 c2
      obtain ⟨k, hk, rfl, hbel, hkB, hok⟩ := hrel
      have e0 := hkB.cell' (i := 0) rfl
      have e1 := hkB.cell' (i := 1) rfl
      have e2 := hkB.cell' (i := 2) rfl
      have s := hbel.size
      by_cases hlt : k < q.birth.length
      · obtain ⟨b, o, x, rfl, hb, HX, x1, _⟩ := SlI.at_ hf hlt
        have f0 := InB.cell hkB.lt e0
        have f1 := InB.cell hkB.lt e1
        have f2 := InB.cell (w := wr) (by omega) (bcell hbel hb x1)
        clear e0 x1
        rcases hB1 : inR x 0 (q.stages - 1) with _ | _
        · have hfin : Hid (isF q = false) := isF_birth HX.out hB1
          go_wp2
          (refine wp_region_inB (by kernel_rfl) (by kernel_rfl) ?_; (repeat (go_big_quiet_step ((go_at_call 58; exact InB.call_same (l1In_any _ _ _ _))))); refine wpQuiet_nil ?_; intro w1 hw'; obtain ⟨s1, hw1⟩ := hw'; have hb1 := s1.below; rw [← hw1] at hb1; clear hw1 s1)
          go_wp2
          go_ret
          exact ⟨by rw [hfin.out]; rfl, hbel.trans (hb1.mono s)⟩
        · go_wp2
          (refine wp_region_inB (by kernel_rfl) (by kernel_rfl) ?_; (repeat (go_big_quiet_step ((go_at_call 58; exact InB.call_same (l1In_any _ _ _ _))))); refine wpQuiet_nil ?_; intro w1 hw'; obtain ⟨s1, hw1⟩ := hw'; have hb1 := s1.below; rw [← hw1] at hb1; clear hw1 s1)
          go_wp2
          go_roundw
          case rel =>
            refine ⟨k + 1, by omega, by go_num, hbel.trans (hb1.mono s), hkB.call hb1, fun y hy => ?_⟩
            rw [take_snoc HX.out, List.mem_append, List.mem_singleton] at hy
            rcases hy with hy | rfl
            · exact hok.out y hy
            · exact hB1
          case measure => simp [intOf]; omega
      · have HB3 : Hid (allR q.birth 0 (q.stages - 1) = true) := by
          have h := hok.out
          rw [List.take_of_length_le (by omega)] at h
          exact List.all_eq_true.2 h
        clear hok
        go_wp2
        have hbel0 := hbel
        have hkB0 := hkB
        clear hbel hkB e0 e1 e2 hlt hk

        go_loopw [4] (fun i wr => ∃ k : Nat, k ≤ q.ends.length ∧ i = .int .i64 k ∧ Below w.heap.size w wr ∧ Blk wr w.heap.size 52 #[.int .i64 q.stages, .slice A q.birth.length c, .slice C q.ends.length d] ∧ Hid (∀ e ∈ q.ends.take k, okEnd q.stages q.birth e = true)) (fun i _ => q.ends.length - (intOf i).toNat)
        case atStart => exact ⟨0, Nat.zero_le _, rfl, hbel0, hkB0, by intro y hy; simp at hy⟩
        case round =>
          clear hbel0 hkB0
          obtain ⟨k, hk, rfl, hbel, hkB, hok⟩ := hrel
          have e0 := hkB.cell' (i := 0) rfl
          have e1 := hkB.cell' (i := 1) rfl
          have e2 := hkB.cell' (i := 2) rfl
          by_cases hlt : k < q.ends.length
          · obtain ⟨b, o, l, A', c', rfl, hb, HL, x1, hl⟩ := SlII.at_ ht hlt
            have s := hbel.size
            have f0 := InB.cell hkB.lt e0
            have f1 := InB.cell hkB.lt e1
            have f2 := InB.cell hkB.lt e2
            have x2 := InB.cell (w := wr) (by omega) (bcell hbel hb x1)
            clear e0 e1 x1
            rcases endC l with hl3 | ⟨ea, eb, et, rfl⟩
            · have hne : ((l.length : Int) != 3) = true := by rw [bne_iff_ne]; omega
              have hfin : Hid (isF q = false) := isF_bad HL.out (okEnd_len hl3)
              clear hl3
              go_wp2
              (refine wp_region_inB (by kernel_rfl) (by kernel_rfl) ?_; (repeat (go_big_quiet_step (fail))); refine wpQuiet_nil ?_; intro w1 hw'; obtain ⟨s1, hw1⟩ := hw'; have hb1 := s1.below; rw [← hw1] at hb1; clear hw1 s1)
              go_wp2
              go_ret
              exact ⟨by rw [hfin.out]; rfl, hbel.trans (hb1.mono s)⟩
            · have hne : (((3 : Nat) : Int) != 3) = false := by decide
              obtain ⟨b', o', y0, rfl, hb', HY0, j0, _⟩ := SlI.at_ (k := 0) hl (by simp)
              obtain ⟨b2, o2, y1, E1, _, HY1, j1, _⟩ := SlI.at_ (k := 1) hl (by simp)
              obtain ⟨b3, o3, y2, E2, _, HY2, j2, _⟩ := SlI.at_ (k := 2) hl (by simp)
              have F1 := HY0.out
              have F2 := HY1.out
              have F3 := HY2.out
              simp only [List.getElem?_cons_zero, List.getElem?_cons_succ, Option.some.injEq] at F1 F2 F3 E1 E2
              injection E1 with E1a E1b
              injection E2 with E2a E2b
              subst F1 F2 F3 E1a E1b E2a E2b
              have j0' := InB.cell (w := wr) (by omega) (bcell hbel hb' j0)
              have j1' := InB.cell (w := wr) (by omega) (bcell hbel hb' j1)
              have j2' := InB.cell (w := wr) (by omega) (bcell hbel hb' j2)
              clear j0 j1 j2 HY0 HY1 HY2 hl
              simp only [List.length_cons, List.length_nil, Nat.zero_add, Nat.reduceAdd] at x2
              simp only [Nat.add_zero] at j0'
              rcases hBa : inR ea 0 ((q.birth.length : Int) - 1) with _ | _
              · have hfin : Hid (isF q = false) := isF_bad HL.out (okEnd_a hBa)
                go_wp2
                (refine wp_region_inB (by kernel_rfl) (by kernel_rfl) ?_; (repeat (go_big_quiet_step ((go_at_call 58; exact InB.call_same (l1In_any _ _ _ _))))); refine wpQuiet_nil ?_; intro w1 hw'; obtain ⟨s1, hw1⟩ := hw'; have hb1 := s1.below; rw [← hw1] at hb1; clear hw1 s1)
                go_wp2
                go_ret
                exact ⟨by rw [hfin.out]; rfl, hbel.trans (hb1.mono s)⟩
              rcases hBb : inR eb 0 ((q.birth.length : Int) - 1) with _ | _
              · have hfin : Hid (isF q = false) := isF_bad HL.out (okEnd_b hBb)
                go_wp2
                (refine wp_region_inB (by kernel_rfl) (by kernel_rfl) ?_; (repeat (go_big_quiet_step ((go_at_call 58; exact InB.call_same (l1In_any _ _ _ _))))); refine wpQuiet_nil ?_; intro w1 hw'; obtain ⟨s1, hw1⟩ := hw'; have hb1 := s1.below; rw [← hw1] at hb1; clear hw1 s1)
                go_wp2
                go_ret
                exact ⟨by rw [hfin.out]; rfl, hbel.trans (hb1.mono s)⟩
              have ha := inR_t.1 hBa
              have hb2 := inR_t.1 hBb
              obtain ⟨i, rfl⟩ : ∃ i : Nat, ea = i := ⟨ea.toNat, by omega⟩
              obtain ⟨j, rfl⟩ : ∃ j : Nat, eb = j := ⟨eb.toNat, by omega⟩
              have hBab : Hid (allR [(i : Int), (j : Int)] 0 ((q.birth.length : Int) - 1) = true) := by show _ = _; simp [allR, hBa, hBb]
              obtain ⟨bb, ob, x, rfl, hbb, HX, p1, _⟩ := SlI.at_ (k := i) hf (by omega)
              obtain ⟨bb2, ob2, y, E, _, HY, p2, _⟩ := SlI.at_ (k := j) hf (by omega)
              injection E with E
              injection E with E1 E2
              subst E1 E2
              have hi : i < q.birth.length := by omega
              have hj : j < q.birth.length := by omega
              have p1' := InB.cell (w := wr) (by omega) (bcell hbel hbb p1)
              have p2' := InB.cell (w := wr) (by omega) (bcell hbel hbb p2)
              clear p1 p2 ha hb2
              by_cases hij : i = j
              · have hij' : ((i : Int) == (j : Int)) = true := by rw [beq_iff_eq]; omega
                have hfin : Hid (isF q = false) := isF_bad HL.out (okEnd_eq (by omega))
                clear hij
                go_wp2
                (refine wp_region_inB (by kernel_rfl) (by kernel_rfl) ?_; (repeat (go_big_quiet_step ((go_at_call 58; exact InB.call_same (l1In_any _ _ _ _))))); refine wpQuiet_nil ?_; intro w1 hw'; obtain ⟨s1, hw1⟩ := hw'; have hb1 := s1.below; rw [← hw1] at hb1; clear hw1 s1)
                go_wp2
                go_ret
                exact ⟨by rw [hfin.out]; rfl, hbel.trans (hb1.mono s)⟩
              · have hij' : ((i : Int) == (j : Int)) = false := by rw [beq_eq_false_iff_ne]; omega
                obtain ⟨M, hM⟩ : ∃ M, (if y > x then y else x) = M := ⟨_, rfl⟩
                obtain ⟨B2, hB2⟩ : ∃ B, inR et M (q.stages - 1) = B := ⟨_, rfl⟩
                have HF := Lib.hid (show okEnd q.stages q.birth [(i : Int), (j : Int), et] = B2 by rw [okEnd_go hBab.out (by omega) HX.out HY.out, max_if, hM, hB2])
                clear hij
                cases B2
                · have hfin : Hid (isF q = false) := isF_bad HL.out HF.out
                  go_wp2
                  (refine wp_region_inB (by kernel_rfl) (by kernel_rfl) ?_; (repeat (go_big_quiet_step ((go_at_call 58; exact InB.call_same (l1In_any _ _ _ _))))); refine wpQuiet_nil ?_; intro w1 hw'; obtain ⟨s1, hw1⟩ := hw'; have hb1 := s1.below; rw [← hw1] at hb1; clear hw1 s1)
                  go_wp2
                  have hbA := hb1
                  have r0 := fun t => f0 (InB.on hbA t)
                  have r1 := fun t => f1 (InB.on hbA t)
                  have r2 := fun t => f2 (InB.on hbA t)
                  have r3 := fun t => x2 (InB.on hbA t)
                  have r4 := fun t => j0' (InB.on hbA t)
                  have r5 := fun t => j1' (InB.on hbA t)
                  have r6 := fun t => j2' (InB.on hbA t)
                  have r7 := fun t => p1' (InB.on hbA t)
                  have r8 := fun t => p2' (InB.on hbA t)
                  simp only [InB.on_val] at r0 r1 r2 r3 r4 r5 r6 r7 r8
                  have gA := hbel.trans (hbA.mono s)
                  have kA := hkB.call hbA
                  clear f0 f1 f2 x2 j0' j1' j2' p1' p2' hb1 e2 hbel hkB
                  (refine wp_region_inB (by kernel_rfl) (by kernel_rfl) ?_; (repeat (go_big_quiet_step ((go_at_call 58; first | rw [hM] | skip; exact InB.call_same (l1In_any _ _ _ _))))); refine wpQuiet_nil ?_; intro w1 hw'; obtain ⟨s1, hw1⟩ := hw'; have hb1 := s1.below; rw [← hw1] at hb1; clear hw1 s1)
                  go_wp2
                  go_ret
                  exact ⟨by rw [hfin.out]; rfl, gA.trans (hb1.mono gA.size)⟩
                · have hst : Hid (∀ e ∈ q.ends.take (k + 1), okEnd q.stages q.birth e = true) := by
                    intro e he
                    rw [take_snoc HL.out, List.mem_append, List.mem_singleton] at he
                    rcases he with he | rfl
                    · exact hok.out e he
                    · exact HF.out
                  go_wp2
                  (refine wp_region_inB (by kernel_rfl) (by kernel_rfl) ?_; (repeat (go_big_quiet_step ((go_at_call 58; exact InB.call_same (l1In_any _ _ _ _))))); refine wpQuiet_nil ?_; intro w1 hw'; obtain ⟨s1, hw1⟩ := hw'; have hb1 := s1.below; rw [← hw1] at hb1; clear hw1 s1)
                  go_wp2
                  have hbA := hb1
                  have r0 := fun t => f0 (InB.on hbA t)
                  have r1 := fun t => f1 (InB.on hbA t)
                  have r2 := fun t => f2 (InB.on hbA t)
                  have r3 := fun t => x2 (InB.on hbA t)
                  have r4 := fun t => j0' (InB.on hbA t)
                  have r5 := fun t => j1' (InB.on hbA t)
                  have r6 := fun t => j2' (InB.on hbA t)
                  have r7 := fun t => p1' (InB.on hbA t)
                  have r8 := fun t => p2' (InB.on hbA t)
                  simp only [InB.on_val] at r0 r1 r2 r3 r4 r5 r6 r7 r8
                  have gA := hbel.trans (hbA.mono s)
                  have kA := hkB.call hbA
                  clear f0 f1 f2 x2 j0' j1' j2' p1' p2' hb1 e2 hbel hkB
                  (refine wp_region_inB (by kernel_rfl) (by kernel_rfl) ?_; (repeat (go_big_quiet_step ((go_at_call 58; first | rw [hM] | skip; exact InB.call_same (l1In_any _ _ _ _))))); refine wpQuiet_nil ?_; intro w1 hw'; obtain ⟨s1, hw1⟩ := hw'; have hb1 := s1.below; rw [← hw1] at hb1; clear hw1 s1)
                  go_wp2
                  go_roundw
                  case rel => exact ⟨k + 1, by omega, by go_num, gA.trans (hb1.mono gA.size), kA.call hb1, hst.out⟩
                  case measure => simp [intOf]; omega
          · have hfin : Hid (isF q = true) := isF_good h1 h2 HB3.out (by omega) (by have := hok.out; rwa [List.take_of_length_le (by omega)] at this)
            go_wp2
            go_ret
            exact ⟨by rw [hfin.out]; rfl, hbel⟩
  · have h4' : (8 : Int) < q.ends.length := by omega
    have hfin : Hid (isF q = false) := by
      show _ = _
      have : decide (q.ends.length ≤ 8) = false := by simp; omega
      simp [isF, this]
    clear h4
    go_enter Try.func38, Try.ntmps38
    go_wp2_with fail
    rw [← hW]; clear hW
    refine (l1In_any _ _ _ _).mono ?_; rintro e w' ⟨rfl, rfl⟩
    rw [h1]
    go_wp2_with fail
    refine (l1In_any _ _ _ _).mono ?_; rintro e w' ⟨rfl, rfl⟩
    rw [h2]
    go_wp2
    go_ret
    exact ⟨by rw [hfin.out]; rfl, g0⟩
end Go.Proofs.Ytndnjbofflddfaa
