/- The two LineOf. -/
import Derived.Test.YtndnjbofflddfaaKit
import Derived.Test.YtndnjbofflddfaaSmall
namespace Go.Proofs.Ytndnjbofflddfaa
set_option linter.unusedVariables false
set_option linter.unusedSimpArgs false
open Go.RowKit

def lineF (k : Nat) : List Int := (List.range k).map fun i : Nat => (i : Int)
def lineT (k : Nat) : List Int := (List.range k).map fun i : Nat => (i : Int) + 1
theorem lineF_succ (k : Nat) : lineF (k + 1) = lineF k ++ [(k : Int)] := by simp [lineF, List.range_succ]
theorem lineT_succ (k : Nat) : lineT (k + 1) = lineT k ++ [(k : Int) + 1] := by simp [lineT, List.range_succ]
theorem fam_nil2 {w : World} {lo hi : Nat} : Fam w lo hi [(.slice none 0 0, []), (.slice none 0 0, [])] := by
  refine ⟨fun p hp => ?_, ?_⟩
  · simp only [List.mem_cons, List.not_mem_nil, or_false, or_self] at hp
    subst hp
    exact ⟨OwnI.nil _ _, fun k hk => by simp [Value.ownBlock] at hk⟩
  · simp [Value.ownBlock]
theorem fam_made2 (w : World) {lo : Nat} (h : lo ≤ w.heap.size) : Fam ((w.alloc (.cells #[] 3)).alloc (.cells #[] 3)) lo (w.heap.size + 1 + 1) [(.slice (some ⟨w.heap.size, 0, none⟩) 0 0, []), (.slice (some ⟨w.heap.size + 1, 0, none⟩) 0 0, [])] := by
  refine fam_two (mi := w.heap.size + 1) ⟨(OwnI.made _ rfl h).alloc _, fun k hk => by simp [Value.ownBlock] at hk; omega⟩ ⟨?_, fun k hk => by simp [Value.ownBlock] at hk; omega⟩ (by omega) (by omega)
  have := OwnI.made (w := w.alloc (.cells #[] 3)) (base := w.heap.size + 1) _ rfl (by simp)
  simpa only [World.size_alloc] using this
/-- The line of n vertices. -/
def lineQ (n : Int) : Qv := if inR n 1 5 then ⟨n, lineF (n - 1).toNat, lineT (n - 1).toNat⟩ else ⟨0, [], []⟩

theorem line_mid {w w1 : World} {gq : Nat} {N x : Int} {A C : Option Addr} {n n' c d : Nat} {l l' : List Int} (hgq : w.heap.size < gq) (hb1 : Below w.heap.size w w1) (hF1 : Fam w1 w.heap.size w1.heap.size [(.slice A n c, l), (.slice C n' d, l')])
    {V V' : Value} (hq1 : Blk w1 gq 30 #[.int .i64 N, V, V']) (hr1 : Blk w1 w.heap.size 30 #[.int .i64 0, .slice none 0 0, .slice none 0 0]) :
    let W := (w1.setCell ⟨gq, 1, none⟩ (.slice A n c)).alloc (.cells #[.int .i64 x] 3)
    Below w.heap.size w W ∧ Fam W w.heap.size w1.heap.size [(.slice A n c, l), (.slice C n' d, l')] ∧ Blk W gq 30 #[.int .i64 N, .slice A n c, V'] ∧ Blk W w.heap.size 30 #[.int .i64 0, .slice none 0 0, .slice none 0 0] ∧ OwnI W w.heap.size (.slice C n' d) l' := by
  intro W
  have hF2 : Fam W w.heap.size w1.heap.size [(.slice A n c, l), (.slice C n' d, l')] := (hF1.setBlk (i := 1) hq1 (by decide) (.slice A n c)).below (below_alloc _ _)
  refine ⟨(hb1.setCell (by simp; omega) _).alloc (by have := hb1.size; simpa using this) _, hF2, (hq1.set_ 1 _).alloc _, (hr1.far (by simp; omega) _).alloc _, (hF2.1 (_, l') (by simp)).1⟩

set_option maxHeartbeats 800000 in
theorem implLineOf_any (n : Int) (w : World) (_ : I64 n) :
    Calls Try.prog 21 #[.int .i64 n] w fun e w' => ∃ v, e = .returned (.tuple #[v, .bool (inR n 1 5)]) ∧ QuivO w' w.heap.size w'.heap.size v (lineQ n) ∧ Below w.heap.size w w' := by
  rcases hin : inR n 1 5 with _ | _
  · have e1 : lineQ n = ⟨0, [], []⟩ := by simp [lineQ, hin]
    rw [e1]
    clear e1
    go_enter Try.func21, Try.ntmps21
    go_wp2_with (go_at_call 59; refine (within_any _ _ _ _).mono ?_; rintro e w' ⟨rfl, rfl⟩; rw [hin])
    exact bodyPost_ret (v := .tuple #[.agg #[.int .i64 0, .slice none 0 0, .slice none 0 0], .bool false]) (by simp [results, go_sem]) rfl ⟨_, rfl, ⟨_, _, rfl, fam_nil2, ⟨by decide, by decide⟩⟩, below_alloc _ _⟩
  · have hb := inR_t.1 hin
    obtain ⟨m, rfl⟩ : ∃ m : Nat, n = (m : Int) + 1 := ⟨(n - 1).toNat, by omega⟩
    have e1 : lineQ ((m : Int) + 1) = ⟨(m : Int) + 1, lineF m, lineT m⟩ := by simp [lineQ, hin]
    rw [e1]
    clear e1
    go_enter Try.func21, Try.ntmps21
    go_wp2_with (go_at_call 59; refine (within_any _ _ _ _).mono ?_; rintro e w' ⟨rfl, rfl⟩; rw [hin])
    go_loopw [14] (fun i wr => ∃ (k : Nat) (a b : Value), k ≤ m ∧ i = .int .i64 k ∧ Below w.heap.size w wr ∧ Blk wr w.heap.size 30 #[.int .i64 0, .slice none 0 0, .slice none 0 0] ∧ Blk wr (w.heap.size + 1) 30 #[.int .i64 ((m : Int) + 1), a, b] ∧
      Fam wr w.heap.size wr.heap.size [(a, lineF k), (b, lineT k)]) (fun i _ => m - (intOf i).toNat)
    case atStart =>
      refine ⟨0, .slice none 0 0, .slice none 0 0, Nat.zero_le _, rfl, ((Below.refl _ _).alloc (Nat.le_refl _) _).alloc (by simp) _, (Blk.new _ _ _).alloc _, ?_, ?_⟩
      · have := Blk.new (w.alloc (.cells #[.int .i64 0, .slice none 0 0, .slice none 0 0] 30)) 30 #[.int .i64 ((m : Int) + 1), .slice none 0 0, .slice none 0 0]
        simpa only [World.size_alloc] using this
      · exact fam_nil2
    case round =>
      obtain ⟨k, a, b, hk, rfl, hbel, hbr, hbq, hF⟩ := hrel
      by_cases hlt : k < m
      · have fa : OwnI wr w.heap.size a (lineF k) := (hF.1 (a, lineF k) (by simp)).1
        have fb : OwnI wr w.heap.size b (lineT k) := (hF.1 (b, lineT k) (by simp)).1
        obtain ⟨A, c, rfl, _, _⟩ := fa.form
        obtain ⟨C, d, rfl, _, _⟩ := fb.form
        have q1 := hbq.cell' (i := 1) rfl
        have hs := hbel.size
        have lF : (lineF k).length = k := by simp [lineF]
        have lT : (lineT k).length = k := by simp [lineT]
        have g0 := below_alloc wr (.cells #[.int .i64 (k : Int)] 3)
        have hF0 := hF.below g0
        have hq0 := hbq.call g0
        have hr0 := hbr.call g0
        have fa0 : OwnI (wr.alloc (.cells #[.int .i64 (k : Int)] 3)) w.heap.size (.slice A (lineF k).length c) (lineF k) := fa.alloc _
        have hne0 := fa0.blkne hq0 (by decide)
        have hne0' := fa0.blkne hr0 (by decide)
        have hb0 := hbel.trans (g0.mono hs)
        have HL := Lib.hid (And.intro lF lT)
        clear lF lT
        (go_wp2_with (at_builtin; refine Hold.stop ?_)); unfold Hold
        refine wpList_appI rfl (.tmp 18) (.tmp 20) rfl w.heap.size _ (.slice A (lineF k).length c) (lineF k) rfl fa0 _ _ _ [(k : Int)] rfl rfl (SlI.one wr _ k ⟨by omega, by omega⟩) (by have := HL.out; simp; omega) (by simp; omega) ?_
        intro v1 w1 ho1 hg1 hv1
        rw [← lineF_succ] at ho1
        have hF1 := hF0.app (w' := w1) (L1 := []) (by have := hg1.size; simp at this; omega) ho1 hg1 hv1
        obtain ⟨A1, c1, rfl, _, _⟩ := ho1.form
        have hq1 := hq0.grown hg1 hne0
        have hr1 := hr0.grown hg1 hne0'
        have hb1 := hb0.grown hg1 (by simp; omega) (fun j hj => (fa0.lt j hj).1)
        have y1 := hq1.cell' (i := 1) rfl
        have y2 := hq1.cell' (i := 2) rfl
        have fy := hq1.frozen
        clear hg1 hv1 hF0 hq0 hr0 hne0 hne0' hb0 fa fb fa0 q1 hF hbq hbr g0 ho1
        (go_wp2_with (at_builtin; refine Hold.stop ?_)); unfold Hold
        obtain ⟨hb2, hF2, hq2, hr2, fb2⟩ := line_mid (x := (k : Int) + 1) (by omega) hb1 hF1 hq1 hr1
        refine wpList_appI rfl (.tmp 24) (.tmp 27) rfl w.heap.size _ (.slice C (lineT k).length d) (lineT k) rfl fb2 _ _ _ [(k : Int) + 1] rfl rfl (SlI.one' _ _ ((k : Int) + 1) ⟨by omega, by omega⟩ (by simp)) (by have := HL.out; simp; omega) (by have := hb1.size; simp; omega) ?_
        intro v2 w2 ho2 hg2 hv2
        rw [← lineT_succ] at ho2
        have hF3 := hF2.app (w' := w2) (L1 := [(_, lineF (k + 1))]) (by have := hg2.size; simp at this; omega) ho2 hg2 hv2
        obtain ⟨C1, d1, rfl, _, _⟩ := ho2.form
        have hq3 := hq2.grown hg2 (fb2.blkne hq2 (by decide))
        have hr3 := hr2.grown hg2 (fb2.blkne hr2 (by decide))
        have hb3 := hb2.grown hg2 hb2.size (fun j hj => (fb2.lt j hj).1)
        have z2 := hq3.cell' (i := 2) rfl
        have fz := hq3.frozen
        clear y1 y2 fy hb1 hF1 hq1 hr1 hb2 hF2 hq2 hr2 fb2 ho2 hg2 hv2 hbel
        go_wp2
        go_roundw
        case rel => exact ⟨k + 1, _, _, by omega, by go_num, hb3.setCell (by simp) _, hr3.far (by simp) _, hq3.set_ 2 _, (hF3.setBlk hq3 (by decide) _).mono (Nat.le_refl _) (by simp)⟩
        case measure => simp [intOf]; omega
      · obtain rfl : k = m := by omega
        have fa : OwnI wr w.heap.size a (lineF k) := (hF.1 (a, lineF k) (by simp)).1
        have fb : OwnI wr w.heap.size b (lineT k) := (hF.1 (b, lineT k) (by simp)).1
        obtain ⟨A, c, rfl, _, _⟩ := fa.form
        obtain ⟨C, d, rfl, _, _⟩ := fb.form
        have q0 := hbq.cell' (i := 0) rfl
        have q1 := hbq.cell' (i := 1) rfl
        have q2 := hbq.cell' (i := 2) rfl
        have r0 := hbr.cell' (i := 0) rfl
        have r1 := hbr.cell' (i := 1) rfl
        have r2 := hbr.cell' (i := 2) rfl
        have fr := hbr.frozen
        go_wp2
        refine bodyPost_ret (v := .tuple #[.agg #[.int .i64 ((k : Int) + 1), .slice A (lineF k).length c, .slice C (lineT k).length d], .bool true]) (by simp [results, go_sem, r0, r1, r2]) rfl ⟨_, rfl, ⟨_, _, rfl, ?_, ⟨by simp only; omega, by simp only; omega⟩⟩, ?_⟩
        · have h1 := hF.setBlk (i := 0) hbr (by decide) (.int .i64 ((k : Int) + 1))
          have h2 := h1.setBlk (i := 1) (hbr.set_ 0 _) (by decide) (.slice A (lineF k).length c)
          have h3 := h2.setBlk (i := 2) ((hbr.set_ 0 _).set_ 1 _) (by decide) (.slice C (lineT k).length d)
          simpa using h3
        · exact ((hbel.setCell (by simp) _).setCell (by simp) _).setCell (by simp) _

set_option maxHeartbeats 800000 in
theorem specLineOf_any (n : Int) (w : World) (_ : I64 n) :
    Calls Try.prog 20 #[.int .i64 n] w fun e w' => ∃ v, e = .returned (.tuple #[v, .bool (inR n 1 5)]) ∧ QuivO w' w.heap.size w'.heap.size v (lineQ n) ∧ Below w.heap.size w w' := by
  rcases hin : inR n 1 5 with _ | _
  · have e1 : lineQ n = ⟨0, [], []⟩ := by simp [lineQ, hin]
    rw [e1]
    clear e1
    go_enter Try.func20, Try.ntmps20
    go_wp2_with (go_at_call 58; refine (l1In_any _ _ _ _).mono ?_; rintro e w' ⟨rfl, rfl⟩; rw [hin])
    exact bodyPost_ret (v := .tuple #[.agg #[.int .i64 0, .slice none 0 0, .slice none 0 0], .bool false]) (by simp [results, go_sem]) rfl ⟨_, rfl, ⟨_, _, rfl, fam_nil2, ⟨by decide, by decide⟩⟩, below_alloc _ _⟩
  · have hb := inR_t.1 hin
    obtain ⟨m, rfl⟩ : ∃ m : Nat, n = (m : Int) + 1 := ⟨(n - 1).toNat, by omega⟩
    have e1 : lineQ ((m : Int) + 1) = ⟨(m : Int) + 1, lineF m, lineT m⟩ := by simp [lineQ, hin]
    rw [e1]
    clear e1
    go_enter Try.func20, Try.ntmps20
    go_wp2_with (go_at_call 58; refine (l1In_any _ _ _ _).mono ?_; rintro e w' ⟨rfl, rfl⟩; rw [hin])
    go_loopw [5] (fun i wr => ∃ (k : Nat) (a b : Value), k ≤ m ∧ i = .int .i64 ((k : Int) + 1) ∧ Below w.heap.size w wr ∧ Blk wr w.heap.size 30 #[.int .i64 0, .slice none 0 0, .slice none 0 0] ∧ Blk wr (w.heap.size + 1 + 1 + 1) 30 #[.int .i64 ((m : Int) + 1), a, b] ∧
      Fam wr w.heap.size wr.heap.size [(a, lineF k), (b, lineT k)]) (fun i _ => m + 1 - (intOf i).toNat)
    case atStart =>
      refine ⟨0, .slice (some ⟨w.heap.size + 1, 0, none⟩) 0 0, .slice (some ⟨w.heap.size + 1 + 1, 0, none⟩) 0 0, Nat.zero_le _, rfl, ((((Below.refl _ _).alloc (Nat.le_refl _) _).alloc (by simp) _).alloc (by simp; omega) _).alloc (by simp; omega) _, (((Blk.new _ _ _).alloc _).alloc _).alloc _, ?_, ?_⟩
      · have := Blk.new (((w.alloc (.cells #[.int .i64 0, .slice none 0 0, .slice none 0 0] 30)).alloc (.cells #[] 3)).alloc (.cells #[] 3)) 30 #[.int .i64 ((m : Int) + 1), .slice (some ⟨w.heap.size + 1, 0, none⟩) 0 0, .slice (some ⟨w.heap.size + 1 + 1, 0, none⟩) 0 0]
        simpa only [World.size_alloc] using this
      · have h := fam_made2 (w.alloc (.cells #[.int .i64 0, .slice none 0 0, .slice none 0 0] 30)) (lo := w.heap.size) (by simp)
        simp only [World.size_alloc] at h
        exact (h.below (below_alloc _ _)).mono (Nat.le_refl _) (by simp)
    case round =>
      obtain ⟨k, a, b, hk, rfl, hbel, hbr, hbq, hF⟩ := hrel
      by_cases hlt : k < m
      · have fa : OwnI wr w.heap.size a (lineF k) := (hF.1 (a, lineF k) (by simp)).1
        have fb : OwnI wr w.heap.size b (lineT k) := (hF.1 (b, lineT k) (by simp)).1
        obtain ⟨A, c, rfl, _, _⟩ := fa.form
        obtain ⟨C, d, rfl, _, _⟩ := fb.form
        have q1 := hbq.cell' (i := 1) rfl
        have hs := hbel.size
        have lF : (lineF k).length = k := by simp [lineF]
        have lT : (lineT k).length = k := by simp [lineT]
        have g0 := below_alloc wr (.cells #[.int .i64 (k : Int)] 3)
        have hF0 := hF.below g0
        have hq0 := hbq.call g0
        have hr0 := hbr.call g0
        have fa0 : OwnI (wr.alloc (.cells #[.int .i64 (k : Int)] 3)) w.heap.size (.slice A (lineF k).length c) (lineF k) := fa.alloc _
        have hne0 := fa0.blkne hq0 (by decide)
        have hne0' := fa0.blkne hr0 (by decide)
        have hb0 := hbel.trans (g0.mono hs)
        have HL := Lib.hid (And.intro lF lT)
        clear lF lT
        (go_wp2_with (at_builtin; refine Hold.stop ?_)); unfold Hold
        refine wpList_appI rfl (.tmp 20) (.tmp 23) rfl w.heap.size _ (.slice A (lineF k).length c) (lineF k) rfl fa0 _ _ _ [(k : Int)] rfl rfl (SlI.one wr _ k ⟨by omega, by omega⟩) (by have := HL.out; simp; omega) (by simp; omega) ?_
        intro v1 w1 ho1 hg1 hv1
        rw [← lineF_succ] at ho1
        have hF1 := hF0.app (w' := w1) (L1 := []) (by have := hg1.size; simp at this; omega) ho1 hg1 hv1
        obtain ⟨A1, c1, rfl, _, _⟩ := ho1.form
        have hq1 := hq0.grown hg1 hne0
        have hr1 := hr0.grown hg1 hne0'
        have hb1 := hb0.grown hg1 (by simp; omega) (fun j hj => (fa0.lt j hj).1)
        have y1 := hq1.cell' (i := 1) rfl
        have y2 := hq1.cell' (i := 2) rfl
        have fy := hq1.frozen
        clear hg1 hv1 hF0 hq0 hr0 hne0 hne0' hb0 fa fb fa0 q1 hF hbq hbr g0 ho1
        (go_wp2_with (at_builtin; refine Hold.stop ?_)); unfold Hold
        obtain ⟨hb2, hF2, hq2, hr2, fb2⟩ := line_mid (x := (k : Int) + 1) (by omega) hb1 hF1 hq1 hr1
        refine wpList_appI rfl (.tmp 27) (.tmp 29) rfl w.heap.size _ (.slice C (lineT k).length d) (lineT k) rfl fb2 _ _ _ [(k : Int) + 1] rfl rfl (SlI.one' _ _ ((k : Int) + 1) ⟨by omega, by omega⟩ (by simp)) (by have := HL.out; simp; omega) (by have := hb1.size; simp; omega) ?_
        intro v2 w2 ho2 hg2 hv2
        rw [← lineT_succ] at ho2
        have hF3 := hF2.app (w' := w2) (L1 := [(_, lineF (k + 1))]) (by have := hg2.size; simp at this; omega) ho2 hg2 hv2
        obtain ⟨C1, d1, rfl, _, _⟩ := ho2.form
        have hq3 := hq2.grown hg2 (fb2.blkne hq2 (by decide))
        have hr3 := hr2.grown hg2 (fb2.blkne hr2 (by decide))
        have hb3 := hb2.grown hg2 hb2.size (fun j hj => (fb2.lt j hj).1)
        have z2 := hq3.cell' (i := 2) rfl
        have fz := hq3.frozen
        clear y1 y2 fy hb1 hF1 hq1 hr1 hb2 hF2 hq2 hr2 fb2 ho2 hg2 hv2 hbel
        go_wp2
        go_roundw
        case rel => exact ⟨k + 1, _, _, by omega, by go_num, hb3.setCell (by simp <;> omega) _, hr3.far (by simp <;> omega) _, hq3.set_ 2 _, (hF3.setBlk hq3 (by decide) _).mono (Nat.le_refl _) (by simp)⟩
        case measure => simp [intOf]; omega
      · obtain rfl : k = m := by omega
        have fa : OwnI wr w.heap.size a (lineF k) := (hF.1 (a, lineF k) (by simp)).1
        have fb : OwnI wr w.heap.size b (lineT k) := (hF.1 (b, lineT k) (by simp)).1
        obtain ⟨A, c, rfl, _, _⟩ := fa.form
        obtain ⟨C, d, rfl, _, _⟩ := fb.form
        have q0 := hbq.cell' (i := 0) rfl
        have q1 := hbq.cell' (i := 1) rfl
        have q2 := hbq.cell' (i := 2) rfl
        have r0 := hbr.cell' (i := 0) rfl
        have r1 := hbr.cell' (i := 1) rfl
        have r2 := hbr.cell' (i := 2) rfl
        have fr := hbr.frozen
        go_wp2
        refine bodyPost_ret (v := .tuple #[.agg #[.int .i64 ((k : Int) + 1), .slice A (lineF k).length c, .slice C (lineT k).length d], .bool true]) (by simp [results, go_sem, r0, r1, r2]) rfl ⟨_, rfl, ⟨_, _, rfl, ?_, ⟨by simp only; omega, by simp only; omega⟩⟩, ?_⟩
        · have h1 := hF.setBlk (i := 0) hbr (by decide) (.int .i64 ((k : Int) + 1))
          have h2 := h1.setBlk (i := 1) (hbr.set_ 0 _) (by decide) (.slice A (lineF k).length c)
          have h3 := h2.setBlk (i := 2) ((hbr.set_ 0 _).set_ 1 _) (by decide) (.slice C (lineT k).length d)
          simpa using h3
        · exact ((hbel.setCell (by simp) _).setCell (by simp) _).setCell (by simp) _

end Go.Proofs.Ytndnjbofflddfaa
