/- The two CoxeterOrder. -/
import Derived.Test.YtpcgjjflmhnimaaOrder3
import Derived.Test.YtpcgjjflmhnimaaRev
namespace Go.Proofs.Ytpcgjjflmhnimaa
set_option linter.unusedVariables false
set_option linter.unusedSimpArgs false
open Go.RowKit

set_option maxHeartbeats 400000 in
theorem implCoxeterOrder_any (u : Value) (q : Qv) (w : World) (hu : QvR w w.heap.size u q) :
    Calls Try.prog 104 #[u] w fun e w' => ∃ v, e = .returned (.tuple #[v, .bool (ordQ q).2]) ∧ IntsO w' w.heap.size w'.heap.size v (ordQ q).1.reverse ∧ Below w.heap.size w w' := by
  have hu' := hu
  obtain ⟨A, c, C, d, rfl, hf, hT, hr, lf, lt⟩ := hu.open_
  clear hu hf hT
  obtain ⟨W, hW⟩ : ∃ W, W = w.alloc (.cells #[.int .i64 q.v, .slice A q.f.length c, .slice C q.t.length d] 29) := ⟨_, rfl⟩
  have g0 : Below w.heap.size w W := by rw [hW]; exact below_alloc _ _
  have HC := Lib.hid (implOrderOf_any _ q W (QvR.next g0 hu'))
  clear hu'
  generalize ordQ q = R at HC ⊢
  obtain ⟨l, b⟩ := R
  dsimp only at HC ⊢
  go_enter Try.func104, Try.ntmps104
  go_wp2_with fail
  rw [← hW]; clear hW
  refine (unhide HC).mono ?_; rintro e w1 ⟨v, rfl, ho', hb1'⟩
  have ho := ho'.wider (lo' := w.heap.size) g0.size (Nat.le_refl _)
  have hb1 := bthen g0 hb1'
  clear ho' hb1' g0 HC
  obtain ⟨VA, vc, rfl, _, _⟩ := ho.1.form
  go_wp2_with fail
  refine (reverse_own _ l w.heap.size _ ho.1).mono ?_; rintro e w2 ⟨rfl, ho2, hg⟩
  go_wp2
  exact bodyPost_ret (v := .tuple #[.slice VA l.length vc, .bool b]) (by simp [results, go_sem]) rfl ⟨_, rfl, IntsO.of_own ho2, hb1.grown hg hb1.size (fun j hj => (ho.1.lt j hj).1)⟩

/-- The reference's state: it stands at i, and the elements behind it are laid, the last one first. -/
def RevSt (l : List Int) (i : Int) (out : List Int) : Prop := (∃ j : Nat, j < l.length ∧ i = j ∧ out = l.reverse.take (l.length - 1 - j)) ∨ (i = -1 ∧ out = l.reverse)
theorem RevSt.start (l : List Int) : RevSt l ((l.length : Int) - 1) [] := by
  rcases Nat.eq_zero_or_pos l.length with h | h
  · right
    obtain rfl := List.eq_nil_of_length_eq_zero h
    simp
  · exact .inl ⟨l.length - 1, by omega, by omega, by simp⟩
theorem RevSt.step {l out : List Int} {j : Nat} {x : Int} (hx : l[j]? = some x) (h : out = l.reverse.take (l.length - 1 - j)) : RevSt l ((j : Int) - 1) (out ++ [x]) := by
  have hj := lt_of_some hx
  have e : l.reverse[l.length - 1 - j]? = some x := by
    rw [List.getElem?_reverse (by omega), ← hx]
    congr 1
    omega
  have h2 := take_snoc e
  rw [← h] at h2
  rcases Nat.eq_zero_or_pos j with h0 | h0
  · subst h0
    refine .inr ⟨by simp, ?_⟩
    rw [← h2, List.take_of_length_le (by simp; omega)]
  · refine .inl ⟨j - 1, by omega, by omega, ?_⟩
    rw [← h2]
    congr 1
    omega

set_option maxHeartbeats 800000 in
theorem specCoxeterOrder_any (u : Value) (q : Qv) (w : World) (hu : QvR w w.heap.size u q) :
    Calls Try.prog 90 #[u] w fun e w' => ∃ v, e = .returned (.tuple #[v, .bool (ordQ q).2]) ∧ IntsO w' w.heap.size w'.heap.size v (ordQ q).1.reverse ∧ Below w.heap.size w w' := by
  have hu' := hu
  obtain ⟨A, c, C, d, rfl, hf, hT, hr, lf, lt⟩ := hu.open_
  clear hu hf hT
  obtain ⟨W, hW⟩ : ∃ W, W = w.alloc (.cells #[.int .i64 q.v, .slice A q.f.length c, .slice C q.t.length d] 29) := ⟨_, rfl⟩
  have g0 : Below w.heap.size w W := by rw [hW]; exact below_alloc _ _
  have HC := Lib.hid (specOrderOf_any _ q W (QvR.next g0 hu'))
  clear hu'
  generalize ordQ q = R at HC ⊢
  obtain ⟨l, b⟩ := R
  dsimp only at HC ⊢
  go_enter Try.func90, Try.ntmps90
  go_wp2_with fail
  rw [← hW]; clear hW
  refine (unhide HC).mono ?_; rintro e w1 ⟨v, rfl, ho', hb1'⟩
  have ho := ho'.wider (lo' := w.heap.size) g0.size (Nat.le_refl _)
  have hb1 := bthen g0 hb1'
  clear ho' hb1' g0 HC
  obtain ⟨VA, vc, rfl, _, _⟩ := ho.1.form
  go_wp2
  have ho0 : OwnI (w1.alloc (.cells #[] 3)) w1.heap.size (.slice (some ⟨w1.heap.size, 0, none⟩) 0 0) [] := OwnI.made _ rfl (Nat.le_refl _)
  have hln := ho.1.2.1
  have hb0 : Below w.heap.size w (w1.alloc (.cells #[] 3)) := hb1.alloc hb1.size _
  have hlr : SlI (w1.alloc (.cells #[] 3)) w1.heap.size (.slice VA l.length vc) l := SlI.below ((Below.refl _ _).alloc (Nat.le_refl _) _) ho.rd
  have hs1 : w1.heap.size ≤ (w1.alloc (.cells #[] 3)).heap.size := by simp
  have hs2 := hb1.size
  clear ho
  generalize w1.alloc (.cells #[] 3) = W2 at *
  go_loopw [6, 7] (fun a i wr => ∃ out : List Int, RevSt l (intOf i) out ∧ i = .int .i64 (intOf i) ∧ OwnI wr w1.heap.size a out ∧ Below w1.heap.size W2 wr) (fun _ i _ => (intOf i + 1).toNat)
  case atStart => exact ⟨[], RevSt.start l, rfl, ho0, Below.refl _ _⟩
  case round =>
    obtain ⟨out, hst, hi, hown, hbel⟩ := hrel
    clear ho0
    rcases hst with ⟨j, hj, e1, e2⟩ | ⟨e1, e2⟩
    · rw [e1] at hi
      subst hi
      have HO := Lib.hid e2
      clear e1 e2
      obtain ⟨b0, o, x, rfl, hb, HX, x1, hx1, hx2⟩ := SlI.at_ hlr hj
      have x2 := bcell hbel hb x1
      obtain ⟨OA, oc, rfl, _, _⟩ := hown.form
      have ho3 := hown.alloc (.cells #[.int .i64 x] 3)
      have HS : Hid (RevSt l ((j : Int) - 1) (out ++ [x])) := RevSt.step HX.out HO.out
      have hol : Hid (out.length + 1 ≤ l.length) := by show _ ≤ _; rw [HO.out]; simp; omega
      clear x1
      have hsr := hbel.size
      (go_wp2_with (at_builtin; refine Hold.stop ?_)); unfold Hold

      refine wpList_appI rfl (.tmp 21) (.tmp 26) rfl w1.heap.size _ (.slice OA out.length oc) out rfl ho3 _ _ _ [x] rfl rfl (SlI.one wr _ x ⟨hx1, hx2⟩) (by have := hol.out; simp; omega) (by simp; omega) ?_
      intro v1 w3 ho1 hg1 hv1
      have hb3 := (hbel.alloc (by omega) (.cells #[.int .i64 x] 3)).grown hg1 (by simp; omega) (fun j hj => (ho3.lt j hj).1)
      obtain ⟨A1, c1, rfl, _, _⟩ := ho1.form
      clear ho3 hg1 hv1
      go_wp2
      go_roundw
      case rel => exact ⟨out ++ [x], HS.out, rfl, by rw [List.length_append] at ho1; exact ho1, hb3⟩
      case measure => simp [intOf]
    · rw [e1] at hi
      subst hi
      have HO := Lib.hid e2
      clear e1 e2
      obtain ⟨OA, oc, rfl, _, _⟩ := hown.form
      go_wp2
      exact bodyPost_ret (v := .tuple #[.slice OA out.length oc, .bool b]) (by simp [results, go_sem]) rfl ⟨_, rfl, by rw [← HO.out]; exact (IntsO.of_own hown).wider hs2 (Nat.le_refl _), hb0.trans (hbel.mono hs2)⟩
end Go.Proofs.Ytpcgjjflmhnimaa
