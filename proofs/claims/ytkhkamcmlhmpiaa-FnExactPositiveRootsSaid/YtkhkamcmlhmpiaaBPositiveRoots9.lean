/- FnExactPositiveRoots: for every argument the program's function returns what the reference's returns. Part 9 of 11 of the proof: RtS, SlVs. No condition. -/
import Derived.Test.YtkhkamcmlhmpiaaBPositiveRoots8
/- The order of roots, l20Has: the reference's. -/
namespace Go.Proofs.Ytkhkamcmlhmpiaa
set_option linter.unusedVariables false
set_option linter.unusedSimpArgs false
open Go.RowKit

theorem sum_take_succ {l : List Int} {k : Nat} {x : Int} (h : l[k]? = some x) : (l.take (k + 1)).sum = (l.take k).sum + x := by
  rw [take_snoc h, List.sum_append]; simp
theorem sum_take_rng {l : List Int} (h : ∀ y ∈ l, 0 ≤ y ∧ y ≤ 2) : ∀ k, 0 ≤ (l.take k).sum ∧ (l.take k).sum ≤ 2 * (k : Int)
  | 0 => by simp
  | k + 1 => by
    have ih := sum_take_rng h k
    rcases Nat.lt_or_ge k l.length with hk | hk
    · have e := List.getElem?_eq_getElem hk
      rw [sum_take_succ e]
      have := h _ (List.mem_of_getElem? e)
      omega
    · rw [List.take_of_length_le (by omega)]
      rw [List.take_of_length_le hk] at ih
      omega
theorem lexB_at : ∀ {a b : List Int} {k : Nat} {x y : Int}, a.take k = b.take k → a[k]? = some x → b[k]? = some y → x ≠ y → lexB a b = decide (x < y)
  | [], _, _, _, _, _, h, _, _ => by simp at h
  | _ :: _, [], _, _, _, _, _, h, _ => by simp at h
  | a :: s, b :: t, 0, x, y, _, hx, hy, hn => by
    simp at hx hy
    subst hx hy
    rw [lexB, if_neg hn]
  | a :: s, b :: t, k + 1, x, y, h, hx, hy, hn => by
    simp at h hx hy
    rw [lexB, if_pos h.1]
    exact lexB_at h.2 hx hy hn

set_option maxHeartbeats 1600000 in
theorem l20Less_any (u v : Value) (a b : List Int) (n : Nat) (w : World) (hu : SlI w w.heap.size u a) (hv : SlI w w.heap.size v b) (la : a.length = n) (lb : b.length = n) (hn : n ≤ 5) (ra : ∀ y ∈ a, 0 ≤ y ∧ y ≤ 2) (rb : ∀ y ∈ b, 0 ≤ y ∧ y ≤ 2) :
    Calls Try.prog 72 #[u, v] w fun e w' => e = .returned (.bool (ltR a b)) ∧ ∃ m, w' = w.drewN m := by
  obtain ⟨A, c, rfl, _, _, _, hx⟩ := hu.open_
  obtain ⟨C, d, rfl, _, _, _, hy⟩ := hv.open_
  have LA := Lib.hid la
  have LB := Lib.hid lb
  have SA := Lib.hid (sum_take_rng ra)
  have SB := Lib.hid (sum_take_rng rb)
  rw [la, lb]
  rw [la] at hx
  rw [lb] at hy
  clear hu hv la lb ra rb
  go_enter Try.func72, Try.ntmps72
  go_wp2
  go_loop [5, 6, 7] (fun s t i => ∃ k : Nat, k ≤ n ∧ i = .int .i64 k ∧ s = .int .i64 (a.take k).sum ∧ t = .int .i64 (b.take k).sum) (fun _ _ i => n - (intOf i).toNat)
  case atStart => exact ⟨0, Nat.zero_le _, rfl, by simp, by simp⟩
  case round =>
    obtain ⟨k, hk, rfl, rfl, rfl⟩ := hrel
    have ha := SA.out k
    have hb := SB.out k
    by_cases hlt : k < n
    · obtain ⟨b1, o1, y, rfl, hb1, HY, y1, _⟩ := SlI.atN hx LA.out hlt
      obtain ⟨b2, o2, z, rfl, hb2, HZ, z1, _⟩ := SlI.atN hy LB.out hlt
      have ha' := SA.out (k + 1)
      have hb' := SB.out (k + 1)
      rw [sum_take_succ HY.out] at ha'
      rw [sum_take_succ HZ.out] at hb'
      have hst := Lib.hid (sum_take_succ HY.out)
      have hst' := Lib.hid (sum_take_succ HZ.out)
      obtain ⟨S, hS⟩ : ∃ S, (a.take k).sum = S := ⟨_, rfl⟩
      obtain ⟨T, hT⟩ : ∃ T, (b.take k).sum = T := ⟨_, rfl⟩
      rw [hS] at ha ha' hst ⊢
      rw [hT] at hb hb' hst' ⊢
      clear hS hT hx hy
      go_wp2
      go_roundw
      case rel => exact ⟨k + 1, by omega, by go_num, by rw [hst.out], by rw [hst'.out]⟩
      case measure => simp [intOf]; omega
    · obtain rfl : k = n := by omega
      have ea : a.take k = a := List.take_of_length_le (by have := LA.out; omega)
      have eb : b.take k = b := List.take_of_length_le (by have := LB.out; omega)
      rw [ea] at ha ⊢
      rw [eb] at hb ⊢
      obtain ⟨S, hS⟩ : ∃ S, a.sum = S := ⟨_, rfl⟩
      obtain ⟨T, hT⟩ : ∃ T, b.sum = T := ⟨_, rfl⟩
      rw [hS] at ha ⊢
      rw [hT] at hb ⊢
      have HS := Lib.hid hS
      have HT := Lib.hid hT
      clear hS hT ea eb
      by_cases he : S = T
      · subst he
        have HC : Hid (ltR a b = lexB a b) := by show _ = _; rw [ltR, HS.out, HT.out, if_pos rfl]
        go_wp2
        go_loopw [8] (fun i wr => ∃ j q : Nat, j ≤ k ∧ i = .int .i64 j ∧ wr = w.drewN q ∧ Hid (a.take j = b.take j)) (fun i _ => k - (intOf i).toNat)
        case atStart => exact ⟨0, 0, Nat.zero_le _, rfl, rfl, rfl⟩
        case round =>
          obtain ⟨j, q, hj, rfl, rfl, hxy⟩ := hrel
          by_cases hlt : j < k
          · obtain ⟨b1, o1, y, rfl, hb1, HY, y1, _⟩ := SlI.atN hx LA.out hlt
            obtain ⟨b2, o2, z, rfl, hb2, HZ, z1, _⟩ := SlI.atN hy LB.out hlt
            clear hx hy
            by_cases hE : y = z
            · subst hE
              go_wp2
              go_quiet (fail)
              go_wp2
              go_roundw
              case rel =>
                refine ⟨j + 1, q + nq, by omega, by go_num, rfl, ?_⟩
                show _ = _
                rw [take_snoc HY.out, take_snoc HZ.out, hxy.out]
              case measure => simp [intOf]; omega
            · have hne : (y != z) = true := by simpa using hE
              have HR : Hid (ltR a b = decide (y < z)) := by show _ = _; rw [HC.out]; exact lexB_at hxy.out HY.out HZ.out hE
              clear hE
              go_wp2
              go_quiet (fail)
              go_wp2
              obtain ⟨Wq, hWq⟩ : ∃ Wq, (w.drewN q).drewN nq = Wq := ⟨_, rfl⟩
              have y2 : Wq.cell? ⟨b1, o1 + j, none⟩ = some (.int .i64 y) := by rw [← hWq]; exact y1
              have z2 : Wq.cell? ⟨b2, o2 + j, none⟩ = some (.int .i64 z) := by rw [← hWq]; exact z1
              have HW := Lib.hid hWq
              try rw [hWq]
              clear hWq
              go_quiet (fail)
              go_wp2
              go_ret
              exact ⟨by rw [HR.out]; rfl, _, by rw [← HW.out, World.drewN_drewN, World.drewN_drewN]⟩
          · obtain rfl : j = k := by omega
            have HR : Hid (ltR a b = false) := by
              show _ = _
              have h := hxy.out
              rw [List.take_of_length_le (by have := LA.out; omega), List.take_of_length_le (by have := LB.out; omega)] at h
              rw [HC.out, h, lexB_irrefl]
            go_wp2
            go_ret
            exact ⟨by rw [HR.out]; rfl, q, rfl⟩
      · have hne : (S != T) = true := by simpa using he
        have HC : Hid (ltR a b = decide (S < T)) := by show _ = _; rw [ltR, HS.out, HT.out, if_neg he]
        go_wp2
        go_ret
        exact ⟨by rw [HC.out]; rfl, 0, rfl⟩

set_option maxHeartbeats 800000 in
theorem l20Has_any (u v : Value) (ll : List (List Int)) (x : List Int) (w : World) (hu : SlII w w.heap.size u ll) (hv : SlI w w.heap.size v x) :
    Calls Try.prog 66 #[u, v] w fun e w' => e = .returned (.bool (decide (x ∈ ll))) ∧ Below w.heap.size w w' := by
  obtain ⟨A, c, rfl, _, _, ln, hx⟩ := hu.open_
  obtain ⟨C, d, rfl, _, _, _, hy⟩ := hv.open_
  clear hu hv
  go_enter Try.func66, Try.ntmps66
  go_wp2
  go_loopw [5] (fun i wr => ∃ k : Nat, k ≤ ll.length ∧ i = .int .i64 k ∧ Below w.heap.size w wr ∧ Hid (x ∉ ll.take k)) (fun i _ => ll.length - (intOf i).toNat)
  case atStart => exact ⟨0, Nat.zero_le _, rfl, Below.refl _ _, by show x ∉ _; simp⟩
  case round =>
    obtain ⟨k, hk, rfl, hbel, hno⟩ := hrel
    by_cases hlt : k < ll.length
    · obtain ⟨b1, o1, l, A', c', rfl, hb1, HL, y1, hl⟩ := SlII.at_ hx hlt
      have y2 := bcell hbel hb1 y1
      have hx2 := SlI.more hbel.size (SlI.below hbel hl)
      have hy2 := SlI.more hbel.size (SlI.below hbel hy)
      by_cases he : l = x
      · have HE := Lib.hid he
        clear he
        go_wp2_with fail
        refine (l6Same_any _ _ l x wr hx2 hy2).mono ?_; rintro e w1 ⟨rfl, hb⟩
        rw [decide_eq_true HE.out]
        have HR : Hid (x ∈ ll) := by have := HL.out; rw [HE.out] at this; exact List.mem_of_getElem? this
        go_wp2
        go_ret
        exact ⟨by rw [decide_eq_true HR.out]; rfl, bthen hbel hb⟩
      · have HE := Lib.hid he
        clear he
        go_wp2_with fail
        refine (l6Same_any _ _ l x wr hx2 hy2).mono ?_; rintro e w1 ⟨rfl, hb⟩
        rw [decide_eq_false HE.out]
        go_wp2
        go_roundw
        case rel =>
          refine ⟨k + 1, by omega, by go_num, bthen hbel hb, ?_⟩
          show x ∉ _
          rw [take_snoc HL.out, List.mem_append, List.mem_singleton]
          rintro (h | h)
          · exact hno.out h
          · exact HE.out h.symm
        case measure => simp [intOf]; omega
    · have HR : Hid (x ∉ ll) := by have := hno.out; rwa [List.take_of_length_le (by omega)] at this
      go_wp2
      go_ret
      exact ⟨by rw [decide_eq_false HR.out]; rfl, hbel⟩
end Go.Proofs.Ytkhkamcmlhmpiaa

/- Rows of slice values, whatever they hold: reading, appending. -/
namespace Go.Proofs.Ytkhkamcmlhmpiaa
set_option linter.unusedVariables false
set_option linter.unusedSimpArgs false
open Go.RowKit

theorem addr_add (b o j : Nat) : (⟨b, o, none⟩ : Addr).add j = ⟨b, o + j, none⟩ := by unfold Addr.add; split <;> simp_all
def RV (w : World) (_B b o : Nat) (x : Value) : Prop := w.cell? ⟨b, o, none⟩ = some x ∧ x.oneCell' = true
abbrev SlV := SlG 1 RV
theorem SlV.below {w w' : World} {B : Nat} {v : Value} {l : List Value} (hb : Below B w w') (h : SlV w B v l) : SlV w' B v l :=
  SlG.mono (fun _ _ _ hlt ⟨hc, hx⟩ => ⟨bcell hb hlt hc, hx⟩) (Nat.le_refl _) h
theorem SlV.more {w : World} {B B' : Nat} {v : Value} {l : List Value} (hB : B ≤ B') (h : SlV w B v l) : SlV w B' v l :=
  SlG.mono (B := B) (B' := B') (fun _ _ _ _ h => h) hB h
theorem SlV.next {w w' : World} {v : Value} {l : List Value} (hb : Below w.heap.size w w') (h : SlV w w.heap.size v l) : SlV w' w'.heap.size v l := SlV.more hb.size (SlV.below hb h)
theorem SlV.one {w : World} {B : Nat} {v : Value} {l : List Value} (h : SlV w B v l) : ∀ u ∈ l, u.oneCell' = true := by
  obtain ⟨A, c, _, _, _, _, h4⟩ := h
  intro x hx
  obtain ⟨j, hj⟩ := List.getElem?_of_mem hx
  obtain ⟨_, _, _, _, hr⟩ := h4 (by have := lt_of_some hj; omega)
  exact (hr j x hj).2
theorem NewsAt.of_slV {w : World} {B : Nat} {A : Option Addr} {c : Nat} {l : List Value} (h : SlV w B (.slice A l.length c) l) : NewsAt w A l.length l 1 := by
  refine ⟨by simp, ?_⟩
  obtain ⟨A', c', e, h1, h2, h3, h4⟩ := h
  injection e with e1 e2 e3; subst e1
  rcases Nat.eq_zero_or_pos l.length with h0 | h0
  · exact .inl h0
  · obtain ⟨b, o, rfl, _, hc⟩ := h4 h0
    exact .inr ⟨b, o, rfl, fun j u hu => by simpa using (hc j u hu).1⟩
theorem SlV.takeS {w : World} {B c k : Nat} {A : Option Addr} {l : List Value} (h : SlV w B (.slice A l.length c) l) (hk : k ≤ l.length) : SlV w B (.slice A k c) (l.take k) := by
  obtain ⟨A', c', e, h1, h2, h3, h4⟩ := h
  injection e with e1 e2 e3
  subst e1 e3
  refine ⟨A, c, by rw [List.length_take]; congr 1; omega, by rw [List.length_take]; omega, h2, by rw [List.length_take]; omega, fun hp => ?_⟩
  rw [List.length_take] at hp
  obtain ⟨b, o, e, hb, hc⟩ := h4 (by omega)
  refine ⟨b, o, e, hb, fun j x hj => hc j x ?_⟩
  rw [List.getElem?_take] at hj
  split at hj
  · exact hj
  · cases hj
theorem SlV.dropS {w : World} {B c k g o : Nat} {l : List Value} (h : SlV w B (.slice (some ⟨g, o, none⟩) l.length c) l) (hk : k ≤ l.length) : SlV w B (.slice (some ⟨g, o + k, none⟩) (l.length - k) (c - k)) (l.drop k) := by
  have h' := h
  obtain ⟨A', c', e, h1, h2, h3, h4⟩ := h'
  injection e with e1 e2 e3
  subst e3
  refine ⟨some ⟨g, o + k, none⟩, c - k, by rw [List.length_drop], by rw [List.length_drop]; omega, by omega, by rw [List.length_drop]; omega, fun hp => ?_⟩
  rw [List.length_drop] at hp
  obtain ⟨b, o', e, hb, hc⟩ := h4 (by omega)
  rw [← e1] at e
  injection e with e
  injection e with e5 e6
  subst e5 e6
  refine ⟨g, o + k, rfl, hb, fun j x hj => ?_⟩
  rw [List.getElem?_drop] at hj
  have := hc _ x hj
  rwa [show o + (k + j) * 1 = o + k + j * 1 by omega] at this
/-- a row of slice values of the call's own -/
def OwnV (w : World) (base : Nat) (v : Value) (vs : List Value) : Prop := w.ownsRow base 22 1 v vs.length vs ∧ vs.length ≤ 17592186044416 ∧ ∀ u ∈ vs, u.oneCell' = true
theorem OwnV.rd {w : World} {base : Nat} {v : Value} {l : List Value} (h : OwnV w base v l) : SlV w w.heap.size v l := by
  obtain ⟨h1, h2, h3⟩ := h
  rcases h1.2 with ⟨rfl, h0⟩ | ⟨g, cap, cur, rfl, _, hg, hnc, hcm, hcs, htake⟩
  · obtain rfl : l = [] := List.eq_nil_of_length_eq_zero h0
    exact SlG.nil
  · refine ⟨_, _, rfl, hnc, by simp only [maxLen] at hcm; omega, h2, fun hp => ⟨g, 0, rfl, (Array.getElem?_eq_some_iff.1 hg).1, fun j x hj => ⟨?_, h3 x (List.mem_of_getElem? hj)⟩⟩⟩
    have hc := h1.cellAt j (by have := lt_of_some hj; omega)
    rw [show 0 + j * 1 = j by omega, hc, hj]
theorem OwnV.below {w w' : World} {base : Nat} {v : Value} {l : List Value} (h : OwnV w base v l) (hb : Below w.heap.size w w') : OwnV w' base v l :=
  ⟨h.1.kept (row := none) ⟨hb.os, hb.tape, hb.output, hb.size, fun k hk _ => hb.block k hk⟩ (by cases v.ownBlock <;> simp), h.2⟩
theorem OwnV.lt {w : World} {base : Nat} {v : Value} {l : List Value} (h : OwnV w base v l) : ∀ k, v.ownBlock = some k → base ≤ k ∧ k < w.heap.size := h.1.lt
theorem OwnV.lower {w : World} {base base' : Nat} {v : Value} {l : List Value} (h : OwnV w base v l) (hb : base' ≤ base) : OwnV w base' v l := by
  obtain ⟨⟨h0, h1⟩, h2⟩ := h
  refine ⟨⟨h0, ?_⟩, h2⟩
  rcases h1 with h1 | ⟨g, cap, cur, e, hg, rest⟩
  · exact .inl h1
  · exact .inr ⟨g, cap, cur, e, by omega, rest⟩
theorem OwnV.form {w : World} {base : Nat} {v : Value} {l : List Value} (h : OwnV w base v l) : ∃ A c, v = .slice A l.length c ∧ l.length ≤ c ∧ c ≤ 9223372036854775807 := by
  rcases h.1.2 with ⟨rfl, h0⟩ | ⟨g, cap, cur, rfl, _, _, hnc, hcm, _⟩
  · exact ⟨none, 0, by rw [h0], by omega, by omega⟩
  · exact ⟨_, _, rfl, hnc, by simp only [maxLen] at hcm; omega⟩
/-- append of rows onto a row of the call's own -/
theorem wpList_appV {w : World} {ops : Array Oper} {rest : List Oper} {o : Oper} {a : Act} {Q : Exit → Act → World → Prop} (hgd : o.guard = none) (s x : Operand)
    (ho : o.op = .call { callee := .builtin .append, args := #[s, x], argTypes := #[37, 37] })
    (base B : Nat) (v : Value) (l : List Value) (hs : a.eval s = v) (hown : OwnV w base v l) (A : Option Addr) (m c : Nat) (news : List Value) (hx : a.eval x = .slice A m c) (hm : m = news.length) (hr : SlV w B (.slice A news.length c) news)
    (hn : l.length + news.length ≤ 1048576) (hbase : base ≤ w.heap.size)
    (h : ∀ v' w', OwnV w' base v' (l ++ news) → w.grownBy w' v.ownBlock → (v'.ownBlock = v.ownBlock ∨ v'.ownBlock = some w.heap.size) → wpList Try.prog ops Q rest (a.put o.dst v') w') : wpList Try.prog ops Q (o :: rest) a w := by
  subst hm
  obtain ⟨i0, hi, hz0, hz1, hz2⟩ := info_parts infoInts
  refine wpList_append_G w hgd s x _ ho base 22 i0 _ 1 24 Try.underlying37 hi hz0 hz1 hz2 rfl (by decide) v l.length _ hs hown.1 A _ c _ hx (NewsAt.of_slV hr) (SlV.one hr) (by simp only [maxLen]; omega) (by omega) hbase fun v' w' h1 h2 h3 => ?_
  refine h v' w' ⟨by simpa using h1, by simp; omega, fun y hy => ?_⟩ h2 h3
  rcases List.mem_append.1 hy with hy | hy
  · exact hown.2.2 y hy
  · exact SlV.one hr y hy
/-- .. onto a slice that has just been made and holds nothing: what was there stands. -/
theorem wpList_append_freshV {w : World} {ops : Array Oper} {rest : List Oper} {o : Oper} {a : Act} {Q : Exit → Act → World → Prop} (hgd : o.guard = none) (s x : Operand)
    (ho : o.op = .call { callee := .builtin .append, args := #[s, x], argTypes := #[37, 37] })
    (g lo B : Nat) (cs : Array Value) (hs : a.eval s = .slice (some ⟨g, 0, none⟩) 0 0) (hg : Blk w g 22 cs) (hcs : cs.size = 0) (hlo : lo ≤ g) (A : Option Addr) (m c : Nat) (news : List Value) (hx : a.eval x = .slice A m c) (hm : m = news.length) (hr : SlV w B (.slice A news.length c) news) (hn2 : news.length ≤ 1048576)
    (h : ∀ v' w', OwnV w' lo v' news → Below w.heap.size w w' → wpList Try.prog ops Q rest (a.put o.dst v') w') : wpList Try.prog ops Q (o :: rest) a w := by
  subst hm
  obtain ⟨i0, hi, hz0, hz1, hz2⟩ := info_parts infoInts
  have hn := hr
  obtain ⟨_, _, _, _, _, hn, hcell⟩ := hn
  have hI := SlV.one hr
  refine wpList_plain hgd fun K hK => ?_
  by_cases hp : 0 < news.length
  · obtain ⟨hl, hnews⟩ := NewsAt.of_slV hr
    obtain ⟨b', of', eA', hc'⟩ := hnews.resolve_left (by omega)
    subst eA'
    have hadd : ∀ j, (⟨b', of', none⟩ : Addr).add j = ⟨b', of' + j, none⟩ := addr_add b' of'
    obtain ⟨v', w', hrun, hown, hgr⟩ := run_append_arg_grows (P := Try.prog) w 37 o.type 22 i0 _ 1 24 Try.underlying37 hi hz0 hz1 hz2 rfl (by decide) ⟨g, 0, none⟩ 0 0 [] (by simp) (by intro j u hj; simp at hj) ⟨b', of', none⟩ news.length c news hl (fun j u hj => by rw [hadd]; exact hc' j u hj) (by omega) (by simp only [maxLen]; omega) (by omega)
    unfold Oper.wp execOp
    simp only [ho, resolve, invoke, builtin, Sem.run_bind, Sem.run_pure, Result.andThen_ok, List.map_toArray, List.map_cons, List.map_nil, hs, hx, hrun]
    refine hK _ _ (h v' w' ?_ ⟨hgr.os, hgr.tape, hgr.output, hgr.size, fun k hk => hgr.block k hk (by simp)⟩)
    have hgl := hg.lt
    exact OwnV.lower (base := w.heap.size) ⟨by simpa using hown, hn, hI⟩ (by omega)
  · have h0 : news = [] := List.eq_nil_of_length_eq_zero (by omega)
    subst h0
    have hrun : (Builtin.append_ #[37, 37] o.type #[.slice (some ⟨g, 0, none⟩) 0 0, .slice A 0 c]).run Try.prog w = .ok (.slice (some ⟨g, 0, none⟩) 0 0) w := by
      cases A <;> simp [Builtin.append_, run_underlying (P := Try.prog) Try.underlying37, sizeOf, typeInfo, hi, Builtin.lenOf, Builtin.firstCells, storeCells, loadCells, loadCellsFrom]
    simp only [List.length_nil] at hx
    unfold Oper.wp execOp
    simp only [ho, resolve, invoke, builtin, Sem.run_bind, Sem.run_pure, Result.andThen_ok, List.map_toArray, List.map_cons, List.map_nil, hs, hx, hrun]
    refine hK _ _ (h _ w ?_ (Below.refl _ _))
    have := hg.own (base := lo) (n := 0) (cap := 0) (size := 1) hlo (Nat.le_refl _) (by simp only [maxLen]; omega) (by omega)
    exact ⟨by simpa using this, by simp, by simp⟩
def FreshV (w : World) (lo : Nat) (u : Value) : Prop := ∃ g, u = .slice (some ⟨g, 0, none⟩) 0 0 ∧ lo ≤ g ∧ Blk w g 22 #[]
theorem FreshV.below {w w' : World} {lo : Nat} {u : Value} (h : FreshV w lo u) (hb : Below w.heap.size w w') : FreshV w' lo u := by
  obtain ⟨g, e, h1, h2⟩ := h
  exact ⟨g, e, h1, h2.call hb⟩
theorem FreshV.new (w : World) {lo : Nat} (h : lo ≤ w.heap.size) : FreshV (w.alloc (.cells #[] 22)) lo (.slice (some ⟨w.heap.size, 0, none⟩) 0 0) := ⟨_, rfl, h, Blk.new _ _ _⟩
/-- the one-cell block that 'append(out, row)' lays first -/
theorem SlV.new (w : World) (t : TypeId) (x : Value) (hx : x.oneCell' = true) : SlV (w.alloc (.cells #[x] t)) (w.alloc (.cells #[x] t)).heap.size (.slice (some ⟨w.heap.size, 0, none⟩) 1 1) [x] := by
  refine ⟨_, 1, rfl, by simp, by omega, by simp, fun _ => ⟨w.heap.size, 0, rfl, by simp, fun j y hj => ?_⟩⟩
  match j, hj with
  | 0, hj =>
    simp at hj
    subst hj
    exact ⟨by simp, hx⟩
  | j + 1, hj => simp at hj
theorem SlI.oneC {w : World} {B : Nat} {v : Value} {l : List Int} (h : SlI w B v l) : v.oneCell' = true := by
  obtain ⟨A, c, rfl, _⟩ := h; rfl
theorem SlV.ii {w : World} {B : Nat} {v : Value} {vs : List Value} {ll : List (List Int)} (h : SlV w B v vs) (hl : vs.length = ll.length) (hr : ∀ (j : Nat) (u : Value) (l : List Int), vs[j]? = some u → ll[j]? = some l → SlI w B u l) : SlII w B v ll := by
  obtain ⟨A, c, rfl, h1, h2, h3, h4⟩ := h
  refine ⟨A, c, by rw [hl], by omega, h2, by omega, fun hp => ?_⟩
  obtain ⟨b, o, e, hb, hc⟩ := h4 (by omega)
  refine ⟨b, o, e, hb, fun j l hj => ?_⟩
  have hlt := lt_of_some hj
  have hv : vs[j]? = some (vs[j]'(by omega)) := List.getElem?_eq_getElem (by omega)
  exact ⟨_, (hc j _ hv).1, hr j _ l hv hj⟩
end Go.Proofs.Ytkhkamcmlhmpiaa
