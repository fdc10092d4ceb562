/- FnExactRootDecompositions: for every argument the program's function returns what the reference's returns. Part 9 of 12 of the proof: RtS, SlVs, Conn, ConnI. No condition. -/
import Derived.Test.YtkhkamcmlhmpiaaBRootDecompositions8
/- The order of roots, l20Has: the reference's. -/
namespace Go.Proofs.Ytkhkamcmlhmpiaa
set_option linter.unusedVariables false
set_option linter.unusedSimpArgs false
open Go.RowKit

theorem sum_take_succ {l : List Int} {k : Nat} {x : Int} (h : l[k]? = some x) : (l.take (k + 1)).sum = (l.take k).sum + x := by
  rw [take_snoc h, List.sum_append]; simp
theorem sum_take_rng {l : List Int} (h : ∀ y ∈ l, 0 ≤ y ∧ y ≤ 2) : ∀ k, 0 ≤ (l.take k).sum ∧ (l.take k).sum ≤ 2 * (k : Int)
  | 0 => by simp
  | k + 1 => by
    have ih := sum_take_rng h k
    rcases Nat.lt_or_ge k l.length with hk | hk
    · have e := List.getElem?_eq_getElem hk
      rw [sum_take_succ e]
      have := h _ (List.mem_of_getElem? e)
      omega
    · rw [List.take_of_length_le (by omega)]
      rw [List.take_of_length_le hk] at ih
      omega
theorem lexB_at : ∀ {a b : List Int} {k : Nat} {x y : Int}, a.take k = b.take k → a[k]? = some x → b[k]? = some y → x ≠ y → lexB a b = decide (x < y)
  | [], _, _, _, _, _, h, _, _ => by simp at h
  | _ :: _, [], _, _, _, _, _, h, _ => by simp at h
  | a :: s, b :: t, 0, x, y, _, hx, hy, hn => by
    simp at hx hy
    subst hx hy
    rw [lexB, if_neg hn]
  | a :: s, b :: t, k + 1, x, y, h, hx, hy, hn => by
    simp at h hx hy
    rw [lexB, if_pos h.1]
    exact lexB_at h.2 hx hy hn

set_option maxHeartbeats 1600000 in
theorem l20Less_any (u v : Value) (a b : List Int) (n : Nat) (w : World) (hu : SlI w w.heap.size u a) (hv : SlI w w.heap.size v b) (la : a.length = n) (lb : b.length = n) (hn : n ≤ 5) (ra : ∀ y ∈ a, 0 ≤ y ∧ y ≤ 2) (rb : ∀ y ∈ b, 0 ≤ y ∧ y ≤ 2) :
    Calls Try.prog 72 #[u, v] w fun e w' => e = .returned (.bool (ltR a b)) ∧ ∃ m, w' = w.drewN m := by
  obtain ⟨A, c, rfl, _, _, _, hx⟩ := hu.open_
  obtain ⟨C, d, rfl, _, _, _, hy⟩ := hv.open_
  have LA := Lib.hid la
  have LB := Lib.hid lb
  have SA := Lib.hid (sum_take_rng ra)
  have SB := Lib.hid (sum_take_rng rb)
  rw [la, lb]
  rw [la] at hx
  rw [lb] at hy
  clear hu hv la lb ra rb
  go_enter Try.func72, Try.ntmps72
  go_wp2
  go_loop [5, 6, 7] (fun s t i => ∃ k : Nat, k ≤ n ∧ i = .int .i64 k ∧ s = .int .i64 (a.take k).sum ∧ t = .int .i64 (b.take k).sum) (fun _ _ i => n - (intOf i).toNat)
  case atStart => exact ⟨0, Nat.zero_le _, rfl, by simp, by simp⟩
  case round =>
    obtain ⟨k, hk, rfl, rfl, rfl⟩ := hrel
    have ha := SA.out k
    have hb := SB.out k
    by_cases hlt : k < n
    · obtain ⟨b1, o1, y, rfl, hb1, HY, y1, _⟩ := SlI.atN hx LA.out hlt
      obtain ⟨b2, o2, z, rfl, hb2, HZ, z1, _⟩ := SlI.atN hy LB.out hlt
      have ha' := SA.out (k + 1)
      have hb' := SB.out (k + 1)
      rw [sum_take_succ HY.out] at ha'
      rw [sum_take_succ HZ.out] at hb'
      have hst := Lib.hid (sum_take_succ HY.out)
      have hst' := Lib.hid (sum_take_succ HZ.out)
      obtain ⟨S, hS⟩ : ∃ S, (a.take k).sum = S := ⟨_, rfl⟩
      obtain ⟨T, hT⟩ : ∃ T, (b.take k).sum = T := ⟨_, rfl⟩
      rw [hS] at ha ha' hst ⊢
      rw [hT] at hb hb' hst' ⊢
      clear hS hT hx hy
      go_wp2
      go_roundw
      case rel => exact ⟨k + 1, by omega, by go_num, by rw [hst.out], by rw [hst'.out]⟩
      case measure => simp [intOf]; omega
    · obtain rfl : k = n := by omega
      have ea : a.take k = a := List.take_of_length_le (by have := LA.out; omega)
      have eb : b.take k = b := List.take_of_length_le (by have := LB.out; omega)
      rw [ea] at ha ⊢
      rw [eb] at hb ⊢
      obtain ⟨S, hS⟩ : ∃ S, a.sum = S := ⟨_, rfl⟩
      obtain ⟨T, hT⟩ : ∃ T, b.sum = T := ⟨_, rfl⟩
      rw [hS] at ha ⊢
      rw [hT] at hb ⊢
      have HS := Lib.hid hS
      have HT := Lib.hid hT
      clear hS hT ea eb
      by_cases he : S = T
      · subst he
        have HC : Hid (ltR a b = lexB a b) := by show _ = _; rw [ltR, HS.out, HT.out, if_pos rfl]
        go_wp2
        go_loopw [8] (fun i wr => ∃ j q : Nat, j ≤ k ∧ i = .int .i64 j ∧ wr = w.drewN q ∧ Hid (a.take j = b.take j)) (fun i _ => k - (intOf i).toNat)
        case atStart => exact ⟨0, 0, Nat.zero_le _, rfl, rfl, rfl⟩
        case round =>
          obtain ⟨j, q, hj, rfl, rfl, hxy⟩ := hrel
          by_cases hlt : j < k
          · obtain ⟨b1, o1, y, rfl, hb1, HY, y1, _⟩ := SlI.atN hx LA.out hlt
            obtain ⟨b2, o2, z, rfl, hb2, HZ, z1, _⟩ := SlI.atN hy LB.out hlt
            clear hx hy
            by_cases hE : y = z
            · subst hE
              go_wp2
              go_quiet (fail)
              go_wp2
              go_roundw
              case rel =>
                refine ⟨j + 1, q + nq, by omega, by go_num, rfl, ?_⟩
                show _ = _
                rw [take_snoc HY.out, take_snoc HZ.out, hxy.out]
              case measure => simp [intOf]; omega
            · have hne : (y != z) = true := by simpa using hE
              have HR : Hid (ltR a b = decide (y < z)) := by show _ = _; rw [HC.out]; exact lexB_at hxy.out HY.out HZ.out hE
              clear hE
              go_wp2
              go_quiet (fail)
              go_wp2
              obtain ⟨Wq, hWq⟩ : ∃ Wq, (w.drewN q).drewN nq = Wq := ⟨_, rfl⟩
              have y2 : Wq.cell? ⟨b1, o1 + j, none⟩ = some (.int .i64 y) := by rw [← hWq]; exact y1
              have z2 : Wq.cell? ⟨b2, o2 + j, none⟩ = some (.int .i64 z) := by rw [← hWq]; exact z1
              have HW := Lib.hid hWq
              try rw [hWq]
              clear hWq
              go_quiet (fail)
              go_wp2
              go_ret
              exact ⟨by rw [HR.out]; rfl, _, by rw [← HW.out, World.drewN_drewN, World.drewN_drewN]⟩
          · obtain rfl : j = k := by omega
            have HR : Hid (ltR a b = false) := by
              show _ = _
              have h := hxy.out
              rw [List.take_of_length_le (by have := LA.out; omega), List.take_of_length_le (by have := LB.out; omega)] at h
              rw [HC.out, h, lexB_irrefl]
            go_wp2
            go_ret
            exact ⟨by rw [HR.out]; rfl, q, rfl⟩
      · have hne : (S != T) = true := by simpa using he
        have HC : Hid (ltR a b = decide (S < T)) := by show _ = _; rw [ltR, HS.out, HT.out, if_neg he]
        go_wp2
        go_ret
        exact ⟨by rw [HC.out]; rfl, 0, rfl⟩

set_option maxHeartbeats 800000 in
theorem l20Has_any (u v : Value) (ll : List (List Int)) (x : List Int) (w : World) (hu : SlII w w.heap.size u ll) (hv : SlI w w.heap.size v x) :
    Calls Try.prog 66 #[u, v] w fun e w' => e = .returned (.bool (decide (x ∈ ll))) ∧ Below w.heap.size w w' := by
  obtain ⟨A, c, rfl, _, _, ln, hx⟩ := hu.open_
  obtain ⟨C, d, rfl, _, _, _, hy⟩ := hv.open_
  clear hu hv
  go_enter Try.func66, Try.ntmps66
  go_wp2
  go_loopw [5] (fun i wr => ∃ k : Nat, k ≤ ll.length ∧ i = .int .i64 k ∧ Below w.heap.size w wr ∧ Hid (x ∉ ll.take k)) (fun i _ => ll.length - (intOf i).toNat)
  case atStart => exact ⟨0, Nat.zero_le _, rfl, Below.refl _ _, by show x ∉ _; simp⟩
  case round =>
    obtain ⟨k, hk, rfl, hbel, hno⟩ := hrel
    by_cases hlt : k < ll.length
    · obtain ⟨b1, o1, l, A', c', rfl, hb1, HL, y1, hl⟩ := SlII.at_ hx hlt
      have y2 := bcell hbel hb1 y1
      have hx2 := SlI.more hbel.size (SlI.below hbel hl)
      have hy2 := SlI.more hbel.size (SlI.below hbel hy)
      by_cases he : l = x
      · have HE := Lib.hid he
        clear he
        go_wp2_with fail
        refine (l6Same_any _ _ l x wr hx2 hy2).mono ?_; rintro e w1 ⟨rfl, hb⟩
        rw [decide_eq_true HE.out]
        have HR : Hid (x ∈ ll) := by have := HL.out; rw [HE.out] at this; exact List.mem_of_getElem? this
        go_wp2
        go_ret
        exact ⟨by rw [decide_eq_true HR.out]; rfl, bthen hbel hb⟩
      · have HE := Lib.hid he
        clear he
        go_wp2_with fail
        refine (l6Same_any _ _ l x wr hx2 hy2).mono ?_; rintro e w1 ⟨rfl, hb⟩
        rw [decide_eq_false HE.out]
        go_wp2
        go_roundw
        case rel =>
          refine ⟨k + 1, by omega, by go_num, bthen hbel hb, ?_⟩
          show x ∉ _
          rw [take_snoc HL.out, List.mem_append, List.mem_singleton]
          rintro (h | h)
          · exact hno.out h
          · exact HE.out h.symm
        case measure => simp [intOf]; omega
    · have HR : Hid (x ∉ ll) := by have := hno.out; rwa [List.take_of_length_le (by omega)] at this
      go_wp2
      go_ret
      exact ⟨by rw [decide_eq_false HR.out]; rfl, hbel⟩
end Go.Proofs.Ytkhkamcmlhmpiaa

/- Rows of slice values, whatever they hold: reading, appending. -/
namespace Go.Proofs.Ytkhkamcmlhmpiaa
set_option linter.unusedVariables false
set_option linter.unusedSimpArgs false
open Go.RowKit

theorem addr_add (b o j : Nat) : (⟨b, o, none⟩ : Addr).add j = ⟨b, o + j, none⟩ := by unfold Addr.add; split <;> simp_all
def RV (w : World) (_B b o : Nat) (x : Value) : Prop := w.cell? ⟨b, o, none⟩ = some x ∧ x.oneCell' = true
abbrev SlV := SlG 1 RV
theorem SlV.below {w w' : World} {B : Nat} {v : Value} {l : List Value} (hb : Below B w w') (h : SlV w B v l) : SlV w' B v l :=
  SlG.mono (fun _ _ _ hlt ⟨hc, hx⟩ => ⟨bcell hb hlt hc, hx⟩) (Nat.le_refl _) h
theorem SlV.more {w : World} {B B' : Nat} {v : Value} {l : List Value} (hB : B ≤ B') (h : SlV w B v l) : SlV w B' v l :=
  SlG.mono (B := B) (B' := B') (fun _ _ _ _ h => h) hB h
theorem SlV.next {w w' : World} {v : Value} {l : List Value} (hb : Below w.heap.size w w') (h : SlV w w.heap.size v l) : SlV w' w'.heap.size v l := SlV.more hb.size (SlV.below hb h)
theorem SlV.one {w : World} {B : Nat} {v : Value} {l : List Value} (h : SlV w B v l) : ∀ u ∈ l, u.oneCell' = true := by
  obtain ⟨A, c, _, _, _, _, h4⟩ := h
  intro x hx
  obtain ⟨j, hj⟩ := List.getElem?_of_mem hx
  obtain ⟨_, _, _, _, hr⟩ := h4 (by have := lt_of_some hj; omega)
  exact (hr j x hj).2
theorem NewsAt.of_slV {w : World} {B : Nat} {A : Option Addr} {c : Nat} {l : List Value} (h : SlV w B (.slice A l.length c) l) : NewsAt w A l.length l 1 := by
  refine ⟨by simp, ?_⟩
  obtain ⟨A', c', e, h1, h2, h3, h4⟩ := h
  injection e with e1 e2 e3; subst e1
  rcases Nat.eq_zero_or_pos l.length with h0 | h0
  · exact .inl h0
  · obtain ⟨b, o, rfl, _, hc⟩ := h4 h0
    exact .inr ⟨b, o, rfl, fun j u hu => by simpa using (hc j u hu).1⟩
theorem SlV.takeS {w : World} {B c k : Nat} {A : Option Addr} {l : List Value} (h : SlV w B (.slice A l.length c) l) (hk : k ≤ l.length) : SlV w B (.slice A k c) (l.take k) := by
  obtain ⟨A', c', e, h1, h2, h3, h4⟩ := h
  injection e with e1 e2 e3
  subst e1 e3
  refine ⟨A, c, by rw [List.length_take]; congr 1; omega, by rw [List.length_take]; omega, h2, by rw [List.length_take]; omega, fun hp => ?_⟩
  rw [List.length_take] at hp
  obtain ⟨b, o, e, hb, hc⟩ := h4 (by omega)
  refine ⟨b, o, e, hb, fun j x hj => hc j x ?_⟩
  rw [List.getElem?_take] at hj
  split at hj
  · exact hj
  · cases hj
theorem SlV.dropS {w : World} {B c k g o : Nat} {l : List Value} (h : SlV w B (.slice (some ⟨g, o, none⟩) l.length c) l) (hk : k ≤ l.length) : SlV w B (.slice (some ⟨g, o + k, none⟩) (l.length - k) (c - k)) (l.drop k) := by
  have h' := h
  obtain ⟨A', c', e, h1, h2, h3, h4⟩ := h'
  injection e with e1 e2 e3
  subst e3
  refine ⟨some ⟨g, o + k, none⟩, c - k, by rw [List.length_drop], by rw [List.length_drop]; omega, by omega, by rw [List.length_drop]; omega, fun hp => ?_⟩
  rw [List.length_drop] at hp
  obtain ⟨b, o', e, hb, hc⟩ := h4 (by omega)
  rw [← e1] at e
  injection e with e
  injection e with e5 e6
  subst e5 e6
  refine ⟨g, o + k, rfl, hb, fun j x hj => ?_⟩
  rw [List.getElem?_drop] at hj
  have := hc _ x hj
  rwa [show o + (k + j) * 1 = o + k + j * 1 by omega] at this
/-- a row of slice values of the call's own -/
def OwnV (w : World) (base : Nat) (v : Value) (vs : List Value) : Prop := w.ownsRow base 22 1 v vs.length vs ∧ vs.length ≤ 17592186044416 ∧ ∀ u ∈ vs, u.oneCell' = true
theorem OwnV.rd {w : World} {base : Nat} {v : Value} {l : List Value} (h : OwnV w base v l) : SlV w w.heap.size v l := by
  obtain ⟨h1, h2, h3⟩ := h
  rcases h1.2 with ⟨rfl, h0⟩ | ⟨g, cap, cur, rfl, _, hg, hnc, hcm, hcs, htake⟩
  · obtain rfl : l = [] := List.eq_nil_of_length_eq_zero h0
    exact SlG.nil
  · refine ⟨_, _, rfl, hnc, by simp only [maxLen] at hcm; omega, h2, fun hp => ⟨g, 0, rfl, (Array.getElem?_eq_some_iff.1 hg).1, fun j x hj => ⟨?_, h3 x (List.mem_of_getElem? hj)⟩⟩⟩
    have hc := h1.cellAt j (by have := lt_of_some hj; omega)
    rw [show 0 + j * 1 = j by omega, hc, hj]
theorem OwnV.below {w w' : World} {base : Nat} {v : Value} {l : List Value} (h : OwnV w base v l) (hb : Below w.heap.size w w') : OwnV w' base v l :=
  ⟨h.1.kept (row := none) ⟨hb.os, hb.tape, hb.output, hb.size, fun k hk _ => hb.block k hk⟩ (by cases v.ownBlock <;> simp), h.2⟩
theorem OwnV.lt {w : World} {base : Nat} {v : Value} {l : List Value} (h : OwnV w base v l) : ∀ k, v.ownBlock = some k → base ≤ k ∧ k < w.heap.size := h.1.lt
theorem OwnV.lower {w : World} {base base' : Nat} {v : Value} {l : List Value} (h : OwnV w base v l) (hb : base' ≤ base) : OwnV w base' v l := by
  obtain ⟨⟨h0, h1⟩, h2⟩ := h
  refine ⟨⟨h0, ?_⟩, h2⟩
  rcases h1 with h1 | ⟨g, cap, cur, e, hg, rest⟩
  · exact .inl h1
  · exact .inr ⟨g, cap, cur, e, by omega, rest⟩
theorem OwnV.form {w : World} {base : Nat} {v : Value} {l : List Value} (h : OwnV w base v l) : ∃ A c, v = .slice A l.length c ∧ l.length ≤ c ∧ c ≤ 9223372036854775807 := by
  rcases h.1.2 with ⟨rfl, h0⟩ | ⟨g, cap, cur, rfl, _, _, hnc, hcm, _⟩
  · exact ⟨none, 0, by rw [h0], by omega, by omega⟩
  · exact ⟨_, _, rfl, hnc, by simp only [maxLen] at hcm; omega⟩
/-- append of rows onto a row of the call's own -/
theorem wpList_appV {w : World} {ops : Array Oper} {rest : List Oper} {o : Oper} {a : Act} {Q : Exit → Act → World → Prop} (hgd : o.guard = none) (s x : Operand)
    (ho : o.op = .call { callee := .builtin .append, args := #[s, x], argTypes := #[37, 37] })
    (base B : Nat) (v : Value) (l : List Value) (hs : a.eval s = v) (hown : OwnV w base v l) (A : Option Addr) (m c : Nat) (news : List Value) (hx : a.eval x = .slice A m c) (hm : m = news.length) (hr : SlV w B (.slice A news.length c) news)
    (hn : l.length + news.length ≤ 1048576) (hbase : base ≤ w.heap.size)
    (h : ∀ v' w', OwnV w' base v' (l ++ news) → w.grownBy w' v.ownBlock → (v'.ownBlock = v.ownBlock ∨ v'.ownBlock = some w.heap.size) → wpList Try.prog ops Q rest (a.put o.dst v') w') : wpList Try.prog ops Q (o :: rest) a w := by
  subst hm
  obtain ⟨i0, hi, hz0, hz1, hz2⟩ := info_parts infoInts
  refine wpList_append_G w hgd s x _ ho base 22 i0 _ 1 24 Try.underlying37 hi hz0 hz1 hz2 rfl (by decide) v l.length _ hs hown.1 A _ c _ hx (NewsAt.of_slV hr) (SlV.one hr) (by simp only [maxLen]; omega) (by omega) hbase fun v' w' h1 h2 h3 => ?_
  refine h v' w' ⟨by simpa using h1, by simp; omega, fun y hy => ?_⟩ h2 h3
  rcases List.mem_append.1 hy with hy | hy
  · exact hown.2.2 y hy
  · exact SlV.one hr y hy
/-- .. onto a slice that has just been made and holds nothing: what was there stands. -/
theorem wpList_append_freshV {w : World} {ops : Array Oper} {rest : List Oper} {o : Oper} {a : Act} {Q : Exit → Act → World → Prop} (hgd : o.guard = none) (s x : Operand)
    (ho : o.op = .call { callee := .builtin .append, args := #[s, x], argTypes := #[37, 37] })
    (g lo B : Nat) (cs : Array Value) (hs : a.eval s = .slice (some ⟨g, 0, none⟩) 0 0) (hg : Blk w g 22 cs) (hcs : cs.size = 0) (hlo : lo ≤ g) (A : Option Addr) (m c : Nat) (news : List Value) (hx : a.eval x = .slice A m c) (hm : m = news.length) (hr : SlV w B (.slice A news.length c) news) (hn2 : news.length ≤ 1048576)
    (h : ∀ v' w', OwnV w' lo v' news → Below w.heap.size w w' → wpList Try.prog ops Q rest (a.put o.dst v') w') : wpList Try.prog ops Q (o :: rest) a w := by
  subst hm
  obtain ⟨i0, hi, hz0, hz1, hz2⟩ := info_parts infoInts
  have hn := hr
  obtain ⟨_, _, _, _, _, hn, hcell⟩ := hn
  have hI := SlV.one hr
  refine wpList_plain hgd fun K hK => ?_
  by_cases hp : 0 < news.length
  · obtain ⟨hl, hnews⟩ := NewsAt.of_slV hr
    obtain ⟨b', of', eA', hc'⟩ := hnews.resolve_left (by omega)
    subst eA'
    have hadd : ∀ j, (⟨b', of', none⟩ : Addr).add j = ⟨b', of' + j, none⟩ := addr_add b' of'
    obtain ⟨v', w', hrun, hown, hgr⟩ := run_append_arg_grows (P := Try.prog) w 37 o.type 22 i0 _ 1 24 Try.underlying37 hi hz0 hz1 hz2 rfl (by decide) ⟨g, 0, none⟩ 0 0 [] (by simp) (by intro j u hj; simp at hj) ⟨b', of', none⟩ news.length c news hl (fun j u hj => by rw [hadd]; exact hc' j u hj) (by omega) (by simp only [maxLen]; omega) (by omega)
    unfold Oper.wp execOp
    simp only [ho, resolve, invoke, builtin, Sem.run_bind, Sem.run_pure, Result.andThen_ok, List.map_toArray, List.map_cons, List.map_nil, hs, hx, hrun]
    refine hK _ _ (h v' w' ?_ ⟨hgr.os, hgr.tape, hgr.output, hgr.size, fun k hk => hgr.block k hk (by simp)⟩)
    have hgl := hg.lt
    exact OwnV.lower (base := w.heap.size) ⟨by simpa using hown, hn, hI⟩ (by omega)
  · have h0 : news = [] := List.eq_nil_of_length_eq_zero (by omega)
    subst h0
    have hrun : (Builtin.append_ #[37, 37] o.type #[.slice (some ⟨g, 0, none⟩) 0 0, .slice A 0 c]).run Try.prog w = .ok (.slice (some ⟨g, 0, none⟩) 0 0) w := by
      cases A <;> simp [Builtin.append_, run_underlying (P := Try.prog) Try.underlying37, sizeOf, typeInfo, hi, Builtin.lenOf, Builtin.firstCells, storeCells, loadCells, loadCellsFrom]
    simp only [List.length_nil] at hx
    unfold Oper.wp execOp
    simp only [ho, resolve, invoke, builtin, Sem.run_bind, Sem.run_pure, Result.andThen_ok, List.map_toArray, List.map_cons, List.map_nil, hs, hx, hrun]
    refine hK _ _ (h _ w ?_ (Below.refl _ _))
    have := hg.own (base := lo) (n := 0) (cap := 0) (size := 1) hlo (Nat.le_refl _) (by simp only [maxLen]; omega) (by omega)
    exact ⟨by simpa using this, by simp, by simp⟩
def FreshV (w : World) (lo : Nat) (u : Value) : Prop := ∃ g, u = .slice (some ⟨g, 0, none⟩) 0 0 ∧ lo ≤ g ∧ Blk w g 22 #[]
theorem FreshV.below {w w' : World} {lo : Nat} {u : Value} (h : FreshV w lo u) (hb : Below w.heap.size w w') : FreshV w' lo u := by
  obtain ⟨g, e, h1, h2⟩ := h
  exact ⟨g, e, h1, h2.call hb⟩
theorem FreshV.new (w : World) {lo : Nat} (h : lo ≤ w.heap.size) : FreshV (w.alloc (.cells #[] 22)) lo (.slice (some ⟨w.heap.size, 0, none⟩) 0 0) := ⟨_, rfl, h, Blk.new _ _ _⟩
/-- the one-cell block that 'append(out, row)' lays first -/
theorem SlV.new (w : World) (t : TypeId) (x : Value) (hx : x.oneCell' = true) : SlV (w.alloc (.cells #[x] t)) (w.alloc (.cells #[x] t)).heap.size (.slice (some ⟨w.heap.size, 0, none⟩) 1 1) [x] := by
  refine ⟨_, 1, rfl, by simp, by omega, by simp, fun _ => ⟨w.heap.size, 0, rfl, by simp, fun j y hj => ?_⟩⟩
  match j, hj with
  | 0, hj =>
    simp at hj
    subst hj
    exact ⟨by simp, hx⟩
  | j + 1, hj => simp at hj
theorem SlI.oneC {w : World} {B : Nat} {v : Value} {l : List Int} (h : SlI w B v l) : v.oneCell' = true := by
  obtain ⟨A, c, rfl, _⟩ := h; rfl
theorem SlV.ii {w : World} {B : Nat} {v : Value} {vs : List Value} {ll : List (List Int)} (h : SlV w B v vs) (hl : vs.length = ll.length) (hr : ∀ (j : Nat) (u : Value) (l : List Int), vs[j]? = some u → ll[j]? = some l → SlI w B u l) : SlII w B v ll := by
  obtain ⟨A, c, rfl, h1, h2, h3, h4⟩ := h
  refine ⟨A, c, by rw [hl], by omega, h2, by omega, fun hp => ?_⟩
  obtain ⟨b, o, e, hb, hc⟩ := h4 (by omega)
  refine ⟨b, o, e, hb, fun j l hj => ?_⟩
  have hlt := lt_of_some hj
  have hv : vs[j]? = some (vs[j]'(by omega)) := List.getElem?_eq_getElem (by omega)
  exact ⟨_, (hc j _ hv).1, hr j _ l hv hj⟩
end Go.Proofs.Ytkhkamcmlhmpiaa

/- IsConnectedQuiver: plain part; the reference's. -/
namespace Go.Proofs.Ytkhkamcmlhmpiaa
set_option linter.unusedVariables false
set_option linter.unusedSimpArgs false
open Go.RowKit

def cnP (x a b : Int) (s : List Int) : List Int := if a = x ∧ b ∉ s then s ++ [b] else s
def cnA (x : Int) (s : List Int) (p : Int × Int) : List Int := cnP x p.2 p.1 (cnP x p.1 p.2 s)
def cnR (q : Qv) (x : Int) (s : List Int) (k : Nat) : List Int := ((q.f.zip q.t).take k).foldl (cnA x) s
def cnG (q : Qv) : Nat → List Int → Nat → List Int
  | 0, s, _ => s
  | n + 1, s, k => if k < s.length then cnG q n (cnR q (s.getD k 0) s q.f.length) (k + 1) else s
def conQ (q : Qv) : Bool := isQ q && decide (((cnG q 6 [0] 0).length : Int) = q.v)
structure cnOkS (q : Qv) (s : List Int) : Prop where
  nd : s.Nodup
  rng : ∀ x ∈ s, 0 ≤ x ∧ x ≤ q.v - 1
theorem cnOkS.len {q : Qv} {s : List Int} (h : cnOkS q s) (hv : q.v ≤ 5) : s.length ≤ 5 := by
  have := nodup_sub s [0, 1, 2, 3, 4] h.nd fun x hx => by
    have := h.rng x hx
    have : x = 0 ∨ x = 1 ∨ x = 2 ∨ x = 3 ∨ x = 4 := by omega
    rcases this with rfl | rfl | rfl | rfl | rfl <;> simp
  simpa using this
theorem cnOkS.add {q : Qv} {s : List Int} (h : cnOkS q s) {b : Int} (hb : 0 ≤ b ∧ b ≤ q.v - 1) (hn : b ∉ s) : cnOkS q (s ++ [b]) := by
  refine ⟨?_, fun x hx => ?_⟩
  · rw [List.nodup_append]
    refine ⟨h.nd, by simp, fun x hx y hy => ?_⟩
    rw [List.mem_singleton] at hy
    subst hy
    rintro rfl
    exact hn hx
  · rcases List.mem_append.1 hx with hx | hx
    · exact h.rng x hx
    · rw [List.mem_singleton] at hx; subst hx; exact hb
theorem cnP_ok {q : Qv} {x a b : Int} {s : List Int} (h : cnOkS q s) (hb : 0 ≤ b ∧ b ≤ q.v - 1) : cnOkS q (cnP x a b s) := by
  unfold cnP
  split
  · rename_i h2; exact h.add hb h2.2
  · exact h
theorem cnP_ge (x a b : Int) (s : List Int) : s.length ≤ (cnP x a b s).length := by
  unfold cnP; split <;> simp
theorem cnP_get {x a b : Int} {s : List Int} {k : Nat} {y : Int} (h : s[k]? = some y) : (cnP x a b s)[k]? = some y := by
  unfold cnP
  split
  · rw [List.getElem?_append_left (lt_of_some h)]; exact h
  · exact h
theorem cnR_succ {q : Qv} {x a b : Int} {s : List Int} {k : Nat} (hf : q.f[k]? = some a) (ht : q.t[k]? = some b) : cnR q x s (k + 1) = cnP x b a (cnP x a b (cnR q x s k)) := by
  have e : (q.f.zip q.t)[k]? = some (a, b) := by rw [List.getElem?_zip_eq_some]; exact ⟨hf, ht⟩
  rw [cnR, take_snoc e, List.foldl_append]
  rfl
theorem cnR_0 (q : Qv) (x : Int) (s : List Int) : cnR q x s 0 = s := rfl
theorem cnOk_one {q : Qv} (hv : 1 ≤ q.v) : cnOkS q [0] := ⟨by simp, fun x hx => by simp at hx; subst hx; omega⟩
theorem cnG_step {q : Qv} {n k : Nat} {s : List Int} {x : Int} (h : s[k]? = some x) : cnG q (n + 1) s k = cnG q n (cnR q x s q.f.length) (k + 1) := by
  rw [cnG, if_pos (lt_of_some h), List.getD_eq_getElem?_getD, h]; rfl
theorem cnG_end {q : Qv} {n k : Nat} {s : List Int} (h : s.length ≤ k) : cnG q n s k = s := by
  cases n with
  | zero => rfl
  | succ n => rw [cnG, if_neg (by omega)]
theorem cnA_fold_ok {q : Qv} {x : Int} : ∀ (l : List (Int × Int)) (s : List Int), (∀ p ∈ l, (0 ≤ p.1 ∧ p.1 ≤ q.v - 1) ∧ 0 ≤ p.2 ∧ p.2 ≤ q.v - 1) → cnOkS q s → cnOkS q (l.foldl (cnA x) s)
  | [], _, _, h => h
  | p :: l, s, hp, h => by
    rw [List.foldl_cons]
    have h1 := hp p (by simp)
    exact cnA_fold_ok l _ (fun p' hp' => hp p' (by simp [hp'])) (cnP_ok (cnP_ok h h1.2) h1.1)
theorem cnA_fold_get {x y : Int} {k : Nat} : ∀ (l : List (Int × Int)) (s : List Int), s[k]? = some y → (l.foldl (cnA x) s)[k]? = some y
  | [], _, h => h
  | p :: l, s, h => by
    rw [List.foldl_cons]
    exact cnA_fold_get l _ (cnP_get (cnP_get h))
theorem cnR_ok {q : Qv} (hq : isQ q = true) {x : Int} {s : List Int} (h : cnOkS q s) (j : Nat) : cnOkS q (cnR q x s j) := by
  obtain ⟨hv, hl, h6, hfr, htr⟩ := isQ_t.1 hq
  refine cnA_fold_ok _ _ (fun p hp => ?_) h
  have := List.of_mem_zip (a := p.1) (b := p.2) (List.mem_of_mem_take hp)
  exact ⟨hfr _ this.1, htr _ this.2⟩
theorem cnR_get {q : Qv} {x y : Int} {s : List Int} {k j : Nat} (h : s[k]? = some y) : (cnR q x s j)[k]? = some y := cnA_fold_get _ _ h
theorem cnP_yes {x b : Int} {s : List Int} (h : b ∉ s) : cnP x x b s = s ++ [b] := by rw [cnP, if_pos ⟨rfl, h⟩]
theorem cnP_mem {x a b : Int} {s : List Int} (h : b ∈ s) : cnP x a b s = s := by rw [cnP, if_neg (fun h' => h'.2 h)]
theorem cnP_ne {x a b : Int} {s : List Int} (h : a ≠ x) : cnP x a b s = s := by rw [cnP, if_neg (fun h' => h h'.1)]
set_option maxRecDepth 100000 in
set_option maxHeartbeats 6400000 in
theorem specConnected_any (u : Value) (q : Qv) (w : World) (hu : QvR w w.heap.size u q) :
    Calls Try.prog 60 #[u] w fun e w' => e = .returned (.bool (conQ q)) ∧ Below w.heap.size w w' := by
  have hu' := hu
  obtain ⟨A, c, C, d, rfl, hf, ht, hr, lf, lt⟩ := hu.open_
  clear hu
  obtain ⟨W, hW⟩ : ∃ W, W = (w.alloc (.cells #[.int .i64 q.v, .slice A q.f.length c, .slice C q.t.length d] 28)).alloc (.cells #[.int .i64 0] 3) := ⟨_, rfl⟩
  have kB : Blk W w.heap.size 28 #[.int .i64 q.v, .slice A q.f.length c, .slice C q.t.length d] := by rw [hW]; exact (Blk.new _ _ _).alloc _
  have g0 : Below w.heap.size w W := by rw [hW]; exact ((Below.refl _ _).alloc (Nat.le_refl _) _).alloc (by simp) _
  have ho0 : OwnI W w.heap.size (.slice (some ⟨w.heap.size + 1, 0, none⟩) 1 1) [0] := by
    rw [hW]
    have := OwnI.newBlk (w := w.alloc (.cells #[.int .i64 q.v, .slice A q.f.length c, .slice C q.t.length d] 28)) (base := w.heap.size) (N := 1) (cs := #[.int .i64 0]) (l := [0]) (by simp) (by omega) rfl rfl (fun x hx => by simp at hx; subst hx; exact ⟨by omega, by omega⟩)
    simpa only [World.size_alloc] using this
  have hqW : QvR W W.heap.size (.agg #[.int .i64 q.v, .slice A q.f.length c, .slice C q.t.length d]) q := QvR.next g0 hu'
  rcases hq : isQ q with _ | _
  · have HC : Hid (conQ q = false) := by show _ = _; rw [conQ, hq]; rfl
    have HQ := Lib.hid hq
    have c0 := kB.cell' (i := 0) rfl
    have c1 := kB.cell' (i := 1) rfl
    have c2 := kB.cell' (i := 2) rfl
    clear hq hu' hf ht
    go_enter Try.func60, Try.ntmps60
    go_wp2_with fail
    rw [← hW]; clear hW
    refine wp_loop_rounds 1 ?_
    rw [rounds_succ]
    go_wp2_with fail
    refine (specIsQuiver_any _ q _ hqW).mono ?_; rintro e w1 ⟨rfl, hb1⟩
    rw [HQ.out]
    have hq1 := QvR.next hb1 hqW
    have kB1 := kB.call hb1
    clear c0 c1 c2
    have c0 := kB1.cell' (i := 0) rfl
    have c1 := kB1.cell' (i := 1) rfl
    have c2 := kB1.cell' (i := 2) rfl
    go_wp2_with fail
    refine (specIsQuiver_any _ q _ hq1).mono ?_; rintro e w2 ⟨rfl, hb2⟩
    rw [HQ.out]
    go_wp2
    go_ret
    exact ⟨by rw [HC.out]; rfl, bthen (bthen g0 hb1) hb2⟩
  · have HQ := Lib.hid hq
    have hq0 := hq
    obtain ⟨hv, hl, h6, hfr, htr⟩ := isQ_t.1 hq
    have HL := Lib.hid hl
    have HU := Lib.hid hu'
    clear hq hl hqW
    go_enter Try.func60, Try.ntmps60
    go_wp2
    rw [← hW]; clear hW
    go_loopw [3, 4] (fun vs vi wr => ∃ (k : Nat) (s : List Int), k ≤ s.length ∧ vi = .int .i64 k ∧ OwnI wr w.heap.size vs s ∧ Below w.heap.size w wr ∧ Blk wr w.heap.size 28 #[.int .i64 q.v, .slice A q.f.length c, .slice C q.t.length d] ∧ Hid (cnOkS q s ∧ cnG q (6 - k) s k = cnG q 6 [0] 0)) (fun _ vi _ => 6 - (intOf vi).toNat)
    case atStart => exact ⟨0, [0], by simp, rfl, ho0, g0, kB, ⟨cnOk_one hv.1, rfl⟩⟩
    case round =>
      clear ho0 g0 kB
      obtain ⟨k, s, hk, rfl, ho, hb, hkB, HO⟩ := hrel
      have hs5 := HO.out.1.len hv.2
      obtain ⟨SA, sc, hve, _, _⟩ := ho.form
      subst hve
      have c0 := hkB.cell' (i := 0) rfl
      have c1 := hkB.cell' (i := 1) rfl
      have c2 := hkB.cell' (i := 2) rfl
      by_cases hlt : k < s.length
      · go_wp2_with fail
        refine (specIsQuiver_any _ q _ (QvR.more hb.size (QvR.below hb HU.out))).mono ?_; rintro e w1 ⟨rfl, hb1⟩
        rw [HQ.out]
        have ho1 := ho.below hb1
        have hB1 := hb.trans (hb1.mono hb.size)
        have k1 := hkB.call hb1
        have hx : s[k]? = some s[k] := List.getElem?_eq_getElem hlt
        obtain ⟨xS, hxe⟩ : ∃ x, s[k] = x := ⟨_, rfl⟩
        rw [hxe] at hx
        have HX := Lib.hid hx
        clear c0 c1 c2 ho hb hkB hb1 hx hxe
        go_wp2
        go_loopw [3, 5] (fun vs vj wr => ∃ j : Nat, j ≤ q.f.length ∧ vj = .int .i64 j ∧ OwnI wr w.heap.size vs (cnR q xS s j) ∧ Below w.heap.size w wr ∧ Blk wr w.heap.size 28 #[.int .i64 q.v, .slice A q.f.length c, .slice C q.t.length d]) (fun _ vj _ => q.f.length - (intOf vj).toNat)
        case atStart => exact ⟨0, Nat.zero_le _, rfl, by rw [cnR_0]; exact ho1, hB1, k1⟩
        case round =>
          clear ho1 hB1 k1
          obtain ⟨j, hj, rfl, o0, b0, k0⟩ := hrel
          obtain ⟨z0, hz0⟩ : ∃ z, z = wr := ⟨_, rfl⟩
          subst hz0
          have c1 := k0.cell' (i := 1) rfl
          by_cases hlt2 : j < q.f.length
          · obtain ⟨bF, oF, a, rfl, hbF, HF, cF, _⟩ := SlI.at_ hf hlt2
            have hlt3 : j < q.t.length := by have := HL.out; omega
            obtain ⟨bT, oT, b, rfl, hbT, HT, cT, _⟩ := SlI.at_ ht hlt3
            have ra := hfr a (List.mem_of_getElem? HF.out)
            have rb := htr b (List.mem_of_getElem? HT.out)
            have HZ0 : Hid (cnOkS q (cnR q xS s j) ∧ (cnR q xS s j)[k]? = some xS) := ⟨cnR_ok hq0 HO.out.1 j, cnR_get HX.out⟩
            obtain ⟨S0, hS0⟩ : ∃ z, cnR q xS s j = z := ⟨_, rfl⟩
            rw [hS0] at o0 HZ0
            have HS0 := Lib.hid hS0
            clear hS0 hf ht
            obtain ⟨SA0, sc0, hv0, _, _⟩ := o0.form
            subst hv0
            have rd0 := o0.rd
            obtain ⟨bS, oS, xT, hSA, hbS, HXS, cS, hxr1, hxr2⟩ := SlI.at_ (k := k) rd0 (lt_of_some HZ0.out.2)
            obtain rfl : xS = xT := by have := HXS.out; rw [HZ0.out.2] at this; injection this
            subst hSA
            clear HXS
            have qq1 := InB.cell k0.lt (k0.cell' (i := 1) rfl)
            have qq2 := InB.cell k0.lt (k0.cell' (i := 2) rfl)
            have qqf := InB.cell (Nat.lt_of_lt_of_le hbF b0.size) (bcell b0 hbF cF)
            have qqt := InB.cell (Nat.lt_of_lt_of_le hbT b0.size) (bcell b0 hbT cT)
            have qqs := InB.cell hbS cS
            have hkl0 := lt_of_some HZ0.out.2
            by_cases hax : a = xS
            · have HAX := Lib.hid hax
              have hax2 : (a == xS) = true := by simpa using hax
              clear hax
              rcases hd : decide (b ∈ S0) with _ | _
              · have CL : Hid (∀ t : InB z0, Calls Try.prog 107 #[.slice (some ⟨bS, oS, none⟩) S0.length sc0, .int .i64 b] t.val fun e w' => e = .returned (.bool false) ∧ Below t.val.heap.size t.val w') := by
                  intro t
                  have := l4Has_any _ S0 b t.val (SlI.next t.below rd0)
                  rwa [hd] at this
                have HD := Lib.hid hd
                clear hd
                go_wp2_with fail
                (refine wp_region_inB (by kernel_rfl) (by kernel_rfl) ?_; (repeat (go_big_quiet_step ((go_at_call 107; exact InB.call (CL.out _))))); refine wpQuiet_nil ?_; intro w1 hw'; obtain ⟨s1, hw1⟩ := hw'; have hb1 := s1.below; rw [← hw1] at hb1; clear hw1 s1)
                clear qq1 qq2 qqf qqt qqs CL
                have o1 := o0.below hb1
                have b1 := b0.trans (hb1.mono b0.size)
                have k1 := k0.call hb1
                have e1 := (k1.alloc (.cells #[.int .i64 b] 3)).cell' (i := 1) rfl
                have e1' := k1.cell' (i := 1) rfl
                have e2' := k1.cell' (i := 2) rfl
                have cF' := bcell b1 hbF cF
                have cT' := bcell b1 hbT cT
                have hko := o1.alloc (.cells #[.int .i64 b] 3)
                have hkb := k1.alloc (.cells #[.int .i64 b] 3)
                have hbb := b1.alloc b1.size (.cells #[.int .i64 b] 3)
                have hsz := HZ0.out.1.len hv.2
                clear e1
                (go_wp2_with (at_builtin; refine Hold.stop ?_)); unfold Hold
                refine wpList_appI rfl (.tmp 44) (.tmp 50) rfl w.heap.size _ (.slice (some ⟨bS, oS, none⟩) S0.length sc0) S0 rfl hko _ _ _ [b] rfl rfl (SlI.one w1 _ b ⟨by omega, by omega⟩) (by simp only [List.length_singleton]; omega) (by have := b1.size; simp; omega) ?_
                intro vn z1 on hg1 hv1
                have kn := hkb.grown hg1 (hko.blkne hkb (by decide))
                have bn := hbb.grown hg1 (by have := b1.size; simp; omega) (fun j hj => (hko.lt j hj).1)
                clear hko hkb hbb hg1 hv1 e1' e2' cF' cT' o1 b1 k1
                have hnm : b ∉ S0 := of_decide_eq_false HD.out
                have HS1 := Lib.hid (show S0 ++ [b] = cnP xS a b S0 by rw [HAX.out, cnP_yes hnm])
                have HZ1 : Hid (cnOkS q (S0 ++ [b]) ∧ (S0 ++ [b])[k]? = some xS) := ⟨HZ0.out.1.add rb hnm, by rw [List.getElem?_append_left (lt_of_some HZ0.out.2)]; exact HZ0.out.2⟩
                obtain ⟨S1, hSn⟩ : ∃ z, S0 ++ [b] = z := ⟨_, rfl⟩
                rw [hSn] at on HS1 HZ1
                clear hSn
                have o1 := on
                have b1 := bn
                have k1 := kn
                clear on bn kn
                clear cS hbS hxr1 hxr2 rd0 hkl0
                obtain ⟨SA1, sc1, hv1, _, _⟩ := o1.form
                subst hv1
                have rd1 := o1.rd
                obtain ⟨bS, oS, xT, hSA, hbS, HXS, cS, hxr1, hxr2⟩ := SlI.at_ (k := k) rd1 (lt_of_some HZ1.out.2)
                obtain rfl : xS = xT := by have := HXS.out; rw [HZ1.out.2] at this; injection this
                subst hSA
                clear HXS
                have qq1 := InB.cell k1.lt (k1.cell' (i := 1) rfl)
                have qq2 := InB.cell k1.lt (k1.cell' (i := 2) rfl)
                have qqf := InB.cell (Nat.lt_of_lt_of_le hbF b1.size) (bcell b1 hbF cF)
                have qqt := InB.cell (Nat.lt_of_lt_of_le hbT b1.size) (bcell b1 hbT cT)
                have qqs := InB.cell hbS cS
                have hkl1 := lt_of_some HZ1.out.2
                by_cases hax : b = xS
                · have HAX := Lib.hid hax
                  have hax2 : (b == xS) = true := by simpa using hax
                  clear hax
                  rcases hd : decide (a ∈ S1) with _ | _
                  · have CL : Hid (∀ t : InB z1, Calls Try.prog 107 #[.slice (some ⟨bS, oS, none⟩) S1.length sc1, .int .i64 a] t.val fun e w' => e = .returned (.bool false) ∧ Below t.val.heap.size t.val w') := by
                      intro t
                      have := l4Has_any _ S1 a t.val (SlI.next t.below rd1)
                      rwa [hd] at this
                    have HD := Lib.hid hd
                    clear hd
                    go_wp2_with fail
                    (refine wp_region_inB (by kernel_rfl) (by kernel_rfl) ?_; (repeat (go_big_quiet_step ((go_at_call 107; exact InB.call (CL.out _))))); refine wpQuiet_nil ?_; intro w1 hw'; obtain ⟨s1, hw1⟩ := hw'; have hb1 := s1.below; rw [← hw1] at hb1; clear hw1 s1)
                    clear qq1 qq2 qqf qqt qqs CL
                    have o2 := o1.below hb1
                    have b2 := b1.trans (hb1.mono b1.size)
                    have k2 := k1.call hb1
                    have e1 := (k2.alloc (.cells #[.int .i64 a] 3)).cell' (i := 1) rfl
                    have e1' := k2.cell' (i := 1) rfl
                    have e2' := k2.cell' (i := 2) rfl
                    have cF' := bcell b2 hbF cF
                    have cT' := bcell b2 hbT cT
                    have hko := o2.alloc (.cells #[.int .i64 a] 3)
                    have hkb := k2.alloc (.cells #[.int .i64 a] 3)
                    have hbb := b2.alloc b2.size (.cells #[.int .i64 a] 3)
                    have hsz := HZ1.out.1.len hv.2
                    clear e1
                    (go_wp2_with (at_builtin; refine Hold.stop ?_)); unfold Hold
                    refine wpList_appI rfl (.tmp 72) (.tmp 78) rfl w.heap.size _ (.slice (some ⟨bS, oS, none⟩) S1.length sc1) S1 rfl hko _ _ _ [a] rfl rfl (SlI.one w1 _ a ⟨by omega, by omega⟩) (by simp only [List.length_singleton]; omega) (by have := b2.size; simp; omega) ?_
                    intro vn z2 on hg1 hv1
                    have kn := hkb.grown hg1 (hko.blkne hkb (by decide))
                    have bn := hbb.grown hg1 (by have := b2.size; simp; omega) (fun j hj => (hko.lt j hj).1)
                    clear hko hkb hbb hg1 hv1 e1' e2' cF' cT' o2 b2 k2
                    have hnm : a ∉ S1 := of_decide_eq_false HD.out
                    have HS2 := Lib.hid (show S1 ++ [a] = cnP xS b a S1 by rw [HAX.out, cnP_yes hnm])
                    have HZ2 : Hid (cnOkS q (S1 ++ [a]) ∧ (S1 ++ [a])[k]? = some xS) := ⟨HZ1.out.1.add ra hnm, by rw [List.getElem?_append_left (lt_of_some HZ1.out.2)]; exact HZ1.out.2⟩
                    obtain ⟨S2, hSn⟩ : ∃ z, S1 ++ [a] = z := ⟨_, rfl⟩
                    rw [hSn] at on HS2 HZ2
                    clear hSn
                    have o2 := on
                    have b2 := bn
                    have k2 := kn
                    clear on bn kn
                    obtain ⟨SA2, sc2, hv2, _, _⟩ := o2.form
                    subst hv2
                    have HR : Hid (cnR q xS s (j + 1) = S2) := by show _ = _; rw [cnR_succ HF.out HT.out, HS0.out, ← HS1.out, ← HS2.out]
                    go_wp2
                    go_roundw
                    case rel => exact ⟨j + 1, by omega, by go_num, by rw [HR.out]; exact o2, b2, k2⟩
                    case measure => simp [intOf]; omega

                  · have CL : Hid (∀ t : InB z1, Calls Try.prog 107 #[.slice (some ⟨bS, oS, none⟩) S1.length sc1, .int .i64 a] t.val fun e w' => e = .returned (.bool true) ∧ Below t.val.heap.size t.val w') := by
                      intro t
                      have := l4Has_any _ S1 a t.val (SlI.next t.below rd1)
                      rwa [hd] at this
                    have HD := Lib.hid hd
                    clear hd
                    go_wp2_with fail
                    (refine wp_region_inB (by kernel_rfl) (by kernel_rfl) ?_; (repeat (go_big_quiet_step ((go_at_call 107; exact InB.call (CL.out _))))); refine wpQuiet_nil ?_; intro w1 hw'; obtain ⟨s1, hw1⟩ := hw'; have hb1 := s1.below; rw [← hw1] at hb1; clear hw1 s1)
                    clear qq1 qq2 qqf qqt qqs CL
                    have o2 := o1.below hb1
                    have b2 := b1.trans (hb1.mono b1.size)
                    have k2 := k1.call hb1
                    have HS2 := Lib.hid (show S1 = cnP xS b a S1 by rw [cnP_mem (of_decide_eq_true HD.out)])
                    have HZ2 := HZ1
                    obtain ⟨S2, hSn⟩ : ∃ z, z = S1 := ⟨_, rfl⟩
                    try rw [← hSn] at HS0
                    try rw [← hSn] at HS1
                    rw [← hSn] at o2 HS2 HZ2 ⊢
                    clear hSn
                    obtain ⟨z2, hzn⟩ : ∃ z, z = w1 := ⟨_, rfl⟩
                    subst hzn
                    have HR : Hid (cnR q xS s (j + 1) = S2) := by show _ = _; rw [cnR_succ HF.out HT.out, HS0.out, ← HS1.out, ← HS2.out]
                    go_wp2
                    go_roundw
                    case rel => exact ⟨j + 1, by omega, by go_num, by rw [HR.out]; exact o2, b2, k2⟩
                    case measure => simp [intOf]; omega


                · have HAX := Lib.hid hax
                  have hax2 : (b == xS) = false := by simpa using hax
                  clear hax
                  go_wp2_with fail
                  (refine wp_region_inB (by kernel_rfl) (by kernel_rfl) ?_; (repeat (go_big_quiet_step (fail))); refine wpQuiet_nil ?_; intro w1 hw'; obtain ⟨s1, hw1⟩ := hw'; have hb1 := s1.below; rw [← hw1] at hb1; clear hw1 s1)
                  clear qq1 qq2 qqf qqt qqs
                  have o2 := o1.below hb1
                  have b2 := b1.trans (hb1.mono b1.size)
                  have k2 := k1.call hb1
                  have HS2 := Lib.hid (show S1 = cnP xS b a S1 by rw [cnP_ne HAX.out])
                  have HZ2 := HZ1
                  obtain ⟨S2, hSn⟩ : ∃ z, z = S1 := ⟨_, rfl⟩
                  try rw [← hSn] at HS0
                  try rw [← hSn] at HS1
                  rw [← hSn] at o2 HS2 HZ2 ⊢
                  clear hSn
                  obtain ⟨z2, hzn⟩ : ∃ z, z = w1 := ⟨_, rfl⟩
                  subst hzn
                  have HR : Hid (cnR q xS s (j + 1) = S2) := by show _ = _; rw [cnR_succ HF.out HT.out, HS0.out, ← HS1.out, ← HS2.out]
                  go_wp2
                  go_roundw
                  case rel => exact ⟨j + 1, by omega, by go_num, by rw [HR.out]; exact o2, b2, k2⟩
                  case measure => simp [intOf]; omega

              · have CL : Hid (∀ t : InB z0, Calls Try.prog 107 #[.slice (some ⟨bS, oS, none⟩) S0.length sc0, .int .i64 b] t.val fun e w' => e = .returned (.bool true) ∧ Below t.val.heap.size t.val w') := by
                  intro t
                  have := l4Has_any _ S0 b t.val (SlI.next t.below rd0)
                  rwa [hd] at this
                have HD := Lib.hid hd
                clear hd
                go_wp2_with fail
                (refine wp_region_inB (by kernel_rfl) (by kernel_rfl) ?_; (repeat (go_big_quiet_step ((go_at_call 107; exact InB.call (CL.out _))))); refine wpQuiet_nil ?_; intro w1 hw'; obtain ⟨s1, hw1⟩ := hw'; have hb1 := s1.below; rw [← hw1] at hb1; clear hw1 s1)
                clear qq1 qq2 qqf qqt qqs CL
                have o1 := o0.below hb1
                have b1 := b0.trans (hb1.mono b0.size)
                have k1 := k0.call hb1
                have HS1 := Lib.hid (show S0 = cnP xS a b S0 by rw [cnP_mem (of_decide_eq_true HD.out)])
                have HZ1 := HZ0
                obtain ⟨S1, hSn⟩ : ∃ z, z = S0 := ⟨_, rfl⟩
                try rw [← hSn] at HS0
                try rw [← hSn] at HS0
                rw [← hSn] at o1 HS1 HZ1 ⊢
                clear hSn
                obtain ⟨z1, hzn⟩ : ∃ z, z = w1 := ⟨_, rfl⟩
                subst hzn
                clear cS hbS hxr1 hxr2 rd0 hkl0
                have rd1 := o1.rd
                obtain ⟨bS2, oS2, xT, hSA, hbS, HXS, cS, hxr1, hxr2⟩ := SlI.at_ (k := k) rd1 (lt_of_some HZ1.out.2)
                injection hSA with hSA
                injection hSA with hSA1 hSA2 _
                subst hSA1 hSA2
                obtain rfl : xS = xT := by have := HXS.out; rw [HZ1.out.2] at this; injection this
                clear HXS
                have qq1 := InB.cell k1.lt (k1.cell' (i := 1) rfl)
                have qq2 := InB.cell k1.lt (k1.cell' (i := 2) rfl)
                have qqf := InB.cell (Nat.lt_of_lt_of_le hbF b1.size) (bcell b1 hbF cF)
                have qqt := InB.cell (Nat.lt_of_lt_of_le hbT b1.size) (bcell b1 hbT cT)
                have qqs := InB.cell hbS cS
                have hkl1 := lt_of_some HZ1.out.2
                by_cases hax : b = xS
                · have HAX := Lib.hid hax
                  have hax2 : (b == xS) = true := by simpa using hax
                  clear hax
                  rcases hd : decide (a ∈ S1) with _ | _
                  · have CL : Hid (∀ t : InB z1, Calls Try.prog 107 #[.slice (some ⟨bS, oS, none⟩) S1.length sc0, .int .i64 a] t.val fun e w' => e = .returned (.bool false) ∧ Below t.val.heap.size t.val w') := by
                      intro t
                      have := l4Has_any _ S1 a t.val (SlI.next t.below rd1)
                      rwa [hd] at this
                    have HD := Lib.hid hd
                    clear hd
                    go_wp2_with fail
                    (refine wp_region_inB (by kernel_rfl) (by kernel_rfl) ?_; (repeat (go_big_quiet_step ((go_at_call 107; exact InB.call (CL.out _))))); refine wpQuiet_nil ?_; intro w1 hw'; obtain ⟨s1, hw1⟩ := hw'; have hb1 := s1.below; rw [← hw1] at hb1; clear hw1 s1)
                    clear qq1 qq2 qqf qqt qqs CL
                    have o2 := o1.below hb1
                    have b2 := b1.trans (hb1.mono b1.size)
                    have k2 := k1.call hb1
                    have e1 := (k2.alloc (.cells #[.int .i64 a] 3)).cell' (i := 1) rfl
                    have e1' := k2.cell' (i := 1) rfl
                    have e2' := k2.cell' (i := 2) rfl
                    have cF' := bcell b2 hbF cF
                    have cT' := bcell b2 hbT cT
                    have hko := o2.alloc (.cells #[.int .i64 a] 3)
                    have hkb := k2.alloc (.cells #[.int .i64 a] 3)
                    have hbb := b2.alloc b2.size (.cells #[.int .i64 a] 3)
                    have hsz := HZ1.out.1.len hv.2
                    clear e1
                    (go_wp2_with (at_builtin; refine Hold.stop ?_)); unfold Hold
                    refine wpList_appI rfl (.tmp 72) (.tmp 78) rfl w.heap.size _ (.slice (some ⟨bS, oS, none⟩) S1.length sc0) S1 rfl hko _ _ _ [a] rfl rfl (SlI.one w1 _ a ⟨by omega, by omega⟩) (by simp only [List.length_singleton]; omega) (by have := b2.size; simp; omega) ?_
                    intro vn z2 on hg1 hv1
                    have kn := hkb.grown hg1 (hko.blkne hkb (by decide))
                    have bn := hbb.grown hg1 (by have := b2.size; simp; omega) (fun j hj => (hko.lt j hj).1)
                    clear hko hkb hbb hg1 hv1 e1' e2' cF' cT' o2 b2 k2
                    have hnm : a ∉ S1 := of_decide_eq_false HD.out
                    have HS2 := Lib.hid (show S1 ++ [a] = cnP xS b a S1 by rw [HAX.out, cnP_yes hnm])
                    have HZ2 : Hid (cnOkS q (S1 ++ [a]) ∧ (S1 ++ [a])[k]? = some xS) := ⟨HZ1.out.1.add ra hnm, by rw [List.getElem?_append_left (lt_of_some HZ1.out.2)]; exact HZ1.out.2⟩
                    obtain ⟨S2, hSn⟩ : ∃ z, S1 ++ [a] = z := ⟨_, rfl⟩
                    rw [hSn] at on HS2 HZ2
                    clear hSn
                    have o2 := on
                    have b2 := bn
                    have k2 := kn
                    clear on bn kn
                    obtain ⟨SA2, sc2, hv2, _, _⟩ := o2.form
                    subst hv2
                    have HR : Hid (cnR q xS s (j + 1) = S2) := by show _ = _; rw [cnR_succ HF.out HT.out, HS0.out, ← HS1.out, ← HS2.out]
                    go_wp2
                    go_roundw
                    case rel => exact ⟨j + 1, by omega, by go_num, by rw [HR.out]; exact o2, b2, k2⟩
                    case measure => simp [intOf]; omega

                  · have CL : Hid (∀ t : InB z1, Calls Try.prog 107 #[.slice (some ⟨bS, oS, none⟩) S1.length sc0, .int .i64 a] t.val fun e w' => e = .returned (.bool true) ∧ Below t.val.heap.size t.val w') := by
                      intro t
                      have := l4Has_any _ S1 a t.val (SlI.next t.below rd1)
                      rwa [hd] at this
                    have HD := Lib.hid hd
                    clear hd
                    go_wp2_with fail
                    (refine wp_region_inB (by kernel_rfl) (by kernel_rfl) ?_; (repeat (go_big_quiet_step ((go_at_call 107; exact InB.call (CL.out _))))); refine wpQuiet_nil ?_; intro w1 hw'; obtain ⟨s1, hw1⟩ := hw'; have hb1 := s1.below; rw [← hw1] at hb1; clear hw1 s1)
                    clear qq1 qq2 qqf qqt qqs CL
                    have o2 := o1.below hb1
                    have b2 := b1.trans (hb1.mono b1.size)
                    have k2 := k1.call hb1
                    have HS2 := Lib.hid (show S1 = cnP xS b a S1 by rw [cnP_mem (of_decide_eq_true HD.out)])
                    have HZ2 := HZ1
                    obtain ⟨S2, hSn⟩ : ∃ z, z = S1 := ⟨_, rfl⟩
                    try rw [← hSn] at HS0
                    try rw [← hSn] at HS1
                    rw [← hSn] at o2 HS2 HZ2 ⊢
                    clear hSn
                    obtain ⟨z2, hzn⟩ : ∃ z, z = w1 := ⟨_, rfl⟩
                    subst hzn
                    have HR : Hid (cnR q xS s (j + 1) = S2) := by show _ = _; rw [cnR_succ HF.out HT.out, HS0.out, ← HS1.out, ← HS2.out]
                    go_wp2
                    go_roundw
                    case rel => exact ⟨j + 1, by omega, by go_num, by rw [HR.out]; exact o2, b2, k2⟩
                    case measure => simp [intOf]; omega


                · have HAX := Lib.hid hax
                  have hax2 : (b == xS) = false := by simpa using hax
                  clear hax
                  go_wp2_with fail
                  (refine wp_region_inB (by kernel_rfl) (by kernel_rfl) ?_; (repeat (go_big_quiet_step (fail))); refine wpQuiet_nil ?_; intro w1 hw'; obtain ⟨s1, hw1⟩ := hw'; have hb1 := s1.below; rw [← hw1] at hb1; clear hw1 s1)
                  clear qq1 qq2 qqf qqt qqs
                  have o2 := o1.below hb1
                  have b2 := b1.trans (hb1.mono b1.size)
                  have k2 := k1.call hb1
                  have HS2 := Lib.hid (show S1 = cnP xS b a S1 by rw [cnP_ne HAX.out])
                  have HZ2 := HZ1
                  obtain ⟨S2, hSn⟩ : ∃ z, z = S1 := ⟨_, rfl⟩
                  try rw [← hSn] at HS0
                  try rw [← hSn] at HS1
                  rw [← hSn] at o2 HS2 HZ2 ⊢
                  clear hSn
                  obtain ⟨z2, hzn⟩ : ∃ z, z = w1 := ⟨_, rfl⟩
                  subst hzn
                  have HR : Hid (cnR q xS s (j + 1) = S2) := by show _ = _; rw [cnR_succ HF.out HT.out, HS0.out, ← HS1.out, ← HS2.out]
                  go_wp2
                  go_roundw
                  case rel => exact ⟨j + 1, by omega, by go_num, by rw [HR.out]; exact o2, b2, k2⟩
                  case measure => simp [intOf]; omega


            · have HAX := Lib.hid hax
              have hax2 : (a == xS) = false := by simpa using hax
              clear hax
              go_wp2_with fail
              (refine wp_region_inB (by kernel_rfl) (by kernel_rfl) ?_; (repeat (go_big_quiet_step (fail))); refine wpQuiet_nil ?_; intro w1 hw'; obtain ⟨s1, hw1⟩ := hw'; have hb1 := s1.below; rw [← hw1] at hb1; clear hw1 s1)
              clear qq1 qq2 qqf qqt qqs
              have o1 := o0.below hb1
              have b1 := b0.trans (hb1.mono b0.size)
              have k1 := k0.call hb1
              have HS1 := Lib.hid (show S0 = cnP xS a b S0 by rw [cnP_ne HAX.out])
              have HZ1 := HZ0
              obtain ⟨S1, hSn⟩ : ∃ z, z = S0 := ⟨_, rfl⟩
              try rw [← hSn] at HS0
              try rw [← hSn] at HS0
              rw [← hSn] at o1 HS1 HZ1 ⊢
              clear hSn
              obtain ⟨z1, hzn⟩ : ∃ z, z = w1 := ⟨_, rfl⟩
              subst hzn
              clear cS hbS hxr1 hxr2 rd0 hkl0
              have rd1 := o1.rd
              obtain ⟨bS2, oS2, xT, hSA, hbS, HXS, cS, hxr1, hxr2⟩ := SlI.at_ (k := k) rd1 (lt_of_some HZ1.out.2)
              injection hSA with hSA
              injection hSA with hSA1 hSA2 _
              subst hSA1 hSA2
              obtain rfl : xS = xT := by have := HXS.out; rw [HZ1.out.2] at this; injection this
              clear HXS
              have qq1 := InB.cell k1.lt (k1.cell' (i := 1) rfl)
              have qq2 := InB.cell k1.lt (k1.cell' (i := 2) rfl)
              have qqf := InB.cell (Nat.lt_of_lt_of_le hbF b1.size) (bcell b1 hbF cF)
              have qqt := InB.cell (Nat.lt_of_lt_of_le hbT b1.size) (bcell b1 hbT cT)
              have qqs := InB.cell hbS cS
              have hkl1 := lt_of_some HZ1.out.2
              by_cases hax : b = xS
              · have HAX := Lib.hid hax
                have hax2 : (b == xS) = true := by simpa using hax
                clear hax
                rcases hd : decide (a ∈ S1) with _ | _
                · have CL : Hid (∀ t : InB z1, Calls Try.prog 107 #[.slice (some ⟨bS, oS, none⟩) S1.length sc0, .int .i64 a] t.val fun e w' => e = .returned (.bool false) ∧ Below t.val.heap.size t.val w') := by
                    intro t
                    have := l4Has_any _ S1 a t.val (SlI.next t.below rd1)
                    rwa [hd] at this
                  have HD := Lib.hid hd
                  clear hd
                  go_wp2_with fail
                  (refine wp_region_inB (by kernel_rfl) (by kernel_rfl) ?_; (repeat (go_big_quiet_step ((go_at_call 107; exact InB.call (CL.out _))))); refine wpQuiet_nil ?_; intro w1 hw'; obtain ⟨s1, hw1⟩ := hw'; have hb1 := s1.below; rw [← hw1] at hb1; clear hw1 s1)
                  clear qq1 qq2 qqf qqt qqs CL
                  have o2 := o1.below hb1
                  have b2 := b1.trans (hb1.mono b1.size)
                  have k2 := k1.call hb1
                  have e1 := (k2.alloc (.cells #[.int .i64 a] 3)).cell' (i := 1) rfl
                  have e1' := k2.cell' (i := 1) rfl
                  have e2' := k2.cell' (i := 2) rfl
                  have cF' := bcell b2 hbF cF
                  have cT' := bcell b2 hbT cT
                  have hko := o2.alloc (.cells #[.int .i64 a] 3)
                  have hkb := k2.alloc (.cells #[.int .i64 a] 3)
                  have hbb := b2.alloc b2.size (.cells #[.int .i64 a] 3)
                  have hsz := HZ1.out.1.len hv.2
                  clear e1
                  (go_wp2_with (at_builtin; refine Hold.stop ?_)); unfold Hold
                  refine wpList_appI rfl (.tmp 72) (.tmp 78) rfl w.heap.size _ (.slice (some ⟨bS, oS, none⟩) S1.length sc0) S1 rfl hko _ _ _ [a] rfl rfl (SlI.one w1 _ a ⟨by omega, by omega⟩) (by simp only [List.length_singleton]; omega) (by have := b2.size; simp; omega) ?_
                  intro vn z2 on hg1 hv1
                  have kn := hkb.grown hg1 (hko.blkne hkb (by decide))
                  have bn := hbb.grown hg1 (by have := b2.size; simp; omega) (fun j hj => (hko.lt j hj).1)
                  clear hko hkb hbb hg1 hv1 e1' e2' cF' cT' o2 b2 k2
                  have hnm : a ∉ S1 := of_decide_eq_false HD.out
                  have HS2 := Lib.hid (show S1 ++ [a] = cnP xS b a S1 by rw [HAX.out, cnP_yes hnm])
                  have HZ2 : Hid (cnOkS q (S1 ++ [a]) ∧ (S1 ++ [a])[k]? = some xS) := ⟨HZ1.out.1.add ra hnm, by rw [List.getElem?_append_left (lt_of_some HZ1.out.2)]; exact HZ1.out.2⟩
                  obtain ⟨S2, hSn⟩ : ∃ z, S1 ++ [a] = z := ⟨_, rfl⟩
                  rw [hSn] at on HS2 HZ2
                  clear hSn
                  have o2 := on
                  have b2 := bn
                  have k2 := kn
                  clear on bn kn
                  obtain ⟨SA2, sc2, hv2, _, _⟩ := o2.form
                  subst hv2
                  have HR : Hid (cnR q xS s (j + 1) = S2) := by show _ = _; rw [cnR_succ HF.out HT.out, HS0.out, ← HS1.out, ← HS2.out]
                  go_wp2
                  go_roundw
                  case rel => exact ⟨j + 1, by omega, by go_num, by rw [HR.out]; exact o2, b2, k2⟩
                  case measure => simp [intOf]; omega

                · have CL : Hid (∀ t : InB z1, Calls Try.prog 107 #[.slice (some ⟨bS, oS, none⟩) S1.length sc0, .int .i64 a] t.val fun e w' => e = .returned (.bool true) ∧ Below t.val.heap.size t.val w') := by
                    intro t
                    have := l4Has_any _ S1 a t.val (SlI.next t.below rd1)
                    rwa [hd] at this
                  have HD := Lib.hid hd
                  clear hd
                  go_wp2_with fail
                  (refine wp_region_inB (by kernel_rfl) (by kernel_rfl) ?_; (repeat (go_big_quiet_step ((go_at_call 107; exact InB.call (CL.out _))))); refine wpQuiet_nil ?_; intro w1 hw'; obtain ⟨s1, hw1⟩ := hw'; have hb1 := s1.below; rw [← hw1] at hb1; clear hw1 s1)
                  clear qq1 qq2 qqf qqt qqs CL
                  have o2 := o1.below hb1
                  have b2 := b1.trans (hb1.mono b1.size)
                  have k2 := k1.call hb1
                  have HS2 := Lib.hid (show S1 = cnP xS b a S1 by rw [cnP_mem (of_decide_eq_true HD.out)])
                  have HZ2 := HZ1
                  obtain ⟨S2, hSn⟩ : ∃ z, z = S1 := ⟨_, rfl⟩
                  try rw [← hSn] at HS0
                  try rw [← hSn] at HS1
                  rw [← hSn] at o2 HS2 HZ2 ⊢
                  clear hSn
                  obtain ⟨z2, hzn⟩ : ∃ z, z = w1 := ⟨_, rfl⟩
                  subst hzn
                  have HR : Hid (cnR q xS s (j + 1) = S2) := by show _ = _; rw [cnR_succ HF.out HT.out, HS0.out, ← HS1.out, ← HS2.out]
                  go_wp2
                  go_roundw
                  case rel => exact ⟨j + 1, by omega, by go_num, by rw [HR.out]; exact o2, b2, k2⟩
                  case measure => simp [intOf]; omega


              · have HAX := Lib.hid hax
                have hax2 : (b == xS) = false := by simpa using hax
                clear hax
                go_wp2_with fail
                (refine wp_region_inB (by kernel_rfl) (by kernel_rfl) ?_; (repeat (go_big_quiet_step (fail))); refine wpQuiet_nil ?_; intro w1 hw'; obtain ⟨s1, hw1⟩ := hw'; have hb1 := s1.below; rw [← hw1] at hb1; clear hw1 s1)
                clear qq1 qq2 qqf qqt qqs
                have o2 := o1.below hb1
                have b2 := b1.trans (hb1.mono b1.size)
                have k2 := k1.call hb1
                have HS2 := Lib.hid (show S1 = cnP xS b a S1 by rw [cnP_ne HAX.out])
                have HZ2 := HZ1
                obtain ⟨S2, hSn⟩ : ∃ z, z = S1 := ⟨_, rfl⟩
                try rw [← hSn] at HS0
                try rw [← hSn] at HS1
                rw [← hSn] at o2 HS2 HZ2 ⊢
                clear hSn
                obtain ⟨z2, hzn⟩ : ∃ z, z = w1 := ⟨_, rfl⟩
                subst hzn
                have HR : Hid (cnR q xS s (j + 1) = S2) := by show _ = _; rw [cnR_succ HF.out HT.out, HS0.out, ← HS1.out, ← HS2.out]
                go_wp2
                go_roundw
                case rel => exact ⟨j + 1, by omega, by go_num, by rw [HR.out]; exact o2, b2, k2⟩
                case measure => simp [intOf]; omega

          · obtain rfl : j = q.f.length := by omega
            have hge : Hid (k + 1 ≤ (cnR q xS s q.f.length).length ∧ cnOkS q (cnR q xS s q.f.length) ∧ cnG q (6 - (k + 1)) (cnR q xS s q.f.length) (k + 1) = cnG q 6 [0] 0) := by
              refine ⟨?_, cnR_ok hq0 HO.out.1 _, ?_⟩
              · have := lt_of_some (cnR_get (q := q) (x := xS) (j := q.f.length) HX.out); omega
              · rw [← HO.out.2, show 6 - k = (6 - (k + 1)) + 1 by omega, cnG_step HX.out]
            obtain ⟨SA0, sc0, hv0, _, _⟩ := o0.form
            subst hv0
            have c1 := k0.cell' (i := 1) rfl
            go_wp2
            go_roundw
            case rel => exact ⟨k + 1, _, hge.out.1, by go_num, o0, b0, k0, hge.out.2⟩
            case measure => simp [intOf]; omega
      · obtain rfl : k = s.length := by omega
        have HC : Hid (conQ q = ((s.length : Int) == q.v)) := by
          show _ = _
          rw [conQ, HQ.out, ← HO.out.2, cnG_end (Nat.le_refl _), Bool.true_and]
          rw [Bool.eq_iff_iff]; simp
        have hlt' : ¬ s.length < s.length := by omega
        go_wp2_with fail
        refine (specIsQuiver_any _ q _ (QvR.more hb.size (QvR.below hb HU.out))).mono ?_; rintro e w1 ⟨rfl, hb1⟩
        rw [HQ.out]
        have k1 := hkB.call hb1
        have hB1 := hb.trans (hb1.mono hb.size)
        clear c0 c1 c2
        have c0 := k1.cell' (i := 0) rfl
        go_wp2
        go_ret
        exact ⟨by rw [HC.out]; rfl, hB1⟩
end Go.Proofs.Ytkhkamcmlhmpiaa

/- IsConnectedQuiver: the program's. -/
namespace Go.Proofs.Ytkhkamcmlhmpiaa
set_option linter.unusedVariables false
set_option linter.unusedSimpArgs false
open Go.RowKit

set_option maxRecDepth 100000 in
set_option maxHeartbeats 6400000 in
theorem implConnected_any (u : Value) (q : Qv) (w : World) (hu : QvR w w.heap.size u q) :
    Calls Try.prog 63 #[u] w fun e w' => e = .returned (.bool (conQ q)) ∧ Below w.heap.size w w' := by
  have hu' := hu
  obtain ⟨A, c, C, d, rfl, hf, ht, hr, lf, lt⟩ := hu.open_
  clear hu
  obtain ⟨W, hW⟩ : ∃ W, W = w.alloc (.cells #[.int .i64 q.v, .slice A q.f.length c, .slice C q.t.length d] 28) := ⟨_, rfl⟩
  have kB : Blk W w.heap.size 28 #[.int .i64 q.v, .slice A q.f.length c, .slice C q.t.length d] := by rw [hW]; exact Blk.new _ _ _
  have g0 : Below w.heap.size w W := by rw [hW]; exact below_alloc _ _
  have hqW : QvR W W.heap.size (.agg #[.int .i64 q.v, .slice A q.f.length c, .slice C q.t.length d]) q := QvR.next g0 hu'
  have c0 := kB.cell' (i := 0) rfl
  have c1 := kB.cell' (i := 1) rfl
  have c2 := kB.cell' (i := 2) rfl
  rcases hq : isQ q with _ | _
  · have HC : Hid (conQ q = false) := by show _ = _; rw [conQ, hq]; rfl
    have HQ := Lib.hid hq
    clear hq hu' hf ht
    go_enter Try.func63, Try.ntmps63
    go_wp2_with fail
    rw [← hW]; clear hW
    refine (implIsQuiver_any _ q _ hqW).mono ?_; rintro e w1 ⟨rfl, hb1⟩
    rw [HQ.out]
    go_wp2
    go_ret
    exact ⟨by rw [HC.out]; rfl, bthen g0 hb1⟩
  · have HQ := Lib.hid hq
    have hq0 := hq
    obtain ⟨hv, hl, h6, hfr, htr⟩ := isQ_t.1 hq
    have HL := Lib.hid hl
    have hmo : Try.prog.follows .mixedOrders = true := by kernel_rfl
    clear hq hl
    go_enter Try.func63, Try.ntmps63
    go_wp2_with fail
    rw [← hW]; clear hW
    refine (implIsQuiver_any _ q _ hqW).mono ?_; rintro e w1 ⟨rfl, hb1⟩
    rw [HQ.out]
    have k1 := (kB.call hb1).alloc (.cells #[.int .i64 0] 3)
    have g1 := (bthen g0 hb1).alloc (bthen g0 hb1).size (.cells #[.int .i64 0] 3)
    have ho1 : OwnI (w1.alloc (.cells #[.int .i64 0] 3)) w.heap.size (.slice (some ⟨w1.heap.size, 0, none⟩) 1 1) [0] :=
      OwnI.newBlk (N := 1) (cs := #[.int .i64 0]) (l := [0]) (bthen g0 hb1).size (by omega) rfl rfl (fun x hx => by simp at hx; subst hx; exact ⟨by omega, by omega⟩)
    clear c0 c1 c2 kB g0 hqW hb1 hu'
    go_wp2
    go_loopw [3, 4] (fun vs vi wr => ∃ (k : Nat) (s : List Int), k ≤ s.length ∧ vi = .int .i64 k ∧ OwnI wr w.heap.size vs s ∧ Below w.heap.size w wr ∧ Blk wr w.heap.size 28 #[.int .i64 q.v, .slice A q.f.length c, .slice C q.t.length d] ∧ Hid (cnOkS q s ∧ cnG q (6 - k) s k = cnG q 6 [0] 0)) (fun _ vi _ => 6 - (intOf vi).toNat)
    case atStart => exact ⟨0, [0], by simp, rfl, ho1, g1, k1, ⟨cnOk_one hv.1, rfl⟩⟩
    case round =>
      clear ho1 g1 k1
      obtain ⟨k, s, hk, rfl, ho, hb, hkB, HO⟩ := hrel
      have hs5 := HO.out.1.len hv.2
      obtain ⟨SA, sc, hve, _, _⟩ := ho.form
      subst hve
      have c0 := hkB.cell' (i := 0) rfl
      have c1 := hkB.cell' (i := 1) rfl
      have c2 := hkB.cell' (i := 2) rfl
      by_cases hlt : k < s.length
      · have hx : s[k]? = some s[k] := List.getElem?_eq_getElem hlt
        obtain ⟨xS, hxe⟩ : ∃ x, s[k] = x := ⟨_, rfl⟩
        rw [hxe] at hx
        have HX := Lib.hid hx
        clear hx hxe
        go_wp2
        clear c0 c1 c2
        go_loopw [3, 22] (fun vs vj wr => ∃ j : Nat, j ≤ q.f.length ∧ vj = .int .i64 j ∧ OwnI wr w.heap.size vs (cnR q xS s j) ∧ Below w.heap.size w wr ∧ Blk wr w.heap.size 28 #[.int .i64 q.v, .slice A q.f.length c, .slice C q.t.length d]) (fun _ vj _ => q.f.length - (intOf vj).toNat)
        case atStart => exact ⟨0, Nat.zero_le _, rfl, by rw [cnR_0]; exact ho, hb, hkB⟩
        case round =>
          clear ho hb hkB
          obtain ⟨j, hj, rfl, o0, b0, k0⟩ := hrel
          obtain ⟨z0, hz0⟩ : ∃ z, z = wr := ⟨_, rfl⟩
          subst hz0
          have c1 := k0.cell' (i := 1) rfl
          have c2 := k0.cell' (i := 2) rfl
          by_cases hlt2 : j < q.f.length
          · obtain ⟨bF, oF, a, rfl, hbF, HF, cF0, _⟩ := SlI.at_ hf hlt2
            have hlt3 : j < q.t.length := by have := HL.out; omega
            obtain ⟨bT, oT, b, rfl, hbT, HT, cT0, _⟩ := SlI.at_ ht hlt3
            have cF := bcell b0 hbF cF0
            have cT := bcell b0 hbT cT0
            have ra := hfr a (List.mem_of_getElem? HF.out)
            have rb := htr b (List.mem_of_getElem? HT.out)
            have HZ0 : Hid (cnOkS q (cnR q xS s j) ∧ (cnR q xS s j)[k]? = some xS) := ⟨cnR_ok hq0 HO.out.1 j, cnR_get HX.out⟩
            obtain ⟨S0, hS0⟩ : ∃ z, cnR q xS s j = z := ⟨_, rfl⟩
            rw [hS0] at o0 HZ0
            have HS0 := Lib.hid hS0
            clear hS0 hf ht
            obtain ⟨SA0, sc0, hv0, _, _⟩ := o0.form
            subst hv0
            go_wp2_with fail
            go_region_o
            go_wp2
            obtain ⟨v0, hWd⟩ : ∃ z, z = (z0.alloc (.cells #[.int .i64 a, .int .i64 b, .int .i64 b, .int .i64 a] 94)).drew := ⟨_, rfl⟩
            have gP : Blk v0 z0.heap.size 94 #[.int .i64 a, .int .i64 b, .int .i64 b, .int .i64 a] := by rw [hWd]; exact Blk.new _ _ _
            have oD : OwnI v0 w.heap.size (.slice SA0 S0.length sc0) S0 := by rw [hWd]; exact o0.alloc _
            have kD : Blk v0 w.heap.size 28 #[.int .i64 q.v, .slice (some ⟨bF, oF, none⟩) q.f.length c, .slice (some ⟨bT, oT, none⟩) q.t.length d] := by rw [hWd]; exact k0.alloc _
            have bD : Below w.heap.size w v0 := by rw [hWd]; exact (b0.alloc b0.size _).drew
            rw [← hWd]
            clear hWd o0 k0 b0 c1 c2 cF cT cF0 cT0
            have o0 := oD
            have k0 := kD
            have b0 := bD
            have g0 := gP
            clear oD kD bD gP
            refine wp_loop_rounds 3 ?_
            rw [rounds_succ]
            have p0 := g0.cell' (i := 0) rfl
            have p1 := g0.cell' (i := 1) rfl
            go_wp2_with fail
            obtain ⟨y0, hy0⟩ : ∃ z, z = v0.alloc (.cells #[.int .i64 a, .int .i64 b] 94) := ⟨_, rfl⟩
            have gE0 : Blk y0 v0.heap.size 94 #[.int .i64 a, .int .i64 b] := by rw [hy0]; exact Blk.new _ _ _
            have gy0 : Blk y0 z0.heap.size 94 #[.int .i64 a, .int .i64 b, .int .i64 b, .int .i64 a] := by rw [hy0]; exact g0.alloc _
            have oy0 : OwnI y0 w.heap.size (.slice SA0 S0.length sc0) S0 := by rw [hy0]; exact o0.alloc _
            have ky0 : Blk y0 w.heap.size 28 #[.int .i64 q.v, .slice (some ⟨bF, oF, none⟩) q.f.length c, .slice (some ⟨bT, oT, none⟩) q.t.length d] := by rw [hy0]; exact k0.alloc _
            have by0 : Below w.heap.size w y0 := by rw [hy0]; exact b0.alloc b0.size _
            rw [← hy0]
            clear hy0 p0 p1 o0 k0 b0 g0
            have rd0 := oy0.rd
            obtain ⟨bS, oS, xT, hSA, hbS, HXS, cS, hxr1, hxr2⟩ := SlI.at_ (k := k) rd0 (lt_of_some HZ0.out.2)
            obtain rfl : xS = xT := by have := HXS.out; rw [HZ0.out.2] at this; injection this
            subst hSA
            clear HXS
            have qq0 := InB.cell gE0.lt (gE0.cell' (i := 0) rfl)
            have qq1 := InB.cell gE0.lt (gE0.cell' (i := 1) rfl)
            have qqs := InB.cell hbS cS
            have hkl0 := lt_of_some HZ0.out.2
            by_cases hax : a = xS
            · have HAX := Lib.hid hax
              have hax2 : (a == xS) = true := by simpa using hax
              clear hax
              rcases hd : decide (b ∈ S0) with _ | _
              · have CL : Hid (∀ t : InB y0, Calls Try.prog 112 #[.slice (some ⟨bS, oS, none⟩) S0.length sc0, .int .i64 b] t.val fun e w' => e = .returned (.bool false) ∧ w' = t.val) := by
                  intro t
                  have := contains_any _ S0 b t.val (SlI.next t.below rd0)
                  rwa [hd] at this
                have HD := Lib.hid hd
                clear hd
                go_wp2_with fail
                (refine wp_region_inB (by kernel_rfl) (by kernel_rfl) ?_; (repeat (go_big_quiet_step ((go_at_call 112; exact InB.call_same (CL.out _))))); refine wpQuiet_nil ?_; intro w1 hw'; obtain ⟨s1, hw1⟩ := hw'; have hb1 := s1.below; rw [← hw1] at hb1; clear hw1 s1)
                clear qq0 qq1 qqs CL
                have ow := oy0.below hb1
                have bw := by0.trans (hb1.mono by0.size)
                have kw := ky0.call hb1
                have gw := gy0.call hb1
                have gEw := gE0.call hb1
                clear oy0 by0 ky0 gy0 gE0 hb1
                have e1' := gEw.cell' (i := 1) rfl
                have hko := ow.alloc (.cells #[.int .i64 b] 3)
                have hkb := kw.alloc (.cells #[.int .i64 b] 3)
                have hkg := gw.alloc (.cells #[.int .i64 b] 3)
                have hbb := bw.alloc bw.size (.cells #[.int .i64 b] 3)
                have hsz := HZ0.out.1.len hv.2
                (go_wp2_with (at_builtin; refine Hold.stop ?_)); unfold Hold
                refine wpList_appI rfl (.tmp 61) (.tmp 64) rfl w.heap.size _ (.slice (some ⟨bS, oS, none⟩) S0.length sc0) S0 rfl hko _ _ _ [b] rfl rfl (SlI.one w1 _ b ⟨by omega, by omega⟩) (by simp only [List.length_singleton]; omega) (by have := bw.size; simp; omega) ?_
                intro vn v1 on hg1 hv1
                have k1 := hkb.grown hg1 (hko.blkne hkb (by decide))
                have g1 := hkg.grown hg1 (hko.blkne hkg (by decide))
                have b1 := hbb.grown hg1 (by have := bw.size; simp; omega) (fun j hj => (hko.lt j hj).1)
                clear hko hkb hkg hbb hg1 hv1 e1' ow bw kw gw gEw
                have hnm : b ∉ S0 := of_decide_eq_false HD.out
                have HS1 := Lib.hid (show S0 ++ [b] = cnP xS a b S0 by rw [HAX.out, cnP_yes hnm])
                have HZ1 : Hid (cnOkS q (S0 ++ [b]) ∧ (S0 ++ [b])[k]? = some xS) := ⟨HZ0.out.1.add rb hnm, by rw [List.getElem?_append_left (lt_of_some HZ0.out.2)]; exact HZ0.out.2⟩
                obtain ⟨S1, hSn⟩ : ∃ z, S0 ++ [b] = z := ⟨_, rfl⟩
                rw [hSn] at on HS1 HZ1
                clear hSn
                have o1 := on
                clear on
                obtain ⟨SA1, sc1, hv1, _, _⟩ := o1.form
                subst hv1
                go_wp2
                clear cS hbS hxr1 hxr2 rd0 hkl0
                have p0 := g1.cell' (i := 2) rfl
                have p1 := g1.cell' (i := 3) rfl
                rw [rounds_succ]; go_wp2_with fail
                obtain ⟨y1, hy1⟩ : ∃ z, z = v1.alloc (.cells #[.int .i64 b, .int .i64 a] 94) := ⟨_, rfl⟩
                have gE1 : Blk y1 v1.heap.size 94 #[.int .i64 b, .int .i64 a] := by rw [hy1]; exact Blk.new _ _ _
                have gy1 : Blk y1 z0.heap.size 94 #[.int .i64 a, .int .i64 b, .int .i64 b, .int .i64 a] := by rw [hy1]; exact g1.alloc _
                have oy1 : OwnI y1 w.heap.size (.slice SA1 S1.length sc1) S1 := by rw [hy1]; exact o1.alloc _
                have ky1 : Blk y1 w.heap.size 28 #[.int .i64 q.v, .slice (some ⟨bF, oF, none⟩) q.f.length c, .slice (some ⟨bT, oT, none⟩) q.t.length d] := by rw [hy1]; exact k1.alloc _
                have by1 : Below w.heap.size w y1 := by rw [hy1]; exact b1.alloc b1.size _
                rw [← hy1]
                clear hy1 p0 p1 o1 k1 b1 g1
                have rd1 := oy1.rd
                obtain ⟨bS, oS, xT, hSA, hbS, HXS, cS, hxr1, hxr2⟩ := SlI.at_ (k := k) rd1 (lt_of_some HZ1.out.2)
                obtain rfl : xS = xT := by have := HXS.out; rw [HZ1.out.2] at this; injection this
                subst hSA
                clear HXS
                have qq0 := InB.cell gE1.lt (gE1.cell' (i := 0) rfl)
                have qq1 := InB.cell gE1.lt (gE1.cell' (i := 1) rfl)
                have qqs := InB.cell hbS cS
                have hkl1 := lt_of_some HZ1.out.2
                by_cases hax : b = xS
                · have HAX := Lib.hid hax
                  have hax2 : (b == xS) = true := by simpa using hax
                  clear hax
                  rcases hd : decide (a ∈ S1) with _ | _
                  · have CL : Hid (∀ t : InB y1, Calls Try.prog 112 #[.slice (some ⟨bS, oS, none⟩) S1.length sc1, .int .i64 a] t.val fun e w' => e = .returned (.bool false) ∧ w' = t.val) := by
                      intro t
                      have := contains_any _ S1 a t.val (SlI.next t.below rd1)
                      rwa [hd] at this
                    have HD := Lib.hid hd
                    clear hd
                    go_wp2_with fail
                    (refine wp_region_inB (by kernel_rfl) (by kernel_rfl) ?_; (repeat (go_big_quiet_step ((go_at_call 112; exact InB.call_same (CL.out _))))); refine wpQuiet_nil ?_; intro w1 hw'; obtain ⟨s1, hw1⟩ := hw'; have hb1 := s1.below; rw [← hw1] at hb1; clear hw1 s1)
                    clear qq0 qq1 qqs CL
                    have ow := oy1.below hb1
                    have bw := by1.trans (hb1.mono by1.size)
                    have kw := ky1.call hb1
                    have gw := gy1.call hb1
                    have gEw := gE1.call hb1
                    clear oy1 by1 ky1 gy1 gE1 hb1
                    have e1' := gEw.cell' (i := 1) rfl
                    have hko := ow.alloc (.cells #[.int .i64 a] 3)
                    have hkb := kw.alloc (.cells #[.int .i64 a] 3)
                    have hkg := gw.alloc (.cells #[.int .i64 a] 3)
                    have hbb := bw.alloc bw.size (.cells #[.int .i64 a] 3)
                    have hsz := HZ1.out.1.len hv.2
                    (go_wp2_with (at_builtin; refine Hold.stop ?_)); unfold Hold
                    refine wpList_appI rfl (.tmp 61) (.tmp 64) rfl w.heap.size _ (.slice (some ⟨bS, oS, none⟩) S1.length sc1) S1 rfl hko _ _ _ [a] rfl rfl (SlI.one w1 _ a ⟨by omega, by omega⟩) (by simp only [List.length_singleton]; omega) (by have := bw.size; simp; omega) ?_
                    intro vn v2 on hg1 hv1
                    have k2 := hkb.grown hg1 (hko.blkne hkb (by decide))
                    have g2 := hkg.grown hg1 (hko.blkne hkg (by decide))
                    have b2 := hbb.grown hg1 (by have := bw.size; simp; omega) (fun j hj => (hko.lt j hj).1)
                    clear hko hkb hkg hbb hg1 hv1 e1' ow bw kw gw gEw
                    have hnm : a ∉ S1 := of_decide_eq_false HD.out
                    have HS2 := Lib.hid (show S1 ++ [a] = cnP xS b a S1 by rw [HAX.out, cnP_yes hnm])
                    have HZ2 : Hid (cnOkS q (S1 ++ [a]) ∧ (S1 ++ [a])[k]? = some xS) := ⟨HZ1.out.1.add ra hnm, by rw [List.getElem?_append_left (lt_of_some HZ1.out.2)]; exact HZ1.out.2⟩
                    obtain ⟨S2, hSn⟩ : ∃ z, S1 ++ [a] = z := ⟨_, rfl⟩
                    rw [hSn] at on HS2 HZ2
                    clear hSn
                    have o2 := on
                    clear on
                    obtain ⟨SA2, sc2, hv2, _, _⟩ := o2.form
                    subst hv2
                    go_wp2
                    have HR : Hid (cnR q xS s (j + 1) = S2) := by show _ = _; rw [cnR_succ HF.out HT.out, HS0.out, ← HS1.out, ← HS2.out]
                    rw [rounds_succ]
                    go_wp2
                    go_roundw
                    case rel => exact ⟨j + 1, by omega, by go_num, by rw [HR.out]; exact o2, b2, k2⟩
                    case measure => simp [intOf]; omega

                  · have CL : Hid (∀ t : InB y1, Calls Try.prog 112 #[.slice (some ⟨bS, oS, none⟩) S1.length sc1, .int .i64 a] t.val fun e w' => e = .returned (.bool true) ∧ w' = t.val) := by
                      intro t
                      have := contains_any _ S1 a t.val (SlI.next t.below rd1)
                      rwa [hd] at this
                    have HD := Lib.hid hd
                    clear hd
                    go_wp2_with fail
                    (refine wp_region_inB (by kernel_rfl) (by kernel_rfl) ?_; (repeat (go_big_quiet_step ((go_at_call 112; exact InB.call_same (CL.out _))))); refine wpQuiet_nil ?_; intro w1 hw'; obtain ⟨s1, hw1⟩ := hw'; have hb1 := s1.below; rw [← hw1] at hb1; clear hw1 s1)
                    clear qq0 qq1 qqs CL
                    have ow := oy1.below hb1
                    have bw := by1.trans (hb1.mono by1.size)
                    have kw := ky1.call hb1
                    have gw := gy1.call hb1
                    have gEw := gE1.call hb1
                    clear oy1 by1 ky1 gy1 gE1 hb1
                    have HS2 := Lib.hid (show S1 = cnP xS b a S1 by rw [cnP_mem (of_decide_eq_true HD.out)])
                    have HZ2 := HZ1
                    obtain ⟨S2, hSn⟩ : ∃ z, z = S1 := ⟨_, rfl⟩
                    try rw [← hSn] at HS0
                    try rw [← hSn] at HS1
                    rw [← hSn] at ow HS2 HZ2 ⊢
                    clear hSn
                    obtain ⟨v2, hzn⟩ : ∃ z, z = w1 := ⟨_, rfl⟩
                    subst hzn
                    have o2 := ow
                    have b2 := bw
                    have k2 := kw
                    have g2 := gw
                    clear ow bw kw gw gEw
                    go_wp2_with fail
                    have HR : Hid (cnR q xS s (j + 1) = S2) := by show _ = _; rw [cnR_succ HF.out HT.out, HS0.out, ← HS1.out, ← HS2.out]
                    rw [rounds_succ]
                    go_wp2
                    go_roundw
                    case rel => exact ⟨j + 1, by omega, by go_num, by rw [HR.out]; exact o2, b2, k2⟩
                    case measure => simp [intOf]; omega


                · have HAX := Lib.hid hax
                  have hax2 : (b == xS) = false := by simpa using hax
                  clear hax
                  go_wp2_with fail
                  (refine wp_region_inB (by kernel_rfl) (by kernel_rfl) ?_; (repeat (go_big_quiet_step (fail))); refine wpQuiet_nil ?_; intro w1 hw'; obtain ⟨s1, hw1⟩ := hw'; have hb1 := s1.below; rw [← hw1] at hb1; clear hw1 s1)
                  clear qq0 qq1 qqs
                  have ow := oy1.below hb1
                  have bw := by1.trans (hb1.mono by1.size)
                  have kw := ky1.call hb1
                  have gw := gy1.call hb1
                  have gEw := gE1.call hb1
                  clear oy1 by1 ky1 gy1 gE1 hb1
                  have HS2 := Lib.hid (show S1 = cnP xS b a S1 by rw [cnP_ne HAX.out])
                  have HZ2 := HZ1
                  obtain ⟨S2, hSn⟩ : ∃ z, z = S1 := ⟨_, rfl⟩
                  try rw [← hSn] at HS0
                  try rw [← hSn] at HS1
                  rw [← hSn] at ow HS2 HZ2 ⊢
                  clear hSn
                  obtain ⟨v2, hzn⟩ : ∃ z, z = w1 := ⟨_, rfl⟩
                  subst hzn
                  have o2 := ow
                  have b2 := bw
                  have k2 := kw
                  have g2 := gw
                  clear ow bw kw gw gEw
                  go_wp2_with fail
                  have HR : Hid (cnR q xS s (j + 1) = S2) := by show _ = _; rw [cnR_succ HF.out HT.out, HS0.out, ← HS1.out, ← HS2.out]
                  rw [rounds_succ]
                  go_wp2
                  go_roundw
                  case rel => exact ⟨j + 1, by omega, by go_num, by rw [HR.out]; exact o2, b2, k2⟩
                  case measure => simp [intOf]; omega

              · have CL : Hid (∀ t : InB y0, Calls Try.prog 112 #[.slice (some ⟨bS, oS, none⟩) S0.length sc0, .int .i64 b] t.val fun e w' => e = .returned (.bool true) ∧ w' = t.val) := by
                  intro t
                  have := contains_any _ S0 b t.val (SlI.next t.below rd0)
                  rwa [hd] at this
                have HD := Lib.hid hd
                clear hd
                go_wp2_with fail
                (refine wp_region_inB (by kernel_rfl) (by kernel_rfl) ?_; (repeat (go_big_quiet_step ((go_at_call 112; exact InB.call_same (CL.out _))))); refine wpQuiet_nil ?_; intro w1 hw'; obtain ⟨s1, hw1⟩ := hw'; have hb1 := s1.below; rw [← hw1] at hb1; clear hw1 s1)
                clear qq0 qq1 qqs CL
                have ow := oy0.below hb1
                have bw := by0.trans (hb1.mono by0.size)
                have kw := ky0.call hb1
                have gw := gy0.call hb1
                have gEw := gE0.call hb1
                clear oy0 by0 ky0 gy0 gE0 hb1
                have HS1 := Lib.hid (show S0 = cnP xS a b S0 by rw [cnP_mem (of_decide_eq_true HD.out)])
                have HZ1 := HZ0
                obtain ⟨S1, hSn⟩ : ∃ z, z = S0 := ⟨_, rfl⟩
                try rw [← hSn] at HS0
                try rw [← hSn] at HS0
                rw [← hSn] at ow HS1 HZ1 ⊢
                clear hSn
                obtain ⟨v1, hzn⟩ : ∃ z, z = w1 := ⟨_, rfl⟩
                subst hzn
                have o1 := ow
                have b1 := bw
                have k1 := kw
                have g1 := gw
                clear ow bw kw gw gEw
                go_wp2_with fail
                clear cS hbS hxr1 hxr2 rd0 hkl0
                have p0 := g1.cell' (i := 2) rfl
                have p1 := g1.cell' (i := 3) rfl
                rw [rounds_succ]; go_wp2_with fail
                obtain ⟨y1, hy1⟩ : ∃ z, z = v1.alloc (.cells #[.int .i64 b, .int .i64 a] 94) := ⟨_, rfl⟩
                have gE1 : Blk y1 v1.heap.size 94 #[.int .i64 b, .int .i64 a] := by rw [hy1]; exact Blk.new _ _ _
                have gy1 : Blk y1 z0.heap.size 94 #[.int .i64 a, .int .i64 b, .int .i64 b, .int .i64 a] := by rw [hy1]; exact g1.alloc _
                have oy1 : OwnI y1 w.heap.size (.slice (some ⟨bS, oS, none⟩) S1.length sc0) S1 := by rw [hy1]; exact o1.alloc _
                have ky1 : Blk y1 w.heap.size 28 #[.int .i64 q.v, .slice (some ⟨bF, oF, none⟩) q.f.length c, .slice (some ⟨bT, oT, none⟩) q.t.length d] := by rw [hy1]; exact k1.alloc _
                have by1 : Below w.heap.size w y1 := by rw [hy1]; exact b1.alloc b1.size _
                rw [← hy1]
                clear hy1 p0 p1 o1 k1 b1 g1
                have rd1 := oy1.rd
                obtain ⟨bS2, oS2, xT, hSA, hbS, HXS, cS, hxr1, hxr2⟩ := SlI.at_ (k := k) rd1 (lt_of_some HZ1.out.2)
                injection hSA with hSA
                injection hSA with hSA1 hSA2 _
                subst hSA1 hSA2
                obtain rfl : xS = xT := by have := HXS.out; rw [HZ1.out.2] at this; injection this
                clear HXS
                have qq0 := InB.cell gE1.lt (gE1.cell' (i := 0) rfl)
                have qq1 := InB.cell gE1.lt (gE1.cell' (i := 1) rfl)
                have qqs := InB.cell hbS cS
                have hkl1 := lt_of_some HZ1.out.2
                by_cases hax : b = xS
                · have HAX := Lib.hid hax
                  have hax2 : (b == xS) = true := by simpa using hax
                  clear hax
                  rcases hd : decide (a ∈ S1) with _ | _
                  · have CL : Hid (∀ t : InB y1, Calls Try.prog 112 #[.slice (some ⟨bS, oS, none⟩) S1.length sc0, .int .i64 a] t.val fun e w' => e = .returned (.bool false) ∧ w' = t.val) := by
                      intro t
                      have := contains_any _ S1 a t.val (SlI.next t.below rd1)
                      rwa [hd] at this
                    have HD := Lib.hid hd
                    clear hd
                    go_wp2_with fail
                    (refine wp_region_inB (by kernel_rfl) (by kernel_rfl) ?_; (repeat (go_big_quiet_step ((go_at_call 112; exact InB.call_same (CL.out _))))); refine wpQuiet_nil ?_; intro w1 hw'; obtain ⟨s1, hw1⟩ := hw'; have hb1 := s1.below; rw [← hw1] at hb1; clear hw1 s1)
                    clear qq0 qq1 qqs CL
                    have ow := oy1.below hb1
                    have bw := by1.trans (hb1.mono by1.size)
                    have kw := ky1.call hb1
                    have gw := gy1.call hb1
                    have gEw := gE1.call hb1
                    clear oy1 by1 ky1 gy1 gE1 hb1
                    have e1' := gEw.cell' (i := 1) rfl
                    have hko := ow.alloc (.cells #[.int .i64 a] 3)
                    have hkb := kw.alloc (.cells #[.int .i64 a] 3)
                    have hkg := gw.alloc (.cells #[.int .i64 a] 3)
                    have hbb := bw.alloc bw.size (.cells #[.int .i64 a] 3)
                    have hsz := HZ1.out.1.len hv.2
                    (go_wp2_with (at_builtin; refine Hold.stop ?_)); unfold Hold
                    refine wpList_appI rfl (.tmp 61) (.tmp 64) rfl w.heap.size _ (.slice (some ⟨bS, oS, none⟩) S1.length sc0) S1 rfl hko _ _ _ [a] rfl rfl (SlI.one w1 _ a ⟨by omega, by omega⟩) (by simp only [List.length_singleton]; omega) (by have := bw.size; simp; omega) ?_
                    intro vn v2 on hg1 hv1
                    have k2 := hkb.grown hg1 (hko.blkne hkb (by decide))
                    have g2 := hkg.grown hg1 (hko.blkne hkg (by decide))
                    have b2 := hbb.grown hg1 (by have := bw.size; simp; omega) (fun j hj => (hko.lt j hj).1)
                    clear hko hkb hkg hbb hg1 hv1 e1' ow bw kw gw gEw
                    have hnm : a ∉ S1 := of_decide_eq_false HD.out
                    have HS2 := Lib.hid (show S1 ++ [a] = cnP xS b a S1 by rw [HAX.out, cnP_yes hnm])
                    have HZ2 : Hid (cnOkS q (S1 ++ [a]) ∧ (S1 ++ [a])[k]? = some xS) := ⟨HZ1.out.1.add ra hnm, by rw [List.getElem?_append_left (lt_of_some HZ1.out.2)]; exact HZ1.out.2⟩
                    obtain ⟨S2, hSn⟩ : ∃ z, S1 ++ [a] = z := ⟨_, rfl⟩
                    rw [hSn] at on HS2 HZ2
                    clear hSn
                    have o2 := on
                    clear on
                    obtain ⟨SA2, sc2, hv2, _, _⟩ := o2.form
                    subst hv2
                    go_wp2
                    have HR : Hid (cnR q xS s (j + 1) = S2) := by show _ = _; rw [cnR_succ HF.out HT.out, HS0.out, ← HS1.out, ← HS2.out]
                    rw [rounds_succ]
                    go_wp2
                    go_roundw
                    case rel => exact ⟨j + 1, by omega, by go_num, by rw [HR.out]; exact o2, b2, k2⟩
                    case measure => simp [intOf]; omega

                  · have CL : Hid (∀ t : InB y1, Calls Try.prog 112 #[.slice (some ⟨bS, oS, none⟩) S1.length sc0, .int .i64 a] t.val fun e w' => e = .returned (.bool true) ∧ w' = t.val) := by
                      intro t
                      have := contains_any _ S1 a t.val (SlI.next t.below rd1)
                      rwa [hd] at this
                    have HD := Lib.hid hd
                    clear hd
                    go_wp2_with fail
                    (refine wp_region_inB (by kernel_rfl) (by kernel_rfl) ?_; (repeat (go_big_quiet_step ((go_at_call 112; exact InB.call_same (CL.out _))))); refine wpQuiet_nil ?_; intro w1 hw'; obtain ⟨s1, hw1⟩ := hw'; have hb1 := s1.below; rw [← hw1] at hb1; clear hw1 s1)
                    clear qq0 qq1 qqs CL
                    have ow := oy1.below hb1
                    have bw := by1.trans (hb1.mono by1.size)
                    have kw := ky1.call hb1
                    have gw := gy1.call hb1
                    have gEw := gE1.call hb1
                    clear oy1 by1 ky1 gy1 gE1 hb1
                    have HS2 := Lib.hid (show S1 = cnP xS b a S1 by rw [cnP_mem (of_decide_eq_true HD.out)])
                    have HZ2 := HZ1
                    obtain ⟨S2, hSn⟩ : ∃ z, z = S1 := ⟨_, rfl⟩
                    try rw [← hSn] at HS0
                    try rw [← hSn] at HS1
                    rw [← hSn] at ow HS2 HZ2 ⊢
                    clear hSn
                    obtain ⟨v2, hzn⟩ : ∃ z, z = w1 := ⟨_, rfl⟩
                    subst hzn
                    have o2 := ow
                    have b2 := bw
                    have k2 := kw
                    have g2 := gw
                    clear ow bw kw gw gEw
                    go_wp2_with fail
                    have HR : Hid (cnR q xS s (j + 1) = S2) := by show _ = _; rw [cnR_succ HF.out HT.out, HS0.out, ← HS1.out, ← HS2.out]
                    rw [rounds_succ]
                    go_wp2
                    go_roundw
                    case rel => exact ⟨j + 1, by omega, by go_num, by rw [HR.out]; exact o2, b2, k2⟩
                    case measure => simp [intOf]; omega


                · have HAX := Lib.hid hax
                  have hax2 : (b == xS) = false := by simpa using hax
                  clear hax
                  go_wp2_with fail
                  (refine wp_region_inB (by kernel_rfl) (by kernel_rfl) ?_; (repeat (go_big_quiet_step (fail))); refine wpQuiet_nil ?_; intro w1 hw'; obtain ⟨s1, hw1⟩ := hw'; have hb1 := s1.below; rw [← hw1] at hb1; clear hw1 s1)
                  clear qq0 qq1 qqs
                  have ow := oy1.below hb1
                  have bw := by1.trans (hb1.mono by1.size)
                  have kw := ky1.call hb1
                  have gw := gy1.call hb1
                  have gEw := gE1.call hb1
                  clear oy1 by1 ky1 gy1 gE1 hb1
                  have HS2 := Lib.hid (show S1 = cnP xS b a S1 by rw [cnP_ne HAX.out])
                  have HZ2 := HZ1
                  obtain ⟨S2, hSn⟩ : ∃ z, z = S1 := ⟨_, rfl⟩
                  try rw [← hSn] at HS0
                  try rw [← hSn] at HS1
                  rw [← hSn] at ow HS2 HZ2 ⊢
                  clear hSn
                  obtain ⟨v2, hzn⟩ : ∃ z, z = w1 := ⟨_, rfl⟩
                  subst hzn
                  have o2 := ow
                  have b2 := bw
                  have k2 := kw
                  have g2 := gw
                  clear ow bw kw gw gEw
                  go_wp2_with fail
                  have HR : Hid (cnR q xS s (j + 1) = S2) := by show _ = _; rw [cnR_succ HF.out HT.out, HS0.out, ← HS1.out, ← HS2.out]
                  rw [rounds_succ]
                  go_wp2
                  go_roundw
                  case rel => exact ⟨j + 1, by omega, by go_num, by rw [HR.out]; exact o2, b2, k2⟩
                  case measure => simp [intOf]; omega


            · have HAX := Lib.hid hax
              have hax2 : (a == xS) = false := by simpa using hax
              clear hax
              go_wp2_with fail
              (refine wp_region_inB (by kernel_rfl) (by kernel_rfl) ?_; (repeat (go_big_quiet_step (fail))); refine wpQuiet_nil ?_; intro w1 hw'; obtain ⟨s1, hw1⟩ := hw'; have hb1 := s1.below; rw [← hw1] at hb1; clear hw1 s1)
              clear qq0 qq1 qqs
              have ow := oy0.below hb1
              have bw := by0.trans (hb1.mono by0.size)
              have kw := ky0.call hb1
              have gw := gy0.call hb1
              have gEw := gE0.call hb1
              clear oy0 by0 ky0 gy0 gE0 hb1
              have HS1 := Lib.hid (show S0 = cnP xS a b S0 by rw [cnP_ne HAX.out])
              have HZ1 := HZ0
              obtain ⟨S1, hSn⟩ : ∃ z, z = S0 := ⟨_, rfl⟩
              try rw [← hSn] at HS0
              try rw [← hSn] at HS0
              rw [← hSn] at ow HS1 HZ1 ⊢
              clear hSn
              obtain ⟨v1, hzn⟩ : ∃ z, z = w1 := ⟨_, rfl⟩
              subst hzn
              have o1 := ow
              have b1 := bw
              have k1 := kw
              have g1 := gw
              clear ow bw kw gw gEw
              go_wp2_with fail
              clear cS hbS hxr1 hxr2 rd0 hkl0
              have p0 := g1.cell' (i := 2) rfl
              have p1 := g1.cell' (i := 3) rfl
              rw [rounds_succ]; go_wp2_with fail
              obtain ⟨y1, hy1⟩ : ∃ z, z = v1.alloc (.cells #[.int .i64 b, .int .i64 a] 94) := ⟨_, rfl⟩
              have gE1 : Blk y1 v1.heap.size 94 #[.int .i64 b, .int .i64 a] := by rw [hy1]; exact Blk.new _ _ _
              have gy1 : Blk y1 z0.heap.size 94 #[.int .i64 a, .int .i64 b, .int .i64 b, .int .i64 a] := by rw [hy1]; exact g1.alloc _
              have oy1 : OwnI y1 w.heap.size (.slice (some ⟨bS, oS, none⟩) S1.length sc0) S1 := by rw [hy1]; exact o1.alloc _
              have ky1 : Blk y1 w.heap.size 28 #[.int .i64 q.v, .slice (some ⟨bF, oF, none⟩) q.f.length c, .slice (some ⟨bT, oT, none⟩) q.t.length d] := by rw [hy1]; exact k1.alloc _
              have by1 : Below w.heap.size w y1 := by rw [hy1]; exact b1.alloc b1.size _
              rw [← hy1]
              clear hy1 p0 p1 o1 k1 b1 g1
              have rd1 := oy1.rd
              obtain ⟨bS2, oS2, xT, hSA, hbS, HXS, cS, hxr1, hxr2⟩ := SlI.at_ (k := k) rd1 (lt_of_some HZ1.out.2)
              injection hSA with hSA
              injection hSA with hSA1 hSA2 _
              subst hSA1 hSA2
              obtain rfl : xS = xT := by have := HXS.out; rw [HZ1.out.2] at this; injection this
              clear HXS
              have qq0 := InB.cell gE1.lt (gE1.cell' (i := 0) rfl)
              have qq1 := InB.cell gE1.lt (gE1.cell' (i := 1) rfl)
              have qqs := InB.cell hbS cS
              have hkl1 := lt_of_some HZ1.out.2
              by_cases hax : b = xS
              · have HAX := Lib.hid hax
                have hax2 : (b == xS) = true := by simpa using hax
                clear hax
                rcases hd : decide (a ∈ S1) with _ | _
                · have CL : Hid (∀ t : InB y1, Calls Try.prog 112 #[.slice (some ⟨bS, oS, none⟩) S1.length sc0, .int .i64 a] t.val fun e w' => e = .returned (.bool false) ∧ w' = t.val) := by
                    intro t
                    have := contains_any _ S1 a t.val (SlI.next t.below rd1)
                    rwa [hd] at this
                  have HD := Lib.hid hd
                  clear hd
                  go_wp2_with fail
                  (refine wp_region_inB (by kernel_rfl) (by kernel_rfl) ?_; (repeat (go_big_quiet_step ((go_at_call 112; exact InB.call_same (CL.out _))))); refine wpQuiet_nil ?_; intro w1 hw'; obtain ⟨s1, hw1⟩ := hw'; have hb1 := s1.below; rw [← hw1] at hb1; clear hw1 s1)
                  clear qq0 qq1 qqs CL
                  have ow := oy1.below hb1
                  have bw := by1.trans (hb1.mono by1.size)
                  have kw := ky1.call hb1
                  have gw := gy1.call hb1
                  have gEw := gE1.call hb1
                  clear oy1 by1 ky1 gy1 gE1 hb1
                  have e1' := gEw.cell' (i := 1) rfl
                  have hko := ow.alloc (.cells #[.int .i64 a] 3)
                  have hkb := kw.alloc (.cells #[.int .i64 a] 3)
                  have hkg := gw.alloc (.cells #[.int .i64 a] 3)
                  have hbb := bw.alloc bw.size (.cells #[.int .i64 a] 3)
                  have hsz := HZ1.out.1.len hv.2
                  (go_wp2_with (at_builtin; refine Hold.stop ?_)); unfold Hold
                  refine wpList_appI rfl (.tmp 61) (.tmp 64) rfl w.heap.size _ (.slice (some ⟨bS, oS, none⟩) S1.length sc0) S1 rfl hko _ _ _ [a] rfl rfl (SlI.one w1 _ a ⟨by omega, by omega⟩) (by simp only [List.length_singleton]; omega) (by have := bw.size; simp; omega) ?_
                  intro vn v2 on hg1 hv1
                  have k2 := hkb.grown hg1 (hko.blkne hkb (by decide))
                  have g2 := hkg.grown hg1 (hko.blkne hkg (by decide))
                  have b2 := hbb.grown hg1 (by have := bw.size; simp; omega) (fun j hj => (hko.lt j hj).1)
                  clear hko hkb hkg hbb hg1 hv1 e1' ow bw kw gw gEw
                  have hnm : a ∉ S1 := of_decide_eq_false HD.out
                  have HS2 := Lib.hid (show S1 ++ [a] = cnP xS b a S1 by rw [HAX.out, cnP_yes hnm])
                  have HZ2 : Hid (cnOkS q (S1 ++ [a]) ∧ (S1 ++ [a])[k]? = some xS) := ⟨HZ1.out.1.add ra hnm, by rw [List.getElem?_append_left (lt_of_some HZ1.out.2)]; exact HZ1.out.2⟩
                  obtain ⟨S2, hSn⟩ : ∃ z, S1 ++ [a] = z := ⟨_, rfl⟩
                  rw [hSn] at on HS2 HZ2
                  clear hSn
                  have o2 := on
                  clear on
                  obtain ⟨SA2, sc2, hv2, _, _⟩ := o2.form
                  subst hv2
                  go_wp2
                  have HR : Hid (cnR q xS s (j + 1) = S2) := by show _ = _; rw [cnR_succ HF.out HT.out, HS0.out, ← HS1.out, ← HS2.out]
                  rw [rounds_succ]
                  go_wp2
                  go_roundw
                  case rel => exact ⟨j + 1, by omega, by go_num, by rw [HR.out]; exact o2, b2, k2⟩
                  case measure => simp [intOf]; omega

                · have CL : Hid (∀ t : InB y1, Calls Try.prog 112 #[.slice (some ⟨bS, oS, none⟩) S1.length sc0, .int .i64 a] t.val fun e w' => e = .returned (.bool true) ∧ w' = t.val) := by
                    intro t
                    have := contains_any _ S1 a t.val (SlI.next t.below rd1)
                    rwa [hd] at this
                  have HD := Lib.hid hd
                  clear hd
                  go_wp2_with fail
                  (refine wp_region_inB (by kernel_rfl) (by kernel_rfl) ?_; (repeat (go_big_quiet_step ((go_at_call 112; exact InB.call_same (CL.out _))))); refine wpQuiet_nil ?_; intro w1 hw'; obtain ⟨s1, hw1⟩ := hw'; have hb1 := s1.below; rw [← hw1] at hb1; clear hw1 s1)
                  clear qq0 qq1 qqs CL
                  have ow := oy1.below hb1
                  have bw := by1.trans (hb1.mono by1.size)
                  have kw := ky1.call hb1
                  have gw := gy1.call hb1
                  have gEw := gE1.call hb1
                  clear oy1 by1 ky1 gy1 gE1 hb1
                  have HS2 := Lib.hid (show S1 = cnP xS b a S1 by rw [cnP_mem (of_decide_eq_true HD.out)])
                  have HZ2 := HZ1
                  obtain ⟨S2, hSn⟩ : ∃ z, z = S1 := ⟨_, rfl⟩
                  try rw [← hSn] at HS0
                  try rw [← hSn] at HS1
                  rw [← hSn] at ow HS2 HZ2 ⊢
                  clear hSn
                  obtain ⟨v2, hzn⟩ : ∃ z, z = w1 := ⟨_, rfl⟩
                  subst hzn
                  have o2 := ow
                  have b2 := bw
                  have k2 := kw
                  have g2 := gw
                  clear ow bw kw gw gEw
                  go_wp2_with fail
                  have HR : Hid (cnR q xS s (j + 1) = S2) := by show _ = _; rw [cnR_succ HF.out HT.out, HS0.out, ← HS1.out, ← HS2.out]
                  rw [rounds_succ]
                  go_wp2
                  go_roundw
                  case rel => exact ⟨j + 1, by omega, by go_num, by rw [HR.out]; exact o2, b2, k2⟩
                  case measure => simp [intOf]; omega


              · have HAX := Lib.hid hax
                have hax2 : (b == xS) = false := by simpa using hax
                clear hax
                go_wp2_with fail
                (refine wp_region_inB (by kernel_rfl) (by kernel_rfl) ?_; (repeat (go_big_quiet_step (fail))); refine wpQuiet_nil ?_; intro w1 hw'; obtain ⟨s1, hw1⟩ := hw'; have hb1 := s1.below; rw [← hw1] at hb1; clear hw1 s1)
                clear qq0 qq1 qqs
                have ow := oy1.below hb1
                have bw := by1.trans (hb1.mono by1.size)
                have kw := ky1.call hb1
                have gw := gy1.call hb1
                have gEw := gE1.call hb1
                clear oy1 by1 ky1 gy1 gE1 hb1
                have HS2 := Lib.hid (show S1 = cnP xS b a S1 by rw [cnP_ne HAX.out])
                have HZ2 := HZ1
                obtain ⟨S2, hSn⟩ : ∃ z, z = S1 := ⟨_, rfl⟩
                try rw [← hSn] at HS0
                try rw [← hSn] at HS1
                rw [← hSn] at ow HS2 HZ2 ⊢
                clear hSn
                obtain ⟨v2, hzn⟩ : ∃ z, z = w1 := ⟨_, rfl⟩
                subst hzn
                have o2 := ow
                have b2 := bw
                have k2 := kw
                have g2 := gw
                clear ow bw kw gw gEw
                go_wp2_with fail
                have HR : Hid (cnR q xS s (j + 1) = S2) := by show _ = _; rw [cnR_succ HF.out HT.out, HS0.out, ← HS1.out, ← HS2.out]
                rw [rounds_succ]
                go_wp2
                go_roundw
                case rel => exact ⟨j + 1, by omega, by go_num, by rw [HR.out]; exact o2, b2, k2⟩
                case measure => simp [intOf]; omega

          · obtain rfl : j = q.f.length := by omega
            have hge : Hid (k + 1 ≤ (cnR q xS s q.f.length).length ∧ cnOkS q (cnR q xS s q.f.length) ∧ cnG q (6 - (k + 1)) (cnR q xS s q.f.length) (k + 1) = cnG q 6 [0] 0) := by
              refine ⟨?_, cnR_ok hq0 HO.out.1 _, ?_⟩
              · have := lt_of_some (cnR_get (q := q) (x := xS) (j := q.f.length) HX.out); omega
              · rw [← HO.out.2, show 6 - k = (6 - (k + 1)) + 1 by omega, cnG_step HX.out]
            obtain ⟨SA0, sc0, hv0, _, _⟩ := o0.form
            subst hv0
            go_wp2
            go_roundw
            case rel => exact ⟨k + 1, _, hge.out.1, by go_num, o0, b0, k0, hge.out.2⟩
            case measure => simp [intOf]; omega
      · obtain rfl : k = s.length := by omega
        have HC : Hid (conQ q = ((s.length : Int) == q.v)) := by
          show _ = _
          rw [conQ, HQ.out, ← HO.out.2, cnG_end (Nat.le_refl _), Bool.true_and]
          rw [Bool.eq_iff_iff]; simp
        go_wp2
        go_ret
        exact ⟨by rw [HC.out]; rfl, hb⟩
end Go.Proofs.Ytkhkamcmlhmpiaa
