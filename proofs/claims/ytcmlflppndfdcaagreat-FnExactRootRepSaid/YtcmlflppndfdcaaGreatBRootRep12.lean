/- FnExactRootRep: the law holds for every argument. Part 12 of 18 of the proof: RtS, SlVs, Conn, ConnI, PenOf, DsM, RpJ, Hom4, KerI, KerI2. No condition. -/
import Derived.Test.YtcmlflppndfdcaaGreatBRootRep11
set_option linter.unusedVariables false
set_option linter.unusedSimpArgs false
namespace Go.Proofs.YtcmlflppndfdcaaGreat
open Go.RowKit
theorem sum_take_succ {l : List Int} {k : Nat} {x : Int} (h : l[k]? = some x) : (l.take (k + 1)).sum = (l.take k).sum + x := by
 rw [take_snoc h, List.sum_append]; simp
theorem sum_take_rng {l : List Int} (h : ∀ y ∈ l, 0 ≤ y ∧ y ≤ 2) : ∀ k, 0 ≤ (l.take k).sum ∧ (l.take k).sum ≤ 2 * (k : Int)
 | 0 => by simp
 | k + 1 => by
  have ih := sum_take_rng h k
  rcases Nat.lt_or_ge k l.length with hk | hk
  ·have e := List.getElem?_eq_getElem hk
   rw [sum_take_succ e]
   have := h _ (List.mem_of_getElem? e)
   omega
  ·rw [List.take_of_length_le (by omega)]
   rw [List.take_of_length_le hk] at ih
   omega
theorem lexB_at : ∀ {a b : List Int} {k : Nat} {x y : Int}, a.take k = b.take k → a[k]? = some x → b[k]? = some y → x ≠ y → lexB a b = decide (x < y)
 | [], _, _, _, _, _, h, _, _ => by simp at h
 | _ :: _, [], _, _, _, _, _, h, _ => by simp at h
 | a :: s, b :: t, 0, x, y, _, hx, hy, hn => by
  simp at hx hy
  subst hx hy
  rw [lexB, if_neg hn]
 | a :: s, b :: t, k + 1, x, y, h, hx, hy, hn => by
  simp at h hx hy
  rw [lexB, if_pos h.1]
  exact lexB_at h.2 hx hy hn
set_option maxHeartbeats 1600000 in
theorem l20Less_any (u v : Value) (a b : List Int) (n : Nat) (w : World) (hu : SlI w w.heap.size u a) (hv : SlI w w.heap.size v b) (la : a.length = n) (lb : b.length = n) (hn : n ≤ 5) (ra : ∀ y ∈ a, 0 ≤ y ∧ y ≤ 2) (rb : ∀ y ∈ b, 0 ≤ y ∧ y ≤ 2) :
  Calls Tryz.prog 116 #[u, v] w fun e w' => e = .returned (.bool (ltR a b)) ∧ ∃ m, w' = w.drewN m := by
 obtain ⟨A, c, rfl, _, _, _, hx⟩ := hu.open_
 obtain ⟨C, d, rfl, _, _, _, hy⟩ := hv.open_
 have LA := Lib.hid la
 have LB := Lib.hid lb
 have SA := Lib.hid (sum_take_rng ra)
 have SB := Lib.hid (sum_take_rng rb)
 rw [la, lb]
 rw [la] at hx
 rw [lb] at hy
 clear hu hv la lb ra rb
 go_enter Tryz.func116, Tryz.ntmps116
 go_wp2
 go_loop [5, 6, 7] (fun s t i => ∃ k : Nat, k ≤ n ∧ i = .int .i64 k ∧ s = .int .i64 (a.take k).sum ∧ t = .int .i64 (b.take k).sum) (fun _ _ i => n - (intOf i).toNat)
 case atStart => exact ⟨0, Nat.zero_le _, rfl, by simp, by simp⟩
 case round =>
  obtain ⟨k, hk, rfl, rfl, rfl⟩ := hrel
  have ha := SA.out k
  have hb := SB.out k
  by_cases hlt : k < n
  ·obtain ⟨b1, o1, y, rfl, hb1, HY, y1, _⟩ := SlI.atN hx LA.out hlt
   obtain ⟨b2, o2, z, rfl, hb2, HZ, z1, _⟩ := SlI.atN hy LB.out hlt
   have ha' := SA.out (k + 1)
   have hb' := SB.out (k + 1)
   rw [sum_take_succ HY.out] at ha'
   rw [sum_take_succ HZ.out] at hb'
   have hst := Lib.hid (sum_take_succ HY.out)
   have hst' := Lib.hid (sum_take_succ HZ.out)
   obtain ⟨S, hS⟩ : ∃ S, (a.take k).sum = S := ⟨_, rfl⟩
   obtain ⟨T, hT⟩ : ∃ T, (b.take k).sum = T := ⟨_, rfl⟩
   rw [hS] at ha ha' hst ⊢
   rw [hT] at hb hb' hst' ⊢
   clear hS hT hx hy
   go_wp2
   go_roundw
   case rel => exact ⟨k + 1, by omega, by go_num, by rw [hst.out], by rw [hst'.out]⟩
   case measure => simp [intOf]; omega
  ·obtain rfl : k = n := by omega
   have ea : a.take k = a := List.take_of_length_le (by have := LA.out; omega)
   have eb : b.take k = b := List.take_of_length_le (by have := LB.out; omega)
   rw [ea] at ha ⊢
   rw [eb] at hb ⊢
   obtain ⟨S, hS⟩ : ∃ S, a.sum = S := ⟨_, rfl⟩
   obtain ⟨T, hT⟩ : ∃ T, b.sum = T := ⟨_, rfl⟩
   rw [hS] at ha ⊢
   rw [hT] at hb ⊢
   have HS := Lib.hid hS
   have HT := Lib.hid hT
   clear hS hT ea eb
   by_cases he : S = T
   ·subst he
    have HC : Hid (ltR a b = lexB a b) := by show _ = _; rw [ltR, HS.out, HT.out, if_pos rfl]
    go_wp2
    go_loopw [8] (fun i wr => ∃ j q : Nat, j ≤ k ∧ i = .int .i64 j ∧ wr = w.drewN q ∧ Hid (a.take j = b.take j)) (fun i _ => k - (intOf i).toNat)
    case atStart => exact ⟨0, 0, Nat.zero_le _, rfl, rfl, rfl⟩
    case round =>
     obtain ⟨j, q, hj, rfl, rfl, hxy⟩ := hrel
     by_cases hlt : j < k
     ·obtain ⟨b1, o1, y, rfl, hb1, HY, y1, _⟩ := SlI.atN hx LA.out hlt
      obtain ⟨b2, o2, z, rfl, hb2, HZ, z1, _⟩ := SlI.atN hy LB.out hlt
      clear hx hy
      by_cases hE : y = z
      ·subst hE
       go_wp2
       go_quiet (fail)
       go_wp2
       go_roundw
       case rel =>
        refine ⟨j + 1, q + nq, by omega, by go_num, rfl, ?_⟩
        show _ = _
        rw [take_snoc HY.out, take_snoc HZ.out, hxy.out]
       case measure => simp [intOf]; omega
      ·have hne : (y != z) = true := by simpa using hE
       have HR : Hid (ltR a b = decide (y < z)) := by show _ = _; rw [HC.out]; exact lexB_at hxy.out HY.out HZ.out hE
       clear hE
       go_wp2
       go_quiet (fail)
       go_wp2
       obtain ⟨Wq, hWq⟩ : ∃ Wq, (w.drewN q).drewN nq = Wq := ⟨_, rfl⟩
       have y2 : Wq.cell? ⟨b1, o1 + j, none⟩ = some (.int .i64 y) := by rw [← hWq]; exact y1
       have z2 : Wq.cell? ⟨b2, o2 + j, none⟩ = some (.int .i64 z) := by rw [← hWq]; exact z1
       have HW := Lib.hid hWq
       try rw [hWq]
       clear hWq
       go_quiet (fail)
       go_wp2
       go_ret
       exact ⟨by rw [HR.out]; rfl, _, by rw [← HW.out, World.drewN_drewN, World.drewN_drewN]⟩
     ·obtain rfl : j = k := by omega
      have HR : Hid (ltR a b = false) := by
       show _ = _
       have h := hxy.out
       rw [List.take_of_length_le (by have := LA.out; omega), List.take_of_length_le (by have := LB.out; omega)] at h
       rw [HC.out, h, lexB_irrefl]
      go_wp2
      go_ret
      exact ⟨by rw [HR.out]; rfl, q, rfl⟩
   ·have hne : (S != T) = true := by simpa using he
    have HC : Hid (ltR a b = decide (S < T)) := by show _ = _; rw [ltR, HS.out, HT.out, if_neg he]
    go_wp2
    go_ret
    exact ⟨by rw [HC.out]; rfl, 0, rfl⟩
set_option maxHeartbeats 800000 in
theorem l20Has_any (u v : Value) (ll : List (List Int)) (x : List Int) (w : World) (hu : SlII w w.heap.size u ll) (hv : SlI w w.heap.size v x) :
  Calls Tryz.prog 89 #[u, v] w fun e w' => e = .returned (.bool (decide (x ∈ ll))) ∧ Below w.heap.size w w' := by
 obtain ⟨A, c, rfl, _, _, ln, hx⟩ := hu.open_
 obtain ⟨C, d, rfl, _, _, _, hy⟩ := hv.open_
 clear hu hv
 go_enter Tryz.func89, Tryz.ntmps89
 go_wp2
 go_loopw [5] (fun i wr => ∃ k : Nat, k ≤ ll.length ∧ i = .int .i64 k ∧ Below w.heap.size w wr ∧ Hid (x ∉ ll.take k)) (fun i _ => ll.length - (intOf i).toNat)
 case atStart => exact ⟨0, Nat.zero_le _, rfl, Below.refl _ _, by show x ∉ _; simp⟩
 case round =>
  obtain ⟨k, hk, rfl, hbel, hno⟩ := hrel
  by_cases hlt : k < ll.length
  ·obtain ⟨b1, o1, l, A', c', rfl, hb1, HL, y1, hl⟩ := SlII.at_ hx hlt
   have y2 := bcell hbel hb1 y1
   have hx2 := SlI.more hbel.size (SlI.below hbel hl)
   have hy2 := SlI.more hbel.size (SlI.below hbel hy)
   by_cases he : l = x
   ·have HE := Lib.hid he
    clear he
    go_wp2_with fail
    refine (l6Same_any _ _ l x wr hx2 hy2).mono ?_; rintro e w1 ⟨rfl, hb⟩
    rw [decide_eq_true HE.out]
    have HR : Hid (x ∈ ll) := by have := HL.out; rw [HE.out] at this; exact List.mem_of_getElem? this
    go_wp2
    go_ret
    exact ⟨by rw [decide_eq_true HR.out]; rfl, bthen hbel hb⟩
   ·have HE := Lib.hid he
    clear he
    go_wp2_with fail
    refine (l6Same_any _ _ l x wr hx2 hy2).mono ?_; rintro e w1 ⟨rfl, hb⟩
    rw [decide_eq_false HE.out]
    go_wp2
    go_roundw
    case rel =>
     refine ⟨k + 1, by omega, by go_num, bthen hbel hb, ?_⟩
     show x ∉ _
     rw [take_snoc HL.out, List.mem_append, List.mem_singleton]
     rintro (h | h)
     ·exact hno.out h
     ·exact HE.out h.symm
    case measure => simp [intOf]; omega
  ·have HR : Hid (x ∉ ll) := by have := hno.out; rwa [List.take_of_length_le (by omega)] at this
   go_wp2
   go_ret
   exact ⟨by rw [decide_eq_false HR.out]; rfl, hbel⟩
end Go.Proofs.YtcmlflppndfdcaaGreat
namespace Go.Proofs.YtcmlflppndfdcaaGreat
open Go.RowKit
theorem addr_add (b o j : Nat) : (⟨b, o, none⟩ : Addr).add j = ⟨b, o + j, none⟩ := by unfold Addr.add; split <;> simp_all
def RV (w : World) (_B b o : Nat) (x : Value) : Prop := w.cell? ⟨b, o, none⟩ = some x ∧ x.oneCell' = true
abbrev SlV := SlG 1 RV
theorem SlV.below {w w' : World} {B : Nat} {v : Value} {l : List Value} (hb : Below B w w') (h : SlV w B v l) : SlV w' B v l :=
 SlG.mono (fun _ _ _ hlt ⟨hc, hx⟩ => ⟨bcell hb hlt hc, hx⟩) (Nat.le_refl _) h
theorem SlV.more {w : World} {B B' : Nat} {v : Value} {l : List Value} (hB : B ≤ B') (h : SlV w B v l) : SlV w B' v l :=
 SlG.mono (B := B) (B' := B') (fun _ _ _ _ h => h) hB h
theorem SlV.next {w w' : World} {v : Value} {l : List Value} (hb : Below w.heap.size w w') (h : SlV w w.heap.size v l) : SlV w' w'.heap.size v l := SlV.more hb.size (SlV.below hb h)
theorem SlV.one {w : World} {B : Nat} {v : Value} {l : List Value} (h : SlV w B v l) : ∀ u ∈ l, u.oneCell' = true := by
 obtain ⟨A, c, _, _, _, _, h4⟩ := h
 intro x hx
 obtain ⟨j, hj⟩ := List.getElem?_of_mem hx
 obtain ⟨_, _, _, _, hr⟩ := h4 (by have := lt_of_some hj; omega)
 exact (hr j x hj).2
theorem NewsAt.of_slV {w : World} {B : Nat} {A : Option Addr} {c : Nat} {l : List Value} (h : SlV w B (.slice A l.length c) l) : NewsAt w A l.length l 1 := by
 refine ⟨by simp, ?_⟩
 obtain ⟨A', c', e, h1, h2, h3, h4⟩ := h
 injection e with e1 e2 e3; subst e1
 rcases Nat.eq_zero_or_pos l.length with h0 | h0
 ·exact .inl h0
 ·obtain ⟨b, o, rfl, _, hc⟩ := h4 h0
  exact .inr ⟨b, o, rfl, fun j u hu => by simpa using (hc j u hu).1⟩
theorem SlV.takeS {w : World} {B c k : Nat} {A : Option Addr} {l : List Value} (h : SlV w B (.slice A l.length c) l) (hk : k ≤ l.length) : SlV w B (.slice A k c) (l.take k) := by
 obtain ⟨A', c', e, h1, h2, h3, h4⟩ := h
 injection e with e1 e2 e3
 subst e1 e3
 refine ⟨A, c, by rw [List.length_take]; congr 1; omega, by rw [List.length_take]; omega, h2, by rw [List.length_take]; omega, fun hp => ?_⟩
 rw [List.length_take] at hp
 obtain ⟨b, o, e, hb, hc⟩ := h4 (by omega)
 refine ⟨b, o, e, hb, fun j x hj => hc j x ?_⟩
 rw [List.getElem?_take] at hj
 split at hj
 ·exact hj
 ·cases hj
theorem SlV.dropS {w : World} {B c k g o : Nat} {l : List Value} (h : SlV w B (.slice (some ⟨g, o, none⟩) l.length c) l) (hk : k ≤ l.length) : SlV w B (.slice (some ⟨g, o + k, none⟩) (l.length - k) (c - k)) (l.drop k) := by
 have h' := h
 obtain ⟨A', c', e, h1, h2, h3, h4⟩ := h'
 injection e with e1 e2 e3
 subst e3
 refine ⟨some ⟨g, o + k, none⟩, c - k, by rw [List.length_drop], by rw [List.length_drop]; omega, by omega, by rw [List.length_drop]; omega, fun hp => ?_⟩
 rw [List.length_drop] at hp
 obtain ⟨b, o', e, hb, hc⟩ := h4 (by omega)
 rw [← e1] at e
 injection e with e
 injection e with e5 e6
 subst e5 e6
 refine ⟨g, o + k, rfl, hb, fun j x hj => ?_⟩
 rw [List.getElem?_drop] at hj
 have := hc _ x hj
 rwa [show o + (k + j) * 1 = o + k + j * 1 by omega] at this
def OwnV (w : World) (base : Nat) (v : Value) (vs : List Value) : Prop := w.ownsRow base 22 1 v vs.length vs ∧ vs.length ≤ 17592186044416 ∧ ∀ u ∈ vs, u.oneCell' = true
theorem OwnV.rd {w : World} {base : Nat} {v : Value} {l : List Value} (h : OwnV w base v l) : SlV w w.heap.size v l := by
 obtain ⟨h1, h2, h3⟩ := h
 rcases h1.2 with ⟨rfl, h0⟩ | ⟨g, cap, cur, rfl, _, hg, hnc, hcm, hcs, htake⟩
 ·obtain rfl : l = [] := List.eq_nil_of_length_eq_zero h0
  exact SlG.nil
 ·refine ⟨_, _, rfl, hnc, by simp only [maxLen] at hcm; omega, h2, fun hp => ⟨g, 0, rfl, (Array.getElem?_eq_some_iff.1 hg).1, fun j x hj => ⟨?_, h3 x (List.mem_of_getElem? hj)⟩⟩⟩
  have hc := h1.cellAt j (by have := lt_of_some hj; omega)
  rw [show 0 + j * 1 = j by omega, hc, hj]
theorem OwnV.below {w w' : World} {base : Nat} {v : Value} {l : List Value} (h : OwnV w base v l) (hb : Below w.heap.size w w') : OwnV w' base v l :=
 ⟨h.1.kept (row := none) ⟨hb.os, hb.tape, hb.output, hb.size, fun k hk _ => hb.block k hk⟩ (by cases v.ownBlock <;> simp), h.2⟩
theorem OwnV.lt {w : World} {base : Nat} {v : Value} {l : List Value} (h : OwnV w base v l) : ∀ k, v.ownBlock = some k → base ≤ k ∧ k < w.heap.size := h.1.lt
theorem OwnV.lower {w : World} {base base' : Nat} {v : Value} {l : List Value} (h : OwnV w base v l) (hb : base' ≤ base) : OwnV w base' v l := by
 obtain ⟨⟨h0, h1⟩, h2⟩ := h
 refine ⟨⟨h0, ?_⟩, h2⟩
 rcases h1 with h1 | ⟨g, cap, cur, e, hg, rest⟩
 ·exact .inl h1
 ·exact .inr ⟨g, cap, cur, e, by omega, rest⟩
theorem OwnV.form {w : World} {base : Nat} {v : Value} {l : List Value} (h : OwnV w base v l) : ∃ A c, v = .slice A l.length c ∧ l.length ≤ c ∧ c ≤ 9223372036854775807 := by
 rcases h.1.2 with ⟨rfl, h0⟩ | ⟨g, cap, cur, rfl, _, _, hnc, hcm, _⟩
 ·exact ⟨none, 0, by rw [h0], by omega, by omega⟩
 ·exact ⟨_, _, rfl, hnc, by simp only [maxLen] at hcm; omega⟩
theorem wpList_appV {w : World} {ops : Array Oper} {rest : List Oper} {o : Oper} {a : Act} {Q : Exit → Act → World → Prop} (hgd : o.guard = none) (s x : Operand)
  (ho : o.op = .call { callee := .builtin .append, args := #[s, x], argTypes := #[57, 57] })
  (base B : Nat) (v : Value) (l : List Value) (hs : a.eval s = v) (hown : OwnV w base v l) (A : Option Addr) (m c : Nat) (news : List Value) (hx : a.eval x = .slice A m c) (hm : m = news.length) (hr : SlV w B (.slice A news.length c) news)
  (hn : l.length + news.length ≤ 1048576) (hbase : base ≤ w.heap.size)
  (h : ∀ v' w', OwnV w' base v' (l ++ news) → w.grownBy w' v.ownBlock → (v'.ownBlock = v.ownBlock ∨ v'.ownBlock = some w.heap.size) → wpList Tryz.prog ops Q rest (a.put o.dst v') w') : wpList Tryz.prog ops Q (o :: rest) a w := by
 subst hm
 obtain ⟨i0, hi, hz0, hz1, hz2⟩ := info_parts infoInts
 refine wpList_append_G w hgd s x _ ho base 22 i0 _ 1 24 Tryz.underlying57 hi hz0 hz1 hz2 rfl (by decide) v l.length _ hs hown.1 A _ c _ hx (NewsAt.of_slV hr) (SlV.one hr) (by simp only [maxLen]; omega) (by omega) hbase fun v' w' h1 h2 h3 => ?_
 refine h v' w' ⟨by simpa using h1, by simp; omega, fun y hy => ?_⟩ h2 h3
 rcases List.mem_append.1 hy with hy | hy
 ·exact hown.2.2 y hy
 ·exact SlV.one hr y hy
theorem wpList_append_freshV {w : World} {ops : Array Oper} {rest : List Oper} {o : Oper} {a : Act} {Q : Exit → Act → World → Prop} (hgd : o.guard = none) (s x : Operand)
  (ho : o.op = .call { callee := .builtin .append, args := #[s, x], argTypes := #[57, 57] })
  (g lo B : Nat) (cs : Array Value) (hs : a.eval s = .slice (some ⟨g, 0, none⟩) 0 0) (hg : Blk w g 22 cs) (hcs : cs.size = 0) (hlo : lo ≤ g) (A : Option Addr) (m c : Nat) (news : List Value) (hx : a.eval x = .slice A m c) (hm : m = news.length) (hr : SlV w B (.slice A news.length c) news) (hn2 : news.length ≤ 1048576)
  (h : ∀ v' w', OwnV w' lo v' news → Below w.heap.size w w' → wpList Tryz.prog ops Q rest (a.put o.dst v') w') : wpList Tryz.prog ops Q (o :: rest) a w := by
 subst hm
 obtain ⟨i0, hi, hz0, hz1, hz2⟩ := info_parts infoInts
 have hn := hr
 obtain ⟨_, _, _, _, _, hn, hcell⟩ := hn
 have hI := SlV.one hr
 refine wpList_plain hgd fun K hK => ?_
 by_cases hp : 0 < news.length
 ·obtain ⟨hl, hnews⟩ := NewsAt.of_slV hr
  obtain ⟨b', of', eA', hc'⟩ := hnews.resolve_left (by omega)
  subst eA'
  have hadd : ∀ j, (⟨b', of', none⟩ : Addr).add j = ⟨b', of' + j, none⟩ := addr_add b' of'
  obtain ⟨v', w', hrun, hown, hgr⟩ := run_append_arg_grows (P := Tryz.prog) w 57 o.type 22 i0 _ 1 24 Tryz.underlying57 hi hz0 hz1 hz2 rfl (by decide) ⟨g, 0, none⟩ 0 0 [] (by simp) (by intro j u hj; simp at hj) ⟨b', of', none⟩ news.length c news hl (fun j u hj => by rw [hadd]; exact hc' j u hj) (by omega) (by simp only [maxLen]; omega) (by omega)
  unfold Oper.wp execOp
  simp only [ho, resolve, invoke, builtin, Sem.run_bind, Sem.run_pure, Result.andThen_ok, List.map_toArray, List.map_cons, List.map_nil, hs, hx, hrun]
  refine hK _ _ (h v' w' ?_ ⟨hgr.os, hgr.tape, hgr.output, hgr.size, fun k hk => hgr.block k hk (by simp)⟩)
  have hgl := hg.lt
  exact OwnV.lower (base := w.heap.size) ⟨by simpa using hown, hn, hI⟩ (by omega)
 ·have h0 : news = [] := List.eq_nil_of_length_eq_zero (by omega)
  subst h0
  have hrun : (Builtin.append_ #[57, 57] o.type #[.slice (some ⟨g, 0, none⟩) 0 0, .slice A 0 c]).run Tryz.prog w = .ok (.slice (some ⟨g, 0, none⟩) 0 0) w := by
   cases A <;> simp [Builtin.append_, run_underlying (P := Tryz.prog) Tryz.underlying57, sizeOf, typeInfo, hi, Builtin.lenOf, Builtin.firstCells, storeCells, loadCells, loadCellsFrom]
  simp only [List.length_nil] at hx
  unfold Oper.wp execOp
  simp only [ho, resolve, invoke, builtin, Sem.run_bind, Sem.run_pure, Result.andThen_ok, List.map_toArray, List.map_cons, List.map_nil, hs, hx, hrun]
  refine hK _ _ (h _ w ?_ (Below.refl _ _))
  have := hg.own (base := lo) (n := 0) (cap := 0) (size := 1) hlo (Nat.le_refl _) (by simp only [maxLen]; omega) (by omega)
  exact ⟨by simpa using this, by simp, by simp⟩
def FreshV (w : World) (lo : Nat) (u : Value) : Prop := ∃ g, u = .slice (some ⟨g, 0, none⟩) 0 0 ∧ lo ≤ g ∧ Blk w g 22 #[]
theorem FreshV.below {w w' : World} {lo : Nat} {u : Value} (h : FreshV w lo u) (hb : Below w.heap.size w w') : FreshV w' lo u := by
 obtain ⟨g, e, h1, h2⟩ := h
 exact ⟨g, e, h1, h2.call hb⟩
theorem FreshV.new (w : World) {lo : Nat} (h : lo ≤ w.heap.size) : FreshV (w.alloc (.cells #[] 22)) lo (.slice (some ⟨w.heap.size, 0, none⟩) 0 0) := ⟨_, rfl, h, Blk.new _ _ _⟩
theorem SlV.new (w : World) (t : TypeId) (x : Value) (hx : x.oneCell' = true) : SlV (w.alloc (.cells #[x] t)) (w.alloc (.cells #[x] t)).heap.size (.slice (some ⟨w.heap.size, 0, none⟩) 1 1) [x] := by
 refine ⟨_, 1, rfl, by simp, by omega, by simp, fun _ => ⟨w.heap.size, 0, rfl, by simp, fun j y hj => ?_⟩⟩
 match j, hj with
 | 0, hj =>
  simp at hj
  subst hj
  exact ⟨by simp, hx⟩
 | j + 1, hj => simp at hj
theorem SlV.ii {w : World} {B : Nat} {v : Value} {vs : List Value} {ll : List (List Int)} (h : SlV w B v vs) (hl : vs.length = ll.length) (hr : ∀ (j : Nat) (u : Value) (l : List Int), vs[j]? = some u → ll[j]? = some l → SlI w B u l) : SlII w B v ll := by
 obtain ⟨A, c, rfl, h1, h2, h3, h4⟩ := h
 refine ⟨A, c, by rw [hl], by omega, h2, by omega, fun hp => ?_⟩
 obtain ⟨b, o, e, hb, hc⟩ := h4 (by omega)
 refine ⟨b, o, e, hb, fun j l hj => ?_⟩
 have hlt := lt_of_some hj
 have hv : vs[j]? = some (vs[j]'(by omega)) := List.getElem?_eq_getElem (by omega)
 exact ⟨_, (hc j _ hv).1, hr j _ l hv hj⟩
end Go.Proofs.YtcmlflppndfdcaaGreat
namespace Go.Proofs.YtcmlflppndfdcaaGreat
open Go.RowKit
def cnP (x a b : Int) (s : List Int) : List Int := if a = x ∧ b ∉ s then s ++ [b] else s
def cnA (x : Int) (s : List Int) (p : Int × Int) : List Int := cnP x p.2 p.1 (cnP x p.1 p.2 s)
def cnR (q : Qv) (x : Int) (s : List Int) (k : Nat) : List Int := ((q.f.zip q.t).take k).foldl (cnA x) s
def cnG (q : Qv) : Nat → List Int → Nat → List Int
 | 0, s, _ => s
 | n + 1, s, k => if k < s.length then cnG q n (cnR q (s.getD k 0) s q.f.length) (k + 1) else s
def conQ (q : Qv) : Bool := isQ q && decide (((cnG q 6 [0] 0).length : Int) = q.v)
structure cnOkS (q : Qv) (s : List Int) : Prop where
 nd : s.Nodup
 rng : ∀ x ∈ s, 0 ≤ x ∧ x ≤ q.v - 1
theorem cnOkS.len {q : Qv} {s : List Int} (h : cnOkS q s) (hv : q.v ≤ 5) : s.length ≤ 5 := by
 have := nodup_sub s [0, 1, 2, 3, 4] h.nd fun x hx => by
  have := h.rng x hx
  have : x = 0 ∨ x = 1 ∨ x = 2 ∨ x = 3 ∨ x = 4 := by omega
  rcases this with rfl | rfl | rfl | rfl | rfl <;> simp
 simpa using this
theorem cnOkS.add {q : Qv} {s : List Int} (h : cnOkS q s) {b : Int} (hb : 0 ≤ b ∧ b ≤ q.v - 1) (hn : b ∉ s) : cnOkS q (s ++ [b]) := by
 refine ⟨?_, fun x hx => ?_⟩
 ·rw [List.nodup_append]
  refine ⟨h.nd, by simp, fun x hx y hy => ?_⟩
  rw [List.mem_singleton] at hy
  subst hy
  rintro rfl
  exact hn hx
 ·rcases List.mem_append.1 hx with hx | hx
  ·exact h.rng x hx
  ·rw [List.mem_singleton] at hx; subst hx; exact hb
end Go.Proofs.YtcmlflppndfdcaaGreat
namespace Go.Proofs.YtcmlflppndfdcaaGreat
open Go.RowKit
end Go.Proofs.YtcmlflppndfdcaaGreat
namespace Go.Proofs.YtcmlflppndfdcaaGreat
open Go.RowKit
theorem SlM.two {w : World} {B g : Nat} {a b : Mx} {u v : Value} (hB : B = w.heap.size) (hg : Blk w g 50 #[.int .i64 a.r, .int .i64 a.c, u, .int .i64 b.r, .int .i64 b.c, v]) (ha : SlI w B u a.a) (hb : SlI w B v b.a) (i1 : I64 a.r ∧ I64 a.c) (i2 : I64 b.r ∧ I64 b.c) : SlM w B (.slice (some ⟨g, 0, none⟩) 2 2) [a, b] := by
 refine ⟨_, 2, rfl, by simp, by omega, by simp, fun _ => ⟨g, 0, rfl, by rw [hB]; exact hg.lt, fun j x hj => ?_⟩⟩
 match j, hj with
 | 0, hj =>
  simp at hj
  subst hj
  exact ⟨u, hg.cell' (i := 0) rfl, hg.cell' (i := 1) rfl, hg.cell' (i := 2) rfl, ha, i1⟩
 | 1, hj =>
  simp at hj
  subst hj
  exact ⟨v, hg.cell' (i := 3) rfl, hg.cell' (i := 4) rfl, hg.cell' (i := 5) rfl, hb, i2⟩
 | j + 2, hj => simp at hj
theorem IntsO.two (w : World) {lo : Nat} (x y : Int) (hx : I64 x) (hy : I64 y) (hlo : lo ≤ w.heap.size) : IntsO (w.alloc (.cells #[.int .i64 x, .int .i64 y] 3)) lo (w.alloc (.cells #[.int .i64 x, .int .i64 y] 3)).heap.size (.slice (some ⟨w.heap.size, 0, none⟩) 2 2) [x, y] :=
 IntsO.of_own (OwnI.of_blk (xs := [x, y]) (Blk.new _ _ _) hlo ⟨rfl, fun j z hj hz => by
  match j, hz with
  | 0, hz => simp at hz; subst hz; rfl
  | 1, hz => simp at hz; subst hz; rfl
  | j + 2, hz => simp at hz⟩ (by simp) (by simp [hx, hy]))
theorem Fam.three {w : World} {lo hi l1 h1 l2 h2 l3 h3 : Nat} {L1 L2 L3 : List (Value × List Int)} (f1 : Fam w l1 h1 L1) (f2 : Fam w l2 h2 L2) (f3 : Fam w l3 h3 L3) (d12 : h1 ≤ l2 ∨ h2 ≤ l1) (d13 : h1 ≤ l3 ∨ h3 ≤ l1) (d23 : h2 ≤ l3 ∨ h3 ≤ l2)
  (b1 : lo ≤ l1 ∧ h1 ≤ hi) (b2 : lo ≤ l2 ∧ h2 ≤ hi) (b3 : lo ≤ l3 ∧ h3 ≤ hi) : Fam w lo hi (L1 ++ (L2 ++ L3)) := by
 have ap : ∀ {l1 h1 l2 h2 : Nat} {L1 L2 : List (Value × List Int)}, Fam w l1 h1 L1 → Fam w l2 h2 L2 → (h1 ≤ l2 ∨ h2 ≤ l1) → ∀ a ∈ L1, ∀ b ∈ L2, a.1.ownBlock = none ∨ a.1.ownBlock ≠ b.1.ownBlock := by
  intro l1 h1 l2 h2 L1 L2 f g hd a ha b hb
  rcases hA : a.1.ownBlock with _ | x
  ·exact .inl rfl
  ·right
   intro e
   have q1 := (f.1 a ha).2 x hA
   have q2 := ((f.1 a ha).1.lt x hA).1
   have q3 := (g.1 b hb).2 x e.symm
   have q4 := ((g.1 b hb).1.lt x e.symm).1
   omega
 refine ⟨fun p hp => ?_, ?_⟩
 ·rcases List.mem_append.1 hp with hp | hp
  ·exact (f1.1 p hp).wider b1.1 b1.2
  ·rcases List.mem_append.1 hp with hp | hp
   ·exact (f2.1 p hp).wider b2.1 b2.2
   ·exact (f3.1 p hp).wider b3.1 b3.2
 ·rw [List.pairwise_append, List.pairwise_append]
  refine ⟨f1.2, ⟨f2.2, f3.2, ap f2 f3 d23⟩, fun a ha b hb => ?_⟩
  rcases List.mem_append.1 hb with hb | hb
  ·exact ap f1 f2 d12 a ha b hb
  ·exact ap f1 f3 d13 a ha b hb
def penRep (p : Int) (a b : Mx) : Rp := ⟨p, pQ, [a.c, a.r], [a, b]⟩
def penOf (p : Int) (a b : Mx) : Rp × Bool := if isRep (penRep p a b) then (penRep p a b, true) else (rp0, false)
end Go.Proofs.YtcmlflppndfdcaaGreat
namespace Go.Proofs.YtcmlflppndfdcaaGreat
open Go.RowKit
abbrev set3 (w : World) (g i : Nat) (a b c : Value) : World := ((w.setCell ⟨g, i, none⟩ a).setCell ⟨g, i + 1, none⟩ b).setCell ⟨g, i + 2, none⟩ c
theorem RowO.len {T : TypeId} {sz : Nat} {w : World} {lo hi g c n m : Nat} {cs : List Value} (h : RowO T sz w lo hi (.slice (some ⟨g, 0, none⟩) n c) m cs) : n = m := by
 rcases h.1.2 with ⟨e, _⟩ | ⟨g', cap', cur, e, _⟩
 ·cases e
 ·injection e with _ e _
theorem chg_set1 (w : World) (g i : Nat) (u : Value) : Chg g (g + 1) w (w.setCell ⟨g, i, none⟩ u) := chg_set (Nat.le_refl _) (Nat.lt_succ_self _)
theorem OutM.blk {w : World} {lo hi g n c : Nat} {vs : List Value} {ms : List Mx} (h : OutM w lo hi (.slice (some ⟨g, 0, none⟩) n c) vs ms) : ∃ cs, Blk w g 50 cs ∧ lo ≤ g ∧ g < hi := by
 have hg := h.2.1 g rfl
 rcases h.1.2 with ⟨e, _⟩ | ⟨g', cap', cur, e, k1, hh, _⟩
 ·cases e
 ·injection e with e1 e2 _
  injection e1 with e1
  injection e1 with e1
  subst e1
  exact ⟨cur, hh, k1, hg⟩
theorem Fam.set3 {w : World} {lo hi g i : Nat} {L : List (Value × List Int)} {t : TypeId} {cs : Array Value} (h : Fam w lo hi L) (hb : Blk w g t cs) (ht : 3 ≠ t) (a b c : Value) : Fam (set3 w g i a b c) lo hi L :=
 ((h.setBlk hb ht a).setBlk (hb.set_ i a) ht b).setBlk ((hb.set_ i a).set_ (i + 1) b) ht c
theorem RepO.mxAt {w : World} {lo hi j : Nat} {p v : Int} {f t d m : Value} {x : Rp} {y : Mx} (h : RepO w lo hi (.agg #[.int .i64 p, .int .i64 v, f, t, d, m]) x) (hj : x.m[j]? = some y) :
  ∃ g c s, m = .slice (some ⟨g, 0, none⟩) x.m.length c ∧ lo ≤ g ∧ g < hi ∧ w.cell? ⟨g, j * 3, none⟩ = some (.int .i64 y.r) ∧ w.cell? ⟨g, j * 3 + 1, none⟩ = some (.int .i64 y.c) ∧ w.cell? ⟨g, j * 3 + 2, none⟩ = some s ∧ IntsO w lo hi s y.a ∧ (∀ i, w.frozen? ⟨g, i, none⟩ = false) ∧ I64 y.r ∧ I64 y.c := by
 obtain ⟨f', t', d', m', vs, e, hO, hvl, hF, hi1, hi2⟩ := h
 simp only [Value.agg.injEq, Array.mk.injEq, List.cons.injEq, and_true] at e
 obtain ⟨_, _, rfl, rfl, rfl, rfl⟩ := e
 have hjl := lt_of_some hj
 have hv : vs[j]? = some (vs[j]'(by omega)) := List.getElem?_eq_getElem (by omega)
 obtain ⟨a, b, c⟩ := mxCs_get hv hj
 rcases hO.1.2 with ⟨rfl, h0⟩ | ⟨g, cap, cur, rfl, k1, hh, _⟩
 ·omega
 ·have e := fun i (hi : i < 3) => hO.1.cellAt (j * 3 + i) (by omega)
  have hs := Fam.getAt (L0 := [(f, x.q.f), (t, x.q.t), (d, x.d)]) hF hv (l := y.a) (by simp [hj])
  exact ⟨g, cap, _, rfl, k1, hO.2.1 g rfl, by rw [show j * 3 = j * 3 + 0 by omega, e 0 (by omega)]; exact a, by rw [e 1 (by omega)]; exact b, by rw [e 2 (by omega)]; exact c, hs, fun i => hO.1.frozenAt i, hi2 y (List.mem_of_getElem? hj)⟩
end Go.Proofs.YtcmlflppndfdcaaGreat
namespace Go.Proofs.YtcmlflppndfdcaaGreat
open Go.RowKit
theorem IntsO.set3 {w : World} {lo hi g i : Nat} {v : Value} {l : List Int} {t : TypeId} {cs : Array Value} (h : IntsO w lo hi v l) (hb : Blk w g t cs) (ht : 3 ≠ t) (a b c : Value) : IntsO (set3 w g i a b c) lo hi v l := by
 have h1 : Fam w lo hi [(v, l)] := ⟨fun p hp => by simp at hp; rw [hp]; exact h, by simp⟩
 exact (h1.set3 (i := i) hb ht a b c).1 (v, l) (by simp)
theorem RepI.blk {w : World} {lo hi g n c : Nat} {p v : Int} {f t d : Value} {x : Rp} (h : RepI w lo hi (.agg #[.int .i64 p, .int .i64 v, f, t, d, .slice (some ⟨g, 0, none⟩) n c]) x) : ∃ cs, Blk w g 50 cs ∧ lo ≤ g ∧ g < hi := by
 obtain ⟨f', t', d', m', vs, mi0, e, i1, i2, i3, hO, hvl, hF, hmi, hi1, hi2⟩ := h
 simp only [Value.agg.injEq, Array.mk.injEq, List.cons.injEq, and_true] at e
 obtain ⟨rfl2, rfl3, rfl, rfl, rfl, rfl⟩ := e
 exact OutM.blk hO
theorem RepI.mxAt {w : World} {lo hi j : Nat} {p v : Int} {f t d m : Value} {x : Rp} {y : Mx} (h : RepI w lo hi (.agg #[.int .i64 p, .int .i64 v, f, t, d, m]) x) (hj : x.m[j]? = some y) :
  ∃ g c s, m = .slice (some ⟨g, 0, none⟩) x.m.length c ∧ lo ≤ g ∧ g < hi ∧ w.cell? ⟨g, j * 3, none⟩ = some (.int .i64 y.r) ∧ w.cell? ⟨g, j * 3 + 1, none⟩ = some (.int .i64 y.c) ∧ w.cell? ⟨g, j * 3 + 2, none⟩ = some s ∧ IntsO w lo hi s y.a ∧ (∀ i, w.frozen? ⟨g, i, none⟩ = false) := by
 obtain ⟨f', t', d', m', vs, mi0, e, i1, i2, i3, hO, hvl, hF, hmi, hi1, hi2⟩ := h
 simp only [Value.agg.injEq, Array.mk.injEq, List.cons.injEq, and_true] at e
 obtain ⟨_, _, rfl, rfl, rfl, rfl⟩ := e
 have hjl := lt_of_some hj
 have hv : vs[j]? = some (vs[j]'(by omega)) := List.getElem?_eq_getElem (by omega)
 obtain ⟨a, b, c⟩ := mxCs_get hv hj
 have hR : RepO w lo hi (.agg #[.int .i64 x.p, .int .i64 x.q.v, .slice none 0 0, .slice none 0 0, .slice none 0 0, m]) ⟨x.p, ⟨x.q.v, [], []⟩, [], x.m⟩ := by
  refine ⟨_, _, _, _, vs, rfl, hO, hvl, ?_, hi1, hi2⟩
  have hn : ∀ b : Value × List Int, (Value.slice none 0 0).ownBlock = none ∨ (Value.slice none 0 0).ownBlock ≠ b.1.ownBlock := fun b => .inl rfl
  refine ⟨fun p hp => ?_, ?_⟩
  ·simp only [List.cons_append, List.nil_append, List.mem_cons] at hp
   rcases hp with rfl | rfl | rfl | hp
   ·exact ⟨OwnI.nil _ _, by simp [Value.ownBlock]⟩
   ·exact ⟨OwnI.nil _ _, by simp [Value.ownBlock]⟩
   ·exact ⟨OwnI.nil _ _, by simp [Value.ownBlock]⟩
   ·exact (hF.1 p hp).wider hmi.1 (Nat.le_refl _)
  ·simp only [List.cons_append, List.nil_append, List.pairwise_cons]
   exact ⟨fun b _ => .inl rfl, fun b _ => .inl rfl, fun b _ => .inl rfl, hF.2⟩
 obtain ⟨g, c', s, e, k1, k2, z0, z1, z2, hs, hf, _⟩ := hR.mxAt hj
 exact ⟨g, c', s, e, k1, k2, z0, z1, z2, hs, hf⟩
theorem RepI.putMx {w : World} {lo hi j i : Nat} {p v z : Int} {f t d m : Value} {x : Rp} {y : Mx} (h : RepI w lo hi (.agg #[.int .i64 p, .int .i64 v, f, t, d, m]) x) (hj : x.m[j]? = some y) (hi' : i < y.a.length) (hz : I64 z) :
  ∃ g c gr cr, m = .slice (some ⟨g, 0, none⟩) x.m.length c ∧ w.cell? ⟨g, j * 3 + 1, none⟩ = some (.int .i64 y.c) ∧ w.cell? ⟨g, j * 3 + 2, none⟩ = some (.slice (some ⟨gr, 0, none⟩) y.a.length cr) ∧ (∃ u, w.cell? ⟨gr, i, none⟩ = some u) ∧ w.frozen? ⟨gr, i, none⟩ = false ∧
   (x.m.length ≤ c ∧ c ≤ 9223372036854775807) ∧ (y.a.length ≤ cr ∧ cr ≤ 9223372036854775807) ∧ (lo ≤ gr ∧ gr < hi) ∧ (∀ (g' : Nat) (t' : TypeId) (cs' : Array Value), Blk w g' t' cs' → 3 ≠ t' → g' ≠ gr) ∧ RepI (w.setCell ⟨gr, i, none⟩ (.int .i64 z)) lo hi (.agg #[.int .i64 p, .int .i64 v, f, t, d, m]) ⟨x.p, x.q, x.d, x.m.set j ⟨y.r, y.c, y.a.set i z⟩⟩ := by
 obtain ⟨f', t', d', m', vs, mi0, e, i1, i2, i3, hO, hvl, hF, hmi, hi1, hi2⟩ := h
 simp only [Value.agg.injEq, Array.mk.injEq, List.cons.injEq, and_true] at e
 obtain ⟨e1, e2, rfl, rfl, rfl, rfl⟩ := e
 have hF' : Fam w mi0 hi ([] ++ vs.zip (x.m.map Mx.a)) := by simpa using hF
 obtain ⟨gm, cm, g, c, em, hgm, hv, c0, c1, c2, ho, hgb, k1, k2, k3, k4⟩ := OutM.at_ hO hvl hF' hj (by omega)
 have hput := mats_put (i := i) hO hF' hv hj ho hz
 have hcell := (ho.cellG hi').1
 have hfr := ho.frozenG i
 have lowp : ∀ {u : Value} {l : List Int}, IntsO w lo mi0 u l → IntsO (w.setCell ⟨g, i, none⟩ (.int .i64 z)) lo mi0 u l := fun h => h.chg (chg_set1 w g i _) (.inl hgb.1)
 refine ⟨gm, cm, g, c, em, c1, c2, ⟨_, hcell⟩, hfr, ⟨k3, k4⟩, ⟨k1, k2⟩, ⟨by omega, hgb.2⟩, fun g' t' cs' hb ht e => ho.blkne hb ht (by rw [e]; rfl), f, t, d, m, vs, mi0, by rw [e1, e2], lowp i1, lowp i2, lowp i3, hput.1, by simp [hvl], by simpa using hput.2, hmi, hi1, mats_I64 hi2 hj⟩
end Go.Proofs.YtcmlflppndfdcaaGreat
namespace Go.Proofs.YtcmlflppndfdcaaGreat
open Go.RowKit
theorem MxR.cellF {w : World} {B L c R C i j : Nat} {A : Option Addr} {f : Nat → Nat → Int} (h : MxR w B (.agg #[.int .i64 R, .int .i64 C, .slice A L c]) (mxF R C f)) (hi : i < R) (hj : j < C) :
  ∃ b o, A = some ⟨b, o, none⟩ ∧ b < B ∧ w.cell? ⟨b, o + (i * C + j), none⟩ = some (.int .i64 (f i j)) ∧ i * C + j < L ∧ L ≤ 17592186044416 := by
 obtain ⟨s, e, hs, _⟩ := h
 simp only [Value.agg.injEq, Array.mk.injEq, List.cons.injEq, and_true, mxF, true_and] at e
 subst e
 obtain ⟨A', c', e, h1, h2, h3, h4⟩ := hs
 injection e with e1 e2 e3
 subst e1 e2 e3
 have hl := ix_lt hi hj
 simp only [mxF, flat_length] at h3 h4 ⊢
 obtain ⟨b, o, rfl, hb, hc⟩ := h4 (by omega)
 obtain ⟨hh, _⟩ := hc (i * C + j) _ (flat_get f hi hj)
 exact ⟨b, o, rfl, hb, by simpa using hh, hl, h3⟩
set_option maxHeartbeats 6400000 in
set_option maxRecDepth 100000 in
theorem l11Size_any (ua ub : Value) (X Y : Rp) (w0 : World) (ha : RpR w0 w0.heap.size ua X) (hb : RpR w0 w0.heap.size ub Y) (hf : Fit2 X Y) :
  Calls Tryz.prog 145 #[ua, ub] w0 fun e w' => e = .returned (.int .i64 (hmN X Y : Int)) ∧ Below w0.heap.size w0 w' := by
 have ha' := ha
 have hb' := hb
 obtain ⟨A, a, C, c, Ea, ea, Ha, ha_, rfl, hqa, hda, hma, hpa, lda, lma⟩ := ha.open_
 obtain ⟨A2, a2, C2, c2, Eb, eb, Hb, hb_, rfl, hqb, hdb, hmb, hpb, ldb, lmb⟩ := hb.open_
 clear ha hb
 obtain ⟨W, hW⟩ : ∃ W, W = (w0.alloc (.cells #[.int .i64 X.p, .int .i64 X.q.v, .slice A X.q.f.length a, .slice C X.q.t.length c, .slice Ea X.d.length ea, .slice Ha X.m.length ha_] 32)).alloc (.cells #[.int .i64 Y.p, .int .i64 Y.q.v, .slice A2 Y.q.f.length a2, .slice C2 Y.q.t.length c2, .slice Eb Y.d.length eb, .slice Hb Y.m.length hb_] 32) := ⟨_, rfl⟩
 have g0 : Below w0.heap.size w0 W := by rw [hW]; exact ((Below.refl _ _).alloc (Nat.le_refl _) _).alloc (by simp) _
 have k1 : Blk W w0.heap.size 32 #[.int .i64 X.p, .int .i64 X.q.v, .slice A X.q.f.length a, .slice C X.q.t.length c, .slice Ea X.d.length ea, .slice Ha X.m.length ha_] := by rw [hW]; exact (Blk.new _ _ _).alloc _
 have k2 : Blk W (w0.heap.size + 1) 32 #[.int .i64 Y.p, .int .i64 Y.q.v, .slice A2 Y.q.f.length a2, .slice C2 Y.q.t.length c2, .slice Eb Y.d.length eb, .slice Hb Y.m.length hb_] := by
  rw [hW]
  have := Blk.new (w0.alloc (.cells #[.int .i64 X.p, .int .i64 X.q.v, .slice A X.q.f.length a, .slice C X.q.t.length c, .slice Ea X.d.length ea, .slice Ha X.m.length ha_] 32)) 32 #[.int .i64 Y.p, .int .i64 Y.q.v, .slice A2 Y.q.f.length a2, .slice C2 Y.q.t.length c2, .slice Eb Y.d.length eb, .slice Hb Y.m.length hb_]
  simpa only [World.size_alloc] using this
 have HXA := Lib.hid (RpR.next g0 ha')
 have HXB := Lib.hid (RpR.next g0 hb')
 have HQA := Lib.hid (QvR.next g0 hqa)
 have HDA := Lib.hid (SlI.next g0 hda)
 have HDB := Lib.hid (SlI.next g0 hdb)
 have HMA := Lib.hid (SlM.next g0 hma)
 have HMB := Lib.hid (SlM.next g0 hmb)
 have G0 := Lib.hid g0
 clear ha' hb' hqa hqb hda hdb hma hmb hpa hpb g0
 have HF := Lib.hid hf
 have hl5 := hf.len.2
 have HLY := Lib.hid hf.len.1
 have HM := Lib.hid (show hmN X Y = hOff X.d Y.d X.d.length from rfl)
 obtain ⟨V, hV⟩ : ∃ n, X.d.length = n := ⟨_, rfl⟩
 obtain ⟨VY, hVY⟩ : ∃ n, Y.d.length = n := ⟨_, rfl⟩
 rw [hV] at hl5 k1 hW HM ⊢
 rw [hVY] at k2 hW ⊢
 have hVV : VY = V := by have := HLY.out; omega
 subst hVV
 have HV := Lib.hid hV
 have HVY := Lib.hid hVY
 clear hf hV hVY
 go_enter Tryz.func145, Tryz.ntmps145
 go_wp2
 rw [← hW]; clear hW
 go_loopw [5, 6] (fun s i wr => ∃ k : Nat, k ≤ VY ∧ i = .int .i64 k ∧ s = .int .i64 (hOff X.d Y.d k : Nat) ∧ Below W.heap.size W wr) (fun _ i _ => VY - (intOf i).toNat)
 case atStart => exact ⟨0, Nat.zero_le _, rfl, rfl, Below.refl _ _⟩
 case round =>
  obtain ⟨k, hk, rfl, rfl, hbel⟩ := hrel
  have hbs := hbel.size
  have kBr := k1.call hbel
  have z4r := kBr.cell' (i := 4) rfl
  by_cases hlt : k < VY
  ·obtain ⟨dx, dy, bx, by_⟩ := HF.out.dim (k := k) (by rw [HV.out]; exact hlt)
   obtain ⟨b1, o1, x1, e1, hb1, HX1, z1, _, _⟩ := SlI.at_ HDA.out (k := k) (by rw [HV.out]; exact hlt)
   obtain ⟨b2, o2, x2, e2, hb2, HX2, z2, _, _⟩ := SlI.at_ HDB.out (k := k) (by rw [HVY.out]; exact hlt)
   subst e1 e2
   have q1 := HX1.out
   rw [dx] at q1
   injection q1 with q1
   subst q1
   have q2 := HX2.out
   rw [dy] at q2
   injection q2 with q2
   subst q2
   have hle := hOff_le HF.out (v := k) (by rw [HV.out]; omega)
   have hHS : hOff X.d Y.d (k + 1) = hOff X.d Y.d k + dmN Y.d k * dmN X.d k := rfl
   obtain ⟨DX, hDX⟩ : ∃ n, dmN X.d k = n := ⟨_, rfl⟩
   obtain ⟨DY, hDY⟩ : ∃ n, dmN Y.d k = n := ⟨_, rfl⟩
   rw [hDX] at z1 bx hHS
   rw [hDY] at z2 by_ hHS
   have hP16 : DY * DX ≤ 4 * 4 := Nat.mul_le_mul by_ bx
   obtain ⟨P, hP⟩ : ∃ P, DY * DX = P := ⟨_, rfl⟩
   rw [hP] at hP16 hHS
   have HPw : Hid (wrap64 ((DX : Int) * (DY : Int)) = (P : Int)) := by
    show _ = _
    rw [show ((DX : Int) * (DY : Int)) = (P : Int) by rw [← hP]; push_cast; exact Int.mul_comm _ _]
    exact IntWalk.wrap64_in _ ⟨by omega, by omega⟩
   obtain ⟨S, hS⟩ : ∃ n, hOff X.d Y.d k = n := ⟨_, rfl⟩
   rw [hS] at hle hHS ⊢
   have HHS := Lib.hid hHS
   have Z1 := Lib.hid (bcell hbel hb1 z1)
   have Z2 := Lib.hid (bcell hbel hb2 z2)
   have KA := Lib.hid kBr
   have KB := Lib.hid (k2.call hbel)
   have HB := Lib.hid hbel
   clear HX1 HX2 dx dy hDX hDY hP hS hHS hbel z1 z2 kBr
   go_wp2
   clear z4r
   refine wp_region_net (by kernel_rfl) [.eq (.int .i64 S), .eq (.pointer (some ⟨w0.heap.size, 4, none⟩)), .eq (.slice (some ⟨b1, o1, none⟩) VY ea), .eq (.int .i64 k), .eq (.pointer (some ⟨b1, o1 + k, none⟩)), .eq (.int .i64 DX), .eq (.pointer (some ⟨w0.heap.size + 1, 4, none⟩)), .eq (.slice (some ⟨b2, o2, none⟩) VY eb), .eq (.int .i64 k), .eq (.pointer (some ⟨b2, o2 + k, none⟩)), .eq (.int .i64 DY), .eq (.int .i64 P), .eq (.int .i64 ((S : Int) + P))] [[], [], [1], [], [1, 2, 3], [1, 2, 3, 4], [], [6], [], [6, 7, 8], [6, 7, 8, 9], [1, 2, 3, 4, 5, 6, 7, 8, 9, 10], [0, 1, 2, 3, 4, 5, 6, 7, 8, 9, 10, 11], [0, 1, 2, 3, 4, 5, 6, 7, 8, 9, 10, 11, 12]] 13 (by kernel_rfl) ⟨trivial, trivial, trivial, trivial, trivial, trivial, trivial, trivial, trivial, trivial, trivial, trivial, trivial, trivial⟩ ⟨?_, ?_, ?_, ?_, ?_, ?_, ?_, ?_, ?_, ?_, ?_, ?_, ?_, trivial⟩ ?_
   ·intro x w hb hk Q' hQ
    clear hk
    simp only [netE] at hQ ⊢
    go_wp2
    exact hQ _ _ (Below.refl _ _) rfl
   ·intro x w hb hk Q' hQ
    clear hk
    simp only [netE] at hQ ⊢
    go_wp2
    exact hQ _ _ (Below.refl _ _) rfl
   ·intro x w hb hk Q' hQ
    have h1 : x.v 1 = .pointer (some ⟨w0.heap.size, 4, none⟩) := (hk 1 (by decide)).1
    clear hk
    simp only [netE] at hQ ⊢
    simp only [h1] at hQ ⊢
    clear h1
    have z := (KA.out.call hb).cell' (i := 4) rfl
    go_wp2
    exact hQ _ _ (Below.refl _ _) rfl
   ·intro x w hb hk Q' hQ
    clear hk
    simp only [netE] at hQ ⊢
    go_wp2
    exact hQ _ _ (Below.refl _ _) rfl
   ·intro x w hb hk Q' hQ
    have h2 : x.v 2 = .slice (some ⟨b1, o1, none⟩) VY ea := (hk 2 (by decide)).1
    have h3 : x.v 3 = .int .i64 k := (hk 3 (by decide)).1
    clear hk
    simp only [netE] at hQ ⊢
    simp only [h2, h3] at hQ ⊢
    clear h2 h3
    go_wp2
    exact hQ _ _ (Below.refl _ _) rfl
   ·intro x w hb hk Q' hQ
    have h4 : x.v 4 = .pointer (some ⟨b1, o1 + k, none⟩) := (hk 4 (by decide)).1
    clear hk
    simp only [netE] at hQ ⊢
    simp only [h4] at hQ ⊢
    clear h4
    have z := bcell hb (by omega) Z1.out
    go_wp2
    exact hQ _ _ (Below.refl _ _) rfl
   ·intro x w hb hk Q' hQ
    clear hk
    simp only [netE] at hQ ⊢
    go_wp2
    exact hQ _ _ (Below.refl _ _) rfl
   ·intro x w hb hk Q' hQ
    have h6 : x.v 6 = .pointer (some ⟨w0.heap.size + 1, 4, none⟩) := (hk 6 (by decide)).1
    clear hk
    simp only [netE] at hQ ⊢
    simp only [h6] at hQ ⊢
    clear h6
    have z := (KB.out.call hb).cell' (i := 4) rfl
    go_wp2
    exact hQ _ _ (Below.refl _ _) rfl
   ·intro x w hb hk Q' hQ
    clear hk
    simp only [netE] at hQ ⊢
    go_wp2
    exact hQ _ _ (Below.refl _ _) rfl
   ·intro x w hb hk Q' hQ
    have h7 : x.v 7 = .slice (some ⟨b2, o2, none⟩) VY eb := (hk 7 (by decide)).1
    have h8 : x.v 8 = .int .i64 k := (hk 8 (by decide)).1
    clear hk
    simp only [netE] at hQ ⊢
    simp only [h7, h8] at hQ ⊢
    clear h7 h8
    go_wp2
    exact hQ _ _ (Below.refl _ _) rfl
   ·intro x w hb hk Q' hQ
    have h9 : x.v 9 = .pointer (some ⟨b2, o2 + k, none⟩) := (hk 9 (by decide)).1
    clear hk
    simp only [netE] at hQ ⊢
    simp only [h9] at hQ ⊢
    clear h9
    have z := bcell hb (by omega) Z2.out
    go_wp2
    exact hQ _ _ (Below.refl _ _) rfl
   ·intro x w hb hk Q' hQ
    have h5 : x.v 5 = .int .i64 DX := (hk 5 (by decide)).1
    have h10 : x.v 10 = .int .i64 DY := (hk 10 (by decide)).1
    clear hk
    simp only [netE] at hQ ⊢
    simp only [h5, h10] at hQ ⊢
    clear h5 h10
    go_wp2
    rw [HPw.out]
    exact hQ _ _ (Below.refl _ _) rfl
   ·intro x w hb hk Q' hQ
    have h0 : x.v 0 = .int .i64 S := (hk 0 (by decide)).1
    have h11 : x.v 11 = .int .i64 P := (hk 11 (by decide)).1
    clear hk
    simp only [netE] at hQ ⊢
    simp only [h0, h11] at hQ ⊢
    clear h0 h11
    go_wp2
    exact hQ (.int .i64 ((S : Int) + P)) _ (Below.refl _ _) rfl
   ·intro x w hb hk hiv hdj
    have h0 : x.v 0 = .int .i64 S := hk 0 (by decide)
    have h1 : x.v 1 = .pointer (some ⟨w0.heap.size, 4, none⟩) := hk 1 (by decide)
    have h2 : x.v 2 = .slice (some ⟨b1, o1, none⟩) VY ea := hk 2 (by decide)
    have h3 : x.v 3 = .int .i64 k := hk 3 (by decide)
    have h4 : x.v 4 = .pointer (some ⟨b1, o1 + k, none⟩) := hk 4 (by decide)
    have h5 : x.v 5 = .int .i64 DX := hk 5 (by decide)
    have h6 : x.v 6 = .pointer (some ⟨w0.heap.size + 1, 4, none⟩) := hk 6 (by decide)
    have h7 : x.v 7 = .slice (some ⟨b2, o2, none⟩) VY eb := hk 7 (by decide)
    have h8 : x.v 8 = .int .i64 k := hk 8 (by decide)
    have h9 : x.v 9 = .pointer (some ⟨b2, o2 + k, none⟩) := hk 9 (by decide)
    have h10 : x.v 10 = .int .i64 DY := hk 10 (by decide)
    have h11 : x.v 11 = .int .i64 P := hk 11 (by decide)
    have h12 : x.v 12 = .int .i64 ((S : Int) + P) := hk 12 (by decide)
    clear hk
    simp only [netE]
    simp only [List.drop_succ_cons, List.drop_zero, h0, h1, h2, h3, h4, h5, h6, h7, h8, h9, h10, h11, h12]
    clear h0 h1 h2 h3 h4 h5 h6 h7 h8 h9 h10 h11 h12
    have H2 := Lib.hid (HB.out.trans (hb.mono hbs))
    clear hb hiv hdj
    go_wp2
    go_roundw
    case rel => exact ⟨k + 1, by omega, by go_num, by rw [HHS.out]; go_num, H2.out⟩
    case measure => simp [intOf]; omega
  ·obtain rfl : k = VY := by omega
   have GF := Lib.hid (G0.out.trans (hbel.mono G0.out.size))
   obtain ⟨S, hS⟩ : ∃ n, hOff X.d Y.d k = n := ⟨_, rfl⟩
   rw [hS]
   have HS := Lib.hid hS
   clear hbel hS kBr
   go_wp2
   go_ret
   exact ⟨by rw [HM.out, HS.out]; rfl, GF.out⟩
set_option maxHeartbeats 6400000 in
set_option maxRecDepth 100000 in
theorem l11At_any (ua ub : Value) (X Y : Rp) (v : Nat) (w0 : World) (ha : RpR w0 w0.heap.size ua X) (hb : RpR w0 w0.heap.size ub Y) (hf : Fit2 X Y) (hv : v < X.d.length) :
  Calls Tryz.prog 146 #[ua, ub, .int .i64 v] w0 fun e w' => e = .returned (.int .i64 (hOff X.d Y.d v : Nat)) ∧ Below w0.heap.size w0 w' := by
 have ha' := ha
 have hb' := hb
 obtain ⟨A, a, C, c, Ea, ea, Ha, ha_, rfl, hqa, hda, hma, hpa, lda, lma⟩ := ha.open_
 obtain ⟨A2, a2, C2, c2, Eb, eb, Hb, hb_, rfl, hqb, hdb, hmb, hpb, ldb, lmb⟩ := hb.open_
 clear ha hb
 obtain ⟨W, hW⟩ : ∃ W, W = (w0.alloc (.cells #[.int .i64 X.p, .int .i64 X.q.v, .slice A X.q.f.length a, .slice C X.q.t.length c, .slice Ea X.d.length ea, .slice Ha X.m.length ha_] 32)).alloc (.cells #[.int .i64 Y.p, .int .i64 Y.q.v, .slice A2 Y.q.f.length a2, .slice C2 Y.q.t.length c2, .slice Eb Y.d.length eb, .slice Hb Y.m.length hb_] 32) := ⟨_, rfl⟩
 have g0 : Below w0.heap.size w0 W := by rw [hW]; exact ((Below.refl _ _).alloc (Nat.le_refl _) _).alloc (by simp) _
 have k1 : Blk W w0.heap.size 32 #[.int .i64 X.p, .int .i64 X.q.v, .slice A X.q.f.length a, .slice C X.q.t.length c, .slice Ea X.d.length ea, .slice Ha X.m.length ha_] := by rw [hW]; exact (Blk.new _ _ _).alloc _
 have k2 : Blk W (w0.heap.size + 1) 32 #[.int .i64 Y.p, .int .i64 Y.q.v, .slice A2 Y.q.f.length a2, .slice C2 Y.q.t.length c2, .slice Eb Y.d.length eb, .slice Hb Y.m.length hb_] := by
  rw [hW]
  have := Blk.new (w0.alloc (.cells #[.int .i64 X.p, .int .i64 X.q.v, .slice A X.q.f.length a, .slice C X.q.t.length c, .slice Ea X.d.length ea, .slice Ha X.m.length ha_] 32)) 32 #[.int .i64 Y.p, .int .i64 Y.q.v, .slice A2 Y.q.f.length a2, .slice C2 Y.q.t.length c2, .slice Eb Y.d.length eb, .slice Hb Y.m.length hb_]
  simpa only [World.size_alloc] using this
 have HXA := Lib.hid (RpR.next g0 ha')
 have HXB := Lib.hid (RpR.next g0 hb')
 have HQA := Lib.hid (QvR.next g0 hqa)
 have HDA := Lib.hid (SlI.next g0 hda)
 have HDB := Lib.hid (SlI.next g0 hdb)
 have HMA := Lib.hid (SlM.next g0 hma)
 have HMB := Lib.hid (SlM.next g0 hmb)
 have G0 := Lib.hid g0
 clear ha' hb' hqa hqb hda hdb hma hmb hpa hpb g0
 have HF := Lib.hid hf
 have hl5 := hf.len.2
 have HLY := Lib.hid hf.len.1
 obtain ⟨V, hV⟩ : ∃ n, X.d.length = n := ⟨_, rfl⟩
 obtain ⟨VY, hVY⟩ : ∃ n, Y.d.length = n := ⟨_, rfl⟩
 rw [hV] at hl5 k1 hW hv ⊢
 rw [hVY] at k2 hW ⊢
 have hVV : VY = V := by have := HLY.out; omega
 subst hVV
 have HV := Lib.hid hV
 have HVY := Lib.hid hVY
 clear hf hV hVY
 go_enter Tryz.func146, Tryz.ntmps146
 go_wp2
 rw [← hW]; clear hW
 go_loopw [7, 8] (fun s i wr => ∃ k : Nat, k ≤ v ∧ i = .int .i64 k ∧ s = .int .i64 (hOff X.d Y.d k : Nat) ∧ Below W.heap.size W wr) (fun _ i _ => v - (intOf i).toNat)
 case atStart => exact ⟨0, Nat.zero_le _, rfl, rfl, Below.refl _ _⟩
 case round =>
  obtain ⟨k, hk, rfl, rfl, hbel⟩ := hrel
  have hbs := hbel.size
  by_cases hlv : k < v
  ·have hlt : k < VY := by omega
   obtain ⟨dx, dy, bx, by_⟩ := HF.out.dim (k := k) (by rw [HV.out]; exact hlt)
   obtain ⟨b1, o1, x1, e1, hb1, HX1, z1, _, _⟩ := SlI.at_ HDA.out (k := k) (by rw [HV.out]; exact hlt)
   obtain ⟨b2, o2, x2, e2, hb2, HX2, z2, _, _⟩ := SlI.at_ HDB.out (k := k) (by rw [HVY.out]; exact hlt)
   subst e1 e2
   have q1 := HX1.out
   rw [dx] at q1
   injection q1 with q1
   subst q1
   have q2 := HX2.out
   rw [dy] at q2
   injection q2 with q2
   subst q2
   have hle := hOff_le HF.out (v := k) (by rw [HV.out]; omega)
   have hHS : hOff X.d Y.d (k + 1) = hOff X.d Y.d k + dmN Y.d k * dmN X.d k := rfl
   obtain ⟨DX, hDX⟩ : ∃ n, dmN X.d k = n := ⟨_, rfl⟩
   obtain ⟨DY, hDY⟩ : ∃ n, dmN Y.d k = n := ⟨_, rfl⟩
   rw [hDX] at z1 bx hHS
   rw [hDY] at z2 by_ hHS
   have hP16 : DY * DX ≤ 4 * 4 := Nat.mul_le_mul by_ bx
   obtain ⟨P, hP⟩ : ∃ P, DY * DX = P := ⟨_, rfl⟩
   rw [hP] at hP16 hHS
   have HPw : Hid (wrap64 ((DX : Int) * (DY : Int)) = (P : Int)) := by
    show _ = _
    rw [show ((DX : Int) * (DY : Int)) = (P : Int) by rw [← hP]; push_cast; exact Int.mul_comm _ _]
    exact IntWalk.wrap64_in _ ⟨by omega, by omega⟩
   obtain ⟨S, hS⟩ : ∃ n, hOff X.d Y.d k = n := ⟨_, rfl⟩
   rw [hS] at hle hHS ⊢
   have HHS := Lib.hid hHS
   have Z1 := Lib.hid (bcell hbel hb1 z1)
   have Z2 := Lib.hid (bcell hbel hb2 z2)
   have KA := Lib.hid (k1.call hbel)
   have KB := Lib.hid (k2.call hbel)
   have HB := Lib.hid hbel
   clear HX1 HX2 dx dy hDX hDY hP hS hHS hbel z1 z2
   go_wp2
   refine wp_region_net (by kernel_rfl) [.eq (.int .i64 S), .eq (.pointer (some ⟨w0.heap.size, 4, none⟩)), .eq (.slice (some ⟨b1, o1, none⟩) VY ea), .eq (.int .i64 k), .eq (.pointer (some ⟨b1, o1 + k, none⟩)), .eq (.int .i64 DX), .eq (.pointer (some ⟨w0.heap.size + 1, 4, none⟩)), .eq (.slice (some ⟨b2, o2, none⟩) VY eb), .eq (.int .i64 k), .eq (.pointer (some ⟨b2, o2 + k, none⟩)), .eq (.int .i64 DY), .eq (.int .i64 P), .eq (.int .i64 ((S : Int) + P))] [[], [], [1], [], [1, 2, 3], [1, 2, 3, 4], [], [6], [], [6, 7, 8], [6, 7, 8, 9], [1, 2, 3, 4, 5, 6, 7, 8, 9, 10], [0, 1, 2, 3, 4, 5, 6, 7, 8, 9, 10, 11], [0, 1, 2, 3, 4, 5, 6, 7, 8, 9, 10, 11, 12]] 13 (by kernel_rfl) ⟨trivial, trivial, trivial, trivial, trivial, trivial, trivial, trivial, trivial, trivial, trivial, trivial, trivial, trivial⟩ ⟨?_, ?_, ?_, ?_, ?_, ?_, ?_, ?_, ?_, ?_, ?_, ?_, ?_, trivial⟩ ?_
   ·intro x w hb hk Q' hQ
    clear hk
    simp only [netE] at hQ ⊢
    go_wp2
    exact hQ _ _ (Below.refl _ _) rfl
   ·intro x w hb hk Q' hQ
    clear hk
    simp only [netE] at hQ ⊢
    go_wp2
    exact hQ _ _ (Below.refl _ _) rfl
   ·intro x w hb hk Q' hQ
    have h1 : x.v 1 = .pointer (some ⟨w0.heap.size, 4, none⟩) := (hk 1 (by decide)).1
    clear hk
    simp only [netE] at hQ ⊢
    simp only [h1] at hQ ⊢
    clear h1
    have z := (KA.out.call hb).cell' (i := 4) rfl
    go_wp2
    exact hQ _ _ (Below.refl _ _) rfl
   ·intro x w hb hk Q' hQ
    clear hk
    simp only [netE] at hQ ⊢
    go_wp2
    exact hQ _ _ (Below.refl _ _) rfl
   ·intro x w hb hk Q' hQ
    have h2 : x.v 2 = .slice (some ⟨b1, o1, none⟩) VY ea := (hk 2 (by decide)).1
    have h3 : x.v 3 = .int .i64 k := (hk 3 (by decide)).1
    clear hk
    simp only [netE] at hQ ⊢
    simp only [h2, h3] at hQ ⊢
    clear h2 h3
    go_wp2
    exact hQ _ _ (Below.refl _ _) rfl
   ·intro x w hb hk Q' hQ
    have h4 : x.v 4 = .pointer (some ⟨b1, o1 + k, none⟩) := (hk 4 (by decide)).1
    clear hk
    simp only [netE] at hQ ⊢
    simp only [h4] at hQ ⊢
    clear h4
    have z := bcell hb (by omega) Z1.out
    go_wp2
    exact hQ _ _ (Below.refl _ _) rfl
   ·intro x w hb hk Q' hQ
    clear hk
    simp only [netE] at hQ ⊢
    go_wp2
    exact hQ _ _ (Below.refl _ _) rfl
   ·intro x w hb hk Q' hQ
    have h6 : x.v 6 = .pointer (some ⟨w0.heap.size + 1, 4, none⟩) := (hk 6 (by decide)).1
    clear hk
    simp only [netE] at hQ ⊢
    simp only [h6] at hQ ⊢
    clear h6
    have z := (KB.out.call hb).cell' (i := 4) rfl
    go_wp2
    exact hQ _ _ (Below.refl _ _) rfl
   ·intro x w hb hk Q' hQ
    clear hk
    simp only [netE] at hQ ⊢
    go_wp2
    exact hQ _ _ (Below.refl _ _) rfl
   ·intro x w hb hk Q' hQ
    have h7 : x.v 7 = .slice (some ⟨b2, o2, none⟩) VY eb := (hk 7 (by decide)).1
    have h8 : x.v 8 = .int .i64 k := (hk 8 (by decide)).1
    clear hk
    simp only [netE] at hQ ⊢
    simp only [h7, h8] at hQ ⊢
    clear h7 h8
    go_wp2
    exact hQ _ _ (Below.refl _ _) rfl
   ·intro x w hb hk Q' hQ
    have h9 : x.v 9 = .pointer (some ⟨b2, o2 + k, none⟩) := (hk 9 (by decide)).1
    clear hk
    simp only [netE] at hQ ⊢
    simp only [h9] at hQ ⊢
    clear h9
    have z := bcell hb (by omega) Z2.out
    go_wp2
    exact hQ _ _ (Below.refl _ _) rfl
   ·intro x w hb hk Q' hQ
    have h5 : x.v 5 = .int .i64 DX := (hk 5 (by decide)).1
    have h10 : x.v 10 = .int .i64 DY := (hk 10 (by decide)).1
    clear hk
    simp only [netE] at hQ ⊢
    simp only [h5, h10] at hQ ⊢
    clear h5 h10
    go_wp2
    rw [HPw.out]
    exact hQ _ _ (Below.refl _ _) rfl
   ·intro x w hb hk Q' hQ
    have h0 : x.v 0 = .int .i64 S := (hk 0 (by decide)).1
    have h11 : x.v 11 = .int .i64 P := (hk 11 (by decide)).1
    clear hk
    simp only [netE] at hQ ⊢
    simp only [h0, h11] at hQ ⊢
    clear h0 h11
    go_wp2
    exact hQ (.int .i64 ((S : Int) + P)) _ (Below.refl _ _) rfl
   ·intro x w hb hk hiv hdj
    have h0 : x.v 0 = .int .i64 S := hk 0 (by decide)
    have h1 : x.v 1 = .pointer (some ⟨w0.heap.size, 4, none⟩) := hk 1 (by decide)
    have h2 : x.v 2 = .slice (some ⟨b1, o1, none⟩) VY ea := hk 2 (by decide)
    have h3 : x.v 3 = .int .i64 k := hk 3 (by decide)
    have h4 : x.v 4 = .pointer (some ⟨b1, o1 + k, none⟩) := hk 4 (by decide)
    have h5 : x.v 5 = .int .i64 DX := hk 5 (by decide)
    have h6 : x.v 6 = .pointer (some ⟨w0.heap.size + 1, 4, none⟩) := hk 6 (by decide)
    have h7 : x.v 7 = .slice (some ⟨b2, o2, none⟩) VY eb := hk 7 (by decide)
    have h8 : x.v 8 = .int .i64 k := hk 8 (by decide)
    have h9 : x.v 9 = .pointer (some ⟨b2, o2 + k, none⟩) := hk 9 (by decide)
    have h10 : x.v 10 = .int .i64 DY := hk 10 (by decide)
    have h11 : x.v 11 = .int .i64 P := hk 11 (by decide)
    have h12 : x.v 12 = .int .i64 ((S : Int) + P) := hk 12 (by decide)
    clear hk
    simp only [netE]
    simp only [List.drop_succ_cons, List.drop_zero, h0, h1, h2, h3, h4, h5, h6, h7, h8, h9, h10, h11, h12]
    clear h0 h1 h2 h3 h4 h5 h6 h7 h8 h9 h10 h11 h12
    have H2 := Lib.hid (HB.out.trans (hb.mono hbs))
    clear hb hiv hdj
    go_wp2
    go_roundw
    case rel => exact ⟨k + 1, by omega, by go_num, by rw [HHS.out]; go_num, H2.out⟩
    case measure => simp [intOf]; omega
  ·obtain rfl : k = v := by omega
   have GF := Lib.hid (G0.out.trans (hbel.mono G0.out.size))
   obtain ⟨S, hS⟩ : ∃ n, hOff X.d Y.d k = n := ⟨_, rfl⟩
   rw [hS]
   have HS := Lib.hid hS
   clear hbel hS
   go_wp2
   go_ret
   exact ⟨by rw [HS.out]; rfl, GF.out⟩
end Go.Proofs.YtcmlflppndfdcaaGreat
namespace Go.Proofs.YtcmlflppndfdcaaGreat
open Go.RowKit
end Go.Proofs.YtcmlflppndfdcaaGreat
namespace Go.Proofs.YtcmlflppndfdcaaGreat
open Go.RowKit
theorem SlI.atM {w : World} {B n c : Nat} {A : Option Addr} {xs : List Int} {k : Nat} (h : SlI w B (.slice A n c) xs) (hn : xs.length = n) (hk : k < n) :
  ∃ b o x, A = some ⟨b, o, none⟩ ∧ b < B ∧ Hid (xs[k]? = some x) ∧ w.cell? ⟨b, o + k, none⟩ = some (.int .i64 x) ∧ -9223372036854775808 ≤ x ∧ x ≤ 9223372036854775807 := by
 subst hn
 exact SlI.at_ h hk
theorem rd_ps {p : Int} {r c : Nat} {f : Nat → Nat → Int} (hp : isFld p = true) (hp2 : 2 ≤ p) (hf : InF p r c f) : ∀ (j : Nat) (x : Int), (rdTo p r f c).2[j]? = some x → ∃ b : Nat, x = (b : Int) ∧ b < c := by
 intro j x hx
 obtain ⟨b, h1, h2, _⟩ := (rd_to hp hp2 hf c (Nat.le_refl _)).pos j (lt_of_some hx)
 rw [h1] at hx
 injection hx with hx
 exact ⟨b, hx.symm, h2⟩
end Go.Proofs.YtcmlflppndfdcaaGreat
