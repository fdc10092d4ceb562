/- FnPencils: the law holds for every argument. Part 4 of 18 of the proof: Net2, NetDR, NetC, Order, MkI, EqRp, BigI, NetU, Seat. No condition. -/
import Derived.Test.YthhjoamgcfiecaaGreatBPencils3
set_option linter.unusedVariables false
set_option linter.unusedSimpArgs false
namespace Go.Proofs.YthhjoamgcfiecaaGreat
open Go.RowKit
section
variable {P : Program} {ops : Array Oper} {Q : Exit → Act → World → Prop} {sp : List NS} {D : List (List Nat)} {m s : Nat} {a0 : Act} {w0 : World}
theorem set_getD {listed : Array Bool} {i : Nat} (his : i < listed.size) (j : Nat) : (listed.setIfInBounds i true).getD j false = (listed.getD j false || j == i) := by
 by_cases e : i = j
 ·subst e
  simp [Array.getD_eq_getD_getElem?, Array.getElem?_setIfInBounds, his]
 ·rw [getD_set_ne _ e]
  simp [Ne.symm e]
theorem count_set {listed : Array Bool} {i : Nat} (his : i < ops.size) (hli : listed.getD i false = false) (hls : listed.size = ops.size) :
  ((List.range ops.size).filter fun j => !(listed.setIfInBounds i true).getD j false).length + 1 = ((List.range ops.size).filter fun j => !listed.getD j false).length := by
 have hmem : i ∈ (List.range ops.size).filter fun j => !listed.getD j false := by
  rw [List.mem_filter]; exact ⟨List.mem_range.2 his, by rw [hli]; rfl⟩
 have e : (List.range ops.size).filter (fun j => !(listed.setIfInBounds i true).getD j false) = ((List.range ops.size).filter fun j => !listed.getD j false).filter (fun j => j != i) := by
  rw [List.filter_filter]
  congr 1
  funext j
  rw [set_getD (hls ▸ his)]
  simp [Bool.not_or, Bool.and_comm, bne]
 have hnd : ((List.range ops.size).filter fun j => !listed.getD j false).Nodup := List.nodup_range.filter _
 rw [e]
 have := List.length_erase_of_mem hmem
 rw [hnd.erase_eq_filter] at this
 have h1 := List.length_pos_of_mem hmem
 omega
theorem count_from {listed : Array Bool} {k : Nat} (hl : ∀ j, listed.getD j false = decide (j < k)) (hk : k ≤ ops.size) : ((List.range ops.size).filter fun j => !listed.getD j false).length = ops.size - k := by
 have e : (List.range ops.size).filter (fun j => !listed.getD j false) = (List.range' k (ops.size - k)) := by
  have e1 : (List.range ops.size) = List.range k ++ List.range' k (ops.size - k) := by
   have h := List.range'_append_1 (s := 0) (m := k) (n := ops.size - k)
   rw [Nat.zero_add] at h
   rw [List.range_eq_range', List.range_eq_range', h]
   congr 1
   omega
  rw [e1, List.filter_append]
  rw [List.filter_eq_nil_iff.2 (fun j hj => by rw [hl]; simp at hj ⊢; exact hj), List.nil_append]
  rw [List.filter_eq_self.2 (fun j hj => by rw [hl]; simp [List.mem_range'] at hj ⊢; omega)]
 rw [e, List.length_range']
theorem actP_fold (v : Nat → Value) (p : Nat → Bool) : ∀ k, actP ops a0 v p k = ((List.range k).filter p).foldl (fun a k => a.put (dstAt ops k) (v k)) a0
 | 0 => rfl
 | k + 1 => by
  rw [List.range_succ, List.filter_append, List.foldl_append, ← actP_fold v p k]
  conv => lhs; unfold actP
  rcases h : p k with _ | _ <;> simp [h]
theorem net_tail2 (hok : ∀ i o, ops[i]? = some o → NetOk ops D (m + 1) i o) : ∀ (fuel k : Nat) (listed : Array Bool) (a : Act) (w : World), fuel + k = ops.size → m ≤ k → listed.size = ops.size → (∀ j, listed.getD j false = decide (j < k)) →
  wpList P ops Q (ops.toList.drop k) a w → wpAny P .any ops Q fuel listed a w
 | fuel, k, listed, a, w, hf, hm, hls, hl, h => by
  have hld : ∀ j, j < ops.size → listed.getD j true = decide (j < k) := fun j hj => by
   rw [← hl j]
   simp [Array.getD_eq_getD_getElem?, Array.getElem?_eq_getElem (show j < listed.size by omega)]
  have hr : ∀ i ∈ Region.ready .any ops listed, i = k ∧ k < ops.size := fun i hi => by
   obtain ⟨h0, o, ho, hall⟩ := mem_ready.1 hi
   have hin := (Array.getElem?_eq_some_iff.1 ho).1
   rw [hld i hin] at h0
   have hik : k ≤ i := by simpa using h0
   refine ⟨?_, by omega⟩
   have hcl := (hok i o ho).danc (fun j => j < k) (fun e he hb => by have := hall e he hb; rw [hl] at this; simpa using this) (fun j hj x hx => by
    have hjs : j < ops.size := by omega
    have := (hok j _ (Array.getElem?_eq_getElem hjs)).dlt x hx
    omega)
   rcases Nat.lt_or_ge k i with hlt | hge
   ·have := hcl k ((hok i o ho).tail (by omega) k hlt)
    omega
   ·omega
  cases fuel with
  | zero =>
   refine ⟨?_, ?_⟩
   ·apply List.eq_nil_iff_forall_not_mem.2
    intro i hi
    have := hr i hi
    omega
   ·rw [List.drop_of_length_le (by simp; omega)] at h
    exact h
  | succ fuel =>
   have hks : k < ops.size := by omega
   have hke := Array.getElem?_eq_getElem hks
   have hdrop : ops.toList.drop k = ops[k] :: ops.toList.drop (k + 1) := by
    rw [List.drop_eq_getElem_cons (by simpa using hks)]
    simp
   rw [hdrop] at h
   have hready : k ∈ Region.ready .any ops listed := mem_ready.2 ⟨by rw [hld k hks]; simp, _, hke, fun e he hb => by rw [hl]; simpa using (hok k _ hke).direct e he hb⟩
   refine ⟨fun h0 => (by rw [h0] at hready; cases hready), fun i hi => ?_⟩
   obtain ⟨rfl, _⟩ := hr i hi
   unfold wpOp
   simp only [hke]
   have hw : Region.wanted ops[i] (yielded ops a.tmps) = true := by simp [Region.wanted, (hok i _ hke).guard]
   simp only [wpList, hw, if_true] at h ⊢
   have nxt : ∀ a w, wpList P ops Q (ops.toList.drop (i + 1)) a w → wpAny P .any ops Q fuel (listed.setIfInBounds i true) a w := fun a w h =>
    net_tail2 hok fuel (i + 1) _ a w (by omega) (by omega) (by simpa using hls) (fun j => by
     by_cases e : i = j
     ·subst e
      simp [Array.getD_eq_getD_getElem?, Array.getElem?_setIfInBounds, hls, hks]
     ·rw [getD_set_ne _ e, hl]
      congr 1
      rw [eq_iff_iff]
      omega) h
   rcases h with h | h
   ·exact .inl (Oper.wp_mono nxt h)
   ·exact .inr h
theorem net_any2 (hB : netB ops D (m + 1) = true) (hms : m < ops.size) (hsm : s < m) (hD : ∀ j, j < m → j ≠ s → j ∈ D.getD m []) (hst : ∀ s ∈ sp, s.stable) (hdo : ∀ i o, i < m → ops[i]? = some o → netDo P ops sp D a0 w0 i o)
  (hend : ∀ x w, Below w0.heap.size w0 w → (∀ i, i < m → known sp D x i w) → (∀ i, i < m → w0.heap.size ≤ x.lo i ∧ x.lo i ≤ x.hi i ∧ x.hi i ≤ w.heap.size) → (∀ i j, i < m → j < m → i ≠ j → x.hi i ≤ x.lo j ∨ x.hi j ≤ x.lo i) → wpList P ops Q (ops.toList.drop m) (netAct ops a0 x.v m) w)
  (hend2 : ∀ x w, Below w0.heap.size w0 w → (∀ i, i < m ∧ i ≠ s → known sp D x i w) → (∀ i, i < m ∧ i ≠ s → w0.heap.size ≤ x.lo i ∧ x.lo i ≤ x.hi i ∧ x.hi i ≤ w.heap.size) → (∀ i j, i < m ∧ i ≠ s → j < m ∧ j ≠ s → i ≠ j → x.hi i ≤ x.lo j ∨ x.hi j ≤ x.lo i) → ∀ om os, ops[m]? = some om → ops[s]? = some os → wpList P ops Q (om :: os :: ops.toList.drop (m + 1)) (actP ops a0 x.v (fun j => j != s) m) w) :
  ∀ (fuel : Nat) (listed : Array Bool) (x : Gh) (w : World), ((List.range ops.size).filter fun j => !listed.getD j false).length = fuel → listed.size = ops.size → (∀ j, m ≤ j → listed.getD j false = false) →
   (∀ i, listed.getD i false = true → ∀ j ∈ D.getD i [], listed.getD j false = true) → Below w0.heap.size w0 w → (∀ i, listed.getD i false = true → known sp D x i w) → (∀ i, listed.getD i false = true → w0.heap.size ≤ x.lo i ∧ x.lo i ≤ x.hi i ∧ x.hi i ≤ w.heap.size) →
   (∀ i j, listed.getD i false = true → listed.getD j false = true → i ≠ j → x.hi i ≤ x.lo j ∨ x.hi j ≤ x.lo i) →
   wpAny P .any ops Q fuel listed (actP ops a0 x.v (fun j => listed.getD j false) ops.size) w := by
 simp only [netB, Bool.and_eq_true, decide_eq_true_eq] at hB
 obtain ⟨⟨hm, hns⟩, hnf⟩ := hB
 have hok : ∀ i o, ops[i]? = some o → NetOk ops D (m + 1) i o := fun i o ho => netAt_spec (by
  have := netFrom_spec ops.toList 0 hnf i o (by simpa using ho)
  simpa using this)
 have hst' : ∀ i, (sp.getD i (.eq undef)).stable := fun i => by
  rw [List.getD_eq_getElem?_getD]
  rcases h : sp[i]? with _ | s
  ·trivial
  ·exact hst s (List.mem_of_getElem? h)
 intro fuel
 induction fuel with
 | zero =>
  intro listed x w hc hls hlm hcl hb hkn hiv hdj
  exfalso
  rw [List.length_eq_zero_iff, List.filter_eq_nil_iff] at hc
  have := hc m (List.mem_range.2 hms)
  rw [hlm m (Nat.le_refl _)] at this
  simp at this
 | succ fuel ih =>
  intro listed x w hc hls hlm hcl hb hkn hiv hdj
  by_cases hfull : ∀ j, j < m → listed.getD j false = true
  · -- the tail
   have hl : ∀ j, listed.getD j false = decide (j < m) := fun j => by
    by_cases hj : j < m
    ·rw [hfull j hj]; simp [hj]
    ·rw [hlm j (by omega)]; simp [hj]
   have hcnt := count_from (ops := ops) hl (by omega)
   refine net_tail2 hok (fuel + 1) m listed _ w (by omega) (Nat.le_refl _) hls hl ?_
   have := hend x w hb (fun i hi => hkn i (hfull i hi)) (fun i hi => hiv i (hfull i hi)) (fun i j hi hj => hdj i j (hfull i hi) (hfull j hj))
   rw [← actP_net (p := fun j => listed.getD j false) m hfull] at this
   rwa [actP_none (p := fun j => listed.getD j false) ops.size m (by omega) (fun j h1 _ => hlm j h1)]
  · -- one of the net
   have hne : Region.ready .any ops listed ≠ [] := by
    intro h0
    have : ∀ n, ∀ j, j < n → j < m → listed.getD j false = true := by
     intro n
     induction n with
     | zero => intro j hj; omega
     | succ n ihn =>
      intro j hj hjm
      by_cases e : j < n
      ·exact ihn j e hjm
      ·rcases hlj : listed.getD j false with _ | _
       ·exfalso
        have hjs : j < ops.size := by omega
        have hje := Array.getElem?_eq_getElem hjs
        have : j ∈ Region.ready .any ops listed := mem_ready.2 ⟨by
         rw [← hlj]
         simp [Array.getD_eq_getD_getElem?, Array.getElem?_eq_getElem (show j < listed.size by omega)], _, hje, fun e he hb => by
         have := (hok j _ hje).direct e he hb
         exact ihn e.on (by omega) (by omega)⟩
        rw [h0] at this
        cases this
       ·rfl
    exact hfull fun j hj => this (j + 1) j (by omega) hj
   refine ⟨fun h0 => absurd h0 hne, fun i hi => ?_⟩
   obtain ⟨h0, o, ho, hall⟩ := mem_ready.1 hi
   have his := (Array.getElem?_eq_some_iff.1 ho).1
   have hO := hok i o ho
   have hDl : ∀ j ∈ D.getD i [], listed.getD j false = true := hO.danc (fun j => listed.getD j false = true) hall (fun k hk j hj => hcl k hk j hj)
   have hwant : ∀ b : Act, Region.wanted o (yielded ops b.tmps) = true := fun b => by simp [Region.wanted, hO.guard]
   rcases Nat.lt_or_ge i m with him | hge
   case inr =>
    have him : i = m := by
     rcases Nat.lt_or_ge m i with h | h
     ·exact absurd (fun j hj => hDl j (hO.tail (by omega) j (by omega))) hfull
     ·omega
    subst him
    have hls0 : listed.getD s false = false := by
     rcases h : listed.getD s false with _ | _
     ·rfl
     ·exfalso
      refine hfull fun j hj => ?_
      by_cases e : j = s
      ·rw [e, h]
      ·exact hDl j (hD j hj e)
    have hl : ∀ j, listed.getD j false = decide (j < i ∧ j ≠ s) := fun j => by
     by_cases hj : j < i
     ·by_cases e : j = s
      ·rw [e, hls0]; simp
      ·rw [hDl j (hD j hj e)]; simp [hj, e]
     ·rw [hlm j (by omega)]; simp [hj]
    have hT : ∀ k, k < i ∧ k ≠ s → listed.getD k false = true := fun k hk => by rw [hl]; simpa using hk
    have hss : s < ops.size := by omega
    have hse := Array.getElem?_eq_getElem hss
    have h2 := hend2 x w hb (fun k hk => hkn k (hT k hk)) (fun k hk => hiv k (hT k hk)) (fun k j hk hj => hdj k j (hT k hk) (hT j hj)) o ops[s] ho hse
    rw [actP_congr (p := fun j => j != s) (q := fun j => listed.getD j false) (v' := x.v) i (fun j hj => ⟨by rw [hl]; by_cases e : j = s <;> simp [e, hj], fun _ => rfl⟩)] at h2
    rw [actP_none (p := fun j => listed.getD j false) ops.size i (by omega) (fun j h1 _ => hlm j h1)]
    have hli := hlm i (Nat.le_refl _)
    have c1 := count_set (ops := ops) his hli hls
    have hsz1 : (listed.setIfInBounds i true).size = ops.size := by simpa using hls
    have hl1 : ∀ j, (listed.setIfInBounds i true).getD j false = decide (j < i + 1 ∧ j ≠ s) := fun j => by
     rw [set_getD (hls ▸ his), hl]
     by_cases e : j = i
     ·subst e; simp; omega
     ·by_cases e2 : j < i
      ·simp [e, e2, show j < i + 1 by omega]
      ·simp [e, e2, show ¬ j < i + 1 by omega]
    have hs1 : (listed.setIfInBounds i true).getD s false = false := by rw [hl1]; simp
    have c2 := count_set (ops := ops) hss hs1 hsz1
    have hl2 : ∀ j, ((listed.setIfInBounds i true).setIfInBounds s true).getD j false = decide (j < i + 1) := fun j => by
     rw [set_getD (hsz1 ▸ hss), hl1]
     by_cases e : j = s
     ·subst e; simp; omega
     ·simp [e]
    have c3 := count_from (ops := ops) hl2 (by omega)
    have nxt : ∀ a w, wpList P ops Q (ops[s] :: ops.toList.drop (i + 1)) a w → wpAny P .any ops Q fuel (listed.setIfInBounds i true) a w := fun a w h => by
     obtain ⟨f, rfl⟩ : ∃ f, fuel = f + 1 := ⟨fuel - 1, by omega⟩
     have hld : ∀ j, j < ops.size → (listed.setIfInBounds i true).getD j true = (listed.setIfInBounds i true).getD j false := fun j hj => by
      simp only [Array.getD_eq_getD_getElem?, Array.getElem?_eq_getElem (show j < (listed.setIfInBounds i true).size by omega), Option.getD_some]
     have hready : s ∈ Region.ready .any ops (listed.setIfInBounds i true) := mem_ready.2 ⟨by rw [hld s hss, hs1], _, hse, fun e he hb => by
      have := (hok s _ hse).direct e he hb
      rw [hl1]; simp; omega⟩
     refine ⟨fun h0 => (by rw [h0] at hready; cases hready), fun k hk => ?_⟩
     obtain ⟨k0, ok, hok2, hall2⟩ := mem_ready.1 hk
     have hks := (Array.getElem?_eq_some_iff.1 hok2).1
     rw [hld k hks, hl1] at k0
     have hks2 : k = s := by
      by_cases e : k = s
      ·exact e
      ·exfalso
       have hkm : i + 1 ≤ k := by simp at k0; omega
       have hcl2 := (hok k ok hok2).danc (fun j => (listed.setIfInBounds i true).getD j false = true) hall2 (fun y hy j hj => by
        rw [hl1] at hy ⊢
        simp at hy ⊢
        have hyd := (hok y _ (Array.getElem?_eq_getElem (show y < ops.size by omega))).dlt j hj
        refine ⟨by omega, fun e2 => ?_⟩
        subst e2
        rcases Nat.lt_or_ge y i with h3 | h3
        ·have := hcl y (hT y ⟨h3, hy.2⟩) j hj
         rw [hls0] at this
         cases this
        ·have : y = i := by omega
         subst this
         have := hDl j hj
         rw [hls0] at this
         cases this)
       have := hcl2 s ((hok k ok hok2).tail hkm s (by omega))
       rw [hs1] at this
       cases this
     subst hks2
     unfold wpOp
     simp only [hse]
     have hw : Region.wanted ops[k] (yielded ops a.tmps) = true := by simp [Region.wanted, (hok k _ hse).guard]
     simp only [wpList, hw, if_true] at h ⊢
     have nxt2 : ∀ a w, wpList P ops Q (ops.toList.drop (i + 1)) a w → wpAny P .any ops Q f ((listed.setIfInBounds i true).setIfInBounds k true) a w := fun a w h =>
      net_tail2 hok f (i + 1) _ a w (by omega) (by omega) (by simpa using hls) hl2 h
     rcases h with h | h
     ·exact .inl (Oper.wp_mono nxt2 h)
     ·exact .inr h
    unfold wpOp
    simp only [ho]
    simp only [wpList, hwant, if_true] at h2 ⊢
    rcases h2 with h | h
    ·exact .inl (Oper.wp_mono (fun a w h => nxt a w (by simpa only [wpList] using h)) h)
    ·exact .inr h
   have hli : listed.getD i false = false := by
    rw [← h0]
    simp [Array.getD_eq_getD_getElem?, Array.getElem?_eq_getElem (show i < listed.size by omega)]
   have hpre := hdo i o him ho x w hb (fun j hj => ⟨hkn j (hDl j hj), (hiv j (hDl j hj)).2.2⟩) (fun e b w' => e = .normal ∧ ∃ u, b = (netAct ops a0 x.v i).put o.dst u ∧ (Below w.heap.size w w' ∧ (sp.getD i (.eq undef)).holds i (D.getD i []) (x.set i u w.heap.size w'.heap.size) w'))
    (fun u w' h1 h2 => ⟨rfl, u, rfl, h1, h2⟩)
   have hnl : ¬ LetsOut (fun (e : Exit) (b : Act) (w' : World) => e = .normal ∧ ∃ u, b = (netAct ops a0 x.v i).put o.dst u ∧ (Below w.heap.size w w' ∧ (sp.getD i (.eq undef)).holds i (D.getD i []) (x.set i u w.heap.size w'.heap.size) w')) := by
    rintro ⟨b, w', h, _⟩
    cases h
   simp only [wpList, hwant, if_true] at hpre
   rcases hpre with hpre | hpre
   case inr => exact absurd hpre.2 hnl
   simp only [true_and] at hpre
   have hexec : execOp (actP ops a0 x.v (fun j => listed.getD j false) ops.size).eval o = execOp (netAct ops a0 x.v i).eval o := by
    refine execOp_congr o (fun cs b => Region.noSelect_spec hns i o cs b ho) fun y hx => ?_
    by_cases hxt : ∃ t, y = .tmp t
    ·obtain ⟨t, rfl⟩ := hxt
     have hlook : t ∈ o.looksAt ops := List.mem_append_left _ (List.mem_filterMap.2 ⟨.tmp t, by simpa using hx, rfl⟩)
     have e1 : netAct ops a0 x.v i = actP ops a0 x.v (fun j => decide (j < i)) ops.size := by
      rw [actP_none (p := fun j => decide (j < i)) ops.size i (by omega) (fun j h1 _ => by simp; omega)]
      exact (actP_net (p := fun j => decide (j < i)) i (fun j hj => by simp [hj])).symm
     rw [e1]
     refine actP_eval t ops.size fun j hj hd => ?_
     rcases hO.looks j t hd hlook with h | h
     ·rw [hDl j h]; have := hO.dlt j h; simp [this]
     ·have hlt := (hok j _ (Array.getElem?_eq_getElem hj)).dlt i h
      have : listed.getD j false = false := by
       rcases hlj : listed.getD j false with _ | _
       ·rfl
       ·have := hcl j hlj i h
        rw [hli] at this
        cases this
      rw [this]; simp; omega
    ·exact actP_evalC y (fun t h => hxt ⟨t, h⟩) _ _
   have hsz : (netAct ops a0 x.v i).tmps.size = (actP ops a0 x.v (fun j => listed.getD j false) ops.size).tmps.size := by
    rw [actP_size, ← actP_net (p := fun _ => true) i (fun _ _ => rfl), actP_size]
   have hT := wp_transfer (Q2 := Q) hexec hsz (fun c b w' h => by cases h.1) hnl hpre
   unfold wpOp
   simp only [ho, hwant, if_true]
   refine .inl (Oper.wp_mono ?_ hT)
   rintro b w' ⟨u, rfl, hbw, hh⟩
   have hdst : o.dst = dstAt ops i := by simp [dstAt, ho]
   have hlq : ∀ j, (listed.setIfInBounds i true).getD j false = (listed.getD j false || j == i) := fun j => by
    by_cases e : i = j
    ·subst e
     simp [Array.getD_eq_getD_getElem?, Array.getElem?_setIfInBounds, hls, his]
    ·rw [getD_set_ne _ e]
     simp [Ne.symm e]
   rw [hdst, actP_add (v' := (x.set i u w.heap.size w'.heap.size).v) (q := fun j => (listed.setIfInBounds i true).getD j false) (fun j hj _ => by simp [Gh.set, hj]) (by simp [Gh.set]) hli hlq (fun j d hij hlj hdj hdi => by
    rcases hO.dsts j d (by omega) hdj hdi with h | h
    ·have := hO.dlt j h; omega
    ·have := hcl j hlj i h
     rw [hli] at this
     cases this) ops.size his]
   refine ih _ _ _ ?_ (by simpa using hls) (fun j hj => by rw [hlq, hlm j hj]; simp; omega) (fun k hk j hj => ?_) (hb.trans (hbw.mono hb.size)) (fun k hk => ?_) (fun k hk => ?_) (fun k j hk hj hkj => ?_)
   ·have := count_set (ops := ops) his hli hls
    omega
   ·rw [hlq] at hk ⊢
    simp only [Bool.or_eq_true, beq_iff_eq] at hk ⊢
    rcases hk with hk | rfl
    ·exact .inl (hcl k hk j hj)
    ·exact .inl (hDl j hj)
   ·rw [hlq] at hk
    simp only [Bool.or_eq_true, beq_iff_eq] at hk
    unfold known
    by_cases e : k = i
    ·subst e
     exact hh
    ·rcases hk with hk | hk
     ·refine NS.holds_congr (x := x) (fun j hj => ?_) (NS.holds_stable (hst' k) (hkn k hk) hbw)
      have hji : j ≠ i := by
       rcases hj with rfl | hj
       ·exact e
       ·rintro rfl
        have := hcl k hk j hj
        rw [hli] at this
        cases this
      simp [Gh.set, hji]
     ·exact absurd hk e
   ·rw [hlq] at hk
    simp only [Bool.or_eq_true, beq_iff_eq] at hk
    by_cases e : k = i
    ·subst e
     simp only [Gh.set, if_true]
     exact ⟨hb.size, hbw.size, Nat.le_refl _⟩
    ·have := hiv k (hk.resolve_right e)
     have := hbw.size
     simp only [Gh.set, if_neg e]
     omega
   ·rw [hlq] at hk hj
    simp only [Bool.or_eq_true, beq_iff_eq] at hk hj
    by_cases e : k = i
    ·subst e
     have := hiv j (hj.resolve_right (Ne.symm hkj))
     simp only [Gh.set, if_true, if_neg (Ne.symm hkj)]
     exact .inr (by omega)
    ·by_cases e' : j = i
     ·subst e'
      have := hiv k (hk.resolve_right e)
      simp only [Gh.set, if_true, if_neg e]
      exact .inl (by omega)
     ·simp only [Gh.set, if_neg e, if_neg e']
      exact hdj k j (hk.resolve_right e) (hj.resolve_right e') hkj
def netB2 (ops : Array Oper) (D : List (List Nat)) (m s : Nat) : Bool := netB ops D (m + 1) && (decide (m < ops.size) && decide (s < m) && (List.range m).all fun j => j == s || (D.getD m []).contains j)
theorem wp_region_net2 {id : Nat} {l : List Oper} {w : World} (hmo : P.follows .mixedOrders = true) (sp : List NS) (D : List (List Nat)) (m s : Nat) (L : List Nat) (hB : netB2 l.toArray D m s = true) (hL : L = (List.range m).filter (fun j => j != s)) (hst : stableAll sp)
  (hdo : netAll P l.toArray sp D a0 w 0 (l.take m))
  (hend : ∀ x w', Below w.heap.size w w' → (∀ i, i < m → known sp D x i w') → (∀ i, i < m → w.heap.size ≤ x.lo i ∧ x.lo i ≤ x.hi i ∧ x.hi i ≤ w'.heap.size) → (∀ i j, i < m → j < m → i ≠ j → x.hi i ≤ x.lo j ∨ x.hi j ≤ x.lo i) → wpList P l.toArray Q (l.drop m) (netAct l.toArray a0 x.v m) w')
  (hend2 : ∀ x w', Below w.heap.size w w' → (∀ i, i < m ∧ i ≠ s → known sp D x i w') → (∀ i, i < m ∧ i ≠ s → w.heap.size ≤ x.lo i ∧ x.lo i ≤ x.hi i ∧ x.hi i ≤ w'.heap.size) → (∀ i j, i < m ∧ i ≠ s → j < m ∧ j ≠ s → i ≠ j → x.hi i ≤ x.lo j ∨ x.hi j ≤ x.lo i) → ∀ om os, l[m]? = some om → l[s]? = some os → wpList P l.toArray Q (om :: os :: l.drop (m + 1)) (L.foldl (fun a k => a.put (dstAt l.toArray k) (x.v k)) a0) w') : (Code.region id l.toArray true).wp P Q a0 w := by
 replace hst := stableAll_spec hst
 subst hL
 simp only [netB2, Bool.and_eq_true, decide_eq_true_eq, List.all_eq_true, List.mem_range, Bool.or_eq_true, beq_iff_eq, List.contains_iff_mem, List.contains_eq_mem] at hB
 obtain ⟨hB, ⟨hms, hsm⟩, hDm⟩ := hB
 have hdo : ∀ i o, i < m → l[i]? = some o → netDo P l.toArray sp D a0 w.drew i o := fun i o hi ho => by
  have := netAll_spec (l.take m) 0 hdo i o (by rw [List.getElem?_take, if_pos hi]; exact ho)
  rw [Nat.zero_add] at this
  exact fun v w1 hb => this v w1 ⟨hb.os, hb.tape, hb.output, hb.size, hb.block⟩
 refine wp_region_any hmo ?_
 have h := net_any2 (w0 := w.drew) (a0 := a0) (Q := Q) (P := P) (sp := sp) (s := s) hB hms hsm (fun j hj hne => (hDm j hj).resolve_left hne) hst (fun i o hi ho => hdo i o hi (by simpa using ho)) (fun x w' hb hk hiv hdj => by simpa using hend x w' (show Below w.heap.size w w' from ⟨hb.os, hb.tape, hb.output, hb.size, hb.block⟩) hk hiv hdj)
  (fun x w' hb hk hiv hdj om os hom hos => by rw [actP_fold]; simpa using hend2 x w' (show Below w.heap.size w w' from ⟨hb.os, hb.tape, hb.output, hb.size, hb.block⟩) hk hiv hdj om os (by simpa using hom) (by simpa using hos))
  l.toArray.size (Array.replicate l.toArray.size false) ⟨fun _ => undef, fun _ => 0, fun _ => 0⟩ w.drew
  (by rw [List.filter_eq_self.2 (fun j _ => by rw [repl_getD]; rfl), List.length_range])
  (by simp) (fun j _ => repl_getD _ _)
  (fun i hi => by rw [repl_getD] at hi; cases hi)
  (Below.refl _ _)
  (fun i hi => by rw [repl_getD] at hi; cases hi)
  (fun i hi => by rw [repl_getD] at hi; cases hi)
  (fun i j hi => by rw [repl_getD] at hi; cases hi)
 have e : actP l.toArray a0 (fun _ => undef) (fun j => (Array.replicate l.toArray.size false).getD j false) l.toArray.size = a0 :=
  actP_none l.toArray.size 0 (by omega) (fun j _ _ => repl_getD _ _)
 rw [e] at h
 exact h
end
def QB (w : World) (d : Nat) : Prop := ∃ (P V : Int) (A : Option Addr) (nf a : Nat) (C : Option Addr) (nt cc : Nat) (E : Option Addr) (nd ee : Nat) (H : Option Addr) (nm h : Nat), Blk w d 31 #[.int .i64 P, .int .i64 V, .slice A nf a, .slice C nt cc, .slice E nd ee, .slice H nm h]
structure Cd (c d : Nat) (fin : Array Value) (w w' : World) : Prop where
 os : w'.os = w.os
 tape : w'.tape = w.tape
 output : w'.output = w.output
 size : w.heap.size ≤ w'.heap.size
 block : ∀ k, k < w.heap.size → k ≠ c ∧ k ≠ d → w'.heap[k]? = w.heap[k]?
 keep : Cur w c → Cur w' c
 keepD : Blk w d 31 fin → Blk w' d 31 fin
 keepE : QB w d → QB w' d
theorem Cd.refl (c d : Nat) (fin : Array Value) (w : World) : Cd c d fin w w := ⟨rfl, rfl, rfl, Nat.le_refl _, fun _ _ _ => rfl, id, id, id⟩
theorem Cd.trans {c d : Nat} {fin : Array Value} {w w' w'' : World} (h : Cd c d fin w w') (k : Cd c d fin w' w'') : Cd c d fin w w'' :=
 ⟨k.os.trans h.os, k.tape.trans h.tape, k.output.trans h.output, Nat.le_trans h.size k.size, fun i hi hne => (k.block i (Nat.lt_of_lt_of_le hi h.size) hne).trans (h.block i hi hne), fun h0 => k.keep (h.keep h0), fun h0 => k.keepD (h.keepD h0), fun h0 => k.keepE (h.keepE h0)⟩
theorem Cd.of_ck {c d : Nat} {fin : Array Value} {w w' : World} (h : Ck c w w') (hd : d ≠ c) : Cd c d fin w w' :=
 ⟨h.os, h.tape, h.output, h.size, fun k hk hn => h.block k hk hn.1, h.keep, fun hB => hB.ck h hd, fun ⟨P, V, A, nf, a, C, nt, cc, E, nd, ee, H, nm, hh, hB⟩ => ⟨P, V, A, nf, a, C, nt, cc, E, nd, ee, H, nm, hh, hB.ck h hd⟩⟩
theorem Blk.cd {c d g : Nat} {fin : Array Value} {w w' : World} {t : TypeId} {cs : Array Value} (h : Blk w g t cs) (k : Cd c d fin w w') (hc : g ≠ c) (hd : g ≠ d) : Blk w' g t cs := (k.block g h.lt ⟨hc, hd⟩).trans h
theorem Cd.low {c d : Nat} {fin : Array Value} {w w' : World} {B : Nat} (h : Cd c d fin w w') (h1 : B ≤ c) (h2 : B ≤ d) (hs : B ≤ w.heap.size) : Below B w w' := ⟨h.os, h.tape, h.output, h.size, fun k hk => h.block k (by omega) ⟨by omega, by omega⟩⟩
theorem Cd.chg {c d : Nat} {fin : Array Value} {w w' : World} (h : Cd c d fin w w') {hi : Nat} (h1 : c < hi) (h2 : d < hi) : Chg 0 hi w w' := ⟨h.os, h.tape, h.output, h.size, fun k hk hn => h.block k hk (by omega)⟩
def NS.stableD (s : NS) (kc kd : Nat) (kf : Array Value) : Prop :=
 match s with
 | .eq _ => True
 | .rel R => ∀ x w w', R x w → Cd kc kd kf w w' → R x w'
theorem NS.holds_stableD {kc kd : Nat} {kf : Array Value} {s : NS} (h : s.stableD kc kd kf) {i : Nat} {D : List Nat} {x : Gh} {w w' : World} (hh : s.holds i D x w) (hb : Cd kc kd kf w w') : s.holds i D x w' := by
 cases s with
 | eq f => exact hh
 | rel R => exact h _ _ _ hh hb
section
variable {P : Program}
section
variable {ops : Array Oper} {Q : Exit → Act → World → Prop} {sp : List NS} {D : List (List Nat)} {m : Nat} {a0 : Act} {w0 : World}
def netDoD (kc kd : Nat) (kf : Array Value) (P : Program) (ops : Array Oper) (sp : List NS) (D : List (List Nat)) (a0 : Act) (w0 : World) (i : Nat) (o : Oper) : Prop :=
 ∀ (x : Gh) (w : World), Cd kc kd kf w0 w → (∀ j ∈ D.getD i [], known sp D x j w ∧ x.hi j ≤ w.heap.size) → ∀ Q' : Exit → Act → World → Prop,
  (∀ u w', Cd kc kd kf w w' → (sp.getD i (.eq undef)).holds i (D.getD i []) (x.set i u w.heap.size w'.heap.size) w' → Q' .normal ((netAct ops a0 x.v i).put o.dst u) w') → wpList P ops Q' [o] (netAct ops a0 x.v i) w
theorem net_anyD {kc kd : Nat} {kf : Array Value} (hB : netB ops D m = true) (hst : ∀ s ∈ sp, s.stableD kc kd kf) (hdo : ∀ i o, i < m → ops[i]? = some o → netDoD kc kd kf P ops sp D a0 w0 i o)
  (hend : ∀ x w, Cd kc kd kf w0 w → (∀ i, i < m → known sp D x i w) → (∀ i, i < m → w0.heap.size ≤ x.lo i ∧ x.lo i ≤ x.hi i ∧ x.hi i ≤ w.heap.size) → (∀ i j, i < m → j < m → i ≠ j → x.hi i ≤ x.lo j ∨ x.hi j ≤ x.lo i) → wpList P ops Q (ops.toList.drop m) (netAct ops a0 x.v m) w) :
  ∀ (fuel : Nat) (listed : Array Bool) (x : Gh) (w : World), ((List.range ops.size).filter fun j => !listed.getD j false).length = fuel → listed.size = ops.size → (∀ j, m ≤ j → listed.getD j false = false) →
   (∀ i, listed.getD i false = true → ∀ j ∈ D.getD i [], listed.getD j false = true) → Cd kc kd kf w0 w → (∀ i, listed.getD i false = true → known sp D x i w) → (∀ i, listed.getD i false = true → w0.heap.size ≤ x.lo i ∧ x.lo i ≤ x.hi i ∧ x.hi i ≤ w.heap.size) →
   (∀ i j, listed.getD i false = true → listed.getD j false = true → i ≠ j → x.hi i ≤ x.lo j ∨ x.hi j ≤ x.lo i) →
   wpAny P .any ops Q fuel listed (actP ops a0 x.v (fun j => listed.getD j false) ops.size) w := by
 simp only [netB, Bool.and_eq_true, decide_eq_true_eq] at hB
 obtain ⟨⟨hm, hns⟩, hnf⟩ := hB
 have hok : ∀ i o, ops[i]? = some o → NetOk ops D m i o := fun i o ho => netAt_spec (by
  have := netFrom_spec ops.toList 0 hnf i o (by simpa using ho)
  simpa using this)
 have hst' : ∀ i, (sp.getD i (.eq undef)).stableD kc kd kf := fun i => by
  rw [List.getD_eq_getElem?_getD]
  rcases h : sp[i]? with _ | s
  ·trivial
  ·exact hst s (List.mem_of_getElem? h)
 intro fuel
 induction fuel with
 | zero =>
  intro listed x w hc hls hlm hcl hb hkn hiv hdj
  have hall : ∀ j, j < ops.size → listed.getD j false = true := fun j hj => by
   rw [List.length_eq_zero_iff, List.filter_eq_nil_iff] at hc
   have := hc j (List.mem_range.2 hj)
   simpa using this
  have hms : m = ops.size := by
   rcases Nat.lt_or_ge m ops.size with h | h
   ·have := hall m h
    rw [hlm m (Nat.le_refl _)] at this
    cases this
   ·omega
  refine net_tail hok 0 ops.size listed _ w (by omega) (by omega) hls (fun j => ?_) ?_
  ·by_cases hj : j < ops.size
   ·rw [hall j hj]; simp [hj]
   ·rw [hlm j (by omega)]; simp [hj]
  ·have := hend x w hb (fun i hi => hkn i (hall i (by omega))) (fun i hi => hiv i (hall i (by omega))) (fun i j hi hj => hdj i j (hall i (by omega)) (hall j (by omega)))
   rw [← actP_net (p := fun j => listed.getD j false) m (fun j hj => hall j (by omega))] at this
   rwa [hms] at this
 | succ fuel ih =>
  intro listed x w hc hls hlm hcl hb hkn hiv hdj
  by_cases hfull : ∀ j, j < m → listed.getD j false = true
  · -- the tail
   have hl : ∀ j, listed.getD j false = decide (j < m) := fun j => by
    by_cases hj : j < m
    ·rw [hfull j hj]; simp [hj]
    ·rw [hlm j (by omega)]; simp [hj]
   have hcnt : fuel + 1 + m = ops.size := by
    rw [← hc]
    have e : (List.range ops.size).filter (fun j => !listed.getD j false) = (List.range' m (ops.size - m)) := by
     have e1 : (List.range ops.size) = List.range m ++ List.range' m (ops.size - m) := by
      have h := List.range'_append_1 (s := 0) (m := m) (n := ops.size - m)
      rw [Nat.zero_add] at h
      rw [List.range_eq_range', List.range_eq_range', h]
      congr 1
      omega
     rw [e1, List.filter_append]
     rw [List.filter_eq_nil_iff.2 (fun j hj => by rw [hl]; simp at hj ⊢; exact hj), List.nil_append]
     rw [List.filter_eq_self.2 (fun j hj => by rw [hl]; simp [List.mem_range'] at hj ⊢; omega)]
    rw [e, List.length_range']
    omega
   refine net_tail hok (fuel + 1) m listed _ w (by omega) (Nat.le_refl _) hls hl ?_
   have := hend x w hb (fun i hi => hkn i (hfull i hi)) (fun i hi => hiv i (hfull i hi)) (fun i j hi hj => hdj i j (hfull i hi) (hfull j hj))
   rw [← actP_net (p := fun j => listed.getD j false) m hfull] at this
   rwa [actP_none (p := fun j => listed.getD j false) ops.size m hm (fun j h1 _ => hlm j h1)]
  · -- one of the net
   have hne : Region.ready .any ops listed ≠ [] := by
    intro h0
    have : ∀ n, ∀ j, j < n → j < m → listed.getD j false = true := by
     intro n
     induction n with
     | zero => intro j hj; omega
     | succ n ihn =>
      intro j hj hjm
      by_cases e : j < n
      ·exact ihn j e hjm
      ·rcases hlj : listed.getD j false with _ | _
       ·exfalso
        have hjs : j < ops.size := by omega
        have hje := Array.getElem?_eq_getElem hjs
        have : j ∈ Region.ready .any ops listed := mem_ready.2 ⟨by
         rw [← hlj]
         simp [Array.getD_eq_getD_getElem?, Array.getElem?_eq_getElem (show j < listed.size by omega)], _, hje, fun e he hb => by
         have := (hok j _ hje).direct e he hb
         exact ihn e.on (by omega) (by omega)⟩
        rw [h0] at this
        cases this
       ·rfl
    exact hfull fun j hj => this (j + 1) j (by omega) hj
   refine ⟨fun h0 => absurd h0 hne, fun i hi => ?_⟩
   obtain ⟨h0, o, ho, hall⟩ := mem_ready.1 hi
   have his := (Array.getElem?_eq_some_iff.1 ho).1
   have hO := hok i o ho
   have hDl : ∀ j ∈ D.getD i [], listed.getD j false = true := hO.danc (fun j => listed.getD j false = true) hall (fun k hk j hj => hcl k hk j hj)
   have him : i < m := by
    rcases Nat.lt_or_ge i m with h | h
    ·exact h
    ·exact absurd (fun j hj => hDl j (hO.tail h j (by omega))) hfull
   have hli : listed.getD i false = false := by
    rw [← h0]
    simp [Array.getD_eq_getD_getElem?, Array.getElem?_eq_getElem (show i < listed.size by omega)]
   have hpre := hdo i o him ho x w hb (fun j hj => ⟨hkn j (hDl j hj), (hiv j (hDl j hj)).2.2⟩) (fun e b w' => e = .normal ∧ ∃ u, b = (netAct ops a0 x.v i).put o.dst u ∧ (Cd kc kd kf w w' ∧ (sp.getD i (.eq undef)).holds i (D.getD i []) (x.set i u w.heap.size w'.heap.size) w'))
    (fun u w' h1 h2 => ⟨rfl, u, rfl, h1, h2⟩)
   have hwant : ∀ b : Act, Region.wanted o (yielded ops b.tmps) = true := fun b => by simp [Region.wanted, hO.guard]
   have hnl : ¬ LetsOut (fun (e : Exit) (b : Act) (w' : World) => e = .normal ∧ ∃ u, b = (netAct ops a0 x.v i).put o.dst u ∧ (Cd kc kd kf w w' ∧ (sp.getD i (.eq undef)).holds i (D.getD i []) (x.set i u w.heap.size w'.heap.size) w')) := by
    rintro ⟨b, w', h, _⟩
    cases h
   simp only [wpList, hwant, if_true] at hpre
   rcases hpre with hpre | hpre
   case inr => exact absurd hpre.2 hnl
   simp only [true_and] at hpre
   have hexec : execOp (actP ops a0 x.v (fun j => listed.getD j false) ops.size).eval o = execOp (netAct ops a0 x.v i).eval o := by
    refine execOp_congr o (fun cs b => Region.noSelect_spec hns i o cs b ho) fun y hx => ?_
    by_cases hxt : ∃ t, y = .tmp t
    ·obtain ⟨t, rfl⟩ := hxt
     have hlook : t ∈ o.looksAt ops := List.mem_append_left _ (List.mem_filterMap.2 ⟨.tmp t, by simpa using hx, rfl⟩)
     have e1 : netAct ops a0 x.v i = actP ops a0 x.v (fun j => decide (j < i)) ops.size := by
      rw [actP_none (p := fun j => decide (j < i)) ops.size i (by omega) (fun j h1 _ => by simp; omega)]
      exact (actP_net (p := fun j => decide (j < i)) i (fun j hj => by simp [hj])).symm
     rw [e1]
     refine actP_eval t ops.size fun j hj hd => ?_
     rcases hO.looks j t hd hlook with h | h
     ·rw [hDl j h]; have := hO.dlt j h; simp [this]
     ·have hlt := (hok j _ (Array.getElem?_eq_getElem hj)).dlt i h
      have : listed.getD j false = false := by
       rcases hlj : listed.getD j false with _ | _
       ·rfl
       ·have := hcl j hlj i h
        rw [hli] at this
        cases this
      rw [this]; simp; omega
    ·exact actP_evalC y (fun t h => hxt ⟨t, h⟩) _ _
   have hsz : (netAct ops a0 x.v i).tmps.size = (actP ops a0 x.v (fun j => listed.getD j false) ops.size).tmps.size := by
    rw [actP_size, ← actP_net (p := fun _ => true) i (fun _ _ => rfl), actP_size]
   have hT := wp_transfer (Q2 := Q) hexec hsz (fun c b w' h => by cases h.1) hnl hpre
   unfold wpOp
   simp only [ho, hwant, if_true]
   refine .inl (Oper.wp_mono ?_ hT)
   rintro b w' ⟨u, rfl, hbw, hh⟩
   have hdst : o.dst = dstAt ops i := by simp [dstAt, ho]
   have hlq : ∀ j, (listed.setIfInBounds i true).getD j false = (listed.getD j false || j == i) := fun j => by
    by_cases e : i = j
    ·subst e
     simp [Array.getD_eq_getD_getElem?, Array.getElem?_setIfInBounds, hls, his]
    ·rw [getD_set_ne _ e]
     simp [Ne.symm e]
   rw [hdst, actP_add (v' := (x.set i u w.heap.size w'.heap.size).v) (q := fun j => (listed.setIfInBounds i true).getD j false) (fun j hj _ => by simp [Gh.set, hj]) (by simp [Gh.set]) hli hlq (fun j d hij hlj hdj hdi => by
    rcases hO.dsts j d (by omega) hdj hdi with h | h
    ·have := hO.dlt j h; omega
    ·have := hcl j hlj i h
     rw [hli] at this
     cases this) ops.size his]
   refine ih _ _ _ ?_ (by simpa using hls) (fun j hj => by rw [hlq, hlm j hj]; simp; omega) (fun k hk j hj => ?_) (hb.trans hbw) (fun k hk => ?_) (fun k hk => ?_) (fun k j hk hj hkj => ?_)
   · -- the count
    have hmem : i ∈ (List.range ops.size).filter fun j => !listed.getD j false := by
     rw [List.mem_filter]; exact ⟨List.mem_range.2 his, by rw [hli]; rfl⟩
    have e : (List.range ops.size).filter (fun j => !(listed.setIfInBounds i true).getD j false) = ((List.range ops.size).filter fun j => !listed.getD j false).filter (fun j => j != i) := by
     rw [List.filter_filter]
     congr 1
     funext j
     rw [hlq]
     simp [Bool.not_or, Bool.and_comm, bne]
    have hnd : ((List.range ops.size).filter fun j => !listed.getD j false).Nodup := List.nodup_range.filter _
    rw [e]
    have := List.length_erase_of_mem hmem
    rw [hnd.erase_eq_filter, hc] at this
    simpa using this
   ·rw [hlq] at hk ⊢
    simp only [Bool.or_eq_true, beq_iff_eq] at hk ⊢
    rcases hk with hk | rfl
    ·exact .inl (hcl k hk j hj)
    ·exact .inl (hDl j hj)
   ·rw [hlq] at hk
    simp only [Bool.or_eq_true, beq_iff_eq] at hk
    unfold known
    by_cases e : k = i
    ·subst e
     exact hh
    ·rcases hk with hk | hk
     ·refine NS.holds_congr (x := x) (fun j hj => ?_) (NS.holds_stableD (hst' k) (hkn k hk) hbw)
      have hji : j ≠ i := by
       rcases hj with rfl | hj
       ·exact e
       ·rintro rfl
        have := hcl k hk j hj
        rw [hli] at this
        cases this
      simp [Gh.set, hji]
     ·exact absurd hk e
   ·rw [hlq] at hk
    simp only [Bool.or_eq_true, beq_iff_eq] at hk
    by_cases e : k = i
    ·subst e
     simp only [Gh.set, if_true]
     exact ⟨hb.size, hbw.size, Nat.le_refl _⟩
    ·have := hiv k (hk.resolve_right e)
     have := hbw.size
     simp only [Gh.set, if_neg e]
     omega
   ·rw [hlq] at hk hj
    simp only [Bool.or_eq_true, beq_iff_eq] at hk hj
    by_cases e : k = i
    ·subst e
     have := hiv j (hj.resolve_right (Ne.symm hkj))
     simp only [Gh.set, if_true, if_neg (Ne.symm hkj)]
     exact .inr (by omega)
    ·by_cases e' : j = i
     ·subst e'
      have := hiv k (hk.resolve_right e)
      simp only [Gh.set, if_true, if_neg e]
      exact .inl (by omega)
     ·simp only [Gh.set, if_neg e, if_neg e']
      exact hdj k j (hk.resolve_right e) (hj.resolve_right e') hkj
def stableAllD (kc kd : Nat) (kf : Array Value) : List NS → Prop
 | [] => True
 | s :: l => s.stableD kc kd kf ∧ stableAllD kc kd kf l
theorem stableAllD_spec {kc kd : Nat} {kf : Array Value} : ∀ {l : List NS}, stableAllD kc kd kf l → ∀ s ∈ l, s.stableD kc kd kf
 | [], _, s, hs => by simp at hs
 | a :: l, h, s, hs => by
  rcases List.mem_cons.1 hs with rfl | hs
  ·exact h.1
  ·exact stableAllD_spec h.2 s hs
def netAllD (kc kd : Nat) (kf : Array Value) (P : Program) (ops : Array Oper) (sp : List NS) (D : List (List Nat)) (a0 : Act) (w0 : World) : Nat → List Oper → Prop
 | _, [] => True
 | i, o :: l => netDoD kc kd kf P ops sp D a0 w0 i o ∧ netAllD kc kd kf P ops sp D a0 w0 (i + 1) l
theorem netAllD_spec {kc kd : Nat} {kf : Array Value} {ops : Array Oper} {sp : List NS} {D : List (List Nat)} {a0 : Act} {w0 : World} : ∀ (l : List Oper) (k : Nat), netAllD kc kd kf P ops sp D a0 w0 k l → ∀ j o, l[j]? = some o → netDoD kc kd kf P ops sp D a0 w0 (k + j) o
 | [], _, _, _, _, h => by simp at h
 | x :: l, k, h, 0, o, hj => by
  simp at hj
  subst hj
  exact h.1
 | x :: l, k, h, j + 1, o, hj => by
  have := netAllD_spec l (k + 1) h.2 j o (by simpa using hj)
  rwa [show k + 1 + j = k + (j + 1) by omega] at this
theorem rel_stableD {kc kd : Nat} {kf : Array Value} {i : Nat} {R : Value → Nat → Nat → World → Prop} (h : ∀ u lo hi w w', R u lo hi w → Cd kc kd kf w w' → R u lo hi w') : (rel i R).stableD kc kd kf := fun v w w' hr hb => h _ _ _ _ _ hr hb
theorem wp_region_netD (kc kd : Nat) (kf : Array Value) {id : Nat} {l : List Oper} {w : World} (hmo : P.follows .mixedOrders = true) (sp : List NS) (D : List (List Nat)) (m : Nat) (hB : netB l.toArray D m = true) (hst : stableAllD kc kd kf sp)
  (hdo : netAllD kc kd kf P l.toArray sp D a0 w 0 (l.take m))
  (hend : ∀ x w', Cd kc kd kf w w' → (∀ i, i < m → known sp D x i w') → (∀ i, i < m → w.heap.size ≤ x.lo i ∧ x.lo i ≤ x.hi i ∧ x.hi i ≤ w'.heap.size) → (∀ i j, i < m → j < m → i ≠ j → x.hi i ≤ x.lo j ∨ x.hi j ≤ x.lo i) → wpList P l.toArray Q (l.drop m) (netAct l.toArray a0 x.v m) w') : (Code.region id l.toArray true).wp P Q a0 w := by
 replace hst := stableAllD_spec hst
 have hdo : ∀ i o, i < m → l[i]? = some o → netDoD kc kd kf P l.toArray sp D a0 w.drew i o := fun i o hi ho => by
  have := netAllD_spec (l.take m) 0 hdo i o (by rw [List.getElem?_take, if_pos hi]; exact ho)
  rw [Nat.zero_add] at this
  exact fun v w1 hb => this v w1 ⟨hb.os, hb.tape, hb.output, hb.size, hb.block, hb.keep, hb.keepD, hb.keepE⟩
 refine wp_region_any hmo ?_
 have h := net_anyD (w0 := w.drew) (a0 := a0) (Q := Q) (P := P) (sp := sp) hB hst (fun i o hi ho => hdo i o hi (by simpa using ho)) (fun x w' hb hk hiv hdj => by simpa using hend x w' (show Cd kc kd kf w w' from ⟨hb.os, hb.tape, hb.output, hb.size, hb.block, hb.keep, hb.keepD, hb.keepE⟩) hk hiv hdj)
  l.toArray.size (Array.replicate l.toArray.size false) ⟨fun _ => undef, fun _ => 0, fun _ => 0⟩ w.drew
  (by rw [List.filter_eq_self.2 (fun j _ => by rw [repl_getD]; rfl), List.length_range])
  (by simp) (fun j _ => repl_getD _ _)
  (fun i hi => by rw [repl_getD] at hi; cases hi)
  (Cd.refl _ _ _ _)
  (fun i hi => by rw [repl_getD] at hi; cases hi)
  (fun i hi => by rw [repl_getD] at hi; cases hi)
  (fun i j hi => by rw [repl_getD] at hi; cases hi)
 have e : actP l.toArray a0 (fun _ => undef) (fun j => (Array.replicate l.toArray.size false).getD j false) l.toArray.size = a0 :=
  actP_none l.toArray.size 0 (by omega) (fun j _ _ => repl_getD _ _)
 rw [e] at h
 exact h
end
end
section
variable {P : Program}
section
variable {ops : Array Oper} {Q : Exit → Act → World → Prop} {sp : List NS} {D N : List (List Nat)} {m g : Nat} {a0 : Act} {w0 : World} {E : Nat → Bool}
end
end
theorem run_mkI (w : World) {n : Nat} (hn : n ≤ 1000000) : (Instr.makeSlice 26 (.int .i64 (n : Int)) (.int .i64 (n : Int))).run Tryz.prog w = .ok (.slice (some ⟨w.heap.size, 0, none⟩) n n) (w.alloc (.cells (mkCells (.int .i64 0) n) 3)) := by
 obtain ⟨i0, hi, hz0, hz1, hz2⟩ := info_parts infoInt
 have hmk := run_mk (P := Tryz.prog) Tryz.underlying26 hi hz0 (n := n) (by rw [hz2]; omega) (by omega)
 rw [hz1, Nat.mul_one] at hmk
 exact hmk w
set_option maxHeartbeats 800000 in
theorem specEqualMatrices_same (u v : Value) (m : Mx) (w : World) (hu : MxR w w.heap.size u m) (hv : MxR w w.heap.size v m) :
  Calls Tryz.prog 24 #[u, v] w fun e w' => e = .returned (.bool true) ∧ Below w.heap.size w w' := by
 obtain ⟨A, c, rfl, hx, hr, hc, hn⟩ := hu.open_
 obtain ⟨C, d, rfl, hy, _, _, _⟩ := hv.open_
 clear hu hv
 obtain ⟨W, hW⟩ : ∃ W, W = (w.alloc (.cells #[.int .i64 m.r, .int .i64 m.c, .slice A m.a.length c] 44)).alloc (.cells #[.int .i64 m.r, .int .i64 m.c, .slice C m.a.length d] 44) := ⟨_, rfl⟩
 have g0 : Below w.heap.size w W := by rw [hW]; exact ((Below.refl _ _).alloc (Nat.le_refl _) _).alloc (by simp) _
 have k1 : Blk W w.heap.size 44 #[.int .i64 m.r, .int .i64 m.c, .slice A m.a.length c] := by rw [hW]; exact (Blk.new _ _ _).alloc _
 have k2 : Blk W (w.heap.size + 1) 44 #[.int .i64 m.r, .int .i64 m.c, .slice C m.a.length d] := by
  rw [hW]
  have := Blk.new (w.alloc (.cells #[.int .i64 m.r, .int .i64 m.c, .slice A m.a.length c] 44)) 44 #[.int .i64 m.r, .int .i64 m.c, .slice C m.a.length d]
  simpa only [World.size_alloc] using this
 replace hx := SlI.next g0 hx
 replace hy := SlI.next g0 hy
 have r1 : (m.r != m.r) = false := by simp
 have r2 : (m.c != m.c) = false := by simp
 have r3 : ((m.a.length : Int) != m.a.length) = false := by simp
 have c0 := k1.cell' (i := 0) rfl
 have c1 := k1.cell' (i := 1) rfl
 have c2 := k1.cell' (i := 2) rfl
 have d0 := k2.cell' (i := 0) rfl
 have d1 := k2.cell' (i := 1) rfl
 have d2 := k2.cell' (i := 2) rfl
 have G0 := Lib.hid g0
 clear g0 hr hc
 go_enter Tryz.func24, Tryz.ntmps24
 go_wp2
 rw [← hW]; clear hW
 go_loopw [5] (fun i wr => ∃ k q : Nat, k ≤ m.a.length ∧ i = .int .i64 k ∧ wr = W.drewN q) (fun i _ => m.a.length - (intOf i).toNat)
 case atStart => exact ⟨0, 0, Nat.zero_le _, rfl, rfl⟩
 case round =>
  obtain ⟨k, q, hk, rfl, rfl⟩ := hrel
  by_cases hlt : k < m.a.length
  ·obtain ⟨b, o, x, rfl, hb, HX, x1, _⟩ := SlI.at_ hx hlt
   obtain ⟨b', o', y, rfl, hb', HY, y1, _⟩ := SlI.at_ hy hlt
   have e := HX.out
   rw [HY.out] at e
   injection e with e
   subst e
   have e1 : (y != y) = false := by simp
   clear hx hy
   go_wp2
   go_quiet (fail)
   go_wp2
   go_roundw
   case rel => exact ⟨k + 1, q + nq, by omega, by go_num, rfl⟩
   case measure => simp [intOf]; omega
  ·go_wp2
   go_ret
   exact ⟨rfl, below_drewN G0.out _⟩
set_option maxHeartbeats 3200000 in
set_option maxRecDepth 100000 in
theorem specEqualReps_same (u v : Value) (x : Rp) (w : World) (hu : RpR w w.heap.size u x) (hv : RpR w w.heap.size v x) :
  Calls Tryz.prog 10 #[u, v] w fun e w' => e = .returned (.bool true) ∧ Below w.heap.size w w' := by
 obtain ⟨A, a, C, c, E, e, H, h, rfl, hq, hd, hm, _⟩ := hu.open_
 obtain ⟨A', a', C', c', E', e', H', h', rfl, hq', hd', hm', _⟩ := hv.open_
 clear hu hv
 obtain ⟨W, hW⟩ : ∃ W, W = (w.alloc (.cells #[.int .i64 x.p, .int .i64 x.q.v, .slice A x.q.f.length a, .slice C x.q.t.length c, .slice E x.d.length e, .slice H x.m.length h] 31)).alloc (.cells #[.int .i64 x.p, .int .i64 x.q.v, .slice A' x.q.f.length a', .slice C' x.q.t.length c', .slice E' x.d.length e', .slice H' x.m.length h'] 31) := ⟨_, rfl⟩
 have g0 : Below w.heap.size w W := by rw [hW]; exact ((Below.refl _ _).alloc (Nat.le_refl _) _).alloc (by simp) _
 have k1 : Blk W w.heap.size 31 #[.int .i64 x.p, .int .i64 x.q.v, .slice A x.q.f.length a, .slice C x.q.t.length c, .slice E x.d.length e, .slice H x.m.length h] := by rw [hW]; exact (Blk.new _ _ _).alloc _
 have k2 : Blk W (w.heap.size + 1) 31 #[.int .i64 x.p, .int .i64 x.q.v, .slice A' x.q.f.length a', .slice C' x.q.t.length c', .slice E' x.d.length e', .slice H' x.m.length h'] := by
  rw [hW]
  have := Blk.new (w.alloc (.cells #[.int .i64 x.p, .int .i64 x.q.v, .slice A x.q.f.length a, .slice C x.q.t.length c, .slice E x.d.length e, .slice H x.m.length h] 31)) 31 #[.int .i64 x.p, .int .i64 x.q.v, .slice A' x.q.f.length a', .slice C' x.q.t.length c', .slice E' x.d.length e', .slice H' x.m.length h']
  simpa only [World.size_alloc] using this
 replace hq := QvR.next g0 hq
 replace hq' := QvR.next g0 hq'
 replace hd := SlI.next g0 hd
 replace hd' := SlI.next g0 hd'
 replace hm := SlM.next g0 hm
 replace hm' := SlM.next g0 hm'
 have r1 : (x.p != x.p) = false := by simp
 have r3 : ((x.m.length : Int) != x.m.length) = false := by simp
 have c0 := k1.cell' (i := 0) rfl
 have c1 := k1.cell' (i := 1) rfl
 have c2 := k1.cell' (i := 2) rfl
 have c3 := k1.cell' (i := 3) rfl
 have c4 := k1.cell' (i := 4) rfl
 have c5 := k1.cell' (i := 5) rfl
 have d0 := k2.cell' (i := 0) rfl
 have d1 := k2.cell' (i := 1) rfl
 have d2 := k2.cell' (i := 2) rfl
 have d3 := k2.cell' (i := 3) rfl
 have d4 := k2.cell' (i := 4) rfl
 have d5 := k2.cell' (i := 5) rfl
 go_enter Tryz.func10, Tryz.ntmps10
 go_wp2_with fail
 rw [← hW]; clear hW
 refine (specEqualQuivers_any _ _ x.q x.q _ hq hq').mono ?_; rintro e w1 ⟨rfl, hb1⟩
 rw [show decide (x.q = x.q) = true from decide_eq_true rfl]
 clear hq hq'
 replace g0 := bthen g0 hb1
 replace hd := SlI.next hb1 hd
 replace hd' := SlI.next hb1 hd'
 replace hm := SlM.next hb1 hm
 replace hm' := SlM.next hb1 hm'
 replace k1 := k1.call hb1
 replace c0 := k1.cell' (i := 0) rfl
 replace c1 := k1.cell' (i := 1) rfl
 replace c2 := k1.cell' (i := 2) rfl
 replace c3 := k1.cell' (i := 3) rfl
 replace c4 := k1.cell' (i := 4) rfl
 replace c5 := k1.cell' (i := 5) rfl
 replace k2 := k2.call hb1
 replace d0 := k2.cell' (i := 0) rfl
 replace d1 := k2.cell' (i := 1) rfl
 replace d2 := k2.cell' (i := 2) rfl
 replace d3 := k2.cell' (i := 3) rfl
 replace d4 := k2.cell' (i := 4) rfl
 replace d5 := k2.cell' (i := 5) rfl
 clear hb1
 go_wp2_with fail
 refine (l6Same_any _ _ x.d x.d _ hd hd').mono ?_; rintro e W1 ⟨rfl, hb1⟩
 rw [show decide (x.d = x.d) = true from decide_eq_true rfl]
 replace g0 := bthen g0 hb1
 replace hd := SlI.next hb1 hd
 replace hd' := SlI.next hb1 hd'
 replace hm := SlM.next hb1 hm
 replace hm' := SlM.next hb1 hm'
 replace k1 := k1.call hb1
 replace c0 := k1.cell' (i := 0) rfl
 replace c1 := k1.cell' (i := 1) rfl
 replace c2 := k1.cell' (i := 2) rfl
 replace c3 := k1.cell' (i := 3) rfl
 replace c4 := k1.cell' (i := 4) rfl
 replace c5 := k1.cell' (i := 5) rfl
 replace k2 := k2.call hb1
 replace d0 := k2.cell' (i := 0) rfl
 replace d1 := k2.cell' (i := 1) rfl
 replace d2 := k2.cell' (i := 2) rfl
 replace d3 := k2.cell' (i := 3) rfl
 replace d4 := k2.cell' (i := 4) rfl
 replace d5 := k2.cell' (i := 5) rfl
 clear hb1 hd hd'
 have G0 := Lib.hid g0
 clear g0
 go_wp2
 go_loopw [5] (fun i wr => ∃ k : Nat, k ≤ x.m.length ∧ i = .int .i64 k ∧ Below W1.heap.size W1 wr) (fun i _ => x.m.length - (intOf i).toNat)
 case atStart => exact ⟨0, Nat.zero_le _, rfl, Below.refl _ _⟩
 case round =>
  clear c0 c1 c2 c3 c4 c5 d0 d1 d2 d3 d4 d5
  obtain ⟨k, hk, rfl, hbel⟩ := hrel
  have k1x := k1.call hbel
  have k2x := k2.call hbel
  have z5 := k1x.cell' (i := 5) rfl
  by_cases hlt : k < x.m.length
  ·obtain ⟨b, o, m, B1, b1, rfl, hb, HX, x1, x2, x3, hsl, i1, i2, _⟩ := SlM.at_ hm hlt
   obtain ⟨b', o', m', B2, b2, rfl, hb', HX', y1, y2, y3, hsl', _⟩ := SlM.at_ hm' hlt
   have e1 := HX.out
   rw [HX'.out] at e1
   injection e1 with e1
   subst e1
   have hbs := hbel.size
   have n1 := InB.cell (w := wr) (by omega) (bcell hbel hb x1)
   have n2 := InB.cell (w := wr) (by omega) (bcell hbel hb x2)
   have n3 := InB.cell (w := wr) (by omega) (bcell hbel hb x3)
   have n4 := InB.cell (w := wr) (by omega) (bcell hbel hb' y1)
   have n5 := InB.cell (w := wr) (by omega) (bcell hbel hb' y2)
   have n6 := InB.cell (w := wr) (by omega) (bcell hbel hb' y3)
   have n7 := fun s : InB wr => (k1x.call s.below).cell' (i := 5) rfl
   have n8 := fun s : InB wr => (k2x.call s.below).cell' (i := 5) rfl
   have HM : Hid (∀ s : InB wr, MxR s.val s.val.heap.size (.agg #[.int .i64 m'.r, .int .i64 m'.c, .slice B1 m'.a.length b1]) m') := fun s => ⟨_, rfl, SlI.next s.below (SlI.next hbel hsl), i1, i2⟩
   have HM' : Hid (∀ s : InB wr, MxR s.val s.val.heap.size (.agg #[.int .i64 m'.r, .int .i64 m'.c, .slice B2 m'.a.length b2]) m') := fun s => ⟨_, rfl, SlI.next s.below (SlI.next hbel hsl'), i1, i2⟩
   have HB := Lib.hid hbel
   clear x1 x2 x3 y1 y2 y3 hsl hsl' hm hm' k1 k2 k1x k2x i1 i2 hbel
   have a1 : (0 : Int) ≤ (k : Int) := by omega
   have a2 : (k : Int) < x.m.length := by omega
   go_wp2
   (refine wp_region_inB (by kernel_rfl) (by kernel_rfl) ?_; (repeat (go_big_quiet_step ((go_at_call 24; exact InB.call (specEqualMatrices_same _ _ m' _ (HM.out _) (HM'.out _)))))); refine wpQuiet_nil ?_; intro w1 hw'; obtain ⟨s1, hw1⟩ := hw'; have hb1 := s1.below; rw [← hw1] at hb1; clear hw1 s1)
   go_wp2
   go_roundw
   case rel => exact ⟨k + 1, by omega, by go_num, bthen HB.out hb1⟩
   case measure => simp [intOf]; omega
  ·have g1 := bthen G0.out hbel
   go_wp2
   go_ret
   exact ⟨rfl, g1⟩
set_option maxHeartbeats 400000 in
theorem sameInts_any (u v : Value) (xs ys : List Int) (w : World) (hu : SlI w w.heap.size u xs) (hv : SlI w w.heap.size v ys) :
  Calls Tryz.prog 27 #[u, v] w fun e w' => e = .returned (.bool (decide (xs = ys))) ∧ Below w.heap.size w w' := by
 obtain ⟨A, c, rfl, _, _, hn, hx⟩ := hu.open_
 obtain ⟨C, d, rfl, _, _, hm, hy⟩ := hv.open_
 clear hu hv
 by_cases hnm : xs.length = ys.length
 ·have heq : ((xs.length : Int) != ys.length) = false := by rw [bne_eq_false_iff_eq]; omega
  have HN := Lib.hid hnm
  clear hnm
  go_enter Tryz.func27, Tryz.ntmps27
  go_wp2
  go_loopw [5] (fun i wr => ∃ k q : Nat, k ≤ xs.length ∧ i = .int .i64 k ∧ wr = w.drewN q ∧ Hid (xs.take k = ys.take k)) (fun i _ => xs.length - (intOf i).toNat)
  case atStart => exact ⟨0, 0, Nat.zero_le _, rfl, rfl, rfl⟩
  case round =>
   obtain ⟨k, q, hk, rfl, rfl, hxy⟩ := hrel
   by_cases hlt : k < xs.length
   ·have hlt' : k < ys.length := by have := HN.out; omega
    obtain ⟨b, o, x, rfl, hb, HX, c1, _⟩ := SlI.at_ hx hlt
    obtain ⟨b', o', x', rfl, hb', HX', c1', _⟩ := SlI.at_ hy hlt'
    clear hx hy
    by_cases hE : x = x'
    ·subst hE
     go_wp2
     go_quiet (fail)
     go_wp2
     go_roundw
     case rel =>
      refine ⟨k + 1, q + nq, by omega, by go_num, rfl, ?_⟩
      show _ = _
      rw [take_snoc HX.out, take_snoc HX'.out, hxy.out]
     case measure => simp [intOf]; omega
    ·have hne : (x != x') = true := by simpa using hE
     have hxy' : Hid (xs ≠ ys) := by
      rintro rfl
      have h2 := HX.out
      rw [HX'.out] at h2
      exact hE (by injection h2 with h2; exact h2.symm)
     clear hE
     go_wp2
     go_quiet (fail)
     go_wp2
     go_ret
     exact ⟨by rw [decide_eq_false hxy'.out]; rfl, below_drewN (drewN_below _ _ _) _⟩
   ·go_wp2
    go_ret
    refine ⟨?_, drewN_below _ _ _⟩
    have h1 := hxy.out
    rw [List.take_of_length_le (by omega), List.take_of_length_le (by have := HN.out; omega)] at h1
    simp [h1]
 ·have hne : ((xs.length : Int) != ys.length) = true := by rw [bne_iff_ne]; omega
  go_enter Tryz.func27, Tryz.ntmps27
  go_wp2
  go_ret
  refine ⟨?_, Below.refl _ _⟩
  rw [decide_eq_false (by rintro rfl; omega)]; rfl
theorem sameI_any (u v : Value) (l : List Int) (w : World) (hu : SlI w w.heap.size u l) (hv : SlI w w.heap.size v l) :
  Calls Tryz.prog 27 #[u, v] w fun e w' => e = .returned (.bool true) ∧ Below w.heap.size w w' := by
 refine (sameInts_any u v l l w hu hv).mono ?_
 rintro e w1 ⟨rfl, hb⟩
 exact ⟨by simp, hb⟩
set_option maxHeartbeats 400000 in
theorem big_any (u : Value) (l : List Int) (w : World) (hu : SlY w w.heap.size u l) :
  Calls Tryz.prog 4 #[u] w fun e w' => e = .returned (.bool (decide ((l.length : Int) > 1048576))) ∧ Below w.heap.size w w' := by
 obtain ⟨A, c, rfl, _, _, hn, hx⟩ := hu.open_
 clear hu
 go_enter Tryz.func4, Tryz.ntmps4
 go_wp2
 go_ret
 exact ⟨rfl, Below.refl _ _⟩
section
variable {P : Program}
theorem tmps_eqU {a b : Act} {t : Tmp} (h : a.eval (.tmp t) = b.eval (.tmp t)) (hs : b.tmps.size = a.tmps.size) : a.tmps[t]? = b.tmps[t]? := by
 simp only [Act.eval, Array.getD_eq_getD_getElem?] at h
 by_cases hlt : t < b.tmps.size
 ·have hlt' : t < a.tmps.size := hs ▸ hlt
  rw [Array.getElem?_eq_getElem hlt, Array.getElem?_eq_getElem hlt'] at h ⊢
  simpa using h
 ·have hge := Nat.le_of_not_lt hlt
  rw [Array.getElem?_eq_none (hs ▸ hge : a.tmps.size ≤ t), Array.getElem?_eq_none hge]
def netAtU (ops : Array Oper) (D : List (List Nat)) (m i : Nat) (o : Oper) : Bool :=
 (directOf o).all (· < i) && (D.getD i []).all (fun j => decide (j < i) && ((directOf o).contains j || (directOf o).any fun k => (D.getD k []).contains j)) &&
 (List.range ops.size).all (fun k => match dstAt ops k with
  | none => true
  | some d => (!(o.looksAt ops).contains d || (D.getD i []).contains k || (D.getD k []).contains i) && (k == i || dstAt ops i != some d || (D.getD i []).contains k || (D.getD k []).contains i)) &&
 (decide (i < m) || (List.range i).all fun j => (D.getD i []).contains j)
def netFromU (ops : Array Oper) (D : List (List Nat)) (m : Nat) : Nat → List Oper → Bool
 | _, [] => true
 | i, o :: l => netAtU ops D m i o && netFromU ops D m (i + 1) l
def netBU (ops : Array Oper) (D : List (List Nat)) (m : Nat) : Bool := decide (m ≤ ops.size) && Region.noSelect ops && netFromU ops D m 0 ops.toList
theorem netFrom_specU {ops : Array Oper} {D : List (List Nat)} {m : Nat} : ∀ (l : List Oper) (k : Nat), netFromU ops D m k l = true → ∀ j o, l[j]? = some o → netAtU ops D m (k + j) o = true
 | [], _, _, _, _, h => by simp at h
 | x :: l, k, h, 0, o, hj => by
  simp only [netFromU, Bool.and_eq_true] at h
  simp at hj
  subst hj
  exact h.1
 | x :: l, k, h, j + 1, o, hj => by
  simp only [netFromU, Bool.and_eq_true] at h
  have := netFrom_specU l (k + 1) h.2 j o (by simpa using hj)
  rwa [show k + 1 + j = k + (j + 1) by omega] at this
structure NetOkU (ops : Array Oper) (D : List (List Nat)) (m i : Nat) (o : Oper) : Prop where
 direct : ∀ e ∈ o.after, Region.binds .any e = true → e.on < i
 dlt : ∀ j ∈ D.getD i [], j < i
 danc : ∀ (S : Nat → Prop), (∀ e ∈ o.after, Region.binds .any e = true → S e.on) → (∀ k, S k → ∀ j ∈ D.getD k [], S j) → ∀ j ∈ D.getD i [], S j
 looks : ∀ k d, dstAt ops k = some d → d ∈ o.looksAt ops → k ∈ D.getD i [] ∨ i ∈ D.getD k []
 dsts : ∀ k d, k ≠ i → dstAt ops k = some d → dstAt ops i = some d → k ∈ D.getD i [] ∨ i ∈ D.getD k []
 tail : m ≤ i → ∀ j, j < i → j ∈ D.getD i []
theorem netAt_specU {ops : Array Oper} {D : List (List Nat)} {m i : Nat} {o : Oper} (h : netAtU ops D m i o = true) : NetOkU ops D m i o := by
 simp only [netAtU, Bool.and_eq_true, List.all_eq_true, Bool.or_eq_true, decide_eq_true_eq, List.mem_range] at h
 obtain ⟨⟨⟨h2, h3⟩, h4⟩, h5⟩ := h
 have hdir : ∀ e ∈ o.after, Region.binds .any e = true → e.on ∈ directOf o := fun e he hb => by
  unfold directOf
  rw [List.mem_map]
  exact ⟨e, by rw [List.mem_filter]; exact ⟨by simpa using he, hb⟩, rfl⟩
 have hk : ∀ {k : Nat} {d : Tmp}, dstAt ops k = some d → k < ops.size := fun {k d} hd => by
  rcases Nat.lt_or_ge k ops.size with h | h
  ·exact h
  ·simp [dstAt, Array.getElem?_eq_none h] at hd
 refine ⟨fun e he hb => h2 _ (hdir e he hb), fun j hj => (h3 j hj).1, fun S hS hc j hj => ?_, fun k d hd hl => ?_, fun k d hne hd hdi => ?_, fun hm j hj => ?_⟩
 ·have hD : ∀ k ∈ directOf o, S k := fun k hk => by
   unfold directOf at hk
   rw [List.mem_map] at hk
   obtain ⟨e, he, rfl⟩ := hk
   rw [List.mem_filter] at he
   exact hS e (by simpa using he.1) he.2
  rcases (h3 j hj).2 with h | h
  ·exact hD j (by simpa using h)
  ·rw [List.any_eq_true] at h
   obtain ⟨k, hk, hkj⟩ := h
   exact hc k (hD k hk) j (by simpa using hkj)
 ·have := h4 k (hk hd)
  rw [hd] at this
  simp only [Bool.and_eq_true, Bool.or_eq_true, Bool.not_eq_true', List.contains_iff_mem, List.contains_eq_mem, decide_eq_true_eq, decide_eq_false_iff_not] at this
  rcases this.1 with (h | h) | h
  ·exact absurd hl h
  ·exact .inl h
  ·exact .inr h
 ·have := h4 k (hk hd)
  rw [hd] at this
  simp only [Bool.and_eq_true, Bool.or_eq_true, List.contains_eq_mem, decide_eq_true_eq, beq_iff_eq, bne_iff_ne] at this
  rcases this.2 with ((h | h) | h) | h
  ·exact absurd h hne
  ·exact absurd hdi h
  ·exact .inl h
  ·exact .inr h
 ·rcases h5 with h | h
  ·omega
  ·simpa using h j hj
section
variable {ops : Array Oper} {Q : Exit → Act → World → Prop} {sp : List NS} {D : List (List Nat)} {m : Nat} {a0 : Act} {w0 : World}
theorem net_tailU (hok : ∀ i o, ops[i]? = some o → NetOkU ops D m i o) : ∀ (fuel k : Nat) (listed : Array Bool) (a : Act) (w : World), fuel + k = ops.size → m ≤ k → listed.size = ops.size → (∀ j, listed.getD j false = decide (j < k)) →
  wpList P ops Q (ops.toList.drop k) a w → wpAny P .any ops Q fuel listed a w
 | fuel, k, listed, a, w, hf, hm, hls, hl, h => by
  have hld : ∀ j, j < ops.size → listed.getD j true = decide (j < k) := fun j hj => by
   rw [← hl j]
   simp [Array.getD_eq_getD_getElem?, Array.getElem?_eq_getElem (show j < listed.size by omega)]
  have hr : ∀ i ∈ Region.ready .any ops listed, i = k ∧ k < ops.size := fun i hi => by
   obtain ⟨h0, o, ho, hall⟩ := mem_ready.1 hi
   have hin := (Array.getElem?_eq_some_iff.1 ho).1
   rw [hld i hin] at h0
   have hik : k ≤ i := by simpa using h0
   refine ⟨?_, by omega⟩
   have hcl := (hok i o ho).danc (fun j => j < k) (fun e he hb => by have := hall e he hb; rw [hl] at this; simpa using this) (fun j hj x hx => by
    have hjs : j < ops.size := by omega
    have := (hok j _ (Array.getElem?_eq_getElem hjs)).dlt x hx
    omega)
   rcases Nat.lt_or_ge k i with hlt | hge
   ·have := hcl k ((hok i o ho).tail (by omega) k hlt)
    omega
   ·omega
  cases fuel with
  | zero =>
   refine ⟨?_, ?_⟩
   ·apply List.eq_nil_iff_forall_not_mem.2
    intro i hi
    have := hr i hi
    omega
   ·rw [List.drop_of_length_le (by simp; omega)] at h
    exact h
  | succ fuel =>
   have hks : k < ops.size := by omega
   have hke := Array.getElem?_eq_getElem hks
   have hdrop : ops.toList.drop k = ops[k] :: ops.toList.drop (k + 1) := by
    rw [List.drop_eq_getElem_cons (by simpa using hks)]
    simp
   rw [hdrop] at h
   have hready : k ∈ Region.ready .any ops listed := mem_ready.2 ⟨by rw [hld k hks]; simp, _, hke, fun e he hb => by rw [hl]; simpa using (hok k _ hke).direct e he hb⟩
   refine ⟨fun h0 => (by rw [h0] at hready; cases hready), fun i hi => ?_⟩
   obtain ⟨rfl, _⟩ := hr i hi
   unfold wpOp
   simp only [hke]
   have nxt : ∀ a w, wpList P ops Q (ops.toList.drop (i + 1)) a w → wpAny P .any ops Q fuel (listed.setIfInBounds i true) a w := fun a w h =>
    net_tailU hok fuel (i + 1) _ a w (by omega) (by omega) (by simpa using hls) (fun j => by
     by_cases e : i = j
     ·subst e
      simp [Array.getD_eq_getD_getElem?, Array.getElem?_setIfInBounds, hls, hks]
     ·rw [getD_set_ne _ e, hl]
      congr 1
      rw [eq_iff_iff]
      omega) h
   by_cases hw : Region.wanted ops[i] (yielded ops a.tmps) = true
   ·simp only [wpList, hw, if_true] at h ⊢
    rcases h with h | h
    ·exact .inl (Oper.wp_mono nxt h)
    ·exact .inr h
   ·rw [Bool.not_eq_true] at hw
    simp only [wpList, hw, Bool.false_eq_true, if_false] at h ⊢
    exact nxt _ _ h
theorem net_anyU (hB : netBU ops D m = true) (hst : ∀ s ∈ sp, s.stable) (hdo : ∀ i o, i < m → ops[i]? = some o → netDo P ops sp D a0 w0 i o)
  (hend : ∀ x w, Below w0.heap.size w0 w → (∀ i, i < m → known sp D x i w) → (∀ i, i < m → w0.heap.size ≤ x.lo i ∧ x.lo i ≤ x.hi i ∧ x.hi i ≤ w.heap.size) → (∀ i j, i < m → j < m → i ≠ j → x.hi i ≤ x.lo j ∨ x.hi j ≤ x.lo i) → wpList P ops Q (ops.toList.drop m) (netAct ops a0 x.v m) w) :
  ∀ (fuel : Nat) (listed : Array Bool) (x : Gh) (w : World), ((List.range ops.size).filter fun j => !listed.getD j false).length = fuel → listed.size = ops.size → (∀ j, m ≤ j → listed.getD j false = false) →
   (∀ i, listed.getD i false = true → ∀ j ∈ D.getD i [], listed.getD j false = true) → Below w0.heap.size w0 w → (∀ i, listed.getD i false = true → known sp D x i w) → (∀ i, listed.getD i false = true → w0.heap.size ≤ x.lo i ∧ x.lo i ≤ x.hi i ∧ x.hi i ≤ w.heap.size) →
   (∀ i j, listed.getD i false = true → listed.getD j false = true → i ≠ j → x.hi i ≤ x.lo j ∨ x.hi j ≤ x.lo i) →
   wpAny P .any ops Q fuel listed (actP ops a0 x.v (fun j => listed.getD j false) ops.size) w := by
 simp only [netBU, Bool.and_eq_true, decide_eq_true_eq] at hB
 obtain ⟨⟨hm, hns⟩, hnf⟩ := hB
 have hok : ∀ i o, ops[i]? = some o → NetOkU ops D m i o := fun i o ho => netAt_specU (by
  have := netFrom_specU ops.toList 0 hnf i o (by simpa using ho)
  simpa using this)
 have hst' : ∀ i, (sp.getD i (.eq undef)).stable := fun i => by
  rw [List.getD_eq_getElem?_getD]
  rcases h : sp[i]? with _ | s
  ·trivial
  ·exact hst s (List.mem_of_getElem? h)
 intro fuel
 induction fuel with
 | zero =>
  intro listed x w hc hls hlm hcl hb hkn hiv hdj
  have hall : ∀ j, j < ops.size → listed.getD j false = true := fun j hj => by
   rw [List.length_eq_zero_iff, List.filter_eq_nil_iff] at hc
   have := hc j (List.mem_range.2 hj)
   simpa using this
  have hms : m = ops.size := by
   rcases Nat.lt_or_ge m ops.size with h | h
   ·have := hall m h
    rw [hlm m (Nat.le_refl _)] at this
    cases this
   ·omega
  refine net_tailU hok 0 ops.size listed _ w (by omega) (by omega) hls (fun j => ?_) ?_
  ·by_cases hj : j < ops.size
   ·rw [hall j hj]; simp [hj]
   ·rw [hlm j (by omega)]; simp [hj]
  ·have := hend x w hb (fun i hi => hkn i (hall i (by omega))) (fun i hi => hiv i (hall i (by omega))) (fun i j hi hj => hdj i j (hall i (by omega)) (hall j (by omega)))
   rw [← actP_net (p := fun j => listed.getD j false) m (fun j hj => hall j (by omega))] at this
   rwa [hms] at this
 | succ fuel ih =>
  intro listed x w hc hls hlm hcl hb hkn hiv hdj
  by_cases hfull : ∀ j, j < m → listed.getD j false = true
  · -- the tail
   have hl : ∀ j, listed.getD j false = decide (j < m) := fun j => by
    by_cases hj : j < m
    ·rw [hfull j hj]; simp [hj]
    ·rw [hlm j (by omega)]; simp [hj]
   have hcnt : fuel + 1 + m = ops.size := by
    rw [← hc]
    have e : (List.range ops.size).filter (fun j => !listed.getD j false) = (List.range' m (ops.size - m)) := by
     have e1 : (List.range ops.size) = List.range m ++ List.range' m (ops.size - m) := by
      have h := List.range'_append_1 (s := 0) (m := m) (n := ops.size - m)
      rw [Nat.zero_add] at h
      rw [List.range_eq_range', List.range_eq_range', h]
      congr 1
      omega
     rw [e1, List.filter_append]
     rw [List.filter_eq_nil_iff.2 (fun j hj => by rw [hl]; simp at hj ⊢; exact hj), List.nil_append]
     rw [List.filter_eq_self.2 (fun j hj => by rw [hl]; simp [List.mem_range'] at hj ⊢; omega)]
    rw [e, List.length_range']
    omega
   refine net_tailU hok (fuel + 1) m listed _ w (by omega) (Nat.le_refl _) hls hl ?_
   have := hend x w hb (fun i hi => hkn i (hfull i hi)) (fun i hi => hiv i (hfull i hi)) (fun i j hi hj => hdj i j (hfull i hi) (hfull j hj))
   rw [← actP_net (p := fun j => listed.getD j false) m hfull] at this
   rwa [actP_none (p := fun j => listed.getD j false) ops.size m hm (fun j h1 _ => hlm j h1)]
  · -- one of the net
   have hne : Region.ready .any ops listed ≠ [] := by
    intro h0
    have : ∀ n, ∀ j, j < n → j < m → listed.getD j false = true := by
     intro n
     induction n with
     | zero => intro j hj; omega
     | succ n ihn =>
      intro j hj hjm
      by_cases e : j < n
      ·exact ihn j e hjm
      ·rcases hlj : listed.getD j false with _ | _
       ·exfalso
        have hjs : j < ops.size := by omega
        have hje := Array.getElem?_eq_getElem hjs
        have : j ∈ Region.ready .any ops listed := mem_ready.2 ⟨by
         rw [← hlj]
         simp [Array.getD_eq_getD_getElem?, Array.getElem?_eq_getElem (show j < listed.size by omega)], _, hje, fun e he hb => by
         have := (hok j _ hje).direct e he hb
         exact ihn e.on (by omega) (by omega)⟩
        rw [h0] at this
        cases this
       ·rfl
    exact hfull fun j hj => this (j + 1) j (by omega) hj
   refine ⟨fun h0 => absurd h0 hne, fun i hi => ?_⟩
   obtain ⟨h0, o, ho, hall⟩ := mem_ready.1 hi
   have his := (Array.getElem?_eq_some_iff.1 ho).1
   have hO := hok i o ho
   have hDl : ∀ j ∈ D.getD i [], listed.getD j false = true := hO.danc (fun j => listed.getD j false = true) hall (fun k hk j hj => hcl k hk j hj)
   have him : i < m := by
    rcases Nat.lt_or_ge i m with h | h
    ·exact h
    ·exact absurd (fun j hj => hDl j (hO.tail h j (by omega))) hfull
   have hli : listed.getD i false = false := by
    rw [← h0]
    simp [Array.getD_eq_getD_getElem?, Array.getElem?_eq_getElem (show i < listed.size by omega)]
   have hpre := hdo i o him ho x w hb (fun j hj => ⟨hkn j (hDl j hj), (hiv j (hDl j hj)).2.2⟩) (fun e b w' => e = .normal ∧ ∃ u, b = (netAct ops a0 x.v i).put o.dst u ∧ (Below w.heap.size w w' ∧ (sp.getD i (.eq undef)).holds i (D.getD i []) (x.set i u w.heap.size w'.heap.size) w'))
    (fun u w' h1 h2 => ⟨rfl, u, rfl, h1, h2⟩)
   have heq : ∀ t ∈ o.looksAt ops, (actP ops a0 x.v (fun j => listed.getD j false) ops.size).eval (.tmp t) = (netAct ops a0 x.v i).eval (.tmp t) := fun t hlook => by
    have e1 : netAct ops a0 x.v i = actP ops a0 x.v (fun j => decide (j < i)) ops.size := by
     rw [actP_none (p := fun j => decide (j < i)) ops.size i (by omega) (fun j h1 _ => by simp; omega)]
     exact (actP_net (p := fun j => decide (j < i)) i (fun j hj => by simp [hj])).symm
    rw [e1]
    refine actP_eval t ops.size fun j hj hd => ?_
    rcases hO.looks j t hd hlook with h | h
    ·rw [hDl j h]; have := hO.dlt j h; simp [this]
    ·have hlt := (hok j _ (Array.getElem?_eq_getElem hj)).dlt i h
     have : listed.getD j false = false := by
      rcases hlj : listed.getD j false with _ | _
      ·rfl
      ·have := hcl j hlj i h
       rw [hli] at this
       cases this
     rw [this]; simp; omega
   have hsz : (netAct ops a0 x.v i).tmps.size = (actP ops a0 x.v (fun j => listed.getD j false) ops.size).tmps.size := by
    rw [actP_size, ← actP_net (p := fun _ => true) i (fun _ _ => rfl), actP_size]
   have hexec : execOp (actP ops a0 x.v (fun j => listed.getD j false) ops.size).eval o = execOp (netAct ops a0 x.v i).eval o := by
    refine execOp_congr o (fun cs b => Region.noSelect_spec hns i o cs b ho) fun y hx => ?_
    by_cases hxt : ∃ t, y = .tmp t
    ·obtain ⟨t, rfl⟩ := hxt
     exact heq t (List.mem_append_left _ (List.mem_filterMap.2 ⟨.tmp t, by simpa using hx, rfl⟩))
    ·exact actP_evalC y (fun t h => hxt ⟨t, h⟩) _ _
   have hwEq : Region.wanted o (yielded ops (actP ops a0 x.v (fun j => listed.getD j false) ops.size).tmps) = Region.wanted o (yielded ops (netAct ops a0 x.v i).tmps) := by
    unfold Region.wanted
    cases hg : o.guard with
    | none => rfl
    | some gw =>
     obtain ⟨g, want⟩ := gw
     have hy : yielded ops (actP ops a0 x.v (fun j => listed.getD j false) ops.size).tmps g = yielded ops (netAct ops a0 x.v i).tmps g := by
      unfold yielded
      cases ht : (ops[g]?).bind (·.dst) with
      | none => rfl
      | some t =>
       have h1 := heq t (by simp [Oper.looksAt, hg, ht])
       simp only [Option.bind_some, tmps_eqU h1 hsz]
     simp only [hy]
   have hnl : ¬ LetsOut (fun (e : Exit) (b : Act) (w' : World) => e = .normal ∧ ∃ u, b = (netAct ops a0 x.v i).put o.dst u ∧ (Below w.heap.size w w' ∧ (sp.getD i (.eq undef)).holds i (D.getD i []) (x.set i u w.heap.size w'.heap.size) w')) := by
    rintro ⟨b, w', h, _⟩
    cases h
   suffices step : ∀ u w', Below w.heap.size w w' → (sp.getD i (.eq undef)).holds i (D.getD i []) (x.set i u w.heap.size w'.heap.size) w' →
     wpAny P .any ops Q fuel (listed.setIfInBounds i true) ((actP ops a0 x.v (fun j => listed.getD j false) ops.size).put o.dst u) w' by
    by_cases hwant : Region.wanted o (yielded ops (netAct ops a0 x.v i).tmps) = true
    ·simp only [wpList, hwant, if_true] at hpre
     rcases hpre with hpre | hpre
     case inr => exact absurd hpre.2 hnl
     simp only [true_and] at hpre
     have hT := wp_transfer (Q2 := Q) hexec hsz (fun c b w' h => by cases h.1) hnl hpre
     unfold wpOp
     simp only [ho, hwEq, hwant, if_true]
     refine .inl (Oper.wp_mono ?_ hT)
     rintro b w' ⟨u, rfl, hbw, hh⟩
     exact step u w' hbw hh
    ·rw [Bool.not_eq_true] at hwant
     simp only [wpList, hwant, Bool.false_eq_true, if_false, true_and] at hpre
     obtain ⟨u, he, hbw, hh⟩ := hpre
     unfold wpOp
     simp only [ho, hwEq, hwant, Bool.false_eq_true, if_false]
     rw [act_put_eq he hsz]
     exact step u w hbw hh
   intro u w' hbw hh
   have hdst : o.dst = dstAt ops i := by simp [dstAt, ho]
   have hlq : ∀ j, (listed.setIfInBounds i true).getD j false = (listed.getD j false || j == i) := fun j => by
    by_cases e : i = j
    ·subst e
     simp [Array.getD_eq_getD_getElem?, Array.getElem?_setIfInBounds, hls, his]
    ·rw [getD_set_ne _ e]
     simp [Ne.symm e]
   rw [hdst, actP_add (v' := (x.set i u w.heap.size w'.heap.size).v) (q := fun j => (listed.setIfInBounds i true).getD j false) (fun j hj _ => by simp [Gh.set, hj]) (by simp [Gh.set]) hli hlq (fun j d hij hlj hdj hdi => by
    rcases hO.dsts j d (by omega) hdj hdi with h | h
    ·have := hO.dlt j h; omega
    ·have := hcl j hlj i h
     rw [hli] at this
     cases this) ops.size his]
   refine ih _ _ _ ?_ (by simpa using hls) (fun j hj => by rw [hlq, hlm j hj]; simp; omega) (fun k hk j hj => ?_) (hb.trans (hbw.mono hb.size)) (fun k hk => ?_) (fun k hk => ?_) (fun k j hk hj hkj => ?_)
   · -- the count
    have hmem : i ∈ (List.range ops.size).filter fun j => !listed.getD j false := by
     rw [List.mem_filter]; exact ⟨List.mem_range.2 his, by rw [hli]; rfl⟩
    have e : (List.range ops.size).filter (fun j => !(listed.setIfInBounds i true).getD j false) = ((List.range ops.size).filter fun j => !listed.getD j false).filter (fun j => j != i) := by
     rw [List.filter_filter]
     congr 1
     funext j
     rw [hlq]
     simp [Bool.not_or, Bool.and_comm, bne]
    have hnd : ((List.range ops.size).filter fun j => !listed.getD j false).Nodup := List.nodup_range.filter _
    rw [e]
    have := List.length_erase_of_mem hmem
    rw [hnd.erase_eq_filter, hc] at this
    simpa using this
   ·rw [hlq] at hk ⊢
    simp only [Bool.or_eq_true, beq_iff_eq] at hk ⊢
    rcases hk with hk | rfl
    ·exact .inl (hcl k hk j hj)
    ·exact .inl (hDl j hj)
   ·rw [hlq] at hk
    simp only [Bool.or_eq_true, beq_iff_eq] at hk
    unfold known
    by_cases e : k = i
    ·subst e
     exact hh
    ·rcases hk with hk | hk
     ·refine NS.holds_congr (x := x) (fun j hj => ?_) (NS.holds_stable (hst' k) (hkn k hk) hbw)
      have hji : j ≠ i := by
       rcases hj with rfl | hj
       ·exact e
       ·rintro rfl
        have := hcl k hk j hj
        rw [hli] at this
        cases this
      simp [Gh.set, hji]
     ·exact absurd hk e
   ·rw [hlq] at hk
    simp only [Bool.or_eq_true, beq_iff_eq] at hk
    by_cases e : k = i
    ·subst e
     simp only [Gh.set, if_true]
     exact ⟨hb.size, hbw.size, Nat.le_refl _⟩
    ·have := hiv k (hk.resolve_right e)
     have := hbw.size
     simp only [Gh.set, if_neg e]
     omega
   ·rw [hlq] at hk hj
    simp only [Bool.or_eq_true, beq_iff_eq] at hk hj
    by_cases e : k = i
    ·subst e
     have := hiv j (hj.resolve_right (Ne.symm hkj))
     simp only [Gh.set, if_true, if_neg (Ne.symm hkj)]
     exact .inr (by omega)
    ·by_cases e' : j = i
     ·subst e'
      have := hiv k (hk.resolve_right e)
      simp only [Gh.set, if_true, if_neg e]
      exact .inl (by omega)
     ·simp only [Gh.set, if_neg e, if_neg e']
      exact hdj k j (hk.resolve_right e) (hj.resolve_right e') hkj
theorem wp_region_netU {id : Nat} {l : List Oper} {w : World} (hmo : P.follows .mixedOrders = true) (sp : List NS) (D : List (List Nat)) (m : Nat) (hB : netBU l.toArray D m = true) (hst : stableAll sp)
  (hdo : netAll P l.toArray sp D a0 w 0 (l.take m))
  (hend : ∀ x w', Below w.heap.size w w' → (∀ i, i < m → known sp D x i w') → (∀ i, i < m → w.heap.size ≤ x.lo i ∧ x.lo i ≤ x.hi i ∧ x.hi i ≤ w'.heap.size) → (∀ i j, i < m → j < m → i ≠ j → x.hi i ≤ x.lo j ∨ x.hi j ≤ x.lo i) → wpList P l.toArray Q (l.drop m) (netAct l.toArray a0 x.v m) w') : (Code.region id l.toArray true).wp P Q a0 w := by
 replace hst := stableAll_spec hst
 have hdo : ∀ i o, i < m → l[i]? = some o → netDo P l.toArray sp D a0 w.drew i o := fun i o hi ho => by
  have := netAll_spec (l.take m) 0 hdo i o (by rw [List.getElem?_take, if_pos hi]; exact ho)
  rw [Nat.zero_add] at this
  exact fun v w1 hb => this v w1 ⟨hb.os, hb.tape, hb.output, hb.size, hb.block⟩
 refine wp_region_any hmo ?_
 have h := net_anyU (w0 := w.drew) (a0 := a0) (Q := Q) (P := P) (sp := sp) hB hst (fun i o hi ho => hdo i o hi (by simpa using ho)) (fun x w' hb hk hiv hdj => by simpa using hend x w' (show Below w.heap.size w w' from ⟨hb.os, hb.tape, hb.output, hb.size, hb.block⟩) hk hiv hdj)
  l.toArray.size (Array.replicate l.toArray.size false) ⟨fun _ => undef, fun _ => 0, fun _ => 0⟩ w.drew
  (by rw [List.filter_eq_self.2 (fun j _ => by rw [repl_getD]; rfl), List.length_range])
  (by simp) (fun j _ => repl_getD _ _)
  (fun i hi => by rw [repl_getD] at hi; cases hi)
  (Below.refl _ _)
  (fun i hi => by rw [repl_getD] at hi; cases hi)
  (fun i hi => by rw [repl_getD] at hi; cases hi)
  (fun i j hi => by rw [repl_getD] at hi; cases hi)
 have e : actP l.toArray a0 (fun _ => undef) (fun j => (Array.replicate l.toArray.size false).getD j false) l.toArray.size = a0 :=
  actP_none l.toArray.size 0 (by omega) (fun j _ _ => repl_getD _ _)
 rw [e] at h
 exact h
end
end
theorem seatEnter : Tryz.prog.mayEnter = true := by kernel_rfl
theorem seatLifts : (false == Tryz.prog.liftsFinal) = true := by kernel_rfl
theorem seatMake : (Tryz.prog.make == some .cut) = true := by kernel_rfl
theorem band {a b : Bool} (h : a = true) (k : b = true) : (a && b) = true := by rw [h, k]; rfl
end Go.Proofs.YthhjoamgcfiecaaGreat
