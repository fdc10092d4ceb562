/- The law of Net.lean, for a region in which one operation of the net (s: a value, no memory made) may also come behind the first operation of the tail (m). -/
import Derived.Test.YtbgjhnolnccnnaaNet
namespace Go.Proofs.Ytbgjhnolnccnnaa
set_option linter.unusedVariables false
set_option linter.unusedSimpArgs false
open Go.RowKit

section
variable {P : Program} {ops : Array Oper} {Q : Exit → Act → World → Prop} {sp : List NS} {D : List (List Nat)} {m s : Nat} {a0 : Act} {w0 : World}
theorem set_getD {listed : Array Bool} {i : Nat} (his : i < listed.size) (j : Nat) : (listed.setIfInBounds i true).getD j false = (listed.getD j false || j == i) := by
  by_cases e : i = j
  · subst e
    simp [Array.getD_eq_getD_getElem?, Array.getElem?_setIfInBounds, his]
  · rw [getD_set_ne _ e]
    simp [Ne.symm e]
theorem count_set {listed : Array Bool} {i : Nat} (his : i < ops.size) (hli : listed.getD i false = false) (hls : listed.size = ops.size) :
    ((List.range ops.size).filter fun j => !(listed.setIfInBounds i true).getD j false).length + 1 = ((List.range ops.size).filter fun j => !listed.getD j false).length := by
  have hmem : i ∈ (List.range ops.size).filter fun j => !listed.getD j false := by
    rw [List.mem_filter]; exact ⟨List.mem_range.2 his, by rw [hli]; rfl⟩
  have e : (List.range ops.size).filter (fun j => !(listed.setIfInBounds i true).getD j false) = ((List.range ops.size).filter fun j => !listed.getD j false).filter (fun j => j != i) := by
    rw [List.filter_filter]
    congr 1
    funext j
    rw [set_getD (hls ▸ his)]
    simp [Bool.not_or, Bool.and_comm, bne]
  have hnd : ((List.range ops.size).filter fun j => !listed.getD j false).Nodup := List.nodup_range.filter _
  rw [e]
  have := List.length_erase_of_mem hmem
  rw [hnd.erase_eq_filter] at this
  have h1 := List.length_pos_of_mem hmem
  omega
theorem count_from {listed : Array Bool} {k : Nat} (hl : ∀ j, listed.getD j false = decide (j < k)) (hk : k ≤ ops.size) : ((List.range ops.size).filter fun j => !listed.getD j false).length = ops.size - k := by
  have e : (List.range ops.size).filter (fun j => !listed.getD j false) = (List.range' k (ops.size - k)) := by
    have e1 : (List.range ops.size) = List.range k ++ List.range' k (ops.size - k) := by
      have h := List.range'_append_1 (s := 0) (m := k) (n := ops.size - k)
      rw [Nat.zero_add] at h
      rw [List.range_eq_range', List.range_eq_range', h]
      congr 1
      omega
    rw [e1, List.filter_append]
    rw [List.filter_eq_nil_iff.2 (fun j hj => by rw [hl]; simp at hj ⊢; exact hj), List.nil_append]
    rw [List.filter_eq_self.2 (fun j hj => by rw [hl]; simp [List.mem_range'] at hj ⊢; omega)]
  rw [e, List.length_range']
theorem actP_fold (v : Nat → Value) (p : Nat → Bool) : ∀ k, actP ops a0 v p k = ((List.range k).filter p).foldl (fun a k => a.put (dstAt ops k) (v k)) a0
  | 0 => rfl
  | k + 1 => by
    rw [List.range_succ, List.filter_append, List.foldl_append, ← actP_fold v p k]
    conv => lhs; unfold actP
    rcases h : p k with _ | _ <;> simp [h]

theorem net_tail2 (hok : ∀ i o, ops[i]? = some o → NetOk ops D (m + 1) i o) : ∀ (fuel k : Nat) (listed : Array Bool) (a : Act) (w : World), fuel + k = ops.size → m ≤ k → listed.size = ops.size → (∀ j, listed.getD j false = decide (j < k)) →
    wpList P ops Q (ops.toList.drop k) a w → wpAny P .any ops Q fuel listed a w
  | fuel, k, listed, a, w, hf, hm, hls, hl, h => by
    have hld : ∀ j, j < ops.size → listed.getD j true = decide (j < k) := fun j hj => by
      rw [← hl j]
      simp [Array.getD_eq_getD_getElem?, Array.getElem?_eq_getElem (show j < listed.size by omega)]
    have hr : ∀ i ∈ Region.ready .any ops listed, i = k ∧ k < ops.size := fun i hi => by
      obtain ⟨h0, o, ho, hall⟩ := mem_ready.1 hi
      have hin := (Array.getElem?_eq_some_iff.1 ho).1
      rw [hld i hin] at h0
      have hik : k ≤ i := by simpa using h0
      refine ⟨?_, by omega⟩
      have hcl := (hok i o ho).danc (fun j => j < k) (fun e he hb => by have := hall e he hb; rw [hl] at this; simpa using this) (fun j hj x hx => by
        have hjs : j < ops.size := by omega
        have := (hok j _ (Array.getElem?_eq_getElem hjs)).dlt x hx
        omega)
      rcases Nat.lt_or_ge k i with hlt | hge
      · have := hcl k ((hok i o ho).tail (by omega) k hlt)
        omega
      · omega
    cases fuel with
    | zero =>
      refine ⟨?_, ?_⟩
      · apply List.eq_nil_iff_forall_not_mem.2
        intro i hi
        have := hr i hi
        omega
      · rw [List.drop_of_length_le (by simp; omega)] at h
        exact h
    | succ fuel =>
      have hks : k < ops.size := by omega
      have hke := Array.getElem?_eq_getElem hks
      have hdrop : ops.toList.drop k = ops[k] :: ops.toList.drop (k + 1) := by
        rw [List.drop_eq_getElem_cons (by simpa using hks)]
        simp
      rw [hdrop] at h
      have hready : k ∈ Region.ready .any ops listed := mem_ready.2 ⟨by rw [hld k hks]; simp, _, hke, fun e he hb => by rw [hl]; simpa using (hok k _ hke).direct e he hb⟩
      refine ⟨fun h0 => (by rw [h0] at hready; cases hready), fun i hi => ?_⟩
      obtain ⟨rfl, _⟩ := hr i hi
      unfold wpOp
      simp only [hke]
      have hw : Region.wanted ops[i] (yielded ops a.tmps) = true := by simp [Region.wanted, (hok i _ hke).guard]
      simp only [wpList, hw, if_true] at h ⊢
      have nxt : ∀ a w, wpList P ops Q (ops.toList.drop (i + 1)) a w → wpAny P .any ops Q fuel (listed.setIfInBounds i true) a w := fun a w h =>
        net_tail2 hok fuel (i + 1) _ a w (by omega) (by omega) (by simpa using hls) (fun j => by
          by_cases e : i = j
          · subst e
            simp [Array.getD_eq_getD_getElem?, Array.getElem?_setIfInBounds, hls, hks]
          · rw [getD_set_ne _ e, hl]
            congr 1
            rw [eq_iff_iff]
            omega) h
      rcases h with h | h
      · exact .inl (Oper.wp_mono nxt h)
      · exact .inr h

theorem net_any2 (hB : netB ops D (m + 1) = true) (hms : m < ops.size) (hsm : s < m) (hD : ∀ j, j < m → j ≠ s → j ∈ D.getD m []) (hst : ∀ s ∈ sp, s.stable) (hdo : ∀ i o, i < m → ops[i]? = some o → netDo P ops sp D a0 w0 i o)
    (hend : ∀ x w, Below w0.heap.size w0 w → (∀ i, i < m → known sp D x i w) → (∀ i, i < m → w0.heap.size ≤ x.lo i ∧ x.lo i ≤ x.hi i ∧ x.hi i ≤ w.heap.size) → (∀ i j, i < m → j < m → i ≠ j → x.hi i ≤ x.lo j ∨ x.hi j ≤ x.lo i) → wpList P ops Q (ops.toList.drop m) (netAct ops a0 x.v m) w)
    (hend2 : ∀ x w, Below w0.heap.size w0 w → (∀ i, i < m ∧ i ≠ s → known sp D x i w) → (∀ i, i < m ∧ i ≠ s → w0.heap.size ≤ x.lo i ∧ x.lo i ≤ x.hi i ∧ x.hi i ≤ w.heap.size) → (∀ i j, i < m ∧ i ≠ s → j < m ∧ j ≠ s → i ≠ j → x.hi i ≤ x.lo j ∨ x.hi j ≤ x.lo i) → ∀ om os, ops[m]? = some om → ops[s]? = some os → wpList P ops Q (om :: os :: ops.toList.drop (m + 1)) (actP ops a0 x.v (fun j => j != s) m) w) :
    ∀ (fuel : Nat) (listed : Array Bool) (x : Gh) (w : World), ((List.range ops.size).filter fun j => !listed.getD j false).length = fuel → listed.size = ops.size → (∀ j, m ≤ j → listed.getD j false = false) →
      (∀ i, listed.getD i false = true → ∀ j ∈ D.getD i [], listed.getD j false = true) → Below w0.heap.size w0 w → (∀ i, listed.getD i false = true → known sp D x i w) → (∀ i, listed.getD i false = true → w0.heap.size ≤ x.lo i ∧ x.lo i ≤ x.hi i ∧ x.hi i ≤ w.heap.size) →
      (∀ i j, listed.getD i false = true → listed.getD j false = true → i ≠ j → x.hi i ≤ x.lo j ∨ x.hi j ≤ x.lo i) →
      wpAny P .any ops Q fuel listed (actP ops a0 x.v (fun j => listed.getD j false) ops.size) w := by
  simp only [netB, Bool.and_eq_true, decide_eq_true_eq] at hB
  obtain ⟨⟨hm, hns⟩, hnf⟩ := hB
  have hok : ∀ i o, ops[i]? = some o → NetOk ops D (m + 1) i o := fun i o ho => netAt_spec (by
    have := netFrom_spec ops.toList 0 hnf i o (by simpa using ho)
    simpa using this)
  have hst' : ∀ i, (sp.getD i (.eq undef)).stable := fun i => by
    rw [List.getD_eq_getElem?_getD]
    rcases h : sp[i]? with _ | s
    · trivial
    · exact hst s (List.mem_of_getElem? h)
  intro fuel
  induction fuel with
  | zero =>
    intro listed x w hc hls hlm hcl hb hkn hiv hdj
    exfalso
    rw [List.length_eq_zero_iff, List.filter_eq_nil_iff] at hc
    have := hc m (List.mem_range.2 hms)
    rw [hlm m (Nat.le_refl _)] at this
    simp at this
  | succ fuel ih =>
    intro listed x w hc hls hlm hcl hb hkn hiv hdj
    by_cases hfull : ∀ j, j < m → listed.getD j false = true
    · -- the tail
      have hl : ∀ j, listed.getD j false = decide (j < m) := fun j => by
        by_cases hj : j < m
        · rw [hfull j hj]; simp [hj]
        · rw [hlm j (by omega)]; simp [hj]
      have hcnt := count_from (ops := ops) hl (by omega)
      refine net_tail2 hok (fuel + 1) m listed _ w (by omega) (Nat.le_refl _) hls hl ?_
      have := hend x w hb (fun i hi => hkn i (hfull i hi)) (fun i hi => hiv i (hfull i hi)) (fun i j hi hj => hdj i j (hfull i hi) (hfull j hj))
      rw [← actP_net (p := fun j => listed.getD j false) m hfull] at this
      rwa [actP_none (p := fun j => listed.getD j false) ops.size m (by omega) (fun j h1 _ => hlm j h1)]
    · -- one of the net
      have hne : Region.ready .any ops listed ≠ [] := by
        intro h0
        -- the least that is not listed is ready
        have : ∀ n, ∀ j, j < n → j < m → listed.getD j false = true := by
          intro n
          induction n with
          | zero => intro j hj; omega
          | succ n ihn =>
            intro j hj hjm
            by_cases e : j < n
            · exact ihn j e hjm
            · rcases hlj : listed.getD j false with _ | _
              · exfalso
                have hjs : j < ops.size := by omega
                have hje := Array.getElem?_eq_getElem hjs
                have : j ∈ Region.ready .any ops listed := mem_ready.2 ⟨by
                  rw [← hlj]
                  simp [Array.getD_eq_getD_getElem?, Array.getElem?_eq_getElem (show j < listed.size by omega)], _, hje, fun e he hb => by
                  have := (hok j _ hje).direct e he hb
                  exact ihn e.on (by omega) (by omega)⟩
                rw [h0] at this
                cases this
              · rfl
        exact hfull fun j hj => this (j + 1) j (by omega) hj
      refine ⟨fun h0 => absurd h0 hne, fun i hi => ?_⟩
      obtain ⟨h0, o, ho, hall⟩ := mem_ready.1 hi
      have his := (Array.getElem?_eq_some_iff.1 ho).1
      have hO := hok i o ho
      have hDl : ∀ j ∈ D.getD i [], listed.getD j false = true := hO.danc (fun j => listed.getD j false = true) hall (fun k hk j hj => hcl k hk j hj)
      have hwant : ∀ b : Act, Region.wanted o (yielded ops b.tmps) = true := fun b => by simp [Region.wanted, hO.guard]
      rcases Nat.lt_or_ge i m with him | hge
      case inr =>
        -- the tail's first, ahead of s
        have him : i = m := by
          rcases Nat.lt_or_ge m i with h | h
          · exact absurd (fun j hj => hDl j (hO.tail (by omega) j (by omega))) hfull
          · omega
        subst him
        have hls0 : listed.getD s false = false := by
          rcases h : listed.getD s false with _ | _
          · rfl
          · exfalso
            refine hfull fun j hj => ?_
            by_cases e : j = s
            · rw [e, h]
            · exact hDl j (hD j hj e)
        have hl : ∀ j, listed.getD j false = decide (j < i ∧ j ≠ s) := fun j => by
          by_cases hj : j < i
          · by_cases e : j = s
            · rw [e, hls0]; simp
            · rw [hDl j (hD j hj e)]; simp [hj, e]
          · rw [hlm j (by omega)]; simp [hj]
        have hT : ∀ k, k < i ∧ k ≠ s → listed.getD k false = true := fun k hk => by rw [hl]; simpa using hk
        have hss : s < ops.size := by omega
        have hse := Array.getElem?_eq_getElem hss
        have h2 := hend2 x w hb (fun k hk => hkn k (hT k hk)) (fun k hk => hiv k (hT k hk)) (fun k j hk hj => hdj k j (hT k hk) (hT j hj)) o ops[s] ho hse
        rw [actP_congr (p := fun j => j != s) (q := fun j => listed.getD j false) (v' := x.v) i (fun j hj => ⟨by rw [hl]; by_cases e : j = s <;> simp [e, hj], fun _ => rfl⟩)] at h2
        rw [actP_none (p := fun j => listed.getD j false) ops.size i (by omega) (fun j h1 _ => hlm j h1)]
        have hli := hlm i (Nat.le_refl _)
        have c1 := count_set (ops := ops) his hli hls
        have hsz1 : (listed.setIfInBounds i true).size = ops.size := by simpa using hls
        have hl1 : ∀ j, (listed.setIfInBounds i true).getD j false = decide (j < i + 1 ∧ j ≠ s) := fun j => by
          rw [set_getD (hls ▸ his), hl]
          by_cases e : j = i
          · subst e; simp; omega
          · by_cases e2 : j < i
            · simp [e, e2, show j < i + 1 by omega]
            · simp [e, e2, show ¬ j < i + 1 by omega]
        have hs1 : (listed.setIfInBounds i true).getD s false = false := by rw [hl1]; simp
        have c2 := count_set (ops := ops) hss hs1 hsz1
        have hl2 : ∀ j, ((listed.setIfInBounds i true).setIfInBounds s true).getD j false = decide (j < i + 1) := fun j => by
          rw [set_getD (hsz1 ▸ hss), hl1]
          by_cases e : j = s
          · subst e; simp; omega
          · simp [e]
        have c3 := count_from (ops := ops) hl2 (by omega)
        have nxt : ∀ a w, wpList P ops Q (ops[s] :: ops.toList.drop (i + 1)) a w → wpAny P .any ops Q fuel (listed.setIfInBounds i true) a w := fun a w h => by
          obtain ⟨f, rfl⟩ : ∃ f, fuel = f + 1 := ⟨fuel - 1, by omega⟩
          have hld : ∀ j, j < ops.size → (listed.setIfInBounds i true).getD j true = (listed.setIfInBounds i true).getD j false := fun j hj => by
            simp only [Array.getD_eq_getD_getElem?, Array.getElem?_eq_getElem (show j < (listed.setIfInBounds i true).size by omega), Option.getD_some]
          have hready : s ∈ Region.ready .any ops (listed.setIfInBounds i true) := mem_ready.2 ⟨by rw [hld s hss, hs1], _, hse, fun e he hb => by
            have := (hok s _ hse).direct e he hb
            rw [hl1]; simp; omega⟩
          refine ⟨fun h0 => (by rw [h0] at hready; cases hready), fun k hk => ?_⟩
          obtain ⟨k0, ok, hok2, hall2⟩ := mem_ready.1 hk
          have hks := (Array.getElem?_eq_some_iff.1 hok2).1
          rw [hld k hks, hl1] at k0
          have hks2 : k = s := by
            by_cases e : k = s
            · exact e
            · exfalso
              have hkm : i + 1 ≤ k := by simp at k0; omega
              have hcl2 := (hok k ok hok2).danc (fun j => (listed.setIfInBounds i true).getD j false = true) hall2 (fun y hy j hj => by
                rw [hl1] at hy ⊢
                simp at hy ⊢
                have hyd := (hok y _ (Array.getElem?_eq_getElem (show y < ops.size by omega))).dlt j hj
                refine ⟨by omega, fun e2 => ?_⟩
                subst e2
                rcases Nat.lt_or_ge y i with h3 | h3
                · have := hcl y (hT y ⟨h3, hy.2⟩) j hj
                  rw [hls0] at this
                  cases this
                · have : y = i := by omega
                  subst this
                  have := hDl j hj
                  rw [hls0] at this
                  cases this)
              have := hcl2 s ((hok k ok hok2).tail hkm s (by omega))
              rw [hs1] at this
              cases this
          subst hks2
          unfold wpOp
          simp only [hse]
          have hw : Region.wanted ops[k] (yielded ops a.tmps) = true := by simp [Region.wanted, (hok k _ hse).guard]
          simp only [wpList, hw, if_true] at h ⊢
          have nxt2 : ∀ a w, wpList P ops Q (ops.toList.drop (i + 1)) a w → wpAny P .any ops Q f ((listed.setIfInBounds i true).setIfInBounds k true) a w := fun a w h =>
            net_tail2 hok f (i + 1) _ a w (by omega) (by omega) (by simpa using hls) hl2 h
          rcases h with h | h
          · exact .inl (Oper.wp_mono nxt2 h)
          · exact .inr h
        unfold wpOp
        simp only [ho]
        simp only [wpList, hwant, if_true] at h2 ⊢
        rcases h2 with h | h
        · exact .inl (Oper.wp_mono (fun a w h => nxt a w (by simpa only [wpList] using h)) h)
        · exact .inr h
      have hli : listed.getD i false = false := by
        rw [← h0]
        simp [Array.getD_eq_getD_getElem?, Array.getElem?_eq_getElem (show i < listed.size by omega)]
      have hpre := hdo i o him ho x w hb (fun j hj => ⟨hkn j (hDl j hj), (hiv j (hDl j hj)).2.2⟩) (fun e b w' => e = .normal ∧ ∃ u, b = (netAct ops a0 x.v i).put o.dst u ∧ (Below w.heap.size w w' ∧ (sp.getD i (.eq undef)).holds i (D.getD i []) (x.set i u w.heap.size w'.heap.size) w'))
        (fun u w' h1 h2 => ⟨rfl, u, rfl, h1, h2⟩)
      have hnl : ¬ LetsOut (fun (e : Exit) (b : Act) (w' : World) => e = .normal ∧ ∃ u, b = (netAct ops a0 x.v i).put o.dst u ∧ (Below w.heap.size w w' ∧ (sp.getD i (.eq undef)).holds i (D.getD i []) (x.set i u w.heap.size w'.heap.size) w')) := by
        rintro ⟨b, w', h, _⟩
        cases h
      simp only [wpList, hwant, if_true] at hpre
      rcases hpre with hpre | hpre
      case inr => exact absurd hpre.2 hnl
      simp only [true_and] at hpre
      have hexec : execOp (actP ops a0 x.v (fun j => listed.getD j false) ops.size).eval o = execOp (netAct ops a0 x.v i).eval o := by
        refine execOp_congr o (fun cs b => Region.noSelect_spec hns i o cs b ho) fun y hx => ?_
        by_cases hxt : ∃ t, y = .tmp t
        · obtain ⟨t, rfl⟩ := hxt
          have hlook : t ∈ o.looksAt ops := List.mem_append_left _ (List.mem_filterMap.2 ⟨.tmp t, by simpa using hx, rfl⟩)
          have e1 : netAct ops a0 x.v i = actP ops a0 x.v (fun j => decide (j < i)) ops.size := by
            rw [actP_none (p := fun j => decide (j < i)) ops.size i (by omega) (fun j h1 _ => by simp; omega)]
            exact (actP_net (p := fun j => decide (j < i)) i (fun j hj => by simp [hj])).symm
          rw [e1]
          refine actP_eval t ops.size fun j hj hd => ?_
          rcases hO.looks j t hd hlook with h | h
          · rw [hDl j h]; have := hO.dlt j h; simp [this]
          · have hlt := (hok j _ (Array.getElem?_eq_getElem hj)).dlt i h
            have : listed.getD j false = false := by
              rcases hlj : listed.getD j false with _ | _
              · rfl
              · have := hcl j hlj i h
                rw [hli] at this
                cases this
            rw [this]; simp; omega
        · exact actP_evalC y (fun t h => hxt ⟨t, h⟩) _ _
      have hsz : (netAct ops a0 x.v i).tmps.size = (actP ops a0 x.v (fun j => listed.getD j false) ops.size).tmps.size := by
        rw [actP_size, ← actP_net (p := fun _ => true) i (fun _ _ => rfl), actP_size]
      have hT := wp_transfer (Q2 := Q) hexec hsz (fun c b w' h => by cases h.1) hnl hpre
      unfold wpOp
      simp only [ho, hwant, if_true]
      refine .inl (Oper.wp_mono ?_ hT)
      rintro b w' ⟨u, rfl, hbw, hh⟩
      have hdst : o.dst = dstAt ops i := by simp [dstAt, ho]
      have hlq : ∀ j, (listed.setIfInBounds i true).getD j false = (listed.getD j false || j == i) := fun j => by
        by_cases e : i = j
        · subst e
          simp [Array.getD_eq_getD_getElem?, Array.getElem?_setIfInBounds, hls, his]
        · rw [getD_set_ne _ e]
          simp [Ne.symm e]
      rw [hdst, actP_add (v' := (x.set i u w.heap.size w'.heap.size).v) (q := fun j => (listed.setIfInBounds i true).getD j false) (fun j hj _ => by simp [Gh.set, hj]) (by simp [Gh.set]) hli hlq (fun j d hij hlj hdj hdi => by
        rcases hO.dsts j d (by omega) hdj hdi with h | h
        · have := hO.dlt j h; omega
        · have := hcl j hlj i h
          rw [hli] at this
          cases this) ops.size his]
      refine ih _ _ _ ?_ (by simpa using hls) (fun j hj => by rw [hlq, hlm j hj]; simp; omega) (fun k hk j hj => ?_) (hb.trans (hbw.mono hb.size)) (fun k hk => ?_) (fun k hk => ?_) (fun k j hk hj hkj => ?_)
      · have := count_set (ops := ops) his hli hls
        omega
      · rw [hlq] at hk ⊢
        simp only [Bool.or_eq_true, beq_iff_eq] at hk ⊢
        rcases hk with hk | rfl
        · exact .inl (hcl k hk j hj)
        · exact .inl (hDl j hj)
      · rw [hlq] at hk
        simp only [Bool.or_eq_true, beq_iff_eq] at hk
        unfold known
        by_cases e : k = i
        · subst e
          exact hh
        · rcases hk with hk | hk
          · refine NS.holds_congr (x := x) (fun j hj => ?_) (NS.holds_stable (hst' k) (hkn k hk) hbw)
            have hji : j ≠ i := by
              rcases hj with rfl | hj
              · exact e
              · rintro rfl
                have := hcl k hk j hj
                rw [hli] at this
                cases this
            simp [Gh.set, hji]
          · exact absurd hk e
      · rw [hlq] at hk
        simp only [Bool.or_eq_true, beq_iff_eq] at hk
        by_cases e : k = i
        · subst e
          simp only [Gh.set, if_true]
          exact ⟨hb.size, hbw.size, Nat.le_refl _⟩
        · have := hiv k (hk.resolve_right e)
          have := hbw.size
          simp only [Gh.set, if_neg e]
          omega
      · rw [hlq] at hk hj
        simp only [Bool.or_eq_true, beq_iff_eq] at hk hj
        by_cases e : k = i
        · subst e
          have := hiv j (hj.resolve_right (Ne.symm hkj))
          simp only [Gh.set, if_true, if_neg (Ne.symm hkj)]
          exact .inr (by omega)
        · by_cases e' : j = i
          · subst e'
            have := hiv k (hk.resolve_right e)
            simp only [Gh.set, if_true, if_neg e]
            exact .inl (by omega)
          · simp only [Gh.set, if_neg e, if_neg e']
            exact hdj k j (hk.resolve_right e) (hj.resolve_right e') hkj

/-- the test: the tail begins at m, and of the net only s may come behind its first operation -/
def netB2 (ops : Array Oper) (D : List (List Nat)) (m s : Nat) : Bool := netB ops D (m + 1) && (decide (m < ops.size) && decide (s < m) && (List.range m).all fun j => j == s || (D.getD m []).contains j)
theorem wp_region_net2 {id : Nat} {l : List Oper} {w : World} (hmo : P.follows .mixedOrders = true) (sp : List NS) (D : List (List Nat)) (m s : Nat) (L : List Nat) (hB : netB2 l.toArray D m s = true) (hL : L = (List.range m).filter (fun j => j != s)) (hst : stableAll sp)
    (hdo : netAll P l.toArray sp D a0 w 0 (l.take m))
    (hend : ∀ x w', Below w.heap.size w w' → (∀ i, i < m → known sp D x i w') → (∀ i, i < m → w.heap.size ≤ x.lo i ∧ x.lo i ≤ x.hi i ∧ x.hi i ≤ w'.heap.size) → (∀ i j, i < m → j < m → i ≠ j → x.hi i ≤ x.lo j ∨ x.hi j ≤ x.lo i) → wpList P l.toArray Q (l.drop m) (netAct l.toArray a0 x.v m) w')
    (hend2 : ∀ x w', Below w.heap.size w w' → (∀ i, i < m ∧ i ≠ s → known sp D x i w') → (∀ i, i < m ∧ i ≠ s → w.heap.size ≤ x.lo i ∧ x.lo i ≤ x.hi i ∧ x.hi i ≤ w'.heap.size) → (∀ i j, i < m ∧ i ≠ s → j < m ∧ j ≠ s → i ≠ j → x.hi i ≤ x.lo j ∨ x.hi j ≤ x.lo i) → ∀ om os, l[m]? = some om → l[s]? = some os → wpList P l.toArray Q (om :: os :: l.drop (m + 1)) (L.foldl (fun a k => a.put (dstAt l.toArray k) (x.v k)) a0) w') : (Code.region id l.toArray true).wp P Q a0 w := by
  replace hst := stableAll_spec hst
  subst hL
  simp only [netB2, Bool.and_eq_true, decide_eq_true_eq, List.all_eq_true, List.mem_range, Bool.or_eq_true, beq_iff_eq, List.contains_iff_mem, List.contains_eq_mem] at hB
  obtain ⟨hB, ⟨hms, hsm⟩, hDm⟩ := hB
  have hdo : ∀ i o, i < m → l[i]? = some o → netDo P l.toArray sp D a0 w.drew i o := fun i o hi ho => by
    have := netAll_spec (l.take m) 0 hdo i o (by rw [List.getElem?_take, if_pos hi]; exact ho)
    rw [Nat.zero_add] at this
    exact fun v w1 hb => this v w1 ⟨hb.os, hb.tape, hb.output, hb.size, hb.block⟩
  refine wp_region_any hmo ?_
  have h := net_any2 (w0 := w.drew) (a0 := a0) (Q := Q) (P := P) (sp := sp) (s := s) hB hms hsm (fun j hj hne => (hDm j hj).resolve_left hne) hst (fun i o hi ho => hdo i o hi (by simpa using ho)) (fun x w' hb hk hiv hdj => by simpa using hend x w' (show Below w.heap.size w w' from ⟨hb.os, hb.tape, hb.output, hb.size, hb.block⟩) hk hiv hdj)
    (fun x w' hb hk hiv hdj om os hom hos => by rw [actP_fold]; simpa using hend2 x w' (show Below w.heap.size w w' from ⟨hb.os, hb.tape, hb.output, hb.size, hb.block⟩) hk hiv hdj om os (by simpa using hom) (by simpa using hos))
    l.toArray.size (Array.replicate l.toArray.size false) ⟨fun _ => undef, fun _ => 0, fun _ => 0⟩ w.drew
    (by rw [List.filter_eq_self.2 (fun j _ => by rw [repl_getD]; rfl), List.length_range])
    (by simp) (fun j _ => repl_getD _ _)
    (fun i hi => by rw [repl_getD] at hi; cases hi)
    (Below.refl _ _)
    (fun i hi => by rw [repl_getD] at hi; cases hi)
    (fun i hi => by rw [repl_getD] at hi; cases hi)
    (fun i j hi => by rw [repl_getD] at hi; cases hi)
  have e : actP l.toArray a0 (fun _ => undef) (fun j => (Array.replicate l.toArray.size false).getD j false) l.toArray.size = a0 :=
    actP_none l.toArray.size 0 (by omega) (fun j _ _ => repl_getD _ _)
  rw [e] at h
  exact h
end
end Go.Proofs.Ytbgjhnolnccnnaa
