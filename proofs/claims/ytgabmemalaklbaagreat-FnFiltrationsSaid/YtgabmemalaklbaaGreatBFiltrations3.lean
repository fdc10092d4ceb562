/- FnFiltrations: the law holds for every argument. Part 3 of 18 of the proof: Net2, Interval, FiltC, Comp, CompL, Num, Symm, Symm2, Refl, BoxV, Bars, BarsK, CmpB. No condition. -/
import Derived.Test.YtgabmemalaklbaaGreatBFiltrations2
import Derived.Shelf.RegionOpenPlain
/- The law of Net.lean, for a region in which one operation of the net (s: a value, no memory made) may also come behind the first operation of the tail (m). -/
namespace Go.Proofs.YtgabmemalaklbaaGreat
set_option linter.unusedVariables false
set_option linter.unusedSimpArgs false
open Go.RowKit

section
variable {P : Program} {ops : Array Oper} {Q : Exit → Act → World → Prop} {sp : List NS} {D : List (List Nat)} {m s : Nat} {a0 : Act} {w0 : World}
theorem set_getD {listed : Array Bool} {i : Nat} (his : i < listed.size) (j : Nat) : (listed.setIfInBounds i true).getD j false = (listed.getD j false || j == i) := by
  by_cases e : i = j
  · subst e
    simp [Array.getD_eq_getD_getElem?, Array.getElem?_setIfInBounds, his]
  · rw [getD_set_ne _ e]
    simp [Ne.symm e]
theorem count_set {listed : Array Bool} {i : Nat} (his : i < ops.size) (hli : listed.getD i false = false) (hls : listed.size = ops.size) :
    ((List.range ops.size).filter fun j => !(listed.setIfInBounds i true).getD j false).length + 1 = ((List.range ops.size).filter fun j => !listed.getD j false).length := by
  have hmem : i ∈ (List.range ops.size).filter fun j => !listed.getD j false := by
    rw [List.mem_filter]; exact ⟨List.mem_range.2 his, by rw [hli]; rfl⟩
  have e : (List.range ops.size).filter (fun j => !(listed.setIfInBounds i true).getD j false) = ((List.range ops.size).filter fun j => !listed.getD j false).filter (fun j => j != i) := by
    rw [List.filter_filter]
    congr 1
    funext j
    rw [set_getD (hls ▸ his)]
    simp [Bool.not_or, Bool.and_comm, bne]
  have hnd : ((List.range ops.size).filter fun j => !listed.getD j false).Nodup := List.nodup_range.filter _
  rw [e]
  have := List.length_erase_of_mem hmem
  rw [hnd.erase_eq_filter] at this
  have h1 := List.length_pos_of_mem hmem
  omega
theorem count_from {listed : Array Bool} {k : Nat} (hl : ∀ j, listed.getD j false = decide (j < k)) (hk : k ≤ ops.size) : ((List.range ops.size).filter fun j => !listed.getD j false).length = ops.size - k := by
  have e : (List.range ops.size).filter (fun j => !listed.getD j false) = (List.range' k (ops.size - k)) := by
    have e1 : (List.range ops.size) = List.range k ++ List.range' k (ops.size - k) := by
      have h := List.range'_append_1 (s := 0) (m := k) (n := ops.size - k)
      rw [Nat.zero_add] at h
      rw [List.range_eq_range', List.range_eq_range', h]
      congr 1
      omega
    rw [e1, List.filter_append]
    rw [List.filter_eq_nil_iff.2 (fun j hj => by rw [hl]; simp at hj ⊢; exact hj), List.nil_append]
    rw [List.filter_eq_self.2 (fun j hj => by rw [hl]; simp [List.mem_range'] at hj ⊢; omega)]
  rw [e, List.length_range']
theorem actP_fold (v : Nat → Value) (p : Nat → Bool) : ∀ k, actP ops a0 v p k = ((List.range k).filter p).foldl (fun a k => a.put (dstAt ops k) (v k)) a0
  | 0 => rfl
  | k + 1 => by
    rw [List.range_succ, List.filter_append, List.foldl_append, ← actP_fold v p k]
    conv => lhs; unfold actP
    rcases h : p k with _ | _ <;> simp [h]

theorem net_tail2 (hok : ∀ i o, ops[i]? = some o → NetOk ops D (m + 1) i o) : ∀ (fuel k : Nat) (listed : Array Bool) (a : Act) (w : World), fuel + k = ops.size → m ≤ k → listed.size = ops.size → (∀ j, listed.getD j false = decide (j < k)) →
    wpList P ops Q (ops.toList.drop k) a w → wpAny P .any ops Q fuel listed a w
  | fuel, k, listed, a, w, hf, hm, hls, hl, h => by
    have hld : ∀ j, j < ops.size → listed.getD j true = decide (j < k) := fun j hj => by
      rw [← hl j]
      simp [Array.getD_eq_getD_getElem?, Array.getElem?_eq_getElem (show j < listed.size by omega)]
    have hr : ∀ i ∈ Region.ready .any ops listed, i = k ∧ k < ops.size := fun i hi => by
      obtain ⟨h0, o, ho, hall⟩ := mem_ready.1 hi
      have hin := (Array.getElem?_eq_some_iff.1 ho).1
      rw [hld i hin] at h0
      have hik : k ≤ i := by simpa using h0
      refine ⟨?_, by omega⟩
      have hcl := (hok i o ho).danc (fun j => j < k) (fun e he hb => by have := hall e he hb; rw [hl] at this; simpa using this) (fun j hj x hx => by
        have hjs : j < ops.size := by omega
        have := (hok j _ (Array.getElem?_eq_getElem hjs)).dlt x hx
        omega)
      rcases Nat.lt_or_ge k i with hlt | hge
      · have := hcl k ((hok i o ho).tail (by omega) k hlt)
        omega
      · omega
    cases fuel with
    | zero =>
      refine ⟨?_, ?_⟩
      · apply List.eq_nil_iff_forall_not_mem.2
        intro i hi
        have := hr i hi
        omega
      · rw [List.drop_of_length_le (by simp; omega)] at h
        exact h
    | succ fuel =>
      have hks : k < ops.size := by omega
      have hke := Array.getElem?_eq_getElem hks
      have hdrop : ops.toList.drop k = ops[k] :: ops.toList.drop (k + 1) := by
        rw [List.drop_eq_getElem_cons (by simpa using hks)]
        simp
      rw [hdrop] at h
      have hready : k ∈ Region.ready .any ops listed := mem_ready.2 ⟨by rw [hld k hks]; simp, _, hke, fun e he hb => by rw [hl]; simpa using (hok k _ hke).direct e he hb⟩
      refine ⟨fun h0 => (by rw [h0] at hready; cases hready), fun i hi => ?_⟩
      obtain ⟨rfl, _⟩ := hr i hi
      unfold wpOp
      simp only [hke]
      have hw : Region.wanted ops[i] (yielded ops a.tmps) = true := by simp [Region.wanted, (hok i _ hke).guard]
      simp only [wpList, hw, if_true] at h ⊢
      have nxt : ∀ a w, wpList P ops Q (ops.toList.drop (i + 1)) a w → wpAny P .any ops Q fuel (listed.setIfInBounds i true) a w := fun a w h =>
        net_tail2 hok fuel (i + 1) _ a w (by omega) (by omega) (by simpa using hls) (fun j => by
          by_cases e : i = j
          · subst e
            simp [Array.getD_eq_getD_getElem?, Array.getElem?_setIfInBounds, hls, hks]
          · rw [getD_set_ne _ e, hl]
            congr 1
            rw [eq_iff_iff]
            omega) h
      rcases h with h | h
      · exact .inl (Oper.wp_mono nxt h)
      · exact .inr h

theorem net_any2 (hB : netB ops D (m + 1) = true) (hms : m < ops.size) (hsm : s < m) (hD : ∀ j, j < m → j ≠ s → j ∈ D.getD m []) (hst : ∀ s ∈ sp, s.stable) (hdo : ∀ i o, i < m → ops[i]? = some o → netDo P ops sp D a0 w0 i o)
    (hend : ∀ x w, Below w0.heap.size w0 w → (∀ i, i < m → known sp D x i w) → (∀ i, i < m → w0.heap.size ≤ x.lo i ∧ x.lo i ≤ x.hi i ∧ x.hi i ≤ w.heap.size) → (∀ i j, i < m → j < m → i ≠ j → x.hi i ≤ x.lo j ∨ x.hi j ≤ x.lo i) → wpList P ops Q (ops.toList.drop m) (netAct ops a0 x.v m) w)
    (hend2 : ∀ x w, Below w0.heap.size w0 w → (∀ i, i < m ∧ i ≠ s → known sp D x i w) → (∀ i, i < m ∧ i ≠ s → w0.heap.size ≤ x.lo i ∧ x.lo i ≤ x.hi i ∧ x.hi i ≤ w.heap.size) → (∀ i j, i < m ∧ i ≠ s → j < m ∧ j ≠ s → i ≠ j → x.hi i ≤ x.lo j ∨ x.hi j ≤ x.lo i) → ∀ om os, ops[m]? = some om → ops[s]? = some os → wpList P ops Q (om :: os :: ops.toList.drop (m + 1)) (actP ops a0 x.v (fun j => j != s) m) w) :
    ∀ (fuel : Nat) (listed : Array Bool) (x : Gh) (w : World), ((List.range ops.size).filter fun j => !listed.getD j false).length = fuel → listed.size = ops.size → (∀ j, m ≤ j → listed.getD j false = false) →
      (∀ i, listed.getD i false = true → ∀ j ∈ D.getD i [], listed.getD j false = true) → Below w0.heap.size w0 w → (∀ i, listed.getD i false = true → known sp D x i w) → (∀ i, listed.getD i false = true → w0.heap.size ≤ x.lo i ∧ x.lo i ≤ x.hi i ∧ x.hi i ≤ w.heap.size) →
      (∀ i j, listed.getD i false = true → listed.getD j false = true → i ≠ j → x.hi i ≤ x.lo j ∨ x.hi j ≤ x.lo i) →
      wpAny P .any ops Q fuel listed (actP ops a0 x.v (fun j => listed.getD j false) ops.size) w := by
  simp only [netB, Bool.and_eq_true, decide_eq_true_eq] at hB
  obtain ⟨⟨hm, hns⟩, hnf⟩ := hB
  have hok : ∀ i o, ops[i]? = some o → NetOk ops D (m + 1) i o := fun i o ho => netAt_spec (by
    have := netFrom_spec ops.toList 0 hnf i o (by simpa using ho)
    simpa using this)
  have hst' : ∀ i, (sp.getD i (.eq undef)).stable := fun i => by
    rw [List.getD_eq_getElem?_getD]
    rcases h : sp[i]? with _ | s
    · trivial
    · exact hst s (List.mem_of_getElem? h)
  intro fuel
  induction fuel with
  | zero =>
    intro listed x w hc hls hlm hcl hb hkn hiv hdj
    exfalso
    rw [List.length_eq_zero_iff, List.filter_eq_nil_iff] at hc
    have := hc m (List.mem_range.2 hms)
    rw [hlm m (Nat.le_refl _)] at this
    simp at this
  | succ fuel ih =>
    intro listed x w hc hls hlm hcl hb hkn hiv hdj
    by_cases hfull : ∀ j, j < m → listed.getD j false = true
    · -- the tail
      have hl : ∀ j, listed.getD j false = decide (j < m) := fun j => by
        by_cases hj : j < m
        · rw [hfull j hj]; simp [hj]
        · rw [hlm j (by omega)]; simp [hj]
      have hcnt := count_from (ops := ops) hl (by omega)
      refine net_tail2 hok (fuel + 1) m listed _ w (by omega) (Nat.le_refl _) hls hl ?_
      have := hend x w hb (fun i hi => hkn i (hfull i hi)) (fun i hi => hiv i (hfull i hi)) (fun i j hi hj => hdj i j (hfull i hi) (hfull j hj))
      rw [← actP_net (p := fun j => listed.getD j false) m hfull] at this
      rwa [actP_none (p := fun j => listed.getD j false) ops.size m (by omega) (fun j h1 _ => hlm j h1)]
    · -- one of the net
      have hne : Region.ready .any ops listed ≠ [] := by
        intro h0
        -- the least that is not listed is ready
        have : ∀ n, ∀ j, j < n → j < m → listed.getD j false = true := by
          intro n
          induction n with
          | zero => intro j hj; omega
          | succ n ihn =>
            intro j hj hjm
            by_cases e : j < n
            · exact ihn j e hjm
            · rcases hlj : listed.getD j false with _ | _
              · exfalso
                have hjs : j < ops.size := by omega
                have hje := Array.getElem?_eq_getElem hjs
                have : j ∈ Region.ready .any ops listed := mem_ready.2 ⟨by
                  rw [← hlj]
                  simp [Array.getD_eq_getD_getElem?, Array.getElem?_eq_getElem (show j < listed.size by omega)], _, hje, fun e he hb => by
                  have := (hok j _ hje).direct e he hb
                  exact ihn e.on (by omega) (by omega)⟩
                rw [h0] at this
                cases this
              · rfl
        exact hfull fun j hj => this (j + 1) j (by omega) hj
      refine ⟨fun h0 => absurd h0 hne, fun i hi => ?_⟩
      obtain ⟨h0, o, ho, hall⟩ := mem_ready.1 hi
      have his := (Array.getElem?_eq_some_iff.1 ho).1
      have hO := hok i o ho
      have hDl : ∀ j ∈ D.getD i [], listed.getD j false = true := hO.danc (fun j => listed.getD j false = true) hall (fun k hk j hj => hcl k hk j hj)
      have hwant : ∀ b : Act, Region.wanted o (yielded ops b.tmps) = true := fun b => by simp [Region.wanted, hO.guard]
      rcases Nat.lt_or_ge i m with him | hge
      case inr =>
        -- the tail's first, ahead of s
        have him : i = m := by
          rcases Nat.lt_or_ge m i with h | h
          · exact absurd (fun j hj => hDl j (hO.tail (by omega) j (by omega))) hfull
          · omega
        subst him
        have hls0 : listed.getD s false = false := by
          rcases h : listed.getD s false with _ | _
          · rfl
          · exfalso
            refine hfull fun j hj => ?_
            by_cases e : j = s
            · rw [e, h]
            · exact hDl j (hD j hj e)
        have hl : ∀ j, listed.getD j false = decide (j < i ∧ j ≠ s) := fun j => by
          by_cases hj : j < i
          · by_cases e : j = s
            · rw [e, hls0]; simp
            · rw [hDl j (hD j hj e)]; simp [hj, e]
          · rw [hlm j (by omega)]; simp [hj]
        have hT : ∀ k, k < i ∧ k ≠ s → listed.getD k false = true := fun k hk => by rw [hl]; simpa using hk
        have hss : s < ops.size := by omega
        have hse := Array.getElem?_eq_getElem hss
        have h2 := hend2 x w hb (fun k hk => hkn k (hT k hk)) (fun k hk => hiv k (hT k hk)) (fun k j hk hj => hdj k j (hT k hk) (hT j hj)) o ops[s] ho hse
        rw [actP_congr (p := fun j => j != s) (q := fun j => listed.getD j false) (v' := x.v) i (fun j hj => ⟨by rw [hl]; by_cases e : j = s <;> simp [e, hj], fun _ => rfl⟩)] at h2
        rw [actP_none (p := fun j => listed.getD j false) ops.size i (by omega) (fun j h1 _ => hlm j h1)]
        have hli := hlm i (Nat.le_refl _)
        have c1 := count_set (ops := ops) his hli hls
        have hsz1 : (listed.setIfInBounds i true).size = ops.size := by simpa using hls
        have hl1 : ∀ j, (listed.setIfInBounds i true).getD j false = decide (j < i + 1 ∧ j ≠ s) := fun j => by
          rw [set_getD (hls ▸ his), hl]
          by_cases e : j = i
          · subst e; simp; omega
          · by_cases e2 : j < i
            · simp [e, e2, show j < i + 1 by omega]
            · simp [e, e2, show ¬ j < i + 1 by omega]
        have hs1 : (listed.setIfInBounds i true).getD s false = false := by rw [hl1]; simp
        have c2 := count_set (ops := ops) hss hs1 hsz1
        have hl2 : ∀ j, ((listed.setIfInBounds i true).setIfInBounds s true).getD j false = decide (j < i + 1) := fun j => by
          rw [set_getD (hsz1 ▸ hss), hl1]
          by_cases e : j = s
          · subst e; simp; omega
          · simp [e]
        have c3 := count_from (ops := ops) hl2 (by omega)
        have nxt : ∀ a w, wpList P ops Q (ops[s] :: ops.toList.drop (i + 1)) a w → wpAny P .any ops Q fuel (listed.setIfInBounds i true) a w := fun a w h => by
          obtain ⟨f, rfl⟩ : ∃ f, fuel = f + 1 := ⟨fuel - 1, by omega⟩
          have hld : ∀ j, j < ops.size → (listed.setIfInBounds i true).getD j true = (listed.setIfInBounds i true).getD j false := fun j hj => by
            simp only [Array.getD_eq_getD_getElem?, Array.getElem?_eq_getElem (show j < (listed.setIfInBounds i true).size by omega), Option.getD_some]
          have hready : s ∈ Region.ready .any ops (listed.setIfInBounds i true) := mem_ready.2 ⟨by rw [hld s hss, hs1], _, hse, fun e he hb => by
            have := (hok s _ hse).direct e he hb
            rw [hl1]; simp; omega⟩
          refine ⟨fun h0 => (by rw [h0] at hready; cases hready), fun k hk => ?_⟩
          obtain ⟨k0, ok, hok2, hall2⟩ := mem_ready.1 hk
          have hks := (Array.getElem?_eq_some_iff.1 hok2).1
          rw [hld k hks, hl1] at k0
          have hks2 : k = s := by
            by_cases e : k = s
            · exact e
            · exfalso
              have hkm : i + 1 ≤ k := by simp at k0; omega
              have hcl2 := (hok k ok hok2).danc (fun j => (listed.setIfInBounds i true).getD j false = true) hall2 (fun y hy j hj => by
                rw [hl1] at hy ⊢
                simp at hy ⊢
                have hyd := (hok y _ (Array.getElem?_eq_getElem (show y < ops.size by omega))).dlt j hj
                refine ⟨by omega, fun e2 => ?_⟩
                subst e2
                rcases Nat.lt_or_ge y i with h3 | h3
                · have := hcl y (hT y ⟨h3, hy.2⟩) j hj
                  rw [hls0] at this
                  cases this
                · have : y = i := by omega
                  subst this
                  have := hDl j hj
                  rw [hls0] at this
                  cases this)
              have := hcl2 s ((hok k ok hok2).tail hkm s (by omega))
              rw [hs1] at this
              cases this
          subst hks2
          unfold wpOp
          simp only [hse]
          have hw : Region.wanted ops[k] (yielded ops a.tmps) = true := by simp [Region.wanted, (hok k _ hse).guard]
          simp only [wpList, hw, if_true] at h ⊢
          have nxt2 : ∀ a w, wpList P ops Q (ops.toList.drop (i + 1)) a w → wpAny P .any ops Q f ((listed.setIfInBounds i true).setIfInBounds k true) a w := fun a w h =>
            net_tail2 hok f (i + 1) _ a w (by omega) (by omega) (by simpa using hls) hl2 h
          rcases h with h | h
          · exact .inl (Oper.wp_mono nxt2 h)
          · exact .inr h
        unfold wpOp
        simp only [ho]
        simp only [wpList, hwant, if_true] at h2 ⊢
        rcases h2 with h | h
        · exact .inl (Oper.wp_mono (fun a w h => nxt a w (by simpa only [wpList] using h)) h)
        · exact .inr h
      have hli : listed.getD i false = false := by
        rw [← h0]
        simp [Array.getD_eq_getD_getElem?, Array.getElem?_eq_getElem (show i < listed.size by omega)]
      have hpre := hdo i o him ho x w hb (fun j hj => ⟨hkn j (hDl j hj), (hiv j (hDl j hj)).2.2⟩) (fun e b w' => e = .normal ∧ ∃ u, b = (netAct ops a0 x.v i).put o.dst u ∧ (Below w.heap.size w w' ∧ (sp.getD i (.eq undef)).holds i (D.getD i []) (x.set i u w.heap.size w'.heap.size) w'))
        (fun u w' h1 h2 => ⟨rfl, u, rfl, h1, h2⟩)
      have hnl : ¬ LetsOut (fun (e : Exit) (b : Act) (w' : World) => e = .normal ∧ ∃ u, b = (netAct ops a0 x.v i).put o.dst u ∧ (Below w.heap.size w w' ∧ (sp.getD i (.eq undef)).holds i (D.getD i []) (x.set i u w.heap.size w'.heap.size) w')) := by
        rintro ⟨b, w', h, _⟩
        cases h
      simp only [wpList, hwant, if_true] at hpre
      rcases hpre with hpre | hpre
      case inr => exact absurd hpre.2 hnl
      simp only [true_and] at hpre
      have hexec : execOp (actP ops a0 x.v (fun j => listed.getD j false) ops.size).eval o = execOp (netAct ops a0 x.v i).eval o := by
        refine execOp_congr o (fun cs b => Region.noSelect_spec hns i o cs b ho) fun y hx => ?_
        by_cases hxt : ∃ t, y = .tmp t
        · obtain ⟨t, rfl⟩ := hxt
          have hlook : t ∈ o.looksAt ops := List.mem_append_left _ (List.mem_filterMap.2 ⟨.tmp t, by simpa using hx, rfl⟩)
          have e1 : netAct ops a0 x.v i = actP ops a0 x.v (fun j => decide (j < i)) ops.size := by
            rw [actP_none (p := fun j => decide (j < i)) ops.size i (by omega) (fun j h1 _ => by simp; omega)]
            exact (actP_net (p := fun j => decide (j < i)) i (fun j hj => by simp [hj])).symm
          rw [e1]
          refine actP_eval t ops.size fun j hj hd => ?_
          rcases hO.looks j t hd hlook with h | h
          · rw [hDl j h]; have := hO.dlt j h; simp [this]
          · have hlt := (hok j _ (Array.getElem?_eq_getElem hj)).dlt i h
            have : listed.getD j false = false := by
              rcases hlj : listed.getD j false with _ | _
              · rfl
              · have := hcl j hlj i h
                rw [hli] at this
                cases this
            rw [this]; simp; omega
        · exact actP_evalC y (fun t h => hxt ⟨t, h⟩) _ _
      have hsz : (netAct ops a0 x.v i).tmps.size = (actP ops a0 x.v (fun j => listed.getD j false) ops.size).tmps.size := by
        rw [actP_size, ← actP_net (p := fun _ => true) i (fun _ _ => rfl), actP_size]
      have hT := wp_transfer (Q2 := Q) hexec hsz (fun c b w' h => by cases h.1) hnl hpre
      unfold wpOp
      simp only [ho, hwant, if_true]
      refine .inl (Oper.wp_mono ?_ hT)
      rintro b w' ⟨u, rfl, hbw, hh⟩
      have hdst : o.dst = dstAt ops i := by simp [dstAt, ho]
      have hlq : ∀ j, (listed.setIfInBounds i true).getD j false = (listed.getD j false || j == i) := fun j => by
        by_cases e : i = j
        · subst e
          simp [Array.getD_eq_getD_getElem?, Array.getElem?_setIfInBounds, hls, his]
        · rw [getD_set_ne _ e]
          simp [Ne.symm e]
      rw [hdst, actP_add (v' := (x.set i u w.heap.size w'.heap.size).v) (q := fun j => (listed.setIfInBounds i true).getD j false) (fun j hj _ => by simp [Gh.set, hj]) (by simp [Gh.set]) hli hlq (fun j d hij hlj hdj hdi => by
        rcases hO.dsts j d (by omega) hdj hdi with h | h
        · have := hO.dlt j h; omega
        · have := hcl j hlj i h
          rw [hli] at this
          cases this) ops.size his]
      refine ih _ _ _ ?_ (by simpa using hls) (fun j hj => by rw [hlq, hlm j hj]; simp; omega) (fun k hk j hj => ?_) (hb.trans (hbw.mono hb.size)) (fun k hk => ?_) (fun k hk => ?_) (fun k j hk hj hkj => ?_)
      · have := count_set (ops := ops) his hli hls
        omega
      · rw [hlq] at hk ⊢
        simp only [Bool.or_eq_true, beq_iff_eq] at hk ⊢
        rcases hk with hk | rfl
        · exact .inl (hcl k hk j hj)
        · exact .inl (hDl j hj)
      · rw [hlq] at hk
        simp only [Bool.or_eq_true, beq_iff_eq] at hk
        unfold known
        by_cases e : k = i
        · subst e
          exact hh
        · rcases hk with hk | hk
          · refine NS.holds_congr (x := x) (fun j hj => ?_) (NS.holds_stable (hst' k) (hkn k hk) hbw)
            have hji : j ≠ i := by
              rcases hj with rfl | hj
              · exact e
              · rintro rfl
                have := hcl k hk j hj
                rw [hli] at this
                cases this
            simp [Gh.set, hji]
          · exact absurd hk e
      · rw [hlq] at hk
        simp only [Bool.or_eq_true, beq_iff_eq] at hk
        by_cases e : k = i
        · subst e
          simp only [Gh.set, if_true]
          exact ⟨hb.size, hbw.size, Nat.le_refl _⟩
        · have := hiv k (hk.resolve_right e)
          have := hbw.size
          simp only [Gh.set, if_neg e]
          omega
      · rw [hlq] at hk hj
        simp only [Bool.or_eq_true, beq_iff_eq] at hk hj
        by_cases e : k = i
        · subst e
          have := hiv j (hj.resolve_right (Ne.symm hkj))
          simp only [Gh.set, if_true, if_neg (Ne.symm hkj)]
          exact .inr (by omega)
        · by_cases e' : j = i
          · subst e'
            have := hiv k (hk.resolve_right e)
            simp only [Gh.set, if_true, if_neg e]
            exact .inl (by omega)
          · simp only [Gh.set, if_neg e, if_neg e']
            exact hdj k j (hk.resolve_right e) (hj.resolve_right e') hkj

/-- the test: the tail begins at m, and of the net only s may come behind its first operation -/
def netB2 (ops : Array Oper) (D : List (List Nat)) (m s : Nat) : Bool := netB ops D (m + 1) && (decide (m < ops.size) && decide (s < m) && (List.range m).all fun j => j == s || (D.getD m []).contains j)
theorem wp_region_net2 {id : Nat} {l : List Oper} {w : World} (hmo : P.follows .mixedOrders = true) (sp : List NS) (D : List (List Nat)) (m s : Nat) (L : List Nat) (hB : netB2 l.toArray D m s = true) (hL : L = (List.range m).filter (fun j => j != s)) (hst : stableAll sp)
    (hdo : netAll P l.toArray sp D a0 w 0 (l.take m))
    (hend : ∀ x w', Below w.heap.size w w' → (∀ i, i < m → known sp D x i w') → (∀ i, i < m → w.heap.size ≤ x.lo i ∧ x.lo i ≤ x.hi i ∧ x.hi i ≤ w'.heap.size) → (∀ i j, i < m → j < m → i ≠ j → x.hi i ≤ x.lo j ∨ x.hi j ≤ x.lo i) → wpList P l.toArray Q (l.drop m) (netAct l.toArray a0 x.v m) w')
    (hend2 : ∀ x w', Below w.heap.size w w' → (∀ i, i < m ∧ i ≠ s → known sp D x i w') → (∀ i, i < m ∧ i ≠ s → w.heap.size ≤ x.lo i ∧ x.lo i ≤ x.hi i ∧ x.hi i ≤ w'.heap.size) → (∀ i j, i < m ∧ i ≠ s → j < m ∧ j ≠ s → i ≠ j → x.hi i ≤ x.lo j ∨ x.hi j ≤ x.lo i) → ∀ om os, l[m]? = some om → l[s]? = some os → wpList P l.toArray Q (om :: os :: l.drop (m + 1)) (L.foldl (fun a k => a.put (dstAt l.toArray k) (x.v k)) a0) w') : (Code.region id l.toArray true).wp P Q a0 w := by
  replace hst := stableAll_spec hst
  subst hL
  simp only [netB2, Bool.and_eq_true, decide_eq_true_eq, List.all_eq_true, List.mem_range, Bool.or_eq_true, beq_iff_eq, List.contains_iff_mem, List.contains_eq_mem] at hB
  obtain ⟨hB, ⟨hms, hsm⟩, hDm⟩ := hB
  have hdo : ∀ i o, i < m → l[i]? = some o → netDo P l.toArray sp D a0 w.drew i o := fun i o hi ho => by
    have := netAll_spec (l.take m) 0 hdo i o (by rw [List.getElem?_take, if_pos hi]; exact ho)
    rw [Nat.zero_add] at this
    exact fun v w1 hb => this v w1 ⟨hb.os, hb.tape, hb.output, hb.size, hb.block⟩
  refine wp_region_any hmo ?_
  have h := net_any2 (w0 := w.drew) (a0 := a0) (Q := Q) (P := P) (sp := sp) (s := s) hB hms hsm (fun j hj hne => (hDm j hj).resolve_left hne) hst (fun i o hi ho => hdo i o hi (by simpa using ho)) (fun x w' hb hk hiv hdj => by simpa using hend x w' (show Below w.heap.size w w' from ⟨hb.os, hb.tape, hb.output, hb.size, hb.block⟩) hk hiv hdj)
    (fun x w' hb hk hiv hdj om os hom hos => by rw [actP_fold]; simpa using hend2 x w' (show Below w.heap.size w w' from ⟨hb.os, hb.tape, hb.output, hb.size, hb.block⟩) hk hiv hdj om os (by simpa using hom) (by simpa using hos))
    l.toArray.size (Array.replicate l.toArray.size false) ⟨fun _ => undef, fun _ => 0, fun _ => 0⟩ w.drew
    (by rw [List.filter_eq_self.2 (fun j _ => by rw [repl_getD]; rfl), List.length_range])
    (by simp) (fun j _ => repl_getD _ _)
    (fun i hi => by rw [repl_getD] at hi; cases hi)
    (Below.refl _ _)
    (fun i hi => by rw [repl_getD] at hi; cases hi)
    (fun i hi => by rw [repl_getD] at hi; cases hi)
    (fun i j hi => by rw [repl_getD] at hi; cases hi)
  have e : actP l.toArray a0 (fun _ => undef) (fun j => (Array.replicate l.toArray.size false).getD j false) l.toArray.size = a0 :=
    actP_none l.toArray.size 0 (by omega) (fun j _ _ => repl_getD _ _)
  rw [e] at h
  exact h
end
end Go.Proofs.YtgabmemalaklbaaGreat

/- IntervalOf, both. -/
namespace Go.Proofs.YtgabmemalaklbaaGreat
set_option linter.unusedVariables false
set_option linter.unusedSimpArgs false
open Go.RowKit

/-! ### plain: zeros, then ones, then zeros -/
def ivForm (f s r : Nat) : List Int := List.replicate f 0 ++ (List.replicate s 1 ++ List.replicate r 0)
def ivFst (l : List Int) : Nat := l.findIdx (fun x => (1 : Int) == x)
def ivS (l : List Int) : Nat := l.sum.toNat
def ivOk (l : List Int) : Bool := decide (0 < ivS l ∧ l = ivForm (ivFst l) (ivS l) (l.length - ivFst l - ivS l))
theorem ivForm_get {f s r j : Nat} {x : Int} (h : (ivForm f s r)[j]? = some x) : x = if f ≤ j ∧ j < f + s then 1 else 0 := by
  have hj := lt_of_some h
  simp only [ivForm, List.length_append, List.length_replicate] at hj
  unfold ivForm at h
  rw [List.getElem?_append] at h
  split at h
  · rename_i h1
    simp only [List.length_replicate] at h1
    rw [List.getElem?_replicate, if_pos h1] at h
    injection h with h
    rw [if_neg (by omega)]
    exact h.symm
  · rename_i h1
    simp only [List.length_replicate] at h1 h
    rw [List.getElem?_append] at h
    split at h
    · rename_i h2
      simp only [List.length_replicate] at h2
      rw [List.getElem?_replicate, if_pos h2] at h
      injection h with h
      rw [if_pos (by omega)]
      exact h.symm
    · rename_i h2
      simp only [List.length_replicate] at h2 h
      rw [List.getElem?_replicate, if_pos (by omega)] at h
      injection h with h
      rw [if_neg (by omega)]
      exact h.symm
theorem sum_rep (n : Nat) (x : Int) : (List.replicate n x).sum = n * x := by
  induction n with
  | zero => simp
  | succ n ih => rw [List.replicate_succ, List.sum_cons, ih, Int.natCast_add, Int.add_mul]; simp; omega
theorem ivForm_sum (f s r : Nat) : (ivForm f s r).sum = s := by simp [ivForm, List.sum_append, sum_rep]
theorem ivForm_length (f s r : Nat) : (ivForm f s r).length = f + s + r := by simp [ivForm]; omega
theorem ivForm_F (f s r : Nat) : ivFst (ivForm f (s + 1) r) = f := by
  unfold ivFst
  have hl : f < (ivForm f (s + 1) r).length := by rw [ivForm_length]; omega
  rw [List.findIdx_eq hl]
  refine ⟨?_, fun j hj => ?_⟩
  · have := ivForm_get (List.getElem?_eq_getElem hl)
    rw [if_pos (by omega)] at this
    rw [this]; rfl
  · have hj' : j < (ivForm f (s + 1) r).length := by omega
    have := ivForm_get (List.getElem?_eq_getElem hj')
    rw [if_neg (by omega)] at this
    rw [this]; rfl
theorem ivOk_form (f s r : Nat) : ivOk (ivForm f (s + 1) r) = true ∧ ivFst (ivForm f (s + 1) r) = f ∧ ivS (ivForm f (s + 1) r) = s + 1 := by
  have h1 := ivForm_F f s r
  have h2 : ivS (ivForm f (s + 1) r) = s + 1 := by unfold ivS; rw [ivForm_sum]; omega
  refine ⟨?_, h1, h2⟩
  unfold ivOk
  rw [h1, h2, ivForm_length, decide_eq_true_eq]
  exact ⟨by omega, by congr 1; omega⟩
theorem ivOk_zero (n : Nat) : ivOk (List.replicate n 0) = false := by
  simp [ivOk, ivS, sum_rep]
def ivA (l : List Int) : Int := if ivOk l then (ivFst l : Int) else 0
def ivB (l : List Int) : Int := if ivOk l then (ivFst l : Int) + ivS l - 1 else 0
theorem iv_form {l : List Int} {f s r : Nat} (h : l = ivForm f (s + 1) r) : ivOk l = true ∧ ivA l = f ∧ ivB l = (f : Int) + s := by
  subst h
  obtain ⟨h1, h2, h3⟩ := ivOk_form f s r
  refine ⟨h1, by simp [ivA, h1, h2], ?_⟩
  simp only [ivB, h1, h2, h3, if_true]
  omega

/-- a part of a slice of ints -/
theorem SlI.cut {w : World} {B c : Nat} {A : Option Addr} {xs : List Int} {i k : Nat} (h : SlI w B (.slice A xs.length c) xs) (hik : i ≤ k) (hk : k ≤ xs.length) :
    ∃ A', (if c = i then A else A.map (·.add (i * 1))) = A' ∧ SlI w B (.slice A' (k - i) (c - i)) ((xs.drop i).take (k - i)) := by
  obtain ⟨A2, c2, e, h1, h2, h3, h4⟩ := h
  injection e with e1 e2 e3
  subst e1 e3
  refine ⟨_, rfl, ?_⟩
  have hl : ((xs.drop i).take (k - i)).length = k - i := by simp; omega
  refine ⟨_, c - i, by rw [hl], by rw [hl]; omega, by omega, by rw [hl]; omega, fun hp => ?_⟩
  rw [hl] at hp
  obtain ⟨b, o, rfl, hb, hc⟩ := h4 (by omega)
  rw [if_neg (by omega)]
  refine ⟨b, o + i, ?_, hb, fun j x hx => ?_⟩
  · have e : (⟨b, o, none⟩ : Addr).add i = ⟨b, o + i, none⟩ := by unfold Addr.add; split <;> simp_all
    simp [e]
  · rw [List.getElem?_take] at hx
    split at hx
    · rw [List.getElem?_drop] at hx
      have := hc (i + j) x hx
      rwa [show o + (i + j) * 1 = o + i + j * 1 by omega] at this
    · cases hx

/-- The reference's state behind k elements. -/
def StI (xs : List Int) (k : Nat) (a b : Int) : Prop := (a = -1 ∧ b = -1 ∧ xs.take k = List.replicate k 0) ∨ ∃ f s r : Nat, a = f ∧ b = (f : Int) + s ∧ k = f + s + 1 + r ∧ xs.take k = ivForm f (s + 1) r
theorem StI.rng {xs : List Int} {k : Nat} {a b : Int} (h : StI xs k a b) : -1 ≤ a ∧ a ≤ k ∧ -1 ≤ b ∧ b ≤ (k : Int) - 1 ∧ (a < 0 ↔ b < 0) := by
  rcases h with ⟨rfl, rfl, _⟩ | ⟨f, s, r, rfl, rfl, rfl, _⟩ <;> omega
theorem ivForm_snoc0 (f s r : Nat) : ivForm f s r ++ [0] = ivForm f s (r + 1) := by simp [ivForm, List.replicate_succ']
theorem ivForm_snoc1 (f s : Nat) : ivForm f s 0 ++ [1] = ivForm f (s + 1) 0 := by simp [ivForm, List.replicate_succ']
theorem StI.zero {xs : List Int} {k : Nat} {a b : Int} (h : StI xs k a b) (hx : xs[k]? = some 0) : StI xs (k + 1) a b := by
  rcases h with ⟨rfl, rfl, h⟩ | ⟨f, s, r, rfl, rfl, hk, h⟩
  · exact .inl ⟨rfl, rfl, by rw [take_snoc hx, h, List.replicate_succ']⟩
  · exact .inr ⟨f, s, r + 1, rfl, rfl, by omega, by rw [take_snoc hx, h, ivForm_snoc0]⟩
theorem StI.first {xs : List Int} {k : Nat} {a b : Int} (h : StI xs k a b) (hx : xs[k]? = some 1) (hb : b < 0) : StI xs (k + 1) k k := by
  rcases h with ⟨rfl, rfl, h⟩ | ⟨f, s, r, rfl, rfl, hk, h⟩
  · exact .inr ⟨k, 0, 0, rfl, by omega, by omega, by rw [take_snoc hx, h]; simp [ivForm]⟩
  · omega
theorem StI.more {xs : List Int} {k : Nat} {a b : Int} (h : StI xs k a b) (hx : xs[k]? = some 1) (hb : 0 ≤ b) (hb' : b = (k : Int) - 1) : StI xs (k + 1) a k := by
  rcases h with ⟨rfl, rfl, h⟩ | ⟨f, s, r, rfl, rfl, hk, h⟩
  · omega
  · obtain rfl : r = 0 := by omega
    exact .inr ⟨f, s + 1, 0, rfl, by omega, by omega, by rw [take_snoc hx, h, ivForm_snoc1]⟩
theorem StI.fin {xs : List Int} {a b : Int} (h : StI xs xs.length a b) : (a < 0 ∧ ivOk xs = false) ∨ (0 ≤ a ∧ ivOk xs = true ∧ ivA xs = a ∧ ivB xs = b) := by
  unfold StI at h
  rw [List.take_of_length_le (Nat.le_refl _)] at h
  rcases h with ⟨rfl, rfl, h⟩ | ⟨f, s, r, rfl, rfl, hk, h⟩
  · left
    refine ⟨by omega, ?_⟩
    rw [h]
    exact ivOk_zero _
  · right
    obtain ⟨h1, h2, h3⟩ := iv_form h
    exact ⟨by omega, h1, h2, h3⟩

end Go.Proofs.YtgabmemalaklbaaGreat

/- The two IsFiltration. -/
namespace Go.Proofs.YtgabmemalaklbaaGreat
set_option linter.unusedVariables false
set_option linter.unusedSimpArgs false
open Go.RowKit

/-- An edge of a filtration: two points and a stage. -/
def okEnd (s : Int) (bi : List Int) (e : List Int) : Bool :=
  match e with
  | [a, b, t] => inR a 0 ((bi.length : Int) - 1) && inR b 0 ((bi.length : Int) - 1) && (a != b) && inR t (max (bi.getD a.toNat 0) (bi.getD b.toNat 0)) (s - 1)
  | _ => false
def isF (f : Filt) : Bool := inR f.stages 1 5 && inR f.birth.length 1 4 && allR f.birth 0 (f.stages - 1) && decide (f.ends.length ≤ 8) && f.ends.all (okEnd f.stages f.birth)

theorem endC (l : List Int) : l.length ≠ 3 ∨ ∃ a b t, l = [a, b, t] := by
  match l with
  | [a, b, t] => exact .inr ⟨a, b, t, rfl⟩
  | [] | [_] | [_, _] | _ :: _ :: _ :: _ :: _ => exact .inl (by simp)
theorem okEnd_len {s : Int} {bi l : List Int} (h : l.length ≠ 3) : okEnd s bi l = false := by
  match l, h with
  | [_, _, _], h => simp at h
  | [], _ | [_], _ | [_, _], _ | _ :: _ :: _ :: _ :: _, _ => rfl
theorem isF_bad {q : Filt} {k : Nat} {l : List Int} (hl : q.ends[k]? = some l) (h : okEnd q.stages q.birth l = false) : isF q = false := by
  have : q.ends.all (okEnd q.stages q.birth) = false := by
    rw [List.all_eq_false]
    exact ⟨l, List.mem_of_getElem? hl, by simp [h]⟩
  simp [isF, this]
theorem isF_good {q : Filt} (h1 : inR q.stages 1 5 = true) (h2 : inR q.birth.length 1 4 = true) (h3 : allR q.birth 0 (q.stages - 1) = true) (h4 : q.ends.length ≤ 8) (h : ∀ e ∈ q.ends, okEnd q.stages q.birth e = true) : isF q = true := by
  have e : q.ends.all (okEnd q.stages q.birth) = true := List.all_eq_true.2 h
  simp [isF, h1, h2, h3, h4, e]

theorem okEnd_ab {s : Int} {bi : List Int} {a b t : Int} (h : allR [a, b] 0 ((bi.length : Int) - 1) = false) : okEnd s bi [a, b, t] = false := by
  simp only [allR, List.all_cons, List.all_nil, Bool.and_true, Bool.and_eq_false_iff] at h
  simp only [okEnd]
  rcases h with h | h <;> simp [h]
theorem SlI.caps {w : World} {B n c : Nat} {A : Option Addr} {l : List Int} (h : SlI w B (.slice A n c) l) : l.length ≤ c ∧ c ≤ 9223372036854775807 := by
  obtain ⟨A', c', e, h1, h2, _⟩ := h
  injection e with _ _ e
  subst e
  exact ⟨h1, h2⟩
/-- s[:k] -/
theorem SlI.front {w : World} {B n c k : Nat} {A : Option Addr} {l m : List Int} (h : SlI w B (.slice A n c) (l ++ m)) (hk : l.length = k := by rfl) : SlI w B (.slice A k c) l := by
  subst hk
  obtain ⟨A', c', e, h1, h2, h3, h4⟩ := h
  injection e with e1 _ e
  subst e1 e
  simp only [List.length_append] at h1 h3 h4
  refine ⟨A, c, rfl, by omega, h2, by omega, fun hp => ?_⟩
  obtain ⟨b, o, rfl, hb, hc⟩ := h4 (by omega)
  exact ⟨b, o, rfl, hb, fun j x hx => hc j x (by rw [List.getElem?_append_left (lt_of_some hx)]; exact hx)⟩

theorem okEnd_eq {s : Int} {bi : List Int} {a b t : Int} (h : a = b) : okEnd s bi [a, b, t] = false := by
  subst h
  simp [okEnd]

theorem max_if (x y : Int) : max x y = if y > x then y else x := by split <;> omega
theorem okEnd_go {s : Int} {bi : List Int} {i j : Nat} {t x y : Int} (h : allR [(i : Int), (j : Int)] 0 ((bi.length : Int) - 1) = true) (hij : (i : Int) ≠ j) (hx : bi[i]? = some x) (hy : bi[j]? = some y) : okEnd s bi [(i : Int), (j : Int), t] = inR t (max x y) (s - 1) := by
  simp only [allR, List.all_cons, List.all_nil, Bool.and_true, Bool.and_eq_true] at h
  have e : ((i : Int) != (j : Int)) = true := by rw [bne_iff_ne]; exact hij
  simp only [okEnd, h.1, h.2, e, Bool.and_true, Bool.true_and, Int.toNat_natCast, List.getD_eq_getElem?_getD, hx, hy, Option.getD_some]

set_option maxHeartbeats 800000 in
theorem implIsFiltration_any (u : Value) (q : Filt) (w : World) (hu : FiR w w.heap.size u q) :
    Calls Tryz.prog 12 #[u] w fun e w' => e = .returned (.bool (isF q)) ∧ Below w.heap.size w w' := by
  obtain ⟨A, c, C, d, rfl, hf, ht, hr, lf, lt⟩ := hu.open_
  clear hu
  obtain ⟨W, hW⟩ : ∃ W, W = w.alloc (.cells #[.int .i64 q.stages, .slice A q.birth.length c, .slice C q.ends.length d] 27) := ⟨_, rfl⟩
  have g0 : Below w.heap.size w W := by rw [hW]; exact below_alloc _ _
  have kB : Blk W w.heap.size 27 #[.int .i64 q.stages, .slice A q.birth.length c, .slice C q.ends.length d] := by rw [hW]; exact Blk.new _ _ _
  have c0 := kB.cell' (i := 0) rfl
  have c1 := kB.cell' (i := 1) rfl
  have c2 := kB.cell' (i := 2) rfl
  rcases h1 : inR q.stages 1 5 with _ | _
  · have hfin : Hid (isF q = false) := by show _ = _; simp [isF, h1]
    go_enter Tryz.func12, Tryz.ntmps12
    go_wp2_with fail
    rw [← hW]; clear hW
    refine (within_any _ _ _ _).mono ?_; rintro e w' ⟨rfl, rfl⟩
    rw [h1]
    go_wp2
    go_ret
    exact ⟨by rw [hfin.out]; rfl, g0⟩
  rcases h2 : inR q.birth.length 1 4 with _ | _
  · have hfin : Hid (isF q = false) := by show _ = _; simp [isF, h2]
    go_enter Tryz.func12, Tryz.ntmps12
    go_wp2_with fail
    rw [← hW]; clear hW
    refine (within_any _ _ _ _).mono ?_; rintro e w' ⟨rfl, rfl⟩
    rw [h1]
    go_wp2_with fail
    refine (within_any _ _ _ _).mono ?_; rintro e w' ⟨rfl, rfl⟩
    rw [h2]
    go_wp2
    go_ret
    exact ⟨by rw [hfin.out]; rfl, g0⟩
  have hs := inR_t.1 h1
  obtain ⟨hs1, hs2⟩ := hs
  have hn := inR_t.1 h2
  obtain ⟨hn1, hn2⟩ := hn
  obtain ⟨B3, hB3⟩ : ∃ B, allR q.birth 0 (q.stages - 1) = B := ⟨_, rfl⟩
  have HB3 := Lib.hid hB3
  clear hB3
  cases B3
  · have hfin : Hid (isF q = false) := by show _ = _; simp [isF, HB3.out]
    go_enter Tryz.func12, Tryz.ntmps12
    go_wp2_with fail
    rw [← hW]; clear hW
    refine (within_any _ _ _ _).mono ?_; rintro e w' ⟨rfl, rfl⟩
    rw [h1]
    go_wp2_with fail
    refine (within_any _ _ _ _).mono ?_; rintro e w' ⟨rfl, rfl⟩
    rw [h2]
    go_wp2_with fail
    refine (allWithin_any _ q.birth _ _ _ (SlI.next g0 hf)).mono ?_; rintro e w1 ⟨rfl, hb1⟩
    rw [HB3.out]
    go_wp2
    go_ret
    exact ⟨by rw [hfin.out]; rfl, bthen g0 hb1⟩
  by_cases h4 : (q.ends.length : Int) ≤ 8
  · go_enter Tryz.func12, Tryz.ntmps12
    go_wp2_with fail
    rw [← hW]; clear hW
    refine (within_any _ _ _ _).mono ?_; rintro e w' ⟨rfl, rfl⟩
    rw [h1]
    go_wp2_with fail
    refine (within_any _ _ _ _).mono ?_; rintro e w' ⟨rfl, rfl⟩
    rw [h2]
    go_wp2_with fail
    refine (allWithin_any _ q.birth _ _ _ (SlI.next g0 hf)).mono ?_; rintro e w1 ⟨rfl, hb1⟩
    rw [HB3.out]
    have d0 := (kB.call hb1).cell' (i := 0) rfl
    have d1 := (kB.call hb1).cell' (i := 1) rfl
    have d2 := (kB.call hb1).cell' (i := 2) rfl
    have k1 := kB.call hb1
    have g1 := bthen g0 hb1
    clear c0 c1 c2
    go_wp2
    go_loopw [34] (fun i wr => ∃ k : Nat, k ≤ q.ends.length ∧ i = .int .i64 k ∧ Below w.heap.size w wr ∧ Blk wr w.heap.size 27 #[.int .i64 q.stages, .slice A q.birth.length c, .slice C q.ends.length d] ∧ Hid (∀ e ∈ q.ends.take k, okEnd q.stages q.birth e = true)) (fun i _ => q.ends.length - (intOf i).toNat)
    case atStart => exact ⟨0, Nat.zero_le _, rfl, g1, k1, by intro y hy; simp at hy⟩
    case round =>
      clear g1 k1 d0 d1 d2 hb1 kB g0
      obtain ⟨k, hk, rfl, hbel, hkB, hok⟩ := hrel
      have e0 := hkB.cell' (i := 0) rfl
      have e1 := hkB.cell' (i := 1) rfl
      have e2 := hkB.cell' (i := 2) rfl
      by_cases hlt : k < q.ends.length
      · obtain ⟨b, o, l, A', c', rfl, hb, HL, x1, hl⟩ := SlII.at_ ht hlt
        have s := hbel.size
        have f0 := InB.cell hkB.lt e0
        have f1 := InB.cell hkB.lt e1
        have x2 := bcell hbel hb x1
        clear e0 e1 x1
        rcases endC l with hl3 | ⟨ea, eb, et, rfl⟩
        · have hne : ((l.length : Int) != 3) = true := by rw [bne_iff_ne]; omega
          have hfin : Hid (isF q = false) := isF_bad HL.out (okEnd_len hl3)
          clear hl3
          go_wp2
          (refine wp_region_inB (by kernel_rfl) (by kernel_rfl) ?_; (repeat (go_big_quiet_step (fail))); refine wpQuiet_nil ?_; intro w1 hw'; obtain ⟨s1, hw1⟩ := hw'; have hb1 := s1.below; rw [← hw1] at hb1; clear hw1 s1)
          go_wp2
          go_ret
          exact ⟨by rw [hfin.out]; rfl, hbel.trans (hb1.mono s)⟩
        · have hne : (((3 : Nat) : Int) != 3) = false := by decide
          obtain ⟨b', o', y0, rfl, hb', HY0, j0, _⟩ := SlI.at_ (k := 0) hl (by simp)
          obtain ⟨b2, o2, y1, E1, _, HY1, j1, _⟩ := SlI.at_ (k := 1) hl (by simp)
          obtain ⟨b3, o3, y2, E2, _, HY2, j2, _⟩ := SlI.at_ (k := 2) hl (by simp)
          have F1 := HY0.out
          have F2 := HY1.out
          have F3 := HY2.out
          simp only [List.getElem?_cons_zero, List.getElem?_cons_succ, Option.some.injEq] at F1 F2 F3 E1 E2
          injection E1 with E1a E1b
          injection E2 with E2a E2b
          subst F1 F2 F3 E1a E1b E2a E2b
          have j0' := InB.cell (w := wr) (by omega) (bcell hbel hb' j0)
          have j1' := InB.cell (w := wr) (by omega) (bcell hbel hb' j1)
          have j2' := InB.cell (w := wr) (by omega) (bcell hbel hb' j2)
          clear j0 j1 j2 HY0 HY1 HY2
          have hcut : SlI w w.heap.size (.slice (some ⟨b', o', none⟩) 2 c') [ea, eb] := SlI.front (l := [ea, eb]) (m := [et]) hl
          have hcap := SlI.caps hl
          have hcap1 : 3 ≤ c' := hcap.1
          have hcap2 := hcap.2
          simp only [List.length_cons, List.length_nil, Nat.zero_add, Nat.reduceAdd] at x2
          simp only [Nat.add_zero] at j0'
          have HC : Hid (∀ s : InB wr, SlI s.val s.val.heap.size (.slice (some ⟨b', o', none⟩) 2 c') [ea, eb]) := fun t => SlI.next t.below (SlI.more s (SlI.below hbel hcut))
          clear hl hcut hcap
          rcases hB1 : allR [ea, eb] 0 ((q.birth.length : Int) - 1) with _ | _
          · have hfin : Hid (isF q = false) := isF_bad HL.out (okEnd_ab hB1)
            have hB1' : (!allR [ea, eb] 0 ((q.birth.length : Int) - 1)) = true := by rw [hB1]; rfl
            go_wp2
            (refine wp_region_inB (by kernel_rfl) (by kernel_rfl) ?_; (repeat (go_big_quiet_step ((go_at_call 49; exact InB.call (allWithin_any _ [ea, eb] _ _ _ (HC.out _)))))); refine wpQuiet_nil ?_; intro w1 hw'; obtain ⟨s1, hw1⟩ := hw'; have hb1 := s1.below; rw [← hw1] at hb1; clear hw1 s1)
            go_wp2
            go_ret
            exact ⟨by rw [hfin.out]; rfl, hbel.trans (hb1.mono s)⟩
          · have hB1' : (!allR [ea, eb] 0 ((q.birth.length : Int) - 1)) = false := by rw [hB1]; rfl
            have hab := allR_t.1 hB1
            have ha := hab ea (by simp)
            have hb2 := hab eb (by simp)
            clear hab
            obtain ⟨i, rfl⟩ : ∃ i : Nat, ea = i := ⟨ea.toNat, by omega⟩
            obtain ⟨j, rfl⟩ : ∃ j : Nat, eb = j := ⟨eb.toNat, by omega⟩
            obtain ⟨bb, ob, x, rfl, hbb, HX, p1, _⟩ := SlI.at_ (k := i) hf (by omega)
            obtain ⟨bb2, ob2, y, E, _, HY, p2, _⟩ := SlI.at_ (k := j) hf (by omega)
            injection E with E
            injection E with E1 E2
            subst E1 E2
            have hi : i < q.birth.length := by omega
            have hj : j < q.birth.length := by omega
            have p1' := InB.cell (w := wr) (by omega) (bcell hbel hbb p1)
            have p2' := InB.cell (w := wr) (by omega) (bcell hbel hbb p2)
            clear p1 p2 ha hb2
            by_cases hij : i = j
            · have hij' : ((i : Int) == (j : Int)) = true := by rw [beq_iff_eq]; omega
              have hfin : Hid (isF q = false) := isF_bad HL.out (okEnd_eq (by omega))
              clear hij
              go_wp2
              (refine wp_region_inB (by kernel_rfl) (by kernel_rfl) ?_; (repeat (go_big_quiet_step ((go_at_call 49; exact InB.call (allWithin_any _ [(i : Int), (j : Int)] _ _ _ (HC.out _)))))); refine wpQuiet_nil ?_; intro w1 hw'; obtain ⟨s1, hw1⟩ := hw'; have hb1 := s1.below; rw [← hw1] at hb1; clear hw1 s1)
              go_wp2
              go_ret
              exact ⟨by rw [hfin.out]; rfl, hbel.trans (hb1.mono s)⟩
            · have hij' : ((i : Int) == (j : Int)) = false := by rw [beq_eq_false_iff_ne]; omega
              obtain ⟨M, hM⟩ : ∃ M, (if y > x then y else x) = M := ⟨_, rfl⟩
              obtain ⟨B2, hB2⟩ : ∃ B, inR et M (q.stages - 1) = B := ⟨_, rfl⟩
              have HF := Lib.hid (show okEnd q.stages q.birth [(i : Int), (j : Int), et] = B2 by rw [okEnd_go hB1 (by omega) HX.out HY.out, max_if, hM, hB2])
              clear hij
              cases B2
              · have hB2' : (!inR et M (q.stages - 1)) = true := by rw [hB2]; rfl
                have hfin : Hid (isF q = false) := isF_bad HL.out HF.out
                go_wp2
                (refine wp_region_inB (by kernel_rfl) (by kernel_rfl) ?_; (repeat (go_big_quiet_step (first | (go_at_call 49; exact InB.call (allWithin_any _ [(i : Int), (j : Int)] _ _ _ (HC.out _))) | (go_at_call 48; first | rw [hM] | skip; exact InB.call_same (within_any _ _ _ _))))); refine wpQuiet_nil ?_; intro w1 hw'; obtain ⟨s1, hw1⟩ := hw'; have hb1 := s1.below; rw [← hw1] at hb1; clear hw1 s1)
                go_wp2
                go_ret
                exact ⟨by rw [hfin.out]; rfl, hbel.trans (hb1.mono s)⟩
              · have hB2' : (!inR et M (q.stages - 1)) = false := by rw [hB2]; rfl
                have hst : Hid (∀ e ∈ q.ends.take (k + 1), okEnd q.stages q.birth e = true) := by
                  intro e he
                  rw [take_snoc HL.out, List.mem_append, List.mem_singleton] at he
                  rcases he with he | rfl
                  · exact hok.out e he
                  · exact HF.out
                go_wp2
                (refine wp_region_inB (by kernel_rfl) (by kernel_rfl) ?_; (repeat (go_big_quiet_step (first | (go_at_call 49; exact InB.call (allWithin_any _ [(i : Int), (j : Int)] _ _ _ (HC.out _))) | (go_at_call 48; first | rw [hM] | skip; exact InB.call_same (within_any _ _ _ _))))); refine wpQuiet_nil ?_; intro w1 hw'; obtain ⟨s1, hw1⟩ := hw'; have hb1 := s1.below; rw [← hw1] at hb1; clear hw1 s1)
                go_wp2
                go_roundw
                case rel => exact ⟨k + 1, by omega, by go_num, hbel.trans (hb1.mono s), hkB.call hb1, hst.out⟩
                case measure => simp [intOf]; omega
      · have hfin : Hid (isF q = true) := isF_good h1 h2 HB3.out (by omega) (by have := hok.out; rwa [List.take_of_length_le (by omega)] at this)
        go_wp2
        go_ret
        exact ⟨by rw [hfin.out]; rfl, hbel⟩
  · have h4' : (8 : Int) < q.ends.length := by omega
    have hfin : Hid (isF q = false) := by
      show _ = _
      have : decide (q.ends.length ≤ 8) = false := by simp; omega
      simp [isF, this]
    clear h4
    go_enter Tryz.func12, Tryz.ntmps12
    go_wp2_with fail
    rw [← hW]; clear hW
    refine (within_any _ _ _ _).mono ?_; rintro e w' ⟨rfl, rfl⟩
    rw [h1]
    go_wp2_with fail
    refine (within_any _ _ _ _).mono ?_; rintro e w' ⟨rfl, rfl⟩
    rw [h2]
    go_wp2_with fail
    refine (allWithin_any _ q.birth _ _ _ (SlI.next g0 hf)).mono ?_; rintro e w1 ⟨rfl, hb1⟩
    rw [HB3.out]
    have d2 := (kB.call hb1).cell' (i := 2) rfl
    clear c0 c1 c2
    go_wp2
    go_ret
    exact ⟨by rw [hfin.out]; rfl, bthen g0 hb1⟩

def InB.on {w W : World} (hb : Below w.heap.size w W) (t : InB W) : InB w := ⟨t.val, bthen hb t.2⟩
theorem InB.on_val {w W : World} (hb : Below w.heap.size w W) (t : InB W) : (InB.on hb t).val = t.val := rfl
theorem okEnd_a {s : Int} {bi : List Int} {a b t : Int} (h : inR a 0 ((bi.length : Int) - 1) = false) : okEnd s bi [a, b, t] = false := by simp [okEnd, h]
theorem okEnd_b {s : Int} {bi : List Int} {a b t : Int} (h : inR b 0 ((bi.length : Int) - 1) = false) : okEnd s bi [a, b, t] = false := by simp [okEnd, h]
theorem isF_birth {q : Filt} {k : Nat} {x : Int} (hx : q.birth[k]? = some x) (h : inR x 0 (q.stages - 1) = false) : isF q = false := by
  have : allR q.birth 0 (q.stages - 1) = false := by
    unfold allR
    rw [List.all_eq_false]
    exact ⟨x, List.mem_of_getElem? hx, by simp [h]⟩
  simp [isF, this]
set_option maxHeartbeats 3200000 in
set_option maxRecDepth 20000 in
theorem specIsFiltration_any (u : Value) (q : Filt) (w : World) (hu : FiR w w.heap.size u q) :
    Calls Tryz.prog 38 #[u] w fun e w' => e = .returned (.bool (isF q)) ∧ Below w.heap.size w w' := by
  obtain ⟨A, c, C, d, rfl, hf, ht, hr, lf, lt⟩ := hu.open_
  clear hu
  obtain ⟨W, hW⟩ : ∃ W, W = w.alloc (.cells #[.int .i64 q.stages, .slice A q.birth.length c, .slice C q.ends.length d] 27) := ⟨_, rfl⟩
  have g0 : Below w.heap.size w W := by rw [hW]; exact below_alloc _ _
  have kB : Blk W w.heap.size 27 #[.int .i64 q.stages, .slice A q.birth.length c, .slice C q.ends.length d] := by rw [hW]; exact Blk.new _ _ _
  have c0 := kB.cell' (i := 0) rfl
  have c1 := kB.cell' (i := 1) rfl
  have c2 := kB.cell' (i := 2) rfl
  rcases h1 : inR q.stages 1 5 with _ | _
  · have hfin : Hid (isF q = false) := by show _ = _; simp [isF, h1]
    go_enter Tryz.func38, Tryz.ntmps38
    go_wp2_with fail
    rw [← hW]; clear hW
    refine (l1In_any _ _ _ _).mono ?_; rintro e w' ⟨rfl, rfl⟩
    rw [h1]
    go_wp2
    go_ret
    exact ⟨by rw [hfin.out]; rfl, g0⟩
  rcases h2 : inR q.birth.length 1 4 with _ | _
  · have hfin : Hid (isF q = false) := by show _ = _; simp [isF, h2]
    go_enter Tryz.func38, Tryz.ntmps38
    go_wp2_with fail
    rw [← hW]; clear hW
    refine (l1In_any _ _ _ _).mono ?_; rintro e w' ⟨rfl, rfl⟩
    rw [h1]
    go_wp2_with fail
    refine (l1In_any _ _ _ _).mono ?_; rintro e w' ⟨rfl, rfl⟩
    rw [h2]
    go_wp2
    go_ret
    exact ⟨by rw [hfin.out]; rfl, g0⟩
  have hs := inR_t.1 h1
  obtain ⟨hs1, hs2⟩ := hs
  have hn := inR_t.1 h2
  obtain ⟨hn1, hn2⟩ := hn
  by_cases h4 : (q.ends.length : Int) ≤ 8
  · have h4' : ¬ (8 : Int) < q.ends.length := by omega
    go_enter Tryz.func38, Tryz.ntmps38
    go_wp2_with fail
    rw [← hW]; clear hW
    refine (l1In_any _ _ _ _).mono ?_; rintro e w' ⟨rfl, rfl⟩
    rw [h1]
    go_wp2_with fail
    refine (l1In_any _ _ _ _).mono ?_; rintro e w' ⟨rfl, rfl⟩
    rw [h2]
    go_wp2
    go_loopw [3] (fun i wr => ∃ k : Nat, k ≤ q.birth.length ∧ i = .int .i64 k ∧ Below w.heap.size w wr ∧ Blk wr w.heap.size 27 #[.int .i64 q.stages, .slice A q.birth.length c, .slice C q.ends.length d] ∧ Hid (∀ x ∈ q.birth.take k, inR x 0 (q.stages - 1) = true)) (fun i _ => q.birth.length - (intOf i).toNat)
    case atStart => exact ⟨0, Nat.zero_le _, rfl, g0, kB, by intro y hy; simp at hy⟩
    case round =>
      clear g0 kB c0 c1 c2
      obtain ⟨k, hk, rfl, hbel, hkB, hok⟩ := hrel
      have e0 := hkB.cell' (i := 0) rfl
      have e1 := hkB.cell' (i := 1) rfl
      have e2 := hkB.cell' (i := 2) rfl
      have s := hbel.size
      by_cases hlt : k < q.birth.length
      · obtain ⟨b, o, x, rfl, hb, HX, x1, _⟩ := SlI.at_ hf hlt
        have f0 := InB.cell hkB.lt e0
        have f1 := InB.cell hkB.lt e1
        have f2 := InB.cell (w := wr) (by omega) (bcell hbel hb x1)
        clear e0 x1
        rcases hB1 : inR x 0 (q.stages - 1) with _ | _
        · have hfin : Hid (isF q = false) := isF_birth HX.out hB1
          go_wp2
          (refine wp_region_inB (by kernel_rfl) (by kernel_rfl) ?_; (repeat (go_big_quiet_step ((go_at_call 55; exact InB.call_same (l1In_any _ _ _ _))))); refine wpQuiet_nil ?_; intro w1 hw'; obtain ⟨s1, hw1⟩ := hw'; have hb1 := s1.below; rw [← hw1] at hb1; clear hw1 s1)
          go_wp2
          go_ret
          exact ⟨by rw [hfin.out]; rfl, hbel.trans (hb1.mono s)⟩
        · go_wp2
          (refine wp_region_inB (by kernel_rfl) (by kernel_rfl) ?_; (repeat (go_big_quiet_step ((go_at_call 55; exact InB.call_same (l1In_any _ _ _ _))))); refine wpQuiet_nil ?_; intro w1 hw'; obtain ⟨s1, hw1⟩ := hw'; have hb1 := s1.below; rw [← hw1] at hb1; clear hw1 s1)
          go_wp2
          go_roundw
          case rel =>
            refine ⟨k + 1, by omega, by go_num, hbel.trans (hb1.mono s), hkB.call hb1, fun y hy => ?_⟩
            rw [take_snoc HX.out, List.mem_append, List.mem_singleton] at hy
            rcases hy with hy | rfl
            · exact hok.out y hy
            · exact hB1
          case measure => simp [intOf]; omega
      · have HB3 : Hid (allR q.birth 0 (q.stages - 1) = true) := by
          have h := hok.out
          rw [List.take_of_length_le (by omega)] at h
          exact List.all_eq_true.2 h
        clear hok
        go_wp2
        have hbel0 := hbel
        have hkB0 := hkB
        clear hbel hkB e0 e1 e2 hlt hk

        go_loopw [4] (fun i wr => ∃ k : Nat, k ≤ q.ends.length ∧ i = .int .i64 k ∧ Below w.heap.size w wr ∧ Blk wr w.heap.size 27 #[.int .i64 q.stages, .slice A q.birth.length c, .slice C q.ends.length d] ∧ Hid (∀ e ∈ q.ends.take k, okEnd q.stages q.birth e = true)) (fun i _ => q.ends.length - (intOf i).toNat)
        case atStart => exact ⟨0, Nat.zero_le _, rfl, hbel0, hkB0, by intro y hy; simp at hy⟩
        case round =>
          clear hbel0 hkB0
          obtain ⟨k, hk, rfl, hbel, hkB, hok⟩ := hrel
          have e0 := hkB.cell' (i := 0) rfl
          have e1 := hkB.cell' (i := 1) rfl
          have e2 := hkB.cell' (i := 2) rfl
          by_cases hlt : k < q.ends.length
          · obtain ⟨b, o, l, A', c', rfl, hb, HL, x1, hl⟩ := SlII.at_ ht hlt
            have s := hbel.size
            have f0 := InB.cell hkB.lt e0
            have f1 := InB.cell hkB.lt e1
            have f2 := InB.cell hkB.lt e2
            have x2 := InB.cell (w := wr) (by omega) (bcell hbel hb x1)
            clear e0 e1 x1
            rcases endC l with hl3 | ⟨ea, eb, et, rfl⟩
            · have hne : ((l.length : Int) != 3) = true := by rw [bne_iff_ne]; omega
              have hfin : Hid (isF q = false) := isF_bad HL.out (okEnd_len hl3)
              clear hl3
              go_wp2
              (refine wp_region_inB (by kernel_rfl) (by kernel_rfl) ?_; (repeat (go_big_quiet_step (fail))); refine wpQuiet_nil ?_; intro w1 hw'; obtain ⟨s1, hw1⟩ := hw'; have hb1 := s1.below; rw [← hw1] at hb1; clear hw1 s1)
              go_wp2
              go_ret
              exact ⟨by rw [hfin.out]; rfl, hbel.trans (hb1.mono s)⟩
            · have hne : (((3 : Nat) : Int) != 3) = false := by decide
              obtain ⟨b', o', y0, rfl, hb', HY0, j0, _⟩ := SlI.at_ (k := 0) hl (by simp)
              obtain ⟨b2, o2, y1, E1, _, HY1, j1, _⟩ := SlI.at_ (k := 1) hl (by simp)
              obtain ⟨b3, o3, y2, E2, _, HY2, j2, _⟩ := SlI.at_ (k := 2) hl (by simp)
              have F1 := HY0.out
              have F2 := HY1.out
              have F3 := HY2.out
              simp only [List.getElem?_cons_zero, List.getElem?_cons_succ, Option.some.injEq] at F1 F2 F3 E1 E2
              injection E1 with E1a E1b
              injection E2 with E2a E2b
              subst F1 F2 F3 E1a E1b E2a E2b
              have j0' := InB.cell (w := wr) (by omega) (bcell hbel hb' j0)
              have j1' := InB.cell (w := wr) (by omega) (bcell hbel hb' j1)
              have j2' := InB.cell (w := wr) (by omega) (bcell hbel hb' j2)
              clear j0 j1 j2 HY0 HY1 HY2 hl
              simp only [List.length_cons, List.length_nil, Nat.zero_add, Nat.reduceAdd] at x2
              simp only [Nat.add_zero] at j0'
              rcases hBa : inR ea 0 ((q.birth.length : Int) - 1) with _ | _
              · have hfin : Hid (isF q = false) := isF_bad HL.out (okEnd_a hBa)
                go_wp2
                (refine wp_region_inB (by kernel_rfl) (by kernel_rfl) ?_; (repeat (go_big_quiet_step ((go_at_call 55; exact InB.call_same (l1In_any _ _ _ _))))); refine wpQuiet_nil ?_; intro w1 hw'; obtain ⟨s1, hw1⟩ := hw'; have hb1 := s1.below; rw [← hw1] at hb1; clear hw1 s1)
                go_wp2
                go_ret
                exact ⟨by rw [hfin.out]; rfl, hbel.trans (hb1.mono s)⟩
              rcases hBb : inR eb 0 ((q.birth.length : Int) - 1) with _ | _
              · have hfin : Hid (isF q = false) := isF_bad HL.out (okEnd_b hBb)
                go_wp2
                (refine wp_region_inB (by kernel_rfl) (by kernel_rfl) ?_; (repeat (go_big_quiet_step ((go_at_call 55; exact InB.call_same (l1In_any _ _ _ _))))); refine wpQuiet_nil ?_; intro w1 hw'; obtain ⟨s1, hw1⟩ := hw'; have hb1 := s1.below; rw [← hw1] at hb1; clear hw1 s1)
                go_wp2
                go_ret
                exact ⟨by rw [hfin.out]; rfl, hbel.trans (hb1.mono s)⟩
              have ha := inR_t.1 hBa
              have hb2 := inR_t.1 hBb
              obtain ⟨i, rfl⟩ : ∃ i : Nat, ea = i := ⟨ea.toNat, by omega⟩
              obtain ⟨j, rfl⟩ : ∃ j : Nat, eb = j := ⟨eb.toNat, by omega⟩
              have hBab : Hid (allR [(i : Int), (j : Int)] 0 ((q.birth.length : Int) - 1) = true) := by show _ = _; simp [allR, hBa, hBb]
              obtain ⟨bb, ob, x, rfl, hbb, HX, p1, _⟩ := SlI.at_ (k := i) hf (by omega)
              obtain ⟨bb2, ob2, y, E, _, HY, p2, _⟩ := SlI.at_ (k := j) hf (by omega)
              injection E with E
              injection E with E1 E2
              subst E1 E2
              have hi : i < q.birth.length := by omega
              have hj : j < q.birth.length := by omega
              have p1' := InB.cell (w := wr) (by omega) (bcell hbel hbb p1)
              have p2' := InB.cell (w := wr) (by omega) (bcell hbel hbb p2)
              clear p1 p2 ha hb2
              by_cases hij : i = j
              · have hij' : ((i : Int) == (j : Int)) = true := by rw [beq_iff_eq]; omega
                have hfin : Hid (isF q = false) := isF_bad HL.out (okEnd_eq (by omega))
                clear hij
                go_wp2
                (refine wp_region_inB (by kernel_rfl) (by kernel_rfl) ?_; (repeat (go_big_quiet_step ((go_at_call 55; exact InB.call_same (l1In_any _ _ _ _))))); refine wpQuiet_nil ?_; intro w1 hw'; obtain ⟨s1, hw1⟩ := hw'; have hb1 := s1.below; rw [← hw1] at hb1; clear hw1 s1)
                go_wp2
                go_ret
                exact ⟨by rw [hfin.out]; rfl, hbel.trans (hb1.mono s)⟩
              · have hij' : ((i : Int) == (j : Int)) = false := by rw [beq_eq_false_iff_ne]; omega
                obtain ⟨M, hM⟩ : ∃ M, (if y > x then y else x) = M := ⟨_, rfl⟩
                obtain ⟨B2, hB2⟩ : ∃ B, inR et M (q.stages - 1) = B := ⟨_, rfl⟩
                have HF := Lib.hid (show okEnd q.stages q.birth [(i : Int), (j : Int), et] = B2 by rw [okEnd_go hBab.out (by omega) HX.out HY.out, max_if, hM, hB2])
                clear hij
                cases B2
                · have hfin : Hid (isF q = false) := isF_bad HL.out HF.out
                  go_wp2
                  (refine wp_region_inB (by kernel_rfl) (by kernel_rfl) ?_; (repeat (go_big_quiet_step ((go_at_call 55; exact InB.call_same (l1In_any _ _ _ _))))); refine wpQuiet_nil ?_; intro w1 hw'; obtain ⟨s1, hw1⟩ := hw'; have hb1 := s1.below; rw [← hw1] at hb1; clear hw1 s1)
                  go_wp2
                  have hbA := hb1
                  have r0 := fun t => f0 (InB.on hbA t)
                  have r1 := fun t => f1 (InB.on hbA t)
                  have r2 := fun t => f2 (InB.on hbA t)
                  have r3 := fun t => x2 (InB.on hbA t)
                  have r4 := fun t => j0' (InB.on hbA t)
                  have r5 := fun t => j1' (InB.on hbA t)
                  have r6 := fun t => j2' (InB.on hbA t)
                  have r7 := fun t => p1' (InB.on hbA t)
                  have r8 := fun t => p2' (InB.on hbA t)
                  simp only [InB.on_val] at r0 r1 r2 r3 r4 r5 r6 r7 r8
                  have gA := hbel.trans (hbA.mono s)
                  have kA := hkB.call hbA
                  clear f0 f1 f2 x2 j0' j1' j2' p1' p2' hb1 e2 hbel hkB
                  (refine wp_region_inB (by kernel_rfl) (by kernel_rfl) ?_; (repeat (go_big_quiet_step ((go_at_call 55; first | rw [hM] | skip; exact InB.call_same (l1In_any _ _ _ _))))); refine wpQuiet_nil ?_; intro w1 hw'; obtain ⟨s1, hw1⟩ := hw'; have hb1 := s1.below; rw [← hw1] at hb1; clear hw1 s1)
                  go_wp2
                  go_ret
                  exact ⟨by rw [hfin.out]; rfl, gA.trans (hb1.mono gA.size)⟩
                · have hst : Hid (∀ e ∈ q.ends.take (k + 1), okEnd q.stages q.birth e = true) := by
                    intro e he
                    rw [take_snoc HL.out, List.mem_append, List.mem_singleton] at he
                    rcases he with he | rfl
                    · exact hok.out e he
                    · exact HF.out
                  go_wp2
                  (refine wp_region_inB (by kernel_rfl) (by kernel_rfl) ?_; (repeat (go_big_quiet_step ((go_at_call 55; exact InB.call_same (l1In_any _ _ _ _))))); refine wpQuiet_nil ?_; intro w1 hw'; obtain ⟨s1, hw1⟩ := hw'; have hb1 := s1.below; rw [← hw1] at hb1; clear hw1 s1)
                  go_wp2
                  have hbA := hb1
                  have r0 := fun t => f0 (InB.on hbA t)
                  have r1 := fun t => f1 (InB.on hbA t)
                  have r2 := fun t => f2 (InB.on hbA t)
                  have r3 := fun t => x2 (InB.on hbA t)
                  have r4 := fun t => j0' (InB.on hbA t)
                  have r5 := fun t => j1' (InB.on hbA t)
                  have r6 := fun t => j2' (InB.on hbA t)
                  have r7 := fun t => p1' (InB.on hbA t)
                  have r8 := fun t => p2' (InB.on hbA t)
                  simp only [InB.on_val] at r0 r1 r2 r3 r4 r5 r6 r7 r8
                  have gA := hbel.trans (hbA.mono s)
                  have kA := hkB.call hbA
                  clear f0 f1 f2 x2 j0' j1' j2' p1' p2' hb1 e2 hbel hkB
                  (refine wp_region_inB (by kernel_rfl) (by kernel_rfl) ?_; (repeat (go_big_quiet_step ((go_at_call 55; first | rw [hM] | skip; exact InB.call_same (l1In_any _ _ _ _))))); refine wpQuiet_nil ?_; intro w1 hw'; obtain ⟨s1, hw1⟩ := hw'; have hb1 := s1.below; rw [← hw1] at hb1; clear hw1 s1)
                  go_wp2
                  go_roundw
                  case rel => exact ⟨k + 1, by omega, by go_num, gA.trans (hb1.mono gA.size), kA.call hb1, hst.out⟩
                  case measure => simp [intOf]; omega
          · have hfin : Hid (isF q = true) := isF_good h1 h2 HB3.out (by omega) (by have := hok.out; rwa [List.take_of_length_le (by omega)] at this)
            go_wp2
            go_ret
            exact ⟨by rw [hfin.out]; rfl, hbel⟩
  · have h4' : (8 : Int) < q.ends.length := by omega
    have hfin : Hid (isF q = false) := by
      show _ = _
      have : decide (q.ends.length ≤ 8) = false := by simp; omega
      simp [isF, this]
    clear h4
    go_enter Tryz.func38, Tryz.ntmps38
    go_wp2_with fail
    rw [← hW]; clear hW
    refine (l1In_any _ _ _ _).mono ?_; rintro e w' ⟨rfl, rfl⟩
    rw [h1]
    go_wp2_with fail
    refine (l1In_any _ _ _ _).mono ?_; rintro e w' ⟨rfl, rfl⟩
    rw [h2]
    go_wp2
    go_ret
    exact ⟨by rw [hfin.out]; rfl, g0⟩
end Go.Proofs.YtgabmemalaklbaaGreat

/- The two ComponentsAt. -/
namespace Go.Proofs.YtgabmemalaklbaaGreat
set_option linter.unusedVariables false
set_option linter.unusedSimpArgs false
open Go.RowKit

theorem isF_end {q : Filt} {k : Nat} {l : List Int} (h : isF q = true) (hl : q.ends[k]? = some l) : ∃ (i j : Nat) (s : Int), l = [(i : Int), (j : Int), s] ∧ i < q.birth.length ∧ j < q.birth.length := by
  simp only [isF, Bool.and_eq_true] at h
  have h2 := List.all_eq_true.1 h.2 l (List.mem_of_getElem? hl)
  match l, h2 with
  | [a, b, s], h2 =>
    simp only [okEnd, Bool.and_eq_true, inR_t] at h2
    obtain ⟨⟨⟨⟨h1, h3⟩, h4, h5⟩, _⟩, _⟩ := h2
    exact ⟨a.toNat, b.toNat, s, by rw [Int.toNat_of_nonneg h1, Int.toNat_of_nonneg h4], by omega, by omega⟩
theorem isF_lens {q : Filt} (h : isF q = true) : 1 ≤ q.birth.length ∧ q.birth.length ≤ 4 ∧ q.ends.length ≤ 8 ∧ 1 ≤ q.stages ∧ q.stages ≤ 5 := by
  simp only [isF, Bool.and_eq_true, inR_t, decide_eq_true_eq] at h
  omega

/-- the points of a stage -/
def comp0 (bi : List Int) (t : Int) : List Int := (List.range bi.length).map fun i => if t < bi.getD i 0 then -1 else (i : Int)
def stepE (t : Int) (out : List Int) (e : List Int) : List Int :=
  match e with
  | [a, b, s] => if s ≤ t then (out.set a.toNat (min (out.getD a.toNat 0) (out.getD b.toNat 0))).set b.toNat (min (out.getD a.toNat 0) (out.getD b.toNat 0)) else out
  | _ => out
def rndE (t : Int) (ends : List (List Int)) (out : List Int) : List Int := ends.foldl (stepE t) out
def itN (f : List Int → List Int) (x : List Int) : Nat → List Int
  | 0 => x
  | n + 1 => f (itN f x n)
def compQ (q : Filt) (t : Int) : List Int := itN (rndE t q.ends) (comp0 q.birth t) q.birth.length
def compsQ (q : Filt) (t : Int) : List Int := if isF q && inR t 0 (q.stages - 1) then compQ q t else []
theorem stepE_length (t : Int) (out e : List Int) : (stepE t out e).length = out.length := by
  unfold stepE
  split
  · split <;> simp
  · rfl
/-- behind k points of the first loop -/
def compTo (bi : List Int) (t : Int) (k : Nat) : List Int := (comp0 bi t).take k ++ List.replicate (bi.length - k) 0
theorem comp0_length (bi : List Int) (t : Int) : (comp0 bi t).length = bi.length := by simp [comp0]
theorem comp0_get {bi : List Int} {t x : Int} {k : Nat} (hx : bi[k]? = some x) : (comp0 bi t)[k]? = some (if t < x then -1 else (k : Int)) := by
  have hk := lt_of_some hx
  have e : bi[k] = x := by rw [List.getElem?_eq_getElem hk] at hx; injection hx
  simp [comp0, hk, e]
theorem compTo_step {bi : List Int} {t x : Int} {k : Nat} (hx : bi[k]? = some x) : (compTo bi t k).set k (if t < x then -1 else (k : Int)) = compTo bi t (k + 1) := by
  have hk := lt_of_some hx
  have hl : ((comp0 bi t).take k).length = k := by simp [comp0_length]; omega
  rw [compTo, compTo, take_snoc (comp0_get hx), List.set_append_right _ _ (by omega), hl, Nat.sub_self]
  rw [show bi.length - k = (bi.length - (k + 1)) + 1 by omega, List.replicate_succ]
  simp
theorem compTo_length (bi : List Int) (t : Int) (k : Nat) (hk : k ≤ bi.length) : (compTo bi t k).length = bi.length := by
  simp [compTo, comp0_length]; omega
theorem foldE_length (t : Int) : ∀ (ends : List (List Int)) (out : List Int), (ends.foldl (stepE t) out).length = out.length
  | [], _ => rfl
  | e :: r, out => by rw [List.foldl_cons, foldE_length t r, stepE_length]
theorem itN_length (t : Int) (ends : List (List Int)) (x : List Int) : ∀ n, (itN (rndE t ends) x n).length = x.length
  | 0 => rfl
  | n + 1 => by rw [itN, rndE, foldE_length, itN_length t ends x n]
theorem fold_snoc {t : Int} {ends : List (List Int)} {k : Nat} {l out : List Int} (hl : ends[k]? = some l) : (ends.take (k + 1)).foldl (stepE t) out = stepE t ((ends.take k).foldl (stepE t) out) l := by
  rw [take_snoc hl, List.foldl_append]; rfl

set_option maxHeartbeats 800000 in
theorem components_any (u : Value) (q : Filt) (t : Int) (w : World) (hu : FiR w w.heap.size u q) (hq : isF q = true) :
    Calls Tryz.prog 33 #[u, .int .i64 t] w fun e w' => ∃ v, e = .returned v ∧ IntsO w' w.heap.size w'.heap.size v (compQ q t) ∧ Below w.heap.size w w' := by
  obtain ⟨A, c, C, d, rfl, hf, hT, hr, lf, lt⟩ := hu.open_
  clear hu
  obtain ⟨hl1, hl2, hl3, hl4, hl5⟩ := isF_lens hq
  obtain ⟨W, hW⟩ : ∃ W, W = w.alloc (.cells #[.int .i64 q.stages, .slice A q.birth.length c, .slice C q.ends.length d] 27) := ⟨_, rfl⟩
  have g0 : Below w.heap.size w W := by rw [hW]; exact below_alloc _ _
  have kB : Blk W w.heap.size 27 #[.int .i64 q.stages, .slice A q.birth.length c, .slice C q.ends.length d] := by rw [hW]; exact Blk.new _ _ _
  have c1 := kB.cell' (i := 1) rfl
  have c2 := kB.cell' (i := 2) rfl
  obtain ⟨i0, hi, hz0, hz1, hz2⟩ := info_parts infoInt
  have hmk := run_mk (P := Tryz.prog) Tryz.underlying24 hi hz0 (n := q.birth.length) (by rw [hz2]; omega) (by omega)
  rw [hz1] at hmk
  clear hi hz0 hz1 hz2
  have kB2 := kB.call (below_alloc W (.cells (mkCells (.int .i64 0) q.birth.length) 3))
  have g2 := bthen g0 (below_alloc W (.cells (mkCells (.int .i64 0) q.birth.length) 3))
  have ho2 := OwnI.made0 (w := W) (base := w.heap.size) (N := q.birth.length) g0.size lf
  have zW : W.heap.size = w.heap.size + 1 := by rw [hW]; simp
  rw [zW] at ho2
  clear zW
  obtain ⟨W2, hW2⟩ : ∃ W2, W2 = W.alloc (.cells (mkCells (.int .i64 0) q.birth.length) 3) := ⟨_, rfl⟩
  rw [← hW2] at kB2 g2 ho2
  rw [hW] at hW2
  clear kB c1 c2 g0 hW W
  go_enter Tryz.func33, Tryz.ntmps33
  go_wp2
  rw [← hW2]; clear hW2
  have hlen0 := compTo_length q.birth t
  go_loopw [18] (fun i wr => ∃ k : Nat, k ≤ q.birth.length ∧ i = .int .i64 k ∧ OwnI wr w.heap.size (.slice (some ⟨w.heap.size + 1, 0, none⟩) q.birth.length q.birth.length) (compTo q.birth t k) ∧ Below w.heap.size w wr ∧ Blk wr w.heap.size 27 #[.int .i64 q.stages, .slice A q.birth.length c, .slice C q.ends.length d]) (fun i _ => q.birth.length - (intOf i).toNat)
  case atStart => exact ⟨0, Nat.zero_le _, rfl, by simpa [compTo] using ho2, g2, kB2⟩
  case round =>
    clear ho2 g2 kB2 hmk
    obtain ⟨k, hk, rfl, hown, hbel, hkB⟩ := hrel
    have e1 := hkB.cell' (i := 1) rfl
    have e2 := hkB.cell' (i := 2) rfl
    by_cases hlt : k < q.birth.length
    · obtain ⟨b, o, x, rfl, hb, HX, x1, _⟩ := SlI.at_ hf hlt
      have x2 := bcell hbel hb x1
      have hcl := Lib.hid (hlen0 k (by omega))
      obtain ⟨cc, _⟩ := hown.cellG (j := k) (by rw [hcl.out]; exact hlt)
      have fz := hown.frozenG k
      have hp := (hown.put (j := k) (x := (k : Int)) ⟨by omega, by omega⟩)
      have hg1 := hbel.grown hp.2 (by have := hbel.size; omega) (fun j hj => by injection hj with hj; omega)
      have hk1 := hkB.grown hp.2 (by simp)
      clear x1
      by_cases hxt : t < x
      · have hst := compTo_step (t := t) HX.out
        rw [if_pos hxt] at hst
        have HST := Lib.hid hst
        have hp2 := (hp.1.put (j := k) (x := (-1 : Int)) ⟨by omega, by omega⟩)
        rw [List.set_set, HST.out] at hp2
        have hg2 := hg1.grown hp2.2 (by have := hg1.size; omega) (fun j hj => by injection hj with hj; omega)
        have hk2 := hk1.grown hp2.2 (by simp)
        have hpo := hp2.1
        clear hp hp2 hst hg1 hk1 hown hbel hkB hlen0
        go_wp2
        go_roundw
        case rel => exact ⟨k + 1, by omega, by go_num, hpo, hg2, hk2⟩
        case measure => simp [intOf]; omega
      · have hst := compTo_step (t := t) HX.out
        rw [if_neg hxt] at hst
        have HST := Lib.hid hst
        have hpo := hp.1
        rw [HST.out] at hpo
        clear hp hst hown hbel hkB hlen0
        go_wp2
        go_roundw
        case rel => exact ⟨k + 1, by omega, by go_num, hpo, hg1, hk1⟩
        case measure => simp [intOf]; omega
    · have hend : compTo q.birth t k = itN (rndE t q.ends) (comp0 q.birth t) 0 := by
        rw [compTo, show q.birth.length - k = 0 by omega, List.take_of_length_le (by rw [comp0_length]; omega)]
        simp [itN]
      rw [hend] at hown
      go_wp2
      clear hlt hlen0 hend
      have hown0 := hown
      have hbel0 := hbel
      have hkB0 := hkB
      clear hown hbel hkB e1 e2 hk
      have hlen1 := Lib.hid (fun n => itN_length t q.ends (comp0 q.birth t) n)
      go_loopw [36] (fun i wr => ∃ k : Nat, k ≤ q.birth.length ∧ i = .int .i64 k ∧ OwnI wr w.heap.size (.slice (some ⟨w.heap.size + 1, 0, none⟩) q.birth.length q.birth.length) (itN (rndE t q.ends) (comp0 q.birth t) k) ∧ Below w.heap.size w wr ∧ Blk wr w.heap.size 27 #[.int .i64 q.stages, .slice A q.birth.length c, .slice C q.ends.length d]) (fun i _ => q.birth.length - (intOf i).toNat)
      case atStart => exact ⟨0, Nat.zero_le _, rfl, hown0, hbel0, hkB0⟩
      case round =>
        clear hown0 hbel0 hkB0
        obtain ⟨k, hk, rfl, hown, hbel, hkB⟩ := hrel
        have e1 := hkB.cell' (i := 1) rfl
        have e2 := hkB.cell' (i := 2) rfl
        by_cases hlt : k < q.birth.length
        · have hLX := Lib.hid ((hlen1.out k).trans (comp0_length q.birth t))
          obtain ⟨X, hX⟩ : ∃ X, itN (rndE t q.ends) (comp0 q.birth t) k = X := ⟨_, rfl⟩
          rw [hX] at hown hLX
          have HX := Lib.hid hX
          clear hX
          go_wp2
          have hown1 := hown
          have hbel1 := hbel
          have hkB1 := hkB
          clear hown hbel hkB e1 e2
          go_loopw [41] (fun i wr => ∃ m : Nat, m ≤ q.ends.length ∧ i = .int .i64 m ∧ OwnI wr w.heap.size (.slice (some ⟨w.heap.size + 1, 0, none⟩) q.birth.length q.birth.length) ((q.ends.take m).foldl (stepE t) X) ∧ Below w.heap.size w wr ∧ Blk wr w.heap.size 27 #[.int .i64 q.stages, .slice A q.birth.length c, .slice C q.ends.length d]) (fun i _ => q.ends.length - (intOf i).toNat)
          case atStart => exact ⟨0, Nat.zero_le _, rfl, hown1, hbel1, hkB1⟩
          case round =>
            clear hown1 hbel1 hkB1
            obtain ⟨m, hm, rfl, hown, hbel, hkB⟩ := hrel
            have e1 := hkB.cell' (i := 1) rfl
            have e2 := hkB.cell' (i := 2) rfl
            by_cases hltm : m < q.ends.length
            · obtain ⟨b, o, l, A', c', rfl, hb, HL, x1, hl⟩ := SlII.at_ hT hltm
              obtain ⟨i, j, et, rfl, hi, hj⟩ := isF_end hq HL.out
              have x2 := bcell hbel hb x1
              obtain ⟨b', o', y0, rfl, hb', HY0, j0, _⟩ := SlI.at_ (k := 0) hl (by simp)
              obtain ⟨b2, o2, y1, E1, _, HY1, j1, _⟩ := SlI.at_ (k := 1) hl (by simp)
              obtain ⟨b3, o3, y2, E2, _, HY2, j2, _⟩ := SlI.at_ (k := 2) hl (by simp)
              have F1 := HY0.out
              have F2 := HY1.out
              have F3 := HY2.out
              simp only [List.getElem?_cons_zero, List.getElem?_cons_succ, Option.some.injEq] at F1 F2 F3 E1 E2
              injection E1 with E1a E1b
              injection E2 with E2a E2b
              subst F1 F2 F3 E1a E1b E2a E2b
              have j0' := bcell hbel hb' j0
              have j1' := bcell hbel hb' j1
              have j2' := bcell hbel hb' j2
              clear j0 j1 j2 HY0 HY1 HY2 x1 hl
              simp only [List.length_cons, List.length_nil, Nat.zero_add, Nat.reduceAdd] at x2
              simp only [Nat.add_zero] at j0'
              have hs := fold_snoc (t := t) (out := X) HL.out
              obtain ⟨Y, hY⟩ : ∃ Y, (q.ends.take m).foldl (stepE t) X = Y := ⟨_, rfl⟩
              have hLY : Hid (Y.length = q.birth.length) := by show _ = _; rw [← hY, foldE_length, hLX.out]
              rw [hY] at hs hown
              clear hY
              obtain ⟨ci, ri⟩ := hown.cellG (j := i) (by rw [hLY.out]; exact hi)
              obtain ⟨cj, rj⟩ := hown.cellG (j := j) (by rw [hLY.out]; exact hj)
              have fi := hown.frozenG i
              have fj := hown.frozenG j
              by_cases het : et ≤ t
              · simp only [stepE, if_pos het, Int.toNat_natCast] at hs
                obtain ⟨x, hx⟩ : ∃ x, Y.getD i 0 = x := ⟨_, rfl⟩
                obtain ⟨y, hy⟩ : ∃ y, Y.getD j 0 = y := ⟨_, rfl⟩
                rw [hx] at ci ri hs
                rw [hy] at cj rj hs
                obtain ⟨M, hM⟩ : ∃ M, (if y < x then y else x) = M := ⟨_, rfl⟩
                have hmM : min x y = M := by rw [← hM]; split <;> omega
                rw [hmM] at hs
                have hrM : I64 M := by rw [← hM]; split <;> assumption
                have HS := Lib.hid hs
                clear hx hy hmM hs
                go_wp2_with fail
                go_quiet (fail)
                obtain ⟨Wq, hWq⟩ : ∃ Wq, Wq = wr.drewN nq := ⟨_, rfl⟩
                rw [← hWq]
                have hownq : OwnI Wq w.heap.size (.slice (some ⟨w.heap.size + 1, 0, none⟩) q.birth.length q.birth.length) Y := by rw [hWq]; exact hown.drewN nq
                have hbelq : Below w.heap.size w Wq := by rw [hWq]; exact below_drewN hbel nq
                have hkq : Blk Wq w.heap.size 27 #[.int .i64 q.stages, .slice A q.birth.length c, .slice (some ⟨b, o, none⟩) q.ends.length d] := by rw [hWq]; exact hkB.drewN nq
                have k0 : Wq.cell? ⟨b', o', none⟩ = some (.int .i64 i) := by rw [hWq]; exact j0'
                have k1 : Wq.cell? ⟨b', o' + 1, none⟩ = some (.int .i64 j) := by rw [hWq]; exact j1'
                have ci' := hownq.cellG (j := i) (by rw [hLY.out]; exact hi)
                have cj' := hownq.cellG (j := j) (by rw [hLY.out]; exact hj)
                have fi' := hownq.frozenG i
                have fj' := hownq.frozenG j
                have di := ci'.1
                have dj := cj'.1
                have hp := hownq.put (j := i) hrM
                have dj2 := (hp.1.cellG (j := j) (by rw [List.length_set, hLY.out]; exact hj)).1
                have fj2 := hp.1.frozenG j
                have hmo : Tryz.prog.follows .mixedOrders = true := by kernel_rfl
                have hp2 := hp.1.put (j := j) hrM
                have hg1 := hbelq.grown hp.2 (by have := hbelq.size; omega) (fun j hj => by injection hj with hj; omega)
                have hg2 := hg1.grown hp2.2 (by have := hg1.size; omega) (fun j hj => by injection hj with hj; omega)
                have hk2 := (hkq.grown hp.2 (by simp)).grown hp2.2 (by simp)
                rw [← HS.out] at hp2
                have HPO := Lib.hid hp2.1
                have HG2 := Lib.hid hg2
                have HK2 := Lib.hid hk2
                clear hp hp2 hg1 hg2 hk2 hownq hkq hbelq ci' cj' fi fj ci cj j0' j1' j2' hWq hown hkB e1 e2 hM
                go_wp2_with fail
                go_region_o
                go_wp2
                go_roundw
                case rel => exact ⟨m + 1, by omega, by go_num, HPO.out.drewN 1, below_drewN HG2.out 1, HK2.out.drewN 1⟩
                case measure => simp [intOf]; omega
              · have het' : t < et := by omega
                simp only [stepE, if_neg het] at hs
                rw [← hs] at hown
                clear hs
                go_wp2
                go_roundw
                case rel => exact ⟨m + 1, by omega, by go_num, hown, hbel, hkB⟩
                case measure => simp [intOf]; omega
            · have hst : Hid (itN (rndE t q.ends) (comp0 q.birth t) (k + 1) = (q.ends.take m).foldl (stepE t) X) := by
                show _ = _
                rw [itN, HX.out, rndE, List.take_of_length_le (by omega)]
              rw [← hst.out] at hown
              go_wp2
              go_roundw
              case rel => exact ⟨k + 1, by omega, by go_num, hown, hbel, hkB⟩
              case measure => simp [intOf]; omega
        · have hst : Hid (compQ q t = itN (rndE t q.ends) (comp0 q.birth t) k) := by show _ = _; rw [compQ, show q.birth.length = k by omega]
          rw [← hst.out] at hown
          go_wp2
          exact bodyPost_ret (v := .slice (some ⟨w.heap.size + 1, 0, none⟩) q.birth.length q.birth.length) (by simp [results, go_sem]) rfl ⟨_, rfl, IntsO.of_own hown, hbel⟩

set_option maxHeartbeats 400000 in
theorem hasStage_any (u : Value) (q : Filt) (t : Int) (w : World) (hu : FiR w w.heap.size u q) :
    Calls Tryz.prog 53 #[u, .int .i64 t] w fun e w' => e = .returned (.bool (isF q && inR t 0 (q.stages - 1))) ∧ Below w.heap.size w w' := by
  obtain ⟨A, c, C, d, rfl, hf, hT, hr, lf, lt⟩ := hu.open_
  obtain ⟨W, hW⟩ : ∃ W, W = w.alloc (.cells #[.int .i64 q.stages, .slice A q.birth.length c, .slice C q.ends.length d] 27) := ⟨_, rfl⟩
  have g0 : Below w.heap.size w W := by rw [hW]; exact below_alloc _ _
  have kB : Blk W w.heap.size 27 #[.int .i64 q.stages, .slice A q.birth.length c, .slice C q.ends.length d] := by rw [hW]; exact Blk.new _ _ _
  have c0 := kB.cell' (i := 0) rfl
  have c1 := kB.cell' (i := 1) rfl
  have c2 := kB.cell' (i := 2) rfl
  have h0 := FiR.next g0 hu
  clear hu
  rcases hq : isF q with _ | _
  · go_enter Tryz.func53, Tryz.ntmps53
    go_wp2_with fail
    rw [← hW]; clear hW
    refine (implIsFiltration_any _ _ _ h0).mono ?_; rintro e w1 ⟨rfl, hb1⟩
    rw [hq]
    go_wp2
    go_ret
    exact ⟨rfl, bthen g0 hb1⟩
  · have hs := isF_lens hq
    obtain ⟨_, _, _, hs1, hs2⟩ := hs
    go_enter Tryz.func53, Tryz.ntmps53
    go_wp2_with fail
    rw [← hW]; clear hW
    refine (implIsFiltration_any _ _ _ h0).mono ?_; rintro e w1 ⟨rfl, hb1⟩
    rw [hq]
    have d0 := (kB.call hb1).cell' (i := 0) rfl
    clear c0 c1 c2
    go_wp2_with fail
    refine (within_any _ _ _ _).mono ?_; rintro e w' ⟨rfl, rfl⟩
    go_wp2
    go_ret
    exact ⟨by simp, bthen g0 hb1⟩

set_option maxHeartbeats 400000 in
theorem implComponentsAt_any (u : Value) (q : Filt) (t : Int) (w : World) (hu : FiR w w.heap.size u q) (_ : I64 t) :
    Calls Tryz.prog 15 #[u, .int .i64 t] w fun e w' => ∃ v, e = .returned v ∧ IntsO w' w.heap.size w'.heap.size v (compsQ q t) ∧ Below w.heap.size w w' := by
  have hu' := hu
  obtain ⟨A, c, C, d, rfl, hf, hT, hr, lf, lt⟩ := hu.open_
  obtain ⟨W, hW⟩ : ∃ W, W = w.alloc (.cells #[.int .i64 q.stages, .slice A q.birth.length c, .slice C q.ends.length d] 27) := ⟨_, rfl⟩
  have g0 : Below w.heap.size w W := by rw [hW]; exact below_alloc _ _
  have kB : Blk W w.heap.size 27 #[.int .i64 q.stages, .slice A q.birth.length c, .slice C q.ends.length d] := by rw [hW]; exact Blk.new _ _ _
  have c0 := kB.cell' (i := 0) rfl
  have c1 := kB.cell' (i := 1) rfl
  have c2 := kB.cell' (i := 2) rfl
  have h0 := FiR.next g0 hu'
  clear hu hu' hf hT
  obtain ⟨B, hB⟩ : ∃ B, (isF q && inR t 0 (q.stages - 1)) = B := ⟨_, rfl⟩
  have HB := Lib.hid hB
  clear hB
  cases B
  · have HC : Hid (compsQ q t = []) := by show _ = _; rw [compsQ, HB.out]; rfl
    go_enter Tryz.func15, Tryz.ntmps15
    go_wp2_with fail
    rw [← hW]; clear hW
    refine (hasStage_any _ _ _ _ h0).mono ?_; rintro e w1 ⟨rfl, hb1⟩
    rw [HB.out]
    go_wp2
    exact bodyPost_ret (v := .slice none 0 0) (by simp [results, go_sem]) rfl ⟨_, rfl, by rw [HC.out]; exact ⟨OwnI.nil _ _, fun k hk => by simp [Value.ownBlock] at hk⟩, bthen g0 hb1⟩
  · have HC : Hid (compsQ q t = compQ q t) := by show _ = _; rw [compsQ, HB.out]; rfl
    have hq := HB.out
    rw [Bool.and_eq_true] at hq
    have hq := hq.1
    go_enter Tryz.func15, Tryz.ntmps15
    go_wp2_with fail
    rw [← hW]; clear hW
    refine (hasStage_any _ _ _ _ h0).mono ?_; rintro e w1 ⟨rfl, hb1⟩
    rw [HB.out]
    have d0 := (kB.call hb1).cell' (i := 0) rfl
    have d1 := (kB.call hb1).cell' (i := 1) rfl
    have d2 := (kB.call hb1).cell' (i := 2) rfl
    clear c0 c1 c2
    have h1 := FiR.next hb1 h0
    go_wp2_with fail
    refine (components_any _ _ _ _ h1 hq).mono ?_; rintro e w2 ⟨v, rfl, ho, hb2⟩
    go_wp2
    have g1 := bthen g0 hb1
    exact bodyPost_ret (v := v) (by simp [results, go_sem]) rfl ⟨_, rfl, by rw [HC.out]; exact ho.wider g1.size (Nat.le_refl _), bthen g1 hb2⟩
end Go.Proofs.YtgabmemalaklbaaGreat

/- The labels of components: each that is not -1 is its own label. Plain. -/
namespace Go.Proofs.YtgabmemalaklbaaGreat
set_option linter.unusedVariables false
set_option linter.unusedSimpArgs false
open Go.RowKit

/-! ### What the labels are -/
/-- an edge of the stage t, either way -/
def adjE (t : Int) (ends : List (List Int)) (i j : Nat) : Prop := ∃ a b s, [a, b, s] ∈ ends ∧ s ≤ t ∧ ((i = a.toNat ∧ j = b.toNat) ∨ (i = b.toNat ∧ j = a.toNat))
/-- a walk's points behind i -/
def isW (t : Int) (ends : List (List Int)) : Nat → List Nat → Nat → Prop
  | i, [], j => i = j
  | i, k :: r, j => adjE t ends i k ∧ isW t ends k r j
theorem adjE_symm {t : Int} {ends : List (List Int)} {i j : Nat} (h : adjE t ends i j) : adjE t ends j i := by
  obtain ⟨a, b, s, hm, hs, h⟩ := h
  exact ⟨a, b, s, hm, hs, h.elim (fun h => .inr ⟨h.2, h.1⟩) fun h => .inl ⟨h.2, h.1⟩⟩
theorem isW_trans {t : Int} {ends : List (List Int)} : ∀ {l : List Nat} {i j k : Nat} {m : List Nat}, isW t ends i l j → isW t ends j m k → isW t ends i (l ++ m) k
  | [], i, j, k, m, h, h2 => by subst h; exact h2
  | x :: r, i, j, k, m, h, h2 => ⟨h.1, isW_trans h.2 h2⟩
theorem isW_symm {t : Int} {ends : List (List Int)} : ∀ {l : List Nat} {i j : Nat}, isW t ends i l j → ∃ m, isW t ends j m i
  | [], i, j, h => ⟨[], h.symm⟩
  | x :: r, i, j, h => by
    obtain ⟨m, hm⟩ := isW_symm h.2
    exact ⟨m ++ [i], isW_trans hm ⟨adjE_symm h.1, rfl⟩⟩
/-- the walk from a point of it on -/
theorem isW_drop {t : Int} {ends : List (List Int)} : ∀ {l : List Nat} {i j k : Nat}, isW t ends i l j → k ∈ l → ∃ m, isW t ends k m j ∧ m.length < l.length ∧ ∀ x ∈ m, x ∈ l
  | x :: r, i, j, k, h, hk => by
    rcases List.mem_cons.1 hk with rfl | hk
    · exact ⟨r, h.2, by simp, fun x hx => List.mem_cons_of_mem _ hx⟩
    · obtain ⟨m, h1, h2, h3⟩ := isW_drop h.2 hk
      exact ⟨m, h1, by simp; omega, fun y hy => List.mem_cons_of_mem _ (h3 y hy)⟩
/-- a walk that meets no point twice -/
theorem isW_short {t : Int} {ends : List (List Int)} : ∀ (n : Nat) {l : List Nat} {i j : Nat}, l.length ≤ n → isW t ends i l j → ∃ m, isW t ends i m j ∧ (i :: m).Nodup ∧ ∀ x ∈ m, x ∈ l
  | n, [], i, j, _, h => ⟨[], h, by simp, by simp⟩
  | 0, x :: r, i, j, hn, h => by simp at hn
  | n + 1, x :: r, i, j, hn, h => by
    by_cases hi : i ∈ x :: r
    · obtain ⟨m, h1, h2, h3⟩ := isW_drop h hi
      obtain ⟨m', h4, h5, h6⟩ := isW_short n (by omega) h1
      exact ⟨m', h4, h5, fun y hy => h3 y (h6 y hy)⟩
    · obtain ⟨m, h4, h5, h6⟩ := isW_short n (by simpa using hn) h.2
      refine ⟨x :: m, ⟨h.1, h4⟩, List.nodup_cons.2 ⟨fun hm => hi ?_, h5⟩, fun y hy => ?_⟩
      · rcases List.mem_cons.1 hm with rfl | hm
        · simp
        · exact List.mem_cons_of_mem _ (h6 _ hm)
      · rcases List.mem_cons.1 hy with rfl | hy
        · simp
        · exact List.mem_cons_of_mem _ (h6 _ hy)
theorem nodup_len : ∀ (n : Nat) (l : List Nat), l.Nodup → (∀ x ∈ l, x < n) → l.length ≤ n
  | 0, l, _, h => by
    cases l with
    | nil => simp
    | cons a r => exact absurd (h a (by simp)) (by omega)
  | n + 1, l, hd, h => by
    have h1 : (l.erase n).length ≤ n := nodup_len n _ (hd.erase n) fun x hx => by
      have h2 := h x (List.mem_of_mem_erase hx)
      have h3 : x ≠ n := fun e => by subst e; exact absurd hx (by rw [List.Nodup.mem_erase_iff hd]; simp)
      omega
    rw [List.length_erase] at h1
    split at h1 <;> omega
theorem adjE_lt {t : Int} {q : Filt} (hq : isF q = true) {i j : Nat} (h : adjE t q.ends i j) : i < q.birth.length ∧ j < q.birth.length ∧ q.birth.getD i 0 ≤ t ∧ q.birth.getD j 0 ≤ t := by
  obtain ⟨a, b, s, hm, hs, h⟩ := h
  simp only [isF, Bool.and_eq_true] at hq
  have h2 := List.all_eq_true.1 hq.2 _ hm
  simp only [okEnd, Bool.and_eq_true, inR_t] at h2
  obtain ⟨⟨⟨⟨h1, h3⟩, h4, h5⟩, _⟩, h6, _⟩ := h2
  rcases h with ⟨rfl, rfl⟩ | ⟨rfl, rfl⟩ <;> omega
theorem isW_lt {t : Int} {q : Filt} (hq : isF q = true) : ∀ {l : List Nat} {i j : Nat}, isW t q.ends i l j → ∀ x ∈ l, x < q.birth.length
  | [], _, _, _, x, hx => by simp at hx
  | y :: r, i, j, h, x, hx => by
    rcases List.mem_cons.1 hx with rfl | hx
    · exact (adjE_lt hq h.1).2.1
    · exact isW_lt hq h.2 x hx

/-! Values, told by place. -/
def gt (l : List Int) (i : Nat) : Int := l.getD i 0
theorem gt_set (l : List Int) (i j : Nat) (x : Int) (h : i < l.length) : gt (l.set i x) j = if i = j then x else gt l j := by
  unfold gt
  rw [List.getD_eq_getElem?_getD, List.getElem?_set, List.getD_eq_getElem?_getD]
  split
  · subst_vars; simp
  · rfl
/-- one edge: the two ends get the least, all else stays -/
theorem stepE_gt {t : Int} {q : Filt} (hq : isF q = true) {e : List Int} (he : e ∈ q.ends) {c : List Int} (hc : c.length = q.birth.length) :
    (∀ i, gt (stepE t c e) i ≤ gt c i) ∧ (∀ a b s, e = [a, b, s] → s ≤ t → gt (stepE t c e) a.toNat ≤ gt c b.toNat ∧ gt (stepE t c e) b.toNat ≤ gt c a.toNat) ∧
    (∀ i, gt (stepE t c e) i = gt c i ∨ ∃ j, adjE t q.ends i j ∧ gt (stepE t c e) i = gt c j) := by
  have hq' := hq
  simp only [isF, Bool.and_eq_true] at hq'
  have h2 := List.all_eq_true.1 hq'.2 _ he
  match e, h2 with
  | [a, b, s], h2 =>
    simp only [okEnd, Bool.and_eq_true, inR_t] at h2
    obtain ⟨⟨⟨⟨h1, h3⟩, h4, h5⟩, _⟩, _⟩ := h2
    have ha : a.toNat < c.length := by omega
    have hb : b.toNat < c.length := by omega
    by_cases hs : s ≤ t
    · have E : ∀ i, gt (stepE t c [a, b, s]) i = if b.toNat = i then min (gt c a.toNat) (gt c b.toNat) else if a.toNat = i then min (gt c a.toNat) (gt c b.toNat) else gt c i := by
        intro i
        simp only [stepE, if_pos hs]
        rw [gt_set _ _ _ _ (by simpa using hb), gt_set _ _ _ _ ha]
        rfl
      refine ⟨fun i => ?_, fun a' b' s' e' _ => ?_, fun i => ?_⟩
      · rw [E]; split
        · subst_vars; omega
        · split
          · subst_vars; omega
          · omega
      · injection e' with e1 e2; injection e2 with e2 e3; subst e1 e2
        rw [E, E]
        constructor
        · split
          · omega
          · rw [if_pos rfl]; omega
        · rw [if_pos rfl]; omega
      · rw [E]
        have ab : adjE t q.ends a.toNat b.toNat := ⟨a, b, s, he, hs, .inl ⟨rfl, rfl⟩⟩
        rcases Int.le_total (gt c a.toNat) (gt c b.toNat) with hm | hm
        · rw [Int.min_eq_left hm]
          split
          · subst_vars; exact .inr ⟨_, adjE_symm ab, rfl⟩
          · split
            · subst_vars; exact .inl rfl
            · exact .inl rfl
        · rw [Int.min_eq_right hm]
          split
          · subst_vars; exact .inl rfl
          · split
            · subst_vars; exact .inr ⟨_, ab, rfl⟩
            · exact .inl rfl
    · have E : stepE t c [a, b, s] = c := by simp only [stepE, if_neg hs]
      rw [E]
      refine ⟨fun i => by omega, fun a' b' s' e' h' => ?_, fun i => .inl rfl⟩
      injection e' with e1 e2; injection e2 with e2 e3; injection e3 with e3; omega
  | [], h2 | [_], h2 | [_, _], h2 | _ :: _ :: _ :: _ :: _, h2 => simp [okEnd] at h2
/-- one round, over part of the edges -/
theorem fold_gt {t : Int} {q : Filt} (hq : isF q = true) : ∀ (es : List (List Int)) (c : List Int), (∀ e ∈ es, e ∈ q.ends) → c.length = q.birth.length →
    (∀ i, gt (es.foldl (stepE t) c) i ≤ gt c i) ∧ (∀ a b s, [a, b, s] ∈ es → s ≤ t → gt (es.foldl (stepE t) c) a.toNat ≤ gt c b.toNat ∧ gt (es.foldl (stepE t) c) b.toNat ≤ gt c a.toNat) ∧
    (∀ i, ∃ l j, isW t q.ends i l j ∧ gt (es.foldl (stepE t) c) i = gt c j)
  | [], c, _, _ => ⟨fun i => by simp, fun a b s h => by simp at h, fun i => ⟨[], i, rfl, rfl⟩⟩
  | e :: r, c, h, hc => by
    obtain ⟨s1, s2, s3⟩ := stepE_gt hq (t := t) (h e (by simp)) hc
    obtain ⟨f1, f2, f3⟩ := fold_gt hq r (stepE t c e) (fun e' he => h e' (by simp [he])) (by rw [stepE_length]; exact hc)
    rw [List.foldl_cons]
    refine ⟨fun i => Int.le_trans (f1 i) (s1 i), fun a b s hm hs => ?_, fun i => ?_⟩
    · rcases List.mem_cons.1 hm with rfl | hm
      · obtain ⟨x, y⟩ := s2 a b s rfl hs
        exact ⟨Int.le_trans (f1 _) x, Int.le_trans (f1 _) y⟩
      · obtain ⟨x, y⟩ := f2 a b s hm hs
        exact ⟨Int.le_trans x (s1 _), Int.le_trans y (s1 _)⟩
    · obtain ⟨l, j, hw, hv⟩ := f3 i
      rcases s3 j with e1 | ⟨k, hk, e1⟩
      · exact ⟨l, j, hw, by rw [hv, e1]⟩
      · exact ⟨l ++ [k], k, isW_trans hw ⟨hk, rfl⟩, by rw [hv, e1]⟩
/-- behind n rounds -/
theorem it_gt {t : Int} {q : Filt} (hq : isF q = true) (c : List Int) (hc : c.length = q.birth.length) : ∀ n,
    (∀ i, gt (itN (rndE t q.ends) c n) i ≤ gt c i) ∧ (∀ i l j, isW t q.ends i l j → l.length ≤ n → gt (itN (rndE t q.ends) c n) i ≤ gt c j) ∧
    (∀ i, ∃ l j, isW t q.ends i l j ∧ gt (itN (rndE t q.ends) c n) i = gt c j)
  | 0 => ⟨fun i => by simp [itN], fun i l j hw hl => by
      have : l = [] := List.eq_nil_of_length_eq_zero (by omega)
      subst this; obtain rfl := hw; simp [itN], fun i => ⟨[], i, rfl, rfl⟩⟩
  | n + 1 => by
    obtain ⟨i1, i2, i3⟩ := it_gt hq c hc n
    obtain ⟨f1, f2, f3⟩ := fold_gt hq (t := t) q.ends (itN (rndE t q.ends) c n) (fun _ h => h) (by rw [itN_length]; exact hc)
    simp only [itN]
    refine ⟨fun i => Int.le_trans (f1 i) (i1 i), fun i l j hw hl => ?_, fun i => ?_⟩
    · cases l with
      | nil => obtain rfl := hw; exact Int.le_trans (f1 _) (i1 _)
      | cons k r =>
        obtain ⟨⟨a, b, s, hm, hs, h⟩, hr⟩ := hw
        have h4 := i2 k r j hr (by simpa using hl)
        obtain ⟨x, y⟩ := f2 a b s hm hs
        rcases h with ⟨rfl, rfl⟩ | ⟨rfl, rfl⟩
        · exact Int.le_trans x h4
        · exact Int.le_trans y h4
    · obtain ⟨l, j, hw, hv⟩ := f3 i
      obtain ⟨m, k, hw2, hv2⟩ := i3 j
      exact ⟨l ++ m, k, isW_trans hw hw2, by rw [show rndE t q.ends _ = _ from rfl, rndE, hv, hv2]⟩
theorem comp0_gt (bi : List Int) (t : Int) (i : Nat) (hi : i < bi.length) : gt (comp0 bi t) i = if t < bi.getD i 0 then -1 else (i : Int) := by
  have : (comp0 bi t)[i]? = some (if t < bi.getD i 0 then -1 else (i : Int)) := by simp [comp0, hi]
  rw [gt, List.getD_eq_getElem?_getD, this]; rfl
/-- **Each label that is not -1 is its own label.** -/
theorem compQ_root {q : Filt} {t : Int} (hq : isF q = true) {i : Nat} (hi : i < q.birth.length) : (gt (compQ q t) i = -1 ∧ t < q.birth.getD i 0) ∨ (q.birth.getD i 0 ≤ t ∧ ∃ l : Nat, gt (compQ q t) i = l ∧ l ≤ i ∧ gt (compQ q t) l = l) := by
  have key : ∀ i, i < q.birth.length → ∃ l j, isW t q.ends i l j ∧ j < q.birth.length ∧ gt (compQ q t) i = if t < q.birth.getD j 0 then -1 else (j : Int) := by
    intro i hi
    obtain ⟨h1, h2, h3⟩ := it_gt hq (t := t) (comp0 q.birth t) (comp0_length _ _) q.birth.length
    obtain ⟨l, j, hw, hv⟩ := h3 i
    have hj : j < q.birth.length := by
      cases l with
      | nil => obtain rfl := hw; exact hi
      | cons k r =>
        obtain ⟨m, hm⟩ := isW_symm hw
        cases m with
        | nil => obtain rfl := hm; exact hi
        | cons k' r' => exact (adjE_lt hq hm.1).1
    exact ⟨l, j, hw, hj, by rw [compQ, hv, comp0_gt _ _ _ hj]⟩
  have alive : ∀ i l j, isW t q.ends i l j → (q.birth.getD i 0 ≤ t ↔ q.birth.getD j 0 ≤ t) := by
    intro i l j hw
    cases l with
    | nil => obtain rfl := hw; rfl
    | cons k r =>
      obtain ⟨m, hm⟩ := isW_symm hw
      cases m with
      | nil => obtain rfl := hm; rfl
      | cons k' r' => exact ⟨fun _ => (adjE_lt hq hm.1).2.2.1, fun _ => (adjE_lt hq hw.1).2.2.1⟩
  have up : ∀ i l j, i < q.birth.length → isW t q.ends i l j → gt (compQ q t) i ≤ gt (comp0 q.birth t) j := by
    intro i l j hi hw
    obtain ⟨m, h1, h2, h3⟩ := isW_short l.length (Nat.le_refl _) hw
    have h4 := nodup_len q.birth.length (i :: m) h2 fun x hx => by
      rcases List.mem_cons.1 hx with rfl | hx
      · exact hi
      · exact isW_lt hq h1 x hx
    exact (it_gt hq (t := t) (comp0 q.birth t) (comp0_length _ _) q.birth.length).2.1 i m j h1 (by simp at h4; omega)
  by_cases ht : t < q.birth.getD i 0
  · obtain ⟨l, j, hw, hj, hv⟩ := key i hi
    have := alive i l j hw
    exact .inl ⟨by rw [hv, if_pos (by omega)], ht⟩
  · refine .inr ⟨by omega, ?_⟩
    obtain ⟨l, j, hw, hj, hv⟩ := key i hi
    have ha := alive i l j hw
    have hjt : ¬ t < q.birth.getD j 0 := by omega
    rw [if_neg hjt] at hv
    obtain ⟨l2, k, hw2, hk, hv2⟩ := key j hj
    have ha2 := alive j l2 k hw2
    have hkt : ¬ t < q.birth.getD k 0 := by omega
    rw [if_neg hkt] at hv2
    have u1 := up j [] j hj rfl
    rw [comp0_gt _ _ _ hj, if_neg hjt] at u1
    have u2 := up i _ k hi (isW_trans hw hw2)
    rw [comp0_gt _ _ _ hk, if_neg hkt] at u2
    have u3 := up i [] i hi rfl
    rw [comp0_gt _ _ _ hi, if_neg ht] at u3
    exact ⟨j, hv, by omega, by omega⟩

/-! ### Lists without repeats, in order -/
def asc (l : List Int) : Prop := l.Pairwise (· < ·)
theorem asc_ext : ∀ {a b : List Int}, asc a → asc b → (∀ x, x ∈ a ↔ x ∈ b) → a = b
  | [], [], _, _, _ => rfl
  | [], y :: s, _, _, h => absurd ((h y).2 (by simp)) (by simp)
  | x :: r, [], _, _, h => absurd ((h x).1 (by simp)) (by simp)
  | x :: r, y :: s, ha, hb, h => by
    obtain ⟨ha1, ha2⟩ := List.pairwise_cons.1 ha
    obtain ⟨hb1, hb2⟩ := List.pairwise_cons.1 hb
    have hxy : x = y := by
      rcases List.mem_cons.1 ((h x).1 (by simp)) with e | hx
      · exact e
      · rcases List.mem_cons.1 ((h y).2 (by simp)) with e | hy
        · exact e.symm
        · have := ha1 y hy; have := hb1 x hx; omega
    subst hxy
    rw [asc_ext ha2 hb2 fun z => ?_]
    constructor
    · intro hz
      rcases List.mem_cons.1 ((h z).1 (by simp [hz])) with e | h2
      · subst e; have := ha1 z hz; omega
      · exact h2
    · intro hz
      rcases List.mem_cons.1 ((h z).2 (by simp [hz])) with e | h2
      · subst e; have := hb1 z hz; omega
      · exact h2
/-- the labels that are their own, in order -/
def rootsC (c : List Int) : List Int := ((List.range c.length).filter fun i => decide (c.getD i 0 = (i : Int))).map fun i : Nat => (i : Int)
theorem rootsC_asc (c : List Int) : asc (rootsC c) := by
  unfold rootsC asc
  rw [List.pairwise_map]
  exact (List.Pairwise.filter _ List.pairwise_lt_range).imp fun h => by omega
theorem rootsC_mem (c : List Int) (x : Int) : x ∈ rootsC c ↔ ∃ i : Nat, x = i ∧ i < c.length ∧ c.getD i 0 = (i : Int) := by
  simp only [rootsC, List.mem_map, List.mem_filter, List.mem_range, decide_eq_true_eq]
  constructor
  · rintro ⟨i, ⟨h1, h2⟩, rfl⟩; exact ⟨i, rfl, h1, h2⟩
  · rintro ⟨i, rfl, h1, h2⟩; exact ⟨i, ⟨h1, h2⟩, rfl⟩
theorem compQ_length (q : Filt) (t : Int) : (compQ q t).length = q.birth.length := by rw [compQ, itN_length, comp0_length]
theorem compQ_vals {q : Filt} {t : Int} (hq : isF q = true) (x : Int) : (x ∈ compQ q t ∧ 0 ≤ x) ↔ x ∈ rootsC (compQ q t) := by
  rw [rootsC_mem]
  constructor
  · rintro ⟨hx, h0⟩
    obtain ⟨i, hi⟩ := List.mem_iff_getElem?.1 hx
    have hil : i < (compQ q t).length := (List.getElem?_eq_some_iff.1 hi).1
    have hg : gt (compQ q t) i = x := by rw [gt, List.getD_eq_getElem?_getD, hi]; rfl
    rw [compQ_length] at hil
    rcases compQ_root hq hil (t := t) with ⟨h1, _⟩ | ⟨_, l, h1, h2, h3⟩
    · omega
    · exact ⟨l, by omega, by rw [compQ_length]; omega, h3⟩
  · rintro ⟨i, rfl, h1, h2⟩
    refine ⟨List.mem_iff_getElem?.2 ⟨i, ?_⟩, by omega⟩
    rw [List.getD_eq_getElem?_getD, List.getElem?_eq_getElem h1] at h2
    rw [List.getElem?_eq_getElem h1]
    exact congrArg some h2
/-- a list in order, each number once, the negative ones left out: the roots -/
theorem leasts_eq {q : Filt} {t : Int} (hq : isF q = true) {l : List Int} (ha : asc l) (hm : ∀ x, x ∈ l ↔ x ∈ compQ q t ∧ 0 ≤ x) : l = rootsC (compQ q t) :=
  asc_ext ha (rootsC_asc _) fun x => (hm x).trans (compQ_vals hq x)
end Go.Proofs.YtgabmemalaklbaaGreat

/- Number vectors of quivers: areNumbers, l18Vector, hasVertex, l21Loop. -/
namespace Go.Proofs.YtgabmemalaklbaaGreat
set_option linter.unusedVariables false
set_option linter.unusedSimpArgs false
open Go.RowKit

def isNum (q : Qv) (x : List Int) : Bool := isQ q && decide ((x.length : Int) = q.v) && allR x (-100) 100
/-- whether an arrow leads from v to v -/
def loopQ (q : Qv) (v : Int) : Bool := (q.f.zip q.t).any fun p => p.1 == v && p.2 == v
end Go.Proofs.YtgabmemalaklbaaGreat

/- The symmetric form of a quiver. -/
namespace Go.Proofs.YtgabmemalaklbaaGreat
set_option linter.unusedVariables false
set_option linter.unusedSimpArgs false
open Go.RowKit

/-- arrows from a to b among the first k -/
def arr (q : Qv) (a b k : Nat) : Nat := ((q.f.zip q.t).take k).countP fun p => p.1 == (a : Int) && p.2 == (b : Int)
def ent (q : Qv) (k a b : Nat) : Int := (if a = b then 2 else 0) - arr q a b k - arr q b a k
def symM (q : Qv) : List (List Int) := matF q.v.toNat (ent q q.f.length)
theorem arr_zero (q : Qv) (a b : Nat) : arr q a b 0 = 0 := by simp [arr]
theorem arr_succ {q : Qv} {k a b x y : Nat} (hx : q.f[k]? = some (x : Int)) (hy : q.t[k]? = some (y : Int)) : arr q a b (k + 1) = arr q a b k + if x = a ∧ y = b then 1 else 0 := by
  have e : (q.f.zip q.t)[k]? = some ((x : Int), (y : Int)) := by rw [List.getElem?_zip_eq_some]; exact ⟨hx, hy⟩
  rw [arr, take_snoc e, List.countP_append, arr]
  congr 1
  rw [List.countP_singleton]
  by_cases h : x = a ∧ y = b
  · rw [if_pos h, if_pos (by simp [h.1, h.2])]
  · rw [if_neg h, if_neg]
    simp only [Bool.and_eq_true, beq_iff_eq]
    omega
theorem ent_zero (q : Qv) (a b : Nat) : ent q 0 a b = if a = b then 2 else 0 := by simp [ent, arr_zero]
theorem ent_succ {q : Qv} {k x y : Nat} (hx : q.f[k]? = some (x : Int)) (hy : q.t[k]? = some (y : Int)) (a b : Nat) : ent q (k + 1) a b = ent q k a b - (if a = x ∧ b = y then 1 else 0) - (if a = y ∧ b = x then 1 else 0) := by
  rw [ent, arr_succ hx hy, arr_succ hx hy, ent]
  by_cases h1 : x = a ∧ y = b
  · rw [if_pos h1, if_pos (c := a = x ∧ b = y) ⟨h1.1.symm, h1.2.symm⟩]
    by_cases h2 : x = b ∧ y = a
    · rw [if_pos h2, if_pos (c := a = y ∧ b = x) ⟨h2.2.symm, h2.1.symm⟩]; split <;> omega
    · rw [if_neg h2, if_neg (c := a = y ∧ b = x) (fun h => h2 ⟨h.2.symm, h.1.symm⟩)]; split <;> omega
  · rw [if_neg h1, if_neg (c := a = x ∧ b = y) (fun h => h1 ⟨h.1.symm, h.2.symm⟩)]
    by_cases h2 : x = b ∧ y = a
    · rw [if_pos h2, if_pos (c := a = y ∧ b = x) ⟨h2.2.symm, h2.1.symm⟩]; split <;> omega
    · rw [if_neg h2, if_neg (c := a = y ∧ b = x) (fun h => h2 ⟨h.2.symm, h.1.symm⟩)]; split <;> omega

theorem Fam.far {w : World} {lo hi : Nat} {L : List (Value × List Int)} (h : Fam w lo hi L) {p : Addr} (hp : hi ≤ p.block) (u : Value) : Fam (w.setCell p u) lo hi L :=
  ⟨fun x hx => ⟨(h.1 x hx).1.setCell (fun e => by have := (h.1 x hx).2 _ e; omega) u, (h.1 x hx).2⟩, h.2⟩

end Go.Proofs.YtgabmemalaklbaaGreat

/- The reference's symmetric form. -/
namespace Go.Proofs.YtgabmemalaklbaaGreat
set_option linter.unusedVariables false
set_option linter.unusedSimpArgs false
open Go.RowKit

end Go.Proofs.YtgabmemalaklbaaGreat

/- Reflections of number vectors. -/
namespace Go.Proofs.YtgabmemalaklbaaGreat
set_option linter.unusedVariables false
set_option linter.unusedSimpArgs false
open Go.RowKit

/-- g against x, the first k -/
def dotS (g : Nat → Int) (x : List Int) : Nat → Int
  | 0 => 0
  | k + 1 => dotS g x k + g k * x.getD k 0
/-- the vector x reflected at v -/
def reflL (q : Qv) (x : List Int) (v : Nat) : List Int := x.set v (x.getD v 0 - dotS (ent q q.f.length v) x x.length)
def reflQ (q : Qv) (x : List Int) (v : Int) : List Int × Bool := if isNum q x && inR v 0 (q.v - 1) && !loopQ q v then (reflL q x v.toNat, true) else ([], false)
end Go.Proofs.YtgabmemalaklbaaGreat

/- Vectors in a box, one by one, the last number first: plain. -/
namespace Go.Proofs.YtgabmemalaklbaaGreat
set_option linter.unusedVariables false
set_option linter.unusedSimpArgs false
open Go.RowKit

/-- the k-th vector of N numbers 0 .. m -/
def bxV (m N k : Nat) : List Int := (List.range N).map fun i => ((k / (m + 1) ^ (N - 1 - i) % (m + 1) : Nat) : Int)
/-- .. its last j numbers set to 0 -/
def bxZ (m N k j : Nat) : List Int := (List.range N).map fun i => if N ≤ i + j then 0 else ((k / (m + 1) ^ (N - 1 - i) % (m + 1) : Nat) : Int)
/-- all the last j are full -/
def fullTo (m k j : Nat) : Prop := k % (m + 1) ^ j = (m + 1) ^ j - 1
end Go.Proofs.YtgabmemalaklbaaGreat

/- Lists of bars: the law's copies and comparisons, the two EqualBars. -/
namespace Go.Proofs.YtgabmemalaklbaaGreat
set_option linter.unusedVariables false
set_option linter.unusedSimpArgs false
open Go.RowKit

theorem bar_neq (x y z x' y' z' : Int) (b : Bool) (hb : decide ((x, y, z) = (x', y', z')) = b) (w : World) : (binOp .neq 70 (.agg #[.int .i64 x, .int .i64 y, .int .i64 z]) (.agg #[.int .i64 x', .int .i64 y', .int .i64 z'])).run Tryz.prog w = .ok (.bool !b) w := by
  subst hb
  go_simp
  by_cases h1 : x = x' <;> by_cases h2 : y = y' <;> by_cases h3 : z = z' <;> simp [h1, h2, h3]

set_option maxHeartbeats 400000 in
theorem specEqualBars_any (u v : Value) (xs ys : List Bar) (w : World) (hu : SlB w w.heap.size u xs) (hv : SlB w w.heap.size v ys) :
    Calls Tryz.prog 11 #[u, v] w fun e w' => e = .returned (.bool (decide (xs = ys))) ∧ Below w.heap.size w w' := by
  obtain ⟨A, c, rfl, _, _, hn, hx⟩ := hu.open_
  obtain ⟨C, d, rfl, _, _, hm, hy⟩ := hv.open_
  clear hu hv
  by_cases hnm : xs.length = ys.length
  · have heq : ((xs.length : Int) != ys.length) = false := by rw [bne_eq_false_iff_eq]; omega
    have HN := Lib.hid hnm
    clear hnm
    go_enter Tryz.func11, Tryz.ntmps11
    go_wp2
    go_loopw [5] (fun i wr => ∃ k q : Nat, k ≤ xs.length ∧ i = .int .i64 k ∧ wr = w.drewN q ∧ Hid (xs.take k = ys.take k)) (fun i _ => xs.length - (intOf i).toNat)
    case atStart => exact ⟨0, 0, Nat.zero_le _, rfl, rfl, rfl⟩
    case round =>
      obtain ⟨k, q, hk, rfl, rfl, hxy⟩ := hrel
      by_cases hlt : k < xs.length
      · have hlt' : k < ys.length := by have := HN.out; omega
        obtain ⟨b, o, x, y, z, rfl, hb, HX, c1, c2, c3, _⟩ := SlB.at_ hx hlt
        obtain ⟨b', o', x', y', z', rfl, hb', HX', c1', c2', c3', _⟩ := SlB.at_ hy hlt'
        clear hx hy
        obtain ⟨B, hB⟩ : ∃ B, decide ((x, y, z) = (x', y', z')) = B := ⟨_, rfl⟩
        have hne := bar_neq x y z x' y' z' B hB
        have HB := Lib.hid hB
        clear hB
        cases B
        · go_wp2
          go_quiet (fail)
          go_wp2
          go_ret
          have hxy' : xs ≠ ys := by
            rintro rfl
            have h1 := HB.out
            have h2 := HX.out
            rw [HX'.out] at h2
            exact of_decide_eq_false h1 (by injection h2 with h2; exact h2.symm)
          exact ⟨by rw [decide_eq_false hxy']; rfl, below_drewN (drewN_below _ _ _) _⟩
        · go_wp2
          go_quiet (fail)
          go_wp2
          go_roundw
          case rel =>
            refine ⟨k + 1, q + nq, by omega, by go_num, rfl, ?_⟩
            show _ = _
            rw [take_snoc HX.out, take_snoc HX'.out, hxy.out, of_decide_eq_true HB.out]
          case measure => simp [intOf]; omega
      · go_wp2
        go_ret
        refine ⟨?_, drewN_below _ _ _⟩
        have h1 := hxy.out
        rw [List.take_of_length_le (by omega), List.take_of_length_le (by have := HN.out; omega)] at h1
        simp [h1]
  · have hne : ((xs.length : Int) != ys.length) = true := by rw [bne_iff_ne]; omega
    go_enter Tryz.func11, Tryz.ntmps11
    go_wp2
    go_ret
    refine ⟨?_, Below.refl _ _⟩
    rw [decide_eq_false (by rintro rfl; omega)]; rfl

theorem infoBar : (Tryz.prog.info? 70).map (fun i => (i.zero, i.size, i.bytes)) = some (some (.agg #[.int .i64 0, .int .i64 0, .int .i64 0]), 3, 24) := by kernel_rfl

/-- The first k elements of a row of bars are laid. -/
def BarCs (cs : Array Value) (xs : List Bar) (k : Nat) : Prop :=
  cs.size = xs.length * 3 ∧ ∀ j x, j < k → xs[j]? = some x → cs[j * 3]? = some (.int .i64 x.1) ∧ cs[j * 3 + 1]? = some (.int .i64 x.2.1) ∧ cs[j * 3 + 2]? = some (.int .i64 x.2.2)

theorem BarCs.step {cs : Array Value} {xs : List Bar} {k : Nat} {x y z : Int} (h : BarCs cs xs k) (hx : xs[k]? = some (x, y, z)) :
    BarCs (((cs.setIfInBounds (k * 3) (.int .i64 x)).setIfInBounds (k * 3 + 1) (.int .i64 y)).setIfInBounds (k * 3 + 2) (.int .i64 z)) xs (k + 1) := by
  obtain ⟨hs, h⟩ := h
  have hk := lt_of_some hx
  refine ⟨by simpa using hs, fun j u hj hu => ?_⟩
  by_cases e : j = k
  · subst e
    rw [hx] at hu
    injection hu with hu
    subst hu
    refine ⟨?_, ?_, ?_⟩ <;> simp [Array.getElem?_setIfInBounds] <;> omega
  · obtain ⟨a, b, c⟩ := h j u (by omega) hu
    refine ⟨?_, ?_, ?_⟩ <;> simp only [Array.getElem?_setIfInBounds] <;> (repeat rw [if_neg (by omega)]) <;> assumption
theorem BarCs.sl {cs : Array Value} {xs : List Bar} {w w' : World} {g B : Nat} {u : Value} (h : BarCs cs xs xs.length) (hb : Blk w' g 70 cs) (hx : SlB w B u xs) (hn : xs.length ≤ 9223372036854775807) :
    SlB w' w'.heap.size (.slice (some ⟨g, 0, none⟩) xs.length xs.length) xs := by
  obtain ⟨_, _, _, _, _, hn', h4⟩ := hx
  refine ⟨_, _, rfl, Nat.le_refl _, hn, hn', fun hp => ⟨g, 0, rfl, hb.lt, fun j x hj => ?_⟩⟩
  obtain ⟨_, _, _, _, hr⟩ := h4 hp
  obtain ⟨a, b, c⟩ := h.2 j x (lt_of_some hj) hj
  exact ⟨⟨by rw [hb.cell]; simpa using a, by rw [hb.cell]; simpa using b, by rw [hb.cell]; simpa using c⟩, (hr j x hj).2⟩

end Go.Proofs.YtgabmemalaklbaaGreat

/- Lists of bars of the call's own. -/
namespace Go.Proofs.YtgabmemalaklbaaGreat
set_option linter.unusedVariables false
set_option linter.unusedSimpArgs false
open Go.RowKit

def barCs : List Bar → List Value
  | x :: xs => .int .i64 x.1 :: .int .i64 x.2.1 :: .int .i64 x.2.2 :: barCs xs
  | [] => []
theorem barCs_length : ∀ xs : List Bar, (barCs xs).length = xs.length * 3
  | [] => rfl
  | x :: xs => by simp only [barCs, List.length_cons, barCs_length xs]; omega
theorem barCs_get : ∀ {xs : List Bar} {j : Nat} {x : Bar}, xs[j]? = some x → (barCs xs)[j * 3]? = some (.int .i64 x.1) ∧ (barCs xs)[j * 3 + 1]? = some (.int .i64 x.2.1) ∧ (barCs xs)[j * 3 + 2]? = some (.int .i64 x.2.2)
  | [], _, _, h => by simp at h
  | x :: xs, 0, _, h => by
    simp at h
    subst h
    simp [barCs]
  | x :: xs, j + 1, y, h => by
    simp only [List.getElem?_cons_succ] at h
    obtain ⟨a, b, c⟩ := barCs_get h
    simp only [barCs, show (j + 1) * 3 = j * 3 + 1 + 1 + 1 by omega, show j * 3 + 1 + 1 + 1 + 1 = (j * 3 + 1) + 1 + 1 + 1 by omega, show j * 3 + 1 + 1 + 1 + 2 = (j * 3 + 2) + 1 + 1 + 1 by omega, List.getElem?_cons_succ]
    exact ⟨a, b, c⟩
theorem barCs_append : ∀ xs ys : List Bar, barCs (xs ++ ys) = barCs xs ++ barCs ys
  | [], _ => rfl
  | x :: xs, ys => by simp only [List.cons_append, barCs, barCs_append xs ys]
theorem barCs_oneCell : ∀ xs : List Bar, ∀ u ∈ barCs xs, u.oneCell' = true
  | [], u, hu => by simp [barCs] at hu
  | x :: xs, u, hu => by
    simp only [barCs, List.mem_cons] at hu
    rcases hu with rfl | rfl | rfl | hu
    · rfl
    · rfl
    · rfl
    · exact barCs_oneCell xs u hu
def IBar (x : Bar) : Prop := I64 x.1 ∧ I64 x.2.1 ∧ I64 x.2.2
def BarsO (w : World) (lo hi : Nat) (v : Value) (xs : List Bar) : Prop := RowO 70 3 w lo hi v xs.length (barCs xs) ∧ ∀ x ∈ xs, IBar x
theorem BarsO.rd {w : World} {lo hi : Nat} {v : Value} {xs : List Bar} (h : BarsO w lo hi v xs) : SlB w w.heap.size v xs := by
  obtain ⟨⟨h1, h2, h3⟩, hi⟩ := h
  rcases h1.2 with ⟨rfl, h0⟩ | ⟨g, cap, cur, rfl, _, hg, hnc, hcm, hcs, htake⟩
  · obtain rfl : xs = [] := List.eq_nil_of_length_eq_zero (by omega)
    exact SlG.nil
  · refine ⟨_, _, rfl, hnc, by simp only [maxLen] at hcm; omega, h3, fun hp => ⟨g, 0, rfl, (Array.getElem?_eq_some_iff.1 hg).1, fun j x hj => ?_⟩⟩
    have hjl := lt_of_some hj
    have hl := barCs_length xs
    obtain ⟨a, b, c⟩ := barCs_get hj
    have c0 := h1.cellAt (j * 3) (by omega)
    have c1 := h1.cellAt (j * 3 + 1) (by omega)
    have c2 := h1.cellAt (j * 3 + 2) (by omega)
    obtain ⟨i1, i2, i3⟩ := hi x (List.mem_of_getElem? hj)
    exact ⟨⟨by rw [Nat.zero_add, c0]; exact a, by rw [Nat.zero_add, c1]; exact b, by rw [Nat.zero_add, c2]; exact c⟩, i1, i2, i3⟩
theorem BarsO.chg {w w' : World} {lo hi lo' hi' : Nat} {v : Value} {xs : List Bar} (h : BarsO w lo hi v xs) (hc : Chg lo' hi' w w') (hd : hi ≤ lo' ∨ hi' ≤ lo) : BarsO w' lo hi v xs := ⟨h.1.chg hc hd, h.2⟩
theorem BarsO.below {w w' : World} {lo hi : Nat} {v : Value} {xs : List Bar} (h : BarsO w lo hi v xs) (hb : Below w.heap.size w w') : BarsO w' lo hi v xs := ⟨h.1.below hb, h.2⟩
theorem BarsO.wider {w : World} {lo hi lo' hi' : Nat} {v : Value} {xs : List Bar} (h : BarsO w lo hi v xs) (h1 : lo' ≤ lo) (h2 : hi ≤ hi') : BarsO w lo' hi' v xs := ⟨h.1.mono h1 h2, h.2⟩
theorem BarsO.form {w : World} {lo hi : Nat} {v : Value} {xs : List Bar} (h : BarsO w lo hi v xs) : ∃ A c, v = .slice A xs.length c ∧ xs.length ≤ c ∧ c ≤ 9223372036854775807 := h.1.form
theorem BarsO.nil (w : World) (lo hi : Nat) : BarsO w lo hi (.slice none 0 0) [] := ⟨RowO.nil _ w lo hi, by simp⟩
theorem SlB.ib {w : World} {B : Nat} {v : Value} {xs : List Bar} (h : SlB w B v xs) : ∀ x ∈ xs, IBar x := by
  obtain ⟨A, c, _, _, _, _, h4⟩ := h
  intro x hx
  obtain ⟨j, hj⟩ := List.getElem?_of_mem hx
  obtain ⟨_, _, _, _, hr⟩ := h4 (by have := lt_of_some hj; omega)
  exact (hr j x hj).2
theorem SlB.chg {w w' : World} {B lo hi : Nat} {v : Value} {xs : List Bar} (h : SlB w B v xs) (hc : Chg lo hi w w') (hB : B ≤ lo) (hs : B ≤ w.heap.size) : SlB w' B v xs := SlB.below (hc.below hB hs) h

theorem BarCs.list {cs : Array Value} {xs : List Bar} (h : BarCs cs xs xs.length) : cs.toList = barCs xs := by
  have hl := barCs_length xs
  apply List.ext_getElem?
  intro i
  by_cases hi : i < xs.length * 3
  · obtain ⟨j, r, hr, rfl⟩ : ∃ j r, r < 3 ∧ i = j * 3 + r := ⟨i / 3, i % 3, Nat.mod_lt _ (by omega), by omega⟩
    have hj : j < xs.length := by omega
    obtain ⟨a, b, c⟩ := h.2 j _ hj (List.getElem?_eq_getElem hj)
    obtain ⟨a', b', c'⟩ := barCs_get (List.getElem?_eq_getElem hj)
    rw [Array.getElem?_toList]
    match r, hr with
    | 0, _ => rw [Nat.add_zero, a, a']
    | 1, _ => rw [b, b']
    | 2, _ => rw [c, c']
  · rw [List.getElem?_eq_none (by have := h.1; simp; omega), List.getElem?_eq_none (by omega)]

end Go.Proofs.YtgabmemalaklbaaGreat

/- cmp.Compare, cmp.Or, compareBars. -/
namespace Go.Proofs.YtgabmemalaklbaaGreat
set_option linter.unusedVariables false
set_option linter.unusedSimpArgs false
open Go.RowKit

def cmpI (a b : Int) : Int := if a < b then -1 else if b < a then 1 else 0
def cmpB (x y : Bar) : Int := if cmpI x.1 y.1 = 0 then cmpI x.2.1 y.2.1 else cmpI x.1 y.1
theorem cmpI_0 {a b : Int} : cmpI a b = 0 ↔ a = b := by
  unfold cmpI
  constructor
  · intro h; split at h
    · omega
    · split at h <;> omega
  · rintro rfl; rw [if_neg (by omega), if_neg (by omega)]
theorem cmpI_neg {a b : Int} : cmpI a b < 0 ↔ a < b := by
  unfold cmpI
  split
  · constructor <;> omega
  · split <;> constructor <;> omega
theorem cmpI_r (a b : Int) : -1 ≤ cmpI a b ∧ cmpI a b ≤ 1 := by
  unfold cmpI; split
  · omega
  · split <;> omega
theorem cmpB_neg {x y : Bar} : cmpB x y < 0 ↔ x.1 < y.1 ∨ x.1 = y.1 ∧ x.2.1 < y.2.1 := by
  unfold cmpB
  split
  · rename_i h
    rw [cmpI_0] at h
    rw [cmpI_neg]
    omega
  · rename_i h
    rw [cmpI_0] at h
    rw [cmpI_neg]
    omega
theorem cmpB_r (x y : Bar) : -1 ≤ cmpB x y ∧ cmpB x y ≤ 1 := by unfold cmpB; split <;> exact cmpI_r _ _
theorem cmpB_0 {x y : Bar} : cmpB x y = 0 ↔ x.1 = y.1 ∧ x.2.1 = y.2.1 := by
  unfold cmpB
  split
  · rename_i h
    rw [cmpI_0] at h
    rw [cmpI_0]
    omega
  · rename_i h
    rw [cmpI_0] at h
    rw [cmpI_0]
    omega

theorem isNaN_any (a : Int) (w : World) : Calls Tryz.prog 106 #[.int .i64 a] w fun e w' => e = .returned (.bool false) ∧ w = w' := by
  have h : (a != a) = false := by simp
  go_enter Tryz.func106, Tryz.ntmps106
  go_wp2
  go_ret
  exact ⟨rfl, rfl⟩
set_option maxHeartbeats 400000 in
theorem compare_any (a b : Int) (w : World) : Calls Tryz.prog 88 #[.int .i64 a, .int .i64 b] w fun e w' => e = .returned (.int .i64 (cmpI a b)) ∧ w = w' := by
  go_enter Tryz.func88, Tryz.ntmps88
  go_wp2_with (go_at_call 106; refine (isNaN_any _ _).mono ?_; rintro e w' ⟨rfl, rfl⟩)
  all_goals go_ret
  all_goals (unfold cmpI; refine ⟨?_, rfl⟩)
  all_goals (repeat (first | rw [if_pos (by omega)] | rw [if_neg (by omega)]))
  all_goals rfl
/-- the first number that is not 0 -/
def orI : List Int → Int
  | [] => 0
  | x :: xs => if x = 0 then orI xs else x
theorem orI_take {l : List Int} {k : Nat} (h : ∀ j, j < k → l.getD j 0 = 0) : orI l = orI (l.drop k) := by
  induction k generalizing l with
  | zero => rfl
  | succ k ih =>
    match l with
    | [] => rfl
    | x :: xs =>
      have h0 := h 0 (by omega)
      simp at h0
      subst h0
      simp only [orI, if_true, List.drop_succ_cons]
      exact ih fun j hj => by have := h (j + 1) (by omega); simpa using this
set_option maxHeartbeats 400000 in
theorem or_any (v : Value) (l : List Int) (w : World) (hv : SlI w w.heap.size v l) : Calls Tryz.prog 87 #[v] w fun e w' => e = .returned (.int .i64 (orI l)) ∧ w = w' := by
  obtain ⟨A, c, rfl, _, _, hn, hx⟩ := hv.open_
  clear hv
  go_enter Tryz.func87, Tryz.ntmps87
  go_wp2
  go_loop [8] (fun i => ∃ k : Nat, k ≤ l.length ∧ i = .int .i64 k ∧ Hid (∀ j, j < k → l.getD j 0 = 0)) (fun i => l.length - (intOf i).toNat)
  case atStart => exact ⟨0, Nat.zero_le _, rfl, fun j h => absurd h (by omega)⟩
  case round =>
    obtain ⟨k, hk, rfl, hz⟩ := hrel
    by_cases hlt : k < l.length
    · obtain ⟨b, o, x, rfl, hb, HX, c1, _⟩ := SlI.at_ hx hlt
      clear hx
      by_cases hE : x = 0
      · subst hE
        go_wp2
        go_round
        case rel =>
          refine ⟨k + 1, by omega, by go_num, fun j hj => ?_⟩
          by_cases e : j = k
          · subst e
            rw [List.getD_eq_getElem?_getD, HX.out]; rfl
          · exact hz.out j (by omega)
        case measure => simp [intOf]; omega
      · have hne : (x != 0) = true := by simpa using hE
        have HO := Lib.hid (show orI l = x by
          rw [orI_take hz.out, List.drop_eq_getElem_cons hlt]
          have := HX.out
          rw [List.getElem?_eq_getElem hlt] at this
          injection this with this
          rw [this]
          simp [orI, hE])
        clear hE
        go_wp2
        go_ret
        exact ⟨by rw [HO.out]; rfl, rfl⟩
    · have HO := Lib.hid (show orI l = 0 by rw [orI_take hz.out, List.drop_of_length_le (by omega)]; rfl)
      go_wp2
      go_ret
      exact ⟨by rw [HO.out]; rfl, rfl⟩
theorem orI_two (x y : Bar) : orI [cmpI x.1 y.1, cmpI x.2.1 y.2.1] = cmpB x y := by
  unfold cmpB
  simp only [orI]
  split
  · split
    · rename_i h; exact h.symm
    · rfl
  · rfl

set_option maxHeartbeats 1600000 in
set_option maxRecDepth 100000 in
theorem compareBars_any (p q r s1 s2 s3 : Int) (w0 : World) :
    Calls Tryz.prog 73 #[.agg #[.int .i64 p, .int .i64 q, .int .i64 r], .agg #[.int .i64 s1, .int .i64 s2, .int .i64 s3]] w0 fun e w' => e = .returned (.int .i64 (cmpB (p, q, r) (s1, s2, s3))) ∧ Below w0.heap.size w0 w' := by
  obtain ⟨W, hW⟩ : ∃ W, W = (w0.alloc (.cells #[.int .i64 p, .int .i64 q, .int .i64 r] 70)).alloc (.cells #[.int .i64 s1, .int .i64 s2, .int .i64 s3] 70) := ⟨_, rfl⟩
  have g0 : Below w0.heap.size w0 W := by rw [hW]; exact ((Below.refl _ _).alloc (Nat.le_refl _) _).alloc (by simp) _
  have k1 : Blk W w0.heap.size 70 #[.int .i64 p, .int .i64 q, .int .i64 r] := by rw [hW]; exact (Blk.new _ _ _).alloc _
  have k2 : Blk W (w0.heap.size + 1) 70 #[.int .i64 s1, .int .i64 s2, .int .i64 s3] := by
    rw [hW]
    have := Blk.new (w0.alloc (.cells #[.int .i64 p, .int .i64 q, .int .i64 r] 70)) 70 #[.int .i64 s1, .int .i64 s2, .int .i64 s3]
    simpa only [World.size_alloc] using this
  have hor := orI_two (p, q, r) (s1, s2, s3)
  simp only at hor
  rw [← hor]
  clear hor
  obtain ⟨a, ha⟩ : ∃ a, cmpI p s1 = a := ⟨_, rfl⟩
  obtain ⟨b, hb0⟩ : ∃ b, cmpI q s2 = b := ⟨_, rfl⟩
  have hra := cmpI_r p s1
  have hrb := cmpI_r q s2
  rw [ha] at hra
  rw [hb0] at hrb
  rw [ha, hb0]
  have HA := Lib.hid ha
  have HB := Lib.hid hb0
  clear ha hb0
  go_enter Tryz.func73, Tryz.ntmps73
  go_wp2
  rw [← hW]; clear hW
  refine wp_region_net (by kernel_rfl) [.eq (.pointer (some ⟨w0.heap.size, 0, none⟩)), .eq (.int .i64 p), .eq (.pointer (some ⟨w0.heap.size + 1, 0, none⟩)), .eq (.int .i64 s1), .eq (.int .i64 a), .eq (.pointer (some ⟨w0.heap.size, 1, none⟩)), .eq (.int .i64 q), .eq (.pointer (some ⟨w0.heap.size + 1, 1, none⟩)), .eq (.int .i64 s2), .eq (.int .i64 b), rel 10 (fun u lo hi w => ∃ g, u = .slice (some ⟨g, 0, none⟩) 2 2 ∧ Blk w g 3 #[.int .i64 a, .int .i64 b]), .eq (.int .i64 (orI [a, b]))] [[], [0], [], [2], [0, 1, 2, 3], [], [5], [], [7], [0, 1, 2, 3, 4, 5, 6, 7, 8], [0, 1, 2, 3, 4, 5, 6, 7, 8, 9], [0, 1, 2, 3, 4, 5, 6, 7, 8, 9, 10], [0, 1, 2, 3, 4, 5, 6, 7, 8, 9, 10, 11]] 12 (by kernel_rfl) ⟨trivial, trivial, trivial, trivial, trivial, trivial, trivial, trivial, trivial, trivial, rel_stable (fun u lo hi w w' ⟨g, e, h⟩ hb => ⟨g, e, h.call hb⟩), trivial, trivial⟩ ⟨?_, ?_, ?_, ?_, ?_, ?_, ?_, ?_, ?_, ?_, ?_, ?_, trivial⟩ ?_
  · intro x w hb hk Q' hQ
    clear hk
    simp only [netAct, dstAt, List.getElem?_toArray, List.getElem?_cons_zero, List.getElem?_cons_succ, Option.bind_some, Act.put, List.setIfInBounds_toArray, List.set_cons_zero, List.set_cons_succ] at hQ ⊢
    go_wp2
    exact hQ (.pointer (some ⟨w0.heap.size, 0, none⟩)) _ (Below.refl _ _) rfl
  · intro x w hb hk Q' hQ
    have h0 : x.v 0 = .pointer (some ⟨w0.heap.size, 0, none⟩) := (hk 0 (by decide)).1
    clear hk
    simp only [netAct, dstAt, List.getElem?_toArray, List.getElem?_cons_zero, List.getElem?_cons_succ, Option.bind_some, Act.put, List.setIfInBounds_toArray, List.set_cons_zero, List.set_cons_succ] at hQ ⊢
    simp only [h0] at hQ ⊢
    clear h0
    have q0 := (k1.call hb).cell' (i := 0) rfl
    go_wp2
    exact hQ (.int .i64 p) _ (Below.refl _ _) rfl
  · intro x w hb hk Q' hQ
    clear hk
    simp only [netAct, dstAt, List.getElem?_toArray, List.getElem?_cons_zero, List.getElem?_cons_succ, Option.bind_some, Act.put, List.setIfInBounds_toArray, List.set_cons_zero, List.set_cons_succ] at hQ ⊢
    go_wp2
    exact hQ (.pointer (some ⟨w0.heap.size + 1, 0, none⟩)) _ (Below.refl _ _) rfl
  · intro x w hb hk Q' hQ
    have h2 : x.v 2 = .pointer (some ⟨w0.heap.size + 1, 0, none⟩) := (hk 2 (by decide)).1
    clear hk
    simp only [netAct, dstAt, List.getElem?_toArray, List.getElem?_cons_zero, List.getElem?_cons_succ, Option.bind_some, Act.put, List.setIfInBounds_toArray, List.set_cons_zero, List.set_cons_succ] at hQ ⊢
    simp only [h2] at hQ ⊢
    clear h2
    have q0 := (k2.call hb).cell' (i := 0) rfl
    go_wp2
    exact hQ (.int .i64 s1) _ (Below.refl _ _) rfl
  · intro x w hb hk Q' hQ
    have h1 : x.v 1 = .int .i64 p := (hk 1 (by decide)).1
    have h3 : x.v 3 = .int .i64 s1 := (hk 3 (by decide)).1
    clear hk
    simp only [netAct, dstAt, List.getElem?_toArray, List.getElem?_cons_zero, List.getElem?_cons_succ, Option.bind_some, Act.put, List.setIfInBounds_toArray, List.set_cons_zero, List.set_cons_succ] at hQ ⊢
    simp only [h1, h3] at hQ ⊢
    clear h1 h3
    go_wp2_with fail
    refine (compare_any _ _ _).mono ?_; rintro e w1 ⟨rfl, rfl⟩
    rw [HA.out]
    go_wp2
    exact hQ (.int .i64 a) _ (Below.refl _ _) rfl
  · intro x w hb hk Q' hQ
    clear hk
    simp only [netAct, dstAt, List.getElem?_toArray, List.getElem?_cons_zero, List.getElem?_cons_succ, Option.bind_some, Act.put, List.setIfInBounds_toArray, List.set_cons_zero, List.set_cons_succ] at hQ ⊢
    go_wp2
    exact hQ (.pointer (some ⟨w0.heap.size, 1, none⟩)) _ (Below.refl _ _) rfl
  · intro x w hb hk Q' hQ
    have h5 : x.v 5 = .pointer (some ⟨w0.heap.size, 1, none⟩) := (hk 5 (by decide)).1
    clear hk
    simp only [netAct, dstAt, List.getElem?_toArray, List.getElem?_cons_zero, List.getElem?_cons_succ, Option.bind_some, Act.put, List.setIfInBounds_toArray, List.set_cons_zero, List.set_cons_succ] at hQ ⊢
    simp only [h5] at hQ ⊢
    clear h5
    have q0 := (k1.call hb).cell' (i := 1) rfl
    go_wp2
    exact hQ (.int .i64 q) _ (Below.refl _ _) rfl
  · intro x w hb hk Q' hQ
    clear hk
    simp only [netAct, dstAt, List.getElem?_toArray, List.getElem?_cons_zero, List.getElem?_cons_succ, Option.bind_some, Act.put, List.setIfInBounds_toArray, List.set_cons_zero, List.set_cons_succ] at hQ ⊢
    go_wp2
    exact hQ (.pointer (some ⟨w0.heap.size + 1, 1, none⟩)) _ (Below.refl _ _) rfl
  · intro x w hb hk Q' hQ
    have h7 : x.v 7 = .pointer (some ⟨w0.heap.size + 1, 1, none⟩) := (hk 7 (by decide)).1
    clear hk
    simp only [netAct, dstAt, List.getElem?_toArray, List.getElem?_cons_zero, List.getElem?_cons_succ, Option.bind_some, Act.put, List.setIfInBounds_toArray, List.set_cons_zero, List.set_cons_succ] at hQ ⊢
    simp only [h7] at hQ ⊢
    clear h7
    have q0 := (k2.call hb).cell' (i := 1) rfl
    go_wp2
    exact hQ (.int .i64 s2) _ (Below.refl _ _) rfl
  · intro x w hb hk Q' hQ
    have h6 : x.v 6 = .int .i64 q := (hk 6 (by decide)).1
    have h8 : x.v 8 = .int .i64 s2 := (hk 8 (by decide)).1
    clear hk
    simp only [netAct, dstAt, List.getElem?_toArray, List.getElem?_cons_zero, List.getElem?_cons_succ, Option.bind_some, Act.put, List.setIfInBounds_toArray, List.set_cons_zero, List.set_cons_succ] at hQ ⊢
    simp only [h6, h8] at hQ ⊢
    clear h6 h8
    go_wp2_with fail
    refine (compare_any _ _ _).mono ?_; rintro e w1 ⟨rfl, rfl⟩
    rw [HB.out]
    go_wp2
    exact hQ (.int .i64 b) _ (Below.refl _ _) rfl
  · intro x w hb hk Q' hQ
    have h0 : x.v 0 = .pointer (some ⟨w0.heap.size, 0, none⟩) := (hk 0 (by decide)).1
    have h1 : x.v 1 = .int .i64 p := (hk 1 (by decide)).1
    have h2 : x.v 2 = .pointer (some ⟨w0.heap.size + 1, 0, none⟩) := (hk 2 (by decide)).1
    have h3 : x.v 3 = .int .i64 s1 := (hk 3 (by decide)).1
    have h4 : x.v 4 = .int .i64 a := (hk 4 (by decide)).1
    have h5 : x.v 5 = .pointer (some ⟨w0.heap.size, 1, none⟩) := (hk 5 (by decide)).1
    have h6 : x.v 6 = .int .i64 q := (hk 6 (by decide)).1
    have h7 : x.v 7 = .pointer (some ⟨w0.heap.size + 1, 1, none⟩) := (hk 7 (by decide)).1
    have h8 : x.v 8 = .int .i64 s2 := (hk 8 (by decide)).1
    have h9 : x.v 9 = .int .i64 b := (hk 9 (by decide)).1
    clear hk
    simp only [netAct, dstAt, List.getElem?_toArray, List.getElem?_cons_zero, List.getElem?_cons_succ, Option.bind_some, Act.put, List.setIfInBounds_toArray, List.set_cons_zero, List.set_cons_succ] at hQ ⊢
    simp only [h0, h1, h2, h3, h4, h5, h6, h7, h8, h9] at hQ ⊢
    clear h0 h1 h2 h3 h4 h5 h6 h7 h8 h9
    go_wp2
    exact hQ _ _ (below_alloc _ _) ⟨_, rfl, Blk.new _ _ _⟩
  · intro x w hb hk Q' hQ
    have h10 : ∃ g, (x.v 10) = .slice (some ⟨g, 0, none⟩) 2 2 ∧ Blk w g 3 #[.int .i64 a, .int .i64 b] := (hk 10 (by decide)).1
    clear hk
    simp only [netAct, dstAt, List.getElem?_toArray, List.getElem?_cons_zero, List.getElem?_cons_succ, Option.bind_some, Act.put, List.setIfInBounds_toArray, List.set_cons_zero, List.set_cons_succ] at hQ ⊢
    obtain ⟨g, e1, hk⟩ := h10
    rw [e1] at hQ ⊢
    have hsl : SlI w w.heap.size (.slice (some ⟨g, 0, none⟩) 2 2) [a, b] := by
      refine ⟨_, 2, rfl, by simp, by omega, by simp, fun _ => ⟨g, 0, rfl, hk.lt, fun j y hj => ?_⟩⟩
      match j, hj with
      | 0, hj =>
        simp at hj; subst hj
        exact ⟨by rw [hk.cell]; rfl, by unfold I64; omega⟩
      | 1, hj =>
        simp at hj; subst hj
        exact ⟨by rw [hk.cell]; rfl, by unfold I64; omega⟩
      | j + 2, hj => simp at hj
    have HS := Lib.hid hsl
    clear hsl
    go_wp2_with fail
    refine (or_any _ _ _ HS.out).mono ?_; rintro e w1 ⟨rfl, rfl⟩
    go_wp2
    exact hQ (.int .i64 (orI [a, b])) _ (Below.refl _ _) rfl
  · intro x w hb hk hiv hdj
    have h0 : x.v 0 = .pointer (some ⟨w0.heap.size, 0, none⟩) := hk 0 (by decide)
    have h1 : x.v 1 = .int .i64 p := hk 1 (by decide)
    have h2 : x.v 2 = .pointer (some ⟨w0.heap.size + 1, 0, none⟩) := hk 2 (by decide)
    have h3 : x.v 3 = .int .i64 s1 := hk 3 (by decide)
    have h4 : x.v 4 = .int .i64 a := hk 4 (by decide)
    have h5 : x.v 5 = .pointer (some ⟨w0.heap.size, 1, none⟩) := hk 5 (by decide)
    have h6 : x.v 6 = .int .i64 q := hk 6 (by decide)
    have h7 : x.v 7 = .pointer (some ⟨w0.heap.size + 1, 1, none⟩) := hk 7 (by decide)
    have h8 : x.v 8 = .int .i64 s2 := hk 8 (by decide)
    have h9 : x.v 9 = .int .i64 b := hk 9 (by decide)
    have h10 : ∃ g, (x.v 10) = .slice (some ⟨g, 0, none⟩) 2 2 ∧ Blk w g 3 #[.int .i64 a, .int .i64 b] := hk 10 (by decide)
    have h11 : x.v 11 = .int .i64 (orI [a, b]) := hk 11 (by decide)
    clear hk
    simp only [netAct, dstAt, List.getElem?_toArray, List.getElem?_cons_zero, List.getElem?_cons_succ, Option.bind_some, Act.put, List.setIfInBounds_toArray, List.set_cons_zero, List.set_cons_succ]
    simp only [List.drop_succ_cons, List.drop_zero, h0, h1, h2, h3, h4, h5, h6, h7, h8, h9, h11]
    clear h0 h1 h2 h3 h4 h5 h6 h7 h8 h9 h11
    go_wp2
    go_ret
    exact ⟨rfl, g0.trans (hb.mono g0.size)⟩
end Go.Proofs.YtgabmemalaklbaaGreat
