/- FnExactCoxeterNumber: for every argument the program's function returns what the reference's returns. Part 4 of 7 of the proof: Net2, Tran, NetC, Besd, Conc, Det. No condition. -/
import Derived.Test.YtjhllgldllbaaaaBCoxeterNumber3
import Derived.Shelf.Spec.SlicesGrow
/- The law of Net.lean, for a region in which one operation of the net (s: a value, no memory made) may also come behind the first operation of the tail (m). -/
namespace Go.Proofs.Ytjhllgldllbaaaa
set_option linter.unusedVariables false
set_option linter.unusedSimpArgs false
open Go.RowKit

section
variable {P : Program} {ops : Array Oper} {Q : Exit → Act → World → Prop} {sp : List NS} {D : List (List Nat)} {m s : Nat} {a0 : Act} {w0 : World}
theorem set_getD {listed : Array Bool} {i : Nat} (his : i < listed.size) (j : Nat) : (listed.setIfInBounds i true).getD j false = (listed.getD j false || j == i) := by
  by_cases e : i = j
  · subst e
    simp [Array.getD_eq_getD_getElem?, Array.getElem?_setIfInBounds, his]
  · rw [getD_set_ne _ e]
    simp [Ne.symm e]
theorem count_set {listed : Array Bool} {i : Nat} (his : i < ops.size) (hli : listed.getD i false = false) (hls : listed.size = ops.size) :
    ((List.range ops.size).filter fun j => !(listed.setIfInBounds i true).getD j false).length + 1 = ((List.range ops.size).filter fun j => !listed.getD j false).length := by
  have hmem : i ∈ (List.range ops.size).filter fun j => !listed.getD j false := by
    rw [List.mem_filter]; exact ⟨List.mem_range.2 his, by rw [hli]; rfl⟩
  have e : (List.range ops.size).filter (fun j => !(listed.setIfInBounds i true).getD j false) = ((List.range ops.size).filter fun j => !listed.getD j false).filter (fun j => j != i) := by
    rw [List.filter_filter]
    congr 1
    funext j
    rw [set_getD (hls ▸ his)]
    simp [Bool.not_or, Bool.and_comm, bne]
  have hnd : ((List.range ops.size).filter fun j => !listed.getD j false).Nodup := List.nodup_range.filter _
  rw [e]
  have := List.length_erase_of_mem hmem
  rw [hnd.erase_eq_filter] at this
  have h1 := List.length_pos_of_mem hmem
  omega
theorem count_from {listed : Array Bool} {k : Nat} (hl : ∀ j, listed.getD j false = decide (j < k)) (hk : k ≤ ops.size) : ((List.range ops.size).filter fun j => !listed.getD j false).length = ops.size - k := by
  have e : (List.range ops.size).filter (fun j => !listed.getD j false) = (List.range' k (ops.size - k)) := by
    have e1 : (List.range ops.size) = List.range k ++ List.range' k (ops.size - k) := by
      have h := List.range'_append_1 (s := 0) (m := k) (n := ops.size - k)
      rw [Nat.zero_add] at h
      rw [List.range_eq_range', List.range_eq_range', h]
      congr 1
      omega
    rw [e1, List.filter_append]
    rw [List.filter_eq_nil_iff.2 (fun j hj => by rw [hl]; simp at hj ⊢; exact hj), List.nil_append]
    rw [List.filter_eq_self.2 (fun j hj => by rw [hl]; simp [List.mem_range'] at hj ⊢; omega)]
  rw [e, List.length_range']
theorem actP_fold (v : Nat → Value) (p : Nat → Bool) : ∀ k, actP ops a0 v p k = ((List.range k).filter p).foldl (fun a k => a.put (dstAt ops k) (v k)) a0
  | 0 => rfl
  | k + 1 => by
    rw [List.range_succ, List.filter_append, List.foldl_append, ← actP_fold v p k]
    conv => lhs; unfold actP
    rcases h : p k with _ | _ <;> simp [h]

theorem net_tail2 (hok : ∀ i o, ops[i]? = some o → NetOk ops D (m + 1) i o) : ∀ (fuel k : Nat) (listed : Array Bool) (a : Act) (w : World), fuel + k = ops.size → m ≤ k → listed.size = ops.size → (∀ j, listed.getD j false = decide (j < k)) →
    wpList P ops Q (ops.toList.drop k) a w → wpAny P .any ops Q fuel listed a w
  | fuel, k, listed, a, w, hf, hm, hls, hl, h => by
    have hld : ∀ j, j < ops.size → listed.getD j true = decide (j < k) := fun j hj => by
      rw [← hl j]
      simp [Array.getD_eq_getD_getElem?, Array.getElem?_eq_getElem (show j < listed.size by omega)]
    have hr : ∀ i ∈ Region.ready .any ops listed, i = k ∧ k < ops.size := fun i hi => by
      obtain ⟨h0, o, ho, hall⟩ := mem_ready.1 hi
      have hin := (Array.getElem?_eq_some_iff.1 ho).1
      rw [hld i hin] at h0
      have hik : k ≤ i := by simpa using h0
      refine ⟨?_, by omega⟩
      have hcl := (hok i o ho).danc (fun j => j < k) (fun e he hb => by have := hall e he hb; rw [hl] at this; simpa using this) (fun j hj x hx => by
        have hjs : j < ops.size := by omega
        have := (hok j _ (Array.getElem?_eq_getElem hjs)).dlt x hx
        omega)
      rcases Nat.lt_or_ge k i with hlt | hge
      · have := hcl k ((hok i o ho).tail (by omega) k hlt)
        omega
      · omega
    cases fuel with
    | zero =>
      refine ⟨?_, ?_⟩
      · apply List.eq_nil_iff_forall_not_mem.2
        intro i hi
        have := hr i hi
        omega
      · rw [List.drop_of_length_le (by simp; omega)] at h
        exact h
    | succ fuel =>
      have hks : k < ops.size := by omega
      have hke := Array.getElem?_eq_getElem hks
      have hdrop : ops.toList.drop k = ops[k] :: ops.toList.drop (k + 1) := by
        rw [List.drop_eq_getElem_cons (by simpa using hks)]
        simp
      rw [hdrop] at h
      have hready : k ∈ Region.ready .any ops listed := mem_ready.2 ⟨by rw [hld k hks]; simp, _, hke, fun e he hb => by rw [hl]; simpa using (hok k _ hke).direct e he hb⟩
      refine ⟨fun h0 => (by rw [h0] at hready; cases hready), fun i hi => ?_⟩
      obtain ⟨rfl, _⟩ := hr i hi
      unfold wpOp
      simp only [hke]
      have hw : Region.wanted ops[i] (yielded ops a.tmps) = true := by simp [Region.wanted, (hok i _ hke).guard]
      simp only [wpList, hw, if_true] at h ⊢
      have nxt : ∀ a w, wpList P ops Q (ops.toList.drop (i + 1)) a w → wpAny P .any ops Q fuel (listed.setIfInBounds i true) a w := fun a w h =>
        net_tail2 hok fuel (i + 1) _ a w (by omega) (by omega) (by simpa using hls) (fun j => by
          by_cases e : i = j
          · subst e
            simp [Array.getD_eq_getD_getElem?, Array.getElem?_setIfInBounds, hls, hks]
          · rw [getD_set_ne _ e, hl]
            congr 1
            rw [eq_iff_iff]
            omega) h
      rcases h with h | h
      · exact .inl (Oper.wp_mono nxt h)
      · exact .inr h

theorem net_any2 (hB : netB ops D (m + 1) = true) (hms : m < ops.size) (hsm : s < m) (hD : ∀ j, j < m → j ≠ s → j ∈ D.getD m []) (hst : ∀ s ∈ sp, s.stable) (hdo : ∀ i o, i < m → ops[i]? = some o → netDo P ops sp D a0 w0 i o)
    (hend : ∀ x w, Below w0.heap.size w0 w → (∀ i, i < m → known sp D x i w) → (∀ i, i < m → w0.heap.size ≤ x.lo i ∧ x.lo i ≤ x.hi i ∧ x.hi i ≤ w.heap.size) → (∀ i j, i < m → j < m → i ≠ j → x.hi i ≤ x.lo j ∨ x.hi j ≤ x.lo i) → wpList P ops Q (ops.toList.drop m) (netAct ops a0 x.v m) w)
    (hend2 : ∀ x w, Below w0.heap.size w0 w → (∀ i, i < m ∧ i ≠ s → known sp D x i w) → (∀ i, i < m ∧ i ≠ s → w0.heap.size ≤ x.lo i ∧ x.lo i ≤ x.hi i ∧ x.hi i ≤ w.heap.size) → (∀ i j, i < m ∧ i ≠ s → j < m ∧ j ≠ s → i ≠ j → x.hi i ≤ x.lo j ∨ x.hi j ≤ x.lo i) → ∀ om os, ops[m]? = some om → ops[s]? = some os → wpList P ops Q (om :: os :: ops.toList.drop (m + 1)) (actP ops a0 x.v (fun j => j != s) m) w) :
    ∀ (fuel : Nat) (listed : Array Bool) (x : Gh) (w : World), ((List.range ops.size).filter fun j => !listed.getD j false).length = fuel → listed.size = ops.size → (∀ j, m ≤ j → listed.getD j false = false) →
      (∀ i, listed.getD i false = true → ∀ j ∈ D.getD i [], listed.getD j false = true) → Below w0.heap.size w0 w → (∀ i, listed.getD i false = true → known sp D x i w) → (∀ i, listed.getD i false = true → w0.heap.size ≤ x.lo i ∧ x.lo i ≤ x.hi i ∧ x.hi i ≤ w.heap.size) →
      (∀ i j, listed.getD i false = true → listed.getD j false = true → i ≠ j → x.hi i ≤ x.lo j ∨ x.hi j ≤ x.lo i) →
      wpAny P .any ops Q fuel listed (actP ops a0 x.v (fun j => listed.getD j false) ops.size) w := by
  simp only [netB, Bool.and_eq_true, decide_eq_true_eq] at hB
  obtain ⟨⟨hm, hns⟩, hnf⟩ := hB
  have hok : ∀ i o, ops[i]? = some o → NetOk ops D (m + 1) i o := fun i o ho => netAt_spec (by
    have := netFrom_spec ops.toList 0 hnf i o (by simpa using ho)
    simpa using this)
  have hst' : ∀ i, (sp.getD i (.eq undef)).stable := fun i => by
    rw [List.getD_eq_getElem?_getD]
    rcases h : sp[i]? with _ | s
    · trivial
    · exact hst s (List.mem_of_getElem? h)
  intro fuel
  induction fuel with
  | zero =>
    intro listed x w hc hls hlm hcl hb hkn hiv hdj
    exfalso
    rw [List.length_eq_zero_iff, List.filter_eq_nil_iff] at hc
    have := hc m (List.mem_range.2 hms)
    rw [hlm m (Nat.le_refl _)] at this
    simp at this
  | succ fuel ih =>
    intro listed x w hc hls hlm hcl hb hkn hiv hdj
    by_cases hfull : ∀ j, j < m → listed.getD j false = true
    · -- the tail
      have hl : ∀ j, listed.getD j false = decide (j < m) := fun j => by
        by_cases hj : j < m
        · rw [hfull j hj]; simp [hj]
        · rw [hlm j (by omega)]; simp [hj]
      have hcnt := count_from (ops := ops) hl (by omega)
      refine net_tail2 hok (fuel + 1) m listed _ w (by omega) (Nat.le_refl _) hls hl ?_
      have := hend x w hb (fun i hi => hkn i (hfull i hi)) (fun i hi => hiv i (hfull i hi)) (fun i j hi hj => hdj i j (hfull i hi) (hfull j hj))
      rw [← actP_net (p := fun j => listed.getD j false) m hfull] at this
      rwa [actP_none (p := fun j => listed.getD j false) ops.size m (by omega) (fun j h1 _ => hlm j h1)]
    · -- one of the net
      have hne : Region.ready .any ops listed ≠ [] := by
        intro h0
        -- the least that is not listed is ready
        have : ∀ n, ∀ j, j < n → j < m → listed.getD j false = true := by
          intro n
          induction n with
          | zero => intro j hj; omega
          | succ n ihn =>
            intro j hj hjm
            by_cases e : j < n
            · exact ihn j e hjm
            · rcases hlj : listed.getD j false with _ | _
              · exfalso
                have hjs : j < ops.size := by omega
                have hje := Array.getElem?_eq_getElem hjs
                have : j ∈ Region.ready .any ops listed := mem_ready.2 ⟨by
                  rw [← hlj]
                  simp [Array.getD_eq_getD_getElem?, Array.getElem?_eq_getElem (show j < listed.size by omega)], _, hje, fun e he hb => by
                  have := (hok j _ hje).direct e he hb
                  exact ihn e.on (by omega) (by omega)⟩
                rw [h0] at this
                cases this
              · rfl
        exact hfull fun j hj => this (j + 1) j (by omega) hj
      refine ⟨fun h0 => absurd h0 hne, fun i hi => ?_⟩
      obtain ⟨h0, o, ho, hall⟩ := mem_ready.1 hi
      have his := (Array.getElem?_eq_some_iff.1 ho).1
      have hO := hok i o ho
      have hDl : ∀ j ∈ D.getD i [], listed.getD j false = true := hO.danc (fun j => listed.getD j false = true) hall (fun k hk j hj => hcl k hk j hj)
      have hwant : ∀ b : Act, Region.wanted o (yielded ops b.tmps) = true := fun b => by simp [Region.wanted, hO.guard]
      rcases Nat.lt_or_ge i m with him | hge
      case inr =>
        -- the tail's first, ahead of s
        have him : i = m := by
          rcases Nat.lt_or_ge m i with h | h
          · exact absurd (fun j hj => hDl j (hO.tail (by omega) j (by omega))) hfull
          · omega
        subst him
        have hls0 : listed.getD s false = false := by
          rcases h : listed.getD s false with _ | _
          · rfl
          · exfalso
            refine hfull fun j hj => ?_
            by_cases e : j = s
            · rw [e, h]
            · exact hDl j (hD j hj e)
        have hl : ∀ j, listed.getD j false = decide (j < i ∧ j ≠ s) := fun j => by
          by_cases hj : j < i
          · by_cases e : j = s
            · rw [e, hls0]; simp
            · rw [hDl j (hD j hj e)]; simp [hj, e]
          · rw [hlm j (by omega)]; simp [hj]
        have hT : ∀ k, k < i ∧ k ≠ s → listed.getD k false = true := fun k hk => by rw [hl]; simpa using hk
        have hss : s < ops.size := by omega
        have hse := Array.getElem?_eq_getElem hss
        have h2 := hend2 x w hb (fun k hk => hkn k (hT k hk)) (fun k hk => hiv k (hT k hk)) (fun k j hk hj => hdj k j (hT k hk) (hT j hj)) o ops[s] ho hse
        rw [actP_congr (p := fun j => j != s) (q := fun j => listed.getD j false) (v' := x.v) i (fun j hj => ⟨by rw [hl]; by_cases e : j = s <;> simp [e, hj], fun _ => rfl⟩)] at h2
        rw [actP_none (p := fun j => listed.getD j false) ops.size i (by omega) (fun j h1 _ => hlm j h1)]
        have hli := hlm i (Nat.le_refl _)
        have c1 := count_set (ops := ops) his hli hls
        have hsz1 : (listed.setIfInBounds i true).size = ops.size := by simpa using hls
        have hl1 : ∀ j, (listed.setIfInBounds i true).getD j false = decide (j < i + 1 ∧ j ≠ s) := fun j => by
          rw [set_getD (hls ▸ his), hl]
          by_cases e : j = i
          · subst e; simp; omega
          · by_cases e2 : j < i
            · simp [e, e2, show j < i + 1 by omega]
            · simp [e, e2, show ¬ j < i + 1 by omega]
        have hs1 : (listed.setIfInBounds i true).getD s false = false := by rw [hl1]; simp
        have c2 := count_set (ops := ops) hss hs1 hsz1
        have hl2 : ∀ j, ((listed.setIfInBounds i true).setIfInBounds s true).getD j false = decide (j < i + 1) := fun j => by
          rw [set_getD (hsz1 ▸ hss), hl1]
          by_cases e : j = s
          · subst e; simp; omega
          · simp [e]
        have c3 := count_from (ops := ops) hl2 (by omega)
        have nxt : ∀ a w, wpList P ops Q (ops[s] :: ops.toList.drop (i + 1)) a w → wpAny P .any ops Q fuel (listed.setIfInBounds i true) a w := fun a w h => by
          obtain ⟨f, rfl⟩ : ∃ f, fuel = f + 1 := ⟨fuel - 1, by omega⟩
          have hld : ∀ j, j < ops.size → (listed.setIfInBounds i true).getD j true = (listed.setIfInBounds i true).getD j false := fun j hj => by
            simp only [Array.getD_eq_getD_getElem?, Array.getElem?_eq_getElem (show j < (listed.setIfInBounds i true).size by omega), Option.getD_some]
          have hready : s ∈ Region.ready .any ops (listed.setIfInBounds i true) := mem_ready.2 ⟨by rw [hld s hss, hs1], _, hse, fun e he hb => by
            have := (hok s _ hse).direct e he hb
            rw [hl1]; simp; omega⟩
          refine ⟨fun h0 => (by rw [h0] at hready; cases hready), fun k hk => ?_⟩
          obtain ⟨k0, ok, hok2, hall2⟩ := mem_ready.1 hk
          have hks := (Array.getElem?_eq_some_iff.1 hok2).1
          rw [hld k hks, hl1] at k0
          have hks2 : k = s := by
            by_cases e : k = s
            · exact e
            · exfalso
              have hkm : i + 1 ≤ k := by simp at k0; omega
              have hcl2 := (hok k ok hok2).danc (fun j => (listed.setIfInBounds i true).getD j false = true) hall2 (fun y hy j hj => by
                rw [hl1] at hy ⊢
                simp at hy ⊢
                have hyd := (hok y _ (Array.getElem?_eq_getElem (show y < ops.size by omega))).dlt j hj
                refine ⟨by omega, fun e2 => ?_⟩
                subst e2
                rcases Nat.lt_or_ge y i with h3 | h3
                · have := hcl y (hT y ⟨h3, hy.2⟩) j hj
                  rw [hls0] at this
                  cases this
                · have : y = i := by omega
                  subst this
                  have := hDl j hj
                  rw [hls0] at this
                  cases this)
              have := hcl2 s ((hok k ok hok2).tail hkm s (by omega))
              rw [hs1] at this
              cases this
          subst hks2
          unfold wpOp
          simp only [hse]
          have hw : Region.wanted ops[k] (yielded ops a.tmps) = true := by simp [Region.wanted, (hok k _ hse).guard]
          simp only [wpList, hw, if_true] at h ⊢
          have nxt2 : ∀ a w, wpList P ops Q (ops.toList.drop (i + 1)) a w → wpAny P .any ops Q f ((listed.setIfInBounds i true).setIfInBounds k true) a w := fun a w h =>
            net_tail2 hok f (i + 1) _ a w (by omega) (by omega) (by simpa using hls) hl2 h
          rcases h with h | h
          · exact .inl (Oper.wp_mono nxt2 h)
          · exact .inr h
        unfold wpOp
        simp only [ho]
        simp only [wpList, hwant, if_true] at h2 ⊢
        rcases h2 with h | h
        · exact .inl (Oper.wp_mono (fun a w h => nxt a w (by simpa only [wpList] using h)) h)
        · exact .inr h
      have hli : listed.getD i false = false := by
        rw [← h0]
        simp [Array.getD_eq_getD_getElem?, Array.getElem?_eq_getElem (show i < listed.size by omega)]
      have hpre := hdo i o him ho x w hb (fun j hj => ⟨hkn j (hDl j hj), (hiv j (hDl j hj)).2.2⟩) (fun e b w' => e = .normal ∧ ∃ u, b = (netAct ops a0 x.v i).put o.dst u ∧ (Below w.heap.size w w' ∧ (sp.getD i (.eq undef)).holds i (D.getD i []) (x.set i u w.heap.size w'.heap.size) w'))
        (fun u w' h1 h2 => ⟨rfl, u, rfl, h1, h2⟩)
      have hnl : ¬ LetsOut (fun (e : Exit) (b : Act) (w' : World) => e = .normal ∧ ∃ u, b = (netAct ops a0 x.v i).put o.dst u ∧ (Below w.heap.size w w' ∧ (sp.getD i (.eq undef)).holds i (D.getD i []) (x.set i u w.heap.size w'.heap.size) w')) := by
        rintro ⟨b, w', h, _⟩
        cases h
      simp only [wpList, hwant, if_true] at hpre
      rcases hpre with hpre | hpre
      case inr => exact absurd hpre.2 hnl
      simp only [true_and] at hpre
      have hexec : execOp (actP ops a0 x.v (fun j => listed.getD j false) ops.size).eval o = execOp (netAct ops a0 x.v i).eval o := by
        refine execOp_congr o (fun cs b => Region.noSelect_spec hns i o cs b ho) fun y hx => ?_
        by_cases hxt : ∃ t, y = .tmp t
        · obtain ⟨t, rfl⟩ := hxt
          have hlook : t ∈ o.looksAt ops := List.mem_append_left _ (List.mem_filterMap.2 ⟨.tmp t, by simpa using hx, rfl⟩)
          have e1 : netAct ops a0 x.v i = actP ops a0 x.v (fun j => decide (j < i)) ops.size := by
            rw [actP_none (p := fun j => decide (j < i)) ops.size i (by omega) (fun j h1 _ => by simp; omega)]
            exact (actP_net (p := fun j => decide (j < i)) i (fun j hj => by simp [hj])).symm
          rw [e1]
          refine actP_eval t ops.size fun j hj hd => ?_
          rcases hO.looks j t hd hlook with h | h
          · rw [hDl j h]; have := hO.dlt j h; simp [this]
          · have hlt := (hok j _ (Array.getElem?_eq_getElem hj)).dlt i h
            have : listed.getD j false = false := by
              rcases hlj : listed.getD j false with _ | _
              · rfl
              · have := hcl j hlj i h
                rw [hli] at this
                cases this
            rw [this]; simp; omega
        · exact actP_evalC y (fun t h => hxt ⟨t, h⟩) _ _
      have hsz : (netAct ops a0 x.v i).tmps.size = (actP ops a0 x.v (fun j => listed.getD j false) ops.size).tmps.size := by
        rw [actP_size, ← actP_net (p := fun _ => true) i (fun _ _ => rfl), actP_size]
      have hT := wp_transfer (Q2 := Q) hexec hsz (fun c b w' h => by cases h.1) hnl hpre
      unfold wpOp
      simp only [ho, hwant, if_true]
      refine .inl (Oper.wp_mono ?_ hT)
      rintro b w' ⟨u, rfl, hbw, hh⟩
      have hdst : o.dst = dstAt ops i := by simp [dstAt, ho]
      have hlq : ∀ j, (listed.setIfInBounds i true).getD j false = (listed.getD j false || j == i) := fun j => by
        by_cases e : i = j
        · subst e
          simp [Array.getD_eq_getD_getElem?, Array.getElem?_setIfInBounds, hls, his]
        · rw [getD_set_ne _ e]
          simp [Ne.symm e]
      rw [hdst, actP_add (v' := (x.set i u w.heap.size w'.heap.size).v) (q := fun j => (listed.setIfInBounds i true).getD j false) (fun j hj _ => by simp [Gh.set, hj]) (by simp [Gh.set]) hli hlq (fun j d hij hlj hdj hdi => by
        rcases hO.dsts j d (by omega) hdj hdi with h | h
        · have := hO.dlt j h; omega
        · have := hcl j hlj i h
          rw [hli] at this
          cases this) ops.size his]
      refine ih _ _ _ ?_ (by simpa using hls) (fun j hj => by rw [hlq, hlm j hj]; simp; omega) (fun k hk j hj => ?_) (hb.trans (hbw.mono hb.size)) (fun k hk => ?_) (fun k hk => ?_) (fun k j hk hj hkj => ?_)
      · have := count_set (ops := ops) his hli hls
        omega
      · rw [hlq] at hk ⊢
        simp only [Bool.or_eq_true, beq_iff_eq] at hk ⊢
        rcases hk with hk | rfl
        · exact .inl (hcl k hk j hj)
        · exact .inl (hDl j hj)
      · rw [hlq] at hk
        simp only [Bool.or_eq_true, beq_iff_eq] at hk
        unfold known
        by_cases e : k = i
        · subst e
          exact hh
        · rcases hk with hk | hk
          · refine NS.holds_congr (x := x) (fun j hj => ?_) (NS.holds_stable (hst' k) (hkn k hk) hbw)
            have hji : j ≠ i := by
              rcases hj with rfl | hj
              · exact e
              · rintro rfl
                have := hcl k hk j hj
                rw [hli] at this
                cases this
            simp [Gh.set, hji]
          · exact absurd hk e
      · rw [hlq] at hk
        simp only [Bool.or_eq_true, beq_iff_eq] at hk
        by_cases e : k = i
        · subst e
          simp only [Gh.set, if_true]
          exact ⟨hb.size, hbw.size, Nat.le_refl _⟩
        · have := hiv k (hk.resolve_right e)
          have := hbw.size
          simp only [Gh.set, if_neg e]
          omega
      · rw [hlq] at hk hj
        simp only [Bool.or_eq_true, beq_iff_eq] at hk hj
        by_cases e : k = i
        · subst e
          have := hiv j (hj.resolve_right (Ne.symm hkj))
          simp only [Gh.set, if_true, if_neg (Ne.symm hkj)]
          exact .inr (by omega)
        · by_cases e' : j = i
          · subst e'
            have := hiv k (hk.resolve_right e)
            simp only [Gh.set, if_true, if_neg e]
            exact .inl (by omega)
          · simp only [Gh.set, if_neg e, if_neg e']
            exact hdj k j (hk.resolve_right e) (hj.resolve_right e') hkj

/-- the test: the tail begins at m, and of the net only s may come behind its first operation -/
def netB2 (ops : Array Oper) (D : List (List Nat)) (m s : Nat) : Bool := netB ops D (m + 1) && (decide (m < ops.size) && decide (s < m) && (List.range m).all fun j => j == s || (D.getD m []).contains j)
theorem wp_region_net2 {id : Nat} {l : List Oper} {w : World} (hmo : P.follows .mixedOrders = true) (sp : List NS) (D : List (List Nat)) (m s : Nat) (L : List Nat) (hB : netB2 l.toArray D m s = true) (hL : L = (List.range m).filter (fun j => j != s)) (hst : stableAll sp)
    (hdo : netAll P l.toArray sp D a0 w 0 (l.take m))
    (hend : ∀ x w', Below w.heap.size w w' → (∀ i, i < m → known sp D x i w') → (∀ i, i < m → w.heap.size ≤ x.lo i ∧ x.lo i ≤ x.hi i ∧ x.hi i ≤ w'.heap.size) → (∀ i j, i < m → j < m → i ≠ j → x.hi i ≤ x.lo j ∨ x.hi j ≤ x.lo i) → wpList P l.toArray Q (l.drop m) (netAct l.toArray a0 x.v m) w')
    (hend2 : ∀ x w', Below w.heap.size w w' → (∀ i, i < m ∧ i ≠ s → known sp D x i w') → (∀ i, i < m ∧ i ≠ s → w.heap.size ≤ x.lo i ∧ x.lo i ≤ x.hi i ∧ x.hi i ≤ w'.heap.size) → (∀ i j, i < m ∧ i ≠ s → j < m ∧ j ≠ s → i ≠ j → x.hi i ≤ x.lo j ∨ x.hi j ≤ x.lo i) → ∀ om os, l[m]? = some om → l[s]? = some os → wpList P l.toArray Q (om :: os :: l.drop (m + 1)) (L.foldl (fun a k => a.put (dstAt l.toArray k) (x.v k)) a0) w') : (Code.region id l.toArray true).wp P Q a0 w := by
  replace hst := stableAll_spec hst
  subst hL
  simp only [netB2, Bool.and_eq_true, decide_eq_true_eq, List.all_eq_true, List.mem_range, Bool.or_eq_true, beq_iff_eq, List.contains_iff_mem, List.contains_eq_mem] at hB
  obtain ⟨hB, ⟨hms, hsm⟩, hDm⟩ := hB
  have hdo : ∀ i o, i < m → l[i]? = some o → netDo P l.toArray sp D a0 w.drew i o := fun i o hi ho => by
    have := netAll_spec (l.take m) 0 hdo i o (by rw [List.getElem?_take, if_pos hi]; exact ho)
    rw [Nat.zero_add] at this
    exact fun v w1 hb => this v w1 ⟨hb.os, hb.tape, hb.output, hb.size, hb.block⟩
  refine wp_region_any hmo ?_
  have h := net_any2 (w0 := w.drew) (a0 := a0) (Q := Q) (P := P) (sp := sp) (s := s) hB hms hsm (fun j hj hne => (hDm j hj).resolve_left hne) hst (fun i o hi ho => hdo i o hi (by simpa using ho)) (fun x w' hb hk hiv hdj => by simpa using hend x w' (show Below w.heap.size w w' from ⟨hb.os, hb.tape, hb.output, hb.size, hb.block⟩) hk hiv hdj)
    (fun x w' hb hk hiv hdj om os hom hos => by rw [actP_fold]; simpa using hend2 x w' (show Below w.heap.size w w' from ⟨hb.os, hb.tape, hb.output, hb.size, hb.block⟩) hk hiv hdj om os (by simpa using hom) (by simpa using hos))
    l.toArray.size (Array.replicate l.toArray.size false) ⟨fun _ => undef, fun _ => 0, fun _ => 0⟩ w.drew
    (by rw [List.filter_eq_self.2 (fun j _ => by rw [repl_getD]; rfl), List.length_range])
    (by simp) (fun j _ => repl_getD _ _)
    (fun i hi => by rw [repl_getD] at hi; cases hi)
    (Below.refl _ _)
    (fun i hi => by rw [repl_getD] at hi; cases hi)
    (fun i hi => by rw [repl_getD] at hi; cases hi)
    (fun i j hi => by rw [repl_getD] at hi; cases hi)
  have e : actP l.toArray a0 (fun _ => undef) (fun j => (Array.replicate l.toArray.size false).getD j false) l.toArray.size = a0 :=
    actP_none l.toArray.size 0 (by omega) (fun j _ _ => repl_getD _ _)
  rw [e] at h
  exact h
end
end Go.Proofs.Ytjhllgldllbaaaa

/- The reference's transposed matrix. -/
namespace Go.Proofs.Ytjhllgldllbaaaa
set_option linter.unusedVariables false
set_option linter.unusedSimpArgs false
open Go.RowKit

/-- cells of the transposed matrix, filled row by row of the given one -/
def trK (f : Nat → Nat → Int) (i k a b : Nat) : Int := if b < i ∨ (b = i ∧ a < k) then f b a else 0
theorem trK_0 (r c : Nat) (f : Nat → Nat → Int) : flat c r (fun _ _ => 0) = flat c r (trK f 0 0) := flat_congr fun a b _ _ => by simp [trK]
theorem trK_put {r c i k : Nat} (f : Nat → Nat → Int) (hi : i < r) (hk : k < c) : (flat c r (trK f i k)).set (k * r + i) (f i k) = flat c r (trK f i (k + 1)) := by
  rw [flat_set _ _ hk hi]
  refine flat_congr fun a b _ _ => ?_
  simp only [trK]
  (repeat' split) <;> first | rfl | omega | (rename_i h _; rw [h.1, h.2])
theorem trK_next (r c i : Nat) (f : Nat → Nat → Int) : flat c r (trK f i c) = flat c r (trK f (i + 1) 0) := by
  refine flat_congr fun a b ha _ => ?_
  simp only [trK]
  (repeat' split) <;> first | rfl | omega
theorem trK_r (r c : Nat) (f : Nat → Nat → Int) : flat c r (trK f r 0) = flat c r (fun a b => f b a) := flat_congr fun a b _ hb => by simp [trK, hb]

set_option maxHeartbeats 3200000 in
theorem l3Transpose_any (u : Value) (r c : Nat) (f : Nat → Nat → Int) (w0 : World) (hu : MxR w0 w0.heap.size u (mxF r c f)) (hr : r ≤ 1000) (hc : c ≤ 1000) :
    Calls Try.prog 196 #[u] w0 fun e w' => ∃ v, e = .returned v ∧ MxO w' w0.heap.size w'.heap.size v (mxF c r (fun a b => f b a)) ∧ Below w0.heap.size w0 w' := by
  obtain ⟨U, uc, rfl, hs, i1, i2, hl⟩ := hu.open_
  clear hu
  simp only [mxF] at hs hl i1 i2 ⊢
  have HS := Lib.hid hs
  obtain ⟨L, hL⟩ : ∃ L, (flat r c f).length = L := ⟨_, rfl⟩
  have HL := Lib.hid hL
  rw [hL] at hl ⊢
  obtain ⟨W, hW⟩ : ∃ W, W = (w0.alloc (.cells #[.int .i64 r, .int .i64 c, .slice U L uc] 75)).alloc (.cells #[.int .i64 0, .int .i64 0, .slice none 0 0] 75) := ⟨_, rfl⟩
  have g0 : Below w0.heap.size w0 W := by rw [hW]; exact ((Below.refl _ _).alloc (Nat.le_refl _) _).alloc (by simp) _
  have k1 : Blk W w0.heap.size 75 #[.int .i64 r, .int .i64 c, .slice U L uc] := by rw [hW]; exact (Blk.new _ _ _).alloc _
  have k2 : Blk W (w0.heap.size + 1) 75 #[.int .i64 0, .int .i64 0, .slice none 0 0] := by
    rw [hW]
    have := Blk.new (w0.alloc (.cells #[.int .i64 r, .int .i64 c, .slice U L uc] 75)) 75 #[.int .i64 0, .int .i64 0, .slice none 0 0]
    simpa only [World.size_alloc] using this
  have sz : W.heap.size = w0.heap.size + 1 + 1 := by rw [hW]; simp
  have K1 := Lib.hid k1
  have K2 := Lib.hid k2
  have SZ := Lib.hid sz
  have q0 := k1.cell' (i := 0) rfl
  have q1 := k1.cell' (i := 1) rfl
  clear k1 k2 sz hs hL
  go_enter Try.func196, Try.ntmps196
  go_wp2_with fail
  rw [← hW]; clear hW
  refine (l3Zero_any (c : Int) r W (by omega) (by omega) (by omega) (by omega)).mono ?_; rintro e w1 ⟨v1, rfl, ⟨sA, rfl, oA, hr2, hc2⟩, hb1⟩
  rw [zmx_flat] at oA hr2 hc2 ⊢
  simp only [mxF] at oA hr2 hc2 ⊢
  rw [trK_0 r c f] at oA
  obtain ⟨A1, c1, e1⟩ := oA.form
  obtain ⟨N, hN⟩ : ∃ N, c * r = N := ⟨_, rfl⟩
  rw [flat_length, hN] at e1
  subst e1
  have HN := Lib.hid hN
  clear hN q0 q1
  have s1 := hb1.size
  obtain ⟨W4, hW4⟩ : ∃ W4, W4 = w1.alloc (.cells #[.int .i64 c, .int .i64 r, .slice A1 N c1] 75) := ⟨_, rfl⟩
  have b4 : Below w1.heap.size w1 W4 := by rw [hW4]; exact below_alloc _ _
  have k4 : Blk W4 w1.heap.size 75 #[.int .i64 c, .int .i64 r, .slice A1 N c1] := by rw [hW4]; exact Blk.new _ _ _
  have oA := oA.below b4
  have gW := bthen hb1 b4
  clear b4 hb1
  go_wp2
  rw [← hW4]; clear hW4
  go_loopw [4] (fun i wr => ∃ j : Nat, j ≤ r ∧ i = .int .i64 j ∧ Blk wr w1.heap.size 75 #[.int .i64 c, .int .i64 r, .slice A1 N c1] ∧ IntsO wr W.heap.size w1.heap.size (.slice A1 N c1) (flat c r (trK f j 0)) ∧ Below W.heap.size W wr) (fun i _ => r - (intOf i).toNat)
  case atStart => exact ⟨0, Nat.zero_le _, rfl, k4, oA, gW⟩
  case round =>
    clear k4 oA gW
    obtain ⟨j, hj, rfl, k4, oA, gW⟩ := hrel
    have s6 := gW.size
    have k1 := (K1.out).below gW (by have := SZ.out; omega)
    have q0 := k1.cell' (i := 0) rfl
    by_cases hlt : j < r
    · go_wp2
      clear k1 q0
      go_loopw [5] (fun i wr => ∃ k : Nat, k ≤ c ∧ i = .int .i64 k ∧ Blk wr w1.heap.size 75 #[.int .i64 c, .int .i64 r, .slice A1 N c1] ∧ IntsO wr W.heap.size w1.heap.size (.slice A1 N c1) (flat c r (trK f j k)) ∧ Below W.heap.size W wr) (fun i _ => c - (intOf i).toNat)
      case atStart => exact ⟨0, Nat.zero_le _, rfl, k4, oA, gW⟩
      case round =>
        clear k4 oA gW s6
        obtain ⟨k, hk, rfl, k4, oA, gW⟩ := hrel
        have s6 := gW.size
        have k1 := (K1.out).below gW (by have := SZ.out; omega)
        have q1 := k1.cell' (i := 1) rfl
        by_cases hlk : k < c
        · obtain ⟨P, J, hP, hPJ, hJ, hJN, hJb⟩ := ix_walk hlk hlt hc hr
          rw [HN.out] at hJN
          have hst := trK_put f hlt hlk
          rw [← hJ] at hst
          subst hPJ
          obtain ⟨P2, J2, hP2, hPJ2, hJ2, hJN2, hJb2⟩ := ix_walk hlt hlk hr hc
          have hs := HS.out
          obtain ⟨b, o, x, rfl, hb, HX, x1, xr⟩ := SlI.at_ (k := P2 + k) hs (by rw [flat_length]; omega)
          have hx := HX.out
          rw [hPJ2, hJ2, flat_get f hlt hlk] at hx
          injection hx with hx
          subst hx
          have hJL : P2 + k < L := by rw [← HL.out, flat_length]; omega
          have gww : Below w0.heap.size w0 wr := g0.trans (gW.mono g0.size)
          have gwws := gww.size
          have x2 := bcell gww hb x1
          obtain ⟨gA, cA, eA, a1, a2, a3⟩ := oA.at_ (by rw [flat_length, HN.out]; omega)
          rw [flat_length, HN.out] at eA
          injection eA with eA1 eA2 eA3
          subst eA1 eA3
          have hP' := Lib.hid hP
          have hP2' := Lib.hid hP2
          clear hs HX x1 hJ hJ2 hPJ2 hJN2
          go_wp2
          refine wp_region_net (by kernel_rfl) [.eq (.pointer (some ⟨w1.heap.size, 2, none⟩)), .eq (.slice (some ⟨gA, 0, none⟩) N c1), .eq (.int .i64 k), .eq (.pointer (some ⟨w0.heap.size, 0, none⟩)), .eq (.int .i64 r), .eq (.int .i64 P), .eq (.int .i64 j), .eq (.int .i64 ((P : Int) + j)), .eq (.pointer (some ⟨w0.heap.size, 2, none⟩)), .eq (.slice (some ⟨b, o, none⟩) L uc), .eq (.int .i64 j), .eq (.pointer (some ⟨w0.heap.size, 1, none⟩)), .eq (.int .i64 c), .eq (.int .i64 P2), .eq (.int .i64 k), .eq (.int .i64 ((P2 : Int) + k)), .eq (.pointer (some ⟨b, o + (P2 + k), none⟩)), .eq (.int .i64 (f j k)), .eq (.pointer (some ⟨gA, P + j, none⟩))] [[], [0], [], [], [3], [2, 3, 4], [], [2, 3, 4, 5, 6], [], [8], [], [], [11], [10, 11, 12], [], [10, 11, 12, 13, 14], [8, 9, 10, 11, 12, 13, 14, 15], [8, 9, 10, 11, 12, 13, 14, 15, 16], [0, 1, 2, 3, 4, 5, 6, 7, 8, 9, 10, 11, 12, 13, 14, 15, 16, 17], [0, 1, 2, 3, 4, 5, 6, 7, 8, 9, 10, 11, 12, 13, 14, 15, 16, 17, 18]] 19 (by kernel_rfl) ⟨trivial, trivial, trivial, trivial, trivial, trivial, trivial, trivial, trivial, trivial, trivial, trivial, trivial, trivial, trivial, trivial, trivial, trivial, trivial, trivial⟩ ⟨?_, ?_, ?_, ?_, ?_, ?_, ?_, ?_, ?_, ?_, ?_, ?_, ?_, ?_, ?_, ?_, ?_, ?_, ?_, trivial⟩ ?_
          · intro x w hb hk Q' hQ
            clear hk
            simp only [netAct, dstAt, List.getElem?_toArray, List.getElem?_cons_zero, List.getElem?_cons_succ, Option.bind_some, Act.put, List.setIfInBounds_toArray, List.set_cons_zero, List.set_cons_succ] at hQ ⊢
            go_wp2
            exact hQ (.pointer (some ⟨w1.heap.size, 2, none⟩)) _ (Below.refl _ _) rfl
          · intro x w hb hk Q' hQ
            have h0 : x.v 0 = .pointer (some ⟨w1.heap.size, 2, none⟩) := (hk 0 (by decide)).1
            clear hk
            simp only [netAct, dstAt, List.getElem?_toArray, List.getElem?_cons_zero, List.getElem?_cons_succ, Option.bind_some, Act.put, List.setIfInBounds_toArray, List.set_cons_zero, List.set_cons_succ] at hQ ⊢
            simp only [h0] at hQ ⊢
            clear h0
            have z2 := (k4.call hb).cell' (i := 2) rfl
            go_wp2
            exact hQ (.slice (some ⟨gA, 0, none⟩) N c1) _ (Below.refl _ _) rfl
          · intro x w hb hk Q' hQ
            clear hk
            simp only [netAct, dstAt, List.getElem?_toArray, List.getElem?_cons_zero, List.getElem?_cons_succ, Option.bind_some, Act.put, List.setIfInBounds_toArray, List.set_cons_zero, List.set_cons_succ] at hQ ⊢
            go_wp2
            exact hQ (.int .i64 k) _ (Below.refl _ _) rfl
          · intro x w hb hk Q' hQ
            clear hk
            simp only [netAct, dstAt, List.getElem?_toArray, List.getElem?_cons_zero, List.getElem?_cons_succ, Option.bind_some, Act.put, List.setIfInBounds_toArray, List.set_cons_zero, List.set_cons_succ] at hQ ⊢
            go_wp2
            exact hQ (.pointer (some ⟨w0.heap.size, 0, none⟩)) _ (Below.refl _ _) rfl
          · intro x w hb hk Q' hQ
            have h3 : x.v 3 = .pointer (some ⟨w0.heap.size, 0, none⟩) := (hk 3 (by decide)).1
            clear hk
            simp only [netAct, dstAt, List.getElem?_toArray, List.getElem?_cons_zero, List.getElem?_cons_succ, Option.bind_some, Act.put, List.setIfInBounds_toArray, List.set_cons_zero, List.set_cons_succ] at hQ ⊢
            simp only [h3] at hQ ⊢
            clear h3
            have z2 := (k1.call hb).cell' (i := 0) rfl
            go_wp2
            exact hQ (.int .i64 r) _ (Below.refl _ _) rfl
          · intro x w hb hk Q' hQ
            have h2 : x.v 2 = .int .i64 k := (hk 2 (by decide)).1
            have h4 : x.v 4 = .int .i64 r := (hk 4 (by decide)).1
            clear hk
            simp only [netAct, dstAt, List.getElem?_toArray, List.getElem?_cons_zero, List.getElem?_cons_succ, Option.bind_some, Act.put, List.setIfInBounds_toArray, List.set_cons_zero, List.set_cons_succ] at hQ ⊢
            simp only [h2, h4] at hQ ⊢
            clear h2 h4
            go_wp2
            rw [hP'.out]
            exact hQ (.int .i64 P) _ (Below.refl _ _) rfl
          · intro x w hb hk Q' hQ
            clear hk
            simp only [netAct, dstAt, List.getElem?_toArray, List.getElem?_cons_zero, List.getElem?_cons_succ, Option.bind_some, Act.put, List.setIfInBounds_toArray, List.set_cons_zero, List.set_cons_succ] at hQ ⊢
            go_wp2
            exact hQ (.int .i64 j) _ (Below.refl _ _) rfl
          · intro x w hb hk Q' hQ
            have h5 : x.v 5 = .int .i64 P := (hk 5 (by decide)).1
            have h6 : x.v 6 = .int .i64 j := (hk 6 (by decide)).1
            clear hk
            simp only [netAct, dstAt, List.getElem?_toArray, List.getElem?_cons_zero, List.getElem?_cons_succ, Option.bind_some, Act.put, List.setIfInBounds_toArray, List.set_cons_zero, List.set_cons_succ] at hQ ⊢
            simp only [h5, h6] at hQ ⊢
            clear h5 h6
            go_wp2
            exact hQ (.int .i64 ((P : Int) + j)) _ (Below.refl _ _) rfl
          · intro x w hb hk Q' hQ
            clear hk
            simp only [netAct, dstAt, List.getElem?_toArray, List.getElem?_cons_zero, List.getElem?_cons_succ, Option.bind_some, Act.put, List.setIfInBounds_toArray, List.set_cons_zero, List.set_cons_succ] at hQ ⊢
            go_wp2
            exact hQ (.pointer (some ⟨w0.heap.size, 2, none⟩)) _ (Below.refl _ _) rfl
          · intro x w hb hk Q' hQ
            have h8 : x.v 8 = .pointer (some ⟨w0.heap.size, 2, none⟩) := (hk 8 (by decide)).1
            clear hk
            simp only [netAct, dstAt, List.getElem?_toArray, List.getElem?_cons_zero, List.getElem?_cons_succ, Option.bind_some, Act.put, List.setIfInBounds_toArray, List.set_cons_zero, List.set_cons_succ] at hQ ⊢
            simp only [h8] at hQ ⊢
            clear h8
            have z2 := (k1.call hb).cell' (i := 2) rfl
            go_wp2
            exact hQ (.slice (some ⟨b, o, none⟩) L uc) _ (Below.refl _ _) rfl
          · intro x w hb hk Q' hQ
            clear hk
            simp only [netAct, dstAt, List.getElem?_toArray, List.getElem?_cons_zero, List.getElem?_cons_succ, Option.bind_some, Act.put, List.setIfInBounds_toArray, List.set_cons_zero, List.set_cons_succ] at hQ ⊢
            go_wp2
            exact hQ (.int .i64 j) _ (Below.refl _ _) rfl
          · intro x w hb hk Q' hQ
            clear hk
            simp only [netAct, dstAt, List.getElem?_toArray, List.getElem?_cons_zero, List.getElem?_cons_succ, Option.bind_some, Act.put, List.setIfInBounds_toArray, List.set_cons_zero, List.set_cons_succ] at hQ ⊢
            go_wp2
            exact hQ (.pointer (some ⟨w0.heap.size, 1, none⟩)) _ (Below.refl _ _) rfl
          · intro x w hb hk Q' hQ
            have h11 : x.v 11 = .pointer (some ⟨w0.heap.size, 1, none⟩) := (hk 11 (by decide)).1
            clear hk
            simp only [netAct, dstAt, List.getElem?_toArray, List.getElem?_cons_zero, List.getElem?_cons_succ, Option.bind_some, Act.put, List.setIfInBounds_toArray, List.set_cons_zero, List.set_cons_succ] at hQ ⊢
            simp only [h11] at hQ ⊢
            clear h11
            have z2 := (k1.call hb).cell' (i := 1) rfl
            go_wp2
            exact hQ (.int .i64 c) _ (Below.refl _ _) rfl
          · intro x w hb hk Q' hQ
            have h10 : x.v 10 = .int .i64 j := (hk 10 (by decide)).1
            have h12 : x.v 12 = .int .i64 c := (hk 12 (by decide)).1
            clear hk
            simp only [netAct, dstAt, List.getElem?_toArray, List.getElem?_cons_zero, List.getElem?_cons_succ, Option.bind_some, Act.put, List.setIfInBounds_toArray, List.set_cons_zero, List.set_cons_succ] at hQ ⊢
            simp only [h10, h12] at hQ ⊢
            clear h10 h12
            go_wp2
            rw [hP2'.out]
            exact hQ (.int .i64 P2) _ (Below.refl _ _) rfl
          · intro x w hb hk Q' hQ
            clear hk
            simp only [netAct, dstAt, List.getElem?_toArray, List.getElem?_cons_zero, List.getElem?_cons_succ, Option.bind_some, Act.put, List.setIfInBounds_toArray, List.set_cons_zero, List.set_cons_succ] at hQ ⊢
            go_wp2
            exact hQ (.int .i64 k) _ (Below.refl _ _) rfl
          · intro x w hb hk Q' hQ
            have h13 : x.v 13 = .int .i64 P2 := (hk 13 (by decide)).1
            have h14 : x.v 14 = .int .i64 k := (hk 14 (by decide)).1
            clear hk
            simp only [netAct, dstAt, List.getElem?_toArray, List.getElem?_cons_zero, List.getElem?_cons_succ, Option.bind_some, Act.put, List.setIfInBounds_toArray, List.set_cons_zero, List.set_cons_succ] at hQ ⊢
            simp only [h13, h14] at hQ ⊢
            clear h13 h14
            go_wp2
            exact hQ (.int .i64 ((P2 : Int) + k)) _ (Below.refl _ _) rfl
          · intro x w hb hk Q' hQ
            have h9 : x.v 9 = .slice (some ⟨b, o, none⟩) L uc := (hk 9 (by decide)).1
            have h15 : x.v 15 = .int .i64 ((P2 : Int) + k) := (hk 15 (by decide)).1
            clear hk
            simp only [netAct, dstAt, List.getElem?_toArray, List.getElem?_cons_zero, List.getElem?_cons_succ, Option.bind_some, Act.put, List.setIfInBounds_toArray, List.set_cons_zero, List.set_cons_succ] at hQ ⊢
            simp only [h9, h15] at hQ ⊢
            clear h9 h15
            go_wp2
            exact hQ (.pointer (some ⟨b, o + (P2 + k), none⟩)) _ (Below.refl _ _) rfl
          · intro x w hb hk Q' hQ
            have h16 : x.v 16 = .pointer (some ⟨b, o + (P2 + k), none⟩) := (hk 16 (by decide)).1
            clear hk
            simp only [netAct, dstAt, List.getElem?_toArray, List.getElem?_cons_zero, List.getElem?_cons_succ, Option.bind_some, Act.put, List.setIfInBounds_toArray, List.set_cons_zero, List.set_cons_succ] at hQ ⊢
            simp only [h16] at hQ ⊢
            clear h16
            have z2 := bcell hb (by omega) x2
            go_wp2
            exact hQ (.int .i64 (f j k)) _ (Below.refl _ _) rfl
          · intro x w hb hk Q' hQ
            have h1 : x.v 1 = .slice (some ⟨gA, 0, none⟩) N c1 := (hk 1 (by decide)).1
            have h7 : x.v 7 = .int .i64 ((P : Int) + j) := (hk 7 (by decide)).1
            clear hk
            simp only [netAct, dstAt, List.getElem?_toArray, List.getElem?_cons_zero, List.getElem?_cons_succ, Option.bind_some, Act.put, List.setIfInBounds_toArray, List.set_cons_zero, List.set_cons_succ] at hQ ⊢
            simp only [h1, h7] at hQ ⊢
            clear h1 h7
            go_wp2
            exact hQ (.pointer (some ⟨gA, P + j, none⟩)) _ (Below.refl _ _) rfl
          · intro x w hb hk hiv hdj
            have h0 : x.v 0 = .pointer (some ⟨w1.heap.size, 2, none⟩) := hk 0 (by decide)
            have h1 : x.v 1 = .slice (some ⟨gA, 0, none⟩) N c1 := hk 1 (by decide)
            have h2 : x.v 2 = .int .i64 k := hk 2 (by decide)
            have h3 : x.v 3 = .pointer (some ⟨w0.heap.size, 0, none⟩) := hk 3 (by decide)
            have h4 : x.v 4 = .int .i64 r := hk 4 (by decide)
            have h5 : x.v 5 = .int .i64 P := hk 5 (by decide)
            have h6 : x.v 6 = .int .i64 j := hk 6 (by decide)
            have h7 : x.v 7 = .int .i64 ((P : Int) + j) := hk 7 (by decide)
            have h8 : x.v 8 = .pointer (some ⟨w0.heap.size, 2, none⟩) := hk 8 (by decide)
            have h9 : x.v 9 = .slice (some ⟨b, o, none⟩) L uc := hk 9 (by decide)
            have h10 : x.v 10 = .int .i64 j := hk 10 (by decide)
            have h11 : x.v 11 = .pointer (some ⟨w0.heap.size, 1, none⟩) := hk 11 (by decide)
            have h12 : x.v 12 = .int .i64 c := hk 12 (by decide)
            have h13 : x.v 13 = .int .i64 P2 := hk 13 (by decide)
            have h14 : x.v 14 = .int .i64 k := hk 14 (by decide)
            have h15 : x.v 15 = .int .i64 ((P2 : Int) + k) := hk 15 (by decide)
            have h16 : x.v 16 = .pointer (some ⟨b, o + (P2 + k), none⟩) := hk 16 (by decide)
            have h17 : x.v 17 = .int .i64 (f j k) := hk 17 (by decide)
            have h18 : x.v 18 = .pointer (some ⟨gA, P + j, none⟩) := hk 18 (by decide)
            clear hk
            simp only [netAct, dstAt, List.getElem?_toArray, List.getElem?_cons_zero, List.getElem?_cons_succ, Option.bind_some, Act.put, List.setIfInBounds_toArray, List.set_cons_zero, List.set_cons_succ]
            simp only [List.drop_succ_cons, List.drop_zero, h0, h1, h2, h3, h4, h5, h6, h7, h8, h9, h10, h11, h12, h13, h14, h15, h16, h17, h18]
            clear h0 h1 h2 h3 h4 h5 h6 h7 h8 h9 h10 h11 h12 h13 h14 h15 h16 h17 h18
            have oB := oA.below hb
            have k4b := k4.call hb
            have fA := oB.1.frozenG (P + j)
            have cA := (oB.1.cellG (j := P + j) (by rw [flat_length, HN.out]; omega)).1
            have hws := hb.size
            have hc1 : Chg W.heap.size w1.heap.size w (w.setCell ⟨gA, P + j, none⟩ (.int .i64 (f j k))) := chg_set a1 a2
            have oA2 := oB.put (j := P + j) (x := f j k) xr
            rw [hst] at oA2
            have OA2 := Lib.hid oA2
            have K4 := Lib.hid (k4b.chg hc1 (by omega))
            have GW := Lib.hid ((gW.trans (hb.mono s6)).trans (hc1.below (Nat.le_refl _) (by omega)))
            clear oA2 k4 oA gW hc1 hst oB k4b hiv hdj hb k1 q1
            go_wp2
            go_roundw
            case rel => exact ⟨k + 1, by omega, by go_num, K4.out, OA2.out, GW.out⟩
            case measure => simp [intOf]; omega
        · obtain rfl : k = c := by omega
          rw [trK_next] at oA
          have OA := Lib.hid oA
          have K4 := Lib.hid k4
          have GW := Lib.hid gW
          clear oA k4 gW k1
          go_wp2
          go_roundw
          case rel => exact ⟨j + 1, by omega, by go_num, K4.out, OA.out, GW.out⟩
          case measure => simp [intOf]; omega
    · obtain rfl : j = r := by omega
      rw [trK_r] at oA
      have k2 := K2.out.below gW (by have := SZ.out; omega)
      have z0 := k4.cell' (i := 0) rfl
      have z1 := k4.cell' (i := 1) rfl
      have z2 := k4.cell' (i := 2) rfl
      have p0 := k2.cell' (i := 0) rfl
      have p1 := k2.cell' (i := 1) rfl
      have p2 := k2.cell' (i := 2) rfl
      have f2 := k2.frozen
      have h2 := chg3 wr (w0.heap.size + 1) (.int .i64 (c : Int)) (.int .i64 j) (.slice A1 N c1)
      have gw : Below w0.heap.size w0 wr := g0.trans (gW.mono g0.size)
      have gs := gw.size
      have oA2 := (oA.chg h2 (.inr (by have := SZ.out; omega))).wider (lo' := w0.heap.size) (hi' := wr.heap.size) (by have := SZ.out; omega) (by have := k4.lt; omega)
      have fg := gw.trans (h2.below (by omega) gs)
      have OA2 := Lib.hid oA2
      have FG := Lib.hid fg
      clear oA oA2 fg gw h2 k2 k4 gW k1
      go_wp2
      exact bodyPost_ret (v := .agg #[.int .i64 (c : Int), .int .i64 j, .slice A1 N c1]) (by simp [results, go_sem, p0, p1, p2]) rfl ⟨_, rfl, ⟨_, rfl, by simpa using OA2.out, hr2, hc2⟩, FG.out⟩
end Go.Proofs.Ytjhllgldllbaaaa

/- The law of Net.lean, for a region in which one operation of the net (g) writes into memory that operations ahead of it made (an append): behind it only equations and what waits for it are known. -/
namespace Go.Proofs.Ytjhllgldllbaaaa
set_option linter.unusedVariables false
set_option linter.unusedSimpArgs false
open Go.RowKit
section
variable {P : Program}
section
variable {ops : Array Oper} {Q : Exit → Act → World → Prop} {sp : List NS} {D N : List (List Nat)} {m g : Nat} {a0 : Act} {w0 : World} {E : Nat → Bool}
/-- what is to be shown of operation i: at g the memory from w0's size on may have been turned -/
def netDoC (P : Program) (ops : Array Oper) (sp : List NS) (D N : List (List Nat)) (g : Nat) (a0 : Act) (w0 : World) (i : Nat) (o : Oper) : Prop :=
  ∀ (x : Gh) (w : World), Below w0.heap.size w0 w → (∀ j ∈ N.getD i [], known sp D x j w ∧ x.hi j ≤ w.heap.size) → ∀ Q' : Exit → Act → World → Prop,
    (∀ u w', Below (bif i == g then w0.heap.size else w.heap.size) w w' → (sp.getD i (.eq undef)).holds i (D.getD i []) (x.set i u w.heap.size w'.heap.size) w' → Q' .normal ((netAct ops a0 x.v i).put o.dst u) w') → wpList P ops Q' [o] (netAct ops a0 x.v i) w

theorem net_anyC (hB : netB ops D m = true) (hst : ∀ s ∈ sp, s.stable) (hgm : g < m) (hE : ∀ i, E i = true → i = g ∨ g ∈ D.getD i [] ∨ ∃ u, sp.getD i (.eq undef) = .eq u) (hN : ∀ i, i < m → ∀ j ∈ N.getD i [], j ∈ D.getD i [] ∧ (i = g ∨ i ∈ D.getD g [] ∨ E j = true)) (hdo : ∀ i o, i < m → ops[i]? = some o → netDoC P ops sp D N g a0 w0 i o)
    (hend : ∀ x w, Below w0.heap.size w0 w → (∀ i, i < m → E i = true → known sp D x i w) → (∀ i, i < m → w0.heap.size ≤ x.lo i ∧ x.lo i ≤ x.hi i ∧ x.hi i ≤ w.heap.size) → (∀ i j, i < m → j < m → i ≠ j → x.hi i ≤ x.lo j ∨ x.hi j ≤ x.lo i) → wpList P ops Q (ops.toList.drop m) (netAct ops a0 x.v m) w) :
    ∀ (fuel : Nat) (listed : Array Bool) (x : Gh) (w : World), ((List.range ops.size).filter fun j => !listed.getD j false).length = fuel → listed.size = ops.size → (∀ j, m ≤ j → listed.getD j false = false) →
      (∀ i, listed.getD i false = true → ∀ j ∈ D.getD i [], listed.getD j false = true) → Below w0.heap.size w0 w → (∀ i, listed.getD i false = true → listed.getD g false = false ∨ E i = true → known sp D x i w) → (∀ i, listed.getD i false = true → w0.heap.size ≤ x.lo i ∧ x.lo i ≤ x.hi i ∧ x.hi i ≤ w.heap.size) →
      (∀ i j, listed.getD i false = true → listed.getD j false = true → i ≠ j → x.hi i ≤ x.lo j ∨ x.hi j ≤ x.lo i) →
      wpAny P .any ops Q fuel listed (actP ops a0 x.v (fun j => listed.getD j false) ops.size) w := by
  simp only [netB, Bool.and_eq_true, decide_eq_true_eq] at hB
  obtain ⟨⟨hm, hns⟩, hnf⟩ := hB
  have hok : ∀ i o, ops[i]? = some o → NetOk ops D m i o := fun i o ho => netAt_spec (by
    have := netFrom_spec ops.toList 0 hnf i o (by simpa using ho)
    simpa using this)
  have hst' : ∀ i, (sp.getD i (.eq undef)).stable := fun i => by
    rw [List.getD_eq_getElem?_getD]
    rcases h : sp[i]? with _ | s
    · trivial
    · exact hst s (List.mem_of_getElem? h)
  intro fuel
  induction fuel with
  | zero =>
    intro listed x w hc hls hlm hcl hb hkn hiv hdj
    -- all are listed: then m is the region's size
    have hall : ∀ j, j < ops.size → listed.getD j false = true := fun j hj => by
      rw [List.length_eq_zero_iff, List.filter_eq_nil_iff] at hc
      have := hc j (List.mem_range.2 hj)
      simpa using this
    have hms : m = ops.size := by
      rcases Nat.lt_or_ge m ops.size with h | h
      · have := hall m h
        rw [hlm m (Nat.le_refl _)] at this
        cases this
      · omega
    refine net_tail hok 0 ops.size listed _ w (by omega) (by omega) hls (fun j => ?_) ?_
    · by_cases hj : j < ops.size
      · rw [hall j hj]; simp [hj]
      · rw [hlm j (by omega)]; simp [hj]
    · have := hend x w hb (fun i hi he => hkn i (hall i (by omega)) (.inr he)) (fun i hi => hiv i (hall i (by omega))) (fun i j hi hj => hdj i j (hall i (by omega)) (hall j (by omega)))
      rw [← actP_net (p := fun j => listed.getD j false) m (fun j hj => hall j (by omega))] at this
      rwa [hms] at this
  | succ fuel ih =>
    intro listed x w hc hls hlm hcl hb hkn hiv hdj
    by_cases hfull : ∀ j, j < m → listed.getD j false = true
    · -- the tail
      have hl : ∀ j, listed.getD j false = decide (j < m) := fun j => by
        by_cases hj : j < m
        · rw [hfull j hj]; simp [hj]
        · rw [hlm j (by omega)]; simp [hj]
      have hcnt : fuel + 1 + m = ops.size := by
        rw [← hc]
        have e : (List.range ops.size).filter (fun j => !listed.getD j false) = (List.range' m (ops.size - m)) := by
          have e1 : (List.range ops.size) = List.range m ++ List.range' m (ops.size - m) := by
            have h := List.range'_append_1 (s := 0) (m := m) (n := ops.size - m)
            rw [Nat.zero_add] at h
            rw [List.range_eq_range', List.range_eq_range', h]
            congr 1
            omega
          rw [e1, List.filter_append]
          rw [List.filter_eq_nil_iff.2 (fun j hj => by rw [hl]; simp at hj ⊢; exact hj), List.nil_append]
          rw [List.filter_eq_self.2 (fun j hj => by rw [hl]; simp [List.mem_range'] at hj ⊢; omega)]
        rw [e, List.length_range']
        omega
      refine net_tail hok (fuel + 1) m listed _ w (by omega) (Nat.le_refl _) hls hl ?_
      have := hend x w hb (fun i hi he => hkn i (hfull i hi) (.inr he)) (fun i hi => hiv i (hfull i hi)) (fun i j hi hj => hdj i j (hfull i hi) (hfull j hj))
      rw [← actP_net (p := fun j => listed.getD j false) m hfull] at this
      rwa [actP_none (p := fun j => listed.getD j false) ops.size m hm (fun j h1 _ => hlm j h1)]
    · -- one of the net
      have hne : Region.ready .any ops listed ≠ [] := by
        intro h0
        -- the least that is not listed is ready
        have : ∀ n, ∀ j, j < n → j < m → listed.getD j false = true := by
          intro n
          induction n with
          | zero => intro j hj; omega
          | succ n ihn =>
            intro j hj hjm
            by_cases e : j < n
            · exact ihn j e hjm
            · rcases hlj : listed.getD j false with _ | _
              · exfalso
                have hjs : j < ops.size := by omega
                have hje := Array.getElem?_eq_getElem hjs
                have : j ∈ Region.ready .any ops listed := mem_ready.2 ⟨by
                  rw [← hlj]
                  simp [Array.getD_eq_getD_getElem?, Array.getElem?_eq_getElem (show j < listed.size by omega)], _, hje, fun e he hb => by
                  have := (hok j _ hje).direct e he hb
                  exact ihn e.on (by omega) (by omega)⟩
                rw [h0] at this
                cases this
              · rfl
        exact hfull fun j hj => this (j + 1) j (by omega) hj
      refine ⟨fun h0 => absurd h0 hne, fun i hi => ?_⟩
      obtain ⟨h0, o, ho, hall⟩ := mem_ready.1 hi
      have his := (Array.getElem?_eq_some_iff.1 ho).1
      have hO := hok i o ho
      have hDl : ∀ j ∈ D.getD i [], listed.getD j false = true := hO.danc (fun j => listed.getD j false = true) hall (fun k hk j hj => hcl k hk j hj)
      have him : i < m := by
        rcases Nat.lt_or_ge i m with h | h
        · exact h
        · exact absurd (fun j hj => hDl j (hO.tail h j (by omega))) hfull
      have hli : listed.getD i false = false := by
        rw [← h0]
        simp [Array.getD_eq_getD_getElem?, Array.getElem?_eq_getElem (show i < listed.size by omega)]
      have hgi : i ≠ g → listed.getD g false = true → i ∉ D.getD g [] := fun _ hg hD => by
        have := hcl g hg i hD
        rw [hli] at this
        cases this
      have hpre := hdo i o him ho x w hb (fun j hj => ⟨hkn j (hDl j (hN i him j hj).1) (by
          rcases (hN i him j hj).2 with h | h | h
          · subst h; exact .inl hli
          · rcases hg : listed.getD g false with _ | _
            · exact .inl rfl
            · by_cases e : i = g
              · subst e; rw [hli] at hg; cases hg
              · exact absurd h (hgi e hg)
          · exact .inr h), (hiv j (hDl j (hN i him j hj).1)).2.2⟩) (fun e b w' => e = .normal ∧ ∃ u, b = (netAct ops a0 x.v i).put o.dst u ∧ (Below (bif i == g then w0.heap.size else w.heap.size) w w' ∧ (sp.getD i (.eq undef)).holds i (D.getD i []) (x.set i u w.heap.size w'.heap.size) w'))
        (fun u w' h1 h2 => ⟨rfl, u, rfl, h1, h2⟩)
      have hwant : ∀ b : Act, Region.wanted o (yielded ops b.tmps) = true := fun b => by simp [Region.wanted, hO.guard]
      have hnl : ¬ LetsOut (fun (e : Exit) (b : Act) (w' : World) => e = .normal ∧ ∃ u, b = (netAct ops a0 x.v i).put o.dst u ∧ (Below (bif i == g then w0.heap.size else w.heap.size) w w' ∧ (sp.getD i (.eq undef)).holds i (D.getD i []) (x.set i u w.heap.size w'.heap.size) w')) := by
        rintro ⟨b, w', h, _⟩
        cases h
      simp only [wpList, hwant, if_true] at hpre
      rcases hpre with hpre | hpre
      case inr => exact absurd hpre.2 hnl
      simp only [true_and] at hpre
      have hexec : execOp (actP ops a0 x.v (fun j => listed.getD j false) ops.size).eval o = execOp (netAct ops a0 x.v i).eval o := by
        refine execOp_congr o (fun cs b => Region.noSelect_spec hns i o cs b ho) fun y hx => ?_
        by_cases hxt : ∃ t, y = .tmp t
        · obtain ⟨t, rfl⟩ := hxt
          have hlook : t ∈ o.looksAt ops := List.mem_append_left _ (List.mem_filterMap.2 ⟨.tmp t, by simpa using hx, rfl⟩)
          have e1 : netAct ops a0 x.v i = actP ops a0 x.v (fun j => decide (j < i)) ops.size := by
            rw [actP_none (p := fun j => decide (j < i)) ops.size i (by omega) (fun j h1 _ => by simp; omega)]
            exact (actP_net (p := fun j => decide (j < i)) i (fun j hj => by simp [hj])).symm
          rw [e1]
          refine actP_eval t ops.size fun j hj hd => ?_
          rcases hO.looks j t hd hlook with h | h
          · rw [hDl j h]; have := hO.dlt j h; simp [this]
          · have hlt := (hok j _ (Array.getElem?_eq_getElem hj)).dlt i h
            have : listed.getD j false = false := by
              rcases hlj : listed.getD j false with _ | _
              · rfl
              · have := hcl j hlj i h
                rw [hli] at this
                cases this
            rw [this]; simp; omega
        · exact actP_evalC y (fun t h => hxt ⟨t, h⟩) _ _
      have hsz : (netAct ops a0 x.v i).tmps.size = (actP ops a0 x.v (fun j => listed.getD j false) ops.size).tmps.size := by
        rw [actP_size, ← actP_net (p := fun _ => true) i (fun _ _ => rfl), actP_size]
      have hT := wp_transfer (Q2 := Q) hexec hsz (fun c b w' h => by cases h.1) hnl hpre
      unfold wpOp
      simp only [ho, hwant, if_true]
      refine .inl (Oper.wp_mono ?_ hT)
      rintro b w' ⟨u, rfl, hbw, hh⟩
      have hbw0 : Below w0.heap.size w w' := by
        rcases hig : (i == g) with _ | _
        · rw [hig] at hbw; exact Below.mono hbw hb.size
        · rw [hig] at hbw; exact hbw
      have hdst : o.dst = dstAt ops i := by simp [dstAt, ho]
      have hlq : ∀ j, (listed.setIfInBounds i true).getD j false = (listed.getD j false || j == i) := fun j => by
        by_cases e : i = j
        · subst e
          simp [Array.getD_eq_getD_getElem?, Array.getElem?_setIfInBounds, hls, his]
        · rw [getD_set_ne _ e]
          simp [Ne.symm e]
      rw [hdst, actP_add (v' := (x.set i u w.heap.size w'.heap.size).v) (q := fun j => (listed.setIfInBounds i true).getD j false) (fun j hj _ => by simp [Gh.set, hj]) (by simp [Gh.set]) hli hlq (fun j d hij hlj hdj hdi => by
        rcases hO.dsts j d (by omega) hdj hdi with h | h
        · have := hO.dlt j h; omega
        · have := hcl j hlj i h
          rw [hli] at this
          cases this) ops.size his]
      refine ih _ _ _ ?_ (by simpa using hls) (fun j hj => by rw [hlq, hlm j hj]; simp; omega) (fun k hk j hj => ?_) (hb.trans hbw0) (fun k hk hal => ?_) (fun k hk => ?_) (fun k j hk hj hkj => ?_)
      · -- the count
        have hmem : i ∈ (List.range ops.size).filter fun j => !listed.getD j false := by
          rw [List.mem_filter]; exact ⟨List.mem_range.2 his, by rw [hli]; rfl⟩
        have e : (List.range ops.size).filter (fun j => !(listed.setIfInBounds i true).getD j false) = ((List.range ops.size).filter fun j => !listed.getD j false).filter (fun j => j != i) := by
          rw [List.filter_filter]
          congr 1
          funext j
          rw [hlq]
          simp [Bool.not_or, Bool.and_comm, bne]
        have hnd : ((List.range ops.size).filter fun j => !listed.getD j false).Nodup := List.nodup_range.filter _
        rw [e]
        have := List.length_erase_of_mem hmem
        rw [hnd.erase_eq_filter, hc] at this
        simpa using this
      · rw [hlq] at hk ⊢
        simp only [Bool.or_eq_true, beq_iff_eq] at hk ⊢
        rcases hk with hk | rfl
        · exact .inl (hcl k hk j hj)
        · exact .inl (hDl j hj)
      · rw [hlq] at hk
        simp only [Bool.or_eq_true, beq_iff_eq] at hk
        unfold known
        by_cases e : k = i
        · subst e
          exact hh
        · rcases hk with hk | hk
          · have hst1 : (sp.getD k (.eq undef)).holds k (D.getD k []) x w' := by
              by_cases eg : i = g
              · subst eg
                rw [hlq] at hal
                simp only [beq_self_eq_true, Bool.or_true, Bool.true_eq_false, false_or] at hal
                rcases hE k hal with h | h | ⟨u', h⟩
                · exact absurd h e
                · have := hcl k hk i h
                  rw [hli] at this
                  cases this
                · have hkk := hkn k hk (.inr hal)
                  unfold known at hkk
                  rw [h] at hkk ⊢
                  exact hkk
              · have hig : (i == g) = false := by simpa using eg
                rw [hig] at hbw
                refine NS.holds_stable (hst' k) (hkn k hk ?_) hbw
                rw [hlq] at hal
                simpa [Ne.symm eg] using hal
            refine NS.holds_congr (x := x) (fun j hj => ?_) hst1
            have hji : j ≠ i := by
              rcases hj with rfl | hj
              · exact e
              · rintro rfl
                have := hcl k hk j hj
                rw [hli] at this
                cases this
            simp [Gh.set, hji]
          · exact absurd hk e
      · rw [hlq] at hk
        simp only [Bool.or_eq_true, beq_iff_eq] at hk
        by_cases e : k = i
        · subst e
          simp only [Gh.set, if_true]
          exact ⟨hb.size, hbw0.size, Nat.le_refl _⟩
        · have := hiv k (hk.resolve_right e)
          have := hbw0.size
          simp only [Gh.set, if_neg e]
          omega
      · rw [hlq] at hk hj
        simp only [Bool.or_eq_true, beq_iff_eq] at hk hj
        by_cases e : k = i
        · subst e
          have := hiv j (hj.resolve_right (Ne.symm hkj))
          simp only [Gh.set, if_true, if_neg (Ne.symm hkj)]
          exact .inr (by omega)
        · by_cases e' : j = i
          · subst e'
            have := hiv k (hk.resolve_right e)
            simp only [Gh.set, if_true, if_neg e]
            exact .inl (by omega)
          · simp only [Gh.set, if_neg e, if_neg e']
            exact hdj k j (hk.resolve_right e) (hj.resolve_right e') hkj

def netAllC (P : Program) (ops : Array Oper) (sp : List NS) (D N : List (List Nat)) (g : Nat) (a0 : Act) (w0 : World) : Nat → List Oper → Prop
  | _, [] => True
  | i, o :: l => netDoC P ops sp D N g a0 w0 i o ∧ netAllC P ops sp D N g a0 w0 (i + 1) l
theorem netAllC_spec {ops : Array Oper} {sp : List NS} {D N : List (List Nat)} {g : Nat} {a0 : Act} {w0 : World} : ∀ (l : List Oper) (k : Nat), netAllC P ops sp D N g a0 w0 k l → ∀ j o, l[j]? = some o → netDoC P ops sp D N g a0 w0 (k + j) o
  | [], _, _, _, _, h => by simp at h
  | x :: l, k, h, 0, o, hj => by
    simp at hj
    subst hj
    exact h.1
  | x :: l, k, h, j + 1, o, hj => by
    have := netAllC_spec l (k + 1) h.2 j o (by simpa using hj)
    rwa [show k + 1 + j = k + (j + 1) by omega] at this
/-- what is known behind g -/
def consB (sp : List NS) (D : List (List Nat)) (g : Nat) : List Nat → Prop
  | [] => True
  | i :: l => (i = g ∨ (D.getD i []).contains g = true ∨ ∃ u, sp.getD i (.eq undef) = .eq u) ∧ consB sp D g l
theorem consB_spec {sp : List NS} {D : List (List Nat)} {g : Nat} : ∀ {l : List Nat}, consB sp D g l → ∀ i, i ∈ l → i = g ∨ g ∈ D.getD i [] ∨ ∃ u, sp.getD i (.eq undef) = .eq u
  | [], _, i, hi => by simp at hi
  | a :: l, h, i, hi => by
    rcases List.mem_cons.1 hi with rfl | hi
    · rcases h.1 with h | h | h
      · exact .inl h
      · exact .inr (.inl (by simpa using h))
      · exact .inr (.inr h)
    · exact consB_spec h.2 i hi
/-- THE LAW. -/
theorem wp_region_netC {id : Nat} {l : List Oper} {w : World} (hmo : P.follows .mixedOrders = true) (sp : List NS) (D N : List (List Nat)) (E : List Nat) (m g : Nat) (hB : netB l.toArray D m = true) (hgm : (decide (g < m) && (List.range m).all fun i => (N.getD i []).all fun j => (D.getD i []).contains j && (i == g || (D.getD g []).contains i || E.contains j)) = true) (hE : consB sp D g E) (hst : stableAll sp)
    (hdo : netAllC P l.toArray sp D N g a0 w 0 (l.take m))
    (hend : ∀ x w', Below w.heap.size w w' → (∀ i, i < m → E.contains i = true → known sp D x i w') → (∀ i, i < m → w.heap.size ≤ x.lo i ∧ x.lo i ≤ x.hi i ∧ x.hi i ≤ w'.heap.size) → (∀ i j, i < m → j < m → i ≠ j → x.hi i ≤ x.lo j ∨ x.hi j ≤ x.lo i) → wpList P l.toArray Q (l.drop m) (netAct l.toArray a0 x.v m) w') : (Code.region id l.toArray true).wp P Q a0 w := by
  replace hst := stableAll_spec hst
  have hdo : ∀ i o, i < m → l[i]? = some o → netDoC P l.toArray sp D N g a0 w.drew i o := fun i o hi ho => by
    have := netAllC_spec (l.take m) 0 hdo i o (by rw [List.getElem?_take, if_pos hi]; exact ho)
    rw [Nat.zero_add] at this
    exact fun v w1 hb => this v w1 ⟨hb.os, hb.tape, hb.output, hb.size, hb.block⟩
  simp only [Bool.and_eq_true, decide_eq_true_eq, List.all_eq_true, List.mem_range, Bool.or_eq_true, List.contains_iff_mem, beq_iff_eq] at hgm
  refine wp_region_any hmo ?_
  have h := net_anyC (w0 := w.drew) (a0 := a0) (Q := Q) (P := P) (sp := sp) (E := fun i => E.contains i) (N := N) (g := g) hB hst hgm.1 (fun i hi => consB_spec hE i (by simpa using hi)) (fun i hi j hj => by obtain ⟨h1, h2⟩ := hgm.2 i hi j hj; exact ⟨h1, h2.elim (fun h2 => h2.elim .inl (fun h2 => .inr (.inl h2))) (fun h2 => .inr (.inr (by simpa using h2)))⟩) (fun i o hi ho => hdo i o hi (by simpa using ho)) (fun x w' hb hk hiv hdj => by simpa using hend x w' (show Below w.heap.size w w' from ⟨hb.os, hb.tape, hb.output, hb.size, hb.block⟩) hk hiv hdj)
    l.toArray.size (Array.replicate l.toArray.size false) ⟨fun _ => undef, fun _ => 0, fun _ => 0⟩ w.drew
    (by rw [List.filter_eq_self.2 (fun j _ => by rw [repl_getD]; rfl), List.length_range])
    (by simp) (fun j _ => repl_getD _ _)
    (fun i hi => by rw [repl_getD] at hi; cases hi)
    (Below.refl _ _)
    (fun i hi => by rw [repl_getD] at hi; cases hi)
    (fun i hi => by rw [repl_getD] at hi; cases hi)
    (fun i j hi => by rw [repl_getD] at hi; cases hi)
  have e : actP l.toArray a0 (fun _ => undef) (fun j => (Array.replicate l.toArray.size false).getD j false) l.toArray.size = a0 :=
    actP_none l.toArray.size 0 (by omega) (fun j _ _ => repl_getD _ _)
  rw [e] at h
  exact h
end
end
end Go.Proofs.Ytjhllgldllbaaaa

/- Matrices beside each other and below each other: the program's. -/
namespace Go.Proofs.Ytjhllgldllbaaaa
set_option linter.unusedVariables false
set_option linter.unusedSimpArgs false
open Go.RowKit

/-- a beside b: the first c columns are a's -/
def bsF (c : Nat) (f g : Nat → Nat → Int) (a b : Nat) : Int := if b < c then f a b else g a (b - c)
/-- a above b -/
def blF (r : Nat) (f g : Nat → Nat → Int) (a b : Nat) : Int := if a < r then f a b else g (a - r) b
theorem rowsF_app (r s c : Nat) (f g : Nat → Nat → Int) : rowsF r c f ++ rowsF s c g = rowsF (r + s) c (blF r f g) := by
  apply List.ext_getElem?
  intro i
  by_cases h1 : i < r
  · rw [List.getElem?_append_left (by rw [rowsF_length]; exact h1), rowsF_get _ h1, rowsF_get _ (by omega)]
    congr 1
    exact rowF_congr fun b _ => by simp [blF, h1]
  · rw [List.getElem?_append_right (by rw [rowsF_length]; omega), rowsF_length]
    by_cases h2 : i < r + s
    · rw [rowsF_get _ (by omega), rowsF_get _ h2]
      congr 1
      exact rowF_congr fun b _ => by simp [blF, h1]
    · rw [List.getElem?_eq_none (by rw [rowsF_length]; omega), List.getElem?_eq_none (by rw [rowsF_length]; omega)]
theorem colsF_app (r c d : Nat) (f g : Nat → Nat → Int) : rowsF c r (fun a b => f b a) ++ rowsF d r (fun a b => g b a) = rowsF (c + d) r (fun a b => bsF c f g b a) := rowsF_app c d r _ _

/-- append of one list of rows onto another of the call's own -/
theorem wpList_appSS {w : World} {ops : Array Oper} {rest : List Oper} {o : Oper} {a : Act} {Q : Exit → Act → World → Prop} (hgd : o.guard = none) (s x : Operand)
    (ho : o.op = .call { callee := .builtin .append, args := #[s, x], argTypes := #[65, 65] })
    (lo hi lo' hi' : Nat) (v v2 : Value) (l1 l2 : List (List Int)) (hs : a.eval s = v) (hown : IntssO w lo hi v l1) (hx : a.eval x = v2) (hown2 : IntssO w lo' hi' v2 l2) (hd : hi ≤ lo' ∨ hi' ≤ lo)
    (hn : l1.length + l2.length ≤ 1048576) (hlo : lo ≤ w.heap.size) (hhi : hi ≤ w.heap.size)
    (h : ∀ v' w', SlII w' w'.heap.size v' (l1 ++ l2) → Below lo w w' → wpList Try.prog ops Q rest (a.put o.dst v') w') : wpList Try.prog ops Q (o :: rest) a w := by
  obtain ⟨vs1, o1, e1, F1⟩ := hown
  obtain ⟨vs2, o2, e2, F2⟩ := hown2
  obtain ⟨A2, c2, ev2, _, _⟩ := o2.form
  subst ev2
  obtain ⟨i0, hi0, hz0, hz1, hz2⟩ := info_parts infoInts
  have hrd2 := o2
  refine wpList_append_G w hgd s x _ ho lo 22 i0 _ 1 24 Try.underlying65 hi0 hz0 hz1 hz2 rfl (by decide) v vs1.length _ hs o1.1 A2 vs2.length c2 vs2 hx ?_ ?_ (by simp only [maxLen]; omega) (by omega) hlo fun v' w' h1 h2 h3 => ?_
  · refine ⟨by simp, ?_⟩
    rcases Nat.eq_zero_or_pos vs2.length with h0 | h0
    · exact .inl h0
    · rcases o2.1.2 with ⟨e, h1⟩ | ⟨g, cap, cur, e, _, hg, hnc, hcm, hcs, htake⟩
      · omega
      · injection e with ea eb ec
        refine .inr ⟨g, 0, ea, fun j u hj => ?_⟩
        have hc := o2.1
        rw [ea] at hc
        have := hc.cellAt j (by have := lt_of_some hj; omega)
        rw [Nat.zero_add, this, hj]
  · intro u hu
    obtain ⟨j, hj⟩ := List.getElem?_of_mem hu
    have hjl := lt_of_some hj
    have hm := F2.1 (u, l2[j]'(by omega)) (by rw [List.mem_iff_getElem?]; exact ⟨j, by rw [List.getElem?_zip_eq_some]; exact ⟨hj, List.getElem?_eq_getElem _⟩⟩)
    obtain ⟨A, c, e⟩ := hm.form
    rw [show u = _ from e]
    rfl
  · have ho' : OutO w' lo w'.heap.size v' (vs1 ++ vs2) := ⟨by simpa using h1, fun k hk => (h1.lt k hk).2, by simp; omega⟩
    refine h v' w' (OutO.rd ho' (by simp [e1, e2]) fun p hp => ?_) (below_grown h2 (fun k hk => (o1.1.lt k hk).1) hlo)
    rw [List.zip_append e1] at hp
    rcases List.mem_append.1 hp with hp | hp
    · exact ((Fam.grownO F1 o1.1 h2).1 p hp).rd
    · exact ((Fam.grownO F2 o1.1 h2).1 p hp).rd
set_option maxHeartbeats 3200000 in
theorem beside_any (u v : Value) (r c d : Nat) (f g : Nat → Nat → Int) (w0 : World) (hu : MxR w0 w0.heap.size u (mxF r c f)) (hv : MxR w0 w0.heap.size v (mxF r d g)) (hr : r ≤ 500) (hc : c ≤ 500) (hd : d ≤ 500) :
    Calls Try.prog 155 #[u, v] w0 fun e w' => ∃ v, e = .returned v ∧ MxO w' w0.heap.size w'.heap.size v (mxF r (c + d) (bsF c f g)) ∧ Below w0.heap.size w0 w' := by
  have hu' := hu
  have hv' := hv
  obtain ⟨U, uc, rfl⟩ := hu.form
  obtain ⟨V, vc, rfl⟩ := hv.form
  obtain ⟨L, hL⟩ : ∃ L, (mxF r c f).a.length = L := ⟨_, rfl⟩
  obtain ⟨L', hL'⟩ : ∃ L, (mxF r d g).a.length = L := ⟨_, rfl⟩
  have z1 : (mxF r c f).r = (r : Int) := rfl
  have z2 : (mxF r c f).c = (c : Int) := rfl
  have z3 : (mxF r d g).r = (r : Int) := rfl
  have z4 : (mxF r d g).c = (d : Int) := rfl
  rw [hL, z1, z2] at hu' ⊢
  rw [hL', z3, z4] at hv' ⊢
  clear hu hv hL hL' z1 z2 z3 z4
  obtain ⟨W, hW⟩ : ∃ W, W = ((w0.alloc (.cells #[.int .i64 r, .int .i64 c, .slice U L uc] 75)).alloc (.cells #[.int .i64 r, .int .i64 d, .slice V L' vc] 75)).alloc (.cells #[.int .i64 0, .int .i64 0, .slice none 0 0] 75) := ⟨_, rfl⟩
  have g0 : Below w0.heap.size w0 W := by rw [hW]; exact (((Below.refl _ _).alloc (Nat.le_refl _) _).alloc (by simp) _).alloc (by simp; omega) _
  have k1 : Blk W w0.heap.size 75 #[.int .i64 r, .int .i64 c, .slice U L uc] := by rw [hW]; exact ((Blk.new _ _ _).alloc _).alloc _
  have k2 : Blk W (w0.heap.size + 1) 75 #[.int .i64 r, .int .i64 d, .slice V L' vc] := by
    rw [hW]
    have := (Blk.new (w0.alloc (.cells #[.int .i64 r, .int .i64 c, .slice U L uc] 75)) 75 #[.int .i64 r, .int .i64 d, .slice V L' vc]).alloc (.cells #[.int .i64 0, .int .i64 0, .slice none 0 0] 75)
    simpa only [World.size_alloc] using this
  have k3 : Blk W (w0.heap.size + 1 + 1) 75 #[.int .i64 0, .int .i64 0, .slice none 0 0] := by
    rw [hW]
    have := Blk.new ((w0.alloc (.cells #[.int .i64 r, .int .i64 c, .slice U L uc] 75)).alloc (.cells #[.int .i64 r, .int .i64 d, .slice V L' vc] 75)) 75 #[.int .i64 0, .int .i64 0, .slice none 0 0]
    simpa only [World.size_alloc] using this
  have sz : W.heap.size = w0.heap.size + 1 + 1 + 1 := by rw [hW]; simp
  have HU := Lib.hid (MxR.next g0 hu')
  have HV := Lib.hid (MxR.next g0 hv')
  have SZ := Lib.hid sz
  clear sz hu' hv'
  go_enter Try.func155, Try.ntmps155
  go_wp2
  rw [← hW]; clear hW
  refine wp_region_netC (by kernel_rfl) [.eq (.pointer (some ⟨w0.heap.size, 0, none⟩)), .eq (.int .i64 r), .eq (.agg #[.int .i64 r, .int .i64 c, .slice U L uc]), rel 3 (fun u lo hi w => IntssO w lo hi u (rowsF c r (fun a b => f b a)) ∧ W.heap.size ≤ lo ∧ lo ≤ hi), .eq (.agg #[.int .i64 r, .int .i64 d, .slice V L' vc]), .rel (fun x w => IntssO w (x.lo 5) (x.hi 5) (x.v 5) (rowsF d r (fun a b => g b a)) ∧ x.hi 3 ≤ x.lo 5), .rel (fun x w => SlII w w.heap.size (x.v 6) (rowsF (c + d) r (fun a b => bsF c f g b a))), rel 7 (fun u lo hi w => MxO w lo hi u (mxF r (c + d) (bsF c f g)))] [[], [0], [], [2], [], [2, 3, 4], [2, 3, 4, 5], [0, 1, 2, 3, 4, 5, 6], [0, 1, 2, 3, 4, 5, 6, 7]] [[], [0], [], [2], [], [2, 3, 4], [2, 3, 4, 5], [0, 1, 2, 4, 6]] [0, 1, 2, 4, 6, 7] 8 6 (by kernel_rfl) (by kernel_rfl) ⟨.inr (.inr ⟨_, rfl⟩), .inr (.inr ⟨_, rfl⟩), .inr (.inr ⟨_, rfl⟩), .inr (.inr ⟨_, rfl⟩), .inl rfl, .inr (.inl rfl), trivial⟩ ⟨trivial, trivial, trivial, rel_stable (fun u lo hi w w' h hb => ⟨h.1.below hb, h.2⟩), trivial, fun x w w' h hb => ⟨h.1.below hb, h.2⟩, fun x w w' h hb => SlII.next hb h, rel_stable (fun u lo hi w w' h hb => h.below hb), trivial⟩ ⟨?_, ?_, ?_, ?_, ?_, ?_, ?_, ?_, trivial⟩ ?_
  · intro x w hb hk Q' hQ
    clear hk
    simp only [netAct, dstAt, List.getElem?_toArray, List.getElem?_cons_zero, List.getElem?_cons_succ, Option.bind_some, Act.put, List.setIfInBounds_toArray, List.set_cons_zero, List.set_cons_succ] at hQ ⊢
    go_wp2
    exact hQ (.pointer (some ⟨w0.heap.size, 0, none⟩)) _ (Below.refl _ _) rfl
  · intro x w hb hk Q' hQ
    have h0 : x.v 0 = .pointer (some ⟨w0.heap.size, 0, none⟩) := (hk 0 (by decide)).1
    clear hk
    simp only [netAct, dstAt, List.getElem?_toArray, List.getElem?_cons_zero, List.getElem?_cons_succ, Option.bind_some, Act.put, List.setIfInBounds_toArray, List.set_cons_zero, List.set_cons_succ] at hQ ⊢
    simp only [h0] at hQ ⊢
    clear h0
    have z2 := (k1.below hb k1.lt).cell' (i := 0) rfl
    go_wp2
    exact hQ (.int .i64 r) _ (Below.refl _ _) rfl
  · intro x w hb hk Q' hQ
    clear hk
    simp only [netAct, dstAt, List.getElem?_toArray, List.getElem?_cons_zero, List.getElem?_cons_succ, Option.bind_some, Act.put, List.setIfInBounds_toArray, List.set_cons_zero, List.set_cons_succ] at hQ ⊢
    have z0 := (k1.below hb k1.lt).cell' (i := 0) rfl
    have z1 := (k1.below hb k1.lt).cell' (i := 1) rfl
    have z2 := (k1.below hb k1.lt).cell' (i := 2) rfl
    go_wp2
    exact hQ (.agg #[.int .i64 r, .int .i64 c, .slice U L uc]) _ (Below.refl _ _) rfl
  · intro x w hb hk Q' hQ
    have h2 : x.v 2 = .agg #[.int .i64 r, .int .i64 c, .slice U L uc] := (hk 2 (by decide)).1
    clear hk
    simp only [netAct, dstAt, List.getElem?_toArray, List.getElem?_cons_zero, List.getElem?_cons_succ, Option.bind_some, Act.put, List.setIfInBounds_toArray, List.set_cons_zero, List.set_cons_succ] at hQ ⊢
    simp only [h2] at hQ ⊢
    clear h2
    go_wp2_with fail
    refine (columns_any _ r c f _ (MxR.more hb.size (MxR.below hb HU.out)) (by omega) (by omega)).mono ?_; rintro e w5 ⟨v5, rfl, hO5, hb5⟩
    go_wp2
    exact hQ _ _ hb5 ⟨hO5, hb.size, hb5.size⟩
  · intro x w hb hk Q' hQ
    clear hk
    simp only [netAct, dstAt, List.getElem?_toArray, List.getElem?_cons_zero, List.getElem?_cons_succ, Option.bind_some, Act.put, List.setIfInBounds_toArray, List.set_cons_zero, List.set_cons_succ] at hQ ⊢
    have z0 := (k2.below hb k2.lt).cell' (i := 0) rfl
    have z1 := (k2.below hb k2.lt).cell' (i := 1) rfl
    have z2 := (k2.below hb k2.lt).cell' (i := 2) rfl
    go_wp2
    exact hQ (.agg #[.int .i64 r, .int .i64 d, .slice V L' vc]) _ (Below.refl _ _) rfl
  · intro x w hb hk Q' hQ
    have h2 : x.v 2 = .agg #[.int .i64 r, .int .i64 c, .slice U L uc] := (hk 2 (by decide)).1
    have h3 : IntssO w (x.lo 3) (x.hi 3) (x.v 3) (rowsF c r (fun a b => f b a)) ∧ W.heap.size ≤ (x.lo 3) ∧ (x.lo 3) ≤ (x.hi 3) := (hk 3 (by decide)).1
    have h4 : x.v 4 = .agg #[.int .i64 r, .int .i64 d, .slice V L' vc] := (hk 4 (by decide)).1
    have s3 := (hk 3 (by decide)).2
    clear hk
    simp only [netAct, dstAt, List.getElem?_toArray, List.getElem?_cons_zero, List.getElem?_cons_succ, Option.bind_some, Act.put, List.setIfInBounds_toArray, List.set_cons_zero, List.set_cons_succ] at hQ ⊢
    simp only [h2, h4] at hQ ⊢
    clear h2 h4
    go_wp2_with fail
    refine (columns_any _ r d g _ (MxR.more hb.size (MxR.below hb HV.out)) (by omega) (by omega)).mono ?_; rintro e w5 ⟨v5, rfl, hO5, hb5⟩
    go_wp2
    exact hQ _ _ hb5 ⟨hO5, s3⟩
  · intro x w hb hk Q' hQ
    have h2 : x.v 2 = .agg #[.int .i64 r, .int .i64 c, .slice U L uc] := (hk 2 (by decide)).1
    have h3 : IntssO w (x.lo 3) (x.hi 3) (x.v 3) (rowsF c r (fun a b => f b a)) ∧ W.heap.size ≤ (x.lo 3) ∧ (x.lo 3) ≤ (x.hi 3) := (hk 3 (by decide)).1
    have h4 : x.v 4 = .agg #[.int .i64 r, .int .i64 d, .slice V L' vc] := (hk 4 (by decide)).1
    have h5 : IntssO w (x.lo 5) (x.hi 5) (x.v 5) (rowsF d r (fun a b => g b a)) ∧ x.hi 3 ≤ x.lo 5 := (hk 5 (by decide)).1
    have s3 := (hk 3 (by decide)).2
    have s5 := (hk 5 (by decide)).2
    clear hk
    simp only [netAct, dstAt, List.getElem?_toArray, List.getElem?_cons_zero, List.getElem?_cons_succ, Option.bind_some, Act.put, List.setIfInBounds_toArray, List.set_cons_zero, List.set_cons_succ] at hQ ⊢
    simp only [h2, h4] at hQ ⊢
    clear h2 h4
    obtain ⟨h3, l3, l3'⟩ := h3
    obtain ⟨h5, l5⟩ := h5
    have HA := Lib.hid h3
    have HB := Lib.hid h5
    clear h3 h5
    (go_wp2_with (at_builtin; refine Hold.stop ?_)); unfold Hold
    refine wpList_appSS rfl (.tmp 8) (.tmp 10) rfl _ _ _ _ _ _ _ _ rfl HA.out rfl HB.out (.inl l5) (by rw [rowsF_length, rowsF_length]; omega) (by omega) s3 ?_
    intro v' w' hv' hb'
    rw [colsF_app] at hv'
    go_wp2
    exact hQ v' w' (hb'.mono l3) hv'
  · intro x w hb hk Q' hQ
    have h0 : x.v 0 = .pointer (some ⟨w0.heap.size, 0, none⟩) := (hk 0 (by decide)).1
    have h1 : x.v 1 = .int .i64 r := (hk 1 (by decide)).1
    have h2 : x.v 2 = .agg #[.int .i64 r, .int .i64 c, .slice U L uc] := (hk 2 (by decide)).1
    have h4 : x.v 4 = .agg #[.int .i64 r, .int .i64 d, .slice V L' vc] := (hk 4 (by decide)).1
    have h6 : SlII w w.heap.size (x.v 6) (rowsF (c + d) r (fun a b => bsF c f g b a)) := (hk 6 (by decide)).1
    have s6 := (hk 6 (by decide)).2
    clear hk
    simp only [netAct, dstAt, List.getElem?_toArray, List.getElem?_cons_zero, List.getElem?_cons_succ, Option.bind_some, Act.put, List.setIfInBounds_toArray, List.set_cons_zero, List.set_cons_succ] at hQ ⊢
    simp only [h0, h1, h2, h4] at hQ ⊢
    clear h0 h1 h2 h4
    have h6' := Lib.hid h6
    obtain ⟨A6, c6, e6, _⟩ := h6
    rw [e6] at h6' hQ ⊢
    go_wp2_with fail
    refine (fromColumns_any _ r (c + d) (bsF c f g) _ h6'.out (by omega) (by omega)).mono ?_; rintro e w5 ⟨v5, rfl, hO5, hb5⟩
    go_wp2
    exact hQ _ _ hb5 hO5
  · intro x w hb hk hiv hdj
    have h0 : x.v 0 = .pointer (some ⟨w0.heap.size, 0, none⟩) := hk 0 (by decide) (by decide)
    have h1 : x.v 1 = .int .i64 r := hk 1 (by decide) (by decide)
    have h2 : x.v 2 = .agg #[.int .i64 r, .int .i64 c, .slice U L uc] := hk 2 (by decide) (by decide)
    have h4 : x.v 4 = .agg #[.int .i64 r, .int .i64 d, .slice V L' vc] := hk 4 (by decide) (by decide)
    have h6 : SlII w w.heap.size (x.v 6) (rowsF (c + d) r (fun a b => bsF c f g b a)) := hk 6 (by decide) (by decide)
    have h7 : MxO w (x.lo 7) (x.hi 7) (x.v 7) (mxF r (c + d) (bsF c f g)) := hk 7 (by decide) (by decide)
    clear hk
    simp only [netAct, dstAt, List.getElem?_toArray, List.getElem?_cons_zero, List.getElem?_cons_succ, Option.bind_some, Act.put, List.setIfInBounds_toArray, List.set_cons_zero, List.set_cons_succ]
    simp only [List.drop_succ_cons, List.drop_zero, h0, h1, h2, h4]
    clear h0 h1 h2 h4
    have sz := SZ.out
    have kR := k3.below hb k3.lt
    obtain ⟨l7, _, l7h⟩ := hiv 7 (by decide)
    obtain ⟨A7, c7, e7⟩ := h7.form
    simp only [mxF] at e7
    rw [e7] at h7 ⊢
    clear hiv hdj e7 h6
    obtain ⟨N, hN⟩ : ∃ N, (flat r (c + d) (bsF c f g)).length = N := ⟨_, rfl⟩
    rw [hN] at h7 ⊢
    have p0 := kR.cell' (i := 0) rfl
    have p1 := kR.cell' (i := 1) rfl
    have p2 := kR.cell' (i := 2) rfl
    have fr := kR.frozen
    have gX := g0.trans (hb.mono g0.size)
    have gXs := gX.size
    have hbs := hb.size
    have h2 := chg3 w (w0.heap.size + 1 + 1) (.int .i64 (r : Int)) (.int .i64 ((c + d : Nat) : Int)) (.slice A7 N c7)
    have OF := Lib.hid ((h7.chg h2 (.inr (by omega))).wider (lo' := w0.heap.size) (hi' := w.heap.size) (by omega) (by omega))
    have GF := Lib.hid (gX.trans (h2.below (by omega) gXs))
    have e8 : ((c + d : Nat) : Int) = (c : Int) + d := by simp
    rw [e8] at OF GF
    clear h7 h2 gX kR hN sz gXs hbs l7 l7h hb k1 k2 k3 e8
    go_wp2
    exact bodyPost_ret (v := .agg #[.int .i64 (r : Int), .int .i64 ((c : Int) + d), .slice A7 N c7]) (by simp [results, go_sem, p0, p1, p2]) rfl ⟨_, rfl, OF.out.wider (Nat.le_refl _) (by simp), GF.out⟩
end Go.Proofs.Ytjhllgldllbaaaa

/- slices.Concat at []int, and the matrix of some rows. -/
namespace Go.Proofs
open Go.Shelf
def Try.laysGrow_ren : Go.Shelf.Ren := ⟨fun | 4 => 221 | n => n, fun | 22 => 22 | 25 => 3 | 3 => 3 | 4 => 4 | 9 => 9 | 20 => 20 | 0 => 0 | n => n, fun | n => n⟩
theorem Try.laysGrow : Go.Proofs.Lays8.n4 Try.prog Try.laysGrow_ren := {
  mixed := by kernel_rfl
  f4 := ⟨Try.f221.name, by decide, Try.func221.trans (congrArg some (by kernel_rfl))⟩
  t0 := Try.underlying0
  a0 := Try.isAgg0
  z0 := Try.sizeOf0
  v0 := Try.zeroValue0
  t3 := Try.underlying3
  a3 := Try.isAgg3
  z3 := Try.sizeOf3
  v3 := Try.zeroValue3
  t4 := Try.underlying4
  a4 := Try.isAgg4
  z4 := Try.sizeOf4
  v4 := Try.zeroValue4
  t9 := Try.underlying9
  a9 := Try.isAgg9
  z9 := Try.sizeOf9
  v9 := Try.zeroValue9
  t20 := Try.underlying20
  a20 := Try.isAgg20
  z20 := Try.sizeOf20
  v20 := Try.zeroValue20
  t22 := Try.underlying22
  a22 := Try.isAgg22
  z22 := Try.sizeOf22
  v22 := Try.zeroValue22 }
end Go.Proofs
namespace Go.Proofs.Ytjhllgldllbaaaa
set_option linter.unusedVariables false
set_option linter.unusedSimpArgs false
open Go.RowKit

theorem grow_any (n : Nat) (w : World) (hn : n ≤ 1000000) :
    Calls Try.prog 221 #[.slice none 0 0, .int .i64 n] w fun e w' => ∃ v, e = .returned v ∧ OwnI w' w.heap.size v [] ∧ Below w.heap.size w w' := by
  rcases Nat.eq_zero_or_pos n with rfl | h0
  · exact (Any8.slices_Grow_room Try.laysGrow none 0 0 0 w (by omega) (by omega) (by omega) (by omega)).mono fun e w' ⟨h1, h2⟩ => ⟨_, h1, OwnI.nil _ _, by rw [h2]; exact Below.refl _ _⟩
  · obtain ⟨i0, hi, hz0, hz1, hz2⟩ := info_parts infoInt
    have hG : Calls Try.prog 221 #[.slice none 0 0, .int .i64 n] w fun e w' => e = .returned (.slice (some ⟨w.heap.size, 0, none⟩) 0 (grownCap w (0 + n) 0 3)) ∧
        w' = w.drew.alloc (.cells (([] : List Value).toArray ++ Builtin.zeroCells (Value.int .i64 0).cells (0 + n - 0) ++ Builtin.zeroCells (Value.int .i64 0).cells (grownCap w (0 + n) 0 3 - (0 + n))) 3) :=
      Any8.slices_Grow_grow Try.laysGrow i0 _ hi hz0 (by omega) none 0 0 n [] w (by omega) (by omega) (by rw [hz2]; omega) (by omega) (by simp) (fun _ => rfl) (fun a h => by cases h)
    rw [Nat.zero_add, Nat.sub_zero] at hG
    refine hG.mono fun e w' ⟨h1, h2⟩ => ⟨_, h1, ?_, ?_⟩
    · rw [h2]
      have hg := grownCap_ge w n 0 3
      have hm := grownCap_le_maxLen w n 0 3 (by simp only [maxLen]; omega)
      refine ⟨⟨by simp, .inr ⟨w.heap.size, grownCap w n 0 3, _, rfl, Nat.le_refl _, Blk.new _ _ _, Nat.zero_le _, hm, ?_, by simp⟩⟩, by simp, by simp⟩
      have hz : (Value.int .i64 0).cells.size = 1 := rfl
      simp only [Array.size_append, size_zeroCells, List.size_toArray, List.length_nil, hz, Nat.mul_one]
      omega
    · rw [h2]
      exact bthen (drew_below w) (below_alloc _ _)

theorem flatten_len_take (ll : List (List Int)) (k : Nat) : (ll.take k).flatten.length ≤ ll.flatten.length := by
  have : ll = ll.take k ++ ll.drop k := (List.take_append_drop k ll).symm
  have h2 := congrArg (fun x => (List.flatten x).length) this
  simp only [List.flatten_append, List.length_append] at h2
  omega
set_option maxHeartbeats 1600000 in
theorem concat_any (u : Value) (ll : List (List Int)) (w : World) (hu : SlII w w.heap.size u ll) (hn : ll.length ≤ 1000000) (ht : ll.flatten.length ≤ 1000000) :
    Calls Try.prog 203 #[u] w fun e w' => ∃ v, e = .returned v ∧ IntsO w' w.heap.size w'.heap.size v ll.flatten ∧ Below w.heap.size w w' := by
  obtain ⟨A, c, rfl, _, _, _, hx⟩ := hu.open_
  clear hu
  have HX := Lib.hid hx
  have HT := Lib.hid ht
  obtain ⟨n, hnl⟩ : ∃ n, ll.length = n := ⟨_, rfl⟩
  have HNL := Lib.hid hnl
  rw [hnl] at hn ⊢
  clear hx ht hnl
  go_enter Try.func203, Try.ntmps203
  go_wp2
  go_loopw [3, 11] (fun s i wr => ∃ k : Nat, k ≤ n ∧ i = .int .i64 k ∧ s = .int .i64 ((ll.take k).flatten.length : Nat) ∧ w = wr) (fun _ i _ => n - (intOf i).toNat)
  case atStart => exact ⟨0, Nat.zero_le _, rfl, by simp, rfl⟩
  case round =>
    obtain ⟨k, hk, rfl, rfl, rfl⟩ := hrel
    have hle := flatten_len_take ll k
    have hle2 := flatten_len_take ll (k + 1)
    have ht := HT.out
    obtain ⟨s, hs⟩ : ∃ s, (ll.take k).flatten.length = s := ⟨_, rfl⟩
    by_cases hlt : k < n
    · rw [hs] at hle ⊢
      have hx := HX.out
      rw [← HNL.out] at hlt
      obtain ⟨b, o, l, LA, lc, rfl, hb, HL, x1, hl⟩ := SlII.at_ hx hlt
      rw [HNL.out] at hlt
      have e1 : (ll.take (k + 1)).flatten.length = s + l.length := by rw [take_snoc HL.out, List.flatten_append, List.length_append, hs]; simp
      rw [e1] at hle2
      have hsl : s + l.length ≤ 1000000 := by omega
      have E1 := Lib.hid e1
      clear hs e1 ht hle hle2 hx HL hl hb
      go_wp2
      go_roundw
      case rel => exact ⟨k + 1, by omega, by go_num, by rw [E1.out]; go_num, by first | rfl | trivial⟩
      case measure => simp [intOf]; omega
    · obtain rfl : k = n := by omega
      have e0 : ll.take k = ll := List.take_of_length_le (by have := HNL.out; omega)
      rw [e0] at hs ⊢
      rw [hs] at ht ⊢
      clear hle hle2 e0
      have HS := Lib.hid hs
      clear hs
      go_wp2_with fail
      refine (grow_any s _ (by omega)).mono ?_; rintro e w1 ⟨v, rfl, ho, hb1⟩
      obtain ⟨OA, oc, rfl, _, _⟩ := ho.form
      have gw := hb1
      go_wp2
      go_loopw [6, 27] (fun out i wr => ∃ j : Nat, j ≤ k ∧ i = .int .i64 j ∧ OwnI wr w.heap.size out (ll.take j).flatten ∧ Below w.heap.size w wr) (fun _ i _ => k - (intOf i).toNat)
      case atStart => exact ⟨0, Nat.zero_le _, rfl, by simpa using ho, hb1⟩
      case round =>
        clear ho hb1 gw
        obtain ⟨j, hj, rfl, ho, hb1⟩ := hrel
        have gs := hb1.size
        by_cases hlj : j < k
        · have hx := HX.out
          rw [← HNL.out] at hlj
          obtain ⟨b, o, l, LA, lc, rfl, hb, HL, x1, hl⟩ := SlII.at_ hx hlj
          rw [HNL.out] at hlj
          have x2 := bcell hb1 hb x1
          have hl2 : SlI wr w.heap.size (.slice LA l.length lc) l := SlI.below hb1 hl
          have e1 : (ll.take (j + 1)).flatten = (ll.take j).flatten ++ l := by rw [take_snoc HL.out, List.flatten_append]; simp
          have hle2 := flatten_len_take ll (j + 1)
          rw [e1, List.length_append, HS.out] at hle2
          have E1 := Lib.hid e1
          obtain ⟨OB, ob, rfl, _, _⟩ := ho.form
          have HO := Lib.hid ho
          have HL2 := Lib.hid hl2
          have HLE := Lib.hid hle2
          have GW := Lib.hid hb1
          have hlo2 := HO.out.lt
          clear e1 hx hl hl2 HL x1 ho hle2 hb1
          (go_wp2_with (at_builtin; refine Hold.stop ?_)); unfold Hold
          refine wpList_appI rfl (.tmp 31) (.tmp 32) rfl w.heap.size w.heap.size _ _ rfl HO.out LA l.length lc l rfl rfl HL2.out (by have := HLE.out; omega) gs ?_
          intro v' w' h1 h2 h3
          rw [← E1.out] at h1
          have g2 := (GW.out).trans (below_grown h2 (fun k hk => (hlo2 k hk).1) gs)
          have H1 := Lib.hid h1
          have G2 := Lib.hid g2
          clear h1 h2 h3 g2 hlo2
          go_wp2
          go_roundw
          case rel => exact ⟨j + 1, by omega, by go_num, H1.out, G2.out⟩
          case measure => simp [intOf]; omega
        · obtain rfl : j = k := by omega
          have e0 : ll.take j = ll := List.take_of_length_le (by have := HNL.out; omega)
          rw [e0] at ho
          have HO := Lib.hid ho
          clear ho e0
          go_wp2
          go_ret
          exact ⟨_, rfl, IntsO.of_own HO.out, hb1⟩

theorem rowsF_flatten (r c : Nat) (f : Nat → Nat → Int) : (rowsF r c f).flatten = flat r c f := by
  induction r with
  | zero => simp [rowsF, flat]
  | succ r ih =>
    rw [rowsF_succ, List.flatten_append, ih]
    refine flat_ext (by simp [flat_length, rowF_length, Nat.add_mul]) fun i k hi hk => ?_
    rw [List.getElem?_append]
    by_cases h : i < r
    · rw [if_pos (by rw [flat_length]; exact ix_lt h hk), flat_get f h hk]
    · obtain rfl : i = r := by omega
      rw [if_neg (by rw [flat_length]; omega), flat_length, show i * c + k - i * c = k by omega]
      simp [rowF_get _ hk]
set_option maxHeartbeats 800000 in
theorem fromRows_any (u : Value) (c r : Nat) (f : Nat → Nat → Int) (w0 : World) (hu : SlII w0 w0.heap.size u (rowsF r c f)) (hr : r ≤ 1000) (hc : c ≤ 1000) :
    Calls Try.prog 201 #[.int .i64 c, u] w0 fun e w' => ∃ v, e = .returned v ∧ MxO w' w0.heap.size w'.heap.size v (mxF r c f) ∧ Below w0.heap.size w0 w' := by
  have hu' := hu
  obtain ⟨A, ac, rfl, _⟩ := hu
  rw [rowsF_length] at hu' ⊢
  obtain ⟨W, hW⟩ : ∃ W, W = w0.alloc (.cells #[.int .i64 0, .int .i64 0, .slice none 0 0] 75) := ⟨_, rfl⟩
  have g0 : Below w0.heap.size w0 W := by rw [hW]; exact below_alloc _ _
  have k2 : Blk W w0.heap.size 75 #[.int .i64 0, .int .i64 0, .slice none 0 0] := by rw [hW]; exact Blk.new _ _ _
  have sz : W.heap.size = w0.heap.size + 1 := by rw [hW]; simp
  have hle : r * c ≤ 1000 * 1000 := Nat.mul_le_mul hr hc
  have HLE : Hid ((rowsF r c f).flatten.length ≤ 1000000) := by show _ ≤ _; rw [rowsF_flatten, flat_length]; exact Nat.le_trans hle (by decide)
  have HU := Lib.hid (SlII.next g0 hu')
  have K2 := Lib.hid k2
  have SZ := Lib.hid sz
  clear hu' k2 sz hle
  go_enter Try.func201, Try.ntmps201
  go_wp2_with fail
  rw [← hW]; clear hW
  refine (concat_any _ (rowsF r c f) W HU.out (by rw [rowsF_length]; omega) HLE.out).mono ?_; rintro e wr ⟨v1, rfl, oA, gW⟩
  rw [rowsF_flatten] at oA
  obtain ⟨A1, c1, rfl⟩ := oA.form
  obtain ⟨N, hN⟩ : ∃ N, (flat r c f).length = N := ⟨_, rfl⟩
  rw [hN] at oA ⊢
  clear hN
  have k2 := K2.out.call gW
  have p0 := k2.cell' (i := 0) rfl
  have p1 := k2.cell' (i := 1) rfl
  have p2 := k2.cell' (i := 2) rfl
  have f2 := k2.frozen
  have h2 := chg3 wr w0.heap.size (.int .i64 (r : Int)) (.int .i64 c) (.slice A1 N c1)
  have gw : Below w0.heap.size w0 wr := g0.trans (gW.mono g0.size)
  have gs := gw.size
  have oA2 := (oA.chg h2 (.inr (by have := SZ.out; omega))).wider (lo' := w0.heap.size) (hi' := wr.heap.size) (by have := SZ.out; omega) (Nat.le_refl _)
  have fg := gw.trans (h2.below (Nat.le_refl _) gs)
  have OA2 := Lib.hid oA2
  have FG := Lib.hid fg
  clear oA oA2 fg gw h2 k2 gW
  go_wp2
  exact bodyPost_ret (v := .agg #[.int .i64 (r : Int), .int .i64 c, .slice A1 N c1]) (by simp [results, go_sem, p0, p1, p2]) rfl ⟨_, rfl, ⟨_, rfl, by simpa [mxF] using OA2.out, by simp only [mxF, I64]; omega, by simp only [mxF, I64]; omega⟩, FG.out⟩
set_option maxHeartbeats 3200000 in
set_option maxRecDepth 100000 in
theorem below_any (u v : Value) (c r s : Nat) (f g : Nat → Nat → Int) (w0 : World) (hu : MxR w0 w0.heap.size u (mxF r c f)) (hv : MxR w0 w0.heap.size v (mxF s c g)) (hr : r ≤ 500) (hs : s ≤ 500) (hc : c ≤ 500) :
    Calls Try.prog 159 #[u, v] w0 fun e w' => ∃ v, e = .returned v ∧ MxO w' w0.heap.size w'.heap.size v (mxF (r + s) c (blF r f g)) ∧ Below w0.heap.size w0 w' := by
  have hu' := hu
  have hv' := hv
  obtain ⟨U, uc, rfl⟩ := hu.form
  obtain ⟨V, vc, rfl⟩ := hv.form
  obtain ⟨L, hL⟩ : ∃ L, (mxF r c f).a.length = L := ⟨_, rfl⟩
  obtain ⟨L', hL'⟩ : ∃ L, (mxF s c g).a.length = L := ⟨_, rfl⟩
  have z1 : (mxF r c f).r = (r : Int) := rfl
  have z2 : (mxF r c f).c = (c : Int) := rfl
  have z3 : (mxF s c g).r = (s : Int) := rfl
  have z4 : (mxF s c g).c = (c : Int) := rfl
  rw [hL, z1, z2] at hu' ⊢
  rw [hL', z3, z4] at hv' ⊢
  clear hu hv hL hL' z1 z2 z3 z4
  obtain ⟨W, hW⟩ : ∃ W, W = ((w0.alloc (.cells #[.int .i64 r, .int .i64 c, .slice U L uc] 75)).alloc (.cells #[.int .i64 s, .int .i64 c, .slice V L' vc] 75)).alloc (.cells #[.int .i64 0, .int .i64 0, .slice none 0 0] 75) := ⟨_, rfl⟩
  have g0 : Below w0.heap.size w0 W := by rw [hW]; exact (((Below.refl _ _).alloc (Nat.le_refl _) _).alloc (by simp) _).alloc (by simp; omega) _
  have k1 : Blk W w0.heap.size 75 #[.int .i64 r, .int .i64 c, .slice U L uc] := by rw [hW]; exact ((Blk.new _ _ _).alloc _).alloc _
  have k2 : Blk W (w0.heap.size + 1) 75 #[.int .i64 s, .int .i64 c, .slice V L' vc] := by
    rw [hW]
    have := (Blk.new (w0.alloc (.cells #[.int .i64 r, .int .i64 c, .slice U L uc] 75)) 75 #[.int .i64 s, .int .i64 c, .slice V L' vc]).alloc (.cells #[.int .i64 0, .int .i64 0, .slice none 0 0] 75)
    simpa only [World.size_alloc] using this
  have k3 : Blk W (w0.heap.size + 1 + 1) 75 #[.int .i64 0, .int .i64 0, .slice none 0 0] := by
    rw [hW]
    have := Blk.new ((w0.alloc (.cells #[.int .i64 r, .int .i64 c, .slice U L uc] 75)).alloc (.cells #[.int .i64 s, .int .i64 c, .slice V L' vc] 75)) 75 #[.int .i64 0, .int .i64 0, .slice none 0 0]
    simpa only [World.size_alloc] using this
  have sz : W.heap.size = w0.heap.size + 1 + 1 + 1 := by rw [hW]; simp
  have HU := Lib.hid (MxR.next g0 hu')
  have HV := Lib.hid (MxR.next g0 hv')
  have SZ := Lib.hid sz
  clear sz hu' hv'
  go_enter Try.func159, Try.ntmps159
  go_wp2
  rw [← hW]; clear hW
  refine wp_region_netC (by kernel_rfl) [.eq (.pointer (some ⟨w0.heap.size, 1, none⟩)), .eq (.int .i64 c), .eq (.agg #[.int .i64 r, .int .i64 c, .slice U L uc]), rel 3 (fun u lo hi w => IntssO w lo hi u (rowsF r c f) ∧ W.heap.size ≤ lo ∧ lo ≤ hi), .eq (.agg #[.int .i64 s, .int .i64 c, .slice V L' vc]), .rel (fun x w => IntssO w (x.lo 5) (x.hi 5) (x.v 5) (rowsF s c g) ∧ x.hi 3 ≤ x.lo 5), .rel (fun x w => SlII w w.heap.size (x.v 6) (rowsF (r + s) c (blF r f g))), rel 7 (fun u lo hi w => MxO w lo hi u (mxF (r + s) c (blF r f g)))] [[], [0], [], [2], [], [2, 3, 4], [2, 3, 4, 5], [0, 1, 2, 3, 4, 5, 6], [0, 1, 2, 3, 4, 5, 6, 7]] [[], [0], [], [2], [], [2, 3, 4], [2, 3, 4, 5], [0, 1, 2, 4, 6]] [0, 1, 2, 4, 6, 7] 8 6 (by kernel_rfl) (by kernel_rfl) ⟨.inr (.inr ⟨_, rfl⟩), .inr (.inr ⟨_, rfl⟩), .inr (.inr ⟨_, rfl⟩), .inr (.inr ⟨_, rfl⟩), .inl rfl, .inr (.inl rfl), trivial⟩ ⟨trivial, trivial, trivial, rel_stable (fun u lo hi w w' h hb => ⟨h.1.below hb, h.2⟩), trivial, fun x w w' h hb => ⟨h.1.below hb, h.2⟩, fun x w w' h hb => SlII.next hb h, rel_stable (fun u lo hi w w' h hb => h.below hb), trivial⟩ ⟨?_, ?_, ?_, ?_, ?_, ?_, ?_, ?_, trivial⟩ ?_
  · intro x w hb hk Q' hQ
    clear hk
    simp only [netAct, dstAt, List.getElem?_toArray, List.getElem?_cons_zero, List.getElem?_cons_succ, Option.bind_some, Act.put, List.setIfInBounds_toArray, List.set_cons_zero, List.set_cons_succ] at hQ ⊢
    go_wp2
    exact hQ (.pointer (some ⟨w0.heap.size, 1, none⟩)) _ (Below.refl _ _) rfl
  · intro x w hb hk Q' hQ
    have h0 : x.v 0 = .pointer (some ⟨w0.heap.size, 1, none⟩) := (hk 0 (by decide)).1
    clear hk
    simp only [netAct, dstAt, List.getElem?_toArray, List.getElem?_cons_zero, List.getElem?_cons_succ, Option.bind_some, Act.put, List.setIfInBounds_toArray, List.set_cons_zero, List.set_cons_succ] at hQ ⊢
    simp only [h0] at hQ ⊢
    clear h0
    have z2 := (k1.below hb k1.lt).cell' (i := 1) rfl
    go_wp2
    exact hQ (.int .i64 c) _ (Below.refl _ _) rfl
  · intro x w hb hk Q' hQ
    clear hk
    simp only [netAct, dstAt, List.getElem?_toArray, List.getElem?_cons_zero, List.getElem?_cons_succ, Option.bind_some, Act.put, List.setIfInBounds_toArray, List.set_cons_zero, List.set_cons_succ] at hQ ⊢
    have z0 := (k1.below hb k1.lt).cell' (i := 0) rfl
    have z1 := (k1.below hb k1.lt).cell' (i := 1) rfl
    have z2 := (k1.below hb k1.lt).cell' (i := 2) rfl
    go_wp2
    exact hQ (.agg #[.int .i64 r, .int .i64 c, .slice U L uc]) _ (Below.refl _ _) rfl
  · intro x w hb hk Q' hQ
    have h2 : x.v 2 = .agg #[.int .i64 r, .int .i64 c, .slice U L uc] := (hk 2 (by decide)).1
    clear hk
    simp only [netAct, dstAt, List.getElem?_toArray, List.getElem?_cons_zero, List.getElem?_cons_succ, Option.bind_some, Act.put, List.setIfInBounds_toArray, List.set_cons_zero, List.set_cons_succ] at hQ ⊢
    simp only [h2] at hQ ⊢
    clear h2
    go_wp2_with fail
    refine (rows_any _ r c f _ (MxR.more hb.size (MxR.below hb HU.out)) (by omega) (by omega)).mono ?_; rintro e w5 ⟨v5, rfl, hO5, hb5⟩
    go_wp2
    exact hQ _ _ hb5 ⟨hO5, hb.size, hb5.size⟩
  · intro x w hb hk Q' hQ
    clear hk
    simp only [netAct, dstAt, List.getElem?_toArray, List.getElem?_cons_zero, List.getElem?_cons_succ, Option.bind_some, Act.put, List.setIfInBounds_toArray, List.set_cons_zero, List.set_cons_succ] at hQ ⊢
    have z0 := (k2.below hb k2.lt).cell' (i := 0) rfl
    have z1 := (k2.below hb k2.lt).cell' (i := 1) rfl
    have z2 := (k2.below hb k2.lt).cell' (i := 2) rfl
    go_wp2
    exact hQ (.agg #[.int .i64 s, .int .i64 c, .slice V L' vc]) _ (Below.refl _ _) rfl
  · intro x w hb hk Q' hQ
    have h2 : x.v 2 = .agg #[.int .i64 r, .int .i64 c, .slice U L uc] := (hk 2 (by decide)).1
    have h3 : IntssO w (x.lo 3) (x.hi 3) (x.v 3) (rowsF r c f) ∧ W.heap.size ≤ (x.lo 3) ∧ (x.lo 3) ≤ (x.hi 3) := (hk 3 (by decide)).1
    have h4 : x.v 4 = .agg #[.int .i64 s, .int .i64 c, .slice V L' vc] := (hk 4 (by decide)).1
    have s3 := (hk 3 (by decide)).2
    clear hk
    simp only [netAct, dstAt, List.getElem?_toArray, List.getElem?_cons_zero, List.getElem?_cons_succ, Option.bind_some, Act.put, List.setIfInBounds_toArray, List.set_cons_zero, List.set_cons_succ] at hQ ⊢
    simp only [h2, h4] at hQ ⊢
    clear h2 h4
    go_wp2_with fail
    refine (rows_any _ s c g _ (MxR.more hb.size (MxR.below hb HV.out)) (by omega) (by omega)).mono ?_; rintro e w5 ⟨v5, rfl, hO5, hb5⟩
    go_wp2
    exact hQ _ _ hb5 ⟨hO5, s3⟩
  · intro x w hb hk Q' hQ
    have h2 : x.v 2 = .agg #[.int .i64 r, .int .i64 c, .slice U L uc] := (hk 2 (by decide)).1
    have h3 : IntssO w (x.lo 3) (x.hi 3) (x.v 3) (rowsF r c f) ∧ W.heap.size ≤ (x.lo 3) ∧ (x.lo 3) ≤ (x.hi 3) := (hk 3 (by decide)).1
    have h4 : x.v 4 = .agg #[.int .i64 s, .int .i64 c, .slice V L' vc] := (hk 4 (by decide)).1
    have h5 : IntssO w (x.lo 5) (x.hi 5) (x.v 5) (rowsF s c g) ∧ x.hi 3 ≤ x.lo 5 := (hk 5 (by decide)).1
    have s3 := (hk 3 (by decide)).2
    have s5 := (hk 5 (by decide)).2
    clear hk
    simp only [netAct, dstAt, List.getElem?_toArray, List.getElem?_cons_zero, List.getElem?_cons_succ, Option.bind_some, Act.put, List.setIfInBounds_toArray, List.set_cons_zero, List.set_cons_succ] at hQ ⊢
    simp only [h2, h4] at hQ ⊢
    clear h2 h4
    obtain ⟨h3, l3, l3'⟩ := h3
    obtain ⟨h5, l5⟩ := h5
    have HA := Lib.hid h3
    have HB := Lib.hid h5
    clear h3 h5
    (go_wp2_with (at_builtin; refine Hold.stop ?_)); unfold Hold
    refine wpList_appSS rfl (.tmp 8) (.tmp 10) rfl _ _ _ _ _ _ _ _ rfl HA.out rfl HB.out (.inl l5) (by rw [rowsF_length, rowsF_length]; omega) (by omega) s3 ?_
    intro v' w' hv' hb'
    rw [rowsF_app] at hv'
    go_wp2
    exact hQ v' w' (hb'.mono l3) hv'
  · intro x w hb hk Q' hQ
    have h0 : x.v 0 = .pointer (some ⟨w0.heap.size, 1, none⟩) := (hk 0 (by decide)).1
    have h1 : x.v 1 = .int .i64 c := (hk 1 (by decide)).1
    have h2 : x.v 2 = .agg #[.int .i64 r, .int .i64 c, .slice U L uc] := (hk 2 (by decide)).1
    have h4 : x.v 4 = .agg #[.int .i64 s, .int .i64 c, .slice V L' vc] := (hk 4 (by decide)).1
    have h6 : SlII w w.heap.size (x.v 6) (rowsF (r + s) c (blF r f g)) := (hk 6 (by decide)).1
    have s6 := (hk 6 (by decide)).2
    clear hk
    simp only [netAct, dstAt, List.getElem?_toArray, List.getElem?_cons_zero, List.getElem?_cons_succ, Option.bind_some, Act.put, List.setIfInBounds_toArray, List.set_cons_zero, List.set_cons_succ] at hQ ⊢
    simp only [h0, h1, h2, h4] at hQ ⊢
    clear h0 h1 h2 h4
    have h6' := Lib.hid h6
    obtain ⟨A6, c6, e6, _⟩ := h6
    rw [e6] at h6' hQ ⊢
    go_wp2_with fail
    refine (fromRows_any _ c (r + s) (blF r f g) _ h6'.out (by omega) (by omega)).mono ?_; rintro e w5 ⟨v5, rfl, hO5, hb5⟩
    go_wp2
    exact hQ _ _ hb5 hO5
  · intro x w hb hk hiv hdj
    have h0 : x.v 0 = .pointer (some ⟨w0.heap.size, 1, none⟩) := hk 0 (by decide) (by decide)
    have h1 : x.v 1 = .int .i64 c := hk 1 (by decide) (by decide)
    have h2 : x.v 2 = .agg #[.int .i64 r, .int .i64 c, .slice U L uc] := hk 2 (by decide) (by decide)
    have h4 : x.v 4 = .agg #[.int .i64 s, .int .i64 c, .slice V L' vc] := hk 4 (by decide) (by decide)
    have h6 : SlII w w.heap.size (x.v 6) (rowsF (r + s) c (blF r f g)) := hk 6 (by decide) (by decide)
    have h7 : MxO w (x.lo 7) (x.hi 7) (x.v 7) (mxF (r + s) c (blF r f g)) := hk 7 (by decide) (by decide)
    clear hk
    simp only [netAct, dstAt, List.getElem?_toArray, List.getElem?_cons_zero, List.getElem?_cons_succ, Option.bind_some, Act.put, List.setIfInBounds_toArray, List.set_cons_zero, List.set_cons_succ]
    simp only [List.drop_succ_cons, List.drop_zero, h0, h1, h2, h4]
    clear h0 h1 h2 h4
    have sz := SZ.out
    have kR := k3.below hb k3.lt
    obtain ⟨l7, _, l7h⟩ := hiv 7 (by decide)
    obtain ⟨A7, c7, e7⟩ := h7.form
    simp only [mxF] at e7
    rw [e7] at h7 ⊢
    clear hiv hdj e7 h6
    obtain ⟨N, hN⟩ : ∃ N, (flat (r + s) c (blF r f g)).length = N := ⟨_, rfl⟩
    rw [hN] at h7 ⊢
    have p0 := kR.cell' (i := 0) rfl
    have p1 := kR.cell' (i := 1) rfl
    have p2 := kR.cell' (i := 2) rfl
    have fr := kR.frozen
    have gX := g0.trans (hb.mono g0.size)
    have gXs := gX.size
    have hbs := hb.size
    have h2 := chg3 w (w0.heap.size + 1 + 1) (.int .i64 ((r + s : Nat) : Int)) (.int .i64 (c : Int)) (.slice A7 N c7)
    have OF := Lib.hid ((h7.chg h2 (.inr (by omega))).wider (lo' := w0.heap.size) (hi' := w.heap.size) (by omega) (by omega))
    have GF := Lib.hid (gX.trans (h2.below (by omega) gXs))
    have e8 : ((r + s : Nat) : Int) = (r : Int) + s := by simp
    rw [e8] at OF GF
    clear h7 h2 gX kR hN sz gXs hbs l7 l7h hb k1 k2 k3 e8
    go_wp2
    exact bodyPost_ret (v := .agg #[.int .i64 ((r : Int) + s), .int .i64 c, .slice A7 N c7]) (by simp [results, go_sem, p0, p1, p2]) rfl ⟨_, rfl, OF.out.wider (Nat.le_refl _) (by simp), GF.out⟩
end Go.Proofs.Ytjhllgldllbaaaa

/- Determinants by the first row: the program's. -/
namespace Go.Proofs.Ytjhllgldllbaaaa
set_option linter.unusedVariables false
set_option linter.unusedSimpArgs false
open Go.RowKit

set_option maxHeartbeats 3200000 in
set_option maxRecDepth 100000 in
theorem determinant_any : ∀ (n : Nat), n ≤ 5 → ∀ (u : Value) (m : List (List Int)) (w0 : World), SlII w0 w0.heap.size u m → Sq n m →
    Calls Try.prog 166 #[u] w0 fun e w' => e = .returned (.int .i64 (detL n m)) ∧ Below w0.heap.size w0 w'
  | 0, _, u, m, w0, hu, hs => by
    obtain ⟨A, c, rfl, _, _, _, _⟩ := hu.open_
    obtain rfl : m = [] := List.eq_nil_of_length_eq_zero hs.len
    clear hu
    go_enter Try.func166, Try.ntmps166
    go_wp2
    go_ret
    exact ⟨rfl, Below.refl _ _⟩
  | n + 1, hn, u, m, w0, hu, hs => by
    have ih := determinant_any n (by omega)
    obtain ⟨A, c, rfl, hc1, hc2, _, hx⟩ := hu.open_
    clear hu
    have hl := hs.len
    obtain ⟨b, o, rfl, hb⟩ := SlII.addr hx (by omega)
    obtain ⟨r0, A0, c0, e0, _, x0, hr0, _, _⟩ := SlII.elt hx (k := 0) (by omega)
    have hr0l := hs.row _ (List.mem_of_getElem? e0)
    obtain ⟨b0, o0, rfl, hb0⟩ := SlI.addr hr0 (by omega)
    have HR0 := Lib.hid hr0
    have HX := Lib.hid hx
    have HL := Lib.hid hl
    have HS := Lib.hid hs
    have HE0 := Lib.hid e0
    have HRL := Lib.hid hr0l
    have IH := Lib.hid ih
    rw [hl] at hc1 ⊢
    rw [hr0l, Nat.add_zero] at x0
    have HDL := Lib.hid (show detL (n + 1) m = detS n m (n + 1) from rfl)
    clear ih hr0 hx hl hs e0 hr0l
    have hne0 : (((n : Int) + 1) == 0) = false := by rw [beq_eq_false_iff_ne]; omega
    go_enter Try.func166, Try.ntmps166
    go_wp2
    go_loopw [3, 4, 17] (fun s g i wr => ∃ (k : Nat) (T S : Int), k ≤ n + 1 ∧ i = .int .i64 k ∧ s = .int .i64 T ∧ g = .int .i64 S ∧ Hid (T = detS n m k) ∧ Hid (S = sgK k) ∧ Below w0.heap.size w0 wr) (fun _ _ i _ => n + 1 - (intOf i).toNat)
    case atStart => exact ⟨0, 0, 1, Nat.zero_le _, rfl, rfl, rfl, rfl, rfl, Below.refl _ _⟩
    case round =>
      obtain ⟨k, T, S, hk, rfl, rfl, rfl, HT, HSG, hbel⟩ := hrel
      by_cases hlt : k < n + 1
      · obtain ⟨X, hX0, _, x1, _⟩ := SlI.elt HR0.out (k := k) (by rw [HRL.out]; exact hlt)
        have x2 := bcell hbel hb0 x1
        clear x1
        have hXr : -12 ≤ X ∧ X ≤ 12 := by
          obtain ⟨r, h1, h2, h3, h4⟩ := HS.out.fst hlt
          rw [HE0.out] at h1
          injection h1 with h1
          subst h1
          rw [hX0] at h3
          injection h3 with h3
          subst h3
          exact h4
        have HXF : Hid (fst0 m k = X) := by
          show _ = _
          rw [fst0, List.getD_eq_getElem?_getD, List.getD_eq_getElem?_getD, HE0.out, Option.getD_some, hX0]; rfl
        have hSr : -1 ≤ S ∧ S ≤ 1 := by
          have := sgK_or k
          rw [← HSG.out] at this
          omega
        have hTr := detS_rng HS.out hk (by omega)
        rw [← (HT.out : T = _)] at hTr
        have HSQ := Lib.hid (HS.out.mnr (k := k) (by omega))
        have hbel2 := hbel
        clear hX0 hbel
        by_cases hcc : c = 1
        · have HMIN : Hid (SlII wr wr.heap.size (.slice none 0 0) (mnr k m)) := by
            show SlII _ _ _ _
            have hln := HL.out
            rw [show mnr k m = [] from List.eq_nil_of_length_eq_zero (by simp [mnr]; omega)]
            exact SlG.nil
          subst hcc
          go_wp2
          refine wp_loop_rounds 1 ?_
          rw [rounds_succ]
          go_wp2_with fail
          refine (IH.out _ (mnr k m) _ HMIN.out HSQ.out).mono ?_; rintro e w6 ⟨rfl, hb6⟩
          obtain ⟨D, hD⟩ : ∃ z, detL n (mnr k m) = z := ⟨_, rfl⟩
          have hDr := det_rng HSQ.out
          have hDB := dB_5 (show n ≤ 5 by omega)
          rw [hD] at hDr ⊢
          have HD := Lib.hid hD
          have HW := Lib.hid (show Below w0.heap.size w0 w6 from hbel2.trans (hb6.mono hbel2.size))
          clear hD hb6 hbel2
          go_wp2
          go_roundw
          case rel =>
            have h1 := abs_mul (A := 1) (B := 12) (show -1 ≤ S ∧ S ≤ 1 by omega) hXr
            have h2 := abs_mul (A := 12) (B := 29859840) (a := S * X) (b := D) (by omega) (by omega)
            refine ⟨k + 1, _, _, by omega, by go_num, rfl, rfl, ?_, ?_, HW.out⟩
            · show _ = _
              rw [detS_succ, HD.out, ← HSG.out, ← HT.out, HXF.out]
              rw [IntWalk.wrap64_in (S * X) ⟨by omega, by omega⟩, IntWalk.wrap64_in (S * X * D) ⟨by omega, by omega⟩, IntWalk.wrap64_in (T + S * X * D) ⟨by omega, by omega⟩]
            · show _ = _
              rw [sgK_succ, ← HSG.out]
          case measure => simp [intOf]; omega
        · have hdk : decide ((k : Int) < (n : Int) + 1) = true := decide_eq_true (by omega)
          go_wp2
          clear x2 hdk
          obtain ⟨w1, hw1⟩ : ∃ z, z = wr := ⟨_, rfl⟩
          subst hw1
          go_loopw [7, 25] (fun ov i wq => ∃ j : Nat, j ≤ n ∧ i = .int .i64 j ∧ IntssO wq w1.heap.size wq.heap.size ov ((m.tail.take j).map (cutR k)) ∧ Below w1.heap.size w1 wq) (fun _ i _ => n - (intOf i).toNat)
          case atStart => exact ⟨0, Nat.zero_le _, rfl, by simpa using IntssO.nil w1 _ _, Below.refl _ _⟩
          case round =>
            obtain ⟨j, hj, rfl, hO, hbq⟩ := hrel
            obtain ⟨OA, oc, eo, hoc, hoc2, hol⟩ := hO.form2
            have hlo : ((m.tail.take j).map (cutR k)).length = j := by rw [List.length_map, List.length_take, List.length_tail, HL.out]; omega
            rw [hlo] at eo hoc
            subst eo
            have hbq2 : Below w0.heap.size w0 wr := hbel2.trans (hbq.mono hbel2.size)
            by_cases hjn : j < n
            · obtain ⟨r, RA, rc, hr0, _, y1, hr, hrc1, hrc2⟩ := SlII.elt HX.out (k := j + 1) (by rw [HL.out]; omega)
              have hrl := HS.out.row _ (List.mem_of_getElem? hr0)
              obtain ⟨br, or, rfl, hbr⟩ := SlI.addr hr (by omega)
              have y2 := bcell hbq2 hb y1
              have HR := Lib.hid (SlI.more hbq2.size (SlI.below hbq2 hr))
              have HRL2 := Lib.hid hrl
              rw [hrl] at y2 hrc1
              rw [show o + (j + 1) = o + 1 + j by omega] at y2
              have hrt : m.tail[j]? = some r := by rw [List.getElem?_tail]; exact hr0
              have HSN := Lib.hid (show (m.tail.take (j + 1)).map (cutR k) = (m.tail.take j).map (cutR k) ++ [cutR k r] by rw [take_snoc hrt, List.map_append]; rfl)
              have HO := Lib.hid hO
              have HBQ := Lib.hid hbq
              have HLO := Lib.hid hlo
              clear hr y1 hrl hrt hO hbq hr0 hlo
              go_wp2
              clear y2
              obtain ⟨wA, hwA⟩ : ∃ z, z = wr := ⟨_, rfl⟩
              subst hwA
              refine wp_region_net (by kernel_rfl) [.eq (.slice OA j oc), .eq (.slice (some ⟨br, or, none⟩) (n + 1) rc), .eq (.int .i64 k), .eq (.slice (some ⟨br, or, none⟩) k rc), .eq (.slice (some ⟨br, or, none⟩) (n + 1) rc), .eq (.int .i64 k), .eq (.int .i64 ((k : Int) + 1)), rel 7 (fun u lo hi w => SlI w w.heap.size u (r.drop (k + 1))), rel 8 (fun u lo hi w => SlII w w.heap.size u [r.take k, r.drop (k + 1)]), rel 9 (fun u lo hi w => IntsO w lo hi u (cutR k r)), .rel (fun x w => ∃ g, x.v 10 = .slice (some ⟨g, 0, none⟩) 1 1 ∧ Blk w g 22 #[x.v 9])] [[], [], [], [1, 2], [], [], [5], [4, 5, 6], [1, 2, 3, 4, 5, 6, 7], [1, 2, 3, 4, 5, 6, 7, 8], [1, 2, 3, 4, 5, 6, 7, 8, 9], [0, 1, 2, 3, 4, 5, 6, 7, 8, 9, 10], [0, 1, 2, 3, 4, 5, 6, 7, 8, 9, 10, 11]] 11 (by kernel_rfl) ⟨trivial, trivial, trivial, trivial, trivial, trivial, trivial, rel_stable (fun u lo hi w w' h hb => SlI.next hb h), rel_stable (fun u lo hi w w' h hb => SlII.next hb h), rel_stable (fun u lo hi w w' h hb => h.below hb), fun x w w' ⟨g, e, h⟩ hb => ⟨g, e, h.call hb⟩, trivial⟩ ⟨?_, ?_, ?_, ?_, ?_, ?_, ?_, ?_, ?_, ?_, ?_, trivial⟩ ?_
              · intro x w hb hk Q' hQ
                clear hk
                simp only [netAct, dstAt, List.getElem?_toArray, List.getElem?_cons_zero, List.getElem?_cons_succ, Option.bind_some, Act.put, List.setIfInBounds_toArray, List.set_cons_zero, List.set_cons_succ] at hQ ⊢
                go_wp2
                exact hQ (.slice OA j oc) _ (Below.refl _ _) rfl
              · intro x w hb hk Q' hQ
                clear hk
                simp only [netAct, dstAt, List.getElem?_toArray, List.getElem?_cons_zero, List.getElem?_cons_succ, Option.bind_some, Act.put, List.setIfInBounds_toArray, List.set_cons_zero, List.set_cons_succ] at hQ ⊢
                go_wp2
                exact hQ (.slice (some ⟨br, or, none⟩) (n + 1) rc) _ (Below.refl _ _) rfl
              · intro x w hb hk Q' hQ
                clear hk
                simp only [netAct, dstAt, List.getElem?_toArray, List.getElem?_cons_zero, List.getElem?_cons_succ, Option.bind_some, Act.put, List.setIfInBounds_toArray, List.set_cons_zero, List.set_cons_succ] at hQ ⊢
                go_wp2
                exact hQ (.int .i64 k) _ (Below.refl _ _) rfl
              · intro x w hb hk Q' hQ
                have h1 : x.v 1 = .slice (some ⟨br, or, none⟩) (n + 1) rc := (hk 1 (by decide)).1
                have h2 : x.v 2 = .int .i64 k := (hk 2 (by decide)).1
                clear hk
                simp only [netAct, dstAt, List.getElem?_toArray, List.getElem?_cons_zero, List.getElem?_cons_succ, Option.bind_some, Act.put, List.setIfInBounds_toArray, List.set_cons_zero, List.set_cons_succ] at hQ ⊢
                simp only [h1, h2] at hQ ⊢
                clear h1 h2
                go_wp2
                exact hQ (.slice (some ⟨br, or, none⟩) k rc) _ (Below.refl _ _) rfl
              · intro x w hb hk Q' hQ
                clear hk
                simp only [netAct, dstAt, List.getElem?_toArray, List.getElem?_cons_zero, List.getElem?_cons_succ, Option.bind_some, Act.put, List.setIfInBounds_toArray, List.set_cons_zero, List.set_cons_succ] at hQ ⊢
                go_wp2
                exact hQ (.slice (some ⟨br, or, none⟩) (n + 1) rc) _ (Below.refl _ _) rfl
              · intro x w hb hk Q' hQ
                clear hk
                simp only [netAct, dstAt, List.getElem?_toArray, List.getElem?_cons_zero, List.getElem?_cons_succ, Option.bind_some, Act.put, List.setIfInBounds_toArray, List.set_cons_zero, List.set_cons_succ] at hQ ⊢
                go_wp2
                exact hQ (.int .i64 k) _ (Below.refl _ _) rfl
              · intro x w hb hk Q' hQ
                have h5 : x.v 5 = .int .i64 k := (hk 5 (by decide)).1
                clear hk
                simp only [netAct, dstAt, List.getElem?_toArray, List.getElem?_cons_zero, List.getElem?_cons_succ, Option.bind_some, Act.put, List.setIfInBounds_toArray, List.set_cons_zero, List.set_cons_succ] at hQ ⊢
                simp only [h5] at hQ ⊢
                clear h5
                go_wp2
                exact hQ (.int .i64 ((k : Int) + 1)) _ (Below.refl _ _) rfl
              · intro x w hb hk Q' hQ
                have h4 : x.v 4 = .slice (some ⟨br, or, none⟩) (n + 1) rc := (hk 4 (by decide)).1
                have h5 : x.v 5 = .int .i64 k := (hk 5 (by decide)).1
                have h6 : x.v 6 = .int .i64 ((k : Int) + 1) := (hk 6 (by decide)).1
                clear hk
                simp only [netAct, dstAt, List.getElem?_toArray, List.getElem?_cons_zero, List.getElem?_cons_succ, Option.bind_some, Act.put, List.setIfInBounds_toArray, List.set_cons_zero, List.set_cons_succ] at hQ ⊢
                simp only [h4, h5, h6] at hQ ⊢
                clear h4 h5 h6
                have hR2 := SlI.more hb.size (SlI.below hb HR.out)
                have hD2 := SlI.dropS (k := k + 1) hR2 (by rw [HRL2.out]; omega)
                rw [HRL2.out] at hD2
                by_cases hrc : rc = k + 1
                · have hz : r.drop (k + 1) = [] := by rw [List.drop_of_length_le (by rw [HRL2.out]; omega)]
                  have hz2 : SlI w w.heap.size (.slice (some ⟨br, or, none⟩) 0 0) (r.drop (k + 1)) := by rw [hz]; exact SlI.zeroS (by omega)
                  have HZ := Lib.hid hz2
                  have HN := Lib.hid (show n + 1 - (k + 1) = 0 by omega)
                  have hn0 : n ≤ k := by omega
                  clear hz hz2 hD2 hR2
                  subst hrc
                  go_wp2
                  first | exact hQ _ _ (Below.refl _ _) HZ.out | (have := HN.out; simp only [this] at *; exact hQ _ _ (Below.refl _ _) HZ.out)
                · have HD2 := Lib.hid hD2
                  clear hD2 hR2
                  go_wp2
                  have HD3 : SlI w w.heap.size (.slice (some ⟨br, or + (k + 1), none⟩) (n - k) (rc - (k + 1))) (r.drop (k + 1)) := by rw [show n - k = n + 1 - (k + 1) by omega]; exact HD2.out
                  exact hQ _ _ (Below.refl _ _) HD3
              · intro x w hb hk Q' hQ
                have h1 : x.v 1 = .slice (some ⟨br, or, none⟩) (n + 1) rc := (hk 1 (by decide)).1
                have h2 : x.v 2 = .int .i64 k := (hk 2 (by decide)).1
                have h3 : x.v 3 = .slice (some ⟨br, or, none⟩) k rc := (hk 3 (by decide)).1
                have h4 : x.v 4 = .slice (some ⟨br, or, none⟩) (n + 1) rc := (hk 4 (by decide)).1
                have h5 : x.v 5 = .int .i64 k := (hk 5 (by decide)).1
                have h6 : x.v 6 = .int .i64 ((k : Int) + 1) := (hk 6 (by decide)).1
                have h7 : SlI w w.heap.size (x.v 7) (r.drop (k + 1)) := (hk 7 (by decide)).1
                have s7 := (hk 7 (by decide)).2
                clear hk
                simp only [netAct, dstAt, List.getElem?_toArray, List.getElem?_cons_zero, List.getElem?_cons_succ, Option.bind_some, Act.put, List.setIfInBounds_toArray, List.set_cons_zero, List.set_cons_succ] at hQ ⊢
                simp only [h1, h2, h3, h4, h5, h6] at hQ ⊢
                clear h1 h2 h3 h4 h5 h6
                have hR2 := SlI.more hb.size (SlI.below hb HR.out)
                have hT2 := SlI.takeS (k := k) hR2 (by rw [HRL2.out]; omega)
                have h8 := SlII.two (t := 22) hT2 h7
                have hq2 := hQ (.slice (some ⟨w.heap.size, 0, none⟩) 2 2) (w.alloc (.cells #[.slice (some ⟨br, or, none⟩) k rc, x.v 7] 22)) (below_alloc _ _) h8
                obtain ⟨A7, c7, e7⟩ := h7.form2
                obtain ⟨DN, hDN⟩ : ∃ z, (r.drop (k + 1)).length = z := ⟨_, rfl⟩
                rw [hDN] at e7
                rw [e7] at hq2 ⊢
                clear hT2 h8 hR2 h7 e7 hDN
                go_wp2
                exact hq2
              · intro x w hb hk Q' hQ
                have h1 : x.v 1 = .slice (some ⟨br, or, none⟩) (n + 1) rc := (hk 1 (by decide)).1
                have h2 : x.v 2 = .int .i64 k := (hk 2 (by decide)).1
                have h3 : x.v 3 = .slice (some ⟨br, or, none⟩) k rc := (hk 3 (by decide)).1
                have h4 : x.v 4 = .slice (some ⟨br, or, none⟩) (n + 1) rc := (hk 4 (by decide)).1
                have h5 : x.v 5 = .int .i64 k := (hk 5 (by decide)).1
                have h6 : x.v 6 = .int .i64 ((k : Int) + 1) := (hk 6 (by decide)).1
                have h7 : SlI w w.heap.size (x.v 7) (r.drop (k + 1)) := (hk 7 (by decide)).1
                have h8 : SlII w w.heap.size (x.v 8) [r.take k, r.drop (k + 1)] := (hk 8 (by decide)).1
                have s7 := (hk 7 (by decide)).2
                have s8 := (hk 8 (by decide)).2
                clear hk
                simp only [netAct, dstAt, List.getElem?_toArray, List.getElem?_cons_zero, List.getElem?_cons_succ, Option.bind_some, Act.put, List.setIfInBounds_toArray, List.set_cons_zero, List.set_cons_succ] at hQ ⊢
                simp only [h1, h2, h3, h4, h5, h6] at hQ ⊢
                clear h1 h2 h3 h4 h5 h6
                go_wp2_with fail
                refine (concat_any _ _ _ h8 (by simp) (by simp; rw [HRL2.out]; omega)).mono ?_; rintro e w5 ⟨v5, rfl, hI5, hb5⟩
                go_wp2
                have hI6 : IntsO w5 w.heap.size w5.heap.size v5 (cutR k r) := by simpa [cutR] using hI5
                exact hQ _ _ hb5 hI6
              · intro x w hb hk Q' hQ
                have h1 : x.v 1 = .slice (some ⟨br, or, none⟩) (n + 1) rc := (hk 1 (by decide)).1
                have h2 : x.v 2 = .int .i64 k := (hk 2 (by decide)).1
                have h3 : x.v 3 = .slice (some ⟨br, or, none⟩) k rc := (hk 3 (by decide)).1
                have h4 : x.v 4 = .slice (some ⟨br, or, none⟩) (n + 1) rc := (hk 4 (by decide)).1
                have h5 : x.v 5 = .int .i64 k := (hk 5 (by decide)).1
                have h6 : x.v 6 = .int .i64 ((k : Int) + 1) := (hk 6 (by decide)).1
                have h7 : SlI w w.heap.size (x.v 7) (r.drop (k + 1)) := (hk 7 (by decide)).1
                have h8 : SlII w w.heap.size (x.v 8) [r.take k, r.drop (k + 1)] := (hk 8 (by decide)).1
                have h9 : IntsO w (x.lo 9) (x.hi 9) (x.v 9) (cutR k r) := (hk 9 (by decide)).1
                have s7 := (hk 7 (by decide)).2
                have s8 := (hk 8 (by decide)).2
                have s9 := (hk 9 (by decide)).2
                clear hk
                simp only [netAct, dstAt, List.getElem?_toArray, List.getElem?_cons_zero, List.getElem?_cons_succ, Option.bind_some, Act.put, List.setIfInBounds_toArray, List.set_cons_zero, List.set_cons_succ] at hQ ⊢
                simp only [h1, h2, h3, h4, h5, h6] at hQ ⊢
                clear h1 h2 h3 h4 h5 h6
                obtain ⟨A9, c9, e9⟩ := h9.form
                have hq2 := hQ (.slice (some ⟨w.heap.size, 0, none⟩) 1 1) (w.alloc (.cells #[x.v 9] 22)) (below_alloc _ _) ⟨w.heap.size, rfl, Blk.new w 22 #[x.v 9]⟩
                rw [e9] at hq2 ⊢
                clear h9 e9
                go_wp2
                exact hq2
              · intro x w hb hk hiv hdj
                have h0 : x.v 0 = .slice OA j oc := hk 0 (by decide)
                have h1 : x.v 1 = .slice (some ⟨br, or, none⟩) (n + 1) rc := hk 1 (by decide)
                have h2 : x.v 2 = .int .i64 k := hk 2 (by decide)
                have h3 : x.v 3 = .slice (some ⟨br, or, none⟩) k rc := hk 3 (by decide)
                have h4 : x.v 4 = .slice (some ⟨br, or, none⟩) (n + 1) rc := hk 4 (by decide)
                have h5 : x.v 5 = .int .i64 k := hk 5 (by decide)
                have h6 : x.v 6 = .int .i64 ((k : Int) + 1) := hk 6 (by decide)
                have h7 : SlI w w.heap.size (x.v 7) (r.drop (k + 1)) := hk 7 (by decide)
                have h8 : SlII w w.heap.size (x.v 8) [r.take k, r.drop (k + 1)] := hk 8 (by decide)
                have h9 : IntsO w (x.lo 9) (x.hi 9) (x.v 9) (cutR k r) := hk 9 (by decide)
                have h10 : ∃ g, x.v 10 = .slice (some ⟨g, 0, none⟩) 1 1 ∧ Blk w g 22 #[x.v 9] := hk 10 (by decide)
                clear hk
                simp only [netAct, dstAt, List.getElem?_toArray, List.getElem?_cons_zero, List.getElem?_cons_succ, Option.bind_some, Act.put, List.setIfInBounds_toArray, List.set_cons_zero, List.set_cons_succ]
                simp only [List.drop_succ_cons, List.drop_zero, h0, h1, h2, h3, h4, h5, h6]
                clear h0 h1 h2 h3 h4 h5 h6
                obtain ⟨g, e10, k10⟩ := h10
                obtain ⟨i9a, i9b, i9c⟩ := hiv 9 (by decide)
                rw [e10]
                have c10 := k10.cell' (i := 0) rfl
                have hws := hb.size
                have hO2 := HO.out.below hb
                have HBQ2 := Lib.hid (HBQ.out.trans (hb.mono HBQ.out.size))
                have hw1 := HBQ.out.size
                refine wpList_appR rfl (.tmp 29) (.tmp 39) rfl w1.heap.size wA.heap.size (x.lo 9) (x.hi 9) (.slice OA j oc) _ (cutR k r) rfl hO2 _ _ (x.v 9) rfl ⟨g, 0, rfl, c10⟩ h9 (by omega) (by omega) (by omega) (by rw [HLO.out]; omega) (by omega) (by omega) ?_
                intro v9 w9 ho9 hb9 _
                rw [← HSN.out] at ho9
                have HO9 := Lib.hid ho9
                have HB9 := Lib.hid (HBQ2.out.trans hb9)
                clear ho9 hb9 hO2 hb hiv hdj e10 k10 c10 h9 HBQ2
                go_wp2
                go_roundw
                case rel => exact ⟨j + 1, by omega, by go_num, HO9.out, HB9.out⟩
                case measure => simp [intOf]; omega
            · have hjn' : j = n := by omega
              have e1 : (m.tail.take j).map (cutR k) = mnr k m := by rw [List.take_of_length_le (by rw [List.length_tail, HL.out]; omega)]; rfl
              rw [e1] at hO
              have HMIN := Lib.hid hO.rd
              have hbel3 := hbq2
              clear hbel2 hO hbq hbq2 hlo e1 hjn'
              have hbel2 := hbel3
              clear hbel3
              go_wp2_with fail
              refine (IH.out _ (mnr k m) _ HMIN.out HSQ.out).mono ?_; rintro e w6 ⟨rfl, hb6⟩
              obtain ⟨D, hD⟩ : ∃ z, detL n (mnr k m) = z := ⟨_, rfl⟩
              have hDr := det_rng HSQ.out
              have hDB := dB_5 (show n ≤ 5 by omega)
              rw [hD] at hDr ⊢
              have HD := Lib.hid hD
              have HW := Lib.hid (show Below w0.heap.size w0 w6 from hbel2.trans (hb6.mono hbel2.size))
              clear hD hb6 hbel2
              go_wp2
              go_roundw
              case rel =>
                have h1 := abs_mul (A := 1) (B := 12) (show -1 ≤ S ∧ S ≤ 1 by omega) hXr
                have h2 := abs_mul (A := 12) (B := 29859840) (a := S * X) (b := D) (by omega) (by omega)
                refine ⟨k + 1, _, _, by omega, by go_num, rfl, rfl, ?_, ?_, HW.out⟩
                · show _ = _
                  rw [detS_succ, HD.out, ← HSG.out, ← HT.out, HXF.out]
                  rw [IntWalk.wrap64_in (S * X) ⟨by omega, by omega⟩, IntWalk.wrap64_in (S * X * D) ⟨by omega, by omega⟩, IntWalk.wrap64_in (T + S * X * D) ⟨by omega, by omega⟩]
                · show _ = _
                  rw [sgK_succ, ← HSG.out]
              case measure => simp [intOf]; omega
      · have hkn : k = n + 1 := by omega
        have HTE := Lib.hid (show T = detL (n + 1) m by rw [HDL.out, HT.out, hkn])
        clear hkn
        go_wp2
        go_ret
        exact ⟨by rw [← HTE.out]; rfl, hbel⟩
end Go.Proofs.Ytjhllgldllbaaaa
