/- The law of Net.lean, for a region in which one operation of the net (g) writes into memory that operations ahead of it made (an append): behind it only equations and what waits for it are known. -/
import Derived.Test.YtbgjhnolnccnnaaNet
namespace Go.Proofs.Ytbgjhnolnccnnaa
set_option linter.unusedVariables false
set_option linter.unusedSimpArgs false
open Go.RowKit
section
variable {P : Program}
section
variable {ops : Array Oper} {Q : Exit → Act → World → Prop} {sp : List NS} {D N : List (List Nat)} {m g : Nat} {a0 : Act} {w0 : World} {E : Nat → Bool}
/-- what is to be shown of operation i: at g the memory from w0's size on may have been turned -/
def netDoC (P : Program) (ops : Array Oper) (sp : List NS) (D N : List (List Nat)) (g : Nat) (a0 : Act) (w0 : World) (i : Nat) (o : Oper) : Prop :=
  ∀ (x : Gh) (w : World), Below w0.heap.size w0 w → (∀ j ∈ N.getD i [], known sp D x j w ∧ x.hi j ≤ w.heap.size) → ∀ Q' : Exit → Act → World → Prop,
    (∀ u w', Below (bif i == g then w0.heap.size else w.heap.size) w w' → (sp.getD i (.eq undef)).holds i (D.getD i []) (x.set i u w.heap.size w'.heap.size) w' → Q' .normal ((netAct ops a0 x.v i).put o.dst u) w') → wpList P ops Q' [o] (netAct ops a0 x.v i) w

theorem net_anyC (hB : netB ops D m = true) (hst : ∀ s ∈ sp, s.stable) (hgm : g < m) (hE : ∀ i, E i = true → i = g ∨ g ∈ D.getD i [] ∨ ∃ u, sp.getD i (.eq undef) = .eq u) (hN : ∀ i, i < m → ∀ j ∈ N.getD i [], j ∈ D.getD i [] ∧ (i = g ∨ i ∈ D.getD g [] ∨ E j = true)) (hdo : ∀ i o, i < m → ops[i]? = some o → netDoC P ops sp D N g a0 w0 i o)
    (hend : ∀ x w, Below w0.heap.size w0 w → (∀ i, i < m → E i = true → known sp D x i w) → (∀ i, i < m → w0.heap.size ≤ x.lo i ∧ x.lo i ≤ x.hi i ∧ x.hi i ≤ w.heap.size) → (∀ i j, i < m → j < m → i ≠ j → x.hi i ≤ x.lo j ∨ x.hi j ≤ x.lo i) → wpList P ops Q (ops.toList.drop m) (netAct ops a0 x.v m) w) :
    ∀ (fuel : Nat) (listed : Array Bool) (x : Gh) (w : World), ((List.range ops.size).filter fun j => !listed.getD j false).length = fuel → listed.size = ops.size → (∀ j, m ≤ j → listed.getD j false = false) →
      (∀ i, listed.getD i false = true → ∀ j ∈ D.getD i [], listed.getD j false = true) → Below w0.heap.size w0 w → (∀ i, listed.getD i false = true → listed.getD g false = false ∨ E i = true → known sp D x i w) → (∀ i, listed.getD i false = true → w0.heap.size ≤ x.lo i ∧ x.lo i ≤ x.hi i ∧ x.hi i ≤ w.heap.size) →
      (∀ i j, listed.getD i false = true → listed.getD j false = true → i ≠ j → x.hi i ≤ x.lo j ∨ x.hi j ≤ x.lo i) →
      wpAny P .any ops Q fuel listed (actP ops a0 x.v (fun j => listed.getD j false) ops.size) w := by
  simp only [netB, Bool.and_eq_true, decide_eq_true_eq] at hB
  obtain ⟨⟨hm, hns⟩, hnf⟩ := hB
  have hok : ∀ i o, ops[i]? = some o → NetOk ops D m i o := fun i o ho => netAt_spec (by
    have := netFrom_spec ops.toList 0 hnf i o (by simpa using ho)
    simpa using this)
  have hst' : ∀ i, (sp.getD i (.eq undef)).stable := fun i => by
    rw [List.getD_eq_getElem?_getD]
    rcases h : sp[i]? with _ | s
    · trivial
    · exact hst s (List.mem_of_getElem? h)
  intro fuel
  induction fuel with
  | zero =>
    intro listed x w hc hls hlm hcl hb hkn hiv hdj
    -- all are listed: then m is the region's size
    have hall : ∀ j, j < ops.size → listed.getD j false = true := fun j hj => by
      rw [List.length_eq_zero_iff, List.filter_eq_nil_iff] at hc
      have := hc j (List.mem_range.2 hj)
      simpa using this
    have hms : m = ops.size := by
      rcases Nat.lt_or_ge m ops.size with h | h
      · have := hall m h
        rw [hlm m (Nat.le_refl _)] at this
        cases this
      · omega
    refine net_tail hok 0 ops.size listed _ w (by omega) (by omega) hls (fun j => ?_) ?_
    · by_cases hj : j < ops.size
      · rw [hall j hj]; simp [hj]
      · rw [hlm j (by omega)]; simp [hj]
    · have := hend x w hb (fun i hi he => hkn i (hall i (by omega)) (.inr he)) (fun i hi => hiv i (hall i (by omega))) (fun i j hi hj => hdj i j (hall i (by omega)) (hall j (by omega)))
      rw [← actP_net (p := fun j => listed.getD j false) m (fun j hj => hall j (by omega))] at this
      rwa [hms] at this
  | succ fuel ih =>
    intro listed x w hc hls hlm hcl hb hkn hiv hdj
    by_cases hfull : ∀ j, j < m → listed.getD j false = true
    · -- the tail
      have hl : ∀ j, listed.getD j false = decide (j < m) := fun j => by
        by_cases hj : j < m
        · rw [hfull j hj]; simp [hj]
        · rw [hlm j (by omega)]; simp [hj]
      have hcnt : fuel + 1 + m = ops.size := by
        rw [← hc]
        have e : (List.range ops.size).filter (fun j => !listed.getD j false) = (List.range' m (ops.size - m)) := by
          have e1 : (List.range ops.size) = List.range m ++ List.range' m (ops.size - m) := by
            have h := List.range'_append_1 (s := 0) (m := m) (n := ops.size - m)
            rw [Nat.zero_add] at h
            rw [List.range_eq_range', List.range_eq_range', h]
            congr 1
            omega
          rw [e1, List.filter_append]
          rw [List.filter_eq_nil_iff.2 (fun j hj => by rw [hl]; simp at hj ⊢; exact hj), List.nil_append]
          rw [List.filter_eq_self.2 (fun j hj => by rw [hl]; simp [List.mem_range'] at hj ⊢; omega)]
        rw [e, List.length_range']
        omega
      refine net_tail hok (fuel + 1) m listed _ w (by omega) (Nat.le_refl _) hls hl ?_
      have := hend x w hb (fun i hi he => hkn i (hfull i hi) (.inr he)) (fun i hi => hiv i (hfull i hi)) (fun i j hi hj => hdj i j (hfull i hi) (hfull j hj))
      rw [← actP_net (p := fun j => listed.getD j false) m hfull] at this
      rwa [actP_none (p := fun j => listed.getD j false) ops.size m hm (fun j h1 _ => hlm j h1)]
    · -- one of the net
      have hne : Region.ready .any ops listed ≠ [] := by
        intro h0
        -- the least that is not listed is ready
        have : ∀ n, ∀ j, j < n → j < m → listed.getD j false = true := by
          intro n
          induction n with
          | zero => intro j hj; omega
          | succ n ihn =>
            intro j hj hjm
            by_cases e : j < n
            · exact ihn j e hjm
            · rcases hlj : listed.getD j false with _ | _
              · exfalso
                have hjs : j < ops.size := by omega
                have hje := Array.getElem?_eq_getElem hjs
                have : j ∈ Region.ready .any ops listed := mem_ready.2 ⟨by
                  rw [← hlj]
                  simp [Array.getD_eq_getD_getElem?, Array.getElem?_eq_getElem (show j < listed.size by omega)], _, hje, fun e he hb => by
                  have := (hok j _ hje).direct e he hb
                  exact ihn e.on (by omega) (by omega)⟩
                rw [h0] at this
                cases this
              · rfl
        exact hfull fun j hj => this (j + 1) j (by omega) hj
      refine ⟨fun h0 => absurd h0 hne, fun i hi => ?_⟩
      obtain ⟨h0, o, ho, hall⟩ := mem_ready.1 hi
      have his := (Array.getElem?_eq_some_iff.1 ho).1
      have hO := hok i o ho
      have hDl : ∀ j ∈ D.getD i [], listed.getD j false = true := hO.danc (fun j => listed.getD j false = true) hall (fun k hk j hj => hcl k hk j hj)
      have him : i < m := by
        rcases Nat.lt_or_ge i m with h | h
        · exact h
        · exact absurd (fun j hj => hDl j (hO.tail h j (by omega))) hfull
      have hli : listed.getD i false = false := by
        rw [← h0]
        simp [Array.getD_eq_getD_getElem?, Array.getElem?_eq_getElem (show i < listed.size by omega)]
      have hgi : i ≠ g → listed.getD g false = true → i ∉ D.getD g [] := fun _ hg hD => by
        have := hcl g hg i hD
        rw [hli] at this
        cases this
      have hpre := hdo i o him ho x w hb (fun j hj => ⟨hkn j (hDl j (hN i him j hj).1) (by
          rcases (hN i him j hj).2 with h | h | h
          · subst h; exact .inl hli
          · rcases hg : listed.getD g false with _ | _
            · exact .inl rfl
            · by_cases e : i = g
              · subst e; rw [hli] at hg; cases hg
              · exact absurd h (hgi e hg)
          · exact .inr h), (hiv j (hDl j (hN i him j hj).1)).2.2⟩) (fun e b w' => e = .normal ∧ ∃ u, b = (netAct ops a0 x.v i).put o.dst u ∧ (Below (bif i == g then w0.heap.size else w.heap.size) w w' ∧ (sp.getD i (.eq undef)).holds i (D.getD i []) (x.set i u w.heap.size w'.heap.size) w'))
        (fun u w' h1 h2 => ⟨rfl, u, rfl, h1, h2⟩)
      have hwant : ∀ b : Act, Region.wanted o (yielded ops b.tmps) = true := fun b => by simp [Region.wanted, hO.guard]
      have hnl : ¬ LetsOut (fun (e : Exit) (b : Act) (w' : World) => e = .normal ∧ ∃ u, b = (netAct ops a0 x.v i).put o.dst u ∧ (Below (bif i == g then w0.heap.size else w.heap.size) w w' ∧ (sp.getD i (.eq undef)).holds i (D.getD i []) (x.set i u w.heap.size w'.heap.size) w')) := by
        rintro ⟨b, w', h, _⟩
        cases h
      simp only [wpList, hwant, if_true] at hpre
      rcases hpre with hpre | hpre
      case inr => exact absurd hpre.2 hnl
      simp only [true_and] at hpre
      have hexec : execOp (actP ops a0 x.v (fun j => listed.getD j false) ops.size).eval o = execOp (netAct ops a0 x.v i).eval o := by
        refine execOp_congr o (fun cs b => Region.noSelect_spec hns i o cs b ho) fun y hx => ?_
        by_cases hxt : ∃ t, y = .tmp t
        · obtain ⟨t, rfl⟩ := hxt
          have hlook : t ∈ o.looksAt ops := List.mem_append_left _ (List.mem_filterMap.2 ⟨.tmp t, by simpa using hx, rfl⟩)
          have e1 : netAct ops a0 x.v i = actP ops a0 x.v (fun j => decide (j < i)) ops.size := by
            rw [actP_none (p := fun j => decide (j < i)) ops.size i (by omega) (fun j h1 _ => by simp; omega)]
            exact (actP_net (p := fun j => decide (j < i)) i (fun j hj => by simp [hj])).symm
          rw [e1]
          refine actP_eval t ops.size fun j hj hd => ?_
          rcases hO.looks j t hd hlook with h | h
          · rw [hDl j h]; have := hO.dlt j h; simp [this]
          · have hlt := (hok j _ (Array.getElem?_eq_getElem hj)).dlt i h
            have : listed.getD j false = false := by
              rcases hlj : listed.getD j false with _ | _
              · rfl
              · have := hcl j hlj i h
                rw [hli] at this
                cases this
            rw [this]; simp; omega
        · exact actP_evalC y (fun t h => hxt ⟨t, h⟩) _ _
      have hsz : (netAct ops a0 x.v i).tmps.size = (actP ops a0 x.v (fun j => listed.getD j false) ops.size).tmps.size := by
        rw [actP_size, ← actP_net (p := fun _ => true) i (fun _ _ => rfl), actP_size]
      have hT := wp_transfer (Q2 := Q) hexec hsz (fun c b w' h => by cases h.1) hnl hpre
      unfold wpOp
      simp only [ho, hwant, if_true]
      refine .inl (Oper.wp_mono ?_ hT)
      rintro b w' ⟨u, rfl, hbw, hh⟩
      have hbw0 : Below w0.heap.size w w' := by
        rcases hig : (i == g) with _ | _
        · rw [hig] at hbw; exact Below.mono hbw hb.size
        · rw [hig] at hbw; exact hbw
      have hdst : o.dst = dstAt ops i := by simp [dstAt, ho]
      have hlq : ∀ j, (listed.setIfInBounds i true).getD j false = (listed.getD j false || j == i) := fun j => by
        by_cases e : i = j
        · subst e
          simp [Array.getD_eq_getD_getElem?, Array.getElem?_setIfInBounds, hls, his]
        · rw [getD_set_ne _ e]
          simp [Ne.symm e]
      rw [hdst, actP_add (v' := (x.set i u w.heap.size w'.heap.size).v) (q := fun j => (listed.setIfInBounds i true).getD j false) (fun j hj _ => by simp [Gh.set, hj]) (by simp [Gh.set]) hli hlq (fun j d hij hlj hdj hdi => by
        rcases hO.dsts j d (by omega) hdj hdi with h | h
        · have := hO.dlt j h; omega
        · have := hcl j hlj i h
          rw [hli] at this
          cases this) ops.size his]
      refine ih _ _ _ ?_ (by simpa using hls) (fun j hj => by rw [hlq, hlm j hj]; simp; omega) (fun k hk j hj => ?_) (hb.trans hbw0) (fun k hk hal => ?_) (fun k hk => ?_) (fun k j hk hj hkj => ?_)
      · -- the count
        have hmem : i ∈ (List.range ops.size).filter fun j => !listed.getD j false := by
          rw [List.mem_filter]; exact ⟨List.mem_range.2 his, by rw [hli]; rfl⟩
        have e : (List.range ops.size).filter (fun j => !(listed.setIfInBounds i true).getD j false) = ((List.range ops.size).filter fun j => !listed.getD j false).filter (fun j => j != i) := by
          rw [List.filter_filter]
          congr 1
          funext j
          rw [hlq]
          simp [Bool.not_or, Bool.and_comm, bne]
        have hnd : ((List.range ops.size).filter fun j => !listed.getD j false).Nodup := List.nodup_range.filter _
        rw [e]
        have := List.length_erase_of_mem hmem
        rw [hnd.erase_eq_filter, hc] at this
        simpa using this
      · rw [hlq] at hk ⊢
        simp only [Bool.or_eq_true, beq_iff_eq] at hk ⊢
        rcases hk with hk | rfl
        · exact .inl (hcl k hk j hj)
        · exact .inl (hDl j hj)
      · rw [hlq] at hk
        simp only [Bool.or_eq_true, beq_iff_eq] at hk
        unfold known
        by_cases e : k = i
        · subst e
          exact hh
        · rcases hk with hk | hk
          · have hst1 : (sp.getD k (.eq undef)).holds k (D.getD k []) x w' := by
              by_cases eg : i = g
              · subst eg
                rw [hlq] at hal
                simp only [beq_self_eq_true, Bool.or_true, Bool.true_eq_false, false_or] at hal
                rcases hE k hal with h | h | ⟨u', h⟩
                · exact absurd h e
                · have := hcl k hk i h
                  rw [hli] at this
                  cases this
                · have hkk := hkn k hk (.inr hal)
                  unfold known at hkk
                  rw [h] at hkk ⊢
                  exact hkk
              · have hig : (i == g) = false := by simpa using eg
                rw [hig] at hbw
                refine NS.holds_stable (hst' k) (hkn k hk ?_) hbw
                rw [hlq] at hal
                simpa [Ne.symm eg] using hal
            refine NS.holds_congr (x := x) (fun j hj => ?_) hst1
            have hji : j ≠ i := by
              rcases hj with rfl | hj
              · exact e
              · rintro rfl
                have := hcl k hk j hj
                rw [hli] at this
                cases this
            simp [Gh.set, hji]
          · exact absurd hk e
      · rw [hlq] at hk
        simp only [Bool.or_eq_true, beq_iff_eq] at hk
        by_cases e : k = i
        · subst e
          simp only [Gh.set, if_true]
          exact ⟨hb.size, hbw0.size, Nat.le_refl _⟩
        · have := hiv k (hk.resolve_right e)
          have := hbw0.size
          simp only [Gh.set, if_neg e]
          omega
      · rw [hlq] at hk hj
        simp only [Bool.or_eq_true, beq_iff_eq] at hk hj
        by_cases e : k = i
        · subst e
          have := hiv j (hj.resolve_right (Ne.symm hkj))
          simp only [Gh.set, if_true, if_neg (Ne.symm hkj)]
          exact .inr (by omega)
        · by_cases e' : j = i
          · subst e'
            have := hiv k (hk.resolve_right e)
            simp only [Gh.set, if_true, if_neg e]
            exact .inl (by omega)
          · simp only [Gh.set, if_neg e, if_neg e']
            exact hdj k j (hk.resolve_right e) (hj.resolve_right e') hkj

def netAllC (P : Program) (ops : Array Oper) (sp : List NS) (D N : List (List Nat)) (g : Nat) (a0 : Act) (w0 : World) : Nat → List Oper → Prop
  | _, [] => True
  | i, o :: l => netDoC P ops sp D N g a0 w0 i o ∧ netAllC P ops sp D N g a0 w0 (i + 1) l
theorem netAllC_spec {ops : Array Oper} {sp : List NS} {D N : List (List Nat)} {g : Nat} {a0 : Act} {w0 : World} : ∀ (l : List Oper) (k : Nat), netAllC P ops sp D N g a0 w0 k l → ∀ j o, l[j]? = some o → netDoC P ops sp D N g a0 w0 (k + j) o
  | [], _, _, _, _, h => by simp at h
  | x :: l, k, h, 0, o, hj => by
    simp at hj
    subst hj
    exact h.1
  | x :: l, k, h, j + 1, o, hj => by
    have := netAllC_spec l (k + 1) h.2 j o (by simpa using hj)
    rwa [show k + 1 + j = k + (j + 1) by omega] at this
/-- what is known behind g -/
def consB (sp : List NS) (D : List (List Nat)) (g : Nat) : List Nat → Prop
  | [] => True
  | i :: l => (i = g ∨ (D.getD i []).contains g = true ∨ ∃ u, sp.getD i (.eq undef) = .eq u) ∧ consB sp D g l
theorem consB_spec {sp : List NS} {D : List (List Nat)} {g : Nat} : ∀ {l : List Nat}, consB sp D g l → ∀ i, i ∈ l → i = g ∨ g ∈ D.getD i [] ∨ ∃ u, sp.getD i (.eq undef) = .eq u
  | [], _, i, hi => by simp at hi
  | a :: l, h, i, hi => by
    rcases List.mem_cons.1 hi with rfl | hi
    · rcases h.1 with h | h | h
      · exact .inl h
      · exact .inr (.inl (by simpa using h))
      · exact .inr (.inr h)
    · exact consB_spec h.2 i hi
/-- THE LAW. -/
theorem wp_region_netC {id : Nat} {l : List Oper} {w : World} (hmo : P.follows .mixedOrders = true) (sp : List NS) (D N : List (List Nat)) (E : List Nat) (m g : Nat) (hB : netB l.toArray D m = true) (hgm : (decide (g < m) && (List.range m).all fun i => (N.getD i []).all fun j => (D.getD i []).contains j && (i == g || (D.getD g []).contains i || E.contains j)) = true) (hE : consB sp D g E) (hst : stableAll sp)
    (hdo : netAllC P l.toArray sp D N g a0 w 0 (l.take m))
    (hend : ∀ x w', Below w.heap.size w w' → (∀ i, i < m → E.contains i = true → known sp D x i w') → (∀ i, i < m → w.heap.size ≤ x.lo i ∧ x.lo i ≤ x.hi i ∧ x.hi i ≤ w'.heap.size) → (∀ i j, i < m → j < m → i ≠ j → x.hi i ≤ x.lo j ∨ x.hi j ≤ x.lo i) → wpList P l.toArray Q (l.drop m) (netAct l.toArray a0 x.v m) w') : (Code.region id l.toArray true).wp P Q a0 w := by
  replace hst := stableAll_spec hst
  have hdo : ∀ i o, i < m → l[i]? = some o → netDoC P l.toArray sp D N g a0 w.drew i o := fun i o hi ho => by
    have := netAllC_spec (l.take m) 0 hdo i o (by rw [List.getElem?_take, if_pos hi]; exact ho)
    rw [Nat.zero_add] at this
    exact fun v w1 hb => this v w1 ⟨hb.os, hb.tape, hb.output, hb.size, hb.block⟩
  simp only [Bool.and_eq_true, decide_eq_true_eq, List.all_eq_true, List.mem_range, Bool.or_eq_true, List.contains_iff_mem, beq_iff_eq] at hgm
  refine wp_region_any hmo ?_
  have h := net_anyC (w0 := w.drew) (a0 := a0) (Q := Q) (P := P) (sp := sp) (E := fun i => E.contains i) (N := N) (g := g) hB hst hgm.1 (fun i hi => consB_spec hE i (by simpa using hi)) (fun i hi j hj => by obtain ⟨h1, h2⟩ := hgm.2 i hi j hj; exact ⟨h1, h2.elim (fun h2 => h2.elim .inl (fun h2 => .inr (.inl h2))) (fun h2 => .inr (.inr (by simpa using h2)))⟩) (fun i o hi ho => hdo i o hi (by simpa using ho)) (fun x w' hb hk hiv hdj => by simpa using hend x w' (show Below w.heap.size w w' from ⟨hb.os, hb.tape, hb.output, hb.size, hb.block⟩) hk hiv hdj)
    l.toArray.size (Array.replicate l.toArray.size false) ⟨fun _ => undef, fun _ => 0, fun _ => 0⟩ w.drew
    (by rw [List.filter_eq_self.2 (fun j _ => by rw [repl_getD]; rfl), List.length_range])
    (by simp) (fun j _ => repl_getD _ _)
    (fun i hi => by rw [repl_getD] at hi; cases hi)
    (Below.refl _ _)
    (fun i hi => by rw [repl_getD] at hi; cases hi)
    (fun i hi => by rw [repl_getD] at hi; cases hi)
    (fun i j hi => by rw [repl_getD] at hi; cases hi)
  have e : actP l.toArray a0 (fun _ => undef) (fun j => (Array.replicate l.toArray.size false).getD j false) l.toArray.size = a0 :=
    actP_none l.toArray.size 0 (by omega) (fun j _ _ => repl_getD _ _)
  rw [e] at h
  exact h
end
end
end Go.Proofs.Ytbgjhnolnccnnaa
