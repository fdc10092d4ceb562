/- FnExactRootRep: the law holds for every argument. Part 3 of 18 of the proof: NetC, Order, Num, Zig, Line, MkI, BoxV, Symm, Symm2, Refl, Pencil, GIdx, DsF, KitR2, Seat. No condition. -/
import Derived.Test.YtcmlflppndfdcaaGreatBRootRep2
import Derived.Shelf.RegionOpenPlain
set_option linter.unusedVariables false
set_option linter.unusedSimpArgs false
namespace Go.Proofs.YtcmlflppndfdcaaGreat
open Go.RowKit
section
variable {P : Program}
section
variable {ops : Array Oper} {Q : Exit → Act → World → Prop} {sp : List NS} {D N : List (List Nat)} {m g : Nat} {a0 : Act} {w0 : World} {E : Nat → Bool}
def netDoC (P : Program) (ops : Array Oper) (sp : List NS) (D N : List (List Nat)) (g : Nat) (a0 : Act) (w0 : World) (i : Nat) (o : Oper) : Prop :=
 ∀ (x : Gh) (w : World), Below w0.heap.size w0 w → (∀ j ∈ N.getD i [], known sp D x j w ∧ x.hi j ≤ w.heap.size) → ∀ Q' : Exit → Act → World → Prop,
  (∀ u w', Below (bif i == g then w0.heap.size else w.heap.size) w w' → (sp.getD i (.eq undef)).holds i (D.getD i []) (x.set i u w.heap.size w'.heap.size) w' → Q' .normal ((netAct ops a0 x.v i).put o.dst u) w') → wpList P ops Q' [o] (netAct ops a0 x.v i) w
theorem net_anyC (hB : netB ops D m = true) (hst : ∀ s ∈ sp, s.stable) (hgm : g < m) (hE : ∀ i, E i = true → i = g ∨ g ∈ D.getD i [] ∨ ∃ u, sp.getD i (.eq undef) = .eq u) (hN : ∀ i, i < m → ∀ j ∈ N.getD i [], j ∈ D.getD i [] ∧ (i = g ∨ i ∈ D.getD g [] ∨ E j = true)) (hdo : ∀ i o, i < m → ops[i]? = some o → netDoC P ops sp D N g a0 w0 i o)
  (hend : ∀ x w, Below w0.heap.size w0 w → (∀ i, i < m → E i = true → known sp D x i w) → (∀ i, i < m → w0.heap.size ≤ x.lo i ∧ x.lo i ≤ x.hi i ∧ x.hi i ≤ w.heap.size) → (∀ i j, i < m → j < m → i ≠ j → x.hi i ≤ x.lo j ∨ x.hi j ≤ x.lo i) → wpList P ops Q (ops.toList.drop m) (netAct ops a0 x.v m) w) :
  ∀ (fuel : Nat) (listed : Array Bool) (x : Gh) (w : World), ((List.range ops.size).filter fun j => !listed.getD j false).length = fuel → listed.size = ops.size → (∀ j, m ≤ j → listed.getD j false = false) →
   (∀ i, listed.getD i false = true → ∀ j ∈ D.getD i [], listed.getD j false = true) → Below w0.heap.size w0 w → (∀ i, listed.getD i false = true → listed.getD g false = false ∨ E i = true → known sp D x i w) → (∀ i, listed.getD i false = true → w0.heap.size ≤ x.lo i ∧ x.lo i ≤ x.hi i ∧ x.hi i ≤ w.heap.size) →
   (∀ i j, listed.getD i false = true → listed.getD j false = true → i ≠ j → x.hi i ≤ x.lo j ∨ x.hi j ≤ x.lo i) →
   wpAny P .any ops Q fuel listed (actP ops a0 x.v (fun j => listed.getD j false) ops.size) w := by
 simp only [netB, Bool.and_eq_true, decide_eq_true_eq] at hB
 obtain ⟨⟨hm, hns⟩, hnf⟩ := hB
 have hok : ∀ i o, ops[i]? = some o → NetOk ops D m i o := fun i o ho => netAt_spec (by
  have := netFrom_spec ops.toList 0 hnf i o (by simpa using ho)
  simpa using this)
 have hst' : ∀ i, (sp.getD i (.eq undef)).stable := fun i => by
  rw [List.getD_eq_getElem?_getD]
  rcases h : sp[i]? with _ | s
  ·trivial
  ·exact hst s (List.mem_of_getElem? h)
 intro fuel
 induction fuel with
 | zero =>
  intro listed x w hc hls hlm hcl hb hkn hiv hdj
  have hall : ∀ j, j < ops.size → listed.getD j false = true := fun j hj => by
   rw [List.length_eq_zero_iff, List.filter_eq_nil_iff] at hc
   have := hc j (List.mem_range.2 hj)
   simpa using this
  have hms : m = ops.size := by
   rcases Nat.lt_or_ge m ops.size with h | h
   ·have := hall m h
    rw [hlm m (Nat.le_refl _)] at this
    cases this
   ·omega
  refine net_tail hok 0 ops.size listed _ w (by omega) (by omega) hls (fun j => ?_) ?_
  ·by_cases hj : j < ops.size
   ·rw [hall j hj]; simp [hj]
   ·rw [hlm j (by omega)]; simp [hj]
  ·have := hend x w hb (fun i hi he => hkn i (hall i (by omega)) (.inr he)) (fun i hi => hiv i (hall i (by omega))) (fun i j hi hj => hdj i j (hall i (by omega)) (hall j (by omega)))
   rw [← actP_net (p := fun j => listed.getD j false) m (fun j hj => hall j (by omega))] at this
   rwa [hms] at this
 | succ fuel ih =>
  intro listed x w hc hls hlm hcl hb hkn hiv hdj
  by_cases hfull : ∀ j, j < m → listed.getD j false = true
  · -- the tail
   have hl : ∀ j, listed.getD j false = decide (j < m) := fun j => by
    by_cases hj : j < m
    ·rw [hfull j hj]; simp [hj]
    ·rw [hlm j (by omega)]; simp [hj]
   have hcnt : fuel + 1 + m = ops.size := by
    rw [← hc]
    have e : (List.range ops.size).filter (fun j => !listed.getD j false) = (List.range' m (ops.size - m)) := by
     have e1 : (List.range ops.size) = List.range m ++ List.range' m (ops.size - m) := by
      have h := List.range'_append_1 (s := 0) (m := m) (n := ops.size - m)
      rw [Nat.zero_add] at h
      rw [List.range_eq_range', List.range_eq_range', h]
      congr 1
      omega
     rw [e1, List.filter_append]
     rw [List.filter_eq_nil_iff.2 (fun j hj => by rw [hl]; simp at hj ⊢; exact hj), List.nil_append]
     rw [List.filter_eq_self.2 (fun j hj => by rw [hl]; simp [List.mem_range'] at hj ⊢; omega)]
    rw [e, List.length_range']
    omega
   refine net_tail hok (fuel + 1) m listed _ w (by omega) (Nat.le_refl _) hls hl ?_
   have := hend x w hb (fun i hi he => hkn i (hfull i hi) (.inr he)) (fun i hi => hiv i (hfull i hi)) (fun i j hi hj => hdj i j (hfull i hi) (hfull j hj))
   rw [← actP_net (p := fun j => listed.getD j false) m hfull] at this
   rwa [actP_none (p := fun j => listed.getD j false) ops.size m hm (fun j h1 _ => hlm j h1)]
  · -- one of the net
   have hne : Region.ready .any ops listed ≠ [] := by
    intro h0
    have : ∀ n, ∀ j, j < n → j < m → listed.getD j false = true := by
     intro n
     induction n with
     | zero => intro j hj; omega
     | succ n ihn =>
      intro j hj hjm
      by_cases e : j < n
      ·exact ihn j e hjm
      ·rcases hlj : listed.getD j false with _ | _
       ·exfalso
        have hjs : j < ops.size := by omega
        have hje := Array.getElem?_eq_getElem hjs
        have : j ∈ Region.ready .any ops listed := mem_ready.2 ⟨by
         rw [← hlj]
         simp [Array.getD_eq_getD_getElem?, Array.getElem?_eq_getElem (show j < listed.size by omega)], _, hje, fun e he hb => by
         have := (hok j _ hje).direct e he hb
         exact ihn e.on (by omega) (by omega)⟩
        rw [h0] at this
        cases this
       ·rfl
    exact hfull fun j hj => this (j + 1) j (by omega) hj
   refine ⟨fun h0 => absurd h0 hne, fun i hi => ?_⟩
   obtain ⟨h0, o, ho, hall⟩ := mem_ready.1 hi
   have his := (Array.getElem?_eq_some_iff.1 ho).1
   have hO := hok i o ho
   have hDl : ∀ j ∈ D.getD i [], listed.getD j false = true := hO.danc (fun j => listed.getD j false = true) hall (fun k hk j hj => hcl k hk j hj)
   have him : i < m := by
    rcases Nat.lt_or_ge i m with h | h
    ·exact h
    ·exact absurd (fun j hj => hDl j (hO.tail h j (by omega))) hfull
   have hli : listed.getD i false = false := by
    rw [← h0]
    simp [Array.getD_eq_getD_getElem?, Array.getElem?_eq_getElem (show i < listed.size by omega)]
   have hgi : i ≠ g → listed.getD g false = true → i ∉ D.getD g [] := fun _ hg hD => by
    have := hcl g hg i hD
    rw [hli] at this
    cases this
   have hpre := hdo i o him ho x w hb (fun j hj => ⟨hkn j (hDl j (hN i him j hj).1) (by
     rcases (hN i him j hj).2 with h | h | h
     ·subst h; exact .inl hli
     ·rcases hg : listed.getD g false with _ | _
      ·exact .inl rfl
      ·by_cases e : i = g
       ·subst e; rw [hli] at hg; cases hg
       ·exact absurd h (hgi e hg)
     ·exact .inr h), (hiv j (hDl j (hN i him j hj).1)).2.2⟩) (fun e b w' => e = .normal ∧ ∃ u, b = (netAct ops a0 x.v i).put o.dst u ∧ (Below (bif i == g then w0.heap.size else w.heap.size) w w' ∧ (sp.getD i (.eq undef)).holds i (D.getD i []) (x.set i u w.heap.size w'.heap.size) w'))
    (fun u w' h1 h2 => ⟨rfl, u, rfl, h1, h2⟩)
   have hwant : ∀ b : Act, Region.wanted o (yielded ops b.tmps) = true := fun b => by simp [Region.wanted, hO.guard]
   have hnl : ¬ LetsOut (fun (e : Exit) (b : Act) (w' : World) => e = .normal ∧ ∃ u, b = (netAct ops a0 x.v i).put o.dst u ∧ (Below (bif i == g then w0.heap.size else w.heap.size) w w' ∧ (sp.getD i (.eq undef)).holds i (D.getD i []) (x.set i u w.heap.size w'.heap.size) w')) := by
    rintro ⟨b, w', h, _⟩
    cases h
   simp only [wpList, hwant, if_true] at hpre
   rcases hpre with hpre | hpre
   case inr => exact absurd hpre.2 hnl
   simp only [true_and] at hpre
   have hexec : execOp (actP ops a0 x.v (fun j => listed.getD j false) ops.size).eval o = execOp (netAct ops a0 x.v i).eval o := by
    refine execOp_congr o (fun cs b => Region.noSelect_spec hns i o cs b ho) fun y hx => ?_
    by_cases hxt : ∃ t, y = .tmp t
    ·obtain ⟨t, rfl⟩ := hxt
     have hlook : t ∈ o.looksAt ops := List.mem_append_left _ (List.mem_filterMap.2 ⟨.tmp t, by simpa using hx, rfl⟩)
     have e1 : netAct ops a0 x.v i = actP ops a0 x.v (fun j => decide (j < i)) ops.size := by
      rw [actP_none (p := fun j => decide (j < i)) ops.size i (by omega) (fun j h1 _ => by simp; omega)]
      exact (actP_net (p := fun j => decide (j < i)) i (fun j hj => by simp [hj])).symm
     rw [e1]
     refine actP_eval t ops.size fun j hj hd => ?_
     rcases hO.looks j t hd hlook with h | h
     ·rw [hDl j h]; have := hO.dlt j h; simp [this]
     ·have hlt := (hok j _ (Array.getElem?_eq_getElem hj)).dlt i h
      have : listed.getD j false = false := by
       rcases hlj : listed.getD j false with _ | _
       ·rfl
       ·have := hcl j hlj i h
        rw [hli] at this
        cases this
      rw [this]; simp; omega
    ·exact actP_evalC y (fun t h => hxt ⟨t, h⟩) _ _
   have hsz : (netAct ops a0 x.v i).tmps.size = (actP ops a0 x.v (fun j => listed.getD j false) ops.size).tmps.size := by
    rw [actP_size, ← actP_net (p := fun _ => true) i (fun _ _ => rfl), actP_size]
   have hT := wp_transfer (Q2 := Q) hexec hsz (fun c b w' h => by cases h.1) hnl hpre
   unfold wpOp
   simp only [ho, hwant, if_true]
   refine .inl (Oper.wp_mono ?_ hT)
   rintro b w' ⟨u, rfl, hbw, hh⟩
   have hbw0 : Below w0.heap.size w w' := by
    rcases hig : (i == g) with _ | _
    ·rw [hig] at hbw; exact Below.mono hbw hb.size
    ·rw [hig] at hbw; exact hbw
   have hdst : o.dst = dstAt ops i := by simp [dstAt, ho]
   have hlq : ∀ j, (listed.setIfInBounds i true).getD j false = (listed.getD j false || j == i) := fun j => by
    by_cases e : i = j
    ·subst e
     simp [Array.getD_eq_getD_getElem?, Array.getElem?_setIfInBounds, hls, his]
    ·rw [getD_set_ne _ e]
     simp [Ne.symm e]
   rw [hdst, actP_add (v' := (x.set i u w.heap.size w'.heap.size).v) (q := fun j => (listed.setIfInBounds i true).getD j false) (fun j hj _ => by simp [Gh.set, hj]) (by simp [Gh.set]) hli hlq (fun j d hij hlj hdj hdi => by
    rcases hO.dsts j d (by omega) hdj hdi with h | h
    ·have := hO.dlt j h; omega
    ·have := hcl j hlj i h
     rw [hli] at this
     cases this) ops.size his]
   refine ih _ _ _ ?_ (by simpa using hls) (fun j hj => by rw [hlq, hlm j hj]; simp; omega) (fun k hk j hj => ?_) (hb.trans hbw0) (fun k hk hal => ?_) (fun k hk => ?_) (fun k j hk hj hkj => ?_)
   · -- the count
    have hmem : i ∈ (List.range ops.size).filter fun j => !listed.getD j false := by
     rw [List.mem_filter]; exact ⟨List.mem_range.2 his, by rw [hli]; rfl⟩
    have e : (List.range ops.size).filter (fun j => !(listed.setIfInBounds i true).getD j false) = ((List.range ops.size).filter fun j => !listed.getD j false).filter (fun j => j != i) := by
     rw [List.filter_filter]
     congr 1
     funext j
     rw [hlq]
     simp [Bool.not_or, Bool.and_comm, bne]
    have hnd : ((List.range ops.size).filter fun j => !listed.getD j false).Nodup := List.nodup_range.filter _
    rw [e]
    have := List.length_erase_of_mem hmem
    rw [hnd.erase_eq_filter, hc] at this
    simpa using this
   ·rw [hlq] at hk ⊢
    simp only [Bool.or_eq_true, beq_iff_eq] at hk ⊢
    rcases hk with hk | rfl
    ·exact .inl (hcl k hk j hj)
    ·exact .inl (hDl j hj)
   ·rw [hlq] at hk
    simp only [Bool.or_eq_true, beq_iff_eq] at hk
    unfold known
    by_cases e : k = i
    ·subst e
     exact hh
    ·rcases hk with hk | hk
     ·have hst1 : (sp.getD k (.eq undef)).holds k (D.getD k []) x w' := by
       by_cases eg : i = g
       ·subst eg
        rw [hlq] at hal
        simp only [beq_self_eq_true, Bool.or_true, Bool.true_eq_false, false_or] at hal
        rcases hE k hal with h | h | ⟨u', h⟩
        ·exact absurd h e
        ·have := hcl k hk i h
         rw [hli] at this
         cases this
        ·have hkk := hkn k hk (.inr hal)
         unfold known at hkk
         rw [h] at hkk ⊢
         exact hkk
       ·have hig : (i == g) = false := by simpa using eg
        rw [hig] at hbw
        refine NS.holds_stable (hst' k) (hkn k hk ?_) hbw
        rw [hlq] at hal
        simpa [Ne.symm eg] using hal
      refine NS.holds_congr (x := x) (fun j hj => ?_) hst1
      have hji : j ≠ i := by
       rcases hj with rfl | hj
       ·exact e
       ·rintro rfl
        have := hcl k hk j hj
        rw [hli] at this
        cases this
      simp [Gh.set, hji]
     ·exact absurd hk e
   ·rw [hlq] at hk
    simp only [Bool.or_eq_true, beq_iff_eq] at hk
    by_cases e : k = i
    ·subst e
     simp only [Gh.set, if_true]
     exact ⟨hb.size, hbw0.size, Nat.le_refl _⟩
    ·have := hiv k (hk.resolve_right e)
     have := hbw0.size
     simp only [Gh.set, if_neg e]
     omega
   ·rw [hlq] at hk hj
    simp only [Bool.or_eq_true, beq_iff_eq] at hk hj
    by_cases e : k = i
    ·subst e
     have := hiv j (hj.resolve_right (Ne.symm hkj))
     simp only [Gh.set, if_true, if_neg (Ne.symm hkj)]
     exact .inr (by omega)
    ·by_cases e' : j = i
     ·subst e'
      have := hiv k (hk.resolve_right e)
      simp only [Gh.set, if_true, if_neg e]
      exact .inl (by omega)
     ·simp only [Gh.set, if_neg e, if_neg e']
      exact hdj k j (hk.resolve_right e) (hj.resolve_right e') hkj
def netAllC (P : Program) (ops : Array Oper) (sp : List NS) (D N : List (List Nat)) (g : Nat) (a0 : Act) (w0 : World) : Nat → List Oper → Prop
 | _, [] => True
 | i, o :: l => netDoC P ops sp D N g a0 w0 i o ∧ netAllC P ops sp D N g a0 w0 (i + 1) l
theorem netAllC_spec {ops : Array Oper} {sp : List NS} {D N : List (List Nat)} {g : Nat} {a0 : Act} {w0 : World} : ∀ (l : List Oper) (k : Nat), netAllC P ops sp D N g a0 w0 k l → ∀ j o, l[j]? = some o → netDoC P ops sp D N g a0 w0 (k + j) o
 | [], _, _, _, _, h => by simp at h
 | x :: l, k, h, 0, o, hj => by
  simp at hj
  subst hj
  exact h.1
 | x :: l, k, h, j + 1, o, hj => by
  have := netAllC_spec l (k + 1) h.2 j o (by simpa using hj)
  rwa [show k + 1 + j = k + (j + 1) by omega] at this
def consB (sp : List NS) (D : List (List Nat)) (g : Nat) : List Nat → Prop
 | [] => True
 | i :: l => (i = g ∨ (D.getD i []).contains g = true ∨ ∃ u, sp.getD i (.eq undef) = .eq u) ∧ consB sp D g l
theorem consB_spec {sp : List NS} {D : List (List Nat)} {g : Nat} : ∀ {l : List Nat}, consB sp D g l → ∀ i, i ∈ l → i = g ∨ g ∈ D.getD i [] ∨ ∃ u, sp.getD i (.eq undef) = .eq u
 | [], _, i, hi => by simp at hi
 | a :: l, h, i, hi => by
  rcases List.mem_cons.1 hi with rfl | hi
  ·rcases h.1 with h | h | h
   ·exact .inl h
   ·exact .inr (.inl (by simpa using h))
   ·exact .inr (.inr h)
  ·exact consB_spec h.2 i hi
theorem wp_region_netC {id : Nat} {l : List Oper} {w : World} (hmo : P.follows .mixedOrders = true) (sp : List NS) (D N : List (List Nat)) (E : List Nat) (m g : Nat) (hB : netB l.toArray D m = true) (hgm : (decide (g < m) && (List.range m).all fun i => (N.getD i []).all fun j => (D.getD i []).contains j && (i == g || (D.getD g []).contains i || E.contains j)) = true) (hE : consB sp D g E) (hst : stableAll sp)
  (hdo : netAllC P l.toArray sp D N g a0 w 0 (l.take m))
  (hend : ∀ x w', Below w.heap.size w w' → (∀ i, i < m → E.contains i = true → known sp D x i w') → (∀ i, i < m → w.heap.size ≤ x.lo i ∧ x.lo i ≤ x.hi i ∧ x.hi i ≤ w'.heap.size) → (∀ i j, i < m → j < m → i ≠ j → x.hi i ≤ x.lo j ∨ x.hi j ≤ x.lo i) → wpList P l.toArray Q (l.drop m) (netAct l.toArray a0 x.v m) w') : (Code.region id l.toArray true).wp P Q a0 w := by
 replace hst := stableAll_spec hst
 have hdo : ∀ i o, i < m → l[i]? = some o → netDoC P l.toArray sp D N g a0 w.drew i o := fun i o hi ho => by
  have := netAllC_spec (l.take m) 0 hdo i o (by rw [List.getElem?_take, if_pos hi]; exact ho)
  rw [Nat.zero_add] at this
  exact fun v w1 hb => this v w1 ⟨hb.os, hb.tape, hb.output, hb.size, hb.block⟩
 simp only [Bool.and_eq_true, decide_eq_true_eq, List.all_eq_true, List.mem_range, Bool.or_eq_true, List.contains_iff_mem, beq_iff_eq] at hgm
 refine wp_region_any hmo ?_
 have h := net_anyC (w0 := w.drew) (a0 := a0) (Q := Q) (P := P) (sp := sp) (E := fun i => E.contains i) (N := N) (g := g) hB hst hgm.1 (fun i hi => consB_spec hE i (by simpa using hi)) (fun i hi j hj => by obtain ⟨h1, h2⟩ := hgm.2 i hi j hj; exact ⟨h1, h2.elim (fun h2 => h2.elim .inl (fun h2 => .inr (.inl h2))) (fun h2 => .inr (.inr (by simpa using h2)))⟩) (fun i o hi ho => hdo i o hi (by simpa using ho)) (fun x w' hb hk hiv hdj => by simpa using hend x w' (show Below w.heap.size w w' from ⟨hb.os, hb.tape, hb.output, hb.size, hb.block⟩) hk hiv hdj)
  l.toArray.size (Array.replicate l.toArray.size false) ⟨fun _ => undef, fun _ => 0, fun _ => 0⟩ w.drew
  (by rw [List.filter_eq_self.2 (fun j _ => by rw [repl_getD]; rfl), List.length_range])
  (by simp) (fun j _ => repl_getD _ _)
  (fun i hi => by rw [repl_getD] at hi; cases hi)
  (Below.refl _ _)
  (fun i hi => by rw [repl_getD] at hi; cases hi)
  (fun i hi => by rw [repl_getD] at hi; cases hi)
  (fun i j hi => by rw [repl_getD] at hi; cases hi)
 have e : actP l.toArray a0 (fun _ => undef) (fun j => (Array.replicate l.toArray.size false).getD j false) l.toArray.size = a0 :=
  actP_none l.toArray.size 0 (by omega) (fun j _ _ => repl_getD _ _)
 rw [e] at h
 exact h
end
end
end Go.Proofs.YtcmlflppndfdcaaGreat
namespace Go.Proofs.YtcmlflppndfdcaaGreat
open Go.RowKit
set_option maxHeartbeats 400000 in
theorem l4Has_any (u : Value) (xs : List Int) (v : Int) (w : World) (hu : SlI w w.heap.size u xs) :
  Calls Tryz.prog 57 #[u, .int .i64 v] w fun e w' => e = .returned (.bool (decide (v ∈ xs))) ∧ Below w.heap.size w w' := by
 obtain ⟨A, c, rfl, _, _, hn, hx⟩ := hu.open_
 clear hu
 go_enter Tryz.func57, Tryz.ntmps57
 go_wp2
 go_loopw [5] (fun i wr => ∃ k m : Nat, k ≤ xs.length ∧ i = .int .i64 k ∧ wr = w.drewN m ∧ Hid (∀ y ∈ xs.take k, y ≠ v)) (fun i _ => xs.length - (intOf i).toNat)
 case atStart => exact ⟨0, 0, Nat.zero_le _, rfl, rfl, by intro y hy; simp at hy⟩
 case round =>
  obtain ⟨k, m, hk, rfl, rfl, hno⟩ := hrel
  by_cases hlt : k < xs.length
  ·obtain ⟨b, o, x, rfl, hb, HX, c1, _⟩ := SlI.at_ hx hlt
   clear hx
   rcases hvx : (x == v) with _ | _
   ·go_wp2
    go_roundw
    case rel =>
     refine ⟨k + 1, m, by omega, by go_num, rfl, fun y hy => ?_⟩
     rw [take_snoc HX.out, List.mem_append, List.mem_singleton] at hy
     rcases hy with hy | rfl
     ·exact hno.out y hy
     ·simpa using hvx
    case measure => simp [intOf]; omega
   ·have hfin : Hid (decide (v ∈ xs) = true) := by
     show _ = _
     rw [beq_iff_eq] at hvx
     subst hvx
     simpa using List.mem_of_getElem? HX.out
    go_wp2
    go_ret
    exact ⟨by rw [hfin.out]; rfl, drewN_below _ _ _⟩
  ·go_wp2
   go_ret
   have h1 := hno.out
   rw [List.take_of_length_le (by omega)] at h1
   have : decide (v ∈ xs) = false := by simp; exact fun h => h1 v h rfl
   exact ⟨by rw [this]; rfl, drewN_below _ _ _⟩
def rdyAt (q : Qv) (taken : List Int) (v : Int) (k : Nat) : Bool := ((q.f.take k).zip (q.t.take k)).all fun p => !(p.2 == v) || decide (p.1 ∈ taken)
def rdy (q : Qv) (taken : List Int) (v : Int) : Bool := (q.f.zip q.t).all fun p => !(p.2 == v) || decide (p.1 ∈ taken)
end Go.Proofs.YtcmlflppndfdcaaGreat
namespace Go.Proofs.YtcmlflppndfdcaaGreat
open Go.RowKit
def isNum (q : Qv) (x : List Int) : Bool := isQ q && decide ((x.length : Int) = q.v) && allR x (-100) 100
theorem isNum_t {q : Qv} {x : List Int} : isNum q x = true ↔ isQ q = true ∧ (x.length : Int) = q.v ∧ ∀ y ∈ x, -100 ≤ y ∧ y ≤ 100 := by
 simp only [isNum, Bool.and_eq_true, decide_eq_true_eq, allR_t, and_assoc]
set_option maxHeartbeats 800000 in
theorem l18Vector_any (u xv : Value) (q : Qv) (xs : List Int) (w : World) (hu : QvR w w.heap.size u q) (hx : SlI w w.heap.size xv xs) :
  Calls Tryz.prog 152 #[u, xv] w fun e w' => e = .returned (.bool (isNum q xs)) ∧ Below w.heap.size w w' := by
 have hu' := hu
 obtain ⟨A, c, C, d, rfl, hf, hT, hr, lf, lt⟩ := hu.open_
 obtain ⟨XA, xc, rfl, _, _, lx, hx'⟩ := hx.open_
 clear hu hx hf hT
 have g0 : Below w.heap.size w (w.alloc (.cells #[.int .i64 q.v, .slice A q.f.length c, .slice C q.t.length d] 29)) := below_alloc _ _
 have kB := Blk.new w 29 #[.int .i64 q.v, .slice A q.f.length c, .slice C q.t.length d]
 go_enter Tryz.func152, Tryz.ntmps152
 go_wp2
 go_loopw [5] (fun i wr => ∃ k : Nat, k ≤ xs.length ∧ i = .int .i64 k ∧ Below w.heap.size w wr ∧ Blk wr w.heap.size 29 #[.int .i64 q.v, .slice A q.f.length c, .slice C q.t.length d] ∧ Hid (∀ y ∈ xs.take k, inR y (-100) 100 = true)) (fun i _ => xs.length - (intOf i).toNat)
 case atStart => exact ⟨0, Nat.zero_le _, rfl, g0, kB, by intro y hy; simp at hy⟩
 case round =>
  clear g0 kB
  obtain ⟨k, hk, rfl, hbel, hkB, hok⟩ := hrel
  have e0 := hkB.cell' (i := 0) rfl
  have e1 := hkB.cell' (i := 1) rfl
  have e2 := hkB.cell' (i := 2) rfl
  by_cases hlt : k < xs.length
  ·obtain ⟨b, o, x, rfl, hb, HX, x1, _⟩ := SlI.at_ hx' hlt
   have x2 := bcell hbel hb x1
   clear x1
   rcases hB1 : inR x (-100) 100 with _ | _
   ·have hfin : Hid (isNum q xs = false) := by
     show _ = _
     have : allR xs (-100) 100 = false := by
      rw [allR, List.all_eq_false]
      exact ⟨x, List.mem_of_getElem? HX.out, by simp [hB1]⟩
     simp [isNum, this]
    go_wp2_with fail
    refine (l1In_any _ _ _ _).mono ?_; rintro e w9 ⟨rfl, rfl⟩
    rw [hB1]
    go_wp2
    go_ret
    exact ⟨by rw [hfin.out]; rfl, hbel⟩
   ·have hst : Hid (∀ y ∈ xs.take (k + 1), inR y (-100) 100 = true) := by
     intro y hy
     rw [take_snoc HX.out, List.mem_append, List.mem_singleton] at hy
     rcases hy with hy | rfl
     ·exact hok.out y hy
     ·exact hB1
    go_wp2_with fail
    refine (l1In_any _ _ _ _).mono ?_; rintro e w9 ⟨rfl, rfl⟩
    rw [hB1]
    go_wp2
    go_roundw
    case rel => exact ⟨k + 1, by omega, by go_num, hbel, hkB, hst.out⟩
    case measure => simp [intOf]; omega
  ·have hrq := QvR.more (B' := wr.heap.size) (by have := hbel.size; omega) (QvR.below hbel hu')
   have hall : allR xs (-100) 100 = true := by
    have h := hok.out
    rw [List.take_of_length_le (by omega)] at h
    exact List.all_eq_true.2 h
   rcases hq : isQ q with _ | _
   ·have hfin : Hid (isNum q xs = false) := by show _ = _; simp [isNum, hq]
    clear hall
    go_wp2_with fail
    refine (specIsQuiver_any _ _ _ hrq).mono ?_; rintro e w1 ⟨rfl, hb1⟩
    rw [hq]
    go_wp2
    go_ret
    exact ⟨by rw [hfin.out]; rfl, hbel.trans (hb1.mono hbel.size)⟩
   ·obtain ⟨B, hB⟩ : ∃ B, ((xs.length : Int) == q.v) = B := ⟨_, rfl⟩
    have hfin : Hid (isNum q xs = B) := by show _ = _; rw [← hB, isNum, hq, hall, Bool.and_true, Bool.true_and, Bool.eq_iff_iff, decide_eq_true_eq, beq_iff_eq]
    clear hall
    go_wp2_with fail
    refine (specIsQuiver_any _ _ _ hrq).mono ?_; rintro e w1 ⟨rfl, hb1⟩
    rw [hq]
    have f0 := (hkB.call hb1).cell' (i := 0) rfl
    clear e0 e1 e2
    cases B
    all_goals
     go_wp2
     go_ret
     exact ⟨by rw [hfin.out]; rfl, hbel.trans (hb1.mono hbel.size)⟩
def loopQ (q : Qv) (v : Int) : Bool := (q.f.zip q.t).any fun p => p.1 == v && p.2 == v
end Go.Proofs.YtcmlflppndfdcaaGreat
namespace Go.Proofs.YtcmlflppndfdcaaGreat
open Go.RowKit
def zzAt (k : Nat) (x y : Int) : Bool := decide ((x = k ∧ y = k + 1) ∨ (x = k + 1 ∧ y = k))
def zzTo (q : Qv) (k : Nat) : Prop := ∀ (j : Nat) (x y : Int), j < k → q.f[j]? = some x → q.t[j]? = some y → zzAt j x y = true
def isZ (q : Qv) : Bool := isQ q && decide ((q.f.length : Int) = q.v - 1) && (List.range q.f.length).all fun j => zzAt j (q.f.getD j 0) (q.t.getD j 0)
end Go.Proofs.YtcmlflppndfdcaaGreat
namespace Go.Proofs.YtcmlflppndfdcaaGreat
open Go.RowKit
def lnAt (k : Nat) (x y : Int) : Bool := decide (x = k ∧ y = k + 1)
def lnTo (q : Qv) (k : Nat) : Prop := ∀ (j : Nat) (x y : Int), j < k → q.f[j]? = some x → q.t[j]? = some y → lnAt j x y = true
def isL (q : Qv) : Bool := isQ q && decide ((q.f.length : Int) = q.v - 1) && (List.range q.f.length).all fun j => lnAt j (q.f.getD j 0) (q.t.getD j 0)
def fromTo (q : Qv) (k : Nat) : Prop := ∀ (j : Nat) (x : Int), j < k → q.f[j]? = some x → x = j
end Go.Proofs.YtcmlflppndfdcaaGreat
namespace Go.Proofs.YtcmlflppndfdcaaGreat
open Go.RowKit
theorem run_mkI (w : World) {n : Nat} (hn : n ≤ 1000000) : (Instr.makeSlice 22 (.int .i64 (n : Int)) (.int .i64 (n : Int))).run Tryz.prog w = .ok (.slice (some ⟨w.heap.size, 0, none⟩) n n) (w.alloc (.cells (mkCells (.int .i64 0) n) 3)) := by
 obtain ⟨i0, hi, hz0, hz1, hz2⟩ := info_parts infoInt
 have hmk := run_mk (P := Tryz.prog) Tryz.underlying22 hi hz0 (n := n) (by rw [hz2]; omega) (by omega)
 rw [hz1, Nat.mul_one] at hmk
 exact hmk w
end Go.Proofs.YtcmlflppndfdcaaGreat
namespace Go.Proofs.YtcmlflppndfdcaaGreat
open Go.RowKit
def bxV (m N k : Nat) : List Int := (List.range N).map fun i => ((k / (m + 1) ^ (N - 1 - i) % (m + 1) : Nat) : Int)
def bxZ (m N k j : Nat) : List Int := (List.range N).map fun i => if N ≤ i + j then 0 else ((k / (m + 1) ^ (N - 1 - i) % (m + 1) : Nat) : Int)
theorem bxV_length (m N k : Nat) : (bxV m N k).length = N := by simp [bxV]
theorem bxZ_length (m N k j : Nat) : (bxZ m N k j).length = N := by simp [bxZ]
theorem bxV_0 (m N : Nat) : bxV m N 0 = List.replicate N 0 := by
 apply List.ext_getElem (by simp [bxV])
 intro i h1 h2
 simp [bxV]
theorem bxZ_0 (m N k : Nat) : bxZ m N k 0 = bxV m N k := by
 apply List.ext_getElem (by simp [bxV, bxZ])
 intro i h1 h2
 have : i < N := by simpa [bxZ] using h1
 simp [bxV, bxZ]; omega
theorem bxV_rng {m N k : Nat} {x : Int} (h : x ∈ bxV m N k) : 0 ≤ x ∧ x ≤ m := by
 obtain ⟨i, _, rfl⟩ := List.mem_map.1 h
 have := Nat.mod_lt (k / (m + 1) ^ (N - 1 - i)) (show 0 < m + 1 by omega)
 omega
theorem bxZ_at {m N k j : Nat} (hj : j < N) : (bxZ m N k j)[N - 1 - j]? = some ((k / (m + 1) ^ j % (m + 1) : Nat) : Int) := by
 have h1 : N - 1 - j < N := by omega
 rw [bxZ, List.getElem?_map, List.getElem?_range h1]
 simp only [Option.map_some]
 rw [if_neg (by omega), show N - 1 - (N - 1 - j) = j by omega]
theorem bxZ_step {m N k j : Nat} (hj : j < N) : (bxZ m N k j).set (N - 1 - j) 0 = bxZ m N k (j + 1) := by
 apply List.ext_getElem (by simp [bxZ])
 intro i h1 h2
 have hi : i < N := by simpa [bxZ] using h2
 rw [List.getElem_set]
 simp only [bxZ, List.getElem_map, List.getElem_range]
 by_cases e : N - 1 - j = i
 ·rw [if_pos e, if_pos (by omega)]
 ·rw [if_neg e]
  by_cases h : N ≤ i + j
  ·rw [if_pos h, if_pos (by omega)]
  ·rw [if_neg h, if_neg (by omega)]
theorem mod_pow_succ (k b j : Nat) : k % b ^ (j + 1) = b ^ j * (k / b ^ j % b) + k % b ^ j := by
 rw [Nat.pow_succ, Nat.mod_mul, Nat.add_comm]
def fullTo (m k j : Nat) : Prop := k % (m + 1) ^ j = (m + 1) ^ j - 1
theorem full_0 (m k : Nat) : fullTo m k 0 := by simp [fullTo, Nat.mod_one]
theorem full_succ {m k j : Nat} (h : fullTo m k j) (hd : k / (m + 1) ^ j % (m + 1) = m) : fullTo m k (j + 1) := by
 unfold fullTo at *
 rw [mod_pow_succ, hd, h, Nat.pow_succ, Nat.mul_add]
 have : 0 < (m + 1) ^ j := Nat.pow_pos (by omega)
 omega
theorem full_end {m k N : Nat} (h : fullTo m k N) (hk : k < (m + 1) ^ N) : k + 1 = (m + 1) ^ N := by
 unfold fullTo at h
 rw [Nat.mod_eq_of_lt hk] at h
 omega
theorem bxV_next {m N k j : Nat} (hj : j < N) (h : fullTo m k j) (hd : k / (m + 1) ^ j % (m + 1) ≠ m) :
  (bxZ m N k j).set (N - 1 - j) (((k / (m + 1) ^ j % (m + 1) : Nat) : Int) + 1) = bxV m N (k + 1) := by
 have hb : 0 < (m + 1) ^ j := Nat.pow_pos (by omega)
 obtain ⟨c, hc⟩ : ∃ c, k / (m + 1) ^ j = c := ⟨_, rfl⟩
 rw [hc] at hd ⊢
 have hk1 : k + 1 = (m + 1) ^ j * (c + 1) := by
  have h1 := Nat.div_add_mod k ((m + 1) ^ j)
  unfold fullTo at h
  rw [h, hc] at h1
  rw [Nat.mul_add]; omega
 have hlt := Nat.mod_lt c (show 0 < m + 1 by omega)
 have hd1 : (c + 1) % (m + 1) = c % (m + 1) + 1 := by
  rw [Nat.add_mod, Nat.mod_eq_of_lt (a := c % (m + 1) + 1 % (m + 1))]
  ·rw [Nat.mod_eq_of_lt (a := 1)]
   omega
  ·have : 1 % (m + 1) ≤ 1 := Nat.mod_le _ _
   omega
 have hdiv : ∀ p, 1 ≤ p → (c + 1) / (m + 1) ^ p = c / (m + 1) ^ p := by
  intro p hp
  obtain ⟨p', rfl⟩ : ∃ p', p = p' + 1 := ⟨p - 1, by omega⟩
  rw [Nat.pow_succ, Nat.mul_comm, ← Nat.div_div_eq_div_mul, ← Nat.div_div_eq_div_mul]
  congr 1
  rw [Nat.div_eq_of_lt_le (k := c / (m + 1))]
  ·have := Nat.div_add_mod c (m + 1); rw [Nat.mul_comm]; omega
  ·have := Nat.div_add_mod c (m + 1); rw [Nat.add_mul, Nat.mul_comm]; omega
 apply List.ext_getElem (by simp [bxZ, bxV])
 intro i h1 h2
 have hi : i < N := by simpa [bxV] using h2
 rw [List.getElem_set]
 simp only [bxZ, bxV, List.getElem_map, List.getElem_range]
 by_cases e : N - 1 - j = i
 ·rw [if_pos e, show N - 1 - i = j by omega, hk1, Nat.mul_div_cancel_left _ hb, hd1]; omega
 ·rw [if_neg e]
  by_cases hz : N ≤ i + j
  ·rw [if_pos hz]
   obtain ⟨r, hr⟩ : ∃ r, j = (N - 1 - i) + 1 + r := ⟨j - (N - 1 - i) - 1, by omega⟩
   have : (k + 1) / (m + 1) ^ (N - 1 - i) % (m + 1) = 0 := by
    rw [hk1, hr, Nat.pow_add, Nat.pow_add, Nat.pow_one, Nat.mul_assoc, Nat.mul_assoc, Nat.mul_div_cancel_left _ (Nat.pow_pos (by omega)), Nat.mul_mod_right]
   rw [this]; rfl
  ·rw [if_neg hz]
   obtain ⟨p, hp⟩ : ∃ p, N - 1 - i = j + (p + 1) := ⟨N - 1 - i - j - 1, by omega⟩
   have e1 : (k + 1) / (m + 1) ^ (N - 1 - i) = c / (m + 1) ^ (p + 1) := by
    rw [hp, Nat.pow_add, ← Nat.div_div_eq_div_mul, hk1, Nat.mul_div_cancel_left _ hb, hdiv _ (by omega)]
   have e2 : k / (m + 1) ^ (N - 1 - i) = c / (m + 1) ^ (p + 1) := by
    rw [hp, Nat.pow_add, ← Nat.div_div_eq_div_mul, hc]
   rw [e1, e2]
theorem dig_full {m N j : Nat} (hj : j < N) : ((m + 1) ^ N - 1) / (m + 1) ^ j % (m + 1) = m := by
 have hb : 0 < (m + 1) ^ j := Nat.pow_pos (by omega)
 have hq : 0 < (m + 1) ^ (N - 1 - j) := Nat.pow_pos (by omega)
 have e : (m + 1) ^ N = (m + 1) ^ j * ((m + 1) * (m + 1) ^ (N - 1 - j)) := by
  rw [← Nat.pow_succ', ← Nat.pow_add]; congr 1; omega
 obtain ⟨q, hq'⟩ : ∃ q, (m + 1) ^ (N - 1 - j) = q + 1 := ⟨(m + 1) ^ (N - 1 - j) - 1, by omega⟩
 obtain ⟨b, hb'⟩ : ∃ b, (m + 1) ^ j = b + 1 := ⟨(m + 1) ^ j - 1, by omega⟩
 rw [hq'] at e
 have e2 : (m + 1) ^ N - 1 = (m + 1) ^ j * ((m + 1) * q + m) + ((m + 1) ^ j - 1) := by
  have : (m + 1) * (q + 1) = ((m + 1) * q + m) + 1 := by rw [Nat.mul_add]; omega
  rw [e, this, Nat.mul_add, hb']; omega
 rw [e2, Nat.mul_add_div hb, Nat.div_eq_of_lt (show (m + 1) ^ j - 1 < (m + 1) ^ j by omega), Nat.add_zero, Nat.mul_add_mod, Nat.mod_eq_of_lt (by omega)]
end Go.Proofs.YtcmlflppndfdcaaGreat
namespace Go.Proofs.YtcmlflppndfdcaaGreat
open Go.RowKit
def arr (q : Qv) (a b k : Nat) : Nat := ((q.f.zip q.t).take k).countP fun p => p.1 == (a : Int) && p.2 == (b : Int)
def ent (q : Qv) (k a b : Nat) : Int := (if a = b then 2 else 0) - arr q a b k - arr q b a k
def symM (q : Qv) : List (List Int) := matF q.v.toNat (ent q q.f.length)
theorem arr_le (q : Qv) (a b k : Nat) : arr q a b k ≤ q.f.length := by
 refine Nat.le_trans List.countP_le_length ?_
 simp; omega
theorem arr_zero (q : Qv) (a b : Nat) : arr q a b 0 = 0 := by simp [arr]
theorem arr_succ {q : Qv} {k a b x y : Nat} (hx : q.f[k]? = some (x : Int)) (hy : q.t[k]? = some (y : Int)) : arr q a b (k + 1) = arr q a b k + if x = a ∧ y = b then 1 else 0 := by
 have e : (q.f.zip q.t)[k]? = some ((x : Int), (y : Int)) := by rw [List.getElem?_zip_eq_some]; exact ⟨hx, hy⟩
 rw [arr, take_snoc e, List.countP_append, arr]
 congr 1
 rw [List.countP_singleton]
 by_cases h : x = a ∧ y = b
 ·rw [if_pos h, if_pos (by simp [h.1, h.2])]
 ·rw [if_neg h, if_neg]
  simp only [Bool.and_eq_true, beq_iff_eq]
  omega
theorem ent_rng (q : Qv) (k a b : Nat) (h : q.f.length ≤ 6) : -12 ≤ ent q k a b ∧ ent q k a b ≤ 2 := by
 have h1 := arr_le q a b k
 have h2 := arr_le q b a k
 unfold ent
 split <;> omega
theorem ent_zero (q : Qv) (a b : Nat) : ent q 0 a b = if a = b then 2 else 0 := by simp [ent, arr_zero]
theorem ent_succ {q : Qv} {k x y : Nat} (hx : q.f[k]? = some (x : Int)) (hy : q.t[k]? = some (y : Int)) (a b : Nat) : ent q (k + 1) a b = ent q k a b - (if a = x ∧ b = y then 1 else 0) - (if a = y ∧ b = x then 1 else 0) := by
 rw [ent, arr_succ hx hy, arr_succ hx hy, ent]
 by_cases h1 : x = a ∧ y = b
 ·rw [if_pos h1, if_pos (c := a = x ∧ b = y) ⟨h1.1.symm, h1.2.symm⟩]
  by_cases h2 : x = b ∧ y = a
  ·rw [if_pos h2, if_pos (c := a = y ∧ b = x) ⟨h2.2.symm, h2.1.symm⟩]; split <;> omega
  ·rw [if_neg h2, if_neg (c := a = y ∧ b = x) (fun h => h2 ⟨h.2.symm, h.1.symm⟩)]; split <;> omega
 ·rw [if_neg h1, if_neg (c := a = x ∧ b = y) (fun h => h1 ⟨h.1.symm, h.2.symm⟩)]
  by_cases h2 : x = b ∧ y = a
  ·rw [if_pos h2, if_pos (c := a = y ∧ b = x) ⟨h2.2.symm, h2.1.symm⟩]; split <;> omega
  ·rw [if_neg h2, if_neg (c := a = y ∧ b = x) (fun h => h2 ⟨h.2.symm, h.1.symm⟩)]; split <;> omega
theorem OwnI.newBlk {w : World} {base N : Nat} {cs : Array Value} {l : List Int} (hb : base ≤ w.heap.size) (hN : N ≤ 17592186044416) (hl : l.length = N) (hc : cs.toList = l.map (Value.int .i64)) (hr : ∀ x ∈ l, I64 x) : OwnI (w.alloc (.cells cs 3)) base (.slice (some ⟨w.heap.size, 0, none⟩) N N) l := by
 have hs : cs.size = N := by rw [← Array.length_toList, hc, List.length_map, hl]
 have h := (Blk.new w 3 cs).own (base := base) (n := N) (cap := N) (size := 1) hb (Nat.le_refl _) (by simp only [maxLen]; omega) (by omega)
 rw [hc, List.take_of_length_le (by simp; omega)] at h
 exact ⟨by rw [hl]; exact h, by omega, hr⟩
theorem Fam.far {w : World} {lo hi : Nat} {L : List (Value × List Int)} (h : Fam w lo hi L) {p : Addr} (hp : hi ≤ p.block) (u : Value) : Fam (w.setCell p u) lo hi L :=
 ⟨fun x hx => ⟨(h.1 x hx).1.setCell (fun e => by have := (h.1 x hx).2 _ e; omega) u, (h.1 x hx).2⟩, h.2⟩
theorem matF_dec {V : Nat} (g : Nat → Nat → Int) (x y : Nat) : (matF V g).set x ((rowF V (g x)).set y (g x y - 1)) = matF V fun a b => g a b - if a = x ∧ b = y then 1 else 0 := by
 rw [rowF_set, matF_set]
 apply matF_congr
 intro a b _ _
 by_cases e : a = x
 ·subst e
  rw [if_pos rfl]
  by_cases e2 : b = y
  ·subst e2
   rw [if_pos rfl, if_pos ⟨rfl, rfl⟩]
  ·rw [if_neg e2, if_neg (fun h => e2 h.2)]; omega
 ·rw [if_neg e, if_neg (fun h => e h.1)]; omega
set_option maxHeartbeats 1600000 in
theorem symmetric_any (u : Value) (q : Qv) (w : World) (hu : QvR w w.heap.size u q) (hq : isQ q = true) :
  Calls Tryz.prog 153 #[u] w fun e w' => ∃ v, e = .returned v ∧ IntssO w' w.heap.size w'.heap.size v (symM q) ∧ Below w.heap.size w w' := by
 obtain ⟨qv, qf, qt⟩ := q
 obtain ⟨A, c, C, d, rfl, hf, hT, hr, lf, lt⟩ := hu.open_
 clear hu
 obtain ⟨⟨hv1, hv2⟩, hlen, hl6, hfr, htr⟩ := isQ_t.1 hq
 dsimp only at *
 obtain ⟨V, rfl⟩ : ∃ V : Nat, qv = V := ⟨qv.toNat, by omega⟩
 have hV5 : V ≤ 5 := by omega
 have HLE := Lib.hid hlen
 have HR := Lib.hid (And.intro hfr htr)
 clear hlen hfr htr
 obtain ⟨i0, hi, hz0, hz1, hz2⟩ := info_parts infoInts
 have hmk := run_mk (P := Tryz.prog) Tryz.underlying57 hi hz0 (n := V) (by rw [hz2]; omega) (by omega)
 rw [hz1] at hmk
 clear hi hz0 hz1 hz2
 obtain ⟨i1, hi, hz0, hz1, hz2⟩ := info_parts infoInt
 have hmk1 := run_mk (P := Tryz.prog) Tryz.underlying22 hi hz0 (n := V) (by rw [hz2]; omega) (by omega)
 rw [hz1] at hmk1
 clear hi hz0 hz1 hz2
 obtain ⟨W, hW⟩ : ∃ W, W = (w.alloc (.cells #[.int .i64 V, .slice A qf.length c, .slice C qt.length d] 29)).alloc (.cells (mkCells (.slice none 0 0) V) 22) := ⟨_, rfl⟩
 have g0 : Below w.heap.size w W := by rw [hW]; exact ((Below.refl _ _).alloc (Nat.le_refl _) _).alloc (by simp) _
 have kB : Blk W w.heap.size 29 #[.int .i64 V, .slice A qf.length c, .slice C qt.length d] := by rw [hW]; exact (Blk.new _ _ _).alloc _
 have kO : Blk W (w.heap.size + 1) 22 (mkCells (.slice none 0 0) V) := by
  rw [hW]
  have := Blk.new (w.alloc (.cells #[.int .i64 V, .slice A qf.length c, .slice C qt.length d] 29)) 22 (mkCells (.slice none 0 0) V)
  simpa only [World.size_alloc] using this
 have zW : w.heap.size + 1 < W.heap.size := kO.lt
 go_enter Tryz.func153, Tryz.ntmps153
 go_wp2
 rw [← hW]; clear hW hmk
 go_loopw [12] (fun i wr => ∃ (cs : Array Value) (vs : List Value), vs.length ≤ V ∧ i = .int .i64 vs.length ∧ Below w.heap.size w wr ∧ Blk wr w.heap.size 29 #[.int .i64 V, .slice A qf.length c, .slice C qt.length d] ∧ Blk wr (w.heap.size + 1) 22 cs ∧ OutCs cs V vs ∧ Fam wr w.heap.size wr.heap.size (vs.zip ((matF V (ent ⟨V, qf, qt⟩ 0)).take vs.length))) (fun i _ => V - (intOf i).toNat)
 case atStart => exact ⟨_, [], Nat.zero_le _, rfl, g0, kB, kO, ⟨by simp [mkCells_size], by simp, fun j v h => by simp at h⟩, ⟨fun p hp => by simp at hp, by simp⟩⟩
 case round =>
  clear g0 kB kO zW
  obtain ⟨cs, vs, hk, rfl, hbel, hkB, hblk, hcs, hF⟩ := hrel
  have e0 := hkB.cell' (i := 0) rfl
  have e1 := hkB.cell' (i := 1) rfl
  have e2 := hkB.cell' (i := 2) rfl
  have hsz := hbel.size
  by_cases hlt : vs.length < V
  ·have hgo := hblk.lt
   have hvs5 : vs.length ≤ 5 := by omega
   have hO := hblk.set_ vs.length (.slice (some ⟨wr.heap.size, 0, none⟩) V V)
   have hO1 := hO.alloc (.cells (mkCells (.int .i64 0) V) 3)
   have hQ1 := (hkB.far (p := ⟨w.heap.size + 1, vs.length, none⟩) (by simp) (.slice (some ⟨wr.heap.size, 0, none⟩) V V)).alloc (.cells (mkCells (.int .i64 0) V) 3)
   have f0 := hblk.frozen vs.length
   obtain ⟨v0, c0⟩ : ∃ v0, wr.cell? ⟨w.heap.size + 1, vs.length, none⟩ = some v0 := by rw [hblk.cell]; have := hcs.1; exact ⟨_, Array.getElem?_eq_getElem (by omega)⟩
   have cS := hO1.cell' (i := vs.length) (v := .slice (some ⟨wr.heap.size, 0, none⟩) V V) (by have := hcs.1; simp [Array.getElem?_setIfInBounds]; omega)
   have k0 := hQ1.cell' (i := 0) rfl
   have hv1 := OwnI.made0 (w := wr.setCell ⟨w.heap.size + 1, vs.length, none⟩ (.slice (some ⟨wr.heap.size, 0, none⟩) V V)) (base := wr.heap.size) (N := V) (by simp) (by omega)
   have zs : (wr.setCell ⟨w.heap.size + 1, vs.length, none⟩ (.slice (some ⟨wr.heap.size, 0, none⟩) V V)).heap.size = wr.heap.size := by simp
   rw [zs] at hv1
   have ZS := Lib.hid zs
   clear zs
   have c3 := (hv1.cellG (j := vs.length) (by simpa using hlt)).1
   have f3 := hv1.frozenG vs.length
   rw [show (List.replicate V (0 : Int)).getD vs.length 0 = 0 by rw [List.getD_eq_getElem?_getD, List.getElem?_replicate, if_pos hlt]; rfl] at c3
   have hv3 : OwnI ((wr.setCell ⟨w.heap.size + 1, vs.length, none⟩ (.slice (some ⟨wr.heap.size, 0, none⟩) V V)).alloc (.cells ((mkCells (.int .i64 0) V).setIfInBounds vs.length (.int .i64 2)) 3)) wr.heap.size (.slice (some ⟨wr.heap.size, 0, none⟩) V V) ((List.replicate V (0 : Int)).set vs.length 2) := by
    have h := OwnI.newBlk (w := wr.setCell ⟨w.heap.size + 1, vs.length, none⟩ (.slice (some ⟨wr.heap.size, 0, none⟩) V V)) (base := wr.heap.size) (N := V) (cs := (mkCells (.int .i64 0) V).setIfInBounds vs.length (.int .i64 2)) (l := (List.replicate V (0 : Int)).set vs.length 2) (by simp) (by omega) (by simp) (by
     rw [Array.toList_setIfInBounds, show (mkCells (.int .i64 0) V).toList = List.replicate V (.int .i64 0) from toList_madeCells_one _ _, List.map_set, List.map_replicate]) (fun x hx => by
     rcases List.mem_or_eq_of_mem_set hx with hx | rfl
     ·obtain ⟨_, rfl⟩ := List.mem_replicate.1 hx
      exact ⟨by decide, by decide⟩
     ·exact ⟨by decide, by decide⟩)
    rw [ZS.out] at h
    exact h
   have hF2 := (hF.setBlk (i := vs.length) hblk (by decide) (.slice (some ⟨wr.heap.size, 0, none⟩) V V)).below (below_alloc _ (.cells ((mkCells (.int .i64 0) V).setIfInBounds vs.length (.int .i64 2)) 3))
   have hQ3 := (hkB.far (p := ⟨w.heap.size + 1, vs.length, none⟩) (by simp) (.slice (some ⟨wr.heap.size, 0, none⟩) V V)).alloc (.cells ((mkCells (.int .i64 0) V).setIfInBounds vs.length (.int .i64 2)) 3)
   have hO3 := hO.alloc (.cells ((mkCells (.int .i64 0) V).setIfInBounds vs.length (.int .i64 2)) 3)
   have hrow : (List.replicate V (0 : Int)).set vs.length 2 = rowF V (ent ⟨V, qf, qt⟩ 0 vs.length) := by
    rw [show List.replicate V (0 : Int) = rowF V (fun _ => 0) from by rw [rowF, List.map_const', List.length_range], rowF_set]
    apply rowF_congr
    intro b _
    rw [ent_zero]
    by_cases e : b = vs.length
    ·rw [if_pos e, if_pos e.symm]
    ·rw [if_neg e, if_neg (fun h => e h.symm)]
   rw [hrow] at hv3
   have hF3 := hF2.snoc (hi := wr.heap.size + 1) ⟨hv3, fun k hk => by simp [Value.ownBlock] at hk; omega⟩ hsz (by omega)
   have hzip : vs.zip ((matF V (ent ⟨V, qf, qt⟩ 0)).take vs.length) ++ [(Value.slice (some ⟨wr.heap.size, 0, none⟩) V V, rowF V (ent ⟨V, qf, qt⟩ 0 vs.length))] = (vs ++ [Value.slice (some ⟨wr.heap.size, 0, none⟩) V V]).zip ((matF V (ent ⟨V, qf, qt⟩ 0)).take (vs ++ [Value.slice (some ⟨wr.heap.size, 0, none⟩) V V]).length) := by
    rw [List.length_append, List.length_singleton, take_snoc (matF_get _ hlt), List.zip_append (by simp [matF_length]; omega)]
    rfl
   rw [hzip] at hF3
   have HF3 := Lib.hid hF3
   clear hF hF2 hF3 hzip hrow hv1 hv2 hv3
   go_wp2
   go_roundw
   case rel => exact ⟨_, vs ++ [.slice (some ⟨wr.heap.size, 0, none⟩) V V], by simp; omega, by simp, (hbel.setCell (by simp) _).alloc (by simpa using hsz) _, hQ3, hO3, hcs.step hlt, by simpa using HF3.out⟩
   case measure => simp [intOf]; omega
  ·have hvV : vs.length = V := by omega
   have ho : OutO wr w.heap.size wr.heap.size (.slice (some ⟨w.heap.size + 1, 0, none⟩) V V) vs := by
    have h1 := hcs
    rw [← hvV] at h1 ⊢
    exact h1.own hblk (by omega) (by omega)
   have hF0 : Fam wr w.heap.size wr.heap.size (vs.zip (matF V (ent ⟨V, qf, qt⟩ 0))) := by
    rwa [List.take_of_length_le (by rw [matF_length]; omega)] at hF
   have HVV := Lib.hid hvV
   have hbel0 := hbel
   have hkB0 := hkB
   go_wp2
   clear hvV hF hcs hblk hlt hbel hkB e0 e1 e2 hmk1
   have hmo : Tryz.prog.follows .mixedOrders = true := by kernel_rfl
   go_loopw [31] (fun i wr => ∃ k : Nat, k ≤ qf.length ∧ i = .int .i64 k ∧ Below w.heap.size w wr ∧ Blk wr w.heap.size 29 #[.int .i64 V, .slice A qf.length c, .slice C qt.length d] ∧ OutO wr w.heap.size wr.heap.size (.slice (some ⟨w.heap.size + 1, 0, none⟩) V V) vs ∧ Fam wr w.heap.size wr.heap.size (vs.zip (matF V (ent ⟨V, qf, qt⟩ k)))) (fun i _ => qf.length - (intOf i).toNat)
   case atStart => exact ⟨0, Nat.zero_le _, rfl, hbel0, hkB0, ho, hF0⟩
   case round =>
    clear hbel0 hkB0 ho hF0
    obtain ⟨k, hk, rfl, hbel, hkB, ho, hF⟩ := hrel
    have e0 := hkB.cell' (i := 0) rfl
    have e1 := hkB.cell' (i := 1) rfl
    have e2 := hkB.cell' (i := 2) rfl
    have hsz0 := Lib.hid hbel.size
    by_cases hlt : k < qf.length
    ·have hltT : k < qt.length := by have := HLE.out; omega
     obtain ⟨b, o, x', rfl, hb, HX, x1, _⟩ := SlI.at_ hf hlt
     obtain ⟨b2, o2, y', rfl, hb2, HY, y1, _⟩ := SlI.at_ hT hltT
     have hxr := HR.out.1 x' (List.mem_of_getElem? HX.out)
     have hyr := HR.out.2 y' (List.mem_of_getElem? HY.out)
     obtain ⟨x, rfl⟩ : ∃ x : Nat, x' = x := ⟨x'.toNat, by omega⟩
     obtain ⟨y, rfl⟩ : ∃ y : Nat, y' = y := ⟨y'.toNat, by omega⟩
     have hxV : x < V := by omega
     have hyV : y < V := by omega
     clear hxr hyr
     have x2 := bcell hbel hb x1
     have y2 := bcell hbel hb2 y1
     obtain ⟨gr, cr, hvr, hor, hcr1, hcr2, hgr1, hgr2⟩ := hF.rowAt (by rw [HVV.out, matF_length]) (matF_get _ hxV) (by rw [rowF_length]; omega)
     obtain ⟨n, hn⟩ : ∃ n, ent ⟨V, qf, qt⟩ k x y = n := ⟨_, rfl⟩
     have hnr := ent_rng ⟨V, qf, qt⟩ k x y hl6
     have r1 := ho.cellS hvr
     rw [rowF_length] at r1 hcr1
     have r2 := (hor.cellG (j := y) (by rw [rowF_length]; exact hyV)).1
     rw [rowF_getD _ hyV, hn] at r2
     rw [hn] at hnr
     have r3 := hor.frozenG y
     have hp := hF.putAt (i := y) (x := n - 1) hvr (matF_get _ hxV) hor ⟨by omega, by omega⟩
     rw [← hn, matF_dec, hn] at hp
     have hput := (hor.put (j := y) (x := n - 1) ⟨by omega, by omega⟩).2
     have hoo := ho.grown hor hput
     have hkk := hkB.grown hput (hor.blkne hkB (by decide))
     have hbb := hbel.grown hput hsz0.out (fun j hj => by injection hj with hj; omega)
     obtain ⟨G1, hG1⟩ : ∃ G1 : Nat → Nat → Int, G1 = fun a b => ent ⟨V, qf, qt⟩ k a b - if a = x ∧ b = y then 1 else 0 := ⟨_, rfl⟩
     rw [← hG1] at hp
     have HG1 := Lib.hid hG1
     clear hG1 hput hor hF ho hn
     obtain ⟨W1, hW1⟩ : ∃ W1, W1 = (wr.setCell ⟨gr, y, none⟩ (.int .i64 (n - 1))).drew := ⟨_, rfl⟩
     have zW1 : W1.heap.size = wr.heap.size := by rw [hW1]; simp
     have hF1 : Fam W1 w.heap.size wr.heap.size (vs.zip (matF V G1)) := by rw [hW1]; exact hp.below (drew_below _)
     have ho1 : OutO W1 w.heap.size wr.heap.size (.slice (some ⟨w.heap.size + 1, 0, none⟩) V V) vs := by rw [hW1]; exact hoo.below (drew_below _)
     have hk1 : Blk W1 w.heap.size 29 #[.int .i64 V, .slice (some ⟨b, o, none⟩) qf.length c, .slice (some ⟨b2, o2, none⟩) qt.length d] := by rw [hW1]; exact hkk.drewN 1
     have hb1 : Below w.heap.size w W1 := by rw [hW1]; exact below_drewN hbb 1
     clear hp hoo hkk hbb hkB hbel
     go_wp2_with fail
     go_region_o
     rw [← hW1]
     clear hW1 r1 r2 r3 x2 y2 e0 e1 e2 hvr
     have e2 := hk1.cell' (i := 2) rfl
     have y2 := bcell hb1 hb2 y1
     obtain ⟨gs, cr', hvr, hor, hcr1', hcr2', hgs1, hgs2⟩ := hF1.rowAt (by rw [HVV.out, matF_length]) (matF_get _ hyV) (by rw [rowF_length]; omega)
     obtain ⟨m, hm⟩ : ∃ m, G1 y x = m := ⟨_, rfl⟩
     have hmr : -13 ≤ m ∧ m ≤ 2 := by
      rw [← hm, HG1.out]
      have := ent_rng ⟨V, qf, qt⟩ k y x hl6
      dsimp only
      split <;> omega
     have r1 := ho1.cellS hvr
     rw [rowF_length] at r1 hcr1'
     have r2 := (hor.cellG (j := x) (by rw [rowF_length]; exact hxV)).1
     rw [rowF_getD _ hxV, hm] at r2
     have r3 := hor.frozenG x
     have hp := hF1.putAt (i := x) (x := m - 1) hvr (matF_get _ hyV) hor ⟨by omega, by omega⟩
     rw [← hm, matF_dec, hm] at hp
     have hput := (hor.put (j := x) (x := m - 1) ⟨by omega, by omega⟩).2
     have hoo := ho1.grown hor hput
     have hkk := hk1.grown hput (hor.blkne hk1 (by decide))
     have hbb := hb1.grown hput (by have := hsz0.out; omega) (fun j hj => by injection hj with hj; omega)
     have hst : (matF V fun a b => G1 a b - if a = y ∧ b = x then 1 else 0) = matF V (ent ⟨V, qf, qt⟩ (k + 1)) := by
      apply matF_congr
      intro a b _ _
      rw [ent_succ HX.out HY.out, HG1.out]
     rw [hst] at hp
     have HP := Lib.hid hp
     have HOO := Lib.hid hoo
     clear hst hp hput hoo hor hF1 ho1 hm hvr
     go_wp2
     go_roundw
     case rel => exact ⟨k + 1, by omega, by go_num, hbb, hkk, HOO.out.mono (Nat.le_refl _) (by simp; omega), HP.out.mono (Nat.le_refl _) (by simp; omega)⟩
     case measure => simp [intOf]; omega
    ·have hst : Hid (symM ⟨V, qf, qt⟩ = matF V (ent ⟨V, qf, qt⟩ k)) := by
      show _ = _
      rw [symM, show qf.length = k by omega]
      rfl
     rw [← hst.out] at hF
     go_wp2
     exact bodyPost_ret (v := .slice (some ⟨w.heap.size + 1, 0, none⟩) V V) (by simp [results, go_sem]) rfl ⟨_, rfl, ⟨vs, ho, by rw [hst.out, matF_length]; exact HVV.out, hF⟩, hbel⟩
end Go.Proofs.YtcmlflppndfdcaaGreat
namespace Go.Proofs.YtcmlflppndfdcaaGreat
open Go.RowKit
theorem rowF_dec {V : Nat} (g : Nat → Int) (j : Nat) : (rowF V g).set j (g j - 1) = rowF V fun b => g b - if b = j then 1 else 0 := by
 rw [rowF_set]
 apply rowF_congr
 intro b _
 by_cases e : b = j
 ·subst e; rw [if_pos rfl, if_pos rfl]
 ·rw [if_neg e, if_neg e]; omega
theorem if_pos_and {p r : Prop} [Decidable p] [Decidable r] (h : p) : (if p ∧ r then (1 : Int) else 0) = if r then 1 else 0 := by
 by_cases hr : r
 ·rw [if_pos ⟨h, hr⟩, if_pos hr]
 ·rw [if_neg (fun x => hr x.2), if_neg hr]
set_option maxHeartbeats 1600000 in
set_option maxRecDepth 20000 in
theorem symmetricForm_any (u : Value) (q : Qv) (w : World) (hu : QvR w w.heap.size u q) (hq : isQ q = true) :
  Calls Tryz.prog 113 #[u] w fun e w' => ∃ v, e = .returned v ∧ IntssO w' w.heap.size w'.heap.size v (symM q) ∧ Below w.heap.size w w' := by
 obtain ⟨qv, qf, qt⟩ := q
 have hu' := hu
 obtain ⟨A, c, C, d, rfl, hf, hT, hr, lf, lt⟩ := hu.open_
 clear hu
 obtain ⟨⟨hv1, hv2⟩, hlen, hl6, hfr, htr⟩ := isQ_t.1 hq
 dsimp only at *
 obtain ⟨V, rfl⟩ : ∃ V : Nat, qv = V := ⟨qv.toNat, by omega⟩
 have hV5 : V ≤ 5 := by omega
 have HLE := Lib.hid hlen
 have HR := Lib.hid (And.intro hfr htr)
 clear hlen hfr htr
 obtain ⟨i1, hi, hz0, hz1, hz2⟩ := info_parts infoInt
 have hmk1 := run_mk (P := Tryz.prog) Tryz.underlying22 hi hz0 (n := V) (by rw [hz2]; omega) (by omega)
 rw [hz1] at hmk1
 clear hi hz0 hz1 hz2
 have g0 : Below w.heap.size w ((w.alloc (.cells #[.int .i64 V, .slice A qf.length c, .slice C qt.length d] 29)).alloc (.cells #[] 22)) := ((Below.refl _ _).alloc (Nat.le_refl _) _).alloc (by simp) _
 have kB : Blk ((w.alloc (.cells #[.int .i64 V, .slice A qf.length c, .slice C qt.length d] 29)).alloc (.cells #[] 22)) w.heap.size 29 #[.int .i64 V, .slice A qf.length c, .slice C qt.length d] := (Blk.new _ _ _).alloc _
 go_enter Tryz.func113, Tryz.ntmps113
 go_wp2
 have hmo : Tryz.prog.follows .mixedOrders = true := by kernel_rfl
 have ho0 : OutO ((w.alloc (.cells #[.int .i64 V, .slice A qf.length c, .slice C qt.length d] 29)).alloc (.cells #[] 22)) w.heap.size ((w.alloc (.cells #[.int .i64 V, .slice A qf.length c, .slice C qt.length d] 29)).alloc (.cells #[] 22)).heap.size (.slice (some ⟨w.heap.size + 1, 0, none⟩) 0 0) [] := by
  have hb := Blk.new (w.alloc (.cells #[.int .i64 V, .slice A qf.length c, .slice C qt.length d] 29)) 22 #[]
  have h := OutCs.own (lo := w.heap.size) (vs := []) ⟨rfl, by simp, fun j v h => by simp at h⟩ hb (by simp) (by simp)
  simpa only [World.size_alloc, List.length_nil] using h
 go_loopw [3, 4] (fun a i wr => ∃ vs : List Value, vs.length ≤ V ∧ i = .int .i64 vs.length ∧ Below w.heap.size w wr ∧ Blk wr w.heap.size 29 #[.int .i64 V, .slice A qf.length c, .slice C qt.length d] ∧ OutO wr w.heap.size wr.heap.size a vs ∧ Fam wr w.heap.size wr.heap.size (vs.zip ((symM ⟨V, qf, qt⟩).take vs.length))) (fun _ i _ => V - (intOf i).toNat)
 case atStart => exact ⟨[], Nat.zero_le _, rfl, g0, kB, ho0, ⟨fun p hp => by simp at hp, by simp⟩⟩
 case round =>
  clear g0 kB ho0
  obtain ⟨vs, hk, rfl, hbel, hkB, ho, hF⟩ := hrel
  have e0 := hkB.cell' (i := 0) rfl
  have e1 := hkB.cell' (i := 1) rfl
  have e2 := hkB.cell' (i := 2) rfl
  obtain ⟨OA, oc, rfl, _, _⟩ := ho.form
  obtain ⟨N, hN⟩ : ∃ N, vs.length = N := ⟨_, rfl⟩
  have HN := Lib.hid hN
  rw [hN] at hk hF ⊢
  rw [hN] at ho
  clear hN
  by_cases hlt : N < V
  ·have hN5 : N ≤ 5 := by omega
   have hrq := QvR.more (B' := wr.heap.size) (by have := hbel.size; omega) (QvR.below hbel hu')
   go_wp2_with fail
   refine (specIsQuiver_any _ _ _ hrq).mono ?_; rintro e w5 ⟨rfl, hb5⟩
   rw [hq]
   have hkB' := hkB.call hb5
   have ho' := (ho.below hb5).mono (Nat.le_refl _) hb5.size
   have hF' := (hF.below hb5).mono (Nat.le_refl _) hb5.size
   have hbel' := hbel.trans (hb5.mono hbel.size)
   clear hkB ho hF hbel e0 e1 e2 hrq hb5
   have hkB := hkB'
   clear hkB'
   have e0 := hkB.cell' (i := 0) rfl
   have e1 := hkB.cell' (i := 1) rfl
   have e2 := hkB.cell' (i := 2) rfl
   have hs5 := hbel'.size
   have hv1 := OwnI.made0 (w := w5) (base := w5.heap.size) (N := V) (Nat.le_refl _) (by omega)
   have c3 := (hv1.cellG (j := N) (by simpa using hlt)).1
   have f3 := hv1.frozenG N
   rw [show (List.replicate V (0 : Int)).getD N 0 = 0 by rw [List.getD_eq_getElem?_getD, List.getElem?_replicate, if_pos hlt]; rfl] at c3
   have hv3 : OwnI (w5.alloc (.cells ((mkCells (.int .i64 0) V).setIfInBounds N (.int .i64 2)) 3)) w5.heap.size (Value.slice (some ⟨w5.heap.size, 0, none⟩) V V) ((List.replicate V (0 : Int)).set N 2) :=
    OwnI.newBlk (w := w5) (base := w5.heap.size) (N := V) (Nat.le_refl _) (by omega) (by simp) (by
     rw [Array.toList_setIfInBounds, show (mkCells (.int .i64 0) V).toList = List.replicate V (.int .i64 0) from toList_madeCells_one _ _, List.map_set, List.map_replicate]) (fun x hx => by
     rcases List.mem_or_eq_of_mem_set hx with hx | rfl
     ·obtain ⟨_, rfl⟩ := List.mem_replicate.1 hx
      exact ⟨by decide, by decide⟩
     ·exact ⟨by decide, by decide⟩)
   have hrow : (List.replicate V (0 : Int)).set N 2 = rowF V (ent ⟨V, qf, qt⟩ 0 N) := by
    rw [show List.replicate V (0 : Int) = rowF V (fun _ => 0) from by rw [rowF, List.map_const', List.length_range], rowF_set]
    apply rowF_congr
    intro b _
    rw [ent_zero]
    by_cases e : b = N
    ·rw [if_pos e, if_pos e.symm]
    ·rw [if_neg e, if_neg (fun h => e h.symm)]
   rw [hrow] at hv3
   have hb3 := below_alloc w5 (.cells ((mkCells (.int .i64 0) V).setIfInBounds N (.int .i64 2)) 3)
   have zs3 : (w5.alloc (.cells ((mkCells (.int .i64 0) V).setIfInBounds N (.int .i64 2)) 3)).heap.size = w5.heap.size + 1 := by simp
   clear hrow hv1
   go_wp2
   clear c3 f3 e0 e1 e2
   go_loopw [6] (fun i wr => ∃ k : Nat, k ≤ qf.length ∧ i = .int .i64 k ∧ OwnI wr w5.heap.size (Value.slice (some ⟨w5.heap.size, 0, none⟩) V V) (rowF V (ent ⟨V, qf, qt⟩ k N)) ∧ Below w5.heap.size w5 wr ∧ wr.heap.size = w5.heap.size + 1) (fun i _ => qf.length - (intOf i).toNat)
   case atStart => exact ⟨0, Nat.zero_le _, rfl, hv3, hb3, zs3⟩
   case round =>
    clear hv3 hb3 zs3
    obtain ⟨k, hk, rfl, hown, hbel, hsz⟩ := hrel
    have hSZ := Lib.hid hsz
    have e1 := (hkB.call hbel).cell' (i := 1) rfl
    have e2 := (hkB.call hbel).cell' (i := 2) rfl
    by_cases hltk : k < qf.length
    ·have hltT : k < qt.length := by have := HLE.out; omega
     obtain ⟨b, o, x', rfl, hb, HX, x1, _⟩ := SlI.at_ hf hltk
     obtain ⟨b2, o2, y', rfl, hb2, HY, y1, _⟩ := SlI.at_ hT hltT
     have hxr := HR.out.1 x' (List.mem_of_getElem? HX.out)
     have hyr := HR.out.2 y' (List.mem_of_getElem? HY.out)
     obtain ⟨x, rfl⟩ : ∃ x : Nat, x' = x := ⟨x'.toNat, by omega⟩
     obtain ⟨y, rfl⟩ : ∃ y : Nat, y' = y := ⟨y'.toNat, by omega⟩
     have hxV : x < V := by omega
     have hyV : y < V := by omega
     clear hxr hyr
     have x2 := bcell (hbel'.trans (hbel.mono hs5)) hb x1
     have y2 := bcell (hbel'.trans (hbel.mono hs5)) hb2 y1
     by_cases ex : x = N
     ·have exb : ((x : Int) == (N : Int)) = true := by rw [beq_iff_eq]; omega
      by_cases ey : y = N
      ·have eyb : ((y : Int) == (N : Int)) = true := by rw [beq_iff_eq]; omega
       have EX := Lib.hid ex
       have EY := Lib.hid ey
       clear ex ey
       obtain ⟨m1, hm1⟩ : ∃ m, (ent ⟨V, qf, qt⟩ k N) y = m := ⟨_, rfl⟩
       have hmr1 : -13 ≤ m1 ∧ m1 ≤ 2 := by
        rw [← hm1]
        have := ent_rng ⟨V, qf, qt⟩ k N y hl6
        first | omega | (dsimp only; split <;> omega)
       have r21 := (hown.cellG (j := y) (by rw [rowF_length]; exact hyV)).1
       rw [rowF_getD _ hyV, hm1] at r21
       have r31 := hown.frozenG y
       have hp1 := hown.put (j := y) (x := m1 - 1) ⟨by omega, by omega⟩
       rw [← hm1, rowF_dec, hm1] at hp1
       have hz1 := hbel.grown hp1.2 (by have := hbel.size; omega) (fun j hj => by injection hj with hj; omega)
       have HP1 := Lib.hid hp1.1
       have HZ1 := Lib.hid hz1
       clear hp1 hz1 hm1 hown
       go_wp2_with fail
       go_region_o
       obtain ⟨Wq1, hWq1⟩ : ∃ Wq, Wq = (wr.setCell ⟨w5.heap.size, y, none⟩ (.int .i64 (m1 - 1))).drew := ⟨_, rfl⟩
       rw [← hWq1]
       have hown1 : OwnI Wq1 w5.heap.size (Value.slice (some ⟨w5.heap.size, 0, none⟩) V V) (rowF V (fun b => (ent ⟨V, qf, qt⟩ k N) b - if b = y then 1 else 0)) := by rw [hWq1]; exact HP1.out.drewN 1
       have hbel1 : Below w5.heap.size w5 Wq1 := by rw [hWq1]; exact below_drewN HZ1.out 1
       have hsz1 : Wq1.heap.size = wr.heap.size := by rw [hWq1]; simp
       have SZ1 := Lib.hid hsz1
       clear hWq1 hsz1 r21 r31
       clear e1 e2 x2 y2
       have e1 := (hkB.call hbel1).cell' (i := 1) rfl
       have e2 := (hkB.call hbel1).cell' (i := 2) rfl
       have x2 := bcell (hbel'.trans (hbel1.mono hs5)) hb x1
       have y2 := bcell (hbel'.trans (hbel1.mono hs5)) hb2 y1
       obtain ⟨G1, hG1⟩ : ∃ G : Nat → Int, G = fun b => (ent ⟨V, qf, qt⟩ k N) b - if b = y then 1 else 0 := ⟨_, rfl⟩
       rw [← hG1] at hown1
       have HG1 := Lib.hid hG1
       clear hG1
       obtain ⟨m2, hm2⟩ : ∃ m, (G1) x = m := ⟨_, rfl⟩
       have hmr2 : -13 ≤ m2 ∧ m2 ≤ 2 := by
        rw [← hm2, HG1.out]
        have := ent_rng ⟨V, qf, qt⟩ k N x hl6
        first | omega | (dsimp only; split <;> omega)
       have r22 := (hown1.cellG (j := x) (by rw [rowF_length]; exact hxV)).1
       rw [rowF_getD _ hxV, hm2] at r22
       have r32 := hown1.frozenG x
       have hp2 := hown1.put (j := x) (x := m2 - 1) ⟨by omega, by omega⟩
       rw [← hm2, rowF_dec, hm2] at hp2
       have hz2 := hbel1.grown hp2.2 (by have := hbel1.size; omega) (fun j hj => by injection hj with hj; omega)
       have HP2 := Lib.hid hp2.1
       have HZ2 := Lib.hid hz2
       clear hp2 hz2 hm2 hown1
       go_wp2_with fail
       go_region_o
       obtain ⟨Wq2, hWq2⟩ : ∃ Wq, Wq = (Wq1.setCell ⟨w5.heap.size, x, none⟩ (.int .i64 (m2 - 1))).drew := ⟨_, rfl⟩
       rw [← hWq2]
       have hown2 : OwnI Wq2 w5.heap.size (Value.slice (some ⟨w5.heap.size, 0, none⟩) V V) (rowF V (fun b => (G1) b - if b = x then 1 else 0)) := by rw [hWq2]; exact HP2.out.drewN 1
       have hbel2 : Below w5.heap.size w5 Wq2 := by rw [hWq2]; exact below_drewN HZ2.out 1
       have hsz2 : Wq2.heap.size = Wq1.heap.size := by rw [hWq2]; simp
       have SZ2 := Lib.hid hsz2
       clear hWq2 hsz2 r22 r32
       have hst : Hid (rowF V (fun b => (G1) b - if b = x then 1 else 0) = rowF V (ent ⟨V, qf, qt⟩ (k + 1) N)) := by
        show rowF V (fun b => (G1) b - if b = x then 1 else 0) = _
        apply rowF_congr
        intro b _
        rw [ent_succ HX.out HY.out]
        rw [HG1.out, if_pos_and EX.out.symm, if_pos_and EY.out.symm]
       rw [hst.out] at hown2
       go_wp2
       go_roundw
       case rel => exact ⟨k + 1, by omega, by go_num, hown2, hbel2, (SZ2.out.trans (SZ1.out.trans hsz))⟩
       case measure => simp [intOf]; omega
      ·have eyb : ((y : Int) == (N : Int)) = false := by rw [beq_eq_false_iff_ne]; omega
       have hyn := ey
       have EX := Lib.hid ex
       clear ex ey
       obtain ⟨m1, hm1⟩ : ∃ m, (ent ⟨V, qf, qt⟩ k N) y = m := ⟨_, rfl⟩
       have hmr1 : -13 ≤ m1 ∧ m1 ≤ 2 := by
        rw [← hm1]
        have := ent_rng ⟨V, qf, qt⟩ k N y hl6
        first | omega | (dsimp only; split <;> omega)
       have r21 := (hown.cellG (j := y) (by rw [rowF_length]; exact hyV)).1
       rw [rowF_getD _ hyV, hm1] at r21
       have r31 := hown.frozenG y
       have hp1 := hown.put (j := y) (x := m1 - 1) ⟨by omega, by omega⟩
       rw [← hm1, rowF_dec, hm1] at hp1
       have hz1 := hbel.grown hp1.2 (by have := hbel.size; omega) (fun j hj => by injection hj with hj; omega)
       have HP1 := Lib.hid hp1.1
       have HZ1 := Lib.hid hz1
       clear hp1 hz1 hm1 hown
       go_wp2_with fail
       go_region_o
       obtain ⟨Wq1, hWq1⟩ : ∃ Wq, Wq = (wr.setCell ⟨w5.heap.size, y, none⟩ (.int .i64 (m1 - 1))).drew := ⟨_, rfl⟩
       rw [← hWq1]
       have hown1 : OwnI Wq1 w5.heap.size (Value.slice (some ⟨w5.heap.size, 0, none⟩) V V) (rowF V (fun b => (ent ⟨V, qf, qt⟩ k N) b - if b = y then 1 else 0)) := by rw [hWq1]; exact HP1.out.drewN 1
       have hbel1 : Below w5.heap.size w5 Wq1 := by rw [hWq1]; exact below_drewN HZ1.out 1
       have hsz1 : Wq1.heap.size = wr.heap.size := by rw [hWq1]; simp
       have SZ1 := Lib.hid hsz1
       clear hWq1 hsz1 r21 r31
       clear e1 e2 x2 y2
       have e1 := (hkB.call hbel1).cell' (i := 1) rfl
       have e2 := (hkB.call hbel1).cell' (i := 2) rfl
       have x2 := bcell (hbel'.trans (hbel1.mono hs5)) hb x1
       have y2 := bcell (hbel'.trans (hbel1.mono hs5)) hb2 y1
       have hst : Hid (rowF V (fun b => (ent ⟨V, qf, qt⟩ k N) b - if b = y then 1 else 0) = rowF V (ent ⟨V, qf, qt⟩ (k + 1) N)) := by
        show rowF V (fun b => (ent ⟨V, qf, qt⟩ k N) b - if b = y then 1 else 0) = _
        apply rowF_congr
        intro b _
        rw [ent_succ HX.out HY.out]
        rw [if_pos_and EX.out.symm, if_neg (c := N = y ∧ b = x) (fun h => hyn h.1.symm)]; omega
       rw [hst.out] at hown1
       go_wp2
       go_roundw
       case rel => exact ⟨k + 1, by omega, by go_num, hown1, hbel1, (SZ1.out.trans hsz)⟩
       case measure => simp [intOf]; omega
     ·have exb : ((x : Int) == (N : Int)) = false := by rw [beq_eq_false_iff_ne]; omega
      have hxn := ex
      clear ex
      by_cases ey : y = N
      ·have eyb : ((y : Int) == (N : Int)) = true := by rw [beq_iff_eq]; omega
       have EY := Lib.hid ey
       clear ey
       obtain ⟨m1, hm1⟩ : ∃ m, (ent ⟨V, qf, qt⟩ k N) x = m := ⟨_, rfl⟩
       have hmr1 : -13 ≤ m1 ∧ m1 ≤ 2 := by
        rw [← hm1]
        have := ent_rng ⟨V, qf, qt⟩ k N x hl6
        first | omega | (dsimp only; split <;> omega)
       have r21 := (hown.cellG (j := x) (by rw [rowF_length]; exact hxV)).1
       rw [rowF_getD _ hxV, hm1] at r21
       have r31 := hown.frozenG x
       have hp1 := hown.put (j := x) (x := m1 - 1) ⟨by omega, by omega⟩
       rw [← hm1, rowF_dec, hm1] at hp1
       have hz1 := hbel.grown hp1.2 (by have := hbel.size; omega) (fun j hj => by injection hj with hj; omega)
       have HP1 := Lib.hid hp1.1
       have HZ1 := Lib.hid hz1
       clear hp1 hz1 hm1 hown
       go_wp2_with fail
       go_region_o
       obtain ⟨Wq1, hWq1⟩ : ∃ Wq, Wq = (wr.setCell ⟨w5.heap.size, x, none⟩ (.int .i64 (m1 - 1))).drew := ⟨_, rfl⟩
       rw [← hWq1]
       have hown1 : OwnI Wq1 w5.heap.size (Value.slice (some ⟨w5.heap.size, 0, none⟩) V V) (rowF V (fun b => (ent ⟨V, qf, qt⟩ k N) b - if b = x then 1 else 0)) := by rw [hWq1]; exact HP1.out.drewN 1
       have hbel1 : Below w5.heap.size w5 Wq1 := by rw [hWq1]; exact below_drewN HZ1.out 1
       have hsz1 : Wq1.heap.size = wr.heap.size := by rw [hWq1]; simp
       have SZ1 := Lib.hid hsz1
       clear hWq1 hsz1 r21 r31
       have hst : Hid (rowF V (fun b => (ent ⟨V, qf, qt⟩ k N) b - if b = x then 1 else 0) = rowF V (ent ⟨V, qf, qt⟩ (k + 1) N)) := by
        show rowF V (fun b => (ent ⟨V, qf, qt⟩ k N) b - if b = x then 1 else 0) = _
        apply rowF_congr
        intro b _
        rw [ent_succ HX.out HY.out]
        rw [if_neg (c := N = x ∧ b = y) (fun h => hxn h.1.symm), if_pos_and EY.out.symm]; omega
       rw [hst.out] at hown1
       go_wp2
       go_roundw
       case rel => exact ⟨k + 1, by omega, by go_num, hown1, hbel1, (SZ1.out.trans hsz)⟩
       case measure => simp [intOf]; omega
      ·have eyb : ((y : Int) == (N : Int)) = false := by rw [beq_eq_false_iff_ne]; omega
       have hyn := ey
       clear ey
       have hst : Hid (rowF V (ent ⟨V, qf, qt⟩ k N) = rowF V (ent ⟨V, qf, qt⟩ (k + 1) N)) := by
        show rowF V (ent ⟨V, qf, qt⟩ k N) = _
        apply rowF_congr
        intro b _
        rw [ent_succ HX.out HY.out]
        rw [if_neg (c := N = x ∧ b = y) (fun h => hxn h.1.symm), if_neg (c := N = y ∧ b = x) (fun h => hyn h.1.symm)]; omega
       rw [hst.out] at hown
       go_wp2
       go_roundw
       case rel => exact ⟨k + 1, by omega, by go_num, hown, hbel, hsz⟩
       case measure => simp [intOf]; omega
    ·have hst : Hid (ent ⟨V, qf, qt⟩ k N = ent ⟨V, qf, qt⟩ qf.length N) := by show _ = _; rw [show k = qf.length by omega]
     rw [hst.out] at hown
     have ho1 := ho'.below hbel
     have hF1 := hF'.below hbel
     have hkB1 := hkB.call hbel
     have hb1 := hbel'.trans (hbel.mono hs5)
     have hsz' := hSZ.out
     have hF2 := hF1.snoc (hi := wr.heap.size) ⟨hown, fun k hk => by simp [Value.ownBlock] at hk; omega⟩ hs5 (by omega)
     have hzip : vs.zip ((symM ⟨V, qf, qt⟩).take N) ++ [((Value.slice (some ⟨w5.heap.size, 0, none⟩) V V), rowF V (ent ⟨V, qf, qt⟩ qf.length N))] = (vs ++ [(Value.slice (some ⟨w5.heap.size, 0, none⟩) V V)]).zip ((symM ⟨V, qf, qt⟩).take (vs ++ [(Value.slice (some ⟨w5.heap.size, 0, none⟩) V V)]).length) := by
      rw [List.length_append, List.length_singleton, HN.out, take_snoc (show (symM ⟨V, qf, qt⟩)[N]? = some (rowF V (ent ⟨V, qf, qt⟩ qf.length N)) from matF_get (V := V) _ hlt), List.zip_append (by rw [HN.out, List.length_take, symM, matF_length]; show N = min N V; omega)]
      rfl
     rw [hzip] at hF2
     have hoA := ho1.below (below_alloc wr (.cells #[(Value.slice (some ⟨w5.heap.size, 0, none⟩) V V)] 22))
     have hFA := hF2.below (below_alloc wr (.cells #[(Value.slice (some ⟨w5.heap.size, 0, none⟩) V V)] 22))
     have hkA := hkB1.call (below_alloc wr (.cells #[(Value.slice (some ⟨w5.heap.size, 0, none⟩) V V)] 22))
     clear hF2 hF1 hzip ho1 hown hkB1 hsz hsz'
     (go_wp2_with (at_builtin; refine Hold.stop ?_)); unfold Hold
     refine wpList_appS rfl (.tmp 77) (.tmp 79) rfl w.heap.size (.slice OA N oc) vs rfl hoA.1 _ _ (Value.slice (some ⟨w5.heap.size, 0, none⟩) V V) rfl ⟨wr.heap.size, 0, rfl, (Blk.new wr 22 #[(Value.slice (some ⟨w5.heap.size, 0, none⟩) V V)]).cell' (i := 0) rfl⟩ rfl (by have := HN.out; omega) (by rw [World.size_alloc]; have := hb1.size; omega) ?_
     intro v1 w2 ho2 hg hv
     have hF3 := (hFA.grownO hoA.1 hg).mono (Nat.le_refl _) (show wr.heap.size ≤ w2.heap.size by have := hg.size; simp at this; omega)
     have hk3 := hkA.grown hg (hoA.blkne hkA (by decide))
     have hb3 := (hb1.alloc hb1.size (.cells #[(Value.slice (some ⟨w5.heap.size, 0, none⟩) V V)] 22)).grown hg (by have := hb1.size; simp; omega) (fun j hj => (hoA.1.lt j hj).1)
     have ho3 : OutO w2 w.heap.size w2.heap.size v1 (vs ++ [(Value.slice (some ⟨w5.heap.size, 0, none⟩) V V)]) := ⟨ho2, fun k hk => (ho2.lt k hk).2, by have := HN.out; simp; omega⟩
     have HF3 := Lib.hid hF3
     have HL : Hid ((vs ++ [(Value.slice (some ⟨w5.heap.size, 0, none⟩) V V)]).length = N + 1) := by show _ = _; rw [List.length_append, HN.out]; rfl
     clear hF3 hFA hoA hkA hg hv ho2
     go_wp2
     go_roundw
     case rel => exact ⟨vs ++ [(Value.slice (some ⟨w5.heap.size, 0, none⟩) V V)], by rw [HL.out]; omega, by rw [HL.out]; go_num, hb3, hk3, ho3, HF3.out⟩
     case measure => simp [intOf]; omega
  ·have hrq := QvR.more (B' := wr.heap.size) (by have := hbel.size; omega) (QvR.below hbel hu')
   have hNV : N = V := by omega
   go_wp2
   refine bodyPost_ret (v := .slice OA N oc) (by simp [results, go_sem]) rfl ⟨_, rfl, ⟨vs, ho, by rw [symM, matF_length, HN.out, hNV]; rfl, ?_⟩, hbel⟩
   rwa [List.take_of_length_le (by rw [symM, matF_length]; show V ≤ N; omega)] at hF
end Go.Proofs.YtcmlflppndfdcaaGreat
namespace Go.Proofs.YtcmlflppndfdcaaGreat
open Go.RowKit
def dotS (g : Nat → Int) (x : List Int) : Nat → Int
 | 0 => 0
 | k + 1 => dotS g x k + g k * x.getD k 0
theorem mul_rng {a b : Int} (ha : -12 ≤ a ∧ a ≤ 12) (hb : -100 ≤ b ∧ b ≤ 100) : -1200 ≤ a * b ∧ a * b ≤ 1200 := by
 obtain ⟨a1, a2⟩ := ha
 obtain ⟨b1, b2⟩ := hb
 have h1 : 0 ≤ (12 - a) * (100 - b) := Int.mul_nonneg (by omega) (by omega)
 have h2 : 0 ≤ (12 + a) * (100 + b) := Int.mul_nonneg (by omega) (by omega)
 have h3 : 0 ≤ (12 - a) * (100 + b) := Int.mul_nonneg (by omega) (by omega)
 have h4 : 0 ≤ (12 + a) * (100 - b) := Int.mul_nonneg (by omega) (by omega)
 simp only [Int.sub_mul, Int.add_mul, Int.mul_sub, Int.mul_add] at h1 h2 h3 h4
 omega
theorem getD_rng {x : List Int} (hx : ∀ y ∈ x, -100 ≤ y ∧ y ≤ 100) (k : Nat) : -100 ≤ x.getD k 0 ∧ x.getD k 0 ≤ 100 := by
 rw [List.getD_eq_getElem?_getD]
 rcases h : x[k]? with _ | y
 ·simp
 ·exact hx y (List.mem_of_getElem? h)
theorem dotS_rng {g : Nat → Int} {x : List Int} (hg : ∀ k, -12 ≤ g k ∧ g k ≤ 12) (hx : ∀ y ∈ x, -100 ≤ y ∧ y ≤ 100) : ∀ k : Nat, -(1200 * (k : Int)) ≤ dotS g x k ∧ dotS g x k ≤ 1200 * k
 | 0 => by simp [dotS]
 | k + 1 => by
  have ih := dotS_rng hg hx k
  have h := mul_rng (hg k) (getD_rng hx k)
  unfold dotS
  omega
def reflL (q : Qv) (x : List Int) (v : Nat) : List Int := x.set v (x.getD v 0 - dotS (ent q q.f.length v) x x.length)
def reflQ (q : Qv) (x : List Int) (v : Int) : List Int × Bool := if isNum q x && inR v 0 (q.v - 1) && !loopQ q v then (reflL q x v.toNat, true) else ([], false)
theorem SlI.atN {w : World} {B n c : Nat} {A : Option Addr} {xs : List Int} {k : Nat} (h : SlI w B (.slice A n c) xs) (hn : xs.length = n) (hk : k < n) :
  ∃ b o x, A = some ⟨b, o, none⟩ ∧ b < B ∧ Hid (xs[k]? = some x) ∧ w.cell? ⟨b, o + k, none⟩ = some (.int .i64 x) ∧ -9223372036854775808 ≤ x ∧ x ≤ 9223372036854775807 := by
 subst hn
 exact SlI.at_ h hk
set_option maxHeartbeats 800000 in
set_option maxRecDepth 20000 in
theorem l20Reflect_any (mv xv : Value) (q : Qv) (x : List Int) (v : Nat) (w : World) (hm : SlII w w.heap.size mv (symM q)) (hx : SlI w w.heap.size xv x) (hq : isNum q x = true) (hv : v < q.v.toNat) :
  Calls Tryz.prog 114 #[mv, xv, .int .i64 v] w fun e w' => ∃ u, e = .returned u ∧ IntsO w' w.heap.size w'.heap.size u (reflL q x v) ∧ Below w.heap.size w w' := by
 obtain ⟨hq1, hq2, hq3⟩ := isNum_t.1 hq
 obtain ⟨⟨hv1, hv2⟩, hlen, hl6, _, _⟩ := isQ_t.1 hq1
 obtain ⟨V, hV⟩ : ∃ V : Nat, q.v.toNat = V := ⟨_, rfl⟩
 have hxV : x.length = V := by omega
 have hV5 : V ≤ 5 := by omega
 rw [hV] at hv
 have hmv : (symM q)[v]? = some (rowF V (ent q q.f.length v)) := by rw [symM, hV]; exact matF_get _ hv
 have hml : v < (symM q).length := by rw [symM, hV, matF_length]; exact hv
 obtain ⟨MA, mc, rfl, _, _, lm, hm'⟩ := hm.open_
 obtain ⟨XA, xc, rfl, _, _, lx, hx'⟩ := hx.open_
 clear hm hx
 obtain ⟨mb, mo, l, LA, lc, rfl, hmb, HL, ml, hl⟩ := SlII.at_ hm' hml
 have el : l = rowF V (ent q q.f.length v) := by
  have h := HL.out
  rw [hmv] at h
  injection h with h
  exact h.symm
 have hll : l.length = V := by rw [el, rowF_length]
 have HEL := Lib.hid el
 have HLL := Lib.hid hll
 have HXV := Lib.hid hxV
 have HX3 := Lib.hid hq3
 have hmlen : (symM q).length = V := by rw [symM, hV, matF_length]
 have HML := Lib.hid hmlen
 clear el hll hmv hq hq1 hq2 hq3 hlen hm' hv1 hv2 hV hmlen
 rw [HLL.out] at ml hl
 rw [HML.out] at hml ⊢
 rw [HXV.out] at hx' lx ⊢
 have hxs := hx'
 go_enter Tryz.func114, Tryz.ntmps114
 (go_wp2_with (at_builtin; refine Hold.stop ?_)); unfold Hold
 have ho0 : OwnI (w.alloc (.cells #[] 3)) w.heap.size (.slice (some ⟨w.heap.size, 0, none⟩) 0 0) [] := OwnI.made _ rfl (Nat.le_refl _)
 refine wpList_appI rfl (.tmp 10) (.tmp 11) rfl w.heap.size w.heap.size (.slice (some ⟨w.heap.size, 0, none⟩) 0 0) [] rfl ho0 _ _ _ x rfl HXV.out.symm (by rw [HXV.out]; exact SlI.below (below_alloc _ _) hx') (by simp; omega) (by simp) ?_
 intro v1 w1 ho1 hg1 hvv
 rw [List.nil_append] at ho1
 have hb1 : Below w.heap.size w w1 := ((Below.refl _ _).alloc (Nat.le_refl _) (.cells #[] 3)).grown hg1 (by simp) (fun j hj => (ho0.lt j hj).1)
 obtain ⟨OA, oc, rfl, _, _⟩ := ho1.form
 rw [HXV.out] at ho1 ⊢
 clear hg1 hvv ho0
 go_wp2
 have hmo : Tryz.prog.follows .mixedOrders = true := by kernel_rfl
 have hgr : ∀ i, -12 ≤ ent q q.f.length v i ∧ ent q q.f.length v i ≤ 12 := fun i => by have := ent_rng q q.f.length v i hl6; omega
 have HGR := Lib.hid hgr
 have hsr := Lib.hid (dotS_rng hgr HX3.out)
 clear hgr hxV
 go_loopw [8, 9] (fun s i wr => ∃ k : Nat, k ≤ V ∧ i = .int .i64 k ∧ s = .int .i64 (dotS (ent q q.f.length v) x k) ∧ OwnI wr w.heap.size (.slice OA V oc) x ∧ Below w.heap.size w wr) (fun _ i _ => V - (intOf i).toNat)
 case atStart => exact ⟨0, Nat.zero_le _, rfl, rfl, ho1, hb1⟩
 case round =>
  clear ho1 hb1
  obtain ⟨k, hk, rfl, rfl, hown, hbel⟩ := hrel
  have hsk := hsr.out k
  obtain ⟨s, hs⟩ : ∃ s, dotS (ent q q.f.length v) x k = s := ⟨_, rfl⟩
  rw [hs] at hsk ⊢
  have HS := Lib.hid hs
  clear hs
  by_cases hlt : k < V
  ·obtain ⟨b1, o1, y, rfl, hb1, HY, y1, _⟩ := SlI.atN hl HLL.out hlt
   obtain ⟨b2, o2, z, rfl, hb2, HZ, z1, _⟩ := SlI.atN hx' HXV.out hlt
   have m2 := bcell hbel hmb ml
   have y2 := bcell hbel hb1 y1
   have z2 := bcell hbel hb2 z1
   have hye : y = ent q q.f.length v k := by
    have h := HY.out
    rw [HEL.out, rowF_get _ hlt] at h
    injection h with h
    exact h.symm
   have hze : x.getD k 0 = z := by rw [List.getD_eq_getElem?_getD, HZ.out]; rfl
   have hyr : -12 ≤ y ∧ y ≤ 12 := by rw [hye]; exact HGR.out k
   have hzr := HX3.out z (List.mem_of_getElem? HZ.out)
   have hpr := mul_rng hyr hzr
   obtain ⟨p, hp⟩ : ∃ p, y * z = p := ⟨_, rfl⟩
   rw [hp] at hpr
   have hst : Hid (dotS (ent q q.f.length v) x (k + 1) = s + p) := by show _ = _; rw [dotS, HS.out, ← hye, hze, hp]
   clear hye hze y1 z1
   go_wp2_with fail
   go_quiet (fail)
   go_wp2
   go_roundw
   case rel => exact ⟨k + 1, by omega, by go_num, by rw [hst.out], hown.drewN nq, below_drewN hbel nq⟩
   case measure => simp [intOf]; omega
  ·have HKV := Lib.hid (show k = V by omega)
   obtain ⟨g, rfl, hgl⟩ : ∃ g, OA = some ⟨g, 0, none⟩ ∧ w.heap.size ≤ g := by
    rcases hown.1.2 with ⟨e, _⟩ | ⟨g, cap, cur, e, hg, _⟩
    ·injection e with _ e _
     omega
    ·injection e with e _ _
     exact ⟨g, e, hg⟩
   have hzr := getD_rng HX3.out v
   have ci := (hown.cellG (j := v) (by rw [HXV.out]; exact hv)).1
   have fi := hown.frozenG v
   have HR : Hid (reflL q x v = x.set v (x.getD v 0 - s)) := by show _ = _; rw [reflL, HXV.out, ← HKV.out, HS.out]
   obtain ⟨z, hz⟩ : ∃ z, x.getD v 0 = z := ⟨_, rfl⟩
   rw [hz] at hzr ci
   have hR := HR.out
   rw [hz] at hR
   have HR2 := Lib.hid hR
   have hp := hown.put (j := v) (x := z - s) ⟨by omega, by omega⟩
   rw [← hR] at hp
   have hb2 := hbel.grown hp.2 (by have := hbel.size; omega) (fun j hj => by injection hj with hj; omega)
   have HP := Lib.hid hp.1
   clear hz hR HR hp hown
   go_wp2
   exact bodyPost_ret (v := .slice (some ⟨g, 0, none⟩) V oc) (by simp [results, go_sem]) rfl ⟨_, rfl, IntsO.of_own HP.out, hb2⟩
end Go.Proofs.YtcmlflppndfdcaaGreat
namespace Go.Proofs.YtcmlflppndfdcaaGreat
open Go.RowKit
set_option maxHeartbeats 400000 in
theorem slEqual_any (u v : Value) (xs ys : List Int) (w : World) (hu : SlI w w.heap.size u xs) (hv : SlI w w.heap.size v ys) :
  Calls Tryz.prog 125 #[u, v] w fun e w' => e = .returned (.bool (decide (xs = ys))) ∧ Below w.heap.size w w' := by
 obtain ⟨A, c, rfl, _, _, hn, hx⟩ := hu.open_
 obtain ⟨C, d, rfl, _, _, hm, hy⟩ := hv.open_
 clear hu hv
 by_cases hnm : xs.length = ys.length
 ·have heq : ((xs.length : Int) != ys.length) = false := by rw [bne_eq_false_iff_eq]; omega
  have HN := Lib.hid hnm
  clear hnm
  go_enter Tryz.func125, Tryz.ntmps125
  go_wp2
  go_loopw [5, 13] (fun _ i wr => ∃ k q : Nat, k ≤ xs.length ∧ i = .int .i64 k ∧ wr = w.drewN q ∧ Hid (xs.take k = ys.take k)) (fun _ i _ => xs.length - (intOf i).toNat)
  case atStart => exact ⟨0, 0, Nat.zero_le _, rfl, rfl, rfl⟩
  case round =>
   obtain ⟨k, q, hk, rfl, rfl, hxy⟩ := hrel
   by_cases hlt : k < xs.length
   ·have hlt' : k < ys.length := by have := HN.out; omega
    obtain ⟨b, o, x, rfl, hb, HX, c1, _⟩ := SlI.at_ hx hlt
    obtain ⟨b', o', x', rfl, hb', HX', c1', _⟩ := SlI.at_ hy hlt'
    clear hx hy
    by_cases hE : x = x'
    ·subst hE
     go_wp2
     go_quiet (fail)
     go_wp2
     go_roundw
     case rel =>
      refine ⟨k + 1, q + nq, by omega, by go_num, rfl, ?_⟩
      show _ = _
      rw [take_snoc HX.out, take_snoc HX'.out, hxy.out]
     case measure => simp [intOf]; omega
    ·have hne : (x != x') = true := by simpa using hE
     have hxy' : Hid (xs ≠ ys) := by
      rintro rfl
      have h2 := HX.out
      rw [HX'.out] at h2
      exact hE (by injection h2 with h2; exact h2.symm)
     clear hE
     go_wp2
     go_quiet (fail)
     go_wp2
     go_ret
     exact ⟨by rw [decide_eq_false hxy'.out]; rfl, below_drewN (drewN_below _ _ _) _⟩
   ·go_wp2
    go_ret
    refine ⟨?_, drewN_below _ _ _⟩
    have h1 := hxy.out
    rw [List.take_of_length_le (by omega), List.take_of_length_le (by have := HN.out; omega)] at h1
    simp [h1]
 ·have hne : ((xs.length : Int) != ys.length) = true := by rw [bne_iff_ne]; omega
  go_enter Tryz.func125, Tryz.ntmps125
  go_wp2
  go_ret
  refine ⟨?_, Below.refl _ _⟩
  rw [decide_eq_false (by rintro rfl; omega)]; rfl
set_option maxHeartbeats 400000 in
theorem l6Same_any (u v : Value) (xs ys : List Int) (w : World) (hu : SlI w w.heap.size u xs) (hv : SlI w w.heap.size v ys) :
  Calls Tryz.prog 117 #[u, v] w fun e w' => e = .returned (.bool (decide (xs = ys))) ∧ Below w.heap.size w w' := by
 obtain ⟨A, c, rfl, _, _, hn, hx⟩ := hu.open_
 obtain ⟨C, d, rfl, _, _, hm, hy⟩ := hv.open_
 clear hu hv
 by_cases hnm : xs.length = ys.length
 ·have heq : ((xs.length : Int) != ys.length) = false := by rw [bne_eq_false_iff_eq]; omega
  have HN := Lib.hid hnm
  clear hnm
  go_enter Tryz.func117, Tryz.ntmps117
  go_wp2
  go_loopw [5] (fun i wr => ∃ k q : Nat, k ≤ xs.length ∧ i = .int .i64 k ∧ wr = w.drewN q ∧ Hid (xs.take k = ys.take k)) (fun i _ => xs.length - (intOf i).toNat)
  case atStart => exact ⟨0, 0, Nat.zero_le _, rfl, rfl, rfl⟩
  case round =>
   obtain ⟨k, q, hk, rfl, rfl, hxy⟩ := hrel
   by_cases hlt : k < xs.length
   ·have hlt' : k < ys.length := by have := HN.out; omega
    obtain ⟨b, o, x, rfl, hb, HX, c1, _⟩ := SlI.at_ hx hlt
    obtain ⟨b', o', x', rfl, hb', HX', c1', _⟩ := SlI.at_ hy hlt'
    clear hx hy
    by_cases hE : x = x'
    ·subst hE
     go_wp2
     go_quiet (fail)
     go_wp2
     go_roundw
     case rel =>
      refine ⟨k + 1, q + nq, by omega, by go_num, rfl, ?_⟩
      show _ = _
      rw [take_snoc HX.out, take_snoc HX'.out, hxy.out]
     case measure => simp [intOf]; omega
    ·have hne : (x != x') = true := by simpa using hE
     have hxy' : Hid (xs ≠ ys) := by
      rintro rfl
      have h2 := HX.out
      rw [HX'.out] at h2
      exact hE (by injection h2 with h2; exact h2.symm)
     clear hE
     go_wp2
     go_quiet (fail)
     go_wp2
     go_ret
     exact ⟨by rw [decide_eq_false hxy'.out]; rfl, below_drewN (drewN_below _ _ _) _⟩
   ·go_wp2
    go_ret
    refine ⟨?_, drewN_below _ _ _⟩
    have h1 := hxy.out
    rw [List.take_of_length_le (by omega), List.take_of_length_le (by have := HN.out; omega)] at h1
    simp [h1]
 ·have hne : ((xs.length : Int) != ys.length) = true := by rw [bne_iff_ne]; omega
  go_enter Tryz.func117, Tryz.ntmps117
  go_wp2
  go_ret
  refine ⟨?_, Below.refl _ _⟩
  rw [decide_eq_false (by rintro rfl; omega)]; rfl
set_option maxHeartbeats 800000 in
theorem specEqualQuivers_any (u v : Value) (p q : Qv) (w : World) (hu : QvR w w.heap.size u p) (hv : QvR w w.heap.size v q) :
  Calls Tryz.prog 144 #[u, v] w fun e w' => e = .returned (.bool (decide (p = q))) ∧ Below w.heap.size w w' := by
 obtain ⟨A, c, C, d, rfl, hf, ht, _, _, _⟩ := hu.open_
 obtain ⟨A', c', C', d', rfl, hf', ht', _, _, _⟩ := hv.open_
 clear hu hv
 obtain ⟨W, hW⟩ : ∃ W, W = (w.alloc (.cells #[.int .i64 p.v, .slice A p.f.length c, .slice C p.t.length d] 29)).alloc (.cells #[.int .i64 q.v, .slice A' q.f.length c', .slice C' q.t.length d'] 29) := ⟨_, rfl⟩
 have g0 : Below w.heap.size w W := by rw [hW]; exact ((Below.refl _ _).alloc (Nat.le_refl _) _).alloc (by simp) _
 have k1 : Blk W w.heap.size 29 #[.int .i64 p.v, .slice A p.f.length c, .slice C p.t.length d] := by rw [hW]; exact (Blk.new _ _ _).alloc _
 have k2 : Blk W (w.heap.size + 1) 29 #[.int .i64 q.v, .slice A' q.f.length c', .slice C' q.t.length d'] := by
  rw [hW]
  have := Blk.new (w.alloc (.cells #[.int .i64 p.v, .slice A p.f.length c, .slice C p.t.length d] 29)) 29 #[.int .i64 q.v, .slice A' q.f.length c', .slice C' q.t.length d']
  simpa only [World.size_alloc] using this
 replace hf := SlI.next g0 hf
 replace hf' := SlI.next g0 hf'
 replace ht := SlI.next g0 ht
 replace ht' := SlI.next g0 ht'
 by_cases h1 : p.v = q.v
 ·have e1 : (p.v == q.v) = true := by rw [h1]; simp
  have H1 := Lib.hid h1
  clear h1
  by_cases h2 : p.f = q.f
  ·have e2 : decide (p.f = q.f) = true := by simpa using h2
   have H2 := Lib.hid h2
   clear h2
   obtain ⟨B, hB⟩ : ∃ B, decide (p.t = q.t) = B := ⟨_, rfl⟩
   have HB := Lib.hid hB
   have hfin : decide (p = q) = B := by
    rw [← hB, decide_eq_decide, qv_ext]
    exact ⟨fun h => h.2.2, fun h => ⟨H1.out, H2.out, h⟩⟩
   rw [hfin]
   clear hfin hB
   go_enter Tryz.func144, Tryz.ntmps144
   go_wp2_with fail
   rw [← hW]; clear hW
   refine (l6Same_any _ _ _ _ _ hf hf').mono ?_; rintro e w1 ⟨rfl, hb1⟩
   clear hf hf'
   replace g0 := bthen g0 hb1
   replace ht := SlI.next hb1 ht
   replace ht' := SlI.next hb1 ht'
   replace k1 := k1.call hb1
   replace c0 := k1.cell' (i := 0) rfl
   replace c1 := k1.cell' (i := 1) rfl
   replace c2 := k1.cell' (i := 2) rfl
   replace k2 := k2.call hb1
   replace d0 := k2.cell' (i := 0) rfl
   replace d1 := k2.cell' (i := 1) rfl
   replace d2 := k2.cell' (i := 2) rfl
   clear hb1
   go_wp2_with fail
   refine (l6Same_any _ _ _ _ _ ht ht').mono ?_; rintro e w_2 ⟨rfl, hb_2⟩
   replace g0 := bthen g0 hb_2
   replace ht := SlI.next hb_2 ht
   replace ht' := SlI.next hb_2 ht'
   replace k1 := k1.call hb_2
   replace c0 := k1.cell' (i := 0) rfl
   replace c1 := k1.cell' (i := 1) rfl
   replace c2 := k1.cell' (i := 2) rfl
   replace k2 := k2.call hb_2
   replace d0 := k2.cell' (i := 0) rfl
   replace d1 := k2.cell' (i := 1) rfl
   replace d2 := k2.cell' (i := 2) rfl
   rw [HB.out]
   clear ht ht' k1 k2
   go_wp2
   go_ret
   exact ⟨rfl, g0⟩
  ·have e2 : decide (p.f = q.f) = false := by simpa using h2
   have hfin : decide (p = q) = false := by
    simp only [decide_eq_false_iff_not, qv_ext]
    exact fun h => h2 h.2.1
   rw [hfin]
   clear hfin h2
   go_enter Tryz.func144, Tryz.ntmps144
   go_wp2_with fail
   rw [← hW]; clear hW
   refine (l6Same_any _ _ _ _ _ hf hf').mono ?_; rintro e w1 ⟨rfl, hb1⟩
   go_wp2
   go_ret
   exact ⟨rfl, bthen g0 hb1⟩
 ·have e1 : (p.v == q.v) = false := by simpa using h1
  have hfin : decide (p = q) = false := by
   simp only [decide_eq_false_iff_not, qv_ext]
   exact fun h => h1 h.1
  rw [hfin]
  clear hfin h1
  go_enter Tryz.func144, Tryz.ntmps144
  go_wp2
  rw [← hW]
  go_ret
  exact ⟨rfl, g0⟩
def pQ : Qv := ⟨2, [0, 0], [1, 1]⟩
def isPen (x : Rp) : Bool := isRep x && decide (x.q = pQ)
end Go.Proofs.YtcmlflppndfdcaaGreat
namespace Go.Proofs.YtcmlflppndfdcaaGreat
open Go.RowKit
def gidx (p : List Int → Bool) (l : List (List Int)) : Int := if l.findIdx p < l.length then (l.findIdx p : Int) else -1
theorem gidx_none {p : List Int → Bool} {l : List (List Int)} (h : ∀ x ∈ l, p x = false) : gidx p l = -1 := by
 unfold gidx
 rw [if_neg]
 intro hlt
 have h1 := List.findIdx_getElem (w := hlt)
 have h2 := h _ (List.getElem_mem hlt)
 rw [h1] at h2
 cases h2
theorem gidx_some {p : List Int → Bool} {l : List (List Int)} {k : Nat} {x : List Int} (hx : l[k]? = some x) (hp : p x = true) (hb : ∀ y ∈ l.take k, p y = false) : gidx p l = k := by
 have hk := lt_of_some hx
 have hxk : l[k] = x := by rw [List.getElem?_eq_getElem hk] at hx; injection hx
 have e : l.findIdx p = k := by
  rw [List.findIdx_eq hk]
  refine ⟨by rw [hxk]; exact hp, fun j hj => ?_⟩
  have := hb l[j] (by rw [List.mem_take_iff_getElem]; exact ⟨j, by omega, rfl⟩)
  simp [this]
 unfold gidx
 rw [e, if_pos hk]
theorem gidx_range (p : List Int → Bool) (l : List (List Int)) : -1 ≤ gidx p l ∧ gidx p l < l.length := by
 unfold gidx
 split <;> omega
theorem gidx_any (p : List Int → Bool) (l : List (List Int)) : decide (0 ≤ gidx p l) = l.any p := by
 unfold gidx
 by_cases h : l.findIdx p < l.length
 ·rw [if_pos h]
  have h1 := List.findIdx_getElem (w := h)
  have : l.any p = true := List.any_eq_true.2 ⟨_, List.getElem_mem h, h1⟩
  rw [this]
  simp
 ·rw [if_neg h]
  have : l.any p = false := by
   rw [List.any_eq_false]
   intro x hx hpx
   exact h (List.findIdx_lt_length_of_exists ⟨x, hx, hpx⟩)
  rw [this]
  simp
set_option maxHeartbeats 800000 in
theorem indexFuncR_any (p1 : Value) (p : List Int → Bool) (u : Value) (ll : List (List Int)) (w : World) (hu : SlII w w.heap.size u ll)
  (hF : ∀ (W : World) (a : Value) (l : List Int), Below w.heap.size w W → SlI W W.heap.size a l → Calls Tryz.prog 124 #[a, p1] W fun e w' => e = .returned (.bool (p l)) ∧ Below W.heap.size W w') :
  Calls Tryz.prog 123 #[u, .func (Fn.func 124) #[] #[p1]] w fun e w' => e = .returned (.int .i64 (gidx p ll)) ∧ Below w.heap.size w w' := by
 obtain ⟨A, c, rfl, _, _, hn, hx⟩ := hu.open_
 clear hu
 have HF := Lib.hid hF
 clear hF
 go_enter Tryz.func123, Tryz.ntmps123
 go_wp2
 go_loopw [8] (fun i wr => ∃ k : Nat, k ≤ ll.length ∧ i = .int .i64 k ∧ Below w.heap.size w wr ∧ Hid (∀ y ∈ ll.take k, p y = false)) (fun i _ => ll.length - (intOf i).toNat)
 case atStart => exact ⟨0, Nat.zero_le _, rfl, Below.refl _ _, by intro y hy; simp at hy⟩
 case round =>
  obtain ⟨k, hk, rfl, hbel, hno⟩ := hrel
  by_cases hlt : k < ll.length
  ·obtain ⟨b, o, l, A', c', rfl, hb, HX, c1, hl⟩ := SlII.at_ hx hlt
   have d1 := bcell hbel hb c1
   have HC := HF.out wr _ l hbel (SlI.more hbel.size (SlI.below hbel hl))
   clear hx c1 hl
   obtain ⟨B, hB⟩ : ∃ B, p l = B := ⟨_, rfl⟩
   rw [hB] at HC
   have HC := Lib.hid HC
   have HB := Lib.hid hB
   clear hB
   cases B
   ·go_wp2_with fail
    refine (unhide HC).mono ?_; rintro e w1 ⟨rfl, hb1⟩
    go_wp2
    go_roundw
    case rel =>
     refine ⟨k + 1, by omega, by go_num, hbel.trans (hb1.mono hbel.size), fun y hy => ?_⟩
     rw [take_snoc HX.out, List.mem_append, List.mem_singleton] at hy
     rcases hy with hy | rfl
     ·exact hno.out y hy
     ·exact HB.out
    case measure => simp [intOf]; omega
   ·have hfin := Lib.hid (gidx_some HX.out HB.out hno.out)
    go_wp2_with fail
    refine (unhide HC).mono ?_; rintro e w1 ⟨rfl, hb1⟩
    go_wp2
    go_ret
    exact ⟨by rw [hfin.out]; rfl, hbel.trans (hb1.mono hbel.size)⟩
  ·go_wp2
   go_ret
   have h1 := hno.out
   rw [List.take_of_length_le (by omega)] at h1
   exact ⟨by rw [gidx_none h1]; rfl, hbel⟩
set_option maxHeartbeats 400000 in
theorem rootEq_any (g : Nat) (a xv : Value) (l x : List Int) (W : World) (ha : SlI W W.heap.size a l) (hc : W.cell? ⟨g, 0, none⟩ = some xv) (hx : SlI W W.heap.size xv x) :
  Calls Tryz.prog 124 #[a, .pointer (some ⟨g, 0, none⟩)] W fun e w' => e = .returned (.bool (decide (l = x))) ∧ Below W.heap.size W w' := by
 have hE : Calls Tryz.prog 125 #[a, xv] W fun e w' => e = .returned (.bool (decide (l = x))) ∧ Below W.heap.size W w' := slEqual_any _ _ l x W ha hx
 obtain ⟨A, c, rfl, _⟩ := ha.open_
 obtain ⟨C, d, rfl, _⟩ := hx.open_
 clear ha hx
 obtain ⟨B, hB⟩ : ∃ B, decide (l = x) = B := ⟨_, rfl⟩
 rw [hB] at hE ⊢
 clear hB
 go_enter Tryz.func124, Tryz.ntmps124
 go_wp2_with fail
 refine hE.mono ?_; rintro e w1 ⟨rfl, hb1⟩
 clear hE
 go_wp2
 go_ret
 exact ⟨rfl, hb1⟩
end Go.Proofs.YtcmlflppndfdcaaGreat
namespace Go.Proofs.YtcmlflppndfdcaaGreat
open Go.RowKit
set_option maxHeartbeats 1600000 in
set_option maxRecDepth 100000 in
theorem l9Fit_yes (ua ub : Value) (x y : Rp) (w0 : World) (ha : RpR w0 w0.heap.size ua x) (hb : RpR w0 w0.heap.size ub y) (hx : isRep x = true) (hy : isRep y = true) (hp : x.p = y.p) (hq : x.q = y.q) :
  Calls Tryz.prog 118 #[ua, ub] w0 fun e w' => e = .returned (.bool true) ∧ Below w0.heap.size w0 w' := by
 have ha' := ha
 have hb' := hb
 obtain ⟨A, a, C, c, Ea, ea, Ha, ha_, rfl, hqa, _, _, _, _, _⟩ := ha.open_
 obtain ⟨A2, a2, C2, c2, Eb, eb, Hb, hb_, rfl, hqb, _, _, _, _, _⟩ := hb.open_
 clear ha hb
 obtain ⟨W, hW⟩ : ∃ W, W = (w0.alloc (.cells #[.int .i64 x.p, .int .i64 x.q.v, .slice A x.q.f.length a, .slice C x.q.t.length c, .slice Ea x.d.length ea, .slice Ha x.m.length ha_] 32)).alloc (.cells #[.int .i64 y.p, .int .i64 y.q.v, .slice A2 y.q.f.length a2, .slice C2 y.q.t.length c2, .slice Eb y.d.length eb, .slice Hb y.m.length hb_] 32) := ⟨_, rfl⟩
 have g0 : Below w0.heap.size w0 W := by rw [hW]; exact ((Below.refl _ _).alloc (Nat.le_refl _) _).alloc (by simp) _
 have k1 : Blk W w0.heap.size 32 #[.int .i64 x.p, .int .i64 x.q.v, .slice A x.q.f.length a, .slice C x.q.t.length c, .slice Ea x.d.length ea, .slice Ha x.m.length ha_] := by rw [hW]; exact (Blk.new _ _ _).alloc _
 have k2 : Blk W (w0.heap.size + 1) 32 #[.int .i64 y.p, .int .i64 y.q.v, .slice A2 y.q.f.length a2, .slice C2 y.q.t.length c2, .slice Eb y.d.length eb, .slice Hb y.m.length hb_] := by
  rw [hW]
  have := Blk.new (w0.alloc (.cells #[.int .i64 x.p, .int .i64 x.q.v, .slice A x.q.f.length a, .slice C x.q.t.length c, .slice Ea x.d.length ea, .slice Ha x.m.length ha_] 32)) 32 #[.int .i64 y.p, .int .i64 y.q.v, .slice A2 y.q.f.length a2, .slice C2 y.q.t.length c2, .slice Eb y.d.length eb, .slice Hb y.m.length hb_]
  simpa only [World.size_alloc] using this
 have HXA := Lib.hid (RpR.next g0 ha')
 have HXB := Lib.hid (RpR.next g0 hb')
 have HQA := Lib.hid (QvR.next g0 hqa)
 have HQB := Lib.hid (QvR.next g0 hqb)
 have HX := Lib.hid hx
 have HY := Lib.hid hy
 have HQ := Lib.hid (show decide (x.q = y.q) = true by simpa using hq)
 have e1 : (x.p == y.p) = true := by simpa using hp
 clear ha' hb' hqa hqb hx hy hq hp
 go_enter Tryz.func118, Tryz.ntmps118
 go_wp2_with fail
 rw [← hW]; clear hW
 refine (specIsRep_any _ x _ HXA.out).mono ?_; rintro e w1 ⟨rfl, hb1⟩
 rw [HX.out]
 have gW := hb1
 replace g0 := bthen g0 hb1
 replace k1 := k1.call hb1
 replace c0 := k1.cell' (i := 0) rfl
 replace c1 := k1.cell' (i := 1) rfl
 replace c2 := k1.cell' (i := 2) rfl
 replace c3 := k1.cell' (i := 3) rfl
 replace c4 := k1.cell' (i := 4) rfl
 replace c5 := k1.cell' (i := 5) rfl
 replace k2 := k2.call hb1
 replace d0 := k2.cell' (i := 0) rfl
 replace d1 := k2.cell' (i := 1) rfl
 replace d2 := k2.cell' (i := 2) rfl
 replace d3 := k2.cell' (i := 3) rfl
 replace d4 := k2.cell' (i := 4) rfl
 replace d5 := k2.cell' (i := 5) rfl
 go_wp2_with fail
 refine (specIsRep_any _ y _ (RpR.next gW HXB.out)).mono ?_; rintro e w2 ⟨rfl, hb2⟩
 rw [HY.out]
 have gW2 := gW.trans (hb2.mono gW.size)
 replace g0 := bthen g0 hb2
 replace k1 := k1.call hb2
 replace c0 := k1.cell' (i := 0) rfl
 replace c1 := k1.cell' (i := 1) rfl
 replace c2 := k1.cell' (i := 2) rfl
 replace c3 := k1.cell' (i := 3) rfl
 replace c4 := k1.cell' (i := 4) rfl
 replace c5 := k1.cell' (i := 5) rfl
 replace k2 := k2.call hb2
 replace d0 := k2.cell' (i := 0) rfl
 replace d1 := k2.cell' (i := 1) rfl
 replace d2 := k2.cell' (i := 2) rfl
 replace d3 := k2.cell' (i := 3) rfl
 replace d4 := k2.cell' (i := 4) rfl
 replace d5 := k2.cell' (i := 5) rfl
 go_wp2_with fail
 refine (specEqualQuivers_any _ _ x.q y.q _ (QvR.next gW2 HQA.out) (QvR.next gW2 HQB.out)).mono ?_; rintro e w3 ⟨rfl, hb3⟩
 rw [HQ.out]
 replace g0 := bthen g0 hb3
 clear k1 k2
 go_wp2
 go_ret
 exact ⟨rfl, g0⟩
end Go.Proofs.YtcmlflppndfdcaaGreat
namespace Go.Proofs.YtcmlflppndfdcaaGreat
open Go.RowKit
def KeepT (lo hi : Nat) (w w' : World) : Prop := ∀ (T : TypeId) (sz : Nat) (v : Value) (n : Nat) (cs : List Value), 3 ≠ T → RowO T sz w lo hi v n cs → RowO T sz w' lo hi v n cs
theorem KeepT.of_below {lo hi : Nat} {w w' : World} (hb : Below w.heap.size w w') : KeepT lo hi w w' := fun _ _ _ _ _ _ h => h.below hb
theorem KeepT.of_grown {lo hi base : Nat} {w w' : World} {u : Value} {l : List Int} (ho : OwnI w base u l) (hg : w.grownBy w' u.ownBlock) : KeepT lo hi w w' := fun _ _ _ _ _ ht h => h.grown ht ho hg
theorem KeepT.trans {lo hi : Nat} {a b c : World} (h : KeepT lo hi a b) (k : KeepT lo hi b c) : KeepT lo hi a c := fun T sz v n cs ht hr => k T sz v n cs ht (h T sz v n cs ht hr)
set_option maxHeartbeats 400000 in
theorem markQuiver_fam (a b : Value) (q : Qv) (L1 : List (Value × List Int)) (k : Int) (lo hi : Nat) (w : World) (hF : Fam w lo hi ([(a, q.f), (b, q.t)] ++ L1)) (hh : hi ≤ w.heap.size) (h0 : 0 ≤ k) (h1 : k ≤ 1125899906842624) :
  Calls Tryz.prog 19 #[.agg #[.int .i64 q.v, a, b], .int .i64 k] w fun e w' => e = .returned (.int .i64 (k + q.size)) ∧ Fam w' lo hi ([(a, mkI k q.f.length), (b, mkI (k + q.f.length) q.t.length)] ++ L1) ∧ Chg lo hi w w' ∧ KeepT lo hi w w' := by
 have fa : OwnI w lo a q.f := (hF.1 (a, q.f) (by simp)).1
 have fb : OwnI w lo b q.t := (hF.1 (b, q.t) (by simp)).1
 obtain ⟨A, c, rfl, _, _⟩ := fa.form
 obtain ⟨C, d, rfl, _, _⟩ := fb.form
 have la := fa.2.1
 have lb := fb.2.1
 have g0 := below_alloc w (.cells #[.int .i64 q.v, .slice A q.f.length c, .slice C q.t.length d] 29)
 have hF0 := hF.below g0
 go_enter Tryz.func19, Tryz.ntmps19
 go_wp2_with fail
 have fa0 : IntsO _ lo hi (.slice A q.f.length c) q.f := hF0.1 (_, q.f) (by simp)
 refine (markIntS_any _ _ _ lo _ fa0.1 h0 (by omega)).mono ?_; rintro e w1 ⟨rfl, ho1, hg1⟩
 have hF1 := Fam.turn (L1 := []) hF0 ho1 hg1
 have hc1 := chg_of_grown fa0 hg1
 have hk1 := KeepT.of_grown (lo := lo) (hi := hi) fa0.1 hg1
 have cB := ((Blk.new w 29 #[.int .i64 q.v, .slice A q.f.length c, .slice C q.t.length d]).chg hc1 (.inr hh)).cell' (i := 2) rfl
 have fb1 : IntsO w1 lo hi (.slice C q.t.length d) q.t := hF1.1 (_, q.t) (by simp)
 clear hF hF0 ho1 hg1 fa fb fa0
 go_wp2_with fail
 refine (markIntS_any _ _ _ lo _ fb1.1 (by omega) (by omega)).mono ?_; rintro e w2 ⟨rfl, ho2, hg2⟩
 have hF2 := Fam.turn (L1 := [(_, mkI k q.f.length)]) hF1 ho2 hg2
 have hc2 := chg_of_grown fb1 hg2
 have hk2 := KeepT.of_grown (lo := lo) (hi := hi) fb1.1 hg2
 clear ho2 hg2 fb1 hF1
 go_wp2
 go_ret
 refine ⟨?_, hF2, (Chg.of_below g0).trans (hc1.trans hc2), (KeepT.of_below g0).trans (hk1.trans hk2)⟩
 have e : k + (q.size : Int) = k + q.f.length + q.t.length := by simp only [Qv.size]; omega
 rw [e]; rfl
set_option maxHeartbeats 800000 in
theorem rep_mark (v : Value) (x : Rp) (k : Int) (lo hi : Nat) (w : World) (hv : RepO w lo hi v x) (hh : hi ≤ w.heap.size) (h0 : 0 ≤ k) (h1 : k ≤ 1099511627776) (hsz : x.size ≤ 1048576) :
  Calls Tryz.prog 10 #[v, .int .i64 k] w fun e w' => e = .returned (.int .i64 (k + x.marks)) ∧ RepO w' lo hi v (RepO.mk k x) ∧ Chg lo hi w w' := by
 obtain ⟨f, t, d, m, vs, rfl, ho, hl, hF, hI, _⟩ := hv
 have HL := Lib.hid hl
 clear hl
 have ff : OwnI w lo f x.q.f := (hF.1 (f, x.q.f) (by simp)).1
 have ft : OwnI w lo t x.q.t := (hF.1 (t, x.q.t) (by simp)).1
 have fd : OwnI w lo d x.d := (hF.1 (d, x.d) (by simp)).1
 obtain ⟨A, a, rfl, _, _⟩ := ff.form
 obtain ⟨C, c, rfl, _, _⟩ := ft.form
 obtain ⟨E, e, rfl, _, _⟩ := fd.form
 obtain ⟨H, h, rfl, _, _⟩ := ho.form
 have ht : totM x.m ≤ 4194304 := by rw [totM_eq]; simp only [Rp.size, szM] at hsz; omega
 have hqs : x.q.size ≤ 1048576 := by simp only [Rp.size] at hsz; omega
 have hds : x.d.length ≤ 1048576 := by simp only [Rp.size] at hsz; omega
 clear ff ft fd
 obtain ⟨W, hW⟩ : ∃ W, W = w.alloc (.cells #[.int .i64 x.p, .int .i64 x.q.v, .slice A x.q.f.length a, .slice C x.q.t.length c, .slice E x.d.length e, .slice H x.m.length h] 32) := ⟨_, rfl⟩
 have g0 : Below w.heap.size w W := by rw [hW]; exact below_alloc _ _
 have kB : Blk W w.heap.size 32 #[.int .i64 x.p, .int .i64 x.q.v, .slice A x.q.f.length a, .slice C x.q.t.length c, .slice E x.d.length e, .slice H x.m.length h] := by rw [hW]; exact Blk.new _ _ _
 replace hF := hF.below g0
 replace ho := ho.below g0
 have hs0 := g0.size
 have HF := Lib.hid hF
 clear hF
 go_enter Tryz.func10, Tryz.ntmps10
 go_wp2_with fail
 rw [← hW]; clear hW
 refine (markQuiver_fam _ _ x.q ([(.slice E x.d.length e, x.d)] ++ vs.zip (x.m.map Mx.a)) _ lo hi _ HF.out (by omega) h0 (by omega)).mono ?_; rintro e w1 ⟨rfl, hF1, hc1, hk1⟩
 have ho1 : OutM w1 lo hi (.slice H x.m.length h) vs x.m := hk1 _ _ _ _ _ (by decide) ho
 have kB1 := kB.chg hc1 (.inr hh)
 have c4 := kB1.cell' (i := 4) rfl
 have hd : IntsO w1 lo hi (.slice E x.d.length e) x.d := hF1.1 (_, x.d) (by simp)
 clear ho kB hk1
 have HF1 := Lib.hid hF1
 clear hF1
 go_wp2_with fail
 refine (markIntS_any _ _ _ lo _ hd.1 (by omega) (by omega)).mono ?_; rintro e w2 ⟨rfl, ho2, hg2⟩
 have hF2 := Fam.turn (L1 := [(_, mkI k x.q.f.length), (_, mkI (k + x.q.f.length) x.q.t.length)]) HF1.out ho2 hg2
 have hc2 := chg_of_grown hd hg2
 have hO2 : OutM w2 lo hi (.slice H x.m.length h) vs x.m := ho1.grown (by decide) hd.1 hg2
 have kB2 := kB1.chg hc2 (.inr hh)
 have c5 := kB2.cell' (i := 5) rfl
 have HF2 := Lib.hid hF2
 clear ho1 kB1 c4 hd HF1 ho2 hg2 hF2
 go_wp2_with fail
 refine (markMatrixS_fam _ vs x.m [(.slice A x.q.f.length a, mkI k x.q.f.length), (.slice C x.q.t.length c, mkI (k + x.q.f.length) x.q.t.length), (.slice E x.d.length e, mkI (k + x.q.size) x.d.length)] _ lo hi _ hO2 HL.out HF2.out (by omega) (by omega) (by omega)).mono ?_; rintro e w3 ⟨rfl, ho3, hF3, hc3⟩
 have hI3 : ∀ m ∈ mkMS (k + x.q.size + x.d.length) x.m, I64 m.r ∧ I64 m.c := by
  intro m hm
  obtain ⟨j, hj⟩ := List.getElem?_of_mem hm
  have hjl := lt_of_some hj
  rw [mkMS_length] at hjl
  have := mkMS_get x.m (k + x.q.size + x.d.length) j _ (List.getElem?_eq_getElem hjl)
  rw [hj] at this
  injection this with this
  subst this
  have hle := totM_take_le x.m j
  simp only
  exact ⟨⟨by omega, by omega⟩, ⟨by omega, by omega⟩⟩
 have HI3 := Lib.hid hI3
 have HO3 := Lib.hid ho3
 have HF3 := Lib.hid hF3
 clear hI3 ho3 hF3 HF2 hO2 HF
 have hL3 := Lib.hid (show vs.length = (mkMS (k + x.q.size + x.d.length) x.m).length by rw [mkMS_length]; exact HL.out)
 go_wp2
 go_ret
 refine ⟨?_, ⟨_, _, _, _, vs, ?_, HO3.out, hL3.out, HF3.out, hI, HI3.out⟩, (Chg.of_below g0).trans (hc1.trans (hc2.trans hc3))⟩
 ·have e : k + (x.marks : Int) = k + x.q.size + x.d.length + totM x.m := by simp only [Rp.marks]; omega
  rw [e]; rfl
 ·simp [RepO.mk, QuivO.mk, mkMS_length, mkI_length]
set_option maxHeartbeats 800000 in
theorem rep_held (v : Value) (x : Rp) (k : Int) (w : World) (hv : RpR w w.heap.size v (RepO.mk k x)) (h0 : 0 ≤ k) (h1 : k ≤ 1099511627776) (hsz : x.size ≤ 1048576) :
  Calls Tryz.prog 11 #[v, .int .i64 k] w fun e w' => e = .returned (.int .i64 (k + x.marks)) ∧ Below w.heap.size w w' := by
 obtain ⟨A, a, C, c, E, e, H, h, rfl, hq, hd, hm, _, _, _⟩ := hv.open_
 clear hv
 have ht : totM x.m ≤ 4194304 := by rw [totM_eq]; simp only [Rp.size, szM] at hsz; omega
 have hqs : x.q.size ≤ 1048576 := by simp only [Rp.size] at hsz; omega
 have hds : x.d.length ≤ 1048576 := by simp only [Rp.size] at hsz; omega
 obtain ⟨W, hW⟩ : ∃ W, W = w.alloc (.cells #[.int .i64 (RepO.mk k x).p, .int .i64 (RepO.mk k x).q.v, .slice A (RepO.mk k x).q.f.length a, .slice C (RepO.mk k x).q.t.length c, .slice E (RepO.mk k x).d.length e, .slice H (RepO.mk k x).m.length h] 32) := ⟨_, rfl⟩
 have g0 : Below w.heap.size w W := by rw [hW]; exact below_alloc _ _
 have kB : Blk W w.heap.size 32 #[.int .i64 (RepO.mk k x).p, .int .i64 (RepO.mk k x).q.v, .slice A (RepO.mk k x).q.f.length a, .slice C (RepO.mk k x).q.t.length c, .slice E (RepO.mk k x).d.length e, .slice H (RepO.mk k x).m.length h] := by rw [hW]; exact Blk.new _ _ _
 have hq' : QvR W W.heap.size (.agg #[.int .i64 (RepO.mk k x).q.v, .slice A (RepO.mk k x).q.f.length a, .slice C (RepO.mk k x).q.t.length c]) (QuivO.mk k x.q) := QvR.next g0 hq
 have hd' : SlI W W.heap.size (.slice E (RepO.mk k x).d.length e) (mkI (k + x.q.size) x.d.length) := SlI.next g0 hd
 have hm' : SlM W W.heap.size (.slice H (RepO.mk k x).m.length h) (mkMS (k + x.q.size + x.d.length) x.m) := SlM.next g0 hm
 clear hq hd hm
 generalize RepO.mk k x = y at *
 have n1 : ¬ (k + (x.q.size : Int) < 0) := by omega
 have n2 : ¬ (k + (x.q.size : Int) + x.d.length < 0) := by omega
 have n3 : ¬ (k + (x.q.size : Int) + x.d.length + totM x.m < 0) := by omega
 go_enter Tryz.func11, Tryz.ntmps11
 go_wp2_with fail
 rw [← hW]; clear hW
 refine (quiv_held _ _ _ _ hq' h0 (by omega)).mono ?_; rintro e w1 ⟨rfl, hb1⟩
 clear hq'
 replace g0 := bthen g0 hb1
 replace hd' := SlI.next hb1 hd'
 replace hm' := SlM.next hb1 hm'
 replace kB := kB.call hb1
 replace c0 := kB.cell' (i := 0) rfl
 replace c1 := kB.cell' (i := 1) rfl
 replace c2 := kB.cell' (i := 2) rfl
 replace c3 := kB.cell' (i := 3) rfl
 replace c4 := kB.cell' (i := 4) rfl
 replace c5 := kB.cell' (i := 5) rfl
 clear hb1
 go_wp2_with fail
 refine (heldIntS_any _ _ (k + x.q.size) _ _ hd' (by omega) (by omega)).mono ?_; rintro e w_1 ⟨rfl, hb_1⟩
 replace g0 := bthen g0 hb_1
 replace hd' := SlI.next hb_1 hd'
 replace hm' := SlM.next hb_1 hm'
 replace kB := kB.call hb_1
 replace c0 := kB.cell' (i := 0) rfl
 replace c1 := kB.cell' (i := 1) rfl
 replace c2 := kB.cell' (i := 2) rfl
 replace c3 := kB.cell' (i := 3) rfl
 replace c4 := kB.cell' (i := 4) rfl
 replace c5 := kB.cell' (i := 5) rfl
 go_wp2_with fail
 refine (heldMatrixS_any _ x.m (k + x.q.size + x.d.length) _ hm' (by omega) (by omega) (by omega)).mono ?_; rintro e w_2 ⟨rfl, hb_2⟩
 replace g0 := bthen g0 hb_2
 replace hd' := SlI.next hb_2 hd'
 replace hm' := SlM.next hb_2 hm'
 replace kB := kB.call hb_2
 replace c0 := kB.cell' (i := 0) rfl
 replace c1 := kB.cell' (i := 1) rfl
 replace c2 := kB.cell' (i := 2) rfl
 replace c3 := kB.cell' (i := 3) rfl
 replace c4 := kB.cell' (i := 4) rfl
 replace c5 := kB.cell' (i := 5) rfl
 clear hd' hm' kB
 go_wp2
 go_ret
 have e : k + (x.marks : Int) = k + x.q.size + x.d.length + totM x.m := by simp only [Rp.marks]; omega
 exact ⟨by rw [e]; rfl, g0⟩
end Go.Proofs.YtcmlflppndfdcaaGreat
namespace Go.Proofs.YtcmlflppndfdcaaGreat
open Go.RowKit
theorem seatEnter : Tryz.prog.mayEnter = true := by kernel_rfl
theorem seatLifts : (false == Tryz.prog.liftsFinal) = true := by kernel_rfl
theorem seatMake : (Tryz.prog.make == some .cut) = true := by kernel_rfl
theorem band {a b : Bool} (h : a = true) (k : b = true) : (a && b) = true := by rw [h, k]; rfl
end Go.Proofs.YtcmlflppndfdcaaGreat
