/- FnExactReflectSink: for every argument the program's function returns what the reference's returns. Part 10 of 13 of the proof: RrU, KerF, KerI, KerI2, InOut2, InOut3. No condition. -/
import Derived.Test.YtcmlflppndfdcaaBReflectSink9
/- The reduced form of a matrix is told by its kernel. Plain. -/
namespace Go.Proofs.Ytcmlflppndfdcaa
set_option linter.unusedVariables false
set_option linter.unusedSimpArgs false
open Go.RowKit

/-- a step of the elimination leaves the columns before it -/
theorem rd_keep {p : Int} {r c k : Nat} {g : Nat → Nat → Int} {ps : List Int} (hp2 : 2 ≤ p) (hg : InF p r c g) (hk : k < c) (h : Rd r g ps k) (ht : nzF g k ps.length r < r) (hn : ps.length ≤ r) : ∀ i b, i < r → b < k → rdF p r g ps.length k i b = g i b := by
  intro i b hi hb
  have hnt := (nzF_le (f := g) (k := k) hn).1
  have h01 : (0 : Int) % p = 0 := Int.zero_emod p
  generalize hT : nzF g k ps.length r = t at *
  generalize hN : ps.length = n at *
  have hlow : ∀ i b, n ≤ i → i < r → b < k → g i b = 0 := fun i b h1 h2 h3 => h.low i b (by omega) h2 h3
  have sw_lo : ∀ i, n ≤ i → i < r → swA n t g i b = 0 := by
    intro i h2 h3
    simp only [swA]
    split
    · exact hlow t b hnt ht hb
    · split
      · exact hlow _ b (Nat.le_refl _) (by omega) hb
      · exact hlow i b h2 h3 hb
  have sc_lo : ∀ s i, n ≤ i → i < r → scA p n s (swA n t g) i b = 0 := by
    intro s i h2 h3
    simp only [scA]
    split
    · rw [sw_lo i h2 h3, Int.zero_mul, h01]
    · exact sw_lo i h2 h3
  simp only [rdF, hT, elA]
  rcases Nat.lt_or_ge i n with h1 | h1
  · have e : scA p n (invP p (swA n t g n k)) (swA n t g) i b = g i b := by
      simp only [scA, swA]
      rw [if_neg (by omega), if_neg (by omega), if_neg (by omega)]
    rw [if_pos (by omega), e, sc_lo _ n (Nat.le_refl _) (by omega), Int.mul_zero, Int.add_zero]
    have := hg i b hi (by omega)
    exact Int.emod_eq_of_lt (by omega) (by omega)
  · rw [sc_lo _ i h1 hi, hlow i b h1 hi hb, sc_lo _ n (Nat.le_refl _) (by omega), Int.mul_zero, Int.add_zero, h01, ite_self]
theorem rdTo_step {p : Int} {r : Nat} {f : Nat → Nat → Int} {k : Nat} : rdTo p r f (k + 1) = if nzF (rdTo p r f k).1 k (rdTo p r f k).2.length r < r then (rdF p r (rdTo p r f k).1 (rdTo p r f k).2.length k, (rdTo p r f k).2 ++ [(k : Int)]) else rdTo p r f k := rdTo_succ p r f k
/-- the columns before a step stay -/
theorem rdTo_keep {p : Int} {r c : Nat} {f : Nat → Nat → Int} (hp : isFld p = true) (hp2 : 2 ≤ p) (hf : InF p r c f) {k : Nat} : ∀ m, k + m ≤ c → ∀ i b, i < r → b < k → (rdTo p r f (k + m)).1 i b = (rdTo p r f k).1 i b
  | 0, _, _, _, _, _ => rfl
  | m + 1, hm, i, b, hi, hb => by
    have ih := rdTo_keep hp hp2 hf (k := k) m (by omega) i b hi hb
    rw [← Nat.add_assoc, rdTo_step]
    split
    · rename_i h1
      rw [← ih]
      exact rd_keep hp2 (inF_to hp2 hf _) (by omega) (rd_to hp hp2 hf _ (by omega)) h1 (rdTo_len p r f _).1 i b hi (by omega)
    · exact ih
/-- rows begin with their leading ones -/
theorem rdTo_lead {p : Int} {r c : Nat} {f : Nat → Nat → Int} (hp : isFld p = true) (hp2 : 2 ≤ p) (hf : InF p r c f) : ∀ k, k ≤ c → ∀ (j b : Nat), (rdTo p r f k).2[j]? = some (b : Int) → ∀ t : Nat, t < b → (rdTo p r f k).1 j t = 0
  | 0, _, j, b, h, _, _ => by simp [rdTo] at h
  | k + 1, hk, j, b, h, t, ht => by
    have hl := (rdTo_len p r f k).1
    rw [rdTo_step] at h ⊢
    split at h
    · rename_i h1
      rw [if_pos h1]
      have hrd := rd_to hp hp2 hf k (by omega)
      have hjr : j < r := by
        have := lt_of_some h
        have hn := (nzF_le (f := (rdTo p r f k).1) (k := k) hl).1
        simp only [List.length_append, List.length_singleton] at this
        omega
      rcases Nat.lt_or_ge j (rdTo p r f k).2.length with h2 | h2
      · rw [List.getElem?_append_left h2] at h
        have hb := (rdTo_mem p r f k b (List.mem_of_getElem? h)).2
        show rdF p r (rdTo p r f k).1 (rdTo p r f k).2.length k j t = 0
        rw [rd_keep hp2 (inF_to hp2 hf k) (by omega) hrd h1 hl j t hjr (by omega)]
        exact rdTo_lead hp hp2 hf k (by omega) j b h t ht
      · have hj : j = (rdTo p r f k).2.length := by
          have := lt_of_some h
          simp only [List.length_append, List.length_singleton] at this
          omega
        rw [List.getElem?_append_right h2, hj, Nat.sub_self] at h
        simp only [List.getElem?_cons_zero, Option.some.injEq] at h
        show rdF p r (rdTo p r f k).1 (rdTo p r f k).2.length k j t = 0
        rw [rd_keep hp2 (inF_to hp2 hf k) (by omega) hrd h1 hl j t hjr (by omega)]
        exact hrd.low j t (by omega) hjr (by omega)
    · rename_i h1
      rw [if_neg h1]
      exact rdTo_lead hp hp2 hf k (by omega) j b h t ht
theorem ker_zero {p : Int} {r m c : Nat} {f : Nat → Nat → Int} {x : Nat → Int} (hm : m ≤ c) (hx : ∀ t, m ≤ t → x t = 0) : Ker p r f c x ↔ Ker p r f m x := by
  have e : ∀ d i, sgF (fun t => f i t * x t) (m + d) = sgF (fun t => f i t * x t) m := by
    intro d i
    induction d with
    | zero => rfl
    | succ d ih => rw [← Nat.add_assoc, sgF, ih, hx _ (by omega), Int.mul_zero, Int.add_zero]
  obtain ⟨d, rfl⟩ := Nat.exists_eq_add_of_le hm
  exact forall_congr' fun i => by rw [e d i]
/-- equal kernels: equal in all beginnings -/
theorem ker_pre {p : Int} {r r' c : Nat} {f f' : Nat → Nat → Int} (h : ∀ x, Ker p r f c x ↔ Ker p r' f' c x) {m : Nat} (hm : m ≤ c) (x : Nat → Int) : Ker p r f m x ↔ Ker p r' f' m x := by
  have e : ∀ (r : Nat) (f : Nat → Nat → Int), Ker p r f m x ↔ Ker p r f m (fun t => if t < m then x t else 0) := fun r f => ker_k fun t ht => by rw [if_pos ht]
  rw [e r f, e r' f', ← ker_zero hm fun t ht => if_neg (by omega), ← ker_zero (r := r') (f := f') hm fun t ht => if_neg (by omega)]
  exact h _
theorem rng_eq {p a b : Int} (ha : 0 ≤ a ∧ a ≤ p - 1) (hb : 0 ≤ b ∧ b ≤ p - 1) (h : p ∣ a - b) : a = b := by
  have := Int.emod_emod_of_dvd
  have h1 : a % p = b % p := Int.emod_eq_emod_iff_emod_sub_eq_zero.2 (Int.emod_eq_zero_of_dvd h)
  rwa [Int.emod_eq_of_lt ha.1 (by omega), Int.emod_eq_of_lt hb.1 (by omega)] at h1
theorem rd_free {p : Int} {r r' c k : Nat} {g g' : Nat → Nat → Int} {ps : List Int} (hp2 : 2 ≤ p) (hg : InF p r c g) (hg' : InF p r' c g') (hk : k < c) (h : Rd r g ps k) (he : ∀ i, i < ps.length → ∀ b, b < k → g i b = g' i b) (h' : Rd r' g' ps k) (hr : ps.length ≤ r) (hr' : ps.length ≤ r')
    (hK : ∀ x, Ker p r g (k + 1) x → Ker p r' g' (k + 1) x) (hc : ∀ i, ps.length ≤ i → i < r → g i k = 0) : (∀ i, ps.length ≤ i → i < r' → g' i k = 0) ∧ ∀ i, i < ps.length → g i k = g' i k := by
  obtain ⟨x0, hx0⟩ := sol_at h hc
  have hin := hK (fun t => if t < k then x0 t else 1) fun i hi => by
    simp only [sgF, Nat.lt_irrefl, if_false, Int.mul_one]
    rw [sg_congr (b := fun t => g i t * x0 t) fun t ht => by rw [if_pos ht], hx0 i hi]
    exact ⟨0, by omega⟩
  have e : ∀ i, i < r' → p ∣ sgF (fun t => g' i t * x0 t) k + g' i k := fun i hi => by
    have := hin i hi
    simp only [sgF, Nat.lt_irrefl, if_false, Int.mul_one] at this
    rwa [sg_congr (b := fun t => g' i t * x0 t) fun t ht => by rw [if_pos ht]] at this
  constructor
  · intro i h1 h2
    have := e i h2
    rw [sg_congr (b := fun _ => 0) fun t ht => by rw [h'.low i t h1 h2 ht, Int.zero_mul], sg_0, Int.zero_add] at this
    have hb := hg' i k h2 hk
    exact rng_eq hb ⟨by omega, by omega⟩ (by rwa [Int.sub_zero])
  · intro i h1
    have := e i (by omega)
    rw [sg_congr (b := fun t => g i t * x0 t) fun t ht => by rw [he i h1 t ht], hx0 i (by omega)] at this
    exact (rng_eq (hg' i k (by omega) hk) (hg i k (by omega) hk) (by rwa [Int.add_comm, ← Int.sub_eq_add_neg] at this)).symm
/-- one kernel: one reduced form -/
theorem rd_uniq {p : Int} {r r' c : Nat} {f f' : Nat → Nat → Int} (hp : isFld p = true) (hp2 : 2 ≤ p) (hf : InF p r c f) (hf' : InF p r' c f') (hK : ∀ x, Ker p r f c x ↔ Ker p r' f' c x) :
    ∀ k, k ≤ c → (rdTo p r f k).2 = (rdTo p r' f' k).2 ∧ ∀ i, i < (rdTo p r f k).2.length → ∀ b, b < k → (rdTo p r f k).1 i b = (rdTo p r' f' k).1 i b
  | 0, _ => ⟨rfl, fun i hi => absurd hi (by simp [rdTo])⟩
  | k + 1, hk => by
    obtain ⟨ih1, ih2⟩ := rd_uniq hp hp2 hf hf' hK k (by omega)
    have g1 := inF_to hp2 hf k
    have g2 := inF_to hp2 hf' k
    have d1 := rd_to hp hp2 hf k (by omega)
    have d2 := rd_to hp hp2 hf' k (by omega)
    have l1 := (rdTo_len p r f k).1
    have l2 := (rdTo_len p r' f' k).1
    rw [← ih1] at d2 l2
    have hk1 : ∀ x, Ker p r (rdTo p r f k).1 (k + 1) x ↔ Ker p r' (rdTo p r' f' k).1 (k + 1) x := fun x => by
      rw [ker_to hp hp2 hf k (by omega), ker_to hp hp2 hf' k (by omega)]
      exact ker_pre hK hk x
    have hz : ∀ (r : Nat) (g : Nat → Nat → Int) (n : Nat), n ≤ r → (∀ i, n ≤ i → i < r → g i k = 0) → ¬ nzF g k n r < r := fun r g n hn h hlt => nzF_ne hn hlt (h _ (nzF_le hn).1 hlt)
    rw [rdTo_step, rdTo_step (f := f'), ← ih1]
    by_cases h1 : nzF (rdTo p r f k).1 k (rdTo p r f k).2.length r < r
    · have h2 : nzF (rdTo p r' f' k).1 k (rdTo p r f k).2.length r' < r' := by
        apply Classical.byContradiction
        intro h2
        have := (rd_free hp2 g2 g1 (by omega) d2 (fun i hi b hb => (ih2 i hi b hb).symm) d1 l2 l1 (fun x hx => (hk1 x).2 hx) fun i a b => nzF_0 h2 a b).1
        exact hz r _ _ l1 this h1
      rw [if_pos h1, if_pos h2]
      refine ⟨rfl, fun i hi b hb => ?_⟩
      simp only [List.length_append, List.length_singleton] at hi
      have n1 := (nzF_le (f := (rdTo p r f k).1) (k := k) l1).1
      have n2 := (nzF_le (f := (rdTo p r' f' k).1) (k := k) l2).1
      show rdF p r (rdTo p r f k).1 (rdTo p r f k).2.length k i b = rdF p r' (rdTo p r' f' k).1 (rdTo p r f k).2.length k i b
      rcases Nat.lt_or_ge b k with hbk | hbk
      · rw [rd_keep hp2 g1 (by omega) d1 h1 l1 i b (by omega) hbk, rd_keep hp2 g2 (by omega) d2 h2 l2 i b (by omega) hbk]
        rcases Nat.lt_or_ge i (rdTo p r f k).2.length with hin | hin
        · exact ih2 i hin b hbk
        · rw [d1.low i b hin (by omega) hbk, d2.low i b hin (by omega) hbk]
      · obtain rfl : b = k := by omega
        have s1 := rd_step hp hp2 g1 (by omega) d1 n1 h1 (nzF_ne l1 h1)
        have s2 := rd_step hp hp2 g2 (by omega) d2 n2 h2 (nzF_ne l2 h2)
        obtain ⟨b1, e1, _, u1⟩ := s1.pos (rdTo p r f b).2.length (by simp)
        obtain ⟨b2, e2, _, u2⟩ := s2.pos (rdTo p r f b).2.length (by simp)
        rw [List.getElem?_append_right (Nat.le_refl _), Nat.sub_self] at e1 e2
        simp only [List.getElem?_cons_zero, Option.some.injEq, Int.natCast_inj] at e1 e2
        subst e1
        subst e2
        have v1 := u1 i (by omega)
        have v2 := u2 i (by omega)
        simp only [rdF]
        rw [v1, v2]
    · have h2 : ¬ nzF (rdTo p r' f' k).1 k (rdTo p r f k).2.length r' < r' := by
        have := (rd_free hp2 g1 g2 (by omega) d1 ih2 d2 l1 l2 (fun x hx => (hk1 x).1 hx) fun i a b => nzF_0 h1 a b).1
        exact hz r' _ _ l2 this
      rw [if_neg h1, if_neg h2]
      refine ⟨ih1, fun i hi b hb => ?_⟩
      rcases Nat.lt_or_ge b k with hbk | hbk
      · exact ih2 i hi b hbk
      · obtain rfl : b = k := by omega
        exact (rd_free hp2 g1 g2 (by omega) d1 ih2 d2 l1 l2 (fun x hx => (hk1 x).1 hx) fun i a b => nzF_0 h1 a b).2 i hi
end Go.Proofs.Ytcmlflppndfdcaa

/- The basis of a kernel, plain. -/
namespace Go.Proofs.Ytcmlflppndfdcaa
set_option linter.unusedVariables false
set_option linter.unusedSimpArgs false
open Go.RowKit

/-- the vector for column k, with i rows met -/
def kvG (p : Int) (g : Nat → Nat → Int) (ps : List Int) (k : Nat) : Nat → Nat → Int
  | 0, t => if t = k then 1 else 0
  | i + 1, t => if (t : Int) = ps.getD i 0 then (- g i k) % p else kvG p g ps k i t
theorem kvG_rng {p : Int} (hp2 : 2 ≤ p) (g : Nat → Nat → Int) (ps : List Int) (k : Nat) : ∀ i t, 0 ≤ kvG p g ps k i t ∧ kvG p g ps k i t ≤ p - 1
  | 0, t => by simp only [kvG]; split <;> omega
  | i + 1, t => by
    simp only [kvG]
    split
    · exact emod_rng hp2
    · exact kvG_rng hp2 g ps k i t
theorem kvG_put {p : Int} {g : Nat → Nat → Int} {ps : List Int} {k i b c : Nat} (hb : ps[i]? = some (b : Int)) : (rowF c (kvG p g ps k i)).set b ((- g i k) % p) = rowF c (kvG p g ps k (i + 1)) := by
  rw [rowF_set]
  apply rowF_congr
  intro a _
  simp only [kvG, List.getD_eq_getElem?_getD, hb, Option.getD_some, Int.natCast_inj]
theorem kvG_0 (p : Int) (g : Nat → Nat → Int) (ps : List Int) (k c : Nat) : (List.replicate c (0 : Int)).set k 1 = rowF c (kvG p g ps k 0) := by
  have : List.replicate c (0 : Int) = rowF c fun _ => 0 := by
    symm
    rw [List.eq_replicate_iff]
    refine ⟨rowF_length _ _, fun x hx => ?_⟩
    simp only [rowF, List.mem_map] at hx
    obtain ⟨_, _, rfl⟩ := hx
    rfl
  rw [this, rowF_set]
  rfl
theorem neg_mod {p x : Int} (hp : 2 ≤ p) (h : 0 ≤ x ∧ x ≤ p - 1) : (p - x).tmod p = (- x) % p ∧ I64 (p - x) → True := fun _ => trivial
theorem sub_tmod {p x : Int} (hp : 2 ≤ p) (h : 0 ≤ x ∧ x ≤ p - 1) : (p - x).tmod p = (- x) % p := by
  rw [Int.tmod_eq_emod_of_nonneg (by omega), show p - x = -x + p * 1 by omega, Int.add_mul_emod_self_left]
def kerM (p : Int) (c : Nat) (g : Nat → Nat → Int) (ps L : List Int) : List (List Int) := L.map fun k => rowF c (kvG p g ps k.toNat ps.length)
theorem kerM_snoc (p : Int) (c : Nat) (g : Nat → Nat → Int) (ps L : List Int) (k : Nat) : kerM p c g ps (L ++ [(k : Int)]) = kerM p c g ps L ++ [rowF c (kvG p g ps k ps.length)] := by simp [kerM]
theorem kerM_length (p : Int) (c : Nat) (g : Nat → Nat → Int) (ps L : List Int) : (kerM p c g ps L).length = L.length := by simp [kerM]
/-- the basis of the kernel -/
def kerR (p : Int) (r c : Nat) (f : Nat → Nat → Int) : List (List Int) := kerM p c (rdTo p r f c).1 (rdTo p r f c).2 (freeV (rdTo p r f c).2 c)
theorem freeV_at {l : List Int} {k j : Nat} {x : Int} (h : (freeV l k)[j]? = some x) : ∃ n : Nat, x = (n : Int) ∧ n < k ∧ x ∉ l := by
  have := List.mem_of_getElem? h
  simp only [freeV, List.mem_filter, List.mem_map, List.mem_range, Bool.not_eq_true', decide_eq_false_iff_not] at this
  obtain ⟨⟨n, hn, rfl⟩, h2⟩ := this
  exact ⟨n, rfl, hn, h2⟩
end Go.Proofs.Ytcmlflppndfdcaa

/- The program's freeColumns and kernel. -/
namespace Go.Proofs.Ytcmlflppndfdcaa
set_option linter.unusedVariables false
set_option linter.unusedSimpArgs false
open Go.RowKit

set_option maxHeartbeats 1600000 in
theorem freeColumns_any (c : Nat) (u : Value) (l : List Int) (w0 : World) (hc : c ≤ 1000) (hu : SlI w0 w0.heap.size u l) :
    Calls Try.prog 116 #[.int .i64 c, u] w0 fun e w' => ∃ v, e = .returned v ∧ IntsO w' w0.heap.size w'.heap.size v (freeV l c) ∧ Below w0.heap.size w0 w' := by
  have hu1 := hu
  obtain ⟨A, ac, rfl, _⟩ := hu1
  have HU := Lib.hid hu
  clear hu
  obtain ⟨ll, hll⟩ : ∃ n, l.length = n := ⟨_, rfl⟩
  rw [hll] at HU ⊢
  clear hll
  go_enter Try.func116, Try.ntmps116
  go_wp2
  go_loopw [5, 8] (fun out i wr => ∃ k : Nat, k ≤ c ∧ i = .int .i64 k ∧ OwnI wr w0.heap.size out (freeV l k) ∧ Below w0.heap.size w0 wr) (fun _ i _ => c - (intOf i).toNat)
  case atStart => exact ⟨0, Nat.zero_le _, rfl, OwnI.nil _ _, Below.refl _ _⟩
  case round =>
    obtain ⟨k, hk, rfl, ho, hb⟩ := hrel
    have s0 := hb.size
    by_cases hlt : k < c
    · obtain ⟨OA, oc, rfl, _, _⟩ := ho.form
      go_wp2_with fail
      refine (contains_any _ l k _ (SlI.more s0 (SlI.below hb HU.out))).mono ?_; rintro e w1 ⟨rfl, hww⟩
      replace hww := hww.symm
      subst hww
      rcases hd : decide ((k : Int) ∈ l) with _ | _
      · have HN := Lib.hid (freeV_yes hd)
        have hfl := freeV_length l k
        have HO := Lib.hid ho
        have HB := Lib.hid hb
        have hlo2 := ho.lt
        clear hd ho hb
        (go_wp2_with (at_builtin; refine Hold.stop ?_)); unfold Hold
        obtain ⟨X, hX⟩ : ∃ X, X = wr.alloc (.cells #[.int .i64 (k : Int)] 3) := ⟨_, rfl⟩
        have gn : Below wr.heap.size wr X := by rw [hX]; exact below_alloc _ _
        have h1x : SlI X X.heap.size (.slice (some ⟨wr.heap.size, 0, none⟩) 1 1) [(k : Int)] := by rw [hX]; exact SlI.one _ _ _ (by simp only [I64]; omega)
        have ho3 := (HO.out).below gn
        have gns := gn.size
        rw [← hX]
        clear hX
        refine wpList_appI rfl (.tmp 15) (.tmp 17) rfl w0.heap.size X.heap.size _ _ rfl ho3 _ 1 1 [(k : Int)] rfl rfl h1x (by simp; omega) (by omega) ?_
        intro v' w' h1 h2 h3
        rw [← HN.out] at h1
        have hbX := below_grown h2 (B := w0.heap.size) (fun k hk => (hlo2 k hk).1) (by omega)
        have H1 := Lib.hid h1
        have G1 := Lib.hid ((HB.out).trans ((gn.mono s0).trans hbX))
        clear h1 h2 h3 hbX gn ho3 h1x
        go_wp2
        go_roundw
        case rel => exact ⟨k + 1, by omega, by go_num, H1.out, G1.out⟩
        case measure => simp [intOf]; omega
      · have HN := Lib.hid (freeV_no hd)
        have HO := Lib.hid ho
        have HB := Lib.hid hb
        clear hd ho hb
        go_wp2
        go_roundw
        case rel => exact ⟨k + 1, by omega, by go_num, by rw [HN.out]; exact HO.out, HB.out⟩
        case measure => simp [intOf]; omega
    · obtain rfl : k = c := by omega
      go_wp2
      go_ret
      exact ⟨_, rfl, IntsO.of_own ho, hb⟩
end Go.Proofs.Ytcmlflppndfdcaa

/- The program's kernel. -/
namespace Go.Proofs.Ytcmlflppndfdcaa
set_option linter.unusedVariables false
set_option linter.unusedSimpArgs false
open Go.RowKit

theorem SlI.atM {w : World} {B n c : Nat} {A : Option Addr} {xs : List Int} {k : Nat} (h : SlI w B (.slice A n c) xs) (hn : xs.length = n) (hk : k < n) :
    ∃ b o x, A = some ⟨b, o, none⟩ ∧ b < B ∧ Hid (xs[k]? = some x) ∧ w.cell? ⟨b, o + k, none⟩ = some (.int .i64 x) ∧ -9223372036854775808 ≤ x ∧ x ≤ 9223372036854775807 := by
  subst hn
  exact SlI.at_ h hk
theorem rd_ps {p : Int} {r c : Nat} {f : Nat → Nat → Int} (hp : isFld p = true) (hp2 : 2 ≤ p) (hf : InF p r c f) : ∀ (j : Nat) (x : Int), (rdTo p r f c).2[j]? = some x → ∃ b : Nat, x = (b : Int) ∧ b < c := by
  intro j x hx
  obtain ⟨b, h1, h2, _⟩ := (rd_to hp hp2 hf c (Nat.le_refl _)).pos j (lt_of_some hx)
  rw [h1] at hx
  injection hx with hx
  exact ⟨b, hx.symm, h2⟩
set_option maxHeartbeats 3200000 in
set_option maxRecDepth 100000 in
theorem kernel_any (p : Int) (u : Value) (r c : Nat) (f : Nat → Nat → Int) (w0 : World) (hp : isFld p = true) (hr : r ≤ 1000) (hc : c ≤ 1000) (hu : MxR w0 w0.heap.size u (mxF r c f)) (hf : InF p r c f) :
    Calls Try.prog 67 #[.int .i64 p, u] w0 fun e w' => ∃ v, e = .returned v ∧ IntssO w' w0.heap.size w'.heap.size v (kerR p r c f) ∧ Below w0.heap.size w0 w' := by
  have hpr := isFld_r hp
  have hu' := hu
  obtain ⟨UA, uc, rfl⟩ := hu.form
  simp only [mxF] at hu hu' ⊢
  rw [flat_length] at hu hu' ⊢
  obtain ⟨UL, hUL⟩ : ∃ n, r * c = n := ⟨_, rfl⟩
  rw [hUL] at hu hu' ⊢
  have HUL := Lib.hid hUL
  clear hUL hu
  obtain ⟨W, hW⟩ : ∃ W, W = w0.alloc (.cells #[.int .i64 r, .int .i64 c, .slice UA UL uc] 84) := ⟨_, rfl⟩
  have g0 : Below w0.heap.size w0 W := by rw [hW]; exact below_alloc _ _
  have kB : Blk W w0.heap.size 84 #[.int .i64 r, .int .i64 c, .slice UA UL uc] := by rw [hW]; exact Blk.new _ _ _
  have HU := Lib.hid (MxR.next g0 hu')
  have HF := Lib.hid hf
  have HP := Lib.hid hp
  have sW : W.heap.size = w0.heap.size + 1 := by rw [hW]; simp
  have SW := Lib.hid sW
  have c0 := kB.cell' (i := 0) rfl
  have c1 := kB.cell' (i := 1) rfl
  have c2 := kB.cell' (i := 2) rfl
  clear hu' hf hp sW
  go_enter Try.func67, Try.ntmps67
  go_wp2_with fail
  rw [← hW]; clear hW
  refine (implReduce_any p _ r c f _ HP.out hr hc HU.out HF.out).mono ?_; rintro e w1 ⟨m, v, rfl, hM, hI, hb1⟩
  have HPS := Lib.hid (rd_ps HP.out hpr.1 HF.out)
  have HG := Lib.hid (inF_to hpr.1 HF.out c)
  have hpl := rdTo_len p r f c
  have HK := Lib.hid (show kerR p r c f = kerM p c (rdTo p r f c).1 (rdTo p r f c).2 (freeV (rdTo p r f c).2 c) from rfl)
  obtain ⟨g, hg⟩ : ∃ g, (rdTo p r f c).1 = g := ⟨_, rfl⟩
  obtain ⟨ps, hps⟩ : ∃ ps, (rdTo p r f c).2 = ps := ⟨_, rfl⟩
  rw [hg] at hM HG HK
  rw [hps] at hI HPS hpl HK
  clear hg hps
  obtain ⟨MA, mc, em⟩ := hM.form
  obtain ⟨PA, pc, ev⟩ := hI.form
  subst em ev
  simp only [mxF] at hM ⊢
  rw [flat_length] at hM ⊢
  rw [HUL.out] at hM ⊢
  obtain ⟨pn, hpn⟩ : ∃ n, ps.length = n := ⟨_, rfl⟩
  rw [hpn] at hI hpl ⊢
  have HPN := Lib.hid hpn
  clear hpn c0 c1 c2
  obtain ⟨W2, hW2⟩ : ∃ u, w1.alloc (.cells #[.int .i64 r, .int .i64 c, .slice MA UL mc] 84) = u := ⟨_, rfl⟩
  have ga : Below w1.heap.size w1 W2 := by rw [← hW2]; exact below_alloc _ _
  have kM : Blk W2 w1.heap.size 84 #[.int .i64 r, .int .i64 c, .slice MA UL mc] := by rw [← hW2]; exact Blk.new _ _ _
  have g12 := bthen hb1 ga
  have kB2 := kB.call g12
  have c1 := kB2.cell' (i := 1) rfl
  have HM := Lib.hid (hM.below ga).rd
  have HI := Lib.hid (hI.below ga).rd
  have G2 := Lib.hid (bthen g0 g12)
  have s12 := g12.size
  clear hM hI ga hb1 g12 g0
  go_wp2_with fail
  clear hW2 c1 kB
  refine (freeColumns_any c _ ps _ hc HI.out).mono ?_; rintro e w3 ⟨v3, rfl, hF, hb3⟩
  obtain ⟨FA, fc, ev⟩ := hF.form
  subst ev
  have HFV := Lib.hid (fun (j : Nat) (x : Int) (hx : (freeV ps c)[j]? = some x) => freeV_at hx)
  have hfl := freeV_length ps c
  obtain ⟨L, hL⟩ : ∃ L, freeV ps c = L := ⟨_, rfl⟩
  rw [hL] at hF HFV HK hfl ⊢
  obtain ⟨n, hn⟩ : ∃ n, L.length = n := ⟨_, rfl⟩
  rw [hn] at hF hfl ⊢
  have HN := Lib.hid hn
  have HLF := Lib.hid hF.rd
  have kB3 := kB2.call hb3
  have kM3 := kM.call hb3
  have HM3 := Lib.hid (MxR.next hb3 HM.out)
  have HI3 := Lib.hid (SlI.next hb3 HI.out)
  have G3 := Lib.hid (bthen G2.out hb3)
  have lB := kB3.lt
  have lM := kM3.lt
  clear hL hn hF hb3 kM kB2
  go_wp2
  go_loopw [7, 24] (fun out i wr => ∃ k : Nat, k ≤ n ∧ i = .int .i64 k ∧ IntssO wr w3.heap.size wr.heap.size out (kerM p c g ps (L.take k)) ∧ Below w3.heap.size w3 wr) (fun _ i _ => n - (intOf i).toNat)
  case atStart => exact ⟨0, Nat.zero_le _, rfl, IntssO.nil _ _ _, Below.refl _ _⟩
  case round =>
    obtain ⟨k, hk, rfl, hO, hb⟩ := hrel
    have s3 := hb.size
    obtain ⟨OA, oc, eo, _, _, _⟩ := hO.form2
    have hkl : (kerM p c g ps (L.take k)).length = k := by rw [kerM_length, List.length_take, HN.out]; omega
    rw [hkl] at eo
    subst eo
    by_cases hlt : k < n
    · obtain ⟨bf, of_, x, ef, hbf, HX, f1, _⟩ := SlI.atM (k := k) HLF.out HN.out hlt
      subst ef
      obtain ⟨fk, rfl, hfk, _⟩ := HFV.out k x HX.out
      have z1 := bcell hb hbf f1
      have kBr := kB3.call hb
      have c1 := kBr.cell' (i := 1) rfl
      obtain ⟨w5, hw5⟩ : ∃ z, z = wr := ⟨_, rfl⟩
      subst hw5
      have hmkX := run_mkI w5 (n := c) (by omega)
      obtain ⟨X, hX⟩ : ∃ u, w5.alloc (.cells (mkCells (.int .i64 0) c) 3) = u := ⟨_, rfl⟩
      have bX : Below w5.heap.size w5 X := by rw [← hX]; exact below_alloc _ _
      have rX : IntsO X w5.heap.size X.heap.size (.slice (some ⟨w5.heap.size, 0, none⟩) c c) (List.replicate c 0) := by rw [← hX]; exact IntsO.of_own (OwnI.made0 (Nat.le_refl _) (by omega))
      rw [hX] at hmkX
      obtain ⟨G, hG⟩ : ∃ z, w5.heap.size = z := ⟨_, rfl⟩
      have cX := (rX.1.cellG (j := fk) (by simp; omega)).1
      have fX := rX.1.frozenG fk
      have rY := rX.put (j := fk) (x := 1) (by unfold I64; omega)
      rw [kvG_0 p g ps] at rY
      obtain ⟨Y, hY⟩ : ∃ u, X.setCell ⟨w5.heap.size, fk, none⟩ (.int .i64 1) = u := ⟨_, rfl⟩
      have hcY : Chg G (G + 1) X Y := by rw [← hY, hG]; exact chg_set (Nat.le_refl _) (Nat.lt_succ_self _)
      have sX : X.heap.size = G + 1 := by rw [← hX, ← hG]; simp
      have hs3G : w3.heap.size ≤ G := by omega
      have bY : Below w5.heap.size w5 Y := bX.trans (hcY.below (by omega) (by omega))
      rw [hY, hG, sX] at rY
      have BY := Lib.hid (hb.trans (bY.mono (by omega)))
      have HO := Lib.hid ((hO.below bX).chg hcY (.inl (by omega)))
      rw [hG] at HO
      have sY : G + 1 ≤ Y.heap.size := by have := hcY.size; omega
      have RY := Lib.hid rY
      clear rX rY bX hcY bY sX hO hb f1 kBr
      rw [hG] at hmkX cX fX hY
      go_wp2
      clear hX hY cX fX hmkX c1 z1 hG
      go_loopw [36] (fun i wr => ∃ j : Nat, j ≤ pn ∧ i = .int .i64 j ∧ Below w3.heap.size w3 wr ∧ IntssO wr w3.heap.size G (.slice OA k oc) (kerM p c g ps (L.take k)) ∧ IntsO wr G (G + 1) (.slice (some ⟨G, 0, none⟩) c c) (rowF c (kvG p g ps fk j)) ∧ G + 1 ≤ wr.heap.size) (fun i _ => pn - (intOf i).toNat)
      case atStart => exact ⟨0, Nat.zero_le _, rfl, BY.out, HO.out, RY.out, sY⟩
      case round =>
        clear BY HO RY sY
        obtain ⟨j, hj, rfl, hb, hO, hR, hs⟩ := hrel
        have s4 := hb.size
        by_cases hjl : j < pn
        · obtain ⟨bp, op, x, ep, hbp, HXP, p1, _⟩ := SlI.atM (k := j) HI3.out HPN.out hjl
          subst ep
          obtain ⟨pk, rfl, hpk⟩ := HPS.out j x HXP.out
          have z1 := bcell hb hbp p1
          have kMr := kM3.call hb
          have m0 := kMr.cell' (i := 0) rfl
          have m1 := kMr.cell' (i := 1) rfl
          have m2 := kMr.cell' (i := 2) rfl
          have HMr := Lib.hid (MxR.next hb HM3.out)
          have HB := Lib.hid hb
          have HO := Lib.hid hO
          have HR := Lib.hid hR
          clear hb hO hR p1 kMr
          go_wp2_with fail
          refine (row_any _ r c j g _ HMr.out hr hc (by omega)).mono ?_; rintro e w6 ⟨v6, rfl, hS, hb6⟩
          have hS1 := hS
          obtain ⟨VA, vc, ev, _⟩ := hS1
          rw [rowF_length] at ev
          subst ev
          obtain ⟨bv, ov, x, ev, hbv, HXV, v1, _⟩ := SlI.atM (k := fk) hS (rowF_length _ _) hfk
          subst ev
          have hxv := HXV.out
          rw [rowF_get _ hfk] at hxv
          injection hxv with hxv
          subst hxv
          have hgr := HG.out j fk (by omega) hfk
          have e1 : wrap64 (p - g j fk) = p - g j fk := IntWalk.wrap64_in _ ⟨by omega, by omega⟩
          have e2 := sub_tmod hpr.1 hgr
          have hgm := emod_rng (p := p) (x := - g j fk) hpr.1
          have hR6 := HR.out.below hb6
          have cX := (hR6.1.cellG (j := pk) (by rw [rowF_length]; exact hpk)).1
          have fX := hR6.1.frozenG pk
          have rY := hR6.put (j := pk) (x := (- g j fk) % p) (by unfold I64; omega)
          rw [kvG_put HXP.out] at rY
          have RY := Lib.hid rY
          obtain ⟨Y, hY⟩ : ∃ u, w6.setCell ⟨G, pk, none⟩ (.int .i64 ((- g j fk) % p)) = u := ⟨_, rfl⟩
          have hcY : Chg G (G + 1) w6 Y := by rw [← hY]; exact chg_set (Nat.le_refl _) (Nat.lt_succ_self _)
          have s6 := hb6.size
          have sY := hcY.size
          rw [hY] at RY
          have BY := Lib.hid ((HB.out.trans (hb6.mono (by omega))).trans (hcY.below hs3G (by omega)))
          have HO6 := Lib.hid ((HO.out.below hb6).chg hcY (.inl (by omega)))
          clear rY hcY hb6 hS hR6 m0 m1 m2 z1 HXV
          go_wp2
          clear hY cX fX
          go_roundw
          case rel => exact ⟨j + 1, by omega, by go_num, BY.out, HO6.out, RY.out, by omega⟩
          case measure => simp [intOf]; omega
        · obtain rfl : j = pn := by omega
          rw [← HPN.out] at hR
          have hn1 := kerM_snoc p c g ps (L.take k) fk
          rw [← take_snoc HX.out] at hn1
          have HN1 := Lib.hid hn1
          obtain ⟨Z, hZ⟩ : ∃ Z, wr.alloc (.cells #[.slice (some ⟨G, 0, none⟩) c c] 22) = Z := ⟨_, rfl⟩
          obtain ⟨gz, hgz⟩ : ∃ z, wr.heap.size = z := ⟨_, rfl⟩
          have bZ : Below wr.heap.size wr Z := by rw [← hZ]; exact below_alloc _ _
          have kZ : Blk Z gz 22 #[.slice (some ⟨G, 0, none⟩) c c] := by rw [← hZ, ← hgz]; exact Blk.new _ _ _
          have HOZ := Lib.hid (hO.below bZ)
          have HRZ := Lib.hid (hR.below bZ)
          have HBZ := Lib.hid (hb.trans (bZ.mono s4))
          have sZ := bZ.size
          have C0 := Lib.hid (kZ.cell' (i := 0) rfl)
          clear hO hR hb hn1 bZ kZ
          (go_wp2_with (at_builtin; refine Hold.stop ?_)); unfold Hold
          clear hZ hgz
          refine wpList_appR (by rfl) (.tmp 55) (.tmp 57) (by rfl) w3.heap.size G G (G + 1) _ _ _ (by rfl) HOZ.out (some ⟨gz, 0, none⟩) 1 _ (by rfl) ⟨_, _, rfl, C0.out⟩ HRZ.out (by omega) (by omega) (by omega) (by rw [kerM_length, List.length_take]; have := HN.out; omega) (by omega) (by omega) ?_
          intro v' w' h1 h2 h3
          rw [← HN1.out] at h1
          have H1 := Lib.hid h1
          have H2 := Lib.hid (HBZ.out.trans h2)
          clear h1 h2 h3
          go_wp2
          go_roundw
          case rel => exact ⟨k + 1, by omega, by go_num, H1.out, H2.out⟩
          case measure => simp [intOf]; omega
    · obtain rfl : k = n := by omega
      rw [List.take_of_length_le (by have := HN.out; omega)] at hO
      have HOF := Lib.hid hO
      have GF := Lib.hid (bthen G3.out hb)
      have sz := SW.out
      have s5 := s12
      clear hO hb
      go_wp2
      go_ret
      exact ⟨_, rfl, by rw [HK.out]; exact HOF.out.wider (by omega) (Nat.le_refl _), GF.out⟩
end Go.Proofs.Ytcmlflppndfdcaa

/- OutgoingMatrix, IncomingMatrix: where the answer is no. -/
namespace Go.Proofs.Ytcmlflppndfdcaa
set_option linter.unusedVariables false
set_option linter.unusedSimpArgs false
open Go.RowKit
set_option maxHeartbeats 3200000 in
set_option maxRecDepth 100000 in
theorem implIn_no (u : Value) (x : Rp) (v : Int) (w0 : World) (hu : RpR w0 w0.heap.size u x) (hno : inOk x v = false) :
    Calls Try.prog 66 #[u, .int .i64 v] w0 fun e w' => ∃ r, e = .returned (.tuple #[r, .bool (inP x v).2]) ∧ MxO w' w0.heap.size w'.heap.size r (inP x v).1 ∧ Below w0.heap.size w0 w' := by
  have hu' := hu
  obtain ⟨A, a, C, c, E, e, H, h, rfl, hq, hd, hm, hp, ld, lm⟩ := hu.open_
  clear hu
  obtain ⟨W, hW⟩ : ∃ W, W = (w0.alloc (.cells #[.int .i64 x.p, .int .i64 x.q.v, .slice A x.q.f.length a, .slice C x.q.t.length c, .slice E x.d.length e, .slice H x.m.length h] 31)).alloc (.cells #[.int .i64 0, .int .i64 0, .slice none 0 0] 84) := ⟨_, rfl⟩
  have g0 : Below w0.heap.size w0 W := by rw [hW]; exact ((Below.refl _ _).alloc (Nat.le_refl _) _).alloc (by simp) _
  have kB : Blk W w0.heap.size 31 #[.int .i64 x.p, .int .i64 x.q.v, .slice A x.q.f.length a, .slice C x.q.t.length c, .slice E x.d.length e, .slice H x.m.length h] := by rw [hW]; exact (Blk.new _ _ _).alloc _
  have kR : Blk W (w0.heap.size + 1) 84 #[.int .i64 0, .int .i64 0, .slice none 0 0] := by
    rw [hW]
    have := Blk.new (w0.alloc (.cells #[.int .i64 x.p, .int .i64 x.q.v, .slice A x.q.f.length a, .slice C x.q.t.length c, .slice E x.d.length e, .slice H x.m.length h] 31)) 84 #[.int .i64 0, .int .i64 0, .slice none 0 0]
    simpa only [World.size_alloc] using this
  have sz : W.heap.size = w0.heap.size + 1 + 1 := by rw [hW]; simp
  replace hq := QvR.next g0 hq
  replace hd := SlI.next g0 hd
  replace hm := SlM.next g0 hm
  rcases h1 : isRep x with _ | _
  · have HF := Lib.hid (show inP x v = (mx0, false) by simp [inP, inOk, h1])
    have H1 := Lib.hid h1
    have SZ := Lib.hid sz
    have hxr : RpR W W.heap.size (.agg #[.int .i64 x.p, .int .i64 x.q.v, .slice A x.q.f.length a, .slice C x.q.t.length c, .slice E x.d.length e, .slice H x.m.length h]) x := RpR.next g0 hu'
    have HXR := Lib.hid hxr
    clear h1 sz hxr hq hd hm
    have c0 := kB.cell' (i := 0) rfl
    have c1 := kB.cell' (i := 1) rfl
    have c2 := kB.cell' (i := 2) rfl
    have c3 := kB.cell' (i := 3) rfl
    have c4 := kB.cell' (i := 4) rfl
    have c5 := kB.cell' (i := 5) rfl
    go_enter Try.func66, Try.ntmps66
    go_wp2_with fail
    rw [← hW]; clear hW
    refine (implIsRep_any _ x _ HXR.out).mono ?_; rintro e w1 ⟨rfl, hb1⟩
    rw [H1.out]
    replace kR := kR.call hb1
    replace kB := kB.call hb1
    replace g0 := bthen g0 hb1
    have hs1 := hb1.size
    clear c0 c1 c2 c3 c4 c5 hb1
    have hF := HF.out
    have sz := SZ.out
    have kZ := kR
    have p0 := kZ.cell' (i := 0) rfl
    have p1 := kZ.cell' (i := 1) rfl
    have p2 := kZ.cell' (i := 2) rfl
    have fr := kZ.frozen
    clear hF kR kB
    go_wp2
    have hF := HF.out
    exact bodyPost_ret (v := .tuple #[.agg #[.int .i64 0, .int .i64 0, .slice none 0 0], .bool false]) (by simp [results, go_sem, p0, p1, p2]) rfl ⟨_, by rw [hF], by rw [hF]; exact MxO.zero _ _ _, ((g0.setCell (by simp) _).setCell (by simp) _).setCell (by simp) _⟩
  · have HF := Lib.hid (show inP x v = (mx0, false) by simp [inP, hno])
    have hq1 : isQ x.q = true := (areDims_t.1 (isRep_t.1 h1).2.1).1
    have h2 : endV x.q.f x.q v = false := by simpa [inOk, h1] using hno
    have H1 := Lib.hid h1
    have H2 := Lib.hid h2
    have HQ1 := Lib.hid hq1
    have SZ := Lib.hid sz
    have hxr : RpR W W.heap.size (.agg #[.int .i64 x.p, .int .i64 x.q.v, .slice A x.q.f.length a, .slice C x.q.t.length c, .slice E x.d.length e, .slice H x.m.length h]) x := RpR.next g0 hu'
    have HXR := Lib.hid hxr
    clear h1 h2 hq1 hno sz hxr hd hm
    have c0 := kB.cell' (i := 0) rfl
    have c1 := kB.cell' (i := 1) rfl
    have c2 := kB.cell' (i := 2) rfl
    have c3 := kB.cell' (i := 3) rfl
    have c4 := kB.cell' (i := 4) rfl
    have c5 := kB.cell' (i := 5) rfl
    go_enter Try.func66, Try.ntmps66
    go_wp2_with fail
    rw [← hW]; clear hW
    refine (implIsRep_any _ x _ HXR.out).mono ?_; rintro e w1 ⟨rfl, hb1⟩
    rw [H1.out]
    replace kR := kR.call hb1
    replace kB := kB.call hb1
    replace g0 := bthen g0 hb1
    replace hq := QvR.next hb1 hq
    have hs1 := hb1.size
    clear c0 c1 c2 c3 c4 c5 hb1
    have c0 := kB.cell' (i := 0) rfl
    have c1 := kB.cell' (i := 1) rfl
    have c2 := kB.cell' (i := 2) rfl
    have c3 := kB.cell' (i := 3) rfl
    have c4 := kB.cell' (i := 4) rfl
    have c5 := kB.cell' (i := 5) rfl
    go_wp2_with fail
    refine (isSink_any _ x.q v _ hq HQ1.out).mono ?_; rintro e w2 ⟨rfl, hb1⟩
    rw [H2.out]
    replace kR := kR.call hb1
    replace kB := kB.call hb1
    replace g0 := bthen g0 hb1
    have hs2 := hb1.size
    clear c0 c1 c2 c3 c4 c5 hb1 hq
    have hF := HF.out
    have sz := SZ.out
    have kZ := kR
    have p0 := kZ.cell' (i := 0) rfl
    have p1 := kZ.cell' (i := 1) rfl
    have p2 := kZ.cell' (i := 2) rfl
    have fr := kZ.frozen
    clear hF kR kB
    go_wp2
    have hF := HF.out
    exact bodyPost_ret (v := .tuple #[.agg #[.int .i64 0, .int .i64 0, .slice none 0 0], .bool false]) (by simp [results, go_sem, p0, p1, p2]) rfl ⟨_, by rw [hF], by rw [hF]; exact MxO.zero _ _ _, ((g0.setCell (by simp) _).setCell (by simp) _).setCell (by simp) _⟩
set_option maxHeartbeats 3200000 in
set_option maxRecDepth 100000 in
theorem specIn_no (u : Value) (x : Rp) (v : Int) (w0 : World) (hu : RpR w0 w0.heap.size u x) (hno : inOk x v = false) :
    Calls Try.prog 60 #[u, .int .i64 v] w0 fun e w' => ∃ r, e = .returned (.tuple #[r, .bool (inP x v).2]) ∧ MxO w' w0.heap.size w'.heap.size r (inP x v).1 ∧ Below w0.heap.size w0 w' := by
  have hu' := hu
  obtain ⟨A, a, C, c, E, e, H, h, rfl, hq, hd, hm, hp, ld, lm⟩ := hu.open_
  clear hu
  obtain ⟨W, hW⟩ : ∃ W, W = (w0.alloc (.cells #[.int .i64 x.p, .int .i64 x.q.v, .slice A x.q.f.length a, .slice C x.q.t.length c, .slice E x.d.length e, .slice H x.m.length h] 31)).alloc (.cells #[.int .i64 0, .int .i64 0, .slice none 0 0] 84) := ⟨_, rfl⟩
  have g0 : Below w0.heap.size w0 W := by rw [hW]; exact ((Below.refl _ _).alloc (Nat.le_refl _) _).alloc (by simp) _
  have kB : Blk W w0.heap.size 31 #[.int .i64 x.p, .int .i64 x.q.v, .slice A x.q.f.length a, .slice C x.q.t.length c, .slice E x.d.length e, .slice H x.m.length h] := by rw [hW]; exact (Blk.new _ _ _).alloc _
  have kR : Blk W (w0.heap.size + 1) 84 #[.int .i64 0, .int .i64 0, .slice none 0 0] := by
    rw [hW]
    have := Blk.new (w0.alloc (.cells #[.int .i64 x.p, .int .i64 x.q.v, .slice A x.q.f.length a, .slice C x.q.t.length c, .slice E x.d.length e, .slice H x.m.length h] 31)) 84 #[.int .i64 0, .int .i64 0, .slice none 0 0]
    simpa only [World.size_alloc] using this
  have sz : W.heap.size = w0.heap.size + 1 + 1 := by rw [hW]; simp
  replace hq := QvR.next g0 hq
  replace hd := SlI.next g0 hd
  replace hm := SlM.next g0 hm
  rcases h1 : isRep x with _ | _
  · have HF := Lib.hid (show inP x v = (mx0, false) by simp [inP, inOk, h1])
    have H1 := Lib.hid h1
    have SZ := Lib.hid sz
    have hxr : RpR W W.heap.size (.agg #[.int .i64 x.p, .int .i64 x.q.v, .slice A x.q.f.length a, .slice C x.q.t.length c, .slice E x.d.length e, .slice H x.m.length h]) x := RpR.next g0 hu'
    have HXR := Lib.hid hxr
    clear h1 sz hxr hq hd hm
    have c0 := kB.cell' (i := 0) rfl
    have c1 := kB.cell' (i := 1) rfl
    have c2 := kB.cell' (i := 2) rfl
    have c3 := kB.cell' (i := 3) rfl
    have c4 := kB.cell' (i := 4) rfl
    have c5 := kB.cell' (i := 5) rfl
    go_enter Try.func60, Try.ntmps60
    go_wp2_with fail
    rw [← hW]; clear hW
    refine (specIsRep_any _ x _ HXR.out).mono ?_; rintro e w1 ⟨rfl, hb1⟩
    rw [H1.out]
    replace kR := kR.call hb1
    replace kB := kB.call hb1
    replace g0 := bthen g0 hb1
    have hs1 := hb1.size
    clear c0 c1 c2 c3 c4 c5 hb1
    have hF := HF.out
    have sz := SZ.out
    have kZ := kR
    have p0 := kZ.cell' (i := 0) rfl
    have p1 := kZ.cell' (i := 1) rfl
    have p2 := kZ.cell' (i := 2) rfl
    have fr := kZ.frozen
    clear hF kR kB
    go_wp2
    have hF := HF.out
    exact bodyPost_ret (v := .tuple #[.agg #[.int .i64 0, .int .i64 0, .slice none 0 0], .bool false]) (by simp [results, go_sem, p0, p1, p2]) rfl ⟨_, by rw [hF], by rw [hF]; exact MxO.zero _ _ _, ((g0.setCell (by simp) _).setCell (by simp) _).setCell (by simp) _⟩
  · have HF := Lib.hid (show inP x v = (mx0, false) by simp [inP, hno])
    have hq1 : isQ x.q = true := (areDims_t.1 (isRep_t.1 h1).2.1).1
    have h2 : endV x.q.f x.q v = false := by simpa [inOk, h1] using hno
    have hV : x.q.v = (x.q.v.toNat : Int) := by have := (isQ_t.1 hq1).1; omega
    have h3 : decide (v ∈ freeV x.q.f x.q.v.toNat) = false := by rw [freeV_mem _ _ _ _ hV]; exact h2
    have H1 := Lib.hid h1
    have H3 := Lib.hid h3
    have HQ1 := Lib.hid hq1
    have SZ := Lib.hid sz
    have hxr : RpR W W.heap.size (.agg #[.int .i64 x.p, .int .i64 x.q.v, .slice A x.q.f.length a, .slice C x.q.t.length c, .slice E x.d.length e, .slice H x.m.length h]) x := RpR.next g0 hu'
    have HXR := Lib.hid hxr
    clear h1 h2 h3 hq1 hno sz hxr hd hm hV
    have c0 := kB.cell' (i := 0) rfl
    have c1 := kB.cell' (i := 1) rfl
    have c2 := kB.cell' (i := 2) rfl
    have c3 := kB.cell' (i := 3) rfl
    have c4 := kB.cell' (i := 4) rfl
    have c5 := kB.cell' (i := 5) rfl
    go_enter Try.func60, Try.ntmps60
    go_wp2_with fail
    rw [← hW]; clear hW
    refine (specIsRep_any _ x _ HXR.out).mono ?_; rintro e w1 ⟨rfl, hb1⟩
    rw [H1.out]
    replace kR := kR.call hb1
    replace kB := kB.call hb1
    replace g0 := bthen g0 hb1
    replace hq := QvR.next hb1 hq
    have hs1 := hb1.size
    clear c0 c1 c2 c3 c4 c5 hb1
    have c0 := kB.cell' (i := 0) rfl
    have c1 := kB.cell' (i := 1) rfl
    have c2 := kB.cell' (i := 2) rfl
    have c3 := kB.cell' (i := 3) rfl
    have c4 := kB.cell' (i := 4) rfl
    have c5 := kB.cell' (i := 5) rfl
    go_wp2_with fail
    refine (sinksOf_any _ x.q _ hq HQ1.out).mono ?_; rintro e w2 ⟨sv, rfl, hsv, hb1⟩
    replace kR := kR.call hb1
    replace kB := kB.call hb1
    replace g0 := bthen g0 hb1
    have hs2 := hb1.size
    clear c0 c1 c2 c3 c4 c5 hb1 hq
    go_wp2_with fail
    refine (l4Has_any _ _ v _ hsv).mono ?_; rintro e w3 ⟨rfl, hb1⟩
    rw [H3.out]
    replace kR := kR.call hb1
    replace kB := kB.call hb1
    replace g0 := bthen g0 hb1
    have hs3 := hb1.size
    clear hb1 hsv
    have hF := HF.out
    have sz := SZ.out
    have kZ := kR
    have p0 := kZ.cell' (i := 0) rfl
    have p1 := kZ.cell' (i := 1) rfl
    have p2 := kZ.cell' (i := 2) rfl
    have fr := kZ.frozen
    clear hF kR kB
    go_wp2
    have hF := HF.out
    exact bodyPost_ret (v := .tuple #[.agg #[.int .i64 0, .int .i64 0, .slice none 0 0], .bool false]) (by simp [results, go_sem, p0, p1, p2]) rfl ⟨_, by rw [hF], by rw [hF]; exact MxO.zero _ _ _, ((g0.setCell (by simp) _).setCell (by simp) _).setCell (by simp) _⟩
end Go.Proofs.Ytcmlflppndfdcaa

/- OutgoingMatrix, IncomingMatrix of the program. -/
namespace Go.Proofs.Ytcmlflppndfdcaa
set_option linter.unusedVariables false
set_option linter.unusedSimpArgs false
open Go.RowKit
set_option maxHeartbeats 6400000 in
set_option maxRecDepth 100000 in
theorem implIn_yes (u : Value) (x : Rp) (v : Int) (w0 : World) (hu : RpR w0 w0.heap.size u x) (hyes : inOk x v = true) :
    Calls Try.prog 66 #[u, .int .i64 v] w0 fun e w' => ∃ r, e = .returned (.tuple #[r, .bool (inP x v).2]) ∧ MxO w' w0.heap.size w'.heap.size r (inP x v).1 ∧ Below w0.heap.size w0 w' := by
  have hu' := hu
  obtain ⟨A, a, C, c, E, e, H, h, rfl, hq, hd, hm, hp, ld, lm⟩ := hu.open_
  clear hu
  obtain ⟨W, hW⟩ : ∃ W, W = (w0.alloc (.cells #[.int .i64 x.p, .int .i64 x.q.v, .slice A x.q.f.length a, .slice C x.q.t.length c, .slice E x.d.length e, .slice H x.m.length h] 31)).alloc (.cells #[.int .i64 0, .int .i64 0, .slice none 0 0] 84) := ⟨_, rfl⟩
  have g0 : Below w0.heap.size w0 W := by rw [hW]; exact ((Below.refl _ _).alloc (Nat.le_refl _) _).alloc (by simp) _
  have kB : Blk W w0.heap.size 31 #[.int .i64 x.p, .int .i64 x.q.v, .slice A x.q.f.length a, .slice C x.q.t.length c, .slice E x.d.length e, .slice H x.m.length h] := by rw [hW]; exact (Blk.new _ _ _).alloc _
  have kR : Blk W (w0.heap.size + 1) 84 #[.int .i64 0, .int .i64 0, .slice none 0 0] := by
    rw [hW]
    have := Blk.new (w0.alloc (.cells #[.int .i64 x.p, .int .i64 x.q.v, .slice A x.q.f.length a, .slice C x.q.t.length c, .slice E x.d.length e, .slice H x.m.length h] 31)) 84 #[.int .i64 0, .int .i64 0, .slice none 0 0]
    simpa only [World.size_alloc] using this
  have sz : W.heap.size = w0.heap.size + 1 + 1 := by rw [hW]; simp
  replace hq := QvR.next g0 hq
  replace hd := SlI.next g0 hd
  replace hm := SlM.next g0 hm
  have h1 : isRep x = true := by simp only [inOk, Bool.and_eq_true] at hyes; exact hyes.1
  have h2 : endV x.q.f x.q v = true := by simp only [inOk, Bool.and_eq_true] at hyes; exact hyes.2
  have hq1 : isQ x.q = true := (areDims_t.1 (isRep_t.1 h1).2.1).1
  obtain ⟨n, D, rfl, hn, dn, hD, hD4, hn5⟩ := vert_at h1 h2
  have HF := Lib.hid (inP_yes hyes hD)
  have DN := Lib.hid dn
  have H1 := Lib.hid h1
  have H2 := Lib.hid h2
  have HQ1 := Lib.hid hq1
  have SZ := Lib.hid sz
  have hl6 : x.q.f.length ≤ 6 := (isQ_t.1 hq1).2.2.1
  have HXR := Lib.hid (show RpR W W.heap.size (.agg #[.int .i64 x.p, .int .i64 x.q.v, .slice A x.q.f.length a, .slice C x.q.t.length c, .slice E x.d.length e, .slice H x.m.length h]) x from RpR.next g0 hu')
  have HQ := Lib.hid hq
  have HD := Lib.hid hd
  have HM := Lib.hid hm
  have KB := Lib.hid kB
  have KR := Lib.hid kR
  have G0 := Lib.hid g0
  clear h1 h2 hq1 sz hD hyes hu' hm
  have c0 := kB.cell' (i := 0) rfl
  have c1 := kB.cell' (i := 1) rfl
  have c2 := kB.cell' (i := 2) rfl
  have c3 := kB.cell' (i := 3) rfl
  have c4 := kB.cell' (i := 4) rfl
  have c5 := kB.cell' (i := 5) rfl
  go_enter Try.func66, Try.ntmps66
  go_wp2_with fail
  rw [← hW]; clear hW
  refine (implIsRep_any _ x _ HXR.out).mono ?_; rintro e w1 ⟨rfl, hb1⟩
  rw [H1.out]
  replace kB := kB.call hb1
  replace hq := QvR.next hb1 hq
  have gW := hb1
  clear c0 c1 c2 c3 c4 c5 hb1
  have c0 := kB.cell' (i := 0) rfl
  have c1 := kB.cell' (i := 1) rfl
  have c2 := kB.cell' (i := 2) rfl
  have c3 := kB.cell' (i := 3) rfl
  have c4 := kB.cell' (i := 4) rfl
  have c5 := kB.cell' (i := 5) rfl
  go_wp2_with fail
  refine (isSink_any _ x.q n _ hq HQ1.out).mono ?_; rintro e w2 ⟨rfl, hb1⟩
  rw [H2.out]
  replace kB := kB.call hb1
  replace gW := bthen gW hb1
  clear c0 c1 c2 c3 c4 c5 hb1 hq
  have c0 := kB.cell' (i := 0) rfl
  have c1 := kB.cell' (i := 1) rfl
  have c2 := kB.cell' (i := 2) rfl
  have c3 := kB.cell' (i := 3) rfl
  have c4 := kB.cell' (i := 4) rfl
  have c5 := kB.cell' (i := 5) rfl
  have hd2 := SlI.more gW.size (SlI.below gW hd)
  obtain ⟨be, oe, xe, rfl, hbe, HXE, xc, _⟩ := SlI.at_ hd2 hn
  have ex := HXE.out
  rw [dn] at ex
  injection ex with ex
  subst ex
  clear hd hd2 HXE hbe
  go_wp2_with fail
  refine (zero_any (D : Int) 0 _ (by omega) (by omega) (by omega) (by omega)).mono ?_; rintro e w3 ⟨v3, rfl, hZ, hb3⟩
  rw [inM_0 x n D] at hZ
  obtain ⟨MA, mc, e3⟩ := hZ.form
  subst e3
  have gW3 := bthen gW hb3
  have hs3 := hb3.size
  have hs2 := gW.size
  obtain ⟨N3, hN3⟩ : ∃ nn, (inM x n D 0).a.length = nn := ⟨_, rfl⟩
  rw [hN3] at hZ ⊢
  obtain ⟨W4, hW4⟩ : ∃ W4, W4 = w3.alloc (.cells #[.int .i64 (inM x n D 0).r, .int .i64 (inM x n D 0).c, .slice MA N3 mc] 84) := ⟨_, rfl⟩
  have b4 : Below w3.heap.size w3 W4 := by rw [hW4]; exact below_alloc _ _
  have k4 : Blk W4 w3.heap.size 84 #[.int .i64 (inM x n D 0).r, .int .i64 (inM x n D 0).c, .slice MA N3 mc] := by rw [hW4]; exact Blk.new _ _ _
  have l4 : w3.heap.size < W4.heap.size := k4.lt
  have kB4 := (kB.call hb3).call b4
  have gW4 := bthen gW3 b4
  have hO := (hZ.below b4).wider (lo' := W.heap.size) (hi' := W4.heap.size) (by omega) (by omega)
  clear c0 c1 c2 c3 c4 c5 xc hZ hb3 b4 gW gW3 kB hN3
  have c0 := kB4.cell' (i := 0) rfl
  have c1 := kB4.cell' (i := 1) rfl
  have c2 := kB4.cell' (i := 2) rfl
  have c3 := kB4.cell' (i := 3) rfl
  have c4 := kB4.cell' (i := 4) rfl
  have c5 := kB4.cell' (i := 5) rfl
  rw [hW4] at c0 c1 c2 c3 c4 c5
  go_wp2
  rw [← hW4]
  clear hW4 c0 c1 c2 c3 c4 c5 kB4
  go_loopw [30] (fun i wr => ∃ (k N mc : Nat) (MA : Option Addr), k ≤ x.q.f.length ∧ i = .int .i64 k ∧ Below W.heap.size W wr ∧ Blk wr w3.heap.size 84 #[.int .i64 (inM x n D k).r, .int .i64 (inM x n D k).c, .slice MA N mc] ∧ MxO wr W.heap.size wr.heap.size (.agg #[.int .i64 (inM x n D k).r, .int .i64 (inM x n D k).c, .slice MA N mc]) (inM x n D k)) (fun i _ => x.q.f.length - (intOf i).toNat)
  case atStart => exact ⟨0, _, _, _, Nat.zero_le _, rfl, gW4, k4, hO⟩
  case round =>
    clear k4 hO gW4
    have hlen : x.q.t.length ≤ x.q.f.length := by have := (isQ_t.1 HQ1.out).2.1; omega
    obtain ⟨k, N, mc, MA, hk, rfl, gW, k4, hO⟩ := hrel
    have s6 := gW.size
    by_cases hlt : k < x.q.f.length
    · obtain ⟨m, nf, nt, yf, yt, em, ef, et, df, dt, eM, _, b1, b2, b3, b4, b5, b6, b7, b8⟩ := isRep_at H1.out hlt
      obtain ⟨hsf, hst⟩ := QvR.sl HQ.out
      obtain ⟨bf, of_, xf, rfl, hbf, HXF, f1, _⟩ := SlI.at_ hst b7
      have q1 := HXF.out
      rw [et] at q1
      injection q1 with q1
      subst q1
      have f2 := bcell gW hbf f1
      have hm := HM.out
      obtain ⟨bm, om, m', MB, mb, rfl, hbm, HXM, x0, x1, x2, hsl, hr1, hr2, _⟩ := SlM.at_ hm b8
      have q2 := HXM.out
      rw [em] at q2
      injection q2 with q2
      subst q2
      have HMR : Hid (MxR W W.heap.size (.agg #[.int .i64 m.r, .int .i64 m.c, .slice MB m.a.length mb]) m) := ⟨_, rfl, hsl, hr1, hr2⟩
      have kBr := (KB.out).below gW (KB.out).lt
      have EF := Lib.hid et
      have DF := Lib.hid dt
      have EM := Lib.hid em
      have EMX := Lib.hid eM
      clear HXF HXM hsf hst hm hsl hr1 hr2 f1 em ef et df dt eM
      by_cases hv : nt = n
      · subst hv
        have hR := inS_le (v := (nt : Int)) (C := D) H1.out k hk
        have hyD : yt = D := by have := DN.out; rw [DF.out] at this; injection this with this; omega
        subst hyD
        have e1 := inS_yes (R := yt) EF.out EM.out (yf := yf) (by rw [EMX.out]; rfl)
        have e2 : inM x nt yt (k + 1) = mxF yt ((inS x nt yt k).1 + yf) (bsF (inS x nt yt k).1 (inS x nt yt k).2 (entry m.a yf)) := by unfold inM; rw [e1]
        have E2 := Lib.hid e2
        have HR := Lib.hid hR
        have gws := gW.size
        have hHO := Lib.hid hO
        have x0' := bcell gW hbm x0
        have x1' := bcell gW hbm x1
        have x2' := bcell gW hbm x2
        have hbmw : bm < wr.heap.size := by omega
        clear e1 e2 hR x0 x1 x2 hO
        go_wp2
        obtain ⟨y, hy⟩ : ∃ y, y = x := ⟨_, rfl⟩
        subst hy
        refine wp_region_net (by kernel_rfl) [.eq (.agg #[.int .i64 (inM y nt yt k).r, .int .i64 (inM y nt yt k).c, .slice MA N mc]), .eq (.pointer (some ⟨w0.heap.size, 5, none⟩)), .eq (.slice (some ⟨bm, om, none⟩) y.m.length h), .eq (.int .i64 k), .eq (.pointer (some ⟨bm, om + k * 3, none⟩)), .eq (.agg #[.int .i64 m.r, .int .i64 m.c, .slice MB m.a.length mb]), rel 6 (fun u lo hi w => MxO w lo hi u (inM y nt yt (k + 1)))] [[], [], [1], [], [1, 2, 3], [1, 2, 3, 4], [0, 1, 2, 3, 4, 5], [0, 1, 2, 3, 4, 5, 6]] 7 (by kernel_rfl) ⟨trivial, trivial, trivial, trivial, trivial, trivial, rel_stable (fun u lo hi w w' h hb => h.below hb), trivial⟩ ⟨?_, ?_, ?_, ?_, ?_, ?_, ?_, trivial⟩ ?_
        · intro x w hb hk Q' hQ
          clear hk
          simp only [netAct, dstAt, List.getElem?_toArray, List.getElem?_cons_zero, List.getElem?_cons_succ, Option.bind_some, Act.put, List.setIfInBounds_toArray, List.set_cons_zero, List.set_cons_succ] at hQ ⊢
          have z0 := (k4.call hb).cell' (i := 0) rfl
          have z1 := (k4.call hb).cell' (i := 1) rfl
          have z2 := (k4.call hb).cell' (i := 2) rfl
          go_wp2
          exact hQ (.agg #[.int .i64 (inM y nt yt k).r, .int .i64 (inM y nt yt k).c, .slice MA N mc]) _ (Below.refl _ _) rfl
        · intro x w hb hk Q' hQ
          clear hk
          simp only [netAct, dstAt, List.getElem?_toArray, List.getElem?_cons_zero, List.getElem?_cons_succ, Option.bind_some, Act.put, List.setIfInBounds_toArray, List.set_cons_zero, List.set_cons_succ] at hQ ⊢
          go_wp2
          exact hQ (.pointer (some ⟨w0.heap.size, 5, none⟩)) _ (Below.refl _ _) rfl
        · intro x w hb hk Q' hQ
          have h1 : x.v 1 = .pointer (some ⟨w0.heap.size, 5, none⟩) := (hk 1 (by decide)).1
          clear hk
          simp only [netAct, dstAt, List.getElem?_toArray, List.getElem?_cons_zero, List.getElem?_cons_succ, Option.bind_some, Act.put, List.setIfInBounds_toArray, List.set_cons_zero, List.set_cons_succ] at hQ ⊢
          simp only [h1] at hQ ⊢
          clear h1
          have z5 := (kBr.call hb).cell' (i := 5) rfl
          go_wp2
          exact hQ (.slice (some ⟨bm, om, none⟩) y.m.length h) _ (Below.refl _ _) rfl
        · intro x w hb hk Q' hQ
          clear hk
          simp only [netAct, dstAt, List.getElem?_toArray, List.getElem?_cons_zero, List.getElem?_cons_succ, Option.bind_some, Act.put, List.setIfInBounds_toArray, List.set_cons_zero, List.set_cons_succ] at hQ ⊢
          go_wp2
          exact hQ (.int .i64 k) _ (Below.refl _ _) rfl
        · intro x w hb hk Q' hQ
          have h2 : x.v 2 = .slice (some ⟨bm, om, none⟩) y.m.length h := (hk 2 (by decide)).1
          have h3 : x.v 3 = .int .i64 k := (hk 3 (by decide)).1
          clear hk
          simp only [netAct, dstAt, List.getElem?_toArray, List.getElem?_cons_zero, List.getElem?_cons_succ, Option.bind_some, Act.put, List.setIfInBounds_toArray, List.set_cons_zero, List.set_cons_succ] at hQ ⊢
          simp only [h2, h3] at hQ ⊢
          clear h2 h3
          go_wp2
          exact hQ (.pointer (some ⟨bm, om + k * 3, none⟩)) _ (Below.refl _ _) rfl
        · intro x w hb hk Q' hQ
          have h4 : x.v 4 = .pointer (some ⟨bm, om + k * 3, none⟩) := (hk 4 (by decide)).1
          clear hk
          simp only [netAct, dstAt, List.getElem?_toArray, List.getElem?_cons_zero, List.getElem?_cons_succ, Option.bind_some, Act.put, List.setIfInBounds_toArray, List.set_cons_zero, List.set_cons_succ] at hQ ⊢
          simp only [h4] at hQ ⊢
          clear h4
          have z0 := bcell hb hbmw x0'
          have z1 := bcell hb hbmw x1'
          have z2 := bcell hb hbmw x2'
          go_wp2
          exact hQ (.agg #[.int .i64 m.r, .int .i64 m.c, .slice MB m.a.length mb]) _ (Below.refl _ _) rfl
        · intro x w hb hk Q' hQ
          have h0 : x.v 0 = .agg #[.int .i64 (inM y nt yt k).r, .int .i64 (inM y nt yt k).c, .slice MA N mc] := (hk 0 (by decide)).1
          have h1 : x.v 1 = .pointer (some ⟨w0.heap.size, 5, none⟩) := (hk 1 (by decide)).1
          have h2 : x.v 2 = .slice (some ⟨bm, om, none⟩) y.m.length h := (hk 2 (by decide)).1
          have h3 : x.v 3 = .int .i64 k := (hk 3 (by decide)).1
          have h4 : x.v 4 = .pointer (some ⟨bm, om + k * 3, none⟩) := (hk 4 (by decide)).1
          have h5 : x.v 5 = .agg #[.int .i64 m.r, .int .i64 m.c, .slice MB m.a.length mb] := (hk 5 (by decide)).1
          clear hk
          simp only [netAct, dstAt, List.getElem?_toArray, List.getElem?_cons_zero, List.getElem?_cons_succ, Option.bind_some, Act.put, List.setIfInBounds_toArray, List.set_cons_zero, List.set_cons_succ] at hQ ⊢
          simp only [h0, h1, h2, h3, h4, h5] at hQ ⊢
          clear h0 h1 h2 h3 h4 h5
          have hmr : MxR w w.heap.size (.agg #[.int .i64 m.r, .int .i64 m.c, .slice MB m.a.length mb]) (mxF yt yf (entry m.a yf)) := by rw [← EMX.out]; exact MxR.more (by have := hb.size; omega) (MxR.below (gW.trans (hb.mono gws)) HMR.out)
          have HMRw := Lib.hid hmr
          have HOw := Lib.hid ((hHO.out).below hb).rd
          clear hmr
          go_wp2_with fail
          refine (beside_any _ _ yt (inS y nt yt k).1 yf (inS y nt yt k).2 (entry m.a yf) _ HOw.out HMRw.out (by omega) (by have := HR.out; omega) (by omega)).mono ?_; rintro e w5 ⟨v5, rfl, hO5, hb5⟩
          rw [← E2.out] at hO5
          go_wp2
          exact hQ _ _ hb5 hO5
        · intro x w hb hk hiv hdj
          have h0 : x.v 0 = .agg #[.int .i64 (inM y nt yt k).r, .int .i64 (inM y nt yt k).c, .slice MA N mc] := hk 0 (by decide)
          have h1 : x.v 1 = .pointer (some ⟨w0.heap.size, 5, none⟩) := hk 1 (by decide)
          have h2 : x.v 2 = .slice (some ⟨bm, om, none⟩) y.m.length h := hk 2 (by decide)
          have h3 : x.v 3 = .int .i64 k := hk 3 (by decide)
          have h4 : x.v 4 = .pointer (some ⟨bm, om + k * 3, none⟩) := hk 4 (by decide)
          have h5 : x.v 5 = .agg #[.int .i64 m.r, .int .i64 m.c, .slice MB m.a.length mb] := hk 5 (by decide)
          have h6 : MxO w (x.lo 6) (x.hi 6) (x.v 6) (inM y nt yt (k + 1)) := hk 6 (by decide)
          clear hk
          simp only [netAct, dstAt, List.getElem?_toArray, List.getElem?_cons_zero, List.getElem?_cons_succ, Option.bind_some, Act.put, List.setIfInBounds_toArray, List.set_cons_zero, List.set_cons_succ]
          simp only [List.drop_succ_cons, List.drop_zero, h0, h1, h2, h3, h4, h5]
          clear h0 h1 h2 h3 h4 h5
          obtain ⟨l6, _, l6h⟩ := hiv 6 (by decide)
          obtain ⟨MA', mc', e6⟩ := h6.form
          rw [e6] at h6 ⊢
          obtain ⟨N', hN'⟩ : ∃ nn, (inM y nt yt (k + 1)).a.length = nn := ⟨_, rfl⟩
          rw [hN'] at h6 ⊢
          have k4w := k4.call hb
          have p0 := k4w.cell' (i := 0) rfl
          have p1 := k4w.cell' (i := 1) rfl
          have p2 := k4w.cell' (i := 2) rfl
          have fr := k4w.frozen
          have hbs := hb.size
          have K5 := Lib.hid (((k4w.set_ 0 (.int .i64 (inM y nt yt (k + 1)).r)).set_ 1 (.int .i64 (inM y nt yt (k + 1)).c)).set_ 2 (.slice MA' N' mc'))
          have O5 := Lib.hid ((((h6.setBlk (i := 0) k4w (by decide) (.int .i64 (inM y nt yt (k + 1)).r)).setBlk (i := 1) (k4w.set_ 0 _) (by decide) (.int .i64 (inM y nt yt (k + 1)).c)).setBlk (i := 2) ((k4w.set_ 0 _).set_ 1 _) (by decide) (.slice MA' N' mc')).wider (lo' := W.heap.size) (hi' := w.heap.size) (by omega) (by omega))
          have hc3 := chg3 w w3.heap.size (.int .i64 (inM y nt yt (k + 1)).r) (.int .i64 (inM y nt yt (k + 1)).c) (.slice MA' N' mc')
          have GW := Lib.hid ((gW.trans (hb.mono gws)).trans (hc3.below (B := W.heap.size) (by omega) (by omega)))
          clear hiv hdj e6 h6 hc3 k4w hb gW kBr k4 hN'
          go_wp2
          go_roundw
          case rel => exact ⟨k + 1, N', mc', MA', by omega, by go_num, GW.out, K5.out, O5.out.wider (Nat.le_refl _) (by simp)⟩
          case measure => simp [intOf]; omega
      · have hne : ((nt : Int) == n) = false := by rw [beq_eq_false_iff_ne]; omega
        have e1 := inS_no (C := D) EF.out (show (nt : Int) ≠ n by omega)
        have e2 : inM x n D (k + 1) = inM x n D k := by unfold inM; rw [e1]
        have E2 := Lib.hid e2
        have K4 := Lib.hid k4
        have HO := Lib.hid hO
        have GW := Lib.hid gW
        clear e1 e2 k4 hO gW kBr
        go_wp2
        go_roundw
        case rel => exact ⟨k + 1, N, mc, MA, by omega, by go_num, GW.out, by rw [E2.out]; exact K4.out, by rw [E2.out]; exact HO.out⟩
        case measure => simp [intOf]; omega
    · obtain rfl : k = x.q.f.length := by omega
      have HF' := HF.out
      have k2 := (KR.out).below gW (by have := SZ.out; omega)
      have z0 := k4.cell' (i := 0) rfl
      have z1 := k4.cell' (i := 1) rfl
      have z2 := k4.cell' (i := 2) rfl
      have p0 := k2.cell' (i := 0) rfl
      have p1 := k2.cell' (i := 1) rfl
      have p2 := k2.cell' (i := 2) rfl
      have f2 := k2.frozen
      have h2 := chg3 wr (w0.heap.size + 1) (.int .i64 (inM x n D x.q.f.length).r) (.int .i64 (inM x n D x.q.f.length).c) (.slice MA N mc)
      have gw : Below w0.heap.size w0 wr := (G0.out).trans (gW.mono (G0.out).size)
      have gs := gw.size
      have gws := gW.size
      have sz := SZ.out
      have oA2 := (hO.chg h2 (.inr (by omega))).wider (lo' := w0.heap.size) (hi' := wr.heap.size) (by omega) (Nat.le_refl _)
      have fg := gw.trans (h2.below (by omega) gs)
      have OA2 := Lib.hid oA2
      have FG := Lib.hid fg
      have HFF := Lib.hid HF'
      clear hO oA2 fg gw h2 k2 k4 gW sz gws HF'
      go_wp2
      exact bodyPost_ret (v := .tuple #[.agg #[.int .i64 (inM x n D x.q.f.length).r, .int .i64 (inM x n D x.q.f.length).c, .slice MA N mc], .bool true]) (by simp [results, go_sem, p0, p1, p2]) rfl ⟨_, by rw [(HFF.out : _)], by rw [(HFF.out : _)]; exact OA2.out.wider (Nat.le_refl _) (by simp), FG.out⟩
theorem implIncomingMatrix_any (u : Value) (x : Rp) (v : Int) (w0 : World) (hu : RpR w0 w0.heap.size u x) (hv : I64 v) :
    Calls Try.prog 66 #[u, .int .i64 v] w0 fun e w' => ∃ r, e = .returned (.tuple #[r, .bool (inP x v).2]) ∧ MxO w' w0.heap.size w'.heap.size r (inP x v).1 ∧ Below w0.heap.size w0 w' := by
  rcases h : inOk x v with _ | _
  · exact implIn_no u x v w0 hu h
  · exact implIn_yes u x v w0 hu h
end Go.Proofs.Ytcmlflppndfdcaa
