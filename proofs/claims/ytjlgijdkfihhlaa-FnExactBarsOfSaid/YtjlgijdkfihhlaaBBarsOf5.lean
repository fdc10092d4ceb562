/- FnExactBarsOf: for every argument the program's function returns what the reference's returns. Part 5 of 8 of the proof: RankT, RTab, Mul2, MkI, RTab2. No condition. -/
import Derived.Test.YtjlgijdkfihhlaaBBarsOf4
/- Ranks by counting: the kernel of a matrix has as many vectors as its reduced form says; the inequality of Frobenius. Plain. -/
namespace Go.Proofs.Ytjlgijdkfihhlaa
set_option linter.unusedVariables false
set_option linter.unusedSimpArgs false
open Go.RowKit

/-! ### sums -/
theorem sg_add (a b : Nat → Int) : ∀ n, sgF (fun t => a t + b t) n = sgF a n + sgF b n
  | 0 => rfl
  | n + 1 => by simp only [sgF]; rw [sg_add a b n]; omega
theorem sg_mul (s : Int) (a : Nat → Int) : ∀ n, sgF (fun t => s * a t) n = s * sgF a n
  | 0 => by simp [sgF]
  | n + 1 => by simp only [sgF]; rw [sg_mul s a n, Int.mul_add]
theorem sg_congr {a b : Nat → Int} : ∀ {n}, (∀ t, t < n → a t = b t) → sgF a n = sgF b n
  | 0, _ => rfl
  | n + 1, h => by simp only [sgF]; rw [sg_congr fun t ht => h t (by omega), h n (by omega)]
theorem sg_0 : ∀ n, sgF (fun _ => 0) n = 0
  | 0 => rfl
  | n + 1 => by simp only [sgF]; rw [sg_0 n]; rfl
theorem sg_dvd {p : Int} {a : Nat → Int} : ∀ {n}, (∀ t, t < n → p ∣ a t) → p ∣ sgF a n
  | 0, _ => ⟨0, by simp [sgF]⟩
  | n + 1, h => Int.dvd_add (sg_dvd fun t ht => h t (by omega)) (h n (by omega))
theorem sg_sub (a b : Nat → Int) : ∀ n, sgF (fun t => a t - b t) n = sgF a n - sgF b n
  | 0 => rfl
  | n + 1 => by simp only [sgF]; rw [sg_sub a b n]; omega
theorem sg_swap (h : Nat → Nat → Int) (m : Nat) : ∀ n, sgF (fun s => sgF (fun t => h s t) m) n = sgF (fun t => sgF (fun s => h s t) n) m
  | 0 => by simp only [sgF]; rw [sg_0]
  | n + 1 => by
    simp only [sgF]
    rw [sg_swap h m n, ← sg_add]
theorem sg_one {h : Nat → Int} {b0 : Nat} : ∀ {n}, b0 < n → sgF (fun b => if b = b0 then h b else 0) n = h b0
  | n + 1, hb => by
    simp only [sgF]
    by_cases e : n = b0
    · rw [if_pos e, sg_congr (b := fun _ => 0) fun t ht => if_neg (by omega), sg_0, e]; omega
    · rw [if_neg e, sg_one (by omega)]; omega
theorem emod_cg (p a : Int) : p ∣ a % p - a := ⟨-(a / p), by rw [Int.emod_def, Int.mul_neg]; omega⟩
theorem cg_dvd {p a b : Int} (h : p ∣ a - b) : p ∣ a ↔ p ∣ b := by
  constructor
  · intro k
    have := Int.dvd_sub k h
    rwa [show a - (a - b) = b by omega] at this
  · intro k
    have := Int.dvd_add h k
    rwa [show a - b + b = a by omega] at this
theorem cg_mulL {p a b : Int} (x : Int) (h : p ∣ a - b) : p ∣ a * x - b * x := by
  rw [← Int.sub_mul]; exact Int.dvd_mul_of_dvd_left h
theorem cg_mulR {p a b : Int} (x : Int) (h : p ∣ a - b) : p ∣ x * a - x * b := by
  rw [← Int.mul_sub]; exact Int.dvd_mul_of_dvd_right h
theorem sg_cg {p : Int} {a b : Nat → Int} {n : Nat} (h : ∀ t, t < n → p ∣ a t - b t) : p ∣ sgF a n - sgF b n := by
  rw [← sg_sub]; exact sg_dvd h

/-! ### the kernel and the steps of elimination -/
def Ker (p : Int) (r : Nat) (f : Nat → Nat → Int) (k : Nat) (x : Nat → Int) : Prop := ∀ i, i < r → p ∣ sgF (fun t => f i t * x t) k
theorem ker_congr {p : Int} {r k : Nat} {f : Nat → Nat → Int} {x y : Nat → Int} (h : ∀ t, t < k → p ∣ x t - y t) : Ker p r f k x ↔ Ker p r f k y :=
  ⟨fun hx i hi => (cg_dvd (sg_cg fun t ht => cg_mulR (f i t) (h t ht))).1 (hx i hi), fun hx i hi => (cg_dvd (sg_cg fun t ht => cg_mulR (f i t) (h t ht))).2 (hx i hi)⟩
theorem ker_sw {p : Int} {r n t k : Nat} {f : Nat → Nat → Int} {x : Nat → Int} (hn : n < r) (ht : t < r) : Ker p r (swA n t f) k x ↔ Ker p r f k x := by
  constructor
  · intro h i hi
    by_cases e : i = t
    · subst e
      have := h n hn
      simpa only [swA, if_true] using this
    · by_cases e2 : i = n
      · subst e2
        have := h t ht
        simp only [swA] at this
        by_cases e3 : t = i
        · exact absurd e3.symm e
        · simpa only [if_neg e3, if_true] using this
      · have := h i hi
        simpa only [swA, if_neg e, if_neg e2] using this
  · intro h i hi
    simp only [swA]
    by_cases e : i = n
    · simp only [if_pos e]; exact h t ht
    · by_cases e2 : i = t
      · simp only [if_neg e, if_pos e2]; exact h n hn
      · simp only [if_neg e, if_neg e2]; exact h i hi
theorem ker_sc {p s y : Int} {r n k : Nat} {f : Nat → Nat → Int} {x : Nat → Int} (hs : p ∣ s * y - 1) : Ker p r (scA p n s f) k x ↔ Ker p r f k x := by
  have key : ∀ i, (p ∣ sgF (fun t => scA p n s f i t * x t) k) ↔ p ∣ sgF (fun t => f i t * x t) k := by
    intro i
    by_cases e : i = n
    · have h1 : p ∣ sgF (fun t => scA p n s f i t * x t) k - s * sgF (fun t => f i t * x t) k := by
        rw [← sg_mul]
        refine sg_cg fun t _ => ?_
        simp only [scA, if_pos e]
        rw [← Int.mul_assoc, Int.mul_comm s]
        exact cg_mulL _ (emod_cg _ _)
      rw [cg_dvd h1]
      constructor
      · intro h
        obtain ⟨c, hc⟩ := h
        obtain ⟨d, hd⟩ := hs
        refine ⟨c * y - d * sgF (fun t => f i t * x t) k, ?_⟩
        rw [Int.mul_sub, ← Int.mul_assoc, ← hc, ← Int.mul_assoc, ← hd, Int.sub_mul, Int.one_mul]
        rw [show s * sgF (fun t => f i t * x t) k * y = s * y * sgF (fun t => f i t * x t) k by rw [Int.mul_right_comm]]
        omega
      · exact fun h => Int.dvd_mul_of_dvd_right h
    · simp only [scA, if_neg e]
  exact ⟨fun h i hi => (key i).1 (h i hi), fun h i hi => (key i).2 (h i hi)⟩
theorem ker_el {p : Int} {r n k m : Nat} {f : Nat → Nat → Int} {x : Nat → Int} (hn : n < r) : Ker p r (elA p n k f) m x ↔ Ker p r f m x := by
  have key : ∀ i, i ≠ n → p ∣ sgF (fun t => elA p n k f i t * x t) m - (sgF (fun t => f i t * x t) m + (p - f i k) * sgF (fun t => f n t * x t) m) := by
    intro i hi
    rw [← sg_mul, ← sg_add]
    refine sg_cg fun t _ => ?_
    simp only [elA, if_pos hi]
    rw [← Int.mul_assoc, ← Int.add_mul]
    exact cg_mulL _ (emod_cg _ _)
  constructor
  · intro h i hi
    have hn' := h n hn
    simp only [elA, ne_eq, not_true_eq_false, if_false] at hn'
    by_cases e : i = n
    · rw [e]; exact hn'
    · have h1 := (cg_dvd (key i e)).1 (h i hi)
      have := Int.dvd_sub h1 (Int.dvd_mul_of_dvd_right (b := p - f i k) hn')
      rwa [Int.add_sub_cancel] at this
  · intro h i hi
    by_cases e : i = n
    · subst e
      simp only [elA, ne_eq, not_true_eq_false, if_false]
      exact h i hi
    · exact (cg_dvd (key i e)).2 (Int.dvd_add (h i hi) (Int.dvd_mul_of_dvd_right (h n hn)))
theorem inv_cg {p x : Int} (hp : isFld p = true) (h1 : 1 ≤ x) (h2 : x ≤ p - 1) : p ∣ invP p x * x - 1 := by
  obtain ⟨_, _, h, _⟩ := invP_ok hp h1 h2
  rw [Int.mul_comm]
  have := emod_cg p (x * invP p x)
  rw [h] at this
  have := Int.dvd_neg.2 this
  rwa [Int.neg_sub] at this
theorem ker_to {p : Int} {r c : Nat} {f : Nat → Nat → Int} (hp : isFld p = true) (hp2 : 2 ≤ p) (hf : InF p r c f) : ∀ k, k ≤ c → ∀ m x, Ker p r (rdTo p r f k).1 m x ↔ Ker p r f m x
  | 0, _, _, _ => Iff.rfl
  | k + 1, hk, m, x => by
    have ih := ker_to hp hp2 hf k (by omega) m x
    have hg := inF_to hp2 hf k
    have hl := (rdTo_len p r f k).1
    simp only [rdTo]
    split
    · rename_i h1
      have hn := nzF_le (f := (rdTo p r f k).1) (k := k) hl
      have hne := nzF_ne hl h1
      have hr := hg _ k h1 (by omega)
      rw [← ih, rdF, ker_el (by omega), ker_sc (y := swA (rdTo p r f k).2.length (nzF (rdTo p r f k).1 k (rdTo p r f k).2.length r) (rdTo p r f k).1 (rdTo p r f k).2.length k), ker_sw (by omega) h1]
      simp only [swA, if_true]
      exact inv_cg hp (by omega) hr.2
    · exact ih

/-! ### the reduced form -/
structure Rd (r : Nat) (g : Nat → Nat → Int) (ps : List Int) (k : Nat) : Prop where
  pos : ∀ j, j < ps.length → ∃ b : Nat, ps[j]? = some (b : Int) ∧ b < k ∧ ∀ i, i < r → g i b = if i = j then 1 else 0
  low : ∀ i b, ps.length ≤ i → i < r → b < k → g i b = 0
theorem nzF_0 {f : Nat → Nat → Int} {k n r : Nat} (h : ¬ nzF f k n r < r) {i : Nat} (h1 : n ≤ i) (h2 : i < r) : f i k = 0 := by
  apply Classical.byContradiction
  intro hne
  apply h
  have key : ∀ m a, a ≤ i → i < a + m → nzGo f k a m < a + m := by
    intro m
    induction m with
    | zero => intro a h3 h4; omega
    | succ m ih =>
      intro a h3 h4
      simp only [nzGo]
      split
      · rename_i h5
        have : a ≠ i := by rintro rfl; exact hne h5
        have := ih (a + 1) (by omega) (by omega)
        omega
      · omega
  have := key (r - n) n h1 (by omega)
  unfold nzF
  omega
theorem rd_step {p : Int} {r c k t : Nat} {g : Nat → Nat → Int} {ps : List Int} (hp : isFld p = true) (hp2 : 2 ≤ p) (hg : InF p r c g) (hk : k < c) (ih : Rd r g ps k) (hn : ps.length ≤ t) (ht : t < r) (hne : g t k ≠ 0) :
    Rd r (elA p ps.length k (scA p ps.length (invP p (swA ps.length t g ps.length k)) (swA ps.length t g))) (ps ++ [(k : Int)]) (k + 1) := by
  obtain ⟨hpos, hlow⟩ := ih
  have hr := hg t k ht hk
  have h01 : (0 : Int) % p = 0 := Int.zero_emod p
  have h11 : (1 : Int) % p = 1 := Int.emod_eq_of_lt (by omega) (by omega)
  generalize hN : ps.length = n at *
  have hs : swA n t g n k = g t k := by simp [swA]
  rw [hs]
  obtain ⟨_, _, hi1, _⟩ := invP_ok hp (show 1 ≤ g t k by omega) hr.2
  generalize hS : invP p (g t k) = s at *
  have e_nk : scA p n s (swA n t g) n k = 1 := by simp only [scA, if_true, swA]; exact hi1
  have sw_lo : ∀ i b, n ≤ i → i < r → b < k → swA n t g i b = 0 := by
    intro i b h2 h3 h4
    simp only [swA]
    split
    · exact hlow t b hn ht h4
    · split
      · exact hlow _ b (Nat.le_refl _) (by omega) h4
      · exact hlow i b h2 h3 h4
  have sc_lo : ∀ i b, n ≤ i → i < r → b < k → scA p n s (swA n t g) i b = 0 := by
    intro i b h2 h3 h4
    simp only [scA]
    split
    · rw [sw_lo i b h2 h3 h4, Int.zero_mul, h01]
    · exact sw_lo i b h2 h3 h4
  constructor
  · intro j hj
    rw [List.length_append, List.length_singleton, hN] at hj
    by_cases e : j < n
    · obtain ⟨b, h5, h6, h7⟩ := hpos j e
      refine ⟨b, by rw [List.getElem?_append_left (by omega)]; exact h5, by omega, fun i hi => ?_⟩
      have hnb : scA p n s (swA n t g) n b = 0 := sc_lo n b (Nat.le_refl _) (by omega) h6
      simp only [elA]
      by_cases hin : i = n
      · rw [if_neg (by simpa using hin), hin, hnb, if_neg (by omega)]
      · rw [if_pos hin, hnb, Int.mul_zero, Int.add_zero]
        rcases Nat.lt_or_ge i n with hlt | hge
        · have : scA p n s (swA n t g) i b = g i b := by simp only [scA, if_neg hin, swA]; rw [if_neg (by omega)]
          rw [this, h7 i hi]
          split
          · exact h11
          · exact h01
        · rw [sc_lo i b hge hi h6, h01, if_neg (by omega)]
    · obtain rfl : j = n := by omega
      refine ⟨k, by rw [List.getElem?_append_right (by omega), hN]; simp, by omega, fun i hi => ?_⟩
      simp only [elA]
      by_cases hin : i = j
      · rw [if_neg (by simpa using hin), hin, e_nk, if_pos rfl]
      · rw [if_pos hin, e_nk, if_neg hin, Int.mul_one]
        rw [show scA p j s (swA j t g) i k + (p - scA p j s (swA j t g) i k) = p by omega, Int.emod_self]
  · intro i b h2 h3 h4
    rw [List.length_append, List.length_singleton, hN] at h2
    simp only [elA]
    rw [if_pos (by omega)]
    rcases Nat.lt_or_ge b k with hlt | hge
    · rw [sc_lo i b (by omega) h3 hlt, sc_lo n b (Nat.le_refl _) (by omega) hlt, Int.mul_zero, Int.add_zero, h01]
    · obtain rfl : b = k := by omega
      rw [e_nk, Int.mul_one, show scA p n s (swA n t g) i b + (p - scA p n s (swA n t g) i b) = p by omega, Int.emod_self]
theorem rd_to {p : Int} {r c : Nat} {f : Nat → Nat → Int} (hp : isFld p = true) (hp2 : 2 ≤ p) (hf : InF p r c f) : ∀ k, k ≤ c → Rd r (rdTo p r f k).1 (rdTo p r f k).2 k
  | 0, _ => ⟨fun j hj => absurd hj (by simp [rdTo]), fun i b _ _ hb => absurd hb (by omega)⟩
  | k + 1, hk => by
    have ih := rd_to hp hp2 hf k (by omega)
    have hg := inF_to hp2 hf k
    have hl := (rdTo_len p r f k).1
    simp only [rdTo]
    split
    · rename_i h1
      have hn := nzF_le (f := (rdTo p r f k).1) (k := k) hl
      have hne := nzF_ne hl h1
      exact rd_step hp hp2 hg (by omega) ih hn.1 h1 hne
    · rename_i h1
      refine ⟨fun j hj => ?_, fun i b h2 h3 h4 => ?_⟩
      · obtain ⟨b, h5, h6, h7⟩ := ih.pos j hj
        exact ⟨b, h5, by omega, h7⟩
      · rcases Nat.lt_or_ge b k with h | h
        · exact ih.low i b h2 h3 h
        · obtain rfl : b = k := by omega
          exact nzF_0 h1 h2 h3
/-! ### counting -/
theorem len_le_sub {α : Type} : ∀ {l m : List α}, l.Nodup → (∀ x ∈ l, x ∈ m) → l.length ≤ m.length
  | [], _, _, _ => Nat.zero_le _
  | a :: l, m, hn, hs => by
    obtain ⟨s, t, rfl⟩ := List.append_of_mem (hs a (by simp))
    rw [List.nodup_cons] at hn
    have := len_le_sub (l := l) (m := s ++ t) hn.2 (fun x hx => by
      have h1 := hs x (by simp [hx])
      have h2 : x ≠ a := fun e => hn.1 (e ▸ hx)
      simp only [List.mem_append, List.mem_cons] at h1 ⊢
      rcases h1 with h1 | h1 | h1
      · exact .inl h1
      · exact absurd h1 h2
      · exact .inr h1)
    simp only [List.length_cons, List.length_append] at this ⊢
    omega
theorem nodup_map {α β : Type} {φ : α → β} : ∀ {l : List α}, l.Nodup → (∀ x ∈ l, ∀ y ∈ l, φ x = φ y → x = y) → (l.map φ).Nodup
  | [], _, _ => by simp
  | a :: l, hn, hi => by
    rw [List.nodup_cons] at hn
    rw [List.map_cons, List.nodup_cons]
    refine ⟨fun h => ?_, nodup_map hn.2 fun x hx y hy => hi x (by simp [hx]) y (by simp [hy])⟩
    obtain ⟨y, hy, e⟩ := List.mem_map.1 h
    have := hi y (by simp [hy]) a (by simp) e
    exact hn.1 (this ▸ hy)
theorem inj_le {α β : Type} {φ : α → β} {l : List α} {m : List β} (hn : l.Nodup) (hi : ∀ x ∈ l, ∀ y ∈ l, φ x = φ y → x = y) (hm : ∀ x ∈ l, φ x ∈ m) : l.length ≤ m.length := by
  rw [← List.length_map (f := φ)]
  exact len_le_sub (nodup_map hn hi) fun y hy => by obtain ⟨x, hx, rfl⟩ := List.mem_map.1 hy; exact hm x hx
/-- pairs -/
def prs {α β : Type} (l : List α) (m : List β) : List (α × β) := l.flatMap fun x => m.map fun y => (x, y)
theorem prs_mem {α β : Type} {l : List α} {m : List β} {x : α} {y : β} : (x, y) ∈ prs l m ↔ x ∈ l ∧ y ∈ m := by
  simp only [prs, List.mem_flatMap, List.mem_map, Prod.mk.injEq]
  constructor
  · rintro ⟨a, ha, b, hb, rfl, rfl⟩; exact ⟨ha, hb⟩
  · rintro ⟨h1, h2⟩; exact ⟨x, h1, y, h2, rfl, rfl⟩
theorem prs_len {α β : Type} (m : List β) : ∀ l : List α, (prs l m).length = l.length * m.length
  | [] => by simp [prs]
  | a :: l => by
    have ih := prs_len m l
    simp only [prs, List.flatMap_cons, List.length_append, List.length_map, List.length_cons] at ih ⊢
    rw [ih, Nat.add_mul]; omega
theorem nodup_append {α : Type} {l m : List α} (h1 : l.Nodup) (h2 : m.Nodup) (h : ∀ x ∈ l, x ∉ m) : (l ++ m).Nodup := by
  rw [List.nodup_append]
  exact ⟨h1, h2, fun x hx y hy e => h x hx (e ▸ hy)⟩
theorem prs_nodup {α β : Type} {m : List β} (hm : m.Nodup) : ∀ {l : List α}, l.Nodup → (prs l m).Nodup
  | [], _ => by simp [prs]
  | a :: l, hn => by
    rw [List.nodup_cons] at hn
    have ih := prs_nodup hm hn.2
    show (m.map (fun y => (a, y)) ++ prs l m).Nodup
    refine nodup_append (nodup_map hm fun x _ y _ e => by injection e) ih ?_
    rintro ⟨x, y⟩ hx hy
    obtain ⟨z, _, e⟩ := List.mem_map.1 hx
    injection e with e1 e2
    exact hn.1 (e1 ▸ (prs_mem.1 hy).1)
/-- all vectors of n numbers from 0 up to p -/
def vecs (p : Nat) : Nat → List (List Int)
  | 0 => [[]]
  | n + 1 => (prs (vecs p n) (List.range p)).map fun z => z.1 ++ [(z.2 : Int)]
def IsV (p : Nat) (n : Nat) (x : List Int) : Prop := x.length = n ∧ ∀ e ∈ x, 0 ≤ e ∧ e < p
theorem vecs_mem {p : Nat} : ∀ {n : Nat} {x : List Int}, x ∈ vecs p n ↔ IsV p n x
  | 0, x => by
    simp only [vecs, List.mem_singleton, IsV]
    constructor
    · rintro rfl; simp
    · rintro ⟨h, _⟩; exact List.eq_nil_of_length_eq_zero h
  | n + 1, x => by
    simp only [vecs, List.mem_map]
    constructor
    · rintro ⟨⟨y, e⟩, h, rfl⟩
      obtain ⟨h1, h2⟩ := prs_mem.1 h
      obtain ⟨h3, h4⟩ := vecs_mem.1 h1
      rw [List.mem_range] at h2
      refine ⟨by simp [h3], fun z hz => ?_⟩
      simp only [List.mem_append, List.mem_singleton] at hz
      rcases hz with hz | rfl
      · exact h4 z hz
      · omega
    · rintro ⟨h1, h2⟩
      have hne : x ≠ [] := by rintro rfl; simp at h1
      have hl := h2 (x.getLast hne) (List.getLast_mem hne)
      refine ⟨(x.dropLast, (x.getLast hne).toNat), prs_mem.2 ⟨vecs_mem.2 ⟨by simp [h1], fun e he => h2 e (List.dropLast_subset x he)⟩, by rw [List.mem_range]; omega⟩, ?_⟩
      simp only
      rw [show (((x.getLast hne).toNat : Nat) : Int) = x.getLast hne by omega, List.dropLast_concat_getLast]
theorem vecs_nodup (p : Nat) : ∀ n, (vecs p n).Nodup
  | 0 => by simp [vecs]
  | n + 1 => by
    refine nodup_map (prs_nodup List.nodup_range (vecs_nodup p n)) ?_
    rintro ⟨x, a⟩ _ ⟨y, b⟩ _ e
    simp only at e
    have := List.append_inj_right' e rfl
    have h2 := List.append_inj_left' e rfl
    simp only [List.cons.injEq, Int.natCast_inj, and_true] at this
    rw [h2, this]
theorem vecs_len (p : Nat) : ∀ n, (vecs p n).length = p ^ n
  | 0 => rfl
  | n + 1 => by rw [vecs, List.length_map, prs_len, vecs_len p n, List.length_range, Nat.pow_succ]
def at0 (x : List Int) (t : Nat) : Int := x.getD t 0
/-- the vector in reduced numbers -/
def can (p : Nat) (k : Nat) (v : Nat → Int) : List Int := (List.range k).map fun b => v b % (p : Int)
theorem can_v {p : Nat} (hp : 0 < p) (k : Nat) (v : Nat → Int) : IsV p k (can p k v) := by
  refine ⟨by simp [can], fun e he => ?_⟩
  simp only [can, List.mem_map] at he
  obtain ⟨b, _, rfl⟩ := he
  exact ⟨Int.emod_nonneg _ (by omega), Int.emod_lt_of_pos _ (by omega)⟩
theorem can_at {p k t : Nat} (v : Nat → Int) (h : t < k) : at0 (can p k v) t = v t % (p : Int) := by simp [at0, can, h]
theorem v_at {p n t : Nat} {x : List Int} (h : IsV p n x) (ht : t < n) : 0 ≤ at0 x t ∧ at0 x t < p := by
  have hl : t < x.length := by rw [h.1]; exact ht
  rw [at0, List.getD_eq_getElem?_getD, List.getElem?_eq_getElem hl]
  exact h.2 _ (List.getElem_mem hl)
theorem v_ext {p n : Nat} {x y : List Int} (hx : IsV p n x) (hy : IsV p n y) (h : ∀ t, t < n → (p : Int) ∣ at0 x t - at0 y t) : x = y := by
  apply List.ext_getElem (by rw [hx.1, hy.1])
  intro t h1 h2
  have ht : t < n := by rw [← hx.1]; exact h1
  have a := v_at hx ht
  have b := v_at hy ht
  have e : at0 x t = at0 y t := by
    obtain ⟨c, hc⟩ := h t ht
    have : c = 0 := by
      rcases Int.lt_trichotomy c 0 with h | h | h
      · have : (p : Int) * c ≤ (p : Int) * (-1) := Int.mul_le_mul_of_nonneg_left (by omega) (by omega)
        omega
      · exact h
      · have : (p : Int) * 1 ≤ (p : Int) * c := Int.mul_le_mul_of_nonneg_left (by omega) (by omega)
        omega
    rw [this, Int.mul_zero] at hc
    omega
  rw [at0, at0, List.getD_eq_getElem?_getD, List.getD_eq_getElem?_getD, List.getElem?_eq_getElem h1, List.getElem?_eq_getElem h2] at e
  exact e
theorem can_cg (p : Nat) {k t : Nat} (v : Nat → Int) (h : t < k) : (p : Int) ∣ at0 (can p k v) t - v t := by rw [can_at v h]; exact emod_cg _ _
def kerB (p : Nat) (r : Nat) (f : Nat → Nat → Int) (k : Nat) (x : List Int) : Bool := (List.range r).all fun i => decide ((p : Int) ∣ sgF (fun t => f i t * at0 x t) k)
theorem kerB_t {p r k : Nat} {f : Nat → Nat → Int} {x : List Int} : kerB p r f k x = true ↔ Ker p r f k (at0 x) := by
  simp only [kerB, List.all_eq_true, List.mem_range, decide_eq_true_eq]; rfl
def kerL (p : Nat) (r : Nat) (f : Nat → Nat → Int) (k : Nat) : List (List Int) := (vecs p k).filter (kerB p r f k)
theorem kerL_mem {p r k : Nat} {f : Nat → Nat → Int} {x : List Int} : x ∈ kerL p r f k ↔ IsV p k x ∧ Ker p r f k (at0 x) := by
  simp only [kerL, List.mem_filter, vecs_mem, kerB_t]
theorem kerL_nodup (p r : Nat) (f : Nat → Nat → Int) (k : Nat) : (kerL p r f k).Nodup := List.Pairwise.filter _ (vecs_nodup p k)
/-! ### how many vectors the kernel has -/
theorem at0_app {x : List Int} {e : Int} {t : Nat} (h : t < x.length) : at0 (x ++ [e]) t = at0 x t := by
  simp only [at0, List.getD_eq_getElem?_getD]; rw [List.getElem?_append_left h]
theorem at0_last {x : List Int} {e : Int} {k : Nat} (h : x.length = k) : at0 (x ++ [e]) k = e := by
  simp only [at0, List.getD_eq_getElem?_getD]; rw [List.getElem?_append_right (by omega), h]; simp
theorem isV_snoc {p k : Nat} {x : List Int} {e : Int} (h : IsV p k x) (h0 : 0 ≤ e) (h1 : e < p) : IsV p (k + 1) (x ++ [e]) := by
  refine ⟨by simp [h.1], fun z hz => ?_⟩
  simp only [List.mem_append, List.mem_singleton] at hz
  rcases hz with hz | rfl
  · exact h.2 z hz
  · exact ⟨h0, h1⟩
theorem isV_take {p k : Nat} {x : List Int} (h : IsV p (k + 1) x) : IsV p k (x.take k) := ⟨by simp [h.1], fun e he => h.2 e (List.mem_of_mem_take he)⟩
theorem at0_take {x : List Int} {k t : Nat} (h : t < k) : at0 (x.take k) t = at0 x t := by
  simp only [at0, List.getD_eq_getElem?_getD]; rw [List.getElem?_take, if_pos h]
theorem ker_k {p : Int} {r : Nat} {f : Nat → Nat → Int} {k : Nat} {x y : Nat → Int} (h : ∀ t, t < k → x t = y t) : Ker p r f k x ↔ Ker p r f k y :=
  ker_congr fun t ht => by rw [h t ht, Int.sub_self]; exact Int.dvd_zero p
/-- the solution for a column without a leading one -/
theorem sol_at {r k : Nat} {g : Nat → Nat → Int} {ps : List Int} (h : Rd r g ps k) (hc : ∀ i, ps.length ≤ i → i < r → g i k = 0) : ∃ x0 : Nat → Int, ∀ i, i < r → sgF (fun b => g i b * x0 b) k = - g i k := by
  have hps : ∀ j, j < ps.length → ∃ b : Nat, ps.getD j 0 = (b : Int) ∧ b < k ∧ ∀ i, i < r → g i b = if i = j then 1 else 0 := fun j hj => by
    obtain ⟨b, h1, h2⟩ := h.pos j hj
    exact ⟨b, by rw [List.getD_eq_getElem?_getD, h1]; rfl, h2⟩
  refine ⟨fun b => sgF (fun j => if (b : Int) = ps.getD j 0 then - g j k else 0) ps.length, fun i hi => ?_⟩
  have e1 : ∀ b, g i b * sgF (fun j => if (b : Int) = ps.getD j 0 then - g j k else 0) ps.length = sgF (fun j => if (b : Int) = ps.getD j 0 then g i b * - g j k else 0) ps.length := by
    intro b
    rw [← sg_mul]
    refine sg_congr fun j _ => ?_
    split <;> simp
  rw [sg_congr fun b _ => e1 b, sg_swap]
  have e2 : ∀ j, j < ps.length → sgF (fun b : Nat => if (b : Int) = ps.getD j 0 then g i b * - g j k else 0) k = if j = i then - g j k else 0 := by
    intro j hj
    obtain ⟨b, h1, h2, h3⟩ := hps j hj
    rw [sg_congr (b := fun t => if t = b then g i t * - g j k else 0) fun t _ => by rw [h1]; simp only [Int.natCast_inj]]
    rw [sg_one h2, h3 i hi]
    by_cases e : i = j
    · subst e; simp
    · rw [if_neg e, if_neg (by omega)]; simp
  rw [sg_congr e2]
  rcases Nat.lt_or_ge i ps.length with hlt | hge
  · rw [sg_one (h := fun j => - g j k) hlt]
  · rw [sg_congr (b := fun _ => 0) fun t ht => if_neg (by omega), sg_0, hc i hge hi]; rfl
theorem cnt_piv {p r c k t : Nat} {g : Nat → Nat → Int} (hp : isFld p = true) (hp2 : 2 ≤ p) (hg : InF p r c g) (hk : k < c) {ps : List Int} (h : Rd r g ps k) (h1 : ps.length ≤ t) (h2 : t < r) (hne : g t k ≠ 0) : (kerL p r g (k + 1)).length = (kerL p r g k).length := by
  have hr := hg t k h2 hk
  have last0 : ∀ x, x ∈ kerL p r g (k + 1) → at0 x k = 0 := by
    intro x hx
    obtain ⟨hv, hK⟩ := kerL_mem.1 hx
    have h3 := hK t h2
    simp only [sgF] at h3
    rw [sg_congr (b := fun _ => 0) (fun b hb => by rw [h.low t b h1 h2 hb, Int.zero_mul]), sg_0, Int.zero_add] at h3
    have h4 := inv_cg hp (show 1 ≤ g t k by omega) hr.2
    have h5 : (p : Int) ∣ at0 x k := by
      have h6 : (p : Int) ∣ invP p (g t k) * (g t k * at0 x k) := Int.dvd_mul_of_dvd_right h3
      rw [← Int.mul_assoc] at h6
      have h7 := cg_mulL (at0 x k) h4
      rw [Int.one_mul] at h7
      exact (cg_dvd h7).1 h6
    have h6 := v_at hv (Nat.lt_succ_self k)
    obtain ⟨m, hm⟩ := h5
    have : m = 0 := by
      rcases Int.lt_trichotomy m 0 with h | h | h
      · have : (p : Int) * m ≤ (p : Int) * (-1) := Int.mul_le_mul_of_nonneg_left (by omega) (by omega)
        omega
      · exact h
      · have : (p : Int) * 1 ≤ (p : Int) * m := Int.mul_le_mul_of_nonneg_left (by omega) (by omega)
        omega
    rw [this, Int.mul_zero] at hm
    exact hm
  apply Nat.le_antisymm
  · refine inj_le (φ := fun x => x.take k) (kerL_nodup _ _ _ _) ?_ ?_
    · intro x hx y hy e
      obtain ⟨hxv, _⟩ := kerL_mem.1 hx
      obtain ⟨hyv, _⟩ := kerL_mem.1 hy
      refine v_ext hxv hyv fun t ht => ?_
      by_cases e3 : t < k
      · rw [← at0_take (x := x) e3, ← at0_take (x := y) e3]
        rw [show x.take k = y.take k from e, Int.sub_self]; exact Int.dvd_zero _
      · obtain rfl : t = k := by omega
        rw [last0 x hx, last0 y hy]; exact Int.dvd_zero _
    · intro x hx
      obtain ⟨hv, hK⟩ := kerL_mem.1 hx
      refine kerL_mem.2 ⟨isV_take hv, fun i hi => ?_⟩
      have h3 := hK i hi
      simp only [sgF] at h3
      rw [last0 x hx, Int.mul_zero, Int.add_zero] at h3
      rw [sg_congr fun b hb => by rw [at0_take hb]]
      exact h3
  · refine inj_le (φ := fun x => x ++ [0]) (kerL_nodup _ _ _ _) (fun x _ y _ e => List.append_inj_left' e rfl) ?_
    intro x hx
    obtain ⟨hv, hK⟩ := kerL_mem.1 hx
    refine kerL_mem.2 ⟨isV_snoc hv (by omega) (by omega), fun i hi => ?_⟩
    simp only [sgF]
    rw [at0_last hv.1, Int.mul_zero, Int.add_zero, sg_congr fun b hb => by rw [at0_app (by rw [hv.1]; exact hb)]]
    exact hK i hi
theorem cnt_free {p r k : Nat} {g : Nat → Nat → Int} (hp2 : 2 ≤ p) {x0 : Nat → Int} (h : ∀ i, i < r → sgF (fun b => g i b * x0 b) k = - g i k) : (kerL p r g (k + 1)).length = (kerL p r g k).length * p := by
  have hp0 : 0 < p := by omega
  have lin : ∀ i, i < r → ∀ (x : Nat → Int) (y : Int), sgF (fun b => g i b * (x b + y * x0 b)) k = sgF (fun b => g i b * x b) k - g i k * y := by
    intro i hi x y
    have : ∀ b, g i b * (x b + y * x0 b) = g i b * x b + y * (g i b * x0 b) := fun b => by
      rw [Int.mul_add, ← Int.mul_assoc, ← Int.mul_assoc, Int.mul_comm (g i b) y]
    rw [sg_congr fun b _ => this b, sg_add, sg_mul, h i hi, Int.mul_neg, Int.mul_comm y]
    omega
  have hl : (prs (kerL p r g k) (List.range p)).length = (kerL p r g k).length * p := by rw [prs_len, List.length_range]
  rw [← hl]
  apply Nat.le_antisymm
  · refine inj_le (φ := fun x => (can p k (fun b => at0 x b + (- at0 x k) * x0 b), (at0 x k).toNat)) (kerL_nodup _ _ _ _) ?_ ?_
    · intro x hx y hy e
      obtain ⟨hxv, _⟩ := kerL_mem.1 hx
      obtain ⟨hyv, _⟩ := kerL_mem.1 hy
      have ax := v_at hxv (Nat.lt_succ_self k)
      have ay := v_at hyv (Nat.lt_succ_self k)
      injection e with e1 e2
      have e3 : at0 x k = at0 y k := by omega
      refine v_ext hxv hyv fun t ht => ?_
      by_cases e4 : t < k
      · have c1 := can_cg p (fun b => at0 x b + (- at0 x k) * x0 b) e4
        have c2 := can_cg p (fun b => at0 y b + (- at0 y k) * x0 b) e4
        rw [e1] at c1
        have := Int.dvd_sub c2 c1
        simp only [e3] at this
        rwa [show ∀ a b c d : Int, a - (b + c) - (a - (d + c)) = d - b by intros; omega] at this
      · obtain rfl : t = k := by omega
        rw [e3, Int.sub_self]; exact Int.dvd_zero _
    · intro x hx
      obtain ⟨hv, hK⟩ := kerL_mem.1 hx
      have ax := v_at hv (Nat.lt_succ_self k)
      refine prs_mem.2 ⟨kerL_mem.2 ⟨can_v hp0 _ _, ?_⟩, by rw [List.mem_range]; omega⟩
      rw [ker_congr fun t ht => can_cg p _ ht]
      intro i hi
      rw [lin i hi]
      have h3 := hK i hi
      simp only [sgF] at h3
      rw [Int.mul_neg, Int.sub_neg]
      exact h3
  · refine inj_le (φ := fun z => can p k (fun b => at0 z.1 b + (z.2 : Int) * x0 b) ++ [(z.2 : Int)]) (prs_nodup List.nodup_range (kerL_nodup _ _ _ _)) ?_ ?_
    · rintro ⟨x, a⟩ hx ⟨y, b⟩ hy e
      obtain ⟨hxv, _⟩ := kerL_mem.1 (prs_mem.1 hx).1
      obtain ⟨hyv, _⟩ := kerL_mem.1 (prs_mem.1 hy).1
      have e2 := List.append_inj_right' e rfl
      have e1 := List.append_inj_left' e rfl
      simp only [List.cons.injEq, Int.natCast_inj, and_true] at e2
      subst e2
      have : x = y := v_ext hxv hyv fun t ht => by
        have c1 := can_cg p (fun b => at0 x b + (a : Int) * x0 b) ht
        have c2 := can_cg p (fun b => at0 y b + (a : Int) * x0 b) ht
        rw [show can p k (fun b => at0 x b + (a : Int) * x0 b) = can p k (fun b => at0 y b + (a : Int) * x0 b) from e1] at c1
        have := Int.dvd_sub c2 c1
        try simp only at this
        rwa [show ∀ a b c d : Int, a - (b + c) - (a - (d + c)) = d - b by intros; omega] at this
      rw [this]
    · rintro ⟨x, a⟩ hx
      obtain ⟨h1, h2⟩ := prs_mem.1 hx
      obtain ⟨hv, hK⟩ := kerL_mem.1 h1
      rw [List.mem_range] at h2
      have hcv := can_v hp0 k (fun b => at0 x b + (a : Int) * x0 b)
      refine kerL_mem.2 ⟨isV_snoc hcv (by omega) (by omega), fun i hi => ?_⟩
      simp only [sgF]
      rw [at0_last hcv.1, sg_congr fun b hb => by rw [at0_app (by rw [hcv.1]; exact hb)]]
      have h3 : (p : Int) ∣ sgF (fun b => g i b * at0 (can p k fun b => at0 x b + (a : Int) * x0 b) b) k - sgF (fun b => g i b * (at0 x b + (a : Int) * x0 b)) k := sg_cg fun t ht => cg_mulR _ (can_cg p _ ht)
      rw [lin i hi] at h3
      have := Int.dvd_add h3 (hK i hi)
      rwa [show ∀ a b c : Int, a - (b - c) + b = a + c by intros; omega] at this
theorem kerL_congr {p r k : Nat} {f g : Nat → Nat → Int} (h : ∀ x, Ker p r f k x ↔ Ker p r g k x) : (kerL p r f k).length = (kerL p r g k).length := by
  apply Nat.le_antisymm <;> refine len_le_sub (kerL_nodup _ _ _ _) fun x hx => ?_
  · obtain ⟨a, b⟩ := kerL_mem.1 hx; exact kerL_mem.2 ⟨a, (h _).1 b⟩
  · obtain ⟨a, b⟩ := kerL_mem.1 hx; exact kerL_mem.2 ⟨a, (h _).2 b⟩
theorem ker_cnt {p r c : Nat} {f : Nat → Nat → Int} (hp : isFld p = true) (hp2 : 2 ≤ p) (hf : InF p r c f) : ∀ k, k ≤ c → (kerL p r f k).length * p ^ (rdTo p r f k).2.length = p ^ k
  | 0, _ => by
    have : kerL p r f 0 = [[]] := by
      simp only [kerL, vecs]
      rw [List.filter_cons_of_pos, List.filter_nil]
      rw [kerB_t]
      intro i _; exact Int.dvd_zero _
    rw [this]; simp [rdTo]
  | k + 1, hk => by
    have ih := ker_cnt hp hp2 hf k (by omega)
    have hR := rd_to hp (by omega) hf k (by omega)
    have hg := inF_to (show (2 : Int) ≤ p by omega) hf k
    have hl := (rdTo_len p r f k).1
    have e1 := kerL_congr (p := p) (r := r) (k := k) (f := (rdTo p r f k).1) (g := f) fun x => ker_to hp (by omega) hf k (by omega) k x
    have e2 := kerL_congr (p := p) (r := r) (k := k + 1) (f := (rdTo p r f k).1) (g := f) fun x => ker_to hp (by omega) hf k (by omega) (k + 1) x
    rw [← e1] at ih
    rw [← e2]
    simp only [rdTo]
    split
    · rename_i h1
      have hn := nzF_le (f := (rdTo p r f k).1) (k := k) hl
      rw [cnt_piv hp hp2 hg (by omega) hR hn.1 h1 (nzF_ne hl h1), List.length_append, List.length_singleton, Nat.pow_succ, ← Nat.mul_assoc, ih, Nat.pow_succ]
    · rename_i h1
      obtain ⟨x0, hx⟩ := sol_at hR fun i h2 h3 => nzF_0 h1 h2 h3
      rw [cnt_free hp2 hx, Nat.mul_right_comm, ih, Nat.pow_succ]
theorem rk_cnt {p r c : Nat} {f : Nat → Nat → Int} (hp : isFld p = true) (hp2 : 2 ≤ p) (hf : InF p r c f) : (kerL p r f c).length * p ^ rkF p r c f = p ^ c := ker_cnt hp hp2 hf c (Nat.le_refl c)
/-- a matrix times a vector -/
def appF (f : Nat → Nat → Int) (c : Nat) (x : Nat → Int) (i : Nat) : Int := sgF (fun t => f i t * x t) c
theorem app_mu {p : Int} {d c : Nat} {f g : Nat → Nat → Int} {x : Nat → Int} (i : Nat) : p ∣ sgF (fun t => muP p d f g i t * x t) c - sgF (fun s => f i s * appF g c x s) d := by
  have e : sgF (fun s => f i s * appF g c x s) d = sgF (fun t => sgF (fun s => f i s * g s t) d * x t) c := by
    rw [sg_congr (b := fun s => sgF (fun t => f i s * g s t * x t) c) fun s _ => by
      rw [appF, ← sg_mul]
      exact sg_congr fun t _ => by rw [Int.mul_assoc]]
    rw [sg_swap]
    refine sg_congr fun t _ => ?_
    rw [Int.mul_comm (sgF _ d), ← sg_mul]
    exact sg_congr fun s _ => by rw [Int.mul_comm]
  rw [e]
  exact sg_cg fun t _ => cg_mulL _ (emod_cg _ _)
theorem ker_mu {p : Int} {r d c : Nat} {f g : Nat → Nat → Int} {x : Nat → Int} : Ker p r (muP p d f g) c x ↔ Ker p r f d (appF g c x) :=
  ⟨fun h i hi => (cg_dvd (app_mu i)).1 (h i hi), fun h i hi => (cg_dvd (app_mu i)).2 (h i hi)⟩
theorem app_add (f : Nat → Nat → Int) (c : Nat) (x y : Nat → Int) (i : Nat) : appF f c (fun t => x t - y t) i = appF f c x i - appF f c y i := by
  rw [appF, appF, appF, ← sg_sub]
  exact sg_congr fun t _ => Int.mul_sub _ _ _
theorem ker_add {p : Int} {r k : Nat} {f : Nat → Nat → Int} {x y : Nat → Int} (hx : Ker p r f k x) (hy : Ker p r f k y) : Ker p r f k fun t => x t + y t := fun i hi => by
  rw [sg_congr fun t _ => Int.mul_add _ _ _, sg_add]
  exact Int.dvd_add (hx i hi) (hy i hi)
theorem ker_sub {p : Int} {r k : Nat} {f : Nat → Nat → Int} {x y : Nat → Int} (hx : Ker p r f k x) (hy : Ker p r f k y) : Ker p r f k fun t => x t - y t := fun i hi => by
  rw [sg_congr fun t _ => Int.mul_sub _ _ _, sg_sub]
  exact Int.dvd_sub (hx i hi) (hy i hi)
theorem app_cg {p : Int} {f : Nat → Nat → Int} {c : Nat} {x y : Nat → Int} (h : ∀ t, t < c → p ∣ x t - y t) (i : Nat) : p ∣ appF f c x i - appF f c y i := sg_cg fun t ht => cg_mulR _ (h t ht)

/-- Kernels of maps B ⊆ D from v; E, G from u their preimages under C. -/
theorem frob {p v u rB rD rE rG : Nat} {B D E G C : Nat → Nat → Int} (hp : isFld p = true) (hp2 : 2 ≤ p) (fB : InF p rB v B) (fD : InF p rD v D) (fE : InF p rE u E) (fG : InF p rG u G)
    (hBD : ∀ x, Ker p rB B v x → Ker p rD D v x) (hE : ∀ x, Ker p rE E u x ↔ Ker p rB B v (appF C u x)) (hG : ∀ x, Ker p rG G u x ↔ Ker p rD D v (appF C u x)) :
    rkF p rD v D + rkF p rE u E ≤ rkF p rB v B + rkF p rG u G := by
  have hp0 : 0 < p := by omega
  -- for z in ker D that differs from an image of ker G by ker B: such an x
  have key : ∃ rep : List Int → List Int, ∀ z, (∃ x ∈ kerL p rG G u, Ker p rB B v fun t => at0 z t - appF C u (at0 x) t) → rep z ∈ kerL p rG G u ∧ Ker p rB B v fun t => at0 z t - appF C u (at0 (rep z)) t := by
    refine Classical.axiomOfChoice (r := fun z x => (∃ x ∈ kerL p rG G u, Ker p rB B v fun t => at0 z t - appF C u (at0 x) t) → x ∈ kerL p rG G u ∧ Ker p rB B v fun t => at0 z t - appF C u (at0 x) t) fun z => ?_
    rcases Classical.em (∃ x ∈ kerL p rG G u, Ker p rB B v fun t => at0 z t - appF C u (at0 x) t) with ⟨x, h1, h2⟩ | h
    · exact ⟨x, fun _ => ⟨h1, h2⟩⟩
    · exact ⟨[], fun h2 => absurd h2 h⟩
  obtain ⟨rep, hrep⟩ := key
  have main : (kerL p rG G u).length * (kerL p rB B v).length ≤ (kerL p rD D v).length * (kerL p rE E u).length := by
    rw [← prs_len, ← prs_len]
    have hz : ∀ x y, x ∈ kerL p rG G u → y ∈ kerL p rB B v → Ker p rB B v fun t => at0 (can p v fun t => appF C u (at0 x) t + at0 y t) t - appF C u (at0 x) t := by
      intro x y hx hy
      have h1 := (kerL_mem.1 hy).2
      refine (ker_congr fun t ht => ?_).2 h1
      have := can_cg p (fun t => appF C u (at0 x) t + at0 y t) ht
      rwa [show ∀ a b c : Int, a - (b + c) = a - b - c by intros; omega] at this
    refine inj_le (φ := fun w => (can p v fun t => appF C u (at0 w.1) t + at0 w.2 t, can p u fun t => at0 w.1 t - at0 (rep (can p v fun t => appF C u (at0 w.1) t + at0 w.2 t)) t)) (prs_nodup (kerL_nodup _ _ _ _) (kerL_nodup _ _ _ _)) ?_ ?_
    · rintro ⟨x, y⟩ h1 ⟨x', y'⟩ h2 e
      obtain ⟨hx, hy⟩ := prs_mem.1 h1
      obtain ⟨hx', hy'⟩ := prs_mem.1 h2
      simp only [Prod.mk.injEq] at e
      obtain ⟨e1, e2⟩ := e
      have ex : x = x' := v_ext (kerL_mem.1 hx).1 (kerL_mem.1 hx').1 fun t ht => by
        have c1 := can_cg p (fun t => at0 x t - at0 (rep (can p v fun t => appF C u (at0 x) t + at0 y t)) t) ht
        have c2 := can_cg p (fun t => at0 x' t - at0 (rep (can p v fun t => appF C u (at0 x') t + at0 y' t)) t) ht
        rw [e2] at c1
        rw [e1] at c1
        have := Int.dvd_sub c2 c1
        try simp only at this
        rwa [show ∀ a b c d : Int, a - (b - c) - (a - (d - c)) = d - b by intros; omega] at this
      subst ex
      have ey : y = y' := v_ext (kerL_mem.1 hy).1 (kerL_mem.1 hy').1 fun t ht => by
        have c1 := can_cg p (fun t => appF C u (at0 x) t + at0 y t) ht
        have c2 := can_cg p (fun t => appF C u (at0 x) t + at0 y' t) ht
        rw [e1] at c1
        have := Int.dvd_sub c2 c1
        try simp only at this
        rwa [show ∀ a b c d : Int, a - (b + c) - (a - (b + d)) = d - c by intros; omega] at this
      rw [ey]
    · rintro ⟨x, y⟩ h1
      obtain ⟨hx, hy⟩ := prs_mem.1 h1
      have hr := hrep (can p v fun t => appF C u (at0 x) t + at0 y t) ⟨x, hx, hz x y hx hy⟩
      refine prs_mem.2 ⟨kerL_mem.2 ⟨can_v hp0 _ _, ?_⟩, kerL_mem.2 ⟨can_v hp0 _ _, ?_⟩⟩
      · rw [ker_congr fun t ht => can_cg p _ ht]
        exact ker_add ((hG _).1 (kerL_mem.1 hx).2) (hBD _ (kerL_mem.1 hy).2)
      · rw [ker_congr fun t ht => can_cg p _ ht, hE]
        have h3 := ker_sub hr.2 (hz x y hx hy)
        refine (ker_congr fun t _ => ?_).2 h3
        rw [app_add, show ∀ a b c : Int, a - b - (c - b - (c - a)) = 0 by intros; omega]
        exact Int.dvd_zero _
  have cB := rk_cnt hp hp2 fB
  have cD := rk_cnt hp hp2 fD
  have cE := rk_cnt hp hp2 fE
  have cG := rk_cnt hp hp2 fG
  generalize (kerL p rB B v).length = b at *
  generalize (kerL p rD D v).length = d at *
  generalize (kerL p rE E u).length = e at *
  generalize (kerL p rG G u).length = g at *
  generalize rkF p rB v B = kB at *
  generalize rkF p rD v D = kD at *
  generalize rkF p rE u E = kE at *
  generalize rkF p rG u G = kG at *
  have h1 : g * b * (p ^ (kD + kE) * p ^ (kB + kG)) ≤ d * e * (p ^ (kD + kE) * p ^ (kB + kG)) := Nat.mul_le_mul_right _ main
  have e1 : g * b * (p ^ (kD + kE) * p ^ (kB + kG)) = p ^ (kD + kE) * ((g * p ^ kG) * (b * p ^ kB)) := by
    rw [Nat.pow_add p kB kG]; ac_rfl
  have e2 : d * e * (p ^ (kD + kE) * p ^ (kB + kG)) = p ^ (kB + kG) * ((d * p ^ kD) * (e * p ^ kE)) := by
    rw [Nat.pow_add p kD kE]; ac_rfl
  rw [e1, e2, cB, cD, cE, cG, Nat.mul_comm (p ^ u)] at h1
  have h2 : p ^ (kD + kE) ≤ p ^ (kB + kG) := Nat.le_of_mul_le_mul_right h1 (Nat.mul_pos (Nat.pow_pos hp0) (Nat.pow_pos hp0))
  exact (Nat.pow_le_pow_iff_right (by omega)).1 h2
end Go.Proofs.Ytjlgijdkfihhlaa

/- RankTable: plain part. -/
namespace Go.Proofs.Ytjlgijdkfihhlaa
set_option linter.unusedVariables false
set_option linter.unusedSimpArgs false
open Go.RowKit

/-- the dimension at a vertex; the map of the arrow from there to the next one -/
def dN (x : Rp) (j : Nat) : Nat := (x.d.getD j 0).toNat
def mpF (x : Rp) (j : Nat) : Nat → Nat → Int := entry (x.m.getD j mx0).a (dN x j)
/-- the map from v to v + n -/
def pdF (x : Rp) (v : Nat) : Nat → Nat → Nat → Int
  | 0 => idF
  | n + 1 => muP x.p (dN x (v + n)) (mpF x (v + n)) (pdF x v n)
def rtF (x : Rp) (v w : Nat) : Int := if w < v then 0 else (rkF x.p (dN x w) (dN x v) (pdF x v (w - v)) : Int)
def okL (x : Rp) : Bool := isRep x && isL x.q
def rtM (x : Rp) : List (List Int) × Bool := if okL x then (matF x.d.length (rtF x), true) else ([], false)
def rtA (L : Nat) (f : Nat → Nat → Int) (v : Nat) : List (List Int) := (List.range L).map fun a => if a < v then rowF L (f a) else []
def rtR (L : Nat) (f : Nat → Nat → Int) (v k : Nat) : List Int := rowF L fun b => if b < k then f v b else 0
def rtB (L : Nat) (f : Nat → Nat → Int) (v k : Nat) : List (List Int) := (List.range L).map fun a => if a < v then rowF L (f a) else if a = v then rtR L f v k else []
theorem rtA_0 (L : Nat) (f : Nat → Nat → Int) : rtA L f 0 = List.replicate L [] := by
  simp only [rtA]
  rw [← List.length_range (n := L), ← List.map_const', List.length_range]
  refine List.map_congr_left fun a _ => ?_
  rw [if_neg (by omega)]
theorem rtA_length (L : Nat) (f : Nat → Nat → Int) (v : Nat) : (rtA L f v).length = L := by simp [rtA]
theorem rtB_length (L : Nat) (f : Nat → Nat → Int) (v k : Nat) : (rtB L f v k).length = L := by simp [rtB]
theorem rtB_get {L v : Nat} (f : Nat → Nat → Int) (k : Nat) (h : v < L) : (rtB L f v k)[v]? = some (rtR L f v k) := by
  simp [rtB, h]
theorem rtR_0 (L : Nat) (f : Nat → Nat → Int) (v : Nat) : List.replicate L 0 = rtR L f v 0 := by
  rw [show List.replicate L (0 : Int) = rowF L (fun _ => 0) from by rw [rowF, List.map_const', List.length_range]]
  exact rowF_congr fun b _ => by rw [if_neg (by omega)]
theorem rtR_set {L v k : Nat} (f : Nat → Nat → Int) : (rtR L f v k).set k (f v k) = rtR L f v (k + 1) := by
  rw [rtR, rowF_set]
  refine rowF_congr fun b _ => ?_
  by_cases e : b = k
  · rw [if_pos e, if_pos (by omega), e]
  · rw [if_neg e]
    by_cases h : b < k
    · rw [if_pos h, if_pos (by omega)]
    · rw [if_neg h, if_neg (by omega)]
theorem rtR_diag {L v : Nat} (f : Nat → Nat → Int) (h0 : ∀ w, w < v → f v w = 0) : (rtR L f v 0).set v (f v v) = rtR L f v (v + 1) := by
  rw [rtR, rowF_set]
  refine rowF_congr fun b _ => ?_
  by_cases e : b = v
  · rw [if_pos e, if_pos (by omega), e]
  · rw [if_neg e, if_neg (by omega)]
    by_cases h : b < v
    · rw [if_pos (by omega), h0 b h]
    · rw [if_neg (by omega)]
theorem rt_set {L v : Nat} {F G : Nat → List Int} {r : List Int} (h : ∀ a, a ≠ v → F a = G a) (hv : G v = r) : ((List.range L).map F).set v r = (List.range L).map G := by
  apply List.ext_getElem?
  intro a
  rw [List.getElem?_set, List.length_map, List.length_range]
  by_cases ha : a < L
  · by_cases e : v = a
    · subst e
      rw [if_pos rfl, if_pos ha]
      simp [ha, hv]
    · rw [if_neg e]
      simp [ha, h a (fun h => e h.symm)]
  · by_cases e : v = a
    · subst e
      rw [if_pos rfl, if_neg ha]
      simp [Nat.le_of_not_lt ha]
    · rw [if_neg e]
      simp [Nat.le_of_not_lt ha]
theorem rtA_set {L v : Nat} (f : Nat → Nat → Int) : (rtA L f v).set v (List.replicate L 0) = rtB L f v 0 := by
  refine rt_set (fun a ha => ?_) ?_
  · by_cases h : a < v
    · rw [if_pos h, if_pos h]
    · rw [if_neg h, if_neg h, if_neg ha]
  · rw [if_neg (by omega), if_pos rfl]
    exact (rtR_0 L f v).symm
theorem rtB_set {L v k k' : Nat} (f : Nat → Nat → Int) : (rtB L f v k).set v (rtR L f v k') = rtB L f v k' := by
  refine rt_set (fun a ha => ?_) ?_
  · by_cases h : a < v
    · rw [if_pos h, if_pos h]
    · rw [if_neg h, if_neg h, if_neg ha, if_neg ha]
  · rw [if_neg (by omega), if_pos rfl]
theorem rtR_end (L : Nat) (f : Nat → Nat → Int) (v : Nat) : rtR L f v L = rowF L (f v) := rowF_congr fun b hb => by rw [if_pos hb]
theorem rtB_end (L : Nat) (f : Nat → Nat → Int) (v : Nat) : rtB L f v L = rtA L f (v + 1) := by
  refine List.map_congr_left fun a _ => ?_
  by_cases h : a < v
  · rw [if_pos h, if_pos (by omega)]
  · rw [if_neg h]
    by_cases e : a = v
    · rw [if_pos e, if_pos (by omega), rtR_end, e]
    · rw [if_neg e, if_neg (by omega)]
theorem rtA_end (L : Nat) (f : Nat → Nat → Int) : rtA L f L = matF L f := List.map_congr_left fun a ha => by rw [if_pos (List.mem_range.1 ha)]

/-! ### the identity's rank -/
theorem rk_id {p : Nat} (hp : isFld p = true) (d : Nat) : rkF p d d idF = d := by
  have hp2 : 2 ≤ p := by have := isFld_r hp; omega
  have hf : InF p d d idF := fun a b _ _ => by unfold idF; split <;> omega
  have hc := rk_cnt hp hp2 hf
  have h1 : (kerL p d idF d).length = 1 := by
    have hK : ∀ x, x ∈ kerL p d idF d → ∀ t, t < d → (p : Int) ∣ at0 x t - 0 := by
      intro x hx t ht
      have h := (kerL_mem.1 hx).2 t ht
      rw [sg_congr (b := fun s => if s = t then at0 x s else 0) fun s _ => by
        unfold idF
        by_cases e : t = s
        · rw [if_pos e, if_pos e.symm, Int.one_mul]
        · rw [if_neg e, if_neg (fun h => e h.symm), Int.zero_mul], sg_one (h := fun s => at0 x s) ht] at h
      rwa [Int.sub_zero]
    have hz : List.replicate d (0 : Int) ∈ kerL p d idF d := by
      refine kerL_mem.2 ⟨⟨by simp, fun e he => ?_⟩, fun i hi => ?_⟩
      · obtain ⟨_, rfl⟩ := List.mem_replicate.1 he
        omega
      · refine sg_dvd fun t ht => ?_
        have : at0 (List.replicate d (0 : Int)) t = 0 := by simp [at0, ht]
        rw [this, Int.mul_zero]; exact Int.dvd_zero _
    apply Nat.le_antisymm
    · refine len_le_sub (m := [List.replicate d (0 : Int)]) (kerL_nodup _ _ _ _) fun x hx => ?_
      rw [List.mem_singleton]
      refine v_ext (kerL_mem.1 hx).1 (kerL_mem.1 hz).1 fun t ht => ?_
      have : at0 (List.replicate d (0 : Int)) t = 0 := by simp [at0, ht]
      rw [this]
      exact hK x hx t ht
    · exact List.length_pos_of_mem hz
  rw [h1, Nat.one_mul] at hc
  exact (Nat.pow_right_inj (by omega)).1 hc

/-! ### a valid representation of a line -/
theorem okL_t {x : Rp} (h : okL x = true) : isRep x = true ∧ isL x.q = true ∧ isFld x.p = true ∧ 1 ≤ x.d.length ∧ x.d.length ≤ 5 ∧ x.m.length + 1 = x.d.length ∧ (∀ j, j < x.d.length → x.d[j]? = some (dN x j : Int) ∧ dN x j ≤ 4) ∧
    ∀ j, j + 1 < x.d.length → x.m[j]? = some (mxF (dN x (j + 1)) (dN x j) (mpF x j)) ∧ InF x.p (dN x (j + 1)) (dN x j) (mpF x j) := by
  simp only [okL, Bool.and_eq_true] at h
  obtain ⟨h1, h2⟩ := h
  obtain ⟨a1, a2, a3, _⟩ := isRep_t.1 h1
  obtain ⟨b1, b2, b3, _⟩ := areDims_t.1 a2
  obtain ⟨⟨c1, c2⟩, c3, _⟩ := isQ_t.1 b1
  have hL := h2
  simp only [isL, Bool.and_eq_true, decide_eq_true_eq, List.all_eq_true, List.mem_range] at hL
  obtain ⟨⟨_, d1⟩, d2⟩ := hL
  have hd : ∀ j, j < x.d.length → x.d[j]? = some (dN x j : Int) ∧ dN x j ≤ 4 := fun j hj => by
    have e := List.getElem?_eq_getElem hj
    have := b3 _ (List.mem_of_getElem? e)
    have e2 : dN x j = (x.d[j]).toNat := by rw [dN, List.getD_eq_getElem?_getD, e]; rfl
    refine ⟨by rw [e, e2]; congr 1; omega, by omega⟩
  refine ⟨h1, h2, a1, by omega, by omega, by omega, hd, fun j hj => ?_⟩
  have hk : j < x.q.f.length := by omega
  obtain ⟨m, nf, nt, yf, yt, em, ef, et, df, dt, hm, hr, _⟩ := isRep_at h1 hk
  have h3 := d2 j hk
  simp only [List.getD_eq_getElem?_getD, ef, et, Option.getD_some, lnAt, decide_eq_true_eq] at h3
  obtain rfl : nf = j := by omega
  obtain rfl : nt = nf + 1 := by omega
  have e1 := (hd nf (by omega)).1
  have e2 := (hd (nf + 1) (by omega)).1
  rw [df] at e1
  rw [dt] at e2
  injection e1 with e1
  injection e2 with e2
  have e1' : yf = dN x nf := by omega
  have e2' : yt = dN x (nf + 1) := by omega
  have e3 : mpF x nf = entry m.a yf := by rw [mpF, List.getD_eq_getElem?_getD, em, e1']; rfl
  rw [e3, ← e1', ← e2']
  exact ⟨by rw [em]; congr 1, hr⟩
theorem pdF_inF {x : Rp} (hp : isFld x.p = true) (v : Nat) : ∀ n, InF x.p (dN x (v + n)) (dN x v) (pdF x v n)
  | 0 => fun a b _ _ => by
    have := isFld_r hp
    simp only [pdF, idF]
    split <;> omega
  | n + 1 => fun a b _ _ => by
    have := isFld_r hp
    exact muP_rng this.1 _ _ _ _ _
theorem rtF_diag {x : Rp} (hp : isFld x.p = true) (v : Nat) : rtF x v v = dN x v := by
  obtain ⟨P, hP⟩ := Int.eq_ofNat_of_zero_le (show 0 ≤ x.p by have := isFld_r hp; omega)
  rw [rtF, if_neg (by omega), Nat.sub_self, pdF]
  have hp' := hp
  rw [hP] at hp' ⊢
  rw [rk_id hp']
theorem rtF_low (x : Rp) {v w : Nat} (h : w < v) : rtF x v w = 0 := if_pos h
theorem rtF_rng {x : Rp} (hd : ∀ j, dN x j ≤ 4) (v w : Nat) : 0 ≤ rtF x v w ∧ rtF x v w ≤ 4 := by
  unfold rtF
  split
  · omega
  · have := rkF_le x.p (dN x w) (dN x v) (pdF x v (w - v))
    have := hd w
    omega
theorem dN_all {x : Rp} (h : okL x = true) (j : Nat) : dN x j ≤ 4 := by
  obtain ⟨_, _, _, _, _, _, h1, _⟩ := okL_t h
  by_cases hj : j < x.d.length
  · exact (h1 j hj).2
  · simp [dN, List.getD_eq_getElem?_getD, List.getElem?_eq_none (Nat.le_of_not_lt hj)]
theorem tot_matF (V : Nat) (g : Nat → Nat → Int) : ∀ n, tot ((List.range n).map fun a => rowF V (g a)) = n * V
  | 0 => by simp [tot]
  | n + 1 => by rw [List.range_succ, List.map_append, List.map_singleton, tot_snoc, tot_matF V g n, rowF_length, Nat.succ_mul]
theorem rtM_tot (x : Rp) : tot (rtM x).1 ≤ 1000 := by
  unfold rtM
  split
  · rename_i h
    obtain ⟨_, _, _, _, h5, _⟩ := okL_t h
    rw [matF, tot_matF]
    have : x.d.length * x.d.length ≤ 5 * 5 := Nat.mul_le_mul h5 h5
    omega
  · simp [tot]
end Go.Proofs.Ytjlgijdkfihhlaa

/- Products of matrices: the walk of the program's times. -/
namespace Go.Proofs.Ytjlgijdkfihhlaa
set_option linter.unusedVariables false
set_option linter.unusedSimpArgs false
open Go.RowKit

theorem row_d0 (r : Int) (d L i cap : Nat) (A : Option Addr) (w : World) (hd : d = 0) (hL : L = 0) (hb : cap ≤ 9223372036854775807) (hi : i ≤ 1000) :
    Calls Try.prog 148 #[.agg #[.int .i64 r, .int .i64 d, .slice A L cap], .int .i64 i] w fun e w' => ∃ A', e = .returned (.slice A' 0 cap) ∧ Below w.heap.size w w' := by
  subst hd hL
  exact row_zero r i cap A w hb hi
theorem addMultiple_d0 (p k : Int) (va vb : Value) (B : Option Addr) (d c : Nat) (w : World) (hd : d = 0) (hv : ∃ A n m, va = .slice A n m) (hvb : vb = .slice B d c) (hc : c ≤ 9223372036854775807) :
    Calls Try.prog 175 #[.int .i64 p, va, .int .i64 k, vb] w fun e w' => e = .returned va ∧ w' = w := by
  subst hd hvb
  exact addMultiple_zero p k va B c w hv hc
theorem le_pred {p : Int} {r c : Nat} {f : Nat → Nat → Int} (hp : 2 ≤ p ∧ p ≤ 5) (h : InF p r c f) {a b : Nat} (ha : a < r) (hb : b < c) : 0 ≤ f a b ∧ f a b ≤ 4 := by
  have := h a b ha hb
  omega
set_option maxHeartbeats 6400000 in
set_option maxRecDepth 100000 in
theorem times_any (p : Int) (u v : Value) (r c d : Nat) (f g : Nat → Nat → Int) (w0 : World) (hp : 2 ≤ p ∧ p ≤ 5) (hr : r ≤ 1000) (hc : c ≤ 1000) (hd : d ≤ 1000) (hu : MxR w0 w0.heap.size u (mxF r c f)) (hv : MxR w0 w0.heap.size v (mxF c d g)) (hf : InF p r c f) (hg : InF p c d g) :
    Calls Try.prog 124 #[.int .i64 p, u, v] w0 fun e w' => ∃ m, e = .returned m ∧ MxO w' w0.heap.size w'.heap.size m (mxF r d (muP p c f g)) ∧ Below w0.heap.size w0 w' := by
  have hu' := hu
  have hv' := hv
  obtain ⟨U, uc, rfl⟩ := hu.form
  obtain ⟨V, vc, rfl⟩ := hv.form
  simp only [mxF, flat_length] at hu hu' hv hv' ⊢
  obtain ⟨UL, hUL⟩ : ∃ z, r * c = z := ⟨_, rfl⟩
  obtain ⟨VL, hVL⟩ : ∃ z, c * d = z := ⟨_, rfl⟩
  rw [hUL] at hu hu' ⊢
  rw [hVL] at hv hv' ⊢
  have HUL := Lib.hid hUL
  have HVL := Lib.hid hVL
  clear hu hv hUL hVL
  obtain ⟨W, hW⟩ : ∃ W, W = ((w0.alloc (.cells #[.int .i64 r, .int .i64 c, .slice U UL uc] 95)).alloc (.cells #[.int .i64 c, .int .i64 d, .slice V VL vc] 95)).alloc (.cells #[.int .i64 0, .int .i64 0, .slice none 0 0] 95) := ⟨_, rfl⟩
  have g0 : Below w0.heap.size w0 W := by rw [hW]; exact (((Below.refl _ _).alloc (Nat.le_refl _) _).alloc (by simp) _).alloc (by simp; omega) _
  have k1 : Blk W w0.heap.size 95 #[.int .i64 r, .int .i64 c, .slice U UL uc] := by rw [hW]; exact ((Blk.new _ _ _).alloc _).alloc _
  have k2 : Blk W (w0.heap.size + 1) 95 #[.int .i64 c, .int .i64 d, .slice V VL vc] := by
    rw [hW]
    have := (Blk.new (w0.alloc (.cells #[.int .i64 r, .int .i64 c, .slice U UL uc] 95)) 95 #[.int .i64 c, .int .i64 d, .slice V VL vc]).alloc (.cells #[.int .i64 0, .int .i64 0, .slice none 0 0] 95)
    simpa only [World.size_alloc] using this
  have k3 : Blk W (w0.heap.size + 1 + 1) 95 #[.int .i64 0, .int .i64 0, .slice none 0 0] := by
    rw [hW]
    have := Blk.new ((w0.alloc (.cells #[.int .i64 r, .int .i64 c, .slice U UL uc] 95)).alloc (.cells #[.int .i64 c, .int .i64 d, .slice V VL vc] 95)) 95 #[.int .i64 0, .int .i64 0, .slice none 0 0]
    simpa only [World.size_alloc] using this
  have sz : W.heap.size = w0.heap.size + 1 + 1 + 1 := by rw [hW]; simp
  have SZ := Lib.hid sz
  have HU := Lib.hid hu'
  have HV := Lib.hid hv'
  have HF := Lib.hid hf
  have HG := Lib.hid hg
  have a0 := k1.cell' (i := 0) rfl
  have a1 := k1.cell' (i := 1) rfl
  have a2 := k1.cell' (i := 2) rfl
  have b0 := k2.cell' (i := 0) rfl
  have b1 := k2.cell' (i := 1) rfl
  have b2 := k2.cell' (i := 2) rfl
  clear hu' hv' hf hg sz
  go_enter Try.func124, Try.ntmps124
  go_wp2_with fail
  rw [← hW]; clear hW
  refine (zero_any r d _ (by omega) (by omega) (by omega) (by omega)).mono ?_; rintro e w1 ⟨v1, rfl, hZ, hb1⟩
  rw [zmx_flat] at hZ
  obtain ⟨A, cap, e1⟩ := hZ.form
  subst e1
  simp only [mxF, flat_length] at hZ ⊢
  obtain ⟨sA, esA, oZ, hr1, hr2⟩ := hZ
  simp only [Value.agg.injEq, Array.mk.injEq, List.cons.injEq, and_true, true_and] at esA
  subst esA
  obtain ⟨L, hL⟩ : ∃ z, r * d = z := ⟨_, rfl⟩
  rw [hL] at oZ ⊢
  have HL := Lib.hid hL
  clear hL
  have s1 := hb1.size
  obtain ⟨w2, hw2⟩ : ∃ u, u = w1.alloc (.cells #[.int .i64 r, .int .i64 d, .slice A L cap] 95) := ⟨_, rfl⟩
  have b2' : Below w1.heap.size w1 w2 := by rw [hw2]; exact below_alloc _ _
  have k4 : Blk w2 w1.heap.size 95 #[.int .i64 r, .int .i64 d, .slice A L cap] := by rw [hw2]; exact Blk.new _ _ _
  have oZ2 := oZ.below b2'
  rw [muS_0 p c r d f g] at oZ2
  have s2 := b2'.size
  have l4 := k4.lt
  have gW2 := bthen hb1 b2'
  have K1 := Lib.hid k1
  have K2 := Lib.hid k2
  have K3 := Lib.hid k3
  have G0 := Lib.hid g0
  have hWs := SZ.out
  clear a0 a1 a2 b0 b1 b2 oZ b2' hb1 k1 k2 k3 g0
  have k1 := (K1.out).below gW2 (by omega)
  have a0 := k1.cell' (i := 0) rfl
  rw [hw2] at a0
  go_wp2
  rw [← hw2]; clear hw2 a0 k1
  go_loopw [18] (fun i wr => ∃ i' : Nat, i' ≤ r ∧ i = .int .i64 i' ∧ Blk wr w1.heap.size 95 #[.int .i64 r, .int .i64 d, .slice A L cap] ∧ IntsO wr W.heap.size w1.heap.size (.slice A L cap) (flat r d (muS p c i' 0 f g)) ∧ Below W.heap.size W wr) (fun i _ => r - (intOf i).toNat)
  case atStart => exact ⟨0, Nat.zero_le _, rfl, k4, oZ2, gW2⟩
  case round =>
    clear k4 oZ2 gW2
    obtain ⟨i, hi, rfl, k4, oA, gW⟩ := hrel
    have sW := gW.size
    by_cases hlr : i < r
    · have k1 := K1.out.below gW (by omega)
      have k2 := K2.out.below gW (by omega)
      have a0 := k1.cell' (i := 0) rfl
      have a1 := k1.cell' (i := 1) rfl
      have a2 := k1.cell' (i := 2) rfl
      have b0 := k2.cell' (i := 0) rfl
      have b1 := k2.cell' (i := 1) rfl
      have b2 := k2.cell' (i := 2) rfl
      have gw := G0.out.trans (gW.mono (by omega))
      have hUr : MxR wr w0.heap.size (.agg #[.int .i64 r, .int .i64 c, .slice U UL uc]) (mxF r c f) := MxR.below gw HU.out
      have HUR := Lib.hid hUr
      clear hUr
      go_wp2_with fail
      refine (row_rd _ r c i w0.heap.size f _ HUR.out gw.size hr hc hlr).mono ?_; rintro e w3 ⟨vr, rfl, hR, hb3⟩
      obtain ⟨RA, rc, ev, hrc1, hrc2, _, hR⟩ := hR.open_
      subst ev
      rw [rowF_length] at hR ⊢
      have s3 := hb3.size
      have HR3 := Lib.hid hR
      have k43 := k4.call hb3
      have oA3 := oA.below hb3
      have gW3 := gW.trans (hb3.mono sW)
      clear a0 a1 a2 b0 b1 b2 k1 k2 hR k4 oA gW gw hb3
      go_wp2
      go_loopw [25] (fun k wr => ∃ k' : Nat, k' ≤ c ∧ k = .int .i64 k' ∧ Blk wr w1.heap.size 95 #[.int .i64 r, .int .i64 d, .slice A L cap] ∧ IntsO wr W.heap.size w1.heap.size (.slice A L cap) (flat r d (muS p c i k' f g)) ∧ Below W.heap.size W wr ∧ SlI wr w0.heap.size (.slice RA c rc) (rowF c (f i))) (fun k _ => c - (intOf k).toNat)
      case atStart => exact ⟨0, Nat.zero_le _, rfl, k43, oA3, gW3, HR3.out⟩
      case round =>
        clear k43 oA3 gW3
        obtain ⟨k, hk, rfl, k4, oA, gW, hR⟩ := hrel
        have sW' := gW.size
        by_cases hlc : k < c
        · have hR2 : SlI wr w0.heap.size (.slice RA (rowF c (f i)).length rc) (rowF c (f i)) := by rw [rowF_length]; exact hR
          obtain ⟨b, o, x, rfl, hbl, HXX, x1, _⟩ := SlI.at_ (k := k) hR2 (by rw [rowF_length]; exact hlc)
          have hxx := HXX.out
          rw [rowF_get _ hlc] at hxx
          injection hxx with hxx
          subst hxx
          have hfx := le_pred hp HF.out hlr hlc
          obtain ⟨xk, hx⟩ : ∃ x, f i k = x := ⟨_, rfl⟩
          rw [hx] at x1 hfx
          have HX := Lib.hid hx
          have HRR := Lib.hid hR
          have hOA := Lib.hid oA
          have hK4 := Lib.hid k4
          have hGW := Lib.hid gW
          clear hx hR hR2 HXX oA k4 gW
          go_wp2
          clear x1
          rcases Nat.eq_zero_or_pos d with hd0 | hd0
          · have hL0 : L = 0 := by have := HL.out; rw [hd0, Nat.mul_zero] at this; exact this.symm
            have e0 : ∀ h, flat r d h = [] := fun h => by simp [flat, hd0]
            have E0 := Lib.hid e0
            have HD0 := Lib.hid hd0
            have HL0 := Lib.hid hL0
            have hcap : cap ≤ 9223372036854775807 := by
              obtain ⟨_, cL, eL, lA1, lA2⟩ := (hOA.out).1.form
              injection eL with eLx eLy eL3
              omega
            clear hd0 hL0 e0
            refine wp_region_net (by kernel_rfl) [.eq (.int .i64 p), .eq (.agg #[.int .i64 r, .int .i64 d, .slice A L cap]), .eq (.int .i64 i), rel 3 (fun u lo hi w => ∃ A n m, u = .slice A n m), .eq (.int .i64 xk), .eq (.agg #[.int .i64 c, .int .i64 d, .slice V VL vc]), .eq (.int .i64 k), rel 7 (fun u lo hi w => ∃ A m, m ≤ 9223372036854775807 ∧ u = .slice A d m)] [[], [], [], [1, 2], [], [], [], [1, 2, 3, 5, 6], [0, 1, 2, 3, 4, 5, 6, 7]] 8 (by kernel_rfl) ⟨trivial, trivial, trivial, rel_stable (fun u lo hi w w' h hb => h), trivial, trivial, trivial, rel_stable (fun u lo hi w w' h hb => h), trivial⟩ ⟨?_, ?_, ?_, ?_, ?_, ?_, ?_, ?_, trivial⟩ ?_
            · intro x w hb hk Q' hQ
              clear hk
              simp only [netAct, dstAt, List.getElem?_toArray, List.getElem?_cons_zero, List.getElem?_cons_succ, Option.bind_some, Act.put, List.setIfInBounds_toArray, List.set_cons_zero, List.set_cons_succ] at hQ ⊢
              go_wp2
              exact hQ (.int .i64 p) _ (Below.refl _ _) rfl
            · intro x w hb hk Q' hQ
              clear hk
              simp only [netAct, dstAt, List.getElem?_toArray, List.getElem?_cons_zero, List.getElem?_cons_succ, Option.bind_some, Act.put, List.setIfInBounds_toArray, List.set_cons_zero, List.set_cons_succ] at hQ ⊢
              have kq := hK4.out.call hb
              have z0 := kq.cell' (i := 0) rfl
              have z1 := kq.cell' (i := 1) rfl
              have z2 := kq.cell' (i := 2) rfl
              go_wp2
              exact hQ (.agg #[.int .i64 r, .int .i64 d, .slice A L cap]) _ (Below.refl _ _) rfl
            · intro x w hb hk Q' hQ
              clear hk
              simp only [netAct, dstAt, List.getElem?_toArray, List.getElem?_cons_zero, List.getElem?_cons_succ, Option.bind_some, Act.put, List.setIfInBounds_toArray, List.set_cons_zero, List.set_cons_succ] at hQ ⊢
              go_wp2
              exact hQ (.int .i64 i) _ (Below.refl _ _) rfl
            · intro x w hb hk Q' hQ
              have h1 : x.v 1 = .agg #[.int .i64 r, .int .i64 d, .slice A L cap] := (hk 1 (by decide)).1
              have h2 : x.v 2 = .int .i64 i := (hk 2 (by decide)).1
              clear hk
              simp only [netAct, dstAt, List.getElem?_toArray, List.getElem?_cons_zero, List.getElem?_cons_succ, Option.bind_some, Act.put, List.setIfInBounds_toArray, List.set_cons_zero, List.set_cons_succ] at hQ ⊢
              simp only [h1, h2] at hQ ⊢
              clear h1 h2
              go_wp2_with fail
              refine (row_d0 (r : Int) d L i cap A _ HD0.out HL0.out hcap (by omega)).mono ?_; rintro e w5 ⟨A5, rfl, hb5⟩
              go_wp2
              exact hQ _ _ hb5 ⟨_, _, _, rfl⟩
            · intro x w hb hk Q' hQ
              clear hk
              simp only [netAct, dstAt, List.getElem?_toArray, List.getElem?_cons_zero, List.getElem?_cons_succ, Option.bind_some, Act.put, List.setIfInBounds_toArray, List.set_cons_zero, List.set_cons_succ] at hQ ⊢
              go_wp2
              exact hQ (.int .i64 xk) _ (Below.refl _ _) rfl
            · intro x w hb hk Q' hQ
              clear hk
              simp only [netAct, dstAt, List.getElem?_toArray, List.getElem?_cons_zero, List.getElem?_cons_succ, Option.bind_some, Act.put, List.setIfInBounds_toArray, List.set_cons_zero, List.set_cons_succ] at hQ ⊢
              have kq := (K2.out.below hGW.out (by omega)).call hb
              have z0 := kq.cell' (i := 0) rfl
              have z1 := kq.cell' (i := 1) rfl
              have z2 := kq.cell' (i := 2) rfl
              go_wp2
              exact hQ (.agg #[.int .i64 c, .int .i64 d, .slice V VL vc]) _ (Below.refl _ _) rfl
            · intro x w hb hk Q' hQ
              clear hk
              simp only [netAct, dstAt, List.getElem?_toArray, List.getElem?_cons_zero, List.getElem?_cons_succ, Option.bind_some, Act.put, List.setIfInBounds_toArray, List.set_cons_zero, List.set_cons_succ] at hQ ⊢
              go_wp2
              exact hQ (.int .i64 k) _ (Below.refl _ _) rfl
            · intro x w hb hk Q' hQ
              have h1 : x.v 1 = .agg #[.int .i64 r, .int .i64 d, .slice A L cap] := (hk 1 (by decide)).1
              have h2 : x.v 2 = .int .i64 i := (hk 2 (by decide)).1
              have h3 : ∃ A n m, (x.v 3) = .slice A n m := (hk 3 (by decide)).1
              have h5 : x.v 5 = .agg #[.int .i64 c, .int .i64 d, .slice V VL vc] := (hk 5 (by decide)).1
              have h6 : x.v 6 = .int .i64 k := (hk 6 (by decide)).1
              have s3 := (hk 3 (by decide)).2
              clear hk
              simp only [netAct, dstAt, List.getElem?_toArray, List.getElem?_cons_zero, List.getElem?_cons_succ, Option.bind_some, Act.put, List.setIfInBounds_toArray, List.set_cons_zero, List.set_cons_succ] at hQ ⊢
              simp only [h1, h2, h5, h6] at hQ ⊢
              clear h1 h2 h5 h6
              have gz := (G0.out.trans (hGW.out.mono (by omega))).trans (hb.mono (by omega))
              have HVR := Lib.hid (MxR.below gz HV.out)
              have gzs := gz.size
              clear gz
              go_wp2_with fail
              refine (row_rd _ c d k w0.heap.size g _ HVR.out gzs hc hd hlc).mono ?_; rintro e w5 ⟨v5, rfl, hR5, hb5⟩
              obtain ⟨A5, c5, e5, _, hc5, _⟩ := hR5.open_
              subst e5
              rw [rowF_length]
              go_wp2
              exact hQ _ _ hb5 ⟨_, _, hc5, rfl⟩
            · intro x w hb hk hiv hdj
              have h0 : x.v 0 = .int .i64 p := hk 0 (by decide)
              have h1 : x.v 1 = .agg #[.int .i64 r, .int .i64 d, .slice A L cap] := hk 1 (by decide)
              have h2 : x.v 2 = .int .i64 i := hk 2 (by decide)
              have h3 : ∃ A n m, (x.v 3) = .slice A n m := hk 3 (by decide)
              have h4 : x.v 4 = .int .i64 xk := hk 4 (by decide)
              have h5 : x.v 5 = .agg #[.int .i64 c, .int .i64 d, .slice V VL vc] := hk 5 (by decide)
              have h6 : x.v 6 = .int .i64 k := hk 6 (by decide)
              have h7 : ∃ A m, m ≤ 9223372036854775807 ∧ (x.v 7) = .slice A d m := hk 7 (by decide)
              clear hk
              simp only [netAct, dstAt, List.getElem?_toArray, List.getElem?_cons_zero, List.getElem?_cons_succ, Option.bind_some, Act.put, List.setIfInBounds_toArray, List.set_cons_zero, List.set_cons_succ]
              simp only [List.drop_succ_cons, List.drop_zero, h0, h1, h2, h4, h5, h6]
              clear h0 h1 h2 h4 h5 h6
              obtain ⟨A3, n3, m3, e3⟩ := h3
              obtain ⟨A7, m7, hm7, e7⟩ := h7
              have HB := Lib.hid hb
              have HGW2 := Lib.hid ((hGW.out).trans (hb.mono (by omega)))
              have hR6 := SlI.below (hb.mono (by omega)) HRR.out
              have hA2 := (hOA.out).below hb
              have k46 := (hK4.out).call hb
              rw [E0.out] at hA2
              have HA2 := Lib.hid (show IntsO w W.heap.size w1.heap.size (.slice A L cap) (flat r d (muS p c i (k + 1) f g)) by rw [E0.out]; exact hA2)
              have E3 := Lib.hid e3
              have E7 := Lib.hid e7
              clear hb hiv hdj hA2 e3 e7
              go_wp2_with fail
              refine (addMultiple_d0 p xk _ _ A7 d m7 _ HD0.out ⟨_, _, _, E3.out⟩ E7.out hm7).mono ?_; rintro e w6 ⟨rfl, hww⟩
              replace hww := hww.symm
              subst hww
              go_wp2
              go_roundw
              · exact ⟨k + 1, by omega, by simp, k46, HA2.out, HGW2.out, hR6⟩
              · show c - (k + 1) < c - k
                omega
          · obtain ⟨P, hP⟩ : ∃ P, P = i * d := ⟨_, rfl⟩
            have hrp := rowP hlr hd0 hr hd hP
            rw [HL.out] at hrp
            obtain ⟨gA, cA, eA, q1, q2, q3⟩ := (hOA.out).at_ (by rw [flat_length, HL.out]; omega)
            rw [flat_length, HL.out] at eA
            injection eA with eA1 eA2 eA3
            subst eA1 eA3
            obtain ⟨_, cL, eL, lA1, lA2⟩ := (hOA.out).1.form
            injection eL with eLx eLy eL3
            rw [← eL3, flat_length, HL.out] at lA1
            rw [← eL3] at lA2
            clear eLx eLy eL3
            have q5 : flat r d (muS p c i k f g) = rowF L (fun a => muS p c i k f g (a / d) (a % d)) := by rw [← HL.out]; rfl
            have HP := Lib.hid hP
            clear hP
            refine wp_region_net (by kernel_rfl) [.eq (.int .i64 p), .eq (.agg #[.int .i64 r, .int .i64 d, .slice (some ⟨gA, 0, none⟩) L cap]), .eq (.int .i64 i), .eq (.slice (some ⟨gA, P, none⟩) d (cap - P)), .eq (.int .i64 xk), .eq (.agg #[.int .i64 c, .int .i64 d, .slice V VL vc]), .eq (.int .i64 k), rel 7 (fun u lo hi w => w0.heap.size ≤ w.heap.size ∧ SlI w w0.heap.size u (rowF d (g k)))] [[], [], [], [1, 2], [], [], [], [1, 2, 3, 5, 6], [0, 1, 2, 3, 4, 5, 6, 7]] 8 (by kernel_rfl) ⟨trivial, trivial, trivial, trivial, trivial, trivial, trivial, rel_stable (fun u lo hi w w' ⟨h1, h2⟩ hb => ⟨Nat.le_trans h1 hb.size, SlI.below (hb.mono h1) h2⟩), trivial⟩ ⟨?_, ?_, ?_, ?_, ?_, ?_, ?_, ?_, trivial⟩ ?_
            · intro x w hb hk Q' hQ
              clear hk
              simp only [netAct, dstAt, List.getElem?_toArray, List.getElem?_cons_zero, List.getElem?_cons_succ, Option.bind_some, Act.put, List.setIfInBounds_toArray, List.set_cons_zero, List.set_cons_succ] at hQ ⊢
              go_wp2
              exact hQ (.int .i64 p) _ (Below.refl _ _) rfl
            · intro x w hb hk Q' hQ
              clear hk
              simp only [netAct, dstAt, List.getElem?_toArray, List.getElem?_cons_zero, List.getElem?_cons_succ, Option.bind_some, Act.put, List.setIfInBounds_toArray, List.set_cons_zero, List.set_cons_succ] at hQ ⊢
              have kq := hK4.out.call hb
              have z0 := kq.cell' (i := 0) rfl
              have z1 := kq.cell' (i := 1) rfl
              have z2 := kq.cell' (i := 2) rfl
              go_wp2
              exact hQ (.agg #[.int .i64 r, .int .i64 d, .slice (some ⟨gA, 0, none⟩) L cap]) _ (Below.refl _ _) rfl
            · intro x w hb hk Q' hQ
              clear hk
              simp only [netAct, dstAt, List.getElem?_toArray, List.getElem?_cons_zero, List.getElem?_cons_succ, Option.bind_some, Act.put, List.setIfInBounds_toArray, List.set_cons_zero, List.set_cons_succ] at hQ ⊢
              go_wp2
              exact hQ (.int .i64 i) _ (Below.refl _ _) rfl
            · intro x w hb hk Q' hQ
              have h1 : x.v 1 = .agg #[.int .i64 r, .int .i64 d, .slice (some ⟨gA, 0, none⟩) L cap] := (hk 1 (by decide)).1
              have h2 : x.v 2 = .int .i64 i := (hk 2 (by decide)).1
              clear hk
              simp only [netAct, dstAt, List.getElem?_toArray, List.getElem?_cons_zero, List.getElem?_cons_succ, Option.bind_some, Act.put, List.setIfInBounds_toArray, List.set_cons_zero, List.set_cons_succ] at hQ ⊢
              simp only [h1, h2] at hQ ⊢
              clear h1 h2
              go_wp2_with fail
              refine (row_in (g := gA) _ hlr hd0 hr hd HL.out.symm lA1 lA2 HP.out).mono ?_; rintro e w5 ⟨rfl, hb5⟩
              go_wp2
              exact hQ _ _ hb5 rfl
            · intro x w hb hk Q' hQ
              clear hk
              simp only [netAct, dstAt, List.getElem?_toArray, List.getElem?_cons_zero, List.getElem?_cons_succ, Option.bind_some, Act.put, List.setIfInBounds_toArray, List.set_cons_zero, List.set_cons_succ] at hQ ⊢
              go_wp2
              exact hQ (.int .i64 xk) _ (Below.refl _ _) rfl
            · intro x w hb hk Q' hQ
              clear hk
              simp only [netAct, dstAt, List.getElem?_toArray, List.getElem?_cons_zero, List.getElem?_cons_succ, Option.bind_some, Act.put, List.setIfInBounds_toArray, List.set_cons_zero, List.set_cons_succ] at hQ ⊢
              have kq := (K2.out.below hGW.out (by omega)).call hb
              have z0 := kq.cell' (i := 0) rfl
              have z1 := kq.cell' (i := 1) rfl
              have z2 := kq.cell' (i := 2) rfl
              go_wp2
              exact hQ (.agg #[.int .i64 c, .int .i64 d, .slice V VL vc]) _ (Below.refl _ _) rfl
            · intro x w hb hk Q' hQ
              clear hk
              simp only [netAct, dstAt, List.getElem?_toArray, List.getElem?_cons_zero, List.getElem?_cons_succ, Option.bind_some, Act.put, List.setIfInBounds_toArray, List.set_cons_zero, List.set_cons_succ] at hQ ⊢
              go_wp2
              exact hQ (.int .i64 k) _ (Below.refl _ _) rfl
            · intro x w hb hk Q' hQ
              have h1 : x.v 1 = .agg #[.int .i64 r, .int .i64 d, .slice (some ⟨gA, 0, none⟩) L cap] := (hk 1 (by decide)).1
              have h2 : x.v 2 = .int .i64 i := (hk 2 (by decide)).1
              have h3 : x.v 3 = .slice (some ⟨gA, P, none⟩) d (cap - P) := (hk 3 (by decide)).1
              have h5 : x.v 5 = .agg #[.int .i64 c, .int .i64 d, .slice V VL vc] := (hk 5 (by decide)).1
              have h6 : x.v 6 = .int .i64 k := (hk 6 (by decide)).1
              clear hk
              simp only [netAct, dstAt, List.getElem?_toArray, List.getElem?_cons_zero, List.getElem?_cons_succ, Option.bind_some, Act.put, List.setIfInBounds_toArray, List.set_cons_zero, List.set_cons_succ] at hQ ⊢
              simp only [h1, h2, h3, h5, h6] at hQ ⊢
              clear h1 h2 h3 h5 h6
              have gz := (G0.out.trans (hGW.out.mono (by omega))).trans (hb.mono (by omega))
              have HVR := Lib.hid (MxR.below gz HV.out)
              have gzs := gz.size
              clear gz
              go_wp2_with fail
              refine (row_rd _ c d k w0.heap.size g _ HVR.out gzs hc hd hlc).mono ?_; rintro e w5 ⟨v5, rfl, hR5, hb5⟩
              have h6 := hb5.size
              go_wp2
              exact hQ _ _ hb5 ⟨by omega, hR5⟩
            · intro x w hb hk hiv hdj
              have h0 : x.v 0 = .int .i64 p := hk 0 (by decide)
              have h1 : x.v 1 = .agg #[.int .i64 r, .int .i64 d, .slice (some ⟨gA, 0, none⟩) L cap] := hk 1 (by decide)
              have h2 : x.v 2 = .int .i64 i := hk 2 (by decide)
              have h3 : x.v 3 = .slice (some ⟨gA, P, none⟩) d (cap - P) := hk 3 (by decide)
              have h4 : x.v 4 = .int .i64 xk := hk 4 (by decide)
              have h5 : x.v 5 = .agg #[.int .i64 c, .int .i64 d, .slice V VL vc] := hk 5 (by decide)
              have h6 : x.v 6 = .int .i64 k := hk 6 (by decide)
              have h7 : w0.heap.size ≤ w.heap.size ∧ SlI w w0.heap.size (x.v 7) (rowF d (g k)) := hk 7 (by decide)
              clear hk
              simp only [netAct, dstAt, List.getElem?_toArray, List.getElem?_cons_zero, List.getElem?_cons_succ, Option.bind_some, Act.put, List.setIfInBounds_toArray, List.set_cons_zero, List.set_cons_succ]
              simp only [List.drop_succ_cons, List.drop_zero, h0, h1, h2, h3, h4, h5, h6]
              clear h0 h1 h2 h3 h4 h5 h6
              obtain ⟨h71, h72⟩ := h7
              have HB := Lib.hid hb
              have HGW2 := Lib.hid ((hGW.out).trans (hb.mono (by omega)))
              have hbs := hb.size
              have hA' := hOA.out
              rw [q5] at hA'
              have hA2 := hA'.below hb
              have hPd : P + d ≤ L := by rw [← HL.out]; exact (rowP hlr hd0 hr hd HP.out).2.1
              have hrng : ∀ a, a < L → 0 ≤ muS p c i k f g (a / d) (a % d) ∧ muS p c i k f g (a / d) (a % d) ≤ 4 := fun a _ => by
                have := muS_rng (p := p) hp.1 c i k f g (a / d) (a % d)
                omega
              have hrg : ∀ b, b < d → 0 ≤ g k b ∧ g k b ≤ 4 := fun b hb => le_pred hp HG.out hlc hb
              have HRNG := Lib.hid hrng
              have HRG := Lib.hid hrg
              have HK6 := Lib.hid ((hK4.out).call hb)
              clear hA' hb hiv hdj hrng hrg
              go_wp2_with fail
              refine (addMultiple_own p xk gA P d L cap (cap - P) W.heap.size w1.heap.size (fun a => muS p c i k f g (a / d) (a % d)) (g k) _ _ hp (by omega) hA2 ⟨q1, q2⟩ hPd (by omega) ⟨by omega, by omega⟩ (by omega) (SlI.up (by omega) h72) HRNG.out HRG.out).mono ?_; rintro e w6 ⟨rfl, hO5, hc5, hs5⟩
              rw [← HX.out, HP.out, ← HL.out, mu_step, HL.out] at hO5
              have hO5' := hO5
              have k46 := (HK6.out).chg hc5 (.inr (Nat.le_refl _))
              have gW6 := (HGW2.out).trans (hc5.below (Nat.le_refl _) (by omega))
              have hR6 := SlI.below (((HB.out).mono (by omega)).trans (hc5.below (by omega) (by omega))) HRR.out
              clear hO5
              go_wp2
              go_roundw
              · exact ⟨k + 1, by omega, by simp, k46, hO5', gW6, hR6⟩
              · show c - (k + 1) < c - k
                omega
        · have hk' : k = c := by omega
          subst hk'
          rw [muS_next] at oA
          go_wp2
          go_roundw
          · exact ⟨i + 1, by omega, by simp, k4, oA, gW⟩
          · show r - (i + 1) < r - i
            omega
    · have hi' : i = r := by omega
      subst hi'
      rw [muS_end] at oA
      have k3' := (K3.out).below gW (by have := SZ.out; omega)
      have hlt := k4.lt
      have z0 := k4.cell' (i := 0) rfl
      have z1 := k4.cell' (i := 1) rfl
      have z2 := k4.cell' (i := 2) rfl
      have p0 := k3'.cell' (i := 0) rfl
      have p1 := k3'.cell' (i := 1) rfl
      have p2 := k3'.cell' (i := 2) rfl
      have f2 := k3'.frozen
      have h2 := chg3 wr (w0.heap.size + 1 + 1) (.int .i64 (i : Int)) (.int .i64 d) (.slice A L cap)
      have gw : Below w0.heap.size w0 wr := (G0.out).trans (gW.mono (G0.out).size)
      have gs := gw.size
      have oA2 := (oA.chg h2 (.inr (by have := SZ.out; omega))).wider (lo' := w0.heap.size) (hi' := wr.heap.size) (by have := SZ.out; omega) (by omega)
      have fg := gw.trans (h2.below (by omega) gs)
      have OA2 := Lib.hid oA2
      have FG := Lib.hid fg
      clear oA oA2 fg gw h2 k3' k4 gW
      go_wp2
      exact bodyPost_ret (v := .agg #[.int .i64 (i : Int), .int .i64 d, .slice A L cap]) (by simp [results, go_sem, p0, p1, p2]) rfl ⟨_, rfl, ⟨_, rfl, (OA2.out).wider (Nat.le_refl _) (by simp), hr1, hr2⟩, FG.out⟩
end Go.Proofs.Ytjlgijdkfihhlaa

/- make of rows of ints and of rows of rows, in any world. -/
namespace Go.Proofs.Ytjlgijdkfihhlaa
set_option linter.unusedVariables false
set_option linter.unusedSimpArgs false
open Go.RowKit

theorem run_mkII (w : World) {n : Nat} (hn : n ≤ 1000000) : (Instr.makeSlice 42 (.int .i64 (n : Int)) (.int .i64 (n : Int))).run Try.prog w = .ok (.slice (some ⟨w.heap.size, 0, none⟩) n n) (w.alloc (.cells (mkCells (.slice none 0 0) n) 22)) := by
  obtain ⟨i0, hi, hz0, hz1, hz2⟩ := info_parts infoInts
  have hmk := run_mk (P := Try.prog) Try.underlying42 hi hz0 (n := n) (by rw [hz2]; omega) (by omega)
  rw [hz1, Nat.mul_one] at hmk
  exact hmk w
theorem run_mkI (w : World) {n : Nat} (hn : n ≤ 1000000) : (Instr.makeSlice 22 (.int .i64 (n : Int)) (.int .i64 (n : Int))).run Try.prog w = .ok (.slice (some ⟨w.heap.size, 0, none⟩) n n) (w.alloc (.cells (mkCells (.int .i64 0) n) 3)) := by
  obtain ⟨i0, hi, hz0, hz1, hz2⟩ := info_parts infoInt
  have hmk := run_mk (P := Try.prog) Try.underlying22 hi hz0 (n := n) (by rw [hz2]; omega) (by omega)
  rw [hz1, Nat.mul_one] at hmk
  exact hmk w
end Go.Proofs.Ytjlgijdkfihhlaa

/- RankTable: the program's. -/
namespace Go.Proofs.Ytjlgijdkfihhlaa
set_option linter.unusedVariables false
set_option linter.unusedSimpArgs false
open Go.RowKit

set_option maxHeartbeats 6400000 in
set_option maxRecDepth 100000 in
theorem implRankTable_no (u : Value) (x : Rp) (w0 : World) (hu : RpR w0 w0.heap.size u x) (hno : okL x = false) :
    Calls Try.prog 66 #[u] w0 fun e w' => ∃ v, e = .returned (.tuple #[v, .bool (rtM x).2]) ∧ IntssO w' w0.heap.size w'.heap.size v (rtM x).1 ∧ Below w0.heap.size w0 w' := by
  have hu' := hu
  obtain ⟨A, a, C, c, E, e, H, h, rfl, hq, hd, hm, hp, ld, lm⟩ := hu.open_
  clear hu hd hm
  obtain ⟨W, hW⟩ : ∃ W, W = w0.alloc (.cells #[.int .i64 x.p, .int .i64 x.q.v, .slice A x.q.f.length a, .slice C x.q.t.length c, .slice E x.d.length e, .slice H x.m.length h] 35) := ⟨_, rfl⟩
  have g0 : Below w0.heap.size w0 W := by rw [hW]; exact below_alloc _ _
  have kB : Blk W w0.heap.size 35 #[.int .i64 x.p, .int .i64 x.q.v, .slice A x.q.f.length a, .slice C x.q.t.length c, .slice E x.d.length e, .slice H x.m.length h] := by rw [hW]; exact Blk.new _ _ _
  have HXR := Lib.hid (RpR.next g0 hu')
  have HF := Lib.hid (show rtM x = ([], false) by rw [rtM, if_neg (by simp [hno])])
  have HQ := Lib.hid (QvR.next g0 hq)
  rcases h1 : isRep x with _ | _
  · have H1 := Lib.hid h1
    clear h1 hu' hq
    have c0 := kB.cell' (i := 0) rfl
    have c1 := kB.cell' (i := 1) rfl
    have c2 := kB.cell' (i := 2) rfl
    have c3 := kB.cell' (i := 3) rfl
    have c4 := kB.cell' (i := 4) rfl
    have c5 := kB.cell' (i := 5) rfl
    go_enter Try.func66, Try.ntmps66
    go_wp2_with fail
    rw [← hW]; clear hW
    refine (implIsRep_any _ x _ HXR.out).mono ?_; rintro e w1 ⟨rfl, hb1⟩
    rw [H1.out]
    have g1 := bthen g0 hb1
    clear c0 c1 c2 c3 c4 c5 hb1 kB
    go_wp2
    go_ret2
    exact ⟨.slice none 0 0, by rw [HF.out]; rfl, by rw [HF.out]; exact IntssO.nil _ _ _, g1⟩
  · have H1 := Lib.hid h1
    have H2 := Lib.hid (show isL x.q = false by simpa [okL, h1] using hno)
    clear h1 hu' hq hno
    have c0 := kB.cell' (i := 0) rfl
    have c1 := kB.cell' (i := 1) rfl
    have c2 := kB.cell' (i := 2) rfl
    have c3 := kB.cell' (i := 3) rfl
    have c4 := kB.cell' (i := 4) rfl
    have c5 := kB.cell' (i := 5) rfl
    go_enter Try.func66, Try.ntmps66
    go_wp2_with fail
    rw [← hW]; clear hW
    refine (implIsRep_any _ x _ HXR.out).mono ?_; rintro e w1 ⟨rfl, hb1⟩
    rw [H1.out]
    have g1 := bthen g0 hb1
    have kB1 := kB.call hb1
    have HQ1 := Lib.hid (QvR.next hb1 HQ.out)
    clear c0 c1 c2 c3 c4 c5 hb1 kB g0
    have c0 := kB1.cell' (i := 0) rfl
    have c1 := kB1.cell' (i := 1) rfl
    have c2 := kB1.cell' (i := 2) rfl
    have c3 := kB1.cell' (i := 3) rfl
    have c4 := kB1.cell' (i := 4) rfl
    have c5 := kB1.cell' (i := 5) rfl
    go_wp2_with fail
    refine (implIsLine_any _ x.q _ HQ1.out).mono ?_; rintro e w2 ⟨rfl, hb2⟩
    rw [H2.out]
    have g2 := bthen g1 hb2
    clear c0 c1 c2 c3 c4 c5 hb2 kB1 g1
    go_wp2
    go_ret2
    exact ⟨.slice none 0 0, by rw [HF.out]; rfl, by rw [HF.out]; exact IntssO.nil _ _ _, g2⟩

set_option maxHeartbeats 6400000 in
set_option maxRecDepth 100000 in
theorem implRankTable_yes (u : Value) (x : Rp) (w0 : World) (hu : RpR w0 w0.heap.size u x) (hok : okL x = true) :
    Calls Try.prog 66 #[u] w0 fun e w' => ∃ v, e = .returned (.tuple #[v, .bool (rtM x).2]) ∧ IntssO w' w0.heap.size w'.heap.size v (rtM x).1 ∧ Below w0.heap.size w0 w' := by
  have hu' := hu
  obtain ⟨A, a, C, c, E, e, H, h, rfl, hq, hd, hm, hp, ld, lm⟩ := hu.open_
  clear hu lm
  obtain ⟨W, hW⟩ : ∃ W, W = w0.alloc (.cells #[.int .i64 x.p, .int .i64 x.q.v, .slice A x.q.f.length a, .slice C x.q.t.length c, .slice E x.d.length e, .slice H x.m.length h] 35) := ⟨_, rfl⟩
  have g0 : Below w0.heap.size w0 W := by rw [hW]; exact below_alloc _ _
  have kB : Blk W w0.heap.size 35 #[.int .i64 x.p, .int .i64 x.q.v, .slice A x.q.f.length a, .slice C x.q.t.length c, .slice E x.d.length e, .slice H x.m.length h] := by rw [hW]; exact Blk.new _ _ _
  have HXR := Lib.hid (RpR.next g0 hu')
  have HQ1 := Lib.hid (QvR.next g0 hq)
  clear hu'
  obtain ⟨h1, h2, h3, l1, l5, lm, hds, hms⟩ := okL_t hok
  have hpr := isFld_r h3
  have HF := Lib.hid (show rtM x = (matF x.d.length (rtF x), true) by rw [rtM, if_pos hok])
  have H1 := Lib.hid h1
  have H2 := Lib.hid h2
  have H3 := Lib.hid h3
  have HDS := Lib.hid hds
  have HMS := Lib.hid hms
  have HDA := Lib.hid (dN_all hok)
  have HQ := Lib.hid hq
  have HM := Lib.hid hm
  have HD := Lib.hid hd
  have LM := Lib.hid lm
  clear h1 h2 h3 hds hms hok hq hm hd lm
  obtain ⟨bd, od, ed, hbd⟩ : ∃ b o, E = some ⟨b, o, none⟩ ∧ b < w0.heap.size := by
    obtain ⟨b, o, _, h1, h2, _⟩ := SlI.at_ (k := 0) HD.out (by omega)
    exact ⟨b, o, h1, h2⟩
  subst ed
  have c0 := kB.cell' (i := 0) rfl
  have c1 := kB.cell' (i := 1) rfl
  have c2 := kB.cell' (i := 2) rfl
  have c3 := kB.cell' (i := 3) rfl
  have c4 := kB.cell' (i := 4) rfl
  have c5 := kB.cell' (i := 5) rfl
  go_enter Try.func66, Try.ntmps66
  go_wp2_with fail
  rw [← hW]; clear hW
  refine (implIsRep_any _ x _ HXR.out).mono ?_; rintro e w1 ⟨rfl, hb1⟩
  rw [H1.out]
  have g1 := bthen g0 hb1
  have kB1 := kB.call hb1
  have HQ2 := Lib.hid (QvR.next hb1 HQ1.out)
  clear c0 c1 c2 c3 c4 c5 hb1 kB g0
  have c0 := kB1.cell' (i := 0) rfl
  have c1 := kB1.cell' (i := 1) rfl
  have c2 := kB1.cell' (i := 2) rfl
  have c3 := kB1.cell' (i := 3) rfl
  have c4 := kB1.cell' (i := 4) rfl
  have c5 := kB1.cell' (i := 5) rfl
  go_wp2_with fail
  refine (implIsLine_any _ x.q _ HQ2.out).mono ?_; rintro e w2 ⟨rfl, hb2⟩
  rw [H2.out]
  have g2 := bthen g1 hb2
  have kB2 := kB1.call hb2
  clear c0 c1 c2 c3 c4 c5 hb2 kB1 g1
  obtain ⟨w3, hw3⟩ : ∃ u, u = w2.alloc (.cells (mkCells (.slice none 0 0) x.d.length) 22) := ⟨_, rfl⟩
  have b3 : Below w2.heap.size w2 w3 := by rw [hw3]; exact below_alloc _ _
  have iO : IntssO w3 w2.heap.size w3.heap.size (.slice (some ⟨w2.heap.size, 0, none⟩) x.d.length x.d.length) (rtA x.d.length (rtF x) 0) := by rw [hw3, rtA_0]; exact IntssO.made w2 (Nat.le_refl _) (by omega)
  have kB3 := kB2.call b3
  have g3 := bthen g2 b3
  have sg2 := g2.size
  have kBlt := kB2.lt
  have s23 : w2.heap.size < w3.heap.size := by rw [hw3]; simp
  have p2 := kB2.cell' (i := 4) rfl
  clear kB2 g2
  have hmk2 := run_mkII w2 (n := x.d.length) (by omega)
  rw [← hw3] at hmk2
  have c2 := kB3.cell' (i := 4) rfl
  clear hw3
  go_wp2
  clear hmk2 p2 c2
  go_loopw [25] (fun i wr => ∃ v : Nat, v ≤ x.d.length ∧ i = .int .i64 v ∧ Below w2.heap.size w3 wr ∧ IntssO wr w2.heap.size wr.heap.size (.slice (some ⟨w2.heap.size, 0, none⟩) x.d.length x.d.length) (rtA x.d.length (rtF x) v)) (fun i _ => x.d.length - (intOf i).toNat)
  case atStart => exact ⟨0, Nat.zero_le _, rfl, Below.refl _ _, iO⟩
  case round =>
    clear iO
    obtain ⟨v, hv, rfl, hbel, hO⟩ := hrel
    have ws := hbel.size
    have kBr := kB3.below hbel (by omega)
    have gw := g3.trans (hbel.mono (by omega))
    by_cases hlt : v < x.d.length
    · obtain ⟨bd', od', D0, ed, hbd', HX, x1, _⟩ := SlI.at_ (k := v) HD.out hlt
      injection ed with ed
      injection ed with ed1 ed2
      subst ed1 ed2
      have hx := HX.out
      rw [(HDS.out v hlt).1] at hx
      injection hx with hx
      subst hx
      have hDv := HDA.out v
      have x2 := bcell gw hbd x1
      obtain ⟨X, hX⟩ : ∃ u, u = wr.alloc (.cells (mkCells (.int .i64 0) x.d.length) 3) := ⟨_, rfl⟩
      have hmkX := run_mkI wr (n := x.d.length) (by omega)
      rw [← hX] at hmkX
      have bX : Below wr.heap.size wr X := by rw [hX]; exact below_alloc _ _
      have rX : IntsO X wr.heap.size X.heap.size (.slice (some ⟨wr.heap.size, 0, none⟩) x.d.length x.d.length) (List.replicate x.d.length 0) := by
        rw [hX]
        exact IntsO.of_own (OwnI.made0 (Nat.le_refl _) (by omega))
      have sX : X.heap.size = wr.heap.size + 1 := by rw [hX]; simp
      have hOX := hO.below bX
      obtain ⟨u0, y1, _, y2⟩ := hOX.row (j := v) (l := []) (by rw [rtA, List.getElem?_map, List.getElem?_range hlt]; simp)
      have y3 := (rX.1.cellG (j := v) (by simpa using hlt)).1
      have y4 := rX.1.frozenG v
      have st1 := hOX.setRow (j := v) (by rw [rtA_length]; exact hlt) rX (Nat.le_refl _) (by omega) (by omega)
      rw [rtA_set] at st1
      have st2 := st1.1.put (i := v) (x := rtF x v v) (rtB_get (rtF x) 0 hlt) (World.cell?_setCell_same _ _ _ y1) (by have := rtF_rng HDA.out v v; constructor <;> omega)
      rw [rtR_diag (rtF x) (fun w hw => rtF_low x hw), rtB_set, rtF_diag H3.out] at st2
      obtain ⟨Z, hZ⟩ : ∃ u, u = (X.setCell ⟨w2.heap.size, v, none⟩ (.slice (some ⟨wr.heap.size, 0, none⟩) x.d.length x.d.length)).setCell ⟨wr.heap.size, v, none⟩ (.int .i64 (dN x v)) := ⟨_, rfl⟩
      have hOZ : IntssO Z w2.heap.size X.heap.size (.slice (some ⟨w2.heap.size, 0, none⟩) x.d.length x.d.length) (rtB x.d.length (rtF x) v (v + 1)) := by rw [hZ]; exact st2.1
      have sZ : Z.heap.size = wr.heap.size + 1 := by rw [hZ]; simpa using sX
      have bZ : Below w2.heap.size w3 Z := by
        rw [hZ]
        exact (hbel.trans (bX.mono (by omega))).trans ((st1.2.below (Nat.le_refl _) (by omega)).trans (below_grown st2.2 (fun k hk => by injection hk with hk; omega) (by simp; omega)))
      have rZ : Z.cell? ⟨w2.heap.size, v, none⟩ = some (.slice (some ⟨wr.heap.size, 0, none⟩) x.d.length x.d.length) := by
        rw [hZ, World.cell?_setCell_far _ _ _ _ (show wr.heap.size ≠ w2.heap.size by omega)]
        exact World.cell?_setCell_same _ _ _ y1
      have p2 := kBr.cell' (i := 4) rfl
      have HOZ := Lib.hid hOZ
      have BZ := Lib.hid bZ
      have RZ := Lib.hid rZ
      have q2 := (kBr.call bX).cell' (i := 4) rfl
      clear hO hOX st1 st2 rX bX hX hbel HX x1 hOZ bZ rZ
      go_wp2_with fail
      rw [← hZ]; clear hZ hmkX y1 y2 y3 y4 p2 q2 x2
      refine (identity_any (dN x v) _ (by omega)).mono ?_; rintro e w4 ⟨m4, rfl, hI, hb4⟩
      obtain ⟨MA, mc, em⟩ := hI.form
      subst em
      simp only [mxF, flat_length] at hI ⊢
      obtain ⟨MN, hMN⟩ : ∃ z, dN x v * dN x v = z := ⟨_, rfl⟩
      rw [hMN] at hI ⊢
      obtain ⟨s4, es, oI, _, _⟩ := hI
      simp only [Value.agg.injEq, Array.mk.injEq, List.cons.injEq, and_true, true_and] at es
      subst es
      obtain ⟨w5, hw5⟩ : ∃ u, u = w4.alloc (.cells #[.int .i64 (dN x v), .int .i64 (dN x v), .slice MA MN mc] 95) := ⟨_, rfl⟩
      have b5 : Below w4.heap.size w4 w5 := by rw [hw5]; exact below_alloc _ _
      have k5 : Blk w5 w4.heap.size 95 #[.int .i64 (dN x v), .int .i64 (dN x v), .slice MA MN mc] := by rw [hw5]; exact Blk.new _ _ _
      have b45 := bthen hb4 b5
      have s45 := b45.size
      have s4 := hb4.size
      have s5 : w5.heap.size = w4.heap.size + 1 := by rw [hw5]; simp
      have oI5 : IntsO w5 Z.heap.size w4.heap.size (.slice MA MN mc) (flat (dN x (v + 0)) (dN x v) (pdF x v 0)) := by
        have := oI.below b5
        exact this
      have hO5 := HOZ.out.below b45
      have B5 := BZ.out.trans (b45.mono (by omega))
      have r5 := bcell b45 (by omega) RZ.out
      obtain ⟨G, hG⟩ : ∃ z, z = wr.heap.size := ⟨_, rfl⟩
      rw [← hG] at r5 sZ sX
      have hG2 : w2.heap.size < G := by omega
      clear hG
      clear oI b5 hb4 hMN b45
      go_wp2
      rw [← hw5]; clear hw5
      go_loopw [8] (fun i wr => ∃ (n NN K : Nat) (MA : Option Addr) (mc : Nat), v + 1 + n ≤ x.d.length ∧ i = .int .i64 (K : Int) ∧ Hid (K = v + 1 + n) ∧ Below w2.heap.size w3 wr ∧ w5.heap.size ≤ wr.heap.size ∧ IntssO wr w2.heap.size Z.heap.size (.slice (some ⟨w2.heap.size, 0, none⟩) x.d.length x.d.length) (rtB x.d.length (rtF x) v (v + 1 + n)) ∧
        wr.cell? ⟨w2.heap.size, v, none⟩ = some (.slice (some ⟨G, 0, none⟩) x.d.length x.d.length) ∧
        Blk wr w4.heap.size 95 #[.int .i64 (dN x (v + n)), .int .i64 (dN x v), .slice MA NN mc] ∧ IntsO wr Z.heap.size wr.heap.size (.slice MA NN mc) (flat (dN x (v + n)) (dN x v) (pdF x v n))) (fun i _ => x.d.length - (intOf i).toNat)
      case atStart => exact ⟨0, MN, v + 1, MA, mc, by omega, by simp, rfl, B5, Nat.le_refl _, hO5.wider (Nat.le_refl _) (by omega), r5, k5, oI5.wider (Nat.le_refl _) (by omega)⟩
      case round =>
        clear hO5 r5 k5 oI5 B5 ws kBr gw
        obtain ⟨n, NN, K, MA, mc, hn, rfl, HK, hbel, hs, hO, hr, k5, oM⟩ := hrel
        have kBr := kB3.below hbel (by omega)
        have gw := g3.trans (hbel.mono (by omega))
        have k4 := kBr.cell' (i := 4) rfl
        have hK1 : K ≤ v + 1 + n := Nat.le_of_eq HK.out
        have hK2 : v + 1 + n ≤ K := Nat.le_of_eq HK.out.symm
        by_cases hlw : K < x.d.length
        · obtain ⟨J, hJ⟩ : ∃ z, z = v + n := ⟨_, rfl⟩
          have hJ1 : J + 1 ≤ K := by omega
          have hJ2 : K ≤ J + 1 := by omega
          obtain ⟨hm1, hm2⟩ := HMS.out (v + n) (by omega)
          have hml : v + n < x.m.length := by have := LM.out; omega
          obtain ⟨bm, om, m1, A1, c1', eH, hbm, HM1, z0, z1, z2, hs1, i1, i2, _⟩ := SlM.at_ (k := v + n) HM.out hml
          subst eH
          have em1 := HM1.out
          rw [hm1] at em1
          injection em1 with em1
          subst em1
          have hMB : MxR w0 w0.heap.size (.agg #[.int .i64 (dN x (v + n + 1)), .int .i64 (dN x (v + n)), .slice A1 (flat (dN x (v + n + 1)) (dN x (v + n)) (mpF x (v + n))).length c1']) (mxF (dN x (v + n + 1)) (dN x (v + n)) (mpF x (v + n))) := ⟨_, rfl, hs1, i1, i2⟩
          simp only [mxF, flat_length] at hMB z0 z1 z2
          obtain ⟨ML, hML⟩ : ∃ z, dN x (v + n + 1) * dN x (v + n) = z := ⟨_, rfl⟩
          rw [hML] at hMB z2
          obtain ⟨y, hy⟩ : ∃ y, y = x := ⟨_, rfl⟩
          subst hy
          obtain ⟨D0, hD0⟩ : ∃ z, dN y v = z := ⟨_, rfl⟩
          obtain ⟨D1, hD1⟩ : ∃ z, dN y (v + n) = z := ⟨_, rfl⟩
          obtain ⟨D2, hD2⟩ : ∃ z, dN y (v + n + 1) = z := ⟨_, rfl⟩
          have inP := pdF_inF H3.out v n
          have inP1 := pdF_inF H3.out v (n + 1)
          have hp1 : pdF y v (n + 1) = muP y.p D1 (mpF y (v + n)) (pdF y v n) := by rw [pdF, hD1]
          have hrt : rtF y v K = (rkF y.p D2 D0 (pdF y v (n + 1)) : Int) := by
            rw [rtF, if_neg (by omega), show K - v = n + 1 by omega, show K = v + n + 1 by omega, hD2, hD0]
          have hd0 := HDA.out v
          have hd1 := HDA.out (v + n)
          have hd2 := HDA.out (v + n + 1)
          rw [hD0] at oM k5 hd0 inP inP1
          rw [hD1] at oM k5 hd1 inP hm2 hMB z1
          rw [hD2] at hd2 hm2 hMB z0
          rw [show v + (n + 1) = v + n + 1 from rfl, hD2, hp1] at inP1
          rw [← hJ] at z0 z1 z2
          have HJ := Lib.hid hJ
          have hJm : J < y.m.length := by omega
          have HP1 := Lib.hid hp1
          have HRT := Lib.hid hrt
          have HMB := Lib.hid hMB
          have HIN1 := Lib.hid hm2
          have HINP := Lib.hid inP
          have HINP1 := Lib.hid inP1
          have HOM := Lib.hid oM
          have HBEL := Lib.hid hbel
          have HOO := Lib.hid hO
          have HGW := Lib.hid gw
          have gws := gw.size
          have HD2 := Lib.hid hD2
          have HD0 := Lib.hid hD0
          have k0 := kBr.cell' (i := 0) rfl
          clear hm1 hm2 hml hs1 i1 i2 HM1 hMB hML hD0 hD1 hD2 inP inP1 hp1 hrt oM hbel hO gw k0 hJ
          go_wp2
          clear k4
          refine wp_region_net (by kernel_rfl) [.eq (.pointer (some ⟨w0.heap.size, 0, none⟩)), .eq (.int .i64 y.p), .eq (.pointer (some ⟨w0.heap.size, 5, none⟩)), .eq (.slice (some ⟨bm, om, none⟩) y.m.length h), .eq (.int .i64 (K : Int)), .eq (.int .i64 (J : Int)), .eq (.pointer (some ⟨bm, om + J * 3, none⟩)), .eq (.agg #[.int .i64 D2, .int .i64 D1, .slice A1 ML c1']), .eq (.agg #[.int .i64 D1, .int .i64 D0, .slice MA NN mc]), rel 9 (fun u lo hi w => MxO w lo hi u (mxF D2 D0 (muP y.p D1 (mpF y (v + n)) (pdF y v n))))] [[], [0], [], [2], [], [4], [2, 3, 4, 5], [2, 3, 4, 5, 6], [], [0, 1, 2, 3, 4, 5, 6, 7, 8], [0, 1, 2, 3, 4, 5, 6, 7, 8, 9]] 10 (by kernel_rfl) ⟨trivial, trivial, trivial, trivial, trivial, trivial, trivial, trivial, trivial, rel_stable (fun u lo hi w w' h hb => h.below hb), trivial⟩ ⟨?_, ?_, ?_, ?_, ?_, ?_, ?_, ?_, ?_, ?_, trivial⟩ ?_
          · intro x w hb hk Q' hQ
            clear hk
            simp only [netAct, dstAt, List.getElem?_toArray, List.getElem?_cons_zero, List.getElem?_cons_succ, Option.bind_some, Act.put, List.setIfInBounds_toArray, List.set_cons_zero, List.set_cons_succ] at hQ ⊢
            go_wp2
            exact hQ (.pointer (some ⟨w0.heap.size, 0, none⟩)) _ (Below.refl _ _) rfl
          · intro x w hb hk Q' hQ
            have h0 : x.v 0 = .pointer (some ⟨w0.heap.size, 0, none⟩) := (hk 0 (by decide)).1
            clear hk
            simp only [netAct, dstAt, List.getElem?_toArray, List.getElem?_cons_zero, List.getElem?_cons_succ, Option.bind_some, Act.put, List.setIfInBounds_toArray, List.set_cons_zero, List.set_cons_succ] at hQ ⊢
            simp only [h0] at hQ ⊢
            clear h0
            have q0 := (kBr.call hb).cell' (i := 0) rfl
            go_wp2
            exact hQ (.int .i64 y.p) _ (Below.refl _ _) rfl
          · intro x w hb hk Q' hQ
            clear hk
            simp only [netAct, dstAt, List.getElem?_toArray, List.getElem?_cons_zero, List.getElem?_cons_succ, Option.bind_some, Act.put, List.setIfInBounds_toArray, List.set_cons_zero, List.set_cons_succ] at hQ ⊢
            go_wp2
            exact hQ (.pointer (some ⟨w0.heap.size, 5, none⟩)) _ (Below.refl _ _) rfl
          · intro x w hb hk Q' hQ
            have h2 : x.v 2 = .pointer (some ⟨w0.heap.size, 5, none⟩) := (hk 2 (by decide)).1
            clear hk
            simp only [netAct, dstAt, List.getElem?_toArray, List.getElem?_cons_zero, List.getElem?_cons_succ, Option.bind_some, Act.put, List.setIfInBounds_toArray, List.set_cons_zero, List.set_cons_succ] at hQ ⊢
            simp only [h2] at hQ ⊢
            clear h2
            have q0 := (kBr.call hb).cell' (i := 5) rfl
            go_wp2
            exact hQ (.slice (some ⟨bm, om, none⟩) y.m.length h) _ (Below.refl _ _) rfl
          · intro x w hb hk Q' hQ
            clear hk
            simp only [netAct, dstAt, List.getElem?_toArray, List.getElem?_cons_zero, List.getElem?_cons_succ, Option.bind_some, Act.put, List.setIfInBounds_toArray, List.set_cons_zero, List.set_cons_succ] at hQ ⊢
            go_wp2
            exact hQ (.int .i64 (K : Int)) _ (Below.refl _ _) rfl
          · intro x w hb hk Q' hQ
            have h4 : x.v 4 = .int .i64 (K : Int) := (hk 4 (by decide)).1
            clear hk
            simp only [netAct, dstAt, List.getElem?_toArray, List.getElem?_cons_zero, List.getElem?_cons_succ, Option.bind_some, Act.put, List.setIfInBounds_toArray, List.set_cons_zero, List.set_cons_succ] at hQ ⊢
            simp only [h4] at hQ ⊢
            clear h4
            go_wp2
            rw [show (K : Int) - 1 = (J : Int) by omega]
            exact hQ (.int .i64 (J : Int)) _ (Below.refl _ _) rfl
          · intro x w hb hk Q' hQ
            have h3 : x.v 3 = .slice (some ⟨bm, om, none⟩) y.m.length h := (hk 3 (by decide)).1
            have h5 : x.v 5 = .int .i64 (J : Int) := (hk 5 (by decide)).1
            clear hk
            simp only [netAct, dstAt, List.getElem?_toArray, List.getElem?_cons_zero, List.getElem?_cons_succ, Option.bind_some, Act.put, List.setIfInBounds_toArray, List.set_cons_zero, List.set_cons_succ] at hQ ⊢
            simp only [h3, h5] at hQ ⊢
            clear h3 h5
            go_wp2
            exact hQ (.pointer (some ⟨bm, om + J * 3, none⟩)) _ (Below.refl _ _) rfl
          · intro x w hb hk Q' hQ
            have h6 : x.v 6 = .pointer (some ⟨bm, om + J * 3, none⟩) := (hk 6 (by decide)).1
            clear hk
            simp only [netAct, dstAt, List.getElem?_toArray, List.getElem?_cons_zero, List.getElem?_cons_succ, Option.bind_some, Act.put, List.setIfInBounds_toArray, List.set_cons_zero, List.set_cons_succ] at hQ ⊢
            simp only [h6] at hQ ⊢
            clear h6
            have gq := (HGW.out).trans (hb.mono (HGW.out).size)
            have q0 := bcell gq hbm z0
            have q1 := bcell gq hbm z1
            have q2 := bcell gq hbm z2
            go_wp2
            exact hQ (.agg #[.int .i64 D2, .int .i64 D1, .slice A1 ML c1']) _ (Below.refl _ _) rfl
          · intro x w hb hk Q' hQ
            clear hk
            simp only [netAct, dstAt, List.getElem?_toArray, List.getElem?_cons_zero, List.getElem?_cons_succ, Option.bind_some, Act.put, List.setIfInBounds_toArray, List.set_cons_zero, List.set_cons_succ] at hQ ⊢
            have kq := k5.call hb
            have q0 := kq.cell' (i := 0) rfl
            have q1 := kq.cell' (i := 1) rfl
            have q2 := kq.cell' (i := 2) rfl
            go_wp2
            exact hQ (.agg #[.int .i64 D1, .int .i64 D0, .slice MA NN mc]) _ (Below.refl _ _) rfl
          · intro x w hb hk Q' hQ
            have h0 : x.v 0 = .pointer (some ⟨w0.heap.size, 0, none⟩) := (hk 0 (by decide)).1
            have h1 : x.v 1 = .int .i64 y.p := (hk 1 (by decide)).1
            have h2 : x.v 2 = .pointer (some ⟨w0.heap.size, 5, none⟩) := (hk 2 (by decide)).1
            have h3 : x.v 3 = .slice (some ⟨bm, om, none⟩) y.m.length h := (hk 3 (by decide)).1
            have h4 : x.v 4 = .int .i64 (K : Int) := (hk 4 (by decide)).1
            have h5 : x.v 5 = .int .i64 (J : Int) := (hk 5 (by decide)).1
            have h6 : x.v 6 = .pointer (some ⟨bm, om + J * 3, none⟩) := (hk 6 (by decide)).1
            have h7 : x.v 7 = .agg #[.int .i64 D2, .int .i64 D1, .slice A1 ML c1'] := (hk 7 (by decide)).1
            have h8 : x.v 8 = .agg #[.int .i64 D1, .int .i64 D0, .slice MA NN mc] := (hk 8 (by decide)).1
            clear hk
            simp only [netAct, dstAt, List.getElem?_toArray, List.getElem?_cons_zero, List.getElem?_cons_succ, Option.bind_some, Act.put, List.setIfInBounds_toArray, List.set_cons_zero, List.set_cons_succ] at hQ ⊢
            simp only [h0, h1, h2, h3, h4, h5, h6, h7, h8] at hQ ⊢
            clear h0 h1 h2 h3 h4 h5 h6 h7 h8
            have gq := (HGW.out).trans (hb.mono (HGW.out).size)
            have HMR := Lib.hid (MxR.more gq.size (MxR.below gq HMB.out))
            have hM := (HOM.out.below hb).rd
            have HMM : Hid (MxR w w.heap.size (.agg #[.int .i64 D1, .int .i64 D0, .slice MA NN mc]) (mxF D1 D0 (pdF y v n))) := ⟨_, rfl, hM, by constructor <;> simp [mxF] <;> omega, by constructor <;> simp [mxF] <;> omega⟩
            clear gq hM
            go_wp2_with fail
            refine (times_any y.p _ _ D2 D1 D0 _ _ _ hpr (by omega) (by omega) (by omega) HMR.out HMM.out HIN1.out HINP.out).mono ?_; rintro e w6 ⟨m6, rfl, hM6, hb6⟩
            go_wp2
            exact hQ _ _ hb6 hM6
          · intro x w hb hk hiv hdj
            have h0 : x.v 0 = .pointer (some ⟨w0.heap.size, 0, none⟩) := hk 0 (by decide)
            have h1 : x.v 1 = .int .i64 y.p := hk 1 (by decide)
            have h2 : x.v 2 = .pointer (some ⟨w0.heap.size, 5, none⟩) := hk 2 (by decide)
            have h3 : x.v 3 = .slice (some ⟨bm, om, none⟩) y.m.length h := hk 3 (by decide)
            have h4 : x.v 4 = .int .i64 (K : Int) := hk 4 (by decide)
            have h5 : x.v 5 = .int .i64 (J : Int) := hk 5 (by decide)
            have h6 : x.v 6 = .pointer (some ⟨bm, om + J * 3, none⟩) := hk 6 (by decide)
            have h7 : x.v 7 = .agg #[.int .i64 D2, .int .i64 D1, .slice A1 ML c1'] := hk 7 (by decide)
            have h8 : x.v 8 = .agg #[.int .i64 D1, .int .i64 D0, .slice MA NN mc] := hk 8 (by decide)
            have h9 : MxO w (x.lo 9) (x.hi 9) (x.v 9) (mxF D2 D0 (muP y.p D1 (mpF y (v + n)) (pdF y v n))) := hk 9 (by decide)
            clear hk
            simp only [netAct, dstAt, List.getElem?_toArray, List.getElem?_cons_zero, List.getElem?_cons_succ, Option.bind_some, Act.put, List.setIfInBounds_toArray, List.set_cons_zero, List.set_cons_succ]
            simp only [List.drop_succ_cons, List.drop_zero, h0, h1, h2, h3, h4, h5, h6, h7, h8]
            clear h0 h1 h2 h3 h4 h5 h6 h7 h8
            obtain ⟨i9a, i9b, i9c⟩ := hiv 9 (by decide)
            obtain ⟨MB, mb, e9⟩ := h9.form
            have h9' := h9
            rw [e9] at h9' ⊢
            simp only [mxF, flat_length] at h9' ⊢
            obtain ⟨MS, hMS⟩ : ∃ z, D2 * D0 = z := ⟨_, rfl⟩
            rw [hMS] at h9' ⊢
            obtain ⟨sq, eq, oN, _, _⟩ := h9'
            simp only [Value.agg.injEq, Array.mk.injEq, List.cons.injEq, and_true, true_and] at eq
            subst eq
            have kq := k5.call hb
            have q0 := kq.cell' (i := 0) rfl
            have q1 := kq.cell' (i := 1) rfl
            have q2 := kq.cell' (i := 2) rfl
            have qf := kq.frozen
            have hws := hb.size
            have hc := chg3 w w4.heap.size (.int .i64 D2) (.int .i64 D0) (.slice MB MS mb)
            obtain ⟨Y, hY⟩ : ∃ u, u = ((w.setCell ⟨w4.heap.size, 0, none⟩ (.int .i64 D2)).setCell ⟨w4.heap.size, 1, none⟩ (.int .i64 D0)).setCell ⟨w4.heap.size, 2, none⟩ (.slice MB MS mb) := ⟨_, rfl⟩
            rw [← hY] at hc
            have kY : Blk Y w4.heap.size 95 #[.int .i64 D2, .int .i64 D0, .slice MB MS mb] := by
              rw [hY]
              exact ((kq.set_ 0 (.int .i64 D2)).set_ 1 (.int .i64 D0)).set_ 2 (.slice MB MS mb)
            have hOY := (HOO.out.below hb).chg hc (.inl (by omega))
            have hbY := (HBEL.out.trans (hb.mono (by omega))).trans (hc.below (by omega) (by omega))
            have hrY := bcell (hc.below (Nat.le_refl _) (by omega)) (show w2.heap.size < w4.heap.size by omega) (bcell hb (by omega) hr)
            have oNY := oN.chg hc (.inr (by omega))
            have hsY : Y.heap.size = w.heap.size := by rw [hY]; simp
            have HSY := Lib.hid hsY
            have kBY := kB3.below hbY (by omega)
            clear hMS h9 e9 oN hc hiv hdj kq hb k5 hr
            go_wp2
            rw [← hY]
            clear hY q0 q1 q2 qf
            have hRKL := rkF_le y.p D2 D0 (pdF y v (n + 1))
            obtain ⟨rk, hrk⟩ : ∃ z, rkF y.p D2 D0 (pdF y v (n + 1)) = z := ⟨_, rfl⟩
            rw [hrk] at hRKL
            have HRK := Lib.hid hrk
            have HHR := Lib.hid (show rtF y v K = (rk : Int) by rw [HRT.out, hrk])
            have HOY := Lib.hid hOY
            have HBY := Lib.hid hbY
            have HRY := Lib.hid hrY
            have ONY := Lib.hid oNY
            have hsY1 : w.heap.size ≤ Y.heap.size := Nat.le_of_eq HSY.out.symm
            clear hrk hOY hbY hrY oNY hsY
            refine wp_region_net (by kernel_rfl) [.eq (.slice (some ⟨w2.heap.size, 0, none⟩) y.d.length y.d.length), .eq (.int .i64 v), .eq (.pointer (some ⟨w2.heap.size, v, none⟩)), .eq (.slice (some ⟨G, 0, none⟩) y.d.length y.d.length), .eq (.int .i64 (K : Int)), .eq (.pointer (some ⟨w0.heap.size, 0, none⟩)), .eq (.int .i64 y.p), .eq (.agg #[.int .i64 D2, .int .i64 D0, .slice MB MS mb]), .eq (.int .i64 (rk : Int)), .eq (.pointer (some ⟨G, K, none⟩))] [[], [], [0, 1], [0, 1, 2], [], [], [5], [], [5, 6, 7], [0, 1, 2, 3, 4, 5, 6, 7, 8], [0, 1, 2, 3, 4, 5, 6, 7, 8, 9]] 10 (by kernel_rfl) ⟨trivial, trivial, trivial, trivial, trivial, trivial, trivial, trivial, trivial, trivial, trivial⟩ ⟨?_, ?_, ?_, ?_, ?_, ?_, ?_, ?_, ?_, ?_, trivial⟩ ?_
            · intro x w hb hk Q' hQ
              clear hk
              simp only [netAct, dstAt, List.getElem?_toArray, List.getElem?_cons_zero, List.getElem?_cons_succ, Option.bind_some, Act.put, List.setIfInBounds_toArray, List.set_cons_zero, List.set_cons_succ] at hQ ⊢
              go_wp2
              exact hQ (.slice (some ⟨w2.heap.size, 0, none⟩) y.d.length y.d.length) _ (Below.refl _ _) rfl
            · intro x w hb hk Q' hQ
              clear hk
              simp only [netAct, dstAt, List.getElem?_toArray, List.getElem?_cons_zero, List.getElem?_cons_succ, Option.bind_some, Act.put, List.setIfInBounds_toArray, List.set_cons_zero, List.set_cons_succ] at hQ ⊢
              go_wp2
              exact hQ (.int .i64 v) _ (Below.refl _ _) rfl
            · intro x w hb hk Q' hQ
              have h0 : x.v 0 = .slice (some ⟨w2.heap.size, 0, none⟩) y.d.length y.d.length := (hk 0 (by decide)).1
              have h1 : x.v 1 = .int .i64 v := (hk 1 (by decide)).1
              clear hk
              simp only [netAct, dstAt, List.getElem?_toArray, List.getElem?_cons_zero, List.getElem?_cons_succ, Option.bind_some, Act.put, List.setIfInBounds_toArray, List.set_cons_zero, List.set_cons_succ] at hQ ⊢
              simp only [h0, h1] at hQ ⊢
              clear h0 h1
              go_wp2
              exact hQ (.pointer (some ⟨w2.heap.size, v, none⟩)) _ (Below.refl _ _) rfl
            · intro x w hb hk Q' hQ
              have h2 : x.v 2 = .pointer (some ⟨w2.heap.size, v, none⟩) := (hk 2 (by decide)).1
              clear hk
              simp only [netAct, dstAt, List.getElem?_toArray, List.getElem?_cons_zero, List.getElem?_cons_succ, Option.bind_some, Act.put, List.setIfInBounds_toArray, List.set_cons_zero, List.set_cons_succ] at hQ ⊢
              simp only [h2] at hQ ⊢
              clear h2
              have q0 := bcell hb (by omega) HRY.out
              go_wp2
              exact hQ (.slice (some ⟨G, 0, none⟩) y.d.length y.d.length) _ (Below.refl _ _) rfl
            · intro x w hb hk Q' hQ
              clear hk
              simp only [netAct, dstAt, List.getElem?_toArray, List.getElem?_cons_zero, List.getElem?_cons_succ, Option.bind_some, Act.put, List.setIfInBounds_toArray, List.set_cons_zero, List.set_cons_succ] at hQ ⊢
              go_wp2
              exact hQ (.int .i64 (K : Int)) _ (Below.refl _ _) rfl
            · intro x w hb hk Q' hQ
              clear hk
              simp only [netAct, dstAt, List.getElem?_toArray, List.getElem?_cons_zero, List.getElem?_cons_succ, Option.bind_some, Act.put, List.setIfInBounds_toArray, List.set_cons_zero, List.set_cons_succ] at hQ ⊢
              go_wp2
              exact hQ (.pointer (some ⟨w0.heap.size, 0, none⟩)) _ (Below.refl _ _) rfl
            · intro x w hb hk Q' hQ
              have h5 : x.v 5 = .pointer (some ⟨w0.heap.size, 0, none⟩) := (hk 5 (by decide)).1
              clear hk
              simp only [netAct, dstAt, List.getElem?_toArray, List.getElem?_cons_zero, List.getElem?_cons_succ, Option.bind_some, Act.put, List.setIfInBounds_toArray, List.set_cons_zero, List.set_cons_succ] at hQ ⊢
              simp only [h5] at hQ ⊢
              clear h5
              have q0 := (kBY.call hb).cell' (i := 0) rfl
              go_wp2
              exact hQ (.int .i64 y.p) _ (Below.refl _ _) rfl
            · intro x w hb hk Q' hQ
              clear hk
              simp only [netAct, dstAt, List.getElem?_toArray, List.getElem?_cons_zero, List.getElem?_cons_succ, Option.bind_some, Act.put, List.setIfInBounds_toArray, List.set_cons_zero, List.set_cons_succ] at hQ ⊢
              have kq := kY.call hb
              have q0 := kq.cell' (i := 0) rfl
              have q1 := kq.cell' (i := 1) rfl
              have q2 := kq.cell' (i := 2) rfl
              go_wp2
              exact hQ (.agg #[.int .i64 D2, .int .i64 D0, .slice MB MS mb]) _ (Below.refl _ _) rfl
            · intro x w hb hk Q' hQ
              have h6 : x.v 6 = .int .i64 y.p := (hk 6 (by decide)).1
              have h7 : x.v 7 = .agg #[.int .i64 D2, .int .i64 D0, .slice MB MS mb] := (hk 7 (by decide)).1
              clear hk
              simp only [netAct, dstAt, List.getElem?_toArray, List.getElem?_cons_zero, List.getElem?_cons_succ, Option.bind_some, Act.put, List.setIfInBounds_toArray, List.set_cons_zero, List.set_cons_succ] at hQ ⊢
              simp only [h6, h7] at hQ ⊢
              clear h6 h7
              have hM := (ONY.out.below hb).rd
              have HMM : Hid (MxR w w.heap.size (.agg #[.int .i64 D2, .int .i64 D0, .slice MB MS mb]) (mxF D2 D0 (pdF y v (n + 1)))) := ⟨_, rfl, by rw [HP1.out]; exact hM, by constructor <;> simp [mxF] <;> omega, by constructor <;> simp [mxF] <;> omega⟩
              clear hM
              go_wp2_with fail
              refine (implRank_any y.p _ D2 D0 (pdF y v (n + 1)) _ H3.out (by omega) (by omega) HMM.out (by rw [HP1.out]; exact HINP1.out)).mono ?_; rintro e w6 ⟨rfl, hb6⟩
              rw [HRK.out]
              go_wp2
              exact hQ _ _ hb6 rfl
            · intro x w hb hk Q' hQ
              have h3 : x.v 3 = .slice (some ⟨G, 0, none⟩) y.d.length y.d.length := (hk 3 (by decide)).1
              have h4 : x.v 4 = .int .i64 (K : Int) := (hk 4 (by decide)).1
              clear hk
              simp only [netAct, dstAt, List.getElem?_toArray, List.getElem?_cons_zero, List.getElem?_cons_succ, Option.bind_some, Act.put, List.setIfInBounds_toArray, List.set_cons_zero, List.set_cons_succ] at hQ ⊢
              simp only [h3, h4] at hQ ⊢
              clear h3 h4
              go_wp2
              exact hQ (.pointer (some ⟨G, K, none⟩)) _ (Below.refl _ _) rfl
            · intro x w hb hk hiv hdj
              have h0 : x.v 0 = .slice (some ⟨w2.heap.size, 0, none⟩) y.d.length y.d.length := hk 0 (by decide)
              have h1 : x.v 1 = .int .i64 v := hk 1 (by decide)
              have h2 : x.v 2 = .pointer (some ⟨w2.heap.size, v, none⟩) := hk 2 (by decide)
              have h3 : x.v 3 = .slice (some ⟨G, 0, none⟩) y.d.length y.d.length := hk 3 (by decide)
              have h4 : x.v 4 = .int .i64 (K : Int) := hk 4 (by decide)
              have h5 : x.v 5 = .pointer (some ⟨w0.heap.size, 0, none⟩) := hk 5 (by decide)
              have h6 : x.v 6 = .int .i64 y.p := hk 6 (by decide)
              have h7 : x.v 7 = .agg #[.int .i64 D2, .int .i64 D0, .slice MB MS mb] := hk 7 (by decide)
              have h8 : x.v 8 = .int .i64 (rk : Int) := hk 8 (by decide)
              have h9 : x.v 9 = .pointer (some ⟨G, K, none⟩) := hk 9 (by decide)
              clear hk
              simp only [netAct, dstAt, List.getElem?_toArray, List.getElem?_cons_zero, List.getElem?_cons_succ, Option.bind_some, Act.put, List.setIfInBounds_toArray, List.set_cons_zero, List.set_cons_succ]
              simp only [List.drop_succ_cons, List.drop_zero, h0, h1, h2, h3, h4, h5, h6, h7, h8, h9]
              clear h0 h1 h2 h3 h4 h5 h6 h7 h8 h9
              have hws2 := hb.size
              have hO2 := HOY.out.below hb
              have hr2 := bcell hb (show w2.heap.size < Y.heap.size by omega) HRY.out
              have st := hO2.put (i := K) (x := (rk : Int)) (rtB_get (rtF y) (v + 1 + n) hlt) hr2 (by constructor <;> omega)
              obtain ⟨uu, cs1, io1, _⟩ := hO2.row (rtB_get (rtF y) (v + 1 + n) hlt)
              rw [hr2] at cs1
              injection cs1 with cs1
              subst cs1
              have y3 := (io1.1.cellG (j := K) (by rw [rtR, rowF_length]; exact hlw)).1
              have y4 := io1.1.frozenG K
              rw [← HHR.out, HK.out, rtR_set, rtB_set, ← HK.out, HHR.out] at st
              have hg := st.2
              have hc3 : Chg G (G + 1) w (w.setCell ⟨G, K, none⟩ (.int .i64 (rk : Int))) := chg_set (Nat.le_refl _) (Nat.lt_succ_self _)
              have kY2 := (kY.call hb).chg hc3 (.inr (by omega))
              have oN2 := (ONY.out.below hb).chg hc3 (.inr (by omega))
              have bY2 := (HBY.out.trans (hb.mono (by omega))).trans (hc3.below (by omega) (by omega))
              have rY2 := bcell (hc3.below (Nat.le_refl _) (by omega)) hG2 hr2
              have HST := Lib.hid st.1
              have HK2' := Lib.hid kY2
              have HON2 := Lib.hid oN2
              have HB2 := Lib.hid bY2
              have HR2 := Lib.hid rY2
              clear st hg hc3 kY2 oN2 bY2 rY2 hr2 hO2 io1 kY hb hiv hdj kBY
              go_wp2
              go_roundw
              case rel => exact ⟨n + 1, MS, K + 1, MB, mb, by omega, by go_num, (by show K + 1 = v + 1 + (n + 1); omega), HB2.out, by simp; omega, by rw [show v + 1 + (n + 1) = K + 1 by omega]; exact HST.out, HR2.out, by rw [show v + (n + 1) = v + n + 1 from rfl, HD2.out, HD0.out]; exact HK2'.out, by rw [show v + (n + 1) = v + n + 1 from rfl, HD2.out, HD0.out, HP1.out]; exact HON2.out.wider (by omega) (by simp; omega)⟩
              case measure => simp [intOf]; omega
        · have hKL : K = x.d.length := by omega
          have e1 : v + 1 + n = x.d.length := by omega
          rw [e1, rtB_end] at hO
          have HO := Lib.hid (hO.wider (Nat.le_refl _) (show Z.heap.size ≤ wr.heap.size by omega))
          have HB := Lib.hid hbel
          clear hO hbel hKL e1 k5 oM hr gw kBr
          go_wp2
          go_roundw
          case rel => exact ⟨v + 1, by omega, by go_num, HB.out, HO.out⟩
          case measure => simp [intOf]; omega
    · have hvL : v = x.d.length := by omega
      rw [hvL, rtA_end] at hO
      have HO := Lib.hid (hO.wider (show w0.heap.size ≤ w2.heap.size by omega) (Nat.le_refl _))
      have HG := Lib.hid gw
      clear hO hbel hvL kBr gw
      go_wp2
      go_ret2
      exact ⟨.slice (some ⟨w2.heap.size, 0, none⟩) x.d.length x.d.length, by rw [HF.out]; rfl, by rw [HF.out]; exact HO.out, HG.out⟩
theorem implRankTable_any (u : Value) (x : Rp) (w0 : World) (hu : RpR w0 w0.heap.size u x) :
    Calls Try.prog 66 #[u] w0 fun e w' => ∃ v, e = .returned (.tuple #[v, .bool (rtM x).2]) ∧ IntssO w' w0.heap.size w'.heap.size v (rtM x).1 ∧ Below w0.heap.size w0 w' := by
  rcases h : okL x with _ | _
  · exact implRankTable_no u x w0 hu h
  · exact implRankTable_yes u x w0 hu h
end Go.Proofs.Ytjlgijdkfihhlaa
