/- FnExactRootRep: the law holds for every argument. Part 11 of 18 of the proof: RtP, Eulr, Eulr2, RtC, NulP, Minor, Det, Det2, Kind, KindI, NulI. No condition. -/
import Derived.Test.YtcmlflppndfdcaaGreatBRootRep10
import Derived.Sort.LotA
import Derived.Sort.AtCallIn
set_option linter.unusedVariables false
set_option linter.unusedSimpArgs false
namespace Go.Proofs.YtcmlflppndfdcaaGreat
open Go.RowKit Go.Sort
def lexB : List Int → List Int → Bool
 | a :: s, b :: t => if a = b then lexB s t else decide (a < b)
 | _, _ => false
def ltR (x y : List Int) : Bool := if x.sum = y.sum then lexB x y else decide (x.sum < y.sum)
theorem lexB_irrefl : ∀ x, lexB x x = false
 | [] => rfl
 | a :: s => by rw [lexB, if_pos rfl, lexB_irrefl s]
theorem lexB_asymm : ∀ x y, lexB x y = true → lexB y x = false
 | [], _, h => by simp [lexB] at h
 | _ :: _, [], h => by simp [lexB] at h
 | a :: s, b :: t, h => by
  rw [lexB] at h ⊢
  by_cases e : a = b
  ·rw [if_pos e] at h; rw [if_pos e.symm]; exact lexB_asymm s t h
  ·rw [if_neg e] at h
   rw [if_neg (fun h => e h.symm)]
   simp at h ⊢; omega
theorem lexB_trans : ∀ x y z, lexB x y = true → lexB y z = true → lexB x z = true
 | [], _, _, h, _ => by simp [lexB] at h
 | _ :: _, [], _, h, _ => by simp [lexB] at h
 | _ :: _, _ :: _, [], _, h => by simp [lexB] at h
 | a :: s, b :: t, c :: u, h, k => by
  rw [lexB] at h k ⊢
  by_cases e : a = b
  ·subst e
   rw [if_pos rfl] at h
   by_cases e2 : a = c
   ·subst e2; rw [if_pos rfl] at k; rw [if_pos rfl]; exact lexB_trans s t u h k
   ·rw [if_neg e2] at k ⊢; exact k
  ·rw [if_neg e] at h
   by_cases e2 : b = c
   ·subst e2; rw [if_neg e]; exact h
   ·rw [if_neg e2] at k
    simp at h k
    rw [if_neg (by omega)]; simp; omega
theorem lexB_total : ∀ x y : List Int, x.length = y.length → x ≠ y → lexB x y = false → lexB y x = true
 | [], [], _, h, _ => absurd rfl h
 | [], _ :: _, h, _, _ => by simp at h
 | _ :: _, [], h, _, _ => by simp at h
 | a :: s, b :: t, hl, hn, h => by
  rw [lexB] at h ⊢
  by_cases e : a = b
  ·subst e; rw [if_pos rfl] at h ⊢
   exact lexB_total s t (by simpa using hl) (fun e => hn (by rw [e])) h
  ·rw [if_neg e] at h; rw [if_neg (fun h => e h.symm)]; simp at h ⊢; omega
theorem ltR_irrefl (x : List Int) : ltR x x = false := by rw [ltR, if_pos rfl, lexB_irrefl]
theorem ltR_asymm {x y : List Int} (h : ltR x y = true) : ltR y x = false := by
 rw [ltR] at h ⊢
 by_cases e : x.sum = y.sum
 ·rw [if_pos e] at h; rw [if_pos e.symm]; exact lexB_asymm _ _ h
 ·rw [if_neg e] at h; rw [if_neg (fun h => e h.symm)]; simp at h ⊢; omega
theorem ltR_trans {x y z : List Int} (h : ltR x y = true) (k : ltR y z = true) : ltR x z = true := by
 rw [ltR] at h k ⊢
 by_cases e : x.sum = y.sum
 ·rw [if_pos e] at h
  by_cases e2 : y.sum = z.sum
  ·rw [if_pos e2] at k; rw [if_pos (by omega)]; exact lexB_trans _ _ _ h k
  ·rw [if_neg e2] at k; rw [if_neg (by omega), e]; exact k
 ·rw [if_neg e] at h
  simp at h
  by_cases e2 : y.sum = z.sum
  ·rw [if_neg (by omega)]; simp; omega
  ·rw [if_neg e2] at k; simp at k; rw [if_neg (by omega)]; simp; omega
theorem ltR_total {x y : List Int} (hl : x.length = y.length) (hn : x ≠ y) (h : ltR x y = false) : ltR y x = true := by
 rw [ltR] at h ⊢
 by_cases e : x.sum = y.sum
 ·rw [if_pos e] at h; rw [if_pos e.symm]; exact lexB_total _ _ hl hn h
 ·rw [if_neg e] at h; rw [if_neg (fun h => e h.symm)]; simp at h ⊢; omega
theorem strict_unique {α : Type} {R : α → α → Bool} (hi : ∀ x, R x x = false) (ha : ∀ x y, R x y = true → R y x = false) : ∀ l m : List α, l.Pairwise (fun a b => R a b = true) → m.Pairwise (fun a b => R a b = true) → (∀ x, x ∈ l ↔ x ∈ m) → l = m
 | [], [], _, _, _ => rfl
 | [], b :: m, _, _, h => by have := (h b).2 (by simp); simp at this
 | a :: l, [], _, _, h => by have := (h a).1 (by simp); simp at this
 | a :: l, b :: m, hl, hm, h => by
  rw [List.pairwise_cons] at hl hm
  have hab : a = b := by
   rcases List.mem_cons.1 ((h a).1 (by simp)) with e | h1
   ·exact e
   ·rcases List.mem_cons.1 ((h b).2 (by simp)) with e | h2
    ·exact e.symm
    ·have := ha _ _ (hm.1 a h1)
     rw [hl.1 b h2] at this
     cases this
  subst hab
  rw [strict_unique hi ha l m hl.2 hm.2 fun x => ⟨fun hx => ?_, fun hx => ?_⟩]
  ·rcases List.mem_cons.1 ((h x).1 (by simp [hx])) with e | h1
   ·subst e; have := hl.1 x hx; rw [hi] at this; cases this
   ·exact h1
  ·rcases List.mem_cons.1 ((h x).2 (by simp [hx])) with e | h1
   ·subst e; have := hm.1 x hx; rw [hi] at this; cases this
   ·exact h1
theorem bxV_succ (m N k : Nat) : bxV m (N + 1) k = ((k / (m + 1) ^ N % (m + 1) : Nat) : Int) :: bxV m N k := by
 apply List.ext_getElem (by simp [bxV])
 intro i h1 h2
 match i with
 | 0 => simp [bxV]
 | i + 1 =>
  simp only [bxV, List.getElem_map, List.getElem_range, List.getElem_cons_succ]
  rw [show N + 1 - 1 - (i + 1) = N - 1 - i by omega]
theorem bxV_mod (m N k : Nat) : bxV m N (k % (m + 1) ^ N) = bxV m N k := by
 apply List.ext_getElem (by simp [bxV])
 intro i h1 h2
 have hi : i < N := by simpa [bxV] using h2
 simp only [bxV, List.getElem_map, List.getElem_range]
 obtain ⟨r, hr⟩ : ∃ r, N = (N - 1 - i) + (r + 1) := ⟨i, by omega⟩
 have e : (m + 1) ^ N = (m + 1) ^ (N - 1 - i) * ((m + 1) * (m + 1) ^ r) := by rw [← Nat.pow_succ', ← Nat.pow_add, ← hr]
 rw [e, Nat.mod_mul_right_div_self, Nat.mod_mul_right_mod]
theorem bxV_lex (m : Nat) : ∀ (N j k : Nat), j < k → k < (m + 1) ^ N → lexB (bxV m N j) (bxV m N k) = true
 | 0, j, k, h, hk => by simp at hk; omega
 | N + 1, j, k, h, hk => by
  rw [bxV_succ, bxV_succ, lexB]
  have hb : 0 < (m + 1) ^ N := Nat.pow_pos (by omega)
  have h1 : j / (m + 1) ^ N < m + 1 := by rw [Nat.div_lt_iff_lt_mul hb]; rw [Nat.pow_succ, Nat.mul_comm] at hk; omega
  have h2 : k / (m + 1) ^ N < m + 1 := by rw [Nat.div_lt_iff_lt_mul hb]; rw [Nat.pow_succ, Nat.mul_comm] at hk; omega
  have h3 : j / (m + 1) ^ N ≤ k / (m + 1) ^ N := Nat.div_le_div_right (by omega)
  rw [Nat.mod_eq_of_lt h1, Nat.mod_eq_of_lt h2]
  by_cases e : j / (m + 1) ^ N = k / (m + 1) ^ N
  ·rw [if_pos (congrArg _ e), ← bxV_mod m N j, ← bxV_mod m N k]
   refine bxV_lex m N _ _ ?_ (Nat.mod_lt _ hb)
   have e1 := Nat.div_add_mod j ((m + 1) ^ N)
   have e2 := Nat.div_add_mod k ((m + 1) ^ N)
   rw [e] at e1; omega
  ·rw [if_neg (fun h => e (Int.ofNat_inj.1 h))]
   rw [decide_eq_true_eq]
   exact Int.ofNat_lt.2 (by omega)
def bxI (m : Nat) : List Int → Nat
 | [] => 0
 | a :: s => a.toNat * (m + 1) ^ s.length + bxI m s
theorem bxI_lt (m : Nat) : ∀ x : List Int, (∀ y ∈ x, 0 ≤ y ∧ y ≤ m) → bxI m x < (m + 1) ^ x.length
 | [], _ => by simp [bxI]
 | a :: s, h => by
  have h1 := bxI_lt m s fun y hy => h y (by simp [hy])
  have h2 := h a (by simp)
  rw [bxI, List.length_cons, Nat.pow_succ']
  have : a.toNat * (m + 1) ^ s.length ≤ m * (m + 1) ^ s.length := Nat.mul_le_mul_right _ (by omega)
  rw [Nat.add_mul]; omega
theorem bxV_I (m : Nat) : ∀ x : List Int, (∀ y ∈ x, 0 ≤ y ∧ y ≤ m) → bxV m x.length (bxI m x) = x
 | [], _ => rfl
 | a :: s, h => by
  have h1 := bxI_lt m s fun y hy => h y (by simp [hy])
  have h2 := h a (by simp)
  have hb : 0 < (m + 1) ^ s.length := Nat.pow_pos (by omega)
  rw [List.length_cons, bxV_succ, ← bxV_mod m s.length]
  have e1 : bxI m (a :: s) / (m + 1) ^ s.length = a.toNat := by
   rw [bxI, Nat.mul_comm, Nat.mul_add_div hb, Nat.div_eq_of_lt h1]; rfl
  have e2 : bxI m (a :: s) % (m + 1) ^ s.length = bxI m s := by
   rw [bxI, Nat.mul_comm, Nat.mul_add_mod, Nat.mod_eq_of_lt h1]
  rw [e1, e2, bxV_I m s fun y hy => h y (by simp [hy]), Nat.mod_eq_of_lt (by omega)]
  congr 1; omega
def rtB (q : Qv) (V k : Nat) : List (List Int) := ((List.range k).map (bxV 4 V)).filter fun x => eul q x x == 1
theorem rtB_yes {q : Qv} {V k : Nat} (h : eul q (bxV 4 V k) (bxV 4 V k) = 1) : rtB q V (k + 1) = rtB q V k ++ [bxV 4 V k] := by
 rw [rtB, List.range_succ, List.map_append, List.filter_append]
 congr 1
 simp [h]
theorem rtB_no {q : Qv} {V k : Nat} (h : eul q (bxV 4 V k) (bxV 4 V k) ≠ 1) : rtB q V (k + 1) = rtB q V k := by
 rw [rtB, List.range_succ, List.map_append, List.filter_append]
 simp [h]; rfl
theorem rtB_isRt {q : Qv} {k : Nat} {x : List Int} (h : x ∈ rtB q q.v.toNat k) : isRt q x := by
 rw [rtB, List.mem_filter] at h
 obtain ⟨h1, h2⟩ := h
 obtain ⟨j, _, rfl⟩ := List.mem_map.1 h1
 refine ⟨bxV_length _ _ _, fun i hi => ?_, by simpa using h2⟩
 rw [bxV_length] at hi
 simp [vx, bxV, hi]
 omega
theorem rtB_lex (q : Qv) (V : Nat) : ∀ k, k ≤ 5 ^ V → (rtB q V k).Pairwise fun a b => lexB a b = true := by
 intro k hk
 rw [rtB]
 refine List.Pairwise.filter _ ?_
 rw [List.pairwise_map]
 refine List.Pairwise.imp_of_mem ?_ List.pairwise_lt_range
 intro a b ha hb hab
 rw [List.mem_range] at ha hb
 exact bxV_lex 4 V a b hab (by show b < 5 ^ V; omega)
theorem rtB_nodup (q : Qv) (V k : Nat) (hk : k ≤ 5 ^ V) : (rtB q V k).Nodup :=
 (rtB_lex q V k hk).imp fun h e => by rw [e, lexB_irrefl] at h; cases h
theorem rtB_len {q : Qv} (hk : kindQ q = 1) (k : Nat) (h : k ≤ 5 ^ q.v.toNat) : (rtB q q.v.toNat k).length ≤ 20 :=
 rt_20 hk _ (rtB_nodup q _ k h) fun _ hx => rtB_isRt hx
theorem rtB_all {q : Qv} (hk : kindQ q = 1) {x : List Int} (h : isRt q x) : x ∈ rtB q q.v.toNat (5 ^ q.v.toNat) := by
 have hb : ∀ y ∈ x, 0 ≤ y ∧ y ≤ ((4 : Nat) : Int) := by
  intro y hy
  obtain ⟨i, hi, rfl⟩ := List.mem_iff_getElem.1 hy
  have := isRt.le2 hk h hi
  rw [vx, List.getD_eq_getElem?_getD, List.getElem?_eq_getElem hi] at this
  simp at this ⊢
  omega
 rw [rtB, List.mem_filter]
 refine ⟨List.mem_map.2 ⟨bxI 4 x, ?_, ?_⟩, by simpa using h.one⟩
 ·have := bxI_lt 4 x hb
  rw [List.mem_range, ← h.len]; exact this
 ·rw [← h.len]; exact bxV_I 4 x hb
def insR (L : List (List Int)) (x : List Int) : List (List Int) := L.filter (fun y => ltR y x) ++ x :: L.filter (fun y => !ltR y x)
def rtsQ (q : Qv) : List (List Int) := (rtB q q.v.toNat (5 ^ q.v.toNat)).foldl insR []
theorem insR_mem {L : List (List Int)} {x y : List Int} : y ∈ insR L x ↔ y = x ∨ y ∈ L := by
 simp only [insR, List.mem_append, List.mem_cons, List.mem_filter]
 cases h : ltR y x <;> simp <;> grind
theorem insR_fold_mem : ∀ (l L : List (List Int)) (y : List Int), y ∈ l.foldl insR L ↔ y ∈ l ∨ y ∈ L
 | [], L, y => by simp
 | x :: l, L, y => by rw [List.foldl_cons, insR_fold_mem l, insR_mem, List.mem_cons]; grind
theorem insR_sorted {L : List (List Int)} {x : List Int} (n : Nat) (hl : ∀ y ∈ L, y.length = n) (hx : x.length = n) (hn : x ∉ L) (h : L.Pairwise fun a b => ltR a b = true) : (insR L x).Pairwise fun a b => ltR a b = true := by
 rw [insR, List.pairwise_append, List.pairwise_cons]
 refine ⟨h.filter _, ⟨fun y hy => ?_, h.filter _⟩, fun a ha b hb => ?_⟩
 ·rw [List.mem_filter] at hy
  exact ltR_total (by rw [hl y hy.1, hx]) (fun e => hn (e ▸ hy.1)) (by simpa using hy.2)
 ·rw [List.mem_filter] at ha
  rcases List.mem_cons.1 hb with rfl | hb
  ·exact ha.2
  ·rw [List.mem_filter] at hb
   exact ltR_trans ha.2 (ltR_total (by rw [hl b hb.1, hx]) (fun e => hn (e ▸ hb.1)) (by simpa using hb.2))
theorem insR_fold_sorted (n : Nat) : ∀ (l L : List (List Int)), l.Nodup → (∀ x ∈ l, x ∉ L) → (∀ y ∈ l, y.length = n) → (∀ y ∈ L, y.length = n) → L.Pairwise (fun a b => ltR a b = true) → (l.foldl insR L).Pairwise fun a b => ltR a b = true
 | [], L, _, _, _, _, h => h
 | x :: l, L, hd, hn, hl, hL, h => by
  rw [List.foldl_cons]
  rw [List.nodup_cons] at hd
  refine insR_fold_sorted n l _ hd.2 (fun y hy e => ?_) (fun y hy => hl y (by simp [hy])) (fun y hy => ?_) (insR_sorted n hL (hl x (by simp)) (hn x (by simp)) h)
  ·rcases insR_mem.1 e with e | e
   ·exact hd.1 (e ▸ hy)
   ·exact hn y (by simp [hy]) e
  ·rcases insR_mem.1 hy with e | e
   ·rw [e]; exact hl x (by simp)
   ·exact hL y e
theorem rtsQ_mem {q : Qv} (hk : kindQ q = 1) {x : List Int} : x ∈ rtsQ q ↔ isRt q x := by
 rw [rtsQ, insR_fold_mem]
 constructor
 ·rintro (h | h)
  ·exact rtB_isRt h
  ·simp at h
 ·intro h; exact .inl (rtB_all hk h)
theorem rtsQ_sorted (q : Qv) : (rtsQ q).Pairwise fun a b => ltR a b = true := by
 refine insR_fold_sorted q.v.toNat _ _ (rtB_nodup q _ _ (Nat.le_refl _)) (fun x _ h => by simp at h) (fun y hy => (rtB_isRt hy).len) (fun y hy => by simp at hy) List.Pairwise.nil
theorem rts_eq {q : Qv} (hk : kindQ q = 1) {L : List (List Int)} (hs : L.Pairwise fun a b => ltR a b = true) (hm : ∀ x, x ∈ L ↔ isRt q x) : L = rtsQ q :=
 strict_unique ltR_irrefl (fun _ _ => ltR_asymm) L _ hs (rtsQ_sorted q) fun x => (hm x).trans (rtsQ_mem hk).symm
def ltS (L : List (List Int)) (i j : Nat) : Bool := decide ((L.getD i []).sum < (L.getD j []).sum)
def ltT (L : List (List Int)) (i j : Nat) : Bool := decide ((L.getD i []).sum < (L.getD j []).sum ∨ ((L.getD i []).sum = (L.getD j []).sum ∧ i < j))
structure StIx (n i : Nat) (d : Array Nat) : Prop where
 size : d.size = n
 lo : ∀ k, k < i → d[k]! < i
 hi : ∀ k, i ≤ k → k < n → d[k]! = k
theorem swp_at (d : Array Nat) (i j k : Nat) (hi : i < d.size) (hj : j < d.size) : (swp d i j)[k]! = if k = j then d[i]! else if k = i then d[j]! else d[k]! := by
 simp only [swp]
 by_cases h1 : k = j
 ·subst h1; simp [hj]
 ·rw [if_neg h1]
  by_cases h2 : k = i
  ·subst h2; simp [hi, h1]; grind
  ·simp [h1, h2]; grind
theorem swp_size (d : Array Nat) (i j : Nat) : (swp d i j).size = d.size := by simp [swp]
theorem insI_eq (L : List (List Int)) (n i : Nat) (hin : i < n) : ∀ (j : Nat) (d : Array Nat), j ≤ i → d.size = n → d[j]! = i → (∀ k, k < j → d[k]! < i) → (∀ k, k ≤ i → d[k]! ≤ i) → (∀ k, i < k → k < n → d[k]! = k) →
  insInner (ltS L) 0 j d = insInner (ltT L) 0 j d ∧ StIx n (i + 1) (insInner (ltS L) 0 j d)
 | 0, d, _, hs, _, _, h1, h2 => ⟨rfl, hs, fun k hk => by have := h1 k (by omega); show (insInner (ltS L) 0 0 d)[k]! < _; simp only [insInner]; omega, fun k h h' => h2 k (by omega) h'⟩
 | j + 1, d, hj, hs, he, hlt, h1, h2 => by
  have h3 := hlt j (by omega)
  have hc : ltS L d[j + 1]! d[j]! = ltT L d[j + 1]! d[j]! := by
   simp only [ltS, ltT, he]
   congr 1
   apply propext
   constructor
   ·intro h; exact .inl h
   ·rintro (h | ⟨_, h⟩)
    ·exact h
    ·omega
  simp only [insInner, hc]
  split
  ·refine insI_eq L n i hin j (swp d (j + 1) j) (by omega) (by rw [swp_size]; exact hs) ?_ (fun k hk => ?_) (fun k hk => ?_) (fun k hk hk2 => ?_)
   ·rw [swp_at _ _ _ _ (by omega) (by omega), if_pos rfl, he]
   ·rw [swp_at _ _ _ _ (by omega) (by omega), if_neg (by omega), if_neg (by omega)]; exact hlt k (by omega)
   ·rw [swp_at _ _ _ _ (by omega) (by omega)]
    split
    ·omega
    ·split
     ·omega
     ·exact h1 k hk
   ·rw [swp_at _ _ _ _ (by omega) (by omega), if_neg (by omega), if_neg (by omega)]; exact h2 k hk hk2
  ·exact ⟨rfl, hs, fun k hk => by have := h1 k (by omega); omega, fun k h h' => h2 k (by omega) h'⟩
theorem oGo (lt : Nat → Nat → Bool) (a b i : Nat) (d : Array Nat) (h : i < b) : insOuter lt a b i d = insOuter lt a b (i + 1) (insInner lt a i d) := by rw [insOuter, if_pos h]
theorem oStop (lt : Nat → Nat → Bool) (a b i : Nat) (d : Array Nat) (h : ¬ i < b) : insOuter lt a b i d = d := by rw [insOuter, if_neg h]
theorem insO_eq (L : List (List Int)) (n : Nat) : ∀ (m i : Nat) (d : Array Nat), n - i ≤ m → StIx n i d → insOuter (ltS L) 0 n i d = insOuter (ltT L) 0 n i d
 | 0, i, d, hm, h => by rw [oStop _ _ _ _ _ (by omega), oStop _ _ _ _ _ (by omega)]
 | m + 1, i, d, hm, h => by
  by_cases hi : i < n
  ·rw [oGo _ _ _ _ _ hi, oGo _ _ _ _ _ hi]
   have h4 := insI_eq L n i hi i d (Nat.le_refl _) h.size (h.hi i (Nat.le_refl _) hi) h.lo (fun k hk => by
    rcases Nat.lt_or_ge k i with h5 | h5
    ·have := h.lo k h5; omega
    ·have := h.hi k h5 (by omega); omega) (fun k hk hk2 => h.hi k (by omega) hk2)
   rw [← h4.1]
   exact insO_eq L n m (i + 1) _ (by omega) h4.2
  ·rw [oStop _ _ _ _ _ hi, oStop _ _ _ _ _ hi]
theorem ltT_swo (L : List (List Int)) : SWO (ltT L) := by
 refine ⟨fun x => ?_, fun x y z h k => ?_, fun x y z h k => ?_⟩
 ·simp [ltT]
 ·simp [ltT] at h k ⊢; omega
 ·simp [ltT] at h k ⊢; omega
def rngA (n : Nat) : Array Nat := (List.range n).toArray
def srtA (L : List (List Int)) (n : Nat) : List Nat := (insertionSort (ltS L) (rngA n) 0 n).toList
theorem srtA_spec (L : List (List Int)) (n : Nat) : (srtA L n).Perm (List.range n) ∧ (srtA L n).Pairwise fun i j => ltT L i j = true := by
 have h0 : ∀ k, k < n → (rngA n)[k]! = k := fun k hk => by simp [rngA, hk]
 have e : insertionSort (ltS L) (rngA n) 0 n = insertionSort (ltT L) (rngA n) 0 n := by
  rcases Nat.eq_zero_or_pos n with h | h
  ·subst h; simp [insertionSort, insOuter]
  ·exact insO_eq L n n 1 _ (by omega) ⟨by simp [rngA], fun k hk => by rw [h0 k (by omega)]; exact hk, fun k _ hk => h0 k hk⟩
 obtain ⟨⟨hs, _, hp⟩, hso⟩ := insertionSort_holds (lt := ltT L) (ltT_swo L) (rngA n) 0 n (Nat.zero_le _) (by simp [rngA])
 rw [← e] at hs hp hso
 have hs' : (insertionSort (ltS L) (rngA n) 0 n).size = n := by rw [hs]; simp [rngA]
 have hp' : (srtA L n).Perm (List.range n) := by
  rw [srtA]
  have e1 : (insertionSort (ltS L) (rngA n) 0 n).extract 0 n = insertionSort (ltS L) (rngA n) 0 n := Array.extract_eq_self_of_le (by omega)
  have e2 : (rngA n).extract 0 n = rngA n := Array.extract_eq_self_of_le (by simp [rngA])
  rw [e1, e2] at hp
  simpa [rngA] using hp
 refine ⟨hp', ?_⟩
 have hnd : (srtA L n).Nodup := hp'.nodup_iff.2 List.nodup_range
 rw [List.pairwise_iff_getElem]
 intro i j hi hj hij
 have hne : (srtA L n)[i] ≠ (srtA L n)[j] := fun h => by
  exact (List.pairwise_iff_getElem.1 hnd) i j hi hj hij h
 have hz : (srtA L n).length = n := by simp [srtA, hs']
 have := hso i j (Nat.zero_le _) hij (by omega)
 have g1 : (insertionSort (ltS L) (rngA n) 0 n)[i]! = (srtA L n)[i] := by simp only [srtA, Array.getElem_toList]; exact getElem!_pos _ i (by omega)
 have g2 : (insertionSort (ltS L) (rngA n) 0 n)[j]! = (srtA L n)[j] := by simp only [srtA, Array.getElem_toList]; exact getElem!_pos _ j (by omega)
 rw [g1, g2] at this
 simp [ltT] at this ⊢
 omega
theorem srt_rts {q : Qv} (hk : kindQ q = 1) : (srtA (rtB q q.v.toNat (5 ^ q.v.toNat)) (rtB q q.v.toNat (5 ^ q.v.toNat)).length).map (fun i => (rtB q q.v.toNat (5 ^ q.v.toNat)).getD i []) = rtsQ q := by
 obtain ⟨L, hL⟩ : ∃ L, rtB q q.v.toNat (5 ^ q.v.toNat) = L := ⟨_, rfl⟩
 obtain ⟨h1, h2⟩ := srtA_spec L L.length
 have hlex := rtB_lex q q.v.toNat _ (Nat.le_refl _)
 have hm : ∀ x, x ∈ L ↔ isRt q x := fun x => by rw [← hL]; exact ⟨rtB_isRt, rtB_all hk⟩
 rw [hL] at hlex ⊢
 have hin : ∀ i, i ∈ srtA L L.length ↔ i < L.length := fun i => by rw [h1.mem_iff, List.mem_range]
 refine rts_eq hk ?_ fun x => ?_
 ·rw [List.pairwise_map]
  refine List.Pairwise.imp_of_mem ?_ h2
  intro i j hi hj hij
  rw [hin] at hi hj
  rw [ltR]
  simp only [ltT, decide_eq_true_eq] at hij
  rcases hij with h | ⟨h, h'⟩
  ·rw [if_neg (by omega)]; simpa using h
  ·rw [if_pos h]
   rw [List.pairwise_iff_getElem] at hlex
   have := hlex i j hi hj h'
   simpa [List.getD_eq_getElem?_getD, hi, hj] using this
 ·rw [← hm, List.mem_map]
  constructor
  ·rintro ⟨i, hi, rfl⟩
   rw [hin] at hi
   simp [List.getD_eq_getElem?_getD, hi]
  ·intro hx
   obtain ⟨i, hi, rfl⟩ := List.mem_iff_getElem.1 hx
   exact ⟨i, (hin i).2 hi, by simp [List.getD_eq_getElem?_getD, hi]⟩
end Go.Proofs.YtcmlflppndfdcaaGreat
namespace Go.Proofs.YtcmlflppndfdcaaGreat
open Go.RowKit
def smallV (B : Int) (x : List Int) : Prop := ∀ y ∈ x, -B ≤ y ∧ y ≤ B
theorem vx_small {B : Int} {x : List Int} (hB : 0 ≤ B) (h : smallV B x) (i : Nat) : -B ≤ vx x i ∧ vx x i ≤ B := by
 by_cases hi : i < x.length
 ·rw [vx, List.getD_eq_getElem?_getD, List.getElem?_eq_getElem hi]; exact h _ (List.getElem_mem hi)
 ·rw [vx, List.getD_eq_getElem?_getD, List.getElem?_eq_none (by omega)]; simp; omega
theorem mul_rngB {B a b : Int} (hB : 0 ≤ B) (ha : -B ≤ a ∧ a ≤ B) (hb : -B ≤ b ∧ b ≤ B) : -(B * B) ≤ a * b ∧ a * b ≤ B * B := by
 have h1 := abs_mul (A := B) (B := B) ha hb
 exact h1
theorem eulV_succ (x y : List Int) (k : Nat) : eulV x y (k + 1) = eulV x y k + vx x k * vx y k := rfl
theorem eulA_succ (q : Qv) (x y : List Int) (k : Nat) : eulA q x y (k + 1) = eulA q x y k + vx x (vx q.f k).toNat * vx y (vx q.t k).toNat := rfl
theorem eulV_rng {x y : List Int} (hx : smallV 100 x) (hy : smallV 100 y) : ∀ k : Nat, -(10000 * (k : Int)) ≤ eulV x y k ∧ eulV x y k ≤ 10000 * k
 | 0 => by simp [eulV, sm]
 | k + 1 => by
  have ih := eulV_rng hx hy k
  have h := mul_rngB (B := 100) (by omega) (vx_small (by omega) hx k) (vx_small (by omega) hy k)
  rw [eulV_succ]; omega
theorem eulA_rng {q : Qv} {x y : List Int} (hx : smallV 100 x) (hy : smallV 100 y) : ∀ k : Nat, -(10000 * (k : Int)) ≤ eulA q x y k ∧ eulA q x y k ≤ 10000 * k
 | 0 => by simp [eulA, sm]
 | k + 1 => by
  have ih := eulA_rng (q := q) hx hy k
  have h := mul_rngB (B := 100) (by omega) (vx_small (by omega) hx (vx q.f k).toNat) (vx_small (by omega) hy (vx q.t k).toNat)
  rw [eulA_succ]; omega
theorem vx_of {l : List Int} {k : Nat} {x : Int} (h : l[k]? = some x) : vx l k = x := by rw [vx, List.getD_eq_getElem?_getD, h]; rfl
set_option maxHeartbeats 1600000 in
theorem euler_any (u xv yv : Value) (q : Qv) (x y : List Int) (w : World) (hu : QvR w w.heap.size u q) (hx : SlI w w.heap.size xv x) (hy : SlI w w.heap.size yv y) (hq : isQ q = true)
  (lx : x.length = q.v.toNat) (ly : y.length = q.v.toNat) (sx : smallV 100 x) (sy : smallV 100 y) :
  Calls Tryz.prog 155 #[u, xv, yv] w fun e w' => e = .returned (.int .i64 (eul q x y)) ∧ Below w.heap.size w w' := by
 obtain ⟨A, c, C, d, rfl, hf, ht, hr, _⟩ := hu.open_
 obtain ⟨Ax, cx, rfl, _, _, _, hx⟩ := hx.open_
 obtain ⟨Ay, cy, rfl, _, _, _, hy⟩ := hy.open_
 clear hu
 obtain ⟨hv, hl, h6, hfr, htr⟩ := isQ_t.1 hq
 have kB := Blk.new w 29 #[.int .i64 q.v, .slice A q.f.length c, .slice C q.t.length d]
 have g0 := below_alloc w (.cells #[.int .i64 q.v, .slice A q.f.length c, .slice C q.t.length d] 29)
 have c1 := kB.cell' (i := 1) rfl
 have c2 := kB.cell' (i := 2) rfl
 obtain ⟨W, hW⟩ : ∃ W, w.alloc (.cells #[.int .i64 q.v, .slice A q.f.length c, .slice C q.t.length d] 29) = W := ⟨_, rfl⟩
 rw [hW] at g0 c1 c2
 have hmo : Tryz.prog.follows .mixedOrders = true := by kernel_rfl
 clear kB
 have HL := Lib.hid hl
 have LX := Lib.hid lx
 have LY := Lib.hid ly
 clear hl lx ly
 go_enter Tryz.func155, Tryz.ntmps155
 go_wp2
 clear hW
 go_loopw [7, 14] (fun a i wr => ∃ k m : Nat, k ≤ x.length ∧ i = .int .i64 k ∧ a = .int .i64 (eulV x y k) ∧ wr = W.drewN m) (fun _ i _ => x.length - (intOf i).toNat)
 case atStart => exact ⟨0, 0, Nat.zero_le _, rfl, by simp [eulV, sm], rfl⟩
 case round =>
  obtain ⟨k, m, hk, rfl, rfl, rfl⟩ := hrel
  have hE := eulV_rng sx sy k
  by_cases hlt : k < x.length
  ·obtain ⟨b, o, a, rfl, hb, HX, x1, _⟩ := SlI.at_ hx hlt
   have hky : k < y.length := by have := LX.out; have := LY.out; omega
   obtain ⟨b2, o2, a2, rfl, hb2, HY, y1, _⟩ := SlI.at_ (k := k) hy hky
   have x2 := bcell g0 hb x1
   have y2 := bcell g0 hb2 y1
   have hs := eulV_succ x y k
   rw [vx_of HX.out, vx_of HY.out] at hs
   have hp := mul_rngB (B := 100) (by omega) (sx a (List.mem_of_getElem? HX.out)) (sy a2 (List.mem_of_getElem? HY.out))
   obtain ⟨P, hP⟩ : ∃ P, a * a2 = P := ⟨_, rfl⟩
   rw [hP] at hs hp
   have HS := Lib.hid hs
   have hmul : wrap64 (a * a2) = P := by rw [hP]; unfold wrap64; omega
   obtain ⟨E0, hE0⟩ : ∃ E0, eulV x y k = E0 := ⟨_, rfl⟩
   rw [hE0] at hE HS ⊢
   clear hs x1 y1 hE0 hP
   go_wp2
   go_roundw
   case rel => exact ⟨k + 1, _, by omega, by go_num, by rw [HS.out], rfl⟩
   case measure => simp [intOf]; omega
  ·obtain rfl : k = x.length := by omega
   have hE := hE
   rw [LX.out] at hE
   have e0 : eulV x y x.length = eulV x y q.v.toNat := by rw [LX.out]
   rw [e0]
   clear e0
   have hlt' : ¬ x.length < x.length := by omega
   obtain ⟨E0, hE0⟩ : ∃ E0, eulV x y q.v.toNat = E0 := ⟨_, rfl⟩
   rw [hE0] at hE ⊢
   have HE0 := Lib.hid hE0
   clear hE0
   go_wp2
   go_loopw [7, 31] (fun a i wr => ∃ k m : Nat, k ≤ q.f.length ∧ i = .int .i64 k ∧ a = .int .i64 (E0 - eulA q x y k) ∧ wr = W.drewN m) (fun _ i _ => q.f.length - (intOf i).toNat)
   case atStart => exact ⟨0, _, Nat.zero_le _, rfl, by simp [eulA, sm], rfl⟩
   case round =>
    obtain ⟨k, m, hk, rfl, rfl, rfl⟩ := hrel
    have hA := eulA_rng (q := q) sx sy k
    by_cases hlt : k < q.f.length
    ·obtain ⟨b, o, i, rfl, hb, HF, x1, _⟩ := SlI.at_ hf hlt
     have hkt : k < q.t.length := by have := HL.out; omega
     obtain ⟨b2, o2, j, rfl, hb2, HT, y1, _⟩ := SlI.at_ (k := k) ht hkt
     have ri := hfr i (List.mem_of_getElem? HF.out)
     have rj := htr j (List.mem_of_getElem? HT.out)
     obtain ⟨i', rfl⟩ : ∃ i' : Nat, i = (i' : Int) := ⟨i.toNat, by omega⟩
     obtain ⟨j', rfl⟩ : ∃ j' : Nat, j = (j' : Int) := ⟨j.toNat, by omega⟩
     have hil : i' < x.length := by have := LX.out; omega
     have hjl : j' < y.length := by have := LY.out; omega
     obtain ⟨b3, o3, a, rfl, hb3, HX, x3, _⟩ := SlI.at_ hx hil
     obtain ⟨b4, o4, a2, rfl, hb4, HY, y3, _⟩ := SlI.at_ hy hjl
     have f2 := bcell g0 hb x1
     have t2 := bcell g0 hb2 y1
     have x4 := bcell g0 hb3 x3
     have y4 := bcell g0 hb4 y3
     have hs := eulA_succ q x y k
     rw [vx_of HF.out, vx_of HT.out, Int.toNat_natCast, Int.toNat_natCast, vx_of HX.out, vx_of HY.out] at hs
     have hp := mul_rngB (B := 100) (by omega) (sx a (List.mem_of_getElem? HX.out)) (sy a2 (List.mem_of_getElem? HY.out))
     obtain ⟨P, hP⟩ : ∃ P, a * a2 = P := ⟨_, rfl⟩
     rw [hP] at hs hp
     have HS := Lib.hid hs
     have hmul : wrap64 (a * a2) = P := by rw [hP]; unfold wrap64; omega
     obtain ⟨E1, hE1⟩ : ∃ E1, eulA q x y k = E1 := ⟨_, rfl⟩
     rw [hE1] at hA HS ⊢
     clear hs x1 y1 x3 y3 hE1 hP
     go_wp2_with fail
     go_quiet (fail)
     go_wp2
     go_roundw
     case rel => exact ⟨k + 1, _, by omega, by go_num, by rw [HS.out]; go_num, rfl⟩
     case measure => simp [intOf]; omega
    ·obtain rfl : k = q.f.length := by omega
     have hfin : Hid (eul q x y = E0 - eulA q x y q.f.length) := by show _ = _; rw [eul, HE0.out]
     obtain ⟨E1, hE1⟩ : ∃ E1, eulA q x y q.f.length = E1 := ⟨_, rfl⟩
     rw [hE1] at hA hfin ⊢
     clear hE1
     go_wp2
     go_ret
     exact ⟨by rw [hfin.out]; rfl, below_drewN g0 _⟩
end Go.Proofs.YtcmlflppndfdcaaGreat
namespace Go.Proofs.YtcmlflppndfdcaaGreat
open Go.RowKit
theorem isNum_len {q : Qv} {x : List Int} (h : isNum q x = true) : x.length = q.v.toNat := by have := (isNum_t.1 h).2.1; omega
theorem isNum_small {q : Qv} {x : List Int} (h : isNum q x = true) : smallV 100 x := (isNum_t.1 h).2.2
set_option maxHeartbeats 1600000 in
theorem eulerForm_any (u xv yv : Value) (q : Qv) (x y : List Int) (w : World) (hu : QvR w w.heap.size u q) (hx : SlI w w.heap.size xv x) (hy : SlI w w.heap.size yv y) (nx : isNum q x = true) (ny : isNum q y = true) :
  Calls Tryz.prog 143 #[u, xv, yv] w fun e w' => e = .returned (.int .i64 (eul q x y)) ∧ Below w.heap.size w w' := by
 have hu' := hu
 obtain ⟨A, c, C, d, rfl, hf, ht, hr, _⟩ := hu.open_
 obtain ⟨Ax, cx, rfl, _, _, _, hx⟩ := hx.open_
 obtain ⟨Ay, cy, rfl, _, _, _, hy⟩ := hy.open_
 clear hu
 have lx := isNum_len nx
 have ly := isNum_len ny
 have sx := isNum_small nx
 have sy := isNum_small ny
 have hq := (isNum_t.1 nx).1
 obtain ⟨hv, hl, h6, hfr, htr⟩ := isQ_t.1 hq
 have kB := Blk.new w 29 #[.int .i64 q.v, .slice A q.f.length c, .slice C q.t.length d]
 have g0 := below_alloc w (.cells #[.int .i64 q.v, .slice A q.f.length c, .slice C q.t.length d] 29)
 have hq1 := QvR.next g0 hu'
 have hx1 := SlI.next g0 hx
 have hy1 := SlI.next g0 hy
 have HL := Lib.hid hl
 have LX := Lib.hid lx
 have LY := Lib.hid ly
 clear hl lx ly
 go_enter Tryz.func143, Tryz.ntmps143
 go_wp2_with fail
 refine (l18Vector_any _ _ q x _ hq1 hx1).mono ?_; rintro e w1 ⟨rfl, hb1⟩
 rw [nx]
 have kB1 := kB.call hb1
 have g1 := bthen g0 hb1
 have hq2 := QvR.next hb1 hq1
 have hy2 := SlI.next hb1 hy1
 have c0 := kB1.cell' (i := 0) rfl
 have c1 := kB1.cell' (i := 1) rfl
 have c2 := kB1.cell' (i := 2) rfl
 clear hq1 hx1 hy1 kB g0 hb1
 go_wp2_with fail
 refine (l18Vector_any _ _ q y _ hq2 hy2).mono ?_; rintro e w2 ⟨rfl, hb2⟩
 rw [ny]
 have kB2 := kB1.call hb2
 have g2 := bthen g1 hb2
 clear c0 c1 c2 hq2 hy2 kB1 g1 hb2
 have c0 := kB2.cell' (i := 0) rfl
 have c1 := kB2.cell' (i := 1) rfl
 have c2 := kB2.cell' (i := 2) rfl
 clear kB2 nx ny
 go_wp2
 go_loopw [7, 8] (fun a i wr => ∃ k m : Nat, k ≤ x.length ∧ i = .int .i64 k ∧ a = .int .i64 (eulV x y k) ∧ wr = w2.drewN m) (fun _ i _ => x.length - (intOf i).toNat)
 case atStart => exact ⟨0, 0, Nat.zero_le _, rfl, by simp [eulV, sm], rfl⟩
 case round =>
  obtain ⟨k, m, hk, rfl, rfl, rfl⟩ := hrel
  have hE := eulV_rng sx sy k
  by_cases hlt : k < x.length
  ·have hkv : (k : Int) < q.v := by have := LX.out; omega
   have hky : k < y.length := by have := LX.out; have := LY.out; omega
   obtain ⟨b, o, a, rfl, hb, HX, x1, _⟩ := SlI.at_ hx hlt
   obtain ⟨b2, o2, a2, rfl, hb2, HY, y1, _⟩ := SlI.at_ (k := k) hy hky
   have x2 := bcell g2 hb x1
   have y2 := bcell g2 hb2 y1
   have hs := eulV_succ x y k
   rw [vx_of HX.out, vx_of HY.out] at hs
   have hp := mul_rngB (B := 100) (by omega) (sx a (List.mem_of_getElem? HX.out)) (sy a2 (List.mem_of_getElem? HY.out))
   obtain ⟨P, hP⟩ : ∃ P, a * a2 = P := ⟨_, rfl⟩
   rw [hP] at hs hp
   have HS := Lib.hid hs
   have hmul : wrap64 (a * a2) = P := by rw [hP]; unfold wrap64; omega
   obtain ⟨E0, hE0⟩ : ∃ E0, eulV x y k = E0 := ⟨_, rfl⟩
   rw [hE0] at hE HS ⊢
   clear hs x1 y1 hE0 hP
   go_wp2_with fail
   go_quiet (fail)
   go_wp2
   go_roundw
   case rel => exact ⟨k + 1, _, by omega, by go_num, by rw [HS.out], rfl⟩
   case measure => simp [intOf]; omega
  ·obtain rfl : k = x.length := by omega
   have hkv : ¬ (x.length : Int) < q.v := by have := LX.out; omega
   have e0 : eulV x y x.length = eulV x y q.v.toNat := by rw [LX.out]
   rw [LX.out] at hE
   rw [e0]
   clear e0
   obtain ⟨E0, hE0⟩ : ∃ E0, eulV x y q.v.toNat = E0 := ⟨_, rfl⟩
   rw [hE0] at hE ⊢
   have HE0 := Lib.hid hE0
   clear hE0
   go_wp2
   go_loopw [7, 9] (fun a i wr => ∃ k m : Nat, k ≤ q.f.length ∧ i = .int .i64 k ∧ a = .int .i64 (E0 - eulA q x y k) ∧ wr = w2.drewN m) (fun _ i _ => q.f.length - (intOf i).toNat)
   case atStart => exact ⟨0, _, Nat.zero_le _, rfl, by simp [eulA, sm], rfl⟩
   case round =>
    obtain ⟨k, m, hk, rfl, rfl, rfl⟩ := hrel
    have hA := eulA_rng (q := q) sx sy k
    by_cases hlt : k < q.f.length
    ·obtain ⟨b, o, i, rfl, hb, HF, x1, _⟩ := SlI.at_ hf hlt
     have hkt : k < q.t.length := by have := HL.out; omega
     obtain ⟨b2, o2, j, rfl, hb2, HT, y1, _⟩ := SlI.at_ (k := k) ht hkt
     have ri := hfr i (List.mem_of_getElem? HF.out)
     have rj := htr j (List.mem_of_getElem? HT.out)
     obtain ⟨i', rfl⟩ : ∃ i' : Nat, i = (i' : Int) := ⟨i.toNat, by omega⟩
     obtain ⟨j', rfl⟩ : ∃ j' : Nat, j = (j' : Int) := ⟨j.toNat, by omega⟩
     have hil : i' < x.length := by have := LX.out; omega
     have hjl : j' < y.length := by have := LY.out; omega
     obtain ⟨b3, o3, a, rfl, hb3, HX, x3, _⟩ := SlI.at_ hx hil
     obtain ⟨b4, o4, a2, rfl, hb4, HY, y3, _⟩ := SlI.at_ hy hjl
     have f2 := bcell g2 hb x1
     have t2 := bcell g2 hb2 y1
     have x4 := bcell g2 hb3 x3
     have y4 := bcell g2 hb4 y3
     have hs := eulA_succ q x y k
     rw [vx_of HF.out, vx_of HT.out, Int.toNat_natCast, Int.toNat_natCast, vx_of HX.out, vx_of HY.out] at hs
     have hp := mul_rngB (B := 100) (by omega) (sx a (List.mem_of_getElem? HX.out)) (sy a2 (List.mem_of_getElem? HY.out))
     obtain ⟨P, hP⟩ : ∃ P, a * a2 = P := ⟨_, rfl⟩
     rw [hP] at hs hp
     have HS := Lib.hid hs
     have hmul : wrap64 (a * a2) = P := by rw [hP]; unfold wrap64; omega
     obtain ⟨E1, hE1⟩ : ∃ E1, eulA q x y k = E1 := ⟨_, rfl⟩
     rw [hE1] at hA HS ⊢
     clear hs x1 y1 x3 y3 hE1 hP
     go_wp2_with fail
     go_quiet (fail)
     go_wp2
     go_roundw
     case rel => exact ⟨k + 1, _, by omega, by go_num, by rw [HS.out]; go_num, rfl⟩
     case measure => simp [intOf]; omega
    ·obtain rfl : k = q.f.length := by omega
     have hfin : Hid (eul q x y = E0 - eulA q x y q.f.length) := by show _ = _; rw [eul, HE0.out]
     obtain ⟨E1, hE1⟩ : ∃ E1, eulA q x y q.f.length = E1 := ⟨_, rfl⟩
     rw [hE1] at hA hfin ⊢
     clear hE1
     go_wp2
     go_ret
     exact ⟨by rw [hfin.out]; rfl, below_drewN g2 _⟩
theorem titsForm_any (u xv : Value) (q : Qv) (x : List Int) (w : World) (hu : QvR w w.heap.size u q) (hx : SlI w w.heap.size xv x) (nx : isNum q x = true) :
  Calls Tryz.prog 115 #[u, xv] w fun e w' => e = .returned (.int .i64 (eul q x x)) ∧ Below w.heap.size w w' := by
 obtain ⟨A, c, C, d, e0, _⟩ := hu.open_
 subst e0
 obtain ⟨Ax, cx, rfl, _, _, _, hx⟩ := hx.open_
 have g0 := below_alloc w (.cells #[.int .i64 q.v, .slice A q.f.length c, .slice C q.t.length d] 29)
 have h1 := hu.next g0
 have h2 := SlI.next g0 hx
 clear hu hx
 go_enter Tryz.func115, Tryz.ntmps115
 go_wp2_with fail
 refine (eulerForm_any _ _ _ q x x _ h1 h2 h2 nx nx).mono ?_; rintro e w1 ⟨rfl, hb1⟩
 go_wp2
 go_ret
 exact ⟨rfl, bthen g0 hb1⟩
end Go.Proofs.YtcmlflppndfdcaaGreat
namespace Go.Proofs.YtcmlflppndfdcaaGreat
open Go.RowKit
theorem refl_bil {q : Qv} (hk : kindQ q = 1) {x : List Int} (h : isRt q x) {v : Nat} (hv : v < q.v.toNat) : bil q.v.toNat (ent q q.f.length) (vx (reflL q x v)) (vx (reflL q x v)) = 2 := by
 have hvl : v < x.length := by have := h.len; omega
 have ey : ∀ i, vx (reflL q x v) i = mvF (vx x) v (sm q.v.toNat fun b => ent q q.f.length v b * vx x b) i := fun i => by rw [vx_refl _ _ _ hvl, h.len]
 rw [bil_congr (fun _ _ _ _ => rfl) (fun a _ => ey a) (fun a _ => ey a), bil_mv (ent_symm q) (fin_G hk).diag hv, h.two hk]
 obtain ⟨c, hc⟩ : ∃ c, (sm q.v.toNat fun b => ent q q.f.length v b * vx x b) = c := ⟨_, rfl⟩
 rw [hc]
 have : 2 * c * c = 2 * (c * c) := Int.mul_assoc _ _ _
 grind
theorem vx_le {x : List Int} {c : Int} (h : ∀ i, i < x.length → -c ≤ vx x i ∧ vx x i ≤ c) : ∀ y ∈ x, -c ≤ y ∧ y ≤ c := by
 intro y hy
 obtain ⟨i, hi, rfl⟩ := List.mem_iff_getElem.1 hy
 have := h i hi
 simpa [vx, List.getD_eq_getElem?_getD, hi] using this
theorem refl_le {q : Qv} (hk : kindQ q = 1) {x : List Int} (h : isRt q x) {v : Nat} (hv : v < q.v.toNat) : ∀ y ∈ reflL q x v, -2 ≤ y ∧ y ≤ 2 :=
 vx_le (c := 2) fun i hi => (fin_G hk).le2 (refl_bil hk h hv) (by rw [reflL_length, h.len] at hi; exact hi)
theorem refl_num {q : Qv} (hk : kindQ q = 1) {x : List Int} (h : isRt q x) {v : Nat} (hv : v < q.v.toNat) : isNum q (reflL q x v) = true :=
 isNum_t.2 ⟨fin_isQ hk, by rw [reflL_length, h.len]; omega, fun y hy => by have := refl_le hk h hv y hy; omega⟩
theorem isRt.num {q : Qv} (hk : kindQ q = 1) {x : List Int} (h : isRt q x) : isNum q x = true :=
 isNum_t.2 ⟨fin_isQ hk, by rw [h.len]; have := (isQ_t.1 (fin_isQ hk)).1; omega, vx_le (c := 100) fun i hi => by have := h.le2 hk hi; omega⟩
theorem isRt.le {q : Qv} (hk : kindQ q = 1) {x : List Int} (h : isRt q x) : ∀ y ∈ x, 0 ≤ y ∧ y ≤ 2 := by
 intro y hy
 obtain ⟨i, hi, rfl⟩ := List.mem_iff_getElem.1 hy
 have := h.le2 hk hi
 simpa [vx, List.getD_eq_getElem?_getD, hi] using this
structure ClOk (q : Qv) (s : List (List Int)) (i v : Nat) : Prop where
 nd : s.Nodup
 rt : ∀ x ∈ s, isRt q x
 uni : ∀ w, w < q.v.toNat → uniV q.v.toNat w ∈ s
 cl : ∀ j x, s[j]? = some x → ∀ w, w < q.v.toNat → (j < i ∨ (j = i ∧ w < v)) → 0 ≤ (reflL q x w).getD w 0 → eul q (reflL q x w) (reflL q x w) = 1 → reflL q x w ∈ s
theorem ClOk.len {q : Qv} (hk : kindQ q = 1) {s : List (List Int)} {i v : Nat} (h : ClOk q s i v) : s.length ≤ 20 := rt_20 hk s h.nd h.rt
theorem ClOk.add {q : Qv} {s : List (List Int)} {i v : Nat} {x : List Int} (h : ClOk q s i v) (hx : s[i]? = some x) (hv : v < q.v.toNat) (h0 : 0 ≤ (reflL q x v).getD v 0) (hn : reflL q x v ∉ s) (h1 : eul q (reflL q x v) (reflL q x v) = 1) :
  ClOk q (s ++ [reflL q x v]) i (v + 1) := by
 have hr : isRt q (reflL q x v) := isRt_refl (h.rt x (List.mem_of_getElem? hx)) hv h0 h1
 have hi := lt_of_some hx
 refine ⟨?_, fun y hy => ?_, fun w hw => List.mem_append_left _ (h.uni w hw), fun j y hy w hw hj a b => ?_⟩
 ·rw [List.nodup_append]
  refine ⟨h.nd, by simp, fun a ha b hb => ?_⟩
  rw [List.mem_singleton] at hb
  subst hb
  rintro rfl
  exact hn ha
 ·rcases List.mem_append.1 hy with hy | hy
  ·exact h.rt y hy
  ·rw [List.mem_singleton] at hy; subst hy; exact hr
 ·rw [List.getElem?_append_left (by omega)] at hy
  by_cases e : j = i ∧ w = v
  ·obtain ⟨rfl, rfl⟩ := e
   rw [hx] at hy
   injection hy with hy
   subst hy
   simp
  ·exact List.mem_append_left _ (h.cl j y hy w hw (by omega) a b)
theorem ClOk.skip {q : Qv} {s : List (List Int)} {i v : Nat} {x : List Int} (h : ClOk q s i v) (hx : s[i]? = some x) (hn : 0 ≤ (reflL q x v).getD v 0 → eul q (reflL q x v) (reflL q x v) = 1 → reflL q x v ∈ s) : ClOk q s i (v + 1) := by
 refine ⟨h.nd, h.rt, h.uni, fun j y hy w hw hj a b => ?_⟩
 by_cases e : j = i ∧ w = v
 ·obtain ⟨rfl, rfl⟩ := e
  rw [hx] at hy
  injection hy with hy
  subst hy
  exact hn a b
 ·exact h.cl j y hy w hw (by omega) a b
theorem ClOk.next {q : Qv} {s : List (List Int)} {i : Nat} (h : ClOk q s i q.v.toNat) : ClOk q s (i + 1) 0 :=
 ⟨h.nd, h.rt, h.uni, fun j y hy w hw hj a b => h.cl j y hy w hw (by omega) a b⟩
theorem ClOk.fin {q : Qv} (hk : kindQ q = 1) {s : List (List Int)} {i : Nat} (h : ClOk q s i 0) (hi : s.length ≤ i) (x : List Int) : x ∈ s ↔ isRt q x := by
 refine ⟨h.rt x, fun hx => rt_all hk (fun y => y ∈ s) h.uni (fun y v hy _ hv a b => ?_) (sumL x).toNat x hx (by omega)⟩
 obtain ⟨j, hj⟩ := List.mem_iff_getElem?.1 hy
 exact h.cl j y hj v hv (by have := lt_of_some hj; omega) a b
def unis (V k : Nat) : List (List Int) := (List.range k).map (uniV V)
theorem unis_succ (V k : Nat) : unis V (k + 1) = unis V k ++ [uniV V k] := by simp [unis, List.range_succ]
theorem unis_length (V k : Nat) : (unis V k).length = k := by simp [unis]
theorem uniV_set (V v : Nat) : (List.replicate V (0 : Int)).set v 1 = uniV V v := by
 apply List.ext_getElem (by simp [uniV])
 intro i h1 h2
 simp [uniV, List.getElem_set]
 grind
theorem clOk_0 {q : Qv} (hk : kindQ q = 1) : ClOk q (unis q.v.toNat q.v.toNat) 0 0 := by
 refine ⟨?_, fun x hx => ?_, fun w hw => List.mem_map.2 ⟨w, List.mem_range.2 hw, rfl⟩, fun j y hy w hw hj => by omega⟩
 ·refine nodup_mapF List.nodup_range fun a ha b hb e => ?_
  rw [List.mem_range] at ha hb
  have h1 := vx_uni (n := q.v.toNat) (v := a) ha
  rw [e, vx_uni ha] at h1
  simpa using h1
 ·obtain ⟨v, hv, rfl⟩ := List.mem_map.1 hx
  exact isRt_uni hk (List.mem_range.1 hv)
structure SrtI (s : List (List Int)) (i : Nat) (L : List (List Int)) : Prop where
 st : L.Pairwise fun a b => ltR a b = true
 mem : ∀ y, y ∈ L ↔ y ∈ s.take i
 len : L.length = i
theorem srtI_0 (s : List (List Int)) : SrtI s 0 [] := ⟨List.Pairwise.nil, fun y => by simp, rfl⟩
theorem SrtI.step {s L : List (List Int)} {i k n : Nat} {x : List Int} (h : SrtI s i L) (hd : s.Nodup) (hl : ∀ y ∈ s, y.length = n) (hx : s[i]? = some x) (hk : k ≤ L.length)
  (h1 : k = 0 ∨ ∃ y, L[k - 1]? = some y ∧ ltR x y = false) (h2 : ∀ j y, k ≤ j → L[j]? = some y → ltR x y = true) : SrtI s (i + 1) (L.take k ++ [x] ++ L.drop k) := by
 have hxs := List.mem_of_getElem? hx
 have hn : x ∉ L := by
  intro e
  rw [h.mem] at e
  obtain ⟨j, hj⟩ := List.mem_iff_getElem?.1 e
  rw [List.getElem?_take] at hj
  split at hj
  ·rename_i hji
   have a := lt_of_some hx
   have b := lt_of_some hj
   rw [List.getElem?_eq_getElem a] at hx
   rw [List.getElem?_eq_getElem b] at hj
   injection hx with hx
   injection hj with hj
   exact (List.pairwise_iff_getElem.1 hd) j i b a hji (hj.trans hx.symm)
  ·cases hj
 have hL : ∀ y ∈ L, y.length = n := fun y hy => hl y (List.mem_of_mem_take ((h.mem y).1 hy))
 have hst := h.st
 refine ⟨?_, fun y => ?_, ?_⟩
 ·rw [List.append_assoc, List.pairwise_append]
  have h3 : ∀ y ∈ L.drop k, ltR x y = true := fun y hy => by
   obtain ⟨j, hj⟩ := List.mem_iff_getElem?.1 hy
   rw [List.getElem?_drop] at hj
   exact h2 _ y (by omega) hj
  have h4 : ∀ y ∈ L.take k, ltR y x = true := fun y hy => by
   obtain ⟨j, hj⟩ := List.mem_iff_getElem?.1 hy
   rw [List.getElem?_take] at hj
   split at hj
   ·rename_i hjk
    rcases h1 with h1 | ⟨z, hz, hzx⟩
    ·omega
    ·have h5 : ltR z x = true := ltR_total (by rw [hl x hxs, hL z (List.mem_of_getElem? hz)]) (fun e => hn (e ▸ List.mem_of_getElem? hz)) hzx
     by_cases e : j = k - 1
     ·subst e; rw [hj] at hz; injection hz with hz; rw [hz]; exact h5
     ·have a := lt_of_some hj
      have b := lt_of_some hz
      have h6 := (List.pairwise_iff_getElem.1 hst) j (k - 1) a b (by omega)
      rw [List.getElem?_eq_getElem a] at hj
      rw [List.getElem?_eq_getElem b] at hz
      injection hz with hz
      injection hj with hj
      rw [hz, hj] at h6
      exact ltR_trans h6 h5
   ·cases hj
  refine ⟨hst.sublist (List.take_sublist _ _), ?_, fun a ha b hb => ?_⟩
  ·rw [List.singleton_append, List.pairwise_cons]
   exact ⟨h3, hst.sublist (List.drop_sublist _ _)⟩
  ·rcases List.mem_cons.1 hb with rfl | hb
   ·exact h4 a ha
   ·exact ltR_trans (h4 a ha) (h3 b hb)
 ·have e : y ∈ L ↔ y ∈ L.take k ∨ y ∈ L.drop k := by rw [← List.mem_append, List.take_append_drop]
  have h5 := h.mem y
  rw [e] at h5
  rw [take_snoc hx]
  simp only [List.mem_append, List.mem_singleton]
  grind
 ·have := h.len
  simp; omega
theorem SrtI.fin {q : Qv} (hk : kindQ q = 1) {s L : List (List Int)} {i : Nat} (h : SrtI s i L) (hi : s.length ≤ i) (hm : ∀ x, x ∈ s ↔ isRt q x) : L = rtsQ q :=
 rts_eq hk h.st fun x => by rw [h.mem, List.take_of_length_le hi, hm]
def rtsA (q : Qv) : List (List Int) × Bool := if kindQ q = 1 then (rtsQ q, true) else ([], false)
end Go.Proofs.YtcmlflppndfdcaaGreat
namespace Go.Proofs.YtcmlflppndfdcaaGreat
open Go.RowKit
theorem bxV_small (m N k : Nat) (hm : m ≤ 100) : smallV 100 (bxV m N k) := fun y hy => by have := bxV_rng hy; omega
def bxP (m N k j : Nat) : List Int := (List.range N).map fun i => if N ≤ i + j then ((k / (m + 1) ^ (N - 1 - i) % (m + 1) : Nat) : Int) else 0
def nvB (q : Qv) (V : Nat) : Nat → List Int
 | 0 => []
 | k + 1 => if 0 < (bxV 4 V k).sum ∧ eul q (bxV 4 V k) (bxV 4 V k) = 0 ∧ (nvB q V k = [] ∨ (bxV 4 V k).sum < (nvB q V k).sum) then bxV 4 V k else nvB q V k
def nvQ (q : Qv) : List Int × Bool := if kindQ q = 2 then (nvB q q.v.toNat (5 ^ q.v.toNat), decide (0 < (nvB q q.v.toNat (5 ^ q.v.toNat)).length)) else ([], false)
theorem isNum_bx {q : Qv} (hq : isQ q = true) (k : Nat) : isNum q (bxV 4 q.v.toNat k) = true :=
 isNum_t.2 ⟨hq, by rw [bxV_length]; have := (isQ_t.1 hq).1; omega, bxV_small 4 _ k (by omega)⟩
end Go.Proofs.YtcmlflppndfdcaaGreat
namespace Go.Proofs.YtcmlflppndfdcaaGreat
open Go.RowKit
set_option maxHeartbeats 3200000 in
set_option maxRecDepth 100000 in
theorem l18Minor_any (u : Value) (n s : Nat) (g : Nat → Nat → Int) (w0 : World) (hn : n ≤ 5) (hs : s ≤ 64) (hg : ∀ a b, -12 ≤ g a b ∧ g a b ≤ 12) (hu : SlII w0 w0.heap.size u (matF n g)) :
  Calls Tryz.prog 142 #[u, .int .i64 s] w0 fun e w' => ∃ v, e = .returned v ∧ IntssO w' w0.heap.size w'.heap.size v (mnL s n g) ∧ Below w0.heap.size w0 w' := by
 obtain ⟨A, c, rfl, hc1, hc2, _, hx⟩ := hu.open_
 clear hu
 have HX := Lib.hid hx
 have HG := Lib.hid hg
 have HB1 := Lib.hid band1
 rw [matF_length] at hc1 ⊢
 clear hx hg
 obtain ⟨W, hW⟩ : ∃ z, z = w0.alloc (.cells #[] 22) := ⟨_, rfl⟩
 have b1 : Below w0.heap.size w0 W := by rw [hW]; exact below_alloc _ _
 have o1 : IntssO W w0.heap.size W.heap.size (.slice (some ⟨w0.heap.size, 0, none⟩) 0 0) [] := by rw [hW]; exact IntssO.made0 w0 (Nat.le_refl _)
 have s1 := b1.size
 go_enter Tryz.func142, Tryz.ntmps142
 go_wp2
 rw [← hW]; clear hW
 go_loopw [5, 6] (fun ov i wr => ∃ k : Nat, k ≤ n ∧ i = .int .i64 k ∧ IntssO wr w0.heap.size wr.heap.size ov (mnTo s n g k) ∧ Below w0.heap.size w0 wr) (fun _ i _ => n - (intOf i).toNat)
 case atStart => exact ⟨0, Nat.zero_le _, rfl, o1, b1⟩
 case round =>
  clear o1 b1 s1
  obtain ⟨k, hk, rfl, hO, hbel⟩ := hrel
  obtain ⟨OA, oc, eo, hoc, hoc2, hol⟩ := hO.form2
  have hlo : (mnTo s n g k).length = (bitL s k).length := by simp [mnTo]
  rw [hlo] at eo hoc
  subst eo
  have hbl := bitL_length s k
  by_cases hlt : k < n
  ·obtain ⟨b, o, rfl, hb0⟩ := SlII.addr HX.out (by rw [matF_length]; omega)
   obtain ⟨r, RA, rc, hr0, _, y1, hr, hrc1, hrc2⟩ := SlII.elt HX.out (k := k) (by rw [matF_length]; omega)
   rw [matF_get _ hlt] at hr0
   injection hr0 with hr0
   subst hr0
   rcases hbt : bitT s k with _ | _
   ·have h0 := bitT_0 hbt
    have h1 := HB1.out
    rw [show mnTo s n g k = mnTo s n g (k + 1) by rw [mnTo, mnTo, bitL_succ_f hbt]] at hO
    have HO := Lib.hid hO
    have HBE := Lib.hid hbel
    clear hO hbel hbt hlo hr y1
    go_wp2
    clear h0 h1
    go_roundw
    case rel => exact ⟨k + 1, by omega, by go_num, HO.out, HBE.out⟩
    case measure => simp [intOf]; omega
   ·have h0 := bitT_1 hbt
    have h1 := HB1.out
    rw [rowF_length] at y1 hrc1
    obtain ⟨b2, o2, rfl, hb2⟩ := SlI.addr hr (by rw [rowF_length]; omega)
    obtain ⟨w1, hw1⟩ : ∃ z, z = wr.alloc (.cells #[] 3) := ⟨_, rfl⟩
    have bw1 : Below wr.heap.size wr w1 := by rw [hw1]; exact below_alloc _ _
    have o2' : IntsO w1 wr.heap.size w1.heap.size (.slice (some ⟨wr.heap.size, 0, none⟩) 0 0) [] := by rw [hw1]; exact IntsO.of_own (OwnI.made _ rfl (Nat.le_refl _))
    have hO1 := hO.below bw1
    have hbel1 := hbel.trans (bw1.mono hbel.size)
    have HR := Lib.hid hr
    have HO := Lib.hid hO1
    have HBE := Lib.hid hbel1
    have HBT := Lib.hid hbt
    have HLO := Lib.hid hlo
    have hws := hbel.size
    have hws1 := bw1.size
    obtain ⟨LO, hLO⟩ : ∃ z, z = wr.heap.size := ⟨_, rfl⟩
    rw [← hLO] at o2' hws hws1
    have HLO2 := Lib.hid hLO
    clear hO hbel hbt hlo hr hO1 hbel1 bw1
    go_wp2
    rw [← hw1]
    rw [← hLO]
    clear hw1 hLO h0 h1
    go_loopw [7, 8] (fun rv i wq => ∃ j : Nat, j ≤ n ∧ i = .int .i64 j ∧ IntsO wq LO wq.heap.size rv ((bitL s j).map (g k)) ∧ Below LO w1 wq) (fun _ i _ => n - (intOf i).toNat)
    case atStart => exact ⟨0, Nat.zero_le _, rfl, o2', Below.refl _ _⟩
    case round =>
     clear o2'
     obtain ⟨j, hj, rfl, hI, hbq⟩ := hrel
     obtain ⟨RV, rv, er, hrv1, hrv2⟩ := hI.1.form
     have hlr : ((bitL s j).map (g k)).length = (bitL s j).length := by simp
     have hbl2 := bitL_length s j
     have hwq := hbq.size
     have hbq2 : Below w0.heap.size w0 wr := HBE.out.trans (hbq.mono (by omega))
     rw [hlr] at er hrv1
     subst er
     by_cases hjn : j < n
     ·rcases hbj : bitT s j with _ | _
      ·have h0 := bitT_0 hbj
       have h1 := HB1.out
       rw [show (bitL s j).map (g k) = (bitL s (j + 1)).map (g k) by rw [bitL_succ_f hbj]] at hI
       have HI := Lib.hid hI
       have HBQ := Lib.hid hbq
       clear hI hbq hbj hlr hbq2
       go_wp2
       clear h0 h1
       go_roundw
       case rel => exact ⟨j + 1, by omega, by go_num, HI.out, HBQ.out⟩
       case measure => simp [intOf]; omega
      ·have h0 := bitT_1 hbj
       have h1 := HB1.out
       obtain ⟨x, hx0, _, x1, _⟩ := SlI.elt HR.out (k := j) (by rw [rowF_length]; omega)
       rw [rowF_get _ hjn] at hx0
       injection hx0 with hx0
       have hgr := HG.out k j
       rw [hx0] at hgr
       have HSX := Lib.hid (show (bitL s (j + 1)).map (g k) = (bitL s j).map (g k) ++ [x] by rw [bitL_succ_t hbj, List.map_append, ← hx0]; rfl)
       have y2 := bcell hbq2 hb0 y1
       have x2 := bcell hbq2 hb2 x1
       have bz := below_alloc wr (.cells #[.int .i64 x] 3)
       have HI2 := Lib.hid (hI.below bz)
       have HB2 := Lib.hid (hbq.trans (bz.mono (by omega)))
       have HLR := Lib.hid hlr
       clear hx0 x1 hI hbq hbj hlr hbq2 bz
       (go_wp2_with (at_builtin; refine Hold.stop ?_)); unfold Hold
       refine wpList_appI rfl (.tmp 33) (.tmp 41) rfl LO _ (.slice RV (bitL s j).length rv) ((bitL s j).map (g k)) rfl HI2.out.1 _ _ _ [x] rfl rfl (SlI.one wr _ _ ⟨by omega, by omega⟩) (by rw [HLR.out]; simp; omega) (by simp; omega) ?_
       intro v9 w9 ho9 hg9 hv9
       rw [← HSX.out] at ho9
       have hbg : Below LO _ w9 := below_grown hg9 (fun k hk => (HI2.out.1.lt k hk).1) (by simp; omega)
       have HBT2 := Lib.hid (HB2.out.trans hbg)
       have HO9 := Lib.hid (IntsO.of_own ho9)
       clear ho9 hg9 hv9 hbg h0 h1 x2 y2
       go_wp2
       go_roundw
       case rel => exact ⟨j + 1, by omega, by go_num, HO9.out, HBT2.out⟩
       case measure => simp [intOf]; omega
     ·have hjn' : j = n := by omega
      replace hI : IntsO wr LO wr.heap.size (.slice RV (bitL s j).length rv) ((bitL s n).map (g k)) := by rw [show (bitL s n).map (g k) = (bitL s j).map (g k) by rw [hjn']]; exact hI
      obtain ⟨u, hu, Z, hZ⟩ : ∃ u, u = wr.heap.size ∧ ∃ Z, Z = wr.alloc (.cells #[.slice RV (bitL s j).length rv] 22) := ⟨_, rfl, _, rfl⟩
      have bZ : Below wr.heap.size wr Z := by rw [hZ]; exact below_alloc _ _
      have kZ : Blk Z u 22 #[.slice RV (bitL s j).length rv] := by rw [hZ, hu]; exact Blk.new _ _ _
      have HOZ := Lib.hid ((HO.out.chg (chg_belowB hbq) (.inl (Nat.le_of_eq HLO2.out.symm))).below bZ)
      have HRZ := Lib.hid (hI.below bZ)
      have HBZ := Lib.hid (hbq2.trans (bZ.mono (by have := hbq2.size; omega)))
      have sZ := bZ.size
      have C0 := Lib.hid (kZ.cell' (i := 0) rfl)
      have HU := Lib.hid hu
      have HSN := Lib.hid (show mnTo s n g (k + 1) = mnTo s n g k ++ [(bitL s n).map (g k)] by rw [mnTo, bitL_succ_t HBT.out, List.map_append]; rfl)
      have hb2s := hbq2.size
      clear hI hbq hbq2 bZ kZ hu hjn' hlr
      (go_wp2_with (at_builtin; refine Hold.stop ?_)); unfold Hold
      rw [← HU.out, ← hZ]
      clear hZ
      refine wpList_appR rfl (.tmp 43) (.tmp 45) rfl w0.heap.size LO LO wr.heap.size (.slice OA (bitL s k).length oc) (mnTo s n g k) ((bitL s n).map (g k)) rfl (by rw [HLO2.out]; exact HOZ.out) _ _ (.slice RV (bitL s j).length rv) rfl ⟨u, 0, rfl, C0.out⟩ HRZ.out (Nat.le_refl _) (by omega) (by omega) (by rw [HLO.out]; omega) (by omega) (by omega) ?_
      intro v9 w9 ho9 hb9 _
      rw [← HSN.out] at ho9
      have HO9 := Lib.hid ho9
      have HB9 := Lib.hid (HBZ.out.trans hb9)
      clear ho9 hb9
      go_wp2
      go_roundw
      case rel => exact ⟨k + 1, by omega, by go_num, HO9.out, HB9.out⟩
      case measure => simp [intOf]; omega
  ·have hkn : k = n := by omega
   have HO := Lib.hid (show IntssO wr w0.heap.size wr.heap.size (.slice OA (bitL s k).length oc) (mnL s n g) by rw [show mnL s n g = mnTo s n g k by rw [mnL, hkn]]; exact hO)
   clear hO hkn
   go_wp2
   go_ret
   exact ⟨_, rfl, HO.out, hbel⟩
end Go.Proofs.YtcmlflppndfdcaaGreat
namespace Go.Proofs.YtcmlflppndfdcaaGreat
open Go.RowKit
set_option maxHeartbeats 3200000 in
set_option maxRecDepth 100000 in
theorem determinant_any : ∀ (n : Nat), n ≤ 5 → ∀ (u : Value) (m : List (List Int)) (w0 : World), SlII w0 w0.heap.size u m → Sq n m →
  Calls Tryz.prog 154 #[u] w0 fun e w' => e = .returned (.int .i64 (detL n m)) ∧ Below w0.heap.size w0 w'
 | 0, _, u, m, w0, hu, hs => by
  obtain ⟨A, c, rfl, _, _, _, _⟩ := hu.open_
  obtain rfl : m = [] := List.eq_nil_of_length_eq_zero hs.len
  clear hu
  go_enter Tryz.func154, Tryz.ntmps154
  go_wp2
  go_ret
  exact ⟨rfl, Below.refl _ _⟩
 | n + 1, hn, u, m, w0, hu, hs => by
  have ih := determinant_any n (by omega)
  obtain ⟨A, c, rfl, hc1, hc2, _, hx⟩ := hu.open_
  clear hu
  have hl := hs.len
  obtain ⟨b, o, rfl, hb⟩ := SlII.addr hx (by omega)
  obtain ⟨r0, A0, c0, e0, _, x0, hr0, _, _⟩ := SlII.elt hx (k := 0) (by omega)
  have hr0l := hs.row _ (List.mem_of_getElem? e0)
  obtain ⟨b0, o0, rfl, hb0⟩ := SlI.addr hr0 (by omega)
  have HR0 := Lib.hid hr0
  have HX := Lib.hid hx
  have HL := Lib.hid hl
  have HS := Lib.hid hs
  have HE0 := Lib.hid e0
  have HRL := Lib.hid hr0l
  have IH := Lib.hid ih
  rw [hl] at hc1 ⊢
  rw [hr0l, Nat.add_zero] at x0
  have HDL := Lib.hid (show detL (n + 1) m = detS n m (n + 1) from rfl)
  clear ih hr0 hx hl hs e0 hr0l
  have hne0 : (((n : Int) + 1) == 0) = false := by rw [beq_eq_false_iff_ne]; omega
  go_enter Tryz.func154, Tryz.ntmps154
  go_wp2
  go_loopw [3, 4, 17] (fun s g i wr => ∃ (k : Nat) (T S : Int), k ≤ n + 1 ∧ i = .int .i64 k ∧ s = .int .i64 T ∧ g = .int .i64 S ∧ Hid (T = detS n m k) ∧ Hid (S = sgK k) ∧ Below w0.heap.size w0 wr) (fun _ _ i _ => n + 1 - (intOf i).toNat)
  case atStart => exact ⟨0, 0, 1, Nat.zero_le _, rfl, rfl, rfl, rfl, rfl, Below.refl _ _⟩
  case round =>
   obtain ⟨k, T, S, hk, rfl, rfl, rfl, HT, HSG, hbel⟩ := hrel
   by_cases hlt : k < n + 1
   ·obtain ⟨X, hX0, _, x1, _⟩ := SlI.elt HR0.out (k := k) (by rw [HRL.out]; exact hlt)
    have x2 := bcell hbel hb0 x1
    clear x1
    have hXr : -12 ≤ X ∧ X ≤ 12 := by
     obtain ⟨r, h1, h2, h3, h4⟩ := HS.out.fst hlt
     rw [HE0.out] at h1
     injection h1 with h1
     subst h1
     rw [hX0] at h3
     injection h3 with h3
     subst h3
     exact h4
    have HXF : Hid (fst0 m k = X) := by
     show _ = _
     rw [fst0, List.getD_eq_getElem?_getD, List.getD_eq_getElem?_getD, HE0.out, Option.getD_some, hX0]; rfl
    have hSr : -1 ≤ S ∧ S ≤ 1 := by
     have := sgK_or k
     rw [← HSG.out] at this
     omega
    have hTr := detS_rng HS.out hk (by omega)
    rw [← (HT.out : T = _)] at hTr
    have HSQ := Lib.hid (HS.out.mnr (k := k) (by omega))
    have hbel2 := hbel
    clear hX0 hbel
    by_cases hcc : c = 1
    ·have HMIN : Hid (SlII wr wr.heap.size (.slice none 0 0) (mnr k m)) := by
      show SlII _ _ _ _
      have hln := HL.out
      rw [show mnr k m = [] from List.eq_nil_of_length_eq_zero (by simp [mnr]; omega)]
      exact SlG.nil
     subst hcc
     go_wp2
     refine wp_loop_rounds 1 ?_
     rw [rounds_succ]
     go_wp2_with fail
     refine (IH.out _ (mnr k m) _ HMIN.out HSQ.out).mono ?_; rintro e w6 ⟨rfl, hb6⟩
     obtain ⟨D, hD⟩ : ∃ z, detL n (mnr k m) = z := ⟨_, rfl⟩
     have hDr := det_rng HSQ.out
     have hDB := dB_5 (show n ≤ 5 by omega)
     rw [hD] at hDr ⊢
     have HD := Lib.hid hD
     have HW := Lib.hid (show Below w0.heap.size w0 w6 from hbel2.trans (hb6.mono hbel2.size))
     clear hD hb6 hbel2
     go_wp2
     go_roundw
     case rel =>
      have h1 := abs_mul (A := 1) (B := 12) (show -1 ≤ S ∧ S ≤ 1 by omega) hXr
      have h2 := abs_mul (A := 12) (B := 29859840) (a := S * X) (b := D) (by omega) (by omega)
      refine ⟨k + 1, _, _, by omega, by go_num, rfl, rfl, ?_, ?_, HW.out⟩
      ·show _ = _
       rw [detS_succ, HD.out, ← HSG.out, ← HT.out, HXF.out]
       rw [IntWalk.wrap64_in (S * X) ⟨by omega, by omega⟩, IntWalk.wrap64_in (S * X * D) ⟨by omega, by omega⟩, IntWalk.wrap64_in (T + S * X * D) ⟨by omega, by omega⟩]
      ·show _ = _
       rw [sgK_succ, ← HSG.out]
     case measure => simp [intOf]; omega
    ·have hdk : decide ((k : Int) < (n : Int) + 1) = true := decide_eq_true (by omega)
     go_wp2
     clear x2 hdk
     obtain ⟨w1, hw1⟩ : ∃ z, z = wr := ⟨_, rfl⟩
     subst hw1
     go_loopw [7, 25] (fun ov i wq => ∃ j : Nat, j ≤ n ∧ i = .int .i64 j ∧ IntssO wq w1.heap.size wq.heap.size ov ((m.tail.take j).map (cutR k)) ∧ Below w1.heap.size w1 wq) (fun _ i _ => n - (intOf i).toNat)
     case atStart => exact ⟨0, Nat.zero_le _, rfl, by simpa using IntssO.nil w1 _ _, Below.refl _ _⟩
     case round =>
      obtain ⟨j, hj, rfl, hO, hbq⟩ := hrel
      obtain ⟨OA, oc, eo, hoc, hoc2, hol⟩ := hO.form2
      have hlo : ((m.tail.take j).map (cutR k)).length = j := by rw [List.length_map, List.length_take, List.length_tail, HL.out]; omega
      rw [hlo] at eo hoc
      subst eo
      have hbq2 : Below w0.heap.size w0 wr := hbel2.trans (hbq.mono hbel2.size)
      by_cases hjn : j < n
      ·obtain ⟨r, RA, rc, hr0, _, y1, hr, hrc1, hrc2⟩ := SlII.elt HX.out (k := j + 1) (by rw [HL.out]; omega)
       have hrl := HS.out.row _ (List.mem_of_getElem? hr0)
       obtain ⟨br, or, rfl, hbr⟩ := SlI.addr hr (by omega)
       have y2 := bcell hbq2 hb y1
       have HR := Lib.hid (SlI.more hbq2.size (SlI.below hbq2 hr))
       have HRL2 := Lib.hid hrl
       rw [hrl] at y2 hrc1
       rw [show o + (j + 1) = o + 1 + j by omega] at y2
       have hrt : m.tail[j]? = some r := by rw [List.getElem?_tail]; exact hr0
       have HSN := Lib.hid (show (m.tail.take (j + 1)).map (cutR k) = (m.tail.take j).map (cutR k) ++ [cutR k r] by rw [take_snoc hrt, List.map_append]; rfl)
       have HO := Lib.hid hO
       have HBQ := Lib.hid hbq
       have HLO := Lib.hid hlo
       clear hr y1 hrl hrt hO hbq hr0 hlo
       go_wp2
       clear y2
       obtain ⟨wA, hwA⟩ : ∃ z, z = wr := ⟨_, rfl⟩
       subst hwA
       refine wp_region_net (by kernel_rfl) [.eq (.slice OA j oc), .eq (.slice (some ⟨br, or, none⟩) (n + 1) rc), .eq (.int .i64 k), .eq (.slice (some ⟨br, or, none⟩) k rc), .eq (.slice (some ⟨br, or, none⟩) (n + 1) rc), .eq (.int .i64 k), .eq (.int .i64 ((k : Int) + 1)), rel 7 (fun u lo hi w => SlI w w.heap.size u (r.drop (k + 1))), rel 8 (fun u lo hi w => SlII w w.heap.size u [r.take k, r.drop (k + 1)]), rel 9 (fun u lo hi w => IntsO w lo hi u (cutR k r)), .rel (fun x w => ∃ g, x.v 10 = .slice (some ⟨g, 0, none⟩) 1 1 ∧ Blk w g 22 #[x.v 9])] [[], [], [], [1, 2], [], [], [5], [4, 5, 6], [1, 2, 3, 4, 5, 6, 7], [1, 2, 3, 4, 5, 6, 7, 8], [1, 2, 3, 4, 5, 6, 7, 8, 9], [0, 1, 2, 3, 4, 5, 6, 7, 8, 9, 10], [0, 1, 2, 3, 4, 5, 6, 7, 8, 9, 10, 11]] 11 (by kernel_rfl) ⟨trivial, trivial, trivial, trivial, trivial, trivial, trivial, rel_stable (fun u lo hi w w' h hb => SlI.next hb h), rel_stable (fun u lo hi w w' h hb => SlII.next hb h), rel_stable (fun u lo hi w w' h hb => h.below hb), fun x w w' ⟨g, e, h⟩ hb => ⟨g, e, h.call hb⟩, trivial⟩ ⟨?_, ?_, ?_, ?_, ?_, ?_, ?_, ?_, ?_, ?_, ?_, trivial⟩ ?_
       ·intro x w hb hk Q' hQ
        clear hk
        simp only [netE] at hQ ⊢
        go_wp2
        exact hQ _ _ (Below.refl _ _) rfl
       ·intro x w hb hk Q' hQ
        clear hk
        simp only [netE] at hQ ⊢
        go_wp2
        exact hQ _ _ (Below.refl _ _) rfl
       ·intro x w hb hk Q' hQ
        clear hk
        simp only [netE] at hQ ⊢
        go_wp2
        exact hQ _ _ (Below.refl _ _) rfl
       ·intro x w hb hk Q' hQ
        have h1 : x.v 1 = .slice (some ⟨br, or, none⟩) (n + 1) rc := (hk 1 (by decide)).1
        have h2 : x.v 2 = .int .i64 k := (hk 2 (by decide)).1
        clear hk
        simp only [netE] at hQ ⊢
        simp only [h1, h2] at hQ ⊢
        clear h1 h2
        go_wp2
        exact hQ _ _ (Below.refl _ _) rfl
       ·intro x w hb hk Q' hQ
        clear hk
        simp only [netE] at hQ ⊢
        go_wp2
        exact hQ _ _ (Below.refl _ _) rfl
       ·intro x w hb hk Q' hQ
        clear hk
        simp only [netE] at hQ ⊢
        go_wp2
        exact hQ _ _ (Below.refl _ _) rfl
       ·intro x w hb hk Q' hQ
        have h5 : x.v 5 = .int .i64 k := (hk 5 (by decide)).1
        clear hk
        simp only [netE] at hQ ⊢
        simp only [h5] at hQ ⊢
        clear h5
        go_wp2
        exact hQ (.int .i64 ((k : Int) + 1)) _ (Below.refl _ _) rfl
       ·intro x w hb hk Q' hQ
        have h4 : x.v 4 = .slice (some ⟨br, or, none⟩) (n + 1) rc := (hk 4 (by decide)).1
        have h5 : x.v 5 = .int .i64 k := (hk 5 (by decide)).1
        have h6 : x.v 6 = .int .i64 ((k : Int) + 1) := (hk 6 (by decide)).1
        clear hk
        simp only [netE] at hQ ⊢
        simp only [h4, h5, h6] at hQ ⊢
        clear h4 h5 h6
        have hR2 := SlI.more hb.size (SlI.below hb HR.out)
        have hD2 := SlI.dropS (k := k + 1) hR2 (by rw [HRL2.out]; omega)
        rw [HRL2.out] at hD2
        by_cases hrc : rc = k + 1
        ·have hz : r.drop (k + 1) = [] := by rw [List.drop_of_length_le (by rw [HRL2.out]; omega)]
         have hz2 : SlI w w.heap.size (.slice (some ⟨br, or, none⟩) 0 0) (r.drop (k + 1)) := by rw [hz]; exact SlI.zeroS (by omega)
         have HZ := Lib.hid hz2
         have HN := Lib.hid (show n + 1 - (k + 1) = 0 by omega)
         have hn0 : n ≤ k := by omega
         clear hz hz2 hD2 hR2
         subst hrc
         go_wp2
         first | exact hQ _ _ (Below.refl _ _) HZ.out | (have := HN.out; simp only [this] at *; exact hQ _ _ (Below.refl _ _) HZ.out)
        ·have HD2 := Lib.hid hD2
         clear hD2 hR2
         go_wp2
         have HD3 : SlI w w.heap.size (.slice (some ⟨br, or + (k + 1), none⟩) (n - k) (rc - (k + 1))) (r.drop (k + 1)) := by rw [show n - k = n + 1 - (k + 1) by omega]; exact HD2.out
         exact hQ _ _ (Below.refl _ _) HD3
       ·intro x w hb hk Q' hQ
        have h1 : x.v 1 = .slice (some ⟨br, or, none⟩) (n + 1) rc := (hk 1 (by decide)).1
        have h2 : x.v 2 = .int .i64 k := (hk 2 (by decide)).1
        have h3 : x.v 3 = .slice (some ⟨br, or, none⟩) k rc := (hk 3 (by decide)).1
        have h4 : x.v 4 = .slice (some ⟨br, or, none⟩) (n + 1) rc := (hk 4 (by decide)).1
        have h5 : x.v 5 = .int .i64 k := (hk 5 (by decide)).1
        have h6 : x.v 6 = .int .i64 ((k : Int) + 1) := (hk 6 (by decide)).1
        have h7 : SlI w w.heap.size (x.v 7) (r.drop (k + 1)) := (hk 7 (by decide)).1
        have s7 := (hk 7 (by decide)).2
        clear hk
        simp only [netE] at hQ ⊢
        simp only [h1, h2, h3, h4, h5, h6] at hQ ⊢
        clear h1 h2 h3 h4 h5 h6
        have hR2 := SlI.more hb.size (SlI.below hb HR.out)
        have hT2 := SlI.takeS (k := k) hR2 (by rw [HRL2.out]; omega)
        have h8 := SlII.two (t := 22) hT2 h7
        have hq2 := hQ (.slice (some ⟨w.heap.size, 0, none⟩) 2 2) (w.alloc (.cells #[.slice (some ⟨br, or, none⟩) k rc, x.v 7] 22)) (below_alloc _ _) h8
        obtain ⟨A7, c7, e7⟩ := h7.form2
        obtain ⟨DN, hDN⟩ : ∃ z, (r.drop (k + 1)).length = z := ⟨_, rfl⟩
        rw [hDN] at e7
        rw [e7] at hq2 ⊢
        clear hT2 h8 hR2 h7 e7 hDN
        go_wp2
        exact hq2
       ·intro x w hb hk Q' hQ
        have h1 : x.v 1 = .slice (some ⟨br, or, none⟩) (n + 1) rc := (hk 1 (by decide)).1
        have h2 : x.v 2 = .int .i64 k := (hk 2 (by decide)).1
        have h3 : x.v 3 = .slice (some ⟨br, or, none⟩) k rc := (hk 3 (by decide)).1
        have h4 : x.v 4 = .slice (some ⟨br, or, none⟩) (n + 1) rc := (hk 4 (by decide)).1
        have h5 : x.v 5 = .int .i64 k := (hk 5 (by decide)).1
        have h6 : x.v 6 = .int .i64 ((k : Int) + 1) := (hk 6 (by decide)).1
        have h7 : SlI w w.heap.size (x.v 7) (r.drop (k + 1)) := (hk 7 (by decide)).1
        have h8 : SlII w w.heap.size (x.v 8) [r.take k, r.drop (k + 1)] := (hk 8 (by decide)).1
        have s7 := (hk 7 (by decide)).2
        have s8 := (hk 8 (by decide)).2
        clear hk
        simp only [netE] at hQ ⊢
        simp only [h1, h2, h3, h4, h5, h6] at hQ ⊢
        clear h1 h2 h3 h4 h5 h6
        go_wp2_with fail
        refine (concat_any _ _ _ h8 (by simp) (by simp; rw [HRL2.out]; omega)).mono ?_; rintro e w5 ⟨v5, rfl, hI5, hb5⟩
        go_wp2
        have hI6 : IntsO w5 w.heap.size w5.heap.size v5 (cutR k r) := by simpa [cutR] using hI5
        exact hQ _ _ hb5 hI6
       ·intro x w hb hk Q' hQ
        have h1 : x.v 1 = .slice (some ⟨br, or, none⟩) (n + 1) rc := (hk 1 (by decide)).1
        have h2 : x.v 2 = .int .i64 k := (hk 2 (by decide)).1
        have h3 : x.v 3 = .slice (some ⟨br, or, none⟩) k rc := (hk 3 (by decide)).1
        have h4 : x.v 4 = .slice (some ⟨br, or, none⟩) (n + 1) rc := (hk 4 (by decide)).1
        have h5 : x.v 5 = .int .i64 k := (hk 5 (by decide)).1
        have h6 : x.v 6 = .int .i64 ((k : Int) + 1) := (hk 6 (by decide)).1
        have h7 : SlI w w.heap.size (x.v 7) (r.drop (k + 1)) := (hk 7 (by decide)).1
        have h8 : SlII w w.heap.size (x.v 8) [r.take k, r.drop (k + 1)] := (hk 8 (by decide)).1
        have h9 : IntsO w (x.lo 9) (x.hi 9) (x.v 9) (cutR k r) := (hk 9 (by decide)).1
        have s7 := (hk 7 (by decide)).2
        have s8 := (hk 8 (by decide)).2
        have s9 := (hk 9 (by decide)).2
        clear hk
        simp only [netE] at hQ ⊢
        simp only [h1, h2, h3, h4, h5, h6] at hQ ⊢
        clear h1 h2 h3 h4 h5 h6
        obtain ⟨A9, c9, e9⟩ := h9.form
        have hq2 := hQ (.slice (some ⟨w.heap.size, 0, none⟩) 1 1) (w.alloc (.cells #[x.v 9] 22)) (below_alloc _ _) ⟨w.heap.size, rfl, Blk.new w 22 #[x.v 9]⟩
        rw [e9] at hq2 ⊢
        clear h9 e9
        go_wp2
        exact hq2
       ·intro x w hb hk hiv hdj
        have h0 : x.v 0 = .slice OA j oc := hk 0 (by decide)
        have h1 : x.v 1 = .slice (some ⟨br, or, none⟩) (n + 1) rc := hk 1 (by decide)
        have h2 : x.v 2 = .int .i64 k := hk 2 (by decide)
        have h3 : x.v 3 = .slice (some ⟨br, or, none⟩) k rc := hk 3 (by decide)
        have h4 : x.v 4 = .slice (some ⟨br, or, none⟩) (n + 1) rc := hk 4 (by decide)
        have h5 : x.v 5 = .int .i64 k := hk 5 (by decide)
        have h6 : x.v 6 = .int .i64 ((k : Int) + 1) := hk 6 (by decide)
        have h7 : SlI w w.heap.size (x.v 7) (r.drop (k + 1)) := hk 7 (by decide)
        have h8 : SlII w w.heap.size (x.v 8) [r.take k, r.drop (k + 1)] := hk 8 (by decide)
        have h9 : IntsO w (x.lo 9) (x.hi 9) (x.v 9) (cutR k r) := hk 9 (by decide)
        have h10 : ∃ g, x.v 10 = .slice (some ⟨g, 0, none⟩) 1 1 ∧ Blk w g 22 #[x.v 9] := hk 10 (by decide)
        clear hk
        simp only [netE]
        simp only [List.drop_succ_cons, List.drop_zero, h0, h1, h2, h3, h4, h5, h6]
        clear h0 h1 h2 h3 h4 h5 h6
        obtain ⟨g, e10, k10⟩ := h10
        obtain ⟨i9a, i9b, i9c⟩ := hiv 9 (by decide)
        rw [e10]
        have c10 := k10.cell' (i := 0) rfl
        have hws := hb.size
        have hO2 := HO.out.below hb
        have HBQ2 := Lib.hid (HBQ.out.trans (hb.mono HBQ.out.size))
        have hw1 := HBQ.out.size
        refine wpList_appR rfl (.tmp 29) (.tmp 39) rfl w1.heap.size wA.heap.size (x.lo 9) (x.hi 9) (.slice OA j oc) _ (cutR k r) rfl hO2 _ _ (x.v 9) rfl ⟨g, 0, rfl, c10⟩ h9 (by omega) (by omega) (by omega) (by rw [HLO.out]; omega) (by omega) (by omega) ?_
        intro v9 w9 ho9 hb9 _
        rw [← HSN.out] at ho9
        have HO9 := Lib.hid ho9
        have HB9 := Lib.hid (HBQ2.out.trans hb9)
        clear ho9 hb9 hO2 hb hiv hdj e10 k10 c10 h9 HBQ2
        go_wp2
        go_roundw
        case rel => exact ⟨j + 1, by omega, by go_num, HO9.out, HB9.out⟩
        case measure => simp [intOf]; omega
      ·have hjn' : j = n := by omega
       have e1 : (m.tail.take j).map (cutR k) = mnr k m := by rw [List.take_of_length_le (by rw [List.length_tail, HL.out]; omega)]; rfl
       rw [e1] at hO
       have HMIN := Lib.hid hO.rd
       have hbel3 := hbq2
       clear hbel2 hO hbq hbq2 hlo e1 hjn'
       have hbel2 := hbel3
       clear hbel3
       go_wp2_with fail
       refine (IH.out _ (mnr k m) _ HMIN.out HSQ.out).mono ?_; rintro e w6 ⟨rfl, hb6⟩
       obtain ⟨D, hD⟩ : ∃ z, detL n (mnr k m) = z := ⟨_, rfl⟩
       have hDr := det_rng HSQ.out
       have hDB := dB_5 (show n ≤ 5 by omega)
       rw [hD] at hDr ⊢
       have HD := Lib.hid hD
       have HW := Lib.hid (show Below w0.heap.size w0 w6 from hbel2.trans (hb6.mono hbel2.size))
       clear hD hb6 hbel2
       go_wp2
       go_roundw
       case rel =>
        have h1 := abs_mul (A := 1) (B := 12) (show -1 ≤ S ∧ S ≤ 1 by omega) hXr
        have h2 := abs_mul (A := 12) (B := 29859840) (a := S * X) (b := D) (by omega) (by omega)
        refine ⟨k + 1, _, _, by omega, by go_num, rfl, rfl, ?_, ?_, HW.out⟩
        ·show _ = _
         rw [detS_succ, HD.out, ← HSG.out, ← HT.out, HXF.out]
         rw [IntWalk.wrap64_in (S * X) ⟨by omega, by omega⟩, IntWalk.wrap64_in (S * X * D) ⟨by omega, by omega⟩, IntWalk.wrap64_in (T + S * X * D) ⟨by omega, by omega⟩]
        ·show _ = _
         rw [sgK_succ, ← HSG.out]
       case measure => simp [intOf]; omega
   ·have hkn : k = n + 1 := by omega
    have HTE := Lib.hid (show T = detL (n + 1) m by rw [HDL.out, HT.out, hkn])
    clear hkn
    go_wp2
    go_ret
    exact ⟨by rw [← HTE.out]; rfl, hbel⟩
end Go.Proofs.YtcmlflppndfdcaaGreat
namespace Go.Proofs.YtcmlflppndfdcaaGreat
open Go.RowKit
set_option maxHeartbeats 6400000 in
set_option maxRecDepth 100000 in
theorem l18Det_any : ∀ (n : Nat), n ≤ 5 → ∀ (u : Value) (m : List (List Int)) (w0 : World), SlII w0 w0.heap.size u m → Sq n m →
  Calls Tryz.prog 141 #[u] w0 fun e w' => e = .returned (.int .i64 (detL n m)) ∧ Below w0.heap.size w0 w'
 | 0, _, u, m, w0, hu, hs => by
  obtain ⟨A, c, rfl, _, _, _, _⟩ := hu.open_
  obtain rfl : m = [] := List.eq_nil_of_length_eq_zero hs.len
  clear hu
  go_enter Tryz.func141, Tryz.ntmps141
  go_wp2
  go_ret
  exact ⟨rfl, Below.refl _ _⟩
 | n + 1, hn, u, m, w0, hu, hs => by
  have ih := l18Det_any n (by omega)
  obtain ⟨A, c, rfl, hc1, hc2, _, hx⟩ := hu.open_
  clear hu
  have hl := hs.len
  obtain ⟨b, o, rfl, hb0⟩ := SlII.addr hx (by omega)
  have HX := Lib.hid hx
  have HL := Lib.hid hl
  have HS := Lib.hid hs
  have IH := Lib.hid ih
  rw [hl] at hc1 ⊢
  have HDL := Lib.hid (show detL (n + 1) m = detS n m (n + 1) from rfl)
  clear ih hx hl hs
  have hne0 : (((n : Int) + 1) == 0) = false := by rw [beq_eq_false_iff_ne]; omega
  go_enter Tryz.func141, Tryz.ntmps141
  go_wp2
  go_loopw [3, 4, 5] (fun s g i wr => ∃ (k : Nat) (T S : Int), k ≤ n + 1 ∧ i = .int .i64 k ∧ s = .int .i64 T ∧ g = .int .i64 S ∧ Hid (T = detS n m k) ∧ Hid (S = sgK k) ∧ Below w0.heap.size w0 wr) (fun _ _ i _ => n + 1 - (intOf i).toNat)
  case atStart => exact ⟨0, 0, 1, Nat.zero_le _, rfl, rfl, rfl, rfl, rfl, Below.refl _ _⟩
  case round =>
   obtain ⟨k, T, S, hk, rfl, rfl, rfl, HT, HSG, hbel⟩ := hrel
   by_cases hlt : k < n + 1
   ·obtain ⟨r0, A0, c0, e0, _, x0, hr0, _, _⟩ := SlII.elt HX.out (k := 0) (by rw [HL.out]; omega)
    have hr0l := HS.out.row _ (List.mem_of_getElem? e0)
    obtain ⟨b0, o0, rfl, hb00⟩ := SlI.addr hr0 (by omega)
    obtain ⟨X, hX0, _, x1, _⟩ := SlI.elt hr0 (k := k) (by omega)
    have hXr : -12 ≤ X ∧ X ≤ 12 := by
     obtain ⟨r, h1, h2, h3, h4⟩ := HS.out.fst hlt
     rw [e0] at h1
     injection h1 with h1
     subst h1
     rw [hX0] at h3
     injection h3 with h3
     subst h3
     exact h4
    have HXF : Hid (fst0 m k = X) := by
     show _ = _
     rw [fst0, List.getD_eq_getElem?_getD, List.getD_eq_getElem?_getD, e0, Option.getD_some, hX0]; rfl
    have hSr : -1 ≤ S ∧ S ≤ 1 := by
     have := sgK_or k
     rw [← HSG.out] at this
     omega
    have hTr := detS_rng HS.out hk (by omega)
    rw [← (HT.out : T = _)] at hTr
    have HSQ := Lib.hid (HS.out.mnr (k := k) (by omega))
    rw [hr0l, Nat.add_zero] at x0
    have hbel2 := hbel
    have hb2s := hbel2.size
    obtain ⟨w1, hw1⟩ : ∃ z, z = wr.alloc (.cells #[] 22) := ⟨_, rfl⟩
    have b1 : Below wr.heap.size wr w1 := by rw [hw1]; exact below_alloc _ _
    have o1 : IntssO w1 wr.heap.size w1.heap.size (.slice (some ⟨wr.heap.size, 0, none⟩) 0 0) [] := by rw [hw1]; exact IntssO.made0 wr (Nat.le_refl _)
    have s1 := b1.size
    have hbel3 := hbel2.trans (b1.mono hb2s)
    have HB2 := Lib.hid hbel2
    obtain ⟨LO, hLO⟩ : ∃ z, z = wr.heap.size := ⟨_, rfl⟩
    have hdk : decide ((k : Int) < (n : Int) + 1) = true := decide_eq_true (by omega)
    clear e0 hr0 hr0l hX0 hbel hbel2
    go_wp2
    rw [← hw1]
    rw [← hLO] at o1 s1 hb2s ⊢
    clear hw1 hLO b1 hdk
    go_loopw [6, 7] (fun ov i wq => ∃ j i' : Nat, j ≤ n ∧ i = .int .i64 i' ∧ Hid (i' = j + 1) ∧ IntssO wq LO wq.heap.size ov ((m.tail.take j).map (cutR k)) ∧ Below LO w1 wq) (fun _ i _ => n + 1 - (intOf i).toNat)
    case atStart => exact ⟨0, 1, Nat.zero_le _, rfl, rfl, by simpa using o1, Below.refl _ _⟩
    case round =>
     clear o1
     obtain ⟨j, i, hj, rfl, HI, hO, hbq⟩ := hrel
     obtain ⟨OA, oc, eo, hoc, hoc2, hol⟩ := hO.form2
     have hlo : ((m.tail.take j).map (cutR k)).length = j := by rw [List.length_map, List.length_take, List.length_tail, HL.out]; omega
     rw [hlo] at eo hoc
     subst eo
     have hbq2 : Below w0.heap.size w0 wr := hbel3.trans (hbq.mono (by omega))
     have hi1 : i ≤ j + 1 := Nat.le_of_eq HI.out
     have hi2 : j + 1 ≤ i := Nat.le_of_eq HI.out.symm
     have hqs := hbq.size
     by_cases hjn : i < n + 1
     ·obtain ⟨r, RA, rc, hr0, _, y1, hr, hrc1, hrc2⟩ := SlII.elt HX.out (k := i) (by rw [HL.out]; omega)
      have hrl := HS.out.row _ (List.mem_of_getElem? hr0)
      obtain ⟨br, or, rfl, hbr⟩ := SlI.addr hr (by omega)
      have y2 := bcell hbq2 hb0 y1
      have HR := Lib.hid (SlI.more hbq2.size (SlI.below hbq2 hr))
      have HRL2 := Lib.hid hrl
      rw [hrl] at y2 hrc1
      have hrt : m.tail[j]? = some r := by rw [List.getElem?_tail, ← HI.out]; exact hr0
      have HSN := Lib.hid (show (m.tail.take (j + 1)).map (cutR k) = (m.tail.take j).map (cutR k) ++ [cutR k r] by rw [take_snoc hrt, List.map_append]; rfl)
      have HO := Lib.hid hO
      have HBQ := Lib.hid hbq
      have HLO := Lib.hid hlo
      clear hr y1 hrl hrt hO hbq hr0 hlo
      go_wp2
      obtain ⟨wA, hwA⟩ : ∃ z, z = wr := ⟨_, rfl⟩
      subst hwA
      refine wp_region_netC (by kernel_rfl) [.eq (.slice OA j oc), rel 1 (fun u lo hi w => Fresh w wA.heap.size u), .eq (.slice (some ⟨b, o, none⟩) (n + 1) c), .eq (.int .i64 i), .eq (.pointer (some ⟨b, o + i, none⟩)), .eq (.slice (some ⟨br, or, none⟩) (n + 1) rc), .eq (.int .i64 k), .eq (.slice (some ⟨br, or, none⟩) k rc), rel 8 (fun u lo hi w => OwnI w wA.heap.size u (r.take k)), .eq (.slice (some ⟨b, o, none⟩) (n + 1) c), .eq (.int .i64 i), .eq (.pointer (some ⟨b, o + i, none⟩)), .eq (.slice (some ⟨br, or, none⟩) (n + 1) rc), .eq (.int .i64 k), .eq (.int .i64 ((k : Int) + 1)), rel 15 (fun u lo hi w => wA.heap.size ≤ w.heap.size ∧ SlI w wA.heap.size u (r.drop (k + 1))), rel 16 (fun u lo hi w => OwnI w wA.heap.size u (cutR k r)), .rel (fun x w => ∃ g, x.v 17 = .slice (some ⟨g, 0, none⟩) 1 1 ∧ Blk w g 22 #[x.v 16])] [[], [], [], [], [2, 3], [2, 3, 4], [], [2, 3, 4, 5, 6], [1, 2, 3, 4, 5, 6, 7], [], [], [9, 10], [9, 10, 11], [], [13], [9, 10, 11, 12, 13, 14], [1, 2, 3, 4, 5, 6, 7, 8, 9, 10, 11, 12, 13, 14, 15], [1, 2, 3, 4, 5, 6, 7, 8, 9, 10, 11, 12, 13, 14, 15, 16], [0, 1, 2, 3, 4, 5, 6, 7, 8, 9, 10, 11, 12, 13, 14, 15, 16, 17], [0, 1, 2, 3, 4, 5, 6, 7, 8, 9, 10, 11, 12, 13, 14, 15, 16, 17, 18]] [[], [], [], [], [2, 3], [2, 3, 4], [], [2, 3, 4, 5, 6], [1, 2, 3, 4, 5, 6, 7], [], [], [9, 10], [9, 10, 11], [], [13], [9, 10, 11, 12, 13, 14], [1, 2, 3, 4, 5, 6, 7, 8, 9, 10, 11, 12, 13, 14, 15], [2, 3, 4, 5, 6, 7, 9, 10, 11, 12, 13, 14, 16]] [0, 2, 3, 4, 5, 6, 7, 9, 10, 11, 12, 13, 14, 16, 17] 18 16 (by kernel_rfl) (by kernel_rfl) ⟨.inr (.inr ⟨_, rfl⟩), .inr (.inr ⟨_, rfl⟩), .inr (.inr ⟨_, rfl⟩), .inr (.inr ⟨_, rfl⟩), .inr (.inr ⟨_, rfl⟩), .inr (.inr ⟨_, rfl⟩), .inr (.inr ⟨_, rfl⟩), .inr (.inr ⟨_, rfl⟩), .inr (.inr ⟨_, rfl⟩), .inr (.inr ⟨_, rfl⟩), .inr (.inr ⟨_, rfl⟩), .inr (.inr ⟨_, rfl⟩), .inr (.inr ⟨_, rfl⟩), .inl rfl, .inr (.inl rfl), trivial⟩ ⟨trivial, rel_stable (fun u lo hi w w' h hb => h.below hb), trivial, trivial, trivial, trivial, trivial, trivial, rel_stable (fun u lo hi w w' h hb => h.below hb), trivial, trivial, trivial, trivial, trivial, trivial, rel_stable (fun u lo hi w w' ⟨h1, h2⟩ hb => ⟨Nat.le_trans h1 hb.size, SlI.below (hb.mono h1) h2⟩), rel_stable (fun u lo hi w w' h hb => h.below hb), fun x w w' ⟨g, e, h⟩ hb => ⟨g, e, h.call hb⟩, trivial⟩ ⟨?_, ?_, ?_, ?_, ?_, ?_, ?_, ?_, ?_, ?_, ?_, ?_, ?_, ?_, ?_, ?_, ?_, ?_, trivial⟩ ?_
      ·intro x w hb hk Q' hQ
       clear hk
       simp only [netE] at hQ ⊢
       go_wp2
       exact hQ _ _ (Below.refl _ _) rfl
      ·intro x w hb hk Q' hQ
       clear hk
       simp only [netE] at hQ ⊢
       go_wp2
       exact hQ _ _ (below_alloc _ _) (Fresh.new _ hb.size)
      ·intro x w hb hk Q' hQ
       clear hk
       simp only [netE] at hQ ⊢
       go_wp2
       exact hQ _ _ (Below.refl _ _) rfl
      ·intro x w hb hk Q' hQ
       clear hk
       simp only [netE] at hQ ⊢
       go_wp2
       exact hQ _ _ (Below.refl _ _) rfl
      ·intro x w hb hk Q' hQ
       have h2 : x.v 2 = .slice (some ⟨b, o, none⟩) (n + 1) c := (hk 2 (by decide)).1
       have h3 : x.v 3 = .int .i64 i := (hk 3 (by decide)).1
       clear hk
       simp only [netE] at hQ ⊢
       simp only [h2, h3] at hQ ⊢
       clear h2 h3
       go_wp2
       exact hQ _ _ (Below.refl _ _) rfl
      ·intro x w hb hk Q' hQ
       have h4 : x.v 4 = .pointer (some ⟨b, o + i, none⟩) := (hk 4 (by decide)).1
       clear hk
       simp only [netE] at hQ ⊢
       simp only [h4] at hQ ⊢
       clear h4
       have q0 := bcell hb (show b < wA.heap.size by omega) y2
       go_wp2
       exact hQ _ _ (Below.refl _ _) rfl
      ·intro x w hb hk Q' hQ
       clear hk
       simp only [netE] at hQ ⊢
       go_wp2
       exact hQ _ _ (Below.refl _ _) rfl
      ·intro x w hb hk Q' hQ
       have h5 : x.v 5 = .slice (some ⟨br, or, none⟩) (n + 1) rc := (hk 5 (by decide)).1
       have h6 : x.v 6 = .int .i64 k := (hk 6 (by decide)).1
       clear hk
       simp only [netE] at hQ ⊢
       simp only [h5, h6] at hQ ⊢
       clear h5 h6
       go_wp2
       exact hQ _ _ (Below.refl _ _) rfl
      ·intro x w hb hk Q' hQ
       have h1 : Fresh w wA.heap.size (x.v 1) := (hk 1 (by decide)).1
       have h2 : x.v 2 = .slice (some ⟨b, o, none⟩) (n + 1) c := (hk 2 (by decide)).1
       have h3 : x.v 3 = .int .i64 i := (hk 3 (by decide)).1
       have h4 : x.v 4 = .pointer (some ⟨b, o + i, none⟩) := (hk 4 (by decide)).1
       have h5 : x.v 5 = .slice (some ⟨br, or, none⟩) (n + 1) rc := (hk 5 (by decide)).1
       have h6 : x.v 6 = .int .i64 k := (hk 6 (by decide)).1
       have h7 : x.v 7 = .slice (some ⟨br, or, none⟩) k rc := (hk 7 (by decide)).1
       have s1 := (hk 1 (by decide)).2
       clear hk
       simp only [netE] at hQ ⊢
       simp only [h2, h3, h4, h5, h6, h7] at hQ ⊢
       clear h2 h3 h4 h5 h6 h7
       obtain ⟨g7, e7, hg7, hB7⟩ := h1
       have hT2 := SlI.takeS (k := k) (SlI.below hb HR.out) (by rw [HRL2.out]; omega)
       have hk2 : (r.take k).length = k := by rw [List.length_take, HRL2.out]; omega
       rw [e7] at hQ ⊢
       refine wpList_append_fresh (by rfl) (.tmp 25) (.tmp 31) (by rfl) g7 wA.heap.size wA.heap.size #[] (by rfl) hB7 rfl hg7 _ _ (r.take k) (by rw [hk2]; rfl) (by rw [hk2]; exact hT2) ?_
       intro v' w' ho hb'
       exact hQ _ _ hb' ho
      ·intro x w hb hk Q' hQ
       clear hk
       simp only [netE] at hQ ⊢
       go_wp2
       exact hQ _ _ (Below.refl _ _) rfl
      ·intro x w hb hk Q' hQ
       clear hk
       simp only [netE] at hQ ⊢
       go_wp2
       exact hQ _ _ (Below.refl _ _) rfl
      ·intro x w hb hk Q' hQ
       have h9 : x.v 9 = .slice (some ⟨b, o, none⟩) (n + 1) c := (hk 9 (by decide)).1
       have h10 : x.v 10 = .int .i64 i := (hk 10 (by decide)).1
       clear hk
       simp only [netE] at hQ ⊢
       simp only [h9, h10] at hQ ⊢
       clear h9 h10
       go_wp2
       exact hQ _ _ (Below.refl _ _) rfl
      ·intro x w hb hk Q' hQ
       have h11 : x.v 11 = .pointer (some ⟨b, o + i, none⟩) := (hk 11 (by decide)).1
       clear hk
       simp only [netE] at hQ ⊢
       simp only [h11] at hQ ⊢
       clear h11
       have q0 := bcell hb (show b < wA.heap.size by omega) y2
       go_wp2
       exact hQ _ _ (Below.refl _ _) rfl
      ·intro x w hb hk Q' hQ
       clear hk
       simp only [netE] at hQ ⊢
       go_wp2
       exact hQ _ _ (Below.refl _ _) rfl
      ·intro x w hb hk Q' hQ
       have h13 : x.v 13 = .int .i64 k := (hk 13 (by decide)).1
       clear hk
       simp only [netE] at hQ ⊢
       simp only [h13] at hQ ⊢
       clear h13
       go_wp2
       exact hQ (.int .i64 ((k : Int) + 1)) _ (Below.refl _ _) rfl
      ·intro x w hb hk Q' hQ
       have h9 : x.v 9 = .slice (some ⟨b, o, none⟩) (n + 1) c := (hk 9 (by decide)).1
       have h10 : x.v 10 = .int .i64 i := (hk 10 (by decide)).1
       have h11 : x.v 11 = .pointer (some ⟨b, o + i, none⟩) := (hk 11 (by decide)).1
       have h12 : x.v 12 = .slice (some ⟨br, or, none⟩) (n + 1) rc := (hk 12 (by decide)).1
       have h13 : x.v 13 = .int .i64 k := (hk 13 (by decide)).1
       have h14 : x.v 14 = .int .i64 ((k : Int) + 1) := (hk 14 (by decide)).1
       clear hk
       simp only [netE] at hQ ⊢
       simp only [h9, h10, h11, h12, h13, h14] at hQ ⊢
       clear h9 h10 h11 h12 h13 h14
       have hbz := hb.size
       have hR2 := SlI.below hb HR.out
       have hD2 := SlI.dropS (k := k + 1) hR2 (by rw [HRL2.out]; omega)
       rw [HRL2.out] at hD2
       by_cases hrc : rc = k + 1
       ·have hz : r.drop (k + 1) = [] := by rw [List.drop_of_length_le (by rw [HRL2.out]; omega)]
        have hz2 : SlI w wA.heap.size (.slice (some ⟨br, or, none⟩) 0 0) (r.drop (k + 1)) := by rw [hz]; exact SlI.zeroS (by omega)
        have HZ := Lib.hid hz2
        have HN := Lib.hid (show n + 1 - (k + 1) = 0 by omega)
        have hn0 : n ≤ k := by omega
        clear hz hz2 hD2 hR2
        subst hrc
        go_wp2
        first | exact hQ _ _ (Below.refl _ _) ⟨hbz, HZ.out⟩ | (have := HN.out; simp only [this] at *; exact hQ _ _ (Below.refl _ _) ⟨hbz, HZ.out⟩)
       ·have HD2 := Lib.hid hD2
        clear hD2 hR2
        go_wp2
        have HD3 : SlI w wA.heap.size (.slice (some ⟨br, or + (k + 1), none⟩) (n - k) (rc - (k + 1))) (r.drop (k + 1)) := by rw [show n - k = n + 1 - (k + 1) by omega]; exact HD2.out
        exact hQ _ _ (Below.refl _ _) ⟨hbz, HD3⟩
      ·intro x w hb hk Q' hQ
       have h1 : Fresh w wA.heap.size (x.v 1) := (hk 1 (by decide)).1
       have h2 : x.v 2 = .slice (some ⟨b, o, none⟩) (n + 1) c := (hk 2 (by decide)).1
       have h3 : x.v 3 = .int .i64 i := (hk 3 (by decide)).1
       have h4 : x.v 4 = .pointer (some ⟨b, o + i, none⟩) := (hk 4 (by decide)).1
       have h5 : x.v 5 = .slice (some ⟨br, or, none⟩) (n + 1) rc := (hk 5 (by decide)).1
       have h6 : x.v 6 = .int .i64 k := (hk 6 (by decide)).1
       have h7 : x.v 7 = .slice (some ⟨br, or, none⟩) k rc := (hk 7 (by decide)).1
       have h8 : OwnI w wA.heap.size (x.v 8) (r.take k) := (hk 8 (by decide)).1
       have h9 : x.v 9 = .slice (some ⟨b, o, none⟩) (n + 1) c := (hk 9 (by decide)).1
       have h10 : x.v 10 = .int .i64 i := (hk 10 (by decide)).1
       have h11 : x.v 11 = .pointer (some ⟨b, o + i, none⟩) := (hk 11 (by decide)).1
       have h12 : x.v 12 = .slice (some ⟨br, or, none⟩) (n + 1) rc := (hk 12 (by decide)).1
       have h13 : x.v 13 = .int .i64 k := (hk 13 (by decide)).1
       have h14 : x.v 14 = .int .i64 ((k : Int) + 1) := (hk 14 (by decide)).1
       have h15 : wA.heap.size ≤ w.heap.size ∧ SlI w wA.heap.size (x.v 15) (r.drop (k + 1)) := (hk 15 (by decide)).1
       have s1 := (hk 1 (by decide)).2
       have s8 := (hk 8 (by decide)).2
       have s15 := (hk 15 (by decide)).2
       clear hk
       simp only [netE] at hQ ⊢
       simp only [h2, h3, h4, h5, h6, h7, h9, h10, h11, h12, h13, h14] at hQ ⊢
       clear h2 h3 h4 h5 h6 h7 h9 h10 h11 h12 h13 h14
       obtain ⟨_, h15⟩ := h15
       obtain ⟨DA, dc, e15⟩ := h15.form2
       rw [e15] at h15
       have hlo := h8.lt
       refine wpList_appI (by rfl) (.tmp 32) (.tmp 39) (by rfl) wA.heap.size wA.heap.size _ _ (by rfl) h8 DA _ dc (r.drop (k + 1)) (by show x.v 15 = _; exact e15) rfl h15 (by rw [List.length_take, List.length_drop, HRL2.out]; omega) hb.size ?_
       intro v' w' h1 h2 h3
       exact hQ v' w' (below_grown h2 (fun k hk => (hlo k hk).1) hb.size) h1
      ·intro x w hb hk Q' hQ
       have h2 : x.v 2 = .slice (some ⟨b, o, none⟩) (n + 1) c := (hk 2 (by decide)).1
       have h3 : x.v 3 = .int .i64 i := (hk 3 (by decide)).1
       have h4 : x.v 4 = .pointer (some ⟨b, o + i, none⟩) := (hk 4 (by decide)).1
       have h5 : x.v 5 = .slice (some ⟨br, or, none⟩) (n + 1) rc := (hk 5 (by decide)).1
       have h6 : x.v 6 = .int .i64 k := (hk 6 (by decide)).1
       have h7 : x.v 7 = .slice (some ⟨br, or, none⟩) k rc := (hk 7 (by decide)).1
       have h9 : x.v 9 = .slice (some ⟨b, o, none⟩) (n + 1) c := (hk 9 (by decide)).1
       have h10 : x.v 10 = .int .i64 i := (hk 10 (by decide)).1
       have h11 : x.v 11 = .pointer (some ⟨b, o + i, none⟩) := (hk 11 (by decide)).1
       have h12 : x.v 12 = .slice (some ⟨br, or, none⟩) (n + 1) rc := (hk 12 (by decide)).1
       have h13 : x.v 13 = .int .i64 k := (hk 13 (by decide)).1
       have h14 : x.v 14 = .int .i64 ((k : Int) + 1) := (hk 14 (by decide)).1
       have h16 : OwnI w wA.heap.size (x.v 16) (cutR k r) := (hk 16 (by decide)).1
       have s16 := (hk 16 (by decide)).2
       clear hk
       simp only [netE] at hQ ⊢
       simp only [h2, h3, h4, h5, h6, h7, h9, h10, h11, h12, h13, h14] at hQ ⊢
       clear h2 h3 h4 h5 h6 h7 h9 h10 h11 h12 h13 h14
       obtain ⟨A9, c9, e9, _⟩ := h16.form
       have hq2 := hQ (.slice (some ⟨w.heap.size, 0, none⟩) 1 1) (w.alloc (.cells #[x.v 16] 22)) (below_alloc _ _) ⟨w.heap.size, rfl, Blk.new w 22 #[x.v 16]⟩
       rw [e9] at hq2 ⊢
       clear h16 e9
       go_wp2
       exact hq2
      ·intro x w hb hk hiv hdj
       have h0 : x.v 0 = .slice OA j oc := hk 0 (by decide) (by decide)
       have h2 : x.v 2 = .slice (some ⟨b, o, none⟩) (n + 1) c := hk 2 (by decide) (by decide)
       have h3 : x.v 3 = .int .i64 i := hk 3 (by decide) (by decide)
       have h4 : x.v 4 = .pointer (some ⟨b, o + i, none⟩) := hk 4 (by decide) (by decide)
       have h5 : x.v 5 = .slice (some ⟨br, or, none⟩) (n + 1) rc := hk 5 (by decide) (by decide)
       have h6 : x.v 6 = .int .i64 k := hk 6 (by decide) (by decide)
       have h7 : x.v 7 = .slice (some ⟨br, or, none⟩) k rc := hk 7 (by decide) (by decide)
       have h9 : x.v 9 = .slice (some ⟨b, o, none⟩) (n + 1) c := hk 9 (by decide) (by decide)
       have h10 : x.v 10 = .int .i64 i := hk 10 (by decide) (by decide)
       have h11 : x.v 11 = .pointer (some ⟨b, o + i, none⟩) := hk 11 (by decide) (by decide)
       have h12 : x.v 12 = .slice (some ⟨br, or, none⟩) (n + 1) rc := hk 12 (by decide) (by decide)
       have h13 : x.v 13 = .int .i64 k := hk 13 (by decide) (by decide)
       have h14 : x.v 14 = .int .i64 ((k : Int) + 1) := hk 14 (by decide) (by decide)
       have h16 : OwnI w wA.heap.size (x.v 16) (cutR k r) := hk 16 (by decide) (by decide)
       have h17 : ∃ g, x.v 17 = .slice (some ⟨g, 0, none⟩) 1 1 ∧ Blk w g 22 #[x.v 16] := hk 17 (by decide) (by decide)
       clear hk
       simp only [netE]
       simp only [List.drop_succ_cons, List.drop_zero, h0, h2, h3, h4, h5, h6, h7, h9, h10, h11, h12, h13, h14]
       clear h0 h2 h3 h4 h5 h6 h7 h9 h10 h11 h12 h13 h14
       obtain ⟨g, e10, k10⟩ := h17
       rw [e10]
       have c10 := k10.cell' (i := 0) rfl
       have hws := hb.size
       have hO2 := HO.out.below hb
       have HBQ2 := Lib.hid (HBQ.out.trans (hb.mono (by omega)))
       refine wpList_appR rfl (.tmp 24) (.tmp 41) rfl LO wA.heap.size wA.heap.size w.heap.size (.slice OA j oc) _ (cutR k r) rfl hO2 _ _ (x.v 16) rfl ⟨g, 0, rfl, c10⟩ (IntsO.of_own h16) (Nat.le_refl _) (by omega) (by omega) (by rw [HLO.out]; omega) (by omega) (by omega) ?_
       intro v9 w9 ho9 hb9 _
       rw [← HSN.out] at ho9
       have HO9 := Lib.hid ho9
       have HB9 := Lib.hid (HBQ2.out.trans hb9)
       clear ho9 hb9 hO2 hb hiv hdj e10 k10 c10 h16 HBQ2
       go_wp2
       go_roundw
       case rel => exact ⟨j + 1, i + 1, by omega, by go_num, (by show i + 1 = j + 1 + 1; omega), HO9.out, HB9.out⟩
       case measure => simp [intOf]; omega
     ·have hjn' : j = n := by omega
      have e1 : (m.tail.take j).map (cutR k) = mnr k m := by rw [List.take_of_length_le (by rw [List.length_tail, HL.out]; omega)]; rfl
      rw [e1] at hO
      have HO := Lib.hid hO
      have HBQ2 := Lib.hid hbq2
      obtain ⟨D, hD⟩ : ∃ z, detL n (mnr k m) = z := ⟨_, rfl⟩
      have hDr := det_rng HSQ.out
      have hDB := dB_5 (show n ≤ 5 by omega)
      rw [hD] at hDr
      have HD := Lib.hid hD
      have h1 := abs_mul (A := 1) (B := 12) (show -1 ≤ S ∧ S ≤ 1 by omega) hXr
      have h2 := abs_mul (A := 12) (B := 29859840) (a := S * X) (b := D) (by omega) (by omega)
      obtain ⟨P, hP⟩ : ∃ z, S * X = z := ⟨_, rfl⟩
      rw [hP] at h1 h2
      obtain ⟨Z, hZ⟩ : ∃ z, P * D = z := ⟨_, rfl⟩
      rw [hZ] at h2
      have HP := Lib.hid hP
      have HZ := Lib.hid hZ
      have x2 := bcell hbq2 hb0 x0
      have x3 := bcell hbq2 hb00 x1
      have hqs2 := hbq2.size
      clear hO hbq hbq2 hlo e1 hjn' hD hP hZ x0 x1
      go_wp2
      obtain ⟨wA, hwA⟩ : ∃ z, z = wr := ⟨_, rfl⟩
      subst hwA
      obtain ⟨XX, hXX⟩ : ∃ z, z = X := ⟨_, rfl⟩
      subst hXX
      refine wp_region_net (by kernel_rfl) [.eq (.int .i64 T), .eq (.int .i64 S), .eq (.slice (some ⟨b, o, none⟩) (n + 1) c), .eq (.pointer (some ⟨b, o, none⟩)), .eq (.slice (some ⟨b0, o0, none⟩) (n + 1) c0), .eq (.int .i64 k), .eq (.pointer (some ⟨b0, o0 + k, none⟩)), .eq (.int .i64 XX), .eq (.int .i64 P), .eq (.slice OA j oc), .eq (.int .i64 D), .eq (.int .i64 Z)] [[], [], [], [2], [2, 3], [], [2, 3, 4, 5], [2, 3, 4, 5, 6], [1, 2, 3, 4, 5, 6, 7], [], [9], [1, 2, 3, 4, 5, 6, 7, 8, 9, 10], [0, 1, 2, 3, 4, 5, 6, 7, 8, 9, 10, 11], [0, 1, 2, 3, 4, 5, 6, 7, 8, 9, 10, 11, 12]] 12 (by kernel_rfl) ⟨trivial, trivial, trivial, trivial, trivial, trivial, trivial, trivial, trivial, trivial, trivial, trivial, trivial⟩ ⟨?_, ?_, ?_, ?_, ?_, ?_, ?_, ?_, ?_, ?_, ?_, ?_, trivial⟩ ?_
      ·intro x w hb hk Q' hQ
       clear hk
       simp only [netE] at hQ ⊢
       go_wp2
       exact hQ _ _ (Below.refl _ _) rfl
      ·intro x w hb hk Q' hQ
       clear hk
       simp only [netE] at hQ ⊢
       go_wp2
       exact hQ _ _ (Below.refl _ _) rfl
      ·intro x w hb hk Q' hQ
       clear hk
       simp only [netE] at hQ ⊢
       go_wp2
       exact hQ _ _ (Below.refl _ _) rfl
      ·intro x w hb hk Q' hQ
       have h2 : x.v 2 = .slice (some ⟨b, o, none⟩) (n + 1) c := (hk 2 (by decide)).1
       clear hk
       simp only [netE] at hQ ⊢
       simp only [h2] at hQ ⊢
       clear h2
       go_wp2
       exact hQ _ _ (Below.refl _ _) rfl
      ·intro x w hb hk Q' hQ
       have h3 : x.v 3 = .pointer (some ⟨b, o, none⟩) := (hk 3 (by decide)).1
       clear hk
       simp only [netE] at hQ ⊢
       simp only [h3] at hQ ⊢
       clear h3
       have q0 := bcell hb (show b < wA.heap.size by omega) x2
       go_wp2
       exact hQ _ _ (Below.refl _ _) rfl
      ·intro x w hb hk Q' hQ
       clear hk
       simp only [netE] at hQ ⊢
       go_wp2
       exact hQ _ _ (Below.refl _ _) rfl
      ·intro x w hb hk Q' hQ
       have h4 : x.v 4 = .slice (some ⟨b0, o0, none⟩) (n + 1) c0 := (hk 4 (by decide)).1
       have h5 : x.v 5 = .int .i64 k := (hk 5 (by decide)).1
       clear hk
       simp only [netE] at hQ ⊢
       simp only [h4, h5] at hQ ⊢
       clear h4 h5
       go_wp2
       exact hQ _ _ (Below.refl _ _) rfl
      ·intro x w hb hk Q' hQ
       have h6 : x.v 6 = .pointer (some ⟨b0, o0 + k, none⟩) := (hk 6 (by decide)).1
       clear hk
       simp only [netE] at hQ ⊢
       simp only [h6] at hQ ⊢
       clear h6
       have q0 := bcell hb (show b0 < wA.heap.size by omega) x3
       go_wp2
       exact hQ _ _ (Below.refl _ _) rfl
      ·intro x w hb hk Q' hQ
       have h1 : x.v 1 = .int .i64 S := (hk 1 (by decide)).1
       have h7 : x.v 7 = .int .i64 XX := (hk 7 (by decide)).1
       clear hk
       simp only [netE] at hQ ⊢
       simp only [h1, h7] at hQ ⊢
       clear h1 h7
       go_wp2
       rw [HP.out, IntWalk.wrap64_in _ ⟨by omega, by omega⟩]
       exact hQ _ _ (Below.refl _ _) rfl
      ·intro x w hb hk Q' hQ
       clear hk
       simp only [netE] at hQ ⊢
       go_wp2
       exact hQ _ _ (Below.refl _ _) rfl
      ·intro x w hb hk Q' hQ
       have h9 : x.v 9 = .slice OA j oc := (hk 9 (by decide)).1
       clear hk
       simp only [netE] at hQ ⊢
       simp only [h9] at hQ ⊢
       clear h9
       have HMN := Lib.hid (HO.out.below hb).rd
       go_wp2_with fail
       refine (IH.out _ (mnr k m) _ HMN.out HSQ.out).mono ?_; rintro e w6 ⟨rfl, hb6⟩
       rw [HD.out]
       go_wp2
       exact hQ _ _ hb6 rfl
      ·intro x w hb hk Q' hQ
       have h8 : x.v 8 = .int .i64 P := (hk 8 (by decide)).1
       have h10 : x.v 10 = .int .i64 D := (hk 10 (by decide)).1
       clear hk
       simp only [netE] at hQ ⊢
       simp only [h8, h10] at hQ ⊢
       clear h8 h10
       go_wp2
       rw [HZ.out, IntWalk.wrap64_in _ ⟨by omega, by omega⟩]
       exact hQ _ _ (Below.refl _ _) rfl
      ·intro x w hb hk hiv hdj
       have h0 : x.v 0 = .int .i64 T := hk 0 (by decide)
       have h1 : x.v 1 = .int .i64 S := hk 1 (by decide)
       have h2 : x.v 2 = .slice (some ⟨b, o, none⟩) (n + 1) c := hk 2 (by decide)
       have h3 : x.v 3 = .pointer (some ⟨b, o, none⟩) := hk 3 (by decide)
       have h4 : x.v 4 = .slice (some ⟨b0, o0, none⟩) (n + 1) c0 := hk 4 (by decide)
       have h5 : x.v 5 = .int .i64 k := hk 5 (by decide)
       have h6 : x.v 6 = .pointer (some ⟨b0, o0 + k, none⟩) := hk 6 (by decide)
       have h7 : x.v 7 = .int .i64 XX := hk 7 (by decide)
       have h8 : x.v 8 = .int .i64 P := hk 8 (by decide)
       have h9 : x.v 9 = .slice OA j oc := hk 9 (by decide)
       have h10 : x.v 10 = .int .i64 D := hk 10 (by decide)
       have h11 : x.v 11 = .int .i64 Z := hk 11 (by decide)
       clear hk
       simp only [netE]
       simp only [List.drop_succ_cons, List.drop_zero, h0, h1, h2, h3, h4, h5, h6, h7, h8, h9, h10, h11]
       clear h0 h1 h2 h3 h4 h5 h6 h7 h8 h9 h10 h11
       have HB3 := Lib.hid (HBQ2.out.trans (hb.mono hqs2))
       clear hb hiv hdj x2 x3
       go_wp2
       go_roundw
       case rel =>
        refine ⟨k + 1, T + Z, -S, by omega, by go_num, rfl, rfl, ?_, ?_, HB3.out⟩
        ·show _ = _
         rw [detS_succ, HD.out, ← HSG.out, ← HT.out, HXF.out, HP.out, HZ.out]
        ·show _ = _
         rw [sgK_succ, ← HSG.out]
       case measure => simp [intOf]; omega
   ·have hkn : k = n + 1 := by omega
    have HTE := Lib.hid (show T = detL (n + 1) m by rw [HDL.out, HT.out, hkn])
    clear hkn
    go_wp2
    go_ret
    exact ⟨by rw [← HTE.out]; rfl, hbel⟩
end Go.Proofs.YtcmlflppndfdcaaGreat
namespace Go.Proofs.YtcmlflppndfdcaaGreat
open Go.RowKit
theorem ent_rng' (q : Qv) (h : q.f.length ≤ 6) : ∀ a b, -12 ≤ ent q q.f.length a b ∧ ent q q.f.length a b ≤ 12 := fun a b => by
 have := ent_rng q q.f.length a b h
 omega
set_option maxHeartbeats 3200000 in
set_option maxRecDepth 100000 in
theorem specKind_any (u : Value) (q : Qv) (w0 : World) (hu : QvR w0 w0.heap.size u q) :
  Calls Tryz.prog 112 #[u] w0 fun e w' => e = .returned (.int .i64 (kindQ q)) ∧ Below w0.heap.size w0 w' := by
 have hu' := hu
 obtain ⟨A, c, C, d, rfl, hf, hT, hr, lf, lt⟩ := hu.open_
 clear hu hf hT
 obtain ⟨W, hW⟩ : ∃ W, W = w0.alloc (.cells #[.int .i64 q.v, .slice A q.f.length c, .slice C q.t.length d] 29) := ⟨_, rfl⟩
 have g0 : Below w0.heap.size w0 W := by rw [hW]; exact below_alloc _ _
 have kB : Blk W w0.heap.size 29 #[.int .i64 q.v, .slice A q.f.length c, .slice C q.t.length d] := by rw [hW]; exact Blk.new _ _ _
 have HQ := Lib.hid (QvR.next g0 hu')
 clear hu'
 have c0 := kB.cell' (i := 0) rfl
 have c1 := kB.cell' (i := 1) rfl
 have c2 := kB.cell' (i := 2) rfl
 rcases hq : isQ q with _ | _
 ·have HF := Lib.hid (show kindQ q = 0 by simp [kindQ, hq])
  have HQN := Lib.hid hq
  clear hq
  go_enter Tryz.func112, Tryz.ntmps112
  go_wp2_with fail
  rw [← hW]; clear hW
  refine (specIsQuiver_any _ q _ HQ.out).mono ?_; rintro e w1 ⟨rfl, hb1⟩
  rw [HQN.out]
  have g1 := bthen g0 hb1
  clear hb1 c0 c1 c2 kB
  go_wp2
  go_ret
  exact ⟨by rw [HF.out]; rfl, g1⟩
 ·obtain ⟨⟨hv1, hv5⟩, hlen, h6, _⟩ := isQ_t.1 hq
  clear hlen
  obtain ⟨V, hV⟩ := Int.eq_ofNat_of_zero_le (show 0 ≤ q.v by omega)
  have HF := Lib.hid (show kindQ q = kdGo V (ent q q.f.length) (2 ^ V - 1) 1 1 by simp [kindQ, hq, hV])
  have HQN := Lib.hid hq
  have HER := Lib.hid (ent_rng' q h6)
  have HVV := Lib.hid hV
  replace HQ := Lib.hid (show QvR W W.heap.size (.agg #[.int .i64 (V : Int), .slice A q.f.length c, .slice C q.t.length d]) q by rw [← hV]; exact HQ.out)
  have hV1 : 1 ≤ V := by omega
  have hV5 : V ≤ 5 := by omega
  rw [hV] at kB c0 hW ⊢
  clear hq h6 hV hv1 hv5
  go_enter Tryz.func112, Tryz.ntmps112
  go_wp2_with fail
  rw [← hW]; clear hW
  refine (specIsQuiver_any _ q _ HQ.out).mono ?_; rintro e w1 ⟨rfl, hb1⟩
  rw [HQN.out]
  have g1 := bthen g0 hb1
  have kB1 := kB.call hb1
  have HQ1 := Lib.hid (QvR.next hb1 HQ.out)
  clear hb1 c0 c1 c2 kB g0
  have c0 := kB1.cell' (i := 0) rfl
  have c1 := kB1.cell' (i := 1) rfl
  have c2 := kB1.cell' (i := 2) rfl
  go_wp2_with fail
  refine (symmetricForm_any _ q _ HQ1.out HQN.out).mono ?_; rintro e w2 ⟨m2, rfl, hM, hb2⟩
  obtain ⟨MA, mc, em, _⟩ := hM.form2
  subst em
  have HMM := Lib.hid hM
  have kB2 := kB1.call hb2
  have g2 := bthen g1 hb2
  have s2 := g2.size
  clear hM hb2 c0 c1 c2 kB1 g1
  obtain ⟨N, hN⟩ : ∃ z, z = 2 ^ V := ⟨_, rfl⟩
  have hN32 : N ≤ 32 := by
   have : (2 : Nat) ^ V ≤ 2 ^ 5 := Nat.pow_le_pow_right (by omega) hV5
   omega
  have hN1 : 1 ≤ N := by have := Nat.one_le_two_pow (n := V); omega
  have hsh : wrap64 ((2 : Int) ^ V) = (N : Int) := by
   rw [show ((2 : Int) ^ V) = ((2 ^ V : Nat) : Int) by simp, ← hN]
   exact IntWalk.wrap64_in _ ⟨by omega, by omega⟩
  rw [← hN] at HF
  have HSM := Lib.hid (show symM q = matF V (ent q q.f.length) by rw [symM, HVV.out]; rfl)
  clear hN
  go_wp2
  go_loopw [4, 5] (fun kd i wr => ∃ (s : Nat) (k : Int), 1 ≤ s ∧ s ≤ N ∧ i = .int .i64 s ∧ kd = .int .i64 k ∧ 1 ≤ k ∧ k ≤ 3 ∧ Hid (kindQ q = kdGo V (ent q q.f.length) (N - s) s k) ∧ Below w2.heap.size w2 wr) (fun _ i _ => N - (intOf i).toNat)
  case atStart => exact ⟨1, 1, Nat.le_refl _, hN1, rfl, rfl, by omega, by omega, HF, Below.refl _ _⟩
  case round =>
   obtain ⟨s, k, hs1, hs, rfl, rfl, hk1, hk3, HK, hbel⟩ := hrel
   have c0 := (kB2.call hbel).cell' (i := 0) rfl
   by_cases hlt : s < N
   ·have hMr := (HMM.out.below hbel).rd
    rw [(show symM q = _ from HSM.out)] at hMr
    have HMR := Lib.hid hMr
    have HBE := Lib.hid hbel
    have hsl := congrArg List.length (show symM q = _ from HSM.out)
    have HSL := Lib.hid hsl
    clear hMr hbel hsl
    go_wp2_with fail
    refine (l18Minor_any _ V s (ent q q.f.length) _ hV5 (by omega) HER.out (by rw [HSL.out]; exact HMR.out)).mono ?_; rintro e w3 ⟨m3, rfl, hm3, hb3⟩
    obtain ⟨A3, c3, e3, _⟩ := hm3.form2
    subst e3
    have HM3 := Lib.hid hm3.rd
    have HBE3 := Lib.hid (HBE.out.trans (hb3.mono HBE.out.size))
    have HSQ := Lib.hid (mnL_sq (s := s) (n := V) HER.out)
    have hbl := bitL_length s V
    obtain ⟨D, hD⟩ : ∃ z, dtS s V (ent q q.f.length) = z := ⟨_, rfl⟩
    have HD := Lib.hid hD
    clear hm3 hb3 hD c0
    go_wp2_with fail
    refine (l18Det_any (bitL s V).length (by omega) _ (mnL s V (ent q q.f.length)) _ HM3.out HSQ.out).mono ?_; rintro e w4 ⟨rfl, hb4⟩
    rw [show detL (bitL s V).length (mnL s V (ent q q.f.length)) = D from HD.out]
    have HBE4 := Lib.hid (HBE3.out.trans (hb4.mono HBE3.out.size))
    have HG4 := Lib.hid (g2.trans (HBE4.out.mono s2))
    obtain ⟨m, hm⟩ : ∃ m, N - s = m + 1 := ⟨N - s - 1, by omega⟩
    have hK := HK.out
    rw [hm] at hK
    simp only [kdGo] at hK
    rw [show dtS s V (ent q q.f.length) = D from HD.out] at hK
    have hm2 : m = N - (s + 1) := by omega
    rw [hm2] at hK
    clear hb4 hm hm2 HD
    by_cases hD0 : D < 0
    ·rw [if_pos hD0] at hK
     have HKK := Lib.hid hK
     clear hK
     go_wp2
     go_ret
     exact ⟨by rw [HKK.out]; rfl, HG4.out⟩
    ·rw [if_neg hD0] at hK
     by_cases hD1 : D = 0
     ·rw [if_pos hD1] at hK
      have HKK := Lib.hid hK
      clear hK
      subst hD1
      go_wp2
      go_roundw
      case rel => exact ⟨s + 1, 2, by omega, by omega, by go_num, rfl, by omega, by omega, HKK, HBE4.out⟩
      case measure => simp [intOf]; omega
     ·rw [if_neg hD1] at hK
      have HKK := Lib.hid hK
      have hne : (D == 0) = false := by rw [beq_eq_false_iff_ne]; exact hD1
      clear hK
      go_wp2
      go_roundw
      case rel => exact ⟨s + 1, k, by omega, by omega, by go_num, rfl, by omega, by omega, HKK, HBE4.out⟩
      case measure => simp [intOf]; omega
   ·have HKK := Lib.hid (show kindQ q = k by rw [(HK.out : kindQ q = _), show N - s = 0 by omega]; rfl)
    have HG := Lib.hid (g2.trans (hbel.mono s2))
    clear hbel
    go_wp2
    go_ret
    exact ⟨by rw [HKK.out]; rfl, HG.out⟩
end Go.Proofs.YtcmlflppndfdcaaGreat
namespace Go.Proofs.YtcmlflppndfdcaaGreat
open Go.RowKit
set_option maxHeartbeats 6400000 in
set_option maxRecDepth 100000 in
theorem implKind_any (u : Value) (q : Qv) (w0 : World) (hu : QvR w0 w0.heap.size u q) :
  Calls Tryz.prog 147 #[u] w0 fun e w' => e = .returned (.int .i64 (kindQ q)) ∧ Below w0.heap.size w0 w' := by
 have hu' := hu
 obtain ⟨A, c, C, d, rfl, hf, hT, hr, lf, lt⟩ := hu.open_
 clear hu hf hT
 obtain ⟨W, hW⟩ : ∃ W, W = w0.alloc (.cells #[.int .i64 q.v, .slice A q.f.length c, .slice C q.t.length d] 29) := ⟨_, rfl⟩
 have g0 : Below w0.heap.size w0 W := by rw [hW]; exact below_alloc _ _
 have kB : Blk W w0.heap.size 29 #[.int .i64 q.v, .slice A q.f.length c, .slice C q.t.length d] := by rw [hW]; exact Blk.new _ _ _
 have HQ := Lib.hid (QvR.next g0 hu')
 clear hu'
 have c0 := kB.cell' (i := 0) rfl
 have c1 := kB.cell' (i := 1) rfl
 have c2 := kB.cell' (i := 2) rfl
 rcases hq : isQ q with _ | _
 ·have HF := Lib.hid (show kindQ q = 0 by simp [kindQ, hq])
  have HQN := Lib.hid hq
  clear hq
  go_enter Tryz.func147, Tryz.ntmps147
  go_wp2_with fail
  rw [← hW]; clear hW
  refine (implIsQuiver_any _ q _ HQ.out).mono ?_; rintro e w1 ⟨rfl, hb1⟩
  rw [HQN.out]
  have g1 := bthen g0 hb1
  clear hb1 c0 c1 c2 kB
  go_wp2
  go_ret
  exact ⟨by rw [HF.out]; rfl, g1⟩
 ·obtain ⟨⟨hv1, hv5⟩, hlen, h6, _⟩ := isQ_t.1 hq
  clear hlen
  obtain ⟨V, hV⟩ := Int.eq_ofNat_of_zero_le (show 0 ≤ q.v by omega)
  have HF := Lib.hid (show kindQ q = kdGo V (ent q q.f.length) (2 ^ V - 1) 1 1 by simp [kindQ, hq, hV])
  have HQN := Lib.hid hq
  have HER := Lib.hid (ent_rng' q h6)
  have HVV := Lib.hid hV
  replace HQ := Lib.hid (show QvR W W.heap.size (.agg #[.int .i64 (V : Int), .slice A q.f.length c, .slice C q.t.length d]) q by rw [← hV]; exact HQ.out)
  have hV1 : 1 ≤ V := by omega
  have hV5 : V ≤ 5 := by omega
  rw [hV] at kB c0 hW ⊢
  clear hq h6 hV hv1 hv5
  go_enter Tryz.func147, Tryz.ntmps147
  go_wp2_with fail
  rw [← hW]; clear hW
  refine (implIsQuiver_any _ q _ HQ.out).mono ?_; rintro e w1 ⟨rfl, hb1⟩
  rw [HQN.out]
  have g1 := bthen g0 hb1
  have kB1 := kB.call hb1
  have HQ1 := Lib.hid (QvR.next hb1 HQ.out)
  clear hb1 c0 c1 c2 kB g0
  have c0 := kB1.cell' (i := 0) rfl
  have c1 := kB1.cell' (i := 1) rfl
  have c2 := kB1.cell' (i := 2) rfl
  go_wp2_with fail
  refine (symmetric_any _ q _ HQ1.out HQN.out).mono ?_; rintro e w2 ⟨m2, rfl, hM, hb2⟩
  obtain ⟨MA, mc, em, _⟩ := hM.form2
  subst em
  have HSM := Lib.hid (show symM q = matF V (ent q q.f.length) by rw [symM, HVV.out]; rfl)
  rw [HSM.out, matF_length] at hM ⊢
  have HMM := Lib.hid hM
  have kB2 := kB1.call hb2
  have g2 := bthen g1 hb2
  have s2 := g2.size
  obtain ⟨MB, MO, rfl, hMB0⟩ : ∃ b o, MA = some ⟨b, o, none⟩ ∧ b < w2.heap.size := by
   have h1 := hM.rd
   obtain ⟨_, _, e, _, _, _, h4⟩ := h1
   injection e with e1 _ _
   obtain ⟨b, o, e2, hb, _⟩ := h4 (by rw [matF_length]; omega)
   exact ⟨b, o, by rw [e1, e2], hb⟩
  clear hM hb2 c0 c1 c2 kB1 g1
  obtain ⟨N, hN⟩ : ∃ z, z = 2 ^ V := ⟨_, rfl⟩
  have hN32 : N ≤ 32 := by
   have : (2 : Nat) ^ V ≤ 2 ^ 5 := Nat.pow_le_pow_right (by omega) hV5
   omega
  have hN1 : 1 ≤ N := by have := Nat.one_le_two_pow (n := V); omega
  have hsh : wrap64 ((2 : Int) ^ V) = (N : Int) := by
   rw [show ((2 : Int) ^ V) = ((2 ^ V : Nat) : Int) by simp, ← hN]
   exact IntWalk.wrap64_in _ ⟨by omega, by omega⟩
  rw [← hN] at HF
  have HB1 := Lib.hid band1
  obtain ⟨g, hg⟩ : ∃ g, ent q q.f.length = g := ⟨_, rfl⟩
  rw [hg] at HMM HF HER
  clear hN HSM hg HQ HQ1
  go_wp2
  go_loopw [3, 5] (fun kd i wr => ∃ (s : Nat) (k : Int), 1 ≤ s ∧ s ≤ N ∧ i = .int .i64 s ∧ kd = .int .i64 k ∧ 1 ≤ k ∧ k ≤ 3 ∧ Hid (kindQ q = kdGo V g (N - s) s k) ∧ Below w2.heap.size w2 wr) (fun _ i _ => N - (intOf i).toNat)
  case atStart => exact ⟨1, 1, Nat.le_refl _, hN1, rfl, rfl, by omega, by omega, HF, Below.refl _ _⟩
  case round =>
   obtain ⟨s, k, hs1, hs, rfl, rfl, hk1, hk3, HK, hbel⟩ := hrel
   have c0 := (kB2.call hbel).cell' (i := 0) rfl
   by_cases hlt : s < N
   ·have hMr := (HMM.out.below hbel).rd
    have HX : Hid (SlII wr wr.heap.size (.slice (some ⟨MB, MO, none⟩) (matF V g).length mc) (matF V g)) := by rw [matF_length]; exact hMr
    have HBE := Lib.hid hbel
    have hws := hbel.size
    obtain ⟨LO, hLO⟩ : ∃ z, z = wr.heap.size := ⟨_, rfl⟩
    clear hMr hbel
    go_wp2
    obtain ⟨w3, hw3⟩ : ∃ z, z = wr := ⟨_, rfl⟩
    subst hw3
    clear c0 hsh
    go_loopw [6, 27] (fun ov i wq => ∃ j : Nat, j ≤ V ∧ i = .int .i64 j ∧ IntssO wq w3.heap.size wq.heap.size ov (mnTo s V g j) ∧ Below w3.heap.size w3 wq) (fun _ i _ => V - (intOf i).toNat)
    case atStart => exact ⟨0, Nat.zero_le _, rfl, by simpa [mnTo, bitL] using IntssO.nil w3 _ _, Below.refl _ _⟩
    case round =>
     obtain ⟨j, hj, rfl, hO, hbq⟩ := hrel
     obtain ⟨OA, oc, eo, hoc, hoc2, hol⟩ := hO.form2
     have hlo : (mnTo s V g j).length = (bitL s j).length := by simp [mnTo]
     rw [hlo] at eo hoc
     subst eo
     have hbl := bitL_length s j
     have hqs := hbq.size
     by_cases hjn : j < V
     ·obtain ⟨r, RA, rc, hr0, _, y1, hr, hrc1, hrc2⟩ := SlII.elt HX.out (k := j) (by rw [matF_length]; omega)
      rw [matF_get _ hjn] at hr0
      injection hr0 with hr0
      subst hr0
      have y2 := bcell hbq (show MB < w3.heap.size by omega) y1
      rw [rowF_length] at y2 hrc1
      obtain ⟨b2, o2, rfl, hb2⟩ := SlI.addr hr (by rw [rowF_length]; omega)
      have HR := Lib.hid hr
      have HLO := Lib.hid hlo
      rcases hbt : bitT s j with _ | _
      ·have h0 := bitT_0 hbt
       have h1 := HB1.out
       rw [show mnTo s V g j = mnTo s V g (j + 1) by rw [mnTo, mnTo, bitL_succ_f hbt]] at hO
       have HO := Lib.hid hO
       have HBQ := Lib.hid hbq
       clear hO hbq hbt hlo hr y1
       go_wp2
       clear h0 h1
       go_roundw
       case rel => exact ⟨j + 1, by omega, by go_num, HO.out, HBQ.out⟩
       case measure => simp [intOf]; omega
      ·have h0 := bitT_1 hbt
       have h1 := HB1.out
       have HO := Lib.hid hO
       have HBQ := Lib.hid hbq
       have HBT := Lib.hid hbt
       clear hO hbq hbt hlo hr y1
       go_wp2
       obtain ⟨w4, hw4⟩ : ∃ z, z = wr := ⟨_, rfl⟩
       subst hw4
       clear h0 h1 y2
       go_loopw [9, 39] (fun rv i wq => ∃ l : Nat, l ≤ V ∧ i = .int .i64 l ∧ IntsO wq w4.heap.size wq.heap.size rv ((bitL s l).map (g j)) ∧ Below w4.heap.size w4 wq) (fun _ i _ => V - (intOf i).toNat)
       case atStart => exact ⟨0, Nat.zero_le _, rfl, by simpa [bitL] using (show IntsO w4 w4.heap.size w4.heap.size (.slice none 0 0) [] from ⟨OwnI.nil _ _, by simp [Value.ownBlock]⟩), Below.refl _ _⟩
       case round =>
        obtain ⟨l, hl, rfl, hI, hbz⟩ := hrel
        obtain ⟨RV, rv, er, hrv1, hrv2⟩ := hI.1.form
        have hlr : ((bitL s l).map (g j)).length = (bitL s l).length := by simp
        have hbl2 := bitL_length s l
        have hwz := hbz.size
        rw [hlr] at er hrv1
        subst er
        by_cases hln : l < V
        ·obtain ⟨x, hx0, _, x1, _⟩ := SlI.elt HR.out (k := l) (by rw [rowF_length]; omega)
         rw [rowF_get _ hln] at hx0
         injection hx0 with hx0
         have hgr := HER.out j l
         rw [hx0] at hgr
         have x2 := bcell (HBQ.out.trans (hbz.mono (by omega))) (show b2 < w3.heap.size by omega) x1
         rcases hbj : bitT s l with _ | _
         ·have h0 := bitT_0 hbj
          have h1 := HB1.out
          rw [show (bitL s l).map (g j) = (bitL s (l + 1)).map (g j) by rw [bitL_succ_f hbj]] at hI
          have HI := Lib.hid hI
          have HBZ := Lib.hid hbz
          clear hI hbz hbj hlr hx0 x1
          go_wp2
          clear h0 h1
          go_roundw
          case rel => exact ⟨l + 1, by omega, by go_num, HI.out, HBZ.out⟩
          case measure => simp [intOf]; omega
         ·have h0 := bitT_1 hbj
          have h1 := HB1.out
          have HSX := Lib.hid (show (bitL s (l + 1)).map (g j) = (bitL s l).map (g j) ++ [x] by rw [bitL_succ_t hbj, List.map_append, ← hx0]; rfl)
          have bz := below_alloc wr (.cells #[.int .i64 x] 3)
          have HI2 := Lib.hid (hI.below bz)
          have HB2 := Lib.hid (hbz.trans (bz.mono (by omega)))
          have HLR := Lib.hid hlr
          clear hx0 x1 hI hbz hbj hlr bz
          (go_wp2_with (at_builtin; refine Hold.stop ?_)); unfold Hold
          refine wpList_appI rfl (.tmp 49) (.tmp 51) rfl w4.heap.size _ (.slice RV (bitL s l).length rv) ((bitL s l).map (g j)) rfl HI2.out.1 _ _ _ [x] rfl rfl (SlI.one wr _ _ ⟨by omega, by omega⟩) (by rw [HLR.out]; simp; omega) (by simp; omega) ?_
          intro v9 w9 ho9 hg9 hv9
          rw [← HSX.out] at ho9
          have hbg : Below w4.heap.size _ w9 := below_grown hg9 (fun k hk => (HI2.out.1.lt k hk).1) (by simp; omega)
          have HBT2 := Lib.hid (HB2.out.trans hbg)
          have HO9 := Lib.hid (IntsO.of_own ho9)
          clear ho9 hg9 hv9 hbg h0 h1 x2
          go_wp2
          go_roundw
          case rel => exact ⟨l + 1, by omega, by go_num, HO9.out, HBT2.out⟩
          case measure => simp [intOf]; omega
        ·have hln' : l = V := by omega
         replace hI : IntsO wr w4.heap.size wr.heap.size (.slice RV (bitL s l).length rv) ((bitL s V).map (g j)) := by rw [show (bitL s V).map (g j) = (bitL s l).map (g j) by rw [hln']]; exact hI
         obtain ⟨u, hu, Z, hZ⟩ : ∃ u, u = wr.heap.size ∧ ∃ Z, Z = wr.alloc (.cells #[.slice RV (bitL s l).length rv] 22) := ⟨_, rfl, _, rfl⟩
         have bZ : Below wr.heap.size wr Z := by rw [hZ]; exact below_alloc _ _
         have kZ : Blk Z u 22 #[.slice RV (bitL s l).length rv] := by rw [hZ, hu]; exact Blk.new _ _ _
         have HOZ := Lib.hid ((HO.out.below hbz).below bZ)
         have HRZ := Lib.hid (hI.below bZ)
         have HBZ := Lib.hid ((HBQ.out.trans (hbz.mono (by omega))).trans (bZ.mono (by omega)))
         have sZ := bZ.size
         have C0 := Lib.hid (kZ.cell' (i := 0) rfl)
         have HU := Lib.hid hu
         have HSN := Lib.hid (show mnTo s V g (j + 1) = mnTo s V g j ++ [(bitL s V).map (g j)] by rw [mnTo, bitL_succ_t HBT.out, List.map_append]; rfl)
         clear hI hbz bZ kZ hu hln' hlr
         (go_wp2_with (at_builtin; refine Hold.stop ?_)); unfold Hold
         rw [← HU.out, ← hZ]
         clear hZ
         refine wpList_appR rfl (.tmp 54) (.tmp 56) rfl w3.heap.size w4.heap.size w4.heap.size wr.heap.size (.slice OA (bitL s j).length oc) (mnTo s V g j) ((bitL s V).map (g j)) rfl HOZ.out _ _ (.slice RV (bitL s l).length rv) rfl ⟨u, 0, rfl, C0.out⟩ HRZ.out (Nat.le_refl _) (by omega) (by omega) (by rw [HLO.out]; omega) (by omega) (by omega) ?_
         intro v9 w9 ho9 hb9 _
         rw [← HSN.out] at ho9
         have HO9 := Lib.hid ho9
         have HB9 := Lib.hid (HBZ.out.trans hb9)
         clear ho9 hb9
         go_wp2
         go_roundw
         case rel => exact ⟨j + 1, by omega, by go_num, HO9.out, HB9.out⟩
         case measure => simp [intOf]; omega
     ·have hkn : j = V := by omega
      have HM3 := Lib.hid (show SlII wr wr.heap.size (.slice OA (bitL s j).length oc) (mnL s V g) by rw [show mnL s V g = mnTo s V g j by rw [mnL, hkn]]; exact hO.rd)
      have HBE3 := Lib.hid (HBE.out.trans (hbq.mono hws))
      have HSQ := Lib.hid (mnL_sq (s := s) (n := V) HER.out)
      have hblV := bitL_length s V
      obtain ⟨D, hD⟩ : ∃ z, dtS s V g = z := ⟨_, rfl⟩
      have HD := Lib.hid hD
      clear hO hbq hlo hD hkn
      go_wp2_with fail
      refine (determinant_any (bitL s V).length (by omega) _ (mnL s V g) _ HM3.out HSQ.out).mono ?_; rintro e w5 ⟨rfl, hb5⟩
      rw [show detL (bitL s V).length (mnL s V g) = D from HD.out]
      have HBE4 := Lib.hid (HBE3.out.trans (hb5.mono HBE3.out.size))
      have HG4 := Lib.hid (g2.trans (HBE4.out.mono s2))
      obtain ⟨m, hm⟩ : ∃ m, N - s = m + 1 := ⟨N - s - 1, by omega⟩
      have hK := HK.out
      rw [hm] at hK
      simp only [kdGo] at hK
      rw [show dtS s V g = D from HD.out] at hK
      have hm2 : m = N - (s + 1) := by omega
      rw [hm2] at hK
      clear hb5 hm hm2 HD
      by_cases hD0 : D < 0
      ·rw [if_pos hD0] at hK
       have HKK := Lib.hid hK
       clear hK
       go_wp2
       go_ret
       exact ⟨by rw [HKK.out]; rfl, HG4.out⟩
      ·rw [if_neg hD0] at hK
       by_cases hD1 : D = 0
       ·rw [if_pos hD1] at hK
        have HKK := Lib.hid hK
        clear hK
        subst hD1
        go_wp2
        go_roundw
        case rel => exact ⟨s + 1, 2, by omega, by omega, by go_num, rfl, by omega, by omega, HKK, HBE4.out⟩
        case measure => simp [intOf]; omega
       ·rw [if_neg hD1] at hK
        have HKK := Lib.hid hK
        have hne : (D == 0) = false := by rw [beq_eq_false_iff_ne]; exact hD1
        clear hK
        go_wp2
        go_roundw
        case rel => exact ⟨s + 1, k, by omega, by omega, by go_num, rfl, by omega, by omega, HKK, HBE4.out⟩
        case measure => simp [intOf]; omega
   ·have HKK := Lib.hid (show kindQ q = k by rw [(HK.out : kindQ q = _), show N - s = 0 by omega]; rfl)
    have HG := Lib.hid (g2.trans (hbel.mono s2))
    clear hbel
    go_wp2
    go_ret
    exact ⟨by rw [HKK.out]; rfl, HG.out⟩
end Go.Proofs.YtcmlflppndfdcaaGreat
namespace Go.Proofs.YtcmlflppndfdcaaGreat
open Go.RowKit Go.Shelf
attribute [local go_sem] Oper.semAt_some
theorem sumW_of {x : List Int} (h : smallV 100 x) (hl : x.length ≤ 1000) : sumW x = x.sum :=
 (sumW_small x (-100) 100 (by omega) (by omega) h (by omega) (by omega)).1
end Go.Proofs.YtcmlflppndfdcaaGreat
