/- FnExactRootDecompositions: for every argument the program's function returns what the reference's returns. Part 8 of 12 of the proof: NulP, Minor, RowAt, RowZ, ColZ, FromC, Tran, Besd, Conc, Det, Det2, Kind, KindI, NulI. No condition. -/
import Derived.Test.YtkhkamcmlhmpiaaBRootDecompositions7
import Derived.Shelf.Spec.SlicesGrow
import Derived.Sort.AtCallIn
/- Null vectors: plain part; powers. -/
namespace Go.Proofs.Ytkhkamcmlhmpiaa
set_option linter.unusedVariables false
set_option linter.unusedSimpArgs false
open Go.RowKit

theorem sum_set : ∀ (l : List Int) (i : Nat) (x : Int), i < l.length → (l.set i x).sum = l.sum - l.getD i 0 + x
  | [], i, x, h => by simp at h
  | a :: r, 0, x, _ => by simp; omega
  | a :: r, i + 1, x, h => by
    rw [List.set_cons_succ, List.sum_cons, List.sum_cons, sum_set r i x (by simpa using h)]
    simp; omega
theorem bxV_small (m N k : Nat) (hm : m ≤ 100) : smallV 100 (bxV m N k) := fun y hy => by have := bxV_rng hy; omega
/-- the last j numbers of the k-th vector, zeros ahead -/
def bxP (m N k j : Nat) : List Int := (List.range N).map fun i => if N ≤ i + j then ((k / (m + 1) ^ (N - 1 - i) % (m + 1) : Nat) : Int) else 0
theorem bxP_length (m N k j : Nat) : (bxP m N k j).length = N := by simp [bxP]
theorem bxP_0 (m N k : Nat) : bxP m N k 0 = List.replicate N 0 := by
  apply List.ext_getElem (by simp [bxP])
  intro i h1 h2
  have : i < N := by simpa [bxP] using h1
  simp [bxP]; omega
theorem bxP_N (m N k : Nat) : bxP m N k N = bxV m N k := by
  apply List.ext_getElem (by simp [bxP, bxV])
  intro i h1 h2
  simp [bxP, bxV]
theorem bxP_at {m N k j : Nat} (hj : j < N) : (bxP m N k j).getD (N - 1 - j) 0 = 0 := by
  rw [bxP, List.getD_eq_getElem?_getD, List.getElem?_map, List.getElem?_range (by omega)]
  simp only [Option.map_some, Option.getD_some]
  rw [if_neg (by omega)]
theorem bxP_step {m N k j : Nat} (hj : j < N) : (bxP m N k j).set (N - 1 - j) ((k / (m + 1) ^ j % (m + 1) : Nat) : Int) = bxP m N k (j + 1) := by
  apply List.ext_getElem (by simp [bxP])
  intro i h1 h2
  have hi : i < N := by simpa [bxP] using h2
  rw [List.getElem_set]
  simp only [bxP, List.getElem_map, List.getElem_range]
  by_cases e : N - 1 - j = i
  · rw [if_pos e, if_pos (by omega), show N - 1 - i = j by omega]
  · rw [if_neg e]
    by_cases h : N ≤ i + j
    · rw [if_pos h, if_pos (by omega)]
    · rw [if_neg h, if_neg (by omega)]
theorem bxP_sum {m N k j : Nat} (hj : j < N) : (bxP m N k (j + 1)).sum = (bxP m N k j).sum + ((k / (m + 1) ^ j % (m + 1) : Nat) : Int) := by
  rw [← bxP_step hj, sum_set _ _ _ (by rw [bxP_length]; omega), bxP_at hj]; omega
theorem bxP_rng (m N k : Nat) : ∀ j, j ≤ N → 0 ≤ (bxP m N k j).sum ∧ (bxP m N k j).sum ≤ (j : Int) * m
  | 0, _ => by
    rw [bxP_0]
    have : ∀ n, (List.replicate n (0 : Int)).sum = 0 := fun n => by induction n with | zero => rfl | succ n ih => simp [List.replicate_succ]
    rw [this]; simp
  | j + 1, hj => by
    have ih := bxP_rng m N k j (by omega)
    rw [bxP_sum (by omega)]
    have := Nat.mod_lt (k / (m + 1) ^ j) (show 0 < m + 1 by omega)
    have e : ((j + 1 : Nat) : Int) * m = (j : Int) * m + m := by rw [Int.natCast_add, Int.add_mul]; simp
    omega
theorem bxV_sum (m N k : Nat) : 0 ≤ (bxV m N k).sum ∧ (bxV m N k).sum ≤ (N : Int) * m := by rw [← bxP_N]; exact bxP_rng m N k N (Nat.le_refl _)
theorem bxP_sum0 {m N k : Nat} : ∀ j, j ≤ N → (bxP m N k j).sum = 0 → k % (m + 1) ^ j = 0
  | 0, _, _ => by simp [Nat.mod_one]
  | j + 1, hj, h => by
    have h1 := bxP_rng m N k j (by omega)
    rw [bxP_sum (by omega)] at h
    have h2 := bxP_sum0 (m := m) (N := N) (k := k) j (by omega) (by omega)
    rw [mod_pow_succ, h2, show k / (m + 1) ^ j % (m + 1) = 0 by omega]; simp
theorem bxV_pos {m N k : Nat} (h0 : 0 < k) (hk : k < (m + 1) ^ N) : 0 < (bxV m N k).sum := by
  have h1 := bxV_sum m N k
  rcases Int.lt_or_le 0 (bxV m N k).sum with h | h
  · exact h
  · have h2 := bxP_sum0 (m := m) (N := N) (k := k) N (Nat.le_refl _) (by rw [bxP_N]; omega)
    rw [Nat.mod_eq_of_lt hk] at h2
    omega
theorem bxV_0sum (m N : Nat) : (bxV m N 0).sum = 0 := by
  rw [bxV_0]
  have : ∀ n, (List.replicate n (0 : Int)).sum = 0 := fun n => by induction n with | zero => rfl | succ n ih => simp [List.replicate_succ]
  exact this N

/-- the best null vector among the first k of the box -/
def nvB (q : Qv) (V : Nat) : Nat → List Int
  | 0 => []
  | k + 1 => if 0 < (bxV 4 V k).sum ∧ eul q (bxV 4 V k) (bxV 4 V k) = 0 ∧ (nvB q V k = [] ∨ (bxV 4 V k).sum < (nvB q V k).sum) then bxV 4 V k else nvB q V k
theorem nvB_1 (q : Qv) (V : Nat) : nvB q V 1 = [] := by
  rw [nvB, if_neg]; · rfl
  rw [bxV_0sum]; simp
theorem nvB_or (q : Qv) (V : Nat) : ∀ k, nvB q V k = [] ∨ ∃ c, nvB q V k = bxV 4 V c
  | 0 => .inl rfl
  | k + 1 => by
    rw [nvB]
    split
    · exact .inr ⟨k, rfl⟩
    · exact nvB_or q V k
theorem nvB_len (q : Qv) (V k : Nat) : (nvB q V k).length ≤ V := by
  rcases nvB_or q V k with h | ⟨c, h⟩ <;> rw [h]
  · simp
  · rw [bxV_length]; omega
theorem nvB_rng (q : Qv) (V k : Nat) : 0 ≤ (nvB q V k).sum ∧ (nvB q V k).sum ≤ (V : Int) * 4 := by
  rcases nvB_or q V k with h | ⟨c, h⟩ <;> rw [h]
  · simp; omega
  · exact bxV_sum 4 V c
theorem nvB_i64 (q : Qv) (V k : Nat) : smallV 100 (nvB q V k) := by
  rcases nvB_or q V k with h | ⟨c, h⟩ <;> rw [h]
  · intro y hy; simp at hy
  · exact bxV_small 4 V c (by omega)
def nvQ (q : Qv) : List Int × Bool := if kindQ q = 2 then (nvB q q.v.toNat (5 ^ q.v.toNat), decide (0 < (nvB q q.v.toNat (5 ^ q.v.toNat)).length)) else ([], false)
theorem isNum_bx {q : Qv} (hq : isQ q = true) (k : Nat) : isNum q (bxV 4 q.v.toNat k) = true :=
  isNum_t.2 ⟨hq, by rw [bxV_length]; have := (isQ_t.1 hq).1; omega, bxV_small 4 _ k (by omega)⟩

set_option maxHeartbeats 400000 in
theorem l5Power_any (p n : Nat) (w : World) (hp : p ≤ 9) (hn : n ≤ 10) :
    Calls Try.prog 105 #[.int .i64 p, .int .i64 n] w fun e w' => e = .returned (.int .i64 ((p ^ n : Nat) : Int)) ∧ w' = w := by
  have hb : ∀ k, k ≤ n → p ^ k ≤ 9 ^ 10 := fun k hk => Nat.le_trans (Nat.pow_le_pow_left hp k) (Nat.pow_le_pow_right (by omega) (by omega))
  go_enter Try.func105, Try.ntmps105
  go_wp2
  go_loop [5, 6] (fun s i => ∃ k : Nat, k ≤ n ∧ i = .int .i64 k ∧ s = .int .i64 ((p ^ k : Nat) : Int)) (fun _ i => n - (intOf i).toNat)
  case atStart => exact ⟨0, Nat.zero_le _, rfl, by simp⟩
  case round =>
    obtain ⟨k, hk, rfl, rfl⟩ := hrel
    have h1 := hb k hk
    by_cases hlt : k < n
    · have h2 := hb (k + 1) (by omega)
      obtain ⟨P, hP⟩ : ∃ P, p ^ k = P := ⟨_, rfl⟩
      have h3 : p ^ (k + 1) = P * p := by rw [Nat.pow_succ, hP]
      rw [hP] at h1 ⊢
      rw [h3] at h2
      have H3 := Lib.hid h3
      obtain ⟨R, hR⟩ : ∃ R, P * p = R := ⟨_, rfl⟩
      rw [hR] at h2 H3
      have hm : wrap64 ((P : Int) * (p : Int)) = (R : Int) := by rw [← Int.natCast_mul, hR]; unfold wrap64; omega
      clear hP h3 hR
      go_wp2
      go_round
      case rel => exact ⟨k + 1, by omega, by go_num, by rw [H3.out, hm]⟩
      case measure => simp [intOf]; omega
    · obtain rfl : k = n := by omega
      go_wp2
      go_ret
      exact ⟨rfl, rfl⟩
end Go.Proofs.Ytkhkamcmlhmpiaa

/- Minors by sets of rows: the reference's l18Minor. -/
namespace Go.Proofs.Ytkhkamcmlhmpiaa
set_option linter.unusedVariables false
set_option linter.unusedSimpArgs false
open Go.RowKit

set_option maxHeartbeats 3200000 in
set_option maxRecDepth 100000 in
theorem l18Minor_any (u : Value) (n s : Nat) (g : Nat → Nat → Int) (w0 : World) (hn : n ≤ 5) (hs : s ≤ 64) (hg : ∀ a b, -12 ≤ g a b ∧ g a b ≤ 12) (hu : SlII w0 w0.heap.size u (matF n g)) :
    Calls Try.prog 116 #[u, .int .i64 s] w0 fun e w' => ∃ v, e = .returned v ∧ IntssO w' w0.heap.size w'.heap.size v (mnL s n g) ∧ Below w0.heap.size w0 w' := by
  obtain ⟨A, c, rfl, hc1, hc2, _, hx⟩ := hu.open_
  clear hu
  have HX := Lib.hid hx
  have HG := Lib.hid hg
  have HB1 := Lib.hid band1
  rw [matF_length] at hc1 ⊢
  clear hx hg
  obtain ⟨W, hW⟩ : ∃ z, z = w0.alloc (.cells #[] 22) := ⟨_, rfl⟩
  have b1 : Below w0.heap.size w0 W := by rw [hW]; exact below_alloc _ _
  have o1 : IntssO W w0.heap.size W.heap.size (.slice (some ⟨w0.heap.size, 0, none⟩) 0 0) [] := by rw [hW]; exact IntssO.made0 w0 (Nat.le_refl _)
  have s1 := b1.size
  go_enter Try.func116, Try.ntmps116
  go_wp2
  rw [← hW]; clear hW
  go_loopw [5, 6] (fun ov i wr => ∃ k : Nat, k ≤ n ∧ i = .int .i64 k ∧ IntssO wr w0.heap.size wr.heap.size ov (mnTo s n g k) ∧ Below w0.heap.size w0 wr) (fun _ i _ => n - (intOf i).toNat)
  case atStart => exact ⟨0, Nat.zero_le _, rfl, o1, b1⟩
  case round =>
    clear o1 b1 s1
    obtain ⟨k, hk, rfl, hO, hbel⟩ := hrel
    obtain ⟨OA, oc, eo, hoc, hoc2, hol⟩ := hO.form2
    have hlo : (mnTo s n g k).length = (bitL s k).length := by simp [mnTo]
    rw [hlo] at eo hoc
    subst eo
    have hbl := bitL_length s k
    by_cases hlt : k < n
    · obtain ⟨b, o, rfl, hb0⟩ := SlII.addr HX.out (by rw [matF_length]; omega)
      obtain ⟨r, RA, rc, hr0, _, y1, hr, hrc1, hrc2⟩ := SlII.elt HX.out (k := k) (by rw [matF_length]; omega)
      rw [matF_get _ hlt] at hr0
      injection hr0 with hr0
      subst hr0
      rcases hbt : bitT s k with _ | _
      · have h0 := bitT_0 hbt
        have h1 := HB1.out
        rw [show mnTo s n g k = mnTo s n g (k + 1) by rw [mnTo, mnTo, bitL_succ_f hbt]] at hO
        have HO := Lib.hid hO
        have HBE := Lib.hid hbel
        clear hO hbel hbt hlo hr y1
        go_wp2
        clear h0 h1
        go_roundw
        case rel => exact ⟨k + 1, by omega, by go_num, HO.out, HBE.out⟩
        case measure => simp [intOf]; omega
      · have h0 := bitT_1 hbt
        have h1 := HB1.out
        rw [rowF_length] at y1 hrc1
        obtain ⟨b2, o2, rfl, hb2⟩ := SlI.addr hr (by rw [rowF_length]; omega)
        obtain ⟨w1, hw1⟩ : ∃ z, z = wr.alloc (.cells #[] 3) := ⟨_, rfl⟩
        have bw1 : Below wr.heap.size wr w1 := by rw [hw1]; exact below_alloc _ _
        have o2' : IntsO w1 wr.heap.size w1.heap.size (.slice (some ⟨wr.heap.size, 0, none⟩) 0 0) [] := by rw [hw1]; exact IntsO.of_own (OwnI.made _ rfl (Nat.le_refl _))
        have hO1 := hO.below bw1
        have hbel1 := hbel.trans (bw1.mono hbel.size)
        have HR := Lib.hid hr
        have HO := Lib.hid hO1
        have HBE := Lib.hid hbel1
        have HBT := Lib.hid hbt
        have HLO := Lib.hid hlo
        have hws := hbel.size
        have hws1 := bw1.size
        obtain ⟨LO, hLO⟩ : ∃ z, z = wr.heap.size := ⟨_, rfl⟩
        rw [← hLO] at o2' hws hws1
        have HLO2 := Lib.hid hLO
        clear hO hbel hbt hlo hr hO1 hbel1 bw1
        go_wp2
        rw [← hw1]
        rw [← hLO]
        clear hw1 hLO h0 h1
        go_loopw [7, 8] (fun rv i wq => ∃ j : Nat, j ≤ n ∧ i = .int .i64 j ∧ IntsO wq LO wq.heap.size rv ((bitL s j).map (g k)) ∧ Below LO w1 wq) (fun _ i _ => n - (intOf i).toNat)
        case atStart => exact ⟨0, Nat.zero_le _, rfl, o2', Below.refl _ _⟩
        case round =>
          clear o2'
          obtain ⟨j, hj, rfl, hI, hbq⟩ := hrel
          obtain ⟨RV, rv, er, hrv1, hrv2⟩ := hI.1.form
          have hlr : ((bitL s j).map (g k)).length = (bitL s j).length := by simp
          have hbl2 := bitL_length s j
          have hwq := hbq.size
          have hbq2 : Below w0.heap.size w0 wr := HBE.out.trans (hbq.mono (by omega))
          rw [hlr] at er hrv1
          subst er
          by_cases hjn : j < n
          · rcases hbj : bitT s j with _ | _
            · have h0 := bitT_0 hbj
              have h1 := HB1.out
              rw [show (bitL s j).map (g k) = (bitL s (j + 1)).map (g k) by rw [bitL_succ_f hbj]] at hI
              have HI := Lib.hid hI
              have HBQ := Lib.hid hbq
              clear hI hbq hbj hlr hbq2
              go_wp2
              clear h0 h1
              go_roundw
              case rel => exact ⟨j + 1, by omega, by go_num, HI.out, HBQ.out⟩
              case measure => simp [intOf]; omega
            · have h0 := bitT_1 hbj
              have h1 := HB1.out
              obtain ⟨x, hx0, _, x1, _⟩ := SlI.elt HR.out (k := j) (by rw [rowF_length]; omega)
              rw [rowF_get _ hjn] at hx0
              injection hx0 with hx0
              have hgr := HG.out k j
              rw [hx0] at hgr
              have HSX := Lib.hid (show (bitL s (j + 1)).map (g k) = (bitL s j).map (g k) ++ [x] by rw [bitL_succ_t hbj, List.map_append, ← hx0]; rfl)
              have y2 := bcell hbq2 hb0 y1
              have x2 := bcell hbq2 hb2 x1
              have bz := below_alloc wr (.cells #[.int .i64 x] 3)
              have HI2 := Lib.hid (hI.below bz)
              have HB2 := Lib.hid (hbq.trans (bz.mono (by omega)))
              have HLR := Lib.hid hlr
              clear hx0 x1 hI hbq hbj hlr hbq2 bz
              (go_wp2_with (at_builtin; refine Hold.stop ?_)); unfold Hold
              refine wpList_appI rfl (.tmp 33) (.tmp 41) rfl LO _ (.slice RV (bitL s j).length rv) ((bitL s j).map (g k)) rfl HI2.out.1 _ _ _ [x] rfl rfl (SlI.one wr _ _ ⟨by omega, by omega⟩) (by rw [HLR.out]; simp; omega) (by simp; omega) ?_
              intro v9 w9 ho9 hg9 hv9
              rw [← HSX.out] at ho9
              have hbg : Below LO _ w9 := below_grown hg9 (fun k hk => (HI2.out.1.lt k hk).1) (by simp; omega)
              have HBT2 := Lib.hid (HB2.out.trans hbg)
              have HO9 := Lib.hid (IntsO.of_own ho9)
              clear ho9 hg9 hv9 hbg h0 h1 x2 y2
              go_wp2
              go_roundw
              case rel => exact ⟨j + 1, by omega, by go_num, HO9.out, HBT2.out⟩
              case measure => simp [intOf]; omega
          · have hjn' : j = n := by omega
            replace hI : IntsO wr LO wr.heap.size (.slice RV (bitL s j).length rv) ((bitL s n).map (g k)) := by rw [show (bitL s n).map (g k) = (bitL s j).map (g k) by rw [hjn']]; exact hI
            obtain ⟨u, hu, Z, hZ⟩ : ∃ u, u = wr.heap.size ∧ ∃ Z, Z = wr.alloc (.cells #[.slice RV (bitL s j).length rv] 22) := ⟨_, rfl, _, rfl⟩
            have bZ : Below wr.heap.size wr Z := by rw [hZ]; exact below_alloc _ _
            have kZ : Blk Z u 22 #[.slice RV (bitL s j).length rv] := by rw [hZ, hu]; exact Blk.new _ _ _
            have HOZ := Lib.hid ((HO.out.chg (chg_belowB hbq) (.inl (Nat.le_of_eq HLO2.out.symm))).below bZ)
            have HRZ := Lib.hid (hI.below bZ)
            have HBZ := Lib.hid (hbq2.trans (bZ.mono (by have := hbq2.size; omega)))
            have sZ := bZ.size
            have C0 := Lib.hid (kZ.cell' (i := 0) rfl)
            have HU := Lib.hid hu
            have HSN := Lib.hid (show mnTo s n g (k + 1) = mnTo s n g k ++ [(bitL s n).map (g k)] by rw [mnTo, bitL_succ_t HBT.out, List.map_append]; rfl)
            have hb2s := hbq2.size
            clear hI hbq hbq2 bZ kZ hu hjn' hlr
            (go_wp2_with (at_builtin; refine Hold.stop ?_)); unfold Hold
            rw [← HU.out, ← hZ]
            clear hZ
            refine wpList_appR rfl (.tmp 43) (.tmp 45) rfl w0.heap.size LO LO wr.heap.size (.slice OA (bitL s k).length oc) (mnTo s n g k) ((bitL s n).map (g k)) rfl (by rw [HLO2.out]; exact HOZ.out) _ _ (.slice RV (bitL s j).length rv) rfl ⟨u, 0, rfl, C0.out⟩ HRZ.out (Nat.le_refl _) (by omega) (by omega) (by rw [HLO.out]; omega) (by omega) (by omega) ?_
            intro v9 w9 ho9 hb9 _
            rw [← HSN.out] at ho9
            have HO9 := Lib.hid ho9
            have HB9 := Lib.hid (HBZ.out.trans hb9)
            clear ho9 hb9
            go_wp2
            go_roundw
            case rel => exact ⟨k + 1, by omega, by go_num, HO9.out, HB9.out⟩
            case measure => simp [intOf]; omega
    · have hkn : k = n := by omega
      have HO := Lib.hid (show IntssO wr w0.heap.size wr.heap.size (.slice OA (bitL s k).length oc) (mnL s n g) by rw [show mnL s n g = mnTo s n g k by rw [mnL, hkn]]; exact hO)
      clear hO hkn
      go_wp2
      go_ret
      exact ⟨_, rfl, HO.out, hbel⟩
end Go.Proofs.Ytkhkamcmlhmpiaa

/- A row of a matrix of the program, in the matrix's own memory. -/
namespace Go.Proofs.Ytkhkamcmlhmpiaa
set_option linter.unusedVariables false
set_option linter.unusedSimpArgs false
open Go.RowKit

theorem ix_next {i r c P : Nat} (hi : i < r) (hr : r ≤ 1000) (hc : c ≤ 1000) (hP : wrap64 ((i : Int) * (c : Int)) = (P : Int)) :
    P = i * c ∧ wrap64 (((i : Int) + 1) * (c : Int)) = ((P + c : Nat) : Int) ∧ P + c ≤ r * c ∧ P + c ≤ 1000000 := by
  have h1 : (i + 1) * c ≤ r * c := Nat.mul_le_mul_right _ hi
  have h2 : r * c ≤ 1000 * 1000 := Nat.mul_le_mul hr hc
  have h3 : (i + 1) * c = i * c + c := by rw [Nat.add_mul, Nat.one_mul]
  have e1 : P = i * c := by
    rw [show ((i : Int) * (c : Int)) = ((i * c : Nat) : Int) by simp, IntWalk.wrap64_in _ ⟨by omega, by omega⟩] at hP
    omega
  refine ⟨e1, ?_, by omega, by omega⟩
  rw [show (((i : Int) + 1) * (c : Int)) = (((i + 1) * c : Nat) : Int) by simp, h3, ← e1]
  exact IntWalk.wrap64_in _ ⟨by omega, by omega⟩
end Go.Proofs.Ytkhkamcmlhmpiaa

/- Rows of a matrix of the program, as lists. -/
namespace Go.Proofs.Ytkhkamcmlhmpiaa
set_option linter.unusedVariables false
set_option linter.unusedSimpArgs false
open Go.RowKit
def rowsF (r c : Nat) (f : Nat → Nat → Int) : List (List Int) := (List.range r).map fun i => rowF c (f i)
theorem rowsF_length (r c : Nat) (f : Nat → Nat → Int) : (rowsF r c f).length = r := by simp [rowsF]
theorem rowsF_get {r c j : Nat} (f : Nat → Nat → Int) (h : j < r) : (rowsF r c f)[j]? = some (rowF c (f j)) := by simp [rowsF, h]
theorem rowsF_succ (r c : Nat) (f : Nat → Nat → Int) : rowsF (r + 1) c f = rowsF r c f ++ [rowF c (f r)] := by simp [rowsF, List.range_succ]
theorem rowF_mem {c : Nat} {g : Nat → Int} {x : Int} (h : x ∈ rowF c g) : ∃ j, j < c ∧ x = g j := by
  simp only [rowF, List.mem_map, List.mem_range] at h
  obtain ⟨j, hj, rfl⟩ := h
  exact ⟨j, hj, rfl⟩
/-- a stretch of a slice of ints -/
theorem SlI.part {w : World} {B g o n cap P c : Nat} {l l' : List Int} (h : SlI w B (.slice (some ⟨g, o, none⟩) n cap) l) (hn : n = l.length) (hc : P + l'.length ≤ l.length) (hl : ∀ j x, l'[j]? = some x → l[P + j]? = some x) (hcn : c = cap - P) :
    SlI w B (.slice (some ⟨g, o + P, none⟩) l'.length c) l' := by
  subst hn hcn
  obtain ⟨A', c', e, h1, h2, h3, h4⟩ := h
  injection e with e1 e2 e3
  subst e1 e3
  refine ⟨_, _, rfl, by omega, by omega, by omega, fun hp => ?_⟩
  obtain ⟨b, o', e, hb, hx⟩ := h4 (by omega)
  injection e with e
  injection e with e1 e2
  subst e1 e2
  refine ⟨g, o + P, rfl, hb, fun j x hj => ?_⟩
  have := hx (P + j) x (hl j x hj)
  rw [show o + P + j * 1 = o + (P + j) * 1 by omega]
  exact this
end Go.Proofs.Ytkhkamcmlhmpiaa

/- Columns of a matrix of the program, as lists; the matrix of some columns. -/
namespace Go.Proofs.Ytkhkamcmlhmpiaa
set_option linter.unusedVariables false
set_option linter.unusedSimpArgs false
open Go.RowKit

def colK (k : Nat) (f : Nat → Nat → Int) (j i : Nat) : Int := if i < j then f i k else 0
theorem colK_0 (r k : Nat) (f : Nat → Nat → Int) : List.replicate r 0 = rowF r (colK k f 0) := by
  apply List.ext_getElem?
  intro i
  by_cases h : i < r
  · rw [rowF_get _ h]; simp [h, colK]
  · rw [List.getElem?_eq_none (by simp; omega), List.getElem?_eq_none (by rw [rowF_length]; omega)]
theorem colK_succ {r k j : Nat} (f : Nat → Nat → Int) (h : j < r) : (rowF r (colK k f j)).set j (f j k) = rowF r (colK k f (j + 1)) := by
  rw [rowF_set]
  refine rowF_congr fun i _ => ?_
  simp only [colK]
  (repeat' split) <;> first | rfl | omega | (subst_vars; rfl)
theorem colK_r (r k : Nat) (f : Nat → Nat → Int) : rowF r (colK k f r) = rowF r (fun i => f i k) := rowF_congr fun i h => by simp [colK, h]

end Go.Proofs.Ytkhkamcmlhmpiaa

/- The matrix of some columns; the reference's transposed matrix. -/
namespace Go.Proofs.Ytkhkamcmlhmpiaa
set_option linter.unusedVariables false
set_option linter.unusedSimpArgs false
open Go.RowKit

def fcK (f : Nat → Nat → Int) (k i a b : Nat) : Int := if b < k ∨ (b = k ∧ a < i) then f a b else 0
theorem fcK_0 (R K : Nat) (f : Nat → Nat → Int) : flat R K (fun _ _ => 0) = flat R K (fcK f 0 0) := flat_congr fun a b _ _ => by simp [fcK]
theorem fcK_put {R K k i : Nat} (f : Nat → Nat → Int) (hi : i < R) (hk : k < K) : (flat R K (fcK f k i)).set (i * K + k) (f i k) = flat R K (fcK f k (i + 1)) := by
  rw [flat_set _ _ hi hk]
  refine flat_congr fun a b _ _ => ?_
  simp only [fcK]
  (repeat' split) <;> first | rfl | omega | (rename_i h _; rw [h.1, h.2])
theorem fcK_next (R K k : Nat) (f : Nat → Nat → Int) : flat R K (fcK f k R) = flat R K (fcK f (k + 1) 0) := by
  refine flat_congr fun a b ha _ => ?_
  simp only [fcK]
  (repeat' split) <;> first | rfl | omega
theorem fcK_K (R K : Nat) (f : Nat → Nat → Int) : flat R K (fcK f K 0) = flat R K f := flat_congr fun a b _ hb => by simp [fcK, hb]

end Go.Proofs.Ytkhkamcmlhmpiaa

/- The reference's transposed matrix. -/
namespace Go.Proofs.Ytkhkamcmlhmpiaa
set_option linter.unusedVariables false
set_option linter.unusedSimpArgs false
open Go.RowKit

/-- cells of the transposed matrix, filled row by row of the given one -/
def trK (f : Nat → Nat → Int) (i k a b : Nat) : Int := if b < i ∨ (b = i ∧ a < k) then f b a else 0
theorem trK_0 (r c : Nat) (f : Nat → Nat → Int) : flat c r (fun _ _ => 0) = flat c r (trK f 0 0) := flat_congr fun a b _ _ => by simp [trK]
theorem trK_put {r c i k : Nat} (f : Nat → Nat → Int) (hi : i < r) (hk : k < c) : (flat c r (trK f i k)).set (k * r + i) (f i k) = flat c r (trK f i (k + 1)) := by
  rw [flat_set _ _ hk hi]
  refine flat_congr fun a b _ _ => ?_
  simp only [trK]
  (repeat' split) <;> first | rfl | omega | (rename_i h _; rw [h.1, h.2])
theorem trK_next (r c i : Nat) (f : Nat → Nat → Int) : flat c r (trK f i c) = flat c r (trK f (i + 1) 0) := by
  refine flat_congr fun a b ha _ => ?_
  simp only [trK]
  (repeat' split) <;> first | rfl | omega
theorem trK_r (r c : Nat) (f : Nat → Nat → Int) : flat c r (trK f r 0) = flat c r (fun a b => f b a) := flat_congr fun a b _ hb => by simp [trK, hb]

end Go.Proofs.Ytkhkamcmlhmpiaa

/- Matrices beside each other and below each other: the program's. -/
namespace Go.Proofs.Ytkhkamcmlhmpiaa
set_option linter.unusedVariables false
set_option linter.unusedSimpArgs false
open Go.RowKit

/-- a beside b: the first c columns are a's -/
def bsF (c : Nat) (f g : Nat → Nat → Int) (a b : Nat) : Int := if b < c then f a b else g a (b - c)
/-- a above b -/
def blF (r : Nat) (f g : Nat → Nat → Int) (a b : Nat) : Int := if a < r then f a b else g (a - r) b
theorem rowsF_app (r s c : Nat) (f g : Nat → Nat → Int) : rowsF r c f ++ rowsF s c g = rowsF (r + s) c (blF r f g) := by
  apply List.ext_getElem?
  intro i
  by_cases h1 : i < r
  · rw [List.getElem?_append_left (by rw [rowsF_length]; exact h1), rowsF_get _ h1, rowsF_get _ (by omega)]
    congr 1
    exact rowF_congr fun b _ => by simp [blF, h1]
  · rw [List.getElem?_append_right (by rw [rowsF_length]; omega), rowsF_length]
    by_cases h2 : i < r + s
    · rw [rowsF_get _ (by omega), rowsF_get _ h2]
      congr 1
      exact rowF_congr fun b _ => by simp [blF, h1]
    · rw [List.getElem?_eq_none (by rw [rowsF_length]; omega), List.getElem?_eq_none (by rw [rowsF_length]; omega)]
theorem colsF_app (r c d : Nat) (f g : Nat → Nat → Int) : rowsF c r (fun a b => f b a) ++ rowsF d r (fun a b => g b a) = rowsF (c + d) r (fun a b => bsF c f g b a) := rowsF_app c d r _ _

/-- append of one list of rows onto another of the call's own -/
theorem wpList_appSS {w : World} {ops : Array Oper} {rest : List Oper} {o : Oper} {a : Act} {Q : Exit → Act → World → Prop} (hgd : o.guard = none) (s x : Operand)
    (ho : o.op = .call { callee := .builtin .append, args := #[s, x], argTypes := #[37, 37] })
    (lo hi lo' hi' : Nat) (v v2 : Value) (l1 l2 : List (List Int)) (hs : a.eval s = v) (hown : IntssO w lo hi v l1) (hx : a.eval x = v2) (hown2 : IntssO w lo' hi' v2 l2) (hd : hi ≤ lo' ∨ hi' ≤ lo)
    (hn : l1.length + l2.length ≤ 1048576) (hlo : lo ≤ w.heap.size) (hhi : hi ≤ w.heap.size)
    (h : ∀ v' w', SlII w' w'.heap.size v' (l1 ++ l2) → Below lo w w' → wpList Try.prog ops Q rest (a.put o.dst v') w') : wpList Try.prog ops Q (o :: rest) a w := by
  obtain ⟨vs1, o1, e1, F1⟩ := hown
  obtain ⟨vs2, o2, e2, F2⟩ := hown2
  obtain ⟨A2, c2, ev2, _, _⟩ := o2.form
  subst ev2
  obtain ⟨i0, hi0, hz0, hz1, hz2⟩ := info_parts infoInts
  have hrd2 := o2
  refine wpList_append_G w hgd s x _ ho lo 22 i0 _ 1 24 Try.underlying37 hi0 hz0 hz1 hz2 rfl (by decide) v vs1.length _ hs o1.1 A2 vs2.length c2 vs2 hx ?_ ?_ (by simp only [maxLen]; omega) (by omega) hlo fun v' w' h1 h2 h3 => ?_
  · refine ⟨by simp, ?_⟩
    rcases Nat.eq_zero_or_pos vs2.length with h0 | h0
    · exact .inl h0
    · rcases o2.1.2 with ⟨e, h1⟩ | ⟨g, cap, cur, e, _, hg, hnc, hcm, hcs, htake⟩
      · omega
      · injection e with ea eb ec
        refine .inr ⟨g, 0, ea, fun j u hj => ?_⟩
        have hc := o2.1
        rw [ea] at hc
        have := hc.cellAt j (by have := lt_of_some hj; omega)
        rw [Nat.zero_add, this, hj]
  · intro u hu
    obtain ⟨j, hj⟩ := List.getElem?_of_mem hu
    have hjl := lt_of_some hj
    have hm := F2.1 (u, l2[j]'(by omega)) (by rw [List.mem_iff_getElem?]; exact ⟨j, by rw [List.getElem?_zip_eq_some]; exact ⟨hj, List.getElem?_eq_getElem _⟩⟩)
    obtain ⟨A, c, e⟩ := hm.form
    rw [show u = _ from e]
    rfl
  · have ho' : OutO w' lo w'.heap.size v' (vs1 ++ vs2) := ⟨by simpa using h1, fun k hk => (h1.lt k hk).2, by simp; omega⟩
    refine h v' w' (OutO.rd ho' (by simp [e1, e2]) fun p hp => ?_) (below_grown h2 (fun k hk => (o1.1.lt k hk).1) hlo)
    rw [List.zip_append e1] at hp
    rcases List.mem_append.1 hp with hp | hp
    · exact ((Fam.grownO F1 o1.1 h2).1 p hp).rd
    · exact ((Fam.grownO F2 o1.1 h2).1 p hp).rd
end Go.Proofs.Ytkhkamcmlhmpiaa

/- slices.Concat at []int, and the matrix of some rows. -/
namespace Go.Proofs
open Go.Shelf
def Try.laysGrow_ren : Go.Shelf.Ren := ⟨fun | 4 => 157 | n => n, fun | 22 => 22 | 25 => 3 | 3 => 3 | 4 => 4 | 9 => 9 | 20 => 20 | 0 => 0 | n => n, fun | n => n⟩
theorem Try.laysGrow : Go.Proofs.Lays8.n4 Try.prog Try.laysGrow_ren := {
  mixed := by kernel_rfl
  f4 := ⟨Try.f157.name, by decide, Try.func157.trans (congrArg some (by kernel_rfl))⟩
  t0 := Try.underlying0
  a0 := Try.isAgg0
  z0 := Try.sizeOf0
  v0 := Try.zeroValue0
  t3 := Try.underlying3
  a3 := Try.isAgg3
  z3 := Try.sizeOf3
  v3 := Try.zeroValue3
  t4 := Try.underlying4
  a4 := Try.isAgg4
  z4 := Try.sizeOf4
  v4 := Try.zeroValue4
  t9 := Try.underlying9
  a9 := Try.isAgg9
  z9 := Try.sizeOf9
  v9 := Try.zeroValue9
  t20 := Try.underlying20
  a20 := Try.isAgg20
  z20 := Try.sizeOf20
  v20 := Try.zeroValue20
  t22 := Try.underlying22
  a22 := Try.isAgg22
  z22 := Try.sizeOf22
  v22 := Try.zeroValue22 }
end Go.Proofs
namespace Go.Proofs.Ytkhkamcmlhmpiaa
set_option linter.unusedVariables false
set_option linter.unusedSimpArgs false
open Go.RowKit

theorem grow_any (n : Nat) (w : World) (hn : n ≤ 1000000) :
    Calls Try.prog 157 #[.slice none 0 0, .int .i64 n] w fun e w' => ∃ v, e = .returned v ∧ OwnI w' w.heap.size v [] ∧ Below w.heap.size w w' := by
  rcases Nat.eq_zero_or_pos n with rfl | h0
  · exact (Any8.slices_Grow_room Try.laysGrow none 0 0 0 w (by omega) (by omega) (by omega) (by omega)).mono fun e w' ⟨h1, h2⟩ => ⟨_, h1, OwnI.nil _ _, by rw [h2]; exact Below.refl _ _⟩
  · obtain ⟨i0, hi, hz0, hz1, hz2⟩ := info_parts infoInt
    have hG : Calls Try.prog 157 #[.slice none 0 0, .int .i64 n] w fun e w' => e = .returned (.slice (some ⟨w.heap.size, 0, none⟩) 0 (grownCap w (0 + n) 0 3)) ∧
        w' = w.drew.alloc (.cells (([] : List Value).toArray ++ Builtin.zeroCells (Value.int .i64 0).cells (0 + n - 0) ++ Builtin.zeroCells (Value.int .i64 0).cells (grownCap w (0 + n) 0 3 - (0 + n))) 3) :=
      Any8.slices_Grow_grow Try.laysGrow i0 _ hi hz0 (by omega) none 0 0 n [] w (by omega) (by omega) (by rw [hz2]; omega) (by omega) (by simp) (fun _ => rfl) (fun a h => by cases h)
    rw [Nat.zero_add, Nat.sub_zero] at hG
    refine hG.mono fun e w' ⟨h1, h2⟩ => ⟨_, h1, ?_, ?_⟩
    · rw [h2]
      have hg := grownCap_ge w n 0 3
      have hm := grownCap_le_maxLen w n 0 3 (by simp only [maxLen]; omega)
      refine ⟨⟨by simp, .inr ⟨w.heap.size, grownCap w n 0 3, _, rfl, Nat.le_refl _, Blk.new _ _ _, Nat.zero_le _, hm, ?_, by simp⟩⟩, by simp, by simp⟩
      have hz : (Value.int .i64 0).cells.size = 1 := rfl
      simp only [Array.size_append, size_zeroCells, List.size_toArray, List.length_nil, hz, Nat.mul_one]
      omega
    · rw [h2]
      exact bthen (drew_below w) (below_alloc _ _)

theorem flatten_len_take (ll : List (List Int)) (k : Nat) : (ll.take k).flatten.length ≤ ll.flatten.length := by
  have : ll = ll.take k ++ ll.drop k := (List.take_append_drop k ll).symm
  have h2 := congrArg (fun x => (List.flatten x).length) this
  simp only [List.flatten_append, List.length_append] at h2
  omega
set_option maxHeartbeats 1600000 in
theorem concat_any (u : Value) (ll : List (List Int)) (w : World) (hu : SlII w w.heap.size u ll) (hn : ll.length ≤ 1000000) (ht : ll.flatten.length ≤ 1000000) :
    Calls Try.prog 142 #[u] w fun e w' => ∃ v, e = .returned v ∧ IntsO w' w.heap.size w'.heap.size v ll.flatten ∧ Below w.heap.size w w' := by
  obtain ⟨A, c, rfl, _, _, _, hx⟩ := hu.open_
  clear hu
  have HX := Lib.hid hx
  have HT := Lib.hid ht
  obtain ⟨n, hnl⟩ : ∃ n, ll.length = n := ⟨_, rfl⟩
  have HNL := Lib.hid hnl
  rw [hnl] at hn ⊢
  clear hx ht hnl
  go_enter Try.func142, Try.ntmps142
  go_wp2
  go_loopw [3, 11] (fun s i wr => ∃ k : Nat, k ≤ n ∧ i = .int .i64 k ∧ s = .int .i64 ((ll.take k).flatten.length : Nat) ∧ w = wr) (fun _ i _ => n - (intOf i).toNat)
  case atStart => exact ⟨0, Nat.zero_le _, rfl, by simp, rfl⟩
  case round =>
    obtain ⟨k, hk, rfl, rfl, rfl⟩ := hrel
    have hle := flatten_len_take ll k
    have hle2 := flatten_len_take ll (k + 1)
    have ht := HT.out
    obtain ⟨s, hs⟩ : ∃ s, (ll.take k).flatten.length = s := ⟨_, rfl⟩
    by_cases hlt : k < n
    · rw [hs] at hle ⊢
      have hx := HX.out
      rw [← HNL.out] at hlt
      obtain ⟨b, o, l, LA, lc, rfl, hb, HL, x1, hl⟩ := SlII.at_ hx hlt
      rw [HNL.out] at hlt
      have e1 : (ll.take (k + 1)).flatten.length = s + l.length := by rw [take_snoc HL.out, List.flatten_append, List.length_append, hs]; simp
      rw [e1] at hle2
      have hsl : s + l.length ≤ 1000000 := by omega
      have E1 := Lib.hid e1
      clear hs e1 ht hle hle2 hx HL hl hb
      go_wp2
      go_roundw
      case rel => exact ⟨k + 1, by omega, by go_num, by rw [E1.out]; go_num, by first | rfl | trivial⟩
      case measure => simp [intOf]; omega
    · obtain rfl : k = n := by omega
      have e0 : ll.take k = ll := List.take_of_length_le (by have := HNL.out; omega)
      rw [e0] at hs ⊢
      rw [hs] at ht ⊢
      clear hle hle2 e0
      have HS := Lib.hid hs
      clear hs
      go_wp2_with fail
      refine (grow_any s _ (by omega)).mono ?_; rintro e w1 ⟨v, rfl, ho, hb1⟩
      obtain ⟨OA, oc, rfl, _, _⟩ := ho.form
      have gw := hb1
      go_wp2
      go_loopw [6, 27] (fun out i wr => ∃ j : Nat, j ≤ k ∧ i = .int .i64 j ∧ OwnI wr w.heap.size out (ll.take j).flatten ∧ Below w.heap.size w wr) (fun _ i _ => k - (intOf i).toNat)
      case atStart => exact ⟨0, Nat.zero_le _, rfl, by simpa using ho, hb1⟩
      case round =>
        clear ho hb1 gw
        obtain ⟨j, hj, rfl, ho, hb1⟩ := hrel
        have gs := hb1.size
        by_cases hlj : j < k
        · have hx := HX.out
          rw [← HNL.out] at hlj
          obtain ⟨b, o, l, LA, lc, rfl, hb, HL, x1, hl⟩ := SlII.at_ hx hlj
          rw [HNL.out] at hlj
          have x2 := bcell hb1 hb x1
          have hl2 : SlI wr w.heap.size (.slice LA l.length lc) l := SlI.below hb1 hl
          have e1 : (ll.take (j + 1)).flatten = (ll.take j).flatten ++ l := by rw [take_snoc HL.out, List.flatten_append]; simp
          have hle2 := flatten_len_take ll (j + 1)
          rw [e1, List.length_append, HS.out] at hle2
          have E1 := Lib.hid e1
          obtain ⟨OB, ob, rfl, _, _⟩ := ho.form
          have HO := Lib.hid ho
          have HL2 := Lib.hid hl2
          have HLE := Lib.hid hle2
          have GW := Lib.hid hb1
          have hlo2 := HO.out.lt
          clear e1 hx hl hl2 HL x1 ho hle2 hb1
          (go_wp2_with (at_builtin; refine Hold.stop ?_)); unfold Hold
          refine wpList_appI rfl (.tmp 31) (.tmp 32) rfl w.heap.size w.heap.size _ _ rfl HO.out LA l.length lc l rfl rfl HL2.out (by have := HLE.out; omega) gs ?_
          intro v' w' h1 h2 h3
          rw [← E1.out] at h1
          have g2 := (GW.out).trans (below_grown h2 (fun k hk => (hlo2 k hk).1) gs)
          have H1 := Lib.hid h1
          have G2 := Lib.hid g2
          clear h1 h2 h3 g2 hlo2
          go_wp2
          go_roundw
          case rel => exact ⟨j + 1, by omega, by go_num, H1.out, G2.out⟩
          case measure => simp [intOf]; omega
        · obtain rfl : j = k := by omega
          have e0 : ll.take j = ll := List.take_of_length_le (by have := HNL.out; omega)
          rw [e0] at ho
          have HO := Lib.hid ho
          clear ho e0
          go_wp2
          go_ret
          exact ⟨_, rfl, IntsO.of_own HO.out, hb1⟩

theorem rowsF_flatten (r c : Nat) (f : Nat → Nat → Int) : (rowsF r c f).flatten = flat r c f := by
  induction r with
  | zero => simp [rowsF, flat]
  | succ r ih =>
    rw [rowsF_succ, List.flatten_append, ih]
    refine flat_ext (by simp [flat_length, rowF_length, Nat.add_mul]) fun i k hi hk => ?_
    rw [List.getElem?_append]
    by_cases h : i < r
    · rw [if_pos (by rw [flat_length]; exact ix_lt h hk), flat_get f h hk]
    · obtain rfl : i = r := by omega
      rw [if_neg (by rw [flat_length]; omega), flat_length, show i * c + k - i * c = k by omega]
      simp [rowF_get _ hk]
end Go.Proofs.Ytkhkamcmlhmpiaa

/- Determinants by the first row: the program's. -/
namespace Go.Proofs.Ytkhkamcmlhmpiaa
set_option linter.unusedVariables false
set_option linter.unusedSimpArgs false
open Go.RowKit

set_option maxHeartbeats 3200000 in
set_option maxRecDepth 100000 in
theorem determinant_any : ∀ (n : Nat), n ≤ 5 → ∀ (u : Value) (m : List (List Int)) (w0 : World), SlII w0 w0.heap.size u m → Sq n m →
    Calls Try.prog 118 #[u] w0 fun e w' => e = .returned (.int .i64 (detL n m)) ∧ Below w0.heap.size w0 w'
  | 0, _, u, m, w0, hu, hs => by
    obtain ⟨A, c, rfl, _, _, _, _⟩ := hu.open_
    obtain rfl : m = [] := List.eq_nil_of_length_eq_zero hs.len
    clear hu
    go_enter Try.func118, Try.ntmps118
    go_wp2
    go_ret
    exact ⟨rfl, Below.refl _ _⟩
  | n + 1, hn, u, m, w0, hu, hs => by
    have ih := determinant_any n (by omega)
    obtain ⟨A, c, rfl, hc1, hc2, _, hx⟩ := hu.open_
    clear hu
    have hl := hs.len
    obtain ⟨b, o, rfl, hb⟩ := SlII.addr hx (by omega)
    obtain ⟨r0, A0, c0, e0, _, x0, hr0, _, _⟩ := SlII.elt hx (k := 0) (by omega)
    have hr0l := hs.row _ (List.mem_of_getElem? e0)
    obtain ⟨b0, o0, rfl, hb0⟩ := SlI.addr hr0 (by omega)
    have HR0 := Lib.hid hr0
    have HX := Lib.hid hx
    have HL := Lib.hid hl
    have HS := Lib.hid hs
    have HE0 := Lib.hid e0
    have HRL := Lib.hid hr0l
    have IH := Lib.hid ih
    rw [hl] at hc1 ⊢
    rw [hr0l, Nat.add_zero] at x0
    have HDL := Lib.hid (show detL (n + 1) m = detS n m (n + 1) from rfl)
    clear ih hr0 hx hl hs e0 hr0l
    have hne0 : (((n : Int) + 1) == 0) = false := by rw [beq_eq_false_iff_ne]; omega
    go_enter Try.func118, Try.ntmps118
    go_wp2
    go_loopw [3, 4, 17] (fun s g i wr => ∃ (k : Nat) (T S : Int), k ≤ n + 1 ∧ i = .int .i64 k ∧ s = .int .i64 T ∧ g = .int .i64 S ∧ Hid (T = detS n m k) ∧ Hid (S = sgK k) ∧ Below w0.heap.size w0 wr) (fun _ _ i _ => n + 1 - (intOf i).toNat)
    case atStart => exact ⟨0, 0, 1, Nat.zero_le _, rfl, rfl, rfl, rfl, rfl, Below.refl _ _⟩
    case round =>
      obtain ⟨k, T, S, hk, rfl, rfl, rfl, HT, HSG, hbel⟩ := hrel
      by_cases hlt : k < n + 1
      · obtain ⟨X, hX0, _, x1, _⟩ := SlI.elt HR0.out (k := k) (by rw [HRL.out]; exact hlt)
        have x2 := bcell hbel hb0 x1
        clear x1
        have hXr : -12 ≤ X ∧ X ≤ 12 := by
          obtain ⟨r, h1, h2, h3, h4⟩ := HS.out.fst hlt
          rw [HE0.out] at h1
          injection h1 with h1
          subst h1
          rw [hX0] at h3
          injection h3 with h3
          subst h3
          exact h4
        have HXF : Hid (fst0 m k = X) := by
          show _ = _
          rw [fst0, List.getD_eq_getElem?_getD, List.getD_eq_getElem?_getD, HE0.out, Option.getD_some, hX0]; rfl
        have hSr : -1 ≤ S ∧ S ≤ 1 := by
          have := sgK_or k
          rw [← HSG.out] at this
          omega
        have hTr := detS_rng HS.out hk (by omega)
        rw [← (HT.out : T = _)] at hTr
        have HSQ := Lib.hid (HS.out.mnr (k := k) (by omega))
        have hbel2 := hbel
        clear hX0 hbel
        by_cases hcc : c = 1
        · have HMIN : Hid (SlII wr wr.heap.size (.slice none 0 0) (mnr k m)) := by
            show SlII _ _ _ _
            have hln := HL.out
            rw [show mnr k m = [] from List.eq_nil_of_length_eq_zero (by simp [mnr]; omega)]
            exact SlG.nil
          subst hcc
          go_wp2
          refine wp_loop_rounds 1 ?_
          rw [rounds_succ]
          go_wp2_with fail
          refine (IH.out _ (mnr k m) _ HMIN.out HSQ.out).mono ?_; rintro e w6 ⟨rfl, hb6⟩
          obtain ⟨D, hD⟩ : ∃ z, detL n (mnr k m) = z := ⟨_, rfl⟩
          have hDr := det_rng HSQ.out
          have hDB := dB_5 (show n ≤ 5 by omega)
          rw [hD] at hDr ⊢
          have HD := Lib.hid hD
          have HW := Lib.hid (show Below w0.heap.size w0 w6 from hbel2.trans (hb6.mono hbel2.size))
          clear hD hb6 hbel2
          go_wp2
          go_roundw
          case rel =>
            have h1 := abs_mul (A := 1) (B := 12) (show -1 ≤ S ∧ S ≤ 1 by omega) hXr
            have h2 := abs_mul (A := 12) (B := 29859840) (a := S * X) (b := D) (by omega) (by omega)
            refine ⟨k + 1, _, _, by omega, by go_num, rfl, rfl, ?_, ?_, HW.out⟩
            · show _ = _
              rw [detS_succ, HD.out, ← HSG.out, ← HT.out, HXF.out]
              rw [IntWalk.wrap64_in (S * X) ⟨by omega, by omega⟩, IntWalk.wrap64_in (S * X * D) ⟨by omega, by omega⟩, IntWalk.wrap64_in (T + S * X * D) ⟨by omega, by omega⟩]
            · show _ = _
              rw [sgK_succ, ← HSG.out]
          case measure => simp [intOf]; omega
        · have hdk : decide ((k : Int) < (n : Int) + 1) = true := decide_eq_true (by omega)
          go_wp2
          clear x2 hdk
          obtain ⟨w1, hw1⟩ : ∃ z, z = wr := ⟨_, rfl⟩
          subst hw1
          go_loopw [7, 25] (fun ov i wq => ∃ j : Nat, j ≤ n ∧ i = .int .i64 j ∧ IntssO wq w1.heap.size wq.heap.size ov ((m.tail.take j).map (cutR k)) ∧ Below w1.heap.size w1 wq) (fun _ i _ => n - (intOf i).toNat)
          case atStart => exact ⟨0, Nat.zero_le _, rfl, by simpa using IntssO.nil w1 _ _, Below.refl _ _⟩
          case round =>
            obtain ⟨j, hj, rfl, hO, hbq⟩ := hrel
            obtain ⟨OA, oc, eo, hoc, hoc2, hol⟩ := hO.form2
            have hlo : ((m.tail.take j).map (cutR k)).length = j := by rw [List.length_map, List.length_take, List.length_tail, HL.out]; omega
            rw [hlo] at eo hoc
            subst eo
            have hbq2 : Below w0.heap.size w0 wr := hbel2.trans (hbq.mono hbel2.size)
            by_cases hjn : j < n
            · obtain ⟨r, RA, rc, hr0, _, y1, hr, hrc1, hrc2⟩ := SlII.elt HX.out (k := j + 1) (by rw [HL.out]; omega)
              have hrl := HS.out.row _ (List.mem_of_getElem? hr0)
              obtain ⟨br, or, rfl, hbr⟩ := SlI.addr hr (by omega)
              have y2 := bcell hbq2 hb y1
              have HR := Lib.hid (SlI.more hbq2.size (SlI.below hbq2 hr))
              have HRL2 := Lib.hid hrl
              rw [hrl] at y2 hrc1
              rw [show o + (j + 1) = o + 1 + j by omega] at y2
              have hrt : m.tail[j]? = some r := by rw [List.getElem?_tail]; exact hr0
              have HSN := Lib.hid (show (m.tail.take (j + 1)).map (cutR k) = (m.tail.take j).map (cutR k) ++ [cutR k r] by rw [take_snoc hrt, List.map_append]; rfl)
              have HO := Lib.hid hO
              have HBQ := Lib.hid hbq
              have HLO := Lib.hid hlo
              clear hr y1 hrl hrt hO hbq hr0 hlo
              go_wp2
              clear y2
              obtain ⟨wA, hwA⟩ : ∃ z, z = wr := ⟨_, rfl⟩
              subst hwA
              refine wp_region_net (by kernel_rfl) [.eq (.slice OA j oc), .eq (.slice (some ⟨br, or, none⟩) (n + 1) rc), .eq (.int .i64 k), .eq (.slice (some ⟨br, or, none⟩) k rc), .eq (.slice (some ⟨br, or, none⟩) (n + 1) rc), .eq (.int .i64 k), .eq (.int .i64 ((k : Int) + 1)), rel 7 (fun u lo hi w => SlI w w.heap.size u (r.drop (k + 1))), rel 8 (fun u lo hi w => SlII w w.heap.size u [r.take k, r.drop (k + 1)]), rel 9 (fun u lo hi w => IntsO w lo hi u (cutR k r)), .rel (fun x w => ∃ g, x.v 10 = .slice (some ⟨g, 0, none⟩) 1 1 ∧ Blk w g 22 #[x.v 9])] [[], [], [], [1, 2], [], [], [5], [4, 5, 6], [1, 2, 3, 4, 5, 6, 7], [1, 2, 3, 4, 5, 6, 7, 8], [1, 2, 3, 4, 5, 6, 7, 8, 9], [0, 1, 2, 3, 4, 5, 6, 7, 8, 9, 10], [0, 1, 2, 3, 4, 5, 6, 7, 8, 9, 10, 11]] 11 (by kernel_rfl) ⟨trivial, trivial, trivial, trivial, trivial, trivial, trivial, rel_stable (fun u lo hi w w' h hb => SlI.next hb h), rel_stable (fun u lo hi w w' h hb => SlII.next hb h), rel_stable (fun u lo hi w w' h hb => h.below hb), fun x w w' ⟨g, e, h⟩ hb => ⟨g, e, h.call hb⟩, trivial⟩ ⟨?_, ?_, ?_, ?_, ?_, ?_, ?_, ?_, ?_, ?_, ?_, trivial⟩ ?_
              · intro x w hb hk Q' hQ
                clear hk
                simp only [netAct, dstAt, List.getElem?_toArray, List.getElem?_cons_zero, List.getElem?_cons_succ, Option.bind_some, Act.put, List.setIfInBounds_toArray, List.set_cons_zero, List.set_cons_succ] at hQ ⊢
                go_wp2
                exact hQ (.slice OA j oc) _ (Below.refl _ _) rfl
              · intro x w hb hk Q' hQ
                clear hk
                simp only [netAct, dstAt, List.getElem?_toArray, List.getElem?_cons_zero, List.getElem?_cons_succ, Option.bind_some, Act.put, List.setIfInBounds_toArray, List.set_cons_zero, List.set_cons_succ] at hQ ⊢
                go_wp2
                exact hQ (.slice (some ⟨br, or, none⟩) (n + 1) rc) _ (Below.refl _ _) rfl
              · intro x w hb hk Q' hQ
                clear hk
                simp only [netAct, dstAt, List.getElem?_toArray, List.getElem?_cons_zero, List.getElem?_cons_succ, Option.bind_some, Act.put, List.setIfInBounds_toArray, List.set_cons_zero, List.set_cons_succ] at hQ ⊢
                go_wp2
                exact hQ (.int .i64 k) _ (Below.refl _ _) rfl
              · intro x w hb hk Q' hQ
                have h1 : x.v 1 = .slice (some ⟨br, or, none⟩) (n + 1) rc := (hk 1 (by decide)).1
                have h2 : x.v 2 = .int .i64 k := (hk 2 (by decide)).1
                clear hk
                simp only [netAct, dstAt, List.getElem?_toArray, List.getElem?_cons_zero, List.getElem?_cons_succ, Option.bind_some, Act.put, List.setIfInBounds_toArray, List.set_cons_zero, List.set_cons_succ] at hQ ⊢
                simp only [h1, h2] at hQ ⊢
                clear h1 h2
                go_wp2
                exact hQ (.slice (some ⟨br, or, none⟩) k rc) _ (Below.refl _ _) rfl
              · intro x w hb hk Q' hQ
                clear hk
                simp only [netAct, dstAt, List.getElem?_toArray, List.getElem?_cons_zero, List.getElem?_cons_succ, Option.bind_some, Act.put, List.setIfInBounds_toArray, List.set_cons_zero, List.set_cons_succ] at hQ ⊢
                go_wp2
                exact hQ (.slice (some ⟨br, or, none⟩) (n + 1) rc) _ (Below.refl _ _) rfl
              · intro x w hb hk Q' hQ
                clear hk
                simp only [netAct, dstAt, List.getElem?_toArray, List.getElem?_cons_zero, List.getElem?_cons_succ, Option.bind_some, Act.put, List.setIfInBounds_toArray, List.set_cons_zero, List.set_cons_succ] at hQ ⊢
                go_wp2
                exact hQ (.int .i64 k) _ (Below.refl _ _) rfl
              · intro x w hb hk Q' hQ
                have h5 : x.v 5 = .int .i64 k := (hk 5 (by decide)).1
                clear hk
                simp only [netAct, dstAt, List.getElem?_toArray, List.getElem?_cons_zero, List.getElem?_cons_succ, Option.bind_some, Act.put, List.setIfInBounds_toArray, List.set_cons_zero, List.set_cons_succ] at hQ ⊢
                simp only [h5] at hQ ⊢
                clear h5
                go_wp2
                exact hQ (.int .i64 ((k : Int) + 1)) _ (Below.refl _ _) rfl
              · intro x w hb hk Q' hQ
                have h4 : x.v 4 = .slice (some ⟨br, or, none⟩) (n + 1) rc := (hk 4 (by decide)).1
                have h5 : x.v 5 = .int .i64 k := (hk 5 (by decide)).1
                have h6 : x.v 6 = .int .i64 ((k : Int) + 1) := (hk 6 (by decide)).1
                clear hk
                simp only [netAct, dstAt, List.getElem?_toArray, List.getElem?_cons_zero, List.getElem?_cons_succ, Option.bind_some, Act.put, List.setIfInBounds_toArray, List.set_cons_zero, List.set_cons_succ] at hQ ⊢
                simp only [h4, h5, h6] at hQ ⊢
                clear h4 h5 h6
                have hR2 := SlI.more hb.size (SlI.below hb HR.out)
                have hD2 := SlI.dropS (k := k + 1) hR2 (by rw [HRL2.out]; omega)
                rw [HRL2.out] at hD2
                by_cases hrc : rc = k + 1
                · have hz : r.drop (k + 1) = [] := by rw [List.drop_of_length_le (by rw [HRL2.out]; omega)]
                  have hz2 : SlI w w.heap.size (.slice (some ⟨br, or, none⟩) 0 0) (r.drop (k + 1)) := by rw [hz]; exact SlI.zeroS (by omega)
                  have HZ := Lib.hid hz2
                  have HN := Lib.hid (show n + 1 - (k + 1) = 0 by omega)
                  have hn0 : n ≤ k := by omega
                  clear hz hz2 hD2 hR2
                  subst hrc
                  go_wp2
                  first | exact hQ _ _ (Below.refl _ _) HZ.out | (have := HN.out; simp only [this] at *; exact hQ _ _ (Below.refl _ _) HZ.out)
                · have HD2 := Lib.hid hD2
                  clear hD2 hR2
                  go_wp2
                  have HD3 : SlI w w.heap.size (.slice (some ⟨br, or + (k + 1), none⟩) (n - k) (rc - (k + 1))) (r.drop (k + 1)) := by rw [show n - k = n + 1 - (k + 1) by omega]; exact HD2.out
                  exact hQ _ _ (Below.refl _ _) HD3
              · intro x w hb hk Q' hQ
                have h1 : x.v 1 = .slice (some ⟨br, or, none⟩) (n + 1) rc := (hk 1 (by decide)).1
                have h2 : x.v 2 = .int .i64 k := (hk 2 (by decide)).1
                have h3 : x.v 3 = .slice (some ⟨br, or, none⟩) k rc := (hk 3 (by decide)).1
                have h4 : x.v 4 = .slice (some ⟨br, or, none⟩) (n + 1) rc := (hk 4 (by decide)).1
                have h5 : x.v 5 = .int .i64 k := (hk 5 (by decide)).1
                have h6 : x.v 6 = .int .i64 ((k : Int) + 1) := (hk 6 (by decide)).1
                have h7 : SlI w w.heap.size (x.v 7) (r.drop (k + 1)) := (hk 7 (by decide)).1
                have s7 := (hk 7 (by decide)).2
                clear hk
                simp only [netAct, dstAt, List.getElem?_toArray, List.getElem?_cons_zero, List.getElem?_cons_succ, Option.bind_some, Act.put, List.setIfInBounds_toArray, List.set_cons_zero, List.set_cons_succ] at hQ ⊢
                simp only [h1, h2, h3, h4, h5, h6] at hQ ⊢
                clear h1 h2 h3 h4 h5 h6
                have hR2 := SlI.more hb.size (SlI.below hb HR.out)
                have hT2 := SlI.takeS (k := k) hR2 (by rw [HRL2.out]; omega)
                have h8 := SlII.two (t := 22) hT2 h7
                have hq2 := hQ (.slice (some ⟨w.heap.size, 0, none⟩) 2 2) (w.alloc (.cells #[.slice (some ⟨br, or, none⟩) k rc, x.v 7] 22)) (below_alloc _ _) h8
                obtain ⟨A7, c7, e7⟩ := h7.form2
                obtain ⟨DN, hDN⟩ : ∃ z, (r.drop (k + 1)).length = z := ⟨_, rfl⟩
                rw [hDN] at e7
                rw [e7] at hq2 ⊢
                clear hT2 h8 hR2 h7 e7 hDN
                go_wp2
                exact hq2
              · intro x w hb hk Q' hQ
                have h1 : x.v 1 = .slice (some ⟨br, or, none⟩) (n + 1) rc := (hk 1 (by decide)).1
                have h2 : x.v 2 = .int .i64 k := (hk 2 (by decide)).1
                have h3 : x.v 3 = .slice (some ⟨br, or, none⟩) k rc := (hk 3 (by decide)).1
                have h4 : x.v 4 = .slice (some ⟨br, or, none⟩) (n + 1) rc := (hk 4 (by decide)).1
                have h5 : x.v 5 = .int .i64 k := (hk 5 (by decide)).1
                have h6 : x.v 6 = .int .i64 ((k : Int) + 1) := (hk 6 (by decide)).1
                have h7 : SlI w w.heap.size (x.v 7) (r.drop (k + 1)) := (hk 7 (by decide)).1
                have h8 : SlII w w.heap.size (x.v 8) [r.take k, r.drop (k + 1)] := (hk 8 (by decide)).1
                have s7 := (hk 7 (by decide)).2
                have s8 := (hk 8 (by decide)).2
                clear hk
                simp only [netAct, dstAt, List.getElem?_toArray, List.getElem?_cons_zero, List.getElem?_cons_succ, Option.bind_some, Act.put, List.setIfInBounds_toArray, List.set_cons_zero, List.set_cons_succ] at hQ ⊢
                simp only [h1, h2, h3, h4, h5, h6] at hQ ⊢
                clear h1 h2 h3 h4 h5 h6
                go_wp2_with fail
                refine (concat_any _ _ _ h8 (by simp) (by simp; rw [HRL2.out]; omega)).mono ?_; rintro e w5 ⟨v5, rfl, hI5, hb5⟩
                go_wp2
                have hI6 : IntsO w5 w.heap.size w5.heap.size v5 (cutR k r) := by simpa [cutR] using hI5
                exact hQ _ _ hb5 hI6
              · intro x w hb hk Q' hQ
                have h1 : x.v 1 = .slice (some ⟨br, or, none⟩) (n + 1) rc := (hk 1 (by decide)).1
                have h2 : x.v 2 = .int .i64 k := (hk 2 (by decide)).1
                have h3 : x.v 3 = .slice (some ⟨br, or, none⟩) k rc := (hk 3 (by decide)).1
                have h4 : x.v 4 = .slice (some ⟨br, or, none⟩) (n + 1) rc := (hk 4 (by decide)).1
                have h5 : x.v 5 = .int .i64 k := (hk 5 (by decide)).1
                have h6 : x.v 6 = .int .i64 ((k : Int) + 1) := (hk 6 (by decide)).1
                have h7 : SlI w w.heap.size (x.v 7) (r.drop (k + 1)) := (hk 7 (by decide)).1
                have h8 : SlII w w.heap.size (x.v 8) [r.take k, r.drop (k + 1)] := (hk 8 (by decide)).1
                have h9 : IntsO w (x.lo 9) (x.hi 9) (x.v 9) (cutR k r) := (hk 9 (by decide)).1
                have s7 := (hk 7 (by decide)).2
                have s8 := (hk 8 (by decide)).2
                have s9 := (hk 9 (by decide)).2
                clear hk
                simp only [netAct, dstAt, List.getElem?_toArray, List.getElem?_cons_zero, List.getElem?_cons_succ, Option.bind_some, Act.put, List.setIfInBounds_toArray, List.set_cons_zero, List.set_cons_succ] at hQ ⊢
                simp only [h1, h2, h3, h4, h5, h6] at hQ ⊢
                clear h1 h2 h3 h4 h5 h6
                obtain ⟨A9, c9, e9⟩ := h9.form
                have hq2 := hQ (.slice (some ⟨w.heap.size, 0, none⟩) 1 1) (w.alloc (.cells #[x.v 9] 22)) (below_alloc _ _) ⟨w.heap.size, rfl, Blk.new w 22 #[x.v 9]⟩
                rw [e9] at hq2 ⊢
                clear h9 e9
                go_wp2
                exact hq2
              · intro x w hb hk hiv hdj
                have h0 : x.v 0 = .slice OA j oc := hk 0 (by decide)
                have h1 : x.v 1 = .slice (some ⟨br, or, none⟩) (n + 1) rc := hk 1 (by decide)
                have h2 : x.v 2 = .int .i64 k := hk 2 (by decide)
                have h3 : x.v 3 = .slice (some ⟨br, or, none⟩) k rc := hk 3 (by decide)
                have h4 : x.v 4 = .slice (some ⟨br, or, none⟩) (n + 1) rc := hk 4 (by decide)
                have h5 : x.v 5 = .int .i64 k := hk 5 (by decide)
                have h6 : x.v 6 = .int .i64 ((k : Int) + 1) := hk 6 (by decide)
                have h7 : SlI w w.heap.size (x.v 7) (r.drop (k + 1)) := hk 7 (by decide)
                have h8 : SlII w w.heap.size (x.v 8) [r.take k, r.drop (k + 1)] := hk 8 (by decide)
                have h9 : IntsO w (x.lo 9) (x.hi 9) (x.v 9) (cutR k r) := hk 9 (by decide)
                have h10 : ∃ g, x.v 10 = .slice (some ⟨g, 0, none⟩) 1 1 ∧ Blk w g 22 #[x.v 9] := hk 10 (by decide)
                clear hk
                simp only [netAct, dstAt, List.getElem?_toArray, List.getElem?_cons_zero, List.getElem?_cons_succ, Option.bind_some, Act.put, List.setIfInBounds_toArray, List.set_cons_zero, List.set_cons_succ]
                simp only [List.drop_succ_cons, List.drop_zero, h0, h1, h2, h3, h4, h5, h6]
                clear h0 h1 h2 h3 h4 h5 h6
                obtain ⟨g, e10, k10⟩ := h10
                obtain ⟨i9a, i9b, i9c⟩ := hiv 9 (by decide)
                rw [e10]
                have c10 := k10.cell' (i := 0) rfl
                have hws := hb.size
                have hO2 := HO.out.below hb
                have HBQ2 := Lib.hid (HBQ.out.trans (hb.mono HBQ.out.size))
                have hw1 := HBQ.out.size
                refine wpList_appR rfl (.tmp 29) (.tmp 39) rfl w1.heap.size wA.heap.size (x.lo 9) (x.hi 9) (.slice OA j oc) _ (cutR k r) rfl hO2 _ _ (x.v 9) rfl ⟨g, 0, rfl, c10⟩ h9 (by omega) (by omega) (by omega) (by rw [HLO.out]; omega) (by omega) (by omega) ?_
                intro v9 w9 ho9 hb9 _
                rw [← HSN.out] at ho9
                have HO9 := Lib.hid ho9
                have HB9 := Lib.hid (HBQ2.out.trans hb9)
                clear ho9 hb9 hO2 hb hiv hdj e10 k10 c10 h9 HBQ2
                go_wp2
                go_roundw
                case rel => exact ⟨j + 1, by omega, by go_num, HO9.out, HB9.out⟩
                case measure => simp [intOf]; omega
            · have hjn' : j = n := by omega
              have e1 : (m.tail.take j).map (cutR k) = mnr k m := by rw [List.take_of_length_le (by rw [List.length_tail, HL.out]; omega)]; rfl
              rw [e1] at hO
              have HMIN := Lib.hid hO.rd
              have hbel3 := hbq2
              clear hbel2 hO hbq hbq2 hlo e1 hjn'
              have hbel2 := hbel3
              clear hbel3
              go_wp2_with fail
              refine (IH.out _ (mnr k m) _ HMIN.out HSQ.out).mono ?_; rintro e w6 ⟨rfl, hb6⟩
              obtain ⟨D, hD⟩ : ∃ z, detL n (mnr k m) = z := ⟨_, rfl⟩
              have hDr := det_rng HSQ.out
              have hDB := dB_5 (show n ≤ 5 by omega)
              rw [hD] at hDr ⊢
              have HD := Lib.hid hD
              have HW := Lib.hid (show Below w0.heap.size w0 w6 from hbel2.trans (hb6.mono hbel2.size))
              clear hD hb6 hbel2
              go_wp2
              go_roundw
              case rel =>
                have h1 := abs_mul (A := 1) (B := 12) (show -1 ≤ S ∧ S ≤ 1 by omega) hXr
                have h2 := abs_mul (A := 12) (B := 29859840) (a := S * X) (b := D) (by omega) (by omega)
                refine ⟨k + 1, _, _, by omega, by go_num, rfl, rfl, ?_, ?_, HW.out⟩
                · show _ = _
                  rw [detS_succ, HD.out, ← HSG.out, ← HT.out, HXF.out]
                  rw [IntWalk.wrap64_in (S * X) ⟨by omega, by omega⟩, IntWalk.wrap64_in (S * X * D) ⟨by omega, by omega⟩, IntWalk.wrap64_in (T + S * X * D) ⟨by omega, by omega⟩]
                · show _ = _
                  rw [sgK_succ, ← HSG.out]
              case measure => simp [intOf]; omega
      · have hkn : k = n + 1 := by omega
        have HTE := Lib.hid (show T = detL (n + 1) m by rw [HDL.out, HT.out, hkn])
        clear hkn
        go_wp2
        go_ret
        exact ⟨by rw [← HTE.out]; rfl, hbel⟩
end Go.Proofs.Ytkhkamcmlhmpiaa

/- Determinants by the first row: the reference's. -/
namespace Go.Proofs.Ytkhkamcmlhmpiaa
set_option linter.unusedVariables false
set_option linter.unusedSimpArgs false
open Go.RowKit

set_option maxHeartbeats 6400000 in
set_option maxRecDepth 100000 in
theorem l18Det_any : ∀ (n : Nat), n ≤ 5 → ∀ (u : Value) (m : List (List Int)) (w0 : World), SlII w0 w0.heap.size u m → Sq n m →
    Calls Try.prog 115 #[u] w0 fun e w' => e = .returned (.int .i64 (detL n m)) ∧ Below w0.heap.size w0 w'
  | 0, _, u, m, w0, hu, hs => by
    obtain ⟨A, c, rfl, _, _, _, _⟩ := hu.open_
    obtain rfl : m = [] := List.eq_nil_of_length_eq_zero hs.len
    clear hu
    go_enter Try.func115, Try.ntmps115
    go_wp2
    go_ret
    exact ⟨rfl, Below.refl _ _⟩
  | n + 1, hn, u, m, w0, hu, hs => by
    have ih := l18Det_any n (by omega)
    obtain ⟨A, c, rfl, hc1, hc2, _, hx⟩ := hu.open_
    clear hu
    have hl := hs.len
    obtain ⟨b, o, rfl, hb0⟩ := SlII.addr hx (by omega)
    have HX := Lib.hid hx
    have HL := Lib.hid hl
    have HS := Lib.hid hs
    have IH := Lib.hid ih
    rw [hl] at hc1 ⊢
    have HDL := Lib.hid (show detL (n + 1) m = detS n m (n + 1) from rfl)
    clear ih hx hl hs
    have hne0 : (((n : Int) + 1) == 0) = false := by rw [beq_eq_false_iff_ne]; omega
    go_enter Try.func115, Try.ntmps115
    go_wp2
    go_loopw [3, 4, 5] (fun s g i wr => ∃ (k : Nat) (T S : Int), k ≤ n + 1 ∧ i = .int .i64 k ∧ s = .int .i64 T ∧ g = .int .i64 S ∧ Hid (T = detS n m k) ∧ Hid (S = sgK k) ∧ Below w0.heap.size w0 wr) (fun _ _ i _ => n + 1 - (intOf i).toNat)
    case atStart => exact ⟨0, 0, 1, Nat.zero_le _, rfl, rfl, rfl, rfl, rfl, Below.refl _ _⟩
    case round =>
      obtain ⟨k, T, S, hk, rfl, rfl, rfl, HT, HSG, hbel⟩ := hrel
      by_cases hlt : k < n + 1
      · obtain ⟨r0, A0, c0, e0, _, x0, hr0, _, _⟩ := SlII.elt HX.out (k := 0) (by rw [HL.out]; omega)
        have hr0l := HS.out.row _ (List.mem_of_getElem? e0)
        obtain ⟨b0, o0, rfl, hb00⟩ := SlI.addr hr0 (by omega)
        obtain ⟨X, hX0, _, x1, _⟩ := SlI.elt hr0 (k := k) (by omega)
        have hXr : -12 ≤ X ∧ X ≤ 12 := by
          obtain ⟨r, h1, h2, h3, h4⟩ := HS.out.fst hlt
          rw [e0] at h1
          injection h1 with h1
          subst h1
          rw [hX0] at h3
          injection h3 with h3
          subst h3
          exact h4
        have HXF : Hid (fst0 m k = X) := by
          show _ = _
          rw [fst0, List.getD_eq_getElem?_getD, List.getD_eq_getElem?_getD, e0, Option.getD_some, hX0]; rfl
        have hSr : -1 ≤ S ∧ S ≤ 1 := by
          have := sgK_or k
          rw [← HSG.out] at this
          omega
        have hTr := detS_rng HS.out hk (by omega)
        rw [← (HT.out : T = _)] at hTr
        have HSQ := Lib.hid (HS.out.mnr (k := k) (by omega))
        rw [hr0l, Nat.add_zero] at x0
        have hbel2 := hbel
        have hb2s := hbel2.size
        obtain ⟨w1, hw1⟩ : ∃ z, z = wr.alloc (.cells #[] 22) := ⟨_, rfl⟩
        have b1 : Below wr.heap.size wr w1 := by rw [hw1]; exact below_alloc _ _
        have o1 : IntssO w1 wr.heap.size w1.heap.size (.slice (some ⟨wr.heap.size, 0, none⟩) 0 0) [] := by rw [hw1]; exact IntssO.made0 wr (Nat.le_refl _)
        have s1 := b1.size
        have hbel3 := hbel2.trans (b1.mono hb2s)
        have HB2 := Lib.hid hbel2
        obtain ⟨LO, hLO⟩ : ∃ z, z = wr.heap.size := ⟨_, rfl⟩
        have hdk : decide ((k : Int) < (n : Int) + 1) = true := decide_eq_true (by omega)
        clear e0 hr0 hr0l hX0 hbel hbel2
        go_wp2
        rw [← hw1]
        rw [← hLO] at o1 s1 hb2s ⊢
        clear hw1 hLO b1 hdk
        go_loopw [6, 7] (fun ov i wq => ∃ j i' : Nat, j ≤ n ∧ i = .int .i64 i' ∧ Hid (i' = j + 1) ∧ IntssO wq LO wq.heap.size ov ((m.tail.take j).map (cutR k)) ∧ Below LO w1 wq) (fun _ i _ => n + 1 - (intOf i).toNat)
        case atStart => exact ⟨0, 1, Nat.zero_le _, rfl, rfl, by simpa using o1, Below.refl _ _⟩
        case round =>
          clear o1
          obtain ⟨j, i, hj, rfl, HI, hO, hbq⟩ := hrel
          obtain ⟨OA, oc, eo, hoc, hoc2, hol⟩ := hO.form2
          have hlo : ((m.tail.take j).map (cutR k)).length = j := by rw [List.length_map, List.length_take, List.length_tail, HL.out]; omega
          rw [hlo] at eo hoc
          subst eo
          have hbq2 : Below w0.heap.size w0 wr := hbel3.trans (hbq.mono (by omega))
          have hi1 : i ≤ j + 1 := Nat.le_of_eq HI.out
          have hi2 : j + 1 ≤ i := Nat.le_of_eq HI.out.symm
          have hqs := hbq.size
          by_cases hjn : i < n + 1
          · obtain ⟨r, RA, rc, hr0, _, y1, hr, hrc1, hrc2⟩ := SlII.elt HX.out (k := i) (by rw [HL.out]; omega)
            have hrl := HS.out.row _ (List.mem_of_getElem? hr0)
            obtain ⟨br, or, rfl, hbr⟩ := SlI.addr hr (by omega)
            have y2 := bcell hbq2 hb0 y1
            have HR := Lib.hid (SlI.more hbq2.size (SlI.below hbq2 hr))
            have HRL2 := Lib.hid hrl
            rw [hrl] at y2 hrc1
            have hrt : m.tail[j]? = some r := by rw [List.getElem?_tail, ← HI.out]; exact hr0
            have HSN := Lib.hid (show (m.tail.take (j + 1)).map (cutR k) = (m.tail.take j).map (cutR k) ++ [cutR k r] by rw [take_snoc hrt, List.map_append]; rfl)
            have HO := Lib.hid hO
            have HBQ := Lib.hid hbq
            have HLO := Lib.hid hlo
            clear hr y1 hrl hrt hO hbq hr0 hlo
            go_wp2
            obtain ⟨wA, hwA⟩ : ∃ z, z = wr := ⟨_, rfl⟩
            subst hwA
            refine wp_region_netC (by kernel_rfl) [.eq (.slice OA j oc), rel 1 (fun u lo hi w => Fresh w wA.heap.size u), .eq (.slice (some ⟨b, o, none⟩) (n + 1) c), .eq (.int .i64 i), .eq (.pointer (some ⟨b, o + i, none⟩)), .eq (.slice (some ⟨br, or, none⟩) (n + 1) rc), .eq (.int .i64 k), .eq (.slice (some ⟨br, or, none⟩) k rc), rel 8 (fun u lo hi w => OwnI w wA.heap.size u (r.take k)), .eq (.slice (some ⟨b, o, none⟩) (n + 1) c), .eq (.int .i64 i), .eq (.pointer (some ⟨b, o + i, none⟩)), .eq (.slice (some ⟨br, or, none⟩) (n + 1) rc), .eq (.int .i64 k), .eq (.int .i64 ((k : Int) + 1)), rel 15 (fun u lo hi w => wA.heap.size ≤ w.heap.size ∧ SlI w wA.heap.size u (r.drop (k + 1))), rel 16 (fun u lo hi w => OwnI w wA.heap.size u (cutR k r)), .rel (fun x w => ∃ g, x.v 17 = .slice (some ⟨g, 0, none⟩) 1 1 ∧ Blk w g 22 #[x.v 16])] [[], [], [], [], [2, 3], [2, 3, 4], [], [2, 3, 4, 5, 6], [1, 2, 3, 4, 5, 6, 7], [], [], [9, 10], [9, 10, 11], [], [13], [9, 10, 11, 12, 13, 14], [1, 2, 3, 4, 5, 6, 7, 8, 9, 10, 11, 12, 13, 14, 15], [1, 2, 3, 4, 5, 6, 7, 8, 9, 10, 11, 12, 13, 14, 15, 16], [0, 1, 2, 3, 4, 5, 6, 7, 8, 9, 10, 11, 12, 13, 14, 15, 16, 17], [0, 1, 2, 3, 4, 5, 6, 7, 8, 9, 10, 11, 12, 13, 14, 15, 16, 17, 18]] [[], [], [], [], [2, 3], [2, 3, 4], [], [2, 3, 4, 5, 6], [1, 2, 3, 4, 5, 6, 7], [], [], [9, 10], [9, 10, 11], [], [13], [9, 10, 11, 12, 13, 14], [1, 2, 3, 4, 5, 6, 7, 8, 9, 10, 11, 12, 13, 14, 15], [2, 3, 4, 5, 6, 7, 9, 10, 11, 12, 13, 14, 16]] [0, 2, 3, 4, 5, 6, 7, 9, 10, 11, 12, 13, 14, 16, 17] 18 16 (by kernel_rfl) (by kernel_rfl) ⟨.inr (.inr ⟨_, rfl⟩), .inr (.inr ⟨_, rfl⟩), .inr (.inr ⟨_, rfl⟩), .inr (.inr ⟨_, rfl⟩), .inr (.inr ⟨_, rfl⟩), .inr (.inr ⟨_, rfl⟩), .inr (.inr ⟨_, rfl⟩), .inr (.inr ⟨_, rfl⟩), .inr (.inr ⟨_, rfl⟩), .inr (.inr ⟨_, rfl⟩), .inr (.inr ⟨_, rfl⟩), .inr (.inr ⟨_, rfl⟩), .inr (.inr ⟨_, rfl⟩), .inl rfl, .inr (.inl rfl), trivial⟩ ⟨trivial, rel_stable (fun u lo hi w w' h hb => h.below hb), trivial, trivial, trivial, trivial, trivial, trivial, rel_stable (fun u lo hi w w' h hb => h.below hb), trivial, trivial, trivial, trivial, trivial, trivial, rel_stable (fun u lo hi w w' ⟨h1, h2⟩ hb => ⟨Nat.le_trans h1 hb.size, SlI.below (hb.mono h1) h2⟩), rel_stable (fun u lo hi w w' h hb => h.below hb), fun x w w' ⟨g, e, h⟩ hb => ⟨g, e, h.call hb⟩, trivial⟩ ⟨?_, ?_, ?_, ?_, ?_, ?_, ?_, ?_, ?_, ?_, ?_, ?_, ?_, ?_, ?_, ?_, ?_, ?_, trivial⟩ ?_
            · intro x w hb hk Q' hQ
              clear hk
              simp only [netAct, dstAt, List.getElem?_toArray, List.getElem?_cons_zero, List.getElem?_cons_succ, Option.bind_some, Act.put, List.setIfInBounds_toArray, List.set_cons_zero, List.set_cons_succ] at hQ ⊢
              go_wp2
              exact hQ (.slice OA j oc) _ (Below.refl _ _) rfl
            · intro x w hb hk Q' hQ
              clear hk
              simp only [netAct, dstAt, List.getElem?_toArray, List.getElem?_cons_zero, List.getElem?_cons_succ, Option.bind_some, Act.put, List.setIfInBounds_toArray, List.set_cons_zero, List.set_cons_succ] at hQ ⊢
              go_wp2
              exact hQ _ _ (below_alloc _ _) (Fresh.new _ hb.size)
            · intro x w hb hk Q' hQ
              clear hk
              simp only [netAct, dstAt, List.getElem?_toArray, List.getElem?_cons_zero, List.getElem?_cons_succ, Option.bind_some, Act.put, List.setIfInBounds_toArray, List.set_cons_zero, List.set_cons_succ] at hQ ⊢
              go_wp2
              exact hQ (.slice (some ⟨b, o, none⟩) (n + 1) c) _ (Below.refl _ _) rfl
            · intro x w hb hk Q' hQ
              clear hk
              simp only [netAct, dstAt, List.getElem?_toArray, List.getElem?_cons_zero, List.getElem?_cons_succ, Option.bind_some, Act.put, List.setIfInBounds_toArray, List.set_cons_zero, List.set_cons_succ] at hQ ⊢
              go_wp2
              exact hQ (.int .i64 i) _ (Below.refl _ _) rfl
            · intro x w hb hk Q' hQ
              have h2 : x.v 2 = .slice (some ⟨b, o, none⟩) (n + 1) c := (hk 2 (by decide)).1
              have h3 : x.v 3 = .int .i64 i := (hk 3 (by decide)).1
              clear hk
              simp only [netAct, dstAt, List.getElem?_toArray, List.getElem?_cons_zero, List.getElem?_cons_succ, Option.bind_some, Act.put, List.setIfInBounds_toArray, List.set_cons_zero, List.set_cons_succ] at hQ ⊢
              simp only [h2, h3] at hQ ⊢
              clear h2 h3
              go_wp2
              exact hQ (.pointer (some ⟨b, o + i, none⟩)) _ (Below.refl _ _) rfl
            · intro x w hb hk Q' hQ
              have h4 : x.v 4 = .pointer (some ⟨b, o + i, none⟩) := (hk 4 (by decide)).1
              clear hk
              simp only [netAct, dstAt, List.getElem?_toArray, List.getElem?_cons_zero, List.getElem?_cons_succ, Option.bind_some, Act.put, List.setIfInBounds_toArray, List.set_cons_zero, List.set_cons_succ] at hQ ⊢
              simp only [h4] at hQ ⊢
              clear h4
              have q0 := bcell hb (show b < wA.heap.size by omega) y2
              go_wp2
              exact hQ (.slice (some ⟨br, or, none⟩) (n + 1) rc) _ (Below.refl _ _) rfl
            · intro x w hb hk Q' hQ
              clear hk
              simp only [netAct, dstAt, List.getElem?_toArray, List.getElem?_cons_zero, List.getElem?_cons_succ, Option.bind_some, Act.put, List.setIfInBounds_toArray, List.set_cons_zero, List.set_cons_succ] at hQ ⊢
              go_wp2
              exact hQ (.int .i64 k) _ (Below.refl _ _) rfl
            · intro x w hb hk Q' hQ
              have h5 : x.v 5 = .slice (some ⟨br, or, none⟩) (n + 1) rc := (hk 5 (by decide)).1
              have h6 : x.v 6 = .int .i64 k := (hk 6 (by decide)).1
              clear hk
              simp only [netAct, dstAt, List.getElem?_toArray, List.getElem?_cons_zero, List.getElem?_cons_succ, Option.bind_some, Act.put, List.setIfInBounds_toArray, List.set_cons_zero, List.set_cons_succ] at hQ ⊢
              simp only [h5, h6] at hQ ⊢
              clear h5 h6
              go_wp2
              exact hQ (.slice (some ⟨br, or, none⟩) k rc) _ (Below.refl _ _) rfl
            · intro x w hb hk Q' hQ
              have h1 : Fresh w wA.heap.size (x.v 1) := (hk 1 (by decide)).1
              have h2 : x.v 2 = .slice (some ⟨b, o, none⟩) (n + 1) c := (hk 2 (by decide)).1
              have h3 : x.v 3 = .int .i64 i := (hk 3 (by decide)).1
              have h4 : x.v 4 = .pointer (some ⟨b, o + i, none⟩) := (hk 4 (by decide)).1
              have h5 : x.v 5 = .slice (some ⟨br, or, none⟩) (n + 1) rc := (hk 5 (by decide)).1
              have h6 : x.v 6 = .int .i64 k := (hk 6 (by decide)).1
              have h7 : x.v 7 = .slice (some ⟨br, or, none⟩) k rc := (hk 7 (by decide)).1
              have s1 := (hk 1 (by decide)).2
              clear hk
              simp only [netAct, dstAt, List.getElem?_toArray, List.getElem?_cons_zero, List.getElem?_cons_succ, Option.bind_some, Act.put, List.setIfInBounds_toArray, List.set_cons_zero, List.set_cons_succ] at hQ ⊢
              simp only [h2, h3, h4, h5, h6, h7] at hQ ⊢
              clear h2 h3 h4 h5 h6 h7
              obtain ⟨g7, e7, hg7, hB7⟩ := h1
              have hT2 := SlI.takeS (k := k) (SlI.below hb HR.out) (by rw [HRL2.out]; omega)
              have hk2 : (r.take k).length = k := by rw [List.length_take, HRL2.out]; omega
              rw [e7] at hQ ⊢
              refine wpList_append_fresh (by rfl) (.tmp 25) (.tmp 31) (by rfl) g7 wA.heap.size wA.heap.size #[] (by rfl) hB7 rfl hg7 _ _ (r.take k) (by rw [hk2]; rfl) (by rw [hk2]; exact hT2) ?_
              intro v' w' ho hb'
              exact hQ _ _ hb' ho
            · intro x w hb hk Q' hQ
              clear hk
              simp only [netAct, dstAt, List.getElem?_toArray, List.getElem?_cons_zero, List.getElem?_cons_succ, Option.bind_some, Act.put, List.setIfInBounds_toArray, List.set_cons_zero, List.set_cons_succ] at hQ ⊢
              go_wp2
              exact hQ (.slice (some ⟨b, o, none⟩) (n + 1) c) _ (Below.refl _ _) rfl
            · intro x w hb hk Q' hQ
              clear hk
              simp only [netAct, dstAt, List.getElem?_toArray, List.getElem?_cons_zero, List.getElem?_cons_succ, Option.bind_some, Act.put, List.setIfInBounds_toArray, List.set_cons_zero, List.set_cons_succ] at hQ ⊢
              go_wp2
              exact hQ (.int .i64 i) _ (Below.refl _ _) rfl
            · intro x w hb hk Q' hQ
              have h9 : x.v 9 = .slice (some ⟨b, o, none⟩) (n + 1) c := (hk 9 (by decide)).1
              have h10 : x.v 10 = .int .i64 i := (hk 10 (by decide)).1
              clear hk
              simp only [netAct, dstAt, List.getElem?_toArray, List.getElem?_cons_zero, List.getElem?_cons_succ, Option.bind_some, Act.put, List.setIfInBounds_toArray, List.set_cons_zero, List.set_cons_succ] at hQ ⊢
              simp only [h9, h10] at hQ ⊢
              clear h9 h10
              go_wp2
              exact hQ (.pointer (some ⟨b, o + i, none⟩)) _ (Below.refl _ _) rfl
            · intro x w hb hk Q' hQ
              have h11 : x.v 11 = .pointer (some ⟨b, o + i, none⟩) := (hk 11 (by decide)).1
              clear hk
              simp only [netAct, dstAt, List.getElem?_toArray, List.getElem?_cons_zero, List.getElem?_cons_succ, Option.bind_some, Act.put, List.setIfInBounds_toArray, List.set_cons_zero, List.set_cons_succ] at hQ ⊢
              simp only [h11] at hQ ⊢
              clear h11
              have q0 := bcell hb (show b < wA.heap.size by omega) y2
              go_wp2
              exact hQ (.slice (some ⟨br, or, none⟩) (n + 1) rc) _ (Below.refl _ _) rfl
            · intro x w hb hk Q' hQ
              clear hk
              simp only [netAct, dstAt, List.getElem?_toArray, List.getElem?_cons_zero, List.getElem?_cons_succ, Option.bind_some, Act.put, List.setIfInBounds_toArray, List.set_cons_zero, List.set_cons_succ] at hQ ⊢
              go_wp2
              exact hQ (.int .i64 k) _ (Below.refl _ _) rfl
            · intro x w hb hk Q' hQ
              have h13 : x.v 13 = .int .i64 k := (hk 13 (by decide)).1
              clear hk
              simp only [netAct, dstAt, List.getElem?_toArray, List.getElem?_cons_zero, List.getElem?_cons_succ, Option.bind_some, Act.put, List.setIfInBounds_toArray, List.set_cons_zero, List.set_cons_succ] at hQ ⊢
              simp only [h13] at hQ ⊢
              clear h13
              go_wp2
              exact hQ (.int .i64 ((k : Int) + 1)) _ (Below.refl _ _) rfl
            · intro x w hb hk Q' hQ
              have h9 : x.v 9 = .slice (some ⟨b, o, none⟩) (n + 1) c := (hk 9 (by decide)).1
              have h10 : x.v 10 = .int .i64 i := (hk 10 (by decide)).1
              have h11 : x.v 11 = .pointer (some ⟨b, o + i, none⟩) := (hk 11 (by decide)).1
              have h12 : x.v 12 = .slice (some ⟨br, or, none⟩) (n + 1) rc := (hk 12 (by decide)).1
              have h13 : x.v 13 = .int .i64 k := (hk 13 (by decide)).1
              have h14 : x.v 14 = .int .i64 ((k : Int) + 1) := (hk 14 (by decide)).1
              clear hk
              simp only [netAct, dstAt, List.getElem?_toArray, List.getElem?_cons_zero, List.getElem?_cons_succ, Option.bind_some, Act.put, List.setIfInBounds_toArray, List.set_cons_zero, List.set_cons_succ] at hQ ⊢
              simp only [h9, h10, h11, h12, h13, h14] at hQ ⊢
              clear h9 h10 h11 h12 h13 h14
              have hbz := hb.size
              have hR2 := SlI.below hb HR.out
              have hD2 := SlI.dropS (k := k + 1) hR2 (by rw [HRL2.out]; omega)
              rw [HRL2.out] at hD2
              by_cases hrc : rc = k + 1
              · have hz : r.drop (k + 1) = [] := by rw [List.drop_of_length_le (by rw [HRL2.out]; omega)]
                have hz2 : SlI w wA.heap.size (.slice (some ⟨br, or, none⟩) 0 0) (r.drop (k + 1)) := by rw [hz]; exact SlI.zeroS (by omega)
                have HZ := Lib.hid hz2
                have HN := Lib.hid (show n + 1 - (k + 1) = 0 by omega)
                have hn0 : n ≤ k := by omega
                clear hz hz2 hD2 hR2
                subst hrc
                go_wp2
                first | exact hQ _ _ (Below.refl _ _) ⟨hbz, HZ.out⟩ | (have := HN.out; simp only [this] at *; exact hQ _ _ (Below.refl _ _) ⟨hbz, HZ.out⟩)
              · have HD2 := Lib.hid hD2
                clear hD2 hR2
                go_wp2
                have HD3 : SlI w wA.heap.size (.slice (some ⟨br, or + (k + 1), none⟩) (n - k) (rc - (k + 1))) (r.drop (k + 1)) := by rw [show n - k = n + 1 - (k + 1) by omega]; exact HD2.out
                exact hQ _ _ (Below.refl _ _) ⟨hbz, HD3⟩
            · intro x w hb hk Q' hQ
              have h1 : Fresh w wA.heap.size (x.v 1) := (hk 1 (by decide)).1
              have h2 : x.v 2 = .slice (some ⟨b, o, none⟩) (n + 1) c := (hk 2 (by decide)).1
              have h3 : x.v 3 = .int .i64 i := (hk 3 (by decide)).1
              have h4 : x.v 4 = .pointer (some ⟨b, o + i, none⟩) := (hk 4 (by decide)).1
              have h5 : x.v 5 = .slice (some ⟨br, or, none⟩) (n + 1) rc := (hk 5 (by decide)).1
              have h6 : x.v 6 = .int .i64 k := (hk 6 (by decide)).1
              have h7 : x.v 7 = .slice (some ⟨br, or, none⟩) k rc := (hk 7 (by decide)).1
              have h8 : OwnI w wA.heap.size (x.v 8) (r.take k) := (hk 8 (by decide)).1
              have h9 : x.v 9 = .slice (some ⟨b, o, none⟩) (n + 1) c := (hk 9 (by decide)).1
              have h10 : x.v 10 = .int .i64 i := (hk 10 (by decide)).1
              have h11 : x.v 11 = .pointer (some ⟨b, o + i, none⟩) := (hk 11 (by decide)).1
              have h12 : x.v 12 = .slice (some ⟨br, or, none⟩) (n + 1) rc := (hk 12 (by decide)).1
              have h13 : x.v 13 = .int .i64 k := (hk 13 (by decide)).1
              have h14 : x.v 14 = .int .i64 ((k : Int) + 1) := (hk 14 (by decide)).1
              have h15 : wA.heap.size ≤ w.heap.size ∧ SlI w wA.heap.size (x.v 15) (r.drop (k + 1)) := (hk 15 (by decide)).1
              have s1 := (hk 1 (by decide)).2
              have s8 := (hk 8 (by decide)).2
              have s15 := (hk 15 (by decide)).2
              clear hk
              simp only [netAct, dstAt, List.getElem?_toArray, List.getElem?_cons_zero, List.getElem?_cons_succ, Option.bind_some, Act.put, List.setIfInBounds_toArray, List.set_cons_zero, List.set_cons_succ] at hQ ⊢
              simp only [h2, h3, h4, h5, h6, h7, h9, h10, h11, h12, h13, h14] at hQ ⊢
              clear h2 h3 h4 h5 h6 h7 h9 h10 h11 h12 h13 h14
              obtain ⟨_, h15⟩ := h15
              obtain ⟨DA, dc, e15⟩ := h15.form2
              rw [e15] at h15
              have hlo := h8.lt
              refine wpList_appI (by rfl) (.tmp 32) (.tmp 39) (by rfl) wA.heap.size wA.heap.size _ _ (by rfl) h8 DA _ dc (r.drop (k + 1)) (by show x.v 15 = _; exact e15) rfl h15 (by rw [List.length_take, List.length_drop, HRL2.out]; omega) hb.size ?_
              intro v' w' h1 h2 h3
              exact hQ v' w' (below_grown h2 (fun k hk => (hlo k hk).1) hb.size) h1
            · intro x w hb hk Q' hQ
              have h2 : x.v 2 = .slice (some ⟨b, o, none⟩) (n + 1) c := (hk 2 (by decide)).1
              have h3 : x.v 3 = .int .i64 i := (hk 3 (by decide)).1
              have h4 : x.v 4 = .pointer (some ⟨b, o + i, none⟩) := (hk 4 (by decide)).1
              have h5 : x.v 5 = .slice (some ⟨br, or, none⟩) (n + 1) rc := (hk 5 (by decide)).1
              have h6 : x.v 6 = .int .i64 k := (hk 6 (by decide)).1
              have h7 : x.v 7 = .slice (some ⟨br, or, none⟩) k rc := (hk 7 (by decide)).1
              have h9 : x.v 9 = .slice (some ⟨b, o, none⟩) (n + 1) c := (hk 9 (by decide)).1
              have h10 : x.v 10 = .int .i64 i := (hk 10 (by decide)).1
              have h11 : x.v 11 = .pointer (some ⟨b, o + i, none⟩) := (hk 11 (by decide)).1
              have h12 : x.v 12 = .slice (some ⟨br, or, none⟩) (n + 1) rc := (hk 12 (by decide)).1
              have h13 : x.v 13 = .int .i64 k := (hk 13 (by decide)).1
              have h14 : x.v 14 = .int .i64 ((k : Int) + 1) := (hk 14 (by decide)).1
              have h16 : OwnI w wA.heap.size (x.v 16) (cutR k r) := (hk 16 (by decide)).1
              have s16 := (hk 16 (by decide)).2
              clear hk
              simp only [netAct, dstAt, List.getElem?_toArray, List.getElem?_cons_zero, List.getElem?_cons_succ, Option.bind_some, Act.put, List.setIfInBounds_toArray, List.set_cons_zero, List.set_cons_succ] at hQ ⊢
              simp only [h2, h3, h4, h5, h6, h7, h9, h10, h11, h12, h13, h14] at hQ ⊢
              clear h2 h3 h4 h5 h6 h7 h9 h10 h11 h12 h13 h14
              obtain ⟨A9, c9, e9, _⟩ := h16.form
              have hq2 := hQ (.slice (some ⟨w.heap.size, 0, none⟩) 1 1) (w.alloc (.cells #[x.v 16] 22)) (below_alloc _ _) ⟨w.heap.size, rfl, Blk.new w 22 #[x.v 16]⟩
              rw [e9] at hq2 ⊢
              clear h16 e9
              go_wp2
              exact hq2
            · intro x w hb hk hiv hdj
              have h0 : x.v 0 = .slice OA j oc := hk 0 (by decide) (by decide)
              have h2 : x.v 2 = .slice (some ⟨b, o, none⟩) (n + 1) c := hk 2 (by decide) (by decide)
              have h3 : x.v 3 = .int .i64 i := hk 3 (by decide) (by decide)
              have h4 : x.v 4 = .pointer (some ⟨b, o + i, none⟩) := hk 4 (by decide) (by decide)
              have h5 : x.v 5 = .slice (some ⟨br, or, none⟩) (n + 1) rc := hk 5 (by decide) (by decide)
              have h6 : x.v 6 = .int .i64 k := hk 6 (by decide) (by decide)
              have h7 : x.v 7 = .slice (some ⟨br, or, none⟩) k rc := hk 7 (by decide) (by decide)
              have h9 : x.v 9 = .slice (some ⟨b, o, none⟩) (n + 1) c := hk 9 (by decide) (by decide)
              have h10 : x.v 10 = .int .i64 i := hk 10 (by decide) (by decide)
              have h11 : x.v 11 = .pointer (some ⟨b, o + i, none⟩) := hk 11 (by decide) (by decide)
              have h12 : x.v 12 = .slice (some ⟨br, or, none⟩) (n + 1) rc := hk 12 (by decide) (by decide)
              have h13 : x.v 13 = .int .i64 k := hk 13 (by decide) (by decide)
              have h14 : x.v 14 = .int .i64 ((k : Int) + 1) := hk 14 (by decide) (by decide)
              have h16 : OwnI w wA.heap.size (x.v 16) (cutR k r) := hk 16 (by decide) (by decide)
              have h17 : ∃ g, x.v 17 = .slice (some ⟨g, 0, none⟩) 1 1 ∧ Blk w g 22 #[x.v 16] := hk 17 (by decide) (by decide)
              clear hk
              simp only [netAct, dstAt, List.getElem?_toArray, List.getElem?_cons_zero, List.getElem?_cons_succ, Option.bind_some, Act.put, List.setIfInBounds_toArray, List.set_cons_zero, List.set_cons_succ]
              simp only [List.drop_succ_cons, List.drop_zero, h0, h2, h3, h4, h5, h6, h7, h9, h10, h11, h12, h13, h14]
              clear h0 h2 h3 h4 h5 h6 h7 h9 h10 h11 h12 h13 h14
              obtain ⟨g, e10, k10⟩ := h17
              rw [e10]
              have c10 := k10.cell' (i := 0) rfl
              have hws := hb.size
              have hO2 := HO.out.below hb
              have HBQ2 := Lib.hid (HBQ.out.trans (hb.mono (by omega)))
              refine wpList_appR rfl (.tmp 24) (.tmp 41) rfl LO wA.heap.size wA.heap.size w.heap.size (.slice OA j oc) _ (cutR k r) rfl hO2 _ _ (x.v 16) rfl ⟨g, 0, rfl, c10⟩ (IntsO.of_own h16) (Nat.le_refl _) (by omega) (by omega) (by rw [HLO.out]; omega) (by omega) (by omega) ?_
              intro v9 w9 ho9 hb9 _
              rw [← HSN.out] at ho9
              have HO9 := Lib.hid ho9
              have HB9 := Lib.hid (HBQ2.out.trans hb9)
              clear ho9 hb9 hO2 hb hiv hdj e10 k10 c10 h16 HBQ2
              go_wp2
              go_roundw
              case rel => exact ⟨j + 1, i + 1, by omega, by go_num, (by show i + 1 = j + 1 + 1; omega), HO9.out, HB9.out⟩
              case measure => simp [intOf]; omega
          · have hjn' : j = n := by omega
            have e1 : (m.tail.take j).map (cutR k) = mnr k m := by rw [List.take_of_length_le (by rw [List.length_tail, HL.out]; omega)]; rfl
            rw [e1] at hO
            have HO := Lib.hid hO
            have HBQ2 := Lib.hid hbq2
            obtain ⟨D, hD⟩ : ∃ z, detL n (mnr k m) = z := ⟨_, rfl⟩
            have hDr := det_rng HSQ.out
            have hDB := dB_5 (show n ≤ 5 by omega)
            rw [hD] at hDr
            have HD := Lib.hid hD
            have h1 := abs_mul (A := 1) (B := 12) (show -1 ≤ S ∧ S ≤ 1 by omega) hXr
            have h2 := abs_mul (A := 12) (B := 29859840) (a := S * X) (b := D) (by omega) (by omega)
            obtain ⟨P, hP⟩ : ∃ z, S * X = z := ⟨_, rfl⟩
            rw [hP] at h1 h2
            obtain ⟨Z, hZ⟩ : ∃ z, P * D = z := ⟨_, rfl⟩
            rw [hZ] at h2
            have HP := Lib.hid hP
            have HZ := Lib.hid hZ
            have x2 := bcell hbq2 hb0 x0
            have x3 := bcell hbq2 hb00 x1
            have hqs2 := hbq2.size
            clear hO hbq hbq2 hlo e1 hjn' hD hP hZ x0 x1
            go_wp2
            obtain ⟨wA, hwA⟩ : ∃ z, z = wr := ⟨_, rfl⟩
            subst hwA
            obtain ⟨XX, hXX⟩ : ∃ z, z = X := ⟨_, rfl⟩
            subst hXX
            refine wp_region_net (by kernel_rfl) [.eq (.int .i64 T), .eq (.int .i64 S), .eq (.slice (some ⟨b, o, none⟩) (n + 1) c), .eq (.pointer (some ⟨b, o, none⟩)), .eq (.slice (some ⟨b0, o0, none⟩) (n + 1) c0), .eq (.int .i64 k), .eq (.pointer (some ⟨b0, o0 + k, none⟩)), .eq (.int .i64 XX), .eq (.int .i64 P), .eq (.slice OA j oc), .eq (.int .i64 D), .eq (.int .i64 Z)] [[], [], [], [2], [2, 3], [], [2, 3, 4, 5], [2, 3, 4, 5, 6], [1, 2, 3, 4, 5, 6, 7], [], [9], [1, 2, 3, 4, 5, 6, 7, 8, 9, 10], [0, 1, 2, 3, 4, 5, 6, 7, 8, 9, 10, 11], [0, 1, 2, 3, 4, 5, 6, 7, 8, 9, 10, 11, 12]] 12 (by kernel_rfl) ⟨trivial, trivial, trivial, trivial, trivial, trivial, trivial, trivial, trivial, trivial, trivial, trivial, trivial⟩ ⟨?_, ?_, ?_, ?_, ?_, ?_, ?_, ?_, ?_, ?_, ?_, ?_, trivial⟩ ?_
            · intro x w hb hk Q' hQ
              clear hk
              simp only [netAct, dstAt, List.getElem?_toArray, List.getElem?_cons_zero, List.getElem?_cons_succ, Option.bind_some, Act.put, List.setIfInBounds_toArray, List.set_cons_zero, List.set_cons_succ] at hQ ⊢
              go_wp2
              exact hQ (.int .i64 T) _ (Below.refl _ _) rfl
            · intro x w hb hk Q' hQ
              clear hk
              simp only [netAct, dstAt, List.getElem?_toArray, List.getElem?_cons_zero, List.getElem?_cons_succ, Option.bind_some, Act.put, List.setIfInBounds_toArray, List.set_cons_zero, List.set_cons_succ] at hQ ⊢
              go_wp2
              exact hQ (.int .i64 S) _ (Below.refl _ _) rfl
            · intro x w hb hk Q' hQ
              clear hk
              simp only [netAct, dstAt, List.getElem?_toArray, List.getElem?_cons_zero, List.getElem?_cons_succ, Option.bind_some, Act.put, List.setIfInBounds_toArray, List.set_cons_zero, List.set_cons_succ] at hQ ⊢
              go_wp2
              exact hQ (.slice (some ⟨b, o, none⟩) (n + 1) c) _ (Below.refl _ _) rfl
            · intro x w hb hk Q' hQ
              have h2 : x.v 2 = .slice (some ⟨b, o, none⟩) (n + 1) c := (hk 2 (by decide)).1
              clear hk
              simp only [netAct, dstAt, List.getElem?_toArray, List.getElem?_cons_zero, List.getElem?_cons_succ, Option.bind_some, Act.put, List.setIfInBounds_toArray, List.set_cons_zero, List.set_cons_succ] at hQ ⊢
              simp only [h2] at hQ ⊢
              clear h2
              go_wp2
              exact hQ (.pointer (some ⟨b, o, none⟩)) _ (Below.refl _ _) rfl
            · intro x w hb hk Q' hQ
              have h3 : x.v 3 = .pointer (some ⟨b, o, none⟩) := (hk 3 (by decide)).1
              clear hk
              simp only [netAct, dstAt, List.getElem?_toArray, List.getElem?_cons_zero, List.getElem?_cons_succ, Option.bind_some, Act.put, List.setIfInBounds_toArray, List.set_cons_zero, List.set_cons_succ] at hQ ⊢
              simp only [h3] at hQ ⊢
              clear h3
              have q0 := bcell hb (show b < wA.heap.size by omega) x2
              go_wp2
              exact hQ (.slice (some ⟨b0, o0, none⟩) (n + 1) c0) _ (Below.refl _ _) rfl
            · intro x w hb hk Q' hQ
              clear hk
              simp only [netAct, dstAt, List.getElem?_toArray, List.getElem?_cons_zero, List.getElem?_cons_succ, Option.bind_some, Act.put, List.setIfInBounds_toArray, List.set_cons_zero, List.set_cons_succ] at hQ ⊢
              go_wp2
              exact hQ (.int .i64 k) _ (Below.refl _ _) rfl
            · intro x w hb hk Q' hQ
              have h4 : x.v 4 = .slice (some ⟨b0, o0, none⟩) (n + 1) c0 := (hk 4 (by decide)).1
              have h5 : x.v 5 = .int .i64 k := (hk 5 (by decide)).1
              clear hk
              simp only [netAct, dstAt, List.getElem?_toArray, List.getElem?_cons_zero, List.getElem?_cons_succ, Option.bind_some, Act.put, List.setIfInBounds_toArray, List.set_cons_zero, List.set_cons_succ] at hQ ⊢
              simp only [h4, h5] at hQ ⊢
              clear h4 h5
              go_wp2
              exact hQ (.pointer (some ⟨b0, o0 + k, none⟩)) _ (Below.refl _ _) rfl
            · intro x w hb hk Q' hQ
              have h6 : x.v 6 = .pointer (some ⟨b0, o0 + k, none⟩) := (hk 6 (by decide)).1
              clear hk
              simp only [netAct, dstAt, List.getElem?_toArray, List.getElem?_cons_zero, List.getElem?_cons_succ, Option.bind_some, Act.put, List.setIfInBounds_toArray, List.set_cons_zero, List.set_cons_succ] at hQ ⊢
              simp only [h6] at hQ ⊢
              clear h6
              have q0 := bcell hb (show b0 < wA.heap.size by omega) x3
              go_wp2
              exact hQ (.int .i64 XX) _ (Below.refl _ _) rfl
            · intro x w hb hk Q' hQ
              have h1 : x.v 1 = .int .i64 S := (hk 1 (by decide)).1
              have h7 : x.v 7 = .int .i64 XX := (hk 7 (by decide)).1
              clear hk
              simp only [netAct, dstAt, List.getElem?_toArray, List.getElem?_cons_zero, List.getElem?_cons_succ, Option.bind_some, Act.put, List.setIfInBounds_toArray, List.set_cons_zero, List.set_cons_succ] at hQ ⊢
              simp only [h1, h7] at hQ ⊢
              clear h1 h7
              go_wp2
              rw [HP.out, IntWalk.wrap64_in _ ⟨by omega, by omega⟩]
              exact hQ (.int .i64 P) _ (Below.refl _ _) rfl
            · intro x w hb hk Q' hQ
              clear hk
              simp only [netAct, dstAt, List.getElem?_toArray, List.getElem?_cons_zero, List.getElem?_cons_succ, Option.bind_some, Act.put, List.setIfInBounds_toArray, List.set_cons_zero, List.set_cons_succ] at hQ ⊢
              go_wp2
              exact hQ (.slice OA j oc) _ (Below.refl _ _) rfl
            · intro x w hb hk Q' hQ
              have h9 : x.v 9 = .slice OA j oc := (hk 9 (by decide)).1
              clear hk
              simp only [netAct, dstAt, List.getElem?_toArray, List.getElem?_cons_zero, List.getElem?_cons_succ, Option.bind_some, Act.put, List.setIfInBounds_toArray, List.set_cons_zero, List.set_cons_succ] at hQ ⊢
              simp only [h9] at hQ ⊢
              clear h9
              have HMN := Lib.hid (HO.out.below hb).rd
              go_wp2_with fail
              refine (IH.out _ (mnr k m) _ HMN.out HSQ.out).mono ?_; rintro e w6 ⟨rfl, hb6⟩
              rw [HD.out]
              go_wp2
              exact hQ _ _ hb6 rfl
            · intro x w hb hk Q' hQ
              have h8 : x.v 8 = .int .i64 P := (hk 8 (by decide)).1
              have h10 : x.v 10 = .int .i64 D := (hk 10 (by decide)).1
              clear hk
              simp only [netAct, dstAt, List.getElem?_toArray, List.getElem?_cons_zero, List.getElem?_cons_succ, Option.bind_some, Act.put, List.setIfInBounds_toArray, List.set_cons_zero, List.set_cons_succ] at hQ ⊢
              simp only [h8, h10] at hQ ⊢
              clear h8 h10
              go_wp2
              rw [HZ.out, IntWalk.wrap64_in _ ⟨by omega, by omega⟩]
              exact hQ (.int .i64 Z) _ (Below.refl _ _) rfl
            · intro x w hb hk hiv hdj
              have h0 : x.v 0 = .int .i64 T := hk 0 (by decide)
              have h1 : x.v 1 = .int .i64 S := hk 1 (by decide)
              have h2 : x.v 2 = .slice (some ⟨b, o, none⟩) (n + 1) c := hk 2 (by decide)
              have h3 : x.v 3 = .pointer (some ⟨b, o, none⟩) := hk 3 (by decide)
              have h4 : x.v 4 = .slice (some ⟨b0, o0, none⟩) (n + 1) c0 := hk 4 (by decide)
              have h5 : x.v 5 = .int .i64 k := hk 5 (by decide)
              have h6 : x.v 6 = .pointer (some ⟨b0, o0 + k, none⟩) := hk 6 (by decide)
              have h7 : x.v 7 = .int .i64 XX := hk 7 (by decide)
              have h8 : x.v 8 = .int .i64 P := hk 8 (by decide)
              have h9 : x.v 9 = .slice OA j oc := hk 9 (by decide)
              have h10 : x.v 10 = .int .i64 D := hk 10 (by decide)
              have h11 : x.v 11 = .int .i64 Z := hk 11 (by decide)
              clear hk
              simp only [netAct, dstAt, List.getElem?_toArray, List.getElem?_cons_zero, List.getElem?_cons_succ, Option.bind_some, Act.put, List.setIfInBounds_toArray, List.set_cons_zero, List.set_cons_succ]
              simp only [List.drop_succ_cons, List.drop_zero, h0, h1, h2, h3, h4, h5, h6, h7, h8, h9, h10, h11]
              clear h0 h1 h2 h3 h4 h5 h6 h7 h8 h9 h10 h11
              have HB3 := Lib.hid (HBQ2.out.trans (hb.mono hqs2))
              clear hb hiv hdj x2 x3
              go_wp2
              go_roundw
              case rel =>
                refine ⟨k + 1, T + Z, -S, by omega, by go_num, rfl, rfl, ?_, ?_, HB3.out⟩
                · show _ = _
                  rw [detS_succ, HD.out, ← HSG.out, ← HT.out, HXF.out, HP.out, HZ.out]
                · show _ = _
                  rw [sgK_succ, ← HSG.out]
              case measure => simp [intOf]; omega
      · have hkn : k = n + 1 := by omega
        have HTE := Lib.hid (show T = detL (n + 1) m by rw [HDL.out, HT.out, hkn])
        clear hkn
        go_wp2
        go_ret
        exact ⟨by rw [← HTE.out]; rfl, hbel⟩
end Go.Proofs.Ytkhkamcmlhmpiaa

/- KindOfQuiver: the reference's. -/
namespace Go.Proofs.Ytkhkamcmlhmpiaa
set_option linter.unusedVariables false
set_option linter.unusedSimpArgs false
open Go.RowKit

theorem ent_rng' (q : Qv) (h : q.f.length ≤ 6) : ∀ a b, -12 ≤ ent q q.f.length a b ∧ ent q q.f.length a b ≤ 12 := fun a b => by
  have := ent_rng q q.f.length a b h
  omega
set_option maxHeartbeats 3200000 in
set_option maxRecDepth 100000 in
theorem specKind_any (u : Value) (q : Qv) (w0 : World) (hu : QvR w0 w0.heap.size u q) :
    Calls Try.prog 68 #[u] w0 fun e w' => e = .returned (.int .i64 (kindQ q)) ∧ Below w0.heap.size w0 w' := by
  have hu' := hu
  obtain ⟨A, c, C, d, rfl, hf, hT, hr, lf, lt⟩ := hu.open_
  clear hu hf hT
  obtain ⟨W, hW⟩ : ∃ W, W = w0.alloc (.cells #[.int .i64 q.v, .slice A q.f.length c, .slice C q.t.length d] 28) := ⟨_, rfl⟩
  have g0 : Below w0.heap.size w0 W := by rw [hW]; exact below_alloc _ _
  have kB : Blk W w0.heap.size 28 #[.int .i64 q.v, .slice A q.f.length c, .slice C q.t.length d] := by rw [hW]; exact Blk.new _ _ _
  have HQ := Lib.hid (QvR.next g0 hu')
  clear hu'
  have c0 := kB.cell' (i := 0) rfl
  have c1 := kB.cell' (i := 1) rfl
  have c2 := kB.cell' (i := 2) rfl
  rcases hq : isQ q with _ | _
  · have HF := Lib.hid (show kindQ q = 0 by simp [kindQ, hq])
    have HQN := Lib.hid hq
    clear hq
    go_enter Try.func68, Try.ntmps68
    go_wp2_with fail
    rw [← hW]; clear hW
    refine (specIsQuiver_any _ q _ HQ.out).mono ?_; rintro e w1 ⟨rfl, hb1⟩
    rw [HQN.out]
    have g1 := bthen g0 hb1
    clear hb1 c0 c1 c2 kB
    go_wp2
    go_ret
    exact ⟨by rw [HF.out]; rfl, g1⟩
  · obtain ⟨⟨hv1, hv5⟩, hlen, h6, _⟩ := isQ_t.1 hq
    clear hlen
    obtain ⟨V, hV⟩ := Int.eq_ofNat_of_zero_le (show 0 ≤ q.v by omega)
    have HF := Lib.hid (show kindQ q = kdGo V (ent q q.f.length) (2 ^ V - 1) 1 1 by simp [kindQ, hq, hV])
    have HQN := Lib.hid hq
    have HER := Lib.hid (ent_rng' q h6)
    have HVV := Lib.hid hV
    replace HQ := Lib.hid (show QvR W W.heap.size (.agg #[.int .i64 (V : Int), .slice A q.f.length c, .slice C q.t.length d]) q by rw [← hV]; exact HQ.out)
    have hV1 : 1 ≤ V := by omega
    have hV5 : V ≤ 5 := by omega
    rw [hV] at kB c0 hW ⊢
    clear hq h6 hV hv1 hv5
    go_enter Try.func68, Try.ntmps68
    go_wp2_with fail
    rw [← hW]; clear hW
    refine (specIsQuiver_any _ q _ HQ.out).mono ?_; rintro e w1 ⟨rfl, hb1⟩
    rw [HQN.out]
    have g1 := bthen g0 hb1
    have kB1 := kB.call hb1
    have HQ1 := Lib.hid (QvR.next hb1 HQ.out)
    clear hb1 c0 c1 c2 kB g0
    have c0 := kB1.cell' (i := 0) rfl
    have c1 := kB1.cell' (i := 1) rfl
    have c2 := kB1.cell' (i := 2) rfl
    go_wp2_with fail
    refine (symmetricForm_any _ q _ HQ1.out HQN.out).mono ?_; rintro e w2 ⟨m2, rfl, hM, hb2⟩
    obtain ⟨MA, mc, em, _⟩ := hM.form2
    subst em
    have HMM := Lib.hid hM
    have kB2 := kB1.call hb2
    have g2 := bthen g1 hb2
    have s2 := g2.size
    clear hM hb2 c0 c1 c2 kB1 g1
    obtain ⟨N, hN⟩ : ∃ z, z = 2 ^ V := ⟨_, rfl⟩
    have hN32 : N ≤ 32 := by
      have : (2 : Nat) ^ V ≤ 2 ^ 5 := Nat.pow_le_pow_right (by omega) hV5
      omega
    have hN1 : 1 ≤ N := by have := Nat.one_le_two_pow (n := V); omega
    have hsh : wrap64 ((2 : Int) ^ V) = (N : Int) := by
      rw [show ((2 : Int) ^ V) = ((2 ^ V : Nat) : Int) by simp, ← hN]
      exact IntWalk.wrap64_in _ ⟨by omega, by omega⟩
    rw [← hN] at HF
    have HSM := Lib.hid (show symM q = matF V (ent q q.f.length) by rw [symM, HVV.out]; rfl)
    clear hN
    go_wp2
    go_loopw [4, 5] (fun kd i wr => ∃ (s : Nat) (k : Int), 1 ≤ s ∧ s ≤ N ∧ i = .int .i64 s ∧ kd = .int .i64 k ∧ 1 ≤ k ∧ k ≤ 3 ∧ Hid (kindQ q = kdGo V (ent q q.f.length) (N - s) s k) ∧ Below w2.heap.size w2 wr) (fun _ i _ => N - (intOf i).toNat)
    case atStart => exact ⟨1, 1, Nat.le_refl _, hN1, rfl, rfl, by omega, by omega, HF, Below.refl _ _⟩
    case round =>
      obtain ⟨s, k, hs1, hs, rfl, rfl, hk1, hk3, HK, hbel⟩ := hrel
      have c0 := (kB2.call hbel).cell' (i := 0) rfl
      by_cases hlt : s < N
      · have hMr := (HMM.out.below hbel).rd
        rw [(show symM q = _ from HSM.out)] at hMr
        have HMR := Lib.hid hMr
        have HBE := Lib.hid hbel
        have hsl := congrArg List.length (show symM q = _ from HSM.out)
        have HSL := Lib.hid hsl
        clear hMr hbel hsl
        go_wp2_with fail
        refine (l18Minor_any _ V s (ent q q.f.length) _ hV5 (by omega) HER.out (by rw [HSL.out]; exact HMR.out)).mono ?_; rintro e w3 ⟨m3, rfl, hm3, hb3⟩
        obtain ⟨A3, c3, e3, _⟩ := hm3.form2
        subst e3
        have HM3 := Lib.hid hm3.rd
        have HBE3 := Lib.hid (HBE.out.trans (hb3.mono HBE.out.size))
        have HSQ := Lib.hid (mnL_sq (s := s) (n := V) HER.out)
        have hbl := bitL_length s V
        obtain ⟨D, hD⟩ : ∃ z, dtS s V (ent q q.f.length) = z := ⟨_, rfl⟩
        have HD := Lib.hid hD
        clear hm3 hb3 hD c0
        go_wp2_with fail
        refine (l18Det_any (bitL s V).length (by omega) _ (mnL s V (ent q q.f.length)) _ HM3.out HSQ.out).mono ?_; rintro e w4 ⟨rfl, hb4⟩
        rw [show detL (bitL s V).length (mnL s V (ent q q.f.length)) = D from HD.out]
        have HBE4 := Lib.hid (HBE3.out.trans (hb4.mono HBE3.out.size))
        have HG4 := Lib.hid (g2.trans (HBE4.out.mono s2))
        obtain ⟨m, hm⟩ : ∃ m, N - s = m + 1 := ⟨N - s - 1, by omega⟩
        have hK := HK.out
        rw [hm] at hK
        simp only [kdGo] at hK
        rw [show dtS s V (ent q q.f.length) = D from HD.out] at hK
        have hm2 : m = N - (s + 1) := by omega
        rw [hm2] at hK
        clear hb4 hm hm2 HD
        by_cases hD0 : D < 0
        · rw [if_pos hD0] at hK
          have HKK := Lib.hid hK
          clear hK
          go_wp2
          go_ret
          exact ⟨by rw [HKK.out]; rfl, HG4.out⟩
        · rw [if_neg hD0] at hK
          by_cases hD1 : D = 0
          · rw [if_pos hD1] at hK
            have HKK := Lib.hid hK
            clear hK
            subst hD1
            go_wp2
            go_roundw
            case rel => exact ⟨s + 1, 2, by omega, by omega, by go_num, rfl, by omega, by omega, HKK, HBE4.out⟩
            case measure => simp [intOf]; omega
          · rw [if_neg hD1] at hK
            have HKK := Lib.hid hK
            have hne : (D == 0) = false := by rw [beq_eq_false_iff_ne]; exact hD1
            clear hK
            go_wp2
            go_roundw
            case rel => exact ⟨s + 1, k, by omega, by omega, by go_num, rfl, by omega, by omega, HKK, HBE4.out⟩
            case measure => simp [intOf]; omega
      · have HKK := Lib.hid (show kindQ q = k by rw [(HK.out : kindQ q = _), show N - s = 0 by omega]; rfl)
        have HG := Lib.hid (g2.trans (hbel.mono s2))
        clear hbel
        go_wp2
        go_ret
        exact ⟨by rw [HKK.out]; rfl, HG.out⟩
end Go.Proofs.Ytkhkamcmlhmpiaa

/- KindOfQuiver: the program's. -/
namespace Go.Proofs.Ytkhkamcmlhmpiaa
set_option linter.unusedVariables false
set_option linter.unusedSimpArgs false
open Go.RowKit

set_option maxHeartbeats 6400000 in
set_option maxRecDepth 100000 in
theorem implKind_any (u : Value) (q : Qv) (w0 : World) (hu : QvR w0 w0.heap.size u q) :
    Calls Try.prog 73 #[u] w0 fun e w' => e = .returned (.int .i64 (kindQ q)) ∧ Below w0.heap.size w0 w' := by
  have hu' := hu
  obtain ⟨A, c, C, d, rfl, hf, hT, hr, lf, lt⟩ := hu.open_
  clear hu hf hT
  obtain ⟨W, hW⟩ : ∃ W, W = w0.alloc (.cells #[.int .i64 q.v, .slice A q.f.length c, .slice C q.t.length d] 28) := ⟨_, rfl⟩
  have g0 : Below w0.heap.size w0 W := by rw [hW]; exact below_alloc _ _
  have kB : Blk W w0.heap.size 28 #[.int .i64 q.v, .slice A q.f.length c, .slice C q.t.length d] := by rw [hW]; exact Blk.new _ _ _
  have HQ := Lib.hid (QvR.next g0 hu')
  clear hu'
  have c0 := kB.cell' (i := 0) rfl
  have c1 := kB.cell' (i := 1) rfl
  have c2 := kB.cell' (i := 2) rfl
  rcases hq : isQ q with _ | _
  · have HF := Lib.hid (show kindQ q = 0 by simp [kindQ, hq])
    have HQN := Lib.hid hq
    clear hq
    go_enter Try.func73, Try.ntmps73
    go_wp2_with fail
    rw [← hW]; clear hW
    refine (implIsQuiver_any _ q _ HQ.out).mono ?_; rintro e w1 ⟨rfl, hb1⟩
    rw [HQN.out]
    have g1 := bthen g0 hb1
    clear hb1 c0 c1 c2 kB
    go_wp2
    go_ret
    exact ⟨by rw [HF.out]; rfl, g1⟩
  · obtain ⟨⟨hv1, hv5⟩, hlen, h6, _⟩ := isQ_t.1 hq
    clear hlen
    obtain ⟨V, hV⟩ := Int.eq_ofNat_of_zero_le (show 0 ≤ q.v by omega)
    have HF := Lib.hid (show kindQ q = kdGo V (ent q q.f.length) (2 ^ V - 1) 1 1 by simp [kindQ, hq, hV])
    have HQN := Lib.hid hq
    have HER := Lib.hid (ent_rng' q h6)
    have HVV := Lib.hid hV
    replace HQ := Lib.hid (show QvR W W.heap.size (.agg #[.int .i64 (V : Int), .slice A q.f.length c, .slice C q.t.length d]) q by rw [← hV]; exact HQ.out)
    have hV1 : 1 ≤ V := by omega
    have hV5 : V ≤ 5 := by omega
    rw [hV] at kB c0 hW ⊢
    clear hq h6 hV hv1 hv5
    go_enter Try.func73, Try.ntmps73
    go_wp2_with fail
    rw [← hW]; clear hW
    refine (implIsQuiver_any _ q _ HQ.out).mono ?_; rintro e w1 ⟨rfl, hb1⟩
    rw [HQN.out]
    have g1 := bthen g0 hb1
    have kB1 := kB.call hb1
    have HQ1 := Lib.hid (QvR.next hb1 HQ.out)
    clear hb1 c0 c1 c2 kB g0
    have c0 := kB1.cell' (i := 0) rfl
    have c1 := kB1.cell' (i := 1) rfl
    have c2 := kB1.cell' (i := 2) rfl
    go_wp2_with fail
    refine (symmetric_any _ q _ HQ1.out HQN.out).mono ?_; rintro e w2 ⟨m2, rfl, hM, hb2⟩
    obtain ⟨MA, mc, em, _⟩ := hM.form2
    subst em
    have HSM := Lib.hid (show symM q = matF V (ent q q.f.length) by rw [symM, HVV.out]; rfl)
    rw [HSM.out, matF_length] at hM ⊢
    have HMM := Lib.hid hM
    have kB2 := kB1.call hb2
    have g2 := bthen g1 hb2
    have s2 := g2.size
    obtain ⟨MB, MO, rfl, hMB0⟩ : ∃ b o, MA = some ⟨b, o, none⟩ ∧ b < w2.heap.size := by
      have h1 := hM.rd
      obtain ⟨_, _, e, _, _, _, h4⟩ := h1
      injection e with e1 _ _
      obtain ⟨b, o, e2, hb, _⟩ := h4 (by rw [matF_length]; omega)
      exact ⟨b, o, by rw [e1, e2], hb⟩
    clear hM hb2 c0 c1 c2 kB1 g1
    obtain ⟨N, hN⟩ : ∃ z, z = 2 ^ V := ⟨_, rfl⟩
    have hN32 : N ≤ 32 := by
      have : (2 : Nat) ^ V ≤ 2 ^ 5 := Nat.pow_le_pow_right (by omega) hV5
      omega
    have hN1 : 1 ≤ N := by have := Nat.one_le_two_pow (n := V); omega
    have hsh : wrap64 ((2 : Int) ^ V) = (N : Int) := by
      rw [show ((2 : Int) ^ V) = ((2 ^ V : Nat) : Int) by simp, ← hN]
      exact IntWalk.wrap64_in _ ⟨by omega, by omega⟩
    rw [← hN] at HF
    have HB1 := Lib.hid band1
    obtain ⟨g, hg⟩ : ∃ g, ent q q.f.length = g := ⟨_, rfl⟩
    rw [hg] at HMM HF HER
    clear hN HSM hg HQ HQ1
    go_wp2
    go_loopw [3, 5] (fun kd i wr => ∃ (s : Nat) (k : Int), 1 ≤ s ∧ s ≤ N ∧ i = .int .i64 s ∧ kd = .int .i64 k ∧ 1 ≤ k ∧ k ≤ 3 ∧ Hid (kindQ q = kdGo V g (N - s) s k) ∧ Below w2.heap.size w2 wr) (fun _ i _ => N - (intOf i).toNat)
    case atStart => exact ⟨1, 1, Nat.le_refl _, hN1, rfl, rfl, by omega, by omega, HF, Below.refl _ _⟩
    case round =>
      obtain ⟨s, k, hs1, hs, rfl, rfl, hk1, hk3, HK, hbel⟩ := hrel
      have c0 := (kB2.call hbel).cell' (i := 0) rfl
      by_cases hlt : s < N
      · have hMr := (HMM.out.below hbel).rd
        have HX : Hid (SlII wr wr.heap.size (.slice (some ⟨MB, MO, none⟩) (matF V g).length mc) (matF V g)) := by rw [matF_length]; exact hMr
        have HBE := Lib.hid hbel
        have hws := hbel.size
        obtain ⟨LO, hLO⟩ : ∃ z, z = wr.heap.size := ⟨_, rfl⟩
        clear hMr hbel
        go_wp2
        obtain ⟨w3, hw3⟩ : ∃ z, z = wr := ⟨_, rfl⟩
        subst hw3
        clear c0 hsh
        go_loopw [6, 27] (fun ov i wq => ∃ j : Nat, j ≤ V ∧ i = .int .i64 j ∧ IntssO wq w3.heap.size wq.heap.size ov (mnTo s V g j) ∧ Below w3.heap.size w3 wq) (fun _ i _ => V - (intOf i).toNat)
        case atStart => exact ⟨0, Nat.zero_le _, rfl, by simpa [mnTo, bitL] using IntssO.nil w3 _ _, Below.refl _ _⟩
        case round =>
          obtain ⟨j, hj, rfl, hO, hbq⟩ := hrel
          obtain ⟨OA, oc, eo, hoc, hoc2, hol⟩ := hO.form2
          have hlo : (mnTo s V g j).length = (bitL s j).length := by simp [mnTo]
          rw [hlo] at eo hoc
          subst eo
          have hbl := bitL_length s j
          have hqs := hbq.size
          by_cases hjn : j < V
          · obtain ⟨r, RA, rc, hr0, _, y1, hr, hrc1, hrc2⟩ := SlII.elt HX.out (k := j) (by rw [matF_length]; omega)
            rw [matF_get _ hjn] at hr0
            injection hr0 with hr0
            subst hr0
            have y2 := bcell hbq (show MB < w3.heap.size by omega) y1
            rw [rowF_length] at y2 hrc1
            obtain ⟨b2, o2, rfl, hb2⟩ := SlI.addr hr (by rw [rowF_length]; omega)
            have HR := Lib.hid hr
            have HLO := Lib.hid hlo
            rcases hbt : bitT s j with _ | _
            · have h0 := bitT_0 hbt
              have h1 := HB1.out
              rw [show mnTo s V g j = mnTo s V g (j + 1) by rw [mnTo, mnTo, bitL_succ_f hbt]] at hO
              have HO := Lib.hid hO
              have HBQ := Lib.hid hbq
              clear hO hbq hbt hlo hr y1
              go_wp2
              clear h0 h1
              go_roundw
              case rel => exact ⟨j + 1, by omega, by go_num, HO.out, HBQ.out⟩
              case measure => simp [intOf]; omega
            · have h0 := bitT_1 hbt
              have h1 := HB1.out
              have HO := Lib.hid hO
              have HBQ := Lib.hid hbq
              have HBT := Lib.hid hbt
              clear hO hbq hbt hlo hr y1
              go_wp2
              obtain ⟨w4, hw4⟩ : ∃ z, z = wr := ⟨_, rfl⟩
              subst hw4
              clear h0 h1 y2
              go_loopw [9, 39] (fun rv i wq => ∃ l : Nat, l ≤ V ∧ i = .int .i64 l ∧ IntsO wq w4.heap.size wq.heap.size rv ((bitL s l).map (g j)) ∧ Below w4.heap.size w4 wq) (fun _ i _ => V - (intOf i).toNat)
              case atStart => exact ⟨0, Nat.zero_le _, rfl, by simpa [bitL] using (show IntsO w4 w4.heap.size w4.heap.size (.slice none 0 0) [] from ⟨OwnI.nil _ _, by simp [Value.ownBlock]⟩), Below.refl _ _⟩
              case round =>
                obtain ⟨l, hl, rfl, hI, hbz⟩ := hrel
                obtain ⟨RV, rv, er, hrv1, hrv2⟩ := hI.1.form
                have hlr : ((bitL s l).map (g j)).length = (bitL s l).length := by simp
                have hbl2 := bitL_length s l
                have hwz := hbz.size
                rw [hlr] at er hrv1
                subst er
                by_cases hln : l < V
                · obtain ⟨x, hx0, _, x1, _⟩ := SlI.elt HR.out (k := l) (by rw [rowF_length]; omega)
                  rw [rowF_get _ hln] at hx0
                  injection hx0 with hx0
                  have hgr := HER.out j l
                  rw [hx0] at hgr
                  have x2 := bcell (HBQ.out.trans (hbz.mono (by omega))) (show b2 < w3.heap.size by omega) x1
                  rcases hbj : bitT s l with _ | _
                  · have h0 := bitT_0 hbj
                    have h1 := HB1.out
                    rw [show (bitL s l).map (g j) = (bitL s (l + 1)).map (g j) by rw [bitL_succ_f hbj]] at hI
                    have HI := Lib.hid hI
                    have HBZ := Lib.hid hbz
                    clear hI hbz hbj hlr hx0 x1
                    go_wp2
                    clear h0 h1
                    go_roundw
                    case rel => exact ⟨l + 1, by omega, by go_num, HI.out, HBZ.out⟩
                    case measure => simp [intOf]; omega
                  · have h0 := bitT_1 hbj
                    have h1 := HB1.out
                    have HSX := Lib.hid (show (bitL s (l + 1)).map (g j) = (bitL s l).map (g j) ++ [x] by rw [bitL_succ_t hbj, List.map_append, ← hx0]; rfl)
                    have bz := below_alloc wr (.cells #[.int .i64 x] 3)
                    have HI2 := Lib.hid (hI.below bz)
                    have HB2 := Lib.hid (hbz.trans (bz.mono (by omega)))
                    have HLR := Lib.hid hlr
                    clear hx0 x1 hI hbz hbj hlr bz
                    (go_wp2_with (at_builtin; refine Hold.stop ?_)); unfold Hold
                    refine wpList_appI rfl (.tmp 49) (.tmp 51) rfl w4.heap.size _ (.slice RV (bitL s l).length rv) ((bitL s l).map (g j)) rfl HI2.out.1 _ _ _ [x] rfl rfl (SlI.one wr _ _ ⟨by omega, by omega⟩) (by rw [HLR.out]; simp; omega) (by simp; omega) ?_
                    intro v9 w9 ho9 hg9 hv9
                    rw [← HSX.out] at ho9
                    have hbg : Below w4.heap.size _ w9 := below_grown hg9 (fun k hk => (HI2.out.1.lt k hk).1) (by simp; omega)
                    have HBT2 := Lib.hid (HB2.out.trans hbg)
                    have HO9 := Lib.hid (IntsO.of_own ho9)
                    clear ho9 hg9 hv9 hbg h0 h1 x2
                    go_wp2
                    go_roundw
                    case rel => exact ⟨l + 1, by omega, by go_num, HO9.out, HBT2.out⟩
                    case measure => simp [intOf]; omega
                · have hln' : l = V := by omega
                  replace hI : IntsO wr w4.heap.size wr.heap.size (.slice RV (bitL s l).length rv) ((bitL s V).map (g j)) := by rw [show (bitL s V).map (g j) = (bitL s l).map (g j) by rw [hln']]; exact hI
                  obtain ⟨u, hu, Z, hZ⟩ : ∃ u, u = wr.heap.size ∧ ∃ Z, Z = wr.alloc (.cells #[.slice RV (bitL s l).length rv] 22) := ⟨_, rfl, _, rfl⟩
                  have bZ : Below wr.heap.size wr Z := by rw [hZ]; exact below_alloc _ _
                  have kZ : Blk Z u 22 #[.slice RV (bitL s l).length rv] := by rw [hZ, hu]; exact Blk.new _ _ _
                  have HOZ := Lib.hid ((HO.out.below hbz).below bZ)
                  have HRZ := Lib.hid (hI.below bZ)
                  have HBZ := Lib.hid ((HBQ.out.trans (hbz.mono (by omega))).trans (bZ.mono (by omega)))
                  have sZ := bZ.size
                  have C0 := Lib.hid (kZ.cell' (i := 0) rfl)
                  have HU := Lib.hid hu
                  have HSN := Lib.hid (show mnTo s V g (j + 1) = mnTo s V g j ++ [(bitL s V).map (g j)] by rw [mnTo, bitL_succ_t HBT.out, List.map_append]; rfl)
                  clear hI hbz bZ kZ hu hln' hlr
                  (go_wp2_with (at_builtin; refine Hold.stop ?_)); unfold Hold
                  rw [← HU.out, ← hZ]
                  clear hZ
                  refine wpList_appR rfl (.tmp 54) (.tmp 56) rfl w3.heap.size w4.heap.size w4.heap.size wr.heap.size (.slice OA (bitL s j).length oc) (mnTo s V g j) ((bitL s V).map (g j)) rfl HOZ.out _ _ (.slice RV (bitL s l).length rv) rfl ⟨u, 0, rfl, C0.out⟩ HRZ.out (Nat.le_refl _) (by omega) (by omega) (by rw [HLO.out]; omega) (by omega) (by omega) ?_
                  intro v9 w9 ho9 hb9 _
                  rw [← HSN.out] at ho9
                  have HO9 := Lib.hid ho9
                  have HB9 := Lib.hid (HBZ.out.trans hb9)
                  clear ho9 hb9
                  go_wp2
                  go_roundw
                  case rel => exact ⟨j + 1, by omega, by go_num, HO9.out, HB9.out⟩
                  case measure => simp [intOf]; omega
          · have hkn : j = V := by omega
            have HM3 := Lib.hid (show SlII wr wr.heap.size (.slice OA (bitL s j).length oc) (mnL s V g) by rw [show mnL s V g = mnTo s V g j by rw [mnL, hkn]]; exact hO.rd)
            have HBE3 := Lib.hid (HBE.out.trans (hbq.mono hws))
            have HSQ := Lib.hid (mnL_sq (s := s) (n := V) HER.out)
            have hblV := bitL_length s V
            obtain ⟨D, hD⟩ : ∃ z, dtS s V g = z := ⟨_, rfl⟩
            have HD := Lib.hid hD
            clear hO hbq hlo hD hkn
            go_wp2_with fail
            refine (determinant_any (bitL s V).length (by omega) _ (mnL s V g) _ HM3.out HSQ.out).mono ?_; rintro e w5 ⟨rfl, hb5⟩
            rw [show detL (bitL s V).length (mnL s V g) = D from HD.out]
            have HBE4 := Lib.hid (HBE3.out.trans (hb5.mono HBE3.out.size))
            have HG4 := Lib.hid (g2.trans (HBE4.out.mono s2))
            obtain ⟨m, hm⟩ : ∃ m, N - s = m + 1 := ⟨N - s - 1, by omega⟩
            have hK := HK.out
            rw [hm] at hK
            simp only [kdGo] at hK
            rw [show dtS s V g = D from HD.out] at hK
            have hm2 : m = N - (s + 1) := by omega
            rw [hm2] at hK
            clear hb5 hm hm2 HD
            by_cases hD0 : D < 0
            · rw [if_pos hD0] at hK
              have HKK := Lib.hid hK
              clear hK
              go_wp2
              go_ret
              exact ⟨by rw [HKK.out]; rfl, HG4.out⟩
            · rw [if_neg hD0] at hK
              by_cases hD1 : D = 0
              · rw [if_pos hD1] at hK
                have HKK := Lib.hid hK
                clear hK
                subst hD1
                go_wp2
                go_roundw
                case rel => exact ⟨s + 1, 2, by omega, by omega, by go_num, rfl, by omega, by omega, HKK, HBE4.out⟩
                case measure => simp [intOf]; omega
              · rw [if_neg hD1] at hK
                have HKK := Lib.hid hK
                have hne : (D == 0) = false := by rw [beq_eq_false_iff_ne]; exact hD1
                clear hK
                go_wp2
                go_roundw
                case rel => exact ⟨s + 1, k, by omega, by omega, by go_num, rfl, by omega, by omega, HKK, HBE4.out⟩
                case measure => simp [intOf]; omega
      · have HKK := Lib.hid (show kindQ q = k by rw [(HK.out : kindQ q = _), show N - s = 0 by omega]; rfl)
        have HG := Lib.hid (g2.trans (hbel.mono s2))
        clear hbel
        go_wp2
        go_ret
        exact ⟨by rw [HKK.out]; rfl, HG.out⟩
end Go.Proofs.Ytkhkamcmlhmpiaa

/- The program's NullVector. -/
namespace Go.Proofs.Ytkhkamcmlhmpiaa
set_option linter.unusedVariables false
set_option linter.unusedSimpArgs false
open Go.RowKit Go.Shelf

attribute [local go_sem] Oper.semAt_some
theorem eql_nil (w : World) (a : Option Addr) (n c : Nat) : (binOp .eql 22 (.slice a n c) (.slice none 0 0)).run Try.prog w = .ok (.bool a.isNone) w := by
  simp [binOp, Sem.run_bind, run_equal_slice_nil w 22 3 a n c Try.underlying22]
theorem sumW_of {x : List Int} (h : smallV 100 x) (hl : x.length ≤ 1000) : sumW x = x.sum :=
  (sumW_small x (-100) 100 (by omega) (by omega) h (by omega) (by omega)).1

set_option maxRecDepth 100000 in
set_option maxHeartbeats 3200000 in
theorem implNullVector_any (u : Value) (q : Qv) (w : World) (hu : QvR w w.heap.size u q) :
    Calls Try.prog 62 #[u] w fun e w' => ∃ v, e = .returned (.tuple #[v, .bool (nvQ q).2]) ∧ OwnI w' w.heap.size v (nvQ q).1 ∧ Below w.heap.size w w' := by
  have hu' := hu
  obtain ⟨A, c, C, d, rfl, hf, ht, hr, _⟩ := hu.open_
  clear hu hf ht
  obtain ⟨W, hW⟩ : ∃ W, w.alloc (.cells #[.int .i64 q.v, .slice A q.f.length c, .slice C q.t.length d] 28) = W := ⟨_, rfl⟩
  have kB : Blk W w.heap.size 28 #[.int .i64 q.v, .slice A q.f.length c, .slice C q.t.length d] := by rw [← hW]; exact Blk.new _ _ _
  have g0 : Below w.heap.size w W := by rw [← hW]; exact below_alloc _ _
  have hq1 := QvR.next g0 hu'
  have hkr := kindQ_rng q
  obtain ⟨K, hK⟩ : ∃ k, kindQ q = k := ⟨_, rfl⟩
  by_cases h2 : K = 2
  · subst h2
    have hq : isQ q = true := by
      rcases h : isQ q with _ | _
      · simp [kindQ, h] at hK
      · rfl
    have hv := (isQ_t.1 hq).1
    obtain ⟨V, hV⟩ := Int.eq_ofNat_of_zero_le (show 0 ≤ q.v by omega)
    have hVn : q.v.toNat = V := by omega
    have hV5 : V ≤ 5 := by omega
    have hV1 : 1 ≤ V := by omega
    have HF := Lib.hid (show nvQ q = (nvB q V (5 ^ V), decide (0 < (nvB q V (5 ^ V)).length)) by rw [nvQ, if_pos hK, hVn])
    have HK := Lib.hid hK
    have HN := Lib.hid (fun k => (by have := isNum_bx hq k; rwa [hVn] at this : isNum q (bxV 4 V k) = true))
    replace hq1 : QvR W W.heap.size (.agg #[.int .i64 (V : Int), .slice A q.f.length c, .slice C q.t.length d]) q := by rw [← hV]; exact hq1
    have HVQ := Lib.hid hVn
    have HQ := Lib.hid hq
    have HU := Lib.hid (show QvR w w.heap.size (.agg #[.int .i64 (V : Int), .slice A q.f.length c, .slice C q.t.length d]) q by rw [← hV]; exact hu')
    rw [hV] at kB hW ⊢
    have c0 := kB.cell' (i := 0) rfl
    have c1 := kB.cell' (i := 1) rfl
    have c2 := kB.cell' (i := 2) rfl
    clear hq hv hV hVn hkr hK hu'
    refine (callsIn_wide (n := 3)).1 ?_
    refine callsIn_of_wp_marks Try.func62 rfl trivial ?_ rfl
    simp only [Try.ntmps62, List.size_toArray, List.length_cons, List.length_nil, Nat.reduceAdd, Nat.reduceSub, Array.replicate_succ, Array.replicate_zero, List.push_toArray, List.append_toArray, List.nil_append, List.cons_append]
    gi_wp2_with fail
    clear hW
    refine ⟨trivial, (callsIn_wide.2 (implKind_any _ q _ hq1)).mono ?_⟩; rintro e w1 ⟨rfl, hb1⟩
    rw [HK.out]
    have kB1 := kB.call hb1
    have g1 := bthen g0 hb1
    have hws := g1.size
    have hu0 : QvR w w.heap.size (.agg #[.int .i64 (V : Int), .slice A q.f.length c, .slice C q.t.length d]) q := HU.out
    have hq2 := QvR.next hb1 hq1
    clear c0 c1 c2 kB g0 hq1 hb1
    -- best's own block, the list of one number
    obtain ⟨W2, hW2⟩ : ∃ W2, w1.alloc (.cells #[.slice none 0 0] 22) = W2 := ⟨_, rfl⟩
    obtain ⟨W3, hW3⟩ : ∃ W3, W2.alloc (.cells #[.int .i64 4] 3) = W3 := ⟨_, rfl⟩
    have z2 : W2.heap.size = w1.heap.size + 1 := by rw [← hW2]; simp
    have z3 : W3.heap.size = w1.heap.size + 2 := by rw [← hW3]; simp [z2]
    have b12 : Below w1.heap.size w1 W3 := by rw [← hW3, ← hW2]; exact ((Below.refl _ _).alloc (Nat.le_refl _) _).alloc (by simp) _
    have kO3 : Blk W3 w1.heap.size 22 #[.slice none 0 0] := by rw [← hW3, ← hW2]; exact (Blk.new _ _ _).alloc _
    have kB3 := kB1.call b12
    have g3 := bthen g1 b12
    have hq3 := QvR.next b12 hq2
    have hs4 : SlI W3 W3.heap.size (.slice (some ⟨W2.heap.size, 0, none⟩) 1 1) [4] := by rw [← hW3]; exact SlI.one W2 _ 4 ⟨by omega, by omega⟩
    have c0 := kB3.cell' (i := 0) rfl
    have Z2 := Lib.hid z2
    have Z3 := Lib.hid z3
    clear z2 z3 b12 kB1 g1 hq2
    gi_wp2_with fail
    clear hW2 hW3
    refine ⟨trivial, (callsIn_wide.2 (repeat1_any _ 4 V _ hs4 (by omega))).mono ?_⟩; rintro e w4 ⟨mv, rfl, ho4, hb4⟩
    obtain ⟨MA, mc, hmv, hmc⟩ := ho4.form
    rw [List.length_replicate] at hmv
    subst hmv
    have hf4 := boxes_any (.slice MA V mc) w4 ⟨_, _, _, rfl, by have := hmc.1; rw [List.length_replicate] at this; exact this⟩
    have kO4 := kO3.call hb4
    have kB4 := kB3.call hb4
    have g4 := bthen g3 hb4
    have hmr := ho4.rd
    have hrow : ∀ b o, MA = some ⟨b, o, none⟩ → b ≠ w1.heap.size := by
      rintro b o rfl
      have := (ho4.lt b rfl).1
      have := Z3.out
      omega
    have s34 := hb4.size
    clear c0 kO3 kB3 g3 hq3 hs4 hb4 ho4 hmc
    obtain ⟨w5, hw5⟩ : ∃ w5, w4.alloc (.cells #[.slice MA V mc] 22) = w5 := ⟨_, rfl⟩
    have kO5 : Blk w5 w1.heap.size 22 #[.slice none 0 0] := by rw [← hw5]; exact kO4.alloc _
    have kB5 := by have := kB4.alloc (.cells #[.slice MA V mc] 22); rw [hw5] at this; exact this
    have b45 : Below w4.heap.size w4 w5 := by rw [← hw5]; exact below_alloc _ _
    have g5 := bthen g4 b45
    have kM5 : Blk w5 w4.heap.size 22 #[.slice MA V mc] := by rw [← hw5]; exact Blk.new _ _ _
    have hm5 := SlI.next b45 hmr
    have z5 : w5.heap.size = w4.heap.size + 1 := by rw [← hw5]; simp
    have hseq := boxes1_seq 2 (by omega) w4.heap.size w1.heap.size 4 V w5.heap.size mc MA w5 (by omega) (Nat.le_refl _) (by have := Z3.out; omega) (by have := Z3.out; omega) (by omega) (by omega) (kM5.cell' (i := 0) rfl) hm5 hrow
    have hBo : w1.heap.size < w5.heap.size := by have := Z3.out; omega
    rw [hw5] at hf4
    clear hm5 hrow kM5 b45 kO4 kB4 g4 z5 hmr hw5
    gi_wp2_with fail
    refine ⟨trivial, (callsIn_wide.2 hf4).mono ?_⟩; rintro e w6 ⟨rfl, rfl⟩
    clear hf4
    gi_wp2_with fail
    refine wpIn_rangeBx (n := 3) (by omega) rfl (enters_of Try.func137 (by kernel_rfl) rfl) hseq rfl hBo
      (fun k W' => ∃ v, Blk W' w1.heap.size 22 #[v] ∧ OwnI W' (w6.heap.size + 3) v (nvB q V k) ∧ (nvB q V k = [] → v = .slice none 0 0) ∧ Below w.heap.size w W' ∧ Blk W' w.heap.size 28 #[.int .i64 (V : Int), .slice A q.f.length c, .slice C q.t.length d])
      (fun _ _ _ => False) ?hI (fun _ _ _ _ h _ => h) ?h0 ?a1 ?assign ?body ?done (fun _ _ _ _ h _ => h.elim)
    case assign =>
      intro l W' K' hK
      gi_wp2
      exact hK
    case hI =>
      rintro k A' B' ⟨v, h1, h2, h3, h4, h5⟩ hc
      exact ⟨v, h1.chg hc (.inl hBo), ((IntsO.of_own h2).chg hc (.inr (Nat.le_refl _))).1, h3, h4.trans (hc.below (by omega) h4.size), h5.chg hc (.inl (by omega))⟩
    case h0 => exact ⟨_, kO5, by rw [nvB]; exact OwnI.nil _ _, fun _ => rfl, g5, kB5⟩
    case body =>
      rintro l k W' hsz ⟨v, hO, hown, hnil, hbel, hkB⟩ hbx hkM
      have hqW : QvR W' W'.heap.size (.agg #[.int .i64 (V : Int), .slice A q.f.length c, .slice C q.t.length d]) q := QvR.more hbel.size (QvR.below hbel hu0)
      have hnum := HN.out k
      have hxr : SlI W' W'.heap.size (.slice (some ⟨w6.heap.size + 2, 0, none⟩) V V) (bxV 4 V k) := hbx.rd
      have hstp : nvB q V (k + 1) = if 0 < (bxV 4 V k).sum ∧ eul q (bxV 4 V k) (bxV 4 V k) = 0 ∧ (nvB q V k = [] ∨ (bxV 4 V k).sum < (nvB q V k).sum) then bxV 4 V k else nvB q V k := rfl
      have hxl := bxV_length 4 V k
      have hSr := bxV_sum 4 V k
      have hBr := nvB_rng q V k
      have hsb := nvB_i64 q V k
      have hbl := nvB_len q V k
      obtain ⟨best, hbest⟩ : ∃ best, nvB q V k = best := ⟨_, rfl⟩
      obtain ⟨X, hX⟩ : ∃ X, bxV 4 V k = X := ⟨_, rfl⟩
      rw [hbest] at hown hnil hstp hBr hsb hbl
      rw [hX] at hnum hxr hstp hxl hSr
      have hsx := isNum_small hnum
      obtain ⟨S, hS⟩ : ∃ S, X.sum = S := ⟨_, rfl⟩
      obtain ⟨T, hT⟩ : ∃ T, best.sum = T := ⟨_, rfl⟩
      have hrng := eul_rng (isNum_t.1 hnum).1 hsx hsx
      obtain ⟨E, hE⟩ : ∃ E, eul q X X = E := ⟨_, rfl⟩
      rw [hS] at hstp hSr
      rw [hT] at hstp hBr
      rw [hE] at hstp hrng
      have CX : Hid (∀ t : InB W', Calls Try.prog 110 #[.slice (some ⟨w6.heap.size + 2, 0, none⟩) V V] t.val fun e w' => e = .returned (.int .i64 S) ∧ w' = t.val) := by
        intro t
        have := sumOf_any _ X t.val (SlI.next t.below hxr)
        rwa [sumW_of hsx (by omega), hS] at this
      have CE : Hid (∀ t : InB W', Calls Try.prog 65 #[.agg #[.int .i64 (V : Int), .slice A q.f.length c, .slice C q.t.length d], .slice (some ⟨w6.heap.size + 2, 0, none⟩) V V, .slice (some ⟨w6.heap.size + 2, 0, none⟩) V V] t.val fun e w' => e = .returned (.int .i64 E) ∧ Below t.val.heap.size t.val w') := by
        intro t
        have := euler_any _ _ _ q X X t.val (QvR.next t.below hqW) (SlI.next t.below hxr) (SlI.next t.below hxr) HQ.out (isNum_len hnum) (isNum_len hnum) hsx hsx
        rwa [hE] at this
      have CB : Hid (∀ t : InB W', Calls Try.prog 110 #[v] t.val fun e w' => e = .returned (.int .i64 T) ∧ w' = t.val) := by
        intro t
        have := sumOf_any _ best t.val (SlI.next t.below hown.rd)
        rwa [sumW_of hsb (by omega), hT] at this
      have hf0 := InB.cell hO.lt (hO.cell' (i := 0) rfl)
      have hq0 := InB.cell hkB.lt (hkB.cell' (i := 0) rfl)
      have hq1 := InB.cell hkB.lt (hkB.cell' (i := 1) rfl)
      have hq2 := InB.cell hkB.lt (hkB.cell' (i := 2) rfl)
      obtain ⟨BA, bc, hve, hvc⟩ := hown.form
      have HSTP := Lib.hid hstp
      have HBEST := Lib.hid hbest
      have HXL := Lib.hid hxl
      have HXE := Lib.hid hX
      have hsz2 : w6.heap.size + 2 < W'.heap.size := by omega
      clear hstp hbest hX hE hS hT hsb hsx hxl hbx
      have hEq := eql_nil
      have fw1 : Fence.wide.fn 110 := trivial
      have fw2 : Fence.wide.fn 65 := trivial
      have hne : w1.heap.size ≠ w.heap.size := by
        intro e
        have h1 := hO
        have h2 := hkB
        rw [e] at h1
        unfold Blk at h1 h2
        rw [h1] at h2
        injection h2 with h2
        injection h2 with h2 h3
        exact absurd h3 (by decide)
      have hkeep : Hid (∀ W7 : World, Below W'.heap.size W' W7 → nvB q V (k + 1) = best → RoundK w1.heap.size w6.heap.size W' W7 ∧ ∃ v, Blk W7 w1.heap.size 22 #[v] ∧ OwnI W7 (w6.heap.size + 3) v (nvB q V (k + 1)) ∧ (nvB q V (k + 1) = [] → v = .slice none 0 0) ∧ Below w.heap.size w W7 ∧ Blk W7 w.heap.size 28 #[.int .i64 (V : Int), .slice A q.f.length c, .slice C q.t.length d]) := by
        intro W7 hb7 he
        rw [he]
        exact ⟨RoundK.of_below hb7 hsz, v, hO.call hb7, hown.below hb7, hnil, bthen hbel hb7, hkB.call hb7⟩
      have hturn : Hid (∀ (W8 : World) (v8 : Value), Below W'.heap.size W' W8 → OwnI W8 W'.heap.size v8 X → nvB q V (k + 1) = X → RoundK w1.heap.size w6.heap.size W' (W8.setCell ⟨w1.heap.size, 0, none⟩ v8) ∧ ∃ v, Blk (W8.setCell ⟨w1.heap.size, 0, none⟩ v8) w1.heap.size 22 #[v] ∧ OwnI (W8.setCell ⟨w1.heap.size, 0, none⟩ v8) (w6.heap.size + 3) v (nvB q V (k + 1)) ∧ (nvB q V (k + 1) = [] → v = .slice none 0 0) ∧ Below w.heap.size w (W8.setCell ⟨w1.heap.size, 0, none⟩ v8) ∧ Blk (W8.setCell ⟨w1.heap.size, 0, none⟩ v8) w.heap.size 28 #[.int .i64 (V : Int), .slice A q.f.length c, .slice C q.t.length d]) := by
        intro W8 v8 hb8 ho8 he
        rw [he]
        have h1 := (hO.call hb8).set_ 0 v8
        have h2 : w1.heap.size ≠ w.heap.size := hne
        refine ⟨(RoundK.of_below hb8 hsz).trans (RoundK.set W8 v8), v8, h1, (ho8.setCell (fun e => ?_) v8).lower hsz, fun e => ?_, (bthen hbel hb8).setCell hws v8, (hkB.call hb8).far (fun e => h2 e.symm) v8⟩
        · have := (ho8.lt _ e).1
          simp only at this
          omega
        · have := HXL.out
          rw [e] at this
          simp at this
          omega
      by_cases h0 : 0 < S
      · by_cases he : E = 0
        · subst he
          by_cases hnl : best = []
          · have hv := hnil hnl
            have hst2 : Hid (nvB q V (k + 1) = X) := by show _ = _; rw [HSTP.out, if_pos ⟨h0, rfl, .inl hnl⟩]
            subst hv
            clear hve hnil CB
            gi_wp2_with fail
            (refine wpIn_region_inBR (by kernel_rfl) (by kernel_rfl) (by kernel_rfl) ?_; (repeat (gi_big_quiet_step (first | (gi_at_call 110; exact InB.call_sameR (CX.out _)) | (gi_at_call 65; exact InB.callR (CE.out _))))); refine wpQuietIn_nil ?_; intro w7 hw'; obtain ⟨s7, hw7⟩ := hw'; have hb7 := s7.below; rw [← hw7] at hb7; clear hw7 s7)
            gi_wp2_with fail
            refine ⟨trivial, (CallsIn.inRound l (callsIn_wide.2 (clone_own _ X _ (SlI.next hb7 hxr)))).mono ?_⟩; rintro e w8 ⟨v8, rfl, ho8, hb8⟩
            have hb78 := bthen hb7 hb8
            have ho8' := ho8.1.lower hb7.size
            have d0 := (hO.call hb78).cell' (i := 0) rfl
            have f0 := (hO.call hb78).frozen 0
            obtain ⟨A8, c8, h8, _⟩ := ho8'.form
            subst h8
            gi_wp2
            exact hturn.out _ _ hb78 ho8' hst2.out
          · obtain ⟨g, cap, rfl⟩ : ∃ g cap, v = .slice (some ⟨g, 0, none⟩) best.length cap := by
              rcases hown.1.2 with ⟨_, h⟩ | ⟨g, cap, cur, e, _⟩
              · exact absurd (List.eq_nil_of_length_eq_zero h) hnl
              · exact ⟨g, cap, e⟩
            clear hve hvc hnil
            by_cases hlt : S < T
            · have hst2 : Hid (nvB q V (k + 1) = X) := by show _ = _; rw [HSTP.out, if_pos ⟨h0, rfl, .inr hlt⟩]
              gi_wp2_with fail
              (refine wpIn_region_inBR (by kernel_rfl) (by kernel_rfl) (by kernel_rfl) ?_; (repeat (gi_big_quiet_step (first | (gi_at_call_has 110 w6; exact InB.call_sameR (CX.out _)) | (gi_at_call_has 110 cap; exact InB.call_sameR (CB.out _)) | (gi_at_call 65; exact InB.callR (CE.out _))))); refine wpQuietIn_nil ?_; intro w7 hw'; obtain ⟨s7, hw7⟩ := hw'; have hb7 := s7.below; rw [← hw7] at hb7; clear hw7 s7)
              gi_wp2_with fail
              refine ⟨trivial, (CallsIn.inRound l (callsIn_wide.2 (clone_own _ X _ (SlI.next hb7 hxr)))).mono ?_⟩; rintro e w8 ⟨v8, rfl, ho8, hb8⟩
              have hb78 := bthen hb7 hb8
              have ho8' := ho8.1.lower hb7.size
              have d0 := (hO.call hb78).cell' (i := 0) rfl
              have f0 := (hO.call hb78).frozen 0
              obtain ⟨A8, c8, h8, _⟩ := ho8'.form
              subst h8
              gi_wp2
              exact hturn.out _ _ hb78 ho8' hst2.out
            · have hst2 : Hid (nvB q V (k + 1) = best) := by show _ = _; rw [HSTP.out, if_neg (fun h => h.2.2.elim hnl hlt)]
              gi_wp2_with fail
              (refine wpIn_region_inBR (by kernel_rfl) (by kernel_rfl) (by kernel_rfl) ?_; (repeat (gi_big_quiet_step (first | (gi_at_call_has 110 w6; exact InB.call_sameR (CX.out _)) | (gi_at_call_has 110 cap; exact InB.call_sameR (CB.out _)) | (gi_at_call 65; exact InB.callR (CE.out _))))); refine wpQuietIn_nil ?_; intro w7 hw'; obtain ⟨s7, hw7⟩ := hw'; have hb7 := s7.below; rw [← hw7] at hb7; clear hw7 s7)
              gi_wp2
              exact hkeep.out _ hb7 hst2.out
        · have he1 : (E == 0) = false := by simpa using he
          have hst2 : Hid (nvB q V (k + 1) = best) := by show _ = _; rw [HSTP.out, if_neg (fun h => he h.2.1)]
          subst hve
          gi_wp2_with fail
          (refine wpIn_region_inBR (by kernel_rfl) (by kernel_rfl) (by kernel_rfl) ?_; (repeat (gi_big_quiet_step (first | (gi_at_call 110; exact InB.call_sameR (CX.out _)) | (gi_at_call 65; exact InB.callR (CE.out _))))); refine wpQuietIn_nil ?_; intro w7 hw'; obtain ⟨s7, hw7⟩ := hw'; have hb7 := s7.below; rw [← hw7] at hb7; clear hw7 s7)
          gi_wp2
          exact hkeep.out _ hb7 hst2.out
      · have hst2 : Hid (nvB q V (k + 1) = best) := by show _ = _; rw [HSTP.out, if_neg (fun h => h0 h.1)]
        have h00 : S ≤ 0 := by omega
        have h01 : decide (0 < S) = false := by simpa using h0
        subst hve
        gi_wp2_with fail
        (refine wpIn_region_inBR (by kernel_rfl) (by kernel_rfl) (by kernel_rfl) ?_; (repeat (gi_big_quiet_step (first | (gi_at_call 110; exact InB.call_sameR (CX.out _)) | (gi_at_call 65; exact InB.callR (CE.out _))))); refine wpQuietIn_nil ?_; intro w7 hw'; obtain ⟨s7, hw7⟩ := hw'; have hb7 := s7.below; rw [← hw7] at hb7; clear hw7 s7)
        gi_wp2
        exact hkeep.out _ hb7 hst2.out
    case done =>
      rintro W' ⟨v, hO, hown, hnil, hbel, hkB⟩ hD
      obtain ⟨best, hbest⟩ : ∃ best, nvB q V ((4 + 1) ^ V) = best := ⟨_, rfl⟩
      rw [hbest] at hown hnil
      have hb : nvQ q = (best, decide (0 < best.length)) := by rw [HF.out]; simp only [Nat.reduceAdd] at hbest; rw [hbest]
      have HBQ := Lib.hid hb
      have d0 := hO.cell' (i := 0) rfl
      have hws6 : w.heap.size ≤ w6.heap.size := g5.size
      clear hbest hb
      have hfin : Hid (∀ n : Nat, Below w.heap.size w ((W'.drewN n).putObj w6.heap.size (.deferred none)) ∧ OwnI ((W'.drewN n).putObj w6.heap.size (.deferred none)) w.heap.size v best) := fun n => ⟨(below_drewN hbel n).trans (belowK_b (w := w) (Nat.le_refl _) (W'.drewN n) w6.heap.size _ _ hws6 hD rfl rfl), (OwnI.kept (row := some w6.heap.size) (hown.drewN n) (grownBy_putObj' _ _ _) (.inr (fun e => by have := (hown.lt _ e).1; omega))).lower (by omega)⟩
      by_cases hnl : best = []
      · have hv := hnil hnl
        subst hv
        subst hnl
        gi_wp2
        gi_quiet (fail)
        gi_wp2
        refine ⟨by simp, .inl ⟨_, _, rfl, run_takeDeferred (w := W'.drewN nq) hD, ?_⟩⟩
        rw [HBQ.out]
        exact ⟨_, results_tmp2 rfl _ _ _, _, rfl, (hfin.out nq).2, (hfin.out nq).1⟩
      · obtain ⟨g, cap, rfl⟩ : ∃ g cap, v = .slice (some ⟨g, 0, none⟩) best.length cap := by
          rcases hown.1.2 with ⟨_, h⟩ | ⟨g, cap, cur, e, _⟩
          · exact absurd (List.eq_nil_of_length_eq_zero h) hnl
          · exact ⟨g, cap, e⟩
        have hdl : decide (0 < best.length) = true := by
          have : 0 < best.length := by rcases Nat.eq_zero_or_pos best.length with h | h; exact absurd (List.eq_nil_of_length_eq_zero h) hnl; exact h
          simpa using this
        gi_wp2
        gi_quiet (fail)
        gi_wp2
        refine ⟨by simp, .inl ⟨_, _, rfl, run_takeDeferred (w := W'.drewN nq) hD, ?_⟩⟩
        rw [HBQ.out]
        exact ⟨_, results_tmp2 rfl _ _ _, _, by rw [hdl]; rfl, (hfin.out nq).2, (hfin.out nq).1⟩
  · have HC : Hid (nvQ q = ([], false)) := by show _ = _; rw [nvQ, hK, if_neg h2]
    have HK := Lib.hid hK
    have hK2 : (K != 2) = true := by simpa using h2
    have c0 := kB.cell' (i := 0) rfl
    have c1 := kB.cell' (i := 1) rfl
    have c2 := kB.cell' (i := 2) rfl
    clear hK hu'
    go_enter Try.func62, Try.ntmps62
    go_wp2_with fail
    clear hW
    refine (implKind_any _ q _ hq1).mono ?_; rintro e w1 ⟨rfl, hb1⟩
    rw [HK.out]
    have g1 := bthen g0 hb1
    clear hq1 kB g0
    go_wp2
    go_ret2
    rw [HC.out]
    exact ⟨_, rfl, OwnI.nil _ _, g1⟩
end Go.Proofs.Ytkhkamcmlhmpiaa
