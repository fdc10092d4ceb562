/- Sources and sinks. -/
import Derived.Test.YtbgjhnolnccnnaaOrder
import Derived.Test.YtbgjhnolnccnnaaNum
import Derived.Test.YtbgjhnolnccnnaaCopy2
import Derived.Test.YtbgjhnolnccnnaaAppS
namespace Go.Proofs.Ytbgjhnolnccnnaa
set_option linter.unusedVariables false
set_option linter.unusedSimpArgs false
open Go.RowKit

def endV (l : List Int) (q : Qv) (v : Int) : Bool := inR v 0 (q.v - 1) && !decide (v ∈ l)
def freeV (l : List Int) (k : Nat) : List Int := ((List.range k).map fun i : Nat => (i : Int)).filter fun u => !decide (u ∈ l)
theorem freeV_yes {l : List Int} {k : Nat} (h : decide ((k : Int) ∈ l) = false) : freeV l (k + 1) = freeV l k ++ [(k : Int)] := by
  simp only [freeV, List.range_succ, List.map_append, List.filter_append, List.map_cons, List.map_nil, List.filter_cons, h, Bool.not_false, if_true, List.filter_nil]
theorem freeV_no {l : List Int} {k : Nat} (h : decide ((k : Int) ∈ l) = true) : freeV l (k + 1) = freeV l k := by
  simp only [freeV, List.range_succ, List.map_append, List.filter_append, List.map_cons, List.map_nil, List.filter_cons, h, Bool.not_true, List.filter_nil, List.append_nil]
  simp
theorem freeV_length (l : List Int) (k : Nat) : (freeV l k).length ≤ k := by
  unfold freeV
  refine Nat.le_trans (List.length_filter_le _ _) ?_
  simp
theorem freeV_mem (l : List Int) (V : Nat) (q : Qv) (v : Int) (h : q.v = (V : Int)) : decide (v ∈ freeV l V) = endV l q v := by
  rw [Bool.eq_iff_iff]
  simp only [freeV, endV, decide_eq_true_eq, List.mem_filter, List.mem_map, List.mem_range, Bool.and_eq_true, inR_t, h]
  constructor
  · rintro ⟨⟨i, hi, rfl⟩, h2⟩
    exact ⟨by omega, h2⟩
  · rintro ⟨h1, h2⟩
    exact ⟨⟨v.toNat, by omega, by omega⟩, h2⟩

set_option maxHeartbeats 800000 in
theorem isSource_any (u : Value) (q : Qv) (v : Int) (w : World) (hu : QvR w w.heap.size u q) (hq : isQ q = true) :
    Calls Try.prog 109 #[u, .int .i64 v] w fun e w' => e = .returned (.bool (endV q.t q v)) ∧ Below w.heap.size w w' := by
  have hu' := hu
  obtain ⟨A, c, C, d, rfl, hf, hT, hr, lf, lt⟩ := hu.open_
  clear hu
  have hv := (isQ_t.1 hq).1
  have HQ := Lib.hid hq
  obtain ⟨W, hW⟩ : ∃ W, W = w.alloc (.cells #[.int .i64 q.v, .slice A q.f.length c, .slice C q.t.length d] 34) := ⟨_, rfl⟩
  have g0 : Below w.heap.size w W := by rw [hW]; exact below_alloc _ _
  have kB : Blk W w.heap.size 34 #[.int .i64 q.v, .slice A q.f.length c, .slice C q.t.length d] := by rw [hW]; exact Blk.new _ _ _
  have h0 := QvR.next g0 hu'
  have c0 := kB.cell' (i := 0) rfl
  have c1 := kB.cell' (i := 1) rfl
  have c2 := kB.cell' (i := 2) rfl
  clear hu' hq
  rcases h1 : inR v 0 (q.v - 1) with _ | _
  · have HF := Lib.hid (show endV q.t q v = false by simp [endV, h1])
    have H1 := Lib.hid h1
    clear h1
    go_enter Try.func109, Try.ntmps109
    go_wp2_with fail
    rw [← hW]; clear hW
    refine (implIsQuiver_any _ _ _ h0).mono ?_; rintro e w1 ⟨rfl, hb1⟩
    rw [HQ.out]
    have k1 := kB.call hb1
    have c0 := k1.cell' (i := 0) rfl
    have c1 := k1.cell' (i := 1) rfl
    have c2 := k1.cell' (i := 2) rfl
    go_wp2_with fail
    refine (hasVertex_any _ q _ _ (QvR.next hb1 h0) hv).mono ?_; rintro e w2 ⟨rfl, hb2⟩
    rw [H1.out]
    go_wp2
    go_ret
    exact ⟨by rw [HF.out]; rfl, bthen (bthen g0 hb1) hb2⟩
  · have HF := Lib.hid (show endV q.t q v = !decide (v ∈ q.t) by simp [endV, h1])
    have H1 := Lib.hid h1
    clear h1
    go_enter Try.func109, Try.ntmps109
    go_wp2_with fail
    rw [← hW]; clear hW
    refine (implIsQuiver_any _ _ _ h0).mono ?_; rintro e w1 ⟨rfl, hb1⟩
    rw [HQ.out]
    have k1 := kB.call hb1
    have c0 := k1.cell' (i := 0) rfl
    have c1 := k1.cell' (i := 1) rfl
    have c2 := k1.cell' (i := 2) rfl
    go_wp2_with fail
    refine (hasVertex_any _ q _ _ (QvR.next hb1 h0) hv).mono ?_; rintro e w2 ⟨rfl, hb2⟩
    rw [H1.out]
    have k2 := k1.call hb2
    have c0 := k2.cell' (i := 0) rfl
    have c1 := k2.cell' (i := 1) rfl
    have c2 := k2.cell' (i := 2) rfl
    go_wp2_with fail
    refine (contains_any _ _ _ _ (SlI.next hb2 (SlI.next hb1 (SlI.next g0 hT)))).mono ?_; rintro e w3 ⟨rfl, rfl⟩
    rcases hd : decide (v ∈ q.t) with _ | _
    · have HD := Lib.hid hd
      clear hd
      go_wp2
      go_ret
      exact ⟨by rw [HF.out, HD.out]; rfl, bthen (bthen g0 hb1) hb2⟩
    · have HD := Lib.hid hd
      clear hd
      go_wp2
      go_ret
      exact ⟨by rw [HF.out, HD.out]; rfl, bthen (bthen g0 hb1) hb2⟩
set_option maxHeartbeats 800000 in
theorem isSink_any (u : Value) (q : Qv) (v : Int) (w : World) (hu : QvR w w.heap.size u q) (hq : isQ q = true) :
    Calls Try.prog 106 #[u, .int .i64 v] w fun e w' => e = .returned (.bool (endV q.f q v)) ∧ Below w.heap.size w w' := by
  have hu' := hu
  obtain ⟨A, c, C, d, rfl, hf, hT, hr, lf, lt⟩ := hu.open_
  clear hu
  have hv := (isQ_t.1 hq).1
  have HQ := Lib.hid hq
  obtain ⟨W, hW⟩ : ∃ W, W = w.alloc (.cells #[.int .i64 q.v, .slice A q.f.length c, .slice C q.t.length d] 34) := ⟨_, rfl⟩
  have g0 : Below w.heap.size w W := by rw [hW]; exact below_alloc _ _
  have kB : Blk W w.heap.size 34 #[.int .i64 q.v, .slice A q.f.length c, .slice C q.t.length d] := by rw [hW]; exact Blk.new _ _ _
  have h0 := QvR.next g0 hu'
  have c0 := kB.cell' (i := 0) rfl
  have c1 := kB.cell' (i := 1) rfl
  have c2 := kB.cell' (i := 2) rfl
  clear hu' hq
  rcases h1 : inR v 0 (q.v - 1) with _ | _
  · have HF := Lib.hid (show endV q.f q v = false by simp [endV, h1])
    have H1 := Lib.hid h1
    clear h1
    go_enter Try.func106, Try.ntmps106
    go_wp2_with fail
    rw [← hW]; clear hW
    refine (implIsQuiver_any _ _ _ h0).mono ?_; rintro e w1 ⟨rfl, hb1⟩
    rw [HQ.out]
    have k1 := kB.call hb1
    have c0 := k1.cell' (i := 0) rfl
    have c1 := k1.cell' (i := 1) rfl
    have c2 := k1.cell' (i := 2) rfl
    go_wp2_with fail
    refine (hasVertex_any _ q _ _ (QvR.next hb1 h0) hv).mono ?_; rintro e w2 ⟨rfl, hb2⟩
    rw [H1.out]
    go_wp2
    go_ret
    exact ⟨by rw [HF.out]; rfl, bthen (bthen g0 hb1) hb2⟩
  · have HF := Lib.hid (show endV q.f q v = !decide (v ∈ q.f) by simp [endV, h1])
    have H1 := Lib.hid h1
    clear h1
    go_enter Try.func106, Try.ntmps106
    go_wp2_with fail
    rw [← hW]; clear hW
    refine (implIsQuiver_any _ _ _ h0).mono ?_; rintro e w1 ⟨rfl, hb1⟩
    rw [HQ.out]
    have k1 := kB.call hb1
    have c0 := k1.cell' (i := 0) rfl
    have c1 := k1.cell' (i := 1) rfl
    have c2 := k1.cell' (i := 2) rfl
    go_wp2_with fail
    refine (hasVertex_any _ q _ _ (QvR.next hb1 h0) hv).mono ?_; rintro e w2 ⟨rfl, hb2⟩
    rw [H1.out]
    have k2 := k1.call hb2
    have c0 := k2.cell' (i := 0) rfl
    have c1 := k2.cell' (i := 1) rfl
    have c2 := k2.cell' (i := 2) rfl
    go_wp2_with fail
    refine (contains_any _ _ _ _ (SlI.next hb2 (SlI.next hb1 (SlI.next g0 hf)))).mono ?_; rintro e w3 ⟨rfl, rfl⟩
    rcases hd : decide (v ∈ q.f) with _ | _
    · have HD := Lib.hid hd
      clear hd
      go_wp2
      go_ret
      exact ⟨by rw [HF.out, HD.out]; rfl, bthen (bthen g0 hb1) hb2⟩
    · have HD := Lib.hid hd
      clear hd
      go_wp2
      go_ret
      exact ⟨by rw [HF.out, HD.out]; rfl, bthen (bthen g0 hb1) hb2⟩

set_option maxHeartbeats 1600000 in
theorem sourcesOf_any (u : Value) (q : Qv) (w : World) (hu : QvR w w.heap.size u q) (hq : isQ q = true) :
    Calls Try.prog 108 #[u] w fun e w' => ∃ v, e = .returned v ∧ SlI w' w'.heap.size v (freeV q.t q.v.toNat) ∧ Below w.heap.size w w' := by
  have hu' := hu
  obtain ⟨A, c, C, d, rfl, hf, hT, hr, lf, lt⟩ := hu.open_
  clear hu
  obtain ⟨hv1, hv2⟩ := (isQ_t.1 hq).1
  have HQ := Lib.hid hq
  obtain ⟨V, hV⟩ : ∃ V : Nat, q.v = (V : Int) := ⟨q.v.toNat, by omega⟩
  have HV := Lib.hid hV
  rw [show q.v.toNat = V by omega]
  have hV5 : V ≤ 5 := by omega
  obtain ⟨W, hW⟩ : ∃ W, W = (w.alloc (.cells #[.int .i64 q.v, .slice A q.f.length c, .slice C q.t.length d] 34)).alloc (.cells #[] 3) := ⟨_, rfl⟩
  have g0 : Below w.heap.size w W := by rw [hW]; exact ((Below.refl _ _).alloc (Nat.le_refl _) _).alloc (by simp) _
  have kB : Blk W w.heap.size 34 #[.int .i64 q.v, .slice A q.f.length c, .slice C q.t.length d] := by rw [hW]; exact (Blk.new _ _ _).alloc _
  have ho : OwnI W (w.heap.size + 1) (.slice (some ⟨w.heap.size + 1, 0, none⟩) 0 0) [] := by
    rw [hW]
    have := OwnI.made (w := w.alloc (.cells #[.int .i64 q.v, .slice A q.f.length c, .slice C q.t.length d] 34)) (base := w.heap.size + 1) 3 rfl (by simp)
    simpa only [World.size_alloc] using this
  have sz : W.heap.size = w.heap.size + 1 + 1 := by rw [hW]; simp
  have HU := Lib.hid hu'
  have HX := Lib.hid hT
  have SZ := Lib.hid sz
  clear hu' hq sz hV
  go_enter Try.func108, Try.ntmps108
  go_wp2
  rw [← hW]; clear hW
  go_loopw [3, 4] (fun out i wr => ∃ k : Nat, k ≤ V ∧ i = .int .i64 k ∧ OwnI wr (w.heap.size + 1) out (freeV q.t k) ∧ Below w.heap.size w wr ∧ Below (w.heap.size + 1) W wr ∧ W.heap.size ≤ wr.heap.size) (fun _ i _ => V - (intOf i).toNat)
  case atStart => exact ⟨0, Nat.zero_le _, rfl, ho, g0, Below.refl _ _, Nat.le_refl _⟩
  case round =>
    clear ho
    obtain ⟨k, hk, rfl, ho, hb, hbW, hs⟩ := hrel
    have sz := SZ.out
    have kR := kB.below hbW (by omega)
    have c0 := kR.cell' (i := 0) rfl
    have c1 := kR.cell' (i := 1) rfl
    have c2 := kR.cell' (i := 2) rfl
    clear sz
    by_cases hlt : (k : Int) < q.v
    · have HL := Lib.hid hlt
      obtain ⟨OA, oc, rfl, _, _⟩ := ho.form
      go_wp2_with fail
      refine (specIsQuiver_any _ q _ (QvR.more hb.size (QvR.below hb HU.out))).mono ?_; rintro e w1 ⟨rfl, hb1⟩
      rw [HQ.out]
      have ho1 := ho.below hb1
      have kR1 := kR.call hb1
      have hbA := hb.trans (hb1.mono hb.size)
      have s1 := hb1.size
      have hx1 := SlI.more hbA.size (SlI.below hbA HX.out)
      have c0 := kR1.cell' (i := 0) rfl
      have c1 := kR1.cell' (i := 1) rfl
      have c2 := kR1.cell' (i := 2) rfl
      clear ho kR
      go_wp2_with fail
      refine (l4Has_any _ _ _ _ hx1).mono ?_; rintro e w2 ⟨rfl, hb2⟩
      have ho2 := ho1.below hb2
      have hbB := hbA.trans (hb2.mono hbA.size)
      have hbW2 := hbW.trans ((hb1.mono (by have := SZ.out; omega)).trans (hb2.mono (by have := SZ.out; omega)))
      have s2 := hb2.size
      have sB := hbB.size
      rcases hd : decide ((k : Int) ∈ q.t) with _ | _
      · have HN := Lib.hid (freeV_yes hd)
        clear hd ho1 hx1 c0 c1 c2 kR1 hbA hb1 hb2
        have HO2 := Lib.hid ho2
        have HW2 := Lib.hid hbW2
        have HB := Lib.hid hbB
        have hlo2 := ho2.lt
        clear ho2 hbW2 hbB
        (go_wp2_with (at_builtin; refine Hold.stop ?_)); unfold Hold
        obtain ⟨X, hX⟩ : ∃ X, X = w2.alloc (.cells #[.int .i64 (k : Int)] 3) := ⟨_, rfl⟩
        have gn : Below w2.heap.size w2 X := by rw [hX]; exact below_alloc _ _
        have h1x : SlI X X.heap.size (.slice (some ⟨w2.heap.size, 0, none⟩) 1 1) [(k : Int)] := by rw [hX]; exact SlI.one _ _ _ (by simp only [I64]; omega)
        have ho3 := (HO2.out).below gn
        have gns := gn.size
        rw [← hX]
        clear hX
        have hfl := freeV_length q.t k
        refine wpList_appI rfl (.tmp 21) (.tmp 23) rfl (w.heap.size + 1) X.heap.size _ _ rfl ho3 _ 1 1 [(k : Int)] rfl rfl h1x (by simp; omega) (by have := SZ.out; omega) ?_
        intro v' w' h1 h2 h3
        rw [← HN.out] at h1
        have hbX := below_grown h2 (B := w.heap.size + 1) (fun k hk => (hlo2 k hk).1) (by have := SZ.out; omega)
        have H1 := Lib.hid h1
        have G1 := Lib.hid ((HB.out).trans ((gn.mono sB).trans (hbX.mono (by omega))))
        have G2 := Lib.hid ((HW2.out).trans ((gn.mono (by have := SZ.out; omega)).trans hbX))
        have s4 := hbX.size
        clear h1 h2 h3 hbX hlo2 h1x ho3 gn
        go_wp2
        go_roundw
        case rel => exact ⟨k + 1, by have := HV.out; have := HL.out; omega, by go_num, H1.out, G1.out, G2.out, by omega⟩
        case measure => simp [intOf]; have := HV.out; have := HL.out; omega
      · have HN := Lib.hid (freeV_no hd)
        have HO2 := Lib.hid (show OwnI w2 (w.heap.size + 1) _ (freeV q.t (k + 1)) by rw [HN.out]; exact ho2)
        have HW2 := Lib.hid hbW2
        have HB := Lib.hid hbB
        clear hd ho1 hx1 c0 c1 c2 kR1 hbA hb1 hb2 ho2 hbW2 hbB
        go_wp2
        go_roundw
        case rel => exact ⟨k + 1, by have := HV.out; have := HL.out; omega, by go_num, HO2.out, HB.out, HW2.out, by omega⟩
        case measure => simp [intOf]; have := HV.out; have := HL.out; omega
    · have hkV : k = V := by have := HV.out; omega
      subst hkV
      have HO := Lib.hid ho
      have HB := Lib.hid hb
      clear ho hb
      go_wp2
      go_ret
      exact ⟨_, rfl, (HO.out).rd, HB.out⟩
set_option maxHeartbeats 1600000 in
theorem sinksOf_any (u : Value) (q : Qv) (w : World) (hu : QvR w w.heap.size u q) (hq : isQ q = true) :
    Calls Try.prog 102 #[u] w fun e w' => ∃ v, e = .returned v ∧ SlI w' w'.heap.size v (freeV q.f q.v.toNat) ∧ Below w.heap.size w w' := by
  have hu' := hu
  obtain ⟨A, c, C, d, rfl, hf, hT, hr, lf, lt⟩ := hu.open_
  clear hu
  obtain ⟨hv1, hv2⟩ := (isQ_t.1 hq).1
  have HQ := Lib.hid hq
  obtain ⟨V, hV⟩ : ∃ V : Nat, q.v = (V : Int) := ⟨q.v.toNat, by omega⟩
  have HV := Lib.hid hV
  rw [show q.v.toNat = V by omega]
  have hV5 : V ≤ 5 := by omega
  obtain ⟨W, hW⟩ : ∃ W, W = (w.alloc (.cells #[.int .i64 q.v, .slice A q.f.length c, .slice C q.t.length d] 34)).alloc (.cells #[] 3) := ⟨_, rfl⟩
  have g0 : Below w.heap.size w W := by rw [hW]; exact ((Below.refl _ _).alloc (Nat.le_refl _) _).alloc (by simp) _
  have kB : Blk W w.heap.size 34 #[.int .i64 q.v, .slice A q.f.length c, .slice C q.t.length d] := by rw [hW]; exact (Blk.new _ _ _).alloc _
  have ho : OwnI W (w.heap.size + 1) (.slice (some ⟨w.heap.size + 1, 0, none⟩) 0 0) [] := by
    rw [hW]
    have := OwnI.made (w := w.alloc (.cells #[.int .i64 q.v, .slice A q.f.length c, .slice C q.t.length d] 34)) (base := w.heap.size + 1) 3 rfl (by simp)
    simpa only [World.size_alloc] using this
  have sz : W.heap.size = w.heap.size + 1 + 1 := by rw [hW]; simp
  have HU := Lib.hid hu'
  have HX := Lib.hid hf
  have SZ := Lib.hid sz
  clear hu' hq sz hV
  go_enter Try.func102, Try.ntmps102
  go_wp2
  rw [← hW]; clear hW
  go_loopw [3, 4] (fun out i wr => ∃ k : Nat, k ≤ V ∧ i = .int .i64 k ∧ OwnI wr (w.heap.size + 1) out (freeV q.f k) ∧ Below w.heap.size w wr ∧ Below (w.heap.size + 1) W wr ∧ W.heap.size ≤ wr.heap.size) (fun _ i _ => V - (intOf i).toNat)
  case atStart => exact ⟨0, Nat.zero_le _, rfl, ho, g0, Below.refl _ _, Nat.le_refl _⟩
  case round =>
    clear ho
    obtain ⟨k, hk, rfl, ho, hb, hbW, hs⟩ := hrel
    have sz := SZ.out
    have kR := kB.below hbW (by omega)
    have c0 := kR.cell' (i := 0) rfl
    have c1 := kR.cell' (i := 1) rfl
    have c2 := kR.cell' (i := 2) rfl
    clear sz
    by_cases hlt : (k : Int) < q.v
    · have HL := Lib.hid hlt
      obtain ⟨OA, oc, rfl, _, _⟩ := ho.form
      go_wp2_with fail
      refine (specIsQuiver_any _ q _ (QvR.more hb.size (QvR.below hb HU.out))).mono ?_; rintro e w1 ⟨rfl, hb1⟩
      rw [HQ.out]
      have ho1 := ho.below hb1
      have kR1 := kR.call hb1
      have hbA := hb.trans (hb1.mono hb.size)
      have s1 := hb1.size
      have hx1 := SlI.more hbA.size (SlI.below hbA HX.out)
      have c0 := kR1.cell' (i := 0) rfl
      have c1 := kR1.cell' (i := 1) rfl
      have c2 := kR1.cell' (i := 2) rfl
      clear ho kR
      go_wp2_with fail
      refine (l4Has_any _ _ _ _ hx1).mono ?_; rintro e w2 ⟨rfl, hb2⟩
      have ho2 := ho1.below hb2
      have hbB := hbA.trans (hb2.mono hbA.size)
      have hbW2 := hbW.trans ((hb1.mono (by have := SZ.out; omega)).trans (hb2.mono (by have := SZ.out; omega)))
      have s2 := hb2.size
      have sB := hbB.size
      rcases hd : decide ((k : Int) ∈ q.f) with _ | _
      · have HN := Lib.hid (freeV_yes hd)
        clear hd ho1 hx1 c0 c1 c2 kR1 hbA hb1 hb2
        have HO2 := Lib.hid ho2
        have HW2 := Lib.hid hbW2
        have HB := Lib.hid hbB
        have hlo2 := ho2.lt
        clear ho2 hbW2 hbB
        (go_wp2_with (at_builtin; refine Hold.stop ?_)); unfold Hold
        obtain ⟨X, hX⟩ : ∃ X, X = w2.alloc (.cells #[.int .i64 (k : Int)] 3) := ⟨_, rfl⟩
        have gn : Below w2.heap.size w2 X := by rw [hX]; exact below_alloc _ _
        have h1x : SlI X X.heap.size (.slice (some ⟨w2.heap.size, 0, none⟩) 1 1) [(k : Int)] := by rw [hX]; exact SlI.one _ _ _ (by simp only [I64]; omega)
        have ho3 := (HO2.out).below gn
        have gns := gn.size
        rw [← hX]
        clear hX
        have hfl := freeV_length q.f k
        refine wpList_appI rfl (.tmp 21) (.tmp 23) rfl (w.heap.size + 1) X.heap.size _ _ rfl ho3 _ 1 1 [(k : Int)] rfl rfl h1x (by simp; omega) (by have := SZ.out; omega) ?_
        intro v' w' h1 h2 h3
        rw [← HN.out] at h1
        have hbX := below_grown h2 (B := w.heap.size + 1) (fun k hk => (hlo2 k hk).1) (by have := SZ.out; omega)
        have H1 := Lib.hid h1
        have G1 := Lib.hid ((HB.out).trans ((gn.mono sB).trans (hbX.mono (by omega))))
        have G2 := Lib.hid ((HW2.out).trans ((gn.mono (by have := SZ.out; omega)).trans hbX))
        have s4 := hbX.size
        clear h1 h2 h3 hbX hlo2 h1x ho3 gn
        go_wp2
        go_roundw
        case rel => exact ⟨k + 1, by have := HV.out; have := HL.out; omega, by go_num, H1.out, G1.out, G2.out, by omega⟩
        case measure => simp [intOf]; have := HV.out; have := HL.out; omega
      · have HN := Lib.hid (freeV_no hd)
        have HO2 := Lib.hid (show OwnI w2 (w.heap.size + 1) _ (freeV q.f (k + 1)) by rw [HN.out]; exact ho2)
        have HW2 := Lib.hid hbW2
        have HB := Lib.hid hbB
        clear hd ho1 hx1 c0 c1 c2 kR1 hbA hb1 hb2 ho2 hbW2 hbB
        go_wp2
        go_roundw
        case rel => exact ⟨k + 1, by have := HV.out; have := HL.out; omega, by go_num, HO2.out, HB.out, HW2.out, by omega⟩
        case measure => simp [intOf]; have := HV.out; have := HL.out; omega
    · have hkV : k = V := by have := HV.out; omega
      subst hkV
      have HO := Lib.hid ho
      have HB := Lib.hid hb
      clear ho hb
      go_wp2
      go_ret
      exact ⟨_, rfl, (HO.out).rd, HB.out⟩
end Go.Proofs.Ytbgjhnolnccnnaa
