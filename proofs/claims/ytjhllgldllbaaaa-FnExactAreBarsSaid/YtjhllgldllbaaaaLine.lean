/- IsLine, both. -/
import Derived.Test.YtjhllgldllbaaaaZig
namespace Go.Proofs.Ytjhllgldllbaaaa
set_option linter.unusedVariables false
set_option linter.unusedSimpArgs false
open Go.RowKit

def lnAt (k : Nat) (x y : Int) : Bool := decide (x = k ∧ y = k + 1)
def lnTo (q : Qv) (k : Nat) : Prop := ∀ (j : Nat) (x y : Int), j < k → q.f[j]? = some x → q.t[j]? = some y → lnAt j x y = true
def isL (q : Qv) : Bool := isQ q && decide ((q.f.length : Int) = q.v - 1) && (List.range q.f.length).all fun j => lnAt j (q.f.getD j 0) (q.t.getD j 0)
theorem isL_noQ {q : Qv} (h : isQ q = false) : isL q = false := by simp [isL, h]
theorem isL_len {q : Qv} (h : ¬ (q.f.length : Int) = q.v - 1) : isL q = false := by simp [isL, h]
theorem isL_bad {q : Qv} {k : Nat} {x y : Int} (hx : q.f[k]? = some x) (hy : q.t[k]? = some y) (h : lnAt k x y = false) : isL q = false := by
  have hk := lt_of_some hx
  have e1 : q.f.getD k 0 = x := by simp [List.getD, hx]
  have e2 : q.t.getD k 0 = y := by simp [List.getD, hy]
  have : ((List.range q.f.length).all fun j => lnAt j (q.f.getD j 0) (q.t.getD j 0)) = false := by
    rw [List.all_eq_false]
    exact ⟨k, List.mem_range.2 hk, by rw [e1, e2, h]; simp⟩
  simp only [isL, this, Bool.and_false]
theorem isL_yes {q : Qv} (h1 : isQ q = true) (h2 : (q.f.length : Int) = q.v - 1) (h : lnTo q q.f.length) : isL q = true := by
  have hl := (isQ_t.1 h1).2.1
  simp only [isL, h1, h2, decide_true, Bool.true_and]
  rw [List.all_eq_true]
  intro j hj
  have hj := List.mem_range.1 hj
  have hj' : j < q.t.length := by omega
  exact h j _ _ hj (by simp [List.getD, hj]) (by simp [List.getD, hj'])
theorem isZ_t {q : Qv} (h : isZ q = true) : isQ q = true ∧ (q.f.length : Int) = q.v - 1 ∧ zzTo q q.f.length := by
  simp only [isZ, Bool.and_eq_true, decide_eq_true_eq, List.all_eq_true] at h
  refine ⟨h.1.1, h.1.2, fun j x y hj hx hy => ?_⟩
  have := h.2 j (List.mem_range.2 hj)
  simpa [List.getD, hx, hy] using this
theorem isL_noZ {q : Qv} (h : isZ q = false) : isL q = false := by
  rcases h1 : isL q with _ | _
  · rfl
  · simp only [isL, Bool.and_eq_true, decide_eq_true_eq, List.all_eq_true] at h1
    have : isZ q = true := isZ_yes h1.1.1 h1.1.2 (fun j x y hj hx hy => by
      have := h1.2 j (List.mem_range.2 hj)
      simp only [List.getD, hx, hy, Option.getD_some, lnAt, decide_eq_true_eq] at this
      simp [zzAt, this])
    rw [h] at this
    cases this
/-- all arrows so far begin where they should -/
def fromTo (q : Qv) (k : Nat) : Prop := ∀ (j : Nat) (x : Int), j < k → q.f[j]? = some x → x = j
theorem isL_ofZ {q : Qv} (h : isZ q = true) (hf : fromTo q q.f.length) : isL q = true := by
  obtain ⟨h1, h2, h3⟩ := isZ_t h
  refine isL_yes h1 h2 fun j x y hj hx hy => ?_
  have e := hf j x hj hx
  have := h3 j x y hj hx hy
  simp only [zzAt, decide_eq_true_eq] at this
  simp only [lnAt, decide_eq_true_eq]
  omega
theorem isL_badZ {q : Qv} {k : Nat} {x : Int} (h : isZ q = true) (hx : q.f[k]? = some x) (hne : x ≠ k) : isL q = false := by
  obtain ⟨h1, h2, h3⟩ := isZ_t h
  have hl := (isQ_t.1 h1).2.1
  have hk := lt_of_some hx
  obtain ⟨y, hy⟩ : ∃ y, q.t[k]? = some y := ⟨_, List.getElem?_eq_getElem (by omega)⟩
  exact isL_bad hx hy (by simp [lnAt, hne])

set_option maxHeartbeats 1600000 in
theorem implIsLine_any (u : Value) (q : Qv) (w : World) (hu : QvR w w.heap.size u q) :
    Calls Try.prog 72 #[u] w fun e w' => e = .returned (.bool (isL q)) ∧ Below w.heap.size w w' := by
  have hu' := hu
  obtain ⟨A, c, C, d, rfl, hf, ht, hr, lf, lt⟩ := hu.open_
  clear hu
  obtain ⟨W, hW⟩ : ∃ W, W = w.alloc (.cells #[.int .i64 q.v, .slice A q.f.length c, .slice C q.t.length d] 26) := ⟨_, rfl⟩
  have g0 : Below w.heap.size w W := by rw [hW]; exact below_alloc _ _
  have kB : Blk W w.heap.size 26 #[.int .i64 q.v, .slice A q.f.length c, .slice C q.t.length d] := by rw [hW]; exact Blk.new _ _ _
  rcases hQ : isZ q with _ | _
  · rw [isL_noZ hQ]
    go_enter Try.func72, Try.ntmps72
    go_wp2_with fail
    rw [← hW]; clear hW
    refine (implIsZigzag_any _ q _ (hu'.next g0)).mono ?_; rintro e w1 ⟨rfl, hb1⟩
    rw [hQ]
    go_wp2
    go_ret
    exact ⟨rfl, bthen g0 hb1⟩
  · go_enter Try.func72, Try.ntmps72
    go_wp2_with fail
    rw [← hW]; clear hW
    refine (implIsZigzag_any _ q _ (hu'.next g0)).mono ?_; rintro e w1 ⟨rfl, hb1⟩
    rw [hQ]
    have g1 := bthen g0 hb1
    have kB1 := kB.call hb1
    have c1 := kB1.cell' (i := 1) rfl
    clear kB g0 hb1 hu'
    go_wp2
    go_loopw [11] (fun i wr => ∃ (k m : Nat), k ≤ q.f.length ∧ i = .int .i64 k ∧ wr = w1.drewN m ∧ Hid (fromTo q k)) (fun i _ => q.f.length - (intOf i).toNat)
    case atStart => exact ⟨0, 0, Nat.zero_le _, rfl, rfl, fun j x hj => absurd hj (by omega)⟩
    case round =>
      obtain ⟨k, m, hk, rfl, rfl, hz⟩ := hrel
      by_cases hlt : k < q.f.length
      · obtain ⟨b, o, x, rfl, hb, HX, x1, hx1, hx2⟩ := SlI.at_ hf hlt
        have d1 := bcell g1 hb x1
        clear hf ht x1
        by_cases h1 : x = k
        · have hst := Lib.hid (show fromTo q (k + 1) from fun j z hj hz' => by
            by_cases e : j = k
            · subst e
              have := HX.out
              rw [this] at hz'
              injection hz' with hz'
              omega
            · exact hz.out j z (by omega) hz')
          subst h1
          go_wp2
          go_roundw
          case rel => exact ⟨k + 1, m, by omega, by go_num, rfl, hst.out⟩
          case measure => simp [intOf]; omega
        · have e1 : (x != (k : Int)) = true := by simpa using h1
          have hfin := Lib.hid (isL_badZ hQ HX.out h1)
          clear h1
          go_wp2
          go_ret
          exact ⟨by rw [hfin.out]; rfl, below_drewN g1 _⟩
      · go_wp2
        go_ret
        have hfin := isL_ofZ hQ (fun j x hj => hz.out j x (by omega))
        exact ⟨by rw [hfin]; rfl, below_drewN g1 _⟩

theorem lnTo_step {q : Qv} {k : Nat} {x y : Int} (h : lnTo q k) (hx : q.f[k]? = some x) (hy : q.t[k]? = some y) (hz : lnAt k x y = true) : lnTo q (k + 1) := by
  intro j a b hj ha hb
  by_cases e : j = k
  · subst e
    rw [hx] at ha
    rw [hy] at hb
    injection ha with ha
    injection hb with hb
    subst ha hb
    exact hz
  · exact h j a b (by omega) ha hb

set_option maxHeartbeats 1600000 in
theorem specIsLine_any (u : Value) (q : Qv) (w : World) (hu : QvR w w.heap.size u q) :
    Calls Try.prog 71 #[u] w fun e w' => e = .returned (.bool (isL q)) ∧ Below w.heap.size w w' := by
  have hu' := hu
  obtain ⟨A, c, C, d, rfl, hf, ht, hr, lf, lt⟩ := hu.open_
  clear hu
  obtain ⟨W, hW⟩ : ∃ W, W = w.alloc (.cells #[.int .i64 q.v, .slice A q.f.length c, .slice C q.t.length d] 26) := ⟨_, rfl⟩
  have g0 : Below w.heap.size w W := by rw [hW]; exact below_alloc _ _
  have kB : Blk W w.heap.size 26 #[.int .i64 q.v, .slice A q.f.length c, .slice C q.t.length d] := by rw [hW]; exact Blk.new _ _ _
  rcases hQ : isQ q with _ | _
  · rw [isL_noQ hQ]
    go_enter Try.func71, Try.ntmps71
    go_wp2_with fail
    rw [← hW]; clear hW
    refine (specIsQuiver_any _ q _ (hu'.next g0)).mono ?_; rintro e w1 ⟨rfl, hb1⟩
    rw [hQ]
    go_wp2
    go_ret
    exact ⟨rfl, bthen g0 hb1⟩
  obtain ⟨⟨v1, v2⟩, hl, h6, _, _⟩ := isQ_t.1 hQ
  have HL := Lib.hid hl
  have hl' : q.f.length ≤ q.t.length := by omega
  clear hl
  by_cases hn : (q.f.length : Int) = q.v - 1
  · have hn' : ((q.f.length : Int) != q.v - 1) = false := by rw [bne_eq_false_iff_eq]; exact hn
    have HN := Lib.hid hn
    clear hn
    go_enter Try.func71, Try.ntmps71
    go_wp2_with fail
    rw [← hW]; clear hW
    refine (specIsQuiver_any _ q _ (hu'.next g0)).mono ?_; rintro e w1 ⟨rfl, hb1⟩
    rw [hQ]
    have g1 := bthen g0 hb1
    have kB1 := kB.call hb1
    have c0 := kB1.cell' (i := 0) rfl
    have c1 := kB1.cell' (i := 1) rfl
    have c2 := kB1.cell' (i := 2) rfl
    clear kB g0 hb1 hu'
    go_wp2
    go_loopw [3] (fun i wr => ∃ (k m : Nat), k ≤ q.f.length ∧ i = .int .i64 k ∧ wr = w1.drewN m ∧ Hid (lnTo q k)) (fun i _ => q.f.length - (intOf i).toNat)
    case atStart => exact ⟨0, 0, Nat.zero_le _, rfl, rfl, fun j x y hj => absurd hj (by omega)⟩
    case round =>
      obtain ⟨k, m, hk, rfl, rfl, hz⟩ := hrel
      by_cases hlt : k < q.f.length
      · obtain ⟨b, o, x, rfl, hb, HX, x1, hx1, hx2⟩ := SlI.at_ hf hlt
        obtain ⟨b', o', y, rfl, hb', HY, y1, hy1, hy2⟩ := SlI.at_ ht (show k < q.t.length by omega)
        have d1 := bcell g1 hb x1
        have d2 := bcell g1 hb' y1
        clear hf ht x1 y1
        rcases hzz : lnAt k x y with _ | _
        · have hfin := Lib.hid (isL_bad HX.out HY.out hzz)
          have hno : ¬ (x = k ∧ y = k + 1) := by simpa [lnAt] using hzz
          clear hzz
          by_cases h1 : x = k
          · have e1 : (x != (k : Int)) = false := by simpa using h1
            have e2 : (y != (k : Int) + 1) = true := by rw [bne_iff_ne]; exact fun h => hno ⟨h1, h⟩
            clear h1 hno
            go_wp2
            go_ret
            exact ⟨by rw [hfin.out]; rfl, below_drewN g1 _⟩
          · have e1 : (x != (k : Int)) = true := by simpa using h1
            clear h1 hno
            go_wp2
            go_ret
            exact ⟨by rw [hfin.out]; rfl, below_drewN g1 _⟩
        · have hyes : x = k ∧ y = k + 1 := by simpa [lnAt] using hzz
          have hst := Lib.hid (lnTo_step hz.out HX.out HY.out hzz)
          clear hzz HX HY
          obtain ⟨rfl, rfl⟩ := hyes
          go_wp2
          go_roundw
          case rel => exact ⟨k + 1, m, by omega, by go_num, rfl, hst.out⟩
          case measure => simp [intOf]; omega
      · go_wp2
        go_ret
        have hfin := isL_yes hQ HN.out (fun j x y hj => hz.out j x y (by omega))
        exact ⟨by rw [hfin]; rfl, below_drewN g1 _⟩
  · have hn' : ((q.f.length : Int) != q.v - 1) = true := by rw [bne_iff_ne]; exact hn
    rw [isL_len hn]
    clear hn
    go_enter Try.func71, Try.ntmps71
    go_wp2_with fail
    rw [← hW]; clear hW
    refine (specIsQuiver_any _ q _ (hu'.next g0)).mono ?_; rintro e w1 ⟨rfl, hb1⟩
    rw [hQ]
    have c0 := (kB.call hb1).cell' (i := 0) rfl
    have c1 := (kB.call hb1).cell' (i := 1) rfl
    go_wp2
    go_ret
    exact ⟨rfl, bthen g0 hb1⟩
end Go.Proofs.Ytjhllgldllbaaaa
