/- IsZigzag, IsLine, IntervalOf: the reference's and the program's. -/
import Derived.Test.YtjhllgldllbaaaaIsQ
namespace Go.Proofs.Ytjhllgldllbaaaa
set_option linter.unusedVariables false
set_option linter.unusedSimpArgs false
open Go.RowKit

/-- the arrow k of a zigzag -/
def zzAt (k : Nat) (x y : Int) : Bool := decide ((x = k ∧ y = k + 1) ∨ (x = k + 1 ∧ y = k))
def zzTo (q : Qv) (k : Nat) : Prop := ∀ (j : Nat) (x y : Int), j < k → q.f[j]? = some x → q.t[j]? = some y → zzAt j x y = true
def isZ (q : Qv) : Bool := isQ q && decide ((q.f.length : Int) = q.v - 1) && (List.range q.f.length).all fun j => zzAt j (q.f.getD j 0) (q.t.getD j 0)
theorem isZ_noQ {q : Qv} (h : isQ q = false) : isZ q = false := by simp [isZ, h]
theorem isZ_len {q : Qv} (h : ¬ (q.f.length : Int) = q.v - 1) : isZ q = false := by simp [isZ, h]
theorem isZ_bad {q : Qv} {k : Nat} {x y : Int} (hx : q.f[k]? = some x) (hy : q.t[k]? = some y) (h : zzAt k x y = false) : isZ q = false := by
  have hk := lt_of_some hx
  have e1 : q.f.getD k 0 = x := by simp [List.getD, hx]
  have e2 : q.t.getD k 0 = y := by simp [List.getD, hy]
  have : ((List.range q.f.length).all fun j => zzAt j (q.f.getD j 0) (q.t.getD j 0)) = false := by
    rw [List.all_eq_false]
    exact ⟨k, List.mem_range.2 hk, by rw [e1, e2, h]; simp⟩
  simp only [isZ, this, Bool.and_false]
theorem isZ_yes {q : Qv} (h1 : isQ q = true) (h2 : (q.f.length : Int) = q.v - 1) (h : zzTo q q.f.length) : isZ q = true := by
  have hl := (isQ_t.1 h1).2.1
  simp only [isZ, h1, h2, decide_true, Bool.true_and]
  rw [List.all_eq_true]
  intro j hj
  have hj := List.mem_range.1 hj
  have hj' : j < q.t.length := by omega
  exact h j _ _ hj (by simp [List.getD, hj]) (by simp [List.getD, hj'])
theorem zzTo_step {q : Qv} {k : Nat} {x y : Int} (h : zzTo q k) (hx : q.f[k]? = some x) (hy : q.t[k]? = some y) (hz : zzAt k x y = true) : zzTo q (k + 1) := by
  intro j a b hj ha hb
  by_cases e : j = k
  · subst e
    rw [hx] at ha
    rw [hy] at hb
    injection ha with ha
    injection hb with hb
    subst ha hb
    exact hz
  · exact h j a b (by omega) ha hb

set_option maxHeartbeats 1600000 in
theorem implIsZigzag_any (u : Value) (q : Qv) (w : World) (hu : QvR w w.heap.size u q) :
    Calls Try.prog 64 #[u] w fun e w' => e = .returned (.bool (isZ q)) ∧ Below w.heap.size w w' := by
  have hu' := hu
  obtain ⟨A, c, C, d, rfl, hf, ht, hr, lf, lt⟩ := hu.open_
  clear hu
  obtain ⟨W, hW⟩ : ∃ W, W = w.alloc (.cells #[.int .i64 q.v, .slice A q.f.length c, .slice C q.t.length d] 26) := ⟨_, rfl⟩
  have g0 : Below w.heap.size w W := by rw [hW]; exact below_alloc _ _
  have kB : Blk W w.heap.size 26 #[.int .i64 q.v, .slice A q.f.length c, .slice C q.t.length d] := by rw [hW]; exact Blk.new _ _ _
  rcases hQ : isQ q with _ | _
  · rw [isZ_noQ hQ]
    go_enter Try.func64, Try.ntmps64
    go_wp2_with fail
    rw [← hW]; clear hW
    refine (implIsQuiver_any _ q _ (hu'.next g0)).mono ?_; rintro e w1 ⟨rfl, hb1⟩
    rw [hQ]
    go_wp2
    go_ret
    exact ⟨rfl, bthen g0 hb1⟩
  obtain ⟨⟨v1, v2⟩, hl, h6, _, _⟩ := isQ_t.1 hQ
  have HL := Lib.hid hl
  have hl' : q.f.length ≤ q.t.length := by omega
  clear hl
  by_cases hn : (q.f.length : Int) = q.v - 1
  · have hn' : ((q.f.length : Int) != q.v - 1) = false := by rw [bne_eq_false_iff_eq]; exact hn
    have HN := Lib.hid hn
    clear hn
    go_enter Try.func64, Try.ntmps64
    go_wp2_with fail
    rw [← hW]; clear hW
    refine (implIsQuiver_any _ q _ (hu'.next g0)).mono ?_; rintro e w1 ⟨rfl, hb1⟩
    rw [hQ]
    have g1 := bthen g0 hb1
    have kB1 := kB.call hb1
    have c0 := kB1.cell' (i := 0) rfl
    have c1 := kB1.cell' (i := 1) rfl
    have c2 := kB1.cell' (i := 2) rfl
    clear kB g0 hb1 hu'
    go_wp2
    go_loopw [20] (fun i wr => ∃ (k m : Nat), k ≤ q.f.length ∧ i = .int .i64 k ∧ wr = w1.drewN m ∧ Hid (zzTo q k)) (fun i _ => q.f.length - (intOf i).toNat)
    case atStart => exact ⟨0, 0, Nat.zero_le _, rfl, rfl, fun j x y hj => absurd hj (by omega)⟩
    case round =>
      obtain ⟨k, m, hk, rfl, rfl, hz⟩ := hrel
      by_cases hlt : k < q.f.length
      · obtain ⟨b, o, x, rfl, hb, HX, x1, hx1, hx2⟩ := SlI.at_ hf hlt
        obtain ⟨b', o', y, rfl, hb', HY, y1, hy1, hy2⟩ := SlI.at_ ht (show k < q.t.length by omega)
        have d1 := bcell g1 hb x1
        have d2 := bcell g1 hb' y1
        clear hf ht x1 y1
        rcases hzz : zzAt k x y with _ | _
        · have hfin := Lib.hid (isZ_bad HX.out HY.out hzz)
          have hno : ¬ ((x = k ∧ y = k + 1) ∨ (x = k + 1 ∧ y = k)) := by simpa [zzAt] using hzz
          have HNo := Lib.hid hno
          clear hno hzz
          rcases Int.lt_trichotomy x y with hxy | hxy | hxy
          · by_cases h1 : x = k
            · have e1 : (x != (k : Int)) = false := by simpa using h1
              have e2 : (y != (k : Int) + 1) = true := by rw [bne_iff_ne]; exact fun h => HNo.out (.inl ⟨h1, h⟩)
              have hle : x ≤ y := by omega
              have hle' : ¬ y < x := by omega
              clear h1
              go_wp2
              go_ret
              exact ⟨by rw [hfin.out]; rfl, below_drewN g1 _⟩
            · have e1 : (x != (k : Int)) = true := by simpa using h1
              have hle : x ≤ y := by omega
              have hle' : ¬ y < x := by omega
              clear h1
              go_wp2
              go_ret
              exact ⟨by rw [hfin.out]; rfl, below_drewN g1 _⟩
          · subst hxy
            by_cases h1 : x = k
            · have e1 : (x != (k : Int)) = false := by simpa using h1
              have e2 : (x != (k : Int) + 1) = true := by rw [bne_iff_ne]; omega
              clear h1
              go_wp2
              go_ret
              exact ⟨by rw [hfin.out]; rfl, below_drewN g1 _⟩
            · have e1 : (x != (k : Int)) = true := by simpa using h1
              clear h1
              go_wp2
              go_ret
              exact ⟨by rw [hfin.out]; rfl, below_drewN g1 _⟩
          · by_cases h1 : y = k
            · have e1 : (y != (k : Int)) = false := by simpa using h1
              have e2 : (x != (k : Int) + 1) = true := by rw [bne_iff_ne]; exact fun h => HNo.out (.inr ⟨h, h1⟩)
              have hle : y ≤ x := by omega
              have hle' : ¬ x < y := by omega
              clear h1
              go_wp2
              go_ret
              exact ⟨by rw [hfin.out]; rfl, below_drewN g1 _⟩
            · have e1 : (y != (k : Int)) = true := by simpa using h1
              have hle : y ≤ x := by omega
              have hle' : ¬ x < y := by omega
              clear h1
              go_wp2
              go_ret
              exact ⟨by rw [hfin.out]; rfl, below_drewN g1 _⟩
        · have hyes : (x = k ∧ y = k + 1) ∨ (x = k + 1 ∧ y = k) := by simpa [zzAt] using hzz
          have hst := Lib.hid (zzTo_step hz.out HX.out HY.out hzz)
          clear hzz HX HY
          rcases hyes with ⟨rfl, rfl⟩ | ⟨rfl, rfl⟩
          all_goals
            go_wp2
            go_roundw
            case rel => exact ⟨k + 1, m, by omega, by go_num, rfl, hst.out⟩
            case measure => simp [intOf]; omega
      · go_wp2
        go_ret
        have hfin := isZ_yes hQ HN.out (fun j x y hj => hz.out j x y (by omega))
        exact ⟨by rw [hfin]; rfl, below_drewN g1 _⟩
  · have hn' : ((q.f.length : Int) != q.v - 1) = true := by rw [bne_iff_ne]; exact hn
    rw [isZ_len hn]
    clear hn
    go_enter Try.func64, Try.ntmps64
    go_wp2_with fail
    rw [← hW]; clear hW
    refine (implIsQuiver_any _ q _ (hu'.next g0)).mono ?_; rintro e w1 ⟨rfl, hb1⟩
    rw [hQ]
    have c0 := (kB.call hb1).cell' (i := 0) rfl
    have c1 := (kB.call hb1).cell' (i := 1) rfl
    go_wp2
    go_ret
    exact ⟨rfl, bthen g0 hb1⟩


set_option maxHeartbeats 1600000 in
theorem specIsZigzag_any (u : Value) (q : Qv) (w : World) (hu : QvR w w.heap.size u q) :
    Calls Try.prog 60 #[u] w fun e w' => e = .returned (.bool (isZ q)) ∧ Below w.heap.size w w' := by
  have hu' := hu
  obtain ⟨A, c, C, d, rfl, hf, ht, hr, lf, lt⟩ := hu.open_
  clear hu
  obtain ⟨W, hW⟩ : ∃ W, W = w.alloc (.cells #[.int .i64 q.v, .slice A q.f.length c, .slice C q.t.length d] 26) := ⟨_, rfl⟩
  have g0 : Below w.heap.size w W := by rw [hW]; exact below_alloc _ _
  have kB : Blk W w.heap.size 26 #[.int .i64 q.v, .slice A q.f.length c, .slice C q.t.length d] := by rw [hW]; exact Blk.new _ _ _
  rcases hQ : isQ q with _ | _
  · rw [isZ_noQ hQ]
    go_enter Try.func60, Try.ntmps60
    go_wp2_with fail
    rw [← hW]; clear hW
    refine (specIsQuiver_any _ q _ (hu'.next g0)).mono ?_; rintro e w1 ⟨rfl, hb1⟩
    rw [hQ]
    go_wp2
    go_ret
    exact ⟨rfl, bthen g0 hb1⟩
  obtain ⟨⟨v1, v2⟩, hl, h6, _, _⟩ := isQ_t.1 hQ
  have HL := Lib.hid hl
  have hl' : q.f.length ≤ q.t.length := by omega
  clear hl
  by_cases hn : (q.f.length : Int) = q.v - 1
  · have hn' : ((q.f.length : Int) != q.v - 1) = false := by rw [bne_eq_false_iff_eq]; exact hn
    have HN := Lib.hid hn
    clear hn
    go_enter Try.func60, Try.ntmps60
    go_wp2_with fail
    rw [← hW]; clear hW
    refine (specIsQuiver_any _ q _ (hu'.next g0)).mono ?_; rintro e w1 ⟨rfl, hb1⟩
    rw [hQ]
    have g1 := bthen g0 hb1
    have kB1 := kB.call hb1
    have c0 := kB1.cell' (i := 0) rfl
    have c1 := kB1.cell' (i := 1) rfl
    have c2 := kB1.cell' (i := 2) rfl
    clear kB g0 hb1 hu'
    go_wp2
    go_loopw [3] (fun i wr => ∃ (k m : Nat), k ≤ q.f.length ∧ i = .int .i64 k ∧ wr = w1.drewN m ∧ Hid (zzTo q k)) (fun i _ => q.f.length - (intOf i).toNat)
    case atStart => exact ⟨0, 0, Nat.zero_le _, rfl, rfl, fun j x y hj => absurd hj (by omega)⟩
    case round =>
      obtain ⟨k, m, hk, rfl, rfl, hz⟩ := hrel
      by_cases hlt : k < q.f.length
      · obtain ⟨b, o, x, rfl, hb, HX, x1, hx1, hx2⟩ := SlI.at_ hf hlt
        obtain ⟨b', o', y, rfl, hb', HY, y1, hy1, hy2⟩ := SlI.at_ ht (show k < q.t.length by omega)
        have d1 := bcell g1 hb x1
        have d2 := bcell g1 hb' y1
        clear hf ht x1 y1
        rcases hzz : zzAt k x y with _ | _
        · have hfin := Lib.hid (isZ_bad HX.out HY.out hzz)
          have hno : ¬ ((x = k ∧ y = k + 1) ∨ (x = k + 1 ∧ y = k)) := by simpa [zzAt] using hzz
          have HNo := Lib.hid hno
          clear hno hzz
          rcases Int.lt_trichotomy x y with hxy | hxy | hxy
          · by_cases h1 : x = k
            · have e1 : (x != (k : Int)) = false := by simpa using h1
              have e2 : (y != (k : Int) + 1) = true := by rw [bne_iff_ne]; exact fun h => HNo.out (.inl ⟨h1, h⟩)
              have hle : x ≤ y := by omega
              have hle' : ¬ y < x := by omega
              clear h1
              go_wp2
              go_quiet (fail)
              go_wp2
              go_ret
              exact ⟨by rw [hfin.out]; rfl, below_drewN (below_drewN g1 _) _⟩
            · have e1 : (x != (k : Int)) = true := by simpa using h1
              have hle : x ≤ y := by omega
              have hle' : ¬ y < x := by omega
              clear h1
              go_wp2
              go_quiet (fail)
              go_wp2
              go_ret
              exact ⟨by rw [hfin.out]; rfl, below_drewN (below_drewN g1 _) _⟩
          · subst hxy
            by_cases h1 : x = k
            · have e1 : (x != (k : Int)) = false := by simpa using h1
              have e2 : (x != (k : Int) + 1) = true := by rw [bne_iff_ne]; omega
              clear h1
              go_wp2
              go_quiet (fail)
              go_wp2
              go_ret
              exact ⟨by rw [hfin.out]; rfl, below_drewN (below_drewN g1 _) _⟩
            · have e1 : (x != (k : Int)) = true := by simpa using h1
              clear h1
              go_wp2
              go_quiet (fail)
              go_wp2
              go_ret
              exact ⟨by rw [hfin.out]; rfl, below_drewN (below_drewN g1 _) _⟩
          · by_cases h1 : y = k
            · have e1 : (y != (k : Int)) = false := by simpa using h1
              have e2 : (x != (k : Int) + 1) = true := by rw [bne_iff_ne]; exact fun h => HNo.out (.inr ⟨h, h1⟩)
              have hle : y ≤ x := by omega
              have hle' : ¬ x < y := by omega
              clear h1
              go_wp2
              go_quiet (fail)
              go_wp2
              go_ret
              exact ⟨by rw [hfin.out]; rfl, below_drewN (below_drewN g1 _) _⟩
            · have e1 : (y != (k : Int)) = true := by simpa using h1
              have hle : y ≤ x := by omega
              have hle' : ¬ x < y := by omega
              clear h1
              go_wp2
              go_quiet (fail)
              go_wp2
              go_ret
              exact ⟨by rw [hfin.out]; rfl, below_drewN (below_drewN g1 _) _⟩
        · have hyes : (x = k ∧ y = k + 1) ∨ (x = k + 1 ∧ y = k) := by simpa [zzAt] using hzz
          have hst := Lib.hid (zzTo_step hz.out HX.out HY.out hzz)
          clear hzz HX HY
          rcases hyes with ⟨rfl, rfl⟩ | ⟨rfl, rfl⟩
          all_goals
            go_wp2
            go_quiet (fail)
            go_wp2
            go_roundw
            case rel => exact ⟨k + 1, m + nq, by omega, by go_num, rfl, hst.out⟩
            case measure => simp [intOf]; omega
      · go_wp2
        go_ret
        have hfin := isZ_yes hQ HN.out (fun j x y hj => hz.out j x y (by omega))
        exact ⟨by rw [hfin]; rfl, below_drewN g1 _⟩
  · have hn' : ((q.f.length : Int) != q.v - 1) = true := by rw [bne_iff_ne]; exact hn
    rw [isZ_len hn]
    clear hn
    go_enter Try.func60, Try.ntmps60
    go_wp2_with fail
    rw [← hW]; clear hW
    refine (specIsQuiver_any _ q _ (hu'.next g0)).mono ?_; rintro e w1 ⟨rfl, hb1⟩
    rw [hQ]
    have c0 := (kB.call hb1).cell' (i := 0) rfl
    have c1 := (kB.call hb1).cell' (i := 1) rfl
    go_wp2
    go_ret
    exact ⟨rfl, bthen g0 hb1⟩
end Go.Proofs.Ytjhllgldllbaaaa
