/- The two DirectionsOf. -/
import Derived.Test.YtndnjbofflddfaaZig
namespace Go.Proofs.Ytndnjbofflddfaa
set_option linter.unusedVariables false
set_option linter.unusedSimpArgs false
open Go.RowKit

def dirB (q : Qv) : Nat → ByteArray
  | 0 => ⟨#[]⟩
  | k + 1 => dirB q k ++ (if q.f.getD k 0 = (k : Int) then ⟨#[62]⟩ else ⟨#[60]⟩)
theorem dirB_step {q : Qv} {k : Nat} {x : Int} (hx : q.f[k]? = some x) : dirB q (k + 1) = dirB q k ++ (if x = (k : Int) then ⟨#[62]⟩ else ⟨#[60]⟩) := by
  have e : q.f.getD k 0 = x := by rw [List.getD_eq_getElem?_getD, hx]; rfl
  rw [dirB, e]
theorem dirB_size (q : Qv) : ∀ k, (dirB q k).size = k
  | 0 => rfl
  | k + 1 => by
    rw [dirB, ByteArray.size_append, dirB_size q k]
    split <;> rfl
def dirQ (q : Qv) : ByteArray := if isZ q then dirB q q.f.length else ⟨#[]⟩

set_option maxHeartbeats 800000 in
theorem implDirectionsOf_any (u : Value) (q : Qv) (w : World) (hu : QvR w w.heap.size u q) :
    Calls Try.prog 36 #[u] w fun e w' => e = .returned (.string (dirQ q)) ∧ Below w.heap.size w w' := by
  have hu' := hu
  obtain ⟨A, c, C, d, rfl, hf, hT, hr, lf, lt⟩ := hu.open_
  clear hu
  obtain ⟨W, hW⟩ : ∃ W, W = w.alloc (.cells #[.int .i64 q.v, .slice A q.f.length c, .slice C q.t.length d] 30) := ⟨_, rfl⟩
  have g0 : Below w.heap.size w W := by rw [hW]; exact below_alloc _ _
  have kB : Blk W w.heap.size 30 #[.int .i64 q.v, .slice A q.f.length c, .slice C q.t.length d] := by rw [hW]; exact Blk.new _ _ _
  have c0 := kB.cell' (i := 0) rfl
  have c1 := kB.cell' (i := 1) rfl
  have c2 := kB.cell' (i := 2) rfl
  have h0 := QvR.next g0 hu'
  clear hu'
  rcases hq : isZ q with _ | _
  · have hfin : Hid (dirQ q = ⟨#[]⟩) := by show _ = _; rw [dirQ, hq]; rfl
    go_enter Try.func36, Try.ntmps36
    go_wp2_with fail
    rw [← hW]; clear hW
    refine (implIsZigzag_any _ _ _ h0).mono ?_; rintro e w1 ⟨rfl, hb1⟩
    rw [hq]
    go_wp2
    go_ret
    exact ⟨by rw [hfin.out]; rfl, bthen g0 hb1⟩
  · have hfin : Hid (dirQ q = dirB q q.f.length) := by show _ = _; rw [dirQ, hq]; rfl
    go_enter Try.func36, Try.ntmps36
    go_wp2_with fail
    rw [← hW]; clear hW
    refine (implIsZigzag_any _ _ _ h0).mono ?_; rintro e w1 ⟨rfl, hb1⟩
    rw [hq]
    have k1 := kB.call hb1
    have g1 := bthen g0 hb1
    have d1 := k1.cell' (i := 1) rfl
    clear c0 c1 c2 kB g0 hb1 h0
    go_wp2
    go_loopw [3, 12] (fun s i wr => ∃ k n : Nat, k ≤ q.f.length ∧ i = .int .i64 k ∧ s = .string (dirB q k) ∧ wr = w1.drewN n) (fun _ i _ => q.f.length - (intOf i).toNat)
    case atStart => exact ⟨0, 0, Nat.zero_le _, rfl, rfl, rfl⟩
    case round =>
      obtain ⟨k, n, hk, rfl, rfl, rfl⟩ := hrel
      by_cases hlt : k < q.f.length
      · obtain ⟨b, o, x, rfl, hb, HX, x1, _⟩ := SlI.at_ hf hlt
        have x2 := bcell g1 hb x1
        obtain ⟨S, hS⟩ : ∃ S, dirB q k = S := ⟨_, rfl⟩
        have hst := dirB_step HX.out
        have hSz : S.size ≤ 17592186044416 := by rw [← hS, dirB_size]; omega
        rw [hS] at hst ⊢
        have HST := Lib.hid hst
        clear hS hst x1
        by_cases hxk : x = (k : Int)
        · have hxk' : (x == (k : Int)) = true := by rw [beq_iff_eq]; exact hxk
          have HS : Hid (dirB q (k + 1) = S ++ ⟨#[62]⟩) := by show _ = _; rw [HST.out, if_pos hxk]
          clear hxk
          go_wp2
          go_roundw
          case rel => exact ⟨k + 1, n, by omega, by go_num, by rw [HS.out], rfl⟩
          case measure => simp [intOf]; omega
        · have hxk' : (x == (k : Int)) = false := by rw [beq_eq_false_iff_ne]; exact hxk
          have HS : Hid (dirB q (k + 1) = S ++ ⟨#[60]⟩) := by show _ = _; rw [HST.out, if_neg hxk]
          clear hxk
          go_wp2
          go_roundw
          case rel => exact ⟨k + 1, n, by omega, by go_num, by rw [HS.out], rfl⟩
          case measure => simp [intOf]; omega
      · have HE : Hid (dirQ q = dirB q k) := by show _ = _; rw [hfin.out, show q.f.length = k by omega]
        go_wp2
        go_ret
        exact ⟨by rw [HE.out]; rfl, below_drewN g1 n⟩

set_option maxHeartbeats 800000 in
theorem specDirectionsOf_any (u : Value) (q : Qv) (w : World) (hu : QvR w w.heap.size u q) :
    Calls Try.prog 35 #[u] w fun e w' => e = .returned (.string (dirQ q)) ∧ Below w.heap.size w w' := by
  have hu' := hu
  obtain ⟨A, c, C, d, rfl, hf, hT, hr, lf, lt⟩ := hu.open_
  clear hu
  have g0 : Below w.heap.size w (w.alloc (.cells #[.int .i64 q.v, .slice A q.f.length c, .slice C q.t.length d] 30)) := below_alloc _ _
  have kB := Blk.new w 30 #[.int .i64 q.v, .slice A q.f.length c, .slice C q.t.length d]
  rcases hq : isZ q with _ | _
  · have hfin : Hid (dirQ q = ⟨#[]⟩) := by show _ = _; rw [dirQ, hq]; rfl
    go_enter Try.func35, Try.ntmps35
    go_wp2
    go_loopw [3, 4] (fun s i wr => i = .int .i64 0 ∧ s = .string ⟨#[]⟩ ∧ Below w.heap.size w wr ∧ Blk wr w.heap.size 30 #[.int .i64 q.v, .slice A q.f.length c, .slice C q.t.length d]) (fun _ i _ => 0)
    case atStart => exact ⟨rfl, rfl, g0, kB⟩
    case round =>
      clear g0 kB
      obtain ⟨rfl, rfl, hbel, hkB⟩ := hrel
      have e0 := hkB.cell' (i := 0) rfl
      have e1 := hkB.cell' (i := 1) rfl
      have e2 := hkB.cell' (i := 2) rfl
      have hrq := QvR.more (B' := wr.heap.size) (by have := hbel.size; omega) (QvR.below hbel hu')
      by_cases hlt : 0 < q.f.length
      · go_wp2_with fail
        refine (specIsZigzag_any _ _ _ hrq).mono ?_; rintro e w1 ⟨rfl, hb1⟩
        rw [hq]
        go_wp2
        go_ret
        exact ⟨by rw [hfin.out]; rfl, hbel.trans (hb1.mono hbel.size)⟩
      · go_wp2
        go_ret
        exact ⟨by rw [hfin.out]; rfl, hbel⟩
  · have hfin : Hid (dirQ q = dirB q q.f.length) := by show _ = _; rw [dirQ, hq]; rfl
    go_enter Try.func35, Try.ntmps35
    go_wp2
    go_loopw [3, 4] (fun s i wr => ∃ k : Nat, k ≤ q.f.length ∧ i = .int .i64 k ∧ s = .string (dirB q k) ∧ Below w.heap.size w wr ∧ Blk wr w.heap.size 30 #[.int .i64 q.v, .slice A q.f.length c, .slice C q.t.length d]) (fun _ i _ => q.f.length - (intOf i).toNat)
    case atStart => exact ⟨0, Nat.zero_le _, rfl, rfl, g0, kB⟩
    case round =>
      clear g0 kB
      obtain ⟨k, hk, rfl, rfl, hbel, hkB⟩ := hrel
      have e0 := hkB.cell' (i := 0) rfl
      have e1 := hkB.cell' (i := 1) rfl
      have e2 := hkB.cell' (i := 2) rfl
      have hrq := QvR.more (B' := wr.heap.size) (by have := hbel.size; omega) (QvR.below hbel hu')
      by_cases hlt : k < q.f.length
      · obtain ⟨b, o, x, rfl, hb, HX, x1, _⟩ := SlI.at_ hf hlt
        obtain ⟨S, hS⟩ : ∃ S, dirB q k = S := ⟨_, rfl⟩
        have hst := dirB_step HX.out
        have hSz : S.size ≤ 17592186044416 := by rw [← hS, dirB_size]; omega
        rw [hS] at hst ⊢
        have HST := Lib.hid hst
        clear hS hst
        go_wp2_with fail
        refine (specIsZigzag_any _ _ _ hrq).mono ?_; rintro e w1 ⟨rfl, hb1⟩
        rw [hq]
        have hk1 := hkB.call hb1
        have hbel1 := hbel.trans (hb1.mono hbel.size)
        have x2 := bcell hbel1 hb x1
        have d1 := hk1.cell' (i := 1) rfl
        clear x1 e0 e1 e2 hrq
        by_cases hxk : x = (k : Int)
        · have hxk' : (x == (k : Int)) = true := by rw [beq_iff_eq]; exact hxk
          have HS : Hid (dirB q (k + 1) = S ++ ⟨#[62]⟩) := by show _ = _; rw [HST.out, if_pos hxk]
          clear hxk
          go_wp2
          go_roundw
          case rel => exact ⟨k + 1, by omega, by go_num, by rw [HS.out], hbel1, hk1⟩
          case measure => simp [intOf]; omega
        · have hxk' : (x == (k : Int)) = false := by rw [beq_eq_false_iff_ne]; exact hxk
          have HS : Hid (dirB q (k + 1) = S ++ ⟨#[60]⟩) := by show _ = _; rw [HST.out, if_neg hxk]
          clear hxk
          go_wp2
          go_roundw
          case rel => exact ⟨k + 1, by omega, by go_num, by rw [HS.out], hbel1, hk1⟩
          case measure => simp [intOf]; omega
      · have HE : Hid (dirQ q = dirB q k) := by show _ = _; rw [hfin.out, show q.f.length = k by omega]
        go_wp2
        go_ret
        exact ⟨by rw [HE.out]; rfl, hbel⟩
end Go.Proofs.Ytndnjbofflddfaa
