/- Numbers of one digit as text: FormatInt, digits. -/
import Derived.Test.YtjhllgldllbaaaaCmpB
import Derived.Lib.SlBytesRow
namespace Go.Proofs.Ytjhllgldllbaaaa
set_option linter.unusedVariables false
set_option linter.unusedSimpArgs false
open Go.RowKit

/-- a digit; numbers are brought to the range from 0 to 9 -/
def dgN (x : Int) : Int := if x < 0 then 0 else if 9 < x then 9 else x
def dgS (x : Int) : ByteArray := ⟨#[UInt8.ofNat (48 + (dgN x).toNat)]⟩
theorem dgN_r (x : Int) : 0 ≤ dgN x ∧ dgN x ≤ 9 := by unfold dgN; split; omega; split <;> omega
theorem dgN_of {n : Int} (h0 : 0 ≤ n) (h9 : n ≤ 9) : dgN n = n := by unfold dgN; rw [if_neg (by omega), if_neg (by omega)]
theorem bytes_nil (s : ByteArray) : s ++ (⟨#[]⟩ : ByteArray) = s := by
  apply ByteArray.ext
  simp
theorem dgS_size (x : Int) : (dgS x).size = 1 := rfl

theorem conv_one {x : Int} {k : Int} (hk : k = 48 + dgN x) (W : World) (g : Nat) (c : Nat) (hg : Blk W g 5 #[.int .u8 k]) :
    (convert 109 9 (.slice (some ⟨g, 0, none⟩) 1 c)).run Try.prog W = .ok (.string (dgS x)) W := by
  have h := Lib.run_convert_whole (P := Try.prog) W 109 5 9 Try.underlying109 Try.underlying5 Try.underlying9 g 0 (dgS x) (fun i hi => by
    have hi0 : i = 0 := by have := dgS_size x; omega
    subst hi0
    rw [hg.cell]
    have hr := dgN_r x
    have : ((dgS x)[0]'hi) = UInt8.ofNat (48 + (dgN x).toNat) := rfl
    rw [this, hk]
    have e : ((UInt8.ofNat (48 + (dgN x).toNat)).toNat : Int) = 48 + dgN x := by
      rw [UInt8.toNat_ofNat']
      omega
    rw [e]
    rfl) c
  rw [dgS_size] at h
  exact h

set_option maxHeartbeats 800000 in
theorem formatInt_any (n : Int) (w : World) (h0 : 0 ≤ n) (h9 : n ≤ 9) :
    Calls Try.prog 73 #[.int .i64 n] w fun e w' => e = .returned (.string (dgS n)) ∧ Below w.heap.size w w' := by
  by_cases hz : n = 0
  · subst hz
    go_enter Try.func73, Try.ntmps73
    go_wp2
    go_ret
    exact ⟨rfl, Below.refl _ _⟩
  · have hb : (n == 0) = false := by simpa using hz
    have hne : (n != 0) = true := by simpa using hz
    have hneg : ¬ n < 0 := by omega
    have hd : decide (n < 0) = false := by simp; omega
    have hc := fun W : World => conv_one (x := n) (k := 48 + n) (by rw [dgN_of h0 h9]) (W.alloc (.cells #[.int .u8 (48 + n)] 5)) W.heap.size 1 (Blk.new _ _ _)
    have hw8 : IntKind.u8.wrap (48 + n) = 48 + n := by
      have : n = 1 ∨ n = 2 ∨ n = 3 ∨ n = 4 ∨ n = 5 ∨ n = 6 ∨ n = 7 ∨ n = 8 ∨ n = 9 := by omega
      rcases this with rfl | rfl | rfl | rfl | rfl | rfl | rfl | rfl | rfl <;> decide
    have e1 : n % 10 = n := by omega
    have e2 : n / 10 = 0 := by omega
    have HN := bytes_nil (dgS n)
    have hsz : (dgS n).size ≤ 17592186044416 := by rw [dgS_size]; omega
    clear hz
    go_enter Try.func73, Try.ntmps73
    go_wp2
    refine wp_loop_rounds 2 ?_
    rw [rounds_succ]
    go_wp2
    rw [rounds_succ]
    go_wp2
    go_ret
    exact ⟨rfl, below_alloc _ _⟩

theorem infoByte : (Try.prog.info? 5).map (fun i => (i.zero, i.size, i.bytes)) = some (some (.int .u8 0), 1, 1) := by kernel_rfl
set_option maxHeartbeats 800000 in
set_option maxRecDepth 100000 in
theorem digits_one (v : Value) (x : Int) (w : World) (hv : SlI w w.heap.size v [x]) :
    Calls Try.prog 75 #[v] w fun e w' => e = .returned (.string (dgS x)) ∧ Below w.heap.size w w' := by
  obtain ⟨A, c, rfl, _, _, hn, hx⟩ := hv.open_
  clear hv
  obtain ⟨b, o, y, rfl, hb, HX, c1, hr⟩ := SlI.at_ hx (k := 0) (by simp)
  have hy := HX.out
  simp only [List.getElem?_cons_zero, Option.some.injEq] at hy
  subst hy
  simp only [List.length_cons, List.length_nil, Nat.zero_add, Nat.add_zero] at c1 ⊢
  obtain ⟨i0, hi, hz0, hz1, hz2⟩ := info_parts infoByte
  have hmk := run_mk (P := Try.prog) Try.underlying109 hi hz0 (n := 1) (by rw [hz2]; omega) (by omega)
  rw [hz1] at hmk
  clear hi hz0 hz1 hz2 hx hn HX
  have hmc : mkCells (.int .u8 0) (1 * 1) = #[.int .u8 0] := by first | kernel_rfl | decide | (apply Array.toList_inj.1; rw [mkCells, toList_madeCells_one]; rfl)
  rw [hmc] at hmk
  obtain ⟨d, hd⟩ : ∃ d, dgN x = d := ⟨_, rfl⟩
  have hdr := dgN_r x
  rw [hd] at hdr
  have hw8 : IntKind.u8.wrap (48 + d) = 48 + d := by
    have : d = 0 ∨ d = 1 ∨ d = 2 ∨ d = 3 ∨ d = 4 ∨ d = 5 ∨ d = 6 ∨ d = 7 ∨ d = 8 ∨ d = 9 := by omega
    rcases this with rfl | rfl | rfl | rfl | rfl | rfl | rfl | rfl | rfl | rfl <;> decide
  obtain ⟨W, hW⟩ : ∃ W, W = w.alloc (.cells #[.int .u8 0] 5) := ⟨_, rfl⟩
  have g0 : Below w.heap.size w W := by rw [hW]; exact below_alloc _ _
  have kB : Blk W w.heap.size 5 #[.int .u8 0] := by rw [hW]; exact Blk.new _ _ _
  have kB2 := kB.set_ 0 (.int .u8 (48 + d))
  have hc := conv_one (x := x) (k := 48 + d) (by rw [hd]) (W.setCell ⟨w.heap.size, 0, none⟩ (.int .u8 (48 + d))) w.heap.size 1 kB2
  have c2 := bcell g0 hb c1
  have f0 := kB.frozen
  have e0 := kB.cell' (i := 0) rfl
  have GF := Lib.hid (g0.setCell (p := ⟨w.heap.size, 0, none⟩) (by simp) (.int .u8 (48 + d)))
  have HD := Lib.hid hd
  clear c1 kB kB2 g0 hd
  have hmk2 := hmk w
  rw [← hW] at hmk2
  rw [show ((1 : Nat) : Int) = 1 from rfl] at hmk2
  clear hmk hW
  go_enter Try.func75, Try.ntmps75
  go_wp2
  refine wp_loop_rounds 2 ?_
  rw [rounds_succ]
  have hmm : min (max x 0) 9 = d := by
    rw [← HD.out]; unfold dgN; split
    · omega
    · split <;> omega
  go_wp2
  rw [rounds_succ]
  go_wp2
  go_ret
  exact ⟨rfl, GF.out⟩
end Go.Proofs.Ytjhllgldllbaaaa
