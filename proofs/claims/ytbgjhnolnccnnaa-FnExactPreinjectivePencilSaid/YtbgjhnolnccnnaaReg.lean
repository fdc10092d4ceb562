/- RegularPencil: the reference's. -/
import Derived.Test.YtbgjhnolnccnnaaRowAt
import Derived.Test.YtbgjhnolnccnnaaPenSz
namespace Go.Proofs.Ytbgjhnolnccnnaa
set_option linter.unusedVariables false
set_option linter.unusedSimpArgs false
open Go.RowKit

def regF (k : Int) (a b : Nat) : Int := if a = b then k else if b = a + 1 then 1 else 0
def regK (k : Int) (i a b : Nat) : Int := if i ≤ a then 0 else regF k a b
def regH (k : Int) (i a b : Nat) : Int := if a = i ∧ b = i then k else regK k i a b
theorem regK_0 (k : Int) (n : Nat) : flat n n (fun _ _ => 0) = flat n n (regK k 0) := flat_congr fun a b _ _ => by simp [regK]
theorem regH_of {n i : Nat} (k : Int) (h : i < n) : (flat n n (regK k i)).set (i * n + i) k = flat n n (regH k i) := flat_set _ _ h h
theorem regK_of {n i : Nat} (k : Int) (h : i + 1 < n) : (flat n n (regH k i)).set (i * n + (i + 1)) 1 = flat n n (regK k (i + 1)) := by
  rw [flat_set _ _ (by omega) h]
  refine flat_congr fun a b _ _ => ?_
  simp only [regH, regK, regF]
  (repeat' split) <;> first | rfl | omega
theorem regK_last {n i : Nat} (k : Int) (h : i + 1 = n) : flat n n (regH k i) = flat n n (regK k (i + 1)) := by
  refine flat_congr fun a b _ hb => ?_
  simp only [regH, regK, regF]
  (repeat' split) <;> first | rfl | omega
theorem regK_n (k : Int) (n : Nat) : flat n n (regK k n) = flat n n (regF k) := flat_congr fun a b ha _ => by rw [regK, if_neg (by omega)]
theorem regK_I64 {k : Int} (hk : I64 k) (i a b : Nat) : I64 (regK k i a b) := by
  unfold regK regF
  split
  · simp [I64]
  · split
    · exact hk
    · split <;> simp [I64]

def regOk (p n k : Int) : Bool := isFld p && (inR n 1 4 && inR k 0 (p - 1))
def regP (p n k : Int) : Rp × Bool := if regOk p n k then penOf p (mxF n.toNat n.toNat idF) (mxF n.toNat n.toNat (regF k)) else (rp0, false)
theorem regP_no {p n k : Int} (h : regOk p n k = false) : regP p n k = (rp0, false) := by simp [regP, h]
theorem regP_yes {p n k : Int} (h : regOk p n k = true) : regP p n k = penOf p (mxF n.toNat n.toNat idF) (mxF n.toNat n.toNat (regF k)) := by simp [regP, h]
theorem regP_size (p n k : Int) : (regP p n k).1.size ≤ 1000 := by
  unfold regP
  split
  · exact penOf_size _ _ _
  · decide

set_option maxHeartbeats 1600000 in
theorem specReg_no (p n k : Int) (w : World) (hp : I64 p) (hn : I64 n) (hk : I64 k) (hno : regOk p n k = false) :
    Calls Try.prog 33 #[.int .i64 p, .int .i64 n, .int .i64 k] w fun e w' => ∃ r, e = .returned (.tuple #[r, .bool (regP p n k).2]) ∧ RepO w' w.heap.size w'.heap.size r (regP p n k).1 ∧ Below w.heap.size w w' := by
  obtain ⟨W, hW⟩ : ∃ W, W = w.alloc (.cells #[.int .i64 0, .int .i64 0, .slice none 0 0, .slice none 0 0, .slice none 0 0, .slice none 0 0] 40) := ⟨_, rfl⟩
  have g0 : Below w.heap.size w W := by rw [hW]; exact below_alloc _ _
  have kR : Blk W w.heap.size 40 #[.int .i64 0, .int .i64 0, .slice none 0 0, .slice none 0 0, .slice none 0 0, .slice none 0 0] := by rw [hW]; exact Blk.new _ _ _
  have sz : W.heap.size = w.heap.size + 1 := by rw [hW]; simp
  have SZ := Lib.hid sz
  have hF := Lib.hid (regP_no hno)
  have fr := kR.frozen
  have s0 := kR.cell' (i := 0) rfl
  have s1 := kR.cell' (i := 1) rfl
  have s2 := kR.cell' (i := 2) rfl
  have s3 := kR.cell' (i := 3) rfl
  have s4 := kR.cell' (i := 4) rfl
  have s5 := kR.cell' (i := 5) rfl
  clear sz kR
  unfold regOk at hno
  rcases h1 : isFld p with _ | _
  · have H1 := Lib.hid h1
    clear h1 hno
    go_enter Try.func33, Try.ntmps33
    go_wp2_with fail
    rw [← hW]; clear hW
    refine (specIsField_any _ _).mono ?_; rintro e w1 ⟨rfl, rfl⟩
    rw [H1.out]
    go_wp2
    have sz := SZ.out
    refine bodyPost_ret (v := .tuple #[.agg #[.int .i64 0, .int .i64 0, .slice none 0 0, .slice none 0 0, .slice none 0 0, .slice none 0 0], .bool false]) (by simp [results, go_sem, s0, s1, s2, s3, s4, s5]) rfl ⟨_, by rw [hF.out], by rw [hF.out]; exact RepO.zero _ _ _, (((((g0.setCell (by simp) _).setCell (by simp) _).setCell (by simp) _).setCell (by simp) _).setCell (by simp) _).setCell (by simp) _⟩
  have b1 := isFld_r h1
  rcases h2 : inR n 1 4 with _ | _
  · have H1 := Lib.hid h1
    have H2 := Lib.hid h2
    clear h1 h2 hno
    go_enter Try.func33, Try.ntmps33
    go_wp2_with fail
    rw [← hW]; clear hW
    refine (specIsField_any _ _).mono ?_; rintro e w1 ⟨rfl, rfl⟩
    rw [H1.out]
    go_wp2_with fail
    refine (l1In_any _ _ _ _).mono ?_; rintro e w2 ⟨rfl, rfl⟩
    rw [H2.out]
    go_wp2
    have sz := SZ.out
    refine bodyPost_ret (v := .tuple #[.agg #[.int .i64 0, .int .i64 0, .slice none 0 0, .slice none 0 0, .slice none 0 0, .slice none 0 0], .bool false]) (by simp [results, go_sem, s0, s1, s2, s3, s4, s5]) rfl ⟨_, by rw [hF.out], by rw [hF.out]; exact RepO.zero _ _ _, (((((g0.setCell (by simp) _).setCell (by simp) _).setCell (by simp) _).setCell (by simp) _).setCell (by simp) _).setCell (by simp) _⟩
  · have h3 : inR k 0 (p - 1) = false := by simpa [h1, h2] using hno
    have H1 := Lib.hid h1
    have H2 := Lib.hid h2
    have H3 := Lib.hid h3
    clear h1 h2 h3 hno
    go_enter Try.func33, Try.ntmps33
    go_wp2_with fail
    rw [← hW]; clear hW
    refine (specIsField_any _ _).mono ?_; rintro e w1 ⟨rfl, rfl⟩
    rw [H1.out]
    go_wp2_with fail
    refine (l1In_any _ _ _ _).mono ?_; rintro e w2 ⟨rfl, rfl⟩
    rw [H2.out]
    go_wp2_with fail
    refine (l1In_any _ _ _ _).mono ?_; rintro e w3 ⟨rfl, rfl⟩
    rw [H3.out]
    go_wp2
    have sz := SZ.out
    refine bodyPost_ret (v := .tuple #[.agg #[.int .i64 0, .int .i64 0, .slice none 0 0, .slice none 0 0, .slice none 0 0, .slice none 0 0], .bool false]) (by simp [results, go_sem, s0, s1, s2, s3, s4, s5]) rfl ⟨_, by rw [hF.out], by rw [hF.out]; exact RepO.zero _ _ _, (((((g0.setCell (by simp) _).setCell (by simp) _).setCell (by simp) _).setCell (by simp) _).setCell (by simp) _).setCell (by simp) _⟩
set_option maxHeartbeats 1600000 in
theorem implReg_no (p n k : Int) (w : World) (hp : I64 p) (hn : I64 n) (hk : I64 k) (hno : regOk p n k = false) :
    Calls Try.prog 34 #[.int .i64 p, .int .i64 n, .int .i64 k] w fun e w' => ∃ r, e = .returned (.tuple #[r, .bool (regP p n k).2]) ∧ RepO w' w.heap.size w'.heap.size r (regP p n k).1 ∧ Below w.heap.size w w' := by
  obtain ⟨W, hW⟩ : ∃ W, W = w.alloc (.cells #[.int .i64 0, .int .i64 0, .slice none 0 0, .slice none 0 0, .slice none 0 0, .slice none 0 0] 40) := ⟨_, rfl⟩
  have g0 : Below w.heap.size w W := by rw [hW]; exact below_alloc _ _
  have kR : Blk W w.heap.size 40 #[.int .i64 0, .int .i64 0, .slice none 0 0, .slice none 0 0, .slice none 0 0, .slice none 0 0] := by rw [hW]; exact Blk.new _ _ _
  have sz : W.heap.size = w.heap.size + 1 := by rw [hW]; simp
  have SZ := Lib.hid sz
  have hF := Lib.hid (regP_no hno)
  have fr := kR.frozen
  have s0 := kR.cell' (i := 0) rfl
  have s1 := kR.cell' (i := 1) rfl
  have s2 := kR.cell' (i := 2) rfl
  have s3 := kR.cell' (i := 3) rfl
  have s4 := kR.cell' (i := 4) rfl
  have s5 := kR.cell' (i := 5) rfl
  clear sz kR
  unfold regOk at hno
  rcases h1 : isFld p with _ | _
  · have H1 := Lib.hid h1
    clear h1 hno
    go_enter Try.func34, Try.ntmps34
    go_wp2_with fail
    rw [← hW]; clear hW
    refine (implIsField_any _ _).mono ?_; rintro e w1 ⟨rfl, rfl⟩
    rw [H1.out]
    go_wp2
    have sz := SZ.out
    refine bodyPost_ret (v := .tuple #[.agg #[.int .i64 0, .int .i64 0, .slice none 0 0, .slice none 0 0, .slice none 0 0, .slice none 0 0], .bool false]) (by simp [results, go_sem, s0, s1, s2, s3, s4, s5]) rfl ⟨_, by rw [hF.out], by rw [hF.out]; exact RepO.zero _ _ _, (((((g0.setCell (by simp) _).setCell (by simp) _).setCell (by simp) _).setCell (by simp) _).setCell (by simp) _).setCell (by simp) _⟩
  have b1 := isFld_r h1
  rcases h2 : inR n 1 4 with _ | _
  · have H1 := Lib.hid h1
    have H2 := Lib.hid h2
    clear h1 h2 hno
    go_enter Try.func34, Try.ntmps34
    go_wp2_with fail
    rw [← hW]; clear hW
    refine (implIsField_any _ _).mono ?_; rintro e w1 ⟨rfl, rfl⟩
    rw [H1.out]
    go_wp2_with fail
    refine (within_any _ _ _ _).mono ?_; rintro e w2 ⟨rfl, rfl⟩
    rw [H2.out]
    go_wp2
    have sz := SZ.out
    refine bodyPost_ret (v := .tuple #[.agg #[.int .i64 0, .int .i64 0, .slice none 0 0, .slice none 0 0, .slice none 0 0, .slice none 0 0], .bool false]) (by simp [results, go_sem, s0, s1, s2, s3, s4, s5]) rfl ⟨_, by rw [hF.out], by rw [hF.out]; exact RepO.zero _ _ _, (((((g0.setCell (by simp) _).setCell (by simp) _).setCell (by simp) _).setCell (by simp) _).setCell (by simp) _).setCell (by simp) _⟩
  · have h3 : inR k 0 (p - 1) = false := by simpa [h1, h2] using hno
    have H1 := Lib.hid h1
    have H2 := Lib.hid h2
    have H3 := Lib.hid h3
    clear h1 h2 h3 hno
    go_enter Try.func34, Try.ntmps34
    go_wp2_with fail
    rw [← hW]; clear hW
    refine (implIsField_any _ _).mono ?_; rintro e w1 ⟨rfl, rfl⟩
    rw [H1.out]
    go_wp2_with fail
    refine (within_any _ _ _ _).mono ?_; rintro e w2 ⟨rfl, rfl⟩
    rw [H2.out]
    go_wp2_with fail
    refine (within_any _ _ _ _).mono ?_; rintro e w3 ⟨rfl, rfl⟩
    rw [H3.out]
    go_wp2
    have sz := SZ.out
    refine bodyPost_ret (v := .tuple #[.agg #[.int .i64 0, .int .i64 0, .slice none 0 0, .slice none 0 0, .slice none 0 0, .slice none 0 0], .bool false]) (by simp [results, go_sem, s0, s1, s2, s3, s4, s5]) rfl ⟨_, by rw [hF.out], by rw [hF.out]; exact RepO.zero _ _ _, (((((g0.setCell (by simp) _).setCell (by simp) _).setCell (by simp) _).setCell (by simp) _).setCell (by simp) _).setCell (by simp) _⟩
end Go.Proofs.Ytbgjhnolnccnnaa
