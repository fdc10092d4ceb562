/- FormatBars: the reference's. -/
import Derived.Test.YtjhllgldllbaaaaFmt
import Derived.Laws.Closers25
namespace Go.Proofs.Ytjhllgldllbaaaa
set_option linter.unusedVariables false
set_option linter.unusedSimpArgs false
open Go.RowKit

def bMinus : ByteArray := ⟨#[45]⟩
def bX : ByteArray := ⟨#[120]⟩
def bSp : ByteArray := ⟨#[32]⟩
def bNone : ByteArray := ⟨#[110, 111, 110, 101]⟩
def barS (x : Bar) : ByteArray := (((dgS x.1 ++ bMinus) ++ dgS x.2.1) ++ bX) ++ dgS x.2.2
theorem barS_size (x : Bar) : (barS x).size = 5 := by
  simp only [barS, ByteArray.size_append, dgS_size]
  rfl
/-- the first k bars as text -/
def fmtTo (l : List Bar) : Nat → ByteArray
  | 0 => ⟨#[]⟩
  | k + 1 => (if k = 0 then fmtTo l k else fmtTo l k ++ bSp) ++ barS (l.getD k (0, 0, 0))
theorem fmtTo_size (l : List Bar) : ∀ k, (fmtTo l k).size = 6 * k - 1
  | 0 => rfl
  | k + 1 => by
    have h := fmtTo_size l k
    have h1 : bSp.size = 1 := rfl
    simp only [fmtTo]
    split
    · rename_i hk
      subst hk
      simp only [ByteArray.size_append, barS_size, h]
    · simp only [ByteArray.size_append, barS_size, h, h1]
      omega
def fmtB (l : List Bar) : ByteArray := if 1 ≤ l.length ∧ l.length ≤ 20 then fmtTo l l.length else bNone
theorem fmt_step (s : ByteArray) (x : Bar) : ((((s ++ dgS x.1) ++ bMinus) ++ dgS x.2.1) ++ bX) ++ dgS x.2.2 = s ++ barS x := by
  simp only [barS, ByteArray.append_assoc]
theorem dgS_N (x : Int) : dgS (dgN x) = dgS x := by
  have h := dgN_r x
  simp only [dgS, dgN_of h.1 h.2]
theorem maxmin_N (x : Int) : max 0 (min 9 x) = dgN x := by
  unfold dgN; split
  · omega
  · split <;> omega

set_option maxHeartbeats 3200000 in
set_option maxRecDepth 100000 in
theorem specFormatBars_any (v : Value) (l : List Bar) (w0 : World) (hv : SlB w0 w0.heap.size v l) :
    Calls Try.prog 27 #[v] w0 fun e w' => e = .returned (.string (fmtB l)) ∧ Below w0.heap.size w0 w' := by
  obtain ⟨D, d, rfl, _, _, hn, hx⟩ := hv.open_
  clear hv
  by_cases h20 : l.length ≤ 20
  · have hd20 : decide ((l.length : Int) ≤ 20) = true := decide_eq_true (by omega)
    go_enter Try.func27, Try.ntmps27
    go_wp2
    go_loopw [3, 4] (fun s i wr => ∃ k : Nat, k ≤ l.length ∧ i = .int .i64 k ∧ s = .string (fmtTo l k) ∧ Below w0.heap.size w0 wr) (fun _ i _ => l.length - (intOf i).toNat)
    case atStart => exact ⟨0, Nat.zero_le _, rfl, rfl, Below.refl _ _⟩
    case round =>
      obtain ⟨k, hk, rfl, rfl, hbel⟩ := hrel
      have hsz := fmtTo_size l k
      have ws := hbel.size
      by_cases hlt : k < l.length
      · obtain ⟨b, o, p1, p2, p3, rfl, hb, HX, y1, y2, y3, rx, ry, rz⟩ := SlB.at_ hx hlt
        have z1 := bcell hbel hb y1
        have z2 := bcell hbel hb y2
        have z3 := bcell hbel hb y3
        have hfs : Hid (fmtTo l (k + 1) = (if k = 0 then fmtTo l k else fmtTo l k ++ bSp) ++ barS (p1, p2, p3)) := by
          show _ = _
          rw [fmtTo, List.getD_eq_getElem?_getD, HX.out]; rfl
        have hw : ∀ w : World, Below wr.heap.size wr w → w.cell? ⟨b, o + k * 3, none⟩ = some (.int .i64 p1) ∧ w.cell? ⟨b, o + k * 3 + 1, none⟩ = some (.int .i64 p2) ∧ w.cell? ⟨b, o + k * 3 + 2, none⟩ = some (.int .i64 p3) :=
          fun w h => ⟨bcell h (by omega) z1, bcell h (by omega) z2, bcell h (by omega) z3⟩
        have HW := Lib.hid hw
        obtain ⟨F, hF⟩ : ∃ F, fmtTo l k = F := ⟨_, rfl⟩
        rw [hF] at hfs hsz ⊢
        clear hF y1 y2 y3 z1 z2 z3 hw
        by_cases h0 : 0 < k
        · rw [show (if k = 0 then F else F ++ bSp) = F ++ bSp by rw [if_neg (by omega)]] at hfs
          obtain ⟨s, hs⟩ : ∃ s, F ++ (⟨#[32]⟩ : ByteArray) = s := ⟨_, rfl⟩
          have hfs2 : Hid (fmtTo l (k + 1) = s ++ barS (p1, p2, p3)) := by show _ = _; rw [hfs.out, ← hs]; rfl
          have hss : s.size ≤ 200 := by
            rw [← hs, ByteArray.size_append]; have : (⟨#[32]⟩ : ByteArray).size = 1 := rfl; omega
          have hsF : F.size ≤ 17592186044416 := by omega
          clear hfs
          go_wp2
          clear hs
          have s1 : (s ++ dgS p1).size ≤ 17592186044416 := by simp only [ByteArray.size_append, dgS_size]; omega
          have s2 : (s ++ dgS p1 ++ (⟨#[45]⟩ : ByteArray)).size ≤ 17592186044416 := by have : (⟨#[45]⟩ : ByteArray).size = 1 := rfl; simp only [ByteArray.size_append, dgS_size]; omega
          have s3 : (s ++ dgS p1 ++ (⟨#[45]⟩ : ByteArray) ++ dgS p2).size ≤ 17592186044416 := by have : (⟨#[45]⟩ : ByteArray).size = 1 := rfl; simp only [ByteArray.size_append, dgS_size]; omega
          have s4 : (s ++ dgS p1 ++ (⟨#[45]⟩ : ByteArray) ++ dgS p2 ++ (⟨#[120]⟩ : ByteArray)).size ≤ 17592186044416 := by have : (⟨#[45]⟩ : ByteArray).size = 1 := rfl; have : (⟨#[120]⟩ : ByteArray).size = 1 := rfl; simp only [ByteArray.size_append, dgS_size]; omega
          have d1 : (dgS p1).size ≤ 17592186044416 := by rw [dgS_size]; omega
          have d2 : (dgS p2).size ≤ 17592186044416 := by rw [dgS_size]; omega
          have d3 : (dgS p3).size ≤ 17592186044416 := by rw [dgS_size]; omega
          have s0 : s.size ≤ 17592186044416 := by omega
          have r1 := dgN_r p1
          have r2 := dgN_r p2
          have r3 := dgN_r p3
          refine wp_region_net (by kernel_rfl) [.eq (.string s), .eq (.slice (some ⟨b, o, none⟩) l.length d), .eq (.int .i64 k), .eq (.pointer (some ⟨b, o + k * 3, none⟩)), .eq (.pointer (some ⟨b, o + k * 3, none⟩)), .eq (.int .i64 p1), .eq (.int .i64 (min 9 p1)), .eq (.int .i64 (dgN p1)), .eq (.string (dgS p1)), .eq (.string (s ++ dgS p1)), .eq (.string (s ++ dgS p1 ++ (⟨#[45]⟩ : ByteArray))), .eq (.slice (some ⟨b, o, none⟩) l.length d), .eq (.int .i64 k), .eq (.pointer (some ⟨b, o + k * 3, none⟩)), .eq (.pointer (some ⟨b, o + k * 3 + 1, none⟩)), .eq (.int .i64 p2), .eq (.int .i64 (min 9 p2)), .eq (.int .i64 (dgN p2)), .eq (.string (dgS p2)), .eq (.string (s ++ dgS p1 ++ (⟨#[45]⟩ : ByteArray) ++ dgS p2)), .eq (.string (s ++ dgS p1 ++ (⟨#[45]⟩ : ByteArray) ++ dgS p2 ++ (⟨#[120]⟩ : ByteArray))), .eq (.slice (some ⟨b, o, none⟩) l.length d), .eq (.int .i64 k), .eq (.pointer (some ⟨b, o + k * 3, none⟩)), .eq (.pointer (some ⟨b, o + k * 3 + 2, none⟩)), .eq (.int .i64 p3), .eq (.int .i64 (min 9 p3)), .eq (.int .i64 (dgN p3)), .eq (.string (dgS p3)), .eq (.string (s ++ dgS p1 ++ (⟨#[45]⟩ : ByteArray) ++ dgS p2 ++ (⟨#[120]⟩ : ByteArray) ++ dgS p3))] [[], [], [], [1, 2], [1, 2, 3], [1, 2, 3, 4], [1, 2, 3, 4, 5], [1, 2, 3, 4, 5, 6], [1, 2, 3, 4, 5, 6, 7], [0, 1, 2, 3, 4, 5, 6, 7, 8], [0, 1, 2, 3, 4, 5, 6, 7, 8, 9], [], [], [11, 12], [11, 12, 13], [11, 12, 13, 14], [11, 12, 13, 14, 15], [11, 12, 13, 14, 15, 16], [1, 2, 3, 4, 5, 6, 7, 8, 11, 12, 13, 14, 15, 16, 17], [0, 1, 2, 3, 4, 5, 6, 7, 8, 9, 10, 11, 12, 13, 14, 15, 16, 17, 18], [0, 1, 2, 3, 4, 5, 6, 7, 8, 9, 10, 11, 12, 13, 14, 15, 16, 17, 18, 19], [], [], [21, 22], [21, 22, 23], [21, 22, 23, 24], [21, 22, 23, 24, 25], [21, 22, 23, 24, 25, 26], [1, 2, 3, 4, 5, 6, 7, 8, 11, 12, 13, 14, 15, 16, 17, 18, 21, 22, 23, 24, 25, 26, 27], [0, 1, 2, 3, 4, 5, 6, 7, 8, 9, 10, 11, 12, 13, 14, 15, 16, 17, 18, 19, 20, 21, 22, 23, 24, 25, 26, 27, 28], [0, 1, 2, 3, 4, 5, 6, 7, 8, 9, 10, 11, 12, 13, 14, 15, 16, 17, 18, 19, 20, 21, 22, 23, 24, 25, 26, 27, 28, 29]] 30 (by kernel_rfl) ⟨trivial, trivial, trivial, trivial, trivial, trivial, trivial, trivial, trivial, trivial, trivial, trivial, trivial, trivial, trivial, trivial, trivial, trivial, trivial, trivial, trivial, trivial, trivial, trivial, trivial, trivial, trivial, trivial, trivial, trivial, trivial⟩ ⟨?_, ?_, ?_, ?_, ?_, ?_, ?_, ?_, ?_, ?_, ?_, ?_, ?_, ?_, ?_, ?_, ?_, ?_, ?_, ?_, ?_, ?_, ?_, ?_, ?_, ?_, ?_, ?_, ?_, ?_, trivial⟩ ?_
          · intro x w hb hk Q' hQ
            clear hk
            simp only [netAct, dstAt, List.getElem?_toArray, List.getElem?_cons_zero, List.getElem?_cons_succ, Option.bind_some, Act.put, List.setIfInBounds_toArray, List.set_cons_zero, List.set_cons_succ] at hQ ⊢
            go_wp2
            exact hQ (.string s) _ (Below.refl _ _) rfl
          · intro x w hb hk Q' hQ
            clear hk
            simp only [netAct, dstAt, List.getElem?_toArray, List.getElem?_cons_zero, List.getElem?_cons_succ, Option.bind_some, Act.put, List.setIfInBounds_toArray, List.set_cons_zero, List.set_cons_succ] at hQ ⊢
            go_wp2
            exact hQ (.slice (some ⟨b, o, none⟩) l.length d) _ (Below.refl _ _) rfl
          · intro x w hb hk Q' hQ
            clear hk
            simp only [netAct, dstAt, List.getElem?_toArray, List.getElem?_cons_zero, List.getElem?_cons_succ, Option.bind_some, Act.put, List.setIfInBounds_toArray, List.set_cons_zero, List.set_cons_succ] at hQ ⊢
            go_wp2
            exact hQ (.int .i64 k) _ (Below.refl _ _) rfl
          · intro x w hb hk Q' hQ
            have h1 : x.v 1 = .slice (some ⟨b, o, none⟩) l.length d := (hk 1 (by decide)).1
            have h2 : x.v 2 = .int .i64 k := (hk 2 (by decide)).1
            clear hk
            simp only [netAct, dstAt, List.getElem?_toArray, List.getElem?_cons_zero, List.getElem?_cons_succ, Option.bind_some, Act.put, List.setIfInBounds_toArray, List.set_cons_zero, List.set_cons_succ] at hQ ⊢
            simp only [h1, h2] at hQ ⊢
            clear h1 h2
            go_wp2
            exact hQ (.pointer (some ⟨b, o + k * 3, none⟩)) _ (Below.refl _ _) rfl
          · intro x w hb hk Q' hQ
            have h3 : x.v 3 = .pointer (some ⟨b, o + k * 3, none⟩) := (hk 3 (by decide)).1
            clear hk
            simp only [netAct, dstAt, List.getElem?_toArray, List.getElem?_cons_zero, List.getElem?_cons_succ, Option.bind_some, Act.put, List.setIfInBounds_toArray, List.set_cons_zero, List.set_cons_succ] at hQ ⊢
            simp only [h3] at hQ ⊢
            clear h3
            go_wp2
            exact hQ (.pointer (some ⟨b, o + k * 3, none⟩)) _ (Below.refl _ _) rfl
          · intro x w hb hk Q' hQ
            have h4 : x.v 4 = .pointer (some ⟨b, o + k * 3, none⟩) := (hk 4 (by decide)).1
            clear hk
            simp only [netAct, dstAt, List.getElem?_toArray, List.getElem?_cons_zero, List.getElem?_cons_succ, Option.bind_some, Act.put, List.setIfInBounds_toArray, List.set_cons_zero, List.set_cons_succ] at hQ ⊢
            simp only [h4] at hQ ⊢
            clear h4
            have q0 := (HW.out w hb).1
            go_wp2
            exact hQ (.int .i64 p1) _ (Below.refl _ _) rfl
          · intro x w hb hk Q' hQ
            have h5 : x.v 5 = .int .i64 p1 := (hk 5 (by decide)).1
            clear hk
            simp only [netAct, dstAt, List.getElem?_toArray, List.getElem?_cons_zero, List.getElem?_cons_succ, Option.bind_some, Act.put, List.setIfInBounds_toArray, List.set_cons_zero, List.set_cons_succ] at hQ ⊢
            simp only [h5] at hQ ⊢
            clear h5
            go_wp2
            exact hQ (.int .i64 (min 9 p1)) _ (Below.refl _ _) rfl
          · intro x w hb hk Q' hQ
            have h6 : x.v 6 = .int .i64 (min 9 p1) := (hk 6 (by decide)).1
            clear hk
            simp only [netAct, dstAt, List.getElem?_toArray, List.getElem?_cons_zero, List.getElem?_cons_succ, Option.bind_some, Act.put, List.setIfInBounds_toArray, List.set_cons_zero, List.set_cons_succ] at hQ ⊢
            simp only [h6] at hQ ⊢
            clear h6
            have hm := maxmin_N p1
            go_wp2
            exact hQ (.int .i64 (dgN p1)) _ (Below.refl _ _) rfl
          · intro x w hb hk Q' hQ
            have h7 : x.v 7 = .int .i64 (dgN p1) := (hk 7 (by decide)).1
            clear hk
            simp only [netAct, dstAt, List.getElem?_toArray, List.getElem?_cons_zero, List.getElem?_cons_succ, Option.bind_some, Act.put, List.setIfInBounds_toArray, List.set_cons_zero, List.set_cons_succ] at hQ ⊢
            simp only [h7] at hQ ⊢
            clear h7
            go_wp2_with fail
            refine (formatInt_any _ _ r1.1 r1.2).mono ?_; rintro e w1 ⟨rfl, hb1⟩
            rw [dgS_N]
            go_wp2
            exact hQ _ _ hb1 rfl
          · intro x w hb hk Q' hQ
            have h0 : x.v 0 = .string s := (hk 0 (by decide)).1
            have h8 : x.v 8 = .string (dgS p1) := (hk 8 (by decide)).1
            clear hk
            simp only [netAct, dstAt, List.getElem?_toArray, List.getElem?_cons_zero, List.getElem?_cons_succ, Option.bind_some, Act.put, List.setIfInBounds_toArray, List.set_cons_zero, List.set_cons_succ] at hQ ⊢
            simp only [h0, h8] at hQ ⊢
            clear h0 h8
            go_wp2
            exact hQ (.string (s ++ dgS p1)) _ (Below.refl _ _) rfl
          · intro x w hb hk Q' hQ
            have h9 : x.v 9 = .string (s ++ dgS p1) := (hk 9 (by decide)).1
            clear hk
            simp only [netAct, dstAt, List.getElem?_toArray, List.getElem?_cons_zero, List.getElem?_cons_succ, Option.bind_some, Act.put, List.setIfInBounds_toArray, List.set_cons_zero, List.set_cons_succ] at hQ ⊢
            simp only [h9] at hQ ⊢
            clear h9
            go_wp2
            exact hQ (.string (s ++ dgS p1 ++ (⟨#[45]⟩ : ByteArray))) _ (Below.refl _ _) rfl
          · intro x w hb hk Q' hQ
            clear hk
            simp only [netAct, dstAt, List.getElem?_toArray, List.getElem?_cons_zero, List.getElem?_cons_succ, Option.bind_some, Act.put, List.setIfInBounds_toArray, List.set_cons_zero, List.set_cons_succ] at hQ ⊢
            go_wp2
            exact hQ (.slice (some ⟨b, o, none⟩) l.length d) _ (Below.refl _ _) rfl
          · intro x w hb hk Q' hQ
            clear hk
            simp only [netAct, dstAt, List.getElem?_toArray, List.getElem?_cons_zero, List.getElem?_cons_succ, Option.bind_some, Act.put, List.setIfInBounds_toArray, List.set_cons_zero, List.set_cons_succ] at hQ ⊢
            go_wp2
            exact hQ (.int .i64 k) _ (Below.refl _ _) rfl
          · intro x w hb hk Q' hQ
            have h11 : x.v 11 = .slice (some ⟨b, o, none⟩) l.length d := (hk 11 (by decide)).1
            have h12 : x.v 12 = .int .i64 k := (hk 12 (by decide)).1
            clear hk
            simp only [netAct, dstAt, List.getElem?_toArray, List.getElem?_cons_zero, List.getElem?_cons_succ, Option.bind_some, Act.put, List.setIfInBounds_toArray, List.set_cons_zero, List.set_cons_succ] at hQ ⊢
            simp only [h11, h12] at hQ ⊢
            clear h11 h12
            go_wp2
            exact hQ (.pointer (some ⟨b, o + k * 3, none⟩)) _ (Below.refl _ _) rfl
          · intro x w hb hk Q' hQ
            have h13 : x.v 13 = .pointer (some ⟨b, o + k * 3, none⟩) := (hk 13 (by decide)).1
            clear hk
            simp only [netAct, dstAt, List.getElem?_toArray, List.getElem?_cons_zero, List.getElem?_cons_succ, Option.bind_some, Act.put, List.setIfInBounds_toArray, List.set_cons_zero, List.set_cons_succ] at hQ ⊢
            simp only [h13] at hQ ⊢
            clear h13
            go_wp2
            exact hQ (.pointer (some ⟨b, o + k * 3 + 1, none⟩)) _ (Below.refl _ _) rfl
          · intro x w hb hk Q' hQ
            have h14 : x.v 14 = .pointer (some ⟨b, o + k * 3 + 1, none⟩) := (hk 14 (by decide)).1
            clear hk
            simp only [netAct, dstAt, List.getElem?_toArray, List.getElem?_cons_zero, List.getElem?_cons_succ, Option.bind_some, Act.put, List.setIfInBounds_toArray, List.set_cons_zero, List.set_cons_succ] at hQ ⊢
            simp only [h14] at hQ ⊢
            clear h14
            have q0 := (HW.out w hb).2.1
            go_wp2
            exact hQ (.int .i64 p2) _ (Below.refl _ _) rfl
          · intro x w hb hk Q' hQ
            have h15 : x.v 15 = .int .i64 p2 := (hk 15 (by decide)).1
            clear hk
            simp only [netAct, dstAt, List.getElem?_toArray, List.getElem?_cons_zero, List.getElem?_cons_succ, Option.bind_some, Act.put, List.setIfInBounds_toArray, List.set_cons_zero, List.set_cons_succ] at hQ ⊢
            simp only [h15] at hQ ⊢
            clear h15
            go_wp2
            exact hQ (.int .i64 (min 9 p2)) _ (Below.refl _ _) rfl
          · intro x w hb hk Q' hQ
            have h16 : x.v 16 = .int .i64 (min 9 p2) := (hk 16 (by decide)).1
            clear hk
            simp only [netAct, dstAt, List.getElem?_toArray, List.getElem?_cons_zero, List.getElem?_cons_succ, Option.bind_some, Act.put, List.setIfInBounds_toArray, List.set_cons_zero, List.set_cons_succ] at hQ ⊢
            simp only [h16] at hQ ⊢
            clear h16
            have hm := maxmin_N p2
            go_wp2
            exact hQ (.int .i64 (dgN p2)) _ (Below.refl _ _) rfl
          · intro x w hb hk Q' hQ
            have h17 : x.v 17 = .int .i64 (dgN p2) := (hk 17 (by decide)).1
            clear hk
            simp only [netAct, dstAt, List.getElem?_toArray, List.getElem?_cons_zero, List.getElem?_cons_succ, Option.bind_some, Act.put, List.setIfInBounds_toArray, List.set_cons_zero, List.set_cons_succ] at hQ ⊢
            simp only [h17] at hQ ⊢
            clear h17
            go_wp2_with fail
            refine (formatInt_any _ _ r2.1 r2.2).mono ?_; rintro e w1 ⟨rfl, hb1⟩
            rw [dgS_N]
            go_wp2
            exact hQ _ _ hb1 rfl
          · intro x w hb hk Q' hQ
            have h10 : x.v 10 = .string (s ++ dgS p1 ++ (⟨#[45]⟩ : ByteArray)) := (hk 10 (by decide)).1
            have h18 : x.v 18 = .string (dgS p2) := (hk 18 (by decide)).1
            clear hk
            simp only [netAct, dstAt, List.getElem?_toArray, List.getElem?_cons_zero, List.getElem?_cons_succ, Option.bind_some, Act.put, List.setIfInBounds_toArray, List.set_cons_zero, List.set_cons_succ] at hQ ⊢
            simp only [h10, h18] at hQ ⊢
            clear h10 h18
            go_wp2
            exact hQ (.string (s ++ dgS p1 ++ (⟨#[45]⟩ : ByteArray) ++ dgS p2)) _ (Below.refl _ _) rfl
          · intro x w hb hk Q' hQ
            have h19 : x.v 19 = .string (s ++ dgS p1 ++ (⟨#[45]⟩ : ByteArray) ++ dgS p2) := (hk 19 (by decide)).1
            clear hk
            simp only [netAct, dstAt, List.getElem?_toArray, List.getElem?_cons_zero, List.getElem?_cons_succ, Option.bind_some, Act.put, List.setIfInBounds_toArray, List.set_cons_zero, List.set_cons_succ] at hQ ⊢
            simp only [h19] at hQ ⊢
            clear h19
            go_wp2
            exact hQ (.string (s ++ dgS p1 ++ (⟨#[45]⟩ : ByteArray) ++ dgS p2 ++ (⟨#[120]⟩ : ByteArray))) _ (Below.refl _ _) rfl
          · intro x w hb hk Q' hQ
            clear hk
            simp only [netAct, dstAt, List.getElem?_toArray, List.getElem?_cons_zero, List.getElem?_cons_succ, Option.bind_some, Act.put, List.setIfInBounds_toArray, List.set_cons_zero, List.set_cons_succ] at hQ ⊢
            go_wp2
            exact hQ (.slice (some ⟨b, o, none⟩) l.length d) _ (Below.refl _ _) rfl
          · intro x w hb hk Q' hQ
            clear hk
            simp only [netAct, dstAt, List.getElem?_toArray, List.getElem?_cons_zero, List.getElem?_cons_succ, Option.bind_some, Act.put, List.setIfInBounds_toArray, List.set_cons_zero, List.set_cons_succ] at hQ ⊢
            go_wp2
            exact hQ (.int .i64 k) _ (Below.refl _ _) rfl
          · intro x w hb hk Q' hQ
            have h21 : x.v 21 = .slice (some ⟨b, o, none⟩) l.length d := (hk 21 (by decide)).1
            have h22 : x.v 22 = .int .i64 k := (hk 22 (by decide)).1
            clear hk
            simp only [netAct, dstAt, List.getElem?_toArray, List.getElem?_cons_zero, List.getElem?_cons_succ, Option.bind_some, Act.put, List.setIfInBounds_toArray, List.set_cons_zero, List.set_cons_succ] at hQ ⊢
            simp only [h21, h22] at hQ ⊢
            clear h21 h22
            go_wp2
            exact hQ (.pointer (some ⟨b, o + k * 3, none⟩)) _ (Below.refl _ _) rfl
          · intro x w hb hk Q' hQ
            have h23 : x.v 23 = .pointer (some ⟨b, o + k * 3, none⟩) := (hk 23 (by decide)).1
            clear hk
            simp only [netAct, dstAt, List.getElem?_toArray, List.getElem?_cons_zero, List.getElem?_cons_succ, Option.bind_some, Act.put, List.setIfInBounds_toArray, List.set_cons_zero, List.set_cons_succ] at hQ ⊢
            simp only [h23] at hQ ⊢
            clear h23
            go_wp2
            exact hQ (.pointer (some ⟨b, o + k * 3 + 2, none⟩)) _ (Below.refl _ _) rfl
          · intro x w hb hk Q' hQ
            have h24 : x.v 24 = .pointer (some ⟨b, o + k * 3 + 2, none⟩) := (hk 24 (by decide)).1
            clear hk
            simp only [netAct, dstAt, List.getElem?_toArray, List.getElem?_cons_zero, List.getElem?_cons_succ, Option.bind_some, Act.put, List.setIfInBounds_toArray, List.set_cons_zero, List.set_cons_succ] at hQ ⊢
            simp only [h24] at hQ ⊢
            clear h24
            have q0 := (HW.out w hb).2.2
            go_wp2
            exact hQ (.int .i64 p3) _ (Below.refl _ _) rfl
          · intro x w hb hk Q' hQ
            have h25 : x.v 25 = .int .i64 p3 := (hk 25 (by decide)).1
            clear hk
            simp only [netAct, dstAt, List.getElem?_toArray, List.getElem?_cons_zero, List.getElem?_cons_succ, Option.bind_some, Act.put, List.setIfInBounds_toArray, List.set_cons_zero, List.set_cons_succ] at hQ ⊢
            simp only [h25] at hQ ⊢
            clear h25
            go_wp2
            exact hQ (.int .i64 (min 9 p3)) _ (Below.refl _ _) rfl
          · intro x w hb hk Q' hQ
            have h26 : x.v 26 = .int .i64 (min 9 p3) := (hk 26 (by decide)).1
            clear hk
            simp only [netAct, dstAt, List.getElem?_toArray, List.getElem?_cons_zero, List.getElem?_cons_succ, Option.bind_some, Act.put, List.setIfInBounds_toArray, List.set_cons_zero, List.set_cons_succ] at hQ ⊢
            simp only [h26] at hQ ⊢
            clear h26
            have hm := maxmin_N p3
            go_wp2
            exact hQ (.int .i64 (dgN p3)) _ (Below.refl _ _) rfl
          · intro x w hb hk Q' hQ
            have h27 : x.v 27 = .int .i64 (dgN p3) := (hk 27 (by decide)).1
            clear hk
            simp only [netAct, dstAt, List.getElem?_toArray, List.getElem?_cons_zero, List.getElem?_cons_succ, Option.bind_some, Act.put, List.setIfInBounds_toArray, List.set_cons_zero, List.set_cons_succ] at hQ ⊢
            simp only [h27] at hQ ⊢
            clear h27
            go_wp2_with fail
            refine (formatInt_any _ _ r3.1 r3.2).mono ?_; rintro e w1 ⟨rfl, hb1⟩
            rw [dgS_N]
            go_wp2
            exact hQ _ _ hb1 rfl
          · intro x w hb hk Q' hQ
            have h20 : x.v 20 = .string (s ++ dgS p1 ++ (⟨#[45]⟩ : ByteArray) ++ dgS p2 ++ (⟨#[120]⟩ : ByteArray)) := (hk 20 (by decide)).1
            have h28 : x.v 28 = .string (dgS p3) := (hk 28 (by decide)).1
            clear hk
            simp only [netAct, dstAt, List.getElem?_toArray, List.getElem?_cons_zero, List.getElem?_cons_succ, Option.bind_some, Act.put, List.setIfInBounds_toArray, List.set_cons_zero, List.set_cons_succ] at hQ ⊢
            simp only [h20, h28] at hQ ⊢
            clear h20 h28
            go_wp2
            exact hQ (.string (s ++ dgS p1 ++ (⟨#[45]⟩ : ByteArray) ++ dgS p2 ++ (⟨#[120]⟩ : ByteArray) ++ dgS p3)) _ (Below.refl _ _) rfl
          · intro x w hb hk hiv hdj
            have h0 : x.v 0 = .string s := hk 0 (by decide)
            have h1 : x.v 1 = .slice (some ⟨b, o, none⟩) l.length d := hk 1 (by decide)
            have h2 : x.v 2 = .int .i64 k := hk 2 (by decide)
            have h3 : x.v 3 = .pointer (some ⟨b, o + k * 3, none⟩) := hk 3 (by decide)
            have h4 : x.v 4 = .pointer (some ⟨b, o + k * 3, none⟩) := hk 4 (by decide)
            have h5 : x.v 5 = .int .i64 p1 := hk 5 (by decide)
            have h6 : x.v 6 = .int .i64 (min 9 p1) := hk 6 (by decide)
            have h7 : x.v 7 = .int .i64 (dgN p1) := hk 7 (by decide)
            have h8 : x.v 8 = .string (dgS p1) := hk 8 (by decide)
            have h9 : x.v 9 = .string (s ++ dgS p1) := hk 9 (by decide)
            have h10 : x.v 10 = .string (s ++ dgS p1 ++ (⟨#[45]⟩ : ByteArray)) := hk 10 (by decide)
            have h11 : x.v 11 = .slice (some ⟨b, o, none⟩) l.length d := hk 11 (by decide)
            have h12 : x.v 12 = .int .i64 k := hk 12 (by decide)
            have h13 : x.v 13 = .pointer (some ⟨b, o + k * 3, none⟩) := hk 13 (by decide)
            have h14 : x.v 14 = .pointer (some ⟨b, o + k * 3 + 1, none⟩) := hk 14 (by decide)
            have h15 : x.v 15 = .int .i64 p2 := hk 15 (by decide)
            have h16 : x.v 16 = .int .i64 (min 9 p2) := hk 16 (by decide)
            have h17 : x.v 17 = .int .i64 (dgN p2) := hk 17 (by decide)
            have h18 : x.v 18 = .string (dgS p2) := hk 18 (by decide)
            have h19 : x.v 19 = .string (s ++ dgS p1 ++ (⟨#[45]⟩ : ByteArray) ++ dgS p2) := hk 19 (by decide)
            have h20 : x.v 20 = .string (s ++ dgS p1 ++ (⟨#[45]⟩ : ByteArray) ++ dgS p2 ++ (⟨#[120]⟩ : ByteArray)) := hk 20 (by decide)
            have h21 : x.v 21 = .slice (some ⟨b, o, none⟩) l.length d := hk 21 (by decide)
            have h22 : x.v 22 = .int .i64 k := hk 22 (by decide)
            have h23 : x.v 23 = .pointer (some ⟨b, o + k * 3, none⟩) := hk 23 (by decide)
            have h24 : x.v 24 = .pointer (some ⟨b, o + k * 3 + 2, none⟩) := hk 24 (by decide)
            have h25 : x.v 25 = .int .i64 p3 := hk 25 (by decide)
            have h26 : x.v 26 = .int .i64 (min 9 p3) := hk 26 (by decide)
            have h27 : x.v 27 = .int .i64 (dgN p3) := hk 27 (by decide)
            have h28 : x.v 28 = .string (dgS p3) := hk 28 (by decide)
            have h29 : x.v 29 = .string (s ++ dgS p1 ++ (⟨#[45]⟩ : ByteArray) ++ dgS p2 ++ (⟨#[120]⟩ : ByteArray) ++ dgS p3) := hk 29 (by decide)
            clear hk
            simp only [netAct, dstAt, List.getElem?_toArray, List.getElem?_cons_zero, List.getElem?_cons_succ, Option.bind_some, Act.put, List.setIfInBounds_toArray, List.set_cons_zero, List.set_cons_succ]
            simp only [List.drop_succ_cons, List.drop_zero, h0, h1, h2, h3, h4, h5, h6, h7, h8, h9, h10, h11, h12, h13, h14, h15, h16, h17, h18, h19, h20, h21, h22, h23, h24, h25, h26, h27, h28, h29]
            clear h0 h1 h2 h3 h4 h5 h6 h7 h8 h9 h10 h11 h12 h13 h14 h15 h16 h17 h18 h19 h20 h21 h22 h23 h24 h25 h26 h27 h28 h29
            have hst := fmt_step s (p1, p2, p3)
            simp only [bMinus, bX] at hst
            rw [hst]
            go_wp2
            go_roundw
            case rel => exact ⟨k + 1, by omega, by go_num, by rw [hfs2.out], hbel.trans (hb.mono ws)⟩
            case measure => simp [intOf]; omega
        · rw [show (if k = 0 then F else F ++ bSp) = F by rw [if_pos (by omega)]] at hfs
          obtain ⟨s, hs⟩ : ∃ s, F = s := ⟨_, rfl⟩
          subst hs
          have hss : F.size ≤ 200 := by omega
          have hfs2 := hfs
          obtain ⟨s, hs⟩ : ∃ s, s = F := ⟨_, rfl⟩
          subst hs
          clear hfs
          go_wp2
          have s1 : (s ++ dgS p1).size ≤ 17592186044416 := by simp only [ByteArray.size_append, dgS_size]; omega
          have s2 : (s ++ dgS p1 ++ (⟨#[45]⟩ : ByteArray)).size ≤ 17592186044416 := by have : (⟨#[45]⟩ : ByteArray).size = 1 := rfl; simp only [ByteArray.size_append, dgS_size]; omega
          have s3 : (s ++ dgS p1 ++ (⟨#[45]⟩ : ByteArray) ++ dgS p2).size ≤ 17592186044416 := by have : (⟨#[45]⟩ : ByteArray).size = 1 := rfl; simp only [ByteArray.size_append, dgS_size]; omega
          have s4 : (s ++ dgS p1 ++ (⟨#[45]⟩ : ByteArray) ++ dgS p2 ++ (⟨#[120]⟩ : ByteArray)).size ≤ 17592186044416 := by have : (⟨#[45]⟩ : ByteArray).size = 1 := rfl; have : (⟨#[120]⟩ : ByteArray).size = 1 := rfl; simp only [ByteArray.size_append, dgS_size]; omega
          have d1 : (dgS p1).size ≤ 17592186044416 := by rw [dgS_size]; omega
          have d2 : (dgS p2).size ≤ 17592186044416 := by rw [dgS_size]; omega
          have d3 : (dgS p3).size ≤ 17592186044416 := by rw [dgS_size]; omega
          have s0 : s.size ≤ 17592186044416 := by omega
          have r1 := dgN_r p1
          have r2 := dgN_r p2
          have r3 := dgN_r p3
          refine wp_region_net (by kernel_rfl) [.eq (.string s), .eq (.slice (some ⟨b, o, none⟩) l.length d), .eq (.int .i64 k), .eq (.pointer (some ⟨b, o + k * 3, none⟩)), .eq (.pointer (some ⟨b, o + k * 3, none⟩)), .eq (.int .i64 p1), .eq (.int .i64 (min 9 p1)), .eq (.int .i64 (dgN p1)), .eq (.string (dgS p1)), .eq (.string (s ++ dgS p1)), .eq (.string (s ++ dgS p1 ++ (⟨#[45]⟩ : ByteArray))), .eq (.slice (some ⟨b, o, none⟩) l.length d), .eq (.int .i64 k), .eq (.pointer (some ⟨b, o + k * 3, none⟩)), .eq (.pointer (some ⟨b, o + k * 3 + 1, none⟩)), .eq (.int .i64 p2), .eq (.int .i64 (min 9 p2)), .eq (.int .i64 (dgN p2)), .eq (.string (dgS p2)), .eq (.string (s ++ dgS p1 ++ (⟨#[45]⟩ : ByteArray) ++ dgS p2)), .eq (.string (s ++ dgS p1 ++ (⟨#[45]⟩ : ByteArray) ++ dgS p2 ++ (⟨#[120]⟩ : ByteArray))), .eq (.slice (some ⟨b, o, none⟩) l.length d), .eq (.int .i64 k), .eq (.pointer (some ⟨b, o + k * 3, none⟩)), .eq (.pointer (some ⟨b, o + k * 3 + 2, none⟩)), .eq (.int .i64 p3), .eq (.int .i64 (min 9 p3)), .eq (.int .i64 (dgN p3)), .eq (.string (dgS p3)), .eq (.string (s ++ dgS p1 ++ (⟨#[45]⟩ : ByteArray) ++ dgS p2 ++ (⟨#[120]⟩ : ByteArray) ++ dgS p3))] [[], [], [], [1, 2], [1, 2, 3], [1, 2, 3, 4], [1, 2, 3, 4, 5], [1, 2, 3, 4, 5, 6], [1, 2, 3, 4, 5, 6, 7], [0, 1, 2, 3, 4, 5, 6, 7, 8], [0, 1, 2, 3, 4, 5, 6, 7, 8, 9], [], [], [11, 12], [11, 12, 13], [11, 12, 13, 14], [11, 12, 13, 14, 15], [11, 12, 13, 14, 15, 16], [1, 2, 3, 4, 5, 6, 7, 8, 11, 12, 13, 14, 15, 16, 17], [0, 1, 2, 3, 4, 5, 6, 7, 8, 9, 10, 11, 12, 13, 14, 15, 16, 17, 18], [0, 1, 2, 3, 4, 5, 6, 7, 8, 9, 10, 11, 12, 13, 14, 15, 16, 17, 18, 19], [], [], [21, 22], [21, 22, 23], [21, 22, 23, 24], [21, 22, 23, 24, 25], [21, 22, 23, 24, 25, 26], [1, 2, 3, 4, 5, 6, 7, 8, 11, 12, 13, 14, 15, 16, 17, 18, 21, 22, 23, 24, 25, 26, 27], [0, 1, 2, 3, 4, 5, 6, 7, 8, 9, 10, 11, 12, 13, 14, 15, 16, 17, 18, 19, 20, 21, 22, 23, 24, 25, 26, 27, 28], [0, 1, 2, 3, 4, 5, 6, 7, 8, 9, 10, 11, 12, 13, 14, 15, 16, 17, 18, 19, 20, 21, 22, 23, 24, 25, 26, 27, 28, 29]] 30 (by kernel_rfl) ⟨trivial, trivial, trivial, trivial, trivial, trivial, trivial, trivial, trivial, trivial, trivial, trivial, trivial, trivial, trivial, trivial, trivial, trivial, trivial, trivial, trivial, trivial, trivial, trivial, trivial, trivial, trivial, trivial, trivial, trivial, trivial⟩ ⟨?_, ?_, ?_, ?_, ?_, ?_, ?_, ?_, ?_, ?_, ?_, ?_, ?_, ?_, ?_, ?_, ?_, ?_, ?_, ?_, ?_, ?_, ?_, ?_, ?_, ?_, ?_, ?_, ?_, ?_, trivial⟩ ?_
          · intro x w hb hk Q' hQ
            clear hk
            simp only [netAct, dstAt, List.getElem?_toArray, List.getElem?_cons_zero, List.getElem?_cons_succ, Option.bind_some, Act.put, List.setIfInBounds_toArray, List.set_cons_zero, List.set_cons_succ] at hQ ⊢
            go_wp2
            exact hQ (.string s) _ (Below.refl _ _) rfl
          · intro x w hb hk Q' hQ
            clear hk
            simp only [netAct, dstAt, List.getElem?_toArray, List.getElem?_cons_zero, List.getElem?_cons_succ, Option.bind_some, Act.put, List.setIfInBounds_toArray, List.set_cons_zero, List.set_cons_succ] at hQ ⊢
            go_wp2
            exact hQ (.slice (some ⟨b, o, none⟩) l.length d) _ (Below.refl _ _) rfl
          · intro x w hb hk Q' hQ
            clear hk
            simp only [netAct, dstAt, List.getElem?_toArray, List.getElem?_cons_zero, List.getElem?_cons_succ, Option.bind_some, Act.put, List.setIfInBounds_toArray, List.set_cons_zero, List.set_cons_succ] at hQ ⊢
            go_wp2
            exact hQ (.int .i64 k) _ (Below.refl _ _) rfl
          · intro x w hb hk Q' hQ
            have h1 : x.v 1 = .slice (some ⟨b, o, none⟩) l.length d := (hk 1 (by decide)).1
            have h2 : x.v 2 = .int .i64 k := (hk 2 (by decide)).1
            clear hk
            simp only [netAct, dstAt, List.getElem?_toArray, List.getElem?_cons_zero, List.getElem?_cons_succ, Option.bind_some, Act.put, List.setIfInBounds_toArray, List.set_cons_zero, List.set_cons_succ] at hQ ⊢
            simp only [h1, h2] at hQ ⊢
            clear h1 h2
            go_wp2
            exact hQ (.pointer (some ⟨b, o + k * 3, none⟩)) _ (Below.refl _ _) rfl
          · intro x w hb hk Q' hQ
            have h3 : x.v 3 = .pointer (some ⟨b, o + k * 3, none⟩) := (hk 3 (by decide)).1
            clear hk
            simp only [netAct, dstAt, List.getElem?_toArray, List.getElem?_cons_zero, List.getElem?_cons_succ, Option.bind_some, Act.put, List.setIfInBounds_toArray, List.set_cons_zero, List.set_cons_succ] at hQ ⊢
            simp only [h3] at hQ ⊢
            clear h3
            go_wp2
            exact hQ (.pointer (some ⟨b, o + k * 3, none⟩)) _ (Below.refl _ _) rfl
          · intro x w hb hk Q' hQ
            have h4 : x.v 4 = .pointer (some ⟨b, o + k * 3, none⟩) := (hk 4 (by decide)).1
            clear hk
            simp only [netAct, dstAt, List.getElem?_toArray, List.getElem?_cons_zero, List.getElem?_cons_succ, Option.bind_some, Act.put, List.setIfInBounds_toArray, List.set_cons_zero, List.set_cons_succ] at hQ ⊢
            simp only [h4] at hQ ⊢
            clear h4
            have q0 := (HW.out w hb).1
            go_wp2
            exact hQ (.int .i64 p1) _ (Below.refl _ _) rfl
          · intro x w hb hk Q' hQ
            have h5 : x.v 5 = .int .i64 p1 := (hk 5 (by decide)).1
            clear hk
            simp only [netAct, dstAt, List.getElem?_toArray, List.getElem?_cons_zero, List.getElem?_cons_succ, Option.bind_some, Act.put, List.setIfInBounds_toArray, List.set_cons_zero, List.set_cons_succ] at hQ ⊢
            simp only [h5] at hQ ⊢
            clear h5
            go_wp2
            exact hQ (.int .i64 (min 9 p1)) _ (Below.refl _ _) rfl
          · intro x w hb hk Q' hQ
            have h6 : x.v 6 = .int .i64 (min 9 p1) := (hk 6 (by decide)).1
            clear hk
            simp only [netAct, dstAt, List.getElem?_toArray, List.getElem?_cons_zero, List.getElem?_cons_succ, Option.bind_some, Act.put, List.setIfInBounds_toArray, List.set_cons_zero, List.set_cons_succ] at hQ ⊢
            simp only [h6] at hQ ⊢
            clear h6
            have hm := maxmin_N p1
            go_wp2
            exact hQ (.int .i64 (dgN p1)) _ (Below.refl _ _) rfl
          · intro x w hb hk Q' hQ
            have h7 : x.v 7 = .int .i64 (dgN p1) := (hk 7 (by decide)).1
            clear hk
            simp only [netAct, dstAt, List.getElem?_toArray, List.getElem?_cons_zero, List.getElem?_cons_succ, Option.bind_some, Act.put, List.setIfInBounds_toArray, List.set_cons_zero, List.set_cons_succ] at hQ ⊢
            simp only [h7] at hQ ⊢
            clear h7
            go_wp2_with fail
            refine (formatInt_any _ _ r1.1 r1.2).mono ?_; rintro e w1 ⟨rfl, hb1⟩
            rw [dgS_N]
            go_wp2
            exact hQ _ _ hb1 rfl
          · intro x w hb hk Q' hQ
            have h0 : x.v 0 = .string s := (hk 0 (by decide)).1
            have h8 : x.v 8 = .string (dgS p1) := (hk 8 (by decide)).1
            clear hk
            simp only [netAct, dstAt, List.getElem?_toArray, List.getElem?_cons_zero, List.getElem?_cons_succ, Option.bind_some, Act.put, List.setIfInBounds_toArray, List.set_cons_zero, List.set_cons_succ] at hQ ⊢
            simp only [h0, h8] at hQ ⊢
            clear h0 h8
            go_wp2
            exact hQ (.string (s ++ dgS p1)) _ (Below.refl _ _) rfl
          · intro x w hb hk Q' hQ
            have h9 : x.v 9 = .string (s ++ dgS p1) := (hk 9 (by decide)).1
            clear hk
            simp only [netAct, dstAt, List.getElem?_toArray, List.getElem?_cons_zero, List.getElem?_cons_succ, Option.bind_some, Act.put, List.setIfInBounds_toArray, List.set_cons_zero, List.set_cons_succ] at hQ ⊢
            simp only [h9] at hQ ⊢
            clear h9
            go_wp2
            exact hQ (.string (s ++ dgS p1 ++ (⟨#[45]⟩ : ByteArray))) _ (Below.refl _ _) rfl
          · intro x w hb hk Q' hQ
            clear hk
            simp only [netAct, dstAt, List.getElem?_toArray, List.getElem?_cons_zero, List.getElem?_cons_succ, Option.bind_some, Act.put, List.setIfInBounds_toArray, List.set_cons_zero, List.set_cons_succ] at hQ ⊢
            go_wp2
            exact hQ (.slice (some ⟨b, o, none⟩) l.length d) _ (Below.refl _ _) rfl
          · intro x w hb hk Q' hQ
            clear hk
            simp only [netAct, dstAt, List.getElem?_toArray, List.getElem?_cons_zero, List.getElem?_cons_succ, Option.bind_some, Act.put, List.setIfInBounds_toArray, List.set_cons_zero, List.set_cons_succ] at hQ ⊢
            go_wp2
            exact hQ (.int .i64 k) _ (Below.refl _ _) rfl
          · intro x w hb hk Q' hQ
            have h11 : x.v 11 = .slice (some ⟨b, o, none⟩) l.length d := (hk 11 (by decide)).1
            have h12 : x.v 12 = .int .i64 k := (hk 12 (by decide)).1
            clear hk
            simp only [netAct, dstAt, List.getElem?_toArray, List.getElem?_cons_zero, List.getElem?_cons_succ, Option.bind_some, Act.put, List.setIfInBounds_toArray, List.set_cons_zero, List.set_cons_succ] at hQ ⊢
            simp only [h11, h12] at hQ ⊢
            clear h11 h12
            go_wp2
            exact hQ (.pointer (some ⟨b, o + k * 3, none⟩)) _ (Below.refl _ _) rfl
          · intro x w hb hk Q' hQ
            have h13 : x.v 13 = .pointer (some ⟨b, o + k * 3, none⟩) := (hk 13 (by decide)).1
            clear hk
            simp only [netAct, dstAt, List.getElem?_toArray, List.getElem?_cons_zero, List.getElem?_cons_succ, Option.bind_some, Act.put, List.setIfInBounds_toArray, List.set_cons_zero, List.set_cons_succ] at hQ ⊢
            simp only [h13] at hQ ⊢
            clear h13
            go_wp2
            exact hQ (.pointer (some ⟨b, o + k * 3 + 1, none⟩)) _ (Below.refl _ _) rfl
          · intro x w hb hk Q' hQ
            have h14 : x.v 14 = .pointer (some ⟨b, o + k * 3 + 1, none⟩) := (hk 14 (by decide)).1
            clear hk
            simp only [netAct, dstAt, List.getElem?_toArray, List.getElem?_cons_zero, List.getElem?_cons_succ, Option.bind_some, Act.put, List.setIfInBounds_toArray, List.set_cons_zero, List.set_cons_succ] at hQ ⊢
            simp only [h14] at hQ ⊢
            clear h14
            have q0 := (HW.out w hb).2.1
            go_wp2
            exact hQ (.int .i64 p2) _ (Below.refl _ _) rfl
          · intro x w hb hk Q' hQ
            have h15 : x.v 15 = .int .i64 p2 := (hk 15 (by decide)).1
            clear hk
            simp only [netAct, dstAt, List.getElem?_toArray, List.getElem?_cons_zero, List.getElem?_cons_succ, Option.bind_some, Act.put, List.setIfInBounds_toArray, List.set_cons_zero, List.set_cons_succ] at hQ ⊢
            simp only [h15] at hQ ⊢
            clear h15
            go_wp2
            exact hQ (.int .i64 (min 9 p2)) _ (Below.refl _ _) rfl
          · intro x w hb hk Q' hQ
            have h16 : x.v 16 = .int .i64 (min 9 p2) := (hk 16 (by decide)).1
            clear hk
            simp only [netAct, dstAt, List.getElem?_toArray, List.getElem?_cons_zero, List.getElem?_cons_succ, Option.bind_some, Act.put, List.setIfInBounds_toArray, List.set_cons_zero, List.set_cons_succ] at hQ ⊢
            simp only [h16] at hQ ⊢
            clear h16
            have hm := maxmin_N p2
            go_wp2
            exact hQ (.int .i64 (dgN p2)) _ (Below.refl _ _) rfl
          · intro x w hb hk Q' hQ
            have h17 : x.v 17 = .int .i64 (dgN p2) := (hk 17 (by decide)).1
            clear hk
            simp only [netAct, dstAt, List.getElem?_toArray, List.getElem?_cons_zero, List.getElem?_cons_succ, Option.bind_some, Act.put, List.setIfInBounds_toArray, List.set_cons_zero, List.set_cons_succ] at hQ ⊢
            simp only [h17] at hQ ⊢
            clear h17
            go_wp2_with fail
            refine (formatInt_any _ _ r2.1 r2.2).mono ?_; rintro e w1 ⟨rfl, hb1⟩
            rw [dgS_N]
            go_wp2
            exact hQ _ _ hb1 rfl
          · intro x w hb hk Q' hQ
            have h10 : x.v 10 = .string (s ++ dgS p1 ++ (⟨#[45]⟩ : ByteArray)) := (hk 10 (by decide)).1
            have h18 : x.v 18 = .string (dgS p2) := (hk 18 (by decide)).1
            clear hk
            simp only [netAct, dstAt, List.getElem?_toArray, List.getElem?_cons_zero, List.getElem?_cons_succ, Option.bind_some, Act.put, List.setIfInBounds_toArray, List.set_cons_zero, List.set_cons_succ] at hQ ⊢
            simp only [h10, h18] at hQ ⊢
            clear h10 h18
            go_wp2
            exact hQ (.string (s ++ dgS p1 ++ (⟨#[45]⟩ : ByteArray) ++ dgS p2)) _ (Below.refl _ _) rfl
          · intro x w hb hk Q' hQ
            have h19 : x.v 19 = .string (s ++ dgS p1 ++ (⟨#[45]⟩ : ByteArray) ++ dgS p2) := (hk 19 (by decide)).1
            clear hk
            simp only [netAct, dstAt, List.getElem?_toArray, List.getElem?_cons_zero, List.getElem?_cons_succ, Option.bind_some, Act.put, List.setIfInBounds_toArray, List.set_cons_zero, List.set_cons_succ] at hQ ⊢
            simp only [h19] at hQ ⊢
            clear h19
            go_wp2
            exact hQ (.string (s ++ dgS p1 ++ (⟨#[45]⟩ : ByteArray) ++ dgS p2 ++ (⟨#[120]⟩ : ByteArray))) _ (Below.refl _ _) rfl
          · intro x w hb hk Q' hQ
            clear hk
            simp only [netAct, dstAt, List.getElem?_toArray, List.getElem?_cons_zero, List.getElem?_cons_succ, Option.bind_some, Act.put, List.setIfInBounds_toArray, List.set_cons_zero, List.set_cons_succ] at hQ ⊢
            go_wp2
            exact hQ (.slice (some ⟨b, o, none⟩) l.length d) _ (Below.refl _ _) rfl
          · intro x w hb hk Q' hQ
            clear hk
            simp only [netAct, dstAt, List.getElem?_toArray, List.getElem?_cons_zero, List.getElem?_cons_succ, Option.bind_some, Act.put, List.setIfInBounds_toArray, List.set_cons_zero, List.set_cons_succ] at hQ ⊢
            go_wp2
            exact hQ (.int .i64 k) _ (Below.refl _ _) rfl
          · intro x w hb hk Q' hQ
            have h21 : x.v 21 = .slice (some ⟨b, o, none⟩) l.length d := (hk 21 (by decide)).1
            have h22 : x.v 22 = .int .i64 k := (hk 22 (by decide)).1
            clear hk
            simp only [netAct, dstAt, List.getElem?_toArray, List.getElem?_cons_zero, List.getElem?_cons_succ, Option.bind_some, Act.put, List.setIfInBounds_toArray, List.set_cons_zero, List.set_cons_succ] at hQ ⊢
            simp only [h21, h22] at hQ ⊢
            clear h21 h22
            go_wp2
            exact hQ (.pointer (some ⟨b, o + k * 3, none⟩)) _ (Below.refl _ _) rfl
          · intro x w hb hk Q' hQ
            have h23 : x.v 23 = .pointer (some ⟨b, o + k * 3, none⟩) := (hk 23 (by decide)).1
            clear hk
            simp only [netAct, dstAt, List.getElem?_toArray, List.getElem?_cons_zero, List.getElem?_cons_succ, Option.bind_some, Act.put, List.setIfInBounds_toArray, List.set_cons_zero, List.set_cons_succ] at hQ ⊢
            simp only [h23] at hQ ⊢
            clear h23
            go_wp2
            exact hQ (.pointer (some ⟨b, o + k * 3 + 2, none⟩)) _ (Below.refl _ _) rfl
          · intro x w hb hk Q' hQ
            have h24 : x.v 24 = .pointer (some ⟨b, o + k * 3 + 2, none⟩) := (hk 24 (by decide)).1
            clear hk
            simp only [netAct, dstAt, List.getElem?_toArray, List.getElem?_cons_zero, List.getElem?_cons_succ, Option.bind_some, Act.put, List.setIfInBounds_toArray, List.set_cons_zero, List.set_cons_succ] at hQ ⊢
            simp only [h24] at hQ ⊢
            clear h24
            have q0 := (HW.out w hb).2.2
            go_wp2
            exact hQ (.int .i64 p3) _ (Below.refl _ _) rfl
          · intro x w hb hk Q' hQ
            have h25 : x.v 25 = .int .i64 p3 := (hk 25 (by decide)).1
            clear hk
            simp only [netAct, dstAt, List.getElem?_toArray, List.getElem?_cons_zero, List.getElem?_cons_succ, Option.bind_some, Act.put, List.setIfInBounds_toArray, List.set_cons_zero, List.set_cons_succ] at hQ ⊢
            simp only [h25] at hQ ⊢
            clear h25
            go_wp2
            exact hQ (.int .i64 (min 9 p3)) _ (Below.refl _ _) rfl
          · intro x w hb hk Q' hQ
            have h26 : x.v 26 = .int .i64 (min 9 p3) := (hk 26 (by decide)).1
            clear hk
            simp only [netAct, dstAt, List.getElem?_toArray, List.getElem?_cons_zero, List.getElem?_cons_succ, Option.bind_some, Act.put, List.setIfInBounds_toArray, List.set_cons_zero, List.set_cons_succ] at hQ ⊢
            simp only [h26] at hQ ⊢
            clear h26
            have hm := maxmin_N p3
            go_wp2
            exact hQ (.int .i64 (dgN p3)) _ (Below.refl _ _) rfl
          · intro x w hb hk Q' hQ
            have h27 : x.v 27 = .int .i64 (dgN p3) := (hk 27 (by decide)).1
            clear hk
            simp only [netAct, dstAt, List.getElem?_toArray, List.getElem?_cons_zero, List.getElem?_cons_succ, Option.bind_some, Act.put, List.setIfInBounds_toArray, List.set_cons_zero, List.set_cons_succ] at hQ ⊢
            simp only [h27] at hQ ⊢
            clear h27
            go_wp2_with fail
            refine (formatInt_any _ _ r3.1 r3.2).mono ?_; rintro e w1 ⟨rfl, hb1⟩
            rw [dgS_N]
            go_wp2
            exact hQ _ _ hb1 rfl
          · intro x w hb hk Q' hQ
            have h20 : x.v 20 = .string (s ++ dgS p1 ++ (⟨#[45]⟩ : ByteArray) ++ dgS p2 ++ (⟨#[120]⟩ : ByteArray)) := (hk 20 (by decide)).1
            have h28 : x.v 28 = .string (dgS p3) := (hk 28 (by decide)).1
            clear hk
            simp only [netAct, dstAt, List.getElem?_toArray, List.getElem?_cons_zero, List.getElem?_cons_succ, Option.bind_some, Act.put, List.setIfInBounds_toArray, List.set_cons_zero, List.set_cons_succ] at hQ ⊢
            simp only [h20, h28] at hQ ⊢
            clear h20 h28
            go_wp2
            exact hQ (.string (s ++ dgS p1 ++ (⟨#[45]⟩ : ByteArray) ++ dgS p2 ++ (⟨#[120]⟩ : ByteArray) ++ dgS p3)) _ (Below.refl _ _) rfl
          · intro x w hb hk hiv hdj
            have h0 : x.v 0 = .string s := hk 0 (by decide)
            have h1 : x.v 1 = .slice (some ⟨b, o, none⟩) l.length d := hk 1 (by decide)
            have h2 : x.v 2 = .int .i64 k := hk 2 (by decide)
            have h3 : x.v 3 = .pointer (some ⟨b, o + k * 3, none⟩) := hk 3 (by decide)
            have h4 : x.v 4 = .pointer (some ⟨b, o + k * 3, none⟩) := hk 4 (by decide)
            have h5 : x.v 5 = .int .i64 p1 := hk 5 (by decide)
            have h6 : x.v 6 = .int .i64 (min 9 p1) := hk 6 (by decide)
            have h7 : x.v 7 = .int .i64 (dgN p1) := hk 7 (by decide)
            have h8 : x.v 8 = .string (dgS p1) := hk 8 (by decide)
            have h9 : x.v 9 = .string (s ++ dgS p1) := hk 9 (by decide)
            have h10 : x.v 10 = .string (s ++ dgS p1 ++ (⟨#[45]⟩ : ByteArray)) := hk 10 (by decide)
            have h11 : x.v 11 = .slice (some ⟨b, o, none⟩) l.length d := hk 11 (by decide)
            have h12 : x.v 12 = .int .i64 k := hk 12 (by decide)
            have h13 : x.v 13 = .pointer (some ⟨b, o + k * 3, none⟩) := hk 13 (by decide)
            have h14 : x.v 14 = .pointer (some ⟨b, o + k * 3 + 1, none⟩) := hk 14 (by decide)
            have h15 : x.v 15 = .int .i64 p2 := hk 15 (by decide)
            have h16 : x.v 16 = .int .i64 (min 9 p2) := hk 16 (by decide)
            have h17 : x.v 17 = .int .i64 (dgN p2) := hk 17 (by decide)
            have h18 : x.v 18 = .string (dgS p2) := hk 18 (by decide)
            have h19 : x.v 19 = .string (s ++ dgS p1 ++ (⟨#[45]⟩ : ByteArray) ++ dgS p2) := hk 19 (by decide)
            have h20 : x.v 20 = .string (s ++ dgS p1 ++ (⟨#[45]⟩ : ByteArray) ++ dgS p2 ++ (⟨#[120]⟩ : ByteArray)) := hk 20 (by decide)
            have h21 : x.v 21 = .slice (some ⟨b, o, none⟩) l.length d := hk 21 (by decide)
            have h22 : x.v 22 = .int .i64 k := hk 22 (by decide)
            have h23 : x.v 23 = .pointer (some ⟨b, o + k * 3, none⟩) := hk 23 (by decide)
            have h24 : x.v 24 = .pointer (some ⟨b, o + k * 3 + 2, none⟩) := hk 24 (by decide)
            have h25 : x.v 25 = .int .i64 p3 := hk 25 (by decide)
            have h26 : x.v 26 = .int .i64 (min 9 p3) := hk 26 (by decide)
            have h27 : x.v 27 = .int .i64 (dgN p3) := hk 27 (by decide)
            have h28 : x.v 28 = .string (dgS p3) := hk 28 (by decide)
            have h29 : x.v 29 = .string (s ++ dgS p1 ++ (⟨#[45]⟩ : ByteArray) ++ dgS p2 ++ (⟨#[120]⟩ : ByteArray) ++ dgS p3) := hk 29 (by decide)
            clear hk
            simp only [netAct, dstAt, List.getElem?_toArray, List.getElem?_cons_zero, List.getElem?_cons_succ, Option.bind_some, Act.put, List.setIfInBounds_toArray, List.set_cons_zero, List.set_cons_succ]
            simp only [List.drop_succ_cons, List.drop_zero, h0, h1, h2, h3, h4, h5, h6, h7, h8, h9, h10, h11, h12, h13, h14, h15, h16, h17, h18, h19, h20, h21, h22, h23, h24, h25, h26, h27, h28, h29]
            clear h0 h1 h2 h3 h4 h5 h6 h7 h8 h9 h10 h11 h12 h13 h14 h15 h16 h17 h18 h19 h20 h21 h22 h23 h24 h25 h26 h27 h28 h29
            have hst := fmt_step s (p1, p2, p3)
            simp only [bMinus, bX] at hst
            rw [hst]
            go_wp2
            go_roundw
            case rel => exact ⟨k + 1, by omega, by go_num, by rw [hfs2.out], hbel.trans (hb.mono ws)⟩
            case measure => simp [intOf]; omega
      · have hkl : k = l.length := by omega
        have hF : Hid (k = 0 ∧ fmtB l = bNone ∨ 0 < k ∧ fmtB l = fmtTo l k) := by
          rcases Nat.eq_zero_or_pos k with h | h
          · exact .inl ⟨h, by rw [fmtB, if_neg (by omega)]⟩
          · exact .inr ⟨h, by rw [fmtB, if_pos (by omega), hkl]⟩
        obtain ⟨F, hFF⟩ : ∃ F, fmtTo l k = F := ⟨_, rfl⟩
        rcases hF.out with ⟨h, e⟩ | ⟨h, e⟩
        · have hF0 : F = ⟨#[]⟩ := by rw [← hFF, h]; rfl
          rw [hFF, hF0]
          have HE := Lib.hid e
          clear hF hFF hF0 e hkl h
          go_wp2
          go_ret
          exact ⟨by rw [HE.out]; rfl, hbel⟩
        · have hne2 : F ≠ (⟨#[]⟩ : ByteArray) := by
            intro e0
            rw [hFF, e0] at hsz
            have : (⟨#[]⟩ : ByteArray).size = 0 := rfl
            omega
          have hne := (decide_eq_emptyBytes F).symm.trans (decide_eq_false hne2)
          have hne3 : F.toList ≠ [] := by intro h0; rw [h0] at hne; cases hne
          clear hne2
          rw [hFF] at e ⊢
          have HE := Lib.hid e
          clear hF hFF e hkl h
          go_wp2
          go_ret
          exact ⟨by rw [HE.out]; rfl, hbel⟩
  · have hF := Lib.hid (show fmtB l = bNone by rw [fmtB, if_neg (by omega)])
    have hd20 : decide ((l.length : Int) ≤ 20) = false := decide_eq_false (by omega)
    go_enter Try.func27, Try.ntmps27
    go_wp2
    refine wp_loop_rounds 1 ?_
    rw [rounds_succ]
    go_wp2
    all_goals
      go_ret
      exact ⟨by rw [hF.out]; rfl, Below.refl _ _⟩
end Go.Proofs.Ytjhllgldllbaaaa
