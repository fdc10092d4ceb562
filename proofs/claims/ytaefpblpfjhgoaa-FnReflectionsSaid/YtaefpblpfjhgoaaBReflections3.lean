/- FnReflections: the law holds for every argument. Part 3 of 13 of the proof: FmtQ, LineOf, QvG, PrsQ, NmQ, NetK, AcyQ, AnyQ. No condition. -/
import Derived.Test.YtaefpblpfjhgoaaBReflections2
/- The reference's FormatQuiver: some text. -/
namespace Go.Proofs.Ytaefpblpfjhgoaa
set_option linter.unusedVariables false
set_option linter.unusedSimpArgs false
open Go.RowKit

set_option maxHeartbeats 1600000 in
set_option maxRecDepth 100000 in
theorem formatQuiver_any (u : Value) (q : Qv) (w0 : World) (hu : QvR w0 w0.heap.size u q) :
    Calls Try.prog 92 #[u] w0 fun e w' => ∃ s : ByteArray, s.size ≤ 100 ∧ e = .returned (.string s) ∧ Below w0.heap.size w0 w' := by
  have hu' := hu
  obtain ⟨A, c, C, d, rfl, hf, hT, hr, lf, lt⟩ := hu.open_
  clear hu
  obtain ⟨W, hW⟩ : ∃ W, W = w0.alloc (.cells #[.int .i64 q.v, .slice A q.f.length c, .slice C q.t.length d] 26) := ⟨_, rfl⟩
  have g0 : Below w0.heap.size w0 W := by rw [hW]; exact below_alloc _ _
  have kB : Blk W w0.heap.size 26 #[.int .i64 q.v, .slice A q.f.length c, .slice C q.t.length d] := by rw [hW]; exact Blk.new _ _ _
  have c0 := kB.cell' (i := 0) rfl
  have c1 := kB.cell' (i := 1) rfl
  have c2 := kB.cell' (i := 2) rfl
  have h0 := QvR.next g0 hu'
  clear hu'
  rcases hq : isQ q with _ | _
  · go_enter Try.func92, Try.ntmps92
    go_wp2_with fail
    rw [← hW]; clear hW
    refine (specIsQuiver_any _ _ _ h0).mono ?_; rintro e w1 ⟨rfl, hb1⟩
    rw [hq]
    go_wp2
    go_ret
    exact ⟨⟨#[]⟩, Nat.zero_le _, rfl, bthen g0 hb1⟩
  · obtain ⟨hv, hlen, h6, hfr, htr⟩ := isQ_t.1 hq
    have HFR := Lib.hid hfr
    have HTR := Lib.hid htr
    obtain ⟨n, hn⟩ : ∃ n, q.f.length = n := ⟨_, rfl⟩
    have hnt : q.t.length = n := by omega
    have HN := Lib.hid hn
    have HNT := Lib.hid hnt
    rw [hn] at h6 hf
    rw [hnt] at hT
    have HF := Lib.hid hf
    have HT := Lib.hid hT
    clear hf hT hfr htr hlen hn hnt
    go_enter Try.func92, Try.ntmps92
    go_wp2_with fail
    rw [← hW]; clear hW
    refine (specIsQuiver_any _ _ _ h0).mono ?_; rintro e w1 ⟨rfl, hb1⟩
    rw [hq]
    rw [HN.out, HNT.out] at kB
    clear hq
    have k1 := kB.call hb1
    have G1 := Lib.hid (bthen g0 hb1)
    have d0 := k1.cell' (i := 0) rfl
    have KB := Lib.hid k1
    clear c0 c1 c2 kB g0 hb1 h0 k1
    go_wp2_with fail
    refine (formatInt_any q.v _ (by omega) (by omega)).mono ?_; rintro e w2 ⟨rfl, hb2⟩
    have hd := dgS_size q.v
    have hds : (dgS q.v).size ≤ 17592186044416 := by omega
    have KB2 := Lib.hid (KB.out.call hb2)
    have G2 := Lib.hid (bthen G1.out hb2)
    have sG := G2.out.size
    clear d0 hb2
    go_wp2
    have hs0 : (dgS q.v ++ (⟨#[58]⟩ : ByteArray)).size = 2 := by rw [ByteArray.size_append, hd]; rfl
    go_loopw [3, 4] (fun sv i wr => ∃ (k : Nat) (s : ByteArray), k ≤ n ∧ i = .int .i64 k ∧ sv = .string s ∧ s.size = 2 + 3 * k ∧ Below w2.heap.size w2 wr) (fun _ i _ => n - (intOf i).toNat)
    case atStart => exact ⟨0, _, Nat.zero_le _, rfl, rfl, hs0, Below.refl _ _⟩
    case round =>
      clear hs0 hd hds
      obtain ⟨k, s, hk, rfl, rfl, hs, hb⟩ := hrel
      have kr := KB2.out.call hb
      have d1 := kr.cell' (i := 1) rfl
      by_cases hlt : k < n
      · obtain ⟨bf, of_, x, rfl, hbf, HX, x1, _⟩ := SlI.atN HF.out HN.out hlt
        obtain ⟨bt, ot, y, rfl, hbt, HY, y1, _⟩ := SlI.atN HT.out HNT.out hlt
        have hxr := HFR.out x (List.mem_of_getElem? HX.out)
        have hyr := HTR.out y (List.mem_of_getElem? HY.out)
        have hbs := hb.size
        have X1 := Lib.hid (bcell (G2.out.trans (hb.mono sG)) hbf x1)
        have Y1 := Lib.hid (bcell (G2.out.trans (hb.mono sG)) hbt y1)
        have KR := Lib.hid kr
        have HB := Lib.hid hb
        have hbf2 : bf < wr.heap.size := by omega
        have hbt2 : bt < wr.heap.size := by omega
        have hx1 := dgS_size x
        have hy1 := dgS_size y
        have hs1 : (s ++ (⟨#[32]⟩ : ByteArray)).size = 2 + 3 * k + 1 := by rw [ByteArray.size_append, hs]; rfl
        have hs2 : (s ++ (⟨#[32]⟩ : ByteArray) ++ dgS x).size = 2 + 3 * k + 2 := by rw [ByteArray.size_append, hs1, hx1]
        have hs3 : (s ++ (⟨#[32]⟩ : ByteArray) ++ dgS x ++ dgS y).size = 2 + 3 * k + 3 := by rw [ByteArray.size_append, hs2, hy1]
        clear kr hb x1 y1 HX HY
        go_wp2
        clear d1
        obtain ⟨wx, hwx⟩ : ∃ z, z = wr := ⟨_, rfl⟩
        subst hwx
        obtain ⟨xx, hxx⟩ : ∃ z, z = x := ⟨_, rfl⟩
        subst hxx
        have hsz : s.size ≤ 17592186044416 := by omega
        refine wp_region_net (by kernel_rfl) [.eq (.string s), .eq (.string (s ++ (⟨#[32]⟩ : ByteArray))), .eq (.pointer (some ⟨w0.heap.size, 1, none⟩)), .eq (.slice (some ⟨bf, of_, none⟩) n c), .eq (.int .i64 k), .eq (.pointer (some ⟨bf, of_ + k, none⟩)), .eq (.int .i64 xx), .eq (.string (dgS xx)), .eq (.string (s ++ (⟨#[32]⟩ : ByteArray) ++ dgS xx)), .eq (.pointer (some ⟨w0.heap.size, 2, none⟩)), .eq (.slice (some ⟨bt, ot, none⟩) n d), .eq (.int .i64 k), .eq (.pointer (some ⟨bt, ot + k, none⟩)), .eq (.int .i64 y), .eq (.string (dgS y)), .eq (.string (s ++ (⟨#[32]⟩ : ByteArray) ++ dgS xx ++ dgS y))] [[], [0], [], [2], [], [2, 3, 4], [2, 3, 4, 5], [2, 3, 4, 5, 6], [0, 1, 2, 3, 4, 5, 6, 7], [], [9], [], [9, 10, 11], [9, 10, 11, 12], [2, 3, 4, 5, 6, 7, 9, 10, 11, 12, 13], [0, 1, 2, 3, 4, 5, 6, 7, 8, 9, 10, 11, 12, 13, 14], [0, 1, 2, 3, 4, 5, 6, 7, 8, 9, 10, 11, 12, 13, 14, 15]] 16 (by kernel_rfl) ⟨trivial, trivial, trivial, trivial, trivial, trivial, trivial, trivial, trivial, trivial, trivial, trivial, trivial, trivial, trivial, trivial, trivial⟩ ⟨?_, ?_, ?_, ?_, ?_, ?_, ?_, ?_, ?_, ?_, ?_, ?_, ?_, ?_, ?_, ?_, trivial⟩ ?_
        · intro x w hb hk Q' hQ
          clear hk
          simp only [netAct, dstAt, List.getElem?_toArray, List.getElem?_cons_zero, List.getElem?_cons_succ, Option.bind_some, Act.put, List.setIfInBounds_toArray, List.set_cons_zero, List.set_cons_succ] at hQ ⊢
          go_wp2
          exact hQ (.string s) _ (Below.refl _ _) rfl
        · intro x w hb hk Q' hQ
          have h0 : x.v 0 = .string s := (hk 0 (by decide)).1
          clear hk
          simp only [netAct, dstAt, List.getElem?_toArray, List.getElem?_cons_zero, List.getElem?_cons_succ, Option.bind_some, Act.put, List.setIfInBounds_toArray, List.set_cons_zero, List.set_cons_succ] at hQ ⊢
          simp only [h0] at hQ ⊢
          clear h0
          go_wp2
          exact hQ (.string (s ++ (⟨#[32]⟩ : ByteArray))) _ (Below.refl _ _) rfl
        · intro x w hb hk Q' hQ
          clear hk
          simp only [netAct, dstAt, List.getElem?_toArray, List.getElem?_cons_zero, List.getElem?_cons_succ, Option.bind_some, Act.put, List.setIfInBounds_toArray, List.set_cons_zero, List.set_cons_succ] at hQ ⊢
          go_wp2
          exact hQ (.pointer (some ⟨w0.heap.size, 1, none⟩)) _ (Below.refl _ _) rfl
        · intro x w hb hk Q' hQ
          have h2 : x.v 2 = .pointer (some ⟨w0.heap.size, 1, none⟩) := (hk 2 (by decide)).1
          clear hk
          simp only [netAct, dstAt, List.getElem?_toArray, List.getElem?_cons_zero, List.getElem?_cons_succ, Option.bind_some, Act.put, List.setIfInBounds_toArray, List.set_cons_zero, List.set_cons_succ] at hQ ⊢
          simp only [h2] at hQ ⊢
          clear h2
          have z := (KR.out.call hb).cell' (i := 1) rfl
          go_wp2
          exact hQ (.slice (some ⟨bf, of_, none⟩) n c) _ (Below.refl _ _) rfl
        · intro x w hb hk Q' hQ
          clear hk
          simp only [netAct, dstAt, List.getElem?_toArray, List.getElem?_cons_zero, List.getElem?_cons_succ, Option.bind_some, Act.put, List.setIfInBounds_toArray, List.set_cons_zero, List.set_cons_succ] at hQ ⊢
          go_wp2
          exact hQ (.int .i64 k) _ (Below.refl _ _) rfl
        · intro x w hb hk Q' hQ
          have h3 : x.v 3 = .slice (some ⟨bf, of_, none⟩) n c := (hk 3 (by decide)).1
          have h4 : x.v 4 = .int .i64 k := (hk 4 (by decide)).1
          clear hk
          simp only [netAct, dstAt, List.getElem?_toArray, List.getElem?_cons_zero, List.getElem?_cons_succ, Option.bind_some, Act.put, List.setIfInBounds_toArray, List.set_cons_zero, List.set_cons_succ] at hQ ⊢
          simp only [h3, h4] at hQ ⊢
          clear h3 h4
          go_wp2
          exact hQ (.pointer (some ⟨bf, of_ + k, none⟩)) _ (Below.refl _ _) rfl
        · intro x w hb hk Q' hQ
          have h5 : x.v 5 = .pointer (some ⟨bf, of_ + k, none⟩) := (hk 5 (by decide)).1
          clear hk
          simp only [netAct, dstAt, List.getElem?_toArray, List.getElem?_cons_zero, List.getElem?_cons_succ, Option.bind_some, Act.put, List.setIfInBounds_toArray, List.set_cons_zero, List.set_cons_succ] at hQ ⊢
          simp only [h5] at hQ ⊢
          clear h5
          have z := bcell hb hbf2 X1.out
          go_wp2
          exact hQ (.int .i64 xx) _ (Below.refl _ _) rfl
        · intro x w hb hk Q' hQ
          have h6 : x.v 6 = .int .i64 xx := (hk 6 (by decide)).1
          clear hk
          simp only [netAct, dstAt, List.getElem?_toArray, List.getElem?_cons_zero, List.getElem?_cons_succ, Option.bind_some, Act.put, List.setIfInBounds_toArray, List.set_cons_zero, List.set_cons_succ] at hQ ⊢
          simp only [h6] at hQ ⊢
          clear h6
          go_wp2_with fail
          refine (formatInt_any xx _ (by omega) (by omega)).mono ?_; rintro e w4 ⟨rfl, hb4⟩
          go_wp2
          exact hQ _ _ hb4 rfl
        · intro x w hb hk Q' hQ
          have h1 : x.v 1 = .string (s ++ (⟨#[32]⟩ : ByteArray)) := (hk 1 (by decide)).1
          have h7 : x.v 7 = .string (dgS xx) := (hk 7 (by decide)).1
          clear hk
          simp only [netAct, dstAt, List.getElem?_toArray, List.getElem?_cons_zero, List.getElem?_cons_succ, Option.bind_some, Act.put, List.setIfInBounds_toArray, List.set_cons_zero, List.set_cons_succ] at hQ ⊢
          simp only [h1, h7] at hQ ⊢
          clear h1 h7
          go_wp2
          exact hQ (.string (s ++ (⟨#[32]⟩ : ByteArray) ++ dgS xx)) _ (Below.refl _ _) rfl
        · intro x w hb hk Q' hQ
          clear hk
          simp only [netAct, dstAt, List.getElem?_toArray, List.getElem?_cons_zero, List.getElem?_cons_succ, Option.bind_some, Act.put, List.setIfInBounds_toArray, List.set_cons_zero, List.set_cons_succ] at hQ ⊢
          go_wp2
          exact hQ (.pointer (some ⟨w0.heap.size, 2, none⟩)) _ (Below.refl _ _) rfl
        · intro x w hb hk Q' hQ
          have h9 : x.v 9 = .pointer (some ⟨w0.heap.size, 2, none⟩) := (hk 9 (by decide)).1
          clear hk
          simp only [netAct, dstAt, List.getElem?_toArray, List.getElem?_cons_zero, List.getElem?_cons_succ, Option.bind_some, Act.put, List.setIfInBounds_toArray, List.set_cons_zero, List.set_cons_succ] at hQ ⊢
          simp only [h9] at hQ ⊢
          clear h9
          have z := (KR.out.call hb).cell' (i := 2) rfl
          go_wp2
          exact hQ (.slice (some ⟨bt, ot, none⟩) n d) _ (Below.refl _ _) rfl
        · intro x w hb hk Q' hQ
          clear hk
          simp only [netAct, dstAt, List.getElem?_toArray, List.getElem?_cons_zero, List.getElem?_cons_succ, Option.bind_some, Act.put, List.setIfInBounds_toArray, List.set_cons_zero, List.set_cons_succ] at hQ ⊢
          go_wp2
          exact hQ (.int .i64 k) _ (Below.refl _ _) rfl
        · intro x w hb hk Q' hQ
          have h10 : x.v 10 = .slice (some ⟨bt, ot, none⟩) n d := (hk 10 (by decide)).1
          have h11 : x.v 11 = .int .i64 k := (hk 11 (by decide)).1
          clear hk
          simp only [netAct, dstAt, List.getElem?_toArray, List.getElem?_cons_zero, List.getElem?_cons_succ, Option.bind_some, Act.put, List.setIfInBounds_toArray, List.set_cons_zero, List.set_cons_succ] at hQ ⊢
          simp only [h10, h11] at hQ ⊢
          clear h10 h11
          go_wp2
          exact hQ (.pointer (some ⟨bt, ot + k, none⟩)) _ (Below.refl _ _) rfl
        · intro x w hb hk Q' hQ
          have h12 : x.v 12 = .pointer (some ⟨bt, ot + k, none⟩) := (hk 12 (by decide)).1
          clear hk
          simp only [netAct, dstAt, List.getElem?_toArray, List.getElem?_cons_zero, List.getElem?_cons_succ, Option.bind_some, Act.put, List.setIfInBounds_toArray, List.set_cons_zero, List.set_cons_succ] at hQ ⊢
          simp only [h12] at hQ ⊢
          clear h12
          have z := bcell hb hbt2 Y1.out
          go_wp2
          exact hQ (.int .i64 y) _ (Below.refl _ _) rfl
        · intro x w hb hk Q' hQ
          have h13 : x.v 13 = .int .i64 y := (hk 13 (by decide)).1
          clear hk
          simp only [netAct, dstAt, List.getElem?_toArray, List.getElem?_cons_zero, List.getElem?_cons_succ, Option.bind_some, Act.put, List.setIfInBounds_toArray, List.set_cons_zero, List.set_cons_succ] at hQ ⊢
          simp only [h13] at hQ ⊢
          clear h13
          go_wp2_with fail
          refine (formatInt_any y _ (by omega) (by omega)).mono ?_; rintro e w4 ⟨rfl, hb4⟩
          go_wp2
          exact hQ _ _ hb4 rfl
        · intro x w hb hk Q' hQ
          have h8 : x.v 8 = .string (s ++ (⟨#[32]⟩ : ByteArray) ++ dgS xx) := (hk 8 (by decide)).1
          have h14 : x.v 14 = .string (dgS y) := (hk 14 (by decide)).1
          clear hk
          simp only [netAct, dstAt, List.getElem?_toArray, List.getElem?_cons_zero, List.getElem?_cons_succ, Option.bind_some, Act.put, List.setIfInBounds_toArray, List.set_cons_zero, List.set_cons_succ] at hQ ⊢
          simp only [h8, h14] at hQ ⊢
          clear h8 h14
          go_wp2
          exact hQ (.string (s ++ (⟨#[32]⟩ : ByteArray) ++ dgS xx ++ dgS y)) _ (Below.refl _ _) rfl
        · intro x w hb hk hiv hdj
          have h0 : x.v 0 = .string s := hk 0 (by decide)
          have h1 : x.v 1 = .string (s ++ (⟨#[32]⟩ : ByteArray)) := hk 1 (by decide)
          have h2 : x.v 2 = .pointer (some ⟨w0.heap.size, 1, none⟩) := hk 2 (by decide)
          have h3 : x.v 3 = .slice (some ⟨bf, of_, none⟩) n c := hk 3 (by decide)
          have h4 : x.v 4 = .int .i64 k := hk 4 (by decide)
          have h5 : x.v 5 = .pointer (some ⟨bf, of_ + k, none⟩) := hk 5 (by decide)
          have h6 : x.v 6 = .int .i64 xx := hk 6 (by decide)
          have h7 : x.v 7 = .string (dgS xx) := hk 7 (by decide)
          have h8 : x.v 8 = .string (s ++ (⟨#[32]⟩ : ByteArray) ++ dgS xx) := hk 8 (by decide)
          have h9 : x.v 9 = .pointer (some ⟨w0.heap.size, 2, none⟩) := hk 9 (by decide)
          have h10 : x.v 10 = .slice (some ⟨bt, ot, none⟩) n d := hk 10 (by decide)
          have h11 : x.v 11 = .int .i64 k := hk 11 (by decide)
          have h12 : x.v 12 = .pointer (some ⟨bt, ot + k, none⟩) := hk 12 (by decide)
          have h13 : x.v 13 = .int .i64 y := hk 13 (by decide)
          have h14 : x.v 14 = .string (dgS y) := hk 14 (by decide)
          have h15 : x.v 15 = .string (s ++ (⟨#[32]⟩ : ByteArray) ++ dgS xx ++ dgS y) := hk 15 (by decide)
          clear hk
          simp only [netAct, dstAt, List.getElem?_toArray, List.getElem?_cons_zero, List.getElem?_cons_succ, Option.bind_some, Act.put, List.setIfInBounds_toArray, List.set_cons_zero, List.set_cons_succ]
          simp only [List.drop_succ_cons, List.drop_zero, h0, h1, h2, h3, h4, h5, h6, h7, h8, h9, h10, h11, h12, h13, h14, h15]
          clear h0 h1 h2 h3 h4 h5 h6 h7 h8 h9 h10 h11 h12 h13 h14 h15
          have HB3 := Lib.hid (HB.out.trans (hb.mono hbs))
          clear hb hiv hdj
          go_wp2
          go_roundw
          case rel => exact ⟨k + 1, _, by omega, by go_num, rfl, by rw [hs3]; omega, HB3.out⟩
          case measure => simp [intOf]; omega
      · obtain rfl : k = n := by omega
        have GF := Lib.hid (bthen G2.out hb)
        clear hb kr
        go_wp2
        go_ret
        exact ⟨s, by omega, rfl, GF.out⟩
end Go.Proofs.Ytaefpblpfjhgoaa

/- The two LineOf. -/
namespace Go.Proofs.Ytaefpblpfjhgoaa
set_option linter.unusedVariables false
set_option linter.unusedSimpArgs false
open Go.RowKit

def lineF (k : Nat) : List Int := (List.range k).map fun i : Nat => (i : Int)
def lineT (k : Nat) : List Int := (List.range k).map fun i : Nat => (i : Int) + 1
theorem fam_nil2 {w : World} {lo hi : Nat} : Fam w lo hi [(.slice none 0 0, []), (.slice none 0 0, [])] := by
  refine ⟨fun p hp => ?_, ?_⟩
  · simp only [List.mem_cons, List.not_mem_nil, or_false, or_self] at hp
    subst hp
    exact ⟨OwnI.nil _ _, fun k hk => by simp [Value.ownBlock] at hk⟩
  · simp [Value.ownBlock]
theorem fam_made2 (w : World) {lo : Nat} (h : lo ≤ w.heap.size) : Fam ((w.alloc (.cells #[] 3)).alloc (.cells #[] 3)) lo (w.heap.size + 1 + 1) [(.slice (some ⟨w.heap.size, 0, none⟩) 0 0, []), (.slice (some ⟨w.heap.size + 1, 0, none⟩) 0 0, [])] := by
  refine fam_two (mi := w.heap.size + 1) ⟨(OwnI.made _ rfl h).alloc _, fun k hk => by simp [Value.ownBlock] at hk; omega⟩ ⟨?_, fun k hk => by simp [Value.ownBlock] at hk; omega⟩ (by omega) (by omega)
  have := OwnI.made (w := w.alloc (.cells #[] 3)) (base := w.heap.size + 1) _ rfl (by simp)
  simpa only [World.size_alloc] using this
/-- The line of n vertices. -/
def lineQ (n : Int) : Qv := if inR n 1 5 then ⟨n, lineF (n - 1).toNat, lineT (n - 1).toNat⟩ else ⟨0, [], []⟩

end Go.Proofs.Ytaefpblpfjhgoaa

/- A quiver variable whose rows are the call's own and grow; draws and what lies low. -/
namespace Go.Proofs.Ytaefpblpfjhgoaa
set_option linter.unusedVariables false
set_option linter.unusedSimpArgs false
open Go.RowKit

theorem sl_one2 {w : World} {g : Nat} {x : Int} (hk : Blk w g 3 #[.int .i64 x]) (hx : I64 x) : SlI w w.heap.size (.slice (some ⟨g, 0, none⟩) 1 1) [x] := by
  refine ⟨_, 1, rfl, by simp, by omega, by simp, fun _ => ⟨g, 0, rfl, hk.lt, fun j y hj => ?_⟩⟩
  match j, hj with
  | 0, hj =>
    simp at hj; subst hj
    exact ⟨by rw [hk.cell]; rfl, hx⟩
  | j + 1, hj => simp at hj
theorem Cur.below {w w' : World} {c lo : Nat} (h : Cur w c) (k : Below lo w w') (hc : c < lo) : Cur w' c := by
  obtain ⟨A, cc, i, hh, l, hB, h1, h2, h3⟩ := h
  exact ⟨A, cc, i, hh, l, hB.below k hc, h1, h2, SlY.below (k.mono (Nat.le_of_lt hc)) h3⟩
theorem Ck.low {w0 w w' : World} {c lo : Nat} (h : Ck c w0 w) (k : Below lo w w') (h1 : w0.heap.size ≤ lo) (h2 : c < lo) : Ck c w0 w' :=
  ⟨k.os.trans h.os, k.tape.trans h.tape, k.output.trans h.output, Nat.le_trans h.size k.size, fun i hi hn => (k.block i (by omega)).trans (h.block i hi hn), fun h0 => (h.keep h0).below k h2⟩
theorem Cur.lt {w : World} {c : Nat} (h : Cur w c) : c < w.heap.size := by obtain ⟨_, _, _, _, _, hB, _⟩ := h; exact hB.lt
theorem QuivO.wid {w : World} {lo hi lo' hi' : Nat} {v : Value} {q : Qv} (h : QuivO w lo hi v q) (h1 : lo' ≤ lo) (h2 : hi ≤ hi') : QuivO w lo' hi' v q := by
  obtain ⟨a, b, e, hF, hr⟩ := h
  exact ⟨a, b, e, hF.mono h1 h2, hr⟩
/-- the quiver variable -/
def GQ (w : World) (lo gq : Nat) (V : Int) (A : Option Addr) (c : Nat) (C : Option Addr) (d : Nat) (F T : List Int) : Prop :=
  Blk w gq 26 #[.int .i64 V, .slice A F.length c, .slice C T.length d] ∧ Fam w lo w.heap.size [(.slice A F.length c, F), (.slice C T.length d, T)] ∧ I64 V ∧ lo ≤ w.heap.size
section
variable {w w' : World} {lo gq c d : Nat} {V : Int} {A C : Option Addr} {F T : List Int}
theorem GQ.below (h : GQ w lo gq V A c C d F T) (hb : Below w.heap.size w w') : GQ w' lo gq V A c C d F T :=
  ⟨h.1.call hb, (h.2.1.below hb).mono (Nat.le_refl _) hb.size, h.2.2.1, Nat.le_trans h.2.2.2 hb.size⟩
theorem GQ.ck {k : Nat} (h : GQ w lo gq V A c C d F T) (hb : Ck k w w') (hk : k < lo) (hg : gq ≠ k) : GQ w' lo gq V A c C d F T :=
  ⟨h.1.ck hb hg, (h.2.1.chg hb.chg (.inr (by omega))).mono (Nat.le_refl _) hb.size, h.2.2.1, Nat.le_trans h.2.2.2 hb.size⟩
theorem GQ.setF {w1 : World} {A1 : Option Addr} {c1 n1 : Nat} {F1 : List Int} (h : GQ w lo gq V A c C d F T) (ho : OwnI w1 lo (.slice A1 n1 c1) F1) (hn : n1 = F1.length) (hg : w.grownBy w1 (Value.slice A F.length c).ownBlock) (hv : (Value.slice A1 n1 c1).ownBlock = (Value.slice A F.length c).ownBlock ∨ (Value.slice A1 n1 c1).ownBlock = some w.heap.size) :
    Blk w1 gq 26 #[.int .i64 V, .slice A F.length c, .slice C T.length d] ∧ GQ (w1.setCell ⟨gq, 1, none⟩ (.slice A1 n1 c1)) lo gq V A1 c1 C d F1 T ∧ Below lo w w1 := by
  subst hn
  have hfa : OwnI w lo (.slice A F.length c) F := (h.2.1.1 (_, F) (by simp)).1
  have hB1 := h.1.grown hg (hfa.blkne h.1 (by decide))
  have hF1 := h.2.1.app (w' := w1) (L1 := []) hg.size ho hg hv
  refine ⟨hB1, ⟨hB1.set_ 1 _, ?_, h.2.2.1, ?_⟩, below_grown hg (fun j hj => (hfa.lt j hj).1) h.2.2.2⟩
  · have := hF1.setBlk (i := 1) hB1 (by decide) (.slice A1 F1.length c1)
    exact this.mono (Nat.le_refl _) (by simp)
  · have := hg.size; simp; have := h.2.2.2; omega
theorem GQ.setT {w1 : World} {A1 : Option Addr} {c1 n1 : Nat} {F1 : List Int} (h : GQ w lo gq V A c C d F T) (ho : OwnI w1 lo (.slice A1 n1 c1) F1) (hn : n1 = F1.length) (hg : w.grownBy w1 (Value.slice C T.length d).ownBlock) (hv : (Value.slice A1 n1 c1).ownBlock = (Value.slice C T.length d).ownBlock ∨ (Value.slice A1 n1 c1).ownBlock = some w.heap.size) :
    Blk w1 gq 26 #[.int .i64 V, .slice A F.length c, .slice C T.length d] ∧ GQ (w1.setCell ⟨gq, 2, none⟩ (.slice A1 n1 c1)) lo gq V A c A1 c1 F F1 ∧ Below lo w w1 := by
  subst hn
  have hfa : OwnI w lo (.slice C T.length d) T := (h.2.1.1 (_, T) (by simp)).1
  have hB1 := h.1.grown hg (hfa.blkne h.1 (by decide))
  have hF1 := h.2.1.app (w' := w1) (L1 := [(_, F)]) hg.size ho hg hv
  refine ⟨hB1, ⟨hB1.set_ 2 _, ?_, h.2.2.1, ?_⟩, below_grown hg (fun j hj => (hfa.lt j hj).1) h.2.2.2⟩
  · have := hF1.setBlk (i := 2) hB1 (by decide) (.slice A1 F1.length c1)
    exact this.mono (Nat.le_refl _) (by simp)
  · have := hg.size; simp; have := h.2.2.2; omega
theorem GQ.rd (h : GQ w lo gq V A c C d F T) : QvR w w.heap.size (.agg #[.int .i64 V, .slice A F.length c, .slice C T.length d]) ⟨V, F, T⟩ :=
  QuivO.rd (lo := lo) (hi := w.heap.size) ⟨_, _, rfl, h.2.1, h.2.2.1⟩
theorem GQ.quiv (h : GQ w lo gq V A c C d F T) : QuivO w lo w.heap.size (.agg #[.int .i64 V, .slice A F.length c, .slice C T.length d]) ⟨V, F, T⟩ := ⟨_, _, rfl, h.2.1, h.2.2.1⟩
theorem GQ.setV {x : Int} (h : GQ w lo gq V A c C d F T) (hx : I64 x) : GQ (w.setCell ⟨gq, 0, none⟩ (.int .i64 x)) lo gq x A c C d F T :=
  ⟨h.1.set_ 0 _, (h.2.1.setBlk (i := 0) h.1 (by decide) _).mono (Nat.le_refl _) (by simp), hx, by simp; exact h.2.2.2⟩
end
end Go.Proofs.Ytaefpblpfjhgoaa

/- The reference's ParseQuiver: some quiver of the call's own. -/
namespace Go.Proofs.Ytaefpblpfjhgoaa
set_option linter.unusedVariables false
set_option linter.unusedSimpArgs false
open Go.RowKit

theorem wrap64_I64 (x : Int) : I64 (wrap64 x) := by unfold I64 wrap64; omega
set_option maxHeartbeats 3200000 in
set_option maxRecDepth 100000 in
theorem parseQuiver_any (s : ByteArray) (w0 : World) (hs : s.size ≤ 60) :
    Calls Try.prog 73 #[.string s] w0 fun e w' => ∃ v b q, e = .returned (.tuple #[v, .bool b]) ∧ QuivO w' w0.heap.size w'.heap.size v q ∧ q.f.length ≤ 61 ∧ q.t.length ≤ 61 ∧ Below w0.heap.size w0 w' := by
  obtain ⟨W, hW⟩ : ∃ W, W = w0.alloc (.cells #[.int .i64 0, .slice none 0 0, .slice none 0 0] 26) := ⟨_, rfl⟩
  have g0 : Below w0.heap.size w0 W := by rw [hW]; exact below_alloc _ _
  have kR : Blk W w0.heap.size 26 #[.int .i64 0, .slice none 0 0, .slice none 0 0] := by rw [hW]; exact Blk.new _ _ _
  have sW : W.heap.size = w0.heap.size + 1 := by rw [hW]; simp
  go_enter Try.func73, Try.ntmps73
  go_wp2_with fail
  rw [← hW]; clear hW
  refine (l6Cut_any s 32 _ (by omega) (by omega)).mono ?_; rintro e w1 ⟨v1, L, rfl, hL, hL0, hL1, hb1⟩
  obtain ⟨LA, lc, rfl, hcell⟩ := hL.form
  obtain ⟨gl, rfl, hgl, hgl2, hel⟩ := hcell hL0
  have g1 := bthen g0 hb1
  have kR1 := kR.call hb1
  have s1 := hb1.size
  obtain ⟨N, hN⟩ : ∃ N, L.length = N := ⟨_, rfl⟩
  have HN := Lib.hid hN
  rw [hN] at hL0 hL1 ⊢
  have HEL := Lib.hid hel
  have e0 : L[0]? = some (L[0]'(by rw [HN.out]; exact hL0)) := List.getElem?_eq_getElem _
  obtain ⟨s0, hs0⟩ : ∃ s0, L[0]'(by rw [HN.out]; exact hL0) = s0 := ⟨_, rfl⟩
  rw [hs0] at e0
  have l0 := hel 0 s0 e0
  have r0 := kR1.cell' (i := 0) rfl
  have r1 := kR1.cell' (i := 1) rfl
  have r2 := kR1.cell' (i := 2) rfl
  have fr := kR1.frozen
  have KR1 := Lib.hid kR1
  have G1 := Lib.hid g1
  clear hel e0 hs0 hL hcell hb1 kR g0 hN kR1 g1
  by_cases h2 : s0.size = 2
  · by_cases h30 : s.size ≤ 30
    · have hbyte : s0.size = 2 := h2
      go_wp2
      obtain ⟨V, hV⟩ : ∃ V, wrap64 (wrap64 ((s0[0]'(by omega)).toNat : Int) - 48) = V := ⟨_, rfl⟩
      have hVr : I64 V := by rw [← hV]; exact wrap64_I64 _
      rw [hV]; clear hV
      obtain ⟨W2, hW2⟩ : ∃ z, ((w1.alloc (.cells #[] 3)).alloc (.cells #[] 3)).alloc (.cells #[.int .i64 V, .slice (some ⟨w1.heap.size, 0, none⟩) 0 0, .slice (some ⟨w1.heap.size + 1, 0, none⟩) 0 0] 26) = z := ⟨_, rfl⟩
      have gb : Below w1.heap.size w1 W2 := by rw [← hW2]; exact (((Below.refl _ _).alloc (Nat.le_refl _) _).alloc (by simp) _).alloc (by simp; omega) _
      have hG : GQ W2 w1.heap.size (w1.heap.size + 1 + 1) V (some ⟨w1.heap.size, 0, none⟩) 0 (some ⟨w1.heap.size + 1, 0, none⟩) 0 [] [] := by
        rw [← hW2]
        refine ⟨?_, ?_, hVr, by simp; omega⟩
        · have := Blk.new ((w1.alloc (.cells #[] 3)).alloc (.cells #[] 3)) 26 #[.int .i64 V, .slice (some ⟨w1.heap.size, 0, none⟩) 0 0, .slice (some ⟨w1.heap.size + 1, 0, none⟩) 0 0]
          simp only [World.size_alloc] at this
          exact this
        · have h := fam_made2 w1 (lo := w1.heap.size) (Nat.le_refl _)
          exact (h.below (below_alloc _ _)).mono (Nat.le_refl _) (by simp)
      rw [hW2]
      clear hW2 r0 r1 r2 fr l0
      go_loopw [6] (fun i wr => ∃ (k c d : Nat) (A C : Option Addr) (F T : List Int), 1 ≤ k ∧ k ≤ N ∧ i = .int .i64 k ∧ F.length ≤ k ∧ T.length ≤ k ∧ Below w1.heap.size w1 wr ∧ GQ wr w1.heap.size (w1.heap.size + 1 + 1) V A c C d F T) (fun i _ => N - (intOf i).toNat)
      case atStart => exact ⟨1, 0, 0, _, _, [], [], Nat.le_refl _, by omega, rfl, by simp, by simp, gb, hG⟩
      case round =>
        clear gb hG
        obtain ⟨k, c, d, A, C, F, T, hk1, hk, rfl, hF, hT, hb, hG⟩ := hrel
        have kRr := KR1.out.below hb (by omega)
        have hbs := hb.size
        by_cases hlt : k < N
        · obtain ⟨u, hu⟩ : ∃ u, L[k]? = some u := ⟨_, List.getElem?_eq_getElem (by rw [HN.out]; exact hlt)⟩
          have lk := bcell hb (show gl < w1.heap.size from hgl2) (HEL.out k u hu)
          by_cases hu2 : u.size = 2
          · have H0 := Lib.hid (show wrap64 (wrap64 ((u[0]'(by omega)).toNat : Int) - 48) = wrap64 (wrap64 ((u[0]'(by omega)).toNat : Int) - 48) from rfl)
            have HG := Lib.hid hG
            have HB := Lib.hid hb
            have LK := Lib.hid lk
            have LU := Lib.hid hu
            have GB := Lib.hid hG.1
            have hgk : gl < wr.heap.size := by omega
            clear hG hb kRr hu
            go_wp2
            clear lk
            obtain ⟨wx, hwx⟩ : ∃ z, z = wr := ⟨_, rfl⟩
            subst hwx
            obtain ⟨y0, hy0⟩ : ∃ z, wrap64 (wrap64 ((u[0]'(by omega)).toNat : Int) - 48) = z := ⟨_, rfl⟩
            obtain ⟨y1, hy1⟩ : ∃ z, wrap64 (wrap64 ((u[1]'(by omega)).toNat : Int) - 48) = z := ⟨_, rfl⟩
            have hy0r : I64 y0 := by rw [← hy0]; exact wrap64_I64 _
            have hy1r : I64 y1 := by rw [← hy1]; exact wrap64_I64 _
            have HY0 := Lib.hid hy0
            have HY1 := Lib.hid hy1
            clear hy0 hy1
            refine wp_region_net (by kernel_rfl) [.eq (.pointer (some ⟨w1.heap.size + 1 + 1, 1, none⟩)), .eq (.slice A F.length c), .eq (.slice (some ⟨gl, 0, none⟩) N lc), .eq (.int .i64 k), .eq (.pointer (some ⟨gl, k, none⟩)), .eq (.string u), .eq (.int .u8 ((u[0]'(by omega)).toNat : Int)), .eq (.int .i64 (wrap64 ((u[0]'(by omega)).toNat : Int))), .eq (.int .i64 y0), rel 9 (fun u lo hi w => ∃ g, u = .slice (some ⟨g, 0, none⟩) 1 1 ∧ Blk w g 3 #[.int .i64 y0])] [[], [0], [], [], [2, 3], [2, 3, 4], [2, 3, 4, 5], [2, 3, 4, 5, 6], [2, 3, 4, 5, 6, 7], [2, 3, 4, 5, 6, 7, 8], [0, 1, 2, 3, 4, 5, 6, 7, 8, 9], [0, 1, 2, 3, 4, 5, 6, 7, 8, 9, 10], [0, 1, 2, 3, 4, 5, 6, 7, 8, 9, 10, 11]] 10 (by kernel_rfl) ⟨trivial, trivial, trivial, trivial, trivial, trivial, trivial, trivial, trivial, rel_stable (fun u lo hi w w' ⟨g, e, h⟩ hb => ⟨g, e, h.call hb⟩), trivial⟩ ⟨?_, ?_, ?_, ?_, ?_, ?_, ?_, ?_, ?_, ?_, trivial⟩ ?_
            · intro x w hb hk Q' hQ
              clear hk
              simp only [netAct, dstAt, List.getElem?_toArray, List.getElem?_cons_zero, List.getElem?_cons_succ, Option.bind_some, Act.put, List.setIfInBounds_toArray, List.set_cons_zero, List.set_cons_succ] at hQ ⊢
              go_wp2
              exact hQ (.pointer (some ⟨w1.heap.size + 1 + 1, 1, none⟩)) _ (Below.refl _ _) rfl
            · intro x w hb hk Q' hQ
              have h0 : x.v 0 = .pointer (some ⟨w1.heap.size + 1 + 1, 1, none⟩) := (hk 0 (by decide)).1
              clear hk
              simp only [netAct, dstAt, List.getElem?_toArray, List.getElem?_cons_zero, List.getElem?_cons_succ, Option.bind_some, Act.put, List.setIfInBounds_toArray, List.set_cons_zero, List.set_cons_succ] at hQ ⊢
              simp only [h0] at hQ ⊢
              clear h0
              have z := (GB.out.call hb).cell' (i := 1) rfl
              go_wp2
              exact hQ (.slice A F.length c) _ (Below.refl _ _) rfl
            · intro x w hb hk Q' hQ
              clear hk
              simp only [netAct, dstAt, List.getElem?_toArray, List.getElem?_cons_zero, List.getElem?_cons_succ, Option.bind_some, Act.put, List.setIfInBounds_toArray, List.set_cons_zero, List.set_cons_succ] at hQ ⊢
              go_wp2
              exact hQ (.slice (some ⟨gl, 0, none⟩) N lc) _ (Below.refl _ _) rfl
            · intro x w hb hk Q' hQ
              clear hk
              simp only [netAct, dstAt, List.getElem?_toArray, List.getElem?_cons_zero, List.getElem?_cons_succ, Option.bind_some, Act.put, List.setIfInBounds_toArray, List.set_cons_zero, List.set_cons_succ] at hQ ⊢
              go_wp2
              exact hQ (.int .i64 k) _ (Below.refl _ _) rfl
            · intro x w hb hk Q' hQ
              have h2 : x.v 2 = .slice (some ⟨gl, 0, none⟩) N lc := (hk 2 (by decide)).1
              have h3 : x.v 3 = .int .i64 k := (hk 3 (by decide)).1
              clear hk
              simp only [netAct, dstAt, List.getElem?_toArray, List.getElem?_cons_zero, List.getElem?_cons_succ, Option.bind_some, Act.put, List.setIfInBounds_toArray, List.set_cons_zero, List.set_cons_succ] at hQ ⊢
              simp only [h2, h3] at hQ ⊢
              clear h2 h3
              go_wp2
              exact hQ (.pointer (some ⟨gl, k, none⟩)) _ (Below.refl _ _) rfl
            · intro x w hb hk Q' hQ
              have h4 : x.v 4 = .pointer (some ⟨gl, k, none⟩) := (hk 4 (by decide)).1
              clear hk
              simp only [netAct, dstAt, List.getElem?_toArray, List.getElem?_cons_zero, List.getElem?_cons_succ, Option.bind_some, Act.put, List.setIfInBounds_toArray, List.set_cons_zero, List.set_cons_succ] at hQ ⊢
              simp only [h4] at hQ ⊢
              clear h4
              have z := bcell hb hgk LK.out
              go_wp2
              exact hQ (.string u) _ (Below.refl _ _) rfl
            · intro x w hb hk Q' hQ
              have h5 : x.v 5 = .string u := (hk 5 (by decide)).1
              clear hk
              simp only [netAct, dstAt, List.getElem?_toArray, List.getElem?_cons_zero, List.getElem?_cons_succ, Option.bind_some, Act.put, List.setIfInBounds_toArray, List.set_cons_zero, List.set_cons_succ] at hQ ⊢
              simp only [h5] at hQ ⊢
              clear h5
              go_wp2
              exact hQ (.int .u8 ((u[0]'(by omega)).toNat : Int)) _ (Below.refl _ _) rfl
            · intro x w hb hk Q' hQ
              have h6 : x.v 6 = .int .u8 ((u[0]'(by omega)).toNat : Int) := (hk 6 (by decide)).1
              clear hk
              simp only [netAct, dstAt, List.getElem?_toArray, List.getElem?_cons_zero, List.getElem?_cons_succ, Option.bind_some, Act.put, List.setIfInBounds_toArray, List.set_cons_zero, List.set_cons_succ] at hQ ⊢
              simp only [h6] at hQ ⊢
              clear h6
              go_wp2
              exact hQ (.int .i64 (wrap64 ((u[0]'(by omega)).toNat : Int))) _ (Below.refl _ _) rfl
            · intro x w hb hk Q' hQ
              have h7 : x.v 7 = .int .i64 (wrap64 ((u[0]'(by omega)).toNat : Int)) := (hk 7 (by decide)).1
              clear hk
              simp only [netAct, dstAt, List.getElem?_toArray, List.getElem?_cons_zero, List.getElem?_cons_succ, Option.bind_some, Act.put, List.setIfInBounds_toArray, List.set_cons_zero, List.set_cons_succ] at hQ ⊢
              simp only [h7] at hQ ⊢
              clear h7
              go_wp2
              rw [HY0.out]
              exact hQ (.int .i64 y0) _ (Below.refl _ _) rfl
            · intro x w hb hk Q' hQ
              have h2 : x.v 2 = .slice (some ⟨gl, 0, none⟩) N lc := (hk 2 (by decide)).1
              have h3 : x.v 3 = .int .i64 k := (hk 3 (by decide)).1
              have h4 : x.v 4 = .pointer (some ⟨gl, k, none⟩) := (hk 4 (by decide)).1
              have h5 : x.v 5 = .string u := (hk 5 (by decide)).1
              have h6 : x.v 6 = .int .u8 ((u[0]'(by omega)).toNat : Int) := (hk 6 (by decide)).1
              have h7 : x.v 7 = .int .i64 (wrap64 ((u[0]'(by omega)).toNat : Int)) := (hk 7 (by decide)).1
              have h8 : x.v 8 = .int .i64 y0 := (hk 8 (by decide)).1
              clear hk
              simp only [netAct, dstAt, List.getElem?_toArray, List.getElem?_cons_zero, List.getElem?_cons_succ, Option.bind_some, Act.put, List.setIfInBounds_toArray, List.set_cons_zero, List.set_cons_succ] at hQ ⊢
              simp only [h2, h3, h4, h5, h6, h7, h8] at hQ ⊢
              clear h2 h3 h4 h5 h6 h7 h8
              go_wp2
              exact hQ _ _ (below_alloc _ _) ⟨_, rfl, Blk.new _ _ _⟩
            · intro x w hb hk hiv hdj
              have h0 : x.v 0 = .pointer (some ⟨w1.heap.size + 1 + 1, 1, none⟩) := hk 0 (by decide)
              have h1 : x.v 1 = .slice A F.length c := hk 1 (by decide)
              have h2 : x.v 2 = .slice (some ⟨gl, 0, none⟩) N lc := hk 2 (by decide)
              have h3 : x.v 3 = .int .i64 k := hk 3 (by decide)
              have h4 : x.v 4 = .pointer (some ⟨gl, k, none⟩) := hk 4 (by decide)
              have h5 : x.v 5 = .string u := hk 5 (by decide)
              have h6 : x.v 6 = .int .u8 ((u[0]'(by omega)).toNat : Int) := hk 6 (by decide)
              have h7 : x.v 7 = .int .i64 (wrap64 ((u[0]'(by omega)).toNat : Int)) := hk 7 (by decide)
              have h8 : x.v 8 = .int .i64 y0 := hk 8 (by decide)
              have h9 : ∃ g, (x.v 9) = .slice (some ⟨g, 0, none⟩) 1 1 ∧ Blk w g 3 #[.int .i64 y0] := hk 9 (by decide)
              clear hk
              simp only [netAct, dstAt, List.getElem?_toArray, List.getElem?_cons_zero, List.getElem?_cons_succ, Option.bind_some, Act.put, List.setIfInBounds_toArray, List.set_cons_zero, List.set_cons_succ]
              simp only [List.drop_succ_cons, List.drop_zero, h0, h1, h2, h3, h4, h5, h6, h7, h8]
              clear h0 h1 h2 h3 h4 h5 h6 h7 h8
              obtain ⟨gn, e9, hN⟩ := h9
              rw [e9]
              have hGw := HG.out.below hb
              have hfa : OwnI w w1.heap.size (.slice A F.length c) F := (hGw.2.1.1 (_, F) (by simp)).1
              refine wpList_appI (by rfl) (.tmp 43) (.tmp 51) (by rfl) w1.heap.size w.heap.size _ F (by rfl) hfa (some ⟨gn, 0, none⟩) 1 1 [y0] (by rfl) rfl (sl_one2 hN hy0r) (by simp; omega) hGw.2.2.2 ?_
              intro v3 w3 ho3 hg3 hv3
              obtain ⟨A3, c3, rfl, _⟩ := ho3.form
              obtain ⟨nA3, hnA3⟩ : ∃ z, (F ++ [y0]).length = z := ⟨_, rfl⟩
              rw [hnA3] at ho3 hv3 ⊢
              obtain ⟨hB3, hG3, hb3⟩ := hGw.setF ho3 hnA3.symm hg3 hv3
              have z1 := hB3.cell' (i := 1) rfl
              have fz := hB3.frozen
              obtain ⟨W3, hW3⟩ : ∃ z, w3.setCell ⟨w1.heap.size + 1 + 1, 1, none⟩ (.slice A3 nA3 c3) = z := ⟨_, rfl⟩
              rw [hW3] at hG3
              have hch : Chg (w1.heap.size + 1 + 1) (w1.heap.size + 1 + 1 + 1) w3 W3 := by rw [← hW3]; exact chg_set (Nat.le_refl _) (Nat.lt_succ_self _)
              have hbw := hb.size
              have hbw3 := hb3.size
              have hb13 : Below w1.heap.size w1 W3 := ((HB.out.trans (hb.mono hbs)).trans hb3).trans (hch.below (by omega) (by omega))
              have hl3 := bcell hb13 hgl2 (HEL.out k u LU.out)
              have hsW : w1.heap.size ≤ W3.heap.size := hb13.size
              have HG3 := Lib.hid hG3
              have HB13 := Lib.hid hb13
              have LK3 := Lib.hid hl3
              have hgk3 : gl < W3.heap.size := by omega
              have GB3 := Lib.hid hG3.1
              clear hnA3 hB3 hG3 hb3 ho3 hg3 hv3 hch hb13 hl3 hfa hGw hN e9 hiv hdj GB LK HG HB
              go_wp2
              clear hW3 z1 fz
              refine wp_region_net (by kernel_rfl) [.eq (.pointer (some ⟨w1.heap.size + 1 + 1, 2, none⟩)), .eq (.slice C T.length d), .eq (.slice (some ⟨gl, 0, none⟩) N lc), .eq (.int .i64 k), .eq (.pointer (some ⟨gl, k, none⟩)), .eq (.string u), .eq (.int .u8 ((u[1]'(by omega)).toNat : Int)), .eq (.int .i64 (wrap64 ((u[1]'(by omega)).toNat : Int))), .eq (.int .i64 y1), rel 9 (fun u lo hi w => ∃ g, u = .slice (some ⟨g, 0, none⟩) 1 1 ∧ Blk w g 3 #[.int .i64 y1])] [[], [0], [], [], [2, 3], [2, 3, 4], [2, 3, 4, 5], [2, 3, 4, 5, 6], [2, 3, 4, 5, 6, 7], [2, 3, 4, 5, 6, 7, 8], [0, 1, 2, 3, 4, 5, 6, 7, 8, 9], [0, 1, 2, 3, 4, 5, 6, 7, 8, 9, 10], [0, 1, 2, 3, 4, 5, 6, 7, 8, 9, 10, 11]] 10 (by kernel_rfl) ⟨trivial, trivial, trivial, trivial, trivial, trivial, trivial, trivial, trivial, rel_stable (fun u lo hi w w' ⟨g, e, h⟩ hb => ⟨g, e, h.call hb⟩), trivial⟩ ⟨?_, ?_, ?_, ?_, ?_, ?_, ?_, ?_, ?_, ?_, trivial⟩ ?_
              · intro x w hb hk Q' hQ
                clear hk
                simp only [netAct, dstAt, List.getElem?_toArray, List.getElem?_cons_zero, List.getElem?_cons_succ, Option.bind_some, Act.put, List.setIfInBounds_toArray, List.set_cons_zero, List.set_cons_succ] at hQ ⊢
                go_wp2
                exact hQ (.pointer (some ⟨w1.heap.size + 1 + 1, 2, none⟩)) _ (Below.refl _ _) rfl
              · intro x w hb hk Q' hQ
                have h0 : x.v 0 = .pointer (some ⟨w1.heap.size + 1 + 1, 2, none⟩) := (hk 0 (by decide)).1
                clear hk
                simp only [netAct, dstAt, List.getElem?_toArray, List.getElem?_cons_zero, List.getElem?_cons_succ, Option.bind_some, Act.put, List.setIfInBounds_toArray, List.set_cons_zero, List.set_cons_succ] at hQ ⊢
                simp only [h0] at hQ ⊢
                clear h0
                have z := (GB3.out.call hb).cell' (i := 2) rfl
                go_wp2
                exact hQ (.slice C T.length d) _ (Below.refl _ _) rfl
              · intro x w hb hk Q' hQ
                clear hk
                simp only [netAct, dstAt, List.getElem?_toArray, List.getElem?_cons_zero, List.getElem?_cons_succ, Option.bind_some, Act.put, List.setIfInBounds_toArray, List.set_cons_zero, List.set_cons_succ] at hQ ⊢
                go_wp2
                exact hQ (.slice (some ⟨gl, 0, none⟩) N lc) _ (Below.refl _ _) rfl
              · intro x w hb hk Q' hQ
                clear hk
                simp only [netAct, dstAt, List.getElem?_toArray, List.getElem?_cons_zero, List.getElem?_cons_succ, Option.bind_some, Act.put, List.setIfInBounds_toArray, List.set_cons_zero, List.set_cons_succ] at hQ ⊢
                go_wp2
                exact hQ (.int .i64 k) _ (Below.refl _ _) rfl
              · intro x w hb hk Q' hQ
                have h2 : x.v 2 = .slice (some ⟨gl, 0, none⟩) N lc := (hk 2 (by decide)).1
                have h3 : x.v 3 = .int .i64 k := (hk 3 (by decide)).1
                clear hk
                simp only [netAct, dstAt, List.getElem?_toArray, List.getElem?_cons_zero, List.getElem?_cons_succ, Option.bind_some, Act.put, List.setIfInBounds_toArray, List.set_cons_zero, List.set_cons_succ] at hQ ⊢
                simp only [h2, h3] at hQ ⊢
                clear h2 h3
                go_wp2
                exact hQ (.pointer (some ⟨gl, k, none⟩)) _ (Below.refl _ _) rfl
              · intro x w hb hk Q' hQ
                have h4 : x.v 4 = .pointer (some ⟨gl, k, none⟩) := (hk 4 (by decide)).1
                clear hk
                simp only [netAct, dstAt, List.getElem?_toArray, List.getElem?_cons_zero, List.getElem?_cons_succ, Option.bind_some, Act.put, List.setIfInBounds_toArray, List.set_cons_zero, List.set_cons_succ] at hQ ⊢
                simp only [h4] at hQ ⊢
                clear h4
                have z := bcell hb hgk3 LK3.out
                go_wp2
                exact hQ (.string u) _ (Below.refl _ _) rfl
              · intro x w hb hk Q' hQ
                have h5 : x.v 5 = .string u := (hk 5 (by decide)).1
                clear hk
                simp only [netAct, dstAt, List.getElem?_toArray, List.getElem?_cons_zero, List.getElem?_cons_succ, Option.bind_some, Act.put, List.setIfInBounds_toArray, List.set_cons_zero, List.set_cons_succ] at hQ ⊢
                simp only [h5] at hQ ⊢
                clear h5
                go_wp2
                exact hQ (.int .u8 ((u[1]'(by omega)).toNat : Int)) _ (Below.refl _ _) rfl
              · intro x w hb hk Q' hQ
                have h6 : x.v 6 = .int .u8 ((u[1]'(by omega)).toNat : Int) := (hk 6 (by decide)).1
                clear hk
                simp only [netAct, dstAt, List.getElem?_toArray, List.getElem?_cons_zero, List.getElem?_cons_succ, Option.bind_some, Act.put, List.setIfInBounds_toArray, List.set_cons_zero, List.set_cons_succ] at hQ ⊢
                simp only [h6] at hQ ⊢
                clear h6
                go_wp2
                exact hQ (.int .i64 (wrap64 ((u[1]'(by omega)).toNat : Int))) _ (Below.refl _ _) rfl
              · intro x w hb hk Q' hQ
                have h7 : x.v 7 = .int .i64 (wrap64 ((u[1]'(by omega)).toNat : Int)) := (hk 7 (by decide)).1
                clear hk
                simp only [netAct, dstAt, List.getElem?_toArray, List.getElem?_cons_zero, List.getElem?_cons_succ, Option.bind_some, Act.put, List.setIfInBounds_toArray, List.set_cons_zero, List.set_cons_succ] at hQ ⊢
                simp only [h7] at hQ ⊢
                clear h7
                go_wp2
                rw [HY1.out]
                exact hQ (.int .i64 y1) _ (Below.refl _ _) rfl
              · intro x w hb hk Q' hQ
                have h2 : x.v 2 = .slice (some ⟨gl, 0, none⟩) N lc := (hk 2 (by decide)).1
                have h3 : x.v 3 = .int .i64 k := (hk 3 (by decide)).1
                have h4 : x.v 4 = .pointer (some ⟨gl, k, none⟩) := (hk 4 (by decide)).1
                have h5 : x.v 5 = .string u := (hk 5 (by decide)).1
                have h6 : x.v 6 = .int .u8 ((u[1]'(by omega)).toNat : Int) := (hk 6 (by decide)).1
                have h7 : x.v 7 = .int .i64 (wrap64 ((u[1]'(by omega)).toNat : Int)) := (hk 7 (by decide)).1
                have h8 : x.v 8 = .int .i64 y1 := (hk 8 (by decide)).1
                clear hk
                simp only [netAct, dstAt, List.getElem?_toArray, List.getElem?_cons_zero, List.getElem?_cons_succ, Option.bind_some, Act.put, List.setIfInBounds_toArray, List.set_cons_zero, List.set_cons_succ] at hQ ⊢
                simp only [h2, h3, h4, h5, h6, h7, h8] at hQ ⊢
                clear h2 h3 h4 h5 h6 h7 h8
                go_wp2
                exact hQ _ _ (below_alloc _ _) ⟨_, rfl, Blk.new _ _ _⟩
              · intro x w hb hk hiv hdj
                have h0 : x.v 0 = .pointer (some ⟨w1.heap.size + 1 + 1, 2, none⟩) := hk 0 (by decide)
                have h1 : x.v 1 = .slice C T.length d := hk 1 (by decide)
                have h2 : x.v 2 = .slice (some ⟨gl, 0, none⟩) N lc := hk 2 (by decide)
                have h3 : x.v 3 = .int .i64 k := hk 3 (by decide)
                have h4 : x.v 4 = .pointer (some ⟨gl, k, none⟩) := hk 4 (by decide)
                have h5 : x.v 5 = .string u := hk 5 (by decide)
                have h6 : x.v 6 = .int .u8 ((u[1]'(by omega)).toNat : Int) := hk 6 (by decide)
                have h7 : x.v 7 = .int .i64 (wrap64 ((u[1]'(by omega)).toNat : Int)) := hk 7 (by decide)
                have h8 : x.v 8 = .int .i64 y1 := hk 8 (by decide)
                have h9 : ∃ g, (x.v 9) = .slice (some ⟨g, 0, none⟩) 1 1 ∧ Blk w g 3 #[.int .i64 y1] := hk 9 (by decide)
                clear hk
                simp only [netAct, dstAt, List.getElem?_toArray, List.getElem?_cons_zero, List.getElem?_cons_succ, Option.bind_some, Act.put, List.setIfInBounds_toArray, List.set_cons_zero, List.set_cons_succ]
                simp only [List.drop_succ_cons, List.drop_zero, h0, h1, h2, h3, h4, h5, h6, h7, h8]
                clear h0 h1 h2 h3 h4 h5 h6 h7 h8
                obtain ⟨gn, e9, hN⟩ := h9
                rw [e9]
                have hGw := HG3.out.below hb
                have hfa : OwnI w w1.heap.size (.slice C T.length d) T := (hGw.2.1.1 (_, T) (by simp)).1
                refine wpList_appI (by rfl) (.tmp 55) (.tmp 63) (by rfl) w1.heap.size w.heap.size _ T (by rfl) hfa (some ⟨gn, 0, none⟩) 1 1 [y1] (by rfl) rfl (sl_one2 hN hy1r) (by simp; omega) hGw.2.2.2 ?_
                intro v3 w3 ho3 hg3 hv3
                obtain ⟨A4, c4, rfl, _⟩ := ho3.form
                obtain ⟨nA4, hnA4⟩ : ∃ z, (T ++ [y1]).length = z := ⟨_, rfl⟩
                rw [hnA4] at ho3 hv3 ⊢
                obtain ⟨hB3, hG3, hb3⟩ := hGw.setT ho3 hnA4.symm hg3 hv3
                have z1 := hB3.cell' (i := 2) rfl
                have fz := hB3.frozen
                obtain ⟨W4, hW4⟩ : ∃ z, w3.setCell ⟨w1.heap.size + 1 + 1, 2, none⟩ (.slice A4 nA4 c4) = z := ⟨_, rfl⟩
                rw [hW4] at hG3
                have hch : Chg (w1.heap.size + 1 + 1) (w1.heap.size + 1 + 1 + 1) w3 W4 := by rw [← hW4]; exact chg_set (Nat.le_refl _) (Nat.lt_succ_self _)
                have hbw := hb.size
                have hbw3 := hb3.size
                have hb13 : Below w1.heap.size w1 W4 := ((HB13.out.trans (hb.mono hsW)).trans hb3).trans (hch.below (by omega) (by omega))
                have HG4 := Lib.hid hG3
                have HB4 := Lib.hid hb13
                have hF1 : (F ++ [y0]).length ≤ k + 1 := by simp; omega
                have hT1 : (T ++ [y1]).length ≤ k + 1 := by simp; omega
                clear hnA4 hB3 hG3 hb3 ho3 hg3 hv3 hch hb13 hfa hGw hN e9 hiv hdj
                go_wp2
                clear hW4 z1 fz
                go_roundw
                case rel => exact ⟨k + 1, c3, c4, A3, A4, _, _, by omega, by omega, by go_num, hF1, hT1, HB4.out, HG4.out⟩
                case measure => simp [intOf]; omega
          · have r0 := kRr.cell' (i := 0) rfl
            have r1 := kRr.cell' (i := 1) rfl
            have r2 := kRr.cell' (i := 2) rfl
            have fr := kRr.frozen
            have GF := Lib.hid ((((G1.out.trans (hb.mono (by omega))).setCell (p := ⟨w0.heap.size, 0, none⟩) (by simp) (.int .i64 0)).setCell (p := ⟨w0.heap.size, 1, none⟩) (by simp) (.slice none 0 0)).setCell (p := ⟨w0.heap.size, 2, none⟩) (by simp) (.slice none 0 0))
            clear hG hb kRr hu
            go_wp2
            exact bodyPost_ret (v := .tuple #[.agg #[.int .i64 0, .slice none 0 0, .slice none 0 0], .bool false]) (by simp [results, go_sem, r0, r1, r2]) rfl ⟨_, _, ⟨0, [], []⟩, rfl, ⟨_, _, rfl, fam_nil2, ⟨by decide, by decide⟩⟩, by simp, by simp, GF.out⟩
        · obtain rfl : k = N := by omega
          have hB := hG.1
          have q0 := hB.cell' (i := 0) rfl
          have q1 := hB.cell' (i := 1) rfl
          have q2 := hB.cell' (i := 2) rfl
          have HG := Lib.hid hG
          have HB := Lib.hid hb
          clear hG hb kRr hB
          go_wp2_with fail
          refine (formatQuiver_any _ ⟨V, F, T⟩ _ HG.out.rd).mono ?_; rintro e w3 ⟨s3, hs3, rfl, hb3⟩
          have HG3 := Lib.hid (HG.out.below hb3)
          have hB3 := HB.out.trans (hb3.mono hbs)
          have kR3 := KR1.out.below hB3 (by omega)
          have fr := kR3.frozen
          have r0 := kR3.cell' (i := 0) rfl
          have r1 := kR3.cell' (i := 1) rfl
          have r2 := kR3.cell' (i := 2) rfl
          have q0' := HG3.out.1.cell' (i := 0) rfl
          have q1' := HG3.out.1.cell' (i := 1) rfl
          have q2' := HG3.out.1.cell' (i := 2) rfl
          have gw := G1.out.trans (hB3.mono (by omega))
          clear q0 q1 q2 hb3 hB3 kR3
          have hne : w0.heap.size < w1.heap.size + 1 + 1 := by omega
          have gws := gw.size
          have hc3 := ((chg_set (lo := w0.heap.size) (hi := w0.heap.size + 1) (w := w3) (p := ⟨w0.heap.size, 0, none⟩) (u := .int .i64 V) (Nat.le_refl _) (Nat.lt_succ_self _)).trans (chg_set (p := ⟨w0.heap.size, 1, none⟩) (u := .slice A F.length c) (Nat.le_refl _) (Nat.lt_succ_self _))).trans (chg_set (p := ⟨w0.heap.size, 2, none⟩) (u := .slice C T.length d) (Nat.le_refl _) (Nat.lt_succ_self _))
          have OF := Lib.hid ((HG3.out.quiv.chg hc3 (.inr (by omega))).wid (lo' := w0.heap.size) (hi' := w3.heap.size) (by omega) (Nat.le_refl _))
          have GS := Lib.hid (gw.trans (hc3.below (Nat.le_refl _) gws))
          have GF := Lib.hid (((gw.setCell (p := ⟨w0.heap.size, 0, none⟩) (by simp) (.int .i64 0)).setCell (p := ⟨w0.heap.size, 1, none⟩) (by simp) (.slice none 0 0)).setCell (p := ⟨w0.heap.size, 2, none⟩) (by simp) (.slice none 0 0))
          have HLF := Lib.hid (And.intro hF hT)
          have hk61 : k ≤ 61 := by omega
          clear gw hc3 hF hT
          go_wp2
          · exact bodyPost_ret (v := .tuple #[.agg #[.int .i64 0, .slice none 0 0, .slice none 0 0], .bool false]) (by simp [results, go_sem, r0, r1, r2]) rfl ⟨_, _, ⟨0, [], []⟩, rfl, ⟨_, _, rfl, fam_nil2, ⟨by decide, by decide⟩⟩, by simp, by simp, GF.out⟩
          · exact bodyPost_ret (v := .tuple #[.agg #[.int .i64 V, .slice A F.length c, .slice C T.length d], .bool true]) (by simp [results, go_sem, r0, r1, r2]) rfl ⟨_, _, ⟨V, F, T⟩, rfl, by simpa using OF.out, by have := HLF.out; show F.length ≤ 61; omega, by have := HLF.out; show T.length ≤ 61; omega, GS.out⟩
    · have GF := Lib.hid (((G1.out.setCell (p := ⟨w0.heap.size, 0, none⟩) (by simp) (.int .i64 0)).setCell (p := ⟨w0.heap.size, 1, none⟩) (by simp) (.slice none 0 0)).setCell (p := ⟨w0.heap.size, 2, none⟩) (by simp) (.slice none 0 0))
      go_wp2
      exact bodyPost_ret (v := .tuple #[.agg #[.int .i64 0, .slice none 0 0, .slice none 0 0], .bool false]) (by simp [results, go_sem, r0, r1, r2]) rfl ⟨_, _, ⟨0, [], []⟩, rfl, ⟨_, _, rfl, fam_nil2, ⟨by decide, by decide⟩⟩, by simp, by simp, GF.out⟩
  · have GF := Lib.hid (((G1.out.setCell (p := ⟨w0.heap.size, 0, none⟩) (by simp) (.int .i64 0)).setCell (p := ⟨w0.heap.size, 1, none⟩) (by simp) (.slice none 0 0)).setCell (p := ⟨w0.heap.size, 2, none⟩) (by simp) (.slice none 0 0))
    go_wp2
    exact bodyPost_ret (v := .tuple #[.agg #[.int .i64 0, .slice none 0 0, .slice none 0 0], .bool false]) (by simp [results, go_sem, r0, r1, r2]) rfl ⟨_, _, ⟨0, [], []⟩, rfl, ⟨_, _, rfl, fam_nil2, ⟨by decide, by decide⟩⟩, by simp, by simp, GF.out⟩
end Go.Proofs.Ytaefpblpfjhgoaa

/- The reference's NamedQuiver: some quiver of the call's own. -/
namespace Go.Proofs.Ytaefpblpfjhgoaa
set_option linter.unusedVariables false
set_option linter.unusedSimpArgs false
open Go.RowKit

set_option maxHeartbeats 3200000 in
set_option maxRecDepth 100000 in
theorem namedQuiver_any (s : ByteArray) (w0 : World) :
    Calls Try.prog 48 #[.string s] w0 fun e w' => ∃ v b q, e = .returned (.tuple #[v, .bool b]) ∧ QuivO w' w0.heap.size w'.heap.size v q ∧ q.f.length ≤ 61 ∧ q.t.length ≤ 61 ∧ Below w0.heap.size w0 w' := by
  obtain ⟨W, hW⟩ : ∃ W, W = w0.alloc (.cells #[.int .i64 0, .slice none 0 0, .slice none 0 0] 26) := ⟨_, rfl⟩
  have g0 : Below w0.heap.size w0 W := by rw [hW]; exact below_alloc _ _
  have kR : Blk W w0.heap.size 26 #[.int .i64 0, .slice none 0 0, .slice none 0 0] := by rw [hW]; exact Blk.new _ _ _
  have sW : W.heap.size = w0.heap.size + 1 := by rw [hW]; simp
  have KR := Lib.hid kR
  have G0 := Lib.hid g0
  clear kR g0
  go_enter Try.func48, Try.ntmps48
  go_wp2_with fail
  all_goals rw [← hW]; clear hW
  all_goals (refine (parseQuiver_any _ _ (by decide)).mono ?_; rintro e w1 ⟨v1, b1, q, rfl, hQ1, hf, ht, hb1⟩)
  all_goals (
    obtain ⟨A, c, C, d, rfl⟩ := hQ1.form
    obtain ⟨W2, hW2⟩ : ∃ z, w1.alloc (.cells #[.int .i64 q.v, .slice A q.f.length c, .slice C q.t.length d] 26) = z := ⟨_, rfl⟩
    have ga : Below w1.heap.size w1 W2 := by rw [← hW2]; exact below_alloc _ _
    have kq : Blk W2 w1.heap.size 26 #[.int .i64 q.v, .slice A q.f.length c, .slice C q.t.length d] := by rw [← hW2]; exact Blk.new _ _ _
    have g2 := bthen hb1 ga
    have k2 := KR.out.call g2
    have fr := k2.frozen
    have r0 := k2.cell' (i := 0) rfl
    have r1 := k2.cell' (i := 1) rfl
    have r2 := k2.cell' (i := 2) rfl
    have q0 := kq.cell' (i := 0) rfl
    have q1 := kq.cell' (i := 1) rfl
    have q2 := kq.cell' (i := 2) rfl
    have s1 := hb1.size
    have hne : w0.heap.size < w1.heap.size := by omega
    have gw := G0.out.trans (g2.mono (by omega))
    have hc3 := ((chg_set (lo := w0.heap.size) (hi := w0.heap.size + 1) (w := W2) (p := ⟨w0.heap.size, 0, none⟩) (u := .int .i64 q.v) (Nat.le_refl _) (Nat.lt_succ_self _)).trans (chg_set (p := ⟨w0.heap.size, 1, none⟩) (u := .slice A q.f.length c) (Nat.le_refl _) (Nat.lt_succ_self _))).trans (chg_set (p := ⟨w0.heap.size, 2, none⟩) (u := .slice C q.t.length d) (Nat.le_refl _) (Nat.lt_succ_self _))
    have OF := Lib.hid (((hQ1.below ga).chg hc3 (.inr (by omega))).wid (lo' := w0.heap.size) (hi' := W2.heap.size) (by omega) ga.size)
    have GS := Lib.hid (gw.trans (hc3.below (Nat.le_refl _) gw.size))
    have HL := Lib.hid (And.intro hf ht)
    clear gw hc3 hf ht k2 kq g2 ga hb1 hQ1
    go_wp2
    clear hW2
    exact bodyPost_ret (v := .tuple #[.agg #[.int .i64 q.v, .slice A q.f.length c, .slice C q.t.length d], .bool b1]) (by simp [results, go_sem, r0, r1, r2]) rfl ⟨_, _, q, rfl, by simpa using OF.out, HL.out.1, HL.out.2, GS.out⟩)
end Go.Proofs.Ytaefpblpfjhgoaa

/- The law of Net.lean where the operations may draw: what they turn beside new memory is the cursor's block kc (Ck). -/
namespace Go.Proofs.Ytaefpblpfjhgoaa
set_option linter.unusedVariables false
set_option linter.unusedSimpArgs false
open Go.RowKit

def NS.stableK (s : NS) (kc : Nat) : Prop :=
  match s with
  | .eq _ => True
  | .rel R => ∀ x w w', R x w → Ck kc w w' → R x w'
theorem NS.holds_stableK {kc : Nat} {s : NS} (h : s.stableK kc) {i : Nat} {D : List Nat} {x : Gh} {w w' : World} (hh : s.holds i D x w) (hb : Ck kc w w') : s.holds i D x w' := by
  cases s with
  | eq f => exact hh
  | rel R => exact h _ _ _ hh hb
section
variable {P : Program}
section
variable {ops : Array Oper} {Q : Exit → Act → World → Prop} {sp : List NS} {D : List (List Nat)} {m : Nat} {a0 : Act} {w0 : World}
/-- what is to be shown of operation i -/
def netDoK (kc : Nat) (P : Program) (ops : Array Oper) (sp : List NS) (D : List (List Nat)) (a0 : Act) (w0 : World) (i : Nat) (o : Oper) : Prop :=
  ∀ (x : Gh) (w : World), Ck kc w0 w → (∀ j ∈ D.getD i [], known sp D x j w ∧ x.hi j ≤ w.heap.size) → ∀ Q' : Exit → Act → World → Prop,
    (∀ u w', Ck kc w w' → (sp.getD i (.eq undef)).holds i (D.getD i []) (x.set i u w.heap.size w'.heap.size) w' → Q' .normal ((netAct ops a0 x.v i).put o.dst u) w') → wpList P ops Q' [o] (netAct ops a0 x.v i) w

theorem net_anyK {kc : Nat} (hB : netB ops D m = true) (hst : ∀ s ∈ sp, s.stableK kc) (hdo : ∀ i o, i < m → ops[i]? = some o → netDoK kc P ops sp D a0 w0 i o)
    (hend : ∀ x w, Ck kc w0 w → (∀ i, i < m → known sp D x i w) → (∀ i, i < m → w0.heap.size ≤ x.lo i ∧ x.lo i ≤ x.hi i ∧ x.hi i ≤ w.heap.size) → (∀ i j, i < m → j < m → i ≠ j → x.hi i ≤ x.lo j ∨ x.hi j ≤ x.lo i) → wpList P ops Q (ops.toList.drop m) (netAct ops a0 x.v m) w) :
    ∀ (fuel : Nat) (listed : Array Bool) (x : Gh) (w : World), ((List.range ops.size).filter fun j => !listed.getD j false).length = fuel → listed.size = ops.size → (∀ j, m ≤ j → listed.getD j false = false) →
      (∀ i, listed.getD i false = true → ∀ j ∈ D.getD i [], listed.getD j false = true) → Ck kc w0 w → (∀ i, listed.getD i false = true → known sp D x i w) → (∀ i, listed.getD i false = true → w0.heap.size ≤ x.lo i ∧ x.lo i ≤ x.hi i ∧ x.hi i ≤ w.heap.size) →
      (∀ i j, listed.getD i false = true → listed.getD j false = true → i ≠ j → x.hi i ≤ x.lo j ∨ x.hi j ≤ x.lo i) →
      wpAny P .any ops Q fuel listed (actP ops a0 x.v (fun j => listed.getD j false) ops.size) w := by
  simp only [netB, Bool.and_eq_true, decide_eq_true_eq] at hB
  obtain ⟨⟨hm, hns⟩, hnf⟩ := hB
  have hok : ∀ i o, ops[i]? = some o → NetOk ops D m i o := fun i o ho => netAt_spec (by
    have := netFrom_spec ops.toList 0 hnf i o (by simpa using ho)
    simpa using this)
  have hst' : ∀ i, (sp.getD i (.eq undef)).stableK kc := fun i => by
    rw [List.getD_eq_getElem?_getD]
    rcases h : sp[i]? with _ | s
    · trivial
    · exact hst s (List.mem_of_getElem? h)
  intro fuel
  induction fuel with
  | zero =>
    intro listed x w hc hls hlm hcl hb hkn hiv hdj
    -- all are listed: then m is the region's size
    have hall : ∀ j, j < ops.size → listed.getD j false = true := fun j hj => by
      rw [List.length_eq_zero_iff, List.filter_eq_nil_iff] at hc
      have := hc j (List.mem_range.2 hj)
      simpa using this
    have hms : m = ops.size := by
      rcases Nat.lt_or_ge m ops.size with h | h
      · have := hall m h
        rw [hlm m (Nat.le_refl _)] at this
        cases this
      · omega
    refine net_tail hok 0 ops.size listed _ w (by omega) (by omega) hls (fun j => ?_) ?_
    · by_cases hj : j < ops.size
      · rw [hall j hj]; simp [hj]
      · rw [hlm j (by omega)]; simp [hj]
    · have := hend x w hb (fun i hi => hkn i (hall i (by omega))) (fun i hi => hiv i (hall i (by omega))) (fun i j hi hj => hdj i j (hall i (by omega)) (hall j (by omega)))
      rw [← actP_net (p := fun j => listed.getD j false) m (fun j hj => hall j (by omega))] at this
      rwa [hms] at this
  | succ fuel ih =>
    intro listed x w hc hls hlm hcl hb hkn hiv hdj
    by_cases hfull : ∀ j, j < m → listed.getD j false = true
    · -- the tail
      have hl : ∀ j, listed.getD j false = decide (j < m) := fun j => by
        by_cases hj : j < m
        · rw [hfull j hj]; simp [hj]
        · rw [hlm j (by omega)]; simp [hj]
      have hcnt : fuel + 1 + m = ops.size := by
        rw [← hc]
        have e : (List.range ops.size).filter (fun j => !listed.getD j false) = (List.range' m (ops.size - m)) := by
          have e1 : (List.range ops.size) = List.range m ++ List.range' m (ops.size - m) := by
            have h := List.range'_append_1 (s := 0) (m := m) (n := ops.size - m)
            rw [Nat.zero_add] at h
            rw [List.range_eq_range', List.range_eq_range', h]
            congr 1
            omega
          rw [e1, List.filter_append]
          rw [List.filter_eq_nil_iff.2 (fun j hj => by rw [hl]; simp at hj ⊢; exact hj), List.nil_append]
          rw [List.filter_eq_self.2 (fun j hj => by rw [hl]; simp [List.mem_range'] at hj ⊢; omega)]
        rw [e, List.length_range']
        omega
      refine net_tail hok (fuel + 1) m listed _ w (by omega) (Nat.le_refl _) hls hl ?_
      have := hend x w hb (fun i hi => hkn i (hfull i hi)) (fun i hi => hiv i (hfull i hi)) (fun i j hi hj => hdj i j (hfull i hi) (hfull j hj))
      rw [← actP_net (p := fun j => listed.getD j false) m hfull] at this
      rwa [actP_none (p := fun j => listed.getD j false) ops.size m hm (fun j h1 _ => hlm j h1)]
    · -- one of the net
      have hne : Region.ready .any ops listed ≠ [] := by
        intro h0
        -- the least that is not listed is ready
        have : ∀ n, ∀ j, j < n → j < m → listed.getD j false = true := by
          intro n
          induction n with
          | zero => intro j hj; omega
          | succ n ihn =>
            intro j hj hjm
            by_cases e : j < n
            · exact ihn j e hjm
            · rcases hlj : listed.getD j false with _ | _
              · exfalso
                have hjs : j < ops.size := by omega
                have hje := Array.getElem?_eq_getElem hjs
                have : j ∈ Region.ready .any ops listed := mem_ready.2 ⟨by
                  rw [← hlj]
                  simp [Array.getD_eq_getD_getElem?, Array.getElem?_eq_getElem (show j < listed.size by omega)], _, hje, fun e he hb => by
                  have := (hok j _ hje).direct e he hb
                  exact ihn e.on (by omega) (by omega)⟩
                rw [h0] at this
                cases this
              · rfl
        exact hfull fun j hj => this (j + 1) j (by omega) hj
      refine ⟨fun h0 => absurd h0 hne, fun i hi => ?_⟩
      obtain ⟨h0, o, ho, hall⟩ := mem_ready.1 hi
      have his := (Array.getElem?_eq_some_iff.1 ho).1
      have hO := hok i o ho
      have hDl : ∀ j ∈ D.getD i [], listed.getD j false = true := hO.danc (fun j => listed.getD j false = true) hall (fun k hk j hj => hcl k hk j hj)
      have him : i < m := by
        rcases Nat.lt_or_ge i m with h | h
        · exact h
        · exact absurd (fun j hj => hDl j (hO.tail h j (by omega))) hfull
      have hli : listed.getD i false = false := by
        rw [← h0]
        simp [Array.getD_eq_getD_getElem?, Array.getElem?_eq_getElem (show i < listed.size by omega)]
      have hpre := hdo i o him ho x w hb (fun j hj => ⟨hkn j (hDl j hj), (hiv j (hDl j hj)).2.2⟩) (fun e b w' => e = .normal ∧ ∃ u, b = (netAct ops a0 x.v i).put o.dst u ∧ (Ck kc w w' ∧ (sp.getD i (.eq undef)).holds i (D.getD i []) (x.set i u w.heap.size w'.heap.size) w'))
        (fun u w' h1 h2 => ⟨rfl, u, rfl, h1, h2⟩)
      have hwant : ∀ b : Act, Region.wanted o (yielded ops b.tmps) = true := fun b => by simp [Region.wanted, hO.guard]
      have hnl : ¬ LetsOut (fun (e : Exit) (b : Act) (w' : World) => e = .normal ∧ ∃ u, b = (netAct ops a0 x.v i).put o.dst u ∧ (Ck kc w w' ∧ (sp.getD i (.eq undef)).holds i (D.getD i []) (x.set i u w.heap.size w'.heap.size) w')) := by
        rintro ⟨b, w', h, _⟩
        cases h
      simp only [wpList, hwant, if_true] at hpre
      rcases hpre with hpre | hpre
      case inr => exact absurd hpre.2 hnl
      simp only [true_and] at hpre
      have hexec : execOp (actP ops a0 x.v (fun j => listed.getD j false) ops.size).eval o = execOp (netAct ops a0 x.v i).eval o := by
        refine execOp_congr o (fun cs b => Region.noSelect_spec hns i o cs b ho) fun y hx => ?_
        by_cases hxt : ∃ t, y = .tmp t
        · obtain ⟨t, rfl⟩ := hxt
          have hlook : t ∈ o.looksAt ops := List.mem_append_left _ (List.mem_filterMap.2 ⟨.tmp t, by simpa using hx, rfl⟩)
          have e1 : netAct ops a0 x.v i = actP ops a0 x.v (fun j => decide (j < i)) ops.size := by
            rw [actP_none (p := fun j => decide (j < i)) ops.size i (by omega) (fun j h1 _ => by simp; omega)]
            exact (actP_net (p := fun j => decide (j < i)) i (fun j hj => by simp [hj])).symm
          rw [e1]
          refine actP_eval t ops.size fun j hj hd => ?_
          rcases hO.looks j t hd hlook with h | h
          · rw [hDl j h]; have := hO.dlt j h; simp [this]
          · have hlt := (hok j _ (Array.getElem?_eq_getElem hj)).dlt i h
            have : listed.getD j false = false := by
              rcases hlj : listed.getD j false with _ | _
              · rfl
              · have := hcl j hlj i h
                rw [hli] at this
                cases this
            rw [this]; simp; omega
        · exact actP_evalC y (fun t h => hxt ⟨t, h⟩) _ _
      have hsz : (netAct ops a0 x.v i).tmps.size = (actP ops a0 x.v (fun j => listed.getD j false) ops.size).tmps.size := by
        rw [actP_size, ← actP_net (p := fun _ => true) i (fun _ _ => rfl), actP_size]
      have hT := wp_transfer (Q2 := Q) hexec hsz (fun c b w' h => by cases h.1) hnl hpre
      unfold wpOp
      simp only [ho, hwant, if_true]
      refine .inl (Oper.wp_mono ?_ hT)
      rintro b w' ⟨u, rfl, hbw, hh⟩
      have hdst : o.dst = dstAt ops i := by simp [dstAt, ho]
      have hlq : ∀ j, (listed.setIfInBounds i true).getD j false = (listed.getD j false || j == i) := fun j => by
        by_cases e : i = j
        · subst e
          simp [Array.getD_eq_getD_getElem?, Array.getElem?_setIfInBounds, hls, his]
        · rw [getD_set_ne _ e]
          simp [Ne.symm e]
      rw [hdst, actP_add (v' := (x.set i u w.heap.size w'.heap.size).v) (q := fun j => (listed.setIfInBounds i true).getD j false) (fun j hj _ => by simp [Gh.set, hj]) (by simp [Gh.set]) hli hlq (fun j d hij hlj hdj hdi => by
        rcases hO.dsts j d (by omega) hdj hdi with h | h
        · have := hO.dlt j h; omega
        · have := hcl j hlj i h
          rw [hli] at this
          cases this) ops.size his]
      refine ih _ _ _ ?_ (by simpa using hls) (fun j hj => by rw [hlq, hlm j hj]; simp; omega) (fun k hk j hj => ?_) (hb.trans hbw) (fun k hk => ?_) (fun k hk => ?_) (fun k j hk hj hkj => ?_)
      · -- the count
        have hmem : i ∈ (List.range ops.size).filter fun j => !listed.getD j false := by
          rw [List.mem_filter]; exact ⟨List.mem_range.2 his, by rw [hli]; rfl⟩
        have e : (List.range ops.size).filter (fun j => !(listed.setIfInBounds i true).getD j false) = ((List.range ops.size).filter fun j => !listed.getD j false).filter (fun j => j != i) := by
          rw [List.filter_filter]
          congr 1
          funext j
          rw [hlq]
          simp [Bool.not_or, Bool.and_comm, bne]
        have hnd : ((List.range ops.size).filter fun j => !listed.getD j false).Nodup := List.nodup_range.filter _
        rw [e]
        have := List.length_erase_of_mem hmem
        rw [hnd.erase_eq_filter, hc] at this
        simpa using this
      · rw [hlq] at hk ⊢
        simp only [Bool.or_eq_true, beq_iff_eq] at hk ⊢
        rcases hk with hk | rfl
        · exact .inl (hcl k hk j hj)
        · exact .inl (hDl j hj)
      · rw [hlq] at hk
        simp only [Bool.or_eq_true, beq_iff_eq] at hk
        unfold known
        by_cases e : k = i
        · subst e
          exact hh
        · rcases hk with hk | hk
          · refine NS.holds_congr (x := x) (fun j hj => ?_) (NS.holds_stableK (hst' k) (hkn k hk) hbw)
            have hji : j ≠ i := by
              rcases hj with rfl | hj
              · exact e
              · rintro rfl
                have := hcl k hk j hj
                rw [hli] at this
                cases this
            simp [Gh.set, hji]
          · exact absurd hk e
      · rw [hlq] at hk
        simp only [Bool.or_eq_true, beq_iff_eq] at hk
        by_cases e : k = i
        · subst e
          simp only [Gh.set, if_true]
          exact ⟨hb.size, hbw.size, Nat.le_refl _⟩
        · have := hiv k (hk.resolve_right e)
          have := hbw.size
          simp only [Gh.set, if_neg e]
          omega
      · rw [hlq] at hk hj
        simp only [Bool.or_eq_true, beq_iff_eq] at hk hj
        by_cases e : k = i
        · subst e
          have := hiv j (hj.resolve_right (Ne.symm hkj))
          simp only [Gh.set, if_true, if_neg (Ne.symm hkj)]
          exact .inr (by omega)
        · by_cases e' : j = i
          · subst e'
            have := hiv k (hk.resolve_right e)
            simp only [Gh.set, if_true, if_neg e]
            exact .inl (by omega)
          · simp only [Gh.set, if_neg e, if_neg e']
            exact hdj k j (hk.resolve_right e) (hj.resolve_right e') hkj

def stableAllK (kc : Nat) : List NS → Prop
  | [] => True
  | s :: l => s.stableK kc ∧ stableAllK kc l
theorem stableAllK_spec {kc : Nat} : ∀ {l : List NS}, stableAllK kc l → ∀ s ∈ l, s.stableK kc
  | [], _, s, hs => by simp at hs
  | a :: l, h, s, hs => by
    rcases List.mem_cons.1 hs with rfl | hs
    · exact h.1
    · exact stableAllK_spec h.2 s hs
def netAllK (kc : Nat) (P : Program) (ops : Array Oper) (sp : List NS) (D : List (List Nat)) (a0 : Act) (w0 : World) : Nat → List Oper → Prop
  | _, [] => True
  | i, o :: l => netDoK kc P ops sp D a0 w0 i o ∧ netAllK kc P ops sp D a0 w0 (i + 1) l
theorem netAllK_spec {kc : Nat} {ops : Array Oper} {sp : List NS} {D : List (List Nat)} {a0 : Act} {w0 : World} : ∀ (l : List Oper) (k : Nat), netAllK kc P ops sp D a0 w0 k l → ∀ j o, l[j]? = some o → netDoK kc P ops sp D a0 w0 (k + j) o
  | [], _, _, _, _, h => by simp at h
  | x :: l, k, h, 0, o, hj => by
    simp at hj
    subst hj
    exact h.1
  | x :: l, k, h, j + 1, o, hj => by
    have := netAllK_spec l (k + 1) h.2 j o (by simpa using hj)
    rwa [show k + 1 + j = k + (j + 1) by omega] at this
theorem rel_stableK {kc : Nat} {i : Nat} {R : Value → Nat → Nat → World → Prop} (h : ∀ u lo hi w w', R u lo hi w → Ck kc w w' → R u lo hi w') : (rel i R).stableK kc := fun v w w' hr hb => h _ _ _ _ _ hr hb
/-- THE LAW. -/
theorem wp_region_netK (kc : Nat) {id : Nat} {l : List Oper} {w : World} (hmo : P.follows .mixedOrders = true) (sp : List NS) (D : List (List Nat)) (m : Nat) (hB : netB l.toArray D m = true) (hst : stableAllK kc sp)
    (hdo : netAllK kc P l.toArray sp D a0 w 0 (l.take m))
    (hend : ∀ x w', Ck kc w w' → (∀ i, i < m → known sp D x i w') → (∀ i, i < m → w.heap.size ≤ x.lo i ∧ x.lo i ≤ x.hi i ∧ x.hi i ≤ w'.heap.size) → (∀ i j, i < m → j < m → i ≠ j → x.hi i ≤ x.lo j ∨ x.hi j ≤ x.lo i) → wpList P l.toArray Q (l.drop m) (netAct l.toArray a0 x.v m) w') : (Code.region id l.toArray true).wp P Q a0 w := by
  replace hst := stableAllK_spec hst
  have hdo : ∀ i o, i < m → l[i]? = some o → netDoK kc P l.toArray sp D a0 w.drew i o := fun i o hi ho => by
    have := netAllK_spec (l.take m) 0 hdo i o (by rw [List.getElem?_take, if_pos hi]; exact ho)
    rw [Nat.zero_add] at this
    exact fun v w1 hb => this v w1 ⟨hb.os, hb.tape, hb.output, hb.size, hb.block, hb.keep⟩
  refine wp_region_any hmo ?_
  have h := net_anyK (w0 := w.drew) (a0 := a0) (Q := Q) (P := P) (sp := sp) hB hst (fun i o hi ho => hdo i o hi (by simpa using ho)) (fun x w' hb hk hiv hdj => by simpa using hend x w' (show Ck kc w w' from ⟨hb.os, hb.tape, hb.output, hb.size, hb.block, hb.keep⟩) hk hiv hdj)
    l.toArray.size (Array.replicate l.toArray.size false) ⟨fun _ => undef, fun _ => 0, fun _ => 0⟩ w.drew
    (by rw [List.filter_eq_self.2 (fun j _ => by rw [repl_getD]; rfl), List.length_range])
    (by simp) (fun j _ => repl_getD _ _)
    (fun i hi => by rw [repl_getD] at hi; cases hi)
    (Ck.refl _ _)
    (fun i hi => by rw [repl_getD] at hi; cases hi)
    (fun i hi => by rw [repl_getD] at hi; cases hi)
    (fun i j hi => by rw [repl_getD] at hi; cases hi)
  have e : actP l.toArray a0 (fun _ => undef) (fun j => (Array.replicate l.toArray.size false).getD j false) l.toArray.size = a0 :=
    actP_none l.toArray.size 0 (by omega) (fun j _ _ => repl_getD _ _)
  rw [e] at h
  exact h
end
end
end Go.Proofs.Ytaefpblpfjhgoaa

/- The draw of an acyclic quiver: some quiver of the call's own. -/
namespace Go.Proofs.Ytaefpblpfjhgoaa
set_option linter.unusedVariables false
set_option linter.unusedSimpArgs false
open Go.RowKit

set_option maxRecDepth 100000 in
theorem l6Names_any (w0 : World) :
    Calls Try.prog 86 #[] w0 fun e w' => ∃ g cs, e = .returned (.slice (some ⟨g, 0, none⟩) 12 12) ∧ w0.heap.size ≤ g ∧ Blk w' g 9 cs ∧ (∀ i, i < 12 → ∃ s : ByteArray, cs[i]? = some (.string s)) ∧ Below w0.heap.size w0 w' := by
  go_enter Try.func86, Try.ntmps86
  go_wp2
  go_ret
  refine ⟨_, _, rfl, Nat.le_refl _, Blk.new _ _ _, fun i hi => ?_, below_alloc _ _⟩
  match i, hi with
  | 0, _ => exact ⟨_, rfl⟩
  | 1, _ => exact ⟨_, rfl⟩
  | 2, _ => exact ⟨_, rfl⟩
  | 3, _ => exact ⟨_, rfl⟩
  | 4, _ => exact ⟨_, rfl⟩
  | 5, _ => exact ⟨_, rfl⟩
  | 6, _ => exact ⟨_, rfl⟩
  | 7, _ => exact ⟨_, rfl⟩
  | 8, _ => exact ⟨_, rfl⟩
  | 9, _ => exact ⟨_, rfl⟩
  | 10, _ => exact ⟨_, rfl⟩
  | 11, _ => exact ⟨_, rfl⟩
  | i + 12, h => omega
set_option maxHeartbeats 3200000 in
set_option maxRecDepth 100000 in
theorem l6Acyclic_any (c : Nat) (w0 : World) (hc : Cur w0 c) :
    Calls Try.prog 65 #[.pointer (some ⟨c, 0, none⟩)] w0 fun e w' => ∃ v q, e = .returned v ∧ QuivO w' w0.heap.size w'.heap.size v q ∧ q.f.length ≤ 61 ∧ q.t.length ≤ 61 ∧ Ck c w0 w' := by
  have hcl := hc.lt
  obtain ⟨W, hW⟩ : ∃ W, W = w0.alloc (.cells #[.int .i64 0, .slice none 0 0, .slice none 0 0] 26) := ⟨_, rfl⟩
  have g0 : Ck c w0 W := by rw [hW]; exact Ck.of_below (below_alloc _ _)
  have kR : Blk W w0.heap.size 26 #[.int .i64 0, .slice none 0 0, .slice none 0 0] := by rw [hW]; exact Blk.new _ _ _
  have sW : W.heap.size = w0.heap.size + 1 := by rw [hW]; simp
  have hcw : w0.heap.size ≠ c := by omega
  have KR := Lib.hid kR
  have G0 := Lib.hid g0
  have HC := Lib.hid hc
  clear kR hc
  go_enter Try.func65, Try.ntmps65
  go_wp2_with fail
  rw [← hW]; clear hW
  refine (l1Once_any c 2 _ (g0.keep HC.out) ⟨by omega, by omega⟩).mono ?_; rintro e w1 ⟨b, rfl, hb1⟩
  have hC1 := Lib.hid ((g0.trans hb1).keep HC.out)
  have s1 := hb1.size
  have HB1 := Lib.hid hb1
  clear hb1 g0
  rcases b with _ | _
  · -- by arrows
    go_wp2_with fail
    refine (l1Below_any c 4 _ hC1.out ⟨by omega, by omega⟩).mono ?_; rintro e w2 ⟨r, hr, _, rfl, hb2⟩
    have hr4 : r < 4 := by omega
    have hC2 := Lib.hid (hb2.keep hC1.out)
    have HB2 := Lib.hid (HB1.out.trans hb2)
    have s2 := hb2.size
    obtain ⟨V, hV⟩ : ∃ V : Nat, V = 1 + r := ⟨_, rfl⟩
    obtain ⟨W3, hW3⟩ : ∃ z, ((w2.alloc (.cells #[] 3)).alloc (.cells #[] 3)).alloc (.cells #[.int .i64 (1 + (r : Int)), .slice (some ⟨w2.heap.size, 0, none⟩) 0 0, .slice (some ⟨w2.heap.size + 1, 0, none⟩) 0 0] 26) = z := ⟨_, rfl⟩
    have gb : Below w2.heap.size w2 W3 := by rw [← hW3]; exact (((Below.refl _ _).alloc (Nat.le_refl _) _).alloc (by simp) _).alloc (by simp; omega) _
    have hG : GQ W3 w2.heap.size (w2.heap.size + 1 + 1) (1 + (r : Int)) (some ⟨w2.heap.size, 0, none⟩) 0 (some ⟨w2.heap.size + 1, 0, none⟩) 0 [] [] := by
      rw [← hW3]
      refine ⟨?_, ?_, ⟨by omega, by omega⟩, by simp; omega⟩
      · have := Blk.new ((w2.alloc (.cells #[] 3)).alloc (.cells #[] 3)) 26 #[.int .i64 (1 + (r : Int)), .slice (some ⟨w2.heap.size, 0, none⟩) 0 0, .slice (some ⟨w2.heap.size + 1, 0, none⟩) 0 0]
        simp only [World.size_alloc] at this
        exact this
      · have h := fam_made2 w2 (lo := w2.heap.size) (Nat.le_refl _)
        exact (h.below (below_alloc _ _)).mono (Nat.le_refl _) (by simp)
    have hC3 := Lib.hid ((Ck.of_below (c := c) gb).keep hC2.out)
    have HB3 := Lib.hid (HB2.out.trans (Ck.of_below gb))
    have HG3 := Lib.hid hG
    clear hb2 gb hG
    go_wp2_with fail
    refine (l1Below_any c 5 _ hC3.out ⟨by omega, by omega⟩).mono ?_; rintro e w4 ⟨m, hm, _, rfl, hb4⟩
    clear hW3
    have hm4 : m ≤ 4 := by omega
    have hcl2 : c < w2.heap.size := by have := HB2.out.size; omega
    have hgc : w2.heap.size + 1 + 1 ≠ c := by omega
    have hC4 := hb4.keep hC3.out
    have hG4 := HG3.out.ck hb4 hcl2 hgc
    have hB4 := HB3.out.trans hb4
    clear hb4
    go_wp2
    go_loopw [6] (fun nv wr => ∃ (k cA d : Nat) (A C : Option Addr) (F T : List Int), k ≤ 4 ∧ nv = .int .i64 k ∧ F.length + k ≤ 4 ∧ T.length + k ≤ 4 ∧ Cur wr c ∧ Ck c W wr ∧ GQ wr w2.heap.size (w2.heap.size + 1 + 1) (1 + (r : Int)) A cA C d F T) (fun nv _ => (intOf nv).toNat)
    case atStart => exact ⟨m, 0, 0, _, _, [], [], hm4, rfl, by simpa using hm4, by simpa using hm4, hC4, hB4, hG4⟩
    case round =>
      clear hC4 hB4 hG4 hm
      obtain ⟨k, cA, d, A, C, F, T, hk, rfl, hF, hT, hC, hB, hG⟩ := hrel
      have q0 := hG.1.cell' (i := 0) rfl
      by_cases hgo : 0 < k ∧ 0 < r
      · obtain ⟨hk0, hr0⟩ := hgo
        have HC := Lib.hid hC
        have HB := Lib.hid hB
        have HG := Lib.hid hG
        clear hC hB hG
        go_wp2_with fail
        refine (l1Below_any c _ _ HC.out ⟨by omega, by omega⟩).mono ?_; rintro e w5 ⟨a, ha, _, rfl, hb5⟩
        have ha4 : a ≤ 4 := by omega
        have HC5 := Lib.hid (hb5.keep HC.out)
        have HB5 := Lib.hid (HB.out.trans hb5)
        have hG5 := HG.out.ck hb5 hcl2 hgc
        have gX := below_alloc w5 (.cells #[.int .i64 (a : Int)] 3)
        have kX := Blk.new w5 3 #[.int .i64 (a : Int)]
        have hGX := hG5.below gX
        have HGX := Lib.hid hGX
        have hfa : OwnI (w5.alloc (.cells #[.int .i64 (a : Int)] 3)) w2.heap.size (.slice A F.length cA) F := (hGX.2.1.1 (_, F) (by simp)).1
        have HFA := Lib.hid hfa
        have HKX := Lib.hid kX
        have q1 := hG5.1.cell' (i := 1) rfl
        have HBX := Lib.hid (HB5.out.trans (Ck.of_below gX))
        have HCX := Lib.hid ((Ck.of_below (c := c) gX).keep HC5.out)
        clear q0 hb5 hG5 gX kX hGX hfa
        (go_wp2_with (at_builtin; refine Hold.stop ?_)); unfold Hold
        refine wpList_appI (by rfl) (.tmp 43) (.tmp 45) (by rfl) w2.heap.size (w5.alloc (.cells #[.int .i64 (a : Int)] 3)).heap.size _ F (by rfl) HFA.out (some ⟨w5.heap.size, 0, none⟩) 1 1 [(a : Int)] (by rfl) rfl (sl_one2 HKX.out ⟨by omega, by omega⟩) (by simp; omega) HGX.out.2.2.2 ?_
        intro v3 w3 ho3 hg3 hv3
        obtain ⟨A3, c3, rfl, _⟩ := ho3.form
        obtain ⟨nA3, hnA3⟩ : ∃ z, (F ++ [(a : Int)]).length = z := ⟨_, rfl⟩
        rw [hnA3] at ho3 hv3 ⊢
        obtain ⟨hB3, hG3, hb3⟩ := HGX.out.setF ho3 hnA3.symm hg3 hv3
        have z1 := hB3.cell' (i := 1) rfl
        have fz := hB3.frozen
        obtain ⟨W3', hW3⟩ : ∃ z, w3.setCell ⟨w2.heap.size + 1 + 1, 1, none⟩ (.slice A3 nA3 c3) = z := ⟨_, rfl⟩
        rw [hW3] at hG3
        have hch : Chg (w2.heap.size + 1 + 1) (w2.heap.size + 1 + 1 + 1) w3 W3' := by rw [← hW3]; exact chg_set (Nat.le_refl _) (Nat.lt_succ_self _)
        have hbw3 := hb3.size
        have hlow : Below w2.heap.size (w5.alloc (.cells #[.int .i64 (a : Int)] 3)) W3' := hb3.trans (hch.below (by omega) (by have := HGX.out.2.2.2; omega))
        have HB6 := Lib.hid (HBX.out.low hlow (by have := HB2.out.size; omega) hcl2)
        have HC6 := Lib.hid (HCX.out.below hlow hcl2)
        have HG6 := Lib.hid hG3
        have hF1 : (F ++ [(a : Int)]).length + (k - 1) ≤ 4 := by simp; omega
        have HF1 := Lib.hid hF1
        have GB6 := Lib.hid hG3.1
        clear hnA3 hB3 hG3 hb3 ho3 hg3 hv3 hch hlow q1 HGX HFA HKX HBX HCX hF1 hF
        go_wp2
        clear hW3 z1 fz
        refine wp_region_netK (c) (by kernel_rfl) [.eq (.pointer (some ⟨w2.heap.size + 1 + 1, 2, none⟩)), .eq (.slice C T.length d), .eq (.int .i64 a), .eq (.int .i64 ((a : Int) + 1)), .eq (.pointer (some ⟨c, 0, none⟩)), .eq (.pointer (some ⟨w2.heap.size + 1 + 1, 0, none⟩)), .eq (.int .i64 (1 + (r : Int))), .eq (.int .i64 (1 + (r : Int) - 1)), .eq (.int .i64 a), .eq (.int .i64 (1 + (r : Int) - 1 - a)), rel 10 (fun u lo hi w => ∃ i : Nat, u = .int .i64 i ∧ i ≤ 10), rel 11 (fun u lo hi w => ∃ i : Nat, u = .int .i64 i ∧ i ≤ 20), rel 12 (fun u lo hi w => ∃ (g i : Nat), u = .slice (some ⟨g, 0, none⟩) 1 1 ∧ Blk w g 3 #[.int .i64 i] ∧ i ≤ 20 ∧ c < g)] [[], [0], [], [2], [], [], [5], [5, 6], [], [5, 6, 7, 8], [4, 5, 6, 7, 8, 9], [2, 3, 4, 5, 6, 7, 8, 9, 10], [2, 3, 4, 5, 6, 7, 8, 9, 10, 11], [0, 1, 2, 3, 4, 5, 6, 7, 8, 9, 10, 11, 12], [0, 1, 2, 3, 4, 5, 6, 7, 8, 9, 10, 11, 12, 13], [0, 1, 2, 3, 4, 5, 6, 7, 8, 9, 10, 11, 12, 13, 14]] 13 (by kernel_rfl) ⟨trivial, trivial, trivial, trivial, trivial, trivial, trivial, trivial, trivial, trivial, rel_stableK (fun u lo hi w w' h hb => h), rel_stableK (fun u lo hi w w' h hb => h), rel_stableK (fun u lo hi w w' ⟨g, i, e, h, h2, h3⟩ hb => ⟨g, i, e, h.ck hb (by omega), h2, h3⟩), trivial⟩ ⟨?_, ?_, ?_, ?_, ?_, ?_, ?_, ?_, ?_, ?_, ?_, ?_, ?_, trivial⟩ ?_
        · intro x w hb hk Q' hQ
          clear hk
          simp only [netAct, dstAt, List.getElem?_toArray, List.getElem?_cons_zero, List.getElem?_cons_succ, Option.bind_some, Act.put, List.setIfInBounds_toArray, List.set_cons_zero, List.set_cons_succ] at hQ ⊢
          go_wp2
          exact hQ (.pointer (some ⟨w2.heap.size + 1 + 1, 2, none⟩)) _ (Ck.refl _ _) rfl
        · intro x w hb hk Q' hQ
          have h0 : x.v 0 = .pointer (some ⟨w2.heap.size + 1 + 1, 2, none⟩) := (hk 0 (by decide)).1
          clear hk
          simp only [netAct, dstAt, List.getElem?_toArray, List.getElem?_cons_zero, List.getElem?_cons_succ, Option.bind_some, Act.put, List.setIfInBounds_toArray, List.set_cons_zero, List.set_cons_succ] at hQ ⊢
          simp only [h0] at hQ ⊢
          clear h0
          have z := (GB6.out.ck hb hgc).cell' (i := 2) rfl
          go_wp2
          exact hQ (.slice C T.length d) _ (Ck.refl _ _) rfl
        · intro x w hb hk Q' hQ
          clear hk
          simp only [netAct, dstAt, List.getElem?_toArray, List.getElem?_cons_zero, List.getElem?_cons_succ, Option.bind_some, Act.put, List.setIfInBounds_toArray, List.set_cons_zero, List.set_cons_succ] at hQ ⊢
          go_wp2
          exact hQ (.int .i64 a) _ (Ck.refl _ _) rfl
        · intro x w hb hk Q' hQ
          have h2 : x.v 2 = .int .i64 a := (hk 2 (by decide)).1
          clear hk
          simp only [netAct, dstAt, List.getElem?_toArray, List.getElem?_cons_zero, List.getElem?_cons_succ, Option.bind_some, Act.put, List.setIfInBounds_toArray, List.set_cons_zero, List.set_cons_succ] at hQ ⊢
          simp only [h2] at hQ ⊢
          clear h2
          go_wp2
          exact hQ (.int .i64 ((a : Int) + 1)) _ (Ck.refl _ _) rfl
        · intro x w hb hk Q' hQ
          clear hk
          simp only [netAct, dstAt, List.getElem?_toArray, List.getElem?_cons_zero, List.getElem?_cons_succ, Option.bind_some, Act.put, List.setIfInBounds_toArray, List.set_cons_zero, List.set_cons_succ] at hQ ⊢
          go_wp2
          exact hQ (.pointer (some ⟨c, 0, none⟩)) _ (Ck.refl _ _) rfl
        · intro x w hb hk Q' hQ
          clear hk
          simp only [netAct, dstAt, List.getElem?_toArray, List.getElem?_cons_zero, List.getElem?_cons_succ, Option.bind_some, Act.put, List.setIfInBounds_toArray, List.set_cons_zero, List.set_cons_succ] at hQ ⊢
          go_wp2
          exact hQ (.pointer (some ⟨w2.heap.size + 1 + 1, 0, none⟩)) _ (Ck.refl _ _) rfl
        · intro x w hb hk Q' hQ
          have h5 : x.v 5 = .pointer (some ⟨w2.heap.size + 1 + 1, 0, none⟩) := (hk 5 (by decide)).1
          clear hk
          simp only [netAct, dstAt, List.getElem?_toArray, List.getElem?_cons_zero, List.getElem?_cons_succ, Option.bind_some, Act.put, List.setIfInBounds_toArray, List.set_cons_zero, List.set_cons_succ] at hQ ⊢
          simp only [h5] at hQ ⊢
          clear h5
          have z := (GB6.out.ck hb hgc).cell' (i := 0) rfl
          go_wp2
          exact hQ (.int .i64 (1 + (r : Int))) _ (Ck.refl _ _) rfl
        · intro x w hb hk Q' hQ
          have h6 : x.v 6 = .int .i64 (1 + (r : Int)) := (hk 6 (by decide)).1
          clear hk
          simp only [netAct, dstAt, List.getElem?_toArray, List.getElem?_cons_zero, List.getElem?_cons_succ, Option.bind_some, Act.put, List.setIfInBounds_toArray, List.set_cons_zero, List.set_cons_succ] at hQ ⊢
          simp only [h6] at hQ ⊢
          clear h6
          go_wp2
          exact hQ (.int .i64 (1 + (r : Int) - 1)) _ (Ck.refl _ _) rfl
        · intro x w hb hk Q' hQ
          clear hk
          simp only [netAct, dstAt, List.getElem?_toArray, List.getElem?_cons_zero, List.getElem?_cons_succ, Option.bind_some, Act.put, List.setIfInBounds_toArray, List.set_cons_zero, List.set_cons_succ] at hQ ⊢
          go_wp2
          exact hQ (.int .i64 a) _ (Ck.refl _ _) rfl
        · intro x w hb hk Q' hQ
          have h7 : x.v 7 = .int .i64 (1 + (r : Int) - 1) := (hk 7 (by decide)).1
          have h8 : x.v 8 = .int .i64 a := (hk 8 (by decide)).1
          clear hk
          simp only [netAct, dstAt, List.getElem?_toArray, List.getElem?_cons_zero, List.getElem?_cons_succ, Option.bind_some, Act.put, List.setIfInBounds_toArray, List.set_cons_zero, List.set_cons_succ] at hQ ⊢
          simp only [h7, h8] at hQ ⊢
          clear h7 h8
          go_wp2
          exact hQ (.int .i64 (1 + (r : Int) - 1 - a)) _ (Ck.refl _ _) rfl
        · intro x w hb hk Q' hQ
          have h4 : x.v 4 = .pointer (some ⟨c, 0, none⟩) := (hk 4 (by decide)).1
          have h5 : x.v 5 = .pointer (some ⟨w2.heap.size + 1 + 1, 0, none⟩) := (hk 5 (by decide)).1
          have h6 : x.v 6 = .int .i64 (1 + (r : Int)) := (hk 6 (by decide)).1
          have h7 : x.v 7 = .int .i64 (1 + (r : Int) - 1) := (hk 7 (by decide)).1
          have h8 : x.v 8 = .int .i64 a := (hk 8 (by decide)).1
          have h9 : x.v 9 = .int .i64 (1 + (r : Int) - 1 - a) := (hk 9 (by decide)).1
          clear hk
          simp only [netAct, dstAt, List.getElem?_toArray, List.getElem?_cons_zero, List.getElem?_cons_succ, Option.bind_some, Act.put, List.setIfInBounds_toArray, List.set_cons_zero, List.set_cons_succ] at hQ ⊢
          simp only [h4, h5, h6, h7, h8, h9] at hQ ⊢
          clear h4 h5 h6 h7 h8 h9
          go_wp2_with fail
          refine (l1Below_any c _ _ (hb.keep HC6.out) ⟨by omega, by omega⟩).mono ?_; rintro e w7 ⟨i, hi, _, rfl, hb7⟩
          go_wp2
          exact hQ _ _ hb7 ⟨i, rfl, by omega⟩
        · intro x w hb hk Q' hQ
          have h2 : x.v 2 = .int .i64 a := (hk 2 (by decide)).1
          have h3 : x.v 3 = .int .i64 ((a : Int) + 1) := (hk 3 (by decide)).1
          have h4 : x.v 4 = .pointer (some ⟨c, 0, none⟩) := (hk 4 (by decide)).1
          have h5 : x.v 5 = .pointer (some ⟨w2.heap.size + 1 + 1, 0, none⟩) := (hk 5 (by decide)).1
          have h6 : x.v 6 = .int .i64 (1 + (r : Int)) := (hk 6 (by decide)).1
          have h7 : x.v 7 = .int .i64 (1 + (r : Int) - 1) := (hk 7 (by decide)).1
          have h8 : x.v 8 = .int .i64 a := (hk 8 (by decide)).1
          have h9 : x.v 9 = .int .i64 (1 + (r : Int) - 1 - a) := (hk 9 (by decide)).1
          have h10 : ∃ i : Nat, (x.v 10) = .int .i64 i ∧ i ≤ 10 := (hk 10 (by decide)).1
          have s10 := (hk 10 (by decide)).2
          clear hk
          simp only [netAct, dstAt, List.getElem?_toArray, List.getElem?_cons_zero, List.getElem?_cons_succ, Option.bind_some, Act.put, List.setIfInBounds_toArray, List.set_cons_zero, List.set_cons_succ] at hQ ⊢
          simp only [h2, h3, h4, h5, h6, h7, h8, h9] at hQ ⊢
          clear h2 h3 h4 h5 h6 h7 h8 h9
          obtain ⟨i, e, hi⟩ := h10
          have hQ' := hQ (.int .i64 ((a : Int) + 1 + i)) w (Ck.refl _ _) ⟨a + 1 + i, by push_cast; rfl, by omega⟩
          rw [e] at hQ' ⊢
          go_wp2
          exact hQ'
        · intro x w hb hk Q' hQ
          have h2 : x.v 2 = .int .i64 a := (hk 2 (by decide)).1
          have h3 : x.v 3 = .int .i64 ((a : Int) + 1) := (hk 3 (by decide)).1
          have h4 : x.v 4 = .pointer (some ⟨c, 0, none⟩) := (hk 4 (by decide)).1
          have h5 : x.v 5 = .pointer (some ⟨w2.heap.size + 1 + 1, 0, none⟩) := (hk 5 (by decide)).1
          have h6 : x.v 6 = .int .i64 (1 + (r : Int)) := (hk 6 (by decide)).1
          have h7 : x.v 7 = .int .i64 (1 + (r : Int) - 1) := (hk 7 (by decide)).1
          have h8 : x.v 8 = .int .i64 a := (hk 8 (by decide)).1
          have h9 : x.v 9 = .int .i64 (1 + (r : Int) - 1 - a) := (hk 9 (by decide)).1
          have h10 : ∃ i : Nat, (x.v 10) = .int .i64 i ∧ i ≤ 10 := (hk 10 (by decide)).1
          have h11 : ∃ i : Nat, (x.v 11) = .int .i64 i ∧ i ≤ 20 := (hk 11 (by decide)).1
          have s10 := (hk 10 (by decide)).2
          have s11 := (hk 11 (by decide)).2
          clear hk
          simp only [netAct, dstAt, List.getElem?_toArray, List.getElem?_cons_zero, List.getElem?_cons_succ, Option.bind_some, Act.put, List.setIfInBounds_toArray, List.set_cons_zero, List.set_cons_succ] at hQ ⊢
          simp only [h2, h3, h4, h5, h6, h7, h8, h9] at hQ ⊢
          clear h2 h3 h4 h5 h6 h7 h8 h9
          obtain ⟨i, e, hi⟩ := h11
          have hcw : c < w.heap.size := (hb.keep HC6.out).lt
          rw [e] at hQ ⊢
          go_wp2
          exact hQ _ _ (Ck.of_below (below_alloc _ _)) ⟨_, _, rfl, Blk.new _ _ _, hi, hcw⟩
        · intro x w hb hk hiv hdj
          have h0 : x.v 0 = .pointer (some ⟨w2.heap.size + 1 + 1, 2, none⟩) := hk 0 (by decide)
          have h1 : x.v 1 = .slice C T.length d := hk 1 (by decide)
          have h2 : x.v 2 = .int .i64 a := hk 2 (by decide)
          have h3 : x.v 3 = .int .i64 ((a : Int) + 1) := hk 3 (by decide)
          have h4 : x.v 4 = .pointer (some ⟨c, 0, none⟩) := hk 4 (by decide)
          have h5 : x.v 5 = .pointer (some ⟨w2.heap.size + 1 + 1, 0, none⟩) := hk 5 (by decide)
          have h6 : x.v 6 = .int .i64 (1 + (r : Int)) := hk 6 (by decide)
          have h7 : x.v 7 = .int .i64 (1 + (r : Int) - 1) := hk 7 (by decide)
          have h8 : x.v 8 = .int .i64 a := hk 8 (by decide)
          have h9 : x.v 9 = .int .i64 (1 + (r : Int) - 1 - a) := hk 9 (by decide)
          have h10 : ∃ i : Nat, (x.v 10) = .int .i64 i ∧ i ≤ 10 := hk 10 (by decide)
          have h11 : ∃ i : Nat, (x.v 11) = .int .i64 i ∧ i ≤ 20 := hk 11 (by decide)
          have h12 : ∃ (g i : Nat), (x.v 12) = .slice (some ⟨g, 0, none⟩) 1 1 ∧ Blk w g 3 #[.int .i64 i] ∧ i ≤ 20 ∧ c < g := hk 12 (by decide)
          clear hk
          simp only [netAct, dstAt, List.getElem?_toArray, List.getElem?_cons_zero, List.getElem?_cons_succ, Option.bind_some, Act.put, List.setIfInBounds_toArray, List.set_cons_zero, List.set_cons_succ]
          simp only [List.drop_succ_cons, List.drop_zero, h0, h1, h2, h3, h4, h5, h6, h7, h8, h9]
          clear h0 h1 h2 h3 h4 h5 h6 h7 h8 h9
          obtain ⟨gn, i, e12, hN, hi, _⟩ := h12
          rw [e12]
          have hGw := HG6.out.ck hb hcl2 hgc
          have hfa : OwnI w w2.heap.size (.slice C T.length d) T := (hGw.2.1.1 (_, T) (by simp)).1
          refine wpList_appI (by rfl) (.tmp 49) (.tmp 60) (by rfl) w2.heap.size w.heap.size _ T (by rfl) hfa (some ⟨gn, 0, none⟩) 1 1 [(i : Int)] (by rfl) rfl (sl_one2 hN ⟨by omega, by omega⟩) (by simp; omega) hGw.2.2.2 ?_
          intro v3 w3 ho3 hg3 hv3
          obtain ⟨A4, c4, rfl, _⟩ := ho3.form
          obtain ⟨nA4, hnA4⟩ : ∃ z, (T ++ [(i : Int)]).length = z := ⟨_, rfl⟩
          rw [hnA4] at ho3 hv3 ⊢
          obtain ⟨hB3, hG3, hb3⟩ := hGw.setT ho3 hnA4.symm hg3 hv3
          have z1 := hB3.cell' (i := 2) rfl
          have fz := hB3.frozen
          obtain ⟨W4, hW4⟩ : ∃ z, w3.setCell ⟨w2.heap.size + 1 + 1, 2, none⟩ (.slice A4 nA4 c4) = z := ⟨_, rfl⟩
          rw [hW4] at hG3
          have hch : Chg (w2.heap.size + 1 + 1) (w2.heap.size + 1 + 1 + 1) w3 W4 := by rw [← hW4]; exact chg_set (Nat.le_refl _) (Nat.lt_succ_self _)
          have hbw3 := hb3.size
          have hlow : Below w2.heap.size w W4 := hb3.trans (hch.below (by omega) (by have := hGw.2.2.2; omega))
          have HB7 := Lib.hid ((HB6.out.trans hb).low hlow (by have := HB2.out.size; omega) hcl2)
          have HC7 := Lib.hid ((hb.keep HC6.out).below hlow hcl2)
          have HG7 := Lib.hid hG3
          have hT1 : (T ++ [(i : Int)]).length + (k - 1) ≤ 4 := by simp; omega
          have HT1 := Lib.hid hT1
          clear hnA4 hB3 hG3 hb3 ho3 hg3 hv3 hch hlow hfa hGw hN e12 hiv hdj hT1 hT
          go_wp2
          clear hW4 z1 fz
          go_roundw
          case rel => exact ⟨k - 1, c3, c4, A3, A4, _, _, by omega, by have : ((k - 1 : Nat) : Int) = (k : Int) - 1 := by omega
                                                                       rw [this], HF1.out, HT1.out, HC7.out, HB7.out, HG7.out⟩
          case measure => simp [intOf]; omega
      · have q1 := hG.1.cell' (i := 1) rfl
        have q2 := hG.1.cell' (i := 2) rfl
        have hne : w0.heap.size < w2.heap.size + 1 + 1 := by have := HB2.out.size; omega
        have hbz := hB.size
        have hlw := hG.2.2.2
        have hQq : QuivO wr w2.heap.size wr.heap.size (.agg #[.int .i64 (1 + (r : Int)), .slice A F.length cA, .slice C T.length d]) ⟨1 + (r : Int), F, T⟩ := hG.quiv
        have hs2 := HB2.out.size
        have k2 := KR.out.ck hB hcw
        have fr := k2.frozen
        have r0 := k2.cell' (i := 0) rfl
        have r1 := k2.cell' (i := 1) rfl
        have r2 := k2.cell' (i := 2) rfl
        have hc3 := ((chg_set (lo := w0.heap.size) (hi := w0.heap.size + 1) (w := wr) (p := ⟨w0.heap.size, 0, none⟩) (u := .int .i64 (1 + (r : Int))) (Nat.le_refl _) (Nat.lt_succ_self _)).trans (chg_set (p := ⟨w0.heap.size, 1, none⟩) (u := .slice A F.length cA) (Nat.le_refl _) (Nat.lt_succ_self _))).trans (chg_set (p := ⟨w0.heap.size, 2, none⟩) (u := .slice C T.length d) (Nat.le_refl _) (Nat.lt_succ_self _))
        have OF := Lib.hid (((hQq).chg hc3 (.inr (by omega))).wid (lo' := w0.heap.size) (hi' := wr.heap.size) (by omega) (Nat.le_refl _))
        have GS := Lib.hid ((G0.out.trans hB).low (lo := w0.heap.size) (hc3.below (Nat.le_refl _) (by omega)) (Nat.le_refl _) hcl)
        have HL := Lib.hid (show F.length ≤ 61 ∧ T.length ≤ 61 by omega)
        clear hc3 k2 hQq hG hB hC hF hT
        by_cases hk0 : 0 < k
        · have hr0 : ¬ 0 < r := fun h => hgo ⟨hk0, h⟩
          clear hgo
          go_wp2
          exact bodyPost_ret (v := .agg #[.int .i64 (1 + (r : Int)), .slice A F.length cA, .slice C T.length d]) (by simp [results, go_sem, r0, r1, r2]) rfl ⟨_, ⟨1 + (r : Int), F, T⟩, rfl, by simpa using OF.out, HL.out.1, HL.out.2, GS.out⟩
        · clear hgo
          go_wp2
          exact bodyPost_ret (v := .agg #[.int .i64 (1 + (r : Int)), .slice A F.length cA, .slice C T.length d]) (by simp [results, go_sem, r0, r1, r2]) rfl ⟨_, ⟨1 + (r : Int), F, T⟩, rfl, by simpa using OF.out, HL.out.1, HL.out.2, GS.out⟩
  · -- by name
    go_wp2_with fail
    refine (l6Names_any _).mono ?_; rintro e w2 ⟨g, cs, rfl, hg, kN, hcs, hb2⟩
    have hC2 := Lib.hid ((Ck.of_below (c := c) hb2).keep hC1.out)
    have HB2 := Lib.hid (HB1.out.trans (Ck.of_below hb2))
    have KN := Lib.hid kN
    have hgc : g ≠ c := by omega
    clear hb2 kN
    go_wp2_with fail
    refine (l1Below_any c 10 _ hC2.out ⟨by omega, by omega⟩).mono ?_; rintro e w3 ⟨r, hr, _, rfl, hb3⟩
    have hr10 : r < 12 := by omega
    obtain ⟨s, hs⟩ := hcs r hr10
    have n0 := (KN.out.ck hb3 hgc).cell' hs
    have hC3 := Lib.hid (hb3.keep hC2.out)
    have HB3 := Lib.hid (HB2.out.trans hb3)
    clear hb3 hcs hs
    go_wp2_with fail
    refine (namedQuiver_any s _).mono ?_; rintro e w4 ⟨v, b, q, rfl, hQ4, hf4, ht4, hb4⟩
    obtain ⟨A, cA, C, d, rfl⟩ := hQ4.form
    obtain ⟨W5, hW5⟩ : ∃ z, w4.alloc (.cells #[.int .i64 q.v, .slice A q.f.length cA, .slice C q.t.length d] 26) = z := ⟨_, rfl⟩
    have ga : Below w4.heap.size w4 W5 := by rw [← hW5]; exact below_alloc _ _
    have kq : Blk W5 w4.heap.size 26 #[.int .i64 q.v, .slice A q.f.length cA, .slice C q.t.length d] := by rw [← hW5]; exact Blk.new _ _ _
    have hb5 := HB3.out.trans ((Ck.of_below hb4).trans (Ck.of_below ga))
    have hQ5 := hQ4.below ga
    have q0 := kq.cell' (i := 0) rfl
    have q1 := kq.cell' (i := 1) rfl
    have q2 := kq.cell' (i := 2) rfl
    have hs3 := HB3.out.size
    have hs4 := hb4.size
    have hne : w0.heap.size < w4.heap.size := by omega
    have hsa := ga.size
    have k2 := KR.out.ck hb5 hcw
    have fr := k2.frozen
    have r0 := k2.cell' (i := 0) rfl
    have r1 := k2.cell' (i := 1) rfl
    have r2 := k2.cell' (i := 2) rfl
    have hc3 := ((chg_set (lo := w0.heap.size) (hi := w0.heap.size + 1) (w := W5) (p := ⟨w0.heap.size, 0, none⟩) (u := .int .i64 q.v) (Nat.le_refl _) (Nat.lt_succ_self _)).trans (chg_set (p := ⟨w0.heap.size, 1, none⟩) (u := .slice A q.f.length cA) (Nat.le_refl _) (Nat.lt_succ_self _))).trans (chg_set (p := ⟨w0.heap.size, 2, none⟩) (u := .slice C q.t.length d) (Nat.le_refl _) (Nat.lt_succ_self _))
    have hsz := (hb5).size
    have OF := Lib.hid ((hQ5).chg hc3 (.inr (by omega)))
    have GS := Lib.hid ((G0.out.trans hb5).low (lo := w0.heap.size) (hc3.below (Nat.le_refl _) (by omega)) (Nat.le_refl _) hcl)
    have HL := Lib.hid (And.intro hf4 ht4)
    clear hc3 hf4 ht4 k2 kq ga hb4 hQ4 hQ5 hb5 n0
    go_wp2
    clear hW5
    exact bodyPost_ret (v := .agg #[.int .i64 q.v, .slice A q.f.length cA, .slice C q.t.length d]) (by simp [results, go_sem, r0, r1, r2]) rfl ⟨_, q, rfl, by have := OF.out.wid (lo' := w0.heap.size) (hi' := W5.heap.size) (by omega) (by omega); simpa using this, HL.out.1, HL.out.2, GS.out⟩
end Go.Proofs.Ytaefpblpfjhgoaa

/- The draw of any quiver. -/
namespace Go.Proofs.Ytaefpblpfjhgoaa
set_option linter.unusedVariables false
set_option linter.unusedSimpArgs false
open Go.RowKit

/-- the lists of texts and numbers that are drawn from -/
def StrP (v : Value) : Prop := ∃ s : ByteArray, v = .string s
def IntP (v : Value) : Prop := ∃ x : Int, v = .int .i64 x ∧ I64 x
set_option maxHeartbeats 3200000 in
set_option maxRecDepth 100000 in
theorem l6Any_any (c : Nat) (w0 : World) (hc : Cur w0 c) :
    Calls Try.prog 30 #[.pointer (some ⟨c, 0, none⟩)] w0 fun e w' => ∃ v q, e = .returned v ∧ QuivO w' w0.heap.size w'.heap.size v q ∧ q.f.length ≤ 62 ∧ q.t.length ≤ 62 ∧ Ck c w0 w' := by
  have hcl := hc.lt
  obtain ⟨W, hW⟩ : ∃ W, W = w0.alloc (.cells #[.int .i64 0, .slice none 0 0, .slice none 0 0] 26) := ⟨_, rfl⟩
  have g0 : Ck c w0 W := by rw [hW]; exact Ck.of_below (below_alloc _ _)
  have kR : Blk W w0.heap.size 26 #[.int .i64 0, .slice none 0 0, .slice none 0 0] := by rw [hW]; exact Blk.new _ _ _
  have sW : W.heap.size = w0.heap.size + 1 := by rw [hW]; simp
  have hcw : w0.heap.size ≠ c := by omega
  have KR := Lib.hid kR
  have G0 := Lib.hid g0
  have HC := Lib.hid hc
  clear kR hc
  go_enter Try.func30, Try.ntmps30
  go_wp2_with fail
  rw [← hW]; clear hW
  refine (l6Acyclic_any c _ (g0.keep HC.out)).mono ?_; rintro e w1 ⟨v, ⟨V, F, T⟩, rfl, hQ1, hF, hT, hb1⟩
  obtain ⟨A, cA, C, d, rfl⟩ := hQ1.form
  simp only at hF hT hQ1 ⊢
  obtain ⟨W2, hW2⟩ : ∃ z, w1.alloc (.cells #[.int .i64 V, .slice A F.length cA, .slice C T.length d] 26) = z := ⟨_, rfl⟩
  have ga : Below w1.heap.size w1 W2 := by rw [← hW2]; exact below_alloc _ _
  obtain ⟨gq, hgq⟩ : ∃ z, w1.heap.size = z := ⟨_, rfl⟩
  have kq : Blk W2 gq 26 #[.int .i64 V, .slice A F.length cA, .slice C T.length d] := by rw [← hW2, ← hgq]; exact Blk.new _ _ _
  have s1 := hb1.size
  have sa := ga.size
  have hGQ : GQ W2 W.heap.size gq V A cA C d F T := by
    obtain ⟨a, b, e, hFm, hV⟩ := hQ1
    simp only [Value.agg.injEq, Array.mk.injEq, List.cons.injEq, and_true, true_and] at e
    obtain ⟨rfl, rfl⟩ := e
    exact ⟨kq, (hFm.below ga).mono (Nat.le_refl _) sa, hV, by omega⟩
  have hB2 := hb1.trans (Ck.of_below ga)
  have HC2 := Lib.hid (hB2.keep (g0.keep HC.out))
  have HG2 := Lib.hid hGQ
  have HB2 := Lib.hid hB2
  have hclW : c < W.heap.size := by omega
  have hgc : gq ≠ c := by omega
  have hg0 : w0.heap.size < gq := by omega
  clear hQ1 hb1 ga kq hGQ hB2 g0
  go_wp2_with fail
  clear hW2 hgq
  refine (l1Below_any c 14 _ HC2.out ⟨by omega, by omega⟩).mono ?_; rintro e w3 ⟨r, hr, hr2, rfl, hb3⟩
  have hC3 := hb3.keep HC2.out
  have hG3 := HG2.out.ck hb3 hclW hgc
  have hB3 := HB2.out.trans hb3
  have hsz3 := hb3.size
  clear hb3 HC2 HG2 HB2
  by_cases h0 : r = 0
  · subst h0
    have HC3 := Lib.hid hC3
    have HG3 := Lib.hid hG3
    have HB3 := Lib.hid hB3
    clear hC3 hG3 hB3 hF hT
    go_wp2_with fail
    obtain ⟨W4, hW4⟩ : ∃ z, w3.alloc (.cells #[.string ⟨#[108, 111, 111, 112]⟩, .string ⟨#[99, 105, 114, 99, 108, 101]⟩] 9) = z := ⟨_, rfl⟩
    have gb : Below w3.heap.size w3 W4 := by rw [← hW4]; exact below_alloc _ _
    have kS : Blk W4 w3.heap.size 9 #[.string ⟨#[108, 111, 111, 112]⟩, .string ⟨#[99, 105, 114, 99, 108, 101]⟩] := by rw [← hW4]; exact Blk.new _ _ _
    rw [hW4]
    refine (l1Pick_any StrP c w3.heap.size 2 2 _ _ ((Ck.of_below (c := c) gb).keep HC3.out) kS (by omega) (by omega) (by omega) (fun i hi => ?_) fun v h => h).mono ?_
    · match i, hi with
      | 0, _ => exact ⟨_, rfl, _, rfl⟩
      | 1, _ => exact ⟨_, rfl, _, rfl⟩
      | i + 2, h => omega
    rintro e w5 ⟨v, ⟨s, rfl⟩, rfl, hb5⟩
    have hB5 := (HB3.out.trans (Ck.of_below gb)).trans hb5
    have hG5 := (HG3.out.below gb).ck hb5 hclW hgc
    have HB5 := Lib.hid hB5
    have HG5 := Lib.hid hG5
    have hs5 := hb5.size
    have hs4 := gb.size
    clear hW4 gb kS hb5 hB5 hG5
    go_wp2_with fail
    refine (namedQuiver_any s _).mono ?_; rintro e w6 ⟨v6, b6, ⟨V6, F6, T6⟩, rfl, hQ6, hf6, ht6, hb6⟩
    obtain ⟨A6, c6, C6, d6, rfl⟩ := hQ6.form
    simp only at hf6 ht6 hQ6 ⊢
    have hG6 := HG5.out.below hb6
    have hB6 := HB5.out.trans (Ck.of_below hb6)
    have fq := hG6.1.frozen
    have y0 := hG6.1.cell' (i := 0) rfl
    have y1 := hG6.1.cell' (i := 1) rfl
    have y2 := hG6.1.cell' (i := 2) rfl
    obtain ⟨W7, hW7⟩ : ∃ z, ((w6.setCell ⟨gq, 0, none⟩ (.int .i64 V6)).setCell ⟨gq, 1, none⟩ (.slice A6 F6.length c6)).setCell ⟨gq, 2, none⟩ (.slice C6 T6.length d6) = z := ⟨_, rfl⟩
    have hch : Chg gq (gq + 1) w6 W7 := by rw [← hW7]; exact ((chg_set (lo := gq) (hi := gq + 1) (w := w6) (p := ⟨gq, 0, none⟩) (u := .int .i64 V6) (Nat.le_refl _) (Nat.lt_succ_self _)).trans (chg_set (p := ⟨gq, 1, none⟩) (u := .slice A6 F6.length c6) (Nat.le_refl _) (Nat.lt_succ_self _))).trans (chg_set (p := ⟨gq, 2, none⟩) (u := .slice C6 T6.length d6) (Nat.le_refl _) (Nat.lt_succ_self _))
    have hk7 : Blk W7 gq 26 #[.int .i64 V6, .slice A6 F6.length c6, .slice C6 T6.length d6] := by rw [← hW7]; exact ((hG6.1.set_ 0 _).set_ 1 _).set_ 2 _
    have hs6 := hb6.size
    have hs7 := hch.size
    have hgq5 : gq < w5.heap.size := HG5.out.1.lt
    have hG : GQ W7 w5.heap.size gq V6 A6 c6 C6 d6 F6 T6 := by
      obtain ⟨a, b, e, hFm, hV⟩ := hQ6.chg hch (.inr (by omega))
      simp only [Value.agg.injEq, Array.mk.injEq, List.cons.injEq, and_true, true_and] at e
      obtain ⟨rfl, rfl⟩ := e
      exact ⟨hk7, hFm.mono (Nat.le_refl _) hs7, hV, by omega⟩
    have hB : Ck c W W7 := hB6.low (lo := W.heap.size) (hch.below (by omega) (by omega)) (Nat.le_refl _) hclW
    have HL := Lib.hid (show F6.length ≤ 62 ∧ T6.length ≤ 62 by omega)
    have HG := Lib.hid hG
    have HB := Lib.hid hB
    clear hk7 hch hQ6 hG6 hB6 hb6 hf6 ht6 hG hB
    have hG := HG.out
    have hB := HB.out
    have q0 := hG.1.cell' (i := 0) rfl
    have q1 := hG.1.cell' (i := 1) rfl
    have q2 := hG.1.cell' (i := 2) rfl
    have hbz := hB.size
    have hlw := hG.2.2.2
    have hQq := hG.quiv
    have k2 := KR.out.ck hB hcw
    have fr := k2.frozen
    have r0 := k2.cell' (i := 0) rfl
    have r1 := k2.cell' (i := 1) rfl
    have r2 := k2.cell' (i := 2) rfl
    have hc3 := ((chg_set (lo := w0.heap.size) (hi := w0.heap.size + 1) (w := W7) (p := ⟨w0.heap.size, 0, none⟩) (u := .int .i64 V6) (Nat.le_refl _) (Nat.lt_succ_self _)).trans (chg_set (p := ⟨w0.heap.size, 1, none⟩) (u := .slice A6 (F6).length c6) (Nat.le_refl _) (Nat.lt_succ_self _))).trans (chg_set (p := ⟨w0.heap.size, 2, none⟩) (u := .slice C6 (T6).length d6) (Nat.le_refl _) (Nat.lt_succ_self _))
    have OF := Lib.hid ((hQq.chg hc3 (.inr (by omega))).wid (lo' := w0.heap.size) (hi' := W7.heap.size) (by omega) (Nat.le_refl _))
    have GS := Lib.hid ((G0.out.trans hB).low (lo := w0.heap.size) (hc3.below (Nat.le_refl _) (by omega)) (Nat.le_refl _) hcl)
    clear hc3 k2 hQq hG hB
    go_wp2
    clear hW7
    exact bodyPost_ret (v := .agg #[.int .i64 V6, .slice A6 (F6).length c6, .slice C6 (T6).length d6]) (by simp [results, go_sem, r0, r1, r2]) rfl ⟨_, ⟨V6, F6, T6⟩, rfl, by simpa using OF.out, HL.out.1, HL.out.2, GS.out⟩
  · by_cases h1 : r = 1
    · subst h1
      have HC3 := Lib.hid hC3
      have HG3 := Lib.hid hG3
      have HB3 := Lib.hid hB3
      clear hC3 hG3 hB3
      go_wp2_with fail
      obtain ⟨W4, hW4⟩ : ∃ z, w3.alloc (.cells #[.int .i64 0, .int .i64 6, .int .i64 (-1), .int .i64 2] 3) = z := ⟨_, rfl⟩
      have gb : Below w3.heap.size w3 W4 := by rw [← hW4]; exact below_alloc _ _
      have kS : Blk W4 w3.heap.size 3 #[.int .i64 0, .int .i64 6, .int .i64 (-1), .int .i64 2] := by rw [← hW4]; exact Blk.new _ _ _
      rw [hW4]
      refine (l1PickInt_any IntP c w3.heap.size 4 4 _ _ ((Ck.of_below (c := c) gb).keep HC3.out) kS (by omega) (by omega) (by omega) (fun i hi => ?_) fun v h => ⟨_, h.choose_spec.1⟩).mono ?_
      · match i, hi with
        | 0, _ => exact ⟨_, rfl, _, rfl, by decide, by decide⟩
        | 1, _ => exact ⟨_, rfl, _, rfl, by decide, by decide⟩
        | 2, _ => exact ⟨_, rfl, _, rfl, by decide, by decide⟩
        | 3, _ => exact ⟨_, rfl, _, rfl, by decide, by decide⟩
        | i + 4, h => omega
      rintro e w5 ⟨v, ⟨x, rfl, hx⟩, rfl, hb5⟩
      have hB5 := (HB3.out.trans (Ck.of_below gb)).trans hb5
      have hG5 := (HG3.out.below gb).ck hb5 hclW hgc
      have fq := hG5.1.frozen
      have y0 := hG5.1.cell' (i := 0) rfl
      obtain ⟨W7, hW7⟩ : ∃ z, w5.setCell ⟨gq, 0, none⟩ (.int .i64 x) = z := ⟨_, rfl⟩
      have hch : Chg gq (gq + 1) w5 W7 := by rw [← hW7]; exact chg_set (lo := gq) (hi := gq + 1) (w := w5) (p := ⟨gq, 0, none⟩) (u := .int .i64 x) (Nat.le_refl _) (Nat.lt_succ_self _)
      have hG := hG5.setV hx
      rw [hW7] at hG
      have hW5 := hG5.2.2.2
      have hB : Ck c W W7 := hB5.low (lo := W.heap.size) (hch.below (by omega) (by omega)) (Nat.le_refl _) hclW
      have HL := Lib.hid (show F.length ≤ 62 ∧ T.length ≤ 62 by omega)
      clear hch hG5 hB5 hb5 gb kS hW4 hF hT
      have q0 := hG.1.cell' (i := 0) rfl
      have q1 := hG.1.cell' (i := 1) rfl
      have q2 := hG.1.cell' (i := 2) rfl
      have hbz := hB.size
      have hlw := hG.2.2.2
      have hQq := hG.quiv
      have k2 := KR.out.ck hB hcw
      have fr := k2.frozen
      have r0 := k2.cell' (i := 0) rfl
      have r1 := k2.cell' (i := 1) rfl
      have r2 := k2.cell' (i := 2) rfl
      have hc3 := ((chg_set (lo := w0.heap.size) (hi := w0.heap.size + 1) (w := W7) (p := ⟨w0.heap.size, 0, none⟩) (u := .int .i64 x) (Nat.le_refl _) (Nat.lt_succ_self _)).trans (chg_set (p := ⟨w0.heap.size, 1, none⟩) (u := .slice A (F).length cA) (Nat.le_refl _) (Nat.lt_succ_self _))).trans (chg_set (p := ⟨w0.heap.size, 2, none⟩) (u := .slice C (T).length d) (Nat.le_refl _) (Nat.lt_succ_self _))
      have OF := Lib.hid ((hQq.chg hc3 (.inr (by omega))).wid (lo' := w0.heap.size) (hi' := W7.heap.size) (by omega) (Nat.le_refl _))
      have GS := Lib.hid ((G0.out.trans hB).low (lo := w0.heap.size) (hc3.below (Nat.le_refl _) (by omega)) (Nat.le_refl _) hcl)
      clear hc3 k2 hQq hG hB
      go_wp2
      clear hW7
      exact bodyPost_ret (v := .agg #[.int .i64 x, .slice A (F).length cA, .slice C (T).length d]) (by simp [results, go_sem, r0, r1, r2]) rfl ⟨_, ⟨x, F, T⟩, rfl, by simpa using OF.out, HL.out.1, HL.out.2, GS.out⟩
    · by_cases h2 : r = 2
      · subst h2
        have HC3 := Lib.hid hC3
        have HG3 := Lib.hid hG3
        have HB3 := Lib.hid hB3
        have GB3 := Lib.hid hG3.1
        clear hC3 hG3 hB3
        go_wp2
        obtain ⟨wx, hwx⟩ : ∃ z, z = w3 := ⟨_, rfl⟩
        subst hwx
        refine wp_region_netK (c) (by kernel_rfl) [.eq (.pointer (some ⟨gq, 1, none⟩)), .eq (.slice A F.length cA), .eq (.pointer (some ⟨c, 0, none⟩)), rel 3 (fun u lo hi w => ∃ i : Nat, u = .int .i64 i ∧ i ≤ 10), rel 4 (fun u lo hi w => ∃ y : Int, u = .int .i64 y ∧ I64 y), rel 5 (fun u lo hi w => ∃ (g : Nat) (y : Int), u = .slice (some ⟨g, 0, none⟩) 1 1 ∧ Blk w g 3 #[.int .i64 y] ∧ I64 y ∧ c < g)] [[], [0], [], [2], [2, 3], [2, 3, 4], [0, 1, 2, 3, 4, 5], [0, 1, 2, 3, 4, 5, 6], [0, 1, 2, 3, 4, 5, 6, 7]] 6 (by kernel_rfl) ⟨trivial, trivial, trivial, rel_stableK (fun u lo hi w w' h hb => h), rel_stableK (fun u lo hi w w' h hb => h), rel_stableK (fun u lo hi w w' ⟨g, i, e, h, h2, h3⟩ hb => ⟨g, i, e, h.ck hb (by omega), h2, h3⟩), trivial⟩ ⟨?_, ?_, ?_, ?_, ?_, ?_, trivial⟩ ?_
        · intro x w hb hk Q' hQ
          clear hk
          simp only [netAct, dstAt, List.getElem?_toArray, List.getElem?_cons_zero, List.getElem?_cons_succ, Option.bind_some, Act.put, List.setIfInBounds_toArray, List.set_cons_zero, List.set_cons_succ] at hQ ⊢
          go_wp2
          exact hQ (.pointer (some ⟨gq, 1, none⟩)) _ (Ck.refl _ _) rfl
        · intro x w hb hk Q' hQ
          have h0 : x.v 0 = .pointer (some ⟨gq, 1, none⟩) := (hk 0 (by decide)).1
          clear hk
          simp only [netAct, dstAt, List.getElem?_toArray, List.getElem?_cons_zero, List.getElem?_cons_succ, Option.bind_some, Act.put, List.setIfInBounds_toArray, List.set_cons_zero, List.set_cons_succ] at hQ ⊢
          simp only [h0] at hQ ⊢
          clear h0
          have z := (GB3.out.ck hb hgc).cell' (i := 1) rfl
          go_wp2
          exact hQ (.slice A F.length cA) _ (Ck.refl _ _) rfl
        · intro x w hb hk Q' hQ
          clear hk
          simp only [netAct, dstAt, List.getElem?_toArray, List.getElem?_cons_zero, List.getElem?_cons_succ, Option.bind_some, Act.put, List.setIfInBounds_toArray, List.set_cons_zero, List.set_cons_succ] at hQ ⊢
          go_wp2
          exact hQ (.pointer (some ⟨c, 0, none⟩)) _ (Ck.refl _ _) rfl
        · intro x w hb hk Q' hQ
          have h2 : x.v 2 = .pointer (some ⟨c, 0, none⟩) := (hk 2 (by decide)).1
          clear hk
          simp only [netAct, dstAt, List.getElem?_toArray, List.getElem?_cons_zero, List.getElem?_cons_succ, Option.bind_some, Act.put, List.setIfInBounds_toArray, List.set_cons_zero, List.set_cons_succ] at hQ ⊢
          simp only [h2] at hQ ⊢
          clear h2
          go_wp2_with fail
          refine (l1Below_any c 6 _ (hb.keep HC3.out) ⟨by omega, by omega⟩).mono ?_; rintro e w7 ⟨i, hi, _, rfl, hb7⟩
          go_wp2
          exact hQ _ _ hb7 ⟨i, rfl, by omega⟩
        · intro x w hb hk Q' hQ
          have h2 : x.v 2 = .pointer (some ⟨c, 0, none⟩) := (hk 2 (by decide)).1
          have h3 : ∃ i : Nat, (x.v 3) = .int .i64 i ∧ i ≤ 10 := (hk 3 (by decide)).1
          have s3 := (hk 3 (by decide)).2
          clear hk
          simp only [netAct, dstAt, List.getElem?_toArray, List.getElem?_cons_zero, List.getElem?_cons_succ, Option.bind_some, Act.put, List.setIfInBounds_toArray, List.set_cons_zero, List.set_cons_succ] at hQ ⊢
          simp only [h2] at hQ ⊢
          clear h2
          obtain ⟨i, e, hi⟩ := h3
          have hQ' := hQ (.int .i64 ((i : Int) - 1)) w (Ck.refl _ _) ⟨_, rfl, by omega, by omega⟩
          rw [e] at hQ' ⊢
          go_wp2
          exact hQ'
        · intro x w hb hk Q' hQ
          have h2 : x.v 2 = .pointer (some ⟨c, 0, none⟩) := (hk 2 (by decide)).1
          have h3 : ∃ i : Nat, (x.v 3) = .int .i64 i ∧ i ≤ 10 := (hk 3 (by decide)).1
          have h4 : ∃ y : Int, (x.v 4) = .int .i64 y ∧ I64 y := (hk 4 (by decide)).1
          have s3 := (hk 3 (by decide)).2
          have s4 := (hk 4 (by decide)).2
          clear hk
          simp only [netAct, dstAt, List.getElem?_toArray, List.getElem?_cons_zero, List.getElem?_cons_succ, Option.bind_some, Act.put, List.setIfInBounds_toArray, List.set_cons_zero, List.set_cons_succ] at hQ ⊢
          simp only [h2] at hQ ⊢
          clear h2
          obtain ⟨i, e, hi⟩ := h4
          have hcw : c < w.heap.size := (hb.keep HC3.out).lt
          rw [e] at hQ ⊢
          go_wp2
          exact hQ _ _ (Ck.of_below (below_alloc _ _)) ⟨_, _, rfl, Blk.new _ _ _, hi, hcw⟩
        · intro x w hb hk hiv hdj
          have h0 : x.v 0 = .pointer (some ⟨gq, 1, none⟩) := hk 0 (by decide)
          have h1 : x.v 1 = .slice A F.length cA := hk 1 (by decide)
          have h2 : x.v 2 = .pointer (some ⟨c, 0, none⟩) := hk 2 (by decide)
          have h3 : ∃ i : Nat, (x.v 3) = .int .i64 i ∧ i ≤ 10 := hk 3 (by decide)
          have h4 : ∃ y : Int, (x.v 4) = .int .i64 y ∧ I64 y := hk 4 (by decide)
          have h5 : ∃ (g : Nat) (y : Int), (x.v 5) = .slice (some ⟨g, 0, none⟩) 1 1 ∧ Blk w g 3 #[.int .i64 y] ∧ I64 y ∧ c < g := hk 5 (by decide)
          clear hk
          simp only [netAct, dstAt, List.getElem?_toArray, List.getElem?_cons_zero, List.getElem?_cons_succ, Option.bind_some, Act.put, List.setIfInBounds_toArray, List.set_cons_zero, List.set_cons_succ]
          simp only [List.drop_succ_cons, List.drop_zero, h0, h1, h2]
          clear h0 h1 h2
          obtain ⟨gn, y, e5, hN, hy, _⟩ := h5
          rw [e5]
          have hGw := HG3.out.ck hb hclW hgc
          have hfa : OwnI w W.heap.size (.slice A F.length cA) F := (hGw.2.1.1 (_, F) (by simp)).1
          refine wpList_appI (by rfl) (.tmp 26) (.tmp 30) (by rfl) W.heap.size w.heap.size _ F (by rfl) hfa (some ⟨gn, 0, none⟩) 1 1 [y] (by rfl) rfl (sl_one2 hN hy) (by simp; omega) hGw.2.2.2 ?_
          intro v3 w4 ho3 hg3 hv3
          obtain ⟨A4, c4, rfl, _⟩ := ho3.form
          obtain ⟨F4, hF4⟩ : ∃ z, F ++ [y] = z := ⟨_, rfl⟩
          have hFl : F4.length ≤ 62 := by rw [← hF4]; simp; omega
          rw [hF4] at ho3 hv3 ⊢
          obtain ⟨hB4, hG4, hb4⟩ := hGw.setF ho3 rfl hg3 hv3
          have fz := hB4.frozen
          have z1 := hB4.cell' (i := 1) rfl
          obtain ⟨W7, hW7⟩ : ∃ z, w4.setCell ⟨gq, 1, none⟩ (.slice A4 F4.length c4) = z := ⟨_, rfl⟩
          rw [hW7] at hG4
          have hch : Chg gq (gq + 1) w4 W7 := by rw [← hW7]; exact chg_set (lo := gq) (hi := gq + 1) (w := w4) (p := ⟨gq, 1, none⟩) (u := .slice A4 F4.length c4) (Nat.le_refl _) (Nat.lt_succ_self _)
          have hbw4 := hb4.size
          have hGs := hGw.2.2.2
          have hlow : Below W.heap.size w W7 := hb4.trans (hch.below (by omega) (by omega))
          have hB : Ck c W W7 := (HB3.out.trans hb).low (lo := W.heap.size) hlow (Nat.le_refl _) hclW
          have hG := hG4
          have HL := Lib.hid (show F4.length ≤ 62 ∧ T.length ≤ 62 by omega)
          clear hF4 hB4 hG4 hb4 ho3 hg3 hv3 hch hlow hfa hGw hN e5 hiv hdj hF hFl
          have q0 := hG.1.cell' (i := 0) rfl
          have q1 := hG.1.cell' (i := 1) rfl
          have q2 := hG.1.cell' (i := 2) rfl
          have hbz := hB.size
          have hlw := hG.2.2.2
          have hQq := hG.quiv
          have k2 := KR.out.ck hB hcw
          have fr := k2.frozen
          have r0 := k2.cell' (i := 0) rfl
          have r1 := k2.cell' (i := 1) rfl
          have r2 := k2.cell' (i := 2) rfl
          have hc3 := ((chg_set (lo := w0.heap.size) (hi := w0.heap.size + 1) (w := W7) (p := ⟨w0.heap.size, 0, none⟩) (u := .int .i64 V) (Nat.le_refl _) (Nat.lt_succ_self _)).trans (chg_set (p := ⟨w0.heap.size, 1, none⟩) (u := .slice A4 (F4).length c4) (Nat.le_refl _) (Nat.lt_succ_self _))).trans (chg_set (p := ⟨w0.heap.size, 2, none⟩) (u := .slice C (T).length d) (Nat.le_refl _) (Nat.lt_succ_self _))
          have OF := Lib.hid ((hQq.chg hc3 (.inr (by omega))).wid (lo' := w0.heap.size) (hi' := W7.heap.size) (by omega) (Nat.le_refl _))
          have GS := Lib.hid ((G0.out.trans hB).low (lo := w0.heap.size) (hc3.below (Nat.le_refl _) (by omega)) (Nat.le_refl _) hcl)
          clear hc3 k2 hQq hG hB
          go_wp2
          clear hW7
          exact bodyPost_ret (v := .agg #[.int .i64 V, .slice A4 (F4).length c4, .slice C (T).length d]) (by simp [results, go_sem, r0, r1, r2]) rfl ⟨_, ⟨V, F4, T⟩, rfl, by simpa using OF.out, HL.out.1, HL.out.2, GS.out⟩
      · have hr0 : (r : Int) ≠ 0 := by omega
        have hr1 : (r : Int) ≠ 1 := by omega
        have hr22 : (r : Int) ≠ 2 := by omega
        have hG := hG3
        have hB := hB3
        have HL := Lib.hid (show F.length ≤ 62 ∧ T.length ≤ 62 by omega)
        clear hG3 hB3 hF hT hC3
        have q0 := hG.1.cell' (i := 0) rfl
        have q1 := hG.1.cell' (i := 1) rfl
        have q2 := hG.1.cell' (i := 2) rfl
        have hbz := hB.size
        have hlw := hG.2.2.2
        have hQq := hG.quiv
        have k2 := KR.out.ck hB hcw
        have fr := k2.frozen
        have r0 := k2.cell' (i := 0) rfl
        have r1 := k2.cell' (i := 1) rfl
        have r2 := k2.cell' (i := 2) rfl
        have hc3 := ((chg_set (lo := w0.heap.size) (hi := w0.heap.size + 1) (w := w3) (p := ⟨w0.heap.size, 0, none⟩) (u := .int .i64 V) (Nat.le_refl _) (Nat.lt_succ_self _)).trans (chg_set (p := ⟨w0.heap.size, 1, none⟩) (u := .slice A (F).length cA) (Nat.le_refl _) (Nat.lt_succ_self _))).trans (chg_set (p := ⟨w0.heap.size, 2, none⟩) (u := .slice C (T).length d) (Nat.le_refl _) (Nat.lt_succ_self _))
        have OF := Lib.hid ((hQq.chg hc3 (.inr (by omega))).wid (lo' := w0.heap.size) (hi' := w3.heap.size) (by omega) (Nat.le_refl _))
        have GS := Lib.hid ((G0.out.trans hB).low (lo := w0.heap.size) (hc3.below (Nat.le_refl _) (by omega)) (Nat.le_refl _) hcl)
        clear hc3 k2 hQq hG hB
        go_wp2
        exact bodyPost_ret (v := .agg #[.int .i64 V, .slice A (F).length cA, .slice C (T).length d]) (by simp [results, go_sem, r0, r1, r2]) rfl ⟨_, ⟨V, F, T⟩, rfl, by simpa using OF.out, HL.out.1, HL.out.2, GS.out⟩
end Go.Proofs.Ytaefpblpfjhgoaa
