/- FnExactRootRep: the law holds for every argument. Part 13 of 18 of the proof: Red2, KerS. No condition. -/
import Derived.Test.YtcmlflppndfdcaaGreatBRootRep12
set_option linter.unusedVariables false
set_option linter.unusedSimpArgs false
namespace Go.Proofs.YtcmlflppndfdcaaGreat
open Go.RowKit
def RT (bm B : Nat) (w1 : World) (A : Option Addr) (r c L cap : Nat) (w : World) (f : Nat → Nat → Int) (pv : Value) (ps : List Int) : Prop :=
 RS B w1 A r c L cap w f pv ps ∧ Blk w bm 50 #[.int .i64 r, .int .i64 c, .slice A L cap]
section
variable {bm B : Nat} {w1 w w' : World} {A : Option Addr} {r c L cap : Nat} {f : Nat → Nat → Int} {pv : Value} {ps : List Int}
theorem RT.call (h : RT bm B w1 A r c L cap w f pv ps) (hB : B ≤ w1.heap.size) (hb : Below w.heap.size w w') : RT bm B w1 A r c L cap w' f pv ps := ⟨h.1.call hB hb, h.2.call hb⟩
theorem RT.congr {f2 : Nat → Nat → Int} (h : RT bm B w1 A r c L cap w f pv ps) (e : flat r c f = flat r c f2) : RT bm B w1 A r c L cap w f2 pv ps := ⟨h.1.congr e, h.2⟩
theorem RT.put {g J : Nat} {x : Int} {f2 : Nat → Nat → Int} (h : RT bm B w1 (some ⟨g, 0, none⟩) r c L cap w f pv ps) (hg : B ≤ g) (hs : B ≤ w.heap.size) (hx : I64 x) (e : (flat r c f).set J x = flat r c f2) :
  RT bm B w1 (some ⟨g, 0, none⟩) r c L cap (w.setCell ⟨g, J, none⟩ (.int .i64 x)) f2 pv ps := by
 refine ⟨h.1.put hg hs hx e, h.2.far ?_ _⟩
 have := h.1.own.blkne h.2 (by decide)
 intro e2
 exact this (by simp [Value.ownBlock, e2])
theorem RT.app {pv' : Value} {ps' : List Int} (h : RT bm B w1 A r c L cap w f pv ps) (hs : B ≤ w.heap.size) (ho : OwnI w' B pv' ps') (hg : w.grownBy w' pv.ownBlock) (hv : pv'.ownBlock = pv.ownBlock ∨ pv'.ownBlock = some w.heap.size) :
  RT bm B w1 A r c L cap w' f pv' ps' := ⟨h.1.app hs ho hg hv, h.2.grown hg (h.1.ownP.1.blkne h.2 (by decide))⟩
end
theorem ixP {i k r c P : Nat} (hi : i < r) (hk : k < c) (hr : r ≤ 1000) (hc : c ≤ 1000) (hP : P = i * c) : wrap64 ((i : Int) * (c : Int)) = (P : Int) := by
 obtain ⟨P', J, h1, _⟩ := ix_walk hi hk hr hc
 have := (ix_next hi hr hc h1).1
 rw [h1, this, hP]
theorem nzF_next {f : Nat → Nat → Int} {k m r : Nat} (h : m < r) : nzF f k m r = if f m k = 0 then nzF f k (m + 1) r else m := by
 unfold nzF
 rw [show r - m = (r - (m + 1)) + 1 by omega, nzGo]
theorem nzF_self (f : Nat → Nat → Int) (k r : Nat) : nzF f k r r = r := by unfold nzF; rw [Nat.sub_self, nzGo]
def atI (f : Nat → Nat → Int) (k m r : Nat) : Int := if nzF f k m r = r then -1 else (nzF f k m r : Int)
theorem atI_self (f : Nat → Nat → Int) (k r : Nat) : atI f k r r = -1 := by rw [atI, if_pos (nzF_self f k r)]
theorem atI_zero {f : Nat → Nat → Int} {k m r : Nat} (h : m < r) (h0 : f m k = 0) : atI f k m r = atI f k (m + 1) r := by rw [atI, atI, nzF_next h, if_pos h0]
theorem atI_ne {f : Nat → Nat → Int} {k m r : Nat} (h : m < r) (h0 : f m k ≠ 0) : atI f k m r = m := by rw [atI, nzF_next h, if_neg h0, if_neg (by omega)]
set_option maxHeartbeats 12800000 in
set_option maxRecDepth 100000 in
theorem l4Reduce_any (p : Int) (u : Value) (r c : Nat) (f : Nat → Nat → Int) (w0 : World) (hp : isFld p = true) (hr : r ≤ 1000) (hc : c ≤ 1000) (hu : MxR w0 w0.heap.size u (mxF r c f)) (hf : InF p r c f) :
  Calls Tryz.prog 66 #[.int .i64 p, u] w0 fun e w' => ∃ m v, e = .returned (.tuple #[m, v]) ∧ MxO w' w0.heap.size w'.heap.size m (mxF r c (rdTo p r f c).1) ∧ IntsO w' w0.heap.size w'.heap.size v (rdTo p r f c).2 ∧ Below w0.heap.size w0 w' := by
 have hpr := isFld_r hp
 have hu' := hu
 obtain ⟨UA, uc, rfl⟩ := hu.form
 simp only [mxF] at hu hu' ⊢
 rw [flat_length] at hu hu' ⊢
 obtain ⟨UL, hUL⟩ : ∃ n, r * c = n := ⟨_, rfl⟩
 rw [hUL] at hu hu' ⊢
 have HUL := Lib.hid hUL
 clear hUL hu
 obtain ⟨W, hW⟩ : ∃ W, W = (w0.alloc (.cells #[.int .i64 r, .int .i64 c, .slice UA UL uc] 50)).alloc (.cells #[.int .i64 0, .int .i64 0, .slice none 0 0] 50) := ⟨_, rfl⟩
 have g0 : Below w0.heap.size w0 W := by rw [hW]; exact ((Below.refl _ _).alloc (Nat.le_refl _) _).alloc (by simp) _
 have kB : Blk W w0.heap.size 50 #[.int .i64 r, .int .i64 c, .slice UA UL uc] := by rw [hW]; exact (Blk.new _ _ _).alloc _
 have kR : Blk W (w0.heap.size + 1) 50 #[.int .i64 0, .int .i64 0, .slice none 0 0] := by
  rw [hW]
  have := Blk.new (w0.alloc (.cells #[.int .i64 r, .int .i64 c, .slice UA UL uc] 50)) 50 #[.int .i64 0, .int .i64 0, .slice none 0 0]
  simpa only [World.size_alloc] using this
 have sz : W.heap.size = w0.heap.size + 1 + 1 := by rw [hW]; simp
 have SZ := Lib.hid sz
 have HU := Lib.hid (MxR.next g0 hu')
 have HF := Lib.hid hf
 have HP := Lib.hid hp
 have c0 := kB.cell' (i := 0) rfl
 have c1 := kB.cell' (i := 1) rfl
 have c2 := kB.cell' (i := 2) rfl
 clear hu' sz hf hp
 go_enter Tryz.func66, Tryz.ntmps66
 go_wp2_with fail
 rw [← hW]; clear hW
 refine (l3Copy_any _ _ _ HU.out).mono ?_; rintro e w1 ⟨v1, rfl, hM, hb1⟩
 obtain ⟨A, cap, ev⟩ := hM.form
 subst ev
 simp only [flat_length] at hM ⊢
 obtain ⟨L, hL⟩ : ∃ n, r * c = n := ⟨_, rfl⟩
 rw [hL] at hM ⊢
 have HL := Lib.hid hL
 clear hL
 have kR1 := kR.call hb1
 have g1 := bthen g0 hb1
 clear c0 c1 c2
 have s1 := hb1.size
 have sz := SZ.out
 obtain ⟨w2, hw2⟩ : ∃ w2, w2 = (w1.alloc (.cells #[.int .i64 r, .int .i64 c, .slice A L cap] 50)).alloc (.cells #[] 3) := ⟨_, rfl⟩
 have b2 : Below w1.heap.size w1 w2 := by rw [hw2]; exact ((Below.refl _ _).alloc (Nat.le_refl _) _).alloc (by simp) _
 have kA2 : Blk w2 w1.heap.size 50 #[.int .i64 r, .int .i64 c, .slice A L cap] := by rw [hw2]; exact (Blk.new _ _ _).alloc _
 have kR2 := kR1.call b2
 have g2 := bthen g1 b2
 have s2 : w2.heap.size = w1.heap.size + 1 + 1 := by rw [hw2]; simp
 obtain ⟨sA, esA, hIA, _, _⟩ := hM
 simp only [Value.agg.injEq, Array.mk.injEq, List.cons.injEq, and_true, true_and] at esA
 subst esA
 have hI2 := hIA.below b2
 have hPv : IntsO w2 w1.heap.size w2.heap.size (.slice (some ⟨w1.heap.size + 1, 0, none⟩) 0 0) [] := by
  have := OwnI.made (w := w1.alloc (.cells #[.int .i64 r, .int .i64 c, .slice A L cap] 50)) (base := w1.heap.size) 3 rfl (by simp)
  rw [← hw2] at this
  simp only [World.size_alloc] at this
  exact IntsO.of_own this
 have hS0 : RT w1.heap.size W.heap.size w2 A r c L cap w2 (rdTo p r f 0).1 (.slice (some ⟨w1.heap.size + 1, 0, none⟩) 0 0) (rdTo p r f 0).2 :=
  ⟨⟨Below.refl _ _, fam_two hI2 hPv s1 (by omega)⟩, kA2⟩
 have KR := Lib.hid kR2
 have G2 := Lib.hid g2
 have hWB : W.heap.size ≤ w2.heap.size := by omega
 have HB0 : Hid (w0.heap.size < W.heap.size) := by show _ < _; omega
 have HWB := Lib.hid hWB
 clear kB kR kR1 g0 g1 hIA hI2 kR2 kA2 g2 s1 s2 sz hb1 hWB b2 hPv
 go_wp2
 rw [← hw2]; clear hw2
 go_loopw [7, 8, 9] (fun pv nv i wr => ∃ k : Nat, k ≤ c ∧ i = .int .i64 k ∧ nv = .int .i64 ((rdTo p r f k).2.length : Int) ∧ RT w1.heap.size W.heap.size w2 A r c L cap wr (rdTo p r f k).1 pv (rdTo p r f k).2) (fun _ _ i _ => c - (intOf i).toNat)
 case atStart => exact ⟨0, Nat.zero_le _, rfl, rfl, hS0⟩
 case round =>
  clear hS0
  obtain ⟨k, hk, rfl, rfl, S⟩ := hrel
  obtain ⟨PA, pc, ev, _, _⟩ := S.1.ownP.1.form
  subst ev
  have hln := rdTo_len p r f k
  have hin := inF_to hpr.1 HF.out k
  have hrs := rdTo_succ p r f k
  have hrest := Lib.hid (fun h => rdTo_rest (p := p) (r := r) (f := f) (k := k) h (c - k))
  obtain ⟨F, hFF⟩ : ∃ F, (rdTo p r f k).1 = F := ⟨_, rfl⟩
  obtain ⟨ps, hps⟩ : ∃ ps, (rdTo p r f k).2 = ps := ⟨_, rfl⟩
  rw [hFF, hps] at S hrs
  rw [hps] at hln
  rw [hFF] at hin
  rw [hps]
  obtain ⟨n, hn⟩ : ∃ n, ps.length = n := ⟨_, rfl⟩
  rw [hn] at hln hrs S ⊢
  have HRS := Lib.hid hrs
  have HN := Lib.hid hn
  have HIN := Lib.hid hin
  have HFF := Lib.hid hFF
  have HPS := Lib.hid hps
  clear hFF hps hn hin hrs
  by_cases hgo : k < c ∧ n < r
  ·obtain ⟨hlt, hnr⟩ := hgo
   have kb := (S).2
   have c0 := kb.cell' (i := 0) rfl
   have c1 := kb.cell' (i := 1) rfl
   have c2 := kb.cell' (i := 2) rfl
   go_wp2
   clear kb c0 c1 c2
   have ha0 := atI_self F k r
   go_loopw [10, 11] (fun a i wr => ∃ m : Nat, n ≤ m ∧ m ≤ r ∧ i = .int .i64 ((m : Int) - 1) ∧ a = .int .i64 (atI F k m r) ∧ RT w1.heap.size W.heap.size w2 A r c L cap wr F (.slice PA n pc) ps) (fun _ i _ => (intOf i + 1).toNat)
   case atStart => exact ⟨r, by omega, Nat.le_refl _, rfl, by rw [ha0], S⟩
   case round =>
    clear S ha0
    obtain ⟨m, hnm, hmr, rfl, rfl, S⟩ := hrel
    obtain ⟨g, eA, eL, hLc, hcb, hBg, hgw⟩ := S.1.addr (Nat.mul_pos (by omega) (by omega))
    subst eA
    have EL := Lib.hid eL
    clear eL
    by_cases hlm : n < m
    ·obtain ⟨m', rfl⟩ : ∃ m', m = m' + 1 := ⟨m - 1, by omega⟩
     have em : ((m' + 1 : Nat) : Int) - 1 = (m' : Int) := by omega
     rw [em]
     clear em
     have hlr : m' < r := by omega
     obtain ⟨Q, hQ⟩ : ∃ Q, Q = m' * c := ⟨_, rfl⟩
     have hQw : ∀ [Inhabited Unit], wrap64 ((m' : Int) * (c : Int)) = (Q : Int) := fun {_} => ixP hlr hlt hr hc hQ
     obtain ⟨a1, a2, a3⟩ := rowP hlr hlt hr hc hQ
     rw [← EL.out] at a1 a2 a3
     obtain ⟨z1, _, _⟩ := S.1.cellP hlr hlt hQ
     clear hQ
     have kb := (S).2
     have c0 := kb.cell' (i := 0) rfl
     have c1 := kb.cell' (i := 1) rfl
     have c2 := kb.cell' (i := 2) rfl
     by_cases hz0 : F m' k = 0
     ·rw [hz0] at z1
      have HA := Lib.hid (atI_zero hlr hz0)
      clear hz0
      go_wp2
      go_roundw
      case rel => exact ⟨m', by omega, by omega, by go_num, by rw [HA.out], S⟩
      case measure => simp [intOf]
     ·have hzb : (F m' k != 0) = true := by simpa using hz0
      have HA := Lib.hid (atI_ne hlr hz0)
      clear hz0
      go_wp2
      go_roundw
      case rel => exact ⟨m', by omega, by omega, by go_num, by rw [HA.out], S⟩
      case measure => simp [intOf]
    ·have hmn : m = n := by omega
     subst hmn
     by_cases hfull : nzF F k m r = r
     ·have HRS2 := Lib.hid (HRS.out.trans (if_neg (by rw [hfull]; omega)))
      have hat : atI F k m r = -1 := by rw [atI, if_pos hfull]
      rw [hat]
      clear hat hfull
      go_wp2
      go_roundw
      case rel => exact ⟨k + 1, by omega, by go_num, by rw [HRS2.out, HN.out], by rw [HRS2.out]; exact S⟩
      case measure => simp [intOf]; omega
     ·have hle := nzF_le (f := F) (k := k) hmr
      have hlr0 : nzF F k m r < r := by omega
      have HRS2 := Lib.hid (HRS.out.trans (if_pos hlr0))
      have hne := nzF_ne hmr hlr0
      have hat : atI F k m r = (nzF F k m r : Int) := by rw [atI, if_neg hfull]
      rw [hat]
      clear hat hfull
      obtain ⟨n, hnn⟩ : ∃ n, n = m := ⟨_, rfl⟩
      subst hnn
      obtain ⟨a, ha⟩ : ∃ a, nzF F k n r = a := ⟨_, rfl⟩
      rw [ha] at hle hlr0 hne ⊢
      have HZA := Lib.hid ha
      have HNE := Lib.hid hne
      clear ha hne
      obtain ⟨P, hP⟩ : ∃ P, P = n * c := ⟨_, rfl⟩
      obtain ⟨Q, hQ⟩ : ∃ Q, Q = a * c := ⟨_, rfl⟩
      have hPw := Lib.hid (ixP hnr hlt hr hc hP)
      have hQw := Lib.hid (ixP hlr0 hlt hr hc hQ)
      have hrp := rowP hnr hlt hr hc hP
      rw [← EL.out] at hrp
      have HPP := Lib.hid hP
      have HQQ := Lib.hid hQ
      clear hP hQ
      rw [← sw_0 n a F] at S
      have hdn : decide ((n : Int) ≤ (n : Int) - 1) = false := decide_eq_false (by omega)
      go_wp2
      clear hdn
      go_loopw [12] (fun i wr => ∃ j : Nat, j ≤ c ∧ i = .int .i64 j ∧ RT w1.heap.size W.heap.size w2 (some ⟨g, 0, none⟩) r c L cap wr (swJ n a j F) (.slice PA n pc) ps) (fun i _ => c - (intOf i).toNat)
      case atStart => exact ⟨0, Nat.zero_le _, rfl, S⟩
      case round =>
       as_aux_lemma =>
        clear S
        obtain ⟨j, hj, rfl, S⟩ := hrel
        have kb := (S).2
        have c0 := kb.cell' (i := 0) rfl
        have c1 := kb.cell' (i := 1) rfl
        have c2 := kb.cell' (i := 2) rfl
        by_cases hljc : j < c
        ·obtain ⟨a1, a2, a3⟩ := rowP hlr0 hljc hr hc HQQ.out
         obtain ⟨b1, b2, b3⟩ := rowP hnr hljc hr hc HPP.out
         rw [← EL.out] at a1 a2 a3 b1 b2 b3
         have hst := sw_step F hnr hlr0 hljc
         rw [← HQQ.out, ← HPP.out] at hst
         have HST := Lib.hid hst
         obtain ⟨z1, _, z2⟩ := S.1.cellP hnr hljc HPP.out
         rw [sw_rest] at z1
         have hSS := Lib.hid S
         have hpw : ∀ [Inhabited Unit], wrap64 ((n : Int) * (c : Int)) = (P : Int) := fun {_} => hPw.out
         clear hst S kb
         go_wp2
         rw [hPw.out]
         clear c0 c1 c2 z1 z2 hpw
         refine wp_region_net (by kernel_rfl) [.eq (.pointer (some ⟨w1.heap.size, 2, none⟩)), .eq (.slice (some ⟨g, 0, none⟩) L cap), .eq (.int .i64 n), .eq (.pointer (some ⟨w1.heap.size, 1, none⟩)), .eq (.int .i64 c), .eq (.int .i64 P), .eq (.int .i64 j), .eq (.int .i64 ((P : Int) + j)), .eq (.pointer (some ⟨w1.heap.size, 2, none⟩)), .eq (.slice (some ⟨g, 0, none⟩) L cap), .eq (.int .i64 a), .eq (.pointer (some ⟨w1.heap.size, 1, none⟩)), .eq (.int .i64 c), .eq (.int .i64 Q), .eq (.int .i64 j), .eq (.int .i64 ((Q : Int) + j)), .eq (.pointer (some ⟨g, Q + j, none⟩)), .eq (.int .i64 (F a j)), .eq (.pointer (some ⟨g, P + j, none⟩))] [[], [0], [], [], [3], [2, 3, 4], [], [2, 3, 4, 5, 6], [], [8], [], [], [11], [10, 11, 12], [], [10, 11, 12, 13, 14], [8, 9, 10, 11, 12, 13, 14, 15], [8, 9, 10, 11, 12, 13, 14, 15, 16], [0, 1, 2, 3, 4, 5, 6, 7, 8, 9, 10, 11, 12, 13, 14, 15, 16, 17], [0, 1, 2, 3, 4, 5, 6, 7, 8, 9, 10, 11, 12, 13, 14, 15, 16, 17, 18]] 19 (by kernel_rfl) ⟨trivial, trivial, trivial, trivial, trivial, trivial, trivial, trivial, trivial, trivial, trivial, trivial, trivial, trivial, trivial, trivial, trivial, trivial, trivial, trivial⟩ ⟨?_, ?_, ?_, ?_, ?_, ?_, ?_, ?_, ?_, ?_, ?_, ?_, ?_, ?_, ?_, ?_, ?_, ?_, ?_, trivial⟩ ?_
         ·intro x w hb hk Q' hQ
          clear hk
          simp only [netE] at hQ ⊢
          go_wp2
          exact hQ _ _ (Below.refl _ _) rfl
         ·intro x w hb hk Q' hQ
          have h0 : x.v 0 = .pointer (some ⟨w1.heap.size, 2, none⟩) := (hk 0 (by decide)).1
          clear hk
          simp only [netE] at hQ ⊢
          simp only [h0] at hQ ⊢
          clear h0
          have q := (hSS.out.call HWB.out hb).2.cell' (i := 2) rfl
          go_wp2
          exact hQ _ _ (Below.refl _ _) rfl
         ·intro x w hb hk Q' hQ
          clear hk
          simp only [netE] at hQ ⊢
          go_wp2
          exact hQ _ _ (Below.refl _ _) rfl
         ·intro x w hb hk Q' hQ
          clear hk
          simp only [netE] at hQ ⊢
          go_wp2
          exact hQ _ _ (Below.refl _ _) rfl
         ·intro x w hb hk Q' hQ
          have h3 : x.v 3 = .pointer (some ⟨w1.heap.size, 1, none⟩) := (hk 3 (by decide)).1
          clear hk
          simp only [netE] at hQ ⊢
          simp only [h3] at hQ ⊢
          clear h3
          have q := (hSS.out.call HWB.out hb).2.cell' (i := 1) rfl
          go_wp2
          exact hQ _ _ (Below.refl _ _) rfl
         ·intro x w hb hk Q' hQ
          have h2 : x.v 2 = .int .i64 n := (hk 2 (by decide)).1
          have h4 : x.v 4 = .int .i64 c := (hk 4 (by decide)).1
          clear hk
          simp only [netE] at hQ ⊢
          simp only [h2, h4] at hQ ⊢
          clear h2 h4
          go_wp2
          rw [hPw.out]
          exact hQ _ _ (Below.refl _ _) rfl
         ·intro x w hb hk Q' hQ
          clear hk
          simp only [netE] at hQ ⊢
          go_wp2
          exact hQ _ _ (Below.refl _ _) rfl
         ·intro x w hb hk Q' hQ
          have h5 : x.v 5 = .int .i64 P := (hk 5 (by decide)).1
          have h6 : x.v 6 = .int .i64 j := (hk 6 (by decide)).1
          clear hk
          simp only [netE] at hQ ⊢
          simp only [h5, h6] at hQ ⊢
          clear h5 h6
          go_wp2
          exact hQ (.int .i64 ((P : Int) + j)) _ (Below.refl _ _) rfl
         ·intro x w hb hk Q' hQ
          clear hk
          simp only [netE] at hQ ⊢
          go_wp2
          exact hQ _ _ (Below.refl _ _) rfl
         ·intro x w hb hk Q' hQ
          have h8 : x.v 8 = .pointer (some ⟨w1.heap.size, 2, none⟩) := (hk 8 (by decide)).1
          clear hk
          simp only [netE] at hQ ⊢
          simp only [h8] at hQ ⊢
          clear h8
          have q := (hSS.out.call HWB.out hb).2.cell' (i := 2) rfl
          go_wp2
          exact hQ _ _ (Below.refl _ _) rfl
         ·intro x w hb hk Q' hQ
          clear hk
          simp only [netE] at hQ ⊢
          go_wp2
          exact hQ _ _ (Below.refl _ _) rfl
         ·intro x w hb hk Q' hQ
          clear hk
          simp only [netE] at hQ ⊢
          go_wp2
          exact hQ _ _ (Below.refl _ _) rfl
         ·intro x w hb hk Q' hQ
          have h11 : x.v 11 = .pointer (some ⟨w1.heap.size, 1, none⟩) := (hk 11 (by decide)).1
          clear hk
          simp only [netE] at hQ ⊢
          simp only [h11] at hQ ⊢
          clear h11
          have q := (hSS.out.call HWB.out hb).2.cell' (i := 1) rfl
          go_wp2
          exact hQ _ _ (Below.refl _ _) rfl
         ·intro x w hb hk Q' hQ
          have h10 : x.v 10 = .int .i64 a := (hk 10 (by decide)).1
          have h12 : x.v 12 = .int .i64 c := (hk 12 (by decide)).1
          clear hk
          simp only [netE] at hQ ⊢
          simp only [h10, h12] at hQ ⊢
          clear h10 h12
          go_wp2
          rw [hQw.out]
          exact hQ _ _ (Below.refl _ _) rfl
         ·intro x w hb hk Q' hQ
          clear hk
          simp only [netE] at hQ ⊢
          go_wp2
          exact hQ _ _ (Below.refl _ _) rfl
         ·intro x w hb hk Q' hQ
          have h13 : x.v 13 = .int .i64 Q := (hk 13 (by decide)).1
          have h14 : x.v 14 = .int .i64 j := (hk 14 (by decide)).1
          clear hk
          simp only [netE] at hQ ⊢
          simp only [h13, h14] at hQ ⊢
          clear h13 h14
          go_wp2
          exact hQ (.int .i64 ((Q : Int) + j)) _ (Below.refl _ _) rfl
         ·intro x w hb hk Q' hQ
          have h9 : x.v 9 = .slice (some ⟨g, 0, none⟩) L cap := (hk 9 (by decide)).1
          have h15 : x.v 15 = .int .i64 ((Q : Int) + j) := (hk 15 (by decide)).1
          clear hk
          simp only [netE] at hQ ⊢
          simp only [h9, h15] at hQ ⊢
          clear h9 h15
          go_wp2
          exact hQ _ _ (Below.refl _ _) rfl
         ·intro x w hb hk Q' hQ
          have h16 : x.v 16 = .pointer (some ⟨g, Q + j, none⟩) := (hk 16 (by decide)).1
          clear hk
          simp only [netE] at hQ ⊢
          simp only [h16] at hQ ⊢
          clear h16
          have z := ((hSS.out.call HWB.out hb).1.cellP hlr0 hljc HQQ.out).1
          rw [sw_rest] at z
          go_wp2
          exact hQ _ _ (Below.refl _ _) rfl
         ·intro x w hb hk Q' hQ
          have h1 : x.v 1 = .slice (some ⟨g, 0, none⟩) L cap := (hk 1 (by decide)).1
          have h7 : x.v 7 = .int .i64 ((P : Int) + j) := (hk 7 (by decide)).1
          clear hk
          simp only [netE] at hQ ⊢
          simp only [h1, h7] at hQ ⊢
          clear h1 h7
          go_wp2
          exact hQ _ _ (Below.refl _ _) rfl
         ·intro x w hb hk hiv hdj
          have h0 : x.v 0 = .pointer (some ⟨w1.heap.size, 2, none⟩) := hk 0 (by decide)
          have h1 : x.v 1 = .slice (some ⟨g, 0, none⟩) L cap := hk 1 (by decide)
          have h2 : x.v 2 = .int .i64 n := hk 2 (by decide)
          have h3 : x.v 3 = .pointer (some ⟨w1.heap.size, 1, none⟩) := hk 3 (by decide)
          have h4 : x.v 4 = .int .i64 c := hk 4 (by decide)
          have h5 : x.v 5 = .int .i64 P := hk 5 (by decide)
          have h6 : x.v 6 = .int .i64 j := hk 6 (by decide)
          have h7 : x.v 7 = .int .i64 ((P : Int) + j) := hk 7 (by decide)
          have h8 : x.v 8 = .pointer (some ⟨w1.heap.size, 2, none⟩) := hk 8 (by decide)
          have h9 : x.v 9 = .slice (some ⟨g, 0, none⟩) L cap := hk 9 (by decide)
          have h10 : x.v 10 = .int .i64 a := hk 10 (by decide)
          have h11 : x.v 11 = .pointer (some ⟨w1.heap.size, 1, none⟩) := hk 11 (by decide)
          have h12 : x.v 12 = .int .i64 c := hk 12 (by decide)
          have h13 : x.v 13 = .int .i64 Q := hk 13 (by decide)
          have h14 : x.v 14 = .int .i64 j := hk 14 (by decide)
          have h15 : x.v 15 = .int .i64 ((Q : Int) + j) := hk 15 (by decide)
          have h16 : x.v 16 = .pointer (some ⟨g, Q + j, none⟩) := hk 16 (by decide)
          have h17 : x.v 17 = .int .i64 (F a j) := hk 17 (by decide)
          have h18 : x.v 18 = .pointer (some ⟨g, P + j, none⟩) := hk 18 (by decide)
          clear hk
          simp only [netE]
          simp only [List.drop_succ_cons, List.drop_zero, h0, h1, h2, h3, h4, h5, h6, h7, h8, h9, h10, h11, h12, h13, h14, h15, h16, h17, h18]
          clear h0 h1 h2 h3 h4 h5 h6 h7 h8 h9 h10 h11 h12 h13 h14 h15 h16 h17 h18
          have S := hSS.out.call HWB.out hb
          have ia := (S.1.cellP hlr0 hljc HQQ.out)
          have ib := (S.1.cellP hnr hljc HPP.out)
          rw [sw_rest] at ia ib
          have hst1 : (flat r c (swJ n a j F)).set (P + j) (F a j) = flat r c (fun x b => if x = n ∧ b = j then F a j else swJ n a j F x b) := by rw [HPP.out]; exact flat_set _ _ hnr hljc
          have hst2 := HST.out
          rw [hst1] at hst2
          have S1 := S.put (J := P + j) (x := F a j) hBg (S.1.size HWB.out) ia.2.1 hst1
          have S2 := S1.put (J := Q + j) (x := F n j) hBg (S1.1.size HWB.out) ib.2.1 hst2
          obtain ⟨q1, _, q2⟩ := S1.1.cellP hlr0 hljc HQQ.out
          obtain ⟨p1, _, p2⟩ := ib
          have kb := S1.2
          have c0 := kb.cell' (i := 0) rfl
          have c1 := kb.cell' (i := 1) rfl
          have c2 := kb.cell' (i := 2) rfl
          have HS2 := Lib.hid S2
          have hqw : ∀ [Inhabited Unit], wrap64 ((a : Int) * (c : Int)) = (Q : Int) := fun {_} => hQw.out
          clear ia S S1 S2 hiv hdj hst1 hst2 kb
          go_wp2
          go_roundw
          case rel => exact ⟨j + 1, by omega, by go_num, HS2.out⟩
          case measure => simp [intOf]; omega
        ·have hjc : j = c := by omega
         subst hjc
         have S := S.congr (sw_end n a r j F)
         have hin1 := inF_sw HIN.out hnr hlr0
         have hx0 : swA n a F n k = F a k := by rw [swA, if_pos rfl]
         obtain ⟨F1, hF1⟩ : ∃ F1, swA n a F = F1 := ⟨_, rfl⟩
         rw [hF1] at S hin1 hx0
         obtain ⟨x, hx⟩ : ∃ x, F1 n k = x := ⟨_, rfl⟩
         obtain ⟨z1, hxI, _⟩ := S.1.cellP hnr hlt HPP.out
         have hxr := hin1 n k hnr hlt
         rw [hx] at z1 hxr hx0
         have hxn : 1 ≤ x := by
          have := HNE.out
          rw [← hx0] at this
          omega
         obtain ⟨s, hs⟩ : ∃ s, invP p x = s := ⟨_, rfl⟩
         have hsr := invP_r (x := x) hpr
         rw [hs] at hsr
         have HS := Lib.hid hs
         have HX := Lib.hid hx
         have HF1 := Lib.hid hF1
         have HIN1 := Lib.hid hin1
         have hSS := Lib.hid S
         have hpw : ∀ [Inhabited Unit], wrap64 ((n : Int) * (j : Int)) = (P : Int) := fun {_} => hPw.out
         clear hs hx hxI hF1 hin1 hx0 S kb c0 c1 c2
         have c0 := hSS.out.2.cell' (i := 0) rfl
         have c1 := hSS.out.2.cell' (i := 1) rfl
         have c2 := hSS.out.2.cell' (i := 2) rfl
         obtain ⟨b1, b2, b3⟩ := hrp
         go_wp2_with fail
         refine (specInverseMod_any p x _ HP.out hxn hxr.2).mono ?_; rintro e w5 ⟨rfl, hww⟩; replace hww := hww.symm; subst hww
         rw [HS.out]
         have S := hSS.out
         rw [← sc_0 p n s F1] at S
         clear c0 c1 c2 z1
         go_wp2
         try rw [hPw.out]
         clear hpw
         go_loopw [15] (fun i wr => ∃ j' : Nat, j' ≤ j ∧ i = .int .i64 j' ∧ RT w1.heap.size W.heap.size w2 (some ⟨g, 0, none⟩) r j L cap wr (scJ p n s j' F1) (.slice PA n pc) ps) (fun i _ => j - (intOf i).toNat)
         case atStart => exact ⟨0, Nat.zero_le _, rfl, S⟩
         case round =>
          as_aux_lemma =>
           clear S hSS
           obtain ⟨j', hj', rfl, S⟩ := hrel
           have kb := (S).2
           have c0 := kb.cell' (i := 0) rfl
           have c1 := kb.cell' (i := 1) rfl
           have c2 := kb.cell' (i := 2) rfl
           by_cases hl4 : j' < j
           ·obtain ⟨b1, b2, b3⟩ := rowP hnr hl4 hr hc HPP.out
            rw [← EL.out] at b1 b2 b3
            have hi1 := HIN1.out n j' hnr hl4
            have hst := sc_step (p := p) (s := s) F1 hnr hl4
            obtain ⟨a4, ha4⟩ : ∃ a4, F1 n j' = a4 := ⟨_, rfl⟩
            rw [ha4] at hi1 hst
            rw [← HPP.out] at hst
            have k0 : 0 ≤ a4 * s := Int.mul_nonneg hi1.1 hsr.1
            have k1 : a4 * s ≤ 4 * 4 := Int.mul_le_mul (by omega) hsr.2 hsr.1 (by omega)
            obtain ⟨K, hK⟩ : ∃ K, a4 * s = K := ⟨_, rfl⟩
            rw [hK] at k0 k1 hst
            have hKw := Lib.hid (show wrap64 (s * a4) = K by rw [Int.mul_comm, hK]; exact IntWalk.wrap64_in _ ⟨by omega, by omega⟩)
            have hr1 := emod_rng (x := K) hpr.1
            have HST := Lib.hid hst
            have HA4 := Lib.hid ha4
            have hSS := Lib.hid S
            have hKI : Hid (I64 K) := by show _ ∧ _; omega
            have hRI : Hid (I64 (K % p)) := by show _ ∧ _; omega
            clear ha4 hK hst S kb hi1 k0 k1
            go_wp2
            clear c0 c1 c2
            refine wp_region_net (by kernel_rfl) [.eq (.pointer (some ⟨w1.heap.size, 2, none⟩)), .eq (.slice (some ⟨g, 0, none⟩) L cap), .eq (.int .i64 n), .eq (.pointer (some ⟨w1.heap.size, 1, none⟩)), .eq (.int .i64 j), .eq (.int .i64 P), .eq (.int .i64 j'), .eq (.int .i64 ((P : Int) + j')), .eq (.int .i64 p), .eq (.int .i64 s), .eq (.pointer (some ⟨w1.heap.size, 2, none⟩)), .eq (.slice (some ⟨g, 0, none⟩) L cap), .eq (.int .i64 n), .eq (.pointer (some ⟨w1.heap.size, 1, none⟩)), .eq (.int .i64 j), .eq (.int .i64 P), .eq (.int .i64 j'), .eq (.int .i64 ((P : Int) + j')), .eq (.pointer (some ⟨g, P + j', none⟩)), .eq (.int .i64 a4), .eq (.int .i64 K), .eq (.int .i64 (K % p)), .eq (.pointer (some ⟨g, P + j', none⟩))] [[], [0], [], [], [3], [2, 3, 4], [], [2, 3, 4, 5, 6], [], [], [], [10], [], [], [13], [12, 13, 14], [], [12, 13, 14, 15, 16], [10, 11, 12, 13, 14, 15, 16, 17], [10, 11, 12, 13, 14, 15, 16, 17, 18], [9, 10, 11, 12, 13, 14, 15, 16, 17, 18, 19], [8, 9, 10, 11, 12, 13, 14, 15, 16, 17, 18, 19, 20], [0, 1, 2, 3, 4, 5, 6, 7, 8, 9, 10, 11, 12, 13, 14, 15, 16, 17, 18, 19, 20, 21], [0, 1, 2, 3, 4, 5, 6, 7, 8, 9, 10, 11, 12, 13, 14, 15, 16, 17, 18, 19, 20, 21, 22]] 23 (by kernel_rfl) ⟨trivial, trivial, trivial, trivial, trivial, trivial, trivial, trivial, trivial, trivial, trivial, trivial, trivial, trivial, trivial, trivial, trivial, trivial, trivial, trivial, trivial, trivial, trivial, trivial⟩ ⟨?_, ?_, ?_, ?_, ?_, ?_, ?_, ?_, ?_, ?_, ?_, ?_, ?_, ?_, ?_, ?_, ?_, ?_, ?_, ?_, ?_, ?_, ?_, trivial⟩ ?_
            ·intro x w hb hk Q' hQ
             clear hk
             simp only [netE] at hQ ⊢
             go_wp2
             exact hQ _ _ (Below.refl _ _) rfl
            ·intro x w hb hk Q' hQ
             have h0 : x.v 0 = .pointer (some ⟨w1.heap.size, 2, none⟩) := (hk 0 (by decide)).1
             clear hk
             simp only [netE] at hQ ⊢
             simp only [h0] at hQ ⊢
             clear h0
             have q := (hSS.out.call HWB.out hb).2.cell' (i := 2) rfl
             go_wp2
             exact hQ _ _ (Below.refl _ _) rfl
            ·intro x w hb hk Q' hQ
             clear hk
             simp only [netE] at hQ ⊢
             go_wp2
             exact hQ _ _ (Below.refl _ _) rfl
            ·intro x w hb hk Q' hQ
             clear hk
             simp only [netE] at hQ ⊢
             go_wp2
             exact hQ _ _ (Below.refl _ _) rfl
            ·intro x w hb hk Q' hQ
             have h3 : x.v 3 = .pointer (some ⟨w1.heap.size, 1, none⟩) := (hk 3 (by decide)).1
             clear hk
             simp only [netE] at hQ ⊢
             simp only [h3] at hQ ⊢
             clear h3
             have q := (hSS.out.call HWB.out hb).2.cell' (i := 1) rfl
             go_wp2
             exact hQ _ _ (Below.refl _ _) rfl
            ·intro x w hb hk Q' hQ
             have h2 : x.v 2 = .int .i64 n := (hk 2 (by decide)).1
             have h4 : x.v 4 = .int .i64 j := (hk 4 (by decide)).1
             clear hk
             simp only [netE] at hQ ⊢
             simp only [h2, h4] at hQ ⊢
             clear h2 h4
             go_wp2
             rw [hPw.out]
             exact hQ _ _ (Below.refl _ _) rfl
            ·intro x w hb hk Q' hQ
             clear hk
             simp only [netE] at hQ ⊢
             go_wp2
             exact hQ _ _ (Below.refl _ _) rfl
            ·intro x w hb hk Q' hQ
             have h5 : x.v 5 = .int .i64 P := (hk 5 (by decide)).1
             have h6 : x.v 6 = .int .i64 j' := (hk 6 (by decide)).1
             clear hk
             simp only [netE] at hQ ⊢
             simp only [h5, h6] at hQ ⊢
             clear h5 h6
             go_wp2
             exact hQ (.int .i64 ((P : Int) + j')) _ (Below.refl _ _) rfl
            ·intro x w hb hk Q' hQ
             clear hk
             simp only [netE] at hQ ⊢
             go_wp2
             exact hQ _ _ (Below.refl _ _) rfl
            ·intro x w hb hk Q' hQ
             clear hk
             simp only [netE] at hQ ⊢
             go_wp2
             exact hQ _ _ (Below.refl _ _) rfl
            ·intro x w hb hk Q' hQ
             clear hk
             simp only [netE] at hQ ⊢
             go_wp2
             exact hQ _ _ (Below.refl _ _) rfl
            ·intro x w hb hk Q' hQ
             have h10 : x.v 10 = .pointer (some ⟨w1.heap.size, 2, none⟩) := (hk 10 (by decide)).1
             clear hk
             simp only [netE] at hQ ⊢
             simp only [h10] at hQ ⊢
             clear h10
             have q := (hSS.out.call HWB.out hb).2.cell' (i := 2) rfl
             go_wp2
             exact hQ _ _ (Below.refl _ _) rfl
            ·intro x w hb hk Q' hQ
             clear hk
             simp only [netE] at hQ ⊢
             go_wp2
             exact hQ _ _ (Below.refl _ _) rfl
            ·intro x w hb hk Q' hQ
             clear hk
             simp only [netE] at hQ ⊢
             go_wp2
             exact hQ _ _ (Below.refl _ _) rfl
            ·intro x w hb hk Q' hQ
             have h13 : x.v 13 = .pointer (some ⟨w1.heap.size, 1, none⟩) := (hk 13 (by decide)).1
             clear hk
             simp only [netE] at hQ ⊢
             simp only [h13] at hQ ⊢
             clear h13
             have q := (hSS.out.call HWB.out hb).2.cell' (i := 1) rfl
             go_wp2
             exact hQ _ _ (Below.refl _ _) rfl
            ·intro x w hb hk Q' hQ
             have h12 : x.v 12 = .int .i64 n := (hk 12 (by decide)).1
             have h14 : x.v 14 = .int .i64 j := (hk 14 (by decide)).1
             clear hk
             simp only [netE] at hQ ⊢
             simp only [h12, h14] at hQ ⊢
             clear h12 h14
             go_wp2
             rw [hPw.out]
             exact hQ _ _ (Below.refl _ _) rfl
            ·intro x w hb hk Q' hQ
             clear hk
             simp only [netE] at hQ ⊢
             go_wp2
             exact hQ _ _ (Below.refl _ _) rfl
            ·intro x w hb hk Q' hQ
             have h15 : x.v 15 = .int .i64 P := (hk 15 (by decide)).1
             have h16 : x.v 16 = .int .i64 j' := (hk 16 (by decide)).1
             clear hk
             simp only [netE] at hQ ⊢
             simp only [h15, h16] at hQ ⊢
             clear h15 h16
             go_wp2
             exact hQ (.int .i64 ((P : Int) + j')) _ (Below.refl _ _) rfl
            ·intro x w hb hk Q' hQ
             have h11 : x.v 11 = .slice (some ⟨g, 0, none⟩) L cap := (hk 11 (by decide)).1
             have h17 : x.v 17 = .int .i64 ((P : Int) + j') := (hk 17 (by decide)).1
             clear hk
             simp only [netE] at hQ ⊢
             simp only [h11, h17] at hQ ⊢
             clear h11 h17
             go_wp2
             exact hQ _ _ (Below.refl _ _) rfl
            ·intro x w hb hk Q' hQ
             have h18 : x.v 18 = .pointer (some ⟨g, P + j', none⟩) := (hk 18 (by decide)).1
             clear hk
             simp only [netE] at hQ ⊢
             simp only [h18] at hQ ⊢
             clear h18
             have z := ((hSS.out.call HWB.out hb).1.cellP hnr hl4 HPP.out).1
             rw [sc_rest, HA4.out] at z
             go_wp2
             exact hQ _ _ (Below.refl _ _) rfl
            ·intro x w hb hk Q' hQ
             have h9 : x.v 9 = .int .i64 s := (hk 9 (by decide)).1
             have h19 : x.v 19 = .int .i64 a4 := (hk 19 (by decide)).1
             clear hk
             simp only [netE] at hQ ⊢
             simp only [h9, h19] at hQ ⊢
             clear h9 h19
             go_wp2
             rw [hKw.out]
             exact hQ _ _ (Below.refl _ _) rfl
            ·intro x w hb hk Q' hQ
             have h8 : x.v 8 = .int .i64 p := (hk 8 (by decide)).1
             have h20 : x.v 20 = .int .i64 K := (hk 20 (by decide)).1
             clear hk
             simp only [netE] at hQ ⊢
             simp only [h8, h20] at hQ ⊢
             clear h8 h20
             go_wp2_with fail
             refine (l2Mod_any p K _ hpr hKI.out).mono ?_; rintro e w5 ⟨rfl, hww⟩; replace hww := hww.symm; subst hww
             go_wp2
             exact hQ _ _ (Below.refl _ _) rfl
            ·intro x w hb hk Q' hQ
             have h1 : x.v 1 = .slice (some ⟨g, 0, none⟩) L cap := (hk 1 (by decide)).1
             have h7 : x.v 7 = .int .i64 ((P : Int) + j') := (hk 7 (by decide)).1
             clear hk
             simp only [netE] at hQ ⊢
             simp only [h1, h7] at hQ ⊢
             clear h1 h7
             go_wp2
             exact hQ _ _ (Below.refl _ _) rfl
            ·intro x w hb hk hiv hdj
             have h0 : x.v 0 = .pointer (some ⟨w1.heap.size, 2, none⟩) := hk 0 (by decide)
             have h1 : x.v 1 = .slice (some ⟨g, 0, none⟩) L cap := hk 1 (by decide)
             have h2 : x.v 2 = .int .i64 n := hk 2 (by decide)
             have h3 : x.v 3 = .pointer (some ⟨w1.heap.size, 1, none⟩) := hk 3 (by decide)
             have h4 : x.v 4 = .int .i64 j := hk 4 (by decide)
             have h5 : x.v 5 = .int .i64 P := hk 5 (by decide)
             have h6 : x.v 6 = .int .i64 j' := hk 6 (by decide)
             have h7 : x.v 7 = .int .i64 ((P : Int) + j') := hk 7 (by decide)
             have h8 : x.v 8 = .int .i64 p := hk 8 (by decide)
             have h9 : x.v 9 = .int .i64 s := hk 9 (by decide)
             have h10 : x.v 10 = .pointer (some ⟨w1.heap.size, 2, none⟩) := hk 10 (by decide)
             have h11 : x.v 11 = .slice (some ⟨g, 0, none⟩) L cap := hk 11 (by decide)
             have h12 : x.v 12 = .int .i64 n := hk 12 (by decide)
             have h13 : x.v 13 = .pointer (some ⟨w1.heap.size, 1, none⟩) := hk 13 (by decide)
             have h14 : x.v 14 = .int .i64 j := hk 14 (by decide)
             have h15 : x.v 15 = .int .i64 P := hk 15 (by decide)
             have h16 : x.v 16 = .int .i64 j' := hk 16 (by decide)
             have h17 : x.v 17 = .int .i64 ((P : Int) + j') := hk 17 (by decide)
             have h18 : x.v 18 = .pointer (some ⟨g, P + j', none⟩) := hk 18 (by decide)
             have h19 : x.v 19 = .int .i64 a4 := hk 19 (by decide)
             have h20 : x.v 20 = .int .i64 K := hk 20 (by decide)
             have h21 : x.v 21 = .int .i64 (K % p) := hk 21 (by decide)
             have h22 : x.v 22 = .pointer (some ⟨g, P + j', none⟩) := hk 22 (by decide)
             clear hk
             simp only [netE]
             simp only [List.drop_succ_cons, List.drop_zero, h0, h1, h2, h3, h4, h5, h6, h7, h8, h9, h10, h11, h12, h13, h14, h15, h16, h17, h18, h19, h20, h21, h22]
             clear h0 h1 h2 h3 h4 h5 h6 h7 h8 h9 h10 h11 h12 h13 h14 h15 h16 h17 h18 h19 h20 h21 h22
             have S := hSS.out.call HWB.out hb
             obtain ⟨p1, _, p2⟩ := S.1.cellP hnr hl4 HPP.out
             have S2 := S.put (J := P + j') (x := K % p) hBg (S.1.size HWB.out) hRI.out HST.out
             have HS2 := Lib.hid S2
             clear S S2 hiv hdj
             go_wp2
             go_roundw
             case rel => exact ⟨j' + 1, by omega, by go_num, HS2.out⟩
             case measure => simp [intOf]; omega
           ·have hje : j' = j := by omega
            subst hje
            have S := S.congr (sc_end p n r j' s F1)
            have hin2 := inF_sc (s := s) (n := n) hpr.1 HIN1.out
            obtain ⟨F2, hF2⟩ : ∃ F2, scA p n s F1 = F2 := ⟨_, rfl⟩
            rw [hF2] at S hin2
            have hfin : Hid (rdF p r F n k = elA p n k F2) := by
             show _ = _
             rw [rdF, HZA.out, HF1.out, HX.out, HS.out, hF2]
            have HIN2 := Lib.hid hin2
            clear hF2 hin2 kb
            rw [← el_0 p n k F2] at S
            go_wp2
            clear c0 c1 c2
            go_loopw [16] (fun i wr => ∃ i' : Nat, i' ≤ r ∧ i = .int .i64 i' ∧ RT w1.heap.size W.heap.size w2 (some ⟨g, 0, none⟩) r j' L cap wr (elI p n k i' F2) (.slice PA n pc) ps) (fun i _ => r - (intOf i).toNat)
            case atStart => exact ⟨0, Nat.zero_le _, rfl, S⟩
            case round =>
             as_aux_lemma =>
              clear S
              obtain ⟨i, hi, rfl, S⟩ := hrel
              have kb := (S).2
              have c0 := kb.cell' (i := 0) rfl
              have c1 := kb.cell' (i := 1) rfl
              have c2 := kb.cell' (i := 2) rfl
              by_cases hl5 : i < r
              ·obtain ⟨R, hR⟩ : ∃ R, R = i * j' := ⟨_, rfl⟩
               have hRw := Lib.hid (ixP hl5 hlt hr hc hR)
               obtain ⟨a1, a2, a3⟩ := rowP hl5 hlt hr hc hR
               rw [← EL.out] at a1 a2 a3
               obtain ⟨z1, _, _⟩ := S.1.cellP hl5 hlt hR
               rw [el_rest] at z1
               have hr5 := HIN2.out i k hl5 hlt
               obtain ⟨q, hq⟩ : ∃ q, F2 i k = q := ⟨_, rfl⟩
               rw [hq] at hr5 z1
               have HR := Lib.hid hR
               have HQ5 := Lib.hid hq
               have hrw : ∀ [Inhabited Unit], wrap64 ((i : Int) * (j' : Int)) = (R : Int) := fun {_} => hRw.out
               clear hR hq
               rw [← elJ_0] at S
               go_wp2
               try rw [hRw.out]
               clear z1 c0 c1 c2 kb hrw
               go_loopw [18] (fun x wr => ∃ y : Nat, y ≤ j' ∧ x = .int .i64 y ∧ RT w1.heap.size W.heap.size w2 (some ⟨g, 0, none⟩) r j' L cap wr (elJ p n k i y F2) (.slice PA n pc) ps ∧ (i = n → y = 0)) (fun x _ => j' - (intOf x).toNat)
               case atStart => exact ⟨0, Nat.zero_le _, rfl, S, fun _ => rfl⟩
               case round =>
                as_aux_lemma =>
                 clear S
                 obtain ⟨y, hy, rfl, S, hyn⟩ := hrel
                 have kb := (S).2
                 have c0 := kb.cell' (i := 0) rfl
                 have c1 := kb.cell' (i := 1) rfl
                 have c2 := kb.cell' (i := 2) rfl
                 by_cases hin : i = n
                 ·have hy0 := hyn hin
                  subst hy0
                  have hne : ((i : Int) != n) = false := by rw [bne_eq_false_iff_eq]; omega
                  have S := S.congr (show flat r j' (elJ p n k i 0 F2) = flat r j' (elI p n k (i + 1) F2) by rw [elJ_0, hin, el_skip])
                  have hS2 := Lib.hid S
                  have hk0 : 0 < j' := by omega
                  clear hin hyn S
                  go_wp2
                  go_roundw
                  case rel => exact ⟨i + 1, by omega, by go_num, hS2.out⟩
                  case measure => simp [intOf]; omega
                 ·have hne : ((i : Int) != n) = true := by rw [bne_iff_ne]; omega
                  clear hyn
                  by_cases hl6 : y < j'
                  ·obtain ⟨d1, d2, d3⟩ := rowP hl5 hl6 hr hc HR.out
                   obtain ⟨b1, b2, b3⟩ := rowP hnr hl6 hr hc HPP.out
                   rw [← EL.out] at d1 d2 d3 b1 b2 b3
                   have hiy := HIN2.out i y hl5 hl6
                   have hny := HIN2.out n y hnr hl6
                   have hst := elJ_step (p := p) (n := n) (k := k) (i := i) (j := y) F2 hl5 hl6
                   rw [← el_sub] at hst
                   obtain ⟨v, hv⟩ : ∃ v, F2 i y = v := ⟨_, rfl⟩
                   obtain ⟨t, ht⟩ : ∃ t, F2 n y = t := ⟨_, rfl⟩
                   rw [hv, ht, HQ5.out, ← HR.out] at hst
                   rw [hv] at hiy
                   rw [ht] at hny
                   have k0 : 0 ≤ q * t := Int.mul_nonneg hr5.1 hny.1
                   have k1 : q * t ≤ 4 * 4 := Int.mul_le_mul (by omega) (by omega) hny.1 (by omega)
                   obtain ⟨K, hK⟩ : ∃ K, q * t = K := ⟨_, rfl⟩
                   rw [hK] at k0 k1 hst
                   have hKw := Lib.hid (show wrap64 (q * t) = K by rw [hK]; exact IntWalk.wrap64_in _ ⟨by omega, by omega⟩)
                   have hr1 := emod_rng (x := v - K) hpr.1
                   have HST := Lib.hid hst
                   have HV := Lib.hid hv
                   have HT := Lib.hid ht
                   have HNI := Lib.hid hin
                   have hSS := Lib.hid S
                   have hKI : Hid (I64 (v - K)) := by show _ ∧ _; omega
                   have hRI : Hid (I64 ((v - K) % p)) := by show _ ∧ _; omega
                   clear hv ht hK hst S kb hin
                   go_wp2
                   clear c0 c1 c2
                   refine wp_region_net (by kernel_rfl) (.eq (.pointer (some ⟨w1.heap.size, 2, none⟩)) :: .eq (.slice (some ⟨g, 0, none⟩) L cap) :: .eq (.int .i64 i) :: .eq (.pointer (some ⟨w1.heap.size, 1, none⟩)) :: .eq (.int .i64 j') :: .eq (.int .i64 R) :: .eq (.int .i64 y) :: .eq (.int .i64 ((R : Int) + y)) :: .eq (.int .i64 p) :: .eq (.pointer (some ⟨w1.heap.size, 2, none⟩)) :: .eq (.slice (some ⟨g, 0, none⟩) L cap) :: .eq (.int .i64 i) :: .eq (.pointer (some ⟨w1.heap.size, 1, none⟩)) :: .eq (.int .i64 j') :: .eq (.int .i64 R) :: .eq (.int .i64 y) :: .eq (.int .i64 ((R : Int) + y)) :: .eq (.pointer (some ⟨g, R + y, none⟩)) :: .eq (.int .i64 v) :: .eq (.int .i64 q) :: .eq (.pointer (some ⟨w1.heap.size, 2, none⟩)) :: .eq (.slice (some ⟨g, 0, none⟩) L cap) :: .eq (.int .i64 n) :: .eq (.pointer (some ⟨w1.heap.size, 1, none⟩)) :: .eq (.int .i64 j') :: .eq (.int .i64 P) :: .eq (.int .i64 y) :: .eq (.int .i64 ((P : Int) + y)) :: .eq (.pointer (some ⟨g, P + y, none⟩)) :: .eq (.int .i64 t) :: .eq (.int .i64 K) :: .eq (.int .i64 (v - K)) :: .eq (.int .i64 ((v - K) % p)) :: .eq (.pointer (some ⟨g, R + y, none⟩)) :: []) [[], [0], [], [], [3], [2, 3, 4], [], [2, 3, 4, 5, 6], [], [], [9], [], [], [12], [11, 12, 13], [], [11, 12, 13, 14, 15], [9, 10, 11, 12, 13, 14, 15, 16], [9, 10, 11, 12, 13, 14, 15, 16, 17], [], [], [20], [], [], [23], [22, 23, 24], [], [22, 23, 24, 25, 26], [20, 21, 22, 23, 24, 25, 26, 27], [20, 21, 22, 23, 24, 25, 26, 27, 28], [19, 20, 21, 22, 23, 24, 25, 26, 27, 28, 29], [9, 10, 11, 12, 13, 14, 15, 16, 17, 18, 19, 20, 21, 22, 23, 24, 25, 26, 27, 28, 29, 30], [8, 9, 10, 11, 12, 13, 14, 15, 16, 17, 18, 19, 20, 21, 22, 23, 24, 25, 26, 27, 28, 29, 30, 31], [0, 1, 2, 3, 4, 5, 6, 7, 8, 9, 10, 11, 12, 13, 14, 15, 16, 17, 18, 19, 20, 21, 22, 23, 24, 25, 26, 27, 28, 29, 30, 31, 32], [0, 1, 2, 3, 4, 5, 6, 7, 8, 9, 10, 11, 12, 13, 14, 15, 16, 17, 18, 19, 20, 21, 22, 23, 24, 25, 26, 27, 28, 29, 30, 31, 32, 33]] 34 (by kernel_rfl) ⟨trivial, trivial, trivial, trivial, trivial, trivial, trivial, trivial, trivial, trivial, trivial, trivial, trivial, trivial, trivial, trivial, trivial, trivial, trivial, trivial, trivial, trivial, trivial, trivial, trivial, trivial, trivial, trivial, trivial, trivial, trivial, trivial, trivial, trivial, trivial⟩ ⟨?_, ?_, ?_, ?_, ?_, ?_, ?_, ?_, ?_, ?_, ?_, ?_, ?_, ?_, ?_, ?_, ?_, ?_, ?_, ?_, ?_, ?_, ?_, ?_, ?_, ?_, ?_, ?_, ?_, ?_, ?_, ?_, ?_, ?_, trivial⟩ ?_
                   ·intro x w hb hk Q' hQ
                    clear hk
                    simp only [netE] at hQ ⊢
                    go_wp2
                    exact hQ _ _ (Below.refl _ _) rfl
                   ·intro x w hb hk Q' hQ
                    have h0 : x.v 0 = .pointer (some ⟨w1.heap.size, 2, none⟩) := (hk 0 (by decide)).1
                    clear hk
                    simp only [netE] at hQ ⊢
                    simp only [h0] at hQ ⊢
                    clear h0
                    have q9 := (hSS.out.call HWB.out hb).2.cell' (i := 2) rfl
                    go_wp2
                    exact hQ _ _ (Below.refl _ _) rfl
                   ·intro x w hb hk Q' hQ
                    clear hk
                    simp only [netE] at hQ ⊢
                    go_wp2
                    exact hQ _ _ (Below.refl _ _) rfl
                   ·intro x w hb hk Q' hQ
                    clear hk
                    simp only [netE] at hQ ⊢
                    go_wp2
                    exact hQ _ _ (Below.refl _ _) rfl
                   ·intro x w hb hk Q' hQ
                    have h3 : x.v 3 = .pointer (some ⟨w1.heap.size, 1, none⟩) := (hk 3 (by decide)).1
                    clear hk
                    simp only [netE] at hQ ⊢
                    simp only [h3] at hQ ⊢
                    clear h3
                    have q9 := (hSS.out.call HWB.out hb).2.cell' (i := 1) rfl
                    go_wp2
                    exact hQ _ _ (Below.refl _ _) rfl
                   ·intro x w hb hk Q' hQ
                    have h2 : x.v 2 = .int .i64 i := (hk 2 (by decide)).1
                    have h4 : x.v 4 = .int .i64 j' := (hk 4 (by decide)).1
                    clear hk
                    simp only [netE] at hQ ⊢
                    simp only [h2, h4] at hQ ⊢
                    clear h2 h4
                    go_wp2
                    rw [hRw.out]
                    exact hQ _ _ (Below.refl _ _) rfl
                   ·intro x w hb hk Q' hQ
                    clear hk
                    simp only [netE] at hQ ⊢
                    go_wp2
                    exact hQ _ _ (Below.refl _ _) rfl
                   ·intro x w hb hk Q' hQ
                    have h5 : x.v 5 = .int .i64 R := (hk 5 (by decide)).1
                    have h6 : x.v 6 = .int .i64 y := (hk 6 (by decide)).1
                    clear hk
                    simp only [netE] at hQ ⊢
                    simp only [h5, h6] at hQ ⊢
                    clear h5 h6
                    go_wp2
                    exact hQ (.int .i64 ((R : Int) + y)) _ (Below.refl _ _) rfl
                   ·intro x w hb hk Q' hQ
                    clear hk
                    simp only [netE] at hQ ⊢
                    go_wp2
                    exact hQ _ _ (Below.refl _ _) rfl
                   ·intro x w hb hk Q' hQ
                    clear hk
                    simp only [netE] at hQ ⊢
                    go_wp2
                    exact hQ _ _ (Below.refl _ _) rfl
                   ·intro x w hb hk Q' hQ
                    have h9 : x.v 9 = .pointer (some ⟨w1.heap.size, 2, none⟩) := (hk 9 (by decide)).1
                    clear hk
                    simp only [netE] at hQ ⊢
                    simp only [h9] at hQ ⊢
                    clear h9
                    have q9 := (hSS.out.call HWB.out hb).2.cell' (i := 2) rfl
                    go_wp2
                    exact hQ _ _ (Below.refl _ _) rfl
                   ·intro x w hb hk Q' hQ
                    clear hk
                    simp only [netE] at hQ ⊢
                    go_wp2
                    exact hQ _ _ (Below.refl _ _) rfl
                   ·intro x w hb hk Q' hQ
                    clear hk
                    simp only [netE] at hQ ⊢
                    go_wp2
                    exact hQ _ _ (Below.refl _ _) rfl
                   ·intro x w hb hk Q' hQ
                    have h12 : x.v 12 = .pointer (some ⟨w1.heap.size, 1, none⟩) := (hk 12 (by decide)).1
                    clear hk
                    simp only [netE] at hQ ⊢
                    simp only [h12] at hQ ⊢
                    clear h12
                    have q9 := (hSS.out.call HWB.out hb).2.cell' (i := 1) rfl
                    go_wp2
                    exact hQ _ _ (Below.refl _ _) rfl
                   ·intro x w hb hk Q' hQ
                    have h11 : x.v 11 = .int .i64 i := (hk 11 (by decide)).1
                    have h13 : x.v 13 = .int .i64 j' := (hk 13 (by decide)).1
                    clear hk
                    simp only [netE] at hQ ⊢
                    simp only [h11, h13] at hQ ⊢
                    clear h11 h13
                    go_wp2
                    rw [hRw.out]
                    exact hQ _ _ (Below.refl _ _) rfl
                   ·intro x w hb hk Q' hQ
                    clear hk
                    simp only [netE] at hQ ⊢
                    go_wp2
                    exact hQ _ _ (Below.refl _ _) rfl
                   ·intro x w hb hk Q' hQ
                    have h14 : x.v 14 = .int .i64 R := (hk 14 (by decide)).1
                    have h15 : x.v 15 = .int .i64 y := (hk 15 (by decide)).1
                    clear hk
                    simp only [netE] at hQ ⊢
                    simp only [h14, h15] at hQ ⊢
                    clear h14 h15
                    go_wp2
                    exact hQ (.int .i64 ((R : Int) + y)) _ (Below.refl _ _) rfl
                   ·intro x w hb hk Q' hQ
                    have h10 : x.v 10 = .slice (some ⟨g, 0, none⟩) L cap := (hk 10 (by decide)).1
                    have h16 : x.v 16 = .int .i64 ((R : Int) + y) := (hk 16 (by decide)).1
                    clear hk
                    simp only [netE] at hQ ⊢
                    simp only [h10, h16] at hQ ⊢
                    clear h10 h16
                    go_wp2
                    exact hQ _ _ (Below.refl _ _) rfl
                   ·intro x w hb hk Q' hQ
                    have h17 : x.v 17 = .pointer (some ⟨g, R + y, none⟩) := (hk 17 (by decide)).1
                    clear hk
                    simp only [netE] at hQ ⊢
                    simp only [h17] at hQ ⊢
                    clear h17
                    have z := ((hSS.out.call HWB.out hb).1.cellP hl5 hl6 HR.out).1
                    rw [elJ_rest, HV.out] at z
                    go_wp2
                    exact hQ _ _ (Below.refl _ _) rfl
                   ·intro x w hb hk Q' hQ
                    clear hk
                    simp only [netE] at hQ ⊢
                    go_wp2
                    exact hQ _ _ (Below.refl _ _) rfl
                   ·intro x w hb hk Q' hQ
                    clear hk
                    simp only [netE] at hQ ⊢
                    go_wp2
                    exact hQ _ _ (Below.refl _ _) rfl
                   ·intro x w hb hk Q' hQ
                    have h20 : x.v 20 = .pointer (some ⟨w1.heap.size, 2, none⟩) := (hk 20 (by decide)).1
                    clear hk
                    simp only [netE] at hQ ⊢
                    simp only [h20] at hQ ⊢
                    clear h20
                    have q9 := (hSS.out.call HWB.out hb).2.cell' (i := 2) rfl
                    go_wp2
                    exact hQ _ _ (Below.refl _ _) rfl
                   ·intro x w hb hk Q' hQ
                    clear hk
                    simp only [netE] at hQ ⊢
                    go_wp2
                    exact hQ _ _ (Below.refl _ _) rfl
                   ·intro x w hb hk Q' hQ
                    clear hk
                    simp only [netE] at hQ ⊢
                    go_wp2
                    exact hQ _ _ (Below.refl _ _) rfl
                   ·intro x w hb hk Q' hQ
                    have h23 : x.v 23 = .pointer (some ⟨w1.heap.size, 1, none⟩) := (hk 23 (by decide)).1
                    clear hk
                    simp only [netE] at hQ ⊢
                    simp only [h23] at hQ ⊢
                    clear h23
                    have q9 := (hSS.out.call HWB.out hb).2.cell' (i := 1) rfl
                    go_wp2
                    exact hQ _ _ (Below.refl _ _) rfl
                   ·intro x w hb hk Q' hQ
                    have h22 : x.v 22 = .int .i64 n := (hk 22 (by decide)).1
                    have h24 : x.v 24 = .int .i64 j' := (hk 24 (by decide)).1
                    clear hk
                    simp only [netE] at hQ ⊢
                    simp only [h22, h24] at hQ ⊢
                    clear h22 h24
                    go_wp2
                    rw [hPw.out]
                    exact hQ _ _ (Below.refl _ _) rfl
                   ·intro x w hb hk Q' hQ
                    clear hk
                    simp only [netE] at hQ ⊢
                    go_wp2
                    exact hQ _ _ (Below.refl _ _) rfl
                   ·intro x w hb hk Q' hQ
                    have h25 : x.v 25 = .int .i64 P := (hk 25 (by decide)).1
                    have h26 : x.v 26 = .int .i64 y := (hk 26 (by decide)).1
                    clear hk
                    simp only [netE] at hQ ⊢
                    simp only [h25, h26] at hQ ⊢
                    clear h25 h26
                    go_wp2
                    exact hQ (.int .i64 ((P : Int) + y)) _ (Below.refl _ _) rfl
                   ·intro x w hb hk Q' hQ
                    have h21 : x.v 21 = .slice (some ⟨g, 0, none⟩) L cap := (hk 21 (by decide)).1
                    have h27 : x.v 27 = .int .i64 ((P : Int) + y) := (hk 27 (by decide)).1
                    clear hk
                    simp only [netE] at hQ ⊢
                    simp only [h21, h27] at hQ ⊢
                    clear h21 h27
                    go_wp2
                    exact hQ _ _ (Below.refl _ _) rfl
                   ·intro x w hb hk Q' hQ
                    have h28 : x.v 28 = .pointer (some ⟨g, P + y, none⟩) := (hk 28 (by decide)).1
                    clear hk
                    simp only [netE] at hQ ⊢
                    simp only [h28] at hQ ⊢
                    clear h28
                    have z := ((hSS.out.call HWB.out hb).1.cellP hnr hl6 HPP.out).1
                    rw [elJ_n _ HNI.out, HT.out] at z
                    go_wp2
                    exact hQ _ _ (Below.refl _ _) rfl
                   ·intro x w hb hk Q' hQ
                    have h19 : x.v 19 = .int .i64 q := (hk 19 (by decide)).1
                    have h29 : x.v 29 = .int .i64 t := (hk 29 (by decide)).1
                    clear hk
                    simp only [netE] at hQ ⊢
                    simp only [h19, h29] at hQ ⊢
                    clear h19 h29
                    go_wp2
                    rw [hKw.out]
                    exact hQ _ _ (Below.refl _ _) rfl
                   ·intro x w hb hk Q' hQ
                    have h18 : x.v 18 = .int .i64 v := (hk 18 (by decide)).1
                    have h30 : x.v 30 = .int .i64 K := (hk 30 (by decide)).1
                    clear hk
                    simp only [netE] at hQ ⊢
                    simp only [h18, h30] at hQ ⊢
                    clear h18 h30
                    go_wp2
                    exact hQ _ _ (Below.refl _ _) rfl
                   ·intro x w hb hk Q' hQ
                    have h8 : x.v 8 = .int .i64 p := (hk 8 (by decide)).1
                    have h31 : x.v 31 = .int .i64 (v - K) := (hk 31 (by decide)).1
                    clear hk
                    simp only [netE] at hQ ⊢
                    simp only [h8, h31] at hQ ⊢
                    clear h8 h31
                    go_wp2_with fail
                    refine (l2Mod_any p (v - K) _ hpr hKI.out).mono ?_; rintro e w5 ⟨rfl, hww⟩; replace hww := hww.symm; subst hww
                    go_wp2
                    exact hQ (.int .i64 ((v - K) % p)) _ (Below.refl _ _) rfl
                   ·intro x w hb hk Q' hQ
                    have h1 : x.v 1 = .slice (some ⟨g, 0, none⟩) L cap := (hk 1 (by decide)).1
                    have h7 : x.v 7 = .int .i64 ((R : Int) + y) := (hk 7 (by decide)).1
                    clear hk
                    simp only [netE] at hQ ⊢
                    simp only [h1, h7] at hQ ⊢
                    clear h1 h7
                    go_wp2
                    exact hQ _ _ (Below.refl _ _) rfl
                   ·intro x w hb hk hiv hdj
                    have h0 : x.v 0 = .pointer (some ⟨w1.heap.size, 2, none⟩) := hk 0 (by decide)
                    have h1 : x.v 1 = .slice (some ⟨g, 0, none⟩) L cap := hk 1 (by decide)
                    have h2 : x.v 2 = .int .i64 i := hk 2 (by decide)
                    have h3 : x.v 3 = .pointer (some ⟨w1.heap.size, 1, none⟩) := hk 3 (by decide)
                    have h4 : x.v 4 = .int .i64 j' := hk 4 (by decide)
                    have h5 : x.v 5 = .int .i64 R := hk 5 (by decide)
                    have h6 : x.v 6 = .int .i64 y := hk 6 (by decide)
                    have h7 : x.v 7 = .int .i64 ((R : Int) + y) := hk 7 (by decide)
                    have h8 : x.v 8 = .int .i64 p := hk 8 (by decide)
                    have h9 : x.v 9 = .pointer (some ⟨w1.heap.size, 2, none⟩) := hk 9 (by decide)
                    have h10 : x.v 10 = .slice (some ⟨g, 0, none⟩) L cap := hk 10 (by decide)
                    have h11 : x.v 11 = .int .i64 i := hk 11 (by decide)
                    have h12 : x.v 12 = .pointer (some ⟨w1.heap.size, 1, none⟩) := hk 12 (by decide)
                    have h13 : x.v 13 = .int .i64 j' := hk 13 (by decide)
                    have h14 : x.v 14 = .int .i64 R := hk 14 (by decide)
                    have h15 : x.v 15 = .int .i64 y := hk 15 (by decide)
                    have h16 : x.v 16 = .int .i64 ((R : Int) + y) := hk 16 (by decide)
                    have h17 : x.v 17 = .pointer (some ⟨g, R + y, none⟩) := hk 17 (by decide)
                    have h18 : x.v 18 = .int .i64 v := hk 18 (by decide)
                    have h19 : x.v 19 = .int .i64 q := hk 19 (by decide)
                    have h20 : x.v 20 = .pointer (some ⟨w1.heap.size, 2, none⟩) := hk 20 (by decide)
                    have h21 : x.v 21 = .slice (some ⟨g, 0, none⟩) L cap := hk 21 (by decide)
                    have h22 : x.v 22 = .int .i64 n := hk 22 (by decide)
                    have h23 : x.v 23 = .pointer (some ⟨w1.heap.size, 1, none⟩) := hk 23 (by decide)
                    have h24 : x.v 24 = .int .i64 j' := hk 24 (by decide)
                    have h25 : x.v 25 = .int .i64 P := hk 25 (by decide)
                    have h26 : x.v 26 = .int .i64 y := hk 26 (by decide)
                    have h27 : x.v 27 = .int .i64 ((P : Int) + y) := hk 27 (by decide)
                    have h28 : x.v 28 = .pointer (some ⟨g, P + y, none⟩) := hk 28 (by decide)
                    have h29 : x.v 29 = .int .i64 t := hk 29 (by decide)
                    have h30 : x.v 30 = .int .i64 K := hk 30 (by decide)
                    have h31 : x.v 31 = .int .i64 (v - K) := hk 31 (by decide)
                    have h32 : x.v 32 = .int .i64 ((v - K) % p) := hk 32 (by decide)
                    have h33 : x.v 33 = .pointer (some ⟨g, R + y, none⟩) := hk 33 (by decide)
                    clear hk
                    simp only [netE]
                    simp only [List.drop_succ_cons, List.drop_zero, h0, h1, h2, h3, h4, h5, h6, h7, h8, h9, h10, h11, h12, h13, h14, h15, h16, h17, h18, h19, h20, h21, h22, h23, h24, h25, h26, h27, h28, h29, h30, h31, h32, h33]
                    clear h0 h1 h2 h3 h4 h5 h6 h7 h8 h9 h10 h11 h12 h13 h14 h15 h16 h17 h18 h19 h20 h21 h22 h23 h24 h25 h26 h27 h28 h29 h30 h31 h32 h33
                    have S := hSS.out.call HWB.out hb
                    obtain ⟨p1, _, p2⟩ := S.1.cellP hl5 hl6 HR.out
                    have S2 := S.put (J := R + y) (x := (v - K) % p) hBg (S.1.size HWB.out) hRI.out HST.out
                    have HS2 := Lib.hid S2
                    have hni := HNI.out
                    clear S S2 hiv hdj
                    go_wp2
                    go_roundw
                    case rel => exact ⟨y + 1, by omega, by go_num, HS2.out, fun h => absurd h hni⟩
                    case measure => simp [intOf]; omega
                  ·have hyj : y = j' := by omega
                   have S := S.congr (show flat r j' (elJ p n k i y F2) = flat r j' (elI p n k (i + 1) F2) by rw [hyj, elJ_end F2 hin])
                   have hS2 := Lib.hid S
                   clear hin S hyj
                   go_wp2
                   go_roundw
                   case rel => exact ⟨i + 1, by omega, by go_num, hS2.out⟩
                   case measure => simp [intOf]; omega
              ·have hir : i = r := by omega
               subst hir
               have S := S.congr (el_end p n k i j' F2)
               rw [← hfin.out] at S
               have hS8 := S.call HWB.out (below_alloc wr (.cells #[.int .i64 k] 3))
               have hsz8 := hS8.1.size HWB.out
               have HS8 := Lib.hid hS8
               clear S hS8 kb
               (go_wp2_with (at_builtin; refine Hold.stop ?_)); unfold Hold
               refine wpList_appI rfl (.tmp 203) (.tmp 205) rfl W.heap.size _ (.slice PA n pc) ps rfl HS8.out.1.ownP.1 _ _ _ [(k : Int)] rfl rfl (SlI.one wr _ k ⟨by omega, by omega⟩) (by rw [HN.out]; simp; omega) hsz8 ?_
               intro v9 w9 ho9 hg9 hv9
               have S9 := HS8.out.app hsz8 ho9 hg9 hv9
               clear ho9 hg9 hv9
               go_wp2
               go_roundw
               case rel => exact ⟨k + 1, by omega, by go_num, by rw [HRS2.out, List.length_append, HN.out]; go_num, by rw [HRS2.out]; exact S9⟩
               case measure => simp [intOf]; omega
  ·have hend : Hid (rdTo p r f c = (F, ps)) := by
    show _ = _
    by_cases hkc : k < c
    ·have hnr : n = r := by omega
     have h1 := hrest.out (by rw [HPS.out, HN.out, hnr])
     rw [show k + (c - k) = c by omega] at h1
     rw [h1, ← HFF.out, ← HPS.out]
    ·rw [show c = k by omega, ← HFF.out, ← HPS.out]
   have sz := SZ.out
   have sB := S.1.size HWB.out
   have k4 := S.2
   have k3' := KR.out.below S.1.bel (by omega)
   have z0 := k4.cell' (i := 0) rfl
   have z1 := k4.cell' (i := 1) rfl
   have z2 := k4.cell' (i := 2) rfl
   have p0 := k3'.cell' (i := 0) rfl
   have p1 := k3'.cell' (i := 1) rfl
   have p2 := k3'.cell' (i := 2) rfl
   have f2 := k3'.frozen
   have h2 := chg3 wr (w0.heap.size + 1) (.int .i64 (r : Int)) (.int .i64 c) (.slice A L cap)
   have gw : Below w0.heap.size w0 wr := (G2.out).trans (S.1.bel.mono (by omega))
   have gs := gw.size
   have oA : IntsO wr W.heap.size wr.heap.size (.slice A L cap) (flat r c F) := S.1.fam.1 (_, flat r c F) (by simp)
   have oA2 := (oA.chg h2 (.inr (by omega))).wider (lo' := w0.heap.size) (hi' := wr.heap.size) (by omega) (Nat.le_refl _)
   have oP2 := (S.1.ownP.chg h2 (.inr (by omega))).wider (lo' := w0.heap.size) (hi' := wr.heap.size) (by omega) (Nat.le_refl _)
   have fg := gw.trans (h2.below (by omega) gs)
   have OA2 := Lib.hid oA2
   have OP2 := Lib.hid oP2
   have FG := Lib.hid fg
   clear oA oA2 oP2 fg gw h2 k3' k4 S
   by_cases hkc : k < c
   ·have hnr : ¬ n < r := by omega
    clear hgo
    go_wp2
    refine bodyPost_ret (v := .tuple #[.agg #[.int .i64 (r : Int), .int .i64 c, .slice A L cap], .slice PA n pc]) (by simp [results, go_sem, p0, p1, p2]) rfl ⟨_, _, rfl, ?_, ?_, FG.out⟩
    ·refine ⟨_, rfl, ?_, by simp only [I64]; omega, by simp only [I64]; omega⟩
     rw [hend.out]
     exact (OA2.out).wider (Nat.le_refl _) (by simp)
    ·rw [hend.out]
     exact (OP2.out).wider (Nat.le_refl _) (by simp)
   ·clear hgo
    go_wp2
    refine bodyPost_ret (v := .tuple #[.agg #[.int .i64 (r : Int), .int .i64 c, .slice A L cap], .slice PA n pc]) (by simp [results, go_sem, p0, p1, p2]) rfl ⟨_, _, rfl, ?_, ?_, FG.out⟩
    ·refine ⟨_, rfl, ?_, by simp only [I64]; omega, by simp only [I64]; omega⟩
     rw [hend.out]
     exact (OA2.out).wider (Nat.le_refl _) (by simp)
    ·rw [hend.out]
     exact (OP2.out).wider (Nat.le_refl _) (by simp)
end Go.Proofs.YtcmlflppndfdcaaGreat
namespace Go.Proofs.YtcmlflppndfdcaaGreat
open Go.RowKit
set_option maxHeartbeats 6400000 in
set_option maxRecDepth 100000 in
theorem l4Kernel_any (p : Int) (u : Value) (r c : Nat) (f : Nat → Nat → Int) (w0 : World) (hp : isFld p = true) (hr : r ≤ 1000) (hc : c ≤ 1000) (hu : MxR w0 w0.heap.size u (mxF r c f)) (hf : InF p r c f) :
  Calls Tryz.prog 119 #[.int .i64 p, u] w0 fun e w' => ∃ v, e = .returned v ∧ IntssO w' w0.heap.size w'.heap.size v (kerR p r c f) ∧ Below w0.heap.size w0 w' := by
 have hpr := isFld_r hp
 have hu' := hu
 obtain ⟨UA, uc, rfl⟩ := hu.form
 simp only [mxF] at hu hu' ⊢
 rw [flat_length] at hu hu' ⊢
 obtain ⟨UL, hUL⟩ : ∃ n, r * c = n := ⟨_, rfl⟩
 rw [hUL] at hu hu' ⊢
 have HUL := Lib.hid hUL
 clear hUL hu
 obtain ⟨W, hW⟩ : ∃ W, W = w0.alloc (.cells #[.int .i64 r, .int .i64 c, .slice UA UL uc] 50) := ⟨_, rfl⟩
 have g0 : Below w0.heap.size w0 W := by rw [hW]; exact below_alloc _ _
 have kB : Blk W w0.heap.size 50 #[.int .i64 r, .int .i64 c, .slice UA UL uc] := by rw [hW]; exact Blk.new _ _ _
 have HU := Lib.hid (MxR.next g0 hu')
 have HF := Lib.hid hf
 have HP := Lib.hid hp
 have sW : W.heap.size = w0.heap.size + 1 := by rw [hW]; simp
 have SW := Lib.hid sW
 have c0 := kB.cell' (i := 0) rfl
 have c1 := kB.cell' (i := 1) rfl
 have c2 := kB.cell' (i := 2) rfl
 clear hu' hf hp sW
 go_enter Tryz.func119, Tryz.ntmps119
 go_wp2_with fail
 rw [← hW]; clear hW
 refine (l4Reduce_any p _ r c f _ HP.out hr hc HU.out HF.out).mono ?_; rintro e w1 ⟨m, v, rfl, hM, hI, hb1⟩
 have HPS := Lib.hid (rd_ps HP.out hpr.1 HF.out)
 have HG := Lib.hid (inF_to hpr.1 HF.out c)
 have hpl := rdTo_len p r f c
 have HK := Lib.hid (show kerR p r c f = kerM p c (rdTo p r f c).1 (rdTo p r f c).2 (freeV (rdTo p r f c).2 c) from rfl)
 obtain ⟨g, hg⟩ : ∃ g, (rdTo p r f c).1 = g := ⟨_, rfl⟩
 obtain ⟨ps, hps⟩ : ∃ ps, (rdTo p r f c).2 = ps := ⟨_, rfl⟩
 rw [hg] at hM HG HK
 rw [hps] at hI HPS hpl HK
 clear hg hps
 obtain ⟨MA, mc, em⟩ := hM.form
 obtain ⟨PA, pc, ev⟩ := hI.form
 subst em ev
 simp only [mxF] at hM ⊢
 rw [flat_length] at hM ⊢
 rw [HUL.out] at hM ⊢
 obtain ⟨pn, hpn⟩ : ∃ n, ps.length = n := ⟨_, rfl⟩
 rw [hpn] at hI hpl ⊢
 have HPN := Lib.hid hpn
 clear hpn c0 c1 c2
 obtain ⟨W2, hW2⟩ : ∃ u, w1.alloc (.cells #[.int .i64 r, .int .i64 c, .slice MA UL mc] 50) = u := ⟨_, rfl⟩
 have ga : Below w1.heap.size w1 W2 := by rw [← hW2]; exact below_alloc _ _
 have kM : Blk W2 w1.heap.size 50 #[.int .i64 r, .int .i64 c, .slice MA UL mc] := by rw [← hW2]; exact Blk.new _ _ _
 have g12 := bthen hb1 ga
 have s12 := g12.size
 have sa : W2.heap.size = w1.heap.size + 1 := by rw [← hW2]; simp
 obtain ⟨W3, hW3⟩ : ∃ u, W2.alloc (.cells #[] 22) = u := ⟨_, rfl⟩
 have gb : Below W2.heap.size W2 W3 := by rw [← hW3]; exact below_alloc _ _
 have hO3 : IntssO W3 W2.heap.size W3.heap.size (.slice (some ⟨W2.heap.size, 0, none⟩) 0 0) (kerM p c g ps (freeV ps 0)) := by rw [← hW3]; exact IntssO.made0 _ (Nat.le_refl _)
 have HM2 := Lib.hid (hM.below ga).rd
 have HI2 := Lib.hid (hI.below ga).rd
 have G2 := Lib.hid (bthen g0 g12)
 have sb := gb.size
 have lM := kM.lt
 clear hM hI ga hb1 g12 g0 kB
 go_wp2
 clear hW2 hW3
 go_loopw [7, 8] (fun out i wr => ∃ (k : Nat) (OA : Option Addr) (on oc : Nat), k ≤ c ∧ i = .int .i64 k ∧ out = .slice OA on oc ∧ IntssO wr W2.heap.size wr.heap.size (.slice OA on oc) (kerM p c g ps (freeV ps k)) ∧ Below W2.heap.size W2 wr) (fun _ i _ => c - (intOf i).toNat)
 case atStart => exact ⟨0, _, _, _, Nat.zero_le _, rfl, rfl, by have := hO3; rw [sa] at this ⊢; exact this, gb⟩
 case round =>
  clear hO3 gb
  obtain ⟨k, OA, on, oc, hk, rfl, rfl, hO, hb⟩ := hrel
  have s3 := hb.size
  have kMr := kM.call hb
  have m1 := kMr.cell' (i := 1) rfl
  by_cases hlt : k < c
  ·have HIr := Lib.hid (SlI.next hb HI2.out)
   have HB := Lib.hid hb
   have HO := Lib.hid hO
   clear hb hO kMr
   go_wp2_with fail
   refine (l4Has_any _ ps k _ HIr.out).mono ?_; rintro e w4 ⟨rfl, hb4⟩
   have hB4 := HB.out.trans (hb4.mono s3)
   have hO4 := (HO.out.below hb4).wider (Nat.le_refl _) hb4.size
   have s4 := hB4.size
   rcases hd : decide ((k : Int) ∈ ps) with _ | _
   ·have HFY := Lib.hid (freeV_yes hd)
    have kM4 := kM.call hB4
    have m1' := kM4.cell' (i := 1) rfl
    have hmkX := run_mkI w4 (n := c) (by omega)
    obtain ⟨X, hX⟩ : ∃ u, w4.alloc (.cells (mkCells (.int .i64 0) c) 3) = u := ⟨_, rfl⟩
    have bX : Below w4.heap.size w4 X := by rw [← hX]; exact below_alloc _ _
    have rX : IntsO X w4.heap.size X.heap.size (.slice (some ⟨w4.heap.size, 0, none⟩) c c) (List.replicate c 0) := by rw [← hX]; exact IntsO.of_own (OwnI.made0 (Nat.le_refl _) (by omega))
    rw [hX] at hmkX
    obtain ⟨G, hG⟩ : ∃ z, w4.heap.size = z := ⟨_, rfl⟩
    have cX := (rX.1.cellG (j := k) (by simp; omega)).1
    have fX := rX.1.frozenG k
    have rY := rX.put (j := k) (x := 1) (by unfold I64; omega)
    rw [kvG_0 p g ps] at rY
    obtain ⟨Y, hY⟩ : ∃ u, X.setCell ⟨w4.heap.size, k, none⟩ (.int .i64 1) = u := ⟨_, rfl⟩
    have hcY : Chg G (G + 1) X Y := by rw [← hY, hG]; exact chg_set (Nat.le_refl _) (Nat.lt_succ_self _)
    have sX : X.heap.size = G + 1 := by rw [← hX, ← hG]; simp
    have hs3G : W2.heap.size ≤ G := by omega
    have bY : Below w4.heap.size w4 Y := bX.trans (hcY.below (by omega) (by omega))
    rw [hY, hG, sX] at rY
    have BY := Lib.hid (hB4.trans (bY.mono (by omega)))
    have HO := Lib.hid ((hO4.below bX).chg hcY (.inl (by omega)))
    rw [hG] at HO
    have sY : G + 1 ≤ Y.heap.size := by have := hcY.size; omega
    have RY := Lib.hid rY
    clear rX rY bX hcY bY sX hO4 hB4 hb4 kM4 hd HIr
    rw [hG] at hmkX cX fX hY
    go_wp2
    clear hX hY cX fX hmkX m1 m1' hG
    go_loopw [10] (fun i wr => ∃ j : Nat, j ≤ pn ∧ i = .int .i64 j ∧ Below W2.heap.size W2 wr ∧ IntssO wr W2.heap.size G (.slice OA on oc) (kerM p c g ps (freeV ps k)) ∧ IntsO wr G (G + 1) (.slice (some ⟨G, 0, none⟩) c c) (rowF c (kvG p g ps k j)) ∧ G + 1 ≤ wr.heap.size) (fun i _ => pn - (intOf i).toNat)
    case atStart => exact ⟨0, Nat.zero_le _, rfl, BY.out, HO.out, RY.out, sY⟩
    case round =>
     clear BY HO RY sY s4 s3
     obtain ⟨j, hj, rfl, hb, hO, hR, hs⟩ := hrel
     have s4 := hb.size
     by_cases hjl : j < pn
     ·obtain ⟨bp, op, x, ep, hbp, HXP, p1, _⟩ := SlI.atM (k := j) HI2.out HPN.out hjl
      subst ep
      obtain ⟨pk, rfl, hpk⟩ := HPS.out j x HXP.out
      have hgr := HG.out j k (by omega) hlt
      have hgm := emod_rng (p := p) (x := - g j k) hpr.1
      obtain ⟨P, hP⟩ : ∃ P, P = j * c := ⟨_, rfl⟩
      have hPw := Lib.hid (ixP (i := j) (k := k) (by omega) hlt hr hc hP)
      obtain ⟨d1, d2, d3⟩ := rowP (i := j) (k := k) (r := r) (c := c) (by omega) hlt hr hc hP
      rw [HUL.out] at d1 d2 d3
      obtain ⟨gv, hgv⟩ : ∃ z, g j k = z := ⟨_, rfl⟩
      have hU : (flat r c g)[P + k]? = some gv := by rw [hP, ← hgv]; exact flat_get g (by omega) hlt
      obtain ⟨_, _, ema, hMs, _, _, hml⟩ := HM2.out.open_
      simp only [Value.agg.injEq, Array.mk.injEq, List.cons.injEq, and_true, true_and, Value.slice.injEq] at ema
      obtain ⟨eMA, eUL, emc⟩ := ema
      subst eMA emc
      rw [← eUL] at hMs
      clear eUL
      obtain ⟨bm, om, x', em, hbm, HXM, x1, _⟩ := SlI.atM (k := P + k) hMs (by simp only [flat_length]; exact HUL.out) d1
      subst em
      have hx' := HXM.out
      simp only at hx'
      rw [hU] at hx'
      injection hx' with hx'
      subst hx'
      rw [hgv] at hgr hgm
      have hput := kvG_put (p := p) (g := g) (k := k) (c := c) HXP.out
      rw [hgv] at hput
      have HPUT := Lib.hid hput
      have HB := Lib.hid hb
      have HO := Lib.hid hO
      have HR := Lib.hid hR
      have P1 := Lib.hid p1
      have X1 := Lib.hid x1
      have hgI : Hid (I64 (- gv)) := by show _ ∧ _; omega
      have hgI2 : Hid (I64 ((- gv) % p)) := by show _ ∧ _; omega
      clear hb hO hR p1 x1 hput hMs hml hU HXM hgv hP
      go_wp2
      refine wp_region_net (by kernel_rfl) [.eq (.slice (some ⟨G, 0, none⟩) c c), .eq (.slice (some ⟨bp, op, none⟩) pn pc), .eq (.int .i64 j), .eq (.pointer (some ⟨bp, op + j, none⟩)), .eq (.int .i64 pk), .eq (.int .i64 p), .eq (.pointer (some ⟨w1.heap.size, 2, none⟩)), .eq (.slice (some ⟨bm, om, none⟩) UL mc), .eq (.int .i64 j), .eq (.pointer (some ⟨w1.heap.size, 1, none⟩)), .eq (.int .i64 c), .eq (.int .i64 P), .eq (.int .i64 k), .eq (.int .i64 ((P : Int) + k)), .eq (.pointer (some ⟨bm, om + (P + k), none⟩)), .eq (.int .i64 gv), .eq (.int .i64 (- gv)), .eq (.int .i64 ((- gv) % p)), .eq (.pointer (some ⟨G, pk, none⟩))] [[], [], [], [1, 2], [1, 2, 3], [], [], [6], [], [], [9], [8, 9, 10], [], [8, 9, 10, 11, 12], [6, 7, 8, 9, 10, 11, 12, 13], [6, 7, 8, 9, 10, 11, 12, 13, 14], [6, 7, 8, 9, 10, 11, 12, 13, 14, 15], [5, 6, 7, 8, 9, 10, 11, 12, 13, 14, 15, 16], [0, 1, 2, 3, 4, 5, 6, 7, 8, 9, 10, 11, 12, 13, 14, 15, 16, 17], [0, 1, 2, 3, 4, 5, 6, 7, 8, 9, 10, 11, 12, 13, 14, 15, 16, 17, 18]] 19 (by kernel_rfl) ⟨trivial, trivial, trivial, trivial, trivial, trivial, trivial, trivial, trivial, trivial, trivial, trivial, trivial, trivial, trivial, trivial, trivial, trivial, trivial, trivial⟩ ⟨?_, ?_, ?_, ?_, ?_, ?_, ?_, ?_, ?_, ?_, ?_, ?_, ?_, ?_, ?_, ?_, ?_, ?_, ?_, trivial⟩ ?_
      ·intro x w hb hk Q' hQ
       clear hk
       simp only [netE] at hQ ⊢
       go_wp2
       exact hQ _ _ (Below.refl _ _) rfl
      ·intro x w hb hk Q' hQ
       clear hk
       simp only [netE] at hQ ⊢
       go_wp2
       exact hQ _ _ (Below.refl _ _) rfl
      ·intro x w hb hk Q' hQ
       clear hk
       simp only [netE] at hQ ⊢
       go_wp2
       exact hQ _ _ (Below.refl _ _) rfl
      ·intro x w hb hk Q' hQ
       have h1 : x.v 1 = .slice (some ⟨bp, op, none⟩) pn pc := (hk 1 (by decide)).1
       have h2 : x.v 2 = .int .i64 j := (hk 2 (by decide)).1
       clear hk
       simp only [netE] at hQ ⊢
       simp only [h1, h2] at hQ ⊢
       clear h1 h2
       go_wp2
       exact hQ _ _ (Below.refl _ _) rfl
      ·intro x w hb hk Q' hQ
       have h3 : x.v 3 = .pointer (some ⟨bp, op + j, none⟩) := (hk 3 (by decide)).1
       clear hk
       simp only [netE] at hQ ⊢
       simp only [h3] at hQ ⊢
       clear h3
       have z := bcell (HB.out.trans (hb.mono s4)) hbp P1.out
       go_wp2
       exact hQ _ _ (Below.refl _ _) rfl
      ·intro x w hb hk Q' hQ
       clear hk
       simp only [netE] at hQ ⊢
       go_wp2
       exact hQ _ _ (Below.refl _ _) rfl
      ·intro x w hb hk Q' hQ
       clear hk
       simp only [netE] at hQ ⊢
       go_wp2
       exact hQ _ _ (Below.refl _ _) rfl
      ·intro x w hb hk Q' hQ
       have h6 : x.v 6 = .pointer (some ⟨w1.heap.size, 2, none⟩) := (hk 6 (by decide)).1
       clear hk
       simp only [netE] at hQ ⊢
       simp only [h6] at hQ ⊢
       clear h6
       have z := (kM.call (HB.out.trans (hb.mono s4))).cell' (i := 2) rfl
       go_wp2
       exact hQ _ _ (Below.refl _ _) rfl
      ·intro x w hb hk Q' hQ
       clear hk
       simp only [netE] at hQ ⊢
       go_wp2
       exact hQ _ _ (Below.refl _ _) rfl
      ·intro x w hb hk Q' hQ
       clear hk
       simp only [netE] at hQ ⊢
       go_wp2
       exact hQ _ _ (Below.refl _ _) rfl
      ·intro x w hb hk Q' hQ
       have h9 : x.v 9 = .pointer (some ⟨w1.heap.size, 1, none⟩) := (hk 9 (by decide)).1
       clear hk
       simp only [netE] at hQ ⊢
       simp only [h9] at hQ ⊢
       clear h9
       have z := (kM.call (HB.out.trans (hb.mono s4))).cell' (i := 1) rfl
       go_wp2
       exact hQ _ _ (Below.refl _ _) rfl
      ·intro x w hb hk Q' hQ
       have h8 : x.v 8 = .int .i64 j := (hk 8 (by decide)).1
       have h10 : x.v 10 = .int .i64 c := (hk 10 (by decide)).1
       clear hk
       simp only [netE] at hQ ⊢
       simp only [h8, h10] at hQ ⊢
       clear h8 h10
       go_wp2
       rw [hPw.out]
       exact hQ _ _ (Below.refl _ _) rfl
      ·intro x w hb hk Q' hQ
       clear hk
       simp only [netE] at hQ ⊢
       go_wp2
       exact hQ _ _ (Below.refl _ _) rfl
      ·intro x w hb hk Q' hQ
       have h11 : x.v 11 = .int .i64 P := (hk 11 (by decide)).1
       have h12 : x.v 12 = .int .i64 k := (hk 12 (by decide)).1
       clear hk
       simp only [netE] at hQ ⊢
       simp only [h11, h12] at hQ ⊢
       clear h11 h12
       go_wp2
       exact hQ (.int .i64 ((P : Int) + k)) _ (Below.refl _ _) rfl
      ·intro x w hb hk Q' hQ
       have h7 : x.v 7 = .slice (some ⟨bm, om, none⟩) UL mc := (hk 7 (by decide)).1
       have h13 : x.v 13 = .int .i64 ((P : Int) + k) := (hk 13 (by decide)).1
       clear hk
       simp only [netE] at hQ ⊢
       simp only [h7, h13] at hQ ⊢
       clear h7 h13
       go_wp2
       exact hQ (.pointer (some ⟨bm, om + (P + k), none⟩)) _ (Below.refl _ _) rfl
      ·intro x w hb hk Q' hQ
       have h14 : x.v 14 = .pointer (some ⟨bm, om + (P + k), none⟩) := (hk 14 (by decide)).1
       clear hk
       simp only [netE] at hQ ⊢
       simp only [h14] at hQ ⊢
       clear h14
       have z := bcell (HB.out.trans (hb.mono s4)) hbm X1.out
       go_wp2
       exact hQ _ _ (Below.refl _ _) rfl
      ·intro x w hb hk Q' hQ
       have h15 : x.v 15 = .int .i64 gv := (hk 15 (by decide)).1
       clear hk
       simp only [netE] at hQ ⊢
       simp only [h15] at hQ ⊢
       clear h15
       go_wp2
       exact hQ _ _ (Below.refl _ _) rfl
      ·intro x w hb hk Q' hQ
       have h5 : x.v 5 = .int .i64 p := (hk 5 (by decide)).1
       have h16 : x.v 16 = .int .i64 (- gv) := (hk 16 (by decide)).1
       clear hk
       simp only [netE] at hQ ⊢
       simp only [h5, h16] at hQ ⊢
       clear h5 h16
       go_wp2_with fail
       refine (l2Mod_any p (- gv) _ hpr hgI.out).mono ?_; rintro e w5 ⟨rfl, hww⟩; replace hww := hww.symm; subst hww
       go_wp2
       exact hQ (.int .i64 ((- gv) % p)) _ (Below.refl _ _) rfl
      ·intro x w hb hk Q' hQ
       have h0 : x.v 0 = .slice (some ⟨G, 0, none⟩) c c := (hk 0 (by decide)).1
       have h4 : x.v 4 = .int .i64 pk := (hk 4 (by decide)).1
       clear hk
       simp only [netE] at hQ ⊢
       simp only [h0, h4] at hQ ⊢
       clear h0 h4
       go_wp2
       exact hQ _ _ (Below.refl _ _) rfl
      ·intro x w hb hk hiv hdj
       have h0 : x.v 0 = .slice (some ⟨G, 0, none⟩) c c := hk 0 (by decide)
       have h1 : x.v 1 = .slice (some ⟨bp, op, none⟩) pn pc := hk 1 (by decide)
       have h2 : x.v 2 = .int .i64 j := hk 2 (by decide)
       have h3 : x.v 3 = .pointer (some ⟨bp, op + j, none⟩) := hk 3 (by decide)
       have h4 : x.v 4 = .int .i64 pk := hk 4 (by decide)
       have h5 : x.v 5 = .int .i64 p := hk 5 (by decide)
       have h6 : x.v 6 = .pointer (some ⟨w1.heap.size, 2, none⟩) := hk 6 (by decide)
       have h7 : x.v 7 = .slice (some ⟨bm, om, none⟩) UL mc := hk 7 (by decide)
       have h8 : x.v 8 = .int .i64 j := hk 8 (by decide)
       have h9 : x.v 9 = .pointer (some ⟨w1.heap.size, 1, none⟩) := hk 9 (by decide)
       have h10 : x.v 10 = .int .i64 c := hk 10 (by decide)
       have h11 : x.v 11 = .int .i64 P := hk 11 (by decide)
       have h12 : x.v 12 = .int .i64 k := hk 12 (by decide)
       have h13 : x.v 13 = .int .i64 ((P : Int) + k) := hk 13 (by decide)
       have h14 : x.v 14 = .pointer (some ⟨bm, om + (P + k), none⟩) := hk 14 (by decide)
       have h15 : x.v 15 = .int .i64 gv := hk 15 (by decide)
       have h16 : x.v 16 = .int .i64 (- gv) := hk 16 (by decide)
       have h17 : x.v 17 = .int .i64 ((- gv) % p) := hk 17 (by decide)
       have h18 : x.v 18 = .pointer (some ⟨G, pk, none⟩) := hk 18 (by decide)
       clear hk
       simp only [netE]
       simp only [List.drop_succ_cons, List.drop_zero, h0, h1, h2, h3, h4, h5, h6, h7, h8, h9, h10, h11, h12, h13, h14, h15, h16, h17, h18]
       clear h0 h1 h2 h3 h4 h5 h6 h7 h8 h9 h10 h11 h12 h13 h14 h15 h16 h17 h18
       have hR6 := HR.out.below hb
       have cX := (hR6.1.cellG (j := pk) (by rw [rowF_length]; exact hpk)).1
       have fX := hR6.1.frozenG pk
       have rY := hR6.put (j := pk) (x := (- gv) % p) hgI2.out
       rw [HPUT.out] at rY
       have RY := Lib.hid rY
       obtain ⟨Y, hY⟩ : ∃ u, w.setCell ⟨G, pk, none⟩ (.int .i64 ((- gv) % p)) = u := ⟨_, rfl⟩
       have hcY : Chg G (G + 1) w Y := by rw [← hY]; exact chg_set (Nat.le_refl _) (Nat.lt_succ_self _)
       have s6 := hb.size
       have sY := hcY.size
       rw [hY] at RY
       have BY := Lib.hid ((HB.out.trans (hb.mono s4)).trans (hcY.below hs3G (by omega)))
       have HO6 := Lib.hid ((HO.out.below hb).chg hcY (.inl (by omega)))
       clear rY hcY hR6 hiv hdj
       go_wp2
       clear hY cX fX
       go_roundw
       case rel => exact ⟨j + 1, by omega, by go_num, BY.out, HO6.out, RY.out, by omega⟩
       case measure => simp [intOf]; omega
     ·obtain rfl : j = pn := by omega
      rw [← HPN.out] at hR
      have hn1 := kerM_snoc p c g ps (freeV ps k) k
      rw [← HFY.out] at hn1
      have HN1 := Lib.hid hn1
      have hfl := freeV_length ps k
      obtain ⟨Z, hZ⟩ : ∃ Z, wr.alloc (.cells #[.slice (some ⟨G, 0, none⟩) c c] 22) = Z := ⟨_, rfl⟩
      obtain ⟨gz, hgz⟩ : ∃ z, wr.heap.size = z := ⟨_, rfl⟩
      have bZ : Below wr.heap.size wr Z := by rw [← hZ]; exact below_alloc _ _
      have kZ : Blk Z gz 22 #[.slice (some ⟨G, 0, none⟩) c c] := by rw [← hZ, ← hgz]; exact Blk.new _ _ _
      have HOZ := Lib.hid (hO.below bZ)
      have HRZ := Lib.hid (hR.below bZ)
      have HBZ := Lib.hid (hb.trans (bZ.mono s4))
      have sZ := bZ.size
      have C0 := Lib.hid (kZ.cell' (i := 0) rfl)
      clear hO hR hb hn1 bZ kZ
      (go_wp2_with (at_builtin; refine Hold.stop ?_)); unfold Hold
      clear hZ hgz
      refine wpList_appR (by rfl) (.tmp 58) (.tmp 60) (by rfl) W2.heap.size G G (G + 1) _ _ _ (by rfl) HOZ.out (some ⟨gz, 0, none⟩) 1 _ (by rfl) ⟨_, _, rfl, C0.out⟩ HRZ.out (by omega) (by omega) (by omega) (by rw [kerM_length]; omega) (by omega) (by omega) ?_
      intro v' w' h1 h2 h3
      rw [← HN1.out] at h1
      obtain ⟨A', c', ev', _⟩ := h1.form2
      subst ev'
      have H1 := Lib.hid h1
      have H2 := Lib.hid (HBZ.out.trans h2)
      clear h1 h2 h3
      go_wp2
      go_roundw
      case rel => exact ⟨k + 1, A', _, c', by omega, by go_num, rfl, H1.out, H2.out⟩
      case measure => simp [intOf]; omega
   ·have HFN := Lib.hid (freeV_no hd)
    have HO4 := Lib.hid hO4
    have HB4 := Lib.hid hB4
    clear hd hO4 hB4 hb4 m1
    go_wp2
    go_roundw
    case rel => exact ⟨k + 1, OA, on, oc, by omega, by go_num, rfl, by rw [HFN.out]; exact HO4.out, HB4.out⟩
    case measure => simp [intOf]; omega
  ·obtain rfl : k = c := by omega
   have HOF := Lib.hid hO
   have GF := Lib.hid (bthen G2.out hb)
   have sz := SW.out
   have s5 := s12
   clear hO hb
   go_wp2
   go_ret
   exact ⟨_, rfl, by rw [HK.out]; exact HOF.out.wider (by omega) (Nat.le_refl _), GF.out⟩
end Go.Proofs.YtcmlflppndfdcaaGreat
