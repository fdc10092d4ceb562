/- FnExactReflectSource: for every argument the program's function returns what the reference's returns. Part 14 of 14 of the proof: RsrZ, LawReflectSource, LawReflectSourceRow. No condition. -/
import Derived.Test.YtaefpblpfjhgoaaGreatBReflectSource13
/- Sizes of reflected representations. -/
namespace Go.Proofs.YtaefpblpfjhgoaaGreat
set_option linter.unusedVariables false
set_option linter.unusedSimpArgs false
open Go.RowKit

theorem rsrP_size (y : Rp) (v : Int) : (rsrP y v).1.size ≤ 1000 := by
  unfold rsrP
  split
  · rename_i hok
    obtain ⟨hy, hs⟩ : isRep y = true ∧ endV y.q.t y.q v = true := by simpa [outOk] using hok
    obtain ⟨n, D, env, hnl, hdn, hdA, hD4, hn5⟩ := vert_at hy hs
    have hN := outS_le (v := v) (C := D) hy _ (Nat.le_refl _)
    have hsn : srN y v = (outS y v D y.q.f.length).1 := by rw [srN, hdA, Int.toNat_natCast]
    have hkl : srK y v ≤ srN y v := freeV_length _ _
    have hn6 : y.q.f.length ≤ 6 := (isQ_t.1 (areDims_t.1 (isRep_t.1 hy).2.1).1).2.2.1
    unfold rfP
    split
    · have hdl : y.d.length ≤ 5 := by
        have h1 := (areDims_t.1 (isRep_t.1 hy).2.1).2.1
        have h2 := (isQ_t.1 (areDims_t.1 (isRep_t.1 hy).2.1).1).1
        omega
      have hm : ∀ m ∈ (rfK y v (srK y v) (gSrc y v (srK y v) (srF y v)) y.q.f.length).m, m.a.length ≤ 96 := by
        intro m hm
        obtain ⟨i, hi, rfl⟩ := msF_mem hm
        obtain ⟨m, nf, nt, yf, yt, em, ef, et, df, dt, eM, _, b1, b2, _⟩ := isRep_at hy hi
        obtain ⟨o1, o2⟩ := oth_at (v := v) ef et df dt
        unfold rfM
        split
        · rename_i h
          have ho : othN y v i ≤ 4 := by
            have := h.2
            rw [tch_of ef et] at this
            simp only [Bool.or_eq_true, decide_eq_true_eq] at this
            rcases this with h | h
            · rw [o2 h]; exact b2
            · rw [o1 h]; exact b1
          simp only [gSrc, mxF, flat_length]
          exact Nat.le_trans (Nat.mul_le_mul (show srK y v ≤ 24 by omega) ho) (by decide)
        · rw [List.getD_eq_getElem?_getD, em, eM]
          simp only [Option.getD_some, mxF, flat_length]
          exact Nat.le_trans (Nat.mul_le_mul b2 b1) (by decide)
      have h5 := totA_le (ms := (rfK y v (srK y v) (gSrc y v (srK y v) (srF y v)) y.q.f.length).m) (n := 96) hm
      have hl : (rfK y v (srK y v) (gSrc y v (srK y v) (srF y v)) y.q.f.length).m.length = y.q.f.length := msF_length _ _
      have hf : (rfK y v (srK y v) (gSrc y v (srK y v) (srF y v)) y.q.f.length).q.f.length = y.q.f.length := rowF_length _ _
      have ht : (rfK y v (srK y v) (gSrc y v (srK y v) (srF y v)) y.q.f.length).q.t.length = y.q.f.length := rowF_length _ _
      have hd : (rfK y v (srK y v) (gSrc y v (srK y v) (srF y v)) y.q.f.length).d.length = y.d.length := by simp [rfK]
      simp only [Rp.size, Qv.size, szM]
      rw [hf, ht, hd]
      try rw [hl]
      rw [hl] at h5
      omega
    · decide
  · decide
end Go.Proofs.YtaefpblpfjhgoaaGreat

/- The walk of FnExactReflectSource, printed by program (wip/law.py) out of the contracts of what it calls. -/
namespace Go.Proofs.YtaefpblpfjhgoaaGreat
set_option linter.unusedVariables false
set_option linter.unusedSimpArgs false
open Go.RowKit

set_option maxHeartbeats 1600000 in
set_option maxRecDepth 100000 in
theorem lawReflectSource_any (ur : Value) (r : Rp) (v : Int) (w : World) (hr : RpR w w.heap.size ur r) (rng_v : I64 v) :
    Calls Tryz.prog 3 #[ur, .int .i64 v] w fun e w' => e = .returned (.bool true) ∧ Below w.heap.size w w' := by
  obtain ⟨Aur, aur, Cur, cur, Eur, eur, Hur, hur, er⟩ := RpR.form hr
  subst er
  have lr := RpR.lens hr
  have zr := rsrP_size r v
  have g0 := Below.refl w.heap.size w
  by_cases z0 : (1048576 : Int) < (r.size : Nat)
  · have y0 : szLeft (1048576 : Int) (r.size) = -1 := by rw [szLeft, if_pos z0]
    go_enter Tryz.func3, Tryz.ntmps3
    go_wp2_with fail
    obtain ⟨W2, e3⟩ : ∃ W, W = w.alloc (.cells #[.int .i64 (r).p, .int .i64 (r).q.v, .slice Aur (r).q.f.length aur, .slice Cur (r).q.t.length cur, .slice Eur (r).d.length eur, .slice Hur (r).m.length hur] 27) := ⟨_, rfl⟩
    rw [← e3]
    have b4 : Below w.heap.size w W2 := by rw [e3]; exact below_alloc _ _
    have k5 : Blk W2 w.heap.size 27 #[.int .i64 (r).p, .int .i64 (r).q.v, .slice Aur (r).q.f.length aur, .slice Cur (r).q.t.length cur, .slice Eur (r).d.length eur, .slice Hur (r).m.length hur] := by rw [e3]; exact Blk.new _ _ _
    have s6 : w.heap.size < W2.heap.size := by rw [e3]; simp
    clear e3
    have h7 := RpR.below (b4.mono (by omega)) hr
    have s8 : w.heap.size ≤ W2.heap.size := b4.size
    have g9 := bthen g0 b4
    clear hr g0 b4
    have c10 := k5.cell' (i := 0) rfl
    have c11 := k5.cell' (i := 1) rfl
    have c12 := k5.cell' (i := 2) rfl
    have c13 := k5.cell' (i := 3) rfl
    have c14 := k5.cell' (i := 4) rfl
    have c15 := k5.cell' (i := 5) rfl
    refine (szRep_any _ _ (1048576 : Int) _ (RpR.more (by omega) h7) (by omega) (by omega)).mono ?_; rintro e W16 ⟨rfl, b1⟩
    have h17 := RpR.below (b1.mono (by omega)) h7
    have k18 := k5.call b1
    have s19 : W2.heap.size ≤ W16.heap.size := b1.size
    have g20 := bthen g9 b1
    clear h7 k5 g9 b1 c10 c11 c12 c13 c14 c15
    have c21 := k18.cell' (i := 0) rfl
    have c22 := k18.cell' (i := 1) rfl
    have c23 := k18.cell' (i := 2) rfl
    have c24 := k18.cell' (i := 3) rfl
    have c25 := k18.cell' (i := 4) rfl
    have c26 := k18.cell' (i := 5) rfl
    go_wp2
    go_ret
    exact ⟨rfl, g20⟩
  have y0 : szLeft (1048576 : Int) (r.size) = (1048576 : Int) - (r.size : Nat) := by rw [szLeft, if_neg z0]
  have x0 : ¬ ((1048576 : Int) - ((r.size : Nat) : Int) < 0) := by omega
  go_enter Tryz.func3, Tryz.ntmps3
  go_wp2_with fail
  obtain ⟨W28, e29⟩ : ∃ W, W = w.alloc (.cells #[.int .i64 (r).p, .int .i64 (r).q.v, .slice Aur (r).q.f.length aur, .slice Cur (r).q.t.length cur, .slice Eur (r).d.length eur, .slice Hur (r).m.length hur] 27) := ⟨_, rfl⟩
  rw [← e29]
  have b30 : Below w.heap.size w W28 := by rw [e29]; exact below_alloc _ _
  have k31 : Blk W28 w.heap.size 27 #[.int .i64 (r).p, .int .i64 (r).q.v, .slice Aur (r).q.f.length aur, .slice Cur (r).q.t.length cur, .slice Eur (r).d.length eur, .slice Hur (r).m.length hur] := by rw [e29]; exact Blk.new _ _ _
  have s32 : w.heap.size < W28.heap.size := by rw [e29]; simp
  clear e29
  have h33 := RpR.below (b30.mono (by omega)) hr
  have s34 : w.heap.size ≤ W28.heap.size := b30.size
  have g35 := bthen g0 b30
  clear hr g0 b30
  have c36 := k31.cell' (i := 0) rfl
  have c37 := k31.cell' (i := 1) rfl
  have c38 := k31.cell' (i := 2) rfl
  have c39 := k31.cell' (i := 3) rfl
  have c40 := k31.cell' (i := 4) rfl
  have c41 := k31.cell' (i := 5) rfl
  refine (szRep_any _ _ (1048576 : Int) _ (RpR.more (by omega) h33) (by omega) (by omega)).mono ?_; rintro e W42 ⟨rfl, b27⟩
  have h43 := RpR.below (b27.mono (by omega)) h33
  have k44 := k31.call b27
  have s45 : W28.heap.size ≤ W42.heap.size := b27.size
  have g46 := bthen g35 b27
  clear h33 k31 g35 b27 c36 c37 c38 c39 c40 c41
  have c47 := k44.cell' (i := 0) rfl
  have c48 := k44.cell' (i := 1) rfl
  have c49 := k44.cell' (i := 2) rfl
  have c50 := k44.cell' (i := 3) rfl
  have c51 := k44.cell' (i := 4) rfl
  have c52 := k44.cell' (i := 5) rfl
  go_wp2_with fail
  refine (rep_to _ _ _ (RpR.more (by omega) h43) (by omega)).mono ?_; rintro e W56 ⟨v53, rfl, h54, b55⟩
  have h57 := RpR.below (b55.mono (by omega)) h43
  have k58 := k44.call b55
  have s59 : W42.heap.size ≤ W56.heap.size := b55.size
  have g60 := bthen g46 b55
  clear h43 k44 g46 b55 c47 c48 c49 c50 c51 c52
  have c61 := k58.cell' (i := 0) rfl
  have c62 := k58.cell' (i := 1) rfl
  have c63 := k58.cell' (i := 2) rfl
  have c64 := k58.cell' (i := 3) rfl
  have c65 := k58.cell' (i := 4) rfl
  have c66 := k58.cell' (i := 5) rfl
  go_wp2_with fail
  refine (specReflectSource_any _ _ _ _ h54.rd rng_v).mono ?_; rintro e W70 ⟨r67, rfl, h68, b69⟩
  have h71 := RpR.below (b69.mono (by omega)) h57
  have h72 := h54.below b69
  have k73 := k58.call b69
  have s74 : W56.heap.size ≤ W70.heap.size := b69.size
  have g75 := bthen g60 b69
  clear h57 h54 k58 g60 b69 c61 c62 c63 c64 c65 c66
  have c76 := k73.cell' (i := 0) rfl
  have c77 := k73.cell' (i := 1) rfl
  have c78 := k73.cell' (i := 2) rfl
  have c79 := k73.cell' (i := 3) rfl
  have c80 := k73.cell' (i := 4) rfl
  have c81 := k73.cell' (i := 5) rfl
  clear h72
  obtain ⟨Ax82, ax82, Cx82, cx82, Ex82, ex82, Hx82, hx82, e83⟩ := RpR.form h68
  subst e83
  have c87 := fun o => (k73.alloc o).cell' (i := 0) rfl
  have c88 := fun o => (k73.alloc o).cell' (i := 1) rfl
  have c89 := fun o => (k73.alloc o).cell' (i := 2) rfl
  have c90 := fun o => (k73.alloc o).cell' (i := 3) rfl
  have c91 := fun o => (k73.alloc o).cell' (i := 4) rfl
  have c92 := fun o => (k73.alloc o).cell' (i := 5) rfl
  go_wp2_with fail
  obtain ⟨W93, e94⟩ : ∃ W, W = W70.alloc (.cells #[.int .i64 ((rsrP r v).1).p, .int .i64 ((rsrP r v).1).q.v, .slice Ax82 ((rsrP r v).1).q.f.length ax82, .slice Cx82 ((rsrP r v).1).q.t.length cx82, .slice Ex82 ((rsrP r v).1).d.length ex82, .slice Hx82 ((rsrP r v).1).m.length hx82] 32) := ⟨_, rfl⟩
  rw [← e94]
  have b95 : Below W70.heap.size W70 W93 := by rw [e94]; exact below_alloc _ _
  have k96 : Blk W93 W70.heap.size 32 #[.int .i64 ((rsrP r v).1).p, .int .i64 ((rsrP r v).1).q.v, .slice Ax82 ((rsrP r v).1).q.f.length ax82, .slice Cx82 ((rsrP r v).1).q.t.length cx82, .slice Ex82 ((rsrP r v).1).d.length ex82, .slice Hx82 ((rsrP r v).1).m.length hx82] := by rw [e94]; exact Blk.new _ _ _
  have s97 : W70.heap.size < W93.heap.size := by rw [e94]; simp
  clear e94
  have h98 := RpR.below (b95.mono (by omega)) h71
  have h99 := RpR.below (b95.mono (by omega)) h68
  have k100 := k73.call b95
  have s101 : W70.heap.size ≤ W93.heap.size := b95.size
  have g102 := bthen g75 b95
  clear h71 h68 k73 g75 b95 c76 c77 c78 c79 c80 c81 c87 c88 c89 c90 c91 c92
  have c103 := k100.cell' (i := 0) rfl
  have c104 := k100.cell' (i := 1) rfl
  have c105 := k100.cell' (i := 2) rfl
  have c106 := k100.cell' (i := 3) rfl
  have c107 := k100.cell' (i := 4) rfl
  have c108 := k100.cell' (i := 5) rfl
  have c109 := k96.cell' (i := 0) rfl
  have c110 := k96.cell' (i := 1) rfl
  have c111 := k96.cell' (i := 2) rfl
  have c112 := k96.cell' (i := 3) rfl
  have c113 := k96.cell' (i := 4) rfl
  have c114 := k96.cell' (i := 5) rfl
  refine (rep_to _ _ _ (RpR.more (by omega) h98) (by omega)).mono ?_; rintro e W115 ⟨v84, rfl, h85, b86⟩
  have h116 := RpR.below (b86.mono (by omega)) h98
  have h117 := RpR.below (b86.mono (by omega)) h99
  have k118 := k100.call b86
  have k119 := k96.call b86
  have s120 : W93.heap.size ≤ W115.heap.size := b86.size
  have g121 := bthen g102 b86
  clear h98 h99 k100 k96 g102 b86 c103 c104 c105 c106 c107 c108 c109 c110 c111 c112 c113 c114
  have c122 := k118.cell' (i := 0) rfl
  have c123 := k118.cell' (i := 1) rfl
  have c124 := k118.cell' (i := 2) rfl
  have c125 := k118.cell' (i := 3) rfl
  have c126 := k118.cell' (i := 4) rfl
  have c127 := k118.cell' (i := 5) rfl
  have c128 := k119.cell' (i := 0) rfl
  have c129 := k119.cell' (i := 1) rfl
  have c130 := k119.cell' (i := 2) rfl
  have c131 := k119.cell' (i := 3) rfl
  have c132 := k119.cell' (i := 4) rfl
  have c133 := k119.cell' (i := 5) rfl
  obtain ⟨Ax134, ax134, Cx134, cx134, Ex134, ex134, Hx134, hx134, e135⟩ := h85.form
  subst e135
  have c139 := fun o => (k118.alloc o).cell' (i := 0) rfl
  have c140 := fun o => (k118.alloc o).cell' (i := 1) rfl
  have c141 := fun o => (k118.alloc o).cell' (i := 2) rfl
  have c142 := fun o => (k118.alloc o).cell' (i := 3) rfl
  have c143 := fun o => (k118.alloc o).cell' (i := 4) rfl
  have c144 := fun o => (k118.alloc o).cell' (i := 5) rfl
  have c145 := fun o => (k119.alloc o).cell' (i := 0) rfl
  have c146 := fun o => (k119.alloc o).cell' (i := 1) rfl
  have c147 := fun o => (k119.alloc o).cell' (i := 2) rfl
  have c148 := fun o => (k119.alloc o).cell' (i := 3) rfl
  have c149 := fun o => (k119.alloc o).cell' (i := 4) rfl
  have c150 := fun o => (k119.alloc o).cell' (i := 5) rfl
  go_wp2_with fail
  obtain ⟨W151, e152⟩ : ∃ W, W = W115.alloc (.cells #[.int .i64 (r).p, .int .i64 (r).q.v, .slice Ax134 (r).q.f.length ax134, .slice Cx134 (r).q.t.length cx134, .slice Ex134 (r).d.length ex134, .slice Hx134 (r).m.length hx134] 32) := ⟨_, rfl⟩
  rw [← e152]
  have b153 : Below W115.heap.size W115 W151 := by rw [e152]; exact below_alloc _ _
  have k154 : Blk W151 W115.heap.size 32 #[.int .i64 (r).p, .int .i64 (r).q.v, .slice Ax134 (r).q.f.length ax134, .slice Cx134 (r).q.t.length cx134, .slice Ex134 (r).d.length ex134, .slice Hx134 (r).m.length hx134] := by rw [e152]; exact Blk.new _ _ _
  have s155 : W115.heap.size < W151.heap.size := by rw [e152]; simp
  clear e152
  have h156 := RpR.below (b153.mono (by omega)) h116
  have h157 := RpR.below (b153.mono (by omega)) h117
  have h158 := h85.below b153
  have k159 := k118.call b153
  have k160 := k119.call b153
  have s161 : W115.heap.size ≤ W151.heap.size := b153.size
  have g162 := bthen g121 b153
  clear h116 h117 h85 k118 k119 g121 b153 c122 c123 c124 c125 c126 c127 c128 c129 c130 c131 c132 c133 c139 c140 c141 c142 c143 c144 c145 c146 c147 c148 c149 c150
  have c163 := k159.cell' (i := 0) rfl
  have c164 := k159.cell' (i := 1) rfl
  have c165 := k159.cell' (i := 2) rfl
  have c166 := k159.cell' (i := 3) rfl
  have c167 := k159.cell' (i := 4) rfl
  have c168 := k159.cell' (i := 5) rfl
  have c169 := k160.cell' (i := 0) rfl
  have c170 := k160.cell' (i := 1) rfl
  have c171 := k160.cell' (i := 2) rfl
  have c172 := k160.cell' (i := 3) rfl
  have c173 := k160.cell' (i := 4) rfl
  have c174 := k160.cell' (i := 5) rfl
  have c175 := k154.cell' (i := 0) rfl
  have c176 := k154.cell' (i := 1) rfl
  have c177 := k154.cell' (i := 2) rfl
  have c178 := k154.cell' (i := 3) rfl
  have c179 := k154.cell' (i := 4) rfl
  have c180 := k154.cell' (i := 5) rfl
  refine (implReflectSource_any _ _ _ _ h158.rd rng_v).mono ?_; rintro e W181 ⟨r136, rfl, h137, b138⟩
  have h182 := RpR.below (b138.mono (by omega)) h156
  have h183 := RpR.below (b138.mono (by omega)) h157
  have h184 := h158.below b138
  have k185 := k159.call b138
  have k186 := k160.call b138
  have k187 := k154.call b138
  have s188 : W151.heap.size ≤ W181.heap.size := b138.size
  have g189 := bthen g162 b138
  clear h156 h157 h158 k159 k160 k154 g162 b138 c163 c164 c165 c166 c167 c168 c169 c170 c171 c172 c173 c174 c175 c176 c177 c178 c179 c180
  have c190 := k185.cell' (i := 0) rfl
  have c191 := k185.cell' (i := 1) rfl
  have c192 := k185.cell' (i := 2) rfl
  have c193 := k185.cell' (i := 3) rfl
  have c194 := k185.cell' (i := 4) rfl
  have c195 := k185.cell' (i := 5) rfl
  have c196 := k186.cell' (i := 0) rfl
  have c197 := k186.cell' (i := 1) rfl
  have c198 := k186.cell' (i := 2) rfl
  have c199 := k186.cell' (i := 3) rfl
  have c200 := k186.cell' (i := 4) rfl
  have c201 := k186.cell' (i := 5) rfl
  have c202 := k187.cell' (i := 0) rfl
  have c203 := k187.cell' (i := 1) rfl
  have c204 := k187.cell' (i := 2) rfl
  have c205 := k187.cell' (i := 3) rfl
  have c206 := k187.cell' (i := 4) rfl
  have c207 := k187.cell' (i := 5) rfl
  obtain ⟨Ax208, ax208, Cx208, cx208, Ex208, ex208, Hx208, hx208, e209⟩ := h137.form
  subst e209
  have c211 := fun o => (k185.alloc o).cell' (i := 0) rfl
  have c212 := fun o => (k185.alloc o).cell' (i := 1) rfl
  have c213 := fun o => (k185.alloc o).cell' (i := 2) rfl
  have c214 := fun o => (k185.alloc o).cell' (i := 3) rfl
  have c215 := fun o => (k185.alloc o).cell' (i := 4) rfl
  have c216 := fun o => (k185.alloc o).cell' (i := 5) rfl
  have c217 := fun o => (k186.alloc o).cell' (i := 0) rfl
  have c218 := fun o => (k186.alloc o).cell' (i := 1) rfl
  have c219 := fun o => (k186.alloc o).cell' (i := 2) rfl
  have c220 := fun o => (k186.alloc o).cell' (i := 3) rfl
  have c221 := fun o => (k186.alloc o).cell' (i := 4) rfl
  have c222 := fun o => (k186.alloc o).cell' (i := 5) rfl
  have c223 := fun o => (k187.alloc o).cell' (i := 0) rfl
  have c224 := fun o => (k187.alloc o).cell' (i := 1) rfl
  have c225 := fun o => (k187.alloc o).cell' (i := 2) rfl
  have c226 := fun o => (k187.alloc o).cell' (i := 3) rfl
  have c227 := fun o => (k187.alloc o).cell' (i := 4) rfl
  have c228 := fun o => (k187.alloc o).cell' (i := 5) rfl
  go_wp2_with fail
  obtain ⟨W229, e230⟩ : ∃ W, W = W181.alloc (.cells #[.int .i64 ((rsrP r v).1).p, .int .i64 ((rsrP r v).1).q.v, .slice Ax208 ((rsrP r v).1).q.f.length ax208, .slice Cx208 ((rsrP r v).1).q.t.length cx208, .slice Ex208 ((rsrP r v).1).d.length ex208, .slice Hx208 ((rsrP r v).1).m.length hx208] 32) := ⟨_, rfl⟩
  rw [← e230]
  have b231 : Below W181.heap.size W181 W229 := by rw [e230]; exact below_alloc _ _
  have k232 : Blk W229 W181.heap.size 32 #[.int .i64 ((rsrP r v).1).p, .int .i64 ((rsrP r v).1).q.v, .slice Ax208 ((rsrP r v).1).q.f.length ax208, .slice Cx208 ((rsrP r v).1).q.t.length cx208, .slice Ex208 ((rsrP r v).1).d.length ex208, .slice Hx208 ((rsrP r v).1).m.length hx208] := by rw [e230]; exact Blk.new _ _ _
  have s233 : W181.heap.size < W229.heap.size := by rw [e230]; simp
  clear e230
  have h234 := RpR.below (b231.mono (by omega)) h182
  have h235 := RpR.below (b231.mono (by omega)) h183
  have h236 := h184.below b231
  have h237 := h137.below b231
  have k238 := k185.call b231
  have k239 := k186.call b231
  have k240 := k187.call b231
  have s241 : W181.heap.size ≤ W229.heap.size := b231.size
  have g242 := bthen g189 b231
  clear h182 h183 h184 h137 k185 k186 k187 g189 b231 c190 c191 c192 c193 c194 c195 c196 c197 c198 c199 c200 c201 c202 c203 c204 c205 c206 c207 c211 c212 c213 c214 c215 c216 c217 c218 c219 c220 c221 c222 c223 c224 c225 c226 c227 c228
  have c243 := k238.cell' (i := 0) rfl
  have c244 := k238.cell' (i := 1) rfl
  have c245 := k238.cell' (i := 2) rfl
  have c246 := k238.cell' (i := 3) rfl
  have c247 := k238.cell' (i := 4) rfl
  have c248 := k238.cell' (i := 5) rfl
  have c249 := k239.cell' (i := 0) rfl
  have c250 := k239.cell' (i := 1) rfl
  have c251 := k239.cell' (i := 2) rfl
  have c252 := k239.cell' (i := 3) rfl
  have c253 := k239.cell' (i := 4) rfl
  have c254 := k239.cell' (i := 5) rfl
  have c255 := k240.cell' (i := 0) rfl
  have c256 := k240.cell' (i := 1) rfl
  have c257 := k240.cell' (i := 2) rfl
  have c258 := k240.cell' (i := 3) rfl
  have c259 := k240.cell' (i := 4) rfl
  have c260 := k240.cell' (i := 5) rfl
  have c261 := k232.cell' (i := 0) rfl
  have c262 := k232.cell' (i := 1) rfl
  have c263 := k232.cell' (i := 2) rfl
  have c264 := k232.cell' (i := 3) rfl
  have c265 := k232.cell' (i := 4) rfl
  have c266 := k232.cell' (i := 5) rfl
  refine (eqRep_any _ _ _ _ _ h237.rd (RpR.more (by omega) h235)).mono ?_; rintro e W267 ⟨rfl, b210⟩
  have h268 := RpR.below (b210.mono (by omega)) h234
  have h269 := RpR.below (b210.mono (by omega)) h235
  have h270 := h236.below b210
  have h271 := h237.below b210
  have k272 := k238.call b210
  have k273 := k239.call b210
  have k274 := k240.call b210
  have k275 := k232.call b210
  have s276 : W229.heap.size ≤ W267.heap.size := b210.size
  have g277 := bthen g242 b210
  clear h234 h235 h236 h237 k238 k239 k240 k232 g242 b210 c243 c244 c245 c246 c247 c248 c249 c250 c251 c252 c253 c254 c255 c256 c257 c258 c259 c260 c261 c262 c263 c264 c265 c266
  have c278 := k272.cell' (i := 0) rfl
  have c279 := k272.cell' (i := 1) rfl
  have c280 := k272.cell' (i := 2) rfl
  have c281 := k272.cell' (i := 3) rfl
  have c282 := k272.cell' (i := 4) rfl
  have c283 := k272.cell' (i := 5) rfl
  have c284 := k273.cell' (i := 0) rfl
  have c285 := k273.cell' (i := 1) rfl
  have c286 := k273.cell' (i := 2) rfl
  have c287 := k273.cell' (i := 3) rfl
  have c288 := k273.cell' (i := 4) rfl
  have c289 := k273.cell' (i := 5) rfl
  have c290 := k274.cell' (i := 0) rfl
  have c291 := k274.cell' (i := 1) rfl
  have c292 := k274.cell' (i := 2) rfl
  have c293 := k274.cell' (i := 3) rfl
  have c294 := k274.cell' (i := 4) rfl
  have c295 := k274.cell' (i := 5) rfl
  have c296 := k275.cell' (i := 0) rfl
  have c297 := k275.cell' (i := 1) rfl
  have c298 := k275.cell' (i := 2) rfl
  have c299 := k275.cell' (i := 3) rfl
  have c300 := k275.cell' (i := 4) rfl
  have c301 := k275.cell' (i := 5) rfl
  go_wp2_with fail
  have b302 := drew_below W267
  have h303 := RpR.below (b302.mono (by omega)) h268
  have h304 := RpR.below (b302.mono (by omega)) h269
  have h305 := h270.below b302
  have h306 := h271.below b302
  have k307 := k272.call b302
  have k308 := k273.call b302
  have k309 := k274.call b302
  have k310 := k275.call b302
  have s311 : W267.heap.size ≤ W267.drew.heap.size := b302.size
  have g312 := bthen g277 b302
  clear h268 h269 h270 h271 k272 k273 k274 k275 g277 b302 c278 c279 c280 c281 c282 c283 c284 c285 c286 c287 c288 c289 c290 c291 c292 c293 c294 c295 c296 c297 c298 c299 c300 c301
  have c313 := k307.cell' (i := 0) rfl
  have c314 := k307.cell' (i := 1) rfl
  have c315 := k307.cell' (i := 2) rfl
  have c316 := k307.cell' (i := 3) rfl
  have c317 := k307.cell' (i := 4) rfl
  have c318 := k307.cell' (i := 5) rfl
  have c319 := k308.cell' (i := 0) rfl
  have c320 := k308.cell' (i := 1) rfl
  have c321 := k308.cell' (i := 2) rfl
  have c322 := k308.cell' (i := 3) rfl
  have c323 := k308.cell' (i := 4) rfl
  have c324 := k308.cell' (i := 5) rfl
  have c325 := k309.cell' (i := 0) rfl
  have c326 := k309.cell' (i := 1) rfl
  have c327 := k309.cell' (i := 2) rfl
  have c328 := k309.cell' (i := 3) rfl
  have c329 := k309.cell' (i := 4) rfl
  have c330 := k309.cell' (i := 5) rfl
  have c331 := k310.cell' (i := 0) rfl
  have c332 := k310.cell' (i := 1) rfl
  have c333 := k310.cell' (i := 2) rfl
  have c334 := k310.cell' (i := 3) rfl
  have c335 := k310.cell' (i := 4) rfl
  have c336 := k310.cell' (i := 5) rfl
  go_region_held3 (fun W' => W'.cell? ⟨w.heap.size, 0, none⟩ = some (.int .i64 (r).p) ∧ W'.cell? ⟨w.heap.size, 1, none⟩ = some (.int .i64 (r).q.v) ∧ W'.cell? ⟨w.heap.size, 2, none⟩ = some (.slice Aur (r).q.f.length aur) ∧ W'.cell? ⟨w.heap.size, 3, none⟩ = some (.slice Cur (r).q.t.length cur) ∧ W'.cell? ⟨w.heap.size, 4, none⟩ = some (.slice Eur (r).d.length eur) ∧ W'.cell? ⟨w.heap.size, 5, none⟩ = some (.slice Hur (r).m.length hur) ∧ W'.cell? ⟨W70.heap.size, 0, none⟩ = some (.int .i64 ((rsrP r v).1).p) ∧ W'.cell? ⟨W70.heap.size, 1, none⟩ = some (.int .i64 ((rsrP r v).1).q.v) ∧ W'.cell? ⟨W70.heap.size, 2, none⟩ = some (.slice Ax82 ((rsrP r v).1).q.f.length ax82) ∧ W'.cell? ⟨W70.heap.size, 3, none⟩ = some (.slice Cx82 ((rsrP r v).1).q.t.length cx82) ∧ W'.cell? ⟨W70.heap.size, 4, none⟩ = some (.slice Ex82 ((rsrP r v).1).d.length ex82) ∧ W'.cell? ⟨W70.heap.size, 5, none⟩ = some (.slice Hx82 ((rsrP r v).1).m.length hx82) ∧ W'.cell? ⟨W115.heap.size, 0, none⟩ = some (.int .i64 (r).p) ∧ W'.cell? ⟨W115.heap.size, 1, none⟩ = some (.int .i64 (r).q.v) ∧ W'.cell? ⟨W115.heap.size, 2, none⟩ = some (.slice Ax134 (r).q.f.length ax134) ∧ W'.cell? ⟨W115.heap.size, 3, none⟩ = some (.slice Cx134 (r).q.t.length cx134) ∧ W'.cell? ⟨W115.heap.size, 4, none⟩ = some (.slice Ex134 (r).d.length ex134) ∧ W'.cell? ⟨W115.heap.size, 5, none⟩ = some (.slice Hx134 (r).m.length hx134) ∧ W'.cell? ⟨W181.heap.size, 0, none⟩ = some (.int .i64 ((rsrP r v).1).p) ∧ W'.cell? ⟨W181.heap.size, 1, none⟩ = some (.int .i64 ((rsrP r v).1).q.v) ∧ W'.cell? ⟨W181.heap.size, 2, none⟩ = some (.slice Ax208 ((rsrP r v).1).q.f.length ax208) ∧ W'.cell? ⟨W181.heap.size, 3, none⟩ = some (.slice Cx208 ((rsrP r v).1).q.t.length cx208) ∧ W'.cell? ⟨W181.heap.size, 4, none⟩ = some (.slice Ex208 ((rsrP r v).1).d.length ex208) ∧ W'.cell? ⟨W181.heap.size, 5, none⟩ = some (.slice Hx208 ((rsrP r v).1).m.length hx208))
    (first | exact ⟨c313, c314, c315, c316, c317, c318, c319, c320, c321, c322, c323, c324, c325, c326, c327, c328, c329, c330, c331, c332, c333, c334, c335, c336⟩ | exact ⟨c351, c352, c353, c354, c355, c356, c357, c358, c359, c360, c361, c362, c363, c364, c365, c366, c367, c368, c369, c370, c371, c372, c373, c374⟩ | exact ⟨c388, c389, c390, c391, c392, c393, c394, c395, c396, c397, c398, c399, c400, c401, c402, c403, c404, c405, c406, c407, c408, c409, c410, c411⟩)
    (first | (go_at_call 7; refine (rep_to _ _ _ (RpR.more (by omega) h303) (by omega)).mono ?_; rintro e W340 ⟨v337, rfl, h338, b339⟩; have h341 := RpR.below (b339.mono (by omega)) h303; have h342 := RpR.below (b339.mono (by omega)) h304; have h343 := h305.below b339; have h344 := h306.below b339; have k345 := k307.call b339; have k346 := k308.call b339; have k347 := k309.call b339; have k348 := k310.call b339; have s349 : W267.drew.heap.size ≤ W340.heap.size := b339.size; have g350 := bthen g312 b339; clear h303 h304 h305 h306 k307 k308 k309 k310 g312 b339 c313 c314 c315 c316 c317 c318 c319 c320 c321 c322 c323 c324 c325 c326 c327 c328 c329 c330 c331 c332 c333 c334 c335 c336; have c351 := k345.cell' (i := 0) rfl; have c352 := k345.cell' (i := 1) rfl; have c353 := k345.cell' (i := 2) rfl; have c354 := k345.cell' (i := 3) rfl; have c355 := k345.cell' (i := 4) rfl; have c356 := k345.cell' (i := 5) rfl; have c357 := k346.cell' (i := 0) rfl; have c358 := k346.cell' (i := 1) rfl; have c359 := k346.cell' (i := 2) rfl; have c360 := k346.cell' (i := 3) rfl; have c361 := k346.cell' (i := 4) rfl; have c362 := k346.cell' (i := 5) rfl; have c363 := k347.cell' (i := 0) rfl; have c364 := k347.cell' (i := 1) rfl; have c365 := k347.cell' (i := 2) rfl; have c366 := k347.cell' (i := 3) rfl; have c367 := k347.cell' (i := 4) rfl; have c368 := k347.cell' (i := 5) rfl; have c369 := k348.cell' (i := 0) rfl; have c370 := k348.cell' (i := 1) rfl; have c371 := k348.cell' (i := 2) rfl; have c372 := k348.cell' (i := 3) rfl; have c373 := k348.cell' (i := 4) rfl; have c374 := k348.cell' (i := 5) rfl) | (go_at_call 9; refine (eqRep_any _ _ _ _ _ h343.rd h338.rd).mono ?_; rintro e W376 ⟨rfl, b375⟩; have h377 := RpR.below (b375.mono (by omega)) h341; have h378 := RpR.below (b375.mono (by omega)) h342; have h379 := h343.below b375; have h380 := h344.below b375; have h381 := h338.below b375; have k382 := k345.call b375; have k383 := k346.call b375; have k384 := k347.call b375; have k385 := k348.call b375; have s386 : W340.heap.size ≤ W376.heap.size := b375.size; have g387 := bthen g350 b375; clear h341 h342 h343 h344 h338 k345 k346 k347 k348 g350 b375 c351 c352 c353 c354 c355 c356 c357 c358 c359 c360 c361 c362 c363 c364 c365 c366 c367 c368 c369 c370 c371 c372 c373 c374; have c388 := k382.cell' (i := 0) rfl; have c389 := k382.cell' (i := 1) rfl; have c390 := k382.cell' (i := 2) rfl; have c391 := k382.cell' (i := 3) rfl; have c392 := k382.cell' (i := 4) rfl; have c393 := k382.cell' (i := 5) rfl; have c394 := k383.cell' (i := 0) rfl; have c395 := k383.cell' (i := 1) rfl; have c396 := k383.cell' (i := 2) rfl; have c397 := k383.cell' (i := 3) rfl; have c398 := k383.cell' (i := 4) rfl; have c399 := k383.cell' (i := 5) rfl; have c400 := k384.cell' (i := 0) rfl; have c401 := k384.cell' (i := 1) rfl; have c402 := k384.cell' (i := 2) rfl; have c403 := k384.cell' (i := 3) rfl; have c404 := k384.cell' (i := 4) rfl; have c405 := k384.cell' (i := 5) rfl; have c406 := k385.cell' (i := 0) rfl; have c407 := k385.cell' (i := 1) rfl; have c408 := k385.cell' (i := 2) rfl; have c409 := k385.cell' (i := 3) rfl; have c410 := k385.cell' (i := 4) rfl; have c411 := k385.cell' (i := 5) rfl))
  clear h381
  go_wp2_with fail
  refine (rep_mark _ _ _ _ _ _ h379 (by omega) (by omega) (by omega) (by omega)).mono ?_; rintro e W414 ⟨rfl, h412, q413⟩
  have h415 := RpR.chg h377 q413 (by omega) (by omega)
  have h416 := RpR.chg h378 q413 (by omega) (by omega)
  have h417 := h380.chg q413 (by omega)
  have k418 := k382.chg q413 (by omega)
  have k419 := k383.chg q413 (by omega)
  have k420 := k384.chg q413 (by omega)
  have k421 := k385.chg q413 (by omega)
  have s422 : W376.heap.size ≤ W414.heap.size := q413.size
  have g423 := g387.trans (q413.below (by omega) (by omega))
  clear h377 h378 h380 k382 k383 k384 k385 g387 q413 c388 c389 c390 c391 c392 c393 c394 c395 c396 c397 c398 c399 c400 c401 c402 c403 c404 c405 c406 c407 c408 c409 c410 c411
  have c424 := k418.cell' (i := 0) rfl
  have c425 := k418.cell' (i := 1) rfl
  have c426 := k418.cell' (i := 2) rfl
  have c427 := k418.cell' (i := 3) rfl
  have c428 := k418.cell' (i := 4) rfl
  have c429 := k418.cell' (i := 5) rfl
  have c430 := k419.cell' (i := 0) rfl
  have c431 := k419.cell' (i := 1) rfl
  have c432 := k419.cell' (i := 2) rfl
  have c433 := k419.cell' (i := 3) rfl
  have c434 := k419.cell' (i := 4) rfl
  have c435 := k419.cell' (i := 5) rfl
  have c436 := k420.cell' (i := 0) rfl
  have c437 := k420.cell' (i := 1) rfl
  have c438 := k420.cell' (i := 2) rfl
  have c439 := k420.cell' (i := 3) rfl
  have c440 := k420.cell' (i := 4) rfl
  have c441 := k420.cell' (i := 5) rfl
  have c442 := k421.cell' (i := 0) rfl
  have c443 := k421.cell' (i := 1) rfl
  have c444 := k421.cell' (i := 2) rfl
  have c445 := k421.cell' (i := 3) rfl
  have c446 := k421.cell' (i := 4) rfl
  have c447 := k421.cell' (i := 5) rfl
  clear h379
  go_wp2_with fail
  refine (eqRep_any _ _ _ _ _ h417.rd (RpR.more (by omega) h416)).mono ?_; rintro e W449 ⟨rfl, b448⟩
  have h450 := RpR.below (b448.mono (by omega)) h415
  have h451 := RpR.below (b448.mono (by omega)) h416
  have h452 := h412.below b448
  have h453 := h417.below b448
  have k454 := k418.call b448
  have k455 := k419.call b448
  have k456 := k420.call b448
  have k457 := k421.call b448
  have s458 : W414.heap.size ≤ W449.heap.size := b448.size
  have g459 := bthen g423 b448
  clear h415 h416 h412 h417 k418 k419 k420 k421 g423 b448 c424 c425 c426 c427 c428 c429 c430 c431 c432 c433 c434 c435 c436 c437 c438 c439 c440 c441 c442 c443 c444 c445 c446 c447
  have c460 := k454.cell' (i := 0) rfl
  have c461 := k454.cell' (i := 1) rfl
  have c462 := k454.cell' (i := 2) rfl
  have c463 := k454.cell' (i := 3) rfl
  have c464 := k454.cell' (i := 4) rfl
  have c465 := k454.cell' (i := 5) rfl
  have c466 := k455.cell' (i := 0) rfl
  have c467 := k455.cell' (i := 1) rfl
  have c468 := k455.cell' (i := 2) rfl
  have c469 := k455.cell' (i := 3) rfl
  have c470 := k455.cell' (i := 4) rfl
  have c471 := k455.cell' (i := 5) rfl
  have c472 := k456.cell' (i := 0) rfl
  have c473 := k456.cell' (i := 1) rfl
  have c474 := k456.cell' (i := 2) rfl
  have c475 := k456.cell' (i := 3) rfl
  have c476 := k456.cell' (i := 4) rfl
  have c477 := k456.cell' (i := 5) rfl
  have c478 := k457.cell' (i := 0) rfl
  have c479 := k457.cell' (i := 1) rfl
  have c480 := k457.cell' (i := 2) rfl
  have c481 := k457.cell' (i := 3) rfl
  have c482 := k457.cell' (i := 4) rfl
  have c483 := k457.cell' (i := 5) rfl
  clear h452
  go_wp2_with fail
  refine (rep_mark _ _ _ _ _ _ h453 (by omega) (by omega) (by omega) (by omega)).mono ?_; rintro e W486 ⟨rfl, h484, q485⟩
  have h487 := RpR.chg h450 q485 (by omega) (by omega)
  have h488 := RpR.chg h451 q485 (by omega) (by omega)
  have k489 := k454.chg q485 (by omega)
  have k490 := k455.chg q485 (by omega)
  have k491 := k456.chg q485 (by omega)
  have k492 := k457.chg q485 (by omega)
  have s493 : W449.heap.size ≤ W486.heap.size := q485.size
  have g494 := g459.trans (q485.below (by omega) (by omega))
  clear h450 h451 k454 k455 k456 k457 g459 q485 c460 c461 c462 c463 c464 c465 c466 c467 c468 c469 c470 c471 c472 c473 c474 c475 c476 c477 c478 c479 c480 c481 c482 c483
  have c495 := k489.cell' (i := 0) rfl
  have c496 := k489.cell' (i := 1) rfl
  have c497 := k489.cell' (i := 2) rfl
  have c498 := k489.cell' (i := 3) rfl
  have c499 := k489.cell' (i := 4) rfl
  have c500 := k489.cell' (i := 5) rfl
  have c501 := k490.cell' (i := 0) rfl
  have c502 := k490.cell' (i := 1) rfl
  have c503 := k490.cell' (i := 2) rfl
  have c504 := k490.cell' (i := 3) rfl
  have c505 := k490.cell' (i := 4) rfl
  have c506 := k490.cell' (i := 5) rfl
  have c507 := k491.cell' (i := 0) rfl
  have c508 := k491.cell' (i := 1) rfl
  have c509 := k491.cell' (i := 2) rfl
  have c510 := k491.cell' (i := 3) rfl
  have c511 := k491.cell' (i := 4) rfl
  have c512 := k491.cell' (i := 5) rfl
  have c513 := k492.cell' (i := 0) rfl
  have c514 := k492.cell' (i := 1) rfl
  have c515 := k492.cell' (i := 2) rfl
  have c516 := k492.cell' (i := 3) rfl
  have c517 := k492.cell' (i := 4) rfl
  have c518 := k492.cell' (i := 5) rfl
  clear h453
  go_wp2_with fail
  refine (rep_held _ _ _ _ h484.rd (by omega) (by omega) (by omega)).mono ?_; rintro e W520 ⟨rfl, b519⟩
  have h521 := RpR.below (b519.mono (by omega)) h487
  have h522 := RpR.below (b519.mono (by omega)) h488
  have h523 := h484.below b519
  have k524 := k489.call b519
  have k525 := k490.call b519
  have k526 := k491.call b519
  have k527 := k492.call b519
  have s528 : W486.heap.size ≤ W520.heap.size := b519.size
  have g529 := bthen g494 b519
  clear h487 h488 h484 k489 k490 k491 k492 g494 b519 c495 c496 c497 c498 c499 c500 c501 c502 c503 c504 c505 c506 c507 c508 c509 c510 c511 c512 c513 c514 c515 c516 c517 c518
  have c530 := k524.cell' (i := 0) rfl
  have c531 := k524.cell' (i := 1) rfl
  have c532 := k524.cell' (i := 2) rfl
  have c533 := k524.cell' (i := 3) rfl
  have c534 := k524.cell' (i := 4) rfl
  have c535 := k524.cell' (i := 5) rfl
  have c536 := k525.cell' (i := 0) rfl
  have c537 := k525.cell' (i := 1) rfl
  have c538 := k525.cell' (i := 2) rfl
  have c539 := k525.cell' (i := 3) rfl
  have c540 := k525.cell' (i := 4) rfl
  have c541 := k525.cell' (i := 5) rfl
  have c542 := k526.cell' (i := 0) rfl
  have c543 := k526.cell' (i := 1) rfl
  have c544 := k526.cell' (i := 2) rfl
  have c545 := k526.cell' (i := 3) rfl
  have c546 := k526.cell' (i := 4) rfl
  have c547 := k526.cell' (i := 5) rfl
  have c548 := k527.cell' (i := 0) rfl
  have c549 := k527.cell' (i := 1) rfl
  have c550 := k527.cell' (i := 2) rfl
  have c551 := k527.cell' (i := 3) rfl
  have c552 := k527.cell' (i := 4) rfl
  have c553 := k527.cell' (i := 5) rfl
  go_wp2_with fail
  refine (rep_to _ _ _ (RpR.more (by omega) h521) (by omega)).mono ?_; rintro e W557 ⟨v554, rfl, h555, b556⟩
  have h558 := RpR.below (b556.mono (by omega)) h521
  have h559 := RpR.below (b556.mono (by omega)) h522
  have h560 := h523.below b556
  have k561 := k524.call b556
  have k562 := k525.call b556
  have k563 := k526.call b556
  have k564 := k527.call b556
  have s565 : W520.heap.size ≤ W557.heap.size := b556.size
  have g566 := bthen g529 b556
  clear h521 h522 h523 k524 k525 k526 k527 g529 b556 c530 c531 c532 c533 c534 c535 c536 c537 c538 c539 c540 c541 c542 c543 c544 c545 c546 c547 c548 c549 c550 c551 c552 c553
  have c567 := k561.cell' (i := 0) rfl
  have c568 := k561.cell' (i := 1) rfl
  have c569 := k561.cell' (i := 2) rfl
  have c570 := k561.cell' (i := 3) rfl
  have c571 := k561.cell' (i := 4) rfl
  have c572 := k561.cell' (i := 5) rfl
  have c573 := k562.cell' (i := 0) rfl
  have c574 := k562.cell' (i := 1) rfl
  have c575 := k562.cell' (i := 2) rfl
  have c576 := k562.cell' (i := 3) rfl
  have c577 := k562.cell' (i := 4) rfl
  have c578 := k562.cell' (i := 5) rfl
  have c579 := k563.cell' (i := 0) rfl
  have c580 := k563.cell' (i := 1) rfl
  have c581 := k563.cell' (i := 2) rfl
  have c582 := k563.cell' (i := 3) rfl
  have c583 := k563.cell' (i := 4) rfl
  have c584 := k563.cell' (i := 5) rfl
  have c585 := k564.cell' (i := 0) rfl
  have c586 := k564.cell' (i := 1) rfl
  have c587 := k564.cell' (i := 2) rfl
  have c588 := k564.cell' (i := 3) rfl
  have c589 := k564.cell' (i := 4) rfl
  have c590 := k564.cell' (i := 5) rfl
  go_wp2_with fail
  refine (implReflectSource_any _ _ _ _ h555.rd rng_v).mono ?_; rintro e W594 ⟨r591, rfl, h592, b593⟩
  have h595 := RpR.below (b593.mono (by omega)) h558
  have h596 := RpR.below (b593.mono (by omega)) h559
  have h597 := h560.below b593
  have h598 := h555.below b593
  have k599 := k561.call b593
  have k600 := k562.call b593
  have k601 := k563.call b593
  have k602 := k564.call b593
  have s603 : W557.heap.size ≤ W594.heap.size := b593.size
  have g604 := bthen g566 b593
  clear h558 h559 h560 h555 k561 k562 k563 k564 g566 b593 c567 c568 c569 c570 c571 c572 c573 c574 c575 c576 c577 c578 c579 c580 c581 c582 c583 c584 c585 c586 c587 c588 c589 c590
  have c605 := k599.cell' (i := 0) rfl
  have c606 := k599.cell' (i := 1) rfl
  have c607 := k599.cell' (i := 2) rfl
  have c608 := k599.cell' (i := 3) rfl
  have c609 := k599.cell' (i := 4) rfl
  have c610 := k599.cell' (i := 5) rfl
  have c611 := k600.cell' (i := 0) rfl
  have c612 := k600.cell' (i := 1) rfl
  have c613 := k600.cell' (i := 2) rfl
  have c614 := k600.cell' (i := 3) rfl
  have c615 := k600.cell' (i := 4) rfl
  have c616 := k600.cell' (i := 5) rfl
  have c617 := k601.cell' (i := 0) rfl
  have c618 := k601.cell' (i := 1) rfl
  have c619 := k601.cell' (i := 2) rfl
  have c620 := k601.cell' (i := 3) rfl
  have c621 := k601.cell' (i := 4) rfl
  have c622 := k601.cell' (i := 5) rfl
  have c623 := k602.cell' (i := 0) rfl
  have c624 := k602.cell' (i := 1) rfl
  have c625 := k602.cell' (i := 2) rfl
  have c626 := k602.cell' (i := 3) rfl
  have c627 := k602.cell' (i := 4) rfl
  have c628 := k602.cell' (i := 5) rfl
  clear h598
  obtain ⟨Ax629, ax629, Cx629, cx629, Ex629, ex629, Hx629, hx629, e630⟩ := h592.form
  subst e630
  have c632 := fun o => (k599.alloc o).cell' (i := 0) rfl
  have c633 := fun o => (k599.alloc o).cell' (i := 1) rfl
  have c634 := fun o => (k599.alloc o).cell' (i := 2) rfl
  have c635 := fun o => (k599.alloc o).cell' (i := 3) rfl
  have c636 := fun o => (k599.alloc o).cell' (i := 4) rfl
  have c637 := fun o => (k599.alloc o).cell' (i := 5) rfl
  have c638 := fun o => (k600.alloc o).cell' (i := 0) rfl
  have c639 := fun o => (k600.alloc o).cell' (i := 1) rfl
  have c640 := fun o => (k600.alloc o).cell' (i := 2) rfl
  have c641 := fun o => (k600.alloc o).cell' (i := 3) rfl
  have c642 := fun o => (k600.alloc o).cell' (i := 4) rfl
  have c643 := fun o => (k600.alloc o).cell' (i := 5) rfl
  have c644 := fun o => (k601.alloc o).cell' (i := 0) rfl
  have c645 := fun o => (k601.alloc o).cell' (i := 1) rfl
  have c646 := fun o => (k601.alloc o).cell' (i := 2) rfl
  have c647 := fun o => (k601.alloc o).cell' (i := 3) rfl
  have c648 := fun o => (k601.alloc o).cell' (i := 4) rfl
  have c649 := fun o => (k601.alloc o).cell' (i := 5) rfl
  have c650 := fun o => (k602.alloc o).cell' (i := 0) rfl
  have c651 := fun o => (k602.alloc o).cell' (i := 1) rfl
  have c652 := fun o => (k602.alloc o).cell' (i := 2) rfl
  have c653 := fun o => (k602.alloc o).cell' (i := 3) rfl
  have c654 := fun o => (k602.alloc o).cell' (i := 4) rfl
  have c655 := fun o => (k602.alloc o).cell' (i := 5) rfl
  go_wp2_with fail
  obtain ⟨W656, e657⟩ : ∃ W, W = W594.alloc (.cells #[.int .i64 ((rsrP r v).1).p, .int .i64 ((rsrP r v).1).q.v, .slice Ax629 ((rsrP r v).1).q.f.length ax629, .slice Cx629 ((rsrP r v).1).q.t.length cx629, .slice Ex629 ((rsrP r v).1).d.length ex629, .slice Hx629 ((rsrP r v).1).m.length hx629] 32) := ⟨_, rfl⟩
  rw [← e657]
  have b658 : Below W594.heap.size W594 W656 := by rw [e657]; exact below_alloc _ _
  have k659 : Blk W656 W594.heap.size 32 #[.int .i64 ((rsrP r v).1).p, .int .i64 ((rsrP r v).1).q.v, .slice Ax629 ((rsrP r v).1).q.f.length ax629, .slice Cx629 ((rsrP r v).1).q.t.length cx629, .slice Ex629 ((rsrP r v).1).d.length ex629, .slice Hx629 ((rsrP r v).1).m.length hx629] := by rw [e657]; exact Blk.new _ _ _
  have s660 : W594.heap.size < W656.heap.size := by rw [e657]; simp
  clear e657
  have h661 := RpR.below (b658.mono (by omega)) h595
  have h662 := RpR.below (b658.mono (by omega)) h596
  have h663 := h597.below b658
  have h664 := h592.below b658
  have k665 := k599.call b658
  have k666 := k600.call b658
  have k667 := k601.call b658
  have k668 := k602.call b658
  have s669 : W594.heap.size ≤ W656.heap.size := b658.size
  have g670 := bthen g604 b658
  clear h595 h596 h597 h592 k599 k600 k601 k602 g604 b658 c605 c606 c607 c608 c609 c610 c611 c612 c613 c614 c615 c616 c617 c618 c619 c620 c621 c622 c623 c624 c625 c626 c627 c628 c632 c633 c634 c635 c636 c637 c638 c639 c640 c641 c642 c643 c644 c645 c646 c647 c648 c649 c650 c651 c652 c653 c654 c655
  have c671 := k665.cell' (i := 0) rfl
  have c672 := k665.cell' (i := 1) rfl
  have c673 := k665.cell' (i := 2) rfl
  have c674 := k665.cell' (i := 3) rfl
  have c675 := k665.cell' (i := 4) rfl
  have c676 := k665.cell' (i := 5) rfl
  have c677 := k666.cell' (i := 0) rfl
  have c678 := k666.cell' (i := 1) rfl
  have c679 := k666.cell' (i := 2) rfl
  have c680 := k666.cell' (i := 3) rfl
  have c681 := k666.cell' (i := 4) rfl
  have c682 := k666.cell' (i := 5) rfl
  have c683 := k667.cell' (i := 0) rfl
  have c684 := k667.cell' (i := 1) rfl
  have c685 := k667.cell' (i := 2) rfl
  have c686 := k667.cell' (i := 3) rfl
  have c687 := k667.cell' (i := 4) rfl
  have c688 := k667.cell' (i := 5) rfl
  have c689 := k668.cell' (i := 0) rfl
  have c690 := k668.cell' (i := 1) rfl
  have c691 := k668.cell' (i := 2) rfl
  have c692 := k668.cell' (i := 3) rfl
  have c693 := k668.cell' (i := 4) rfl
  have c694 := k668.cell' (i := 5) rfl
  have c695 := k659.cell' (i := 0) rfl
  have c696 := k659.cell' (i := 1) rfl
  have c697 := k659.cell' (i := 2) rfl
  have c698 := k659.cell' (i := 3) rfl
  have c699 := k659.cell' (i := 4) rfl
  have c700 := k659.cell' (i := 5) rfl
  refine (eqRep_any _ _ _ _ _ h664.rd (RpR.more (by omega) h662)).mono ?_; rintro e W701 ⟨rfl, b631⟩
  have h702 := RpR.below (b631.mono (by omega)) h661
  have h703 := RpR.below (b631.mono (by omega)) h662
  have h704 := h663.below b631
  have h705 := h664.below b631
  have k706 := k665.call b631
  have k707 := k666.call b631
  have k708 := k667.call b631
  have k709 := k668.call b631
  have k710 := k659.call b631
  have s711 : W656.heap.size ≤ W701.heap.size := b631.size
  have g712 := bthen g670 b631
  clear h661 h662 h663 h664 k665 k666 k667 k668 k659 g670 b631 c671 c672 c673 c674 c675 c676 c677 c678 c679 c680 c681 c682 c683 c684 c685 c686 c687 c688 c689 c690 c691 c692 c693 c694 c695 c696 c697 c698 c699 c700
  have c713 := k706.cell' (i := 0) rfl
  have c714 := k706.cell' (i := 1) rfl
  have c715 := k706.cell' (i := 2) rfl
  have c716 := k706.cell' (i := 3) rfl
  have c717 := k706.cell' (i := 4) rfl
  have c718 := k706.cell' (i := 5) rfl
  have c719 := k707.cell' (i := 0) rfl
  have c720 := k707.cell' (i := 1) rfl
  have c721 := k707.cell' (i := 2) rfl
  have c722 := k707.cell' (i := 3) rfl
  have c723 := k707.cell' (i := 4) rfl
  have c724 := k707.cell' (i := 5) rfl
  have c725 := k708.cell' (i := 0) rfl
  have c726 := k708.cell' (i := 1) rfl
  have c727 := k708.cell' (i := 2) rfl
  have c728 := k708.cell' (i := 3) rfl
  have c729 := k708.cell' (i := 4) rfl
  have c730 := k708.cell' (i := 5) rfl
  have c731 := k709.cell' (i := 0) rfl
  have c732 := k709.cell' (i := 1) rfl
  have c733 := k709.cell' (i := 2) rfl
  have c734 := k709.cell' (i := 3) rfl
  have c735 := k709.cell' (i := 4) rfl
  have c736 := k709.cell' (i := 5) rfl
  have c737 := k710.cell' (i := 0) rfl
  have c738 := k710.cell' (i := 1) rfl
  have c739 := k710.cell' (i := 2) rfl
  have c740 := k710.cell' (i := 3) rfl
  have c741 := k710.cell' (i := 4) rfl
  have c742 := k710.cell' (i := 5) rfl
  clear h705
  go_wp2_with fail
  refine (rep_held _ _ _ _ h704.rd (by omega) (by omega) (by omega)).mono ?_; rintro e W744 ⟨rfl, b743⟩
  have h745 := RpR.below (b743.mono (by omega)) h702
  have h746 := RpR.below (b743.mono (by omega)) h703
  have h747 := h704.below b743
  have k748 := k706.call b743
  have k749 := k707.call b743
  have k750 := k708.call b743
  have k751 := k709.call b743
  have k752 := k710.call b743
  have s753 : W701.heap.size ≤ W744.heap.size := b743.size
  have g754 := bthen g712 b743
  clear h702 h703 h704 k706 k707 k708 k709 k710 g712 b743 c713 c714 c715 c716 c717 c718 c719 c720 c721 c722 c723 c724 c725 c726 c727 c728 c729 c730 c731 c732 c733 c734 c735 c736 c737 c738 c739 c740 c741 c742
  have c755 := k748.cell' (i := 0) rfl
  have c756 := k748.cell' (i := 1) rfl
  have c757 := k748.cell' (i := 2) rfl
  have c758 := k748.cell' (i := 3) rfl
  have c759 := k748.cell' (i := 4) rfl
  have c760 := k748.cell' (i := 5) rfl
  have c761 := k749.cell' (i := 0) rfl
  have c762 := k749.cell' (i := 1) rfl
  have c763 := k749.cell' (i := 2) rfl
  have c764 := k749.cell' (i := 3) rfl
  have c765 := k749.cell' (i := 4) rfl
  have c766 := k749.cell' (i := 5) rfl
  have c767 := k750.cell' (i := 0) rfl
  have c768 := k750.cell' (i := 1) rfl
  have c769 := k750.cell' (i := 2) rfl
  have c770 := k750.cell' (i := 3) rfl
  have c771 := k750.cell' (i := 4) rfl
  have c772 := k750.cell' (i := 5) rfl
  have c773 := k751.cell' (i := 0) rfl
  have c774 := k751.cell' (i := 1) rfl
  have c775 := k751.cell' (i := 2) rfl
  have c776 := k751.cell' (i := 3) rfl
  have c777 := k751.cell' (i := 4) rfl
  have c778 := k751.cell' (i := 5) rfl
  have c779 := k752.cell' (i := 0) rfl
  have c780 := k752.cell' (i := 1) rfl
  have c781 := k752.cell' (i := 2) rfl
  have c782 := k752.cell' (i := 3) rfl
  have c783 := k752.cell' (i := 4) rfl
  have c784 := k752.cell' (i := 5) rfl
  go_wp2
  go_ret
  exact ⟨rfl, g754⟩
end Go.Proofs.YtaefpblpfjhgoaaGreat

/- FnExactReflectSource is proved: for every argument the program's ReflectSource returns what the reference's returns, leaves its arguments as they were, and returns memory of its own. No condition. -/
namespace Go.Proofs.YtaefpblpfjhgoaaGreat
set_option linter.unusedVariables false
set_option linter.unusedSimpArgs false
open Go.RowKit Go.ChangeShapes Go.WideShapes Go.ChangeAt Go.Deep

set_option maxRecDepth 100000 in
theorem reflectSource_lifted (os : Os) (started : os.Started) (H : Type) (enc : TypeId × Value → H) :
    ReturnsInHanded {} Tryz.checked os 3 .any (Rows.fnExactReflectSourceSpec.pre6 enc Tryz.prog Tryz.f3 Rows.fnExactReflectSourceRow.domain false) (Rows.fnExactReflectSourceSpec.post enc Tryz.prog Tryz.f3 false true false false) := by
  refine lift_law started (by kernel_rfl) Tryz.func3 (ChangeSpec.witness6 (enc := enc) (C := Tryz.checked) false ⟨#[], #[.agg #[.int .i64 0, .int .i64 0, .slice none 0 0, .slice none 0 0, .slice none 0 0, .slice none 0 0], .int .i64 0], []⟩ 8 (by kernel_rfl) (by kernel_rfl) (by kernel_rfl) (by kernel_rfl))
    rfl rfl (by rw [Tryz.params3]; intro t ht; simp only [List.mem_cons, List.not_mem_nil, or_false] at ht; rcases ht with rfl | rfl <;> exact ⟨by kernel_rfl, of_decide_eq_true (by kernel_rfl)⟩) (fun ds hl => by rw [Tryz.params3] at hl; match ds, hl with | [_, _], _ => rfl) ?_
  intro W args ds ps base hval hA hwt
  rw [Tryz.params3] at hA hval hwt
  obtain ⟨v0, v1, d0, d1, p0, p1, hargs, rfl, rfl, h0, h1⟩ := trodAll_two hA
  obtain rfl : args = #[v0, v1] := by cases args; simp_all
  obtain ⟨x0, r0⟩ := argRep (hval 0 _ _ rfl rfl) h0 (hwt 0 _ _ rfl rfl)
  obtain ⟨x1, rfl, r1⟩ := argInt (hval 1 _ _ rfl rfl) h1
  exact lawReflectSource_any _ _ _ W r0 r1

theorem reflectSource_closed : joinedFacts Tryz.prog 3 Tryz.f3 Rows.fnExactReflectSourceSpec Rows.fnExactReflectSourceRow = true := by
  unfold joinedFacts
  refine band (band (band (band (band (band (band ?_ seatEnter) seatLifts) seatMake) ?_) ?_) ?_) ?_ <;> kernel_rfl

theorem reflectSource_holds : Rows.FnExactReflectSourceSaid :=
  OpenClaim.holds_of_wide 3 Tryz.f3 rfl rfl rfl rfl rfl rfl rfl ⟨rfl, rfl, rfl, rfl, rfl⟩ rfl rfl rfl rfl rfl (by kernel_rfl) Tryz.func3 reflectSource_closed
    (of_decide_eq_true (by kernel_rfl)) (by unfold Func.isWrapper; first | (rw [if_pos (by decide +kernel)]; kernel_rfl) | (rw [if_neg (by decide +kernel)]; exact ⟨rfl, rfl⟩))
    (fun os started H enc _ => reflectSource_lifted os started H enc)
#print axioms reflectSource_holds
end Go.Proofs.YtaefpblpfjhgoaaGreat
