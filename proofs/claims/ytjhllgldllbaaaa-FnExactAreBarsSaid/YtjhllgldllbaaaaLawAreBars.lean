/- The walk of FnExactAreBars, printed by program (wip/law.py) out of the contracts of what it calls. -/
import Derived.Test.YtjhllgldllbaaaaAreB
import Derived.Test.YtjhllgldllbaaaaKit
namespace Go.Proofs.Ytjhllgldllbaaaa
set_option linter.unusedVariables false
set_option linter.unusedSimpArgs false
open Go.RowKit

set_option maxHeartbeats 1600000 in
set_option maxRecDepth 100000 in
theorem lawAreBars_any (uq : Value) (q : Qv) (ul : Value) (l : List Bar) (w : World) (hq : QvR w w.heap.size uq q) (hl : SlB w w.heap.size ul l) :
    Calls Try.prog 6 #[uq, ul] w fun e w' => e = .returned (.bool true) ∧ Below w.heap.size w w' := by
  obtain ⟨Auq, cuq, Cuq, duq, eq⟩ := QvR.form hq
  subst eq
  have lq := QvR.lens hq
  obtain ⟨Al, cl, rfl, _, _, ll, _⟩ := hl.open_
  have g0 := Below.refl w.heap.size w
  by_cases z0 : (1048576 : Int) < (q.size : Nat)
  · have y0 : szLeft (1048576 : Int) (q.size) = -1 := by rw [szLeft, if_pos z0]
    go_enter Try.func6, Try.ntmps6
    go_wp2_with fail
    obtain ⟨W2, e3⟩ : ∃ W, W = w.alloc (.cells #[.int .i64 (q).v, .slice Auq (q).f.length cuq, .slice Cuq (q).t.length duq] 24) := ⟨_, rfl⟩
    rw [← e3]
    have b4 : Below w.heap.size w W2 := by rw [e3]; exact below_alloc _ _
    have k5 : Blk W2 w.heap.size 24 #[.int .i64 (q).v, .slice Auq (q).f.length cuq, .slice Cuq (q).t.length duq] := by rw [e3]; exact Blk.new _ _ _
    have s6 : w.heap.size < W2.heap.size := by rw [e3]; simp
    clear e3
    have h7 := QvR.below (b4.mono (by omega)) hq
    have h8 := SlB.below (b4.mono (by omega)) hl
    have s9 : w.heap.size ≤ W2.heap.size := b4.size
    have g10 := bthen g0 b4
    clear hq hl g0 b4
    have c11 := k5.cell' (i := 0) rfl
    have c12 := k5.cell' (i := 1) rfl
    have c13 := k5.cell' (i := 2) rfl
    refine (szQuiver_any _ _ (1048576 : Int) _ (QvR.more (by omega) h7) (by omega) (by omega)).mono ?_; rintro e W14 ⟨rfl, b1⟩
    have h15 := QvR.below (b1.mono (by omega)) h7
    have h16 := SlB.below (b1.mono (by omega)) h8
    have k17 := k5.call b1
    have s18 : W2.heap.size ≤ W14.heap.size := b1.size
    have g19 := bthen g10 b1
    clear h7 h8 k5 g10 b1 c11 c12 c13
    have c20 := k17.cell' (i := 0) rfl
    have c21 := k17.cell' (i := 1) rfl
    have c22 := k17.cell' (i := 2) rfl
    go_wp2
    go_ret
    exact ⟨rfl, g19⟩
  have y0 : szLeft (1048576 : Int) (q.size) = (1048576 : Int) - (q.size : Nat) := by rw [szLeft, if_neg z0]
  have x0 : ¬ ((1048576 : Int) - ((q.size : Nat) : Int) < 0) := by omega
  by_cases z1 : ((1048576 : Int) - (q.size : Nat)) < (l.length : Nat)
  · have y1 : szLeft ((1048576 : Int) - (q.size : Nat)) (l.length) = -1 := by rw [szLeft, if_pos z1]
    go_enter Try.func6, Try.ntmps6
    go_wp2_with fail
    obtain ⟨W24, e25⟩ : ∃ W, W = w.alloc (.cells #[.int .i64 (q).v, .slice Auq (q).f.length cuq, .slice Cuq (q).t.length duq] 24) := ⟨_, rfl⟩
    rw [← e25]
    have b26 : Below w.heap.size w W24 := by rw [e25]; exact below_alloc _ _
    have k27 : Blk W24 w.heap.size 24 #[.int .i64 (q).v, .slice Auq (q).f.length cuq, .slice Cuq (q).t.length duq] := by rw [e25]; exact Blk.new _ _ _
    have s28 : w.heap.size < W24.heap.size := by rw [e25]; simp
    clear e25
    have h29 := QvR.below (b26.mono (by omega)) hq
    have h30 := SlB.below (b26.mono (by omega)) hl
    have s31 : w.heap.size ≤ W24.heap.size := b26.size
    have g32 := bthen g0 b26
    clear hq hl g0 b26
    have c33 := k27.cell' (i := 0) rfl
    have c34 := k27.cell' (i := 1) rfl
    have c35 := k27.cell' (i := 2) rfl
    refine (szQuiver_any _ _ (1048576 : Int) _ (QvR.more (by omega) h29) (by omega) (by omega)).mono ?_; rintro e W36 ⟨rfl, b23⟩
    have h37 := QvR.below (b23.mono (by omega)) h29
    have h38 := SlB.below (b23.mono (by omega)) h30
    have k39 := k27.call b23
    have s40 : W24.heap.size ≤ W36.heap.size := b23.size
    have g41 := bthen g32 b23
    clear h29 h30 k27 g32 b23 c33 c34 c35
    have c42 := k39.cell' (i := 0) rfl
    have c43 := k39.cell' (i := 1) rfl
    have c44 := k39.cell' (i := 2) rfl
    go_wp2_with fail
    refine (szBarS_any _ _ _ ((1048576 : Int) - (q.size : Nat)) _ (by omega) (by omega) (by omega)).mono ?_; rintro e W' ⟨rfl, hww⟩; replace hww := hww.symm; subst hww
    go_wp2
    go_ret
    exact ⟨rfl, g41⟩
  have y1 : szLeft ((1048576 : Int) - (q.size : Nat)) (l.length) = ((1048576 : Int) - (q.size : Nat)) - (l.length : Nat) := by rw [szLeft, if_neg z1]
  have x1 : ¬ (((1048576 : Int) - (q.size : Nat)) - ((l.length : Nat) : Int) < 0) := by omega
  go_enter Try.func6, Try.ntmps6
  go_wp2_with fail
  obtain ⟨W47, e48⟩ : ∃ W, W = w.alloc (.cells #[.int .i64 (q).v, .slice Auq (q).f.length cuq, .slice Cuq (q).t.length duq] 24) := ⟨_, rfl⟩
  rw [← e48]
  have b49 : Below w.heap.size w W47 := by rw [e48]; exact below_alloc _ _
  have k50 : Blk W47 w.heap.size 24 #[.int .i64 (q).v, .slice Auq (q).f.length cuq, .slice Cuq (q).t.length duq] := by rw [e48]; exact Blk.new _ _ _
  have s51 : w.heap.size < W47.heap.size := by rw [e48]; simp
  clear e48
  have h52 := QvR.below (b49.mono (by omega)) hq
  have h53 := SlB.below (b49.mono (by omega)) hl
  have s54 : w.heap.size ≤ W47.heap.size := b49.size
  have g55 := bthen g0 b49
  clear hq hl g0 b49
  have c56 := k50.cell' (i := 0) rfl
  have c57 := k50.cell' (i := 1) rfl
  have c58 := k50.cell' (i := 2) rfl
  refine (szQuiver_any _ _ (1048576 : Int) _ (QvR.more (by omega) h52) (by omega) (by omega)).mono ?_; rintro e W59 ⟨rfl, b46⟩
  have h60 := QvR.below (b46.mono (by omega)) h52
  have h61 := SlB.below (b46.mono (by omega)) h53
  have k62 := k50.call b46
  have s63 : W47.heap.size ≤ W59.heap.size := b46.size
  have g64 := bthen g55 b46
  clear h52 h53 k50 g55 b46 c56 c57 c58
  have c65 := k62.cell' (i := 0) rfl
  have c66 := k62.cell' (i := 1) rfl
  have c67 := k62.cell' (i := 2) rfl
  go_wp2_with fail
  refine (szBarS_any _ _ _ ((1048576 : Int) - (q.size : Nat)) _ (by omega) (by omega) (by omega)).mono ?_; rintro e W' ⟨rfl, hww⟩; replace hww := hww.symm; subst hww
  go_wp2_with fail
  refine (quiv_to _ _ _ (QvR.more (by omega) h60) (by omega)).mono ?_; rintro e W72 ⟨v69, rfl, h70, b71⟩
  have h73 := QvR.below (b71.mono (by omega)) h60
  have h74 := SlB.below (b71.mono (by omega)) h61
  have k75 := k62.call b71
  have s76 : W59.heap.size ≤ W72.heap.size := b71.size
  have g77 := bthen g64 b71
  clear h60 h61 k62 g64 b71 c65 c66 c67
  have c78 := k75.cell' (i := 0) rfl
  have c79 := k75.cell' (i := 1) rfl
  have c80 := k75.cell' (i := 2) rfl
  go_wp2_with fail
  refine (bars_to _ _ _ (SlB.more (by omega) h74) (by omega)).mono ?_; rintro e W84 ⟨v81, rfl, h82, b83⟩
  have h85 := QvR.below (b83.mono (by omega)) h73
  have h86 := SlB.below (b83.mono (by omega)) h74
  have h87 := h70.below b83
  have k88 := k75.call b83
  have s89 : W72.heap.size ≤ W84.heap.size := b83.size
  have g90 := bthen g77 b83
  clear h73 h74 h70 k75 g77 b83 c78 c79 c80
  have c91 := k88.cell' (i := 0) rfl
  have c92 := k88.cell' (i := 1) rfl
  have c93 := k88.cell' (i := 2) rfl
  go_wp2_with fail
  refine (specAreBars_any _ _ _ _ _ h87.rd h82.rd).mono ?_; rintro e W95 ⟨rfl, b94⟩
  have h96 := QvR.below (b94.mono (by omega)) h85
  have h97 := SlB.below (b94.mono (by omega)) h86
  have h98 := h87.below b94
  have h99 := h82.below b94
  have k100 := k88.call b94
  have s101 : W84.heap.size ≤ W95.heap.size := b94.size
  have g102 := bthen g90 b94
  clear h85 h86 h87 h82 k88 g90 b94 c91 c92 c93
  have c103 := k100.cell' (i := 0) rfl
  have c104 := k100.cell' (i := 1) rfl
  have c105 := k100.cell' (i := 2) rfl
  clear h98
  clear h99
  go_wp2_with fail
  refine (quiv_to _ _ _ (QvR.more (by omega) h96) (by omega)).mono ?_; rintro e W109 ⟨v106, rfl, h107, b108⟩
  have h110 := QvR.below (b108.mono (by omega)) h96
  have h111 := SlB.below (b108.mono (by omega)) h97
  have k112 := k100.call b108
  have s113 : W95.heap.size ≤ W109.heap.size := b108.size
  have g114 := bthen g102 b108
  clear h96 h97 k100 g102 b108 c103 c104 c105
  have c115 := k112.cell' (i := 0) rfl
  have c116 := k112.cell' (i := 1) rfl
  have c117 := k112.cell' (i := 2) rfl
  obtain ⟨Ax118, cx118, Cx118, dx118, e119⟩ := h107.form
  subst e119
  have c123 := fun o => (k112.alloc o).cell' (i := 0) rfl
  have c124 := fun o => (k112.alloc o).cell' (i := 1) rfl
  have c125 := fun o => (k112.alloc o).cell' (i := 2) rfl
  go_wp2_with fail
  obtain ⟨W126, e127⟩ : ∃ W, W = W109.alloc (.cells #[.int .i64 (q).v, .slice Ax118 (q).f.length cx118, .slice Cx118 (q).t.length dx118] 26) := ⟨_, rfl⟩
  rw [← e127]
  have b128 : Below W109.heap.size W109 W126 := by rw [e127]; exact below_alloc _ _
  have k129 : Blk W126 W109.heap.size 26 #[.int .i64 (q).v, .slice Ax118 (q).f.length cx118, .slice Cx118 (q).t.length dx118] := by rw [e127]; exact Blk.new _ _ _
  have s130 : W109.heap.size < W126.heap.size := by rw [e127]; simp
  clear e127
  have h131 := QvR.below (b128.mono (by omega)) h110
  have h132 := SlB.below (b128.mono (by omega)) h111
  have h133 := h107.below b128
  have k134 := k112.call b128
  have s135 : W109.heap.size ≤ W126.heap.size := b128.size
  have g136 := bthen g114 b128
  clear h110 h111 h107 k112 g114 b128 c115 c116 c117 c123 c124 c125
  have c137 := k134.cell' (i := 0) rfl
  have c138 := k134.cell' (i := 1) rfl
  have c139 := k134.cell' (i := 2) rfl
  have c140 := k129.cell' (i := 0) rfl
  have c141 := k129.cell' (i := 1) rfl
  have c142 := k129.cell' (i := 2) rfl
  refine (bars_to _ _ _ (SlB.more (by omega) h132) (by omega)).mono ?_; rintro e W143 ⟨v120, rfl, h121, b122⟩
  have h144 := QvR.below (b122.mono (by omega)) h131
  have h145 := SlB.below (b122.mono (by omega)) h132
  have h146 := h133.below b122
  have k147 := k134.call b122
  have k148 := k129.call b122
  have s149 : W126.heap.size ≤ W143.heap.size := b122.size
  have g150 := bthen g136 b122
  clear h131 h132 h133 k134 k129 g136 b122 c137 c138 c139 c140 c141 c142
  have c151 := k147.cell' (i := 0) rfl
  have c152 := k147.cell' (i := 1) rfl
  have c153 := k147.cell' (i := 2) rfl
  have c154 := k148.cell' (i := 0) rfl
  have c155 := k148.cell' (i := 1) rfl
  have c156 := k148.cell' (i := 2) rfl
  go_wp2_with fail
  refine (implAreBars_any _ _ _ _ _ h146.rd h121.rd).mono ?_; rintro e W158 ⟨rfl, b157⟩
  have h159 := QvR.below (b157.mono (by omega)) h144
  have h160 := SlB.below (b157.mono (by omega)) h145
  have h161 := h146.below b157
  have h162 := h121.below b157
  have k163 := k147.call b157
  have k164 := k148.call b157
  have s165 : W143.heap.size ≤ W158.heap.size := b157.size
  have g166 := bthen g150 b157
  clear h144 h145 h146 h121 k147 k148 g150 b157 c151 c152 c153 c154 c155 c156
  have c167 := k163.cell' (i := 0) rfl
  have c168 := k163.cell' (i := 1) rfl
  have c169 := k163.cell' (i := 2) rfl
  have c170 := k164.cell' (i := 0) rfl
  have c171 := k164.cell' (i := 1) rfl
  have c172 := k164.cell' (i := 2) rfl
  go_wp2_with fail
  have b173 := drew_below W158
  have h174 := QvR.below (b173.mono (by omega)) h159
  have h175 := SlB.below (b173.mono (by omega)) h160
  have h176 := h161.below b173
  have h177 := h162.below b173
  have k178 := k163.call b173
  have k179 := k164.call b173
  have s180 : W158.heap.size ≤ W158.drew.heap.size := b173.size
  have g181 := bthen g166 b173
  clear h159 h160 h161 h162 k163 k164 g166 b173 c167 c168 c169 c170 c171 c172
  have c182 := k178.cell' (i := 0) rfl
  have c183 := k178.cell' (i := 1) rfl
  have c184 := k178.cell' (i := 2) rfl
  have c185 := k179.cell' (i := 0) rfl
  have c186 := k179.cell' (i := 1) rfl
  have c187 := k179.cell' (i := 2) rfl
  go_region_held3 (fun W' => W'.cell? ⟨w.heap.size, 0, none⟩ = some (.int .i64 (q).v) ∧ W'.cell? ⟨w.heap.size, 1, none⟩ = some (.slice Auq (q).f.length cuq) ∧ W'.cell? ⟨w.heap.size, 2, none⟩ = some (.slice Cuq (q).t.length duq) ∧ W'.cell? ⟨W109.heap.size, 0, none⟩ = some (.int .i64 (q).v) ∧ W'.cell? ⟨W109.heap.size, 1, none⟩ = some (.slice Ax118 (q).f.length cx118) ∧ W'.cell? ⟨W109.heap.size, 2, none⟩ = some (.slice Cx118 (q).t.length dx118))
    (first | exact ⟨c182, c183, c184, c185, c186, c187⟩ | exact ⟨c200, c201, c202, c203, c204, c205⟩ | exact ⟨c217, c218, c219, c220, c221, c222⟩)
    (first | (go_at_call 17; refine (quiv_to _ _ _ (QvR.more (by omega) h174) (by omega)).mono ?_; rintro e W191 ⟨v188, rfl, h189, b190⟩; have h192 := QvR.below (b190.mono (by omega)) h174; have h193 := SlB.below (b190.mono (by omega)) h175; have h194 := h176.below b190; have h195 := h177.below b190; have k196 := k178.call b190; have k197 := k179.call b190; have s198 : W158.drew.heap.size ≤ W191.heap.size := b190.size; have g199 := bthen g181 b190; clear h174 h175 h176 h177 k178 k179 g181 b190 c182 c183 c184 c185 c186 c187; have c200 := k196.cell' (i := 0) rfl; have c201 := k196.cell' (i := 1) rfl; have c202 := k196.cell' (i := 2) rfl; have c203 := k197.cell' (i := 0) rfl; have c204 := k197.cell' (i := 1) rfl; have c205 := k197.cell' (i := 2) rfl) | (go_at_call 20; refine (eqQuiver_any _ _ _ _ _ h194.rd h189.rd).mono ?_; rintro e W207 ⟨rfl, b206⟩; have h208 := QvR.below (b206.mono (by omega)) h192; have h209 := SlB.below (b206.mono (by omega)) h193; have h210 := h194.below b206; have h211 := h195.below b206; have h212 := h189.below b206; have k213 := k196.call b206; have k214 := k197.call b206; have s215 : W191.heap.size ≤ W207.heap.size := b206.size; have g216 := bthen g199 b206; clear h192 h193 h194 h195 h189 k196 k197 g199 b206 c200 c201 c202 c203 c204 c205; have c217 := k213.cell' (i := 0) rfl; have c218 := k213.cell' (i := 1) rfl; have c219 := k213.cell' (i := 2) rfl; have c220 := k214.cell' (i := 0) rfl; have c221 := k214.cell' (i := 1) rfl; have c222 := k214.cell' (i := 2) rfl))
  clear h212
  go_wp2_with fail
  refine (bars_to _ _ _ (SlB.more (by omega) h209) (by omega)).mono ?_; rintro e W226 ⟨v223, rfl, h224, b225⟩
  have h227 := QvR.below (b225.mono (by omega)) h208
  have h228 := SlB.below (b225.mono (by omega)) h209
  have h229 := h210.below b225
  have h230 := h211.below b225
  have k231 := k213.call b225
  have k232 := k214.call b225
  have s233 : W207.heap.size ≤ W226.heap.size := b225.size
  have g234 := bthen g216 b225
  clear h208 h209 h210 h211 k213 k214 g216 b225 c217 c218 c219 c220 c221 c222
  have c235 := k231.cell' (i := 0) rfl
  have c236 := k231.cell' (i := 1) rfl
  have c237 := k231.cell' (i := 2) rfl
  have c238 := k232.cell' (i := 0) rfl
  have c239 := k232.cell' (i := 1) rfl
  have c240 := k232.cell' (i := 2) rfl
  go_wp2_with fail
  refine (eqBarS_any _ _ _ _ _ h230.rd h224.rd).mono ?_; rintro e W242 ⟨rfl, b241⟩
  have h243 := QvR.below (b241.mono (by omega)) h227
  have h244 := SlB.below (b241.mono (by omega)) h228
  have h245 := h229.below b241
  have h246 := h230.below b241
  have h247 := h224.below b241
  have k248 := k231.call b241
  have k249 := k232.call b241
  have s250 : W226.heap.size ≤ W242.heap.size := b241.size
  have g251 := bthen g234 b241
  clear h227 h228 h229 h230 h224 k231 k232 g234 b241 c235 c236 c237 c238 c239 c240
  have c252 := k248.cell' (i := 0) rfl
  have c253 := k248.cell' (i := 1) rfl
  have c254 := k248.cell' (i := 2) rfl
  have c255 := k249.cell' (i := 0) rfl
  have c256 := k249.cell' (i := 1) rfl
  have c257 := k249.cell' (i := 2) rfl
  clear h247
  go_wp2
  go_ret
  exact ⟨rfl, g251⟩
end Go.Proofs.Ytjhllgldllbaaaa
