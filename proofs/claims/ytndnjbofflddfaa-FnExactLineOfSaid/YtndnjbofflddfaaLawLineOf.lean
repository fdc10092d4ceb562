/- The walk of FnExactLineOf, printed by program (wip/law.py) out of the contracts of what it calls. -/
import Derived.Test.YtndnjbofflddfaaLineOf
namespace Go.Proofs.Ytndnjbofflddfaa
set_option linter.unusedVariables false
set_option linter.unusedSimpArgs false
open Go.RowKit

set_option maxHeartbeats 4000000 in
set_option maxRecDepth 100000 in
theorem lawLineOf_any (n : Int) (w : World) (rng_n : I64 n) :
    Calls Try.prog 4 #[.int .i64 n] w fun e w' => e = .returned (.bool true) ∧ Below w.heap.size w w' := by
  have g0 := Below.refl w.heap.size w
  go_enter Try.func4, Try.ntmps4
  go_wp2_with fail
  refine (specLineOf_any _ _ rng_n).mono ?_; rintro e W4 ⟨r1, rfl, h2, b3⟩
  have s5 : w.heap.size ≤ W4.heap.size := b3.size
  have g6 := bthen g0 b3
  clear g0 b3
  have h7 := h2.rd
  clear h2
  obtain ⟨Ax8, cx8, Cx8, dx8, e9⟩ := QvR.form h7
  subst e9
  go_wp2_with fail
  obtain ⟨W13, e14⟩ : ∃ W, W = W4.alloc (.cells #[.int .i64 (lineQ n).v, .slice Ax8 (lineQ n).f.length cx8, .slice Cx8 (lineQ n).t.length dx8] 30) := ⟨_, rfl⟩
  rw [← e14]
  have b15 : Below W4.heap.size W4 W13 := by rw [e14]; exact below_alloc _ _
  have k16 : Blk W13 W4.heap.size 30 #[.int .i64 (lineQ n).v, .slice Ax8 (lineQ n).f.length cx8, .slice Cx8 (lineQ n).t.length dx8] := by rw [e14]; exact Blk.new _ _ _
  have s17 : W4.heap.size < W13.heap.size := k16.lt
  clear e14
  have h18 := QvR.below (b15.mono (by omega)) h7
  have s19 : W4.heap.size ≤ W13.heap.size := b15.size
  have g20 := bthen g6 b15
  clear h7 g6 b15
  have c21 := k16.cell' (i := 0) rfl
  have c22 := k16.cell' (i := 1) rfl
  have c23 := k16.cell' (i := 2) rfl
  refine (implLineOf_any _ _ rng_n).mono ?_; rintro e W24 ⟨r10, rfl, h11, b12⟩
  have h25 := QvR.below (b12.mono (by omega)) h18
  have k26 := k16.call b12
  have s27 : W13.heap.size ≤ W24.heap.size := b12.size
  have g28 := bthen g20 b12
  clear h18 k16 g20 b12 c21 c22 c23
  have c29 := k26.cell' (i := 0) rfl
  have c30 := k26.cell' (i := 1) rfl
  have c31 := k26.cell' (i := 2) rfl
  obtain ⟨Ax32, cx32, Cx32, dx32, e33⟩ := h11.form
  subst e33
  have c35 := fun o => (k26.alloc o).cell' (i := 0) rfl
  have c36 := fun o => (k26.alloc o).cell' (i := 1) rfl
  have c37 := fun o => (k26.alloc o).cell' (i := 2) rfl
  go_wp2_with fail
  obtain ⟨W38, e39⟩ : ∃ W, W = W24.alloc (.cells #[.int .i64 (lineQ n).v, .slice Ax32 (lineQ n).f.length cx32, .slice Cx32 (lineQ n).t.length dx32] 30) := ⟨_, rfl⟩
  rw [← e39]
  have b40 : Below W24.heap.size W24 W38 := by rw [e39]; exact below_alloc _ _
  have k41 : Blk W38 W24.heap.size 30 #[.int .i64 (lineQ n).v, .slice Ax32 (lineQ n).f.length cx32, .slice Cx32 (lineQ n).t.length dx32] := by rw [e39]; exact Blk.new _ _ _
  have s42 : W24.heap.size < W38.heap.size := k41.lt
  clear e39
  have h43 := QvR.below (b40.mono (by omega)) h25
  have h44 := h11.below b40
  have k45 := k26.call b40
  have s46 : W24.heap.size ≤ W38.heap.size := b40.size
  have g47 := bthen g28 b40
  clear h25 h11 k26 g28 b40 c29 c30 c31 c35 c36 c37
  have c48 := k45.cell' (i := 0) rfl
  have c49 := k45.cell' (i := 1) rfl
  have c50 := k45.cell' (i := 2) rfl
  have c51 := k41.cell' (i := 0) rfl
  have c52 := k41.cell' (i := 1) rfl
  have c53 := k41.cell' (i := 2) rfl
  refine (eqQuiver_any _ _ _ _ _ h44.rd (QvR.more (by omega) h43)).mono ?_; rintro e W54 ⟨rfl, b34⟩
  have h55 := QvR.below (b34.mono (by omega)) h43
  have h56 := h44.below b34
  have k57 := k45.call b34
  have k58 := k41.call b34
  have s59 : W38.heap.size ≤ W54.heap.size := b34.size
  have g60 := bthen g47 b34
  clear h43 h44 k45 k41 g47 b34 c48 c49 c50 c51 c52 c53
  have c61 := k57.cell' (i := 0) rfl
  have c62 := k57.cell' (i := 1) rfl
  have c63 := k57.cell' (i := 2) rfl
  have c64 := k58.cell' (i := 0) rfl
  have c65 := k58.cell' (i := 1) rfl
  have c66 := k58.cell' (i := 2) rfl
  go_wp2_with fail
  refine (quiv_mark _ _ _ _ _ _ h56 (by omega) (by omega) (by omega)).mono ?_; rintro e W69 ⟨rfl, h67, q68⟩
  have h70 := QvR.chg h55 q68 (by omega) (by omega)
  have k71 := k57.chg q68 (by omega)
  have k72 := k58.chg q68 (by omega)
  have s73 : W54.heap.size ≤ W69.heap.size := q68.size
  have g74 := g60.trans (q68.below (by omega) (by omega))
  clear h55 k57 k58 g60 q68 c61 c62 c63 c64 c65 c66
  have c75 := k71.cell' (i := 0) rfl
  have c76 := k71.cell' (i := 1) rfl
  have c77 := k71.cell' (i := 2) rfl
  have c78 := k72.cell' (i := 0) rfl
  have c79 := k72.cell' (i := 1) rfl
  have c80 := k72.cell' (i := 2) rfl
  clear h56
  go_wp2_with fail
  refine (quiv_held _ _ _ _ h67.rd (by omega) (by omega)).mono ?_; rintro e W82 ⟨rfl, b81⟩
  have h83 := QvR.below (b81.mono (by omega)) h70
  have h84 := h67.below b81
  have k85 := k71.call b81
  have k86 := k72.call b81
  have s87 : W69.heap.size ≤ W82.heap.size := b81.size
  have g88 := bthen g74 b81
  clear h70 h67 k71 k72 g74 b81 c75 c76 c77 c78 c79 c80
  have c89 := k85.cell' (i := 0) rfl
  have c90 := k85.cell' (i := 1) rfl
  have c91 := k85.cell' (i := 2) rfl
  have c92 := k86.cell' (i := 0) rfl
  have c93 := k86.cell' (i := 1) rfl
  have c94 := k86.cell' (i := 2) rfl
  go_wp2_with fail
  refine (implLineOf_any _ _ rng_n).mono ?_; rintro e W98 ⟨r95, rfl, h96, b97⟩
  have h99 := QvR.below (b97.mono (by omega)) h83
  have h100 := h84.below b97
  have k101 := k85.call b97
  have k102 := k86.call b97
  have s103 : W82.heap.size ≤ W98.heap.size := b97.size
  have g104 := bthen g88 b97
  clear h83 h84 k85 k86 g88 b97 c89 c90 c91 c92 c93 c94
  have c105 := k101.cell' (i := 0) rfl
  have c106 := k101.cell' (i := 1) rfl
  have c107 := k101.cell' (i := 2) rfl
  have c108 := k102.cell' (i := 0) rfl
  have c109 := k102.cell' (i := 1) rfl
  have c110 := k102.cell' (i := 2) rfl
  obtain ⟨Ax111, cx111, Cx111, dx111, e112⟩ := h96.form
  subst e112
  have c114 := fun o => (k101.alloc o).cell' (i := 0) rfl
  have c115 := fun o => (k101.alloc o).cell' (i := 1) rfl
  have c116 := fun o => (k101.alloc o).cell' (i := 2) rfl
  have c117 := fun o => (k102.alloc o).cell' (i := 0) rfl
  have c118 := fun o => (k102.alloc o).cell' (i := 1) rfl
  have c119 := fun o => (k102.alloc o).cell' (i := 2) rfl
  go_wp2_with fail
  obtain ⟨W120, e121⟩ : ∃ W, W = W98.alloc (.cells #[.int .i64 (lineQ n).v, .slice Ax111 (lineQ n).f.length cx111, .slice Cx111 (lineQ n).t.length dx111] 30) := ⟨_, rfl⟩
  rw [← e121]
  have b122 : Below W98.heap.size W98 W120 := by rw [e121]; exact below_alloc _ _
  have k123 : Blk W120 W98.heap.size 30 #[.int .i64 (lineQ n).v, .slice Ax111 (lineQ n).f.length cx111, .slice Cx111 (lineQ n).t.length dx111] := by rw [e121]; exact Blk.new _ _ _
  have s124 : W98.heap.size < W120.heap.size := k123.lt
  clear e121
  have h125 := QvR.below (b122.mono (by omega)) h99
  have h126 := h100.below b122
  have h127 := h96.below b122
  have k128 := k101.call b122
  have k129 := k102.call b122
  have s130 : W98.heap.size ≤ W120.heap.size := b122.size
  have g131 := bthen g104 b122
  clear h99 h100 h96 k101 k102 g104 b122 c105 c106 c107 c108 c109 c110 c114 c115 c116 c117 c118 c119
  have c132 := k128.cell' (i := 0) rfl
  have c133 := k128.cell' (i := 1) rfl
  have c134 := k128.cell' (i := 2) rfl
  have c135 := k129.cell' (i := 0) rfl
  have c136 := k129.cell' (i := 1) rfl
  have c137 := k129.cell' (i := 2) rfl
  have c138 := k123.cell' (i := 0) rfl
  have c139 := k123.cell' (i := 1) rfl
  have c140 := k123.cell' (i := 2) rfl
  refine (eqQuiver_any _ _ _ _ _ h127.rd (QvR.more (by omega) h125)).mono ?_; rintro e W141 ⟨rfl, b113⟩
  have h142 := QvR.below (b113.mono (by omega)) h125
  have h143 := h126.below b113
  have h144 := h127.below b113
  have k145 := k128.call b113
  have k146 := k129.call b113
  have k147 := k123.call b113
  have s148 : W120.heap.size ≤ W141.heap.size := b113.size
  have g149 := bthen g131 b113
  clear h125 h126 h127 k128 k129 k123 g131 b113 c132 c133 c134 c135 c136 c137 c138 c139 c140
  have c150 := k145.cell' (i := 0) rfl
  have c151 := k145.cell' (i := 1) rfl
  have c152 := k145.cell' (i := 2) rfl
  have c153 := k146.cell' (i := 0) rfl
  have c154 := k146.cell' (i := 1) rfl
  have c155 := k146.cell' (i := 2) rfl
  have c156 := k147.cell' (i := 0) rfl
  have c157 := k147.cell' (i := 1) rfl
  have c158 := k147.cell' (i := 2) rfl
  clear h144
  go_wp2_with fail
  refine (quiv_held _ _ _ _ h143.rd (by omega) (by omega)).mono ?_; rintro e W160 ⟨rfl, b159⟩
  have h161 := QvR.below (b159.mono (by omega)) h142
  have h162 := h143.below b159
  have k163 := k145.call b159
  have k164 := k146.call b159
  have k165 := k147.call b159
  have s166 : W141.heap.size ≤ W160.heap.size := b159.size
  have g167 := bthen g149 b159
  clear h142 h143 k145 k146 k147 g149 b159 c150 c151 c152 c153 c154 c155 c156 c157 c158
  have c168 := k163.cell' (i := 0) rfl
  have c169 := k163.cell' (i := 1) rfl
  have c170 := k163.cell' (i := 2) rfl
  have c171 := k164.cell' (i := 0) rfl
  have c172 := k164.cell' (i := 1) rfl
  have c173 := k164.cell' (i := 2) rfl
  have c174 := k165.cell' (i := 0) rfl
  have c175 := k165.cell' (i := 1) rfl
  have c176 := k165.cell' (i := 2) rfl
  go_wp2
  go_ret
  exact ⟨rfl, g167⟩
end Go.Proofs.Ytndnjbofflddfaa
