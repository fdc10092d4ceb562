/- FnExactRootDecompositions: for every argument the program's function returns what the reference's returns. Part 12 of 12 of the proof: LawRootDecompositions, LawRootDecompositionsRow. No condition. -/
import Derived.Test.YtkhkamcmlhmpiaaBRootDecompositions11
/- The walk of FnExactRootDecompositions, printed by program (wip/law.py) out of the contracts of what it calls. -/
namespace Go.Proofs.Ytkhkamcmlhmpiaa
set_option linter.unusedVariables false
set_option linter.unusedSimpArgs false
open Go.RowKit

set_option maxHeartbeats 1600000 in
set_option maxRecDepth 100000 in
theorem lawRootDecompositions_any (uq : Value) (q : Qv) (ux : Value) (x : List Int) (w : World) (hq : QvR w w.heap.size uq q) (hx : SlI w w.heap.size ux x) :
    Calls Try.prog 9 #[uq, ux] w fun e w' => e = .returned (.bool true) ∧ Below w.heap.size w w' := by
  obtain ⟨Auq, cuq, Cuq, duq, eq⟩ := QvR.form hq
  subst eq
  have lq := QvR.lens hq
  obtain ⟨Ax, cx, rfl, _, _, lx, _⟩ := hx.open_
  have zr := rdQ_tot q x
  have g0 := Below.refl w.heap.size w
  by_cases z0 : (1048576 : Int) < x.length
  · go_enter Try.func9, Try.ntmps9
    go_wp2
    go_ret
    exact ⟨rfl, (g0).alloc (by simp) _⟩
  by_cases z1 : (1048576 : Int) < (q.size : Nat)
  · have y1 : szLeft (1048576 : Int) (q.size) = -1 := by rw [szLeft, if_pos z1]
    go_enter Try.func9, Try.ntmps9
    go_wp2_with fail
    obtain ⟨W2, e3⟩ : ∃ W, W = w.alloc (.cells #[.int .i64 (q).v, .slice Auq (q).f.length cuq, .slice Cuq (q).t.length duq] 24) := ⟨_, rfl⟩
    rw [← e3]
    have b4 : Below w.heap.size w W2 := by rw [e3]; exact below_alloc _ _
    have k5 : Blk W2 w.heap.size 24 #[.int .i64 (q).v, .slice Auq (q).f.length cuq, .slice Cuq (q).t.length duq] := by rw [e3]; exact Blk.new _ _ _
    have s6 : w.heap.size < W2.heap.size := by rw [e3]; simp
    clear e3
    have h7 := QvR.below (b4.mono (by omega)) hq
    have h8 := SlI.below (b4.mono (by omega)) hx
    have s9 : w.heap.size ≤ W2.heap.size := b4.size
    have g10 := bthen g0 b4
    clear hq hx g0 b4
    have c11 := k5.cell' (i := 0) rfl
    have c12 := k5.cell' (i := 1) rfl
    have c13 := k5.cell' (i := 2) rfl
    refine (szQuiver_any _ _ (1048576 : Int) _ (QvR.more (by omega) h7) (by omega) (by omega)).mono ?_; rintro e W14 ⟨rfl, b1⟩
    have h15 := QvR.below (b1.mono (by omega)) h7
    have h16 := SlI.below (b1.mono (by omega)) h8
    have k17 := k5.call b1
    have s18 : W2.heap.size ≤ W14.heap.size := b1.size
    have g19 := bthen g10 b1
    clear h7 h8 k5 g10 b1 c11 c12 c13
    have c20 := k17.cell' (i := 0) rfl
    have c21 := k17.cell' (i := 1) rfl
    have c22 := k17.cell' (i := 2) rfl
    go_wp2
    go_ret
    exact ⟨rfl, g19⟩
  have y1 : szLeft (1048576 : Int) (q.size) = (1048576 : Int) - (q.size : Nat) := by rw [szLeft, if_neg z1]
  have x1 : ¬ ((1048576 : Int) - ((q.size : Nat) : Int) < 0) := by omega
  go_enter Try.func9, Try.ntmps9
  go_wp2_with fail
  obtain ⟨W24, e25⟩ : ∃ W, W = w.alloc (.cells #[.int .i64 (q).v, .slice Auq (q).f.length cuq, .slice Cuq (q).t.length duq] 24) := ⟨_, rfl⟩
  rw [← e25]
  have b26 : Below w.heap.size w W24 := by rw [e25]; exact below_alloc _ _
  have k27 : Blk W24 w.heap.size 24 #[.int .i64 (q).v, .slice Auq (q).f.length cuq, .slice Cuq (q).t.length duq] := by rw [e25]; exact Blk.new _ _ _
  have s28 : w.heap.size < W24.heap.size := by rw [e25]; simp
  clear e25
  have h29 := QvR.below (b26.mono (by omega)) hq
  have h30 := SlI.below (b26.mono (by omega)) hx
  have s31 : w.heap.size ≤ W24.heap.size := b26.size
  have g32 := bthen g0 b26
  clear hq hx g0 b26
  have c33 := k27.cell' (i := 0) rfl
  have c34 := k27.cell' (i := 1) rfl
  have c35 := k27.cell' (i := 2) rfl
  refine (szQuiver_any _ _ (1048576 : Int) _ (QvR.more (by omega) h29) (by omega) (by omega)).mono ?_; rintro e W36 ⟨rfl, b23⟩
  have h37 := QvR.below (b23.mono (by omega)) h29
  have h38 := SlI.below (b23.mono (by omega)) h30
  have k39 := k27.call b23
  have s40 : W24.heap.size ≤ W36.heap.size := b23.size
  have g41 := bthen g32 b23
  clear h29 h30 k27 g32 b23 c33 c34 c35
  have c42 := k39.cell' (i := 0) rfl
  have c43 := k39.cell' (i := 1) rfl
  have c44 := k39.cell' (i := 2) rfl
  go_wp2_with fail
  refine (quiv_to _ _ _ (QvR.more (by omega) h37) (by omega)).mono ?_; rintro e W48 ⟨v45, rfl, h46, b47⟩
  have h49 := QvR.below (b47.mono (by omega)) h37
  have h50 := SlI.below (b47.mono (by omega)) h38
  have k51 := k39.call b47
  have s52 : W36.heap.size ≤ W48.heap.size := b47.size
  have g53 := bthen g41 b47
  clear h37 h38 k39 g41 b47 c42 c43 c44
  have c54 := k51.cell' (i := 0) rfl
  have c55 := k51.cell' (i := 1) rfl
  have c56 := k51.cell' (i := 2) rfl
  go_wp2_with fail
  refine (ints_to _ _ _ (SlI.more (by omega) h50) (by omega)).mono ?_; rintro e W60 ⟨v57, rfl, h58, b59⟩
  have h61 := QvR.below (b59.mono (by omega)) h49
  have h62 := SlI.below (b59.mono (by omega)) h50
  have h63 := h46.below b59
  have k64 := k51.call b59
  have s65 : W48.heap.size ≤ W60.heap.size := b59.size
  have g66 := bthen g53 b59
  clear h49 h50 h46 k51 g53 b59 c54 c55 c56
  have c67 := k64.cell' (i := 0) rfl
  have c68 := k64.cell' (i := 1) rfl
  have c69 := k64.cell' (i := 2) rfl
  go_wp2_with fail
  refine (specRootDecompositions_any _ _ _ _ _ h63.rd h58.rd).mono ?_; rintro e W73 ⟨r70, rfl, h71, b72⟩
  have h74 := QvR.below (b72.mono (by omega)) h61
  have h75 := SlI.below (b72.mono (by omega)) h62
  have h76 := h63.below b72
  have h77 := h58.below b72
  have k78 := k64.call b72
  have s79 : W60.heap.size ≤ W73.heap.size := b72.size
  have g80 := bthen g66 b72
  clear h61 h62 h63 h58 k64 g66 b72 c67 c68 c69
  have c81 := k78.cell' (i := 0) rfl
  have c82 := k78.cell' (i := 1) rfl
  have c83 := k78.cell' (i := 2) rfl
  have h84 := h71.rd
  clear h71
  clear h76
  clear h77
  go_wp2_with fail
  refine (quiv_to _ _ _ (QvR.more (by omega) h74) (by omega)).mono ?_; rintro e W88 ⟨v85, rfl, h86, b87⟩
  have h89 := QvR.below (b87.mono (by omega)) h74
  have h90 := SlI.below (b87.mono (by omega)) h75
  have h91 := SlII.below (b87.mono (by omega)) h84
  have k92 := k78.call b87
  have s93 : W73.heap.size ≤ W88.heap.size := b87.size
  have g94 := bthen g80 b87
  clear h74 h75 h84 k78 g80 b87 c81 c82 c83
  have c95 := k92.cell' (i := 0) rfl
  have c96 := k92.cell' (i := 1) rfl
  have c97 := k92.cell' (i := 2) rfl
  obtain ⟨Ax98, cx98, Cx98, dx98, e99⟩ := h86.form
  subst e99
  have c103 := fun o => (k92.alloc o).cell' (i := 0) rfl
  have c104 := fun o => (k92.alloc o).cell' (i := 1) rfl
  have c105 := fun o => (k92.alloc o).cell' (i := 2) rfl
  go_wp2_with fail
  obtain ⟨W106, e107⟩ : ∃ W, W = W88.alloc (.cells #[.int .i64 (q).v, .slice Ax98 (q).f.length cx98, .slice Cx98 (q).t.length dx98] 28) := ⟨_, rfl⟩
  rw [← e107]
  have b108 : Below W88.heap.size W88 W106 := by rw [e107]; exact below_alloc _ _
  have k109 : Blk W106 W88.heap.size 28 #[.int .i64 (q).v, .slice Ax98 (q).f.length cx98, .slice Cx98 (q).t.length dx98] := by rw [e107]; exact Blk.new _ _ _
  have s110 : W88.heap.size < W106.heap.size := by rw [e107]; simp
  clear e107
  have h111 := QvR.below (b108.mono (by omega)) h89
  have h112 := SlI.below (b108.mono (by omega)) h90
  have h113 := SlII.below (b108.mono (by omega)) h91
  have h114 := h86.below b108
  have k115 := k92.call b108
  have s116 : W88.heap.size ≤ W106.heap.size := b108.size
  have g117 := bthen g94 b108
  clear h89 h90 h91 h86 k92 g94 b108 c95 c96 c97 c103 c104 c105
  have c118 := k115.cell' (i := 0) rfl
  have c119 := k115.cell' (i := 1) rfl
  have c120 := k115.cell' (i := 2) rfl
  have c121 := k109.cell' (i := 0) rfl
  have c122 := k109.cell' (i := 1) rfl
  have c123 := k109.cell' (i := 2) rfl
  refine (ints_to _ _ _ (SlI.more (by omega) h112) (by omega)).mono ?_; rintro e W124 ⟨v100, rfl, h101, b102⟩
  have h125 := QvR.below (b102.mono (by omega)) h111
  have h126 := SlI.below (b102.mono (by omega)) h112
  have h127 := SlII.below (b102.mono (by omega)) h113
  have h128 := h114.below b102
  have k129 := k115.call b102
  have k130 := k109.call b102
  have s131 : W106.heap.size ≤ W124.heap.size := b102.size
  have g132 := bthen g117 b102
  clear h111 h112 h113 h114 k115 k109 g117 b102 c118 c119 c120 c121 c122 c123
  have c133 := k129.cell' (i := 0) rfl
  have c134 := k129.cell' (i := 1) rfl
  have c135 := k129.cell' (i := 2) rfl
  have c136 := k130.cell' (i := 0) rfl
  have c137 := k130.cell' (i := 1) rfl
  have c138 := k130.cell' (i := 2) rfl
  go_wp2_with fail
  refine (implRootDecompositions_any _ _ _ _ _ h128.rd h101.rd).mono ?_; rintro e W142 ⟨r139, rfl, h140, b141⟩
  have h143 := QvR.below (b141.mono (by omega)) h125
  have h144 := SlI.below (b141.mono (by omega)) h126
  have h145 := SlII.below (b141.mono (by omega)) h127
  have h146 := h128.below b141
  have h147 := h101.below b141
  have k148 := k129.call b141
  have k149 := k130.call b141
  have s150 : W124.heap.size ≤ W142.heap.size := b141.size
  have g151 := bthen g132 b141
  clear h125 h126 h127 h128 h101 k129 k130 g132 b141 c133 c134 c135 c136 c137 c138
  have c152 := k148.cell' (i := 0) rfl
  have c153 := k148.cell' (i := 1) rfl
  have c154 := k148.cell' (i := 2) rfl
  have c155 := k149.cell' (i := 0) rfl
  have c156 := k149.cell' (i := 1) rfl
  have c157 := k149.cell' (i := 2) rfl
  go_wp2_with fail
  refine (eqIntSS_any _ _ _ _ _ h140.rd (SlII.more (by omega) h145)).mono ?_; rintro e W159 ⟨rfl, b158⟩
  have h160 := QvR.below (b158.mono (by omega)) h143
  have h161 := SlI.below (b158.mono (by omega)) h144
  have h162 := SlII.below (b158.mono (by omega)) h145
  have h163 := h146.below b158
  have h164 := h147.below b158
  have h165 := h140.below b158
  have k166 := k148.call b158
  have k167 := k149.call b158
  have s168 : W142.heap.size ≤ W159.heap.size := b158.size
  have g169 := bthen g151 b158
  clear h143 h144 h145 h146 h147 h140 k148 k149 g151 b158 c152 c153 c154 c155 c156 c157
  have c170 := k166.cell' (i := 0) rfl
  have c171 := k166.cell' (i := 1) rfl
  have c172 := k166.cell' (i := 2) rfl
  have c173 := k167.cell' (i := 0) rfl
  have c174 := k167.cell' (i := 1) rfl
  have c175 := k167.cell' (i := 2) rfl
  go_wp2_with fail
  have b176 := drew_below W159
  have h177 := QvR.below (b176.mono (by omega)) h160
  have h178 := SlI.below (b176.mono (by omega)) h161
  have h179 := SlII.below (b176.mono (by omega)) h162
  have h180 := h163.below b176
  have h181 := h164.below b176
  have h182 := h165.below b176
  have k183 := k166.call b176
  have k184 := k167.call b176
  have s185 : W159.heap.size ≤ W159.drew.heap.size := b176.size
  have g186 := bthen g169 b176
  clear h160 h161 h162 h163 h164 h165 k166 k167 g169 b176 c170 c171 c172 c173 c174 c175
  have c187 := k183.cell' (i := 0) rfl
  have c188 := k183.cell' (i := 1) rfl
  have c189 := k183.cell' (i := 2) rfl
  have c190 := k184.cell' (i := 0) rfl
  have c191 := k184.cell' (i := 1) rfl
  have c192 := k184.cell' (i := 2) rfl
  go_region_held3 (fun W' => W'.cell? ⟨w.heap.size, 0, none⟩ = some (.int .i64 (q).v) ∧ W'.cell? ⟨w.heap.size, 1, none⟩ = some (.slice Auq (q).f.length cuq) ∧ W'.cell? ⟨w.heap.size, 2, none⟩ = some (.slice Cuq (q).t.length duq) ∧ W'.cell? ⟨W88.heap.size, 0, none⟩ = some (.int .i64 (q).v) ∧ W'.cell? ⟨W88.heap.size, 1, none⟩ = some (.slice Ax98 (q).f.length cx98) ∧ W'.cell? ⟨W88.heap.size, 2, none⟩ = some (.slice Cx98 (q).t.length dx98))
    (first | exact ⟨c187, c188, c189, c190, c191, c192⟩ | exact ⟨c207, c208, c209, c210, c211, c212⟩ | exact ⟨c226, c227, c228, c229, c230, c231⟩)
    (first | (go_at_call 17; refine (quiv_to _ _ _ (QvR.more (by omega) h177) (by omega)).mono ?_; rintro e W196 ⟨v193, rfl, h194, b195⟩; have h197 := QvR.below (b195.mono (by omega)) h177; have h198 := SlI.below (b195.mono (by omega)) h178; have h199 := SlII.below (b195.mono (by omega)) h179; have h200 := h180.below b195; have h201 := h181.below b195; have h202 := h182.below b195; have k203 := k183.call b195; have k204 := k184.call b195; have s205 : W159.drew.heap.size ≤ W196.heap.size := b195.size; have g206 := bthen g186 b195; clear h177 h178 h179 h180 h181 h182 k183 k184 g186 b195 c187 c188 c189 c190 c191 c192; have c207 := k203.cell' (i := 0) rfl; have c208 := k203.cell' (i := 1) rfl; have c209 := k203.cell' (i := 2) rfl; have c210 := k204.cell' (i := 0) rfl; have c211 := k204.cell' (i := 1) rfl; have c212 := k204.cell' (i := 2) rfl) | (go_at_call 20; refine (eqQuiver_any _ _ _ _ _ h200.rd h194.rd).mono ?_; rintro e W214 ⟨rfl, b213⟩; have h215 := QvR.below (b213.mono (by omega)) h197; have h216 := SlI.below (b213.mono (by omega)) h198; have h217 := SlII.below (b213.mono (by omega)) h199; have h218 := h200.below b213; have h219 := h201.below b213; have h220 := h202.below b213; have h221 := h194.below b213; have k222 := k203.call b213; have k223 := k204.call b213; have s224 : W196.heap.size ≤ W214.heap.size := b213.size; have g225 := bthen g206 b213; clear h197 h198 h199 h200 h201 h202 h194 k203 k204 g206 b213 c207 c208 c209 c210 c211 c212; have c226 := k222.cell' (i := 0) rfl; have c227 := k222.cell' (i := 1) rfl; have c228 := k222.cell' (i := 2) rfl; have c229 := k223.cell' (i := 0) rfl; have c230 := k223.cell' (i := 1) rfl; have c231 := k223.cell' (i := 2) rfl))
  clear h221
  go_wp2_with fail
  refine (ints_to _ _ _ (SlI.more (by omega) h216) (by omega)).mono ?_; rintro e W235 ⟨v232, rfl, h233, b234⟩
  have h236 := QvR.below (b234.mono (by omega)) h215
  have h237 := SlI.below (b234.mono (by omega)) h216
  have h238 := SlII.below (b234.mono (by omega)) h217
  have h239 := h218.below b234
  have h240 := h219.below b234
  have h241 := h220.below b234
  have k242 := k222.call b234
  have k243 := k223.call b234
  have s244 : W214.heap.size ≤ W235.heap.size := b234.size
  have g245 := bthen g225 b234
  clear h215 h216 h217 h218 h219 h220 k222 k223 g225 b234 c226 c227 c228 c229 c230 c231
  have c246 := k242.cell' (i := 0) rfl
  have c247 := k242.cell' (i := 1) rfl
  have c248 := k242.cell' (i := 2) rfl
  have c249 := k243.cell' (i := 0) rfl
  have c250 := k243.cell' (i := 1) rfl
  have c251 := k243.cell' (i := 2) rfl
  go_wp2_with fail
  refine (eqIntS_any _ _ _ _ _ h240.rd h233.rd).mono ?_; rintro e W253 ⟨rfl, b252⟩
  have h254 := QvR.below (b252.mono (by omega)) h236
  have h255 := SlI.below (b252.mono (by omega)) h237
  have h256 := SlII.below (b252.mono (by omega)) h238
  have h257 := h239.below b252
  have h258 := h240.below b252
  have h259 := h241.below b252
  have h260 := h233.below b252
  have k261 := k242.call b252
  have k262 := k243.call b252
  have s263 : W235.heap.size ≤ W253.heap.size := b252.size
  have g264 := bthen g245 b252
  clear h236 h237 h238 h239 h240 h241 h233 k242 k243 g245 b252 c246 c247 c248 c249 c250 c251
  have c265 := k261.cell' (i := 0) rfl
  have c266 := k261.cell' (i := 1) rfl
  have c267 := k261.cell' (i := 2) rfl
  have c268 := k262.cell' (i := 0) rfl
  have c269 := k262.cell' (i := 1) rfl
  have c270 := k262.cell' (i := 2) rfl
  clear h260
  go_wp2_with fail
  refine (quiv_mark _ _ _ _ _ _ h257 (by omega) (by omega) (by omega)).mono ?_; rintro e W273 ⟨rfl, h271, q272⟩
  have h274 := QvR.chg h254 q272 (by omega) (by omega)
  have h275 := SlI.chg h255 q272 (by omega) (by omega)
  have h276 := SlII.chg h256 q272 (by omega) (by omega)
  have h277 := h258.chg q272 (by omega)
  have h278 := h259.chg q272 (by omega)
  have k279 := k261.chg q272 (by omega)
  have k280 := k262.chg q272 (by omega)
  have s281 : W253.heap.size ≤ W273.heap.size := q272.size
  have g282 := g264.trans (q272.below (by omega) (by omega))
  clear h254 h255 h256 h258 h259 k261 k262 g264 q272 c265 c266 c267 c268 c269 c270
  have c283 := k279.cell' (i := 0) rfl
  have c284 := k279.cell' (i := 1) rfl
  have c285 := k279.cell' (i := 2) rfl
  have c286 := k280.cell' (i := 0) rfl
  have c287 := k280.cell' (i := 1) rfl
  have c288 := k280.cell' (i := 2) rfl
  clear h257
  go_wp2_with fail
  refine (ints_mark _ _ _ _ _ _ h277 (by omega) (by omega)).mono ?_; rintro e W291 ⟨rfl, h289, q290⟩
  have h292 := QvR.chg h274 q290 (by omega) (by omega)
  have h293 := SlI.chg h275 q290 (by omega) (by omega)
  have h294 := SlII.chg h276 q290 (by omega) (by omega)
  have h295 := h271.chg q290 (by omega)
  have h296 := h278.chg q290 (by omega)
  have k297 := k279.chg q290 (by omega)
  have k298 := k280.chg q290 (by omega)
  have s299 : W273.heap.size ≤ W291.heap.size := q290.size
  have g300 := g282.trans (q290.below (by omega) (by omega))
  clear h274 h275 h276 h271 h278 k279 k280 g282 q290 c283 c284 c285 c286 c287 c288
  have c301 := k297.cell' (i := 0) rfl
  have c302 := k297.cell' (i := 1) rfl
  have c303 := k297.cell' (i := 2) rfl
  have c304 := k298.cell' (i := 0) rfl
  have c305 := k298.cell' (i := 1) rfl
  have c306 := k298.cell' (i := 2) rfl
  clear h277
  go_wp2_with fail
  refine (eqIntSS_any _ _ _ _ _ h296.rd (SlII.more (by omega) h294)).mono ?_; rintro e W308 ⟨rfl, b307⟩
  have h309 := QvR.below (b307.mono (by omega)) h292
  have h310 := SlI.below (b307.mono (by omega)) h293
  have h311 := SlII.below (b307.mono (by omega)) h294
  have h312 := h295.below b307
  have h313 := h289.below b307
  have h314 := h296.below b307
  have k315 := k297.call b307
  have k316 := k298.call b307
  have s317 : W291.heap.size ≤ W308.heap.size := b307.size
  have g318 := bthen g300 b307
  clear h292 h293 h294 h295 h289 h296 k297 k298 g300 b307 c301 c302 c303 c304 c305 c306
  have c319 := k315.cell' (i := 0) rfl
  have c320 := k315.cell' (i := 1) rfl
  have c321 := k315.cell' (i := 2) rfl
  have c322 := k316.cell' (i := 0) rfl
  have c323 := k316.cell' (i := 1) rfl
  have c324 := k316.cell' (i := 2) rfl
  clear h312
  clear h313
  go_wp2_with fail
  refine (intss_mark2 _ _ _ _ _ _ h314 (by omega) (by omega) (by omega)).mono ?_; rintro e W327 ⟨rfl, h325, q326⟩
  have h328 := QvR.chg h309 q326 (by omega) (by omega)
  have h329 := SlI.chg h310 q326 (by omega) (by omega)
  have h330 := SlII.chg h311 q326 (by omega) (by omega)
  have k331 := k315.chg q326 (by omega)
  have k332 := k316.chg q326 (by omega)
  have s333 : W308.heap.size ≤ W327.heap.size := q326.size
  have g334 := g318.trans (q326.below (by omega) (by omega))
  clear h309 h310 h311 k315 k316 g318 q326 c319 c320 c321 c322 c323 c324
  have c335 := k331.cell' (i := 0) rfl
  have c336 := k331.cell' (i := 1) rfl
  have c337 := k331.cell' (i := 2) rfl
  have c338 := k332.cell' (i := 0) rfl
  have c339 := k332.cell' (i := 1) rfl
  have c340 := k332.cell' (i := 2) rfl
  clear h314
  go_wp2_with fail
  refine (intss_held _ _ _ _ h325.rd (by omega) (by omega) (by omega)).mono ?_; rintro e W342 ⟨rfl, b341⟩
  have h343 := QvR.below (b341.mono (by omega)) h328
  have h344 := SlI.below (b341.mono (by omega)) h329
  have h345 := SlII.below (b341.mono (by omega)) h330
  have h346 := h325.below b341
  have k347 := k331.call b341
  have k348 := k332.call b341
  have s349 : W327.heap.size ≤ W342.heap.size := b341.size
  have g350 := bthen g334 b341
  clear h328 h329 h330 h325 k331 k332 g334 b341 c335 c336 c337 c338 c339 c340
  have c351 := k347.cell' (i := 0) rfl
  have c352 := k347.cell' (i := 1) rfl
  have c353 := k347.cell' (i := 2) rfl
  have c354 := k348.cell' (i := 0) rfl
  have c355 := k348.cell' (i := 1) rfl
  have c356 := k348.cell' (i := 2) rfl
  go_wp2_with fail
  refine (quiv_to _ _ _ (QvR.more (by omega) h343) (by omega)).mono ?_; rintro e W360 ⟨v357, rfl, h358, b359⟩
  have h361 := QvR.below (b359.mono (by omega)) h343
  have h362 := SlI.below (b359.mono (by omega)) h344
  have h363 := SlII.below (b359.mono (by omega)) h345
  have h364 := h346.below b359
  have k365 := k347.call b359
  have k366 := k348.call b359
  have s367 : W342.heap.size ≤ W360.heap.size := b359.size
  have g368 := bthen g350 b359
  clear h343 h344 h345 h346 k347 k348 g350 b359 c351 c352 c353 c354 c355 c356
  have c369 := k365.cell' (i := 0) rfl
  have c370 := k365.cell' (i := 1) rfl
  have c371 := k365.cell' (i := 2) rfl
  have c372 := k366.cell' (i := 0) rfl
  have c373 := k366.cell' (i := 1) rfl
  have c374 := k366.cell' (i := 2) rfl
  go_wp2_with fail
  refine (ints_to _ _ _ (SlI.more (by omega) h362) (by omega)).mono ?_; rintro e W378 ⟨v375, rfl, h376, b377⟩
  have h379 := QvR.below (b377.mono (by omega)) h361
  have h380 := SlI.below (b377.mono (by omega)) h362
  have h381 := SlII.below (b377.mono (by omega)) h363
  have h382 := h364.below b377
  have h383 := h358.below b377
  have k384 := k365.call b377
  have k385 := k366.call b377
  have s386 : W360.heap.size ≤ W378.heap.size := b377.size
  have g387 := bthen g368 b377
  clear h361 h362 h363 h364 h358 k365 k366 g368 b377 c369 c370 c371 c372 c373 c374
  have c388 := k384.cell' (i := 0) rfl
  have c389 := k384.cell' (i := 1) rfl
  have c390 := k384.cell' (i := 2) rfl
  have c391 := k385.cell' (i := 0) rfl
  have c392 := k385.cell' (i := 1) rfl
  have c393 := k385.cell' (i := 2) rfl
  go_wp2_with fail
  refine (implRootDecompositions_any _ _ _ _ _ h383.rd h376.rd).mono ?_; rintro e W397 ⟨r394, rfl, h395, b396⟩
  have h398 := QvR.below (b396.mono (by omega)) h379
  have h399 := SlI.below (b396.mono (by omega)) h380
  have h400 := SlII.below (b396.mono (by omega)) h381
  have h401 := h382.below b396
  have h402 := h383.below b396
  have h403 := h376.below b396
  have k404 := k384.call b396
  have k405 := k385.call b396
  have s406 : W378.heap.size ≤ W397.heap.size := b396.size
  have g407 := bthen g387 b396
  clear h379 h380 h381 h382 h383 h376 k384 k385 g387 b396 c388 c389 c390 c391 c392 c393
  have c408 := k404.cell' (i := 0) rfl
  have c409 := k404.cell' (i := 1) rfl
  have c410 := k404.cell' (i := 2) rfl
  have c411 := k405.cell' (i := 0) rfl
  have c412 := k405.cell' (i := 1) rfl
  have c413 := k405.cell' (i := 2) rfl
  clear h402
  clear h403
  go_wp2_with fail
  refine (eqIntSS_any _ _ _ _ _ h395.rd (SlII.more (by omega) h400)).mono ?_; rintro e W415 ⟨rfl, b414⟩
  have h416 := QvR.below (b414.mono (by omega)) h398
  have h417 := SlI.below (b414.mono (by omega)) h399
  have h418 := SlII.below (b414.mono (by omega)) h400
  have h419 := h401.below b414
  have h420 := h395.below b414
  have k421 := k404.call b414
  have k422 := k405.call b414
  have s423 : W397.heap.size ≤ W415.heap.size := b414.size
  have g424 := bthen g407 b414
  clear h398 h399 h400 h401 h395 k404 k405 g407 b414 c408 c409 c410 c411 c412 c413
  have c425 := k421.cell' (i := 0) rfl
  have c426 := k421.cell' (i := 1) rfl
  have c427 := k421.cell' (i := 2) rfl
  have c428 := k422.cell' (i := 0) rfl
  have c429 := k422.cell' (i := 1) rfl
  have c430 := k422.cell' (i := 2) rfl
  clear h420
  go_wp2_with fail
  refine (intss_held _ _ _ _ h419.rd (by omega) (by omega) (by omega)).mono ?_; rintro e W432 ⟨rfl, b431⟩
  have h433 := QvR.below (b431.mono (by omega)) h416
  have h434 := SlI.below (b431.mono (by omega)) h417
  have h435 := SlII.below (b431.mono (by omega)) h418
  have h436 := h419.below b431
  have k437 := k421.call b431
  have k438 := k422.call b431
  have s439 : W415.heap.size ≤ W432.heap.size := b431.size
  have g440 := bthen g424 b431
  clear h416 h417 h418 h419 k421 k422 g424 b431 c425 c426 c427 c428 c429 c430
  have c441 := k437.cell' (i := 0) rfl
  have c442 := k437.cell' (i := 1) rfl
  have c443 := k437.cell' (i := 2) rfl
  have c444 := k438.cell' (i := 0) rfl
  have c445 := k438.cell' (i := 1) rfl
  have c446 := k438.cell' (i := 2) rfl
  go_wp2
  go_ret
  exact ⟨rfl, g440⟩
end Go.Proofs.Ytkhkamcmlhmpiaa

/- FnExactRootDecompositions is proved: for every argument the program's RootDecompositions returns what the reference's returns, leaves its arguments as they were, and returns memory of its own. No condition. -/
namespace Go.Proofs.Ytkhkamcmlhmpiaa
set_option linter.unusedVariables false
set_option linter.unusedSimpArgs false
open Go.RowKit Go.ChangeShapes Go.WideShapes Go.ChangeAt Go.Deep

set_option maxRecDepth 100000 in
theorem rootDecompositions_lifted (os : Os) (started : os.Started) (H : Type) (enc : TypeId × Value → H) :
    ReturnsInHanded {} Try.checked os 9 .any (Rows.fnExactRootDecompositionsSpec.pre6 enc Try.prog Try.f9 Rows.fnExactRootDecompositionsRow.domain false) (Rows.fnExactRootDecompositionsSpec.post enc Try.prog Try.f9 false true false false) := by
  refine lift_law started (by kernel_rfl) Try.func9 (ChangeSpec.witness6 (enc := enc) (C := Try.checked) false ⟨#[], #[.agg #[.int .i64 0, .slice none 0 0, .slice none 0 0], .slice none 0 0], []⟩ 8 (by kernel_rfl) (by kernel_rfl) (by kernel_rfl) (by kernel_rfl))
    rfl rfl (by rw [Try.params9]; intro t ht; simp only [List.mem_cons, List.not_mem_nil, or_false] at ht; rcases ht with rfl | rfl <;> exact ⟨by kernel_rfl, of_decide_eq_true (by kernel_rfl)⟩) (fun ds hl => by rw [Try.params9] at hl; match ds, hl with | [_, _], _ => rfl) ?_
  intro W args ds ps base hval hA hwt
  rw [Try.params9] at hA hval hwt
  obtain ⟨v0, v1, d0, d1, p0, p1, hargs, rfl, rfl, h0, h1⟩ := trodAll_two hA
  obtain rfl : args = #[v0, v1] := by cases args; simp_all
  obtain ⟨x0, r0⟩ := argQuiver (hval 0 _ _ rfl rfl) h0 (hwt 0 _ _ rfl rfl)
  obtain ⟨x1, r1⟩ := argInts (hval 1 _ _ rfl rfl) h1 (hwt 1 _ _ rfl rfl)
  exact lawRootDecompositions_any _ _ _ _ W r0 r1

theorem rootDecompositions_closed : joinedFacts Try.prog 9 Try.f9 Rows.fnExactRootDecompositionsSpec Rows.fnExactRootDecompositionsRow = true := by
  unfold joinedFacts
  refine band (band (band (band (band (band (band ?_ seatEnter) seatLifts) seatMake) ?_) ?_) ?_) ?_ <;> kernel_rfl

theorem rootDecompositions_holds : Rows.FnExactRootDecompositionsSaid :=
  OpenClaim.holds_of_wide 9 Try.f9 rfl rfl rfl rfl rfl rfl rfl ⟨rfl, rfl, rfl, rfl, rfl⟩ rfl rfl rfl rfl rfl (by kernel_rfl) Try.func9 rootDecompositions_closed
    (of_decide_eq_true (by kernel_rfl)) (by unfold Func.isWrapper; first | (rw [if_pos (by decide +kernel)]; kernel_rfl) | (rw [if_neg (by decide +kernel)]; exact ⟨rfl, rfl⟩))
    (fun os started H enc _ => rootDecompositions_lifted os started H enc)
#print axioms rootDecompositions_holds
end Go.Proofs.Ytkhkamcmlhmpiaa
