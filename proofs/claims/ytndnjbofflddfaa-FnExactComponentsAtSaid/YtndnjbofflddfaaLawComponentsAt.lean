/- The walk of FnExactComponentsAt, printed by program (wip/law.py) out of the contracts of what it calls. -/
import Derived.Test.YtndnjbofflddfaaComp2
namespace Go.Proofs.Ytndnjbofflddfaa
set_option linter.unusedVariables false
set_option linter.unusedSimpArgs false
open Go.RowKit

set_option maxHeartbeats 1600000 in
set_option maxRecDepth 100000 in
theorem lawComponentsAt_any (uq : Value) (q : Filt) (t : Int) (w : World) (hq : FiR w w.heap.size uq q) (rng_t : I64 t) :
    Calls Try.prog 13 #[uq, .int .i64 t] w fun e w' => e = .returned (.bool true) ∧ Below w.heap.size w w' := by
  obtain ⟨Auq, cuq, Cuq, duq, eq⟩ := FiR.form hq
  subst eq
  have lq := FiR.lens hq
  have g0 := Below.refl w.heap.size w
  have fzq : q.birth.length + tot q.ends ≤ q.size := by simp only [Filt.size, szSS]; omega
  by_cases z0 : (1048576 : Int) < (q.size : Nat)
  · have y0 : szLeft (1048576 : Int) (q.size) = -1 := by rw [szLeft, if_pos z0]
    go_enter Try.func13, Try.ntmps13
    go_wp2_with fail
    obtain ⟨W2, e3⟩ : ∃ W, W = w.alloc (.cells #[.int .i64 (q).stages, .slice Auq (q).birth.length cuq, .slice Cuq (q).ends.length duq] 49) := ⟨_, rfl⟩
    rw [← e3]
    have b4 : Below w.heap.size w W2 := by rw [e3]; exact below_alloc _ _
    have k5 : Blk W2 w.heap.size 49 #[.int .i64 (q).stages, .slice Auq (q).birth.length cuq, .slice Cuq (q).ends.length duq] := by rw [e3]; exact Blk.new _ _ _
    have s6 : w.heap.size < W2.heap.size := k5.lt
    clear e3
    have h7 := FiR.below (b4.mono (by omega)) hq
    have s8 : w.heap.size ≤ W2.heap.size := b4.size
    have g9 := bthen g0 b4
    clear hq g0 b4
    have c10 := k5.cell' (i := 0) rfl
    have c11 := k5.cell' (i := 1) rfl
    have c12 := k5.cell' (i := 2) rfl
    refine (szFiltration_any _ _ (1048576 : Int) _ (FiR.more (by omega) h7) (by omega) (by omega)).mono ?_; rintro e W13 ⟨rfl, b1⟩
    have h14 := FiR.below (b1.mono (by omega)) h7
    have k15 := k5.call b1
    have s16 : W2.heap.size ≤ W13.heap.size := b1.size
    have g17 := bthen g9 b1
    clear h7 k5 g9 b1 c10 c11 c12
    have c18 := k15.cell' (i := 0) rfl
    have c19 := k15.cell' (i := 1) rfl
    have c20 := k15.cell' (i := 2) rfl
    go_wp2
    go_ret
    exact ⟨rfl, g17⟩
  have y0 : szLeft (1048576 : Int) (q.size) = (1048576 : Int) - (q.size : Nat) := by rw [szLeft, if_neg z0]
  have x0 : ¬ ((1048576 : Int) - ((q.size : Nat) : Int) < 0) := by omega
  go_enter Try.func13, Try.ntmps13
  go_wp2_with fail
  obtain ⟨W22, e23⟩ : ∃ W, W = w.alloc (.cells #[.int .i64 (q).stages, .slice Auq (q).birth.length cuq, .slice Cuq (q).ends.length duq] 49) := ⟨_, rfl⟩
  rw [← e23]
  have b24 : Below w.heap.size w W22 := by rw [e23]; exact below_alloc _ _
  have k25 : Blk W22 w.heap.size 49 #[.int .i64 (q).stages, .slice Auq (q).birth.length cuq, .slice Cuq (q).ends.length duq] := by rw [e23]; exact Blk.new _ _ _
  have s26 : w.heap.size < W22.heap.size := k25.lt
  clear e23
  have h27 := FiR.below (b24.mono (by omega)) hq
  have s28 : w.heap.size ≤ W22.heap.size := b24.size
  have g29 := bthen g0 b24
  clear hq g0 b24
  have c30 := k25.cell' (i := 0) rfl
  have c31 := k25.cell' (i := 1) rfl
  have c32 := k25.cell' (i := 2) rfl
  refine (szFiltration_any _ _ (1048576 : Int) _ (FiR.more (by omega) h27) (by omega) (by omega)).mono ?_; rintro e W33 ⟨rfl, b21⟩
  have h34 := FiR.below (b21.mono (by omega)) h27
  have k35 := k25.call b21
  have s36 : W22.heap.size ≤ W33.heap.size := b21.size
  have g37 := bthen g29 b21
  clear h27 k25 g29 b21 c30 c31 c32
  have c38 := k35.cell' (i := 0) rfl
  have c39 := k35.cell' (i := 1) rfl
  have c40 := k35.cell' (i := 2) rfl
  go_wp2_with fail
  refine (filt_to _ _ _ (FiR.more (by omega) h34) (by omega)).mono ?_; rintro e W44 ⟨v41, rfl, h42, b43⟩
  have h45 := FiR.below (b43.mono (by omega)) h34
  have k46 := k35.call b43
  have s47 : W33.heap.size ≤ W44.heap.size := b43.size
  have g48 := bthen g37 b43
  clear h34 k35 g37 b43 c38 c39 c40
  have c49 := k46.cell' (i := 0) rfl
  have c50 := k46.cell' (i := 1) rfl
  have c51 := k46.cell' (i := 2) rfl
  go_wp2_with fail
  refine (specComponentsAt_any _ _ _ _ h42.rd rng_t).mono ?_; rintro e W55 ⟨r52, rfl, h53, b54⟩
  have h56 := FiR.below (b54.mono (by omega)) h45
  have h57 := h42.below b54
  have k58 := k46.call b54
  have s59 : W44.heap.size ≤ W55.heap.size := b54.size
  have g60 := bthen g48 b54
  clear h45 h42 k46 g48 b54 c49 c50 c51
  have c61 := k58.cell' (i := 0) rfl
  have c62 := k58.cell' (i := 1) rfl
  have c63 := k58.cell' (i := 2) rfl
  have h64 := h53.rd
  clear h53
  clear h57
  go_wp2_with fail
  refine (filt_to _ _ _ (FiR.more (by omega) h56) (by omega)).mono ?_; rintro e W68 ⟨v65, rfl, h66, b67⟩
  have h69 := FiR.below (b67.mono (by omega)) h56
  have h70 := SlI.below (b67.mono (by omega)) h64
  have k71 := k58.call b67
  have s72 : W55.heap.size ≤ W68.heap.size := b67.size
  have g73 := bthen g60 b67
  clear h56 h64 k58 g60 b67 c61 c62 c63
  have c74 := k71.cell' (i := 0) rfl
  have c75 := k71.cell' (i := 1) rfl
  have c76 := k71.cell' (i := 2) rfl
  obtain ⟨Ax77, cx77, Cx77, dx77, e78⟩ := h66.form
  subst e78
  have c82 := fun o => (k71.alloc o).cell' (i := 0) rfl
  have c83 := fun o => (k71.alloc o).cell' (i := 1) rfl
  have c84 := fun o => (k71.alloc o).cell' (i := 2) rfl
  go_wp2_with fail
  obtain ⟨W85, e86⟩ : ∃ W, W = W68.alloc (.cells #[.int .i64 (q).stages, .slice Ax77 (q).birth.length cx77, .slice Cx77 (q).ends.length dx77] 52) := ⟨_, rfl⟩
  rw [← e86]
  have b87 : Below W68.heap.size W68 W85 := by rw [e86]; exact below_alloc _ _
  have k88 : Blk W85 W68.heap.size 52 #[.int .i64 (q).stages, .slice Ax77 (q).birth.length cx77, .slice Cx77 (q).ends.length dx77] := by rw [e86]; exact Blk.new _ _ _
  have s89 : W68.heap.size < W85.heap.size := k88.lt
  clear e86
  have h90 := FiR.below (b87.mono (by omega)) h69
  have h91 := SlI.below (b87.mono (by omega)) h70
  have h92 := h66.below b87
  have k93 := k71.call b87
  have s94 : W68.heap.size ≤ W85.heap.size := b87.size
  have g95 := bthen g73 b87
  clear h69 h70 h66 k71 g73 b87 c74 c75 c76 c82 c83 c84
  have c96 := k93.cell' (i := 0) rfl
  have c97 := k93.cell' (i := 1) rfl
  have c98 := k93.cell' (i := 2) rfl
  have c99 := k88.cell' (i := 0) rfl
  have c100 := k88.cell' (i := 1) rfl
  have c101 := k88.cell' (i := 2) rfl
  refine (implComponentsAt_any _ _ _ _ h92.rd rng_t).mono ?_; rintro e W102 ⟨r79, rfl, h80, b81⟩
  have h103 := FiR.below (b81.mono (by omega)) h90
  have h104 := SlI.below (b81.mono (by omega)) h91
  have h105 := h92.below b81
  have k106 := k93.call b81
  have k107 := k88.call b81
  have s108 : W85.heap.size ≤ W102.heap.size := b81.size
  have g109 := bthen g95 b81
  clear h90 h91 h92 k93 k88 g95 b81 c96 c97 c98 c99 c100 c101
  have c110 := k106.cell' (i := 0) rfl
  have c111 := k106.cell' (i := 1) rfl
  have c112 := k106.cell' (i := 2) rfl
  have c113 := k107.cell' (i := 0) rfl
  have c114 := k107.cell' (i := 1) rfl
  have c115 := k107.cell' (i := 2) rfl
  go_wp2_with fail
  refine (eqIntS_any _ _ _ _ _ h80.rd (SlI.more (by omega) h104)).mono ?_; rintro e W117 ⟨rfl, b116⟩
  have h118 := FiR.below (b116.mono (by omega)) h103
  have h119 := SlI.below (b116.mono (by omega)) h104
  have h120 := h105.below b116
  have h121 := h80.below b116
  have k122 := k106.call b116
  have k123 := k107.call b116
  have s124 : W102.heap.size ≤ W117.heap.size := b116.size
  have g125 := bthen g109 b116
  clear h103 h104 h105 h80 k106 k107 g109 b116 c110 c111 c112 c113 c114 c115
  have c126 := k122.cell' (i := 0) rfl
  have c127 := k122.cell' (i := 1) rfl
  have c128 := k122.cell' (i := 2) rfl
  have c129 := k123.cell' (i := 0) rfl
  have c130 := k123.cell' (i := 1) rfl
  have c131 := k123.cell' (i := 2) rfl
  go_wp2_with fail
  have b132 := drew_below W117
  have h133 := FiR.below (b132.mono (by omega)) h118
  have h134 := SlI.below (b132.mono (by omega)) h119
  have h135 := h120.below b132
  have h136 := h121.below b132
  have k137 := k122.call b132
  have k138 := k123.call b132
  have s139 : W117.heap.size ≤ W117.drew.heap.size := b132.size
  have g140 := bthen g125 b132
  clear h118 h119 h120 h121 k122 k123 g125 b132 c126 c127 c128 c129 c130 c131
  have c141 := k137.cell' (i := 0) rfl
  have c142 := k137.cell' (i := 1) rfl
  have c143 := k137.cell' (i := 2) rfl
  have c144 := k138.cell' (i := 0) rfl
  have c145 := k138.cell' (i := 1) rfl
  have c146 := k138.cell' (i := 2) rfl
  go_region_held3 (fun W' => W'.cell? ⟨w.heap.size, 0, none⟩ = some (.int .i64 (q).stages) ∧ W'.cell? ⟨w.heap.size, 1, none⟩ = some (.slice Auq (q).birth.length cuq) ∧ W'.cell? ⟨w.heap.size, 2, none⟩ = some (.slice Cuq (q).ends.length duq) ∧ W'.cell? ⟨W68.heap.size, 0, none⟩ = some (.int .i64 (q).stages) ∧ W'.cell? ⟨W68.heap.size, 1, none⟩ = some (.slice Ax77 (q).birth.length cx77) ∧ W'.cell? ⟨W68.heap.size, 2, none⟩ = some (.slice Cx77 (q).ends.length dx77))
    (first | exact ⟨c141, c142, c143, c144, c145, c146⟩ | exact ⟨c159, c160, c161, c162, c163, c164⟩ | exact ⟨c176, c177, c178, c179, c180, c181⟩)
    (first | (go_at_call 39; refine (filt_to _ _ _ (FiR.more (by omega) h133) (by omega)).mono ?_; rintro e W150 ⟨v147, rfl, h148, b149⟩; have h151 := FiR.below (b149.mono (by omega)) h133; have h152 := SlI.below (b149.mono (by omega)) h134; have h153 := h135.below b149; have h154 := h136.below b149; have k155 := k137.call b149; have k156 := k138.call b149; have s157 : W117.drew.heap.size ≤ W150.heap.size := b149.size; have g158 := bthen g140 b149; clear h133 h134 h135 h136 k137 k138 g140 b149 c141 c142 c143 c144 c145 c146; have c159 := k155.cell' (i := 0) rfl; have c160 := k155.cell' (i := 1) rfl; have c161 := k155.cell' (i := 2) rfl; have c162 := k156.cell' (i := 0) rfl; have c163 := k156.cell' (i := 1) rfl; have c164 := k156.cell' (i := 2) rfl) | (go_at_call 41; refine (eqFiltration_any _ _ _ _ _ h153.rd h148.rd).mono ?_; rintro e W166 ⟨rfl, b165⟩; have h167 := FiR.below (b165.mono (by omega)) h151; have h168 := SlI.below (b165.mono (by omega)) h152; have h169 := h153.below b165; have h170 := h154.below b165; have h171 := h148.below b165; have k172 := k155.call b165; have k173 := k156.call b165; have s174 : W150.heap.size ≤ W166.heap.size := b165.size; have g175 := bthen g158 b165; clear h151 h152 h153 h154 h148 k155 k156 g158 b165 c159 c160 c161 c162 c163 c164; have c176 := k172.cell' (i := 0) rfl; have c177 := k172.cell' (i := 1) rfl; have c178 := k172.cell' (i := 2) rfl; have c179 := k173.cell' (i := 0) rfl; have c180 := k173.cell' (i := 1) rfl; have c181 := k173.cell' (i := 2) rfl))
  clear h171
  go_wp2_with fail
  refine (filt_mark _ _ _ _ _ _ h169 (by omega) (by omega) (by omega) (by omega)).mono ?_; rintro e W184 ⟨rfl, h182, q183⟩
  have h185 := FiR.chg h167 q183 (by omega) (by omega)
  have h186 := SlI.chg h168 q183 (by omega) (by omega)
  have h187 := h170.chg q183 (by omega)
  have k188 := k172.chg q183 (by omega)
  have k189 := k173.chg q183 (by omega)
  have s190 : W166.heap.size ≤ W184.heap.size := q183.size
  have g191 := g175.trans (q183.below (by omega) (by omega))
  clear h167 h168 h170 k172 k173 g175 q183 c176 c177 c178 c179 c180 c181
  have c192 := k188.cell' (i := 0) rfl
  have c193 := k188.cell' (i := 1) rfl
  have c194 := k188.cell' (i := 2) rfl
  have c195 := k189.cell' (i := 0) rfl
  have c196 := k189.cell' (i := 1) rfl
  have c197 := k189.cell' (i := 2) rfl
  clear h169
  go_wp2_with fail
  refine (eqIntS_any _ _ _ _ _ h187.rd (SlI.more (by omega) h186)).mono ?_; rintro e W199 ⟨rfl, b198⟩
  have h200 := FiR.below (b198.mono (by omega)) h185
  have h201 := SlI.below (b198.mono (by omega)) h186
  have h202 := h182.below b198
  have h203 := h187.below b198
  have k204 := k188.call b198
  have k205 := k189.call b198
  have s206 : W184.heap.size ≤ W199.heap.size := b198.size
  have g207 := bthen g191 b198
  clear h185 h186 h182 h187 k188 k189 g191 b198 c192 c193 c194 c195 c196 c197
  have c208 := k204.cell' (i := 0) rfl
  have c209 := k204.cell' (i := 1) rfl
  have c210 := k204.cell' (i := 2) rfl
  have c211 := k205.cell' (i := 0) rfl
  have c212 := k205.cell' (i := 1) rfl
  have c213 := k205.cell' (i := 2) rfl
  clear h202
  go_wp2_with fail
  refine (ints_mark _ _ _ _ _ _ h203 (by omega) (by omega)).mono ?_; rintro e W216 ⟨rfl, h214, q215⟩
  have h217 := FiR.chg h200 q215 (by omega) (by omega)
  have h218 := SlI.chg h201 q215 (by omega) (by omega)
  have k219 := k204.chg q215 (by omega)
  have k220 := k205.chg q215 (by omega)
  have s221 : W199.heap.size ≤ W216.heap.size := q215.size
  have g222 := g207.trans (q215.below (by omega) (by omega))
  clear h200 h201 k204 k205 g207 q215 c208 c209 c210 c211 c212 c213
  have c223 := k219.cell' (i := 0) rfl
  have c224 := k219.cell' (i := 1) rfl
  have c225 := k219.cell' (i := 2) rfl
  have c226 := k220.cell' (i := 0) rfl
  have c227 := k220.cell' (i := 1) rfl
  have c228 := k220.cell' (i := 2) rfl
  clear h203
  go_wp2_with fail
  refine (ints_held _ _ _ _ h214.rd (by omega) (by omega)).mono ?_; rintro e W230 ⟨rfl, b229⟩
  have h231 := FiR.below (b229.mono (by omega)) h217
  have h232 := SlI.below (b229.mono (by omega)) h218
  have h233 := h214.below b229
  have k234 := k219.call b229
  have k235 := k220.call b229
  have s236 : W216.heap.size ≤ W230.heap.size := b229.size
  have g237 := bthen g222 b229
  clear h217 h218 h214 k219 k220 g222 b229 c223 c224 c225 c226 c227 c228
  have c238 := k234.cell' (i := 0) rfl
  have c239 := k234.cell' (i := 1) rfl
  have c240 := k234.cell' (i := 2) rfl
  have c241 := k235.cell' (i := 0) rfl
  have c242 := k235.cell' (i := 1) rfl
  have c243 := k235.cell' (i := 2) rfl
  go_wp2_with fail
  refine (filt_to _ _ _ (FiR.more (by omega) h231) (by omega)).mono ?_; rintro e W247 ⟨v244, rfl, h245, b246⟩
  have h248 := FiR.below (b246.mono (by omega)) h231
  have h249 := SlI.below (b246.mono (by omega)) h232
  have h250 := h233.below b246
  have k251 := k234.call b246
  have k252 := k235.call b246
  have s253 : W230.heap.size ≤ W247.heap.size := b246.size
  have g254 := bthen g237 b246
  clear h231 h232 h233 k234 k235 g237 b246 c238 c239 c240 c241 c242 c243
  have c255 := k251.cell' (i := 0) rfl
  have c256 := k251.cell' (i := 1) rfl
  have c257 := k251.cell' (i := 2) rfl
  have c258 := k252.cell' (i := 0) rfl
  have c259 := k252.cell' (i := 1) rfl
  have c260 := k252.cell' (i := 2) rfl
  go_wp2_with fail
  refine (implComponentsAt_any _ _ _ _ h245.rd rng_t).mono ?_; rintro e W264 ⟨r261, rfl, h262, b263⟩
  have h265 := FiR.below (b263.mono (by omega)) h248
  have h266 := SlI.below (b263.mono (by omega)) h249
  have h267 := h250.below b263
  have h268 := h245.below b263
  have k269 := k251.call b263
  have k270 := k252.call b263
  have s271 : W247.heap.size ≤ W264.heap.size := b263.size
  have g272 := bthen g254 b263
  clear h248 h249 h250 h245 k251 k252 g254 b263 c255 c256 c257 c258 c259 c260
  have c273 := k269.cell' (i := 0) rfl
  have c274 := k269.cell' (i := 1) rfl
  have c275 := k269.cell' (i := 2) rfl
  have c276 := k270.cell' (i := 0) rfl
  have c277 := k270.cell' (i := 1) rfl
  have c278 := k270.cell' (i := 2) rfl
  clear h268
  go_wp2_with fail
  refine (eqIntS_any _ _ _ _ _ h262.rd (SlI.more (by omega) h266)).mono ?_; rintro e W280 ⟨rfl, b279⟩
  have h281 := FiR.below (b279.mono (by omega)) h265
  have h282 := SlI.below (b279.mono (by omega)) h266
  have h283 := h267.below b279
  have h284 := h262.below b279
  have k285 := k269.call b279
  have k286 := k270.call b279
  have s287 : W264.heap.size ≤ W280.heap.size := b279.size
  have g288 := bthen g272 b279
  clear h265 h266 h267 h262 k269 k270 g272 b279 c273 c274 c275 c276 c277 c278
  have c289 := k285.cell' (i := 0) rfl
  have c290 := k285.cell' (i := 1) rfl
  have c291 := k285.cell' (i := 2) rfl
  have c292 := k286.cell' (i := 0) rfl
  have c293 := k286.cell' (i := 1) rfl
  have c294 := k286.cell' (i := 2) rfl
  clear h284
  go_wp2_with fail
  refine (ints_held _ _ _ _ h283.rd (by omega) (by omega)).mono ?_; rintro e W296 ⟨rfl, b295⟩
  have h297 := FiR.below (b295.mono (by omega)) h281
  have h298 := SlI.below (b295.mono (by omega)) h282
  have h299 := h283.below b295
  have k300 := k285.call b295
  have k301 := k286.call b295
  have s302 : W280.heap.size ≤ W296.heap.size := b295.size
  have g303 := bthen g288 b295
  clear h281 h282 h283 k285 k286 g288 b295 c289 c290 c291 c292 c293 c294
  have c304 := k300.cell' (i := 0) rfl
  have c305 := k300.cell' (i := 1) rfl
  have c306 := k300.cell' (i := 2) rfl
  have c307 := k301.cell' (i := 0) rfl
  have c308 := k301.cell' (i := 1) rfl
  have c309 := k301.cell' (i := 2) rfl
  go_wp2
  go_ret
  exact ⟨rfl, g303⟩
end Go.Proofs.Ytndnjbofflddfaa
