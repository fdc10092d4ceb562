/- The walk of FnExactReflectWord, printed by program (wip/law.py) out of the contracts of what it calls. -/
import Derived.Test.YtndnjbofflddfaaWord2
namespace Go.Proofs.Ytndnjbofflddfaa
set_option linter.unusedVariables false
set_option linter.unusedSimpArgs false
open Go.RowKit

set_option maxHeartbeats 1600000 in
set_option maxRecDepth 100000 in
theorem lawReflectWord_any (uq : Value) (q : Qv) (ux : Value) (x : List Int) (uwd : Value) (wd : List Int) (w : World) (hq : QvR w w.heap.size uq q) (hx : SlI w w.heap.size ux x) (hwd : SlI w w.heap.size uwd wd) :
    Calls Try.prog 14 #[uq, ux, uwd] w fun e w' => e = .returned (.bool true) ∧ Below w.heap.size w w' := by
  obtain ⟨Auq, cuq, Cuq, duq, eq⟩ := QvR.form hq
  subst eq
  have lq := QvR.lens hq
  obtain ⟨Ax, cx, rfl, _, _, lx, _⟩ := hx.open_
  obtain ⟨Awd, cwd, rfl, _, _, lwd, _⟩ := hwd.open_
  have g0 := Below.refl w.heap.size w
  by_cases z0 : (1048576 : Int) < x.length
  · go_enter Try.func14, Try.ntmps14
    go_wp2
    go_ret
    exact ⟨rfl, (g0).alloc (by simp) _⟩
  by_cases z1 : (1048576 : Int) < wd.length
  · go_enter Try.func14, Try.ntmps14
    go_wp2
    go_ret
    exact ⟨rfl, (g0).alloc (by simp) _⟩
  by_cases z2 : (1048576 : Int) < (q.size : Nat)
  · have y2 : szLeft (1048576 : Int) (q.size) = -1 := by rw [szLeft, if_pos z2]
    go_enter Try.func14, Try.ntmps14
    go_wp2_with fail
    obtain ⟨W2, e3⟩ : ∃ W, W = w.alloc (.cells #[.int .i64 (q).v, .slice Auq (q).f.length cuq, .slice Cuq (q).t.length duq] 41) := ⟨_, rfl⟩
    rw [← e3]
    have b4 : Below w.heap.size w W2 := by rw [e3]; exact below_alloc _ _
    have k5 : Blk W2 w.heap.size 41 #[.int .i64 (q).v, .slice Auq (q).f.length cuq, .slice Cuq (q).t.length duq] := by rw [e3]; exact Blk.new _ _ _
    have s6 : w.heap.size < W2.heap.size := k5.lt
    clear e3
    have h7 := QvR.below (b4.mono (by omega)) hq
    have h8 := SlI.below (b4.mono (by omega)) hx
    have h9 := SlI.below (b4.mono (by omega)) hwd
    have s10 : w.heap.size ≤ W2.heap.size := b4.size
    have g11 := bthen g0 b4
    clear hq hx hwd g0 b4
    have c12 := k5.cell' (i := 0) rfl
    have c13 := k5.cell' (i := 1) rfl
    have c14 := k5.cell' (i := 2) rfl
    refine (szQuiver_any _ _ (1048576 : Int) _ (QvR.more (by omega) h7) (by omega) (by omega)).mono ?_; rintro e W15 ⟨rfl, b1⟩
    have h16 := QvR.below (b1.mono (by omega)) h7
    have h17 := SlI.below (b1.mono (by omega)) h8
    have h18 := SlI.below (b1.mono (by omega)) h9
    have k19 := k5.call b1
    have s20 : W2.heap.size ≤ W15.heap.size := b1.size
    have g21 := bthen g11 b1
    clear h7 h8 h9 k5 g11 b1 c12 c13 c14
    have c22 := k19.cell' (i := 0) rfl
    have c23 := k19.cell' (i := 1) rfl
    have c24 := k19.cell' (i := 2) rfl
    go_wp2
    go_ret
    exact ⟨rfl, g21⟩
  have y2 : szLeft (1048576 : Int) (q.size) = (1048576 : Int) - (q.size : Nat) := by rw [szLeft, if_neg z2]
  have x2 : ¬ ((1048576 : Int) - ((q.size : Nat) : Int) < 0) := by omega
  go_enter Try.func14, Try.ntmps14
  go_wp2_with fail
  obtain ⟨W26, e27⟩ : ∃ W, W = w.alloc (.cells #[.int .i64 (q).v, .slice Auq (q).f.length cuq, .slice Cuq (q).t.length duq] 41) := ⟨_, rfl⟩
  rw [← e27]
  have b28 : Below w.heap.size w W26 := by rw [e27]; exact below_alloc _ _
  have k29 : Blk W26 w.heap.size 41 #[.int .i64 (q).v, .slice Auq (q).f.length cuq, .slice Cuq (q).t.length duq] := by rw [e27]; exact Blk.new _ _ _
  have s30 : w.heap.size < W26.heap.size := k29.lt
  clear e27
  have h31 := QvR.below (b28.mono (by omega)) hq
  have h32 := SlI.below (b28.mono (by omega)) hx
  have h33 := SlI.below (b28.mono (by omega)) hwd
  have s34 : w.heap.size ≤ W26.heap.size := b28.size
  have g35 := bthen g0 b28
  clear hq hx hwd g0 b28
  have c36 := k29.cell' (i := 0) rfl
  have c37 := k29.cell' (i := 1) rfl
  have c38 := k29.cell' (i := 2) rfl
  refine (szQuiver_any _ _ (1048576 : Int) _ (QvR.more (by omega) h31) (by omega) (by omega)).mono ?_; rintro e W39 ⟨rfl, b25⟩
  have h40 := QvR.below (b25.mono (by omega)) h31
  have h41 := SlI.below (b25.mono (by omega)) h32
  have h42 := SlI.below (b25.mono (by omega)) h33
  have k43 := k29.call b25
  have s44 : W26.heap.size ≤ W39.heap.size := b25.size
  have g45 := bthen g35 b25
  clear h31 h32 h33 k29 g35 b25 c36 c37 c38
  have c46 := k43.cell' (i := 0) rfl
  have c47 := k43.cell' (i := 1) rfl
  have c48 := k43.cell' (i := 2) rfl
  go_wp2_with fail
  refine (quiv_to _ _ _ (QvR.more (by omega) h40) (by omega)).mono ?_; rintro e W52 ⟨v49, rfl, h50, b51⟩
  have h53 := QvR.below (b51.mono (by omega)) h40
  have h54 := SlI.below (b51.mono (by omega)) h41
  have h55 := SlI.below (b51.mono (by omega)) h42
  have k56 := k43.call b51
  have s57 : W39.heap.size ≤ W52.heap.size := b51.size
  have g58 := bthen g45 b51
  clear h40 h41 h42 k43 g45 b51 c46 c47 c48
  have c59 := k56.cell' (i := 0) rfl
  have c60 := k56.cell' (i := 1) rfl
  have c61 := k56.cell' (i := 2) rfl
  go_wp2_with fail
  refine (ints_to _ _ _ (SlI.more (by omega) h54) (by omega)).mono ?_; rintro e W65 ⟨v62, rfl, h63, b64⟩
  have h66 := QvR.below (b64.mono (by omega)) h53
  have h67 := SlI.below (b64.mono (by omega)) h54
  have h68 := SlI.below (b64.mono (by omega)) h55
  have h69 := h50.below b64
  have k70 := k56.call b64
  have s71 : W52.heap.size ≤ W65.heap.size := b64.size
  have g72 := bthen g58 b64
  clear h53 h54 h55 h50 k56 g58 b64 c59 c60 c61
  have c73 := k70.cell' (i := 0) rfl
  have c74 := k70.cell' (i := 1) rfl
  have c75 := k70.cell' (i := 2) rfl
  go_wp2_with fail
  refine (ints_to _ _ _ (SlI.more (by omega) h68) (by omega)).mono ?_; rintro e W79 ⟨v76, rfl, h77, b78⟩
  have h80 := QvR.below (b78.mono (by omega)) h66
  have h81 := SlI.below (b78.mono (by omega)) h67
  have h82 := SlI.below (b78.mono (by omega)) h68
  have h83 := h69.below b78
  have h84 := h63.below b78
  have k85 := k70.call b78
  have s86 : W65.heap.size ≤ W79.heap.size := b78.size
  have g87 := bthen g72 b78
  clear h66 h67 h68 h69 h63 k70 g72 b78 c73 c74 c75
  have c88 := k85.cell' (i := 0) rfl
  have c89 := k85.cell' (i := 1) rfl
  have c90 := k85.cell' (i := 2) rfl
  go_wp2_with fail
  refine (specReflectWord_any _ _ _ _ _ _ _ h83.rd h84.rd h77.rd).mono ?_; rintro e W94 ⟨r91, rfl, h92, b93⟩
  have h95 := QvR.below (b93.mono (by omega)) h80
  have h96 := SlI.below (b93.mono (by omega)) h81
  have h97 := SlI.below (b93.mono (by omega)) h82
  have h98 := h83.below b93
  have h99 := h84.below b93
  have h100 := h77.below b93
  have k101 := k85.call b93
  have s102 : W79.heap.size ≤ W94.heap.size := b93.size
  have g103 := bthen g87 b93
  clear h80 h81 h82 h83 h84 h77 k85 g87 b93 c88 c89 c90
  have c104 := k101.cell' (i := 0) rfl
  have c105 := k101.cell' (i := 1) rfl
  have c106 := k101.cell' (i := 2) rfl
  have h107 := h92.rd
  clear h92
  clear h98
  clear h99
  clear h100
  go_wp2_with fail
  refine (quiv_to _ _ _ (QvR.more (by omega) h95) (by omega)).mono ?_; rintro e W111 ⟨v108, rfl, h109, b110⟩
  have h112 := QvR.below (b110.mono (by omega)) h95
  have h113 := SlI.below (b110.mono (by omega)) h96
  have h114 := SlI.below (b110.mono (by omega)) h97
  have h115 := SlI.below (b110.mono (by omega)) h107
  have k116 := k101.call b110
  have s117 : W94.heap.size ≤ W111.heap.size := b110.size
  have g118 := bthen g103 b110
  clear h95 h96 h97 h107 k101 g103 b110 c104 c105 c106
  have c119 := k116.cell' (i := 0) rfl
  have c120 := k116.cell' (i := 1) rfl
  have c121 := k116.cell' (i := 2) rfl
  obtain ⟨Ax122, cx122, Cx122, dx122, e123⟩ := h109.form
  subst e123
  have c127 := fun o => (k116.alloc o).cell' (i := 0) rfl
  have c128 := fun o => (k116.alloc o).cell' (i := 1) rfl
  have c129 := fun o => (k116.alloc o).cell' (i := 2) rfl
  go_wp2_with fail
  obtain ⟨W130, e131⟩ : ∃ W, W = W111.alloc (.cells #[.int .i64 (q).v, .slice Ax122 (q).f.length cx122, .slice Cx122 (q).t.length dx122] 30) := ⟨_, rfl⟩
  rw [← e131]
  have b132 : Below W111.heap.size W111 W130 := by rw [e131]; exact below_alloc _ _
  have k133 : Blk W130 W111.heap.size 30 #[.int .i64 (q).v, .slice Ax122 (q).f.length cx122, .slice Cx122 (q).t.length dx122] := by rw [e131]; exact Blk.new _ _ _
  have s134 : W111.heap.size < W130.heap.size := k133.lt
  clear e131
  have h135 := QvR.below (b132.mono (by omega)) h112
  have h136 := SlI.below (b132.mono (by omega)) h113
  have h137 := SlI.below (b132.mono (by omega)) h114
  have h138 := SlI.below (b132.mono (by omega)) h115
  have h139 := h109.below b132
  have k140 := k116.call b132
  have s141 : W111.heap.size ≤ W130.heap.size := b132.size
  have g142 := bthen g118 b132
  clear h112 h113 h114 h115 h109 k116 g118 b132 c119 c120 c121 c127 c128 c129
  have c143 := k140.cell' (i := 0) rfl
  have c144 := k140.cell' (i := 1) rfl
  have c145 := k140.cell' (i := 2) rfl
  have c146 := k133.cell' (i := 0) rfl
  have c147 := k133.cell' (i := 1) rfl
  have c148 := k133.cell' (i := 2) rfl
  refine (ints_to _ _ _ (SlI.more (by omega) h136) (by omega)).mono ?_; rintro e W149 ⟨v124, rfl, h125, b126⟩
  have h150 := QvR.below (b126.mono (by omega)) h135
  have h151 := SlI.below (b126.mono (by omega)) h136
  have h152 := SlI.below (b126.mono (by omega)) h137
  have h153 := SlI.below (b126.mono (by omega)) h138
  have h154 := h139.below b126
  have k155 := k140.call b126
  have k156 := k133.call b126
  have s157 : W130.heap.size ≤ W149.heap.size := b126.size
  have g158 := bthen g142 b126
  clear h135 h136 h137 h138 h139 k140 k133 g142 b126 c143 c144 c145 c146 c147 c148
  have c159 := k155.cell' (i := 0) rfl
  have c160 := k155.cell' (i := 1) rfl
  have c161 := k155.cell' (i := 2) rfl
  have c162 := k156.cell' (i := 0) rfl
  have c163 := k156.cell' (i := 1) rfl
  have c164 := k156.cell' (i := 2) rfl
  go_wp2_with fail
  refine (ints_to _ _ _ (SlI.more (by omega) h152) (by omega)).mono ?_; rintro e W168 ⟨v165, rfl, h166, b167⟩
  have h169 := QvR.below (b167.mono (by omega)) h150
  have h170 := SlI.below (b167.mono (by omega)) h151
  have h171 := SlI.below (b167.mono (by omega)) h152
  have h172 := SlI.below (b167.mono (by omega)) h153
  have h173 := h154.below b167
  have h174 := h125.below b167
  have k175 := k155.call b167
  have k176 := k156.call b167
  have s177 : W149.heap.size ≤ W168.heap.size := b167.size
  have g178 := bthen g158 b167
  clear h150 h151 h152 h153 h154 h125 k155 k156 g158 b167 c159 c160 c161 c162 c163 c164
  have c179 := k175.cell' (i := 0) rfl
  have c180 := k175.cell' (i := 1) rfl
  have c181 := k175.cell' (i := 2) rfl
  have c182 := k176.cell' (i := 0) rfl
  have c183 := k176.cell' (i := 1) rfl
  have c184 := k176.cell' (i := 2) rfl
  go_wp2_with fail
  refine (implReflectWord_any _ _ _ _ _ _ _ h173.rd h174.rd h166.rd).mono ?_; rintro e W188 ⟨r185, rfl, h186, b187⟩
  have h189 := QvR.below (b187.mono (by omega)) h169
  have h190 := SlI.below (b187.mono (by omega)) h170
  have h191 := SlI.below (b187.mono (by omega)) h171
  have h192 := SlI.below (b187.mono (by omega)) h172
  have h193 := h173.below b187
  have h194 := h174.below b187
  have h195 := h166.below b187
  have k196 := k175.call b187
  have k197 := k176.call b187
  have s198 : W168.heap.size ≤ W188.heap.size := b187.size
  have g199 := bthen g178 b187
  clear h169 h170 h171 h172 h173 h174 h166 k175 k176 g178 b187 c179 c180 c181 c182 c183 c184
  have c200 := k196.cell' (i := 0) rfl
  have c201 := k196.cell' (i := 1) rfl
  have c202 := k196.cell' (i := 2) rfl
  have c203 := k197.cell' (i := 0) rfl
  have c204 := k197.cell' (i := 1) rfl
  have c205 := k197.cell' (i := 2) rfl
  go_wp2_with fail
  refine (eqIntS_any _ _ _ _ _ h186.rd (SlI.more (by omega) h192)).mono ?_; rintro e W207 ⟨rfl, b206⟩
  have h208 := QvR.below (b206.mono (by omega)) h189
  have h209 := SlI.below (b206.mono (by omega)) h190
  have h210 := SlI.below (b206.mono (by omega)) h191
  have h211 := SlI.below (b206.mono (by omega)) h192
  have h212 := h193.below b206
  have h213 := h194.below b206
  have h214 := h195.below b206
  have h215 := h186.below b206
  have k216 := k196.call b206
  have k217 := k197.call b206
  have s218 : W188.heap.size ≤ W207.heap.size := b206.size
  have g219 := bthen g199 b206
  clear h189 h190 h191 h192 h193 h194 h195 h186 k196 k197 g199 b206 c200 c201 c202 c203 c204 c205
  have c220 := k216.cell' (i := 0) rfl
  have c221 := k216.cell' (i := 1) rfl
  have c222 := k216.cell' (i := 2) rfl
  have c223 := k217.cell' (i := 0) rfl
  have c224 := k217.cell' (i := 1) rfl
  have c225 := k217.cell' (i := 2) rfl
  go_wp2_with fail
  have b226 := drew_below W207
  have h227 := QvR.below (b226.mono (by omega)) h208
  have h228 := SlI.below (b226.mono (by omega)) h209
  have h229 := SlI.below (b226.mono (by omega)) h210
  have h230 := SlI.below (b226.mono (by omega)) h211
  have h231 := h212.below b226
  have h232 := h213.below b226
  have h233 := h214.below b226
  have h234 := h215.below b226
  have k235 := k216.call b226
  have k236 := k217.call b226
  have s237 : W207.heap.size ≤ W207.drew.heap.size := b226.size
  have g238 := bthen g219 b226
  clear h208 h209 h210 h211 h212 h213 h214 h215 k216 k217 g219 b226 c220 c221 c222 c223 c224 c225
  have c239 := k235.cell' (i := 0) rfl
  have c240 := k235.cell' (i := 1) rfl
  have c241 := k235.cell' (i := 2) rfl
  have c242 := k236.cell' (i := 0) rfl
  have c243 := k236.cell' (i := 1) rfl
  have c244 := k236.cell' (i := 2) rfl
  go_region_held3 (fun W' => W'.cell? ⟨w.heap.size, 0, none⟩ = some (.int .i64 (q).v) ∧ W'.cell? ⟨w.heap.size, 1, none⟩ = some (.slice Auq (q).f.length cuq) ∧ W'.cell? ⟨w.heap.size, 2, none⟩ = some (.slice Cuq (q).t.length duq) ∧ W'.cell? ⟨W111.heap.size, 0, none⟩ = some (.int .i64 (q).v) ∧ W'.cell? ⟨W111.heap.size, 1, none⟩ = some (.slice Ax122 (q).f.length cx122) ∧ W'.cell? ⟨W111.heap.size, 2, none⟩ = some (.slice Cx122 (q).t.length dx122))
    (first | exact ⟨c239, c240, c241, c242, c243, c244⟩ | exact ⟨c261, c262, c263, c264, c265, c266⟩ | exact ⟨c282, c283, c284, c285, c286, c287⟩)
    (first | (go_at_call 31; refine (quiv_to _ _ _ (QvR.more (by omega) h227) (by omega)).mono ?_; rintro e W248 ⟨v245, rfl, h246, b247⟩; have h249 := QvR.below (b247.mono (by omega)) h227; have h250 := SlI.below (b247.mono (by omega)) h228; have h251 := SlI.below (b247.mono (by omega)) h229; have h252 := SlI.below (b247.mono (by omega)) h230; have h253 := h231.below b247; have h254 := h232.below b247; have h255 := h233.below b247; have h256 := h234.below b247; have k257 := k235.call b247; have k258 := k236.call b247; have s259 : W207.drew.heap.size ≤ W248.heap.size := b247.size; have g260 := bthen g238 b247; clear h227 h228 h229 h230 h231 h232 h233 h234 k235 k236 g238 b247 c239 c240 c241 c242 c243 c244; have c261 := k257.cell' (i := 0) rfl; have c262 := k257.cell' (i := 1) rfl; have c263 := k257.cell' (i := 2) rfl; have c264 := k258.cell' (i := 0) rfl; have c265 := k258.cell' (i := 1) rfl; have c266 := k258.cell' (i := 2) rfl) | (go_at_call 22; refine (eqQuiver_any _ _ _ _ _ h253.rd h246.rd).mono ?_; rintro e W268 ⟨rfl, b267⟩; have h269 := QvR.below (b267.mono (by omega)) h249; have h270 := SlI.below (b267.mono (by omega)) h250; have h271 := SlI.below (b267.mono (by omega)) h251; have h272 := SlI.below (b267.mono (by omega)) h252; have h273 := h253.below b267; have h274 := h254.below b267; have h275 := h255.below b267; have h276 := h256.below b267; have h277 := h246.below b267; have k278 := k257.call b267; have k279 := k258.call b267; have s280 : W248.heap.size ≤ W268.heap.size := b267.size; have g281 := bthen g260 b267; clear h249 h250 h251 h252 h253 h254 h255 h256 h246 k257 k258 g260 b267 c261 c262 c263 c264 c265 c266; have c282 := k278.cell' (i := 0) rfl; have c283 := k278.cell' (i := 1) rfl; have c284 := k278.cell' (i := 2) rfl; have c285 := k279.cell' (i := 0) rfl; have c286 := k279.cell' (i := 1) rfl; have c287 := k279.cell' (i := 2) rfl))
  clear h277
  go_wp2_with fail
  refine (ints_to _ _ _ (SlI.more (by omega) h270) (by omega)).mono ?_; rintro e W291 ⟨v288, rfl, h289, b290⟩
  have h292 := QvR.below (b290.mono (by omega)) h269
  have h293 := SlI.below (b290.mono (by omega)) h270
  have h294 := SlI.below (b290.mono (by omega)) h271
  have h295 := SlI.below (b290.mono (by omega)) h272
  have h296 := h273.below b290
  have h297 := h274.below b290
  have h298 := h275.below b290
  have h299 := h276.below b290
  have k300 := k278.call b290
  have k301 := k279.call b290
  have s302 : W268.heap.size ≤ W291.heap.size := b290.size
  have g303 := bthen g281 b290
  clear h269 h270 h271 h272 h273 h274 h275 h276 k278 k279 g281 b290 c282 c283 c284 c285 c286 c287
  have c304 := k300.cell' (i := 0) rfl
  have c305 := k300.cell' (i := 1) rfl
  have c306 := k300.cell' (i := 2) rfl
  have c307 := k301.cell' (i := 0) rfl
  have c308 := k301.cell' (i := 1) rfl
  have c309 := k301.cell' (i := 2) rfl
  go_wp2_with fail
  refine (eqIntS_any _ _ _ _ _ h297.rd h289.rd).mono ?_; rintro e W311 ⟨rfl, b310⟩
  have h312 := QvR.below (b310.mono (by omega)) h292
  have h313 := SlI.below (b310.mono (by omega)) h293
  have h314 := SlI.below (b310.mono (by omega)) h294
  have h315 := SlI.below (b310.mono (by omega)) h295
  have h316 := h296.below b310
  have h317 := h297.below b310
  have h318 := h298.below b310
  have h319 := h299.below b310
  have h320 := h289.below b310
  have k321 := k300.call b310
  have k322 := k301.call b310
  have s323 : W291.heap.size ≤ W311.heap.size := b310.size
  have g324 := bthen g303 b310
  clear h292 h293 h294 h295 h296 h297 h298 h299 h289 k300 k301 g303 b310 c304 c305 c306 c307 c308 c309
  have c325 := k321.cell' (i := 0) rfl
  have c326 := k321.cell' (i := 1) rfl
  have c327 := k321.cell' (i := 2) rfl
  have c328 := k322.cell' (i := 0) rfl
  have c329 := k322.cell' (i := 1) rfl
  have c330 := k322.cell' (i := 2) rfl
  clear h320
  go_wp2_with fail
  refine (ints_to _ _ _ (SlI.more (by omega) h314) (by omega)).mono ?_; rintro e W334 ⟨v331, rfl, h332, b333⟩
  have h335 := QvR.below (b333.mono (by omega)) h312
  have h336 := SlI.below (b333.mono (by omega)) h313
  have h337 := SlI.below (b333.mono (by omega)) h314
  have h338 := SlI.below (b333.mono (by omega)) h315
  have h339 := h316.below b333
  have h340 := h317.below b333
  have h341 := h318.below b333
  have h342 := h319.below b333
  have k343 := k321.call b333
  have k344 := k322.call b333
  have s345 : W311.heap.size ≤ W334.heap.size := b333.size
  have g346 := bthen g324 b333
  clear h312 h313 h314 h315 h316 h317 h318 h319 k321 k322 g324 b333 c325 c326 c327 c328 c329 c330
  have c347 := k343.cell' (i := 0) rfl
  have c348 := k343.cell' (i := 1) rfl
  have c349 := k343.cell' (i := 2) rfl
  have c350 := k344.cell' (i := 0) rfl
  have c351 := k344.cell' (i := 1) rfl
  have c352 := k344.cell' (i := 2) rfl
  go_wp2_with fail
  refine (eqIntS_any _ _ _ _ _ h341.rd h332.rd).mono ?_; rintro e W354 ⟨rfl, b353⟩
  have h355 := QvR.below (b353.mono (by omega)) h335
  have h356 := SlI.below (b353.mono (by omega)) h336
  have h357 := SlI.below (b353.mono (by omega)) h337
  have h358 := SlI.below (b353.mono (by omega)) h338
  have h359 := h339.below b353
  have h360 := h340.below b353
  have h361 := h341.below b353
  have h362 := h342.below b353
  have h363 := h332.below b353
  have k364 := k343.call b353
  have k365 := k344.call b353
  have s366 : W334.heap.size ≤ W354.heap.size := b353.size
  have g367 := bthen g346 b353
  clear h335 h336 h337 h338 h339 h340 h341 h342 h332 k343 k344 g346 b353 c347 c348 c349 c350 c351 c352
  have c368 := k364.cell' (i := 0) rfl
  have c369 := k364.cell' (i := 1) rfl
  have c370 := k364.cell' (i := 2) rfl
  have c371 := k365.cell' (i := 0) rfl
  have c372 := k365.cell' (i := 1) rfl
  have c373 := k365.cell' (i := 2) rfl
  clear h363
  go_wp2_with fail
  refine (quiv_mark _ _ _ _ _ _ h359 (by omega) (by omega) (by omega)).mono ?_; rintro e W376 ⟨rfl, h374, q375⟩
  have h377 := QvR.chg h355 q375 (by omega) (by omega)
  have h378 := SlI.chg h356 q375 (by omega) (by omega)
  have h379 := SlI.chg h357 q375 (by omega) (by omega)
  have h380 := SlI.chg h358 q375 (by omega) (by omega)
  have h381 := h360.chg q375 (by omega)
  have h382 := h361.chg q375 (by omega)
  have h383 := h362.chg q375 (by omega)
  have k384 := k364.chg q375 (by omega)
  have k385 := k365.chg q375 (by omega)
  have s386 : W354.heap.size ≤ W376.heap.size := q375.size
  have g387 := g367.trans (q375.below (by omega) (by omega))
  clear h355 h356 h357 h358 h360 h361 h362 k364 k365 g367 q375 c368 c369 c370 c371 c372 c373
  have c388 := k384.cell' (i := 0) rfl
  have c389 := k384.cell' (i := 1) rfl
  have c390 := k384.cell' (i := 2) rfl
  have c391 := k385.cell' (i := 0) rfl
  have c392 := k385.cell' (i := 1) rfl
  have c393 := k385.cell' (i := 2) rfl
  clear h359
  go_wp2_with fail
  refine (ints_mark _ _ _ _ _ _ h381 (by omega) (by omega)).mono ?_; rintro e W396 ⟨rfl, h394, q395⟩
  have h397 := QvR.chg h377 q395 (by omega) (by omega)
  have h398 := SlI.chg h378 q395 (by omega) (by omega)
  have h399 := SlI.chg h379 q395 (by omega) (by omega)
  have h400 := SlI.chg h380 q395 (by omega) (by omega)
  have h401 := h374.chg q395 (by omega)
  have h402 := h382.chg q395 (by omega)
  have h403 := h383.chg q395 (by omega)
  have k404 := k384.chg q395 (by omega)
  have k405 := k385.chg q395 (by omega)
  have s406 : W376.heap.size ≤ W396.heap.size := q395.size
  have g407 := g387.trans (q395.below (by omega) (by omega))
  clear h377 h378 h379 h380 h374 h382 h383 k384 k385 g387 q395 c388 c389 c390 c391 c392 c393
  have c408 := k404.cell' (i := 0) rfl
  have c409 := k404.cell' (i := 1) rfl
  have c410 := k404.cell' (i := 2) rfl
  have c411 := k405.cell' (i := 0) rfl
  have c412 := k405.cell' (i := 1) rfl
  have c413 := k405.cell' (i := 2) rfl
  clear h381
  go_wp2_with fail
  refine (ints_mark _ _ _ _ _ _ h402 (by omega) (by omega)).mono ?_; rintro e W416 ⟨rfl, h414, q415⟩
  have h417 := QvR.chg h397 q415 (by omega) (by omega)
  have h418 := SlI.chg h398 q415 (by omega) (by omega)
  have h419 := SlI.chg h399 q415 (by omega) (by omega)
  have h420 := SlI.chg h400 q415 (by omega) (by omega)
  have h421 := h401.chg q415 (by omega)
  have h422 := h394.chg q415 (by omega)
  have h423 := h403.chg q415 (by omega)
  have k424 := k404.chg q415 (by omega)
  have k425 := k405.chg q415 (by omega)
  have s426 : W396.heap.size ≤ W416.heap.size := q415.size
  have g427 := g407.trans (q415.below (by omega) (by omega))
  clear h397 h398 h399 h400 h401 h394 h403 k404 k405 g407 q415 c408 c409 c410 c411 c412 c413
  have c428 := k424.cell' (i := 0) rfl
  have c429 := k424.cell' (i := 1) rfl
  have c430 := k424.cell' (i := 2) rfl
  have c431 := k425.cell' (i := 0) rfl
  have c432 := k425.cell' (i := 1) rfl
  have c433 := k425.cell' (i := 2) rfl
  clear h402
  go_wp2_with fail
  refine (eqIntS_any _ _ _ _ _ h423.rd (SlI.more (by omega) h420)).mono ?_; rintro e W435 ⟨rfl, b434⟩
  have h436 := QvR.below (b434.mono (by omega)) h417
  have h437 := SlI.below (b434.mono (by omega)) h418
  have h438 := SlI.below (b434.mono (by omega)) h419
  have h439 := SlI.below (b434.mono (by omega)) h420
  have h440 := h421.below b434
  have h441 := h422.below b434
  have h442 := h414.below b434
  have h443 := h423.below b434
  have k444 := k424.call b434
  have k445 := k425.call b434
  have s446 : W416.heap.size ≤ W435.heap.size := b434.size
  have g447 := bthen g427 b434
  clear h417 h418 h419 h420 h421 h422 h414 h423 k424 k425 g427 b434 c428 c429 c430 c431 c432 c433
  have c448 := k444.cell' (i := 0) rfl
  have c449 := k444.cell' (i := 1) rfl
  have c450 := k444.cell' (i := 2) rfl
  have c451 := k445.cell' (i := 0) rfl
  have c452 := k445.cell' (i := 1) rfl
  have c453 := k445.cell' (i := 2) rfl
  clear h440
  clear h441
  clear h442
  go_wp2_with fail
  refine (ints_mark _ _ _ _ _ _ h443 (by omega) (by omega)).mono ?_; rintro e W456 ⟨rfl, h454, q455⟩
  have h457 := QvR.chg h436 q455 (by omega) (by omega)
  have h458 := SlI.chg h437 q455 (by omega) (by omega)
  have h459 := SlI.chg h438 q455 (by omega) (by omega)
  have h460 := SlI.chg h439 q455 (by omega) (by omega)
  have k461 := k444.chg q455 (by omega)
  have k462 := k445.chg q455 (by omega)
  have s463 : W435.heap.size ≤ W456.heap.size := q455.size
  have g464 := g447.trans (q455.below (by omega) (by omega))
  clear h436 h437 h438 h439 k444 k445 g447 q455 c448 c449 c450 c451 c452 c453
  have c465 := k461.cell' (i := 0) rfl
  have c466 := k461.cell' (i := 1) rfl
  have c467 := k461.cell' (i := 2) rfl
  have c468 := k462.cell' (i := 0) rfl
  have c469 := k462.cell' (i := 1) rfl
  have c470 := k462.cell' (i := 2) rfl
  clear h443
  go_wp2_with fail
  refine (ints_held _ _ _ _ h454.rd (by omega) (by omega)).mono ?_; rintro e W472 ⟨rfl, b471⟩
  have h473 := QvR.below (b471.mono (by omega)) h457
  have h474 := SlI.below (b471.mono (by omega)) h458
  have h475 := SlI.below (b471.mono (by omega)) h459
  have h476 := SlI.below (b471.mono (by omega)) h460
  have h477 := h454.below b471
  have k478 := k461.call b471
  have k479 := k462.call b471
  have s480 : W456.heap.size ≤ W472.heap.size := b471.size
  have g481 := bthen g464 b471
  clear h457 h458 h459 h460 h454 k461 k462 g464 b471 c465 c466 c467 c468 c469 c470
  have c482 := k478.cell' (i := 0) rfl
  have c483 := k478.cell' (i := 1) rfl
  have c484 := k478.cell' (i := 2) rfl
  have c485 := k479.cell' (i := 0) rfl
  have c486 := k479.cell' (i := 1) rfl
  have c487 := k479.cell' (i := 2) rfl
  go_wp2_with fail
  refine (quiv_to _ _ _ (QvR.more (by omega) h473) (by omega)).mono ?_; rintro e W491 ⟨v488, rfl, h489, b490⟩
  have h492 := QvR.below (b490.mono (by omega)) h473
  have h493 := SlI.below (b490.mono (by omega)) h474
  have h494 := SlI.below (b490.mono (by omega)) h475
  have h495 := SlI.below (b490.mono (by omega)) h476
  have h496 := h477.below b490
  have k497 := k478.call b490
  have k498 := k479.call b490
  have s499 : W472.heap.size ≤ W491.heap.size := b490.size
  have g500 := bthen g481 b490
  clear h473 h474 h475 h476 h477 k478 k479 g481 b490 c482 c483 c484 c485 c486 c487
  have c501 := k497.cell' (i := 0) rfl
  have c502 := k497.cell' (i := 1) rfl
  have c503 := k497.cell' (i := 2) rfl
  have c504 := k498.cell' (i := 0) rfl
  have c505 := k498.cell' (i := 1) rfl
  have c506 := k498.cell' (i := 2) rfl
  go_wp2_with fail
  refine (ints_to _ _ _ (SlI.more (by omega) h493) (by omega)).mono ?_; rintro e W510 ⟨v507, rfl, h508, b509⟩
  have h511 := QvR.below (b509.mono (by omega)) h492
  have h512 := SlI.below (b509.mono (by omega)) h493
  have h513 := SlI.below (b509.mono (by omega)) h494
  have h514 := SlI.below (b509.mono (by omega)) h495
  have h515 := h496.below b509
  have h516 := h489.below b509
  have k517 := k497.call b509
  have k518 := k498.call b509
  have s519 : W491.heap.size ≤ W510.heap.size := b509.size
  have g520 := bthen g500 b509
  clear h492 h493 h494 h495 h496 h489 k497 k498 g500 b509 c501 c502 c503 c504 c505 c506
  have c521 := k517.cell' (i := 0) rfl
  have c522 := k517.cell' (i := 1) rfl
  have c523 := k517.cell' (i := 2) rfl
  have c524 := k518.cell' (i := 0) rfl
  have c525 := k518.cell' (i := 1) rfl
  have c526 := k518.cell' (i := 2) rfl
  go_wp2_with fail
  refine (ints_to _ _ _ (SlI.more (by omega) h513) (by omega)).mono ?_; rintro e W530 ⟨v527, rfl, h528, b529⟩
  have h531 := QvR.below (b529.mono (by omega)) h511
  have h532 := SlI.below (b529.mono (by omega)) h512
  have h533 := SlI.below (b529.mono (by omega)) h513
  have h534 := SlI.below (b529.mono (by omega)) h514
  have h535 := h515.below b529
  have h536 := h516.below b529
  have h537 := h508.below b529
  have k538 := k517.call b529
  have k539 := k518.call b529
  have s540 : W510.heap.size ≤ W530.heap.size := b529.size
  have g541 := bthen g520 b529
  clear h511 h512 h513 h514 h515 h516 h508 k517 k518 g520 b529 c521 c522 c523 c524 c525 c526
  have c542 := k538.cell' (i := 0) rfl
  have c543 := k538.cell' (i := 1) rfl
  have c544 := k538.cell' (i := 2) rfl
  have c545 := k539.cell' (i := 0) rfl
  have c546 := k539.cell' (i := 1) rfl
  have c547 := k539.cell' (i := 2) rfl
  go_wp2_with fail
  refine (implReflectWord_any _ _ _ _ _ _ _ h536.rd h537.rd h528.rd).mono ?_; rintro e W551 ⟨r548, rfl, h549, b550⟩
  have h552 := QvR.below (b550.mono (by omega)) h531
  have h553 := SlI.below (b550.mono (by omega)) h532
  have h554 := SlI.below (b550.mono (by omega)) h533
  have h555 := SlI.below (b550.mono (by omega)) h534
  have h556 := h535.below b550
  have h557 := h536.below b550
  have h558 := h537.below b550
  have h559 := h528.below b550
  have k560 := k538.call b550
  have k561 := k539.call b550
  have s562 : W530.heap.size ≤ W551.heap.size := b550.size
  have g563 := bthen g541 b550
  clear h531 h532 h533 h534 h535 h536 h537 h528 k538 k539 g541 b550 c542 c543 c544 c545 c546 c547
  have c564 := k560.cell' (i := 0) rfl
  have c565 := k560.cell' (i := 1) rfl
  have c566 := k560.cell' (i := 2) rfl
  have c567 := k561.cell' (i := 0) rfl
  have c568 := k561.cell' (i := 1) rfl
  have c569 := k561.cell' (i := 2) rfl
  clear h557
  clear h558
  clear h559
  go_wp2_with fail
  refine (eqIntS_any _ _ _ _ _ h549.rd (SlI.more (by omega) h555)).mono ?_; rintro e W571 ⟨rfl, b570⟩
  have h572 := QvR.below (b570.mono (by omega)) h552
  have h573 := SlI.below (b570.mono (by omega)) h553
  have h574 := SlI.below (b570.mono (by omega)) h554
  have h575 := SlI.below (b570.mono (by omega)) h555
  have h576 := h556.below b570
  have h577 := h549.below b570
  have k578 := k560.call b570
  have k579 := k561.call b570
  have s580 : W551.heap.size ≤ W571.heap.size := b570.size
  have g581 := bthen g563 b570
  clear h552 h553 h554 h555 h556 h549 k560 k561 g563 b570 c564 c565 c566 c567 c568 c569
  have c582 := k578.cell' (i := 0) rfl
  have c583 := k578.cell' (i := 1) rfl
  have c584 := k578.cell' (i := 2) rfl
  have c585 := k579.cell' (i := 0) rfl
  have c586 := k579.cell' (i := 1) rfl
  have c587 := k579.cell' (i := 2) rfl
  clear h577
  go_wp2_with fail
  refine (ints_held _ _ _ _ h576.rd (by omega) (by omega)).mono ?_; rintro e W589 ⟨rfl, b588⟩
  have h590 := QvR.below (b588.mono (by omega)) h572
  have h591 := SlI.below (b588.mono (by omega)) h573
  have h592 := SlI.below (b588.mono (by omega)) h574
  have h593 := SlI.below (b588.mono (by omega)) h575
  have h594 := h576.below b588
  have k595 := k578.call b588
  have k596 := k579.call b588
  have s597 : W571.heap.size ≤ W589.heap.size := b588.size
  have g598 := bthen g581 b588
  clear h572 h573 h574 h575 h576 k578 k579 g581 b588 c582 c583 c584 c585 c586 c587
  have c599 := k595.cell' (i := 0) rfl
  have c600 := k595.cell' (i := 1) rfl
  have c601 := k595.cell' (i := 2) rfl
  have c602 := k596.cell' (i := 0) rfl
  have c603 := k596.cell' (i := 1) rfl
  have c604 := k596.cell' (i := 2) rfl
  go_wp2
  go_ret
  exact ⟨rfl, g598⟩
end Go.Proofs.Ytndnjbofflddfaa
