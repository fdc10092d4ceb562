/- The walk of FnExactPencilAt, printed by program (wip/law.py) out of the contracts of what it calls. -/
import Derived.Test.YtbgjhnolnccnnaaPenAt4
import Derived.Test.YtbgjhnolnccnnaaKitR2
namespace Go.Proofs.Ytbgjhnolnccnnaa
set_option linter.unusedVariables false
set_option linter.unusedSimpArgs false
open Go.RowKit

set_option maxHeartbeats 1600000 in
set_option maxRecDepth 100000 in
theorem lawPencilAt_any (ur : Value) (r : Rp) (v : Int) (y : Int) (w : World) (hr : RpR w w.heap.size ur r) (rng_v : I64 v) (rng_y : I64 y) :
    Calls Try.prog 13 #[ur, .int .i64 v, .int .i64 y] w fun e w' => e = .returned (.bool true) ∧ Below w.heap.size w w' := by
  obtain ⟨Aur, aur, Cur, cur, Eur, eur, Hur, hur, er⟩ := RpR.form hr
  subst er
  have lr := RpR.lens hr
  have zr := pAtP_size r v y
  have g0 := Below.refl w.heap.size w
  by_cases z0 : (1048576 : Int) < (r.size : Nat)
  · have y0 : szLeft (1048576 : Int) (r.size) = -1 := by rw [szLeft, if_pos z0]
    go_enter Try.func13, Try.ntmps13
    go_wp2_with fail
    obtain ⟨W2, e3⟩ : ∃ W, W = w.alloc (.cells #[.int .i64 (r).p, .int .i64 (r).q.v, .slice Aur (r).q.f.length aur, .slice Cur (r).q.t.length cur, .slice Eur (r).d.length eur, .slice Hur (r).m.length hur] 57) := ⟨_, rfl⟩
    rw [← e3]
    have b4 : Below w.heap.size w W2 := by rw [e3]; exact below_alloc _ _
    have k5 : Blk W2 w.heap.size 57 #[.int .i64 (r).p, .int .i64 (r).q.v, .slice Aur (r).q.f.length aur, .slice Cur (r).q.t.length cur, .slice Eur (r).d.length eur, .slice Hur (r).m.length hur] := by rw [e3]; exact Blk.new _ _ _
    have s6 : w.heap.size < W2.heap.size := by rw [e3]; simp
    clear e3
    have h7 := RpR.below (b4.mono (by omega)) hr
    have s8 : w.heap.size ≤ W2.heap.size := b4.size
    have g9 := bthen g0 b4
    clear hr g0 b4
    have c10 := k5.cell' (i := 0) rfl
    have c11 := k5.cell' (i := 1) rfl
    have c12 := k5.cell' (i := 2) rfl
    have c13 := k5.cell' (i := 3) rfl
    have c14 := k5.cell' (i := 4) rfl
    have c15 := k5.cell' (i := 5) rfl
    refine (szRep_any _ _ (1048576 : Int) _ (RpR.more (by omega) h7) (by omega) (by omega)).mono ?_; rintro e W16 ⟨rfl, b1⟩
    have h17 := RpR.below (b1.mono (by omega)) h7
    have k18 := k5.call b1
    have s19 : W2.heap.size ≤ W16.heap.size := b1.size
    have g20 := bthen g9 b1
    clear h7 k5 g9 b1 c10 c11 c12 c13 c14 c15
    have c21 := k18.cell' (i := 0) rfl
    have c22 := k18.cell' (i := 1) rfl
    have c23 := k18.cell' (i := 2) rfl
    have c24 := k18.cell' (i := 3) rfl
    have c25 := k18.cell' (i := 4) rfl
    have c26 := k18.cell' (i := 5) rfl
    go_wp2
    go_ret
    exact ⟨rfl, g20⟩
  have y0 : szLeft (1048576 : Int) (r.size) = (1048576 : Int) - (r.size : Nat) := by rw [szLeft, if_neg z0]
  have x0 : ¬ ((1048576 : Int) - ((r.size : Nat) : Int) < 0) := by omega
  go_enter Try.func13, Try.ntmps13
  go_wp2_with fail
  obtain ⟨W28, e29⟩ : ∃ W, W = w.alloc (.cells #[.int .i64 (r).p, .int .i64 (r).q.v, .slice Aur (r).q.f.length aur, .slice Cur (r).q.t.length cur, .slice Eur (r).d.length eur, .slice Hur (r).m.length hur] 57) := ⟨_, rfl⟩
  rw [← e29]
  have b30 : Below w.heap.size w W28 := by rw [e29]; exact below_alloc _ _
  have k31 : Blk W28 w.heap.size 57 #[.int .i64 (r).p, .int .i64 (r).q.v, .slice Aur (r).q.f.length aur, .slice Cur (r).q.t.length cur, .slice Eur (r).d.length eur, .slice Hur (r).m.length hur] := by rw [e29]; exact Blk.new _ _ _
  have s32 : w.heap.size < W28.heap.size := by rw [e29]; simp
  clear e29
  have h33 := RpR.below (b30.mono (by omega)) hr
  have s34 : w.heap.size ≤ W28.heap.size := b30.size
  have g35 := bthen g0 b30
  clear hr g0 b30
  have c36 := k31.cell' (i := 0) rfl
  have c37 := k31.cell' (i := 1) rfl
  have c38 := k31.cell' (i := 2) rfl
  have c39 := k31.cell' (i := 3) rfl
  have c40 := k31.cell' (i := 4) rfl
  have c41 := k31.cell' (i := 5) rfl
  refine (szRep_any _ _ (1048576 : Int) _ (RpR.more (by omega) h33) (by omega) (by omega)).mono ?_; rintro e W42 ⟨rfl, b27⟩
  have h43 := RpR.below (b27.mono (by omega)) h33
  have k44 := k31.call b27
  have s45 : W28.heap.size ≤ W42.heap.size := b27.size
  have g46 := bthen g35 b27
  clear h33 k31 g35 b27 c36 c37 c38 c39 c40 c41
  have c47 := k44.cell' (i := 0) rfl
  have c48 := k44.cell' (i := 1) rfl
  have c49 := k44.cell' (i := 2) rfl
  have c50 := k44.cell' (i := 3) rfl
  have c51 := k44.cell' (i := 4) rfl
  have c52 := k44.cell' (i := 5) rfl
  go_wp2_with fail
  refine (rep_to _ _ _ (RpR.more (by omega) h43) (by omega)).mono ?_; rintro e W56 ⟨v53, rfl, h54, b55⟩
  have h57 := RpR.below (b55.mono (by omega)) h43
  have k58 := k44.call b55
  have s59 : W42.heap.size ≤ W56.heap.size := b55.size
  have g60 := bthen g46 b55
  clear h43 k44 g46 b55 c47 c48 c49 c50 c51 c52
  have c61 := k58.cell' (i := 0) rfl
  have c62 := k58.cell' (i := 1) rfl
  have c63 := k58.cell' (i := 2) rfl
  have c64 := k58.cell' (i := 3) rfl
  have c65 := k58.cell' (i := 4) rfl
  have c66 := k58.cell' (i := 5) rfl
  go_wp2_with fail
  refine (specPencilAt_any _ _ _ _ _ h54.rd rng_v rng_y).mono ?_; rintro e W70 ⟨r67, rfl, h68, b69⟩
  have h71 := RpR.below (b69.mono (by omega)) h57
  have h72 := h54.below b69
  have k73 := k58.call b69
  have s74 : W56.heap.size ≤ W70.heap.size := b69.size
  have g75 := bthen g60 b69
  clear h57 h54 k58 g60 b69 c61 c62 c63 c64 c65 c66
  have c76 := k73.cell' (i := 0) rfl
  have c77 := k73.cell' (i := 1) rfl
  have c78 := k73.cell' (i := 2) rfl
  have c79 := k73.cell' (i := 3) rfl
  have c80 := k73.cell' (i := 4) rfl
  have c81 := k73.cell' (i := 5) rfl
  have h82 := h68.rd
  clear h68
  clear h72
  obtain ⟨Ax83, cx83, e84⟩ := MxR.form h82
  subst e84
  have c88 := fun o => (k73.alloc o).cell' (i := 0) rfl
  have c89 := fun o => (k73.alloc o).cell' (i := 1) rfl
  have c90 := fun o => (k73.alloc o).cell' (i := 2) rfl
  have c91 := fun o => (k73.alloc o).cell' (i := 3) rfl
  have c92 := fun o => (k73.alloc o).cell' (i := 4) rfl
  have c93 := fun o => (k73.alloc o).cell' (i := 5) rfl
  go_wp2_with fail
  obtain ⟨W94, e95⟩ : ∃ W, W = W70.alloc (.cells #[.int .i64 ((pAtP r v y).1).r, .int .i64 ((pAtP r v y).1).c, .slice Ax83 ((pAtP r v y).1).a.length cx83] 60) := ⟨_, rfl⟩
  rw [← e95]
  have b96 : Below W70.heap.size W70 W94 := by rw [e95]; exact below_alloc _ _
  have k97 : Blk W94 W70.heap.size 60 #[.int .i64 ((pAtP r v y).1).r, .int .i64 ((pAtP r v y).1).c, .slice Ax83 ((pAtP r v y).1).a.length cx83] := by rw [e95]; exact Blk.new _ _ _
  have s98 : W70.heap.size < W94.heap.size := by rw [e95]; simp
  clear e95
  have h99 := RpR.below (b96.mono (by omega)) h71
  have h100 := MxR.below (b96.mono (by omega)) h82
  have k101 := k73.call b96
  have s102 : W70.heap.size ≤ W94.heap.size := b96.size
  have g103 := bthen g75 b96
  clear h71 h82 k73 g75 b96 c76 c77 c78 c79 c80 c81 c88 c89 c90 c91 c92 c93
  have c104 := k101.cell' (i := 0) rfl
  have c105 := k101.cell' (i := 1) rfl
  have c106 := k101.cell' (i := 2) rfl
  have c107 := k101.cell' (i := 3) rfl
  have c108 := k101.cell' (i := 4) rfl
  have c109 := k101.cell' (i := 5) rfl
  have c110 := k97.cell' (i := 0) rfl
  have c111 := k97.cell' (i := 1) rfl
  have c112 := k97.cell' (i := 2) rfl
  refine (rep_to _ _ _ (RpR.more (by omega) h99) (by omega)).mono ?_; rintro e W113 ⟨v85, rfl, h86, b87⟩
  have h114 := RpR.below (b87.mono (by omega)) h99
  have h115 := MxR.below (b87.mono (by omega)) h100
  have k116 := k101.call b87
  have k117 := k97.call b87
  have s118 : W94.heap.size ≤ W113.heap.size := b87.size
  have g119 := bthen g103 b87
  clear h99 h100 k101 k97 g103 b87 c104 c105 c106 c107 c108 c109 c110 c111 c112
  have c120 := k116.cell' (i := 0) rfl
  have c121 := k116.cell' (i := 1) rfl
  have c122 := k116.cell' (i := 2) rfl
  have c123 := k116.cell' (i := 3) rfl
  have c124 := k116.cell' (i := 4) rfl
  have c125 := k116.cell' (i := 5) rfl
  have c126 := k117.cell' (i := 0) rfl
  have c127 := k117.cell' (i := 1) rfl
  have c128 := k117.cell' (i := 2) rfl
  obtain ⟨Ax129, ax129, Cx129, cx129, Ex129, ex129, Hx129, hx129, e130⟩ := h86.form
  subst e130
  have c134 := fun o => (k116.alloc o).cell' (i := 0) rfl
  have c135 := fun o => (k116.alloc o).cell' (i := 1) rfl
  have c136 := fun o => (k116.alloc o).cell' (i := 2) rfl
  have c137 := fun o => (k116.alloc o).cell' (i := 3) rfl
  have c138 := fun o => (k116.alloc o).cell' (i := 4) rfl
  have c139 := fun o => (k116.alloc o).cell' (i := 5) rfl
  have c140 := fun o => (k117.alloc o).cell' (i := 0) rfl
  have c141 := fun o => (k117.alloc o).cell' (i := 1) rfl
  have c142 := fun o => (k117.alloc o).cell' (i := 2) rfl
  go_wp2_with fail
  obtain ⟨W143, e144⟩ : ∃ W, W = W113.alloc (.cells #[.int .i64 (r).p, .int .i64 (r).q.v, .slice Ax129 (r).q.f.length ax129, .slice Cx129 (r).q.t.length cx129, .slice Ex129 (r).d.length ex129, .slice Hx129 (r).m.length hx129] 40) := ⟨_, rfl⟩
  rw [← e144]
  have b145 : Below W113.heap.size W113 W143 := by rw [e144]; exact below_alloc _ _
  have k146 : Blk W143 W113.heap.size 40 #[.int .i64 (r).p, .int .i64 (r).q.v, .slice Ax129 (r).q.f.length ax129, .slice Cx129 (r).q.t.length cx129, .slice Ex129 (r).d.length ex129, .slice Hx129 (r).m.length hx129] := by rw [e144]; exact Blk.new _ _ _
  have s147 : W113.heap.size < W143.heap.size := by rw [e144]; simp
  clear e144
  have h148 := RpR.below (b145.mono (by omega)) h114
  have h149 := MxR.below (b145.mono (by omega)) h115
  have h150 := h86.below b145
  have k151 := k116.call b145
  have k152 := k117.call b145
  have s153 : W113.heap.size ≤ W143.heap.size := b145.size
  have g154 := bthen g119 b145
  clear h114 h115 h86 k116 k117 g119 b145 c120 c121 c122 c123 c124 c125 c126 c127 c128 c134 c135 c136 c137 c138 c139 c140 c141 c142
  have c155 := k151.cell' (i := 0) rfl
  have c156 := k151.cell' (i := 1) rfl
  have c157 := k151.cell' (i := 2) rfl
  have c158 := k151.cell' (i := 3) rfl
  have c159 := k151.cell' (i := 4) rfl
  have c160 := k151.cell' (i := 5) rfl
  have c161 := k152.cell' (i := 0) rfl
  have c162 := k152.cell' (i := 1) rfl
  have c163 := k152.cell' (i := 2) rfl
  have c164 := k146.cell' (i := 0) rfl
  have c165 := k146.cell' (i := 1) rfl
  have c166 := k146.cell' (i := 2) rfl
  have c167 := k146.cell' (i := 3) rfl
  have c168 := k146.cell' (i := 4) rfl
  have c169 := k146.cell' (i := 5) rfl
  refine (implPencilAt_any _ _ _ _ _ h150.rd rng_v rng_y).mono ?_; rintro e W170 ⟨r131, rfl, h132, b133⟩
  have h171 := RpR.below (b133.mono (by omega)) h148
  have h172 := MxR.below (b133.mono (by omega)) h149
  have h173 := h150.below b133
  have k174 := k151.call b133
  have k175 := k152.call b133
  have k176 := k146.call b133
  have s177 : W143.heap.size ≤ W170.heap.size := b133.size
  have g178 := bthen g154 b133
  clear h148 h149 h150 k151 k152 k146 g154 b133 c155 c156 c157 c158 c159 c160 c161 c162 c163 c164 c165 c166 c167 c168 c169
  have c179 := k174.cell' (i := 0) rfl
  have c180 := k174.cell' (i := 1) rfl
  have c181 := k174.cell' (i := 2) rfl
  have c182 := k174.cell' (i := 3) rfl
  have c183 := k174.cell' (i := 4) rfl
  have c184 := k174.cell' (i := 5) rfl
  have c185 := k175.cell' (i := 0) rfl
  have c186 := k175.cell' (i := 1) rfl
  have c187 := k175.cell' (i := 2) rfl
  have c188 := k176.cell' (i := 0) rfl
  have c189 := k176.cell' (i := 1) rfl
  have c190 := k176.cell' (i := 2) rfl
  have c191 := k176.cell' (i := 3) rfl
  have c192 := k176.cell' (i := 4) rfl
  have c193 := k176.cell' (i := 5) rfl
  obtain ⟨Ax194, cx194, e195⟩ := h132.form
  subst e195
  have c197 := fun o => (k174.alloc o).cell' (i := 0) rfl
  have c198 := fun o => (k174.alloc o).cell' (i := 1) rfl
  have c199 := fun o => (k174.alloc o).cell' (i := 2) rfl
  have c200 := fun o => (k174.alloc o).cell' (i := 3) rfl
  have c201 := fun o => (k174.alloc o).cell' (i := 4) rfl
  have c202 := fun o => (k174.alloc o).cell' (i := 5) rfl
  have c203 := fun o => (k175.alloc o).cell' (i := 0) rfl
  have c204 := fun o => (k175.alloc o).cell' (i := 1) rfl
  have c205 := fun o => (k175.alloc o).cell' (i := 2) rfl
  have c206 := fun o => (k176.alloc o).cell' (i := 0) rfl
  have c207 := fun o => (k176.alloc o).cell' (i := 1) rfl
  have c208 := fun o => (k176.alloc o).cell' (i := 2) rfl
  have c209 := fun o => (k176.alloc o).cell' (i := 3) rfl
  have c210 := fun o => (k176.alloc o).cell' (i := 4) rfl
  have c211 := fun o => (k176.alloc o).cell' (i := 5) rfl
  go_wp2_with fail
  obtain ⟨W212, e213⟩ : ∃ W, W = W170.alloc (.cells #[.int .i64 ((pAtP r v y).1).r, .int .i64 ((pAtP r v y).1).c, .slice Ax194 ((pAtP r v y).1).a.length cx194] 60) := ⟨_, rfl⟩
  rw [← e213]
  have b214 : Below W170.heap.size W170 W212 := by rw [e213]; exact below_alloc _ _
  have k215 : Blk W212 W170.heap.size 60 #[.int .i64 ((pAtP r v y).1).r, .int .i64 ((pAtP r v y).1).c, .slice Ax194 ((pAtP r v y).1).a.length cx194] := by rw [e213]; exact Blk.new _ _ _
  have s216 : W170.heap.size < W212.heap.size := by rw [e213]; simp
  clear e213
  have h217 := RpR.below (b214.mono (by omega)) h171
  have h218 := MxR.below (b214.mono (by omega)) h172
  have h219 := h173.below b214
  have h220 := h132.below b214
  have k221 := k174.call b214
  have k222 := k175.call b214
  have k223 := k176.call b214
  have s224 : W170.heap.size ≤ W212.heap.size := b214.size
  have g225 := bthen g178 b214
  clear h171 h172 h173 h132 k174 k175 k176 g178 b214 c179 c180 c181 c182 c183 c184 c185 c186 c187 c188 c189 c190 c191 c192 c193 c197 c198 c199 c200 c201 c202 c203 c204 c205 c206 c207 c208 c209 c210 c211
  have c226 := k221.cell' (i := 0) rfl
  have c227 := k221.cell' (i := 1) rfl
  have c228 := k221.cell' (i := 2) rfl
  have c229 := k221.cell' (i := 3) rfl
  have c230 := k221.cell' (i := 4) rfl
  have c231 := k221.cell' (i := 5) rfl
  have c232 := k222.cell' (i := 0) rfl
  have c233 := k222.cell' (i := 1) rfl
  have c234 := k222.cell' (i := 2) rfl
  have c235 := k223.cell' (i := 0) rfl
  have c236 := k223.cell' (i := 1) rfl
  have c237 := k223.cell' (i := 2) rfl
  have c238 := k223.cell' (i := 3) rfl
  have c239 := k223.cell' (i := 4) rfl
  have c240 := k223.cell' (i := 5) rfl
  have c241 := k215.cell' (i := 0) rfl
  have c242 := k215.cell' (i := 1) rfl
  have c243 := k215.cell' (i := 2) rfl
  refine (eqMatrix_any _ _ _ _ _ h220.rd (MxR.more (by omega) h218)).mono ?_; rintro e W244 ⟨rfl, b196⟩
  have h245 := RpR.below (b196.mono (by omega)) h217
  have h246 := MxR.below (b196.mono (by omega)) h218
  have h247 := h219.below b196
  have h248 := h220.below b196
  have k249 := k221.call b196
  have k250 := k222.call b196
  have k251 := k223.call b196
  have k252 := k215.call b196
  have s253 : W212.heap.size ≤ W244.heap.size := b196.size
  have g254 := bthen g225 b196
  clear h217 h218 h219 h220 k221 k222 k223 k215 g225 b196 c226 c227 c228 c229 c230 c231 c232 c233 c234 c235 c236 c237 c238 c239 c240 c241 c242 c243
  have c255 := k249.cell' (i := 0) rfl
  have c256 := k249.cell' (i := 1) rfl
  have c257 := k249.cell' (i := 2) rfl
  have c258 := k249.cell' (i := 3) rfl
  have c259 := k249.cell' (i := 4) rfl
  have c260 := k249.cell' (i := 5) rfl
  have c261 := k250.cell' (i := 0) rfl
  have c262 := k250.cell' (i := 1) rfl
  have c263 := k250.cell' (i := 2) rfl
  have c264 := k251.cell' (i := 0) rfl
  have c265 := k251.cell' (i := 1) rfl
  have c266 := k251.cell' (i := 2) rfl
  have c267 := k251.cell' (i := 3) rfl
  have c268 := k251.cell' (i := 4) rfl
  have c269 := k251.cell' (i := 5) rfl
  have c270 := k252.cell' (i := 0) rfl
  have c271 := k252.cell' (i := 1) rfl
  have c272 := k252.cell' (i := 2) rfl
  go_wp2_with fail
  have b273 := drew_below W244
  have h274 := RpR.below (b273.mono (by omega)) h245
  have h275 := MxR.below (b273.mono (by omega)) h246
  have h276 := h247.below b273
  have h277 := h248.below b273
  have k278 := k249.call b273
  have k279 := k250.call b273
  have k280 := k251.call b273
  have k281 := k252.call b273
  have s282 : W244.heap.size ≤ W244.drew.heap.size := b273.size
  have g283 := bthen g254 b273
  clear h245 h246 h247 h248 k249 k250 k251 k252 g254 b273 c255 c256 c257 c258 c259 c260 c261 c262 c263 c264 c265 c266 c267 c268 c269 c270 c271 c272
  have c284 := k278.cell' (i := 0) rfl
  have c285 := k278.cell' (i := 1) rfl
  have c286 := k278.cell' (i := 2) rfl
  have c287 := k278.cell' (i := 3) rfl
  have c288 := k278.cell' (i := 4) rfl
  have c289 := k278.cell' (i := 5) rfl
  have c290 := k279.cell' (i := 0) rfl
  have c291 := k279.cell' (i := 1) rfl
  have c292 := k279.cell' (i := 2) rfl
  have c293 := k280.cell' (i := 0) rfl
  have c294 := k280.cell' (i := 1) rfl
  have c295 := k280.cell' (i := 2) rfl
  have c296 := k280.cell' (i := 3) rfl
  have c297 := k280.cell' (i := 4) rfl
  have c298 := k280.cell' (i := 5) rfl
  have c299 := k281.cell' (i := 0) rfl
  have c300 := k281.cell' (i := 1) rfl
  have c301 := k281.cell' (i := 2) rfl
  go_region_held3 (fun W' => W'.cell? ⟨w.heap.size, 0, none⟩ = some (.int .i64 (r).p) ∧ W'.cell? ⟨w.heap.size, 1, none⟩ = some (.int .i64 (r).q.v) ∧ W'.cell? ⟨w.heap.size, 2, none⟩ = some (.slice Aur (r).q.f.length aur) ∧ W'.cell? ⟨w.heap.size, 3, none⟩ = some (.slice Cur (r).q.t.length cur) ∧ W'.cell? ⟨w.heap.size, 4, none⟩ = some (.slice Eur (r).d.length eur) ∧ W'.cell? ⟨w.heap.size, 5, none⟩ = some (.slice Hur (r).m.length hur) ∧ W'.cell? ⟨W70.heap.size, 0, none⟩ = some (.int .i64 ((pAtP r v y).1).r) ∧ W'.cell? ⟨W70.heap.size, 1, none⟩ = some (.int .i64 ((pAtP r v y).1).c) ∧ W'.cell? ⟨W70.heap.size, 2, none⟩ = some (.slice Ax83 ((pAtP r v y).1).a.length cx83) ∧ W'.cell? ⟨W113.heap.size, 0, none⟩ = some (.int .i64 (r).p) ∧ W'.cell? ⟨W113.heap.size, 1, none⟩ = some (.int .i64 (r).q.v) ∧ W'.cell? ⟨W113.heap.size, 2, none⟩ = some (.slice Ax129 (r).q.f.length ax129) ∧ W'.cell? ⟨W113.heap.size, 3, none⟩ = some (.slice Cx129 (r).q.t.length cx129) ∧ W'.cell? ⟨W113.heap.size, 4, none⟩ = some (.slice Ex129 (r).d.length ex129) ∧ W'.cell? ⟨W113.heap.size, 5, none⟩ = some (.slice Hx129 (r).m.length hx129) ∧ W'.cell? ⟨W170.heap.size, 0, none⟩ = some (.int .i64 ((pAtP r v y).1).r) ∧ W'.cell? ⟨W170.heap.size, 1, none⟩ = some (.int .i64 ((pAtP r v y).1).c) ∧ W'.cell? ⟨W170.heap.size, 2, none⟩ = some (.slice Ax194 ((pAtP r v y).1).a.length cx194))
    (first | exact ⟨c284, c285, c286, c287, c288, c289, c290, c291, c292, c293, c294, c295, c296, c297, c298, c299, c300, c301⟩ | exact ⟨c316, c317, c318, c319, c320, c321, c322, c323, c324, c325, c326, c327, c328, c329, c330, c331, c332, c333⟩ | exact ⟨c347, c348, c349, c350, c351, c352, c353, c354, c355, c356, c357, c358, c359, c360, c361, c362, c363, c364⟩)
    (first | (go_at_call 45; refine (rep_to _ _ _ (RpR.more (by omega) h274) (by omega)).mono ?_; rintro e W305 ⟨v302, rfl, h303, b304⟩; have h306 := RpR.below (b304.mono (by omega)) h274; have h307 := MxR.below (b304.mono (by omega)) h275; have h308 := h276.below b304; have h309 := h277.below b304; have k310 := k278.call b304; have k311 := k279.call b304; have k312 := k280.call b304; have k313 := k281.call b304; have s314 : W244.drew.heap.size ≤ W305.heap.size := b304.size; have g315 := bthen g283 b304; clear h274 h275 h276 h277 k278 k279 k280 k281 g283 b304 c284 c285 c286 c287 c288 c289 c290 c291 c292 c293 c294 c295 c296 c297 c298 c299 c300 c301; have c316 := k310.cell' (i := 0) rfl; have c317 := k310.cell' (i := 1) rfl; have c318 := k310.cell' (i := 2) rfl; have c319 := k310.cell' (i := 3) rfl; have c320 := k310.cell' (i := 4) rfl; have c321 := k310.cell' (i := 5) rfl; have c322 := k311.cell' (i := 0) rfl; have c323 := k311.cell' (i := 1) rfl; have c324 := k311.cell' (i := 2) rfl; have c325 := k312.cell' (i := 0) rfl; have c326 := k312.cell' (i := 1) rfl; have c327 := k312.cell' (i := 2) rfl; have c328 := k312.cell' (i := 3) rfl; have c329 := k312.cell' (i := 4) rfl; have c330 := k312.cell' (i := 5) rfl; have c331 := k313.cell' (i := 0) rfl; have c332 := k313.cell' (i := 1) rfl; have c333 := k313.cell' (i := 2) rfl) | (go_at_call 27; refine (eqRep_any _ _ _ _ _ h308.rd h303.rd).mono ?_; rintro e W335 ⟨rfl, b334⟩; have h336 := RpR.below (b334.mono (by omega)) h306; have h337 := MxR.below (b334.mono (by omega)) h307; have h338 := h308.below b334; have h339 := h309.below b334; have h340 := h303.below b334; have k341 := k310.call b334; have k342 := k311.call b334; have k343 := k312.call b334; have k344 := k313.call b334; have s345 : W305.heap.size ≤ W335.heap.size := b334.size; have g346 := bthen g315 b334; clear h306 h307 h308 h309 h303 k310 k311 k312 k313 g315 b334 c316 c317 c318 c319 c320 c321 c322 c323 c324 c325 c326 c327 c328 c329 c330 c331 c332 c333; have c347 := k341.cell' (i := 0) rfl; have c348 := k341.cell' (i := 1) rfl; have c349 := k341.cell' (i := 2) rfl; have c350 := k341.cell' (i := 3) rfl; have c351 := k341.cell' (i := 4) rfl; have c352 := k341.cell' (i := 5) rfl; have c353 := k342.cell' (i := 0) rfl; have c354 := k342.cell' (i := 1) rfl; have c355 := k342.cell' (i := 2) rfl; have c356 := k343.cell' (i := 0) rfl; have c357 := k343.cell' (i := 1) rfl; have c358 := k343.cell' (i := 2) rfl; have c359 := k343.cell' (i := 3) rfl; have c360 := k343.cell' (i := 4) rfl; have c361 := k343.cell' (i := 5) rfl; have c362 := k344.cell' (i := 0) rfl; have c363 := k344.cell' (i := 1) rfl; have c364 := k344.cell' (i := 2) rfl))
  clear h340
  go_wp2_with fail
  refine (rep_mark _ _ _ _ _ _ h338 (by omega) (by omega) (by omega) (by omega)).mono ?_; rintro e W367 ⟨rfl, h365, q366⟩
  have h368 := RpR.chg h336 q366 (by omega) (by omega)
  have h369 := MxR.chg h337 q366 (by omega) (by omega)
  have h370 := h339.chg q366 (by omega)
  have k371 := k341.chg q366 (by omega)
  have k372 := k342.chg q366 (by omega)
  have k373 := k343.chg q366 (by omega)
  have k374 := k344.chg q366 (by omega)
  have s375 : W335.heap.size ≤ W367.heap.size := q366.size
  have g376 := g346.trans (q366.below (by omega) (by omega))
  clear h336 h337 h339 k341 k342 k343 k344 g346 q366 c347 c348 c349 c350 c351 c352 c353 c354 c355 c356 c357 c358 c359 c360 c361 c362 c363 c364
  have c377 := k371.cell' (i := 0) rfl
  have c378 := k371.cell' (i := 1) rfl
  have c379 := k371.cell' (i := 2) rfl
  have c380 := k371.cell' (i := 3) rfl
  have c381 := k371.cell' (i := 4) rfl
  have c382 := k371.cell' (i := 5) rfl
  have c383 := k372.cell' (i := 0) rfl
  have c384 := k372.cell' (i := 1) rfl
  have c385 := k372.cell' (i := 2) rfl
  have c386 := k373.cell' (i := 0) rfl
  have c387 := k373.cell' (i := 1) rfl
  have c388 := k373.cell' (i := 2) rfl
  have c389 := k373.cell' (i := 3) rfl
  have c390 := k373.cell' (i := 4) rfl
  have c391 := k373.cell' (i := 5) rfl
  have c392 := k374.cell' (i := 0) rfl
  have c393 := k374.cell' (i := 1) rfl
  have c394 := k374.cell' (i := 2) rfl
  clear h338
  go_wp2_with fail
  refine (eqMatrix_any _ _ _ _ _ h370.rd (MxR.more (by omega) h369)).mono ?_; rintro e W396 ⟨rfl, b395⟩
  have h397 := RpR.below (b395.mono (by omega)) h368
  have h398 := MxR.below (b395.mono (by omega)) h369
  have h399 := h365.below b395
  have h400 := h370.below b395
  have k401 := k371.call b395
  have k402 := k372.call b395
  have k403 := k373.call b395
  have k404 := k374.call b395
  have s405 : W367.heap.size ≤ W396.heap.size := b395.size
  have g406 := bthen g376 b395
  clear h368 h369 h365 h370 k371 k372 k373 k374 g376 b395 c377 c378 c379 c380 c381 c382 c383 c384 c385 c386 c387 c388 c389 c390 c391 c392 c393 c394
  have c407 := k401.cell' (i := 0) rfl
  have c408 := k401.cell' (i := 1) rfl
  have c409 := k401.cell' (i := 2) rfl
  have c410 := k401.cell' (i := 3) rfl
  have c411 := k401.cell' (i := 4) rfl
  have c412 := k401.cell' (i := 5) rfl
  have c413 := k402.cell' (i := 0) rfl
  have c414 := k402.cell' (i := 1) rfl
  have c415 := k402.cell' (i := 2) rfl
  have c416 := k403.cell' (i := 0) rfl
  have c417 := k403.cell' (i := 1) rfl
  have c418 := k403.cell' (i := 2) rfl
  have c419 := k403.cell' (i := 3) rfl
  have c420 := k403.cell' (i := 4) rfl
  have c421 := k403.cell' (i := 5) rfl
  have c422 := k404.cell' (i := 0) rfl
  have c423 := k404.cell' (i := 1) rfl
  have c424 := k404.cell' (i := 2) rfl
  clear h399
  go_wp2_with fail
  refine (mx_mark _ _ _ _ _ _ h400 (by omega) (by omega) (by omega)).mono ?_; rintro e W427 ⟨rfl, h425, q426⟩
  have h428 := RpR.chg h397 q426 (by omega) (by omega)
  have h429 := MxR.chg h398 q426 (by omega) (by omega)
  have k430 := k401.chg q426 (by omega)
  have k431 := k402.chg q426 (by omega)
  have k432 := k403.chg q426 (by omega)
  have k433 := k404.chg q426 (by omega)
  have s434 : W396.heap.size ≤ W427.heap.size := q426.size
  have g435 := g406.trans (q426.below (by omega) (by omega))
  clear h397 h398 k401 k402 k403 k404 g406 q426 c407 c408 c409 c410 c411 c412 c413 c414 c415 c416 c417 c418 c419 c420 c421 c422 c423 c424
  have c436 := k430.cell' (i := 0) rfl
  have c437 := k430.cell' (i := 1) rfl
  have c438 := k430.cell' (i := 2) rfl
  have c439 := k430.cell' (i := 3) rfl
  have c440 := k430.cell' (i := 4) rfl
  have c441 := k430.cell' (i := 5) rfl
  have c442 := k431.cell' (i := 0) rfl
  have c443 := k431.cell' (i := 1) rfl
  have c444 := k431.cell' (i := 2) rfl
  have c445 := k432.cell' (i := 0) rfl
  have c446 := k432.cell' (i := 1) rfl
  have c447 := k432.cell' (i := 2) rfl
  have c448 := k432.cell' (i := 3) rfl
  have c449 := k432.cell' (i := 4) rfl
  have c450 := k432.cell' (i := 5) rfl
  have c451 := k433.cell' (i := 0) rfl
  have c452 := k433.cell' (i := 1) rfl
  have c453 := k433.cell' (i := 2) rfl
  clear h400
  go_wp2_with fail
  refine (mx_held _ _ _ _ h425.rd (by omega) (by omega)).mono ?_; rintro e W455 ⟨rfl, b454⟩
  have h456 := RpR.below (b454.mono (by omega)) h428
  have h457 := MxR.below (b454.mono (by omega)) h429
  have h458 := h425.below b454
  have k459 := k430.call b454
  have k460 := k431.call b454
  have k461 := k432.call b454
  have k462 := k433.call b454
  have s463 : W427.heap.size ≤ W455.heap.size := b454.size
  have g464 := bthen g435 b454
  clear h428 h429 h425 k430 k431 k432 k433 g435 b454 c436 c437 c438 c439 c440 c441 c442 c443 c444 c445 c446 c447 c448 c449 c450 c451 c452 c453
  have c465 := k459.cell' (i := 0) rfl
  have c466 := k459.cell' (i := 1) rfl
  have c467 := k459.cell' (i := 2) rfl
  have c468 := k459.cell' (i := 3) rfl
  have c469 := k459.cell' (i := 4) rfl
  have c470 := k459.cell' (i := 5) rfl
  have c471 := k460.cell' (i := 0) rfl
  have c472 := k460.cell' (i := 1) rfl
  have c473 := k460.cell' (i := 2) rfl
  have c474 := k461.cell' (i := 0) rfl
  have c475 := k461.cell' (i := 1) rfl
  have c476 := k461.cell' (i := 2) rfl
  have c477 := k461.cell' (i := 3) rfl
  have c478 := k461.cell' (i := 4) rfl
  have c479 := k461.cell' (i := 5) rfl
  have c480 := k462.cell' (i := 0) rfl
  have c481 := k462.cell' (i := 1) rfl
  have c482 := k462.cell' (i := 2) rfl
  go_wp2_with fail
  refine (rep_to _ _ _ (RpR.more (by omega) h456) (by omega)).mono ?_; rintro e W486 ⟨v483, rfl, h484, b485⟩
  have h487 := RpR.below (b485.mono (by omega)) h456
  have h488 := MxR.below (b485.mono (by omega)) h457
  have h489 := h458.below b485
  have k490 := k459.call b485
  have k491 := k460.call b485
  have k492 := k461.call b485
  have k493 := k462.call b485
  have s494 : W455.heap.size ≤ W486.heap.size := b485.size
  have g495 := bthen g464 b485
  clear h456 h457 h458 k459 k460 k461 k462 g464 b485 c465 c466 c467 c468 c469 c470 c471 c472 c473 c474 c475 c476 c477 c478 c479 c480 c481 c482
  have c496 := k490.cell' (i := 0) rfl
  have c497 := k490.cell' (i := 1) rfl
  have c498 := k490.cell' (i := 2) rfl
  have c499 := k490.cell' (i := 3) rfl
  have c500 := k490.cell' (i := 4) rfl
  have c501 := k490.cell' (i := 5) rfl
  have c502 := k491.cell' (i := 0) rfl
  have c503 := k491.cell' (i := 1) rfl
  have c504 := k491.cell' (i := 2) rfl
  have c505 := k492.cell' (i := 0) rfl
  have c506 := k492.cell' (i := 1) rfl
  have c507 := k492.cell' (i := 2) rfl
  have c508 := k492.cell' (i := 3) rfl
  have c509 := k492.cell' (i := 4) rfl
  have c510 := k492.cell' (i := 5) rfl
  have c511 := k493.cell' (i := 0) rfl
  have c512 := k493.cell' (i := 1) rfl
  have c513 := k493.cell' (i := 2) rfl
  go_wp2_with fail
  refine (implPencilAt_any _ _ _ _ _ h484.rd rng_v rng_y).mono ?_; rintro e W517 ⟨r514, rfl, h515, b516⟩
  have h518 := RpR.below (b516.mono (by omega)) h487
  have h519 := MxR.below (b516.mono (by omega)) h488
  have h520 := h489.below b516
  have h521 := h484.below b516
  have k522 := k490.call b516
  have k523 := k491.call b516
  have k524 := k492.call b516
  have k525 := k493.call b516
  have s526 : W486.heap.size ≤ W517.heap.size := b516.size
  have g527 := bthen g495 b516
  clear h487 h488 h489 h484 k490 k491 k492 k493 g495 b516 c496 c497 c498 c499 c500 c501 c502 c503 c504 c505 c506 c507 c508 c509 c510 c511 c512 c513
  have c528 := k522.cell' (i := 0) rfl
  have c529 := k522.cell' (i := 1) rfl
  have c530 := k522.cell' (i := 2) rfl
  have c531 := k522.cell' (i := 3) rfl
  have c532 := k522.cell' (i := 4) rfl
  have c533 := k522.cell' (i := 5) rfl
  have c534 := k523.cell' (i := 0) rfl
  have c535 := k523.cell' (i := 1) rfl
  have c536 := k523.cell' (i := 2) rfl
  have c537 := k524.cell' (i := 0) rfl
  have c538 := k524.cell' (i := 1) rfl
  have c539 := k524.cell' (i := 2) rfl
  have c540 := k524.cell' (i := 3) rfl
  have c541 := k524.cell' (i := 4) rfl
  have c542 := k524.cell' (i := 5) rfl
  have c543 := k525.cell' (i := 0) rfl
  have c544 := k525.cell' (i := 1) rfl
  have c545 := k525.cell' (i := 2) rfl
  clear h521
  obtain ⟨Ax546, cx546, e547⟩ := h515.form
  subst e547
  have c549 := fun o => (k522.alloc o).cell' (i := 0) rfl
  have c550 := fun o => (k522.alloc o).cell' (i := 1) rfl
  have c551 := fun o => (k522.alloc o).cell' (i := 2) rfl
  have c552 := fun o => (k522.alloc o).cell' (i := 3) rfl
  have c553 := fun o => (k522.alloc o).cell' (i := 4) rfl
  have c554 := fun o => (k522.alloc o).cell' (i := 5) rfl
  have c555 := fun o => (k523.alloc o).cell' (i := 0) rfl
  have c556 := fun o => (k523.alloc o).cell' (i := 1) rfl
  have c557 := fun o => (k523.alloc o).cell' (i := 2) rfl
  have c558 := fun o => (k524.alloc o).cell' (i := 0) rfl
  have c559 := fun o => (k524.alloc o).cell' (i := 1) rfl
  have c560 := fun o => (k524.alloc o).cell' (i := 2) rfl
  have c561 := fun o => (k524.alloc o).cell' (i := 3) rfl
  have c562 := fun o => (k524.alloc o).cell' (i := 4) rfl
  have c563 := fun o => (k524.alloc o).cell' (i := 5) rfl
  have c564 := fun o => (k525.alloc o).cell' (i := 0) rfl
  have c565 := fun o => (k525.alloc o).cell' (i := 1) rfl
  have c566 := fun o => (k525.alloc o).cell' (i := 2) rfl
  go_wp2_with fail
  obtain ⟨W567, e568⟩ : ∃ W, W = W517.alloc (.cells #[.int .i64 ((pAtP r v y).1).r, .int .i64 ((pAtP r v y).1).c, .slice Ax546 ((pAtP r v y).1).a.length cx546] 60) := ⟨_, rfl⟩
  rw [← e568]
  have b569 : Below W517.heap.size W517 W567 := by rw [e568]; exact below_alloc _ _
  have k570 : Blk W567 W517.heap.size 60 #[.int .i64 ((pAtP r v y).1).r, .int .i64 ((pAtP r v y).1).c, .slice Ax546 ((pAtP r v y).1).a.length cx546] := by rw [e568]; exact Blk.new _ _ _
  have s571 : W517.heap.size < W567.heap.size := by rw [e568]; simp
  clear e568
  have h572 := RpR.below (b569.mono (by omega)) h518
  have h573 := MxR.below (b569.mono (by omega)) h519
  have h574 := h520.below b569
  have h575 := h515.below b569
  have k576 := k522.call b569
  have k577 := k523.call b569
  have k578 := k524.call b569
  have k579 := k525.call b569
  have s580 : W517.heap.size ≤ W567.heap.size := b569.size
  have g581 := bthen g527 b569
  clear h518 h519 h520 h515 k522 k523 k524 k525 g527 b569 c528 c529 c530 c531 c532 c533 c534 c535 c536 c537 c538 c539 c540 c541 c542 c543 c544 c545 c549 c550 c551 c552 c553 c554 c555 c556 c557 c558 c559 c560 c561 c562 c563 c564 c565 c566
  have c582 := k576.cell' (i := 0) rfl
  have c583 := k576.cell' (i := 1) rfl
  have c584 := k576.cell' (i := 2) rfl
  have c585 := k576.cell' (i := 3) rfl
  have c586 := k576.cell' (i := 4) rfl
  have c587 := k576.cell' (i := 5) rfl
  have c588 := k577.cell' (i := 0) rfl
  have c589 := k577.cell' (i := 1) rfl
  have c590 := k577.cell' (i := 2) rfl
  have c591 := k578.cell' (i := 0) rfl
  have c592 := k578.cell' (i := 1) rfl
  have c593 := k578.cell' (i := 2) rfl
  have c594 := k578.cell' (i := 3) rfl
  have c595 := k578.cell' (i := 4) rfl
  have c596 := k578.cell' (i := 5) rfl
  have c597 := k579.cell' (i := 0) rfl
  have c598 := k579.cell' (i := 1) rfl
  have c599 := k579.cell' (i := 2) rfl
  have c600 := k570.cell' (i := 0) rfl
  have c601 := k570.cell' (i := 1) rfl
  have c602 := k570.cell' (i := 2) rfl
  refine (eqMatrix_any _ _ _ _ _ h575.rd (MxR.more (by omega) h573)).mono ?_; rintro e W603 ⟨rfl, b548⟩
  have h604 := RpR.below (b548.mono (by omega)) h572
  have h605 := MxR.below (b548.mono (by omega)) h573
  have h606 := h574.below b548
  have h607 := h575.below b548
  have k608 := k576.call b548
  have k609 := k577.call b548
  have k610 := k578.call b548
  have k611 := k579.call b548
  have k612 := k570.call b548
  have s613 : W567.heap.size ≤ W603.heap.size := b548.size
  have g614 := bthen g581 b548
  clear h572 h573 h574 h575 k576 k577 k578 k579 k570 g581 b548 c582 c583 c584 c585 c586 c587 c588 c589 c590 c591 c592 c593 c594 c595 c596 c597 c598 c599 c600 c601 c602
  have c615 := k608.cell' (i := 0) rfl
  have c616 := k608.cell' (i := 1) rfl
  have c617 := k608.cell' (i := 2) rfl
  have c618 := k608.cell' (i := 3) rfl
  have c619 := k608.cell' (i := 4) rfl
  have c620 := k608.cell' (i := 5) rfl
  have c621 := k609.cell' (i := 0) rfl
  have c622 := k609.cell' (i := 1) rfl
  have c623 := k609.cell' (i := 2) rfl
  have c624 := k610.cell' (i := 0) rfl
  have c625 := k610.cell' (i := 1) rfl
  have c626 := k610.cell' (i := 2) rfl
  have c627 := k610.cell' (i := 3) rfl
  have c628 := k610.cell' (i := 4) rfl
  have c629 := k610.cell' (i := 5) rfl
  have c630 := k611.cell' (i := 0) rfl
  have c631 := k611.cell' (i := 1) rfl
  have c632 := k611.cell' (i := 2) rfl
  have c633 := k612.cell' (i := 0) rfl
  have c634 := k612.cell' (i := 1) rfl
  have c635 := k612.cell' (i := 2) rfl
  clear h607
  go_wp2_with fail
  refine (mx_held _ _ _ _ h606.rd (by omega) (by omega)).mono ?_; rintro e W637 ⟨rfl, b636⟩
  have h638 := RpR.below (b636.mono (by omega)) h604
  have h639 := MxR.below (b636.mono (by omega)) h605
  have h640 := h606.below b636
  have k641 := k608.call b636
  have k642 := k609.call b636
  have k643 := k610.call b636
  have k644 := k611.call b636
  have k645 := k612.call b636
  have s646 : W603.heap.size ≤ W637.heap.size := b636.size
  have g647 := bthen g614 b636
  clear h604 h605 h606 k608 k609 k610 k611 k612 g614 b636 c615 c616 c617 c618 c619 c620 c621 c622 c623 c624 c625 c626 c627 c628 c629 c630 c631 c632 c633 c634 c635
  have c648 := k641.cell' (i := 0) rfl
  have c649 := k641.cell' (i := 1) rfl
  have c650 := k641.cell' (i := 2) rfl
  have c651 := k641.cell' (i := 3) rfl
  have c652 := k641.cell' (i := 4) rfl
  have c653 := k641.cell' (i := 5) rfl
  have c654 := k642.cell' (i := 0) rfl
  have c655 := k642.cell' (i := 1) rfl
  have c656 := k642.cell' (i := 2) rfl
  have c657 := k643.cell' (i := 0) rfl
  have c658 := k643.cell' (i := 1) rfl
  have c659 := k643.cell' (i := 2) rfl
  have c660 := k643.cell' (i := 3) rfl
  have c661 := k643.cell' (i := 4) rfl
  have c662 := k643.cell' (i := 5) rfl
  have c663 := k644.cell' (i := 0) rfl
  have c664 := k644.cell' (i := 1) rfl
  have c665 := k644.cell' (i := 2) rfl
  have c666 := k645.cell' (i := 0) rfl
  have c667 := k645.cell' (i := 1) rfl
  have c668 := k645.cell' (i := 2) rfl
  go_wp2
  go_ret
  exact ⟨rfl, g647⟩
end Go.Proofs.Ytbgjhnolnccnnaa
