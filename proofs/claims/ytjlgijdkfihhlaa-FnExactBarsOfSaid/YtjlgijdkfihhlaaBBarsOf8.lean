/- FnExactBarsOf: for every argument the program's function returns what the reference's returns. Part 8 of 8 of the proof: LawBarsOf, Row, RowM, RowR, Seat, LawBarsOfRow. No condition. -/
import Derived.Test.YtjlgijdkfihhlaaBBarsOf7
import Derived.Test.YtjlgijdkfihhlaaRows
import Derived.ProofKit
import Derived.SizedLaws
import Derived.OpenShut
import Derived.Deep.Slices
/- The walk of FnExactBarsOf, printed by program (wip/law.py) out of the contracts of what it calls. -/
namespace Go.Proofs.Ytjlgijdkfihhlaa
set_option linter.unusedVariables false
set_option linter.unusedSimpArgs false
open Go.RowKit

set_option maxHeartbeats 1600000 in
set_option maxRecDepth 100000 in
theorem lawBarsOf_any (ur : Value) (r : Rp) (w : World) (hr : RpR w w.heap.size ur r) :
    Calls Try.prog 3 #[ur] w fun e w' => e = .returned (.bool true) ∧ Below w.heap.size w w' := by
  obtain ⟨Aur, aur, Cur, cur, Eur, eur, Hur, hur, er⟩ := RpR.form hr
  subst er
  have lr := RpR.lens hr
  have zr := bfQ_len r
  have g0 := Below.refl w.heap.size w
  by_cases z0 : (1048576 : Int) < (r.size : Nat)
  · have y0 : szLeft (1048576 : Int) (r.size) = -1 := by rw [szLeft, if_pos z0]
    go_enter Try.func3, Try.ntmps3
    go_wp2_with fail
    obtain ⟨W2, e3⟩ : ∃ W, W = w.alloc (.cells #[.int .i64 (r).p, .int .i64 (r).q.v, .slice Aur (r).q.f.length aur, .slice Cur (r).q.t.length cur, .slice Eur (r).d.length eur, .slice Hur (r).m.length hur] 27) := ⟨_, rfl⟩
    rw [← e3]
    have b4 : Below w.heap.size w W2 := by rw [e3]; exact below_alloc _ _
    have k5 : Blk W2 w.heap.size 27 #[.int .i64 (r).p, .int .i64 (r).q.v, .slice Aur (r).q.f.length aur, .slice Cur (r).q.t.length cur, .slice Eur (r).d.length eur, .slice Hur (r).m.length hur] := by rw [e3]; exact Blk.new _ _ _
    have s6 : w.heap.size < W2.heap.size := by rw [e3]; simp
    clear e3
    have h7 := RpR.below (b4.mono (by omega)) hr
    have s8 : w.heap.size ≤ W2.heap.size := b4.size
    have g9 := bthen g0 b4
    clear hr g0 b4
    have c10 := k5.cell' (i := 0) rfl
    have c11 := k5.cell' (i := 1) rfl
    have c12 := k5.cell' (i := 2) rfl
    have c13 := k5.cell' (i := 3) rfl
    have c14 := k5.cell' (i := 4) rfl
    have c15 := k5.cell' (i := 5) rfl
    refine (szRep_any _ _ (1048576 : Int) _ (RpR.more (by omega) h7) (by omega) (by omega)).mono ?_; rintro e W16 ⟨rfl, b1⟩
    have h17 := RpR.below (b1.mono (by omega)) h7
    have k18 := k5.call b1
    have s19 : W2.heap.size ≤ W16.heap.size := b1.size
    have g20 := bthen g9 b1
    clear h7 k5 g9 b1 c10 c11 c12 c13 c14 c15
    have c21 := k18.cell' (i := 0) rfl
    have c22 := k18.cell' (i := 1) rfl
    have c23 := k18.cell' (i := 2) rfl
    have c24 := k18.cell' (i := 3) rfl
    have c25 := k18.cell' (i := 4) rfl
    have c26 := k18.cell' (i := 5) rfl
    go_wp2
    go_ret
    exact ⟨rfl, g20⟩
  have y0 : szLeft (1048576 : Int) (r.size) = (1048576 : Int) - (r.size : Nat) := by rw [szLeft, if_neg z0]
  have x0 : ¬ ((1048576 : Int) - ((r.size : Nat) : Int) < 0) := by omega
  go_enter Try.func3, Try.ntmps3
  go_wp2_with fail
  obtain ⟨W28, e29⟩ : ∃ W, W = w.alloc (.cells #[.int .i64 (r).p, .int .i64 (r).q.v, .slice Aur (r).q.f.length aur, .slice Cur (r).q.t.length cur, .slice Eur (r).d.length eur, .slice Hur (r).m.length hur] 27) := ⟨_, rfl⟩
  rw [← e29]
  have b30 : Below w.heap.size w W28 := by rw [e29]; exact below_alloc _ _
  have k31 : Blk W28 w.heap.size 27 #[.int .i64 (r).p, .int .i64 (r).q.v, .slice Aur (r).q.f.length aur, .slice Cur (r).q.t.length cur, .slice Eur (r).d.length eur, .slice Hur (r).m.length hur] := by rw [e29]; exact Blk.new _ _ _
  have s32 : w.heap.size < W28.heap.size := by rw [e29]; simp
  clear e29
  have h33 := RpR.below (b30.mono (by omega)) hr
  have s34 : w.heap.size ≤ W28.heap.size := b30.size
  have g35 := bthen g0 b30
  clear hr g0 b30
  have c36 := k31.cell' (i := 0) rfl
  have c37 := k31.cell' (i := 1) rfl
  have c38 := k31.cell' (i := 2) rfl
  have c39 := k31.cell' (i := 3) rfl
  have c40 := k31.cell' (i := 4) rfl
  have c41 := k31.cell' (i := 5) rfl
  refine (szRep_any _ _ (1048576 : Int) _ (RpR.more (by omega) h33) (by omega) (by omega)).mono ?_; rintro e W42 ⟨rfl, b27⟩
  have h43 := RpR.below (b27.mono (by omega)) h33
  have k44 := k31.call b27
  have s45 : W28.heap.size ≤ W42.heap.size := b27.size
  have g46 := bthen g35 b27
  clear h33 k31 g35 b27 c36 c37 c38 c39 c40 c41
  have c47 := k44.cell' (i := 0) rfl
  have c48 := k44.cell' (i := 1) rfl
  have c49 := k44.cell' (i := 2) rfl
  have c50 := k44.cell' (i := 3) rfl
  have c51 := k44.cell' (i := 4) rfl
  have c52 := k44.cell' (i := 5) rfl
  go_wp2_with fail
  refine (rep_to _ _ _ (RpR.more (by omega) h43) (by omega)).mono ?_; rintro e W56 ⟨v53, rfl, h54, b55⟩
  have h57 := RpR.below (b55.mono (by omega)) h43
  have k58 := k44.call b55
  have s59 : W42.heap.size ≤ W56.heap.size := b55.size
  have g60 := bthen g46 b55
  clear h43 k44 g46 b55 c47 c48 c49 c50 c51 c52
  have c61 := k58.cell' (i := 0) rfl
  have c62 := k58.cell' (i := 1) rfl
  have c63 := k58.cell' (i := 2) rfl
  have c64 := k58.cell' (i := 3) rfl
  have c65 := k58.cell' (i := 4) rfl
  have c66 := k58.cell' (i := 5) rfl
  go_wp2_with fail
  refine (specBarsOf_any _ _ _ h54.rd).mono ?_; rintro e W70 ⟨r67, rfl, h68, b69⟩
  have h71 := RpR.below (b69.mono (by omega)) h57
  have h72 := h54.below b69
  have k73 := k58.call b69
  have s74 : W56.heap.size ≤ W70.heap.size := b69.size
  have g75 := bthen g60 b69
  clear h57 h54 k58 g60 b69 c61 c62 c63 c64 c65 c66
  have c76 := k73.cell' (i := 0) rfl
  have c77 := k73.cell' (i := 1) rfl
  have c78 := k73.cell' (i := 2) rfl
  have c79 := k73.cell' (i := 3) rfl
  have c80 := k73.cell' (i := 4) rfl
  have c81 := k73.cell' (i := 5) rfl
  have h82 := h68.rd
  clear h68
  clear h72
  go_wp2_with fail
  refine (rep_to _ _ _ (RpR.more (by omega) h71) (by omega)).mono ?_; rintro e W86 ⟨v83, rfl, h84, b85⟩
  have h87 := RpR.below (b85.mono (by omega)) h71
  have h88 := SlB.below (b85.mono (by omega)) h82
  have k89 := k73.call b85
  have s90 : W70.heap.size ≤ W86.heap.size := b85.size
  have g91 := bthen g75 b85
  clear h71 h82 k73 g75 b85 c76 c77 c78 c79 c80 c81
  have c92 := k89.cell' (i := 0) rfl
  have c93 := k89.cell' (i := 1) rfl
  have c94 := k89.cell' (i := 2) rfl
  have c95 := k89.cell' (i := 3) rfl
  have c96 := k89.cell' (i := 4) rfl
  have c97 := k89.cell' (i := 5) rfl
  obtain ⟨Ax98, ax98, Cx98, cx98, Ex98, ex98, Hx98, hx98, e99⟩ := h84.form
  subst e99
  have c103 := fun o => (k89.alloc o).cell' (i := 0) rfl
  have c104 := fun o => (k89.alloc o).cell' (i := 1) rfl
  have c105 := fun o => (k89.alloc o).cell' (i := 2) rfl
  have c106 := fun o => (k89.alloc o).cell' (i := 3) rfl
  have c107 := fun o => (k89.alloc o).cell' (i := 4) rfl
  have c108 := fun o => (k89.alloc o).cell' (i := 5) rfl
  go_wp2_with fail
  obtain ⟨W109, e110⟩ : ∃ W, W = W86.alloc (.cells #[.int .i64 (r).p, .int .i64 (r).q.v, .slice Ax98 (r).q.f.length ax98, .slice Cx98 (r).q.t.length cx98, .slice Ex98 (r).d.length ex98, .slice Hx98 (r).m.length hx98] 35) := ⟨_, rfl⟩
  rw [← e110]
  have b111 : Below W86.heap.size W86 W109 := by rw [e110]; exact below_alloc _ _
  have k112 : Blk W109 W86.heap.size 35 #[.int .i64 (r).p, .int .i64 (r).q.v, .slice Ax98 (r).q.f.length ax98, .slice Cx98 (r).q.t.length cx98, .slice Ex98 (r).d.length ex98, .slice Hx98 (r).m.length hx98] := by rw [e110]; exact Blk.new _ _ _
  have s113 : W86.heap.size < W109.heap.size := by rw [e110]; simp
  clear e110
  have h114 := RpR.below (b111.mono (by omega)) h87
  have h115 := SlB.below (b111.mono (by omega)) h88
  have h116 := h84.below b111
  have k117 := k89.call b111
  have s118 : W86.heap.size ≤ W109.heap.size := b111.size
  have g119 := bthen g91 b111
  clear h87 h88 h84 k89 g91 b111 c92 c93 c94 c95 c96 c97 c103 c104 c105 c106 c107 c108
  have c120 := k117.cell' (i := 0) rfl
  have c121 := k117.cell' (i := 1) rfl
  have c122 := k117.cell' (i := 2) rfl
  have c123 := k117.cell' (i := 3) rfl
  have c124 := k117.cell' (i := 4) rfl
  have c125 := k117.cell' (i := 5) rfl
  have c126 := k112.cell' (i := 0) rfl
  have c127 := k112.cell' (i := 1) rfl
  have c128 := k112.cell' (i := 2) rfl
  have c129 := k112.cell' (i := 3) rfl
  have c130 := k112.cell' (i := 4) rfl
  have c131 := k112.cell' (i := 5) rfl
  refine (implBarsOf_any _ _ _ h116.rd).mono ?_; rintro e W132 ⟨r100, rfl, h101, b102⟩
  have h133 := RpR.below (b102.mono (by omega)) h114
  have h134 := SlB.below (b102.mono (by omega)) h115
  have h135 := h116.below b102
  have k136 := k117.call b102
  have k137 := k112.call b102
  have s138 : W109.heap.size ≤ W132.heap.size := b102.size
  have g139 := bthen g119 b102
  clear h114 h115 h116 k117 k112 g119 b102 c120 c121 c122 c123 c124 c125 c126 c127 c128 c129 c130 c131
  have c140 := k136.cell' (i := 0) rfl
  have c141 := k136.cell' (i := 1) rfl
  have c142 := k136.cell' (i := 2) rfl
  have c143 := k136.cell' (i := 3) rfl
  have c144 := k136.cell' (i := 4) rfl
  have c145 := k136.cell' (i := 5) rfl
  have c146 := k137.cell' (i := 0) rfl
  have c147 := k137.cell' (i := 1) rfl
  have c148 := k137.cell' (i := 2) rfl
  have c149 := k137.cell' (i := 3) rfl
  have c150 := k137.cell' (i := 4) rfl
  have c151 := k137.cell' (i := 5) rfl
  go_wp2_with fail
  refine (eqBarS_any _ _ _ _ _ h101.rd (SlB.more (by omega) h134)).mono ?_; rintro e W153 ⟨rfl, b152⟩
  have h154 := RpR.below (b152.mono (by omega)) h133
  have h155 := SlB.below (b152.mono (by omega)) h134
  have h156 := h135.below b152
  have h157 := h101.below b152
  have k158 := k136.call b152
  have k159 := k137.call b152
  have s160 : W132.heap.size ≤ W153.heap.size := b152.size
  have g161 := bthen g139 b152
  clear h133 h134 h135 h101 k136 k137 g139 b152 c140 c141 c142 c143 c144 c145 c146 c147 c148 c149 c150 c151
  have c162 := k158.cell' (i := 0) rfl
  have c163 := k158.cell' (i := 1) rfl
  have c164 := k158.cell' (i := 2) rfl
  have c165 := k158.cell' (i := 3) rfl
  have c166 := k158.cell' (i := 4) rfl
  have c167 := k158.cell' (i := 5) rfl
  have c168 := k159.cell' (i := 0) rfl
  have c169 := k159.cell' (i := 1) rfl
  have c170 := k159.cell' (i := 2) rfl
  have c171 := k159.cell' (i := 3) rfl
  have c172 := k159.cell' (i := 4) rfl
  have c173 := k159.cell' (i := 5) rfl
  go_wp2_with fail
  have b174 := drew_below W153
  have h175 := RpR.below (b174.mono (by omega)) h154
  have h176 := SlB.below (b174.mono (by omega)) h155
  have h177 := h156.below b174
  have h178 := h157.below b174
  have k179 := k158.call b174
  have k180 := k159.call b174
  have s181 : W153.heap.size ≤ W153.drew.heap.size := b174.size
  have g182 := bthen g161 b174
  clear h154 h155 h156 h157 k158 k159 g161 b174 c162 c163 c164 c165 c166 c167 c168 c169 c170 c171 c172 c173
  have c183 := k179.cell' (i := 0) rfl
  have c184 := k179.cell' (i := 1) rfl
  have c185 := k179.cell' (i := 2) rfl
  have c186 := k179.cell' (i := 3) rfl
  have c187 := k179.cell' (i := 4) rfl
  have c188 := k179.cell' (i := 5) rfl
  have c189 := k180.cell' (i := 0) rfl
  have c190 := k180.cell' (i := 1) rfl
  have c191 := k180.cell' (i := 2) rfl
  have c192 := k180.cell' (i := 3) rfl
  have c193 := k180.cell' (i := 4) rfl
  have c194 := k180.cell' (i := 5) rfl
  go_region_held3 (fun W' => W'.cell? ⟨w.heap.size, 0, none⟩ = some (.int .i64 (r).p) ∧ W'.cell? ⟨w.heap.size, 1, none⟩ = some (.int .i64 (r).q.v) ∧ W'.cell? ⟨w.heap.size, 2, none⟩ = some (.slice Aur (r).q.f.length aur) ∧ W'.cell? ⟨w.heap.size, 3, none⟩ = some (.slice Cur (r).q.t.length cur) ∧ W'.cell? ⟨w.heap.size, 4, none⟩ = some (.slice Eur (r).d.length eur) ∧ W'.cell? ⟨w.heap.size, 5, none⟩ = some (.slice Hur (r).m.length hur) ∧ W'.cell? ⟨W86.heap.size, 0, none⟩ = some (.int .i64 (r).p) ∧ W'.cell? ⟨W86.heap.size, 1, none⟩ = some (.int .i64 (r).q.v) ∧ W'.cell? ⟨W86.heap.size, 2, none⟩ = some (.slice Ax98 (r).q.f.length ax98) ∧ W'.cell? ⟨W86.heap.size, 3, none⟩ = some (.slice Cx98 (r).q.t.length cx98) ∧ W'.cell? ⟨W86.heap.size, 4, none⟩ = some (.slice Ex98 (r).d.length ex98) ∧ W'.cell? ⟨W86.heap.size, 5, none⟩ = some (.slice Hx98 (r).m.length hx98))
    (first | exact ⟨c183, c184, c185, c186, c187, c188, c189, c190, c191, c192, c193, c194⟩ | exact ⟨c207, c208, c209, c210, c211, c212, c213, c214, c215, c216, c217, c218⟩ | exact ⟨c230, c231, c232, c233, c234, c235, c236, c237, c238, c239, c240, c241⟩)
    (first | (go_at_call 17; refine (rep_to _ _ _ (RpR.more (by omega) h175) (by omega)).mono ?_; rintro e W198 ⟨v195, rfl, h196, b197⟩; have h199 := RpR.below (b197.mono (by omega)) h175; have h200 := SlB.below (b197.mono (by omega)) h176; have h201 := h177.below b197; have h202 := h178.below b197; have k203 := k179.call b197; have k204 := k180.call b197; have s205 : W153.drew.heap.size ≤ W198.heap.size := b197.size; have g206 := bthen g182 b197; clear h175 h176 h177 h178 k179 k180 g182 b197 c183 c184 c185 c186 c187 c188 c189 c190 c191 c192 c193 c194; have c207 := k203.cell' (i := 0) rfl; have c208 := k203.cell' (i := 1) rfl; have c209 := k203.cell' (i := 2) rfl; have c210 := k203.cell' (i := 3) rfl; have c211 := k203.cell' (i := 4) rfl; have c212 := k203.cell' (i := 5) rfl; have c213 := k204.cell' (i := 0) rfl; have c214 := k204.cell' (i := 1) rfl; have c215 := k204.cell' (i := 2) rfl; have c216 := k204.cell' (i := 3) rfl; have c217 := k204.cell' (i := 4) rfl; have c218 := k204.cell' (i := 5) rfl) | (go_at_call 20; refine (eqRep_any _ _ _ _ _ h201.rd h196.rd).mono ?_; rintro e W220 ⟨rfl, b219⟩; have h221 := RpR.below (b219.mono (by omega)) h199; have h222 := SlB.below (b219.mono (by omega)) h200; have h223 := h201.below b219; have h224 := h202.below b219; have h225 := h196.below b219; have k226 := k203.call b219; have k227 := k204.call b219; have s228 : W198.heap.size ≤ W220.heap.size := b219.size; have g229 := bthen g206 b219; clear h199 h200 h201 h202 h196 k203 k204 g206 b219 c207 c208 c209 c210 c211 c212 c213 c214 c215 c216 c217 c218; have c230 := k226.cell' (i := 0) rfl; have c231 := k226.cell' (i := 1) rfl; have c232 := k226.cell' (i := 2) rfl; have c233 := k226.cell' (i := 3) rfl; have c234 := k226.cell' (i := 4) rfl; have c235 := k226.cell' (i := 5) rfl; have c236 := k227.cell' (i := 0) rfl; have c237 := k227.cell' (i := 1) rfl; have c238 := k227.cell' (i := 2) rfl; have c239 := k227.cell' (i := 3) rfl; have c240 := k227.cell' (i := 4) rfl; have c241 := k227.cell' (i := 5) rfl))
  clear h225
  go_wp2_with fail
  refine (rep_mark _ _ _ _ _ _ h223 (by omega) (by omega) (by omega) (by omega)).mono ?_; rintro e W244 ⟨rfl, h242, q243⟩
  have h245 := RpR.chg h221 q243 (by omega) (by omega)
  have h246 := SlB.chg h222 q243 (by omega) (by omega)
  have h247 := h224.chg q243 (by omega)
  have k248 := k226.chg q243 (by omega)
  have k249 := k227.chg q243 (by omega)
  have s250 : W220.heap.size ≤ W244.heap.size := q243.size
  have g251 := g229.trans (q243.below (by omega) (by omega))
  clear h221 h222 h224 k226 k227 g229 q243 c230 c231 c232 c233 c234 c235 c236 c237 c238 c239 c240 c241
  have c252 := k248.cell' (i := 0) rfl
  have c253 := k248.cell' (i := 1) rfl
  have c254 := k248.cell' (i := 2) rfl
  have c255 := k248.cell' (i := 3) rfl
  have c256 := k248.cell' (i := 4) rfl
  have c257 := k248.cell' (i := 5) rfl
  have c258 := k249.cell' (i := 0) rfl
  have c259 := k249.cell' (i := 1) rfl
  have c260 := k249.cell' (i := 2) rfl
  have c261 := k249.cell' (i := 3) rfl
  have c262 := k249.cell' (i := 4) rfl
  have c263 := k249.cell' (i := 5) rfl
  clear h223
  go_wp2_with fail
  refine (eqBarS_any _ _ _ _ _ h247.rd (SlB.more (by omega) h246)).mono ?_; rintro e W265 ⟨rfl, b264⟩
  have h266 := RpR.below (b264.mono (by omega)) h245
  have h267 := SlB.below (b264.mono (by omega)) h246
  have h268 := h242.below b264
  have h269 := h247.below b264
  have k270 := k248.call b264
  have k271 := k249.call b264
  have s272 : W244.heap.size ≤ W265.heap.size := b264.size
  have g273 := bthen g251 b264
  clear h245 h246 h242 h247 k248 k249 g251 b264 c252 c253 c254 c255 c256 c257 c258 c259 c260 c261 c262 c263
  have c274 := k270.cell' (i := 0) rfl
  have c275 := k270.cell' (i := 1) rfl
  have c276 := k270.cell' (i := 2) rfl
  have c277 := k270.cell' (i := 3) rfl
  have c278 := k270.cell' (i := 4) rfl
  have c279 := k270.cell' (i := 5) rfl
  have c280 := k271.cell' (i := 0) rfl
  have c281 := k271.cell' (i := 1) rfl
  have c282 := k271.cell' (i := 2) rfl
  have c283 := k271.cell' (i := 3) rfl
  have c284 := k271.cell' (i := 4) rfl
  have c285 := k271.cell' (i := 5) rfl
  clear h268
  go_wp2_with fail
  refine (bars_mark _ _ _ _ _ _ h269 (by omega) (by omega) (by omega)).mono ?_; rintro e W288 ⟨rfl, h286, q287⟩
  have h289 := RpR.chg h266 q287 (by omega) (by omega)
  have h290 := SlB.chg h267 q287 (by omega) (by omega)
  have k291 := k270.chg q287 (by omega)
  have k292 := k271.chg q287 (by omega)
  have s293 : W265.heap.size ≤ W288.heap.size := q287.size
  have g294 := g273.trans (q287.below (by omega) (by omega))
  clear h266 h267 k270 k271 g273 q287 c274 c275 c276 c277 c278 c279 c280 c281 c282 c283 c284 c285
  have c295 := k291.cell' (i := 0) rfl
  have c296 := k291.cell' (i := 1) rfl
  have c297 := k291.cell' (i := 2) rfl
  have c298 := k291.cell' (i := 3) rfl
  have c299 := k291.cell' (i := 4) rfl
  have c300 := k291.cell' (i := 5) rfl
  have c301 := k292.cell' (i := 0) rfl
  have c302 := k292.cell' (i := 1) rfl
  have c303 := k292.cell' (i := 2) rfl
  have c304 := k292.cell' (i := 3) rfl
  have c305 := k292.cell' (i := 4) rfl
  have c306 := k292.cell' (i := 5) rfl
  clear h269
  go_wp2_with fail
  refine (bars_held _ _ _ _ h286.rd (by omega) (by omega) (by omega)).mono ?_; rintro e W308 ⟨rfl, b307⟩
  have h309 := RpR.below (b307.mono (by omega)) h289
  have h310 := SlB.below (b307.mono (by omega)) h290
  have h311 := h286.below b307
  have k312 := k291.call b307
  have k313 := k292.call b307
  have s314 : W288.heap.size ≤ W308.heap.size := b307.size
  have g315 := bthen g294 b307
  clear h289 h290 h286 k291 k292 g294 b307 c295 c296 c297 c298 c299 c300 c301 c302 c303 c304 c305 c306
  have c316 := k312.cell' (i := 0) rfl
  have c317 := k312.cell' (i := 1) rfl
  have c318 := k312.cell' (i := 2) rfl
  have c319 := k312.cell' (i := 3) rfl
  have c320 := k312.cell' (i := 4) rfl
  have c321 := k312.cell' (i := 5) rfl
  have c322 := k313.cell' (i := 0) rfl
  have c323 := k313.cell' (i := 1) rfl
  have c324 := k313.cell' (i := 2) rfl
  have c325 := k313.cell' (i := 3) rfl
  have c326 := k313.cell' (i := 4) rfl
  have c327 := k313.cell' (i := 5) rfl
  go_wp2_with fail
  refine (rep_to _ _ _ (RpR.more (by omega) h309) (by omega)).mono ?_; rintro e W331 ⟨v328, rfl, h329, b330⟩
  have h332 := RpR.below (b330.mono (by omega)) h309
  have h333 := SlB.below (b330.mono (by omega)) h310
  have h334 := h311.below b330
  have k335 := k312.call b330
  have k336 := k313.call b330
  have s337 : W308.heap.size ≤ W331.heap.size := b330.size
  have g338 := bthen g315 b330
  clear h309 h310 h311 k312 k313 g315 b330 c316 c317 c318 c319 c320 c321 c322 c323 c324 c325 c326 c327
  have c339 := k335.cell' (i := 0) rfl
  have c340 := k335.cell' (i := 1) rfl
  have c341 := k335.cell' (i := 2) rfl
  have c342 := k335.cell' (i := 3) rfl
  have c343 := k335.cell' (i := 4) rfl
  have c344 := k335.cell' (i := 5) rfl
  have c345 := k336.cell' (i := 0) rfl
  have c346 := k336.cell' (i := 1) rfl
  have c347 := k336.cell' (i := 2) rfl
  have c348 := k336.cell' (i := 3) rfl
  have c349 := k336.cell' (i := 4) rfl
  have c350 := k336.cell' (i := 5) rfl
  go_wp2_with fail
  refine (implBarsOf_any _ _ _ h329.rd).mono ?_; rintro e W354 ⟨r351, rfl, h352, b353⟩
  have h355 := RpR.below (b353.mono (by omega)) h332
  have h356 := SlB.below (b353.mono (by omega)) h333
  have h357 := h334.below b353
  have h358 := h329.below b353
  have k359 := k335.call b353
  have k360 := k336.call b353
  have s361 : W331.heap.size ≤ W354.heap.size := b353.size
  have g362 := bthen g338 b353
  clear h332 h333 h334 h329 k335 k336 g338 b353 c339 c340 c341 c342 c343 c344 c345 c346 c347 c348 c349 c350
  have c363 := k359.cell' (i := 0) rfl
  have c364 := k359.cell' (i := 1) rfl
  have c365 := k359.cell' (i := 2) rfl
  have c366 := k359.cell' (i := 3) rfl
  have c367 := k359.cell' (i := 4) rfl
  have c368 := k359.cell' (i := 5) rfl
  have c369 := k360.cell' (i := 0) rfl
  have c370 := k360.cell' (i := 1) rfl
  have c371 := k360.cell' (i := 2) rfl
  have c372 := k360.cell' (i := 3) rfl
  have c373 := k360.cell' (i := 4) rfl
  have c374 := k360.cell' (i := 5) rfl
  clear h358
  go_wp2_with fail
  refine (eqBarS_any _ _ _ _ _ h352.rd (SlB.more (by omega) h356)).mono ?_; rintro e W376 ⟨rfl, b375⟩
  have h377 := RpR.below (b375.mono (by omega)) h355
  have h378 := SlB.below (b375.mono (by omega)) h356
  have h379 := h357.below b375
  have h380 := h352.below b375
  have k381 := k359.call b375
  have k382 := k360.call b375
  have s383 : W354.heap.size ≤ W376.heap.size := b375.size
  have g384 := bthen g362 b375
  clear h355 h356 h357 h352 k359 k360 g362 b375 c363 c364 c365 c366 c367 c368 c369 c370 c371 c372 c373 c374
  have c385 := k381.cell' (i := 0) rfl
  have c386 := k381.cell' (i := 1) rfl
  have c387 := k381.cell' (i := 2) rfl
  have c388 := k381.cell' (i := 3) rfl
  have c389 := k381.cell' (i := 4) rfl
  have c390 := k381.cell' (i := 5) rfl
  have c391 := k382.cell' (i := 0) rfl
  have c392 := k382.cell' (i := 1) rfl
  have c393 := k382.cell' (i := 2) rfl
  have c394 := k382.cell' (i := 3) rfl
  have c395 := k382.cell' (i := 4) rfl
  have c396 := k382.cell' (i := 5) rfl
  clear h380
  go_wp2_with fail
  refine (bars_held _ _ _ _ h379.rd (by omega) (by omega) (by omega)).mono ?_; rintro e W398 ⟨rfl, b397⟩
  have h399 := RpR.below (b397.mono (by omega)) h377
  have h400 := SlB.below (b397.mono (by omega)) h378
  have h401 := h379.below b397
  have k402 := k381.call b397
  have k403 := k382.call b397
  have s404 : W376.heap.size ≤ W398.heap.size := b397.size
  have g405 := bthen g384 b397
  clear h377 h378 h379 k381 k382 g384 b397 c385 c386 c387 c388 c389 c390 c391 c392 c393 c394 c395 c396
  have c406 := k402.cell' (i := 0) rfl
  have c407 := k402.cell' (i := 1) rfl
  have c408 := k402.cell' (i := 2) rfl
  have c409 := k402.cell' (i := 3) rfl
  have c410 := k402.cell' (i := 4) rfl
  have c411 := k402.cell' (i := 5) rfl
  have c412 := k403.cell' (i := 0) rfl
  have c413 := k403.cell' (i := 1) rfl
  have c414 := k403.cell' (i := 2) rfl
  have c415 := k403.cell' (i := 3) rfl
  have c416 := k403.cell' (i := 4) rfl
  have c417 := k403.cell' (i := 5) rfl
  go_wp2
  go_ret
  exact ⟨rfl, g405⟩
end Go.Proofs.Ytjlgijdkfihhlaa

/- From a law's contract to its row, for every law of this seat: the arguments are opened, what is handed back is shut. -/
namespace Go.Proofs.Ytjlgijdkfihhlaa
set_option linter.unusedVariables false
set_option linter.unusedSimpArgs false
open Go.RowKit Go.ChangeShapes Go.WideShapes Go.ChangeAt Go.Deep

theorem ownLaw : ownKnob Try.prog.godebug = none := by kernel_rfl
theorem laidOutLaw : laidOutB Try.prog = true := by kernel_rfl

section
variable {H : Type} {enc : TypeId × Value → H} {w : World}

/-- What is read of weights: each slice lies within the form's reach. -/
def Wt (t : TypeId) (d : DataW H) : Prop := ∀ n ∈ d.weights Try.prog t, n ≤ reachBytes
theorem Wt.slice {t e : TypeId} {elems spare : List (DataW H)} (h : Wt t (.slice elems spare)) (ht : Try.prog.underlying t = some (.slice e)) :
    (elems.length + spare.length) * Try.prog.bytesOf e ≤ reachBytes ∧ ∀ d ∈ elems, Wt e d := by
  have hall : ∀ (l : List (DataW H)) (d : DataW H), d ∈ l → ∀ n ∈ d.weights Try.prog e, n ∈ DataW.weightsAll Try.prog e l := by
    intro l
    induction l with
    | nil => intro d hd; simp at hd
    | cons a l ih =>
      intro d hd n hn
      simp only [DataW.weightsAll, List.mem_append]
      rcases List.mem_cons.1 hd with rfl | hd
      · exact .inl hn
      · exact .inr (ih d hd n hn)
  refine ⟨h _ (by simp [DataW.weights, ht]), fun d hd n hn => h n ?_⟩
  simp only [DataW.weights, ht, List.mem_cons, List.mem_append]
  exact .inr (.inl (hall _ _ hd _ hn))
theorem weightsEach_get {P : Program} : ∀ {ts : List TypeId} {ds : List (DataW H)} {j : Nat} {t : TypeId} {d : DataW H}, ts[j]? = some t → ds[j]? = some d → ∀ n ∈ d.weights P t, n ∈ DataW.weightsEach P ts ds := DataW.weights_mem_each
theorem Wt.struct {t : TypeId} {fs : Array Field} {ds : List (DataW H)} (h : Wt t (.agg ds)) (ht : Try.prog.underlying t = some (.struct fs)) {j : Nat} {f : Field} {d : DataW H} (hf : fs[j]? = some f) (hd : ds[j]? = some d) : Wt f.type d := by
  intro n hn
  refine h n ?_
  simp only [DataW.weights, ht]
  exact weightsEach_get (j := j) (t := f.type) (by simp [hf]) hd n hn

/-- The reading of an argument. -/
abbrev TrodA (enc : TypeId × Value → H) (w : World) (fuel : Nat) (t : TypeId) (cs : List Value) (x : DataW H × List MemPlace) : Prop := DataW.trod enc Try.prog w 0 (fun _ => true) true fuel t cs = some x

theorem i64_of_wf {n : Int} (h : (Lit.int .i64 n).wf = true) : I64 n := by
  simp only [Lit.wf, Bool.and_eq_true, decide_eq_true_eq] at h
  have e1 : IntKind.min .i64 = -9223372036854775808 := by decide
  have e2 : IntKind.max .i64 = 9223372036854775807 := by decide
  rw [e1, e2] at h
  exact h
theorem openI {t fuel : Nat} {cs : List Value} {x : DataW H × List MemPlace} (ht : Try.prog.underlying t = some (.int .i64)) (h : TrodA enc w fuel t cs x) : ∃ n, cs = [.int .i64 n] ∧ I64 n := by
  obtain ⟨n, h1, _, h3⟩ := DataW.trod_int ht h
  exact ⟨n, h1, i64_of_wf h3⟩

/-- A slice, whatever its elements. -/
theorem openSl {α : Type} [Inhabited α] {R : World → Nat → Nat → Nat → α → Prop} {t e fuel sz : Nat} {cs : List Value} {x : DataW H × List MemPlace} (ht : Try.prog.underlying t = some (.slice e)) (hsz : Try.prog.cellsOf e = sz) (hpos : 0 < sz)
    (hby : 8 ≤ Try.prog.bytesOf e)
    (hel : ∀ (fuel b o : Nat) (cs : List Value) (y : DataW H × List MemPlace), (∀ j, j < sz → w.cell? ⟨b, o + j, none⟩ = cs[j]?) → cs.length = sz → TrodA enc w fuel e cs y → Wt e y.1 → ∃ a, R w w.heap.size b o a)
    (h : TrodA enc w fuel t cs x) (hw : Wt t x.1) : ∃ v xs, cs = [v] ∧ SlG sz R w w.heap.size v (xs : List α) := by
  rcases open_slice ht h with ⟨rfl, rfl⟩ | ⟨a, len, cap, m, n, D, Pl, rfl, _, hl, hm, hmm, hx, hi⟩
  · exact ⟨_, [], rfl, SlG.nil⟩
  simp only [if_true] at hmm
  subst hmm
  rw [hx] at hw
  obtain ⟨h1, h2⟩ := Wt.slice hw ht
  rw [hsz] at hi
  have hlen : len ≤ 17592186044416 := by
    simp only [List.length_map, List.length_range, reachBytes] at h1
    have h3 : (len + (m - len)) * 8 ≤ (len + (m - len)) * Try.prog.bytesOf e := Nat.mul_le_mul_left _ hby
    omega
  rcases Nat.eq_zero_or_pos len with h0 | h0
  · subst h0
    exact ⟨_, [], rfl, some a, m, rfl, by simp, by simp only [maxLen] at hm; omega, by simp, fun h => absurd h (by simp)⟩
  · have hspot : a.spot = none := by
      obtain ⟨cs', hc, _⟩ := hi 0 (by omega)
      obtain ⟨_, hlc, hat⟩ := World.cells?_some hc
      have h4 := hat 0 hpos
      rw [List.getElem?_eq_getElem (by omega)] at h4
      have e : (a.add (0 * sz)).add 0 = a := by simp [Addr.add]
      rw [e] at h4
      unfold World.cell? at h4
      split at h4
      · by_cases hs : a.spot.isSome
        · rw [if_pos hs] at h4; cases h4
        · simpa using hs
      · cases h4
    obtain ⟨b, o, sp⟩ := a
    simp only at hspot
    subst hspot
    have hadd : ∀ i, (⟨b, o, none⟩ : Addr).add i = ⟨b, o + i, none⟩ := by
      intro i; unfold Addr.add; split <;> simp_all
    have hR : ∀ i, i < len → ∃ y : α, R w w.heap.size b (o + i * sz) y := by
      intro i hil
      obtain ⟨cs', hc, htr⟩ := hi i (by omega)
      obtain ⟨_, hlc, hat⟩ := World.cells?_some hc
      refine hel n b (o + i * sz) cs' _ (fun j hj => ?_) hlc htr (h2 _ (by simp only [List.mem_map, List.mem_range]; exact ⟨i, hil, rfl⟩))
      have := hat j hj
      rwa [hadd, show (⟨b, o + i * sz, none⟩ : Addr).add j = ⟨b, o + i * sz + j, none⟩ from by unfold Addr.add; split <;> simp_all] at this
    obtain ⟨f, hf⟩ := choose_lt hR
    have hb : b < w.heap.size := by
      obtain ⟨cs', hc, _⟩ := hi 0 (by omega)
      obtain ⟨_, hlc, hat⟩ := World.cells?_some hc
      have h4 := hat 0 hpos
      rw [List.getElem?_eq_getElem (by omega)] at h4
      have := World.block_lt_of_cell? _ _ h4
      simpa [hadd, Addr.add] using this
    refine ⟨_, (List.range len).map f, rfl, some ⟨b, o, none⟩, m, by simp, by simpa using hl, by simp only [maxLen] at hm; omega, by simpa using hlen, fun _ => ⟨b, o, rfl, hb, fun j y hj => ?_⟩⟩
    rw [List.getElem?_map, Option.map_eq_some_iff] at hj
    obtain ⟨i, hi', rfl⟩ := hj
    have hjl := lt_of_some hi'
    simp only [List.length_range] at hjl
    rw [List.getElem?_range hjl] at hi'
    injection hi' with hi'
    subst hi'
    exact hf j hjl
end

/-- The arguments read behind the call as before it. -/
theorem trodAll_kept {H : Type} {enc : TypeId × Value → H} {W W' : World} {sp : Nat → Bool} (hb : Below W.heap.size W W') : ∀ {ts : List TypeId} {vs : List Value} {ds : List (DataW H)} {ps : List MemPlace},
    (∀ t ∈ ts, Try.prog.readableRec t = true ∧ t < Try.prog.types.size) → DataW.TrodAll enc Try.prog W 0 (fun _ => true) true ts vs ds ps → (∀ x ∈ ps, x.block < W.heap.size) → (∀ x ∈ ps, sp x.block = true) → DataW.TrodAll enc Try.prog W' 0 sp true ts vs ds ps
  | [], _, _, _, _, h, _, _ => by
    obtain ⟨rfl, rfl, rfl⟩ := trodAll_nil h
    exact trodAll_mk0
  | t :: ts, vs, ds, ps, hr, h, hlt, hsp => by
    obtain ⟨v, vs', d, ds', p, q, rfl, rfl, rfl, h0, h1⟩ := trodAll_cons h
    have hr0 := hr t (by simp)
    refine trodAll_cons_mk ?_ ?_
    · exact WideElems.Trod_stays laidOutLaw hr0.1 hr0.2 h0 (fun x hx => hb.same (hlt x (by simp [hx]))) (fun x hx => hsp x (by simp [hx]))
    · exact trodAll_kept hb (fun t ht => hr t (by simp [ht])) h1 (fun x hx => hlt x (by simp [hx])) (fun x hx => hsp x (by simp [hx]))

set_option maxRecDepth 100000 in
/-- The row's step for a law: true comes back, and nothing that was there has turned. -/
theorem lift_law {H : Type} {enc : TypeId × Value → H} {os : Os} {f : FuncId} {fn : Func} {s : ChangeSpec} (started : os.Started) (noInit : Try.checked.prog.inits.idxOf? f = none) (hfn : Try.checked.prog.funcs[f]? = some fn)
    (witness : ∃ (w : World) (tape : Tape) (i : Input), w.os = os ∧ (w.forCall tape i).Shaped Try.checked.prog ∧ i.vars = [] ∧ Input.okWide Try.checked.prog (w.forCall tape i) .any w.heap.size f i ∧
      s.pre6 enc Try.checked.prog fn [] false (w.forCall tape i).memory i.args ∧ ({} : Assume).holds Try.checked.prog (lone (Frame.enter Try.checked.prog f i.args .normal) [] (w.forCall tape i)))
    (hvars : s.vars = []) (hres : fn.resultTypes = #[4])
    (hread : ∀ t ∈ fn.params.toList, Try.prog.readableRec t = true ∧ t < Try.prog.types.size)
    (hspec : ∀ ds : List (DataW H), ds.length = fn.params.size → s.fn H (ds ++ []) = { results := [.lit (.bool true)], args := ds })
    (hcalls : ∀ (W : World) (args : Array Value) (ds : List (DataW H)) (ps : List MemPlace) (base : Nat), (∀ (j : Nat) t v, fn.params[j]? = some t → args[j]? = some v → Value.okWide Try.prog W .any base t v) → DataW.TrodAll enc Try.prog W 0 (fun _ => true) true fn.params.toList args.toList ds ps →
      (∀ (j : Nat) t d, fn.params.toList[j]? = some t → ds[j]? = some d → Wt t d) → Calls Try.prog f args W fun e W' => e = .returned (.bool true) ∧ Below W.heap.size W W') :
    ReturnsInHanded {} Try.checked os f .any (s.pre6 enc Try.prog fn [] false) (s.post enc Try.prog fn false true false false) := by
  refine returnsInHanded_of_change_sized (C := Try.checked) ownLaw started noInit hfn witness ?_
  intro W base args ds gs before hval hW _ hsz _
  have hW' := hW
  obtain ⟨p, q, hA, hV, rfl, hfz, hnd⟩ := hW
  rw [hvars] at hV
  obtain ⟨rfl, rfl⟩ := trodVars_none hV
  have hA' : DataW.TrodAll enc Try.prog W 0 (fun _ => true) true fn.params.toList args.toList ds p := hA
  have hlen : ds.length = fn.params.size := by
    have h : ∀ {ts : List TypeId} {vs : List Value} {ds : List (DataW H)} {ps : List MemPlace}, DataW.TrodAll enc Try.prog W 0 (fun _ => true) true ts vs ds ps → ds.length = ts.length := by
      intro ts
      induction ts with
      | nil => intro vs ds ps h; obtain ⟨_, rfl, _⟩ := trodAll_nil h; rfl
      | cons t ts ih => intro vs ds ps h; obtain ⟨v, vs', d, ds', p, q, _, rfl, _, _, h1⟩ := trodAll_cons h; simp [ih h1]
    simpa using h hA'
  have hwt : ∀ (j : Nat) t d, fn.params.toList[j]? = some t → ds[j]? = some d → Wt t d := by
    intro j t d hj hd n hn
    have h := List.all_eq_true.1 hsz n (weightsEach_get (j := j) (t := t) (d := d) (by rw [List.getElem?_append_left (lt_of_some hj)]; exact hj) (by rw [List.getElem?_append_left (lt_of_some hd)]; exact hd) n hn)
    exact (decide_eq_true_iff (p := n ≤ reachBytes)).1 h
  refine (hcalls W args ds p base hval hA' hwt).mono fun e W' ⟨he, hb⟩ => ⟨_, he, ?_⟩
  have hlt : ∀ x ∈ p, x.block < W.heap.size := fun x hx => hW'.lt x (by simp [hx])
  have hsp := hspec ds hlen
  refine ⟨ds, [], _, [], p, [], hW', ?_, ?_, ?_, World.keptBut_mono (fun x hx => ⟨hx, ?_⟩) (hb.frame (· ∈ p ++ [])), fun h => by cases h⟩
  · rw [hres, hsp]
    exact trodAll_mk1 (shut_bool Try.underlying4 _)
  · rw [hsp]
    exact trodAll_kept hb hread hA' hlt (fun x hx => by simpa using hlt x hx)
  · rw [hvars, hsp]; rfl
  · simpa using hx

/-- A field of a struct. -/
theorem structAt {H : Type} {enc : TypeId × Value → H} {w : World} {t T off fuel : Nat} {fs : Array Field} {cs : List Value} {x : DataW H × List MemPlace} (ht : Try.prog.underlying t = some (.struct fs)) (h : TrodA enc w fuel t cs x) (hw : Wt t x.1) (j : Nat)
    (hj : (fs[j]?).map (fun f => (f.type, f.offset)) = some (T, off)) : ∃ n y, TrodA enc w n T ((cs.drop off).take (Try.prog.cellsOf T)) y ∧ Wt T y.1 := by
  obtain ⟨xs, n, _, hx, _, hxl, hf⟩ := DataW.trod_struct ht h
  obtain ⟨f, hfj, e⟩ := Option.map_eq_some_iff.1 hj
  injection e with e1 e2
  subst e1 e2
  have hjl : j < xs.length := by rw [hxl]; exact (Array.getElem?_eq_some_iff.1 hfj).1
  have h1 := hf j f hfj
  rw [List.getElem?_eq_getElem hjl] at h1
  refine ⟨n, xs[j], h1, ?_⟩
  rw [hx] at hw
  exact Wt.struct hw ht hfj (by simp [List.getElem?_eq_getElem hjl])
theorem cellsInt : Try.prog.cellsOf 3 = 1 := by kernel_rfl
theorem cellsInts : Try.prog.cellsOf 22 = 1 := by kernel_rfl
theorem intAt {H : Type} {enc : TypeId × Value → H} {w : World} {t off fuel : Nat} {fs : Array Field} {cs : List Value} {x : DataW H × List MemPlace} (ht : Try.prog.underlying t = some (.struct fs)) (h : TrodA enc w fuel t cs x) (hw : Wt t x.1) (j : Nat)
    (hj : (fs[j]?).map (fun f => (f.type, f.offset)) = some (3, off)) : ∃ n, cs[off]? = some (.int .i64 n) ∧ I64 n := by
  obtain ⟨n, y, h1, _⟩ := structAt ht h hw j hj
  rw [cellsInt] at h1
  obtain ⟨k, e, r⟩ := openI Try.underlying3 h1
  refine ⟨k, ?_, r⟩
  have : ((cs.drop off).take 1)[0]? = some (.int .i64 k) := by rw [e]; rfl
  simpa [List.getElem?_take, List.getElem?_drop] using this

theorem openBar {H : Type} {enc : TypeId × Value → H} {w : World} {t : TypeId} {fs : Array Field} (ht : Try.prog.underlying t = some (.struct fs))
    (h0 : (fs[0]?).map (fun f => (f.type, f.offset)) = some (3, 0)) (h1 : (fs[1]?).map (fun f => (f.type, f.offset)) = some (3, 1)) (h2 : (fs[2]?).map (fun f => (f.type, f.offset)) = some (3, 2)) :
    ∀ (fuel b o : Nat) (cs : List Value) (y : DataW H × List MemPlace), (∀ j, j < 3 → w.cell? ⟨b, o + j, none⟩ = cs[j]?) → cs.length = 3 → TrodA enc w fuel t cs y → Wt t y.1 → ∃ a, RBar w w.heap.size b o a := by
  intro fuel b o cs y hc hl h hw
  obtain ⟨n0, e0, r0⟩ := intAt ht h hw 0 h0
  obtain ⟨n1, e1, r1⟩ := intAt ht h hw 1 h1
  obtain ⟨n2, e2, r2⟩ := intAt ht h hw 2 h2
  exact ⟨(n0, n1, n2), ⟨by rw [← e0]; simpa using hc 0 (by omega), by rw [← e1]; exact hc 1 (by omega), by rw [← e2]; exact hc 2 (by omega)⟩, r0, r1, r2⟩

set_option maxRecDepth 100000 in
/-- Arguments are values of their types; their cells are read. -/
theorem argSl {H : Type} {enc : TypeId × Value → H} {w : World} {t e base : Nat} {v : Value} {d : DataW H} {p : List MemPlace} (ht : Try.prog.underlying t = some (.slice e)) (hv : Value.okWide Try.prog w .any base t v) (h : DataW.Trod enc Try.prog w 0 (fun _ => true) true t v d p) :
    ∃ fuel, TrodA enc w fuel t [v] (d, p) := by
  obtain ⟨a, l, c, rfl⟩ := okWide_slice ht hv
  obtain ⟨fuel, h⟩ := h
  have e : (Value.slice a l c).cells.toList = [.slice a l c] := rfl
  rw [e] at h
  exact ⟨fuel, h⟩

set_option maxRecDepth 100000 in
theorem argInt {H : Type} {enc : TypeId × Value → H} {w : World} {base : Nat} {v : Value} {d : DataW H} {p : List MemPlace} (hv : Value.okWide Try.prog w .any base 3 v) (h : DataW.Trod enc Try.prog w 0 (fun _ => true) true 3 v d p) : ∃ x, v = .int .i64 x ∧ I64 x := by
  obtain ⟨x, rfl, _, _, hw⟩ := open_int Try.underlying3 hv h
  exact ⟨x, rfl, i64_of_wf hw⟩
set_option maxRecDepth 100000 in
theorem elInt {H : Type} {enc : TypeId × Value → H} {w : World} : ∀ (fuel b o : Nat) (cs : List Value) (y : DataW H × List MemPlace), (∀ j, j < 1 → w.cell? ⟨b, o + j, none⟩ = cs[j]?) → cs.length = 1 → TrodA enc w fuel 3 cs y → Wt 3 y.1 → ∃ a, RI w w.heap.size b o a := by
  intro fuel b o cs y hc hl h _
  obtain ⟨n, rfl, r⟩ := openI Try.underlying3 h
  exact ⟨n, by simpa using hc 0 (by omega), r⟩
set_option maxRecDepth 100000 in
theorem openInts {H : Type} {enc : TypeId × Value → H} {w : World} {fuel : Nat} {cs : List Value} {x : DataW H × List MemPlace} (h : TrodA enc w fuel 22 cs x) (hw : Wt 22 x.1) : ∃ v xs, cs = [v] ∧ SlI w w.heap.size v xs :=
  openSl Try.underlying22 (sz := 1) cellsInt (by decide) (of_decide_eq_true (by kernel_rfl)) elInt h hw
set_option maxRecDepth 100000 in
theorem argInts {H : Type} {enc : TypeId × Value → H} {w : World} {base : Nat} {v : Value} {d : DataW H} {p : List MemPlace} (hv : Value.okWide Try.prog w .any base 22 v) (h : DataW.Trod enc Try.prog w 0 (fun _ => true) true 22 v d p) (hw : Wt 22 d) : ∃ xs, SlI w w.heap.size v xs := by
  obtain ⟨f, h⟩ := argSl Try.underlying22 hv h
  obtain ⟨u, xs, e, hx⟩ := openInts h hw
  injection e with e
  subst e
  exact ⟨xs, hx⟩
set_option maxRecDepth 100000 in
/-- A field of one cell. -/
theorem cellAt {H : Type} {enc : TypeId × Value → H} {w : World} {t T off fuel : Nat} {fs : Array Field} {cs : List Value} {x : DataW H × List MemPlace} (ht : Try.prog.underlying t = some (.struct fs)) (h : TrodA enc w fuel t cs x) (hw : Wt t x.1) (j : Nat)
    (hj : (fs[j]?).map (fun f => (f.type, f.offset)) = some (T, off)) (hT : Try.prog.cellsOf T = 1) {α : Type} {R : Value → α → Prop} (hR : ∀ n cs' y, TrodA enc w n T cs' y → Wt T y.1 → ∃ v a, cs' = [v] ∧ R v a) : ∃ v a, cs[off]? = some v ∧ R v a := by
  obtain ⟨n, y, h1, h2⟩ := structAt ht h hw j hj
  rw [hT] at h1
  obtain ⟨v, a, e, r⟩ := hR n _ y h1 h2
  refine ⟨v, a, ?_, r⟩
  have : ((cs.drop off).take 1)[0]? = some v := by rw [e]; rfl
  simpa [List.getElem?_take, List.getElem?_drop] using this
set_option maxRecDepth 100000 in
theorem argAgg {H : Type} {enc : TypeId × Value → H} {w : World} {t base : Nat} {fs : Array Field} {v : Value} {d : DataW H} {p : List MemPlace} (ht : Try.prog.underlying t = some (.struct fs)) (hv : Value.okWide Try.prog w .any base t v) (h : DataW.Trod enc Try.prog w 0 (fun _ => true) true t v d p) :
    ∃ fuel cs, v = .agg cs ∧ cs.size = Try.prog.cellsOf t ∧ TrodA enc w fuel t cs.toList (d, p) := by
  obtain ⟨cs, rfl, hsz⟩ := okWide_struct ht hv
  obtain ⟨fuel, h⟩ := h
  exact ⟨fuel, cs, rfl, hsz, h⟩
end Go.Proofs.Ytjlgijdkfihhlaa

/- Matrices among the arguments of a law. -/
namespace Go.Proofs.Ytjlgijdkfihhlaa
set_option linter.unusedVariables false
set_option linter.unusedSimpArgs false
open Go.RowKit Go.ChangeShapes Go.WideShapes Go.ChangeAt Go.Deep

set_option maxRecDepth 100000 in
theorem mxAt {H : Type} {enc : TypeId × Value → H} {w : World} {fuel : Nat} {cs : List Value} {x : DataW H × List MemPlace} (h : TrodA enc w fuel 110 cs x) (hw : Wt 110 x.1) :
    ∃ (m : Mx) (s : Value), cs[0]? = some (.int .i64 m.r) ∧ cs[1]? = some (.int .i64 m.c) ∧ cs[2]? = some s ∧ SlI w w.heap.size s m.a ∧ I64 m.r ∧ I64 m.c := by
  obtain ⟨n, e0, r0⟩ := intAt Try.underlying110 h hw 0 rfl
  obtain ⟨k, e1, r1⟩ := intAt Try.underlying110 h hw 1 rfl
  obtain ⟨vf, f, e2, hf⟩ := cellAt Try.underlying110 h hw 2 rfl cellsInts (R := fun v a => SlI w w.heap.size v a) (fun _ _ _ h h' => openInts h h')
  exact ⟨⟨n, k, f⟩, vf, e0, e1, e2, hf, r0, r1⟩
set_option maxRecDepth 100000 in
theorem argMat {H : Type} {enc : TypeId × Value → H} {w : World} {base : Nat} {v : Value} {d : DataW H} {p : List MemPlace} (hv : Value.okWide Try.prog w .any base 110 v) (h : DataW.Trod enc Try.prog w 0 (fun _ => true) true 110 v d p) (hw : Wt 110 d) : ∃ m, MxR w w.heap.size v m := by
  obtain ⟨fuel, cs, rfl, hsz, h⟩ := argAgg Try.underlying110 hv h
  obtain ⟨m, s, e0, e1, e2, hs, r0, r1⟩ := mxAt h hw
  refine ⟨m, s, ?_, hs, r0, r1⟩
  have hs : cs.size = 3 := hsz.trans (by kernel_rfl)
  congr 1
  apply Array.ext_getElem?
  intro i
  match i with
  | 0 => simpa using e0
  | 1 => simpa using e1
  | 2 => simpa using e2
  | i + 3 => rw [Array.getElem?_eq_none (by omega), Array.getElem?_eq_none (by simp)]
end Go.Proofs.Ytjlgijdkfihhlaa

/- Representations among the arguments of a law. -/
namespace Go.Proofs.Ytjlgijdkfihhlaa
set_option linter.unusedVariables false
set_option linter.unusedSimpArgs false
open Go.RowKit Go.ChangeShapes Go.WideShapes Go.ChangeAt Go.Deep

theorem cellsMx : Try.prog.cellsOf 110 = 3 := by kernel_rfl
theorem cellsMxs : Try.prog.cellsOf 25 = 1 := by kernel_rfl
theorem cellsQv : Try.prog.cellsOf 24 = 3 := by kernel_rfl
set_option maxRecDepth 100000 in
theorem elMx {H : Type} {enc : TypeId × Value → H} {w : World} : ∀ (fuel b o : Nat) (cs : List Value) (y : DataW H × List MemPlace), (∀ j, j < 3 → w.cell? ⟨b, o + j, none⟩ = cs[j]?) → cs.length = 3 → TrodA enc w fuel 110 cs y → Wt 110 y.1 → ∃ a, RMx w w.heap.size b o a := by
  intro fuel b o cs y hc hl h hw
  obtain ⟨m, s, e0, e1, e2, hs, r0, r1⟩ := mxAt h hw
  exact ⟨m, s, by rw [← e0]; simpa using hc 0 (by omega), by rw [← e1]; exact hc 1 (by omega), by rw [← e2]; exact hc 2 (by omega), hs, r0, r1⟩
set_option maxRecDepth 100000 in
theorem openMxs {H : Type} {enc : TypeId × Value → H} {w : World} {fuel : Nat} {cs : List Value} {x : DataW H × List MemPlace} (h : TrodA enc w fuel 25 cs x) (hw : Wt 25 x.1) : ∃ v xs, cs = [v] ∧ SlM w w.heap.size v xs :=
  haveI : Inhabited Mx := ⟨⟨0, 0, []⟩⟩
  openSl Try.underlying25 (sz := 3) cellsMx (by decide) (of_decide_eq_true (by kernel_rfl)) elMx h hw
set_option maxRecDepth 100000 in
theorem argRep {H : Type} {enc : TypeId × Value → H} {w : World} {base : Nat} {v : Value} {d : DataW H} {p : List MemPlace} (hv : Value.okWide Try.prog w .any base 27 v) (h : DataW.Trod enc Try.prog w 0 (fun _ => true) true 27 v d p) (hw : Wt 27 d) : ∃ x, RpR w w.heap.size v x := by
  obtain ⟨fuel, cs, rfl, hsz, h⟩ := argAgg Try.underlying27 hv h
  obtain ⟨pp, e0, r0⟩ := intAt Try.underlying27 h hw 0 rfl
  obtain ⟨n1, y1, h1, w1⟩ := structAt Try.underlying27 h hw 1 (T := 24) (off := 1) rfl
  obtain ⟨vd, dd, e4, hd⟩ := cellAt Try.underlying27 h hw 2 rfl cellsInts (R := fun v a => SlI w w.heap.size v a) (fun _ _ _ h h' => openInts h h')
  obtain ⟨vm, mm, e5, hm⟩ := cellAt Try.underlying27 h hw 3 rfl cellsMxs (R := fun v a => SlM w w.heap.size v a) (fun _ _ _ h h' => openMxs h h')
  rw [cellsQv] at h1
  obtain ⟨vv, e1, r1⟩ := intAt Try.underlying24 h1 w1 0 rfl
  obtain ⟨vf, f, e2, hf⟩ := cellAt Try.underlying24 h1 w1 1 rfl cellsInts (R := fun v a => SlI w w.heap.size v a) (fun _ _ _ h h' => openInts h h')
  obtain ⟨vt, t, e3, ht⟩ := cellAt Try.underlying24 h1 w1 2 rfl cellsInts (R := fun v a => SlI w w.heap.size v a) (fun _ _ _ h h' => openInts h h')
  simp only [List.getElem?_take, List.getElem?_drop, Array.getElem?_toList] at e0 e1 e2 e3 e4 e5
  refine ⟨⟨pp, ⟨vv, f, t⟩, dd, mm⟩, vf, vt, vd, vm, ?_, hf, ht, hd, hm, r0, r1⟩
  have hs : cs.size = 6 := hsz.trans (by kernel_rfl)
  congr 1
  apply Array.ext_getElem?
  intro i
  match i with
  | 0 => simpa using e0
  | 1 => simpa using e1
  | 2 => simpa using e2
  | 3 => simpa using e3
  | 4 => simpa using e4
  | 5 => simpa using e5
  | i + 6 => rw [Array.getElem?_eq_none (by omega), Array.getElem?_eq_none (by simp)]
end Go.Proofs.Ytjlgijdkfihhlaa

/- Facts of the whole program that every row asks for, each met once for the seat. -/
namespace Go.Proofs.Ytjlgijdkfihhlaa
set_option linter.unusedVariables false
set_option linter.unusedSimpArgs false
open Go.RowKit

theorem seatEnter : Try.prog.mayEnter = true := by kernel_rfl
theorem seatLifts : (false == Try.prog.liftsFinal) = true := by kernel_rfl
theorem seatMake : (Try.prog.make == some .cut) = true := by kernel_rfl
theorem band {a b : Bool} (h : a = true) (k : b = true) : (a && b) = true := by rw [h, k]; rfl
end Go.Proofs.Ytjlgijdkfihhlaa

/- FnExactBarsOf is proved: for every argument the program's BarsOf returns what the reference's returns, leaves its arguments as they were, and returns memory of its own. No condition. -/
namespace Go.Proofs.Ytjlgijdkfihhlaa
set_option linter.unusedVariables false
set_option linter.unusedSimpArgs false
open Go.RowKit Go.ChangeShapes Go.WideShapes Go.ChangeAt Go.Deep

set_option maxRecDepth 100000 in
theorem barsOf_lifted (os : Os) (started : os.Started) (H : Type) (enc : TypeId × Value → H) :
    ReturnsInHanded {} Try.checked os 3 .any (Rows.fnExactBarsOfSpec.pre6 enc Try.prog Try.f3 Rows.fnExactBarsOfRow.domain false) (Rows.fnExactBarsOfSpec.post enc Try.prog Try.f3 false true false false) := by
  refine lift_law started (by kernel_rfl) Try.func3 (ChangeSpec.witness6 (enc := enc) (C := Try.checked) false ⟨#[], #[.agg #[.int .i64 0, .int .i64 0, .slice none 0 0, .slice none 0 0, .slice none 0 0, .slice none 0 0]], []⟩ 8 (by kernel_rfl) (by kernel_rfl) (by kernel_rfl) (by kernel_rfl))
    rfl rfl (by rw [Try.params3]; intro t ht; simp only [List.mem_cons, List.not_mem_nil, or_false] at ht; rcases ht with rfl <;> exact ⟨by kernel_rfl, of_decide_eq_true (by kernel_rfl)⟩) (fun ds hl => by rw [Try.params3] at hl; match ds, hl with | [_], _ => rfl) ?_
  intro W args ds ps base hval hA hwt
  rw [Try.params3] at hA hval hwt
  obtain ⟨v0, d0, hargs, rfl, h0⟩ := trodAll_one hA
  obtain rfl : args = #[v0] := by cases args; simp_all
  obtain ⟨x0, r0⟩ := argRep (hval 0 _ _ rfl rfl) h0 (hwt 0 _ _ rfl rfl)
  exact lawBarsOf_any _ _ W r0

theorem barsOf_closed : joinedFacts Try.prog 3 Try.f3 Rows.fnExactBarsOfSpec Rows.fnExactBarsOfRow = true := by
  unfold joinedFacts
  refine band (band (band (band (band (band (band ?_ seatEnter) seatLifts) seatMake) ?_) ?_) ?_) ?_ <;> kernel_rfl

theorem barsOf_holds : Rows.FnExactBarsOfSaid :=
  OpenClaim.holds_of_wide 3 Try.f3 rfl rfl rfl rfl rfl rfl rfl ⟨rfl, rfl, rfl, rfl, rfl⟩ rfl rfl rfl rfl rfl (by kernel_rfl) Try.func3 barsOf_closed
    (of_decide_eq_true (by kernel_rfl)) (by unfold Func.isWrapper; first | (rw [if_pos (by decide +kernel)]; kernel_rfl) | (rw [if_neg (by decide +kernel)]; exact ⟨rfl, rfl⟩))
    (fun os started H enc _ => barsOf_lifted os started H enc)
#print axioms barsOf_holds
end Go.Proofs.Ytjlgijdkfihhlaa
