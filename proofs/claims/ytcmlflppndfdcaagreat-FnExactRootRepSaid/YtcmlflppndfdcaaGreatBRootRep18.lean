/- FnExactRootRep: the law holds for every argument. Part 18 of 18 of the proof: LawRootRep, LawRootRepRow. No condition. -/
import Derived.Test.YtcmlflppndfdcaaGreatBRootRep17
set_option linter.unusedVariables false
set_option linter.unusedSimpArgs false
namespace Go.Proofs.YtcmlflppndfdcaaGreat
open Go.RowKit
set_option maxHeartbeats 1600000 in
set_option maxRecDepth 100000 in
theorem lawRootRep_any (p : Int) (uq : Value) (q : Qv) (uy : Value) (y : List Int) (w : World) (rng_p : I64 p) (hq : QvR w w.heap.size uq q) (hy : SlI w w.heap.size uy y) :
  Calls Tryz.prog 4 #[.int .i64 p, uq, uy] w fun e w' => e = .returned (.bool true) ∧ Below w.heap.size w w' := by
 obtain ⟨Auq, cuq, Cuq, duq, eq⟩ := QvR.form hq
 subst eq
 have lq := QvR.lens hq
 obtain ⟨Ay, cy, rfl, _, _, ly, _⟩ := hy.open_
 have zr := rrQ_size p q y
 have g0 := Below.refl w.heap.size w
 by_cases z0 : (1048576 : Int) < y.length
 ·go_enter Tryz.func4, Tryz.ntmps4
  go_wp2
  go_ret
  exact ⟨rfl, (g0).alloc (by simp) _⟩
 by_cases z1 : (1048576 : Int) < (q.size : Nat)
 ·have y1 : szLeft (1048576 : Int) (q.size) = -1 := by rw [szLeft, if_pos z1]
  go_enter Tryz.func4, Tryz.ntmps4
  go_wp2_with fail
  obtain ⟨W2, e3⟩ : ∃ W, W = w.alloc (.cells #[.int .i64 (q).v, .slice Auq (q).f.length cuq, .slice Cuq (q).t.length duq] 24) := ⟨_, rfl⟩
  rw [← e3]
  have b4 : Below w.heap.size w W2 := by rw [e3]; exact below_alloc _ _
  have k5 : Blk W2 w.heap.size 24 #[.int .i64 (q).v, .slice Auq (q).f.length cuq, .slice Cuq (q).t.length duq] := by rw [e3]; exact Blk.new _ _ _
  have s6 : w.heap.size < W2.heap.size := by rw [e3]; simp
  clear e3
  have h7 := QvR.below (b4.mono (by omega)) hq
  have h8 := SlI.below (b4.mono (by omega)) hy
  have s9 : w.heap.size ≤ W2.heap.size := b4.size
  have g10 := bthen g0 b4
  clear hq hy g0 b4
  have c11 := k5.cell' (i := 0) rfl
  have c12 := k5.cell' (i := 1) rfl
  have c13 := k5.cell' (i := 2) rfl
  refine (szQuiver_any _ _ (1048576 : Int) _ (QvR.more (by omega) h7) (by omega) (by omega)).mono ?_; rintro e W14 ⟨rfl, b1⟩
  have h15 := QvR.below (b1.mono (by omega)) h7
  have h16 := SlI.below (b1.mono (by omega)) h8
  have k17 := k5.call b1
  have s18 : W2.heap.size ≤ W14.heap.size := b1.size
  have g19 := bthen g10 b1
  clear h7 h8 k5 g10 b1 c11 c12 c13
  have c20 := k17.cell' (i := 0) rfl
  have c21 := k17.cell' (i := 1) rfl
  have c22 := k17.cell' (i := 2) rfl
  go_wp2
  go_ret
  exact ⟨rfl, g19⟩
 have y1 : szLeft (1048576 : Int) (q.size) = (1048576 : Int) - (q.size : Nat) := by rw [szLeft, if_neg z1]
 have x1 : ¬ ((1048576 : Int) - ((q.size : Nat) : Int) < 0) := by omega
 go_enter Tryz.func4, Tryz.ntmps4
 go_wp2_with fail
 obtain ⟨W24, e25⟩ : ∃ W, W = w.alloc (.cells #[.int .i64 (q).v, .slice Auq (q).f.length cuq, .slice Cuq (q).t.length duq] 24) := ⟨_, rfl⟩
 rw [← e25]
 have b26 : Below w.heap.size w W24 := by rw [e25]; exact below_alloc _ _
 have k27 : Blk W24 w.heap.size 24 #[.int .i64 (q).v, .slice Auq (q).f.length cuq, .slice Cuq (q).t.length duq] := by rw [e25]; exact Blk.new _ _ _
 have s28 : w.heap.size < W24.heap.size := by rw [e25]; simp
 clear e25
 have h29 := QvR.below (b26.mono (by omega)) hq
 have h30 := SlI.below (b26.mono (by omega)) hy
 have s31 : w.heap.size ≤ W24.heap.size := b26.size
 have g32 := bthen g0 b26
 clear hq hy g0 b26
 have c33 := k27.cell' (i := 0) rfl
 have c34 := k27.cell' (i := 1) rfl
 have c35 := k27.cell' (i := 2) rfl
 refine (szQuiver_any _ _ (1048576 : Int) _ (QvR.more (by omega) h29) (by omega) (by omega)).mono ?_; rintro e W36 ⟨rfl, b23⟩
 have h37 := QvR.below (b23.mono (by omega)) h29
 have h38 := SlI.below (b23.mono (by omega)) h30
 have k39 := k27.call b23
 have s40 : W24.heap.size ≤ W36.heap.size := b23.size
 have g41 := bthen g32 b23
 clear h29 h30 k27 g32 b23 c33 c34 c35
 have c42 := k39.cell' (i := 0) rfl
 have c43 := k39.cell' (i := 1) rfl
 have c44 := k39.cell' (i := 2) rfl
 go_wp2_with fail
 refine (quiv_to _ _ _ (QvR.more (by omega) h37) (by omega)).mono ?_; rintro e W48 ⟨v45, rfl, h46, b47⟩
 have h49 := QvR.below (b47.mono (by omega)) h37
 have h50 := SlI.below (b47.mono (by omega)) h38
 have k51 := k39.call b47
 have s52 : W36.heap.size ≤ W48.heap.size := b47.size
 have g53 := bthen g41 b47
 clear h37 h38 k39 g41 b47 c42 c43 c44
 have c54 := k51.cell' (i := 0) rfl
 have c55 := k51.cell' (i := 1) rfl
 have c56 := k51.cell' (i := 2) rfl
 go_wp2_with fail
 refine (ints_to _ _ _ (SlI.more (by omega) h50) (by omega)).mono ?_; rintro e W60 ⟨v57, rfl, h58, b59⟩
 have h61 := QvR.below (b59.mono (by omega)) h49
 have h62 := SlI.below (b59.mono (by omega)) h50
 have h63 := h46.below b59
 have k64 := k51.call b59
 have s65 : W48.heap.size ≤ W60.heap.size := b59.size
 have g66 := bthen g53 b59
 clear h49 h50 h46 k51 g53 b59 c54 c55 c56
 have c67 := k64.cell' (i := 0) rfl
 have c68 := k64.cell' (i := 1) rfl
 have c69 := k64.cell' (i := 2) rfl
 go_wp2_with fail
 refine (specRootRep_any _ _ _ _ _ _ rng_p h63.rd h58.rd).mono ?_; rintro e W73 ⟨r70, rfl, h71, b72⟩
 have h74 := QvR.below (b72.mono (by omega)) h61
 have h75 := SlI.below (b72.mono (by omega)) h62
 have h76 := h63.below b72
 have h77 := h58.below b72
 have k78 := k64.call b72
 have s79 : W60.heap.size ≤ W73.heap.size := b72.size
 have g80 := bthen g66 b72
 clear h61 h62 h63 h58 k64 g66 b72 c67 c68 c69
 have c81 := k78.cell' (i := 0) rfl
 have c82 := k78.cell' (i := 1) rfl
 have c83 := k78.cell' (i := 2) rfl
 clear h76
 clear h77
 obtain ⟨Ax84, ax84, Cx84, cx84, Ex84, ex84, Hx84, hx84, e85⟩ := RpR.form h71
 subst e85
 have c89 := fun o => (k78.alloc o).cell' (i := 0) rfl
 have c90 := fun o => (k78.alloc o).cell' (i := 1) rfl
 have c91 := fun o => (k78.alloc o).cell' (i := 2) rfl
 go_wp2_with fail
 obtain ⟨W92, e93⟩ : ∃ W, W = W73.alloc (.cells #[.int .i64 ((rrQ p q y).1).p, .int .i64 ((rrQ p q y).1).q.v, .slice Ax84 ((rrQ p q y).1).q.f.length ax84, .slice Cx84 ((rrQ p q y).1).q.t.length cx84, .slice Ex84 ((rrQ p q y).1).d.length ex84, .slice Hx84 ((rrQ p q y).1).m.length hx84] 32) := ⟨_, rfl⟩
 rw [← e93]
 have b94 : Below W73.heap.size W73 W92 := by rw [e93]; exact below_alloc _ _
 have k95 : Blk W92 W73.heap.size 32 #[.int .i64 ((rrQ p q y).1).p, .int .i64 ((rrQ p q y).1).q.v, .slice Ax84 ((rrQ p q y).1).q.f.length ax84, .slice Cx84 ((rrQ p q y).1).q.t.length cx84, .slice Ex84 ((rrQ p q y).1).d.length ex84, .slice Hx84 ((rrQ p q y).1).m.length hx84] := by rw [e93]; exact Blk.new _ _ _
 have s96 : W73.heap.size < W92.heap.size := by rw [e93]; simp
 clear e93
 have h97 := QvR.below (b94.mono (by omega)) h74
 have h98 := SlI.below (b94.mono (by omega)) h75
 have h99 := RpR.below (b94.mono (by omega)) h71
 have k100 := k78.call b94
 have s101 : W73.heap.size ≤ W92.heap.size := b94.size
 have g102 := bthen g80 b94
 clear h74 h75 h71 k78 g80 b94 c81 c82 c83 c89 c90 c91
 have c103 := k100.cell' (i := 0) rfl
 have c104 := k100.cell' (i := 1) rfl
 have c105 := k100.cell' (i := 2) rfl
 have c106 := k95.cell' (i := 0) rfl
 have c107 := k95.cell' (i := 1) rfl
 have c108 := k95.cell' (i := 2) rfl
 have c109 := k95.cell' (i := 3) rfl
 have c110 := k95.cell' (i := 4) rfl
 have c111 := k95.cell' (i := 5) rfl
 refine (quiv_to _ _ _ (QvR.more (by omega) h97) (by omega)).mono ?_; rintro e W112 ⟨v86, rfl, h87, b88⟩
 have h113 := QvR.below (b88.mono (by omega)) h97
 have h114 := SlI.below (b88.mono (by omega)) h98
 have h115 := RpR.below (b88.mono (by omega)) h99
 have k116 := k100.call b88
 have k117 := k95.call b88
 have s118 : W92.heap.size ≤ W112.heap.size := b88.size
 have g119 := bthen g102 b88
 clear h97 h98 h99 k100 k95 g102 b88 c103 c104 c105 c106 c107 c108 c109 c110 c111
 have c120 := k116.cell' (i := 0) rfl
 have c121 := k116.cell' (i := 1) rfl
 have c122 := k116.cell' (i := 2) rfl
 have c123 := k117.cell' (i := 0) rfl
 have c124 := k117.cell' (i := 1) rfl
 have c125 := k117.cell' (i := 2) rfl
 have c126 := k117.cell' (i := 3) rfl
 have c127 := k117.cell' (i := 4) rfl
 have c128 := k117.cell' (i := 5) rfl
 obtain ⟨Ax129, cx129, Cx129, dx129, e130⟩ := h87.form
 subst e130
 have c134 := fun o => (k116.alloc o).cell' (i := 0) rfl
 have c135 := fun o => (k116.alloc o).cell' (i := 1) rfl
 have c136 := fun o => (k116.alloc o).cell' (i := 2) rfl
 have c137 := fun o => (k117.alloc o).cell' (i := 0) rfl
 have c138 := fun o => (k117.alloc o).cell' (i := 1) rfl
 have c139 := fun o => (k117.alloc o).cell' (i := 2) rfl
 have c140 := fun o => (k117.alloc o).cell' (i := 3) rfl
 have c141 := fun o => (k117.alloc o).cell' (i := 4) rfl
 have c142 := fun o => (k117.alloc o).cell' (i := 5) rfl
 go_wp2_with fail
 obtain ⟨W143, e144⟩ : ∃ W, W = W112.alloc (.cells #[.int .i64 (q).v, .slice Ax129 (q).f.length cx129, .slice Cx129 (q).t.length dx129] 29) := ⟨_, rfl⟩
 rw [← e144]
 have b145 : Below W112.heap.size W112 W143 := by rw [e144]; exact below_alloc _ _
 have k146 : Blk W143 W112.heap.size 29 #[.int .i64 (q).v, .slice Ax129 (q).f.length cx129, .slice Cx129 (q).t.length dx129] := by rw [e144]; exact Blk.new _ _ _
 have s147 : W112.heap.size < W143.heap.size := by rw [e144]; simp
 clear e144
 have h148 := QvR.below (b145.mono (by omega)) h113
 have h149 := SlI.below (b145.mono (by omega)) h114
 have h150 := RpR.below (b145.mono (by omega)) h115
 have h151 := h87.below b145
 have k152 := k116.call b145
 have k153 := k117.call b145
 have s154 : W112.heap.size ≤ W143.heap.size := b145.size
 have g155 := bthen g119 b145
 clear h113 h114 h115 h87 k116 k117 g119 b145 c120 c121 c122 c123 c124 c125 c126 c127 c128 c134 c135 c136 c137 c138 c139 c140 c141 c142
 have c156 := k152.cell' (i := 0) rfl
 have c157 := k152.cell' (i := 1) rfl
 have c158 := k152.cell' (i := 2) rfl
 have c159 := k153.cell' (i := 0) rfl
 have c160 := k153.cell' (i := 1) rfl
 have c161 := k153.cell' (i := 2) rfl
 have c162 := k153.cell' (i := 3) rfl
 have c163 := k153.cell' (i := 4) rfl
 have c164 := k153.cell' (i := 5) rfl
 have c165 := k146.cell' (i := 0) rfl
 have c166 := k146.cell' (i := 1) rfl
 have c167 := k146.cell' (i := 2) rfl
 refine (ints_to _ _ _ (SlI.more (by omega) h149) (by omega)).mono ?_; rintro e W168 ⟨v131, rfl, h132, b133⟩
 have h169 := QvR.below (b133.mono (by omega)) h148
 have h170 := SlI.below (b133.mono (by omega)) h149
 have h171 := RpR.below (b133.mono (by omega)) h150
 have h172 := h151.below b133
 have k173 := k152.call b133
 have k174 := k153.call b133
 have k175 := k146.call b133
 have s176 : W143.heap.size ≤ W168.heap.size := b133.size
 have g177 := bthen g155 b133
 clear h148 h149 h150 h151 k152 k153 k146 g155 b133 c156 c157 c158 c159 c160 c161 c162 c163 c164 c165 c166 c167
 have c178 := k173.cell' (i := 0) rfl
 have c179 := k173.cell' (i := 1) rfl
 have c180 := k173.cell' (i := 2) rfl
 have c181 := k174.cell' (i := 0) rfl
 have c182 := k174.cell' (i := 1) rfl
 have c183 := k174.cell' (i := 2) rfl
 have c184 := k174.cell' (i := 3) rfl
 have c185 := k174.cell' (i := 4) rfl
 have c186 := k174.cell' (i := 5) rfl
 have c187 := k175.cell' (i := 0) rfl
 have c188 := k175.cell' (i := 1) rfl
 have c189 := k175.cell' (i := 2) rfl
 go_wp2_with fail
 refine (implRootRep_any _ _ _ _ _ _ rng_p h172.rd h132.rd).mono ?_; rintro e W193 ⟨r190, rfl, h191, b192⟩
 have h194 := QvR.below (b192.mono (by omega)) h169
 have h195 := SlI.below (b192.mono (by omega)) h170
 have h196 := RpR.below (b192.mono (by omega)) h171
 have h197 := h172.below b192
 have h198 := h132.below b192
 have k199 := k173.call b192
 have k200 := k174.call b192
 have k201 := k175.call b192
 have s202 : W168.heap.size ≤ W193.heap.size := b192.size
 have g203 := bthen g177 b192
 clear h169 h170 h171 h172 h132 k173 k174 k175 g177 b192 c178 c179 c180 c181 c182 c183 c184 c185 c186 c187 c188 c189
 have c204 := k199.cell' (i := 0) rfl
 have c205 := k199.cell' (i := 1) rfl
 have c206 := k199.cell' (i := 2) rfl
 have c207 := k200.cell' (i := 0) rfl
 have c208 := k200.cell' (i := 1) rfl
 have c209 := k200.cell' (i := 2) rfl
 have c210 := k200.cell' (i := 3) rfl
 have c211 := k200.cell' (i := 4) rfl
 have c212 := k200.cell' (i := 5) rfl
 have c213 := k201.cell' (i := 0) rfl
 have c214 := k201.cell' (i := 1) rfl
 have c215 := k201.cell' (i := 2) rfl
 obtain ⟨Ax216, ax216, Cx216, cx216, Ex216, ex216, Hx216, hx216, e217⟩ := h191.form
 subst e217
 have c219 := fun o => (k199.alloc o).cell' (i := 0) rfl
 have c220 := fun o => (k199.alloc o).cell' (i := 1) rfl
 have c221 := fun o => (k199.alloc o).cell' (i := 2) rfl
 have c222 := fun o => (k200.alloc o).cell' (i := 0) rfl
 have c223 := fun o => (k200.alloc o).cell' (i := 1) rfl
 have c224 := fun o => (k200.alloc o).cell' (i := 2) rfl
 have c225 := fun o => (k200.alloc o).cell' (i := 3) rfl
 have c226 := fun o => (k200.alloc o).cell' (i := 4) rfl
 have c227 := fun o => (k200.alloc o).cell' (i := 5) rfl
 have c228 := fun o => (k201.alloc o).cell' (i := 0) rfl
 have c229 := fun o => (k201.alloc o).cell' (i := 1) rfl
 have c230 := fun o => (k201.alloc o).cell' (i := 2) rfl
 go_wp2_with fail
 obtain ⟨W231, e232⟩ : ∃ W, W = W193.alloc (.cells #[.int .i64 ((rrQ p q y).1).p, .int .i64 ((rrQ p q y).1).q.v, .slice Ax216 ((rrQ p q y).1).q.f.length ax216, .slice Cx216 ((rrQ p q y).1).q.t.length cx216, .slice Ex216 ((rrQ p q y).1).d.length ex216, .slice Hx216 ((rrQ p q y).1).m.length hx216] 32) := ⟨_, rfl⟩
 rw [← e232]
 have b233 : Below W193.heap.size W193 W231 := by rw [e232]; exact below_alloc _ _
 have k234 : Blk W231 W193.heap.size 32 #[.int .i64 ((rrQ p q y).1).p, .int .i64 ((rrQ p q y).1).q.v, .slice Ax216 ((rrQ p q y).1).q.f.length ax216, .slice Cx216 ((rrQ p q y).1).q.t.length cx216, .slice Ex216 ((rrQ p q y).1).d.length ex216, .slice Hx216 ((rrQ p q y).1).m.length hx216] := by rw [e232]; exact Blk.new _ _ _
 have s235 : W193.heap.size < W231.heap.size := by rw [e232]; simp
 clear e232
 have h236 := QvR.below (b233.mono (by omega)) h194
 have h237 := SlI.below (b233.mono (by omega)) h195
 have h238 := RpR.below (b233.mono (by omega)) h196
 have h239 := h197.below b233
 have h240 := h198.below b233
 have h241 := h191.below b233
 have k242 := k199.call b233
 have k243 := k200.call b233
 have k244 := k201.call b233
 have s245 : W193.heap.size ≤ W231.heap.size := b233.size
 have g246 := bthen g203 b233
 clear h194 h195 h196 h197 h198 h191 k199 k200 k201 g203 b233 c204 c205 c206 c207 c208 c209 c210 c211 c212 c213 c214 c215 c219 c220 c221 c222 c223 c224 c225 c226 c227 c228 c229 c230
 have c247 := k242.cell' (i := 0) rfl
 have c248 := k242.cell' (i := 1) rfl
 have c249 := k242.cell' (i := 2) rfl
 have c250 := k243.cell' (i := 0) rfl
 have c251 := k243.cell' (i := 1) rfl
 have c252 := k243.cell' (i := 2) rfl
 have c253 := k243.cell' (i := 3) rfl
 have c254 := k243.cell' (i := 4) rfl
 have c255 := k243.cell' (i := 5) rfl
 have c256 := k244.cell' (i := 0) rfl
 have c257 := k244.cell' (i := 1) rfl
 have c258 := k244.cell' (i := 2) rfl
 have c259 := k234.cell' (i := 0) rfl
 have c260 := k234.cell' (i := 1) rfl
 have c261 := k234.cell' (i := 2) rfl
 have c262 := k234.cell' (i := 3) rfl
 have c263 := k234.cell' (i := 4) rfl
 have c264 := k234.cell' (i := 5) rfl
 refine (eqRep_any _ _ _ _ _ h241.rd (RpR.more (by omega) h238)).mono ?_; rintro e W265 ⟨rfl, b218⟩
 have h266 := QvR.below (b218.mono (by omega)) h236
 have h267 := SlI.below (b218.mono (by omega)) h237
 have h268 := RpR.below (b218.mono (by omega)) h238
 have h269 := h239.below b218
 have h270 := h240.below b218
 have h271 := h241.below b218
 have k272 := k242.call b218
 have k273 := k243.call b218
 have k274 := k244.call b218
 have k275 := k234.call b218
 have s276 : W231.heap.size ≤ W265.heap.size := b218.size
 have g277 := bthen g246 b218
 clear h236 h237 h238 h239 h240 h241 k242 k243 k244 k234 g246 b218 c247 c248 c249 c250 c251 c252 c253 c254 c255 c256 c257 c258 c259 c260 c261 c262 c263 c264
 have c278 := k272.cell' (i := 0) rfl
 have c279 := k272.cell' (i := 1) rfl
 have c280 := k272.cell' (i := 2) rfl
 have c281 := k273.cell' (i := 0) rfl
 have c282 := k273.cell' (i := 1) rfl
 have c283 := k273.cell' (i := 2) rfl
 have c284 := k273.cell' (i := 3) rfl
 have c285 := k273.cell' (i := 4) rfl
 have c286 := k273.cell' (i := 5) rfl
 have c287 := k274.cell' (i := 0) rfl
 have c288 := k274.cell' (i := 1) rfl
 have c289 := k274.cell' (i := 2) rfl
 have c290 := k275.cell' (i := 0) rfl
 have c291 := k275.cell' (i := 1) rfl
 have c292 := k275.cell' (i := 2) rfl
 have c293 := k275.cell' (i := 3) rfl
 have c294 := k275.cell' (i := 4) rfl
 have c295 := k275.cell' (i := 5) rfl
 go_wp2_with fail
 have b296 := drew_below W265
 have h297 := QvR.below (b296.mono (by omega)) h266
 have h298 := SlI.below (b296.mono (by omega)) h267
 have h299 := RpR.below (b296.mono (by omega)) h268
 have h300 := h269.below b296
 have h301 := h270.below b296
 have h302 := h271.below b296
 have k303 := k272.call b296
 have k304 := k273.call b296
 have k305 := k274.call b296
 have k306 := k275.call b296
 have s307 : W265.heap.size ≤ W265.drew.heap.size := b296.size
 have g308 := bthen g277 b296
 clear h266 h267 h268 h269 h270 h271 k272 k273 k274 k275 g277 b296 c278 c279 c280 c281 c282 c283 c284 c285 c286 c287 c288 c289 c290 c291 c292 c293 c294 c295
 have c309 := k303.cell' (i := 0) rfl
 have c310 := k303.cell' (i := 1) rfl
 have c311 := k303.cell' (i := 2) rfl
 have c312 := k304.cell' (i := 0) rfl
 have c313 := k304.cell' (i := 1) rfl
 have c314 := k304.cell' (i := 2) rfl
 have c315 := k304.cell' (i := 3) rfl
 have c316 := k304.cell' (i := 4) rfl
 have c317 := k304.cell' (i := 5) rfl
 have c318 := k305.cell' (i := 0) rfl
 have c319 := k305.cell' (i := 1) rfl
 have c320 := k305.cell' (i := 2) rfl
 have c321 := k306.cell' (i := 0) rfl
 have c322 := k306.cell' (i := 1) rfl
 have c323 := k306.cell' (i := 2) rfl
 have c324 := k306.cell' (i := 3) rfl
 have c325 := k306.cell' (i := 4) rfl
 have c326 := k306.cell' (i := 5) rfl
 go_region_held3 (fun W' => W'.cell? ⟨w.heap.size, 0, none⟩ = some (.int .i64 (q).v) ∧ W'.cell? ⟨w.heap.size, 1, none⟩ = some (.slice Auq (q).f.length cuq) ∧ W'.cell? ⟨w.heap.size, 2, none⟩ = some (.slice Cuq (q).t.length duq) ∧ W'.cell? ⟨W73.heap.size, 0, none⟩ = some (.int .i64 ((rrQ p q y).1).p) ∧ W'.cell? ⟨W73.heap.size, 1, none⟩ = some (.int .i64 ((rrQ p q y).1).q.v) ∧ W'.cell? ⟨W73.heap.size, 2, none⟩ = some (.slice Ax84 ((rrQ p q y).1).q.f.length ax84) ∧ W'.cell? ⟨W73.heap.size, 3, none⟩ = some (.slice Cx84 ((rrQ p q y).1).q.t.length cx84) ∧ W'.cell? ⟨W73.heap.size, 4, none⟩ = some (.slice Ex84 ((rrQ p q y).1).d.length ex84) ∧ W'.cell? ⟨W73.heap.size, 5, none⟩ = some (.slice Hx84 ((rrQ p q y).1).m.length hx84) ∧ W'.cell? ⟨W112.heap.size, 0, none⟩ = some (.int .i64 (q).v) ∧ W'.cell? ⟨W112.heap.size, 1, none⟩ = some (.slice Ax129 (q).f.length cx129) ∧ W'.cell? ⟨W112.heap.size, 2, none⟩ = some (.slice Cx129 (q).t.length dx129) ∧ W'.cell? ⟨W193.heap.size, 0, none⟩ = some (.int .i64 ((rrQ p q y).1).p) ∧ W'.cell? ⟨W193.heap.size, 1, none⟩ = some (.int .i64 ((rrQ p q y).1).q.v) ∧ W'.cell? ⟨W193.heap.size, 2, none⟩ = some (.slice Ax216 ((rrQ p q y).1).q.f.length ax216) ∧ W'.cell? ⟨W193.heap.size, 3, none⟩ = some (.slice Cx216 ((rrQ p q y).1).q.t.length cx216) ∧ W'.cell? ⟨W193.heap.size, 4, none⟩ = some (.slice Ex216 ((rrQ p q y).1).d.length ex216) ∧ W'.cell? ⟨W193.heap.size, 5, none⟩ = some (.slice Hx216 ((rrQ p q y).1).m.length hx216))
  (first | exact ⟨c309, c310, c311, c312, c313, c314, c315, c316, c317, c318, c319, c320, c321, c322, c323, c324, c325, c326⟩ | exact ⟨c343, c344, c345, c346, c347, c348, c349, c350, c351, c352, c353, c354, c355, c356, c357, c358, c359, c360⟩ | exact ⟨c376, c377, c378, c379, c380, c381, c382, c383, c384, c385, c386, c387, c388, c389, c390, c391, c392, c393⟩)
  (first | (go_at_call 14; refine (quiv_to _ _ _ (QvR.more (by omega) h297) (by omega)).mono ?_; rintro e W330 ⟨v327, rfl, h328, b329⟩; have h331 := QvR.below (b329.mono (by omega)) h297; have h332 := SlI.below (b329.mono (by omega)) h298; have h333 := RpR.below (b329.mono (by omega)) h299; have h334 := h300.below b329; have h335 := h301.below b329; have h336 := h302.below b329; have k337 := k303.call b329; have k338 := k304.call b329; have k339 := k305.call b329; have k340 := k306.call b329; have s341 : W265.drew.heap.size ≤ W330.heap.size := b329.size; have g342 := bthen g308 b329; clear h297 h298 h299 h300 h301 h302 k303 k304 k305 k306 g308 b329 c309 c310 c311 c312 c313 c314 c315 c316 c317 c318 c319 c320 c321 c322 c323 c324 c325 c326; have c343 := k337.cell' (i := 0) rfl; have c344 := k337.cell' (i := 1) rfl; have c345 := k337.cell' (i := 2) rfl; have c346 := k338.cell' (i := 0) rfl; have c347 := k338.cell' (i := 1) rfl; have c348 := k338.cell' (i := 2) rfl; have c349 := k338.cell' (i := 3) rfl; have c350 := k338.cell' (i := 4) rfl; have c351 := k338.cell' (i := 5) rfl; have c352 := k339.cell' (i := 0) rfl; have c353 := k339.cell' (i := 1) rfl; have c354 := k339.cell' (i := 2) rfl; have c355 := k340.cell' (i := 0) rfl; have c356 := k340.cell' (i := 1) rfl; have c357 := k340.cell' (i := 2) rfl; have c358 := k340.cell' (i := 3) rfl; have c359 := k340.cell' (i := 4) rfl; have c360 := k340.cell' (i := 5) rfl) | (go_at_call 17; refine (eqQuiver_any _ _ _ _ _ h334.rd h328.rd).mono ?_; rintro e W362 ⟨rfl, b361⟩; have h363 := QvR.below (b361.mono (by omega)) h331; have h364 := SlI.below (b361.mono (by omega)) h332; have h365 := RpR.below (b361.mono (by omega)) h333; have h366 := h334.below b361; have h367 := h335.below b361; have h368 := h336.below b361; have h369 := h328.below b361; have k370 := k337.call b361; have k371 := k338.call b361; have k372 := k339.call b361; have k373 := k340.call b361; have s374 : W330.heap.size ≤ W362.heap.size := b361.size; have g375 := bthen g342 b361; clear h331 h332 h333 h334 h335 h336 h328 k337 k338 k339 k340 g342 b361 c343 c344 c345 c346 c347 c348 c349 c350 c351 c352 c353 c354 c355 c356 c357 c358 c359 c360; have c376 := k370.cell' (i := 0) rfl; have c377 := k370.cell' (i := 1) rfl; have c378 := k370.cell' (i := 2) rfl; have c379 := k371.cell' (i := 0) rfl; have c380 := k371.cell' (i := 1) rfl; have c381 := k371.cell' (i := 2) rfl; have c382 := k371.cell' (i := 3) rfl; have c383 := k371.cell' (i := 4) rfl; have c384 := k371.cell' (i := 5) rfl; have c385 := k372.cell' (i := 0) rfl; have c386 := k372.cell' (i := 1) rfl; have c387 := k372.cell' (i := 2) rfl; have c388 := k373.cell' (i := 0) rfl; have c389 := k373.cell' (i := 1) rfl; have c390 := k373.cell' (i := 2) rfl; have c391 := k373.cell' (i := 3) rfl; have c392 := k373.cell' (i := 4) rfl; have c393 := k373.cell' (i := 5) rfl))
 clear h369
 go_wp2_with fail
 refine (ints_to _ _ _ (SlI.more (by omega) h364) (by omega)).mono ?_; rintro e W397 ⟨v394, rfl, h395, b396⟩
 have h398 := QvR.below (b396.mono (by omega)) h363
 have h399 := SlI.below (b396.mono (by omega)) h364
 have h400 := RpR.below (b396.mono (by omega)) h365
 have h401 := h366.below b396
 have h402 := h367.below b396
 have h403 := h368.below b396
 have k404 := k370.call b396
 have k405 := k371.call b396
 have k406 := k372.call b396
 have k407 := k373.call b396
 have s408 : W362.heap.size ≤ W397.heap.size := b396.size
 have g409 := bthen g375 b396
 clear h363 h364 h365 h366 h367 h368 k370 k371 k372 k373 g375 b396 c376 c377 c378 c379 c380 c381 c382 c383 c384 c385 c386 c387 c388 c389 c390 c391 c392 c393
 have c410 := k404.cell' (i := 0) rfl
 have c411 := k404.cell' (i := 1) rfl
 have c412 := k404.cell' (i := 2) rfl
 have c413 := k405.cell' (i := 0) rfl
 have c414 := k405.cell' (i := 1) rfl
 have c415 := k405.cell' (i := 2) rfl
 have c416 := k405.cell' (i := 3) rfl
 have c417 := k405.cell' (i := 4) rfl
 have c418 := k405.cell' (i := 5) rfl
 have c419 := k406.cell' (i := 0) rfl
 have c420 := k406.cell' (i := 1) rfl
 have c421 := k406.cell' (i := 2) rfl
 have c422 := k407.cell' (i := 0) rfl
 have c423 := k407.cell' (i := 1) rfl
 have c424 := k407.cell' (i := 2) rfl
 have c425 := k407.cell' (i := 3) rfl
 have c426 := k407.cell' (i := 4) rfl
 have c427 := k407.cell' (i := 5) rfl
 go_wp2_with fail
 refine (eqIntS_any _ _ _ _ _ h402.rd h395.rd).mono ?_; rintro e W429 ⟨rfl, b428⟩
 have h430 := QvR.below (b428.mono (by omega)) h398
 have h431 := SlI.below (b428.mono (by omega)) h399
 have h432 := RpR.below (b428.mono (by omega)) h400
 have h433 := h401.below b428
 have h434 := h402.below b428
 have h435 := h403.below b428
 have h436 := h395.below b428
 have k437 := k404.call b428
 have k438 := k405.call b428
 have k439 := k406.call b428
 have k440 := k407.call b428
 have s441 : W397.heap.size ≤ W429.heap.size := b428.size
 have g442 := bthen g409 b428
 clear h398 h399 h400 h401 h402 h403 h395 k404 k405 k406 k407 g409 b428 c410 c411 c412 c413 c414 c415 c416 c417 c418 c419 c420 c421 c422 c423 c424 c425 c426 c427
 have c443 := k437.cell' (i := 0) rfl
 have c444 := k437.cell' (i := 1) rfl
 have c445 := k437.cell' (i := 2) rfl
 have c446 := k438.cell' (i := 0) rfl
 have c447 := k438.cell' (i := 1) rfl
 have c448 := k438.cell' (i := 2) rfl
 have c449 := k438.cell' (i := 3) rfl
 have c450 := k438.cell' (i := 4) rfl
 have c451 := k438.cell' (i := 5) rfl
 have c452 := k439.cell' (i := 0) rfl
 have c453 := k439.cell' (i := 1) rfl
 have c454 := k439.cell' (i := 2) rfl
 have c455 := k440.cell' (i := 0) rfl
 have c456 := k440.cell' (i := 1) rfl
 have c457 := k440.cell' (i := 2) rfl
 have c458 := k440.cell' (i := 3) rfl
 have c459 := k440.cell' (i := 4) rfl
 have c460 := k440.cell' (i := 5) rfl
 clear h436
 go_wp2_with fail
 refine (quiv_mark _ _ _ _ _ _ h433 (by omega) (by omega) (by omega)).mono ?_; rintro e W463 ⟨rfl, h461, q462⟩
 have h464 := QvR.chg h430 q462 (by omega) (by omega)
 have h465 := SlI.chg h431 q462 (by omega) (by omega)
 have h466 := RpR.chg h432 q462 (by omega) (by omega)
 have h467 := h434.chg q462 (by omega)
 have h468 := h435.chg q462 (by omega)
 have k469 := k437.chg q462 (by omega)
 have k470 := k438.chg q462 (by omega)
 have k471 := k439.chg q462 (by omega)
 have k472 := k440.chg q462 (by omega)
 have s473 : W429.heap.size ≤ W463.heap.size := q462.size
 have g474 := g442.trans (q462.below (by omega) (by omega))
 clear h430 h431 h432 h434 h435 k437 k438 k439 k440 g442 q462 c443 c444 c445 c446 c447 c448 c449 c450 c451 c452 c453 c454 c455 c456 c457 c458 c459 c460
 have c475 := k469.cell' (i := 0) rfl
 have c476 := k469.cell' (i := 1) rfl
 have c477 := k469.cell' (i := 2) rfl
 have c478 := k470.cell' (i := 0) rfl
 have c479 := k470.cell' (i := 1) rfl
 have c480 := k470.cell' (i := 2) rfl
 have c481 := k470.cell' (i := 3) rfl
 have c482 := k470.cell' (i := 4) rfl
 have c483 := k470.cell' (i := 5) rfl
 have c484 := k471.cell' (i := 0) rfl
 have c485 := k471.cell' (i := 1) rfl
 have c486 := k471.cell' (i := 2) rfl
 have c487 := k472.cell' (i := 0) rfl
 have c488 := k472.cell' (i := 1) rfl
 have c489 := k472.cell' (i := 2) rfl
 have c490 := k472.cell' (i := 3) rfl
 have c491 := k472.cell' (i := 4) rfl
 have c492 := k472.cell' (i := 5) rfl
 clear h433
 go_wp2_with fail
 refine (ints_mark _ _ _ _ _ _ h467 (by omega) (by omega)).mono ?_; rintro e W495 ⟨rfl, h493, q494⟩
 have h496 := QvR.chg h464 q494 (by omega) (by omega)
 have h497 := SlI.chg h465 q494 (by omega) (by omega)
 have h498 := RpR.chg h466 q494 (by omega) (by omega)
 have h499 := h461.chg q494 (by omega)
 have h500 := h468.chg q494 (by omega)
 have k501 := k469.chg q494 (by omega)
 have k502 := k470.chg q494 (by omega)
 have k503 := k471.chg q494 (by omega)
 have k504 := k472.chg q494 (by omega)
 have s505 : W463.heap.size ≤ W495.heap.size := q494.size
 have g506 := g474.trans (q494.below (by omega) (by omega))
 clear h464 h465 h466 h461 h468 k469 k470 k471 k472 g474 q494 c475 c476 c477 c478 c479 c480 c481 c482 c483 c484 c485 c486 c487 c488 c489 c490 c491 c492
 have c507 := k501.cell' (i := 0) rfl
 have c508 := k501.cell' (i := 1) rfl
 have c509 := k501.cell' (i := 2) rfl
 have c510 := k502.cell' (i := 0) rfl
 have c511 := k502.cell' (i := 1) rfl
 have c512 := k502.cell' (i := 2) rfl
 have c513 := k502.cell' (i := 3) rfl
 have c514 := k502.cell' (i := 4) rfl
 have c515 := k502.cell' (i := 5) rfl
 have c516 := k503.cell' (i := 0) rfl
 have c517 := k503.cell' (i := 1) rfl
 have c518 := k503.cell' (i := 2) rfl
 have c519 := k504.cell' (i := 0) rfl
 have c520 := k504.cell' (i := 1) rfl
 have c521 := k504.cell' (i := 2) rfl
 have c522 := k504.cell' (i := 3) rfl
 have c523 := k504.cell' (i := 4) rfl
 have c524 := k504.cell' (i := 5) rfl
 clear h467
 go_wp2_with fail
 refine (eqRep_any _ _ _ _ _ h500.rd (RpR.more (by omega) h498)).mono ?_; rintro e W526 ⟨rfl, b525⟩
 have h527 := QvR.below (b525.mono (by omega)) h496
 have h528 := SlI.below (b525.mono (by omega)) h497
 have h529 := RpR.below (b525.mono (by omega)) h498
 have h530 := h499.below b525
 have h531 := h493.below b525
 have h532 := h500.below b525
 have k533 := k501.call b525
 have k534 := k502.call b525
 have k535 := k503.call b525
 have k536 := k504.call b525
 have s537 : W495.heap.size ≤ W526.heap.size := b525.size
 have g538 := bthen g506 b525
 clear h496 h497 h498 h499 h493 h500 k501 k502 k503 k504 g506 b525 c507 c508 c509 c510 c511 c512 c513 c514 c515 c516 c517 c518 c519 c520 c521 c522 c523 c524
 have c539 := k533.cell' (i := 0) rfl
 have c540 := k533.cell' (i := 1) rfl
 have c541 := k533.cell' (i := 2) rfl
 have c542 := k534.cell' (i := 0) rfl
 have c543 := k534.cell' (i := 1) rfl
 have c544 := k534.cell' (i := 2) rfl
 have c545 := k534.cell' (i := 3) rfl
 have c546 := k534.cell' (i := 4) rfl
 have c547 := k534.cell' (i := 5) rfl
 have c548 := k535.cell' (i := 0) rfl
 have c549 := k535.cell' (i := 1) rfl
 have c550 := k535.cell' (i := 2) rfl
 have c551 := k536.cell' (i := 0) rfl
 have c552 := k536.cell' (i := 1) rfl
 have c553 := k536.cell' (i := 2) rfl
 have c554 := k536.cell' (i := 3) rfl
 have c555 := k536.cell' (i := 4) rfl
 have c556 := k536.cell' (i := 5) rfl
 clear h530
 clear h531
 go_wp2_with fail
 refine (rep_mark _ _ _ _ _ _ h532 (by omega) (by omega) (by omega) (by omega)).mono ?_; rintro e W559 ⟨rfl, h557, q558⟩
 have h560 := QvR.chg h527 q558 (by omega) (by omega)
 have h561 := SlI.chg h528 q558 (by omega) (by omega)
 have h562 := RpR.chg h529 q558 (by omega) (by omega)
 have k563 := k533.chg q558 (by omega)
 have k564 := k534.chg q558 (by omega)
 have k565 := k535.chg q558 (by omega)
 have k566 := k536.chg q558 (by omega)
 have s567 : W526.heap.size ≤ W559.heap.size := q558.size
 have g568 := g538.trans (q558.below (by omega) (by omega))
 clear h527 h528 h529 k533 k534 k535 k536 g538 q558 c539 c540 c541 c542 c543 c544 c545 c546 c547 c548 c549 c550 c551 c552 c553 c554 c555 c556
 have c569 := k563.cell' (i := 0) rfl
 have c570 := k563.cell' (i := 1) rfl
 have c571 := k563.cell' (i := 2) rfl
 have c572 := k564.cell' (i := 0) rfl
 have c573 := k564.cell' (i := 1) rfl
 have c574 := k564.cell' (i := 2) rfl
 have c575 := k564.cell' (i := 3) rfl
 have c576 := k564.cell' (i := 4) rfl
 have c577 := k564.cell' (i := 5) rfl
 have c578 := k565.cell' (i := 0) rfl
 have c579 := k565.cell' (i := 1) rfl
 have c580 := k565.cell' (i := 2) rfl
 have c581 := k566.cell' (i := 0) rfl
 have c582 := k566.cell' (i := 1) rfl
 have c583 := k566.cell' (i := 2) rfl
 have c584 := k566.cell' (i := 3) rfl
 have c585 := k566.cell' (i := 4) rfl
 have c586 := k566.cell' (i := 5) rfl
 clear h532
 go_wp2_with fail
 refine (rep_held _ _ _ _ h557.rd (by omega) (by omega) (by omega)).mono ?_; rintro e W588 ⟨rfl, b587⟩
 have h589 := QvR.below (b587.mono (by omega)) h560
 have h590 := SlI.below (b587.mono (by omega)) h561
 have h591 := RpR.below (b587.mono (by omega)) h562
 have h592 := h557.below b587
 have k593 := k563.call b587
 have k594 := k564.call b587
 have k595 := k565.call b587
 have k596 := k566.call b587
 have s597 : W559.heap.size ≤ W588.heap.size := b587.size
 have g598 := bthen g568 b587
 clear h560 h561 h562 h557 k563 k564 k565 k566 g568 b587 c569 c570 c571 c572 c573 c574 c575 c576 c577 c578 c579 c580 c581 c582 c583 c584 c585 c586
 have c599 := k593.cell' (i := 0) rfl
 have c600 := k593.cell' (i := 1) rfl
 have c601 := k593.cell' (i := 2) rfl
 have c602 := k594.cell' (i := 0) rfl
 have c603 := k594.cell' (i := 1) rfl
 have c604 := k594.cell' (i := 2) rfl
 have c605 := k594.cell' (i := 3) rfl
 have c606 := k594.cell' (i := 4) rfl
 have c607 := k594.cell' (i := 5) rfl
 have c608 := k595.cell' (i := 0) rfl
 have c609 := k595.cell' (i := 1) rfl
 have c610 := k595.cell' (i := 2) rfl
 have c611 := k596.cell' (i := 0) rfl
 have c612 := k596.cell' (i := 1) rfl
 have c613 := k596.cell' (i := 2) rfl
 have c614 := k596.cell' (i := 3) rfl
 have c615 := k596.cell' (i := 4) rfl
 have c616 := k596.cell' (i := 5) rfl
 go_wp2_with fail
 refine (quiv_to _ _ _ (QvR.more (by omega) h589) (by omega)).mono ?_; rintro e W620 ⟨v617, rfl, h618, b619⟩
 have h621 := QvR.below (b619.mono (by omega)) h589
 have h622 := SlI.below (b619.mono (by omega)) h590
 have h623 := RpR.below (b619.mono (by omega)) h591
 have h624 := h592.below b619
 have k625 := k593.call b619
 have k626 := k594.call b619
 have k627 := k595.call b619
 have k628 := k596.call b619
 have s629 : W588.heap.size ≤ W620.heap.size := b619.size
 have g630 := bthen g598 b619
 clear h589 h590 h591 h592 k593 k594 k595 k596 g598 b619 c599 c600 c601 c602 c603 c604 c605 c606 c607 c608 c609 c610 c611 c612 c613 c614 c615 c616
 have c631 := k625.cell' (i := 0) rfl
 have c632 := k625.cell' (i := 1) rfl
 have c633 := k625.cell' (i := 2) rfl
 have c634 := k626.cell' (i := 0) rfl
 have c635 := k626.cell' (i := 1) rfl
 have c636 := k626.cell' (i := 2) rfl
 have c637 := k626.cell' (i := 3) rfl
 have c638 := k626.cell' (i := 4) rfl
 have c639 := k626.cell' (i := 5) rfl
 have c640 := k627.cell' (i := 0) rfl
 have c641 := k627.cell' (i := 1) rfl
 have c642 := k627.cell' (i := 2) rfl
 have c643 := k628.cell' (i := 0) rfl
 have c644 := k628.cell' (i := 1) rfl
 have c645 := k628.cell' (i := 2) rfl
 have c646 := k628.cell' (i := 3) rfl
 have c647 := k628.cell' (i := 4) rfl
 have c648 := k628.cell' (i := 5) rfl
 go_wp2_with fail
 refine (ints_to _ _ _ (SlI.more (by omega) h622) (by omega)).mono ?_; rintro e W652 ⟨v649, rfl, h650, b651⟩
 have h653 := QvR.below (b651.mono (by omega)) h621
 have h654 := SlI.below (b651.mono (by omega)) h622
 have h655 := RpR.below (b651.mono (by omega)) h623
 have h656 := h624.below b651
 have h657 := h618.below b651
 have k658 := k625.call b651
 have k659 := k626.call b651
 have k660 := k627.call b651
 have k661 := k628.call b651
 have s662 : W620.heap.size ≤ W652.heap.size := b651.size
 have g663 := bthen g630 b651
 clear h621 h622 h623 h624 h618 k625 k626 k627 k628 g630 b651 c631 c632 c633 c634 c635 c636 c637 c638 c639 c640 c641 c642 c643 c644 c645 c646 c647 c648
 have c664 := k658.cell' (i := 0) rfl
 have c665 := k658.cell' (i := 1) rfl
 have c666 := k658.cell' (i := 2) rfl
 have c667 := k659.cell' (i := 0) rfl
 have c668 := k659.cell' (i := 1) rfl
 have c669 := k659.cell' (i := 2) rfl
 have c670 := k659.cell' (i := 3) rfl
 have c671 := k659.cell' (i := 4) rfl
 have c672 := k659.cell' (i := 5) rfl
 have c673 := k660.cell' (i := 0) rfl
 have c674 := k660.cell' (i := 1) rfl
 have c675 := k660.cell' (i := 2) rfl
 have c676 := k661.cell' (i := 0) rfl
 have c677 := k661.cell' (i := 1) rfl
 have c678 := k661.cell' (i := 2) rfl
 have c679 := k661.cell' (i := 3) rfl
 have c680 := k661.cell' (i := 4) rfl
 have c681 := k661.cell' (i := 5) rfl
 go_wp2_with fail
 refine (implRootRep_any _ _ _ _ _ _ rng_p h657.rd h650.rd).mono ?_; rintro e W685 ⟨r682, rfl, h683, b684⟩
 have h686 := QvR.below (b684.mono (by omega)) h653
 have h687 := SlI.below (b684.mono (by omega)) h654
 have h688 := RpR.below (b684.mono (by omega)) h655
 have h689 := h656.below b684
 have h690 := h657.below b684
 have h691 := h650.below b684
 have k692 := k658.call b684
 have k693 := k659.call b684
 have k694 := k660.call b684
 have k695 := k661.call b684
 have s696 : W652.heap.size ≤ W685.heap.size := b684.size
 have g697 := bthen g663 b684
 clear h653 h654 h655 h656 h657 h650 k658 k659 k660 k661 g663 b684 c664 c665 c666 c667 c668 c669 c670 c671 c672 c673 c674 c675 c676 c677 c678 c679 c680 c681
 have c698 := k692.cell' (i := 0) rfl
 have c699 := k692.cell' (i := 1) rfl
 have c700 := k692.cell' (i := 2) rfl
 have c701 := k693.cell' (i := 0) rfl
 have c702 := k693.cell' (i := 1) rfl
 have c703 := k693.cell' (i := 2) rfl
 have c704 := k693.cell' (i := 3) rfl
 have c705 := k693.cell' (i := 4) rfl
 have c706 := k693.cell' (i := 5) rfl
 have c707 := k694.cell' (i := 0) rfl
 have c708 := k694.cell' (i := 1) rfl
 have c709 := k694.cell' (i := 2) rfl
 have c710 := k695.cell' (i := 0) rfl
 have c711 := k695.cell' (i := 1) rfl
 have c712 := k695.cell' (i := 2) rfl
 have c713 := k695.cell' (i := 3) rfl
 have c714 := k695.cell' (i := 4) rfl
 have c715 := k695.cell' (i := 5) rfl
 clear h690
 clear h691
 obtain ⟨Ax716, ax716, Cx716, cx716, Ex716, ex716, Hx716, hx716, e717⟩ := h683.form
 subst e717
 have c719 := fun o => (k692.alloc o).cell' (i := 0) rfl
 have c720 := fun o => (k692.alloc o).cell' (i := 1) rfl
 have c721 := fun o => (k692.alloc o).cell' (i := 2) rfl
 have c722 := fun o => (k693.alloc o).cell' (i := 0) rfl
 have c723 := fun o => (k693.alloc o).cell' (i := 1) rfl
 have c724 := fun o => (k693.alloc o).cell' (i := 2) rfl
 have c725 := fun o => (k693.alloc o).cell' (i := 3) rfl
 have c726 := fun o => (k693.alloc o).cell' (i := 4) rfl
 have c727 := fun o => (k693.alloc o).cell' (i := 5) rfl
 have c728 := fun o => (k694.alloc o).cell' (i := 0) rfl
 have c729 := fun o => (k694.alloc o).cell' (i := 1) rfl
 have c730 := fun o => (k694.alloc o).cell' (i := 2) rfl
 have c731 := fun o => (k695.alloc o).cell' (i := 0) rfl
 have c732 := fun o => (k695.alloc o).cell' (i := 1) rfl
 have c733 := fun o => (k695.alloc o).cell' (i := 2) rfl
 have c734 := fun o => (k695.alloc o).cell' (i := 3) rfl
 have c735 := fun o => (k695.alloc o).cell' (i := 4) rfl
 have c736 := fun o => (k695.alloc o).cell' (i := 5) rfl
 go_wp2_with fail
 obtain ⟨W737, e738⟩ : ∃ W, W = W685.alloc (.cells #[.int .i64 ((rrQ p q y).1).p, .int .i64 ((rrQ p q y).1).q.v, .slice Ax716 ((rrQ p q y).1).q.f.length ax716, .slice Cx716 ((rrQ p q y).1).q.t.length cx716, .slice Ex716 ((rrQ p q y).1).d.length ex716, .slice Hx716 ((rrQ p q y).1).m.length hx716] 32) := ⟨_, rfl⟩
 rw [← e738]
 have b739 : Below W685.heap.size W685 W737 := by rw [e738]; exact below_alloc _ _
 have k740 : Blk W737 W685.heap.size 32 #[.int .i64 ((rrQ p q y).1).p, .int .i64 ((rrQ p q y).1).q.v, .slice Ax716 ((rrQ p q y).1).q.f.length ax716, .slice Cx716 ((rrQ p q y).1).q.t.length cx716, .slice Ex716 ((rrQ p q y).1).d.length ex716, .slice Hx716 ((rrQ p q y).1).m.length hx716] := by rw [e738]; exact Blk.new _ _ _
 have s741 : W685.heap.size < W737.heap.size := by rw [e738]; simp
 clear e738
 have h742 := QvR.below (b739.mono (by omega)) h686
 have h743 := SlI.below (b739.mono (by omega)) h687
 have h744 := RpR.below (b739.mono (by omega)) h688
 have h745 := h689.below b739
 have h746 := h683.below b739
 have k747 := k692.call b739
 have k748 := k693.call b739
 have k749 := k694.call b739
 have k750 := k695.call b739
 have s751 : W685.heap.size ≤ W737.heap.size := b739.size
 have g752 := bthen g697 b739
 clear h686 h687 h688 h689 h683 k692 k693 k694 k695 g697 b739 c698 c699 c700 c701 c702 c703 c704 c705 c706 c707 c708 c709 c710 c711 c712 c713 c714 c715 c719 c720 c721 c722 c723 c724 c725 c726 c727 c728 c729 c730 c731 c732 c733 c734 c735 c736
 have c753 := k747.cell' (i := 0) rfl
 have c754 := k747.cell' (i := 1) rfl
 have c755 := k747.cell' (i := 2) rfl
 have c756 := k748.cell' (i := 0) rfl
 have c757 := k748.cell' (i := 1) rfl
 have c758 := k748.cell' (i := 2) rfl
 have c759 := k748.cell' (i := 3) rfl
 have c760 := k748.cell' (i := 4) rfl
 have c761 := k748.cell' (i := 5) rfl
 have c762 := k749.cell' (i := 0) rfl
 have c763 := k749.cell' (i := 1) rfl
 have c764 := k749.cell' (i := 2) rfl
 have c765 := k750.cell' (i := 0) rfl
 have c766 := k750.cell' (i := 1) rfl
 have c767 := k750.cell' (i := 2) rfl
 have c768 := k750.cell' (i := 3) rfl
 have c769 := k750.cell' (i := 4) rfl
 have c770 := k750.cell' (i := 5) rfl
 have c771 := k740.cell' (i := 0) rfl
 have c772 := k740.cell' (i := 1) rfl
 have c773 := k740.cell' (i := 2) rfl
 have c774 := k740.cell' (i := 3) rfl
 have c775 := k740.cell' (i := 4) rfl
 have c776 := k740.cell' (i := 5) rfl
 refine (eqRep_any _ _ _ _ _ h746.rd (RpR.more (by omega) h744)).mono ?_; rintro e W777 ⟨rfl, b718⟩
 have h778 := QvR.below (b718.mono (by omega)) h742
 have h779 := SlI.below (b718.mono (by omega)) h743
 have h780 := RpR.below (b718.mono (by omega)) h744
 have h781 := h745.below b718
 have h782 := h746.below b718
 have k783 := k747.call b718
 have k784 := k748.call b718
 have k785 := k749.call b718
 have k786 := k750.call b718
 have k787 := k740.call b718
 have s788 : W737.heap.size ≤ W777.heap.size := b718.size
 have g789 := bthen g752 b718
 clear h742 h743 h744 h745 h746 k747 k748 k749 k750 k740 g752 b718 c753 c754 c755 c756 c757 c758 c759 c760 c761 c762 c763 c764 c765 c766 c767 c768 c769 c770 c771 c772 c773 c774 c775 c776
 have c790 := k783.cell' (i := 0) rfl
 have c791 := k783.cell' (i := 1) rfl
 have c792 := k783.cell' (i := 2) rfl
 have c793 := k784.cell' (i := 0) rfl
 have c794 := k784.cell' (i := 1) rfl
 have c795 := k784.cell' (i := 2) rfl
 have c796 := k784.cell' (i := 3) rfl
 have c797 := k784.cell' (i := 4) rfl
 have c798 := k784.cell' (i := 5) rfl
 have c799 := k785.cell' (i := 0) rfl
 have c800 := k785.cell' (i := 1) rfl
 have c801 := k785.cell' (i := 2) rfl
 have c802 := k786.cell' (i := 0) rfl
 have c803 := k786.cell' (i := 1) rfl
 have c804 := k786.cell' (i := 2) rfl
 have c805 := k786.cell' (i := 3) rfl
 have c806 := k786.cell' (i := 4) rfl
 have c807 := k786.cell' (i := 5) rfl
 have c808 := k787.cell' (i := 0) rfl
 have c809 := k787.cell' (i := 1) rfl
 have c810 := k787.cell' (i := 2) rfl
 have c811 := k787.cell' (i := 3) rfl
 have c812 := k787.cell' (i := 4) rfl
 have c813 := k787.cell' (i := 5) rfl
 clear h782
 go_wp2_with fail
 refine (rep_held _ _ _ _ h781.rd (by omega) (by omega) (by omega)).mono ?_; rintro e W815 ⟨rfl, b814⟩
 have h816 := QvR.below (b814.mono (by omega)) h778
 have h817 := SlI.below (b814.mono (by omega)) h779
 have h818 := RpR.below (b814.mono (by omega)) h780
 have h819 := h781.below b814
 have k820 := k783.call b814
 have k821 := k784.call b814
 have k822 := k785.call b814
 have k823 := k786.call b814
 have k824 := k787.call b814
 have s825 : W777.heap.size ≤ W815.heap.size := b814.size
 have g826 := bthen g789 b814
 clear h778 h779 h780 h781 k783 k784 k785 k786 k787 g789 b814 c790 c791 c792 c793 c794 c795 c796 c797 c798 c799 c800 c801 c802 c803 c804 c805 c806 c807 c808 c809 c810 c811 c812 c813
 have c827 := k820.cell' (i := 0) rfl
 have c828 := k820.cell' (i := 1) rfl
 have c829 := k820.cell' (i := 2) rfl
 have c830 := k821.cell' (i := 0) rfl
 have c831 := k821.cell' (i := 1) rfl
 have c832 := k821.cell' (i := 2) rfl
 have c833 := k821.cell' (i := 3) rfl
 have c834 := k821.cell' (i := 4) rfl
 have c835 := k821.cell' (i := 5) rfl
 have c836 := k822.cell' (i := 0) rfl
 have c837 := k822.cell' (i := 1) rfl
 have c838 := k822.cell' (i := 2) rfl
 have c839 := k823.cell' (i := 0) rfl
 have c840 := k823.cell' (i := 1) rfl
 have c841 := k823.cell' (i := 2) rfl
 have c842 := k823.cell' (i := 3) rfl
 have c843 := k823.cell' (i := 4) rfl
 have c844 := k823.cell' (i := 5) rfl
 have c845 := k824.cell' (i := 0) rfl
 have c846 := k824.cell' (i := 1) rfl
 have c847 := k824.cell' (i := 2) rfl
 have c848 := k824.cell' (i := 3) rfl
 have c849 := k824.cell' (i := 4) rfl
 have c850 := k824.cell' (i := 5) rfl
 go_wp2
 go_ret
 exact ⟨rfl, g826⟩
end Go.Proofs.YtcmlflppndfdcaaGreat
namespace Go.Proofs.YtcmlflppndfdcaaGreat
open Go.RowKit Go.ChangeShapes Go.WideShapes Go.ChangeAt Go.Deep
set_option maxRecDepth 100000 in
theorem rootRep_lifted (os : Os) (started : os.Started) (H : Type) (enc : TypeId × Value → H) :
  ReturnsInHanded {} Tryz.checked os 4 .any (Rows.fnExactRootRepSpec.pre6 enc Tryz.prog Tryz.f4 Rows.fnExactRootRepRow.domain false) (Rows.fnExactRootRepSpec.post enc Tryz.prog Tryz.f4 false true false false) := by
 refine lift_law started (by kernel_rfl) Tryz.func4 (ChangeSpec.witness6 (enc := enc) (C := Tryz.checked) false ⟨#[], #[.int .i64 0, .agg #[.int .i64 0, .slice none 0 0, .slice none 0 0], .slice none 0 0], []⟩ 8 (by kernel_rfl) (by kernel_rfl) (by kernel_rfl) (by kernel_rfl))
  rfl rfl (by rw [Tryz.params4]; intro t ht; simp only [List.mem_cons, List.not_mem_nil, or_false] at ht; rcases ht with rfl | rfl | rfl <;> exact ⟨by kernel_rfl, of_decide_eq_true (by kernel_rfl)⟩) (fun ds hl => by rw [Tryz.params4] at hl; match ds, hl with | [_, _, _], _ => rfl) ?_
 intro W args ds ps base hval hA hwt
 rw [Tryz.params4] at hA hval hwt
 obtain ⟨v0, v1, v2, d0, d1, d2, p0, p1, p2, hargs, rfl, rfl, h0, h1, h2⟩ := trodAll_three hA
 obtain rfl : args = #[v0, v1, v2] := by cases args; simp_all
 obtain ⟨x0, rfl, r0⟩ := argInt (hval 0 _ _ rfl rfl) h0
 obtain ⟨x1, r1⟩ := argQuiver (hval 1 _ _ rfl rfl) h1 (hwt 1 _ _ rfl rfl)
 obtain ⟨x2, r2⟩ := argInts (hval 2 _ _ rfl rfl) h2 (hwt 2 _ _ rfl rfl)
 exact lawRootRep_any _ _ _ _ _ W r0 r1 r2
theorem rootRep_closed : joinedFacts Tryz.prog 4 Tryz.f4 Rows.fnExactRootRepSpec Rows.fnExactRootRepRow = true := by
 unfold joinedFacts
 refine band (band (band (band (band (band (band ?_ seatEnter) seatLifts) seatMake) ?_) ?_) ?_) ?_ <;> kernel_rfl
theorem rootRep_holds : Rows.FnExactRootRepSaid :=
 OpenClaim.holds_of_wide 4 Tryz.f4 rfl rfl rfl rfl rfl rfl rfl ⟨rfl, rfl, rfl, rfl, rfl⟩ rfl rfl rfl rfl rfl (by kernel_rfl) Tryz.func4 rootRep_closed
  (of_decide_eq_true (by kernel_rfl)) (by unfold Func.isWrapper; first | (rw [if_pos (by decide +kernel)]; kernel_rfl) | (rw [if_neg (by decide +kernel)]; exact ⟨rfl, rfl⟩))
  (fun os started H enc _ => rootRep_lifted os started H enc)
#print axioms rootRep_holds
end Go.Proofs.YtcmlflppndfdcaaGreat
