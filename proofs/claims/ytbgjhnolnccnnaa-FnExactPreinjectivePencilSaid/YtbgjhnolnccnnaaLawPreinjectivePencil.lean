/- The walk of FnExactPreinjectivePencil, printed by program (wip/law.py) out of the contracts of what it calls. -/
import Derived.Test.YtbgjhnolnccnnaaPrei2
import Derived.Test.YtbgjhnolnccnnaaPenSz
import Derived.Test.YtbgjhnolnccnnaaKitR2
namespace Go.Proofs.Ytbgjhnolnccnnaa
set_option linter.unusedVariables false
set_option linter.unusedSimpArgs false
open Go.RowKit

set_option maxHeartbeats 1600000 in
set_option maxRecDepth 100000 in
theorem lawPreinjectivePencil_any (p : Int) (n : Int) (w : World) (rng_p : I64 p) (rng_n : I64 n) :
    Calls Try.prog 10 #[.int .i64 p, .int .i64 n] w fun e w' => e = .returned (.bool true) ∧ Below w.heap.size w w' := by
  have zr := preiP_size p n
  have g0 := Below.refl w.heap.size w
  go_enter Try.func10, Try.ntmps10
  go_wp2_with fail
  refine (specPreinjectivePencil_any _ _ _ rng_p rng_n).mono ?_; rintro e W4 ⟨r1, rfl, h2, b3⟩
  have s5 : w.heap.size ≤ W4.heap.size := b3.size
  have g6 := bthen g0 b3
  clear g0 b3
  have h7 := h2.rd
  clear h2
  obtain ⟨Ax8, ax8, Cx8, cx8, Ex8, ex8, Hx8, hx8, e9⟩ := RpR.form h7
  subst e9
  go_wp2_with fail
  obtain ⟨W13, e14⟩ : ∃ W, W = W4.alloc (.cells #[.int .i64 ((preiP p n).1).p, .int .i64 ((preiP p n).1).q.v, .slice Ax8 ((preiP p n).1).q.f.length ax8, .slice Cx8 ((preiP p n).1).q.t.length cx8, .slice Ex8 ((preiP p n).1).d.length ex8, .slice Hx8 ((preiP p n).1).m.length hx8] 40) := ⟨_, rfl⟩
  rw [← e14]
  have b15 : Below W4.heap.size W4 W13 := by rw [e14]; exact below_alloc _ _
  have k16 : Blk W13 W4.heap.size 40 #[.int .i64 ((preiP p n).1).p, .int .i64 ((preiP p n).1).q.v, .slice Ax8 ((preiP p n).1).q.f.length ax8, .slice Cx8 ((preiP p n).1).q.t.length cx8, .slice Ex8 ((preiP p n).1).d.length ex8, .slice Hx8 ((preiP p n).1).m.length hx8] := by rw [e14]; exact Blk.new _ _ _
  have s17 : W4.heap.size < W13.heap.size := by rw [e14]; simp
  clear e14
  have h18 := RpR.below (b15.mono (by omega)) h7
  have s19 : W4.heap.size ≤ W13.heap.size := b15.size
  have g20 := bthen g6 b15
  clear h7 g6 b15
  have c21 := k16.cell' (i := 0) rfl
  have c22 := k16.cell' (i := 1) rfl
  have c23 := k16.cell' (i := 2) rfl
  have c24 := k16.cell' (i := 3) rfl
  have c25 := k16.cell' (i := 4) rfl
  have c26 := k16.cell' (i := 5) rfl
  refine (implPreinjectivePencil_any _ _ _ rng_p rng_n).mono ?_; rintro e W27 ⟨r10, rfl, h11, b12⟩
  have h28 := RpR.below (b12.mono (by omega)) h18
  have k29 := k16.call b12
  have s30 : W13.heap.size ≤ W27.heap.size := b12.size
  have g31 := bthen g20 b12
  clear h18 k16 g20 b12 c21 c22 c23 c24 c25 c26
  have c32 := k29.cell' (i := 0) rfl
  have c33 := k29.cell' (i := 1) rfl
  have c34 := k29.cell' (i := 2) rfl
  have c35 := k29.cell' (i := 3) rfl
  have c36 := k29.cell' (i := 4) rfl
  have c37 := k29.cell' (i := 5) rfl
  obtain ⟨Ax38, ax38, Cx38, cx38, Ex38, ex38, Hx38, hx38, e39⟩ := h11.form
  subst e39
  have c41 := fun o => (k29.alloc o).cell' (i := 0) rfl
  have c42 := fun o => (k29.alloc o).cell' (i := 1) rfl
  have c43 := fun o => (k29.alloc o).cell' (i := 2) rfl
  have c44 := fun o => (k29.alloc o).cell' (i := 3) rfl
  have c45 := fun o => (k29.alloc o).cell' (i := 4) rfl
  have c46 := fun o => (k29.alloc o).cell' (i := 5) rfl
  go_wp2_with fail
  obtain ⟨W47, e48⟩ : ∃ W, W = W27.alloc (.cells #[.int .i64 ((preiP p n).1).p, .int .i64 ((preiP p n).1).q.v, .slice Ax38 ((preiP p n).1).q.f.length ax38, .slice Cx38 ((preiP p n).1).q.t.length cx38, .slice Ex38 ((preiP p n).1).d.length ex38, .slice Hx38 ((preiP p n).1).m.length hx38] 40) := ⟨_, rfl⟩
  rw [← e48]
  have b49 : Below W27.heap.size W27 W47 := by rw [e48]; exact below_alloc _ _
  have k50 : Blk W47 W27.heap.size 40 #[.int .i64 ((preiP p n).1).p, .int .i64 ((preiP p n).1).q.v, .slice Ax38 ((preiP p n).1).q.f.length ax38, .slice Cx38 ((preiP p n).1).q.t.length cx38, .slice Ex38 ((preiP p n).1).d.length ex38, .slice Hx38 ((preiP p n).1).m.length hx38] := by rw [e48]; exact Blk.new _ _ _
  have s51 : W27.heap.size < W47.heap.size := by rw [e48]; simp
  clear e48
  have h52 := RpR.below (b49.mono (by omega)) h28
  have h53 := h11.below b49
  have k54 := k29.call b49
  have s55 : W27.heap.size ≤ W47.heap.size := b49.size
  have g56 := bthen g31 b49
  clear h28 h11 k29 g31 b49 c32 c33 c34 c35 c36 c37 c41 c42 c43 c44 c45 c46
  have c57 := k54.cell' (i := 0) rfl
  have c58 := k54.cell' (i := 1) rfl
  have c59 := k54.cell' (i := 2) rfl
  have c60 := k54.cell' (i := 3) rfl
  have c61 := k54.cell' (i := 4) rfl
  have c62 := k54.cell' (i := 5) rfl
  have c63 := k50.cell' (i := 0) rfl
  have c64 := k50.cell' (i := 1) rfl
  have c65 := k50.cell' (i := 2) rfl
  have c66 := k50.cell' (i := 3) rfl
  have c67 := k50.cell' (i := 4) rfl
  have c68 := k50.cell' (i := 5) rfl
  refine (eqRep_any _ _ _ _ _ h53.rd (RpR.more (by omega) h52)).mono ?_; rintro e W69 ⟨rfl, b40⟩
  have h70 := RpR.below (b40.mono (by omega)) h52
  have h71 := h53.below b40
  have k72 := k54.call b40
  have k73 := k50.call b40
  have s74 : W47.heap.size ≤ W69.heap.size := b40.size
  have g75 := bthen g56 b40
  clear h52 h53 k54 k50 g56 b40 c57 c58 c59 c60 c61 c62 c63 c64 c65 c66 c67 c68
  have c76 := k72.cell' (i := 0) rfl
  have c77 := k72.cell' (i := 1) rfl
  have c78 := k72.cell' (i := 2) rfl
  have c79 := k72.cell' (i := 3) rfl
  have c80 := k72.cell' (i := 4) rfl
  have c81 := k72.cell' (i := 5) rfl
  have c82 := k73.cell' (i := 0) rfl
  have c83 := k73.cell' (i := 1) rfl
  have c84 := k73.cell' (i := 2) rfl
  have c85 := k73.cell' (i := 3) rfl
  have c86 := k73.cell' (i := 4) rfl
  have c87 := k73.cell' (i := 5) rfl
  go_wp2_with fail
  refine (rep_mark _ _ _ _ _ _ h71 (by omega) (by omega) (by omega) (by omega)).mono ?_; rintro e W90 ⟨rfl, h88, q89⟩
  have h91 := RpR.chg h70 q89 (by omega) (by omega)
  have k92 := k72.chg q89 (by omega)
  have k93 := k73.chg q89 (by omega)
  have s94 : W69.heap.size ≤ W90.heap.size := q89.size
  have g95 := g75.trans (q89.below (by omega) (by omega))
  clear h70 k72 k73 g75 q89 c76 c77 c78 c79 c80 c81 c82 c83 c84 c85 c86 c87
  have c96 := k92.cell' (i := 0) rfl
  have c97 := k92.cell' (i := 1) rfl
  have c98 := k92.cell' (i := 2) rfl
  have c99 := k92.cell' (i := 3) rfl
  have c100 := k92.cell' (i := 4) rfl
  have c101 := k92.cell' (i := 5) rfl
  have c102 := k93.cell' (i := 0) rfl
  have c103 := k93.cell' (i := 1) rfl
  have c104 := k93.cell' (i := 2) rfl
  have c105 := k93.cell' (i := 3) rfl
  have c106 := k93.cell' (i := 4) rfl
  have c107 := k93.cell' (i := 5) rfl
  clear h71
  go_wp2_with fail
  refine (rep_held _ _ _ _ h88.rd (by omega) (by omega) (by omega)).mono ?_; rintro e W109 ⟨rfl, b108⟩
  have h110 := RpR.below (b108.mono (by omega)) h91
  have h111 := h88.below b108
  have k112 := k92.call b108
  have k113 := k93.call b108
  have s114 : W90.heap.size ≤ W109.heap.size := b108.size
  have g115 := bthen g95 b108
  clear h91 h88 k92 k93 g95 b108 c96 c97 c98 c99 c100 c101 c102 c103 c104 c105 c106 c107
  have c116 := k112.cell' (i := 0) rfl
  have c117 := k112.cell' (i := 1) rfl
  have c118 := k112.cell' (i := 2) rfl
  have c119 := k112.cell' (i := 3) rfl
  have c120 := k112.cell' (i := 4) rfl
  have c121 := k112.cell' (i := 5) rfl
  have c122 := k113.cell' (i := 0) rfl
  have c123 := k113.cell' (i := 1) rfl
  have c124 := k113.cell' (i := 2) rfl
  have c125 := k113.cell' (i := 3) rfl
  have c126 := k113.cell' (i := 4) rfl
  have c127 := k113.cell' (i := 5) rfl
  go_wp2_with fail
  refine (implPreinjectivePencil_any _ _ _ rng_p rng_n).mono ?_; rintro e W131 ⟨r128, rfl, h129, b130⟩
  have h132 := RpR.below (b130.mono (by omega)) h110
  have h133 := h111.below b130
  have k134 := k112.call b130
  have k135 := k113.call b130
  have s136 : W109.heap.size ≤ W131.heap.size := b130.size
  have g137 := bthen g115 b130
  clear h110 h111 k112 k113 g115 b130 c116 c117 c118 c119 c120 c121 c122 c123 c124 c125 c126 c127
  have c138 := k134.cell' (i := 0) rfl
  have c139 := k134.cell' (i := 1) rfl
  have c140 := k134.cell' (i := 2) rfl
  have c141 := k134.cell' (i := 3) rfl
  have c142 := k134.cell' (i := 4) rfl
  have c143 := k134.cell' (i := 5) rfl
  have c144 := k135.cell' (i := 0) rfl
  have c145 := k135.cell' (i := 1) rfl
  have c146 := k135.cell' (i := 2) rfl
  have c147 := k135.cell' (i := 3) rfl
  have c148 := k135.cell' (i := 4) rfl
  have c149 := k135.cell' (i := 5) rfl
  obtain ⟨Ax150, ax150, Cx150, cx150, Ex150, ex150, Hx150, hx150, e151⟩ := h129.form
  subst e151
  have c153 := fun o => (k134.alloc o).cell' (i := 0) rfl
  have c154 := fun o => (k134.alloc o).cell' (i := 1) rfl
  have c155 := fun o => (k134.alloc o).cell' (i := 2) rfl
  have c156 := fun o => (k134.alloc o).cell' (i := 3) rfl
  have c157 := fun o => (k134.alloc o).cell' (i := 4) rfl
  have c158 := fun o => (k134.alloc o).cell' (i := 5) rfl
  have c159 := fun o => (k135.alloc o).cell' (i := 0) rfl
  have c160 := fun o => (k135.alloc o).cell' (i := 1) rfl
  have c161 := fun o => (k135.alloc o).cell' (i := 2) rfl
  have c162 := fun o => (k135.alloc o).cell' (i := 3) rfl
  have c163 := fun o => (k135.alloc o).cell' (i := 4) rfl
  have c164 := fun o => (k135.alloc o).cell' (i := 5) rfl
  go_wp2_with fail
  obtain ⟨W165, e166⟩ : ∃ W, W = W131.alloc (.cells #[.int .i64 ((preiP p n).1).p, .int .i64 ((preiP p n).1).q.v, .slice Ax150 ((preiP p n).1).q.f.length ax150, .slice Cx150 ((preiP p n).1).q.t.length cx150, .slice Ex150 ((preiP p n).1).d.length ex150, .slice Hx150 ((preiP p n).1).m.length hx150] 40) := ⟨_, rfl⟩
  rw [← e166]
  have b167 : Below W131.heap.size W131 W165 := by rw [e166]; exact below_alloc _ _
  have k168 : Blk W165 W131.heap.size 40 #[.int .i64 ((preiP p n).1).p, .int .i64 ((preiP p n).1).q.v, .slice Ax150 ((preiP p n).1).q.f.length ax150, .slice Cx150 ((preiP p n).1).q.t.length cx150, .slice Ex150 ((preiP p n).1).d.length ex150, .slice Hx150 ((preiP p n).1).m.length hx150] := by rw [e166]; exact Blk.new _ _ _
  have s169 : W131.heap.size < W165.heap.size := by rw [e166]; simp
  clear e166
  have h170 := RpR.below (b167.mono (by omega)) h132
  have h171 := h133.below b167
  have h172 := h129.below b167
  have k173 := k134.call b167
  have k174 := k135.call b167
  have s175 : W131.heap.size ≤ W165.heap.size := b167.size
  have g176 := bthen g137 b167
  clear h132 h133 h129 k134 k135 g137 b167 c138 c139 c140 c141 c142 c143 c144 c145 c146 c147 c148 c149 c153 c154 c155 c156 c157 c158 c159 c160 c161 c162 c163 c164
  have c177 := k173.cell' (i := 0) rfl
  have c178 := k173.cell' (i := 1) rfl
  have c179 := k173.cell' (i := 2) rfl
  have c180 := k173.cell' (i := 3) rfl
  have c181 := k173.cell' (i := 4) rfl
  have c182 := k173.cell' (i := 5) rfl
  have c183 := k174.cell' (i := 0) rfl
  have c184 := k174.cell' (i := 1) rfl
  have c185 := k174.cell' (i := 2) rfl
  have c186 := k174.cell' (i := 3) rfl
  have c187 := k174.cell' (i := 4) rfl
  have c188 := k174.cell' (i := 5) rfl
  have c189 := k168.cell' (i := 0) rfl
  have c190 := k168.cell' (i := 1) rfl
  have c191 := k168.cell' (i := 2) rfl
  have c192 := k168.cell' (i := 3) rfl
  have c193 := k168.cell' (i := 4) rfl
  have c194 := k168.cell' (i := 5) rfl
  refine (eqRep_any _ _ _ _ _ h172.rd (RpR.more (by omega) h170)).mono ?_; rintro e W195 ⟨rfl, b152⟩
  have h196 := RpR.below (b152.mono (by omega)) h170
  have h197 := h171.below b152
  have h198 := h172.below b152
  have k199 := k173.call b152
  have k200 := k174.call b152
  have k201 := k168.call b152
  have s202 : W165.heap.size ≤ W195.heap.size := b152.size
  have g203 := bthen g176 b152
  clear h170 h171 h172 k173 k174 k168 g176 b152 c177 c178 c179 c180 c181 c182 c183 c184 c185 c186 c187 c188 c189 c190 c191 c192 c193 c194
  have c204 := k199.cell' (i := 0) rfl
  have c205 := k199.cell' (i := 1) rfl
  have c206 := k199.cell' (i := 2) rfl
  have c207 := k199.cell' (i := 3) rfl
  have c208 := k199.cell' (i := 4) rfl
  have c209 := k199.cell' (i := 5) rfl
  have c210 := k200.cell' (i := 0) rfl
  have c211 := k200.cell' (i := 1) rfl
  have c212 := k200.cell' (i := 2) rfl
  have c213 := k200.cell' (i := 3) rfl
  have c214 := k200.cell' (i := 4) rfl
  have c215 := k200.cell' (i := 5) rfl
  have c216 := k201.cell' (i := 0) rfl
  have c217 := k201.cell' (i := 1) rfl
  have c218 := k201.cell' (i := 2) rfl
  have c219 := k201.cell' (i := 3) rfl
  have c220 := k201.cell' (i := 4) rfl
  have c221 := k201.cell' (i := 5) rfl
  clear h198
  go_wp2_with fail
  refine (rep_held _ _ _ _ h197.rd (by omega) (by omega) (by omega)).mono ?_; rintro e W223 ⟨rfl, b222⟩
  have h224 := RpR.below (b222.mono (by omega)) h196
  have h225 := h197.below b222
  have k226 := k199.call b222
  have k227 := k200.call b222
  have k228 := k201.call b222
  have s229 : W195.heap.size ≤ W223.heap.size := b222.size
  have g230 := bthen g203 b222
  clear h196 h197 k199 k200 k201 g203 b222 c204 c205 c206 c207 c208 c209 c210 c211 c212 c213 c214 c215 c216 c217 c218 c219 c220 c221
  have c231 := k226.cell' (i := 0) rfl
  have c232 := k226.cell' (i := 1) rfl
  have c233 := k226.cell' (i := 2) rfl
  have c234 := k226.cell' (i := 3) rfl
  have c235 := k226.cell' (i := 4) rfl
  have c236 := k226.cell' (i := 5) rfl
  have c237 := k227.cell' (i := 0) rfl
  have c238 := k227.cell' (i := 1) rfl
  have c239 := k227.cell' (i := 2) rfl
  have c240 := k227.cell' (i := 3) rfl
  have c241 := k227.cell' (i := 4) rfl
  have c242 := k227.cell' (i := 5) rfl
  have c243 := k228.cell' (i := 0) rfl
  have c244 := k228.cell' (i := 1) rfl
  have c245 := k228.cell' (i := 2) rfl
  have c246 := k228.cell' (i := 3) rfl
  have c247 := k228.cell' (i := 4) rfl
  have c248 := k228.cell' (i := 5) rfl
  go_wp2
  go_ret
  exact ⟨rfl, g230⟩
end Go.Proofs.Ytbgjhnolnccnnaa
