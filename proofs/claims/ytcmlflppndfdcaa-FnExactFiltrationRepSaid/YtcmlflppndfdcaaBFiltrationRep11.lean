/- FnExactFiltrationRep: for every argument the program's function returns what the reference's returns. Part 11 of 11 of the proof: LawFiltrationRep, LawFiltrationRepRow. No condition. -/
import Derived.Test.YtcmlflppndfdcaaBFiltrationRep10
/- The walk of FnExactFiltrationRep, printed by program (wip/law.py) out of the contracts of what it calls. -/
namespace Go.Proofs.Ytcmlflppndfdcaa
set_option linter.unusedVariables false
set_option linter.unusedSimpArgs false
open Go.RowKit

set_option maxHeartbeats 1600000 in
set_option maxRecDepth 100000 in
theorem lawFiltrationRep_any (p : Int) (uq : Value) (q : Filt) (w : World) (rng_p : I64 p) (hq : FiR w w.heap.size uq q) :
    Calls Try.prog 6 #[.int .i64 p, uq] w fun e w' => e = .returned (.bool true) ∧ Below w.heap.size w w' := by
  obtain ⟨Auq, cuq, Cuq, duq, eq⟩ := FiR.form hq
  subst eq
  have lq := FiR.lens hq
  have zr := frP_size p q
  have g0 := Below.refl w.heap.size w
  have fzq : q.birth.length + tot q.ends ≤ q.size := by simp only [Filt.size, szSS]; omega
  by_cases z0 : (1048576 : Int) < (q.size : Nat)
  · have y0 : szLeft (1048576 : Int) (q.size) = -1 := by rw [szLeft, if_pos z0]
    go_enter Try.func6, Try.ntmps6
    go_wp2_with fail
    obtain ⟨W2, e3⟩ : ∃ W, W = w.alloc (.cells #[.int .i64 (q).stages, .slice Auq (q).birth.length cuq, .slice Cuq (q).ends.length duq] 53) := ⟨_, rfl⟩
    rw [← e3]
    have b4 : Below w.heap.size w W2 := by rw [e3]; exact below_alloc _ _
    have k5 : Blk W2 w.heap.size 53 #[.int .i64 (q).stages, .slice Auq (q).birth.length cuq, .slice Cuq (q).ends.length duq] := by rw [e3]; exact Blk.new _ _ _
    have s6 : w.heap.size < W2.heap.size := by rw [e3]; simp
    clear e3
    have h7 := FiR.below (b4.mono (by omega)) hq
    have s8 : w.heap.size ≤ W2.heap.size := b4.size
    have g9 := bthen g0 b4
    clear hq g0 b4
    have c10 := k5.cell' (i := 0) rfl
    have c11 := k5.cell' (i := 1) rfl
    have c12 := k5.cell' (i := 2) rfl
    refine (szFiltration_any _ _ (1048576 : Int) _ (FiR.more (by omega) h7) (by omega) (by omega)).mono ?_; rintro e W13 ⟨rfl, b1⟩
    have h14 := FiR.below (b1.mono (by omega)) h7
    have k15 := k5.call b1
    have s16 : W2.heap.size ≤ W13.heap.size := b1.size
    have g17 := bthen g9 b1
    clear h7 k5 g9 b1 c10 c11 c12
    have c18 := k15.cell' (i := 0) rfl
    have c19 := k15.cell' (i := 1) rfl
    have c20 := k15.cell' (i := 2) rfl
    go_wp2
    go_ret
    exact ⟨rfl, g17⟩
  have y0 : szLeft (1048576 : Int) (q.size) = (1048576 : Int) - (q.size : Nat) := by rw [szLeft, if_neg z0]
  have x0 : ¬ ((1048576 : Int) - ((q.size : Nat) : Int) < 0) := by omega
  go_enter Try.func6, Try.ntmps6
  go_wp2_with fail
  obtain ⟨W22, e23⟩ : ∃ W, W = w.alloc (.cells #[.int .i64 (q).stages, .slice Auq (q).birth.length cuq, .slice Cuq (q).ends.length duq] 53) := ⟨_, rfl⟩
  rw [← e23]
  have b24 : Below w.heap.size w W22 := by rw [e23]; exact below_alloc _ _
  have k25 : Blk W22 w.heap.size 53 #[.int .i64 (q).stages, .slice Auq (q).birth.length cuq, .slice Cuq (q).ends.length duq] := by rw [e23]; exact Blk.new _ _ _
  have s26 : w.heap.size < W22.heap.size := by rw [e23]; simp
  clear e23
  have h27 := FiR.below (b24.mono (by omega)) hq
  have s28 : w.heap.size ≤ W22.heap.size := b24.size
  have g29 := bthen g0 b24
  clear hq g0 b24
  have c30 := k25.cell' (i := 0) rfl
  have c31 := k25.cell' (i := 1) rfl
  have c32 := k25.cell' (i := 2) rfl
  refine (szFiltration_any _ _ (1048576 : Int) _ (FiR.more (by omega) h27) (by omega) (by omega)).mono ?_; rintro e W33 ⟨rfl, b21⟩
  have h34 := FiR.below (b21.mono (by omega)) h27
  have k35 := k25.call b21
  have s36 : W22.heap.size ≤ W33.heap.size := b21.size
  have g37 := bthen g29 b21
  clear h27 k25 g29 b21 c30 c31 c32
  have c38 := k35.cell' (i := 0) rfl
  have c39 := k35.cell' (i := 1) rfl
  have c40 := k35.cell' (i := 2) rfl
  go_wp2_with fail
  refine (filt_to _ _ _ (FiR.more (by omega) h34) (by omega)).mono ?_; rintro e W44 ⟨v41, rfl, h42, b43⟩
  have h45 := FiR.below (b43.mono (by omega)) h34
  have k46 := k35.call b43
  have s47 : W33.heap.size ≤ W44.heap.size := b43.size
  have g48 := bthen g37 b43
  clear h34 k35 g37 b43 c38 c39 c40
  have c49 := k46.cell' (i := 0) rfl
  have c50 := k46.cell' (i := 1) rfl
  have c51 := k46.cell' (i := 2) rfl
  go_wp2_with fail
  refine (specFiltrationRep_any _ _ _ _ rng_p h42.rd).mono ?_; rintro e W55 ⟨r52, rfl, h53, b54⟩
  have h56 := FiR.below (b54.mono (by omega)) h45
  have h57 := h42.below b54
  have k58 := k46.call b54
  have s59 : W44.heap.size ≤ W55.heap.size := b54.size
  have g60 := bthen g48 b54
  clear h45 h42 k46 g48 b54 c49 c50 c51
  have c61 := k58.cell' (i := 0) rfl
  have c62 := k58.cell' (i := 1) rfl
  have c63 := k58.cell' (i := 2) rfl
  clear h57
  obtain ⟨Ax64, ax64, Cx64, cx64, Ex64, ex64, Hx64, hx64, e65⟩ := RpR.form h53
  subst e65
  have c69 := fun o => (k58.alloc o).cell' (i := 0) rfl
  have c70 := fun o => (k58.alloc o).cell' (i := 1) rfl
  have c71 := fun o => (k58.alloc o).cell' (i := 2) rfl
  go_wp2_with fail
  obtain ⟨W72, e73⟩ : ∃ W, W = W55.alloc (.cells #[.int .i64 ((frP p q).1).p, .int .i64 ((frP p q).1).q.v, .slice Ax64 ((frP p q).1).q.f.length ax64, .slice Cx64 ((frP p q).1).q.t.length cx64, .slice Ex64 ((frP p q).1).d.length ex64, .slice Hx64 ((frP p q).1).m.length hx64] 31) := ⟨_, rfl⟩
  rw [← e73]
  have b74 : Below W55.heap.size W55 W72 := by rw [e73]; exact below_alloc _ _
  have k75 : Blk W72 W55.heap.size 31 #[.int .i64 ((frP p q).1).p, .int .i64 ((frP p q).1).q.v, .slice Ax64 ((frP p q).1).q.f.length ax64, .slice Cx64 ((frP p q).1).q.t.length cx64, .slice Ex64 ((frP p q).1).d.length ex64, .slice Hx64 ((frP p q).1).m.length hx64] := by rw [e73]; exact Blk.new _ _ _
  have s76 : W55.heap.size < W72.heap.size := by rw [e73]; simp
  clear e73
  have h77 := FiR.below (b74.mono (by omega)) h56
  have h78 := RpR.below (b74.mono (by omega)) h53
  have k79 := k58.call b74
  have s80 : W55.heap.size ≤ W72.heap.size := b74.size
  have g81 := bthen g60 b74
  clear h56 h53 k58 g60 b74 c61 c62 c63 c69 c70 c71
  have c82 := k79.cell' (i := 0) rfl
  have c83 := k79.cell' (i := 1) rfl
  have c84 := k79.cell' (i := 2) rfl
  have c85 := k75.cell' (i := 0) rfl
  have c86 := k75.cell' (i := 1) rfl
  have c87 := k75.cell' (i := 2) rfl
  have c88 := k75.cell' (i := 3) rfl
  have c89 := k75.cell' (i := 4) rfl
  have c90 := k75.cell' (i := 5) rfl
  refine (filt_to _ _ _ (FiR.more (by omega) h77) (by omega)).mono ?_; rintro e W91 ⟨v66, rfl, h67, b68⟩
  have h92 := FiR.below (b68.mono (by omega)) h77
  have h93 := RpR.below (b68.mono (by omega)) h78
  have k94 := k79.call b68
  have k95 := k75.call b68
  have s96 : W72.heap.size ≤ W91.heap.size := b68.size
  have g97 := bthen g81 b68
  clear h77 h78 k79 k75 g81 b68 c82 c83 c84 c85 c86 c87 c88 c89 c90
  have c98 := k94.cell' (i := 0) rfl
  have c99 := k94.cell' (i := 1) rfl
  have c100 := k94.cell' (i := 2) rfl
  have c101 := k95.cell' (i := 0) rfl
  have c102 := k95.cell' (i := 1) rfl
  have c103 := k95.cell' (i := 2) rfl
  have c104 := k95.cell' (i := 3) rfl
  have c105 := k95.cell' (i := 4) rfl
  have c106 := k95.cell' (i := 5) rfl
  obtain ⟨Ax107, cx107, Cx107, dx107, e108⟩ := h67.form
  subst e108
  have c112 := fun o => (k94.alloc o).cell' (i := 0) rfl
  have c113 := fun o => (k94.alloc o).cell' (i := 1) rfl
  have c114 := fun o => (k94.alloc o).cell' (i := 2) rfl
  have c115 := fun o => (k95.alloc o).cell' (i := 0) rfl
  have c116 := fun o => (k95.alloc o).cell' (i := 1) rfl
  have c117 := fun o => (k95.alloc o).cell' (i := 2) rfl
  have c118 := fun o => (k95.alloc o).cell' (i := 3) rfl
  have c119 := fun o => (k95.alloc o).cell' (i := 4) rfl
  have c120 := fun o => (k95.alloc o).cell' (i := 5) rfl
  go_wp2_with fail
  obtain ⟨W121, e122⟩ : ∃ W, W = W91.alloc (.cells #[.int .i64 (q).stages, .slice Ax107 (q).birth.length cx107, .slice Cx107 (q).ends.length dx107] 56) := ⟨_, rfl⟩
  rw [← e122]
  have b123 : Below W91.heap.size W91 W121 := by rw [e122]; exact below_alloc _ _
  have k124 : Blk W121 W91.heap.size 56 #[.int .i64 (q).stages, .slice Ax107 (q).birth.length cx107, .slice Cx107 (q).ends.length dx107] := by rw [e122]; exact Blk.new _ _ _
  have s125 : W91.heap.size < W121.heap.size := by rw [e122]; simp
  clear e122
  have h126 := FiR.below (b123.mono (by omega)) h92
  have h127 := RpR.below (b123.mono (by omega)) h93
  have h128 := h67.below b123
  have k129 := k94.call b123
  have k130 := k95.call b123
  have s131 : W91.heap.size ≤ W121.heap.size := b123.size
  have g132 := bthen g97 b123
  clear h92 h93 h67 k94 k95 g97 b123 c98 c99 c100 c101 c102 c103 c104 c105 c106 c112 c113 c114 c115 c116 c117 c118 c119 c120
  have c133 := k129.cell' (i := 0) rfl
  have c134 := k129.cell' (i := 1) rfl
  have c135 := k129.cell' (i := 2) rfl
  have c136 := k130.cell' (i := 0) rfl
  have c137 := k130.cell' (i := 1) rfl
  have c138 := k130.cell' (i := 2) rfl
  have c139 := k130.cell' (i := 3) rfl
  have c140 := k130.cell' (i := 4) rfl
  have c141 := k130.cell' (i := 5) rfl
  have c142 := k124.cell' (i := 0) rfl
  have c143 := k124.cell' (i := 1) rfl
  have c144 := k124.cell' (i := 2) rfl
  refine (implFiltrationRep_any _ _ _ _ rng_p h128.rd).mono ?_; rintro e W145 ⟨r109, rfl, h110, b111⟩
  have h146 := FiR.below (b111.mono (by omega)) h126
  have h147 := RpR.below (b111.mono (by omega)) h127
  have h148 := h128.below b111
  have k149 := k129.call b111
  have k150 := k130.call b111
  have k151 := k124.call b111
  have s152 : W121.heap.size ≤ W145.heap.size := b111.size
  have g153 := bthen g132 b111
  clear h126 h127 h128 k129 k130 k124 g132 b111 c133 c134 c135 c136 c137 c138 c139 c140 c141 c142 c143 c144
  have c154 := k149.cell' (i := 0) rfl
  have c155 := k149.cell' (i := 1) rfl
  have c156 := k149.cell' (i := 2) rfl
  have c157 := k150.cell' (i := 0) rfl
  have c158 := k150.cell' (i := 1) rfl
  have c159 := k150.cell' (i := 2) rfl
  have c160 := k150.cell' (i := 3) rfl
  have c161 := k150.cell' (i := 4) rfl
  have c162 := k150.cell' (i := 5) rfl
  have c163 := k151.cell' (i := 0) rfl
  have c164 := k151.cell' (i := 1) rfl
  have c165 := k151.cell' (i := 2) rfl
  obtain ⟨Ax166, ax166, Cx166, cx166, Ex166, ex166, Hx166, hx166, e167⟩ := h110.form
  subst e167
  have c169 := fun o => (k149.alloc o).cell' (i := 0) rfl
  have c170 := fun o => (k149.alloc o).cell' (i := 1) rfl
  have c171 := fun o => (k149.alloc o).cell' (i := 2) rfl
  have c172 := fun o => (k150.alloc o).cell' (i := 0) rfl
  have c173 := fun o => (k150.alloc o).cell' (i := 1) rfl
  have c174 := fun o => (k150.alloc o).cell' (i := 2) rfl
  have c175 := fun o => (k150.alloc o).cell' (i := 3) rfl
  have c176 := fun o => (k150.alloc o).cell' (i := 4) rfl
  have c177 := fun o => (k150.alloc o).cell' (i := 5) rfl
  have c178 := fun o => (k151.alloc o).cell' (i := 0) rfl
  have c179 := fun o => (k151.alloc o).cell' (i := 1) rfl
  have c180 := fun o => (k151.alloc o).cell' (i := 2) rfl
  go_wp2_with fail
  obtain ⟨W181, e182⟩ : ∃ W, W = W145.alloc (.cells #[.int .i64 ((frP p q).1).p, .int .i64 ((frP p q).1).q.v, .slice Ax166 ((frP p q).1).q.f.length ax166, .slice Cx166 ((frP p q).1).q.t.length cx166, .slice Ex166 ((frP p q).1).d.length ex166, .slice Hx166 ((frP p q).1).m.length hx166] 31) := ⟨_, rfl⟩
  rw [← e182]
  have b183 : Below W145.heap.size W145 W181 := by rw [e182]; exact below_alloc _ _
  have k184 : Blk W181 W145.heap.size 31 #[.int .i64 ((frP p q).1).p, .int .i64 ((frP p q).1).q.v, .slice Ax166 ((frP p q).1).q.f.length ax166, .slice Cx166 ((frP p q).1).q.t.length cx166, .slice Ex166 ((frP p q).1).d.length ex166, .slice Hx166 ((frP p q).1).m.length hx166] := by rw [e182]; exact Blk.new _ _ _
  have s185 : W145.heap.size < W181.heap.size := by rw [e182]; simp
  clear e182
  have h186 := FiR.below (b183.mono (by omega)) h146
  have h187 := RpR.below (b183.mono (by omega)) h147
  have h188 := h148.below b183
  have h189 := h110.below b183
  have k190 := k149.call b183
  have k191 := k150.call b183
  have k192 := k151.call b183
  have s193 : W145.heap.size ≤ W181.heap.size := b183.size
  have g194 := bthen g153 b183
  clear h146 h147 h148 h110 k149 k150 k151 g153 b183 c154 c155 c156 c157 c158 c159 c160 c161 c162 c163 c164 c165 c169 c170 c171 c172 c173 c174 c175 c176 c177 c178 c179 c180
  have c195 := k190.cell' (i := 0) rfl
  have c196 := k190.cell' (i := 1) rfl
  have c197 := k190.cell' (i := 2) rfl
  have c198 := k191.cell' (i := 0) rfl
  have c199 := k191.cell' (i := 1) rfl
  have c200 := k191.cell' (i := 2) rfl
  have c201 := k191.cell' (i := 3) rfl
  have c202 := k191.cell' (i := 4) rfl
  have c203 := k191.cell' (i := 5) rfl
  have c204 := k192.cell' (i := 0) rfl
  have c205 := k192.cell' (i := 1) rfl
  have c206 := k192.cell' (i := 2) rfl
  have c207 := k184.cell' (i := 0) rfl
  have c208 := k184.cell' (i := 1) rfl
  have c209 := k184.cell' (i := 2) rfl
  have c210 := k184.cell' (i := 3) rfl
  have c211 := k184.cell' (i := 4) rfl
  have c212 := k184.cell' (i := 5) rfl
  refine (eqRep_any _ _ _ _ _ h189.rd (RpR.more (by omega) h187)).mono ?_; rintro e W213 ⟨rfl, b168⟩
  have h214 := FiR.below (b168.mono (by omega)) h186
  have h215 := RpR.below (b168.mono (by omega)) h187
  have h216 := h188.below b168
  have h217 := h189.below b168
  have k218 := k190.call b168
  have k219 := k191.call b168
  have k220 := k192.call b168
  have k221 := k184.call b168
  have s222 : W181.heap.size ≤ W213.heap.size := b168.size
  have g223 := bthen g194 b168
  clear h186 h187 h188 h189 k190 k191 k192 k184 g194 b168 c195 c196 c197 c198 c199 c200 c201 c202 c203 c204 c205 c206 c207 c208 c209 c210 c211 c212
  have c224 := k218.cell' (i := 0) rfl
  have c225 := k218.cell' (i := 1) rfl
  have c226 := k218.cell' (i := 2) rfl
  have c227 := k219.cell' (i := 0) rfl
  have c228 := k219.cell' (i := 1) rfl
  have c229 := k219.cell' (i := 2) rfl
  have c230 := k219.cell' (i := 3) rfl
  have c231 := k219.cell' (i := 4) rfl
  have c232 := k219.cell' (i := 5) rfl
  have c233 := k220.cell' (i := 0) rfl
  have c234 := k220.cell' (i := 1) rfl
  have c235 := k220.cell' (i := 2) rfl
  have c236 := k221.cell' (i := 0) rfl
  have c237 := k221.cell' (i := 1) rfl
  have c238 := k221.cell' (i := 2) rfl
  have c239 := k221.cell' (i := 3) rfl
  have c240 := k221.cell' (i := 4) rfl
  have c241 := k221.cell' (i := 5) rfl
  go_wp2_with fail
  have b242 := drew_below W213
  have h243 := FiR.below (b242.mono (by omega)) h214
  have h244 := RpR.below (b242.mono (by omega)) h215
  have h245 := h216.below b242
  have h246 := h217.below b242
  have k247 := k218.call b242
  have k248 := k219.call b242
  have k249 := k220.call b242
  have k250 := k221.call b242
  have s251 : W213.heap.size ≤ W213.drew.heap.size := b242.size
  have g252 := bthen g223 b242
  clear h214 h215 h216 h217 k218 k219 k220 k221 g223 b242 c224 c225 c226 c227 c228 c229 c230 c231 c232 c233 c234 c235 c236 c237 c238 c239 c240 c241
  have c253 := k247.cell' (i := 0) rfl
  have c254 := k247.cell' (i := 1) rfl
  have c255 := k247.cell' (i := 2) rfl
  have c256 := k248.cell' (i := 0) rfl
  have c257 := k248.cell' (i := 1) rfl
  have c258 := k248.cell' (i := 2) rfl
  have c259 := k248.cell' (i := 3) rfl
  have c260 := k248.cell' (i := 4) rfl
  have c261 := k248.cell' (i := 5) rfl
  have c262 := k249.cell' (i := 0) rfl
  have c263 := k249.cell' (i := 1) rfl
  have c264 := k249.cell' (i := 2) rfl
  have c265 := k250.cell' (i := 0) rfl
  have c266 := k250.cell' (i := 1) rfl
  have c267 := k250.cell' (i := 2) rfl
  have c268 := k250.cell' (i := 3) rfl
  have c269 := k250.cell' (i := 4) rfl
  have c270 := k250.cell' (i := 5) rfl
  go_region_held3 (fun W' => W'.cell? ⟨w.heap.size, 0, none⟩ = some (.int .i64 (q).stages) ∧ W'.cell? ⟨w.heap.size, 1, none⟩ = some (.slice Auq (q).birth.length cuq) ∧ W'.cell? ⟨w.heap.size, 2, none⟩ = some (.slice Cuq (q).ends.length duq) ∧ W'.cell? ⟨W55.heap.size, 0, none⟩ = some (.int .i64 ((frP p q).1).p) ∧ W'.cell? ⟨W55.heap.size, 1, none⟩ = some (.int .i64 ((frP p q).1).q.v) ∧ W'.cell? ⟨W55.heap.size, 2, none⟩ = some (.slice Ax64 ((frP p q).1).q.f.length ax64) ∧ W'.cell? ⟨W55.heap.size, 3, none⟩ = some (.slice Cx64 ((frP p q).1).q.t.length cx64) ∧ W'.cell? ⟨W55.heap.size, 4, none⟩ = some (.slice Ex64 ((frP p q).1).d.length ex64) ∧ W'.cell? ⟨W55.heap.size, 5, none⟩ = some (.slice Hx64 ((frP p q).1).m.length hx64) ∧ W'.cell? ⟨W91.heap.size, 0, none⟩ = some (.int .i64 (q).stages) ∧ W'.cell? ⟨W91.heap.size, 1, none⟩ = some (.slice Ax107 (q).birth.length cx107) ∧ W'.cell? ⟨W91.heap.size, 2, none⟩ = some (.slice Cx107 (q).ends.length dx107) ∧ W'.cell? ⟨W145.heap.size, 0, none⟩ = some (.int .i64 ((frP p q).1).p) ∧ W'.cell? ⟨W145.heap.size, 1, none⟩ = some (.int .i64 ((frP p q).1).q.v) ∧ W'.cell? ⟨W145.heap.size, 2, none⟩ = some (.slice Ax166 ((frP p q).1).q.f.length ax166) ∧ W'.cell? ⟨W145.heap.size, 3, none⟩ = some (.slice Cx166 ((frP p q).1).q.t.length cx166) ∧ W'.cell? ⟨W145.heap.size, 4, none⟩ = some (.slice Ex166 ((frP p q).1).d.length ex166) ∧ W'.cell? ⟨W145.heap.size, 5, none⟩ = some (.slice Hx166 ((frP p q).1).m.length hx166))
    (first | exact ⟨c253, c254, c255, c256, c257, c258, c259, c260, c261, c262, c263, c264, c265, c266, c267, c268, c269, c270⟩ | exact ⟨c285, c286, c287, c288, c289, c290, c291, c292, c293, c294, c295, c296, c297, c298, c299, c300, c301, c302⟩ | exact ⟨c316, c317, c318, c319, c320, c321, c322, c323, c324, c325, c326, c327, c328, c329, c330, c331, c332, c333⟩)
    (first | (go_at_call 28; refine (filt_to _ _ _ (FiR.more (by omega) h243) (by omega)).mono ?_; rintro e W274 ⟨v271, rfl, h272, b273⟩; have h275 := FiR.below (b273.mono (by omega)) h243; have h276 := RpR.below (b273.mono (by omega)) h244; have h277 := h245.below b273; have h278 := h246.below b273; have k279 := k247.call b273; have k280 := k248.call b273; have k281 := k249.call b273; have k282 := k250.call b273; have s283 : W213.drew.heap.size ≤ W274.heap.size := b273.size; have g284 := bthen g252 b273; clear h243 h244 h245 h246 k247 k248 k249 k250 g252 b273 c253 c254 c255 c256 c257 c258 c259 c260 c261 c262 c263 c264 c265 c266 c267 c268 c269 c270; have c285 := k279.cell' (i := 0) rfl; have c286 := k279.cell' (i := 1) rfl; have c287 := k279.cell' (i := 2) rfl; have c288 := k280.cell' (i := 0) rfl; have c289 := k280.cell' (i := 1) rfl; have c290 := k280.cell' (i := 2) rfl; have c291 := k280.cell' (i := 3) rfl; have c292 := k280.cell' (i := 4) rfl; have c293 := k280.cell' (i := 5) rfl; have c294 := k281.cell' (i := 0) rfl; have c295 := k281.cell' (i := 1) rfl; have c296 := k281.cell' (i := 2) rfl; have c297 := k282.cell' (i := 0) rfl; have c298 := k282.cell' (i := 1) rfl; have c299 := k282.cell' (i := 2) rfl; have c300 := k282.cell' (i := 3) rfl; have c301 := k282.cell' (i := 4) rfl; have c302 := k282.cell' (i := 5) rfl) | (go_at_call 30; refine (eqFiltration_any _ _ _ _ _ h277.rd h272.rd).mono ?_; rintro e W304 ⟨rfl, b303⟩; have h305 := FiR.below (b303.mono (by omega)) h275; have h306 := RpR.below (b303.mono (by omega)) h276; have h307 := h277.below b303; have h308 := h278.below b303; have h309 := h272.below b303; have k310 := k279.call b303; have k311 := k280.call b303; have k312 := k281.call b303; have k313 := k282.call b303; have s314 : W274.heap.size ≤ W304.heap.size := b303.size; have g315 := bthen g284 b303; clear h275 h276 h277 h278 h272 k279 k280 k281 k282 g284 b303 c285 c286 c287 c288 c289 c290 c291 c292 c293 c294 c295 c296 c297 c298 c299 c300 c301 c302; have c316 := k310.cell' (i := 0) rfl; have c317 := k310.cell' (i := 1) rfl; have c318 := k310.cell' (i := 2) rfl; have c319 := k311.cell' (i := 0) rfl; have c320 := k311.cell' (i := 1) rfl; have c321 := k311.cell' (i := 2) rfl; have c322 := k311.cell' (i := 3) rfl; have c323 := k311.cell' (i := 4) rfl; have c324 := k311.cell' (i := 5) rfl; have c325 := k312.cell' (i := 0) rfl; have c326 := k312.cell' (i := 1) rfl; have c327 := k312.cell' (i := 2) rfl; have c328 := k313.cell' (i := 0) rfl; have c329 := k313.cell' (i := 1) rfl; have c330 := k313.cell' (i := 2) rfl; have c331 := k313.cell' (i := 3) rfl; have c332 := k313.cell' (i := 4) rfl; have c333 := k313.cell' (i := 5) rfl))
  clear h309
  go_wp2_with fail
  refine (filt_mark _ _ _ _ _ _ h307 (by omega) (by omega) (by omega) (by omega)).mono ?_; rintro e W336 ⟨rfl, h334, q335⟩
  have h337 := FiR.chg h305 q335 (by omega) (by omega)
  have h338 := RpR.chg h306 q335 (by omega) (by omega)
  have h339 := h308.chg q335 (by omega)
  have k340 := k310.chg q335 (by omega)
  have k341 := k311.chg q335 (by omega)
  have k342 := k312.chg q335 (by omega)
  have k343 := k313.chg q335 (by omega)
  have s344 : W304.heap.size ≤ W336.heap.size := q335.size
  have g345 := g315.trans (q335.below (by omega) (by omega))
  clear h305 h306 h308 k310 k311 k312 k313 g315 q335 c316 c317 c318 c319 c320 c321 c322 c323 c324 c325 c326 c327 c328 c329 c330 c331 c332 c333
  have c346 := k340.cell' (i := 0) rfl
  have c347 := k340.cell' (i := 1) rfl
  have c348 := k340.cell' (i := 2) rfl
  have c349 := k341.cell' (i := 0) rfl
  have c350 := k341.cell' (i := 1) rfl
  have c351 := k341.cell' (i := 2) rfl
  have c352 := k341.cell' (i := 3) rfl
  have c353 := k341.cell' (i := 4) rfl
  have c354 := k341.cell' (i := 5) rfl
  have c355 := k342.cell' (i := 0) rfl
  have c356 := k342.cell' (i := 1) rfl
  have c357 := k342.cell' (i := 2) rfl
  have c358 := k343.cell' (i := 0) rfl
  have c359 := k343.cell' (i := 1) rfl
  have c360 := k343.cell' (i := 2) rfl
  have c361 := k343.cell' (i := 3) rfl
  have c362 := k343.cell' (i := 4) rfl
  have c363 := k343.cell' (i := 5) rfl
  clear h307
  go_wp2_with fail
  refine (eqRep_any _ _ _ _ _ h339.rd (RpR.more (by omega) h338)).mono ?_; rintro e W365 ⟨rfl, b364⟩
  have h366 := FiR.below (b364.mono (by omega)) h337
  have h367 := RpR.below (b364.mono (by omega)) h338
  have h368 := h334.below b364
  have h369 := h339.below b364
  have k370 := k340.call b364
  have k371 := k341.call b364
  have k372 := k342.call b364
  have k373 := k343.call b364
  have s374 : W336.heap.size ≤ W365.heap.size := b364.size
  have g375 := bthen g345 b364
  clear h337 h338 h334 h339 k340 k341 k342 k343 g345 b364 c346 c347 c348 c349 c350 c351 c352 c353 c354 c355 c356 c357 c358 c359 c360 c361 c362 c363
  have c376 := k370.cell' (i := 0) rfl
  have c377 := k370.cell' (i := 1) rfl
  have c378 := k370.cell' (i := 2) rfl
  have c379 := k371.cell' (i := 0) rfl
  have c380 := k371.cell' (i := 1) rfl
  have c381 := k371.cell' (i := 2) rfl
  have c382 := k371.cell' (i := 3) rfl
  have c383 := k371.cell' (i := 4) rfl
  have c384 := k371.cell' (i := 5) rfl
  have c385 := k372.cell' (i := 0) rfl
  have c386 := k372.cell' (i := 1) rfl
  have c387 := k372.cell' (i := 2) rfl
  have c388 := k373.cell' (i := 0) rfl
  have c389 := k373.cell' (i := 1) rfl
  have c390 := k373.cell' (i := 2) rfl
  have c391 := k373.cell' (i := 3) rfl
  have c392 := k373.cell' (i := 4) rfl
  have c393 := k373.cell' (i := 5) rfl
  clear h368
  go_wp2_with fail
  refine (rep_mark _ _ _ _ _ _ h369 (by omega) (by omega) (by omega) (by omega)).mono ?_; rintro e W396 ⟨rfl, h394, q395⟩
  have h397 := FiR.chg h366 q395 (by omega) (by omega)
  have h398 := RpR.chg h367 q395 (by omega) (by omega)
  have k399 := k370.chg q395 (by omega)
  have k400 := k371.chg q395 (by omega)
  have k401 := k372.chg q395 (by omega)
  have k402 := k373.chg q395 (by omega)
  have s403 : W365.heap.size ≤ W396.heap.size := q395.size
  have g404 := g375.trans (q395.below (by omega) (by omega))
  clear h366 h367 k370 k371 k372 k373 g375 q395 c376 c377 c378 c379 c380 c381 c382 c383 c384 c385 c386 c387 c388 c389 c390 c391 c392 c393
  have c405 := k399.cell' (i := 0) rfl
  have c406 := k399.cell' (i := 1) rfl
  have c407 := k399.cell' (i := 2) rfl
  have c408 := k400.cell' (i := 0) rfl
  have c409 := k400.cell' (i := 1) rfl
  have c410 := k400.cell' (i := 2) rfl
  have c411 := k400.cell' (i := 3) rfl
  have c412 := k400.cell' (i := 4) rfl
  have c413 := k400.cell' (i := 5) rfl
  have c414 := k401.cell' (i := 0) rfl
  have c415 := k401.cell' (i := 1) rfl
  have c416 := k401.cell' (i := 2) rfl
  have c417 := k402.cell' (i := 0) rfl
  have c418 := k402.cell' (i := 1) rfl
  have c419 := k402.cell' (i := 2) rfl
  have c420 := k402.cell' (i := 3) rfl
  have c421 := k402.cell' (i := 4) rfl
  have c422 := k402.cell' (i := 5) rfl
  clear h369
  go_wp2_with fail
  refine (rep_held _ _ _ _ h394.rd (by omega) (by omega) (by omega)).mono ?_; rintro e W424 ⟨rfl, b423⟩
  have h425 := FiR.below (b423.mono (by omega)) h397
  have h426 := RpR.below (b423.mono (by omega)) h398
  have h427 := h394.below b423
  have k428 := k399.call b423
  have k429 := k400.call b423
  have k430 := k401.call b423
  have k431 := k402.call b423
  have s432 : W396.heap.size ≤ W424.heap.size := b423.size
  have g433 := bthen g404 b423
  clear h397 h398 h394 k399 k400 k401 k402 g404 b423 c405 c406 c407 c408 c409 c410 c411 c412 c413 c414 c415 c416 c417 c418 c419 c420 c421 c422
  have c434 := k428.cell' (i := 0) rfl
  have c435 := k428.cell' (i := 1) rfl
  have c436 := k428.cell' (i := 2) rfl
  have c437 := k429.cell' (i := 0) rfl
  have c438 := k429.cell' (i := 1) rfl
  have c439 := k429.cell' (i := 2) rfl
  have c440 := k429.cell' (i := 3) rfl
  have c441 := k429.cell' (i := 4) rfl
  have c442 := k429.cell' (i := 5) rfl
  have c443 := k430.cell' (i := 0) rfl
  have c444 := k430.cell' (i := 1) rfl
  have c445 := k430.cell' (i := 2) rfl
  have c446 := k431.cell' (i := 0) rfl
  have c447 := k431.cell' (i := 1) rfl
  have c448 := k431.cell' (i := 2) rfl
  have c449 := k431.cell' (i := 3) rfl
  have c450 := k431.cell' (i := 4) rfl
  have c451 := k431.cell' (i := 5) rfl
  go_wp2_with fail
  refine (filt_to _ _ _ (FiR.more (by omega) h425) (by omega)).mono ?_; rintro e W455 ⟨v452, rfl, h453, b454⟩
  have h456 := FiR.below (b454.mono (by omega)) h425
  have h457 := RpR.below (b454.mono (by omega)) h426
  have h458 := h427.below b454
  have k459 := k428.call b454
  have k460 := k429.call b454
  have k461 := k430.call b454
  have k462 := k431.call b454
  have s463 : W424.heap.size ≤ W455.heap.size := b454.size
  have g464 := bthen g433 b454
  clear h425 h426 h427 k428 k429 k430 k431 g433 b454 c434 c435 c436 c437 c438 c439 c440 c441 c442 c443 c444 c445 c446 c447 c448 c449 c450 c451
  have c465 := k459.cell' (i := 0) rfl
  have c466 := k459.cell' (i := 1) rfl
  have c467 := k459.cell' (i := 2) rfl
  have c468 := k460.cell' (i := 0) rfl
  have c469 := k460.cell' (i := 1) rfl
  have c470 := k460.cell' (i := 2) rfl
  have c471 := k460.cell' (i := 3) rfl
  have c472 := k460.cell' (i := 4) rfl
  have c473 := k460.cell' (i := 5) rfl
  have c474 := k461.cell' (i := 0) rfl
  have c475 := k461.cell' (i := 1) rfl
  have c476 := k461.cell' (i := 2) rfl
  have c477 := k462.cell' (i := 0) rfl
  have c478 := k462.cell' (i := 1) rfl
  have c479 := k462.cell' (i := 2) rfl
  have c480 := k462.cell' (i := 3) rfl
  have c481 := k462.cell' (i := 4) rfl
  have c482 := k462.cell' (i := 5) rfl
  go_wp2_with fail
  refine (implFiltrationRep_any _ _ _ _ rng_p h453.rd).mono ?_; rintro e W486 ⟨r483, rfl, h484, b485⟩
  have h487 := FiR.below (b485.mono (by omega)) h456
  have h488 := RpR.below (b485.mono (by omega)) h457
  have h489 := h458.below b485
  have h490 := h453.below b485
  have k491 := k459.call b485
  have k492 := k460.call b485
  have k493 := k461.call b485
  have k494 := k462.call b485
  have s495 : W455.heap.size ≤ W486.heap.size := b485.size
  have g496 := bthen g464 b485
  clear h456 h457 h458 h453 k459 k460 k461 k462 g464 b485 c465 c466 c467 c468 c469 c470 c471 c472 c473 c474 c475 c476 c477 c478 c479 c480 c481 c482
  have c497 := k491.cell' (i := 0) rfl
  have c498 := k491.cell' (i := 1) rfl
  have c499 := k491.cell' (i := 2) rfl
  have c500 := k492.cell' (i := 0) rfl
  have c501 := k492.cell' (i := 1) rfl
  have c502 := k492.cell' (i := 2) rfl
  have c503 := k492.cell' (i := 3) rfl
  have c504 := k492.cell' (i := 4) rfl
  have c505 := k492.cell' (i := 5) rfl
  have c506 := k493.cell' (i := 0) rfl
  have c507 := k493.cell' (i := 1) rfl
  have c508 := k493.cell' (i := 2) rfl
  have c509 := k494.cell' (i := 0) rfl
  have c510 := k494.cell' (i := 1) rfl
  have c511 := k494.cell' (i := 2) rfl
  have c512 := k494.cell' (i := 3) rfl
  have c513 := k494.cell' (i := 4) rfl
  have c514 := k494.cell' (i := 5) rfl
  clear h490
  obtain ⟨Ax515, ax515, Cx515, cx515, Ex515, ex515, Hx515, hx515, e516⟩ := h484.form
  subst e516
  have c518 := fun o => (k491.alloc o).cell' (i := 0) rfl
  have c519 := fun o => (k491.alloc o).cell' (i := 1) rfl
  have c520 := fun o => (k491.alloc o).cell' (i := 2) rfl
  have c521 := fun o => (k492.alloc o).cell' (i := 0) rfl
  have c522 := fun o => (k492.alloc o).cell' (i := 1) rfl
  have c523 := fun o => (k492.alloc o).cell' (i := 2) rfl
  have c524 := fun o => (k492.alloc o).cell' (i := 3) rfl
  have c525 := fun o => (k492.alloc o).cell' (i := 4) rfl
  have c526 := fun o => (k492.alloc o).cell' (i := 5) rfl
  have c527 := fun o => (k493.alloc o).cell' (i := 0) rfl
  have c528 := fun o => (k493.alloc o).cell' (i := 1) rfl
  have c529 := fun o => (k493.alloc o).cell' (i := 2) rfl
  have c530 := fun o => (k494.alloc o).cell' (i := 0) rfl
  have c531 := fun o => (k494.alloc o).cell' (i := 1) rfl
  have c532 := fun o => (k494.alloc o).cell' (i := 2) rfl
  have c533 := fun o => (k494.alloc o).cell' (i := 3) rfl
  have c534 := fun o => (k494.alloc o).cell' (i := 4) rfl
  have c535 := fun o => (k494.alloc o).cell' (i := 5) rfl
  go_wp2_with fail
  obtain ⟨W536, e537⟩ : ∃ W, W = W486.alloc (.cells #[.int .i64 ((frP p q).1).p, .int .i64 ((frP p q).1).q.v, .slice Ax515 ((frP p q).1).q.f.length ax515, .slice Cx515 ((frP p q).1).q.t.length cx515, .slice Ex515 ((frP p q).1).d.length ex515, .slice Hx515 ((frP p q).1).m.length hx515] 31) := ⟨_, rfl⟩
  rw [← e537]
  have b538 : Below W486.heap.size W486 W536 := by rw [e537]; exact below_alloc _ _
  have k539 : Blk W536 W486.heap.size 31 #[.int .i64 ((frP p q).1).p, .int .i64 ((frP p q).1).q.v, .slice Ax515 ((frP p q).1).q.f.length ax515, .slice Cx515 ((frP p q).1).q.t.length cx515, .slice Ex515 ((frP p q).1).d.length ex515, .slice Hx515 ((frP p q).1).m.length hx515] := by rw [e537]; exact Blk.new _ _ _
  have s540 : W486.heap.size < W536.heap.size := by rw [e537]; simp
  clear e537
  have h541 := FiR.below (b538.mono (by omega)) h487
  have h542 := RpR.below (b538.mono (by omega)) h488
  have h543 := h489.below b538
  have h544 := h484.below b538
  have k545 := k491.call b538
  have k546 := k492.call b538
  have k547 := k493.call b538
  have k548 := k494.call b538
  have s549 : W486.heap.size ≤ W536.heap.size := b538.size
  have g550 := bthen g496 b538
  clear h487 h488 h489 h484 k491 k492 k493 k494 g496 b538 c497 c498 c499 c500 c501 c502 c503 c504 c505 c506 c507 c508 c509 c510 c511 c512 c513 c514 c518 c519 c520 c521 c522 c523 c524 c525 c526 c527 c528 c529 c530 c531 c532 c533 c534 c535
  have c551 := k545.cell' (i := 0) rfl
  have c552 := k545.cell' (i := 1) rfl
  have c553 := k545.cell' (i := 2) rfl
  have c554 := k546.cell' (i := 0) rfl
  have c555 := k546.cell' (i := 1) rfl
  have c556 := k546.cell' (i := 2) rfl
  have c557 := k546.cell' (i := 3) rfl
  have c558 := k546.cell' (i := 4) rfl
  have c559 := k546.cell' (i := 5) rfl
  have c560 := k547.cell' (i := 0) rfl
  have c561 := k547.cell' (i := 1) rfl
  have c562 := k547.cell' (i := 2) rfl
  have c563 := k548.cell' (i := 0) rfl
  have c564 := k548.cell' (i := 1) rfl
  have c565 := k548.cell' (i := 2) rfl
  have c566 := k548.cell' (i := 3) rfl
  have c567 := k548.cell' (i := 4) rfl
  have c568 := k548.cell' (i := 5) rfl
  have c569 := k539.cell' (i := 0) rfl
  have c570 := k539.cell' (i := 1) rfl
  have c571 := k539.cell' (i := 2) rfl
  have c572 := k539.cell' (i := 3) rfl
  have c573 := k539.cell' (i := 4) rfl
  have c574 := k539.cell' (i := 5) rfl
  refine (eqRep_any _ _ _ _ _ h544.rd (RpR.more (by omega) h542)).mono ?_; rintro e W575 ⟨rfl, b517⟩
  have h576 := FiR.below (b517.mono (by omega)) h541
  have h577 := RpR.below (b517.mono (by omega)) h542
  have h578 := h543.below b517
  have h579 := h544.below b517
  have k580 := k545.call b517
  have k581 := k546.call b517
  have k582 := k547.call b517
  have k583 := k548.call b517
  have k584 := k539.call b517
  have s585 : W536.heap.size ≤ W575.heap.size := b517.size
  have g586 := bthen g550 b517
  clear h541 h542 h543 h544 k545 k546 k547 k548 k539 g550 b517 c551 c552 c553 c554 c555 c556 c557 c558 c559 c560 c561 c562 c563 c564 c565 c566 c567 c568 c569 c570 c571 c572 c573 c574
  have c587 := k580.cell' (i := 0) rfl
  have c588 := k580.cell' (i := 1) rfl
  have c589 := k580.cell' (i := 2) rfl
  have c590 := k581.cell' (i := 0) rfl
  have c591 := k581.cell' (i := 1) rfl
  have c592 := k581.cell' (i := 2) rfl
  have c593 := k581.cell' (i := 3) rfl
  have c594 := k581.cell' (i := 4) rfl
  have c595 := k581.cell' (i := 5) rfl
  have c596 := k582.cell' (i := 0) rfl
  have c597 := k582.cell' (i := 1) rfl
  have c598 := k582.cell' (i := 2) rfl
  have c599 := k583.cell' (i := 0) rfl
  have c600 := k583.cell' (i := 1) rfl
  have c601 := k583.cell' (i := 2) rfl
  have c602 := k583.cell' (i := 3) rfl
  have c603 := k583.cell' (i := 4) rfl
  have c604 := k583.cell' (i := 5) rfl
  have c605 := k584.cell' (i := 0) rfl
  have c606 := k584.cell' (i := 1) rfl
  have c607 := k584.cell' (i := 2) rfl
  have c608 := k584.cell' (i := 3) rfl
  have c609 := k584.cell' (i := 4) rfl
  have c610 := k584.cell' (i := 5) rfl
  clear h579
  go_wp2_with fail
  refine (rep_held _ _ _ _ h578.rd (by omega) (by omega) (by omega)).mono ?_; rintro e W612 ⟨rfl, b611⟩
  have h613 := FiR.below (b611.mono (by omega)) h576
  have h614 := RpR.below (b611.mono (by omega)) h577
  have h615 := h578.below b611
  have k616 := k580.call b611
  have k617 := k581.call b611
  have k618 := k582.call b611
  have k619 := k583.call b611
  have k620 := k584.call b611
  have s621 : W575.heap.size ≤ W612.heap.size := b611.size
  have g622 := bthen g586 b611
  clear h576 h577 h578 k580 k581 k582 k583 k584 g586 b611 c587 c588 c589 c590 c591 c592 c593 c594 c595 c596 c597 c598 c599 c600 c601 c602 c603 c604 c605 c606 c607 c608 c609 c610
  have c623 := k616.cell' (i := 0) rfl
  have c624 := k616.cell' (i := 1) rfl
  have c625 := k616.cell' (i := 2) rfl
  have c626 := k617.cell' (i := 0) rfl
  have c627 := k617.cell' (i := 1) rfl
  have c628 := k617.cell' (i := 2) rfl
  have c629 := k617.cell' (i := 3) rfl
  have c630 := k617.cell' (i := 4) rfl
  have c631 := k617.cell' (i := 5) rfl
  have c632 := k618.cell' (i := 0) rfl
  have c633 := k618.cell' (i := 1) rfl
  have c634 := k618.cell' (i := 2) rfl
  have c635 := k619.cell' (i := 0) rfl
  have c636 := k619.cell' (i := 1) rfl
  have c637 := k619.cell' (i := 2) rfl
  have c638 := k619.cell' (i := 3) rfl
  have c639 := k619.cell' (i := 4) rfl
  have c640 := k619.cell' (i := 5) rfl
  have c641 := k620.cell' (i := 0) rfl
  have c642 := k620.cell' (i := 1) rfl
  have c643 := k620.cell' (i := 2) rfl
  have c644 := k620.cell' (i := 3) rfl
  have c645 := k620.cell' (i := 4) rfl
  have c646 := k620.cell' (i := 5) rfl
  go_wp2
  go_ret
  exact ⟨rfl, g622⟩
end Go.Proofs.Ytcmlflppndfdcaa

/- FnExactFiltrationRep is proved: for every argument the program's FiltrationRep returns what the reference's returns, leaves its arguments as they were, and returns memory of its own. No condition. -/
namespace Go.Proofs.Ytcmlflppndfdcaa
set_option linter.unusedVariables false
set_option linter.unusedSimpArgs false
open Go.RowKit Go.ChangeShapes Go.WideShapes Go.ChangeAt Go.Deep

set_option maxRecDepth 100000 in
theorem filtrationRep_lifted (os : Os) (started : os.Started) (H : Type) (enc : TypeId × Value → H) :
    ReturnsInHanded {} Try.checked os 6 .any (Rows.fnExactFiltrationRepSpec.pre6 enc Try.prog Try.f6 Rows.fnExactFiltrationRepRow.domain false) (Rows.fnExactFiltrationRepSpec.post enc Try.prog Try.f6 false true false false) := by
  refine lift_law started (by kernel_rfl) Try.func6 (ChangeSpec.witness6 (enc := enc) (C := Try.checked) false ⟨#[], #[.int .i64 0, .agg #[.int .i64 0, .slice none 0 0, .slice none 0 0]], []⟩ 8 (by kernel_rfl) (by kernel_rfl) (by kernel_rfl) (by kernel_rfl))
    rfl rfl (by rw [Try.params6]; intro t ht; simp only [List.mem_cons, List.not_mem_nil, or_false] at ht; rcases ht with rfl | rfl <;> exact ⟨by kernel_rfl, of_decide_eq_true (by kernel_rfl)⟩) (fun ds hl => by rw [Try.params6] at hl; match ds, hl with | [_, _], _ => rfl) ?_
  intro W args ds ps base hval hA hwt
  rw [Try.params6] at hA hval hwt
  obtain ⟨v0, v1, d0, d1, p0, p1, hargs, rfl, rfl, h0, h1⟩ := trodAll_two hA
  obtain rfl : args = #[v0, v1] := by cases args; simp_all
  obtain ⟨x0, rfl, r0⟩ := argInt (hval 0 _ _ rfl rfl) h0
  obtain ⟨x1, r1⟩ := argFilt (hval 1 _ _ rfl rfl) h1 (hwt 1 _ _ rfl rfl)
  exact lawFiltrationRep_any _ _ _ W r0 r1

theorem filtrationRep_closed : joinedFacts Try.prog 6 Try.f6 Rows.fnExactFiltrationRepSpec Rows.fnExactFiltrationRepRow = true := by
  unfold joinedFacts
  refine band (band (band (band (band (band (band ?_ seatEnter) seatLifts) seatMake) ?_) ?_) ?_) ?_ <;> kernel_rfl

theorem filtrationRep_holds : Rows.FnExactFiltrationRepSaid :=
  OpenClaim.holds_of_wide 6 Try.f6 rfl rfl rfl rfl rfl rfl rfl ⟨rfl, rfl, rfl, rfl, rfl⟩ rfl rfl rfl rfl rfl (by kernel_rfl) Try.func6 filtrationRep_closed
    (of_decide_eq_true (by kernel_rfl)) (by unfold Func.isWrapper; first | (rw [if_pos (by decide +kernel)]; kernel_rfl) | (rw [if_neg (by decide +kernel)]; exact ⟨rfl, rfl⟩))
    (fun os started H enc _ => filtrationRep_lifted os started H enc)
#print axioms filtrationRep_holds
end Go.Proofs.Ytcmlflppndfdcaa
