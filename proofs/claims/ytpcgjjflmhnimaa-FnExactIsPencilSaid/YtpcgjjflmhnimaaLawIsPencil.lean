/- The walk of FnExactIsPencil, printed by program (wip/law.py) out of the contracts of what it calls. -/
import Derived.Test.YtpcgjjflmhnimaaPencil
import Derived.Test.YtpcgjjflmhnimaaKitR2
namespace Go.Proofs.Ytpcgjjflmhnimaa
set_option linter.unusedVariables false
set_option linter.unusedSimpArgs false
open Go.RowKit

set_option maxHeartbeats 1600000 in
set_option maxRecDepth 100000 in
theorem lawIsPencil_any (ux : Value) (x : Rp) (w : World) (hx : RpR w w.heap.size ux x) :
    Calls Try.prog 4 #[ux] w fun e w' => e = .returned (.bool true) ∧ Below w.heap.size w w' := by
  obtain ⟨Aux, aux, Cux, cux, Eux, eux, Hux, hux, ex⟩ := RpR.form hx
  subst ex
  have lx := RpR.lens hx
  have g0 := Below.refl w.heap.size w
  by_cases z0 : (1048576 : Int) < (x.size : Nat)
  · have y0 : szLeft (1048576 : Int) (x.size) = -1 := by rw [szLeft, if_pos z0]
    go_enter Try.func4, Try.ntmps4
    go_wp2_with fail
    obtain ⟨W2, e3⟩ : ∃ W, W = w.alloc (.cells #[.int .i64 (x).p, .int .i64 (x).q.v, .slice Aux (x).q.f.length aux, .slice Cux (x).q.t.length cux, .slice Eux (x).d.length eux, .slice Hux (x).m.length hux] 38) := ⟨_, rfl⟩
    rw [← e3]
    have b4 : Below w.heap.size w W2 := by rw [e3]; exact below_alloc _ _
    have k5 : Blk W2 w.heap.size 38 #[.int .i64 (x).p, .int .i64 (x).q.v, .slice Aux (x).q.f.length aux, .slice Cux (x).q.t.length cux, .slice Eux (x).d.length eux, .slice Hux (x).m.length hux] := by rw [e3]; exact Blk.new _ _ _
    have s6 : w.heap.size < W2.heap.size := k5.lt
    clear e3
    have h7 := RpR.below (b4.mono (by omega)) hx
    have s8 : w.heap.size ≤ W2.heap.size := b4.size
    have g9 := bthen g0 b4
    clear hx g0 b4
    have c10 := k5.cell' (i := 0) rfl
    have c11 := k5.cell' (i := 1) rfl
    have c12 := k5.cell' (i := 2) rfl
    have c13 := k5.cell' (i := 3) rfl
    have c14 := k5.cell' (i := 4) rfl
    have c15 := k5.cell' (i := 5) rfl
    refine (szRep_any _ _ (1048576 : Int) _ (RpR.more (by omega) h7) (by omega) (by omega)).mono ?_; rintro e W16 ⟨rfl, b1⟩
    have h17 := RpR.below (b1.mono (by omega)) h7
    have k18 := k5.call b1
    have s19 : W2.heap.size ≤ W16.heap.size := b1.size
    have g20 := bthen g9 b1
    clear h7 k5 g9 b1 c10 c11 c12 c13 c14 c15
    have c21 := k18.cell' (i := 0) rfl
    have c22 := k18.cell' (i := 1) rfl
    have c23 := k18.cell' (i := 2) rfl
    have c24 := k18.cell' (i := 3) rfl
    have c25 := k18.cell' (i := 4) rfl
    have c26 := k18.cell' (i := 5) rfl
    go_wp2
    go_ret
    exact ⟨rfl, g20⟩
  have y0 : szLeft (1048576 : Int) (x.size) = (1048576 : Int) - (x.size : Nat) := by rw [szLeft, if_neg z0]
  have x0 : ¬ ((1048576 : Int) - ((x.size : Nat) : Int) < 0) := by omega
  go_enter Try.func4, Try.ntmps4
  go_wp2_with fail
  obtain ⟨W28, e29⟩ : ∃ W, W = w.alloc (.cells #[.int .i64 (x).p, .int .i64 (x).q.v, .slice Aux (x).q.f.length aux, .slice Cux (x).q.t.length cux, .slice Eux (x).d.length eux, .slice Hux (x).m.length hux] 38) := ⟨_, rfl⟩
  rw [← e29]
  have b30 : Below w.heap.size w W28 := by rw [e29]; exact below_alloc _ _
  have k31 : Blk W28 w.heap.size 38 #[.int .i64 (x).p, .int .i64 (x).q.v, .slice Aux (x).q.f.length aux, .slice Cux (x).q.t.length cux, .slice Eux (x).d.length eux, .slice Hux (x).m.length hux] := by rw [e29]; exact Blk.new _ _ _
  have s32 : w.heap.size < W28.heap.size := k31.lt
  clear e29
  have h33 := RpR.below (b30.mono (by omega)) hx
  have s34 : w.heap.size ≤ W28.heap.size := b30.size
  have g35 := bthen g0 b30
  clear hx g0 b30
  have c36 := k31.cell' (i := 0) rfl
  have c37 := k31.cell' (i := 1) rfl
  have c38 := k31.cell' (i := 2) rfl
  have c39 := k31.cell' (i := 3) rfl
  have c40 := k31.cell' (i := 4) rfl
  have c41 := k31.cell' (i := 5) rfl
  refine (szRep_any _ _ (1048576 : Int) _ (RpR.more (by omega) h33) (by omega) (by omega)).mono ?_; rintro e W42 ⟨rfl, b27⟩
  have h43 := RpR.below (b27.mono (by omega)) h33
  have k44 := k31.call b27
  have s45 : W28.heap.size ≤ W42.heap.size := b27.size
  have g46 := bthen g35 b27
  clear h33 k31 g35 b27 c36 c37 c38 c39 c40 c41
  have c47 := k44.cell' (i := 0) rfl
  have c48 := k44.cell' (i := 1) rfl
  have c49 := k44.cell' (i := 2) rfl
  have c50 := k44.cell' (i := 3) rfl
  have c51 := k44.cell' (i := 4) rfl
  have c52 := k44.cell' (i := 5) rfl
  go_wp2_with fail
  refine (rep_to _ _ _ (RpR.more (by omega) h43) (by omega)).mono ?_; rintro e W56 ⟨v53, rfl, h54, b55⟩
  have h57 := RpR.below (b55.mono (by omega)) h43
  have k58 := k44.call b55
  have s59 : W42.heap.size ≤ W56.heap.size := b55.size
  have g60 := bthen g46 b55
  clear h43 k44 g46 b55 c47 c48 c49 c50 c51 c52
  have c61 := k58.cell' (i := 0) rfl
  have c62 := k58.cell' (i := 1) rfl
  have c63 := k58.cell' (i := 2) rfl
  have c64 := k58.cell' (i := 3) rfl
  have c65 := k58.cell' (i := 4) rfl
  have c66 := k58.cell' (i := 5) rfl
  go_wp2_with fail
  refine (specIsPencil_any _ _ _ h54.rd).mono ?_; rintro e W68 ⟨rfl, b67⟩
  have h69 := RpR.below (b67.mono (by omega)) h57
  have h70 := h54.below b67
  have k71 := k58.call b67
  have s72 : W56.heap.size ≤ W68.heap.size := b67.size
  have g73 := bthen g60 b67
  clear h57 h54 k58 g60 b67 c61 c62 c63 c64 c65 c66
  have c74 := k71.cell' (i := 0) rfl
  have c75 := k71.cell' (i := 1) rfl
  have c76 := k71.cell' (i := 2) rfl
  have c77 := k71.cell' (i := 3) rfl
  have c78 := k71.cell' (i := 4) rfl
  have c79 := k71.cell' (i := 5) rfl
  clear h70
  go_wp2_with fail
  refine (rep_to _ _ _ (RpR.more (by omega) h69) (by omega)).mono ?_; rintro e W83 ⟨v80, rfl, h81, b82⟩
  have h84 := RpR.below (b82.mono (by omega)) h69
  have k85 := k71.call b82
  have s86 : W68.heap.size ≤ W83.heap.size := b82.size
  have g87 := bthen g73 b82
  clear h69 k71 g73 b82 c74 c75 c76 c77 c78 c79
  have c88 := k85.cell' (i := 0) rfl
  have c89 := k85.cell' (i := 1) rfl
  have c90 := k85.cell' (i := 2) rfl
  have c91 := k85.cell' (i := 3) rfl
  have c92 := k85.cell' (i := 4) rfl
  have c93 := k85.cell' (i := 5) rfl
  obtain ⟨Ax94, ax94, Cx94, cx94, Ex94, ex94, Hx94, hx94, e95⟩ := h81.form
  subst e95
  have c97 := fun o => (k85.alloc o).cell' (i := 0) rfl
  have c98 := fun o => (k85.alloc o).cell' (i := 1) rfl
  have c99 := fun o => (k85.alloc o).cell' (i := 2) rfl
  have c100 := fun o => (k85.alloc o).cell' (i := 3) rfl
  have c101 := fun o => (k85.alloc o).cell' (i := 4) rfl
  have c102 := fun o => (k85.alloc o).cell' (i := 5) rfl
  go_wp2_with fail
  obtain ⟨W103, e104⟩ : ∃ W, W = W83.alloc (.cells #[.int .i64 (x).p, .int .i64 (x).q.v, .slice Ax94 (x).q.f.length ax94, .slice Cx94 (x).q.t.length cx94, .slice Ex94 (x).d.length ex94, .slice Hx94 (x).m.length hx94] 43) := ⟨_, rfl⟩
  rw [← e104]
  have b105 : Below W83.heap.size W83 W103 := by rw [e104]; exact below_alloc _ _
  have k106 : Blk W103 W83.heap.size 43 #[.int .i64 (x).p, .int .i64 (x).q.v, .slice Ax94 (x).q.f.length ax94, .slice Cx94 (x).q.t.length cx94, .slice Ex94 (x).d.length ex94, .slice Hx94 (x).m.length hx94] := by rw [e104]; exact Blk.new _ _ _
  have s107 : W83.heap.size < W103.heap.size := k106.lt
  clear e104
  have h108 := RpR.below (b105.mono (by omega)) h84
  have h109 := h81.below b105
  have k110 := k85.call b105
  have s111 : W83.heap.size ≤ W103.heap.size := b105.size
  have g112 := bthen g87 b105
  clear h84 h81 k85 g87 b105 c88 c89 c90 c91 c92 c93 c97 c98 c99 c100 c101 c102
  have c113 := k110.cell' (i := 0) rfl
  have c114 := k110.cell' (i := 1) rfl
  have c115 := k110.cell' (i := 2) rfl
  have c116 := k110.cell' (i := 3) rfl
  have c117 := k110.cell' (i := 4) rfl
  have c118 := k110.cell' (i := 5) rfl
  have c119 := k106.cell' (i := 0) rfl
  have c120 := k106.cell' (i := 1) rfl
  have c121 := k106.cell' (i := 2) rfl
  have c122 := k106.cell' (i := 3) rfl
  have c123 := k106.cell' (i := 4) rfl
  have c124 := k106.cell' (i := 5) rfl
  refine (implIsPencil_any _ _ _ h109.rd).mono ?_; rintro e W125 ⟨rfl, b96⟩
  have h126 := RpR.below (b96.mono (by omega)) h108
  have h127 := h109.below b96
  have k128 := k110.call b96
  have k129 := k106.call b96
  have s130 : W103.heap.size ≤ W125.heap.size := b96.size
  have g131 := bthen g112 b96
  clear h108 h109 k110 k106 g112 b96 c113 c114 c115 c116 c117 c118 c119 c120 c121 c122 c123 c124
  have c132 := k128.cell' (i := 0) rfl
  have c133 := k128.cell' (i := 1) rfl
  have c134 := k128.cell' (i := 2) rfl
  have c135 := k128.cell' (i := 3) rfl
  have c136 := k128.cell' (i := 4) rfl
  have c137 := k128.cell' (i := 5) rfl
  have c138 := k129.cell' (i := 0) rfl
  have c139 := k129.cell' (i := 1) rfl
  have c140 := k129.cell' (i := 2) rfl
  have c141 := k129.cell' (i := 3) rfl
  have c142 := k129.cell' (i := 4) rfl
  have c143 := k129.cell' (i := 5) rfl
  go_wp2_with fail
  have b144 := drew_below W125
  have h145 := RpR.below (b144.mono (by omega)) h126
  have h146 := h127.below b144
  have k147 := k128.call b144
  have k148 := k129.call b144
  have s149 : W125.heap.size ≤ W125.drew.heap.size := b144.size
  have g150 := bthen g131 b144
  clear h126 h127 k128 k129 g131 b144 c132 c133 c134 c135 c136 c137 c138 c139 c140 c141 c142 c143
  have c151 := k147.cell' (i := 0) rfl
  have c152 := k147.cell' (i := 1) rfl
  have c153 := k147.cell' (i := 2) rfl
  have c154 := k147.cell' (i := 3) rfl
  have c155 := k147.cell' (i := 4) rfl
  have c156 := k147.cell' (i := 5) rfl
  have c157 := k148.cell' (i := 0) rfl
  have c158 := k148.cell' (i := 1) rfl
  have c159 := k148.cell' (i := 2) rfl
  have c160 := k148.cell' (i := 3) rfl
  have c161 := k148.cell' (i := 4) rfl
  have c162 := k148.cell' (i := 5) rfl
  go_region_held3 (fun W' => W'.cell? ⟨w.heap.size, 0, none⟩ = some (.int .i64 (x).p) ∧ W'.cell? ⟨w.heap.size, 1, none⟩ = some (.int .i64 (x).q.v) ∧ W'.cell? ⟨w.heap.size, 2, none⟩ = some (.slice Aux (x).q.f.length aux) ∧ W'.cell? ⟨w.heap.size, 3, none⟩ = some (.slice Cux (x).q.t.length cux) ∧ W'.cell? ⟨w.heap.size, 4, none⟩ = some (.slice Eux (x).d.length eux) ∧ W'.cell? ⟨w.heap.size, 5, none⟩ = some (.slice Hux (x).m.length hux) ∧ W'.cell? ⟨W83.heap.size, 0, none⟩ = some (.int .i64 (x).p) ∧ W'.cell? ⟨W83.heap.size, 1, none⟩ = some (.int .i64 (x).q.v) ∧ W'.cell? ⟨W83.heap.size, 2, none⟩ = some (.slice Ax94 (x).q.f.length ax94) ∧ W'.cell? ⟨W83.heap.size, 3, none⟩ = some (.slice Cx94 (x).q.t.length cx94) ∧ W'.cell? ⟨W83.heap.size, 4, none⟩ = some (.slice Ex94 (x).d.length ex94) ∧ W'.cell? ⟨W83.heap.size, 5, none⟩ = some (.slice Hx94 (x).m.length hx94))
    (first | exact ⟨c151, c152, c153, c154, c155, c156, c157, c158, c159, c160, c161, c162⟩ | exact ⟨c173, c174, c175, c176, c177, c178, c179, c180, c181, c182, c183, c184⟩ | exact ⟨c194, c195, c196, c197, c198, c199, c200, c201, c202, c203, c204, c205⟩)
    (first | (go_at_call 25; refine (rep_to _ _ _ (RpR.more (by omega) h145) (by omega)).mono ?_; rintro e W166 ⟨v163, rfl, h164, b165⟩; have h167 := RpR.below (b165.mono (by omega)) h145; have h168 := h146.below b165; have k169 := k147.call b165; have k170 := k148.call b165; have s171 : W125.drew.heap.size ≤ W166.heap.size := b165.size; have g172 := bthen g150 b165; clear h145 h146 k147 k148 g150 b165 c151 c152 c153 c154 c155 c156 c157 c158 c159 c160 c161 c162; have c173 := k169.cell' (i := 0) rfl; have c174 := k169.cell' (i := 1) rfl; have c175 := k169.cell' (i := 2) rfl; have c176 := k169.cell' (i := 3) rfl; have c177 := k169.cell' (i := 4) rfl; have c178 := k169.cell' (i := 5) rfl; have c179 := k170.cell' (i := 0) rfl; have c180 := k170.cell' (i := 1) rfl; have c181 := k170.cell' (i := 2) rfl; have c182 := k170.cell' (i := 3) rfl; have c183 := k170.cell' (i := 4) rfl; have c184 := k170.cell' (i := 5) rfl) | (go_at_call 27; refine (eqRep_any _ _ _ _ _ h168.rd h164.rd).mono ?_; rintro e W186 ⟨rfl, b185⟩; have h187 := RpR.below (b185.mono (by omega)) h167; have h188 := h168.below b185; have h189 := h164.below b185; have k190 := k169.call b185; have k191 := k170.call b185; have s192 : W166.heap.size ≤ W186.heap.size := b185.size; have g193 := bthen g172 b185; clear h167 h168 h164 k169 k170 g172 b185 c173 c174 c175 c176 c177 c178 c179 c180 c181 c182 c183 c184; have c194 := k190.cell' (i := 0) rfl; have c195 := k190.cell' (i := 1) rfl; have c196 := k190.cell' (i := 2) rfl; have c197 := k190.cell' (i := 3) rfl; have c198 := k190.cell' (i := 4) rfl; have c199 := k190.cell' (i := 5) rfl; have c200 := k191.cell' (i := 0) rfl; have c201 := k191.cell' (i := 1) rfl; have c202 := k191.cell' (i := 2) rfl; have c203 := k191.cell' (i := 3) rfl; have c204 := k191.cell' (i := 4) rfl; have c205 := k191.cell' (i := 5) rfl))
  clear h189
  go_wp2
  go_ret
  exact ⟨rfl, g193⟩
end Go.Proofs.Ytpcgjjflmhnimaa
