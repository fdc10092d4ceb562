/- The walk of FnExactPencilOf, printed by program (wip/law.py) out of the contracts of what it calls. -/
import Derived.Test.YtpcgjjflmhnimaaPenSz
import Derived.Test.YtpcgjjflmhnimaaNet2
import Derived.Test.YtpcgjjflmhnimaaKitR2
namespace Go.Proofs.Ytpcgjjflmhnimaa
set_option linter.unusedVariables false
set_option linter.unusedSimpArgs false
open Go.RowKit

set_option maxHeartbeats 1600000 in
set_option maxRecDepth 100000 in
theorem lawPencilOf_any (p : Int) (uma : Value) (ma : Mx) (umb : Value) (mb : Mx) (w0 : World) (rng_p : I64 p) (hma : MxR w0 w0.heap.size uma ma) (hmb : MxR w0 w0.heap.size umb mb) :
    Calls Try.prog 7 #[.int .i64 p, uma, umb] w0 fun e w' => e = .returned (.bool true) ∧ Below w0.heap.size w0 w' := by
  obtain ⟨Auma, cuma, ema⟩ := MxR.form hma
  subst ema
  have lma := MxR.lens hma
  obtain ⟨Aumb, cumb, emb⟩ := MxR.form hmb
  subst emb
  have lmb := MxR.lens hmb
  have zr := penOf_size p ma mb
  have g0 := Below.refl w0.heap.size w0
  by_cases z0 : (1048576 : Int) < (ma.size : Nat)
  · have y0 : szLeft (1048576 : Int) (ma.size) = -1 := by rw [szLeft, if_pos z0]
    go_enter Try.func7, Try.ntmps7
    go_wp2_with fail
    obtain ⟨W102, e103⟩ : ∃ W, W = w0.alloc (.cells #[.int .i64 (ma).r, .int .i64 (ma).c, .slice Auma (ma).a.length cuma] 53) := ⟨_, rfl⟩
    rw [← e103]
    have b104 : Below w0.heap.size w0 W102 := by rw [e103]; exact below_alloc _ _
    have k105 : Blk W102 w0.heap.size 53 #[.int .i64 (ma).r, .int .i64 (ma).c, .slice Auma (ma).a.length cuma] := by rw [e103]; exact Blk.new _ _ _
    have s106 : w0.heap.size < W102.heap.size := by rw [e103]; simp
    have z107 := Lib.hid (show W102.heap.size = w0.heap.size + 1 by rw [e103]; simp)
    clear e103
    have h108 := MxR.below (b104.mono (by omega)) hma
    have h109 := MxR.below (b104.mono (by omega)) hmb
    have s110 : w0.heap.size ≤ W102.heap.size := b104.size
    have g111 := bthen g0 b104
    clear hma hmb g0 b104
    have c112 := k105.cell' (i := 0) rfl
    have c113 := k105.cell' (i := 1) rfl
    have c114 := k105.cell' (i := 2) rfl
    obtain ⟨W115, e116⟩ : ∃ W, W = W102.alloc (.cells #[.int .i64 (mb).r, .int .i64 (mb).c, .slice Aumb (mb).a.length cumb] 53) := ⟨_, rfl⟩
    rw [← e116]
    have b117 : Below W102.heap.size W102 W115 := by rw [e116]; exact below_alloc _ _
    have k118 : Blk W115 (w0.heap.size + 1) 53 #[.int .i64 (mb).r, .int .i64 (mb).c, .slice Aumb (mb).a.length cumb] := by rw [e116, ← z107.out]; exact Blk.new _ _ _
    have s119 : W102.heap.size < W115.heap.size := by rw [e116]; simp
    have z120 := Lib.hid (show W115.heap.size = w0.heap.size + 1 + 1 by rw [e116]; simp; exact z107.out)
    clear e116
    have h121 := MxR.below (b117.mono (by omega)) h108
    have h122 := MxR.below (b117.mono (by omega)) h109
    have k123 := k105.call b117
    have s124 : W102.heap.size ≤ W115.heap.size := b117.size
    have g125 := bthen g111 b117
    clear h108 h109 k105 g111 b117 c112 c113 c114
    have c126 := k123.cell' (i := 0) rfl
    have c127 := k123.cell' (i := 1) rfl
    have c128 := k123.cell' (i := 2) rfl
    have c129 := k118.cell' (i := 0) rfl
    have c130 := k118.cell' (i := 1) rfl
    have c131 := k118.cell' (i := 2) rfl
    refine (szMatrix_any _ _ (1048576 : Int) _ (MxR.more (by omega) h121) (by omega) (by omega)).mono ?_; rintro e W132 ⟨rfl, b101⟩
    have h133 := MxR.below (b101.mono (by omega)) h121
    have h134 := MxR.below (b101.mono (by omega)) h122
    have k135 := k123.call b101
    have k136 := k118.call b101
    have s137 : W115.heap.size ≤ W132.heap.size := b101.size
    have g138 := bthen g125 b101
    clear h121 h122 k123 k118 g125 b101 c126 c127 c128 c129 c130 c131
    have c139 := k135.cell' (i := 0) rfl
    have c140 := k135.cell' (i := 1) rfl
    have c141 := k135.cell' (i := 2) rfl
    have c142 := k136.cell' (i := 0) rfl
    have c143 := k136.cell' (i := 1) rfl
    have c144 := k136.cell' (i := 2) rfl
    go_wp2
    go_ret
    exact ⟨rfl, g138⟩
  have y0 : szLeft (1048576 : Int) (ma.size) = (1048576 : Int) - (ma.size : Nat) := by rw [szLeft, if_neg z0]
  have x0 : ¬ ((1048576 : Int) - ((ma.size : Nat) : Int) < 0) := by omega
  by_cases z1 : ((1048576 : Int) - (ma.size : Nat)) < (mb.size : Nat)
  · have y1 : szLeft ((1048576 : Int) - (ma.size : Nat)) (mb.size) = -1 := by rw [szLeft, if_pos z1]
    go_enter Try.func7, Try.ntmps7
    go_wp2_with fail
    obtain ⟨W146, e147⟩ : ∃ W, W = w0.alloc (.cells #[.int .i64 (ma).r, .int .i64 (ma).c, .slice Auma (ma).a.length cuma] 53) := ⟨_, rfl⟩
    rw [← e147]
    have b148 : Below w0.heap.size w0 W146 := by rw [e147]; exact below_alloc _ _
    have k149 : Blk W146 w0.heap.size 53 #[.int .i64 (ma).r, .int .i64 (ma).c, .slice Auma (ma).a.length cuma] := by rw [e147]; exact Blk.new _ _ _
    have s150 : w0.heap.size < W146.heap.size := by rw [e147]; simp
    have z151 := Lib.hid (show W146.heap.size = w0.heap.size + 1 by rw [e147]; simp)
    clear e147
    have h152 := MxR.below (b148.mono (by omega)) hma
    have h153 := MxR.below (b148.mono (by omega)) hmb
    have s154 : w0.heap.size ≤ W146.heap.size := b148.size
    have g155 := bthen g0 b148
    clear hma hmb g0 b148
    have c156 := k149.cell' (i := 0) rfl
    have c157 := k149.cell' (i := 1) rfl
    have c158 := k149.cell' (i := 2) rfl
    obtain ⟨W159, e160⟩ : ∃ W, W = W146.alloc (.cells #[.int .i64 (mb).r, .int .i64 (mb).c, .slice Aumb (mb).a.length cumb] 53) := ⟨_, rfl⟩
    rw [← e160]
    have b161 : Below W146.heap.size W146 W159 := by rw [e160]; exact below_alloc _ _
    have k162 : Blk W159 (w0.heap.size + 1) 53 #[.int .i64 (mb).r, .int .i64 (mb).c, .slice Aumb (mb).a.length cumb] := by rw [e160, ← z151.out]; exact Blk.new _ _ _
    have s163 : W146.heap.size < W159.heap.size := by rw [e160]; simp
    have z164 := Lib.hid (show W159.heap.size = w0.heap.size + 1 + 1 by rw [e160]; simp; exact z151.out)
    clear e160
    have h165 := MxR.below (b161.mono (by omega)) h152
    have h166 := MxR.below (b161.mono (by omega)) h153
    have k167 := k149.call b161
    have s168 : W146.heap.size ≤ W159.heap.size := b161.size
    have g169 := bthen g155 b161
    clear h152 h153 k149 g155 b161 c156 c157 c158
    have c170 := k167.cell' (i := 0) rfl
    have c171 := k167.cell' (i := 1) rfl
    have c172 := k167.cell' (i := 2) rfl
    have c173 := k162.cell' (i := 0) rfl
    have c174 := k162.cell' (i := 1) rfl
    have c175 := k162.cell' (i := 2) rfl
    refine (szMatrix_any _ _ (1048576 : Int) _ (MxR.more (by omega) h165) (by omega) (by omega)).mono ?_; rintro e W176 ⟨rfl, b145⟩
    have h177 := MxR.below (b145.mono (by omega)) h165
    have h178 := MxR.below (b145.mono (by omega)) h166
    have k179 := k167.call b145
    have k180 := k162.call b145
    have s181 : W159.heap.size ≤ W176.heap.size := b145.size
    have g182 := bthen g169 b145
    clear h165 h166 k167 k162 g169 b145 c170 c171 c172 c173 c174 c175
    have c183 := k179.cell' (i := 0) rfl
    have c184 := k179.cell' (i := 1) rfl
    have c185 := k179.cell' (i := 2) rfl
    have c186 := k180.cell' (i := 0) rfl
    have c187 := k180.cell' (i := 1) rfl
    have c188 := k180.cell' (i := 2) rfl
    go_wp2_with fail
    refine (szMatrix_any _ _ ((1048576 : Int) - (ma.size : Nat)) _ (MxR.more (by omega) h178) (by omega) (by omega)).mono ?_; rintro e W190 ⟨rfl, b189⟩
    have h191 := MxR.below (b189.mono (by omega)) h177
    have h192 := MxR.below (b189.mono (by omega)) h178
    have k193 := k179.call b189
    have k194 := k180.call b189
    have s195 : W176.heap.size ≤ W190.heap.size := b189.size
    have g196 := bthen g182 b189
    clear h177 h178 k179 k180 g182 b189 c183 c184 c185 c186 c187 c188
    have c197 := k193.cell' (i := 0) rfl
    have c198 := k193.cell' (i := 1) rfl
    have c199 := k193.cell' (i := 2) rfl
    have c200 := k194.cell' (i := 0) rfl
    have c201 := k194.cell' (i := 1) rfl
    have c202 := k194.cell' (i := 2) rfl
    go_wp2
    go_ret
    exact ⟨rfl, g196⟩
  have y1 : szLeft ((1048576 : Int) - (ma.size : Nat)) (mb.size) = ((1048576 : Int) - (ma.size : Nat)) - (mb.size : Nat) := by rw [szLeft, if_neg z1]
  have x1 : ¬ (((1048576 : Int) - (ma.size : Nat)) - ((mb.size : Nat) : Int) < 0) := by omega
  go_enter Try.func7, Try.ntmps7
  go_wp2_with fail
  obtain ⟨W204, e205⟩ : ∃ W, W = w0.alloc (.cells #[.int .i64 (ma).r, .int .i64 (ma).c, .slice Auma (ma).a.length cuma] 53) := ⟨_, rfl⟩
  rw [← e205]
  have b206 : Below w0.heap.size w0 W204 := by rw [e205]; exact below_alloc _ _
  have k207 : Blk W204 w0.heap.size 53 #[.int .i64 (ma).r, .int .i64 (ma).c, .slice Auma (ma).a.length cuma] := by rw [e205]; exact Blk.new _ _ _
  have s208 : w0.heap.size < W204.heap.size := by rw [e205]; simp
  have z209 := Lib.hid (show W204.heap.size = w0.heap.size + 1 by rw [e205]; simp)
  clear e205
  have h210 := MxR.below (b206.mono (by omega)) hma
  have h211 := MxR.below (b206.mono (by omega)) hmb
  have s212 : w0.heap.size ≤ W204.heap.size := b206.size
  have g213 := bthen g0 b206
  clear hma hmb g0 b206
  have c214 := k207.cell' (i := 0) rfl
  have c215 := k207.cell' (i := 1) rfl
  have c216 := k207.cell' (i := 2) rfl
  obtain ⟨W217, e218⟩ : ∃ W, W = W204.alloc (.cells #[.int .i64 (mb).r, .int .i64 (mb).c, .slice Aumb (mb).a.length cumb] 53) := ⟨_, rfl⟩
  rw [← e218]
  have b219 : Below W204.heap.size W204 W217 := by rw [e218]; exact below_alloc _ _
  have k220 : Blk W217 (w0.heap.size + 1) 53 #[.int .i64 (mb).r, .int .i64 (mb).c, .slice Aumb (mb).a.length cumb] := by rw [e218, ← z209.out]; exact Blk.new _ _ _
  have s221 : W204.heap.size < W217.heap.size := by rw [e218]; simp
  have z222 := Lib.hid (show W217.heap.size = w0.heap.size + 1 + 1 by rw [e218]; simp; exact z209.out)
  clear e218
  have h223 := MxR.below (b219.mono (by omega)) h210
  have h224 := MxR.below (b219.mono (by omega)) h211
  have k225 := k207.call b219
  have s226 : W204.heap.size ≤ W217.heap.size := b219.size
  have g227 := bthen g213 b219
  clear h210 h211 k207 g213 b219 c214 c215 c216
  have c228 := k225.cell' (i := 0) rfl
  have c229 := k225.cell' (i := 1) rfl
  have c230 := k225.cell' (i := 2) rfl
  have c231 := k220.cell' (i := 0) rfl
  have c232 := k220.cell' (i := 1) rfl
  have c233 := k220.cell' (i := 2) rfl
  refine (szMatrix_any _ _ (1048576 : Int) _ (MxR.more (by omega) h223) (by omega) (by omega)).mono ?_; rintro e W234 ⟨rfl, b203⟩
  have h235 := MxR.below (b203.mono (by omega)) h223
  have h236 := MxR.below (b203.mono (by omega)) h224
  have k237 := k225.call b203
  have k238 := k220.call b203
  have s239 : W217.heap.size ≤ W234.heap.size := b203.size
  have g240 := bthen g227 b203
  clear h223 h224 k225 k220 g227 b203 c228 c229 c230 c231 c232 c233
  have c241 := k237.cell' (i := 0) rfl
  have c242 := k237.cell' (i := 1) rfl
  have c243 := k237.cell' (i := 2) rfl
  have c244 := k238.cell' (i := 0) rfl
  have c245 := k238.cell' (i := 1) rfl
  have c246 := k238.cell' (i := 2) rfl
  go_wp2_with fail
  refine (szMatrix_any _ _ ((1048576 : Int) - (ma.size : Nat)) _ (MxR.more (by omega) h236) (by omega) (by omega)).mono ?_; rintro e W248 ⟨rfl, b247⟩
  have h249 := MxR.below (b247.mono (by omega)) h235
  have h250 := MxR.below (b247.mono (by omega)) h236
  have k251 := k237.call b247
  have k252 := k238.call b247
  have s253 : W234.heap.size ≤ W248.heap.size := b247.size
  have g254 := bthen g240 b247
  clear h235 h236 k237 k238 g240 b247 c241 c242 c243 c244 c245 c246
  have c255 := k251.cell' (i := 0) rfl
  have c256 := k251.cell' (i := 1) rfl
  have c257 := k251.cell' (i := 2) rfl
  have c258 := k252.cell' (i := 0) rfl
  have c259 := k252.cell' (i := 1) rfl
  have c260 := k252.cell' (i := 2) rfl
  go_wp2_with fail
  refine wp_region_net2 (by kernel_rfl) [.eq (.int .i64 p), .eq (.agg #[.int .i64 (ma).r, .int .i64 (ma).c, .slice Auma (ma).a.length cuma]), rel 2 (fun u lo hi w => MxO w lo hi u ma), .eq (.agg #[.int .i64 (mb).r, .int .i64 (mb).c, .slice Aumb (mb).a.length cumb]), rel 4 (fun u lo hi w => MxO w lo hi u mb), .rel (fun x w => ∃ Ax261 ax261 Cx261 cx261 Ex261 ex261 Hx261 hx261, x.v 5 = .tuple #[.agg #[.int .i64 ((penOf p ma mb).1).p, .int .i64 ((penOf p ma mb).1).q.v, .slice Ax261 ((penOf p ma mb).1).q.f.length ax261, .slice Cx261 ((penOf p ma mb).1).q.t.length cx261, .slice Ex261 ((penOf p ma mb).1).d.length ex261, .slice Hx261 ((penOf p ma mb).1).m.length hx261], .bool (penOf p ma mb).2] ∧ RepO w (x.lo 5) (x.hi 5) (.agg #[.int .i64 ((penOf p ma mb).1).p, .int .i64 ((penOf p ma mb).1).q.v, .slice Ax261 ((penOf p ma mb).1).q.f.length ax261, .slice Cx261 ((penOf p ma mb).1).q.t.length cx261, .slice Ex261 ((penOf p ma mb).1).d.length ex261, .slice Hx261 ((penOf p ma mb).1).m.length hx261]) (penOf p ma mb).1), .rel (fun x w => ∃ Ax261 ax261 Cx261 cx261 Ex261 ex261 Hx261 hx261, x.v 6 = .tuple #[.agg #[.int .i64 ((penOf p ma mb).1).p, .int .i64 ((penOf p ma mb).1).q.v, .slice Ax261 ((penOf p ma mb).1).q.f.length ax261, .slice Cx261 ((penOf p ma mb).1).q.t.length cx261, .slice Ex261 ((penOf p ma mb).1).d.length ex261, .slice Hx261 ((penOf p ma mb).1).m.length hx261], .bool (penOf p ma mb).2] ∧ RepO w (x.lo 5) (x.hi 5) (.agg #[.int .i64 ((penOf p ma mb).1).p, .int .i64 ((penOf p ma mb).1).q.v, .slice Ax261 ((penOf p ma mb).1).q.f.length ax261, .slice Cx261 ((penOf p ma mb).1).q.t.length cx261, .slice Ex261 ((penOf p ma mb).1).d.length ex261, .slice Hx261 ((penOf p ma mb).1).m.length hx261]) (penOf p ma mb).1), .rel (fun x w => ∃ Ax261 ax261 Cx261 cx261 Ex261 ex261 Hx261 hx261, x.v 7 = .agg #[.int .i64 ((penOf p ma mb).1).p, .int .i64 ((penOf p ma mb).1).q.v, .slice Ax261 ((penOf p ma mb).1).q.f.length ax261, .slice Cx261 ((penOf p ma mb).1).q.t.length cx261, .slice Ex261 ((penOf p ma mb).1).d.length ex261, .slice Hx261 ((penOf p ma mb).1).m.length hx261] ∧ RepO w (x.lo 5) (x.hi 5) (.agg #[.int .i64 ((penOf p ma mb).1).p, .int .i64 ((penOf p ma mb).1).q.v, .slice Ax261 ((penOf p ma mb).1).q.f.length ax261, .slice Cx261 ((penOf p ma mb).1).q.t.length cx261, .slice Ex261 ((penOf p ma mb).1).d.length ex261, .slice Hx261 ((penOf p ma mb).1).m.length hx261]) (penOf p ma mb).1), .eq (.bool (penOf p ma mb).2), rel 9 (fun u lo hi w => ∃ g, u = .pointer (some ⟨g, 0, none⟩) ∧ (lo ≤ g ∧ g < hi) ∧ Blk w g 43 #[.int .i64 0, .int .i64 0, .slice none 0 0, .slice none 0 0, .slice none 0 0, .slice none 0 0])] [[], [], [1], [], [1, 2, 3], [0, 1, 2, 3, 4], [0, 1, 2, 3, 4, 5], [0, 1, 2, 3, 4, 5, 6], [0, 1, 2, 3, 4, 5, 6], [], [0, 1, 2, 3, 4, 5, 6, 7, 9], [0, 1, 2, 3, 4, 5, 6, 7, 8, 9, 10]] 10 8 [0, 1, 2, 3, 4, 5, 6, 7, 9] (by kernel_rfl) rfl ⟨trivial, trivial, rel_stable (fun u lo hi w w' h hb => h.below hb), trivial, rel_stable (fun u lo hi w w' h hb => h.below hb), fun x w w' ⟨Ax261, ax261, Cx261, cx261, Ex261, ex261, Hx261, hx261, e, h⟩ hb => ⟨Ax261, ax261, Cx261, cx261, Ex261, ex261, Hx261, hx261, e, h.below hb⟩, fun x w w' ⟨Ax261, ax261, Cx261, cx261, Ex261, ex261, Hx261, hx261, e, h⟩ hb => ⟨Ax261, ax261, Cx261, cx261, Ex261, ex261, Hx261, hx261, e, h.below hb⟩, fun x w w' ⟨Ax261, ax261, Cx261, cx261, Ex261, ex261, Hx261, hx261, e, h⟩ hb => ⟨Ax261, ax261, Cx261, cx261, Ex261, ex261, Hx261, hx261, e, h.below hb⟩, trivial, rel_stable (fun u lo hi w w' ⟨g, e, h1, h⟩ hb => ⟨g, e, h1, h.call hb⟩), trivial⟩ ⟨?_, ?_, ?_, ?_, ?_, ?_, ?_, ?_, ?_, ?_, trivial⟩ ?_ ?_
  · intro x w hb hk Q' hQ
    clear hk
    simp only [netAct, dstAt, List.getElem?_toArray, List.getElem?_cons_zero, List.getElem?_cons_succ, Option.bind_some, Act.put, List.setIfInBounds_toArray, List.set_cons_zero, List.set_cons_succ] at hQ ⊢
    go_wp2
    exact hQ (.int .i64 p) _ (Below.refl _ _) rfl
  · intro x w hb hk Q' hQ
    clear hk
    simp only [netAct, dstAt, List.getElem?_toArray, List.getElem?_cons_zero, List.getElem?_cons_succ, Option.bind_some, Act.put, List.setIfInBounds_toArray, List.set_cons_zero, List.set_cons_succ] at hQ ⊢
    have z0 := (k251.call hb).cell' (i := 0) rfl
    have z1 := (k251.call hb).cell' (i := 1) rfl
    have z2 := (k251.call hb).cell' (i := 2) rfl
    go_wp2
    exact hQ (.agg #[.int .i64 (ma).r, .int .i64 (ma).c, .slice Auma (ma).a.length cuma]) _ (Below.refl _ _) rfl
  · intro x w hb hk Q' hQ
    have h1 : x.v 1 = .agg #[.int .i64 (ma).r, .int .i64 (ma).c, .slice Auma (ma).a.length cuma] := (hk 1 (by decide)).1
    clear hk
    simp only [netAct, dstAt, List.getElem?_toArray, List.getElem?_cons_zero, List.getElem?_cons_succ, Option.bind_some, Act.put, List.setIfInBounds_toArray, List.set_cons_zero, List.set_cons_succ] at hQ ⊢
    simp only [h1] at hQ ⊢
    clear h1
    have hs := hb.size
    go_wp2_with fail
    refine (mx_to _ _ _ (MxR.more (by omega) (MxR.below (hb.mono (by omega)) h249)) (by omega)).mono ?_; rintro e w1 ⟨v1, rfl, ho, hb1⟩
    go_wp2
    exact hQ _ _ hb1 ho
  · intro x w hb hk Q' hQ
    clear hk
    simp only [netAct, dstAt, List.getElem?_toArray, List.getElem?_cons_zero, List.getElem?_cons_succ, Option.bind_some, Act.put, List.setIfInBounds_toArray, List.set_cons_zero, List.set_cons_succ] at hQ ⊢
    have z0 := (k252.call hb).cell' (i := 0) rfl
    have z1 := (k252.call hb).cell' (i := 1) rfl
    have z2 := (k252.call hb).cell' (i := 2) rfl
    go_wp2
    exact hQ (.agg #[.int .i64 (mb).r, .int .i64 (mb).c, .slice Aumb (mb).a.length cumb]) _ (Below.refl _ _) rfl
  · intro x w hb hk Q' hQ
    have h1 : x.v 1 = .agg #[.int .i64 (ma).r, .int .i64 (ma).c, .slice Auma (ma).a.length cuma] := (hk 1 (by decide)).1
    have h2 : MxO w (x.lo 2) (x.hi 2) (x.v 2) ma := (hk 2 (by decide)).1
    have h3 : x.v 3 = .agg #[.int .i64 (mb).r, .int .i64 (mb).c, .slice Aumb (mb).a.length cumb] := (hk 3 (by decide)).1
    have s2 := (hk 2 (by decide)).2
    clear hk
    simp only [netAct, dstAt, List.getElem?_toArray, List.getElem?_cons_zero, List.getElem?_cons_succ, Option.bind_some, Act.put, List.setIfInBounds_toArray, List.set_cons_zero, List.set_cons_succ] at hQ ⊢
    simp only [h1, h3] at hQ ⊢
    clear h1 h3
    have hs := hb.size
    go_wp2_with fail
    refine (mx_to _ _ _ (MxR.more (by omega) (MxR.below (hb.mono (by omega)) h250)) (by omega)).mono ?_; rintro e w1 ⟨v1, rfl, ho, hb1⟩
    go_wp2
    exact hQ _ _ hb1 ho
  · intro x w hb hk Q' hQ
    have h0 : x.v 0 = .int .i64 p := (hk 0 (by decide)).1
    have h1 : x.v 1 = .agg #[.int .i64 (ma).r, .int .i64 (ma).c, .slice Auma (ma).a.length cuma] := (hk 1 (by decide)).1
    have h2 : MxO w (x.lo 2) (x.hi 2) (x.v 2) ma := (hk 2 (by decide)).1
    have h3 : x.v 3 = .agg #[.int .i64 (mb).r, .int .i64 (mb).c, .slice Aumb (mb).a.length cumb] := (hk 3 (by decide)).1
    have h4 : MxO w (x.lo 4) (x.hi 4) (x.v 4) mb := (hk 4 (by decide)).1
    have s2 := (hk 2 (by decide)).2
    have s4 := (hk 4 (by decide)).2
    clear hk
    simp only [netAct, dstAt, List.getElem?_toArray, List.getElem?_cons_zero, List.getElem?_cons_succ, Option.bind_some, Act.put, List.setIfInBounds_toArray, List.set_cons_zero, List.set_cons_succ] at hQ ⊢
    simp only [h0, h1, h3] at hQ ⊢
    clear h0 h1 h3
    obtain ⟨Aq2, cq2, e2⟩ := h2.form; rw [e2] at h2 hQ ⊢
    obtain ⟨Aq4, cq4, e4⟩ := h4.form; rw [e4] at h4 hQ ⊢
    go_wp2_with fail
    refine (specPencilOf_any _ _ _ _ _ _ rng_p h2.rd h4.rd).mono ?_; rintro e w1 ⟨v1, rfl, ho, hb1⟩
    obtain ⟨Ax261, ax261, Cx261, cx261, Ex261, ex261, Hx261, hx261, ev⟩ := ho.form; subst ev
    go_wp2
    exact hQ _ _ hb1 ⟨_, _, _, _, _, _, _, _, rfl, ho⟩
  · intro x w hb hk Q' hQ
    have h0 : x.v 0 = .int .i64 p := (hk 0 (by decide)).1
    have h1 : x.v 1 = .agg #[.int .i64 (ma).r, .int .i64 (ma).c, .slice Auma (ma).a.length cuma] := (hk 1 (by decide)).1
    have h2 : MxO w (x.lo 2) (x.hi 2) (x.v 2) ma := (hk 2 (by decide)).1
    have h3 : x.v 3 = .agg #[.int .i64 (mb).r, .int .i64 (mb).c, .slice Aumb (mb).a.length cumb] := (hk 3 (by decide)).1
    have h4 : MxO w (x.lo 4) (x.hi 4) (x.v 4) mb := (hk 4 (by decide)).1
    have h5 : ∃ Ax261 ax261 Cx261 cx261 Ex261 ex261 Hx261 hx261, x.v 5 = .tuple #[.agg #[.int .i64 ((penOf p ma mb).1).p, .int .i64 ((penOf p ma mb).1).q.v, .slice Ax261 ((penOf p ma mb).1).q.f.length ax261, .slice Cx261 ((penOf p ma mb).1).q.t.length cx261, .slice Ex261 ((penOf p ma mb).1).d.length ex261, .slice Hx261 ((penOf p ma mb).1).m.length hx261], .bool (penOf p ma mb).2] ∧ RepO w (x.lo 5) (x.hi 5) (.agg #[.int .i64 ((penOf p ma mb).1).p, .int .i64 ((penOf p ma mb).1).q.v, .slice Ax261 ((penOf p ma mb).1).q.f.length ax261, .slice Cx261 ((penOf p ma mb).1).q.t.length cx261, .slice Ex261 ((penOf p ma mb).1).d.length ex261, .slice Hx261 ((penOf p ma mb).1).m.length hx261]) (penOf p ma mb).1 := (hk 5 (by decide)).1
    have s2 := (hk 2 (by decide)).2
    have s4 := (hk 4 (by decide)).2
    have s5 := (hk 5 (by decide)).2
    clear hk
    simp only [netAct, dstAt, List.getElem?_toArray, List.getElem?_cons_zero, List.getElem?_cons_succ, Option.bind_some, Act.put, List.setIfInBounds_toArray, List.set_cons_zero, List.set_cons_succ] at hQ ⊢
    simp only [h0, h1, h3] at hQ ⊢
    clear h0 h1 h3
    obtain ⟨Ax261, ax261, Cx261, cx261, Ex261, ex261, Hx261, hx261, e1, ho⟩ := h5
    have hQ' := hQ (.tuple #[.agg #[.int .i64 ((penOf p ma mb).1).p, .int .i64 ((penOf p ma mb).1).q.v, .slice Ax261 ((penOf p ma mb).1).q.f.length ax261, .slice Cx261 ((penOf p ma mb).1).q.t.length cx261, .slice Ex261 ((penOf p ma mb).1).d.length ex261, .slice Hx261 ((penOf p ma mb).1).m.length hx261], .bool (penOf p ma mb).2]) w (Below.refl _ _) ⟨Ax261, ax261, Cx261, cx261, Ex261, ex261, Hx261, hx261, rfl, ho⟩
    rw [e1] at hQ' ⊢
    go_wp2
    exact hQ'
  · intro x w hb hk Q' hQ
    have h0 : x.v 0 = .int .i64 p := (hk 0 (by decide)).1
    have h1 : x.v 1 = .agg #[.int .i64 (ma).r, .int .i64 (ma).c, .slice Auma (ma).a.length cuma] := (hk 1 (by decide)).1
    have h2 : MxO w (x.lo 2) (x.hi 2) (x.v 2) ma := (hk 2 (by decide)).1
    have h3 : x.v 3 = .agg #[.int .i64 (mb).r, .int .i64 (mb).c, .slice Aumb (mb).a.length cumb] := (hk 3 (by decide)).1
    have h4 : MxO w (x.lo 4) (x.hi 4) (x.v 4) mb := (hk 4 (by decide)).1
    have h5 : ∃ Ax261 ax261 Cx261 cx261 Ex261 ex261 Hx261 hx261, x.v 5 = .tuple #[.agg #[.int .i64 ((penOf p ma mb).1).p, .int .i64 ((penOf p ma mb).1).q.v, .slice Ax261 ((penOf p ma mb).1).q.f.length ax261, .slice Cx261 ((penOf p ma mb).1).q.t.length cx261, .slice Ex261 ((penOf p ma mb).1).d.length ex261, .slice Hx261 ((penOf p ma mb).1).m.length hx261], .bool (penOf p ma mb).2] ∧ RepO w (x.lo 5) (x.hi 5) (.agg #[.int .i64 ((penOf p ma mb).1).p, .int .i64 ((penOf p ma mb).1).q.v, .slice Ax261 ((penOf p ma mb).1).q.f.length ax261, .slice Cx261 ((penOf p ma mb).1).q.t.length cx261, .slice Ex261 ((penOf p ma mb).1).d.length ex261, .slice Hx261 ((penOf p ma mb).1).m.length hx261]) (penOf p ma mb).1 := (hk 5 (by decide)).1
    have h6 : ∃ Ax261 ax261 Cx261 cx261 Ex261 ex261 Hx261 hx261, x.v 6 = .tuple #[.agg #[.int .i64 ((penOf p ma mb).1).p, .int .i64 ((penOf p ma mb).1).q.v, .slice Ax261 ((penOf p ma mb).1).q.f.length ax261, .slice Cx261 ((penOf p ma mb).1).q.t.length cx261, .slice Ex261 ((penOf p ma mb).1).d.length ex261, .slice Hx261 ((penOf p ma mb).1).m.length hx261], .bool (penOf p ma mb).2] ∧ RepO w (x.lo 5) (x.hi 5) (.agg #[.int .i64 ((penOf p ma mb).1).p, .int .i64 ((penOf p ma mb).1).q.v, .slice Ax261 ((penOf p ma mb).1).q.f.length ax261, .slice Cx261 ((penOf p ma mb).1).q.t.length cx261, .slice Ex261 ((penOf p ma mb).1).d.length ex261, .slice Hx261 ((penOf p ma mb).1).m.length hx261]) (penOf p ma mb).1 := (hk 6 (by decide)).1
    have s2 := (hk 2 (by decide)).2
    have s4 := (hk 4 (by decide)).2
    have s5 := (hk 5 (by decide)).2
    have s6 := (hk 6 (by decide)).2
    clear hk
    simp only [netAct, dstAt, List.getElem?_toArray, List.getElem?_cons_zero, List.getElem?_cons_succ, Option.bind_some, Act.put, List.setIfInBounds_toArray, List.set_cons_zero, List.set_cons_succ] at hQ ⊢
    simp only [h0, h1, h3] at hQ ⊢
    clear h0 h1 h3
    obtain ⟨Ax261, ax261, Cx261, cx261, Ex261, ex261, Hx261, hx261, e1, ho⟩ := h6
    have hQ' := hQ (.agg #[.int .i64 ((penOf p ma mb).1).p, .int .i64 ((penOf p ma mb).1).q.v, .slice Ax261 ((penOf p ma mb).1).q.f.length ax261, .slice Cx261 ((penOf p ma mb).1).q.t.length cx261, .slice Ex261 ((penOf p ma mb).1).d.length ex261, .slice Hx261 ((penOf p ma mb).1).m.length hx261]) w (Below.refl _ _) ⟨Ax261, ax261, Cx261, cx261, Ex261, ex261, Hx261, hx261, rfl, ho⟩
    rw [e1] at hQ' ⊢
    go_wp2
    exact hQ'
  · intro x w hb hk Q' hQ
    have h6 : ∃ Ax261 ax261 Cx261 cx261 Ex261 ex261 Hx261 hx261, x.v 6 = .tuple #[.agg #[.int .i64 ((penOf p ma mb).1).p, .int .i64 ((penOf p ma mb).1).q.v, .slice Ax261 ((penOf p ma mb).1).q.f.length ax261, .slice Cx261 ((penOf p ma mb).1).q.t.length cx261, .slice Ex261 ((penOf p ma mb).1).d.length ex261, .slice Hx261 ((penOf p ma mb).1).m.length hx261], .bool (penOf p ma mb).2] ∧ RepO w (x.lo 5) (x.hi 5) (.agg #[.int .i64 ((penOf p ma mb).1).p, .int .i64 ((penOf p ma mb).1).q.v, .slice Ax261 ((penOf p ma mb).1).q.f.length ax261, .slice Cx261 ((penOf p ma mb).1).q.t.length cx261, .slice Ex261 ((penOf p ma mb).1).d.length ex261, .slice Hx261 ((penOf p ma mb).1).m.length hx261]) (penOf p ma mb).1 := (hk 6 (by decide)).1
    clear hk
    simp only [netAct, dstAt, List.getElem?_toArray, List.getElem?_cons_zero, List.getElem?_cons_succ, Option.bind_some, Act.put, List.setIfInBounds_toArray, List.set_cons_zero, List.set_cons_succ] at hQ ⊢
    obtain ⟨Ax261, ax261, Cx261, cx261, Ex261, ex261, Hx261, hx261, e1, ho⟩ := h6
    rw [e1] at hQ ⊢
    go_wp2
    exact hQ (.bool (penOf p ma mb).2) _ (Below.refl _ _) rfl
  · intro x w hb hk Q' hQ
    clear hk
    simp only [netAct, dstAt, List.getElem?_toArray, List.getElem?_cons_zero, List.getElem?_cons_succ, Option.bind_some, Act.put, List.setIfInBounds_toArray, List.set_cons_zero, List.set_cons_succ] at hQ ⊢
    go_wp2
    exact hQ _ _ (below_alloc _ _) ⟨_, rfl, ⟨Nat.le_refl _, by show w.heap.size < (w.alloc _).heap.size; simp⟩, Blk.new _ _ _⟩
  · intro x w hb hk hiv hdj
    have h0 : x.v 0 = .int .i64 p := hk 0 (by decide)
    have h1 : x.v 1 = .agg #[.int .i64 (ma).r, .int .i64 (ma).c, .slice Auma (ma).a.length cuma] := hk 1 (by decide)
    have h2 : MxO w (x.lo 2) (x.hi 2) (x.v 2) ma := hk 2 (by decide)
    have h3 : x.v 3 = .agg #[.int .i64 (mb).r, .int .i64 (mb).c, .slice Aumb (mb).a.length cumb] := hk 3 (by decide)
    have h4 : MxO w (x.lo 4) (x.hi 4) (x.v 4) mb := hk 4 (by decide)
    have h5 : ∃ Ax261 ax261 Cx261 cx261 Ex261 ex261 Hx261 hx261, x.v 5 = .tuple #[.agg #[.int .i64 ((penOf p ma mb).1).p, .int .i64 ((penOf p ma mb).1).q.v, .slice Ax261 ((penOf p ma mb).1).q.f.length ax261, .slice Cx261 ((penOf p ma mb).1).q.t.length cx261, .slice Ex261 ((penOf p ma mb).1).d.length ex261, .slice Hx261 ((penOf p ma mb).1).m.length hx261], .bool (penOf p ma mb).2] ∧ RepO w (x.lo 5) (x.hi 5) (.agg #[.int .i64 ((penOf p ma mb).1).p, .int .i64 ((penOf p ma mb).1).q.v, .slice Ax261 ((penOf p ma mb).1).q.f.length ax261, .slice Cx261 ((penOf p ma mb).1).q.t.length cx261, .slice Ex261 ((penOf p ma mb).1).d.length ex261, .slice Hx261 ((penOf p ma mb).1).m.length hx261]) (penOf p ma mb).1 := hk 5 (by decide)
    have h6 : ∃ Ax261 ax261 Cx261 cx261 Ex261 ex261 Hx261 hx261, x.v 6 = .tuple #[.agg #[.int .i64 ((penOf p ma mb).1).p, .int .i64 ((penOf p ma mb).1).q.v, .slice Ax261 ((penOf p ma mb).1).q.f.length ax261, .slice Cx261 ((penOf p ma mb).1).q.t.length cx261, .slice Ex261 ((penOf p ma mb).1).d.length ex261, .slice Hx261 ((penOf p ma mb).1).m.length hx261], .bool (penOf p ma mb).2] ∧ RepO w (x.lo 5) (x.hi 5) (.agg #[.int .i64 ((penOf p ma mb).1).p, .int .i64 ((penOf p ma mb).1).q.v, .slice Ax261 ((penOf p ma mb).1).q.f.length ax261, .slice Cx261 ((penOf p ma mb).1).q.t.length cx261, .slice Ex261 ((penOf p ma mb).1).d.length ex261, .slice Hx261 ((penOf p ma mb).1).m.length hx261]) (penOf p ma mb).1 := hk 6 (by decide)
    have h7 : ∃ Ax261 ax261 Cx261 cx261 Ex261 ex261 Hx261 hx261, x.v 7 = .agg #[.int .i64 ((penOf p ma mb).1).p, .int .i64 ((penOf p ma mb).1).q.v, .slice Ax261 ((penOf p ma mb).1).q.f.length ax261, .slice Cx261 ((penOf p ma mb).1).q.t.length cx261, .slice Ex261 ((penOf p ma mb).1).d.length ex261, .slice Hx261 ((penOf p ma mb).1).m.length hx261] ∧ RepO w (x.lo 5) (x.hi 5) (.agg #[.int .i64 ((penOf p ma mb).1).p, .int .i64 ((penOf p ma mb).1).q.v, .slice Ax261 ((penOf p ma mb).1).q.f.length ax261, .slice Cx261 ((penOf p ma mb).1).q.t.length cx261, .slice Ex261 ((penOf p ma mb).1).d.length ex261, .slice Hx261 ((penOf p ma mb).1).m.length hx261]) (penOf p ma mb).1 := hk 7 (by decide)
    have h8 : x.v 8 = .bool (penOf p ma mb).2 := hk 8 (by decide)
    have h9 : ∃ g, (x.v 9) = .pointer (some ⟨g, 0, none⟩) ∧ ((x.lo 9) ≤ g ∧ g < (x.hi 9)) ∧ Blk w g 43 #[.int .i64 0, .int .i64 0, .slice none 0 0, .slice none 0 0, .slice none 0 0, .slice none 0 0] := hk 9 (by decide)
    clear hk
    simp only [netAct, dstAt, List.getElem?_toArray, List.getElem?_cons_zero, List.getElem?_cons_succ, Option.bind_some, Act.put, List.setIfInBounds_toArray, List.set_cons_zero, List.set_cons_succ]
    simp only [List.drop_succ_cons, List.drop_zero, h0, h1, h3, h8]
    clear h0 h1 h3 h8
    obtain ⟨Ax261, ax261, Cx261, cx261, Ex261, ex261, Hx261, hx261, e264, h263⟩ := h7
    obtain ⟨gR262, e265, y266, k267⟩ := h9
    rw [e264, e265]
    have y268 := hiv 5 (by decide)
    have y269 := hiv 9 (by decide)
    have y270 := hdj 5 9 (by decide) (by decide) (by decide)
    have s272 := hb.size
    have b271 := hb
    clear hb hiv hdj e264 e265 h2 h4 h5
    obtain ⟨Ax261b, ax261b, Cx261b, cx261b, Ex261b, ex261b, Hx261b, hx261b, e273, _⟩ := h6; rw [e273]; clear e273
    have h275 := MxR.below (b271.mono (by omega)) h249
    have h276 := MxR.below (b271.mono (by omega)) h250
    have k277 := k251.call b271
    have k278 := k252.call b271
    have s279 : W248.heap.size ≤ w.heap.size := b271.size
    have g280 := bthen g254 b271
    clear h249 h250 k251 k252 g254 b271 c255 c256 c257 c258 c259 c260
    have c281 := k277.cell' (i := 0) rfl
    have c282 := k277.cell' (i := 1) rfl
    have c283 := k277.cell' (i := 2) rfl
    have c284 := k278.cell' (i := 0) rfl
    have c285 := k278.cell' (i := 1) rfl
    have c286 := k278.cell' (i := 2) rfl
    have f287 := k267.frozen
    have r288 := k267.cell' (i := 0) rfl
    have r289 := k267.cell' (i := 1) rfl
    have r290 := k267.cell' (i := 2) rfl
    have r291 := k267.cell' (i := 3) rfl
    have r292 := k267.cell' (i := 4) rfl
    have r293 := k267.cell' (i := 5) rfl
    obtain ⟨W294, eW294⟩ : ∃ u, u = ((((((w.setCell ⟨gR262, 0, none⟩ (.int .i64 ((penOf p ma mb).1).p)).setCell ⟨gR262, 1, none⟩ (.int .i64 ((penOf p ma mb).1).q.v)).setCell ⟨gR262, 2, none⟩ (.slice Ax261 ((penOf p ma mb).1).q.f.length ax261)).setCell ⟨gR262, 3, none⟩ (.slice Cx261 ((penOf p ma mb).1).q.t.length cx261)).setCell ⟨gR262, 4, none⟩ (.slice Ex261 ((penOf p ma mb).1).d.length ex261)).setCell ⟨gR262, 5, none⟩ (.slice Hx261 ((penOf p ma mb).1).m.length hx261)) := ⟨_, rfl⟩
    have k295 : Blk W294 gR262 43 #[.int .i64 ((penOf p ma mb).1).p, .int .i64 ((penOf p ma mb).1).q.v, .slice Ax261 ((penOf p ma mb).1).q.f.length ax261, .slice Cx261 ((penOf p ma mb).1).q.t.length cx261, .slice Ex261 ((penOf p ma mb).1).d.length ex261, .slice Hx261 ((penOf p ma mb).1).m.length hx261] := by rw [eW294]; exact ((((((k267.set_ 0 _).set_ 1 _).set_ 2 _).set_ 3 _).set_ 4 _).set_ 5 _)
    have q296 : Chg gR262 (gR262 + 1) w W294 := by rw [eW294]; exact chg6 _ _ _ _ _ _ _ _
    have h297 := (h263.chg q296 (by omega)).rd
    clear h263
    have h298 := MxR.chg h275 q296 (by omega) (by omega)
    have h299 := MxR.chg h276 q296 (by omega) (by omega)
    have k300 := k277.chg q296 (by omega)
    have k301 := k278.chg q296 (by omega)
    have s302 : w.heap.size ≤ W294.heap.size := q296.size
    have g303 := g280.trans (q296.below (by omega) (by omega))
    clear h275 h276 k277 k278 g280 q296 c281 c282 c283 c284 c285 c286
    have c304 := k300.cell' (i := 0) rfl
    have c305 := k300.cell' (i := 1) rfl
    have c306 := k300.cell' (i := 2) rfl
    have c307 := k301.cell' (i := 0) rfl
    have c308 := k301.cell' (i := 1) rfl
    have c309 := k301.cell' (i := 2) rfl
    have c310 := k295.cell' (i := 0) rfl
    have c311 := k295.cell' (i := 1) rfl
    have c312 := k295.cell' (i := 2) rfl
    have c313 := k295.cell' (i := 3) rfl
    have c314 := k295.cell' (i := 4) rfl
    have c315 := k295.cell' (i := 5) rfl
    have q316 := c304; rw [eW294] at q316
    have q317 := c305; rw [eW294] at q317
    have q318 := c306; rw [eW294] at q318
    have q319 := c307; rw [eW294] at q319
    have q320 := c308; rw [eW294] at q320
    have q321 := c309; rw [eW294] at q321
    have q322 := c310; rw [eW294] at q322
    have q323 := c311; rw [eW294] at q323
    have q324 := c312; rw [eW294] at q324
    have q325 := c313; rw [eW294] at q325
    have q326 := c314; rw [eW294] at q326
    have q327 := c315; rw [eW294] at q327
    go_wp2_with fail
    rw [← eW294]; clear eW294 f287 r288 r289 r290 r291 r292 r293 q316 q317 q318 q319 q320 q321 q322 q323 q324 q325 q326 q327 k267
    refine (mx_to _ _ _ (MxR.more (by omega) h298) (by omega)).mono ?_; rintro e W331 ⟨v328, rfl, h329, b330⟩
    have h332 := MxR.below (b330.mono (by omega)) h298
    have h333 := MxR.below (b330.mono (by omega)) h299
    have h334 := RpR.below (b330.mono (by omega)) h297
    have k335 := k300.call b330
    have k336 := k301.call b330
    have k337 := k295.call b330
    have s338 : W294.heap.size ≤ W331.heap.size := b330.size
    have g339 := bthen g303 b330
    clear h298 h299 h297 k300 k301 k295 g303 b330 c304 c305 c306 c307 c308 c309 c310 c311 c312 c313 c314 c315
    have c340 := k335.cell' (i := 0) rfl
    have c341 := k335.cell' (i := 1) rfl
    have c342 := k335.cell' (i := 2) rfl
    have c343 := k336.cell' (i := 0) rfl
    have c344 := k336.cell' (i := 1) rfl
    have c345 := k336.cell' (i := 2) rfl
    have c346 := k337.cell' (i := 0) rfl
    have c347 := k337.cell' (i := 1) rfl
    have c348 := k337.cell' (i := 2) rfl
    have c349 := k337.cell' (i := 3) rfl
    have c350 := k337.cell' (i := 4) rfl
    have c351 := k337.cell' (i := 5) rfl
    obtain ⟨Ax352, cx352, e353⟩ := h329.form
    subst e353
    have c357 := fun o => (k335.alloc o).cell' (i := 0) rfl
    have c358 := fun o => (k335.alloc o).cell' (i := 1) rfl
    have c359 := fun o => (k335.alloc o).cell' (i := 2) rfl
    have c360 := fun o => (k336.alloc o).cell' (i := 0) rfl
    have c361 := fun o => (k336.alloc o).cell' (i := 1) rfl
    have c362 := fun o => (k336.alloc o).cell' (i := 2) rfl
    have c363 := fun o => (k337.alloc o).cell' (i := 0) rfl
    have c364 := fun o => (k337.alloc o).cell' (i := 1) rfl
    have c365 := fun o => (k337.alloc o).cell' (i := 2) rfl
    have c366 := fun o => (k337.alloc o).cell' (i := 3) rfl
    have c367 := fun o => (k337.alloc o).cell' (i := 4) rfl
    have c368 := fun o => (k337.alloc o).cell' (i := 5) rfl
    go_wp2_with fail
    obtain ⟨W369, e370⟩ : ∃ W, W = W331.alloc (.cells #[.int .i64 (ma).r, .int .i64 (ma).c, .slice Ax352 (ma).a.length cx352] 56) := ⟨_, rfl⟩
    rw [← e370]
    have b371 : Below W331.heap.size W331 W369 := by rw [e370]; exact below_alloc _ _
    have k372 : Blk W369 W331.heap.size 56 #[.int .i64 (ma).r, .int .i64 (ma).c, .slice Ax352 (ma).a.length cx352] := by rw [e370]; exact Blk.new _ _ _
    have s373 : W331.heap.size < W369.heap.size := by rw [e370]; simp
    clear e370
    have h374 := MxR.below (b371.mono (by omega)) h332
    have h375 := MxR.below (b371.mono (by omega)) h333
    have h376 := RpR.below (b371.mono (by omega)) h334
    have h377 := h329.below b371
    have k378 := k335.call b371
    have k379 := k336.call b371
    have k380 := k337.call b371
    have s381 : W331.heap.size ≤ W369.heap.size := b371.size
    have g382 := bthen g339 b371
    clear h332 h333 h334 h329 k335 k336 k337 g339 b371 c340 c341 c342 c343 c344 c345 c346 c347 c348 c349 c350 c351 c357 c358 c359 c360 c361 c362 c363 c364 c365 c366 c367 c368
    have c383 := k378.cell' (i := 0) rfl
    have c384 := k378.cell' (i := 1) rfl
    have c385 := k378.cell' (i := 2) rfl
    have c386 := k379.cell' (i := 0) rfl
    have c387 := k379.cell' (i := 1) rfl
    have c388 := k379.cell' (i := 2) rfl
    have c389 := k380.cell' (i := 0) rfl
    have c390 := k380.cell' (i := 1) rfl
    have c391 := k380.cell' (i := 2) rfl
    have c392 := k380.cell' (i := 3) rfl
    have c393 := k380.cell' (i := 4) rfl
    have c394 := k380.cell' (i := 5) rfl
    have c395 := k372.cell' (i := 0) rfl
    have c396 := k372.cell' (i := 1) rfl
    have c397 := k372.cell' (i := 2) rfl
    refine (mx_to _ _ _ (MxR.more (by omega) h375) (by omega)).mono ?_; rintro e W398 ⟨v354, rfl, h355, b356⟩
    have h399 := MxR.below (b356.mono (by omega)) h374
    have h400 := MxR.below (b356.mono (by omega)) h375
    have h401 := RpR.below (b356.mono (by omega)) h376
    have h402 := h377.below b356
    have k403 := k378.call b356
    have k404 := k379.call b356
    have k405 := k380.call b356
    have k406 := k372.call b356
    have s407 : W369.heap.size ≤ W398.heap.size := b356.size
    have g408 := bthen g382 b356
    clear h374 h375 h376 h377 k378 k379 k380 k372 g382 b356 c383 c384 c385 c386 c387 c388 c389 c390 c391 c392 c393 c394 c395 c396 c397
    have c409 := k403.cell' (i := 0) rfl
    have c410 := k403.cell' (i := 1) rfl
    have c411 := k403.cell' (i := 2) rfl
    have c412 := k404.cell' (i := 0) rfl
    have c413 := k404.cell' (i := 1) rfl
    have c414 := k404.cell' (i := 2) rfl
    have c415 := k405.cell' (i := 0) rfl
    have c416 := k405.cell' (i := 1) rfl
    have c417 := k405.cell' (i := 2) rfl
    have c418 := k405.cell' (i := 3) rfl
    have c419 := k405.cell' (i := 4) rfl
    have c420 := k405.cell' (i := 5) rfl
    have c421 := k406.cell' (i := 0) rfl
    have c422 := k406.cell' (i := 1) rfl
    have c423 := k406.cell' (i := 2) rfl
    obtain ⟨Ax424, cx424, e425⟩ := h355.form
    subst e425
    have c429 := fun o => (k403.alloc o).cell' (i := 0) rfl
    have c430 := fun o => (k403.alloc o).cell' (i := 1) rfl
    have c431 := fun o => (k403.alloc o).cell' (i := 2) rfl
    have c432 := fun o => (k404.alloc o).cell' (i := 0) rfl
    have c433 := fun o => (k404.alloc o).cell' (i := 1) rfl
    have c434 := fun o => (k404.alloc o).cell' (i := 2) rfl
    have c435 := fun o => (k405.alloc o).cell' (i := 0) rfl
    have c436 := fun o => (k405.alloc o).cell' (i := 1) rfl
    have c437 := fun o => (k405.alloc o).cell' (i := 2) rfl
    have c438 := fun o => (k405.alloc o).cell' (i := 3) rfl
    have c439 := fun o => (k405.alloc o).cell' (i := 4) rfl
    have c440 := fun o => (k405.alloc o).cell' (i := 5) rfl
    have c441 := fun o => (k406.alloc o).cell' (i := 0) rfl
    have c442 := fun o => (k406.alloc o).cell' (i := 1) rfl
    have c443 := fun o => (k406.alloc o).cell' (i := 2) rfl
    go_wp2_with fail
    obtain ⟨W444, e445⟩ : ∃ W, W = W398.alloc (.cells #[.int .i64 (mb).r, .int .i64 (mb).c, .slice Ax424 (mb).a.length cx424] 56) := ⟨_, rfl⟩
    rw [← e445]
    have b446 : Below W398.heap.size W398 W444 := by rw [e445]; exact below_alloc _ _
    have k447 : Blk W444 W398.heap.size 56 #[.int .i64 (mb).r, .int .i64 (mb).c, .slice Ax424 (mb).a.length cx424] := by rw [e445]; exact Blk.new _ _ _
    have s448 : W398.heap.size < W444.heap.size := by rw [e445]; simp
    clear e445
    have h449 := MxR.below (b446.mono (by omega)) h399
    have h450 := MxR.below (b446.mono (by omega)) h400
    have h451 := RpR.below (b446.mono (by omega)) h401
    have h452 := h402.below b446
    have h453 := h355.below b446
    have k454 := k403.call b446
    have k455 := k404.call b446
    have k456 := k405.call b446
    have k457 := k406.call b446
    have s458 : W398.heap.size ≤ W444.heap.size := b446.size
    have g459 := bthen g408 b446
    clear h399 h400 h401 h402 h355 k403 k404 k405 k406 g408 b446 c409 c410 c411 c412 c413 c414 c415 c416 c417 c418 c419 c420 c421 c422 c423 c429 c430 c431 c432 c433 c434 c435 c436 c437 c438 c439 c440 c441 c442 c443
    have c460 := k454.cell' (i := 0) rfl
    have c461 := k454.cell' (i := 1) rfl
    have c462 := k454.cell' (i := 2) rfl
    have c463 := k455.cell' (i := 0) rfl
    have c464 := k455.cell' (i := 1) rfl
    have c465 := k455.cell' (i := 2) rfl
    have c466 := k456.cell' (i := 0) rfl
    have c467 := k456.cell' (i := 1) rfl
    have c468 := k456.cell' (i := 2) rfl
    have c469 := k456.cell' (i := 3) rfl
    have c470 := k456.cell' (i := 4) rfl
    have c471 := k456.cell' (i := 5) rfl
    have c472 := k457.cell' (i := 0) rfl
    have c473 := k457.cell' (i := 1) rfl
    have c474 := k457.cell' (i := 2) rfl
    have c475 := k447.cell' (i := 0) rfl
    have c476 := k447.cell' (i := 1) rfl
    have c477 := k447.cell' (i := 2) rfl
    refine (implPencilOf_any _ _ _ _ _ _ rng_p h452.rd h453.rd).mono ?_; rintro e W478 ⟨r426, rfl, h427, b428⟩
    have h479 := MxR.below (b428.mono (by omega)) h449
    have h480 := MxR.below (b428.mono (by omega)) h450
    have h481 := RpR.below (b428.mono (by omega)) h451
    have h482 := h452.below b428
    have h483 := h453.below b428
    have k484 := k454.call b428
    have k485 := k455.call b428
    have k486 := k456.call b428
    have k487 := k457.call b428
    have k488 := k447.call b428
    have s489 : W444.heap.size ≤ W478.heap.size := b428.size
    have g490 := bthen g459 b428
    clear h449 h450 h451 h452 h453 k454 k455 k456 k457 k447 g459 b428 c460 c461 c462 c463 c464 c465 c466 c467 c468 c469 c470 c471 c472 c473 c474 c475 c476 c477
    have c491 := k484.cell' (i := 0) rfl
    have c492 := k484.cell' (i := 1) rfl
    have c493 := k484.cell' (i := 2) rfl
    have c494 := k485.cell' (i := 0) rfl
    have c495 := k485.cell' (i := 1) rfl
    have c496 := k485.cell' (i := 2) rfl
    have c497 := k486.cell' (i := 0) rfl
    have c498 := k486.cell' (i := 1) rfl
    have c499 := k486.cell' (i := 2) rfl
    have c500 := k486.cell' (i := 3) rfl
    have c501 := k486.cell' (i := 4) rfl
    have c502 := k486.cell' (i := 5) rfl
    have c503 := k487.cell' (i := 0) rfl
    have c504 := k487.cell' (i := 1) rfl
    have c505 := k487.cell' (i := 2) rfl
    have c506 := k488.cell' (i := 0) rfl
    have c507 := k488.cell' (i := 1) rfl
    have c508 := k488.cell' (i := 2) rfl
    obtain ⟨Ax509, ax509, Cx509, cx509, Ex509, ex509, Hx509, hx509, e510⟩ := h427.form
    subst e510
    have c512 := fun o => (k484.alloc o).cell' (i := 0) rfl
    have c513 := fun o => (k484.alloc o).cell' (i := 1) rfl
    have c514 := fun o => (k484.alloc o).cell' (i := 2) rfl
    have c515 := fun o => (k485.alloc o).cell' (i := 0) rfl
    have c516 := fun o => (k485.alloc o).cell' (i := 1) rfl
    have c517 := fun o => (k485.alloc o).cell' (i := 2) rfl
    have c518 := fun o => (k486.alloc o).cell' (i := 0) rfl
    have c519 := fun o => (k486.alloc o).cell' (i := 1) rfl
    have c520 := fun o => (k486.alloc o).cell' (i := 2) rfl
    have c521 := fun o => (k486.alloc o).cell' (i := 3) rfl
    have c522 := fun o => (k486.alloc o).cell' (i := 4) rfl
    have c523 := fun o => (k486.alloc o).cell' (i := 5) rfl
    have c524 := fun o => (k487.alloc o).cell' (i := 0) rfl
    have c525 := fun o => (k487.alloc o).cell' (i := 1) rfl
    have c526 := fun o => (k487.alloc o).cell' (i := 2) rfl
    have c527 := fun o => (k488.alloc o).cell' (i := 0) rfl
    have c528 := fun o => (k488.alloc o).cell' (i := 1) rfl
    have c529 := fun o => (k488.alloc o).cell' (i := 2) rfl
    go_wp2_with fail
    obtain ⟨W530, e531⟩ : ∃ W, W = W478.alloc (.cells #[.int .i64 ((penOf p ma mb).1).p, .int .i64 ((penOf p ma mb).1).q.v, .slice Ax509 ((penOf p ma mb).1).q.f.length ax509, .slice Cx509 ((penOf p ma mb).1).q.t.length cx509, .slice Ex509 ((penOf p ma mb).1).d.length ex509, .slice Hx509 ((penOf p ma mb).1).m.length hx509] 43) := ⟨_, rfl⟩
    rw [← e531]
    have b532 : Below W478.heap.size W478 W530 := by rw [e531]; exact below_alloc _ _
    have k533 : Blk W530 W478.heap.size 43 #[.int .i64 ((penOf p ma mb).1).p, .int .i64 ((penOf p ma mb).1).q.v, .slice Ax509 ((penOf p ma mb).1).q.f.length ax509, .slice Cx509 ((penOf p ma mb).1).q.t.length cx509, .slice Ex509 ((penOf p ma mb).1).d.length ex509, .slice Hx509 ((penOf p ma mb).1).m.length hx509] := by rw [e531]; exact Blk.new _ _ _
    have s534 : W478.heap.size < W530.heap.size := by rw [e531]; simp
    clear e531
    have h535 := MxR.below (b532.mono (by omega)) h479
    have h536 := MxR.below (b532.mono (by omega)) h480
    have h537 := RpR.below (b532.mono (by omega)) h481
    have h538 := h482.below b532
    have h539 := h483.below b532
    have h540 := h427.below b532
    have k541 := k484.call b532
    have k542 := k485.call b532
    have k543 := k486.call b532
    have k544 := k487.call b532
    have k545 := k488.call b532
    have s546 : W478.heap.size ≤ W530.heap.size := b532.size
    have g547 := bthen g490 b532
    clear h479 h480 h481 h482 h483 h427 k484 k485 k486 k487 k488 g490 b532 c491 c492 c493 c494 c495 c496 c497 c498 c499 c500 c501 c502 c503 c504 c505 c506 c507 c508 c512 c513 c514 c515 c516 c517 c518 c519 c520 c521 c522 c523 c524 c525 c526 c527 c528 c529
    have c548 := k541.cell' (i := 0) rfl
    have c549 := k541.cell' (i := 1) rfl
    have c550 := k541.cell' (i := 2) rfl
    have c551 := k542.cell' (i := 0) rfl
    have c552 := k542.cell' (i := 1) rfl
    have c553 := k542.cell' (i := 2) rfl
    have c554 := k543.cell' (i := 0) rfl
    have c555 := k543.cell' (i := 1) rfl
    have c556 := k543.cell' (i := 2) rfl
    have c557 := k543.cell' (i := 3) rfl
    have c558 := k543.cell' (i := 4) rfl
    have c559 := k543.cell' (i := 5) rfl
    have c560 := k544.cell' (i := 0) rfl
    have c561 := k544.cell' (i := 1) rfl
    have c562 := k544.cell' (i := 2) rfl
    have c563 := k545.cell' (i := 0) rfl
    have c564 := k545.cell' (i := 1) rfl
    have c565 := k545.cell' (i := 2) rfl
    have c566 := k533.cell' (i := 0) rfl
    have c567 := k533.cell' (i := 1) rfl
    have c568 := k533.cell' (i := 2) rfl
    have c569 := k533.cell' (i := 3) rfl
    have c570 := k533.cell' (i := 4) rfl
    have c571 := k533.cell' (i := 5) rfl
    refine (eqRep_any _ _ _ _ _ h540.rd (RpR.more (by omega) h537)).mono ?_; rintro e W572 ⟨rfl, b511⟩
    have h573 := MxR.below (b511.mono (by omega)) h535
    have h574 := MxR.below (b511.mono (by omega)) h536
    have h575 := RpR.below (b511.mono (by omega)) h537
    have h576 := h538.below b511
    have h577 := h539.below b511
    have h578 := h540.below b511
    have k579 := k541.call b511
    have k580 := k542.call b511
    have k581 := k543.call b511
    have k582 := k544.call b511
    have k583 := k545.call b511
    have k584 := k533.call b511
    have s585 : W530.heap.size ≤ W572.heap.size := b511.size
    have g586 := bthen g547 b511
    clear h535 h536 h537 h538 h539 h540 k541 k542 k543 k544 k545 k533 g547 b511 c548 c549 c550 c551 c552 c553 c554 c555 c556 c557 c558 c559 c560 c561 c562 c563 c564 c565 c566 c567 c568 c569 c570 c571
    have c587 := k579.cell' (i := 0) rfl
    have c588 := k579.cell' (i := 1) rfl
    have c589 := k579.cell' (i := 2) rfl
    have c590 := k580.cell' (i := 0) rfl
    have c591 := k580.cell' (i := 1) rfl
    have c592 := k580.cell' (i := 2) rfl
    have c593 := k581.cell' (i := 0) rfl
    have c594 := k581.cell' (i := 1) rfl
    have c595 := k581.cell' (i := 2) rfl
    have c596 := k581.cell' (i := 3) rfl
    have c597 := k581.cell' (i := 4) rfl
    have c598 := k581.cell' (i := 5) rfl
    have c599 := k582.cell' (i := 0) rfl
    have c600 := k582.cell' (i := 1) rfl
    have c601 := k582.cell' (i := 2) rfl
    have c602 := k583.cell' (i := 0) rfl
    have c603 := k583.cell' (i := 1) rfl
    have c604 := k583.cell' (i := 2) rfl
    have c605 := k584.cell' (i := 0) rfl
    have c606 := k584.cell' (i := 1) rfl
    have c607 := k584.cell' (i := 2) rfl
    have c608 := k584.cell' (i := 3) rfl
    have c609 := k584.cell' (i := 4) rfl
    have c610 := k584.cell' (i := 5) rfl
    go_wp2_with fail
    have b611 := drew_below W572
    have h612 := MxR.below (b611.mono (by omega)) h573
    have h613 := MxR.below (b611.mono (by omega)) h574
    have h614 := RpR.below (b611.mono (by omega)) h575
    have h615 := h576.below b611
    have h616 := h577.below b611
    have h617 := h578.below b611
    have k618 := k579.call b611
    have k619 := k580.call b611
    have k620 := k581.call b611
    have k621 := k582.call b611
    have k622 := k583.call b611
    have k623 := k584.call b611
    have s624 : W572.heap.size ≤ W572.drew.heap.size := b611.size
    have g625 := bthen g586 b611
    clear h573 h574 h575 h576 h577 h578 k579 k580 k581 k582 k583 k584 g586 b611 c587 c588 c589 c590 c591 c592 c593 c594 c595 c596 c597 c598 c599 c600 c601 c602 c603 c604 c605 c606 c607 c608 c609 c610
    have c626 := k618.cell' (i := 0) rfl
    have c627 := k618.cell' (i := 1) rfl
    have c628 := k618.cell' (i := 2) rfl
    have c629 := k619.cell' (i := 0) rfl
    have c630 := k619.cell' (i := 1) rfl
    have c631 := k619.cell' (i := 2) rfl
    have c632 := k620.cell' (i := 0) rfl
    have c633 := k620.cell' (i := 1) rfl
    have c634 := k620.cell' (i := 2) rfl
    have c635 := k620.cell' (i := 3) rfl
    have c636 := k620.cell' (i := 4) rfl
    have c637 := k620.cell' (i := 5) rfl
    have c638 := k621.cell' (i := 0) rfl
    have c639 := k621.cell' (i := 1) rfl
    have c640 := k621.cell' (i := 2) rfl
    have c641 := k622.cell' (i := 0) rfl
    have c642 := k622.cell' (i := 1) rfl
    have c643 := k622.cell' (i := 2) rfl
    have c644 := k623.cell' (i := 0) rfl
    have c645 := k623.cell' (i := 1) rfl
    have c646 := k623.cell' (i := 2) rfl
    have c647 := k623.cell' (i := 3) rfl
    have c648 := k623.cell' (i := 4) rfl
    have c649 := k623.cell' (i := 5) rfl
    go_region_held3 (fun W' => W'.cell? ⟨w0.heap.size, 0, none⟩ = some (.int .i64 (ma).r) ∧ W'.cell? ⟨w0.heap.size, 1, none⟩ = some (.int .i64 (ma).c) ∧ W'.cell? ⟨w0.heap.size, 2, none⟩ = some (.slice Auma (ma).a.length cuma) ∧ W'.cell? ⟨(w0.heap.size + 1), 0, none⟩ = some (.int .i64 (mb).r) ∧ W'.cell? ⟨(w0.heap.size + 1), 1, none⟩ = some (.int .i64 (mb).c) ∧ W'.cell? ⟨(w0.heap.size + 1), 2, none⟩ = some (.slice Aumb (mb).a.length cumb) ∧ W'.cell? ⟨gR262, 0, none⟩ = some (.int .i64 ((penOf p ma mb).1).p) ∧ W'.cell? ⟨gR262, 1, none⟩ = some (.int .i64 ((penOf p ma mb).1).q.v) ∧ W'.cell? ⟨gR262, 2, none⟩ = some (.slice Ax261 ((penOf p ma mb).1).q.f.length ax261) ∧ W'.cell? ⟨gR262, 3, none⟩ = some (.slice Cx261 ((penOf p ma mb).1).q.t.length cx261) ∧ W'.cell? ⟨gR262, 4, none⟩ = some (.slice Ex261 ((penOf p ma mb).1).d.length ex261) ∧ W'.cell? ⟨gR262, 5, none⟩ = some (.slice Hx261 ((penOf p ma mb).1).m.length hx261) ∧ W'.cell? ⟨W331.heap.size, 0, none⟩ = some (.int .i64 (ma).r) ∧ W'.cell? ⟨W331.heap.size, 1, none⟩ = some (.int .i64 (ma).c) ∧ W'.cell? ⟨W331.heap.size, 2, none⟩ = some (.slice Ax352 (ma).a.length cx352) ∧ W'.cell? ⟨W398.heap.size, 0, none⟩ = some (.int .i64 (mb).r) ∧ W'.cell? ⟨W398.heap.size, 1, none⟩ = some (.int .i64 (mb).c) ∧ W'.cell? ⟨W398.heap.size, 2, none⟩ = some (.slice Ax424 (mb).a.length cx424) ∧ W'.cell? ⟨W478.heap.size, 0, none⟩ = some (.int .i64 ((penOf p ma mb).1).p) ∧ W'.cell? ⟨W478.heap.size, 1, none⟩ = some (.int .i64 ((penOf p ma mb).1).q.v) ∧ W'.cell? ⟨W478.heap.size, 2, none⟩ = some (.slice Ax509 ((penOf p ma mb).1).q.f.length ax509) ∧ W'.cell? ⟨W478.heap.size, 3, none⟩ = some (.slice Cx509 ((penOf p ma mb).1).q.t.length cx509) ∧ W'.cell? ⟨W478.heap.size, 4, none⟩ = some (.slice Ex509 ((penOf p ma mb).1).d.length ex509) ∧ W'.cell? ⟨W478.heap.size, 5, none⟩ = some (.slice Hx509 ((penOf p ma mb).1).m.length hx509))
      (first | exact ⟨c626, c627, c628, c629, c630, c631, c632, c633, c634, c635, c636, c637, c638, c639, c640, c641, c642, c643, c644, c645, c646, c647, c648, c649⟩ | exact ⟨c668, c669, c670, c671, c672, c673, c674, c675, c676, c677, c678, c679, c680, c681, c682, c683, c684, c685, c686, c687, c688, c689, c690, c691⟩ | exact ⟨c709, c710, c711, c712, c713, c714, c715, c716, c717, c718, c719, c720, c721, c722, c723, c724, c725, c726, c727, c728, c729, c730, c731, c732⟩)
      (first | (go_at_call 37; refine (mx_to _ _ _ (MxR.more (by omega) h612) (by omega)).mono ?_; rintro e W653 ⟨v650, rfl, h651, b652⟩; have h654 := MxR.below (b652.mono (by omega)) h612; have h655 := MxR.below (b652.mono (by omega)) h613; have h656 := RpR.below (b652.mono (by omega)) h614; have h657 := h615.below b652; have h658 := h616.below b652; have h659 := h617.below b652; have k660 := k618.call b652; have k661 := k619.call b652; have k662 := k620.call b652; have k663 := k621.call b652; have k664 := k622.call b652; have k665 := k623.call b652; have s666 : W572.drew.heap.size ≤ W653.heap.size := b652.size; have g667 := bthen g625 b652; clear h612 h613 h614 h615 h616 h617 k618 k619 k620 k621 k622 k623 g625 b652 c626 c627 c628 c629 c630 c631 c632 c633 c634 c635 c636 c637 c638 c639 c640 c641 c642 c643 c644 c645 c646 c647 c648 c649; have c668 := k660.cell' (i := 0) rfl; have c669 := k660.cell' (i := 1) rfl; have c670 := k660.cell' (i := 2) rfl; have c671 := k661.cell' (i := 0) rfl; have c672 := k661.cell' (i := 1) rfl; have c673 := k661.cell' (i := 2) rfl; have c674 := k662.cell' (i := 0) rfl; have c675 := k662.cell' (i := 1) rfl; have c676 := k662.cell' (i := 2) rfl; have c677 := k662.cell' (i := 3) rfl; have c678 := k662.cell' (i := 4) rfl; have c679 := k662.cell' (i := 5) rfl; have c680 := k663.cell' (i := 0) rfl; have c681 := k663.cell' (i := 1) rfl; have c682 := k663.cell' (i := 2) rfl; have c683 := k664.cell' (i := 0) rfl; have c684 := k664.cell' (i := 1) rfl; have c685 := k664.cell' (i := 2) rfl; have c686 := k665.cell' (i := 0) rfl; have c687 := k665.cell' (i := 1) rfl; have c688 := k665.cell' (i := 2) rfl; have c689 := k665.cell' (i := 3) rfl; have c690 := k665.cell' (i := 4) rfl; have c691 := k665.cell' (i := 5) rfl) | (go_at_call 39; refine (eqMatrix_any _ _ _ _ _ h657.rd h651.rd).mono ?_; rintro e W693 ⟨rfl, b692⟩; have h694 := MxR.below (b692.mono (by omega)) h654; have h695 := MxR.below (b692.mono (by omega)) h655; have h696 := RpR.below (b692.mono (by omega)) h656; have h697 := h657.below b692; have h698 := h658.below b692; have h699 := h659.below b692; have h700 := h651.below b692; have k701 := k660.call b692; have k702 := k661.call b692; have k703 := k662.call b692; have k704 := k663.call b692; have k705 := k664.call b692; have k706 := k665.call b692; have s707 : W653.heap.size ≤ W693.heap.size := b692.size; have g708 := bthen g667 b692; clear h654 h655 h656 h657 h658 h659 h651 k660 k661 k662 k663 k664 k665 g667 b692 c668 c669 c670 c671 c672 c673 c674 c675 c676 c677 c678 c679 c680 c681 c682 c683 c684 c685 c686 c687 c688 c689 c690 c691; have c709 := k701.cell' (i := 0) rfl; have c710 := k701.cell' (i := 1) rfl; have c711 := k701.cell' (i := 2) rfl; have c712 := k702.cell' (i := 0) rfl; have c713 := k702.cell' (i := 1) rfl; have c714 := k702.cell' (i := 2) rfl; have c715 := k703.cell' (i := 0) rfl; have c716 := k703.cell' (i := 1) rfl; have c717 := k703.cell' (i := 2) rfl; have c718 := k703.cell' (i := 3) rfl; have c719 := k703.cell' (i := 4) rfl; have c720 := k703.cell' (i := 5) rfl; have c721 := k704.cell' (i := 0) rfl; have c722 := k704.cell' (i := 1) rfl; have c723 := k704.cell' (i := 2) rfl; have c724 := k705.cell' (i := 0) rfl; have c725 := k705.cell' (i := 1) rfl; have c726 := k705.cell' (i := 2) rfl; have c727 := k706.cell' (i := 0) rfl; have c728 := k706.cell' (i := 1) rfl; have c729 := k706.cell' (i := 2) rfl; have c730 := k706.cell' (i := 3) rfl; have c731 := k706.cell' (i := 4) rfl; have c732 := k706.cell' (i := 5) rfl))
    clear h700
    go_wp2_with fail
    have b733 := drew_below W693
    have h734 := MxR.below (b733.mono (by omega)) h694
    have h735 := MxR.below (b733.mono (by omega)) h695
    have h736 := RpR.below (b733.mono (by omega)) h696
    have h737 := h697.below b733
    have h738 := h698.below b733
    have h739 := h699.below b733
    have k740 := k701.call b733
    have k741 := k702.call b733
    have k742 := k703.call b733
    have k743 := k704.call b733
    have k744 := k705.call b733
    have k745 := k706.call b733
    have s746 : W693.heap.size ≤ W693.drew.heap.size := b733.size
    have g747 := bthen g708 b733
    clear h694 h695 h696 h697 h698 h699 k701 k702 k703 k704 k705 k706 g708 b733 c709 c710 c711 c712 c713 c714 c715 c716 c717 c718 c719 c720 c721 c722 c723 c724 c725 c726 c727 c728 c729 c730 c731 c732
    have c748 := k740.cell' (i := 0) rfl
    have c749 := k740.cell' (i := 1) rfl
    have c750 := k740.cell' (i := 2) rfl
    have c751 := k741.cell' (i := 0) rfl
    have c752 := k741.cell' (i := 1) rfl
    have c753 := k741.cell' (i := 2) rfl
    have c754 := k742.cell' (i := 0) rfl
    have c755 := k742.cell' (i := 1) rfl
    have c756 := k742.cell' (i := 2) rfl
    have c757 := k742.cell' (i := 3) rfl
    have c758 := k742.cell' (i := 4) rfl
    have c759 := k742.cell' (i := 5) rfl
    have c760 := k743.cell' (i := 0) rfl
    have c761 := k743.cell' (i := 1) rfl
    have c762 := k743.cell' (i := 2) rfl
    have c763 := k744.cell' (i := 0) rfl
    have c764 := k744.cell' (i := 1) rfl
    have c765 := k744.cell' (i := 2) rfl
    have c766 := k745.cell' (i := 0) rfl
    have c767 := k745.cell' (i := 1) rfl
    have c768 := k745.cell' (i := 2) rfl
    have c769 := k745.cell' (i := 3) rfl
    have c770 := k745.cell' (i := 4) rfl
    have c771 := k745.cell' (i := 5) rfl
    go_region_held3 (fun W' => W'.cell? ⟨w0.heap.size, 0, none⟩ = some (.int .i64 (ma).r) ∧ W'.cell? ⟨w0.heap.size, 1, none⟩ = some (.int .i64 (ma).c) ∧ W'.cell? ⟨w0.heap.size, 2, none⟩ = some (.slice Auma (ma).a.length cuma) ∧ W'.cell? ⟨(w0.heap.size + 1), 0, none⟩ = some (.int .i64 (mb).r) ∧ W'.cell? ⟨(w0.heap.size + 1), 1, none⟩ = some (.int .i64 (mb).c) ∧ W'.cell? ⟨(w0.heap.size + 1), 2, none⟩ = some (.slice Aumb (mb).a.length cumb) ∧ W'.cell? ⟨gR262, 0, none⟩ = some (.int .i64 ((penOf p ma mb).1).p) ∧ W'.cell? ⟨gR262, 1, none⟩ = some (.int .i64 ((penOf p ma mb).1).q.v) ∧ W'.cell? ⟨gR262, 2, none⟩ = some (.slice Ax261 ((penOf p ma mb).1).q.f.length ax261) ∧ W'.cell? ⟨gR262, 3, none⟩ = some (.slice Cx261 ((penOf p ma mb).1).q.t.length cx261) ∧ W'.cell? ⟨gR262, 4, none⟩ = some (.slice Ex261 ((penOf p ma mb).1).d.length ex261) ∧ W'.cell? ⟨gR262, 5, none⟩ = some (.slice Hx261 ((penOf p ma mb).1).m.length hx261) ∧ W'.cell? ⟨W331.heap.size, 0, none⟩ = some (.int .i64 (ma).r) ∧ W'.cell? ⟨W331.heap.size, 1, none⟩ = some (.int .i64 (ma).c) ∧ W'.cell? ⟨W331.heap.size, 2, none⟩ = some (.slice Ax352 (ma).a.length cx352) ∧ W'.cell? ⟨W398.heap.size, 0, none⟩ = some (.int .i64 (mb).r) ∧ W'.cell? ⟨W398.heap.size, 1, none⟩ = some (.int .i64 (mb).c) ∧ W'.cell? ⟨W398.heap.size, 2, none⟩ = some (.slice Ax424 (mb).a.length cx424) ∧ W'.cell? ⟨W478.heap.size, 0, none⟩ = some (.int .i64 ((penOf p ma mb).1).p) ∧ W'.cell? ⟨W478.heap.size, 1, none⟩ = some (.int .i64 ((penOf p ma mb).1).q.v) ∧ W'.cell? ⟨W478.heap.size, 2, none⟩ = some (.slice Ax509 ((penOf p ma mb).1).q.f.length ax509) ∧ W'.cell? ⟨W478.heap.size, 3, none⟩ = some (.slice Cx509 ((penOf p ma mb).1).q.t.length cx509) ∧ W'.cell? ⟨W478.heap.size, 4, none⟩ = some (.slice Ex509 ((penOf p ma mb).1).d.length ex509) ∧ W'.cell? ⟨W478.heap.size, 5, none⟩ = some (.slice Hx509 ((penOf p ma mb).1).m.length hx509))
      (first | exact ⟨c748, c749, c750, c751, c752, c753, c754, c755, c756, c757, c758, c759, c760, c761, c762, c763, c764, c765, c766, c767, c768, c769, c770, c771⟩ | exact ⟨c790, c791, c792, c793, c794, c795, c796, c797, c798, c799, c800, c801, c802, c803, c804, c805, c806, c807, c808, c809, c810, c811, c812, c813⟩ | exact ⟨c831, c832, c833, c834, c835, c836, c837, c838, c839, c840, c841, c842, c843, c844, c845, c846, c847, c848, c849, c850, c851, c852, c853, c854⟩)
      (first | (go_at_call 37; refine (mx_to _ _ _ (MxR.more (by omega) h735) (by omega)).mono ?_; rintro e W775 ⟨v772, rfl, h773, b774⟩; have h776 := MxR.below (b774.mono (by omega)) h734; have h777 := MxR.below (b774.mono (by omega)) h735; have h778 := RpR.below (b774.mono (by omega)) h736; have h779 := h737.below b774; have h780 := h738.below b774; have h781 := h739.below b774; have k782 := k740.call b774; have k783 := k741.call b774; have k784 := k742.call b774; have k785 := k743.call b774; have k786 := k744.call b774; have k787 := k745.call b774; have s788 : W693.drew.heap.size ≤ W775.heap.size := b774.size; have g789 := bthen g747 b774; clear h734 h735 h736 h737 h738 h739 k740 k741 k742 k743 k744 k745 g747 b774 c748 c749 c750 c751 c752 c753 c754 c755 c756 c757 c758 c759 c760 c761 c762 c763 c764 c765 c766 c767 c768 c769 c770 c771; have c790 := k782.cell' (i := 0) rfl; have c791 := k782.cell' (i := 1) rfl; have c792 := k782.cell' (i := 2) rfl; have c793 := k783.cell' (i := 0) rfl; have c794 := k783.cell' (i := 1) rfl; have c795 := k783.cell' (i := 2) rfl; have c796 := k784.cell' (i := 0) rfl; have c797 := k784.cell' (i := 1) rfl; have c798 := k784.cell' (i := 2) rfl; have c799 := k784.cell' (i := 3) rfl; have c800 := k784.cell' (i := 4) rfl; have c801 := k784.cell' (i := 5) rfl; have c802 := k785.cell' (i := 0) rfl; have c803 := k785.cell' (i := 1) rfl; have c804 := k785.cell' (i := 2) rfl; have c805 := k786.cell' (i := 0) rfl; have c806 := k786.cell' (i := 1) rfl; have c807 := k786.cell' (i := 2) rfl; have c808 := k787.cell' (i := 0) rfl; have c809 := k787.cell' (i := 1) rfl; have c810 := k787.cell' (i := 2) rfl; have c811 := k787.cell' (i := 3) rfl; have c812 := k787.cell' (i := 4) rfl; have c813 := k787.cell' (i := 5) rfl) | (go_at_call 39; refine (eqMatrix_any _ _ _ _ _ h780.rd h773.rd).mono ?_; rintro e W815 ⟨rfl, b814⟩; have h816 := MxR.below (b814.mono (by omega)) h776; have h817 := MxR.below (b814.mono (by omega)) h777; have h818 := RpR.below (b814.mono (by omega)) h778; have h819 := h779.below b814; have h820 := h780.below b814; have h821 := h781.below b814; have h822 := h773.below b814; have k823 := k782.call b814; have k824 := k783.call b814; have k825 := k784.call b814; have k826 := k785.call b814; have k827 := k786.call b814; have k828 := k787.call b814; have s829 : W775.heap.size ≤ W815.heap.size := b814.size; have g830 := bthen g789 b814; clear h776 h777 h778 h779 h780 h781 h773 k782 k783 k784 k785 k786 k787 g789 b814 c790 c791 c792 c793 c794 c795 c796 c797 c798 c799 c800 c801 c802 c803 c804 c805 c806 c807 c808 c809 c810 c811 c812 c813; have c831 := k823.cell' (i := 0) rfl; have c832 := k823.cell' (i := 1) rfl; have c833 := k823.cell' (i := 2) rfl; have c834 := k824.cell' (i := 0) rfl; have c835 := k824.cell' (i := 1) rfl; have c836 := k824.cell' (i := 2) rfl; have c837 := k825.cell' (i := 0) rfl; have c838 := k825.cell' (i := 1) rfl; have c839 := k825.cell' (i := 2) rfl; have c840 := k825.cell' (i := 3) rfl; have c841 := k825.cell' (i := 4) rfl; have c842 := k825.cell' (i := 5) rfl; have c843 := k826.cell' (i := 0) rfl; have c844 := k826.cell' (i := 1) rfl; have c845 := k826.cell' (i := 2) rfl; have c846 := k827.cell' (i := 0) rfl; have c847 := k827.cell' (i := 1) rfl; have c848 := k827.cell' (i := 2) rfl; have c849 := k828.cell' (i := 0) rfl; have c850 := k828.cell' (i := 1) rfl; have c851 := k828.cell' (i := 2) rfl; have c852 := k828.cell' (i := 3) rfl; have c853 := k828.cell' (i := 4) rfl; have c854 := k828.cell' (i := 5) rfl))
    clear h822
    go_wp2_with fail
    refine (mx_mark _ _ _ _ _ _ h819 (by omega) (by omega) (by omega)).mono ?_; rintro e W857 ⟨rfl, h855, q856⟩
    have h858 := MxR.chg h816 q856 (by omega) (by omega)
    have h859 := MxR.chg h817 q856 (by omega) (by omega)
    have h860 := RpR.chg h818 q856 (by omega) (by omega)
    have h861 := h820.chg q856 (by omega)
    have h862 := h821.chg q856 (by omega)
    have k863 := k823.chg q856 (by omega)
    have k864 := k824.chg q856 (by omega)
    have k865 := k825.chg q856 (by omega)
    have k866 := k826.chg q856 (by omega)
    have k867 := k827.chg q856 (by omega)
    have k868 := k828.chg q856 (by omega)
    have s869 : W815.heap.size ≤ W857.heap.size := q856.size
    have g870 := g830.trans (q856.below (by omega) (by omega))
    clear h816 h817 h818 h820 h821 k823 k824 k825 k826 k827 k828 g830 q856 c831 c832 c833 c834 c835 c836 c837 c838 c839 c840 c841 c842 c843 c844 c845 c846 c847 c848 c849 c850 c851 c852 c853 c854
    have c871 := k863.cell' (i := 0) rfl
    have c872 := k863.cell' (i := 1) rfl
    have c873 := k863.cell' (i := 2) rfl
    have c874 := k864.cell' (i := 0) rfl
    have c875 := k864.cell' (i := 1) rfl
    have c876 := k864.cell' (i := 2) rfl
    have c877 := k865.cell' (i := 0) rfl
    have c878 := k865.cell' (i := 1) rfl
    have c879 := k865.cell' (i := 2) rfl
    have c880 := k865.cell' (i := 3) rfl
    have c881 := k865.cell' (i := 4) rfl
    have c882 := k865.cell' (i := 5) rfl
    have c883 := k866.cell' (i := 0) rfl
    have c884 := k866.cell' (i := 1) rfl
    have c885 := k866.cell' (i := 2) rfl
    have c886 := k867.cell' (i := 0) rfl
    have c887 := k867.cell' (i := 1) rfl
    have c888 := k867.cell' (i := 2) rfl
    have c889 := k868.cell' (i := 0) rfl
    have c890 := k868.cell' (i := 1) rfl
    have c891 := k868.cell' (i := 2) rfl
    have c892 := k868.cell' (i := 3) rfl
    have c893 := k868.cell' (i := 4) rfl
    have c894 := k868.cell' (i := 5) rfl
    clear h819
    go_wp2_with fail
    refine (mx_mark _ _ _ _ _ _ h861 (by omega) (by omega) (by omega)).mono ?_; rintro e W897 ⟨rfl, h895, q896⟩
    have h898 := MxR.chg h858 q896 (by omega) (by omega)
    have h899 := MxR.chg h859 q896 (by omega) (by omega)
    have h900 := RpR.chg h860 q896 (by omega) (by omega)
    have h901 := h855.chg q896 (by omega)
    have h902 := h862.chg q896 (by omega)
    have k903 := k863.chg q896 (by omega)
    have k904 := k864.chg q896 (by omega)
    have k905 := k865.chg q896 (by omega)
    have k906 := k866.chg q896 (by omega)
    have k907 := k867.chg q896 (by omega)
    have k908 := k868.chg q896 (by omega)
    have s909 : W857.heap.size ≤ W897.heap.size := q896.size
    have g910 := g870.trans (q896.below (by omega) (by omega))
    clear h858 h859 h860 h855 h862 k863 k864 k865 k866 k867 k868 g870 q896 c871 c872 c873 c874 c875 c876 c877 c878 c879 c880 c881 c882 c883 c884 c885 c886 c887 c888 c889 c890 c891 c892 c893 c894
    have c911 := k903.cell' (i := 0) rfl
    have c912 := k903.cell' (i := 1) rfl
    have c913 := k903.cell' (i := 2) rfl
    have c914 := k904.cell' (i := 0) rfl
    have c915 := k904.cell' (i := 1) rfl
    have c916 := k904.cell' (i := 2) rfl
    have c917 := k905.cell' (i := 0) rfl
    have c918 := k905.cell' (i := 1) rfl
    have c919 := k905.cell' (i := 2) rfl
    have c920 := k905.cell' (i := 3) rfl
    have c921 := k905.cell' (i := 4) rfl
    have c922 := k905.cell' (i := 5) rfl
    have c923 := k906.cell' (i := 0) rfl
    have c924 := k906.cell' (i := 1) rfl
    have c925 := k906.cell' (i := 2) rfl
    have c926 := k907.cell' (i := 0) rfl
    have c927 := k907.cell' (i := 1) rfl
    have c928 := k907.cell' (i := 2) rfl
    have c929 := k908.cell' (i := 0) rfl
    have c930 := k908.cell' (i := 1) rfl
    have c931 := k908.cell' (i := 2) rfl
    have c932 := k908.cell' (i := 3) rfl
    have c933 := k908.cell' (i := 4) rfl
    have c934 := k908.cell' (i := 5) rfl
    clear h861
    go_wp2_with fail
    refine (eqRep_any _ _ _ _ _ h902.rd (RpR.more (by omega) h900)).mono ?_; rintro e W936 ⟨rfl, b935⟩
    have h937 := MxR.below (b935.mono (by omega)) h898
    have h938 := MxR.below (b935.mono (by omega)) h899
    have h939 := RpR.below (b935.mono (by omega)) h900
    have h940 := h901.below b935
    have h941 := h895.below b935
    have h942 := h902.below b935
    have k943 := k903.call b935
    have k944 := k904.call b935
    have k945 := k905.call b935
    have k946 := k906.call b935
    have k947 := k907.call b935
    have k948 := k908.call b935
    have s949 : W897.heap.size ≤ W936.heap.size := b935.size
    have g950 := bthen g910 b935
    clear h898 h899 h900 h901 h895 h902 k903 k904 k905 k906 k907 k908 g910 b935 c911 c912 c913 c914 c915 c916 c917 c918 c919 c920 c921 c922 c923 c924 c925 c926 c927 c928 c929 c930 c931 c932 c933 c934
    have c951 := k943.cell' (i := 0) rfl
    have c952 := k943.cell' (i := 1) rfl
    have c953 := k943.cell' (i := 2) rfl
    have c954 := k944.cell' (i := 0) rfl
    have c955 := k944.cell' (i := 1) rfl
    have c956 := k944.cell' (i := 2) rfl
    have c957 := k945.cell' (i := 0) rfl
    have c958 := k945.cell' (i := 1) rfl
    have c959 := k945.cell' (i := 2) rfl
    have c960 := k945.cell' (i := 3) rfl
    have c961 := k945.cell' (i := 4) rfl
    have c962 := k945.cell' (i := 5) rfl
    have c963 := k946.cell' (i := 0) rfl
    have c964 := k946.cell' (i := 1) rfl
    have c965 := k946.cell' (i := 2) rfl
    have c966 := k947.cell' (i := 0) rfl
    have c967 := k947.cell' (i := 1) rfl
    have c968 := k947.cell' (i := 2) rfl
    have c969 := k948.cell' (i := 0) rfl
    have c970 := k948.cell' (i := 1) rfl
    have c971 := k948.cell' (i := 2) rfl
    have c972 := k948.cell' (i := 3) rfl
    have c973 := k948.cell' (i := 4) rfl
    have c974 := k948.cell' (i := 5) rfl
    clear h940
    clear h941
    go_wp2_with fail
    refine (rep_mark _ _ _ _ _ _ h942 (by omega) (by omega) (by omega) (by omega)).mono ?_; rintro e W977 ⟨rfl, h975, q976⟩
    have h978 := MxR.chg h937 q976 (by omega) (by omega)
    have h979 := MxR.chg h938 q976 (by omega) (by omega)
    have h980 := RpR.chg h939 q976 (by omega) (by omega)
    have k981 := k943.chg q976 (by omega)
    have k982 := k944.chg q976 (by omega)
    have k983 := k945.chg q976 (by omega)
    have k984 := k946.chg q976 (by omega)
    have k985 := k947.chg q976 (by omega)
    have k986 := k948.chg q976 (by omega)
    have s987 : W936.heap.size ≤ W977.heap.size := q976.size
    have g988 := g950.trans (q976.below (by omega) (by omega))
    clear h937 h938 h939 k943 k944 k945 k946 k947 k948 g950 q976 c951 c952 c953 c954 c955 c956 c957 c958 c959 c960 c961 c962 c963 c964 c965 c966 c967 c968 c969 c970 c971 c972 c973 c974
    have c989 := k981.cell' (i := 0) rfl
    have c990 := k981.cell' (i := 1) rfl
    have c991 := k981.cell' (i := 2) rfl
    have c992 := k982.cell' (i := 0) rfl
    have c993 := k982.cell' (i := 1) rfl
    have c994 := k982.cell' (i := 2) rfl
    have c995 := k983.cell' (i := 0) rfl
    have c996 := k983.cell' (i := 1) rfl
    have c997 := k983.cell' (i := 2) rfl
    have c998 := k983.cell' (i := 3) rfl
    have c999 := k983.cell' (i := 4) rfl
    have c1000 := k983.cell' (i := 5) rfl
    have c1001 := k984.cell' (i := 0) rfl
    have c1002 := k984.cell' (i := 1) rfl
    have c1003 := k984.cell' (i := 2) rfl
    have c1004 := k985.cell' (i := 0) rfl
    have c1005 := k985.cell' (i := 1) rfl
    have c1006 := k985.cell' (i := 2) rfl
    have c1007 := k986.cell' (i := 0) rfl
    have c1008 := k986.cell' (i := 1) rfl
    have c1009 := k986.cell' (i := 2) rfl
    have c1010 := k986.cell' (i := 3) rfl
    have c1011 := k986.cell' (i := 4) rfl
    have c1012 := k986.cell' (i := 5) rfl
    clear h942
    go_wp2_with fail
    refine (rep_held _ _ _ _ h975.rd (by omega) (by omega) (by omega)).mono ?_; rintro e W1014 ⟨rfl, b1013⟩
    have h1015 := MxR.below (b1013.mono (by omega)) h978
    have h1016 := MxR.below (b1013.mono (by omega)) h979
    have h1017 := RpR.below (b1013.mono (by omega)) h980
    have h1018 := h975.below b1013
    have k1019 := k981.call b1013
    have k1020 := k982.call b1013
    have k1021 := k983.call b1013
    have k1022 := k984.call b1013
    have k1023 := k985.call b1013
    have k1024 := k986.call b1013
    have s1025 : W977.heap.size ≤ W1014.heap.size := b1013.size
    have g1026 := bthen g988 b1013
    clear h978 h979 h980 h975 k981 k982 k983 k984 k985 k986 g988 b1013 c989 c990 c991 c992 c993 c994 c995 c996 c997 c998 c999 c1000 c1001 c1002 c1003 c1004 c1005 c1006 c1007 c1008 c1009 c1010 c1011 c1012
    have c1027 := k1019.cell' (i := 0) rfl
    have c1028 := k1019.cell' (i := 1) rfl
    have c1029 := k1019.cell' (i := 2) rfl
    have c1030 := k1020.cell' (i := 0) rfl
    have c1031 := k1020.cell' (i := 1) rfl
    have c1032 := k1020.cell' (i := 2) rfl
    have c1033 := k1021.cell' (i := 0) rfl
    have c1034 := k1021.cell' (i := 1) rfl
    have c1035 := k1021.cell' (i := 2) rfl
    have c1036 := k1021.cell' (i := 3) rfl
    have c1037 := k1021.cell' (i := 4) rfl
    have c1038 := k1021.cell' (i := 5) rfl
    have c1039 := k1022.cell' (i := 0) rfl
    have c1040 := k1022.cell' (i := 1) rfl
    have c1041 := k1022.cell' (i := 2) rfl
    have c1042 := k1023.cell' (i := 0) rfl
    have c1043 := k1023.cell' (i := 1) rfl
    have c1044 := k1023.cell' (i := 2) rfl
    have c1045 := k1024.cell' (i := 0) rfl
    have c1046 := k1024.cell' (i := 1) rfl
    have c1047 := k1024.cell' (i := 2) rfl
    have c1048 := k1024.cell' (i := 3) rfl
    have c1049 := k1024.cell' (i := 4) rfl
    have c1050 := k1024.cell' (i := 5) rfl
    go_wp2_with fail
    refine wp_region_net2 (by kernel_rfl) [.eq (.int .i64 p), .eq (.agg #[.int .i64 (ma).r, .int .i64 (ma).c, .slice Auma (ma).a.length cuma]), rel 2 (fun u lo hi w => MxO w lo hi u ma), .eq (.agg #[.int .i64 (mb).r, .int .i64 (mb).c, .slice Aumb (mb).a.length cumb]), rel 4 (fun u lo hi w => MxO w lo hi u mb), .rel (fun x w => ∃ Ax1051 ax1051 Cx1051 cx1051 Ex1051 ex1051 Hx1051 hx1051, x.v 5 = .tuple #[.agg #[.int .i64 ((penOf p ma mb).1).p, .int .i64 ((penOf p ma mb).1).q.v, .slice Ax1051 ((penOf p ma mb).1).q.f.length ax1051, .slice Cx1051 ((penOf p ma mb).1).q.t.length cx1051, .slice Ex1051 ((penOf p ma mb).1).d.length ex1051, .slice Hx1051 ((penOf p ma mb).1).m.length hx1051], .bool (penOf p ma mb).2] ∧ RepO w (x.lo 5) (x.hi 5) (.agg #[.int .i64 ((penOf p ma mb).1).p, .int .i64 ((penOf p ma mb).1).q.v, .slice Ax1051 ((penOf p ma mb).1).q.f.length ax1051, .slice Cx1051 ((penOf p ma mb).1).q.t.length cx1051, .slice Ex1051 ((penOf p ma mb).1).d.length ex1051, .slice Hx1051 ((penOf p ma mb).1).m.length hx1051]) (penOf p ma mb).1), .rel (fun x w => ∃ Ax1051 ax1051 Cx1051 cx1051 Ex1051 ex1051 Hx1051 hx1051, x.v 6 = .tuple #[.agg #[.int .i64 ((penOf p ma mb).1).p, .int .i64 ((penOf p ma mb).1).q.v, .slice Ax1051 ((penOf p ma mb).1).q.f.length ax1051, .slice Cx1051 ((penOf p ma mb).1).q.t.length cx1051, .slice Ex1051 ((penOf p ma mb).1).d.length ex1051, .slice Hx1051 ((penOf p ma mb).1).m.length hx1051], .bool (penOf p ma mb).2] ∧ RepO w (x.lo 5) (x.hi 5) (.agg #[.int .i64 ((penOf p ma mb).1).p, .int .i64 ((penOf p ma mb).1).q.v, .slice Ax1051 ((penOf p ma mb).1).q.f.length ax1051, .slice Cx1051 ((penOf p ma mb).1).q.t.length cx1051, .slice Ex1051 ((penOf p ma mb).1).d.length ex1051, .slice Hx1051 ((penOf p ma mb).1).m.length hx1051]) (penOf p ma mb).1), .rel (fun x w => ∃ Ax1051 ax1051 Cx1051 cx1051 Ex1051 ex1051 Hx1051 hx1051, x.v 7 = .agg #[.int .i64 ((penOf p ma mb).1).p, .int .i64 ((penOf p ma mb).1).q.v, .slice Ax1051 ((penOf p ma mb).1).q.f.length ax1051, .slice Cx1051 ((penOf p ma mb).1).q.t.length cx1051, .slice Ex1051 ((penOf p ma mb).1).d.length ex1051, .slice Hx1051 ((penOf p ma mb).1).m.length hx1051] ∧ RepO w (x.lo 5) (x.hi 5) (.agg #[.int .i64 ((penOf p ma mb).1).p, .int .i64 ((penOf p ma mb).1).q.v, .slice Ax1051 ((penOf p ma mb).1).q.f.length ax1051, .slice Cx1051 ((penOf p ma mb).1).q.t.length cx1051, .slice Ex1051 ((penOf p ma mb).1).d.length ex1051, .slice Hx1051 ((penOf p ma mb).1).m.length hx1051]) (penOf p ma mb).1), .eq (.bool (penOf p ma mb).2), rel 9 (fun u lo hi w => ∃ g, u = .pointer (some ⟨g, 0, none⟩) ∧ (lo ≤ g ∧ g < hi) ∧ Blk w g 43 #[.int .i64 0, .int .i64 0, .slice none 0 0, .slice none 0 0, .slice none 0 0, .slice none 0 0])] [[], [], [1], [], [1, 2, 3], [0, 1, 2, 3, 4], [0, 1, 2, 3, 4, 5], [0, 1, 2, 3, 4, 5, 6], [0, 1, 2, 3, 4, 5, 6], [], [0, 1, 2, 3, 4, 5, 6, 7, 9], [0, 1, 2, 3, 4, 5, 6, 7, 8, 9, 10]] 10 8 [0, 1, 2, 3, 4, 5, 6, 7, 9] (by kernel_rfl) rfl ⟨trivial, trivial, rel_stable (fun u lo hi w w' h hb => h.below hb), trivial, rel_stable (fun u lo hi w w' h hb => h.below hb), fun x w w' ⟨Ax1051, ax1051, Cx1051, cx1051, Ex1051, ex1051, Hx1051, hx1051, e, h⟩ hb => ⟨Ax1051, ax1051, Cx1051, cx1051, Ex1051, ex1051, Hx1051, hx1051, e, h.below hb⟩, fun x w w' ⟨Ax1051, ax1051, Cx1051, cx1051, Ex1051, ex1051, Hx1051, hx1051, e, h⟩ hb => ⟨Ax1051, ax1051, Cx1051, cx1051, Ex1051, ex1051, Hx1051, hx1051, e, h.below hb⟩, fun x w w' ⟨Ax1051, ax1051, Cx1051, cx1051, Ex1051, ex1051, Hx1051, hx1051, e, h⟩ hb => ⟨Ax1051, ax1051, Cx1051, cx1051, Ex1051, ex1051, Hx1051, hx1051, e, h.below hb⟩, trivial, rel_stable (fun u lo hi w w' ⟨g, e, h1, h⟩ hb => ⟨g, e, h1, h.call hb⟩), trivial⟩ ⟨?_, ?_, ?_, ?_, ?_, ?_, ?_, ?_, ?_, ?_, trivial⟩ ?_ ?_
    · intro x w hb hk Q' hQ
      clear hk
      simp only [netAct, dstAt, List.getElem?_toArray, List.getElem?_cons_zero, List.getElem?_cons_succ, Option.bind_some, Act.put, List.setIfInBounds_toArray, List.set_cons_zero, List.set_cons_succ] at hQ ⊢
      go_wp2
      exact hQ (.int .i64 p) _ (Below.refl _ _) rfl
    · intro x w hb hk Q' hQ
      clear hk
      simp only [netAct, dstAt, List.getElem?_toArray, List.getElem?_cons_zero, List.getElem?_cons_succ, Option.bind_some, Act.put, List.setIfInBounds_toArray, List.set_cons_zero, List.set_cons_succ] at hQ ⊢
      have z0 := (k1019.call hb).cell' (i := 0) rfl
      have z1 := (k1019.call hb).cell' (i := 1) rfl
      have z2 := (k1019.call hb).cell' (i := 2) rfl
      go_wp2
      exact hQ (.agg #[.int .i64 (ma).r, .int .i64 (ma).c, .slice Auma (ma).a.length cuma]) _ (Below.refl _ _) rfl
    · intro x w hb hk Q' hQ
      have h1 : x.v 1 = .agg #[.int .i64 (ma).r, .int .i64 (ma).c, .slice Auma (ma).a.length cuma] := (hk 1 (by decide)).1
      clear hk
      simp only [netAct, dstAt, List.getElem?_toArray, List.getElem?_cons_zero, List.getElem?_cons_succ, Option.bind_some, Act.put, List.setIfInBounds_toArray, List.set_cons_zero, List.set_cons_succ] at hQ ⊢
      simp only [h1] at hQ ⊢
      clear h1
      have hs := hb.size
      go_wp2_with fail
      refine (mx_to _ _ _ (MxR.more (by omega) (MxR.below (hb.mono (by omega)) h1015)) (by omega)).mono ?_; rintro e w1 ⟨v1, rfl, ho, hb1⟩
      go_wp2
      exact hQ _ _ hb1 ho
    · intro x w hb hk Q' hQ
      clear hk
      simp only [netAct, dstAt, List.getElem?_toArray, List.getElem?_cons_zero, List.getElem?_cons_succ, Option.bind_some, Act.put, List.setIfInBounds_toArray, List.set_cons_zero, List.set_cons_succ] at hQ ⊢
      have z0 := (k1020.call hb).cell' (i := 0) rfl
      have z1 := (k1020.call hb).cell' (i := 1) rfl
      have z2 := (k1020.call hb).cell' (i := 2) rfl
      go_wp2
      exact hQ (.agg #[.int .i64 (mb).r, .int .i64 (mb).c, .slice Aumb (mb).a.length cumb]) _ (Below.refl _ _) rfl
    · intro x w hb hk Q' hQ
      have h1 : x.v 1 = .agg #[.int .i64 (ma).r, .int .i64 (ma).c, .slice Auma (ma).a.length cuma] := (hk 1 (by decide)).1
      have h2 : MxO w (x.lo 2) (x.hi 2) (x.v 2) ma := (hk 2 (by decide)).1
      have h3 : x.v 3 = .agg #[.int .i64 (mb).r, .int .i64 (mb).c, .slice Aumb (mb).a.length cumb] := (hk 3 (by decide)).1
      have s2 := (hk 2 (by decide)).2
      clear hk
      simp only [netAct, dstAt, List.getElem?_toArray, List.getElem?_cons_zero, List.getElem?_cons_succ, Option.bind_some, Act.put, List.setIfInBounds_toArray, List.set_cons_zero, List.set_cons_succ] at hQ ⊢
      simp only [h1, h3] at hQ ⊢
      clear h1 h3
      have hs := hb.size
      go_wp2_with fail
      refine (mx_to _ _ _ (MxR.more (by omega) (MxR.below (hb.mono (by omega)) h1016)) (by omega)).mono ?_; rintro e w1 ⟨v1, rfl, ho, hb1⟩
      go_wp2
      exact hQ _ _ hb1 ho
    · intro x w hb hk Q' hQ
      have h0 : x.v 0 = .int .i64 p := (hk 0 (by decide)).1
      have h1 : x.v 1 = .agg #[.int .i64 (ma).r, .int .i64 (ma).c, .slice Auma (ma).a.length cuma] := (hk 1 (by decide)).1
      have h2 : MxO w (x.lo 2) (x.hi 2) (x.v 2) ma := (hk 2 (by decide)).1
      have h3 : x.v 3 = .agg #[.int .i64 (mb).r, .int .i64 (mb).c, .slice Aumb (mb).a.length cumb] := (hk 3 (by decide)).1
      have h4 : MxO w (x.lo 4) (x.hi 4) (x.v 4) mb := (hk 4 (by decide)).1
      have s2 := (hk 2 (by decide)).2
      have s4 := (hk 4 (by decide)).2
      clear hk
      simp only [netAct, dstAt, List.getElem?_toArray, List.getElem?_cons_zero, List.getElem?_cons_succ, Option.bind_some, Act.put, List.setIfInBounds_toArray, List.set_cons_zero, List.set_cons_succ] at hQ ⊢
      simp only [h0, h1, h3] at hQ ⊢
      clear h0 h1 h3
      obtain ⟨Aq2, cq2, e2⟩ := h2.form; rw [e2] at h2 hQ ⊢
      obtain ⟨Aq4, cq4, e4⟩ := h4.form; rw [e4] at h4 hQ ⊢
      go_wp2_with fail
      refine (implPencilOf_any _ _ _ _ _ _ rng_p h2.rd h4.rd).mono ?_; rintro e w1 ⟨v1, rfl, ho, hb1⟩
      obtain ⟨Ax1051, ax1051, Cx1051, cx1051, Ex1051, ex1051, Hx1051, hx1051, ev⟩ := ho.form; subst ev
      go_wp2
      exact hQ _ _ hb1 ⟨_, _, _, _, _, _, _, _, rfl, ho⟩
    · intro x w hb hk Q' hQ
      have h0 : x.v 0 = .int .i64 p := (hk 0 (by decide)).1
      have h1 : x.v 1 = .agg #[.int .i64 (ma).r, .int .i64 (ma).c, .slice Auma (ma).a.length cuma] := (hk 1 (by decide)).1
      have h2 : MxO w (x.lo 2) (x.hi 2) (x.v 2) ma := (hk 2 (by decide)).1
      have h3 : x.v 3 = .agg #[.int .i64 (mb).r, .int .i64 (mb).c, .slice Aumb (mb).a.length cumb] := (hk 3 (by decide)).1
      have h4 : MxO w (x.lo 4) (x.hi 4) (x.v 4) mb := (hk 4 (by decide)).1
      have h5 : ∃ Ax1051 ax1051 Cx1051 cx1051 Ex1051 ex1051 Hx1051 hx1051, x.v 5 = .tuple #[.agg #[.int .i64 ((penOf p ma mb).1).p, .int .i64 ((penOf p ma mb).1).q.v, .slice Ax1051 ((penOf p ma mb).1).q.f.length ax1051, .slice Cx1051 ((penOf p ma mb).1).q.t.length cx1051, .slice Ex1051 ((penOf p ma mb).1).d.length ex1051, .slice Hx1051 ((penOf p ma mb).1).m.length hx1051], .bool (penOf p ma mb).2] ∧ RepO w (x.lo 5) (x.hi 5) (.agg #[.int .i64 ((penOf p ma mb).1).p, .int .i64 ((penOf p ma mb).1).q.v, .slice Ax1051 ((penOf p ma mb).1).q.f.length ax1051, .slice Cx1051 ((penOf p ma mb).1).q.t.length cx1051, .slice Ex1051 ((penOf p ma mb).1).d.length ex1051, .slice Hx1051 ((penOf p ma mb).1).m.length hx1051]) (penOf p ma mb).1 := (hk 5 (by decide)).1
      have s2 := (hk 2 (by decide)).2
      have s4 := (hk 4 (by decide)).2
      have s5 := (hk 5 (by decide)).2
      clear hk
      simp only [netAct, dstAt, List.getElem?_toArray, List.getElem?_cons_zero, List.getElem?_cons_succ, Option.bind_some, Act.put, List.setIfInBounds_toArray, List.set_cons_zero, List.set_cons_succ] at hQ ⊢
      simp only [h0, h1, h3] at hQ ⊢
      clear h0 h1 h3
      obtain ⟨Ax1051, ax1051, Cx1051, cx1051, Ex1051, ex1051, Hx1051, hx1051, e1, ho⟩ := h5
      have hQ' := hQ (.tuple #[.agg #[.int .i64 ((penOf p ma mb).1).p, .int .i64 ((penOf p ma mb).1).q.v, .slice Ax1051 ((penOf p ma mb).1).q.f.length ax1051, .slice Cx1051 ((penOf p ma mb).1).q.t.length cx1051, .slice Ex1051 ((penOf p ma mb).1).d.length ex1051, .slice Hx1051 ((penOf p ma mb).1).m.length hx1051], .bool (penOf p ma mb).2]) w (Below.refl _ _) ⟨Ax1051, ax1051, Cx1051, cx1051, Ex1051, ex1051, Hx1051, hx1051, rfl, ho⟩
      rw [e1] at hQ' ⊢
      go_wp2
      exact hQ'
    · intro x w hb hk Q' hQ
      have h0 : x.v 0 = .int .i64 p := (hk 0 (by decide)).1
      have h1 : x.v 1 = .agg #[.int .i64 (ma).r, .int .i64 (ma).c, .slice Auma (ma).a.length cuma] := (hk 1 (by decide)).1
      have h2 : MxO w (x.lo 2) (x.hi 2) (x.v 2) ma := (hk 2 (by decide)).1
      have h3 : x.v 3 = .agg #[.int .i64 (mb).r, .int .i64 (mb).c, .slice Aumb (mb).a.length cumb] := (hk 3 (by decide)).1
      have h4 : MxO w (x.lo 4) (x.hi 4) (x.v 4) mb := (hk 4 (by decide)).1
      have h5 : ∃ Ax1051 ax1051 Cx1051 cx1051 Ex1051 ex1051 Hx1051 hx1051, x.v 5 = .tuple #[.agg #[.int .i64 ((penOf p ma mb).1).p, .int .i64 ((penOf p ma mb).1).q.v, .slice Ax1051 ((penOf p ma mb).1).q.f.length ax1051, .slice Cx1051 ((penOf p ma mb).1).q.t.length cx1051, .slice Ex1051 ((penOf p ma mb).1).d.length ex1051, .slice Hx1051 ((penOf p ma mb).1).m.length hx1051], .bool (penOf p ma mb).2] ∧ RepO w (x.lo 5) (x.hi 5) (.agg #[.int .i64 ((penOf p ma mb).1).p, .int .i64 ((penOf p ma mb).1).q.v, .slice Ax1051 ((penOf p ma mb).1).q.f.length ax1051, .slice Cx1051 ((penOf p ma mb).1).q.t.length cx1051, .slice Ex1051 ((penOf p ma mb).1).d.length ex1051, .slice Hx1051 ((penOf p ma mb).1).m.length hx1051]) (penOf p ma mb).1 := (hk 5 (by decide)).1
      have h6 : ∃ Ax1051 ax1051 Cx1051 cx1051 Ex1051 ex1051 Hx1051 hx1051, x.v 6 = .tuple #[.agg #[.int .i64 ((penOf p ma mb).1).p, .int .i64 ((penOf p ma mb).1).q.v, .slice Ax1051 ((penOf p ma mb).1).q.f.length ax1051, .slice Cx1051 ((penOf p ma mb).1).q.t.length cx1051, .slice Ex1051 ((penOf p ma mb).1).d.length ex1051, .slice Hx1051 ((penOf p ma mb).1).m.length hx1051], .bool (penOf p ma mb).2] ∧ RepO w (x.lo 5) (x.hi 5) (.agg #[.int .i64 ((penOf p ma mb).1).p, .int .i64 ((penOf p ma mb).1).q.v, .slice Ax1051 ((penOf p ma mb).1).q.f.length ax1051, .slice Cx1051 ((penOf p ma mb).1).q.t.length cx1051, .slice Ex1051 ((penOf p ma mb).1).d.length ex1051, .slice Hx1051 ((penOf p ma mb).1).m.length hx1051]) (penOf p ma mb).1 := (hk 6 (by decide)).1
      have s2 := (hk 2 (by decide)).2
      have s4 := (hk 4 (by decide)).2
      have s5 := (hk 5 (by decide)).2
      have s6 := (hk 6 (by decide)).2
      clear hk
      simp only [netAct, dstAt, List.getElem?_toArray, List.getElem?_cons_zero, List.getElem?_cons_succ, Option.bind_some, Act.put, List.setIfInBounds_toArray, List.set_cons_zero, List.set_cons_succ] at hQ ⊢
      simp only [h0, h1, h3] at hQ ⊢
      clear h0 h1 h3
      obtain ⟨Ax1051, ax1051, Cx1051, cx1051, Ex1051, ex1051, Hx1051, hx1051, e1, ho⟩ := h6
      have hQ' := hQ (.agg #[.int .i64 ((penOf p ma mb).1).p, .int .i64 ((penOf p ma mb).1).q.v, .slice Ax1051 ((penOf p ma mb).1).q.f.length ax1051, .slice Cx1051 ((penOf p ma mb).1).q.t.length cx1051, .slice Ex1051 ((penOf p ma mb).1).d.length ex1051, .slice Hx1051 ((penOf p ma mb).1).m.length hx1051]) w (Below.refl _ _) ⟨Ax1051, ax1051, Cx1051, cx1051, Ex1051, ex1051, Hx1051, hx1051, rfl, ho⟩
      rw [e1] at hQ' ⊢
      go_wp2
      exact hQ'
    · intro x w hb hk Q' hQ
      have h6 : ∃ Ax1051 ax1051 Cx1051 cx1051 Ex1051 ex1051 Hx1051 hx1051, x.v 6 = .tuple #[.agg #[.int .i64 ((penOf p ma mb).1).p, .int .i64 ((penOf p ma mb).1).q.v, .slice Ax1051 ((penOf p ma mb).1).q.f.length ax1051, .slice Cx1051 ((penOf p ma mb).1).q.t.length cx1051, .slice Ex1051 ((penOf p ma mb).1).d.length ex1051, .slice Hx1051 ((penOf p ma mb).1).m.length hx1051], .bool (penOf p ma mb).2] ∧ RepO w (x.lo 5) (x.hi 5) (.agg #[.int .i64 ((penOf p ma mb).1).p, .int .i64 ((penOf p ma mb).1).q.v, .slice Ax1051 ((penOf p ma mb).1).q.f.length ax1051, .slice Cx1051 ((penOf p ma mb).1).q.t.length cx1051, .slice Ex1051 ((penOf p ma mb).1).d.length ex1051, .slice Hx1051 ((penOf p ma mb).1).m.length hx1051]) (penOf p ma mb).1 := (hk 6 (by decide)).1
      clear hk
      simp only [netAct, dstAt, List.getElem?_toArray, List.getElem?_cons_zero, List.getElem?_cons_succ, Option.bind_some, Act.put, List.setIfInBounds_toArray, List.set_cons_zero, List.set_cons_succ] at hQ ⊢
      obtain ⟨Ax1051, ax1051, Cx1051, cx1051, Ex1051, ex1051, Hx1051, hx1051, e1, ho⟩ := h6
      rw [e1] at hQ ⊢
      go_wp2
      exact hQ (.bool (penOf p ma mb).2) _ (Below.refl _ _) rfl
    · intro x w hb hk Q' hQ
      clear hk
      simp only [netAct, dstAt, List.getElem?_toArray, List.getElem?_cons_zero, List.getElem?_cons_succ, Option.bind_some, Act.put, List.setIfInBounds_toArray, List.set_cons_zero, List.set_cons_succ] at hQ ⊢
      go_wp2
      exact hQ _ _ (below_alloc _ _) ⟨_, rfl, ⟨Nat.le_refl _, by show w.heap.size < (w.alloc _).heap.size; simp⟩, Blk.new _ _ _⟩
    · intro x w hb hk hiv hdj
      have h0 : x.v 0 = .int .i64 p := hk 0 (by decide)
      have h1 : x.v 1 = .agg #[.int .i64 (ma).r, .int .i64 (ma).c, .slice Auma (ma).a.length cuma] := hk 1 (by decide)
      have h2 : MxO w (x.lo 2) (x.hi 2) (x.v 2) ma := hk 2 (by decide)
      have h3 : x.v 3 = .agg #[.int .i64 (mb).r, .int .i64 (mb).c, .slice Aumb (mb).a.length cumb] := hk 3 (by decide)
      have h4 : MxO w (x.lo 4) (x.hi 4) (x.v 4) mb := hk 4 (by decide)
      have h5 : ∃ Ax1051 ax1051 Cx1051 cx1051 Ex1051 ex1051 Hx1051 hx1051, x.v 5 = .tuple #[.agg #[.int .i64 ((penOf p ma mb).1).p, .int .i64 ((penOf p ma mb).1).q.v, .slice Ax1051 ((penOf p ma mb).1).q.f.length ax1051, .slice Cx1051 ((penOf p ma mb).1).q.t.length cx1051, .slice Ex1051 ((penOf p ma mb).1).d.length ex1051, .slice Hx1051 ((penOf p ma mb).1).m.length hx1051], .bool (penOf p ma mb).2] ∧ RepO w (x.lo 5) (x.hi 5) (.agg #[.int .i64 ((penOf p ma mb).1).p, .int .i64 ((penOf p ma mb).1).q.v, .slice Ax1051 ((penOf p ma mb).1).q.f.length ax1051, .slice Cx1051 ((penOf p ma mb).1).q.t.length cx1051, .slice Ex1051 ((penOf p ma mb).1).d.length ex1051, .slice Hx1051 ((penOf p ma mb).1).m.length hx1051]) (penOf p ma mb).1 := hk 5 (by decide)
      have h6 : ∃ Ax1051 ax1051 Cx1051 cx1051 Ex1051 ex1051 Hx1051 hx1051, x.v 6 = .tuple #[.agg #[.int .i64 ((penOf p ma mb).1).p, .int .i64 ((penOf p ma mb).1).q.v, .slice Ax1051 ((penOf p ma mb).1).q.f.length ax1051, .slice Cx1051 ((penOf p ma mb).1).q.t.length cx1051, .slice Ex1051 ((penOf p ma mb).1).d.length ex1051, .slice Hx1051 ((penOf p ma mb).1).m.length hx1051], .bool (penOf p ma mb).2] ∧ RepO w (x.lo 5) (x.hi 5) (.agg #[.int .i64 ((penOf p ma mb).1).p, .int .i64 ((penOf p ma mb).1).q.v, .slice Ax1051 ((penOf p ma mb).1).q.f.length ax1051, .slice Cx1051 ((penOf p ma mb).1).q.t.length cx1051, .slice Ex1051 ((penOf p ma mb).1).d.length ex1051, .slice Hx1051 ((penOf p ma mb).1).m.length hx1051]) (penOf p ma mb).1 := hk 6 (by decide)
      have h7 : ∃ Ax1051 ax1051 Cx1051 cx1051 Ex1051 ex1051 Hx1051 hx1051, x.v 7 = .agg #[.int .i64 ((penOf p ma mb).1).p, .int .i64 ((penOf p ma mb).1).q.v, .slice Ax1051 ((penOf p ma mb).1).q.f.length ax1051, .slice Cx1051 ((penOf p ma mb).1).q.t.length cx1051, .slice Ex1051 ((penOf p ma mb).1).d.length ex1051, .slice Hx1051 ((penOf p ma mb).1).m.length hx1051] ∧ RepO w (x.lo 5) (x.hi 5) (.agg #[.int .i64 ((penOf p ma mb).1).p, .int .i64 ((penOf p ma mb).1).q.v, .slice Ax1051 ((penOf p ma mb).1).q.f.length ax1051, .slice Cx1051 ((penOf p ma mb).1).q.t.length cx1051, .slice Ex1051 ((penOf p ma mb).1).d.length ex1051, .slice Hx1051 ((penOf p ma mb).1).m.length hx1051]) (penOf p ma mb).1 := hk 7 (by decide)
      have h8 : x.v 8 = .bool (penOf p ma mb).2 := hk 8 (by decide)
      have h9 : ∃ g, (x.v 9) = .pointer (some ⟨g, 0, none⟩) ∧ ((x.lo 9) ≤ g ∧ g < (x.hi 9)) ∧ Blk w g 43 #[.int .i64 0, .int .i64 0, .slice none 0 0, .slice none 0 0, .slice none 0 0, .slice none 0 0] := hk 9 (by decide)
      clear hk
      simp only [netAct, dstAt, List.getElem?_toArray, List.getElem?_cons_zero, List.getElem?_cons_succ, Option.bind_some, Act.put, List.setIfInBounds_toArray, List.set_cons_zero, List.set_cons_succ]
      simp only [List.drop_succ_cons, List.drop_zero, h0, h1, h3, h8]
      clear h0 h1 h3 h8
      obtain ⟨Ax1051, ax1051, Cx1051, cx1051, Ex1051, ex1051, Hx1051, hx1051, e1054, h1053⟩ := h7
      obtain ⟨gR1052, e1055, y1056, k1057⟩ := h9
      rw [e1054, e1055]
      have y1058 := hiv 5 (by decide)
      have y1059 := hiv 9 (by decide)
      have y1060 := hdj 5 9 (by decide) (by decide) (by decide)
      have s1062 := hb.size
      have b1061 := hb
      clear hb hiv hdj e1054 e1055 h2 h4 h5
      obtain ⟨Ax1051b, ax1051b, Cx1051b, cx1051b, Ex1051b, ex1051b, Hx1051b, hx1051b, e1063, _⟩ := h6; rw [e1063]; clear e1063
      have h1065 := MxR.below (b1061.mono (by omega)) h1015
      have h1066 := MxR.below (b1061.mono (by omega)) h1016
      have h1067 := RpR.below (b1061.mono (by omega)) h1017
      have h1068 := h1018.below b1061
      have k1069 := k1019.call b1061
      have k1070 := k1020.call b1061
      have k1071 := k1021.call b1061
      have k1072 := k1022.call b1061
      have k1073 := k1023.call b1061
      have k1074 := k1024.call b1061
      have s1075 : W1014.heap.size ≤ w.heap.size := b1061.size
      have g1076 := bthen g1026 b1061
      clear h1015 h1016 h1017 h1018 k1019 k1020 k1021 k1022 k1023 k1024 g1026 b1061 c1027 c1028 c1029 c1030 c1031 c1032 c1033 c1034 c1035 c1036 c1037 c1038 c1039 c1040 c1041 c1042 c1043 c1044 c1045 c1046 c1047 c1048 c1049 c1050
      have c1077 := k1069.cell' (i := 0) rfl
      have c1078 := k1069.cell' (i := 1) rfl
      have c1079 := k1069.cell' (i := 2) rfl
      have c1080 := k1070.cell' (i := 0) rfl
      have c1081 := k1070.cell' (i := 1) rfl
      have c1082 := k1070.cell' (i := 2) rfl
      have c1083 := k1071.cell' (i := 0) rfl
      have c1084 := k1071.cell' (i := 1) rfl
      have c1085 := k1071.cell' (i := 2) rfl
      have c1086 := k1071.cell' (i := 3) rfl
      have c1087 := k1071.cell' (i := 4) rfl
      have c1088 := k1071.cell' (i := 5) rfl
      have c1089 := k1072.cell' (i := 0) rfl
      have c1090 := k1072.cell' (i := 1) rfl
      have c1091 := k1072.cell' (i := 2) rfl
      have c1092 := k1073.cell' (i := 0) rfl
      have c1093 := k1073.cell' (i := 1) rfl
      have c1094 := k1073.cell' (i := 2) rfl
      have c1095 := k1074.cell' (i := 0) rfl
      have c1096 := k1074.cell' (i := 1) rfl
      have c1097 := k1074.cell' (i := 2) rfl
      have c1098 := k1074.cell' (i := 3) rfl
      have c1099 := k1074.cell' (i := 4) rfl
      have c1100 := k1074.cell' (i := 5) rfl
      have f1101 := k1057.frozen
      have r1102 := k1057.cell' (i := 0) rfl
      have r1103 := k1057.cell' (i := 1) rfl
      have r1104 := k1057.cell' (i := 2) rfl
      have r1105 := k1057.cell' (i := 3) rfl
      have r1106 := k1057.cell' (i := 4) rfl
      have r1107 := k1057.cell' (i := 5) rfl
      obtain ⟨W1108, eW1108⟩ : ∃ u, u = ((((((w.setCell ⟨gR1052, 0, none⟩ (.int .i64 ((penOf p ma mb).1).p)).setCell ⟨gR1052, 1, none⟩ (.int .i64 ((penOf p ma mb).1).q.v)).setCell ⟨gR1052, 2, none⟩ (.slice Ax1051 ((penOf p ma mb).1).q.f.length ax1051)).setCell ⟨gR1052, 3, none⟩ (.slice Cx1051 ((penOf p ma mb).1).q.t.length cx1051)).setCell ⟨gR1052, 4, none⟩ (.slice Ex1051 ((penOf p ma mb).1).d.length ex1051)).setCell ⟨gR1052, 5, none⟩ (.slice Hx1051 ((penOf p ma mb).1).m.length hx1051)) := ⟨_, rfl⟩
      have k1109 : Blk W1108 gR1052 43 #[.int .i64 ((penOf p ma mb).1).p, .int .i64 ((penOf p ma mb).1).q.v, .slice Ax1051 ((penOf p ma mb).1).q.f.length ax1051, .slice Cx1051 ((penOf p ma mb).1).q.t.length cx1051, .slice Ex1051 ((penOf p ma mb).1).d.length ex1051, .slice Hx1051 ((penOf p ma mb).1).m.length hx1051] := by rw [eW1108]; exact ((((((k1057.set_ 0 _).set_ 1 _).set_ 2 _).set_ 3 _).set_ 4 _).set_ 5 _)
      have q1110 : Chg gR1052 (gR1052 + 1) w W1108 := by rw [eW1108]; exact chg6 _ _ _ _ _ _ _ _
      have h1111 := (h1053.chg q1110 (by omega)).rd
      clear h1053
      have h1112 := MxR.chg h1065 q1110 (by omega) (by omega)
      have h1113 := MxR.chg h1066 q1110 (by omega) (by omega)
      have h1114 := RpR.chg h1067 q1110 (by omega) (by omega)
      have h1115 := h1068.chg q1110 (by omega)
      have k1116 := k1069.chg q1110 (by omega)
      have k1117 := k1070.chg q1110 (by omega)
      have k1118 := k1071.chg q1110 (by omega)
      have k1119 := k1072.chg q1110 (by omega)
      have k1120 := k1073.chg q1110 (by omega)
      have k1121 := k1074.chg q1110 (by omega)
      have s1122 : w.heap.size ≤ W1108.heap.size := q1110.size
      have g1123 := g1076.trans (q1110.below (by omega) (by omega))
      clear h1065 h1066 h1067 h1068 k1069 k1070 k1071 k1072 k1073 k1074 g1076 q1110 c1077 c1078 c1079 c1080 c1081 c1082 c1083 c1084 c1085 c1086 c1087 c1088 c1089 c1090 c1091 c1092 c1093 c1094 c1095 c1096 c1097 c1098 c1099 c1100
      have c1124 := k1116.cell' (i := 0) rfl
      have c1125 := k1116.cell' (i := 1) rfl
      have c1126 := k1116.cell' (i := 2) rfl
      have c1127 := k1117.cell' (i := 0) rfl
      have c1128 := k1117.cell' (i := 1) rfl
      have c1129 := k1117.cell' (i := 2) rfl
      have c1130 := k1118.cell' (i := 0) rfl
      have c1131 := k1118.cell' (i := 1) rfl
      have c1132 := k1118.cell' (i := 2) rfl
      have c1133 := k1118.cell' (i := 3) rfl
      have c1134 := k1118.cell' (i := 4) rfl
      have c1135 := k1118.cell' (i := 5) rfl
      have c1136 := k1119.cell' (i := 0) rfl
      have c1137 := k1119.cell' (i := 1) rfl
      have c1138 := k1119.cell' (i := 2) rfl
      have c1139 := k1120.cell' (i := 0) rfl
      have c1140 := k1120.cell' (i := 1) rfl
      have c1141 := k1120.cell' (i := 2) rfl
      have c1142 := k1121.cell' (i := 0) rfl
      have c1143 := k1121.cell' (i := 1) rfl
      have c1144 := k1121.cell' (i := 2) rfl
      have c1145 := k1121.cell' (i := 3) rfl
      have c1146 := k1121.cell' (i := 4) rfl
      have c1147 := k1121.cell' (i := 5) rfl
      have c1148 := k1109.cell' (i := 0) rfl
      have c1149 := k1109.cell' (i := 1) rfl
      have c1150 := k1109.cell' (i := 2) rfl
      have c1151 := k1109.cell' (i := 3) rfl
      have c1152 := k1109.cell' (i := 4) rfl
      have c1153 := k1109.cell' (i := 5) rfl
      have q1154 := c1124; rw [eW1108] at q1154
      have q1155 := c1125; rw [eW1108] at q1155
      have q1156 := c1126; rw [eW1108] at q1156
      have q1157 := c1127; rw [eW1108] at q1157
      have q1158 := c1128; rw [eW1108] at q1158
      have q1159 := c1129; rw [eW1108] at q1159
      have q1160 := c1130; rw [eW1108] at q1160
      have q1161 := c1131; rw [eW1108] at q1161
      have q1162 := c1132; rw [eW1108] at q1162
      have q1163 := c1133; rw [eW1108] at q1163
      have q1164 := c1134; rw [eW1108] at q1164
      have q1165 := c1135; rw [eW1108] at q1165
      have q1166 := c1136; rw [eW1108] at q1166
      have q1167 := c1137; rw [eW1108] at q1167
      have q1168 := c1138; rw [eW1108] at q1168
      have q1169 := c1139; rw [eW1108] at q1169
      have q1170 := c1140; rw [eW1108] at q1170
      have q1171 := c1141; rw [eW1108] at q1171
      have q1172 := c1142; rw [eW1108] at q1172
      have q1173 := c1143; rw [eW1108] at q1173
      have q1174 := c1144; rw [eW1108] at q1174
      have q1175 := c1145; rw [eW1108] at q1175
      have q1176 := c1146; rw [eW1108] at q1176
      have q1177 := c1147; rw [eW1108] at q1177
      have q1178 := c1148; rw [eW1108] at q1178
      have q1179 := c1149; rw [eW1108] at q1179
      have q1180 := c1150; rw [eW1108] at q1180
      have q1181 := c1151; rw [eW1108] at q1181
      have q1182 := c1152; rw [eW1108] at q1182
      have q1183 := c1153; rw [eW1108] at q1183
      go_wp2_with fail
      rw [← eW1108]; clear eW1108 f1101 r1102 r1103 r1104 r1105 r1106 r1107 q1154 q1155 q1156 q1157 q1158 q1159 q1160 q1161 q1162 q1163 q1164 q1165 q1166 q1167 q1168 q1169 q1170 q1171 q1172 q1173 q1174 q1175 q1176 q1177 q1178 q1179 q1180 q1181 q1182 q1183 k1057
      refine (eqRep_any _ _ _ _ _ (RpR.more (by omega) h1111) (RpR.more (by omega) h1114)).mono ?_; rintro e W1185 ⟨rfl, b1184⟩
      have h1186 := MxR.below (b1184.mono (by omega)) h1112
      have h1187 := MxR.below (b1184.mono (by omega)) h1113
      have h1188 := RpR.below (b1184.mono (by omega)) h1114
      have h1189 := h1115.below b1184
      have h1190 := RpR.below (b1184.mono (by omega)) h1111
      have k1191 := k1116.call b1184
      have k1192 := k1117.call b1184
      have k1193 := k1118.call b1184
      have k1194 := k1119.call b1184
      have k1195 := k1120.call b1184
      have k1196 := k1121.call b1184
      have k1197 := k1109.call b1184
      have s1198 : W1108.heap.size ≤ W1185.heap.size := b1184.size
      have g1199 := bthen g1123 b1184
      clear h1112 h1113 h1114 h1115 h1111 k1116 k1117 k1118 k1119 k1120 k1121 k1109 g1123 b1184 c1124 c1125 c1126 c1127 c1128 c1129 c1130 c1131 c1132 c1133 c1134 c1135 c1136 c1137 c1138 c1139 c1140 c1141 c1142 c1143 c1144 c1145 c1146 c1147 c1148 c1149 c1150 c1151 c1152 c1153
      have c1200 := k1191.cell' (i := 0) rfl
      have c1201 := k1191.cell' (i := 1) rfl
      have c1202 := k1191.cell' (i := 2) rfl
      have c1203 := k1192.cell' (i := 0) rfl
      have c1204 := k1192.cell' (i := 1) rfl
      have c1205 := k1192.cell' (i := 2) rfl
      have c1206 := k1193.cell' (i := 0) rfl
      have c1207 := k1193.cell' (i := 1) rfl
      have c1208 := k1193.cell' (i := 2) rfl
      have c1209 := k1193.cell' (i := 3) rfl
      have c1210 := k1193.cell' (i := 4) rfl
      have c1211 := k1193.cell' (i := 5) rfl
      have c1212 := k1194.cell' (i := 0) rfl
      have c1213 := k1194.cell' (i := 1) rfl
      have c1214 := k1194.cell' (i := 2) rfl
      have c1215 := k1195.cell' (i := 0) rfl
      have c1216 := k1195.cell' (i := 1) rfl
      have c1217 := k1195.cell' (i := 2) rfl
      have c1218 := k1196.cell' (i := 0) rfl
      have c1219 := k1196.cell' (i := 1) rfl
      have c1220 := k1196.cell' (i := 2) rfl
      have c1221 := k1196.cell' (i := 3) rfl
      have c1222 := k1196.cell' (i := 4) rfl
      have c1223 := k1196.cell' (i := 5) rfl
      have c1224 := k1197.cell' (i := 0) rfl
      have c1225 := k1197.cell' (i := 1) rfl
      have c1226 := k1197.cell' (i := 2) rfl
      have c1227 := k1197.cell' (i := 3) rfl
      have c1228 := k1197.cell' (i := 4) rfl
      have c1229 := k1197.cell' (i := 5) rfl
      clear h1190
      go_wp2_with fail
      refine (rep_held _ _ _ _ h1189.rd (by omega) (by omega) (by omega)).mono ?_; rintro e W1231 ⟨rfl, b1230⟩
      have h1232 := MxR.below (b1230.mono (by omega)) h1186
      have h1233 := MxR.below (b1230.mono (by omega)) h1187
      have h1234 := RpR.below (b1230.mono (by omega)) h1188
      have h1235 := h1189.below b1230
      have k1236 := k1191.call b1230
      have k1237 := k1192.call b1230
      have k1238 := k1193.call b1230
      have k1239 := k1194.call b1230
      have k1240 := k1195.call b1230
      have k1241 := k1196.call b1230
      have k1242 := k1197.call b1230
      have s1243 : W1185.heap.size ≤ W1231.heap.size := b1230.size
      have g1244 := bthen g1199 b1230
      clear h1186 h1187 h1188 h1189 k1191 k1192 k1193 k1194 k1195 k1196 k1197 g1199 b1230 c1200 c1201 c1202 c1203 c1204 c1205 c1206 c1207 c1208 c1209 c1210 c1211 c1212 c1213 c1214 c1215 c1216 c1217 c1218 c1219 c1220 c1221 c1222 c1223 c1224 c1225 c1226 c1227 c1228 c1229
      have c1245 := k1236.cell' (i := 0) rfl
      have c1246 := k1236.cell' (i := 1) rfl
      have c1247 := k1236.cell' (i := 2) rfl
      have c1248 := k1237.cell' (i := 0) rfl
      have c1249 := k1237.cell' (i := 1) rfl
      have c1250 := k1237.cell' (i := 2) rfl
      have c1251 := k1238.cell' (i := 0) rfl
      have c1252 := k1238.cell' (i := 1) rfl
      have c1253 := k1238.cell' (i := 2) rfl
      have c1254 := k1238.cell' (i := 3) rfl
      have c1255 := k1238.cell' (i := 4) rfl
      have c1256 := k1238.cell' (i := 5) rfl
      have c1257 := k1239.cell' (i := 0) rfl
      have c1258 := k1239.cell' (i := 1) rfl
      have c1259 := k1239.cell' (i := 2) rfl
      have c1260 := k1240.cell' (i := 0) rfl
      have c1261 := k1240.cell' (i := 1) rfl
      have c1262 := k1240.cell' (i := 2) rfl
      have c1263 := k1241.cell' (i := 0) rfl
      have c1264 := k1241.cell' (i := 1) rfl
      have c1265 := k1241.cell' (i := 2) rfl
      have c1266 := k1241.cell' (i := 3) rfl
      have c1267 := k1241.cell' (i := 4) rfl
      have c1268 := k1241.cell' (i := 5) rfl
      have c1269 := k1242.cell' (i := 0) rfl
      have c1270 := k1242.cell' (i := 1) rfl
      have c1271 := k1242.cell' (i := 2) rfl
      have c1272 := k1242.cell' (i := 3) rfl
      have c1273 := k1242.cell' (i := 4) rfl
      have c1274 := k1242.cell' (i := 5) rfl
      go_wp2
      go_ret
      exact ⟨rfl, g1244⟩
    · intro x w hb hk hiv hdj om os hom hos
      simp only [List.getElem?_cons_zero, List.getElem?_cons_succ, Option.some.injEq] at hom hos
      subst hom hos
      have h0 : x.v 0 = .int .i64 p := hk 0 (by decide)
      have h1 : x.v 1 = .agg #[.int .i64 (ma).r, .int .i64 (ma).c, .slice Auma (ma).a.length cuma] := hk 1 (by decide)
      have h2 : MxO w (x.lo 2) (x.hi 2) (x.v 2) ma := hk 2 (by decide)
      have h3 : x.v 3 = .agg #[.int .i64 (mb).r, .int .i64 (mb).c, .slice Aumb (mb).a.length cumb] := hk 3 (by decide)
      have h4 : MxO w (x.lo 4) (x.hi 4) (x.v 4) mb := hk 4 (by decide)
      have h5 : ∃ Ax1051 ax1051 Cx1051 cx1051 Ex1051 ex1051 Hx1051 hx1051, x.v 5 = .tuple #[.agg #[.int .i64 ((penOf p ma mb).1).p, .int .i64 ((penOf p ma mb).1).q.v, .slice Ax1051 ((penOf p ma mb).1).q.f.length ax1051, .slice Cx1051 ((penOf p ma mb).1).q.t.length cx1051, .slice Ex1051 ((penOf p ma mb).1).d.length ex1051, .slice Hx1051 ((penOf p ma mb).1).m.length hx1051], .bool (penOf p ma mb).2] ∧ RepO w (x.lo 5) (x.hi 5) (.agg #[.int .i64 ((penOf p ma mb).1).p, .int .i64 ((penOf p ma mb).1).q.v, .slice Ax1051 ((penOf p ma mb).1).q.f.length ax1051, .slice Cx1051 ((penOf p ma mb).1).q.t.length cx1051, .slice Ex1051 ((penOf p ma mb).1).d.length ex1051, .slice Hx1051 ((penOf p ma mb).1).m.length hx1051]) (penOf p ma mb).1 := hk 5 (by decide)
      have h6 : ∃ Ax1051 ax1051 Cx1051 cx1051 Ex1051 ex1051 Hx1051 hx1051, x.v 6 = .tuple #[.agg #[.int .i64 ((penOf p ma mb).1).p, .int .i64 ((penOf p ma mb).1).q.v, .slice Ax1051 ((penOf p ma mb).1).q.f.length ax1051, .slice Cx1051 ((penOf p ma mb).1).q.t.length cx1051, .slice Ex1051 ((penOf p ma mb).1).d.length ex1051, .slice Hx1051 ((penOf p ma mb).1).m.length hx1051], .bool (penOf p ma mb).2] ∧ RepO w (x.lo 5) (x.hi 5) (.agg #[.int .i64 ((penOf p ma mb).1).p, .int .i64 ((penOf p ma mb).1).q.v, .slice Ax1051 ((penOf p ma mb).1).q.f.length ax1051, .slice Cx1051 ((penOf p ma mb).1).q.t.length cx1051, .slice Ex1051 ((penOf p ma mb).1).d.length ex1051, .slice Hx1051 ((penOf p ma mb).1).m.length hx1051]) (penOf p ma mb).1 := hk 6 (by decide)
      have h7 : ∃ Ax1051 ax1051 Cx1051 cx1051 Ex1051 ex1051 Hx1051 hx1051, x.v 7 = .agg #[.int .i64 ((penOf p ma mb).1).p, .int .i64 ((penOf p ma mb).1).q.v, .slice Ax1051 ((penOf p ma mb).1).q.f.length ax1051, .slice Cx1051 ((penOf p ma mb).1).q.t.length cx1051, .slice Ex1051 ((penOf p ma mb).1).d.length ex1051, .slice Hx1051 ((penOf p ma mb).1).m.length hx1051] ∧ RepO w (x.lo 5) (x.hi 5) (.agg #[.int .i64 ((penOf p ma mb).1).p, .int .i64 ((penOf p ma mb).1).q.v, .slice Ax1051 ((penOf p ma mb).1).q.f.length ax1051, .slice Cx1051 ((penOf p ma mb).1).q.t.length cx1051, .slice Ex1051 ((penOf p ma mb).1).d.length ex1051, .slice Hx1051 ((penOf p ma mb).1).m.length hx1051]) (penOf p ma mb).1 := hk 7 (by decide)
      have h9 : ∃ g, (x.v 9) = .pointer (some ⟨g, 0, none⟩) ∧ ((x.lo 9) ≤ g ∧ g < (x.hi 9)) ∧ Blk w g 43 #[.int .i64 0, .int .i64 0, .slice none 0 0, .slice none 0 0, .slice none 0 0, .slice none 0 0] := hk 9 (by decide)
      clear hk
      simp only [List.foldl_cons, List.foldl_nil, netAct, dstAt, List.getElem?_toArray, List.getElem?_cons_zero, List.getElem?_cons_succ, Option.bind_some, Act.put, List.setIfInBounds_toArray, List.set_cons_zero, List.set_cons_succ]
      simp only [List.drop_succ_cons, List.drop_zero, h0, h1, h3]
      clear h0 h1 h3
      obtain ⟨Ax1051, ax1051, Cx1051, cx1051, Ex1051, ex1051, Hx1051, hx1051, e1054, h1053⟩ := h7
      obtain ⟨gR1052, e1055, y1056, k1057⟩ := h9
      rw [e1054, e1055]
      have y1058 := hiv 5 (by decide)
      have y1059 := hiv 9 (by decide)
      have y1060 := hdj 5 9 (by decide) (by decide) (by decide)
      have s1062 := hb.size
      have b1061 := hb
      clear hb hiv hdj e1054 e1055 h2 h4 h5
      obtain ⟨Ax1051b, ax1051b, Cx1051b, cx1051b, Ex1051b, ex1051b, Hx1051b, hx1051b, e1063, _⟩ := h6; rw [e1063]; clear e1063
      have h1065 := MxR.below (b1061.mono (by omega)) h1015
      have h1066 := MxR.below (b1061.mono (by omega)) h1016
      have h1067 := RpR.below (b1061.mono (by omega)) h1017
      have h1068 := h1018.below b1061
      have k1069 := k1019.call b1061
      have k1070 := k1020.call b1061
      have k1071 := k1021.call b1061
      have k1072 := k1022.call b1061
      have k1073 := k1023.call b1061
      have k1074 := k1024.call b1061
      have s1075 : W1014.heap.size ≤ w.heap.size := b1061.size
      have g1076 := bthen g1026 b1061
      clear h1015 h1016 h1017 h1018 k1019 k1020 k1021 k1022 k1023 k1024 g1026 b1061 c1027 c1028 c1029 c1030 c1031 c1032 c1033 c1034 c1035 c1036 c1037 c1038 c1039 c1040 c1041 c1042 c1043 c1044 c1045 c1046 c1047 c1048 c1049 c1050
      have c1077 := k1069.cell' (i := 0) rfl
      have c1078 := k1069.cell' (i := 1) rfl
      have c1079 := k1069.cell' (i := 2) rfl
      have c1080 := k1070.cell' (i := 0) rfl
      have c1081 := k1070.cell' (i := 1) rfl
      have c1082 := k1070.cell' (i := 2) rfl
      have c1083 := k1071.cell' (i := 0) rfl
      have c1084 := k1071.cell' (i := 1) rfl
      have c1085 := k1071.cell' (i := 2) rfl
      have c1086 := k1071.cell' (i := 3) rfl
      have c1087 := k1071.cell' (i := 4) rfl
      have c1088 := k1071.cell' (i := 5) rfl
      have c1089 := k1072.cell' (i := 0) rfl
      have c1090 := k1072.cell' (i := 1) rfl
      have c1091 := k1072.cell' (i := 2) rfl
      have c1092 := k1073.cell' (i := 0) rfl
      have c1093 := k1073.cell' (i := 1) rfl
      have c1094 := k1073.cell' (i := 2) rfl
      have c1095 := k1074.cell' (i := 0) rfl
      have c1096 := k1074.cell' (i := 1) rfl
      have c1097 := k1074.cell' (i := 2) rfl
      have c1098 := k1074.cell' (i := 3) rfl
      have c1099 := k1074.cell' (i := 4) rfl
      have c1100 := k1074.cell' (i := 5) rfl
      have f1101 := k1057.frozen
      have r1102 := k1057.cell' (i := 0) rfl
      have r1103 := k1057.cell' (i := 1) rfl
      have r1104 := k1057.cell' (i := 2) rfl
      have r1105 := k1057.cell' (i := 3) rfl
      have r1106 := k1057.cell' (i := 4) rfl
      have r1107 := k1057.cell' (i := 5) rfl
      obtain ⟨W1108, eW1108⟩ : ∃ u, u = ((((((w.setCell ⟨gR1052, 0, none⟩ (.int .i64 ((penOf p ma mb).1).p)).setCell ⟨gR1052, 1, none⟩ (.int .i64 ((penOf p ma mb).1).q.v)).setCell ⟨gR1052, 2, none⟩ (.slice Ax1051 ((penOf p ma mb).1).q.f.length ax1051)).setCell ⟨gR1052, 3, none⟩ (.slice Cx1051 ((penOf p ma mb).1).q.t.length cx1051)).setCell ⟨gR1052, 4, none⟩ (.slice Ex1051 ((penOf p ma mb).1).d.length ex1051)).setCell ⟨gR1052, 5, none⟩ (.slice Hx1051 ((penOf p ma mb).1).m.length hx1051)) := ⟨_, rfl⟩
      have k1109 : Blk W1108 gR1052 43 #[.int .i64 ((penOf p ma mb).1).p, .int .i64 ((penOf p ma mb).1).q.v, .slice Ax1051 ((penOf p ma mb).1).q.f.length ax1051, .slice Cx1051 ((penOf p ma mb).1).q.t.length cx1051, .slice Ex1051 ((penOf p ma mb).1).d.length ex1051, .slice Hx1051 ((penOf p ma mb).1).m.length hx1051] := by rw [eW1108]; exact ((((((k1057.set_ 0 _).set_ 1 _).set_ 2 _).set_ 3 _).set_ 4 _).set_ 5 _)
      have q1110 : Chg gR1052 (gR1052 + 1) w W1108 := by rw [eW1108]; exact chg6 _ _ _ _ _ _ _ _
      have h1111 := (h1053.chg q1110 (by omega)).rd
      clear h1053
      have h1112 := MxR.chg h1065 q1110 (by omega) (by omega)
      have h1113 := MxR.chg h1066 q1110 (by omega) (by omega)
      have h1114 := RpR.chg h1067 q1110 (by omega) (by omega)
      have h1115 := h1068.chg q1110 (by omega)
      have k1116 := k1069.chg q1110 (by omega)
      have k1117 := k1070.chg q1110 (by omega)
      have k1118 := k1071.chg q1110 (by omega)
      have k1119 := k1072.chg q1110 (by omega)
      have k1120 := k1073.chg q1110 (by omega)
      have k1121 := k1074.chg q1110 (by omega)
      have s1122 : w.heap.size ≤ W1108.heap.size := q1110.size
      have g1123 := g1076.trans (q1110.below (by omega) (by omega))
      clear h1065 h1066 h1067 h1068 k1069 k1070 k1071 k1072 k1073 k1074 g1076 q1110 c1077 c1078 c1079 c1080 c1081 c1082 c1083 c1084 c1085 c1086 c1087 c1088 c1089 c1090 c1091 c1092 c1093 c1094 c1095 c1096 c1097 c1098 c1099 c1100
      have c1124 := k1116.cell' (i := 0) rfl
      have c1125 := k1116.cell' (i := 1) rfl
      have c1126 := k1116.cell' (i := 2) rfl
      have c1127 := k1117.cell' (i := 0) rfl
      have c1128 := k1117.cell' (i := 1) rfl
      have c1129 := k1117.cell' (i := 2) rfl
      have c1130 := k1118.cell' (i := 0) rfl
      have c1131 := k1118.cell' (i := 1) rfl
      have c1132 := k1118.cell' (i := 2) rfl
      have c1133 := k1118.cell' (i := 3) rfl
      have c1134 := k1118.cell' (i := 4) rfl
      have c1135 := k1118.cell' (i := 5) rfl
      have c1136 := k1119.cell' (i := 0) rfl
      have c1137 := k1119.cell' (i := 1) rfl
      have c1138 := k1119.cell' (i := 2) rfl
      have c1139 := k1120.cell' (i := 0) rfl
      have c1140 := k1120.cell' (i := 1) rfl
      have c1141 := k1120.cell' (i := 2) rfl
      have c1142 := k1121.cell' (i := 0) rfl
      have c1143 := k1121.cell' (i := 1) rfl
      have c1144 := k1121.cell' (i := 2) rfl
      have c1145 := k1121.cell' (i := 3) rfl
      have c1146 := k1121.cell' (i := 4) rfl
      have c1147 := k1121.cell' (i := 5) rfl
      have c1148 := k1109.cell' (i := 0) rfl
      have c1149 := k1109.cell' (i := 1) rfl
      have c1150 := k1109.cell' (i := 2) rfl
      have c1151 := k1109.cell' (i := 3) rfl
      have c1152 := k1109.cell' (i := 4) rfl
      have c1153 := k1109.cell' (i := 5) rfl
      have q1154 := c1124; rw [eW1108] at q1154
      have q1155 := c1125; rw [eW1108] at q1155
      have q1156 := c1126; rw [eW1108] at q1156
      have q1157 := c1127; rw [eW1108] at q1157
      have q1158 := c1128; rw [eW1108] at q1158
      have q1159 := c1129; rw [eW1108] at q1159
      have q1160 := c1130; rw [eW1108] at q1160
      have q1161 := c1131; rw [eW1108] at q1161
      have q1162 := c1132; rw [eW1108] at q1162
      have q1163 := c1133; rw [eW1108] at q1163
      have q1164 := c1134; rw [eW1108] at q1164
      have q1165 := c1135; rw [eW1108] at q1165
      have q1166 := c1136; rw [eW1108] at q1166
      have q1167 := c1137; rw [eW1108] at q1167
      have q1168 := c1138; rw [eW1108] at q1168
      have q1169 := c1139; rw [eW1108] at q1169
      have q1170 := c1140; rw [eW1108] at q1170
      have q1171 := c1141; rw [eW1108] at q1171
      have q1172 := c1142; rw [eW1108] at q1172
      have q1173 := c1143; rw [eW1108] at q1173
      have q1174 := c1144; rw [eW1108] at q1174
      have q1175 := c1145; rw [eW1108] at q1175
      have q1176 := c1146; rw [eW1108] at q1176
      have q1177 := c1147; rw [eW1108] at q1177
      have q1178 := c1148; rw [eW1108] at q1178
      have q1179 := c1149; rw [eW1108] at q1179
      have q1180 := c1150; rw [eW1108] at q1180
      have q1181 := c1151; rw [eW1108] at q1181
      have q1182 := c1152; rw [eW1108] at q1182
      have q1183 := c1153; rw [eW1108] at q1183
      go_wp2_with fail
      rw [← eW1108]; clear eW1108 f1101 r1102 r1103 r1104 r1105 r1106 r1107 q1154 q1155 q1156 q1157 q1158 q1159 q1160 q1161 q1162 q1163 q1164 q1165 q1166 q1167 q1168 q1169 q1170 q1171 q1172 q1173 q1174 q1175 q1176 q1177 q1178 q1179 q1180 q1181 q1182 q1183 k1057
      refine (eqRep_any _ _ _ _ _ (RpR.more (by omega) h1111) (RpR.more (by omega) h1114)).mono ?_; rintro e W1185 ⟨rfl, b1184⟩
      have h1186 := MxR.below (b1184.mono (by omega)) h1112
      have h1187 := MxR.below (b1184.mono (by omega)) h1113
      have h1188 := RpR.below (b1184.mono (by omega)) h1114
      have h1189 := h1115.below b1184
      have h1190 := RpR.below (b1184.mono (by omega)) h1111
      have k1191 := k1116.call b1184
      have k1192 := k1117.call b1184
      have k1193 := k1118.call b1184
      have k1194 := k1119.call b1184
      have k1195 := k1120.call b1184
      have k1196 := k1121.call b1184
      have k1197 := k1109.call b1184
      have s1198 : W1108.heap.size ≤ W1185.heap.size := b1184.size
      have g1199 := bthen g1123 b1184
      clear h1112 h1113 h1114 h1115 h1111 k1116 k1117 k1118 k1119 k1120 k1121 k1109 g1123 b1184 c1124 c1125 c1126 c1127 c1128 c1129 c1130 c1131 c1132 c1133 c1134 c1135 c1136 c1137 c1138 c1139 c1140 c1141 c1142 c1143 c1144 c1145 c1146 c1147 c1148 c1149 c1150 c1151 c1152 c1153
      have c1200 := k1191.cell' (i := 0) rfl
      have c1201 := k1191.cell' (i := 1) rfl
      have c1202 := k1191.cell' (i := 2) rfl
      have c1203 := k1192.cell' (i := 0) rfl
      have c1204 := k1192.cell' (i := 1) rfl
      have c1205 := k1192.cell' (i := 2) rfl
      have c1206 := k1193.cell' (i := 0) rfl
      have c1207 := k1193.cell' (i := 1) rfl
      have c1208 := k1193.cell' (i := 2) rfl
      have c1209 := k1193.cell' (i := 3) rfl
      have c1210 := k1193.cell' (i := 4) rfl
      have c1211 := k1193.cell' (i := 5) rfl
      have c1212 := k1194.cell' (i := 0) rfl
      have c1213 := k1194.cell' (i := 1) rfl
      have c1214 := k1194.cell' (i := 2) rfl
      have c1215 := k1195.cell' (i := 0) rfl
      have c1216 := k1195.cell' (i := 1) rfl
      have c1217 := k1195.cell' (i := 2) rfl
      have c1218 := k1196.cell' (i := 0) rfl
      have c1219 := k1196.cell' (i := 1) rfl
      have c1220 := k1196.cell' (i := 2) rfl
      have c1221 := k1196.cell' (i := 3) rfl
      have c1222 := k1196.cell' (i := 4) rfl
      have c1223 := k1196.cell' (i := 5) rfl
      have c1224 := k1197.cell' (i := 0) rfl
      have c1225 := k1197.cell' (i := 1) rfl
      have c1226 := k1197.cell' (i := 2) rfl
      have c1227 := k1197.cell' (i := 3) rfl
      have c1228 := k1197.cell' (i := 4) rfl
      have c1229 := k1197.cell' (i := 5) rfl
      clear h1190
      go_wp2_with fail
      refine (rep_held _ _ _ _ h1189.rd (by omega) (by omega) (by omega)).mono ?_; rintro e W1231 ⟨rfl, b1230⟩
      have h1232 := MxR.below (b1230.mono (by omega)) h1186
      have h1233 := MxR.below (b1230.mono (by omega)) h1187
      have h1234 := RpR.below (b1230.mono (by omega)) h1188
      have h1235 := h1189.below b1230
      have k1236 := k1191.call b1230
      have k1237 := k1192.call b1230
      have k1238 := k1193.call b1230
      have k1239 := k1194.call b1230
      have k1240 := k1195.call b1230
      have k1241 := k1196.call b1230
      have k1242 := k1197.call b1230
      have s1243 : W1185.heap.size ≤ W1231.heap.size := b1230.size
      have g1244 := bthen g1199 b1230
      clear h1186 h1187 h1188 h1189 k1191 k1192 k1193 k1194 k1195 k1196 k1197 g1199 b1230 c1200 c1201 c1202 c1203 c1204 c1205 c1206 c1207 c1208 c1209 c1210 c1211 c1212 c1213 c1214 c1215 c1216 c1217 c1218 c1219 c1220 c1221 c1222 c1223 c1224 c1225 c1226 c1227 c1228 c1229
      have c1245 := k1236.cell' (i := 0) rfl
      have c1246 := k1236.cell' (i := 1) rfl
      have c1247 := k1236.cell' (i := 2) rfl
      have c1248 := k1237.cell' (i := 0) rfl
      have c1249 := k1237.cell' (i := 1) rfl
      have c1250 := k1237.cell' (i := 2) rfl
      have c1251 := k1238.cell' (i := 0) rfl
      have c1252 := k1238.cell' (i := 1) rfl
      have c1253 := k1238.cell' (i := 2) rfl
      have c1254 := k1238.cell' (i := 3) rfl
      have c1255 := k1238.cell' (i := 4) rfl
      have c1256 := k1238.cell' (i := 5) rfl
      have c1257 := k1239.cell' (i := 0) rfl
      have c1258 := k1239.cell' (i := 1) rfl
      have c1259 := k1239.cell' (i := 2) rfl
      have c1260 := k1240.cell' (i := 0) rfl
      have c1261 := k1240.cell' (i := 1) rfl
      have c1262 := k1240.cell' (i := 2) rfl
      have c1263 := k1241.cell' (i := 0) rfl
      have c1264 := k1241.cell' (i := 1) rfl
      have c1265 := k1241.cell' (i := 2) rfl
      have c1266 := k1241.cell' (i := 3) rfl
      have c1267 := k1241.cell' (i := 4) rfl
      have c1268 := k1241.cell' (i := 5) rfl
      have c1269 := k1242.cell' (i := 0) rfl
      have c1270 := k1242.cell' (i := 1) rfl
      have c1271 := k1242.cell' (i := 2) rfl
      have c1272 := k1242.cell' (i := 3) rfl
      have c1273 := k1242.cell' (i := 4) rfl
      have c1274 := k1242.cell' (i := 5) rfl
      go_wp2
      go_ret
      exact ⟨rfl, g1244⟩
  · intro x w hb hk hiv hdj om os hom hos
    simp only [List.getElem?_cons_zero, List.getElem?_cons_succ, Option.some.injEq] at hom hos
    subst hom hos
    have h0 : x.v 0 = .int .i64 p := hk 0 (by decide)
    have h1 : x.v 1 = .agg #[.int .i64 (ma).r, .int .i64 (ma).c, .slice Auma (ma).a.length cuma] := hk 1 (by decide)
    have h2 : MxO w (x.lo 2) (x.hi 2) (x.v 2) ma := hk 2 (by decide)
    have h3 : x.v 3 = .agg #[.int .i64 (mb).r, .int .i64 (mb).c, .slice Aumb (mb).a.length cumb] := hk 3 (by decide)
    have h4 : MxO w (x.lo 4) (x.hi 4) (x.v 4) mb := hk 4 (by decide)
    have h5 : ∃ Ax261 ax261 Cx261 cx261 Ex261 ex261 Hx261 hx261, x.v 5 = .tuple #[.agg #[.int .i64 ((penOf p ma mb).1).p, .int .i64 ((penOf p ma mb).1).q.v, .slice Ax261 ((penOf p ma mb).1).q.f.length ax261, .slice Cx261 ((penOf p ma mb).1).q.t.length cx261, .slice Ex261 ((penOf p ma mb).1).d.length ex261, .slice Hx261 ((penOf p ma mb).1).m.length hx261], .bool (penOf p ma mb).2] ∧ RepO w (x.lo 5) (x.hi 5) (.agg #[.int .i64 ((penOf p ma mb).1).p, .int .i64 ((penOf p ma mb).1).q.v, .slice Ax261 ((penOf p ma mb).1).q.f.length ax261, .slice Cx261 ((penOf p ma mb).1).q.t.length cx261, .slice Ex261 ((penOf p ma mb).1).d.length ex261, .slice Hx261 ((penOf p ma mb).1).m.length hx261]) (penOf p ma mb).1 := hk 5 (by decide)
    have h6 : ∃ Ax261 ax261 Cx261 cx261 Ex261 ex261 Hx261 hx261, x.v 6 = .tuple #[.agg #[.int .i64 ((penOf p ma mb).1).p, .int .i64 ((penOf p ma mb).1).q.v, .slice Ax261 ((penOf p ma mb).1).q.f.length ax261, .slice Cx261 ((penOf p ma mb).1).q.t.length cx261, .slice Ex261 ((penOf p ma mb).1).d.length ex261, .slice Hx261 ((penOf p ma mb).1).m.length hx261], .bool (penOf p ma mb).2] ∧ RepO w (x.lo 5) (x.hi 5) (.agg #[.int .i64 ((penOf p ma mb).1).p, .int .i64 ((penOf p ma mb).1).q.v, .slice Ax261 ((penOf p ma mb).1).q.f.length ax261, .slice Cx261 ((penOf p ma mb).1).q.t.length cx261, .slice Ex261 ((penOf p ma mb).1).d.length ex261, .slice Hx261 ((penOf p ma mb).1).m.length hx261]) (penOf p ma mb).1 := hk 6 (by decide)
    have h7 : ∃ Ax261 ax261 Cx261 cx261 Ex261 ex261 Hx261 hx261, x.v 7 = .agg #[.int .i64 ((penOf p ma mb).1).p, .int .i64 ((penOf p ma mb).1).q.v, .slice Ax261 ((penOf p ma mb).1).q.f.length ax261, .slice Cx261 ((penOf p ma mb).1).q.t.length cx261, .slice Ex261 ((penOf p ma mb).1).d.length ex261, .slice Hx261 ((penOf p ma mb).1).m.length hx261] ∧ RepO w (x.lo 5) (x.hi 5) (.agg #[.int .i64 ((penOf p ma mb).1).p, .int .i64 ((penOf p ma mb).1).q.v, .slice Ax261 ((penOf p ma mb).1).q.f.length ax261, .slice Cx261 ((penOf p ma mb).1).q.t.length cx261, .slice Ex261 ((penOf p ma mb).1).d.length ex261, .slice Hx261 ((penOf p ma mb).1).m.length hx261]) (penOf p ma mb).1 := hk 7 (by decide)
    have h9 : ∃ g, (x.v 9) = .pointer (some ⟨g, 0, none⟩) ∧ ((x.lo 9) ≤ g ∧ g < (x.hi 9)) ∧ Blk w g 43 #[.int .i64 0, .int .i64 0, .slice none 0 0, .slice none 0 0, .slice none 0 0, .slice none 0 0] := hk 9 (by decide)
    clear hk
    simp only [List.foldl_cons, List.foldl_nil, netAct, dstAt, List.getElem?_toArray, List.getElem?_cons_zero, List.getElem?_cons_succ, Option.bind_some, Act.put, List.setIfInBounds_toArray, List.set_cons_zero, List.set_cons_succ]
    simp only [List.drop_succ_cons, List.drop_zero, h0, h1, h3]
    clear h0 h1 h3
    obtain ⟨Ax261, ax261, Cx261, cx261, Ex261, ex261, Hx261, hx261, e264, h263⟩ := h7
    obtain ⟨gR262, e265, y266, k267⟩ := h9
    rw [e264, e265]
    have y268 := hiv 5 (by decide)
    have y269 := hiv 9 (by decide)
    have y270 := hdj 5 9 (by decide) (by decide) (by decide)
    have s272 := hb.size
    have b271 := hb
    clear hb hiv hdj e264 e265 h2 h4 h5
    obtain ⟨Ax261b, ax261b, Cx261b, cx261b, Ex261b, ex261b, Hx261b, hx261b, e273, _⟩ := h6; rw [e273]; clear e273
    have h275 := MxR.below (b271.mono (by omega)) h249
    have h276 := MxR.below (b271.mono (by omega)) h250
    have k277 := k251.call b271
    have k278 := k252.call b271
    have s279 : W248.heap.size ≤ w.heap.size := b271.size
    have g280 := bthen g254 b271
    clear h249 h250 k251 k252 g254 b271 c255 c256 c257 c258 c259 c260
    have c281 := k277.cell' (i := 0) rfl
    have c282 := k277.cell' (i := 1) rfl
    have c283 := k277.cell' (i := 2) rfl
    have c284 := k278.cell' (i := 0) rfl
    have c285 := k278.cell' (i := 1) rfl
    have c286 := k278.cell' (i := 2) rfl
    have f287 := k267.frozen
    have r288 := k267.cell' (i := 0) rfl
    have r289 := k267.cell' (i := 1) rfl
    have r290 := k267.cell' (i := 2) rfl
    have r291 := k267.cell' (i := 3) rfl
    have r292 := k267.cell' (i := 4) rfl
    have r293 := k267.cell' (i := 5) rfl
    obtain ⟨W294, eW294⟩ : ∃ u, u = ((((((w.setCell ⟨gR262, 0, none⟩ (.int .i64 ((penOf p ma mb).1).p)).setCell ⟨gR262, 1, none⟩ (.int .i64 ((penOf p ma mb).1).q.v)).setCell ⟨gR262, 2, none⟩ (.slice Ax261 ((penOf p ma mb).1).q.f.length ax261)).setCell ⟨gR262, 3, none⟩ (.slice Cx261 ((penOf p ma mb).1).q.t.length cx261)).setCell ⟨gR262, 4, none⟩ (.slice Ex261 ((penOf p ma mb).1).d.length ex261)).setCell ⟨gR262, 5, none⟩ (.slice Hx261 ((penOf p ma mb).1).m.length hx261)) := ⟨_, rfl⟩
    have k295 : Blk W294 gR262 43 #[.int .i64 ((penOf p ma mb).1).p, .int .i64 ((penOf p ma mb).1).q.v, .slice Ax261 ((penOf p ma mb).1).q.f.length ax261, .slice Cx261 ((penOf p ma mb).1).q.t.length cx261, .slice Ex261 ((penOf p ma mb).1).d.length ex261, .slice Hx261 ((penOf p ma mb).1).m.length hx261] := by rw [eW294]; exact ((((((k267.set_ 0 _).set_ 1 _).set_ 2 _).set_ 3 _).set_ 4 _).set_ 5 _)
    have q296 : Chg gR262 (gR262 + 1) w W294 := by rw [eW294]; exact chg6 _ _ _ _ _ _ _ _
    have h297 := (h263.chg q296 (by omega)).rd
    clear h263
    have h298 := MxR.chg h275 q296 (by omega) (by omega)
    have h299 := MxR.chg h276 q296 (by omega) (by omega)
    have k300 := k277.chg q296 (by omega)
    have k301 := k278.chg q296 (by omega)
    have s302 : w.heap.size ≤ W294.heap.size := q296.size
    have g303 := g280.trans (q296.below (by omega) (by omega))
    clear h275 h276 k277 k278 g280 q296 c281 c282 c283 c284 c285 c286
    have c304 := k300.cell' (i := 0) rfl
    have c305 := k300.cell' (i := 1) rfl
    have c306 := k300.cell' (i := 2) rfl
    have c307 := k301.cell' (i := 0) rfl
    have c308 := k301.cell' (i := 1) rfl
    have c309 := k301.cell' (i := 2) rfl
    have c310 := k295.cell' (i := 0) rfl
    have c311 := k295.cell' (i := 1) rfl
    have c312 := k295.cell' (i := 2) rfl
    have c313 := k295.cell' (i := 3) rfl
    have c314 := k295.cell' (i := 4) rfl
    have c315 := k295.cell' (i := 5) rfl
    have q316 := c304; rw [eW294] at q316
    have q317 := c305; rw [eW294] at q317
    have q318 := c306; rw [eW294] at q318
    have q319 := c307; rw [eW294] at q319
    have q320 := c308; rw [eW294] at q320
    have q321 := c309; rw [eW294] at q321
    have q322 := c310; rw [eW294] at q322
    have q323 := c311; rw [eW294] at q323
    have q324 := c312; rw [eW294] at q324
    have q325 := c313; rw [eW294] at q325
    have q326 := c314; rw [eW294] at q326
    have q327 := c315; rw [eW294] at q327
    go_wp2_with fail
    rw [← eW294]; clear eW294 f287 r288 r289 r290 r291 r292 r293 q316 q317 q318 q319 q320 q321 q322 q323 q324 q325 q326 q327 k267
    refine (mx_to _ _ _ (MxR.more (by omega) h298) (by omega)).mono ?_; rintro e W331 ⟨v328, rfl, h329, b330⟩
    have h332 := MxR.below (b330.mono (by omega)) h298
    have h333 := MxR.below (b330.mono (by omega)) h299
    have h334 := RpR.below (b330.mono (by omega)) h297
    have k335 := k300.call b330
    have k336 := k301.call b330
    have k337 := k295.call b330
    have s338 : W294.heap.size ≤ W331.heap.size := b330.size
    have g339 := bthen g303 b330
    clear h298 h299 h297 k300 k301 k295 g303 b330 c304 c305 c306 c307 c308 c309 c310 c311 c312 c313 c314 c315
    have c340 := k335.cell' (i := 0) rfl
    have c341 := k335.cell' (i := 1) rfl
    have c342 := k335.cell' (i := 2) rfl
    have c343 := k336.cell' (i := 0) rfl
    have c344 := k336.cell' (i := 1) rfl
    have c345 := k336.cell' (i := 2) rfl
    have c346 := k337.cell' (i := 0) rfl
    have c347 := k337.cell' (i := 1) rfl
    have c348 := k337.cell' (i := 2) rfl
    have c349 := k337.cell' (i := 3) rfl
    have c350 := k337.cell' (i := 4) rfl
    have c351 := k337.cell' (i := 5) rfl
    obtain ⟨Ax352, cx352, e353⟩ := h329.form
    subst e353
    have c357 := fun o => (k335.alloc o).cell' (i := 0) rfl
    have c358 := fun o => (k335.alloc o).cell' (i := 1) rfl
    have c359 := fun o => (k335.alloc o).cell' (i := 2) rfl
    have c360 := fun o => (k336.alloc o).cell' (i := 0) rfl
    have c361 := fun o => (k336.alloc o).cell' (i := 1) rfl
    have c362 := fun o => (k336.alloc o).cell' (i := 2) rfl
    have c363 := fun o => (k337.alloc o).cell' (i := 0) rfl
    have c364 := fun o => (k337.alloc o).cell' (i := 1) rfl
    have c365 := fun o => (k337.alloc o).cell' (i := 2) rfl
    have c366 := fun o => (k337.alloc o).cell' (i := 3) rfl
    have c367 := fun o => (k337.alloc o).cell' (i := 4) rfl
    have c368 := fun o => (k337.alloc o).cell' (i := 5) rfl
    go_wp2_with fail
    obtain ⟨W369, e370⟩ : ∃ W, W = W331.alloc (.cells #[.int .i64 (ma).r, .int .i64 (ma).c, .slice Ax352 (ma).a.length cx352] 56) := ⟨_, rfl⟩
    rw [← e370]
    have b371 : Below W331.heap.size W331 W369 := by rw [e370]; exact below_alloc _ _
    have k372 : Blk W369 W331.heap.size 56 #[.int .i64 (ma).r, .int .i64 (ma).c, .slice Ax352 (ma).a.length cx352] := by rw [e370]; exact Blk.new _ _ _
    have s373 : W331.heap.size < W369.heap.size := by rw [e370]; simp
    clear e370
    have h374 := MxR.below (b371.mono (by omega)) h332
    have h375 := MxR.below (b371.mono (by omega)) h333
    have h376 := RpR.below (b371.mono (by omega)) h334
    have h377 := h329.below b371
    have k378 := k335.call b371
    have k379 := k336.call b371
    have k380 := k337.call b371
    have s381 : W331.heap.size ≤ W369.heap.size := b371.size
    have g382 := bthen g339 b371
    clear h332 h333 h334 h329 k335 k336 k337 g339 b371 c340 c341 c342 c343 c344 c345 c346 c347 c348 c349 c350 c351 c357 c358 c359 c360 c361 c362 c363 c364 c365 c366 c367 c368
    have c383 := k378.cell' (i := 0) rfl
    have c384 := k378.cell' (i := 1) rfl
    have c385 := k378.cell' (i := 2) rfl
    have c386 := k379.cell' (i := 0) rfl
    have c387 := k379.cell' (i := 1) rfl
    have c388 := k379.cell' (i := 2) rfl
    have c389 := k380.cell' (i := 0) rfl
    have c390 := k380.cell' (i := 1) rfl
    have c391 := k380.cell' (i := 2) rfl
    have c392 := k380.cell' (i := 3) rfl
    have c393 := k380.cell' (i := 4) rfl
    have c394 := k380.cell' (i := 5) rfl
    have c395 := k372.cell' (i := 0) rfl
    have c396 := k372.cell' (i := 1) rfl
    have c397 := k372.cell' (i := 2) rfl
    refine (mx_to _ _ _ (MxR.more (by omega) h375) (by omega)).mono ?_; rintro e W398 ⟨v354, rfl, h355, b356⟩
    have h399 := MxR.below (b356.mono (by omega)) h374
    have h400 := MxR.below (b356.mono (by omega)) h375
    have h401 := RpR.below (b356.mono (by omega)) h376
    have h402 := h377.below b356
    have k403 := k378.call b356
    have k404 := k379.call b356
    have k405 := k380.call b356
    have k406 := k372.call b356
    have s407 : W369.heap.size ≤ W398.heap.size := b356.size
    have g408 := bthen g382 b356
    clear h374 h375 h376 h377 k378 k379 k380 k372 g382 b356 c383 c384 c385 c386 c387 c388 c389 c390 c391 c392 c393 c394 c395 c396 c397
    have c409 := k403.cell' (i := 0) rfl
    have c410 := k403.cell' (i := 1) rfl
    have c411 := k403.cell' (i := 2) rfl
    have c412 := k404.cell' (i := 0) rfl
    have c413 := k404.cell' (i := 1) rfl
    have c414 := k404.cell' (i := 2) rfl
    have c415 := k405.cell' (i := 0) rfl
    have c416 := k405.cell' (i := 1) rfl
    have c417 := k405.cell' (i := 2) rfl
    have c418 := k405.cell' (i := 3) rfl
    have c419 := k405.cell' (i := 4) rfl
    have c420 := k405.cell' (i := 5) rfl
    have c421 := k406.cell' (i := 0) rfl
    have c422 := k406.cell' (i := 1) rfl
    have c423 := k406.cell' (i := 2) rfl
    obtain ⟨Ax424, cx424, e425⟩ := h355.form
    subst e425
    have c429 := fun o => (k403.alloc o).cell' (i := 0) rfl
    have c430 := fun o => (k403.alloc o).cell' (i := 1) rfl
    have c431 := fun o => (k403.alloc o).cell' (i := 2) rfl
    have c432 := fun o => (k404.alloc o).cell' (i := 0) rfl
    have c433 := fun o => (k404.alloc o).cell' (i := 1) rfl
    have c434 := fun o => (k404.alloc o).cell' (i := 2) rfl
    have c435 := fun o => (k405.alloc o).cell' (i := 0) rfl
    have c436 := fun o => (k405.alloc o).cell' (i := 1) rfl
    have c437 := fun o => (k405.alloc o).cell' (i := 2) rfl
    have c438 := fun o => (k405.alloc o).cell' (i := 3) rfl
    have c439 := fun o => (k405.alloc o).cell' (i := 4) rfl
    have c440 := fun o => (k405.alloc o).cell' (i := 5) rfl
    have c441 := fun o => (k406.alloc o).cell' (i := 0) rfl
    have c442 := fun o => (k406.alloc o).cell' (i := 1) rfl
    have c443 := fun o => (k406.alloc o).cell' (i := 2) rfl
    go_wp2_with fail
    obtain ⟨W444, e445⟩ : ∃ W, W = W398.alloc (.cells #[.int .i64 (mb).r, .int .i64 (mb).c, .slice Ax424 (mb).a.length cx424] 56) := ⟨_, rfl⟩
    rw [← e445]
    have b446 : Below W398.heap.size W398 W444 := by rw [e445]; exact below_alloc _ _
    have k447 : Blk W444 W398.heap.size 56 #[.int .i64 (mb).r, .int .i64 (mb).c, .slice Ax424 (mb).a.length cx424] := by rw [e445]; exact Blk.new _ _ _
    have s448 : W398.heap.size < W444.heap.size := by rw [e445]; simp
    clear e445
    have h449 := MxR.below (b446.mono (by omega)) h399
    have h450 := MxR.below (b446.mono (by omega)) h400
    have h451 := RpR.below (b446.mono (by omega)) h401
    have h452 := h402.below b446
    have h453 := h355.below b446
    have k454 := k403.call b446
    have k455 := k404.call b446
    have k456 := k405.call b446
    have k457 := k406.call b446
    have s458 : W398.heap.size ≤ W444.heap.size := b446.size
    have g459 := bthen g408 b446
    clear h399 h400 h401 h402 h355 k403 k404 k405 k406 g408 b446 c409 c410 c411 c412 c413 c414 c415 c416 c417 c418 c419 c420 c421 c422 c423 c429 c430 c431 c432 c433 c434 c435 c436 c437 c438 c439 c440 c441 c442 c443
    have c460 := k454.cell' (i := 0) rfl
    have c461 := k454.cell' (i := 1) rfl
    have c462 := k454.cell' (i := 2) rfl
    have c463 := k455.cell' (i := 0) rfl
    have c464 := k455.cell' (i := 1) rfl
    have c465 := k455.cell' (i := 2) rfl
    have c466 := k456.cell' (i := 0) rfl
    have c467 := k456.cell' (i := 1) rfl
    have c468 := k456.cell' (i := 2) rfl
    have c469 := k456.cell' (i := 3) rfl
    have c470 := k456.cell' (i := 4) rfl
    have c471 := k456.cell' (i := 5) rfl
    have c472 := k457.cell' (i := 0) rfl
    have c473 := k457.cell' (i := 1) rfl
    have c474 := k457.cell' (i := 2) rfl
    have c475 := k447.cell' (i := 0) rfl
    have c476 := k447.cell' (i := 1) rfl
    have c477 := k447.cell' (i := 2) rfl
    refine (implPencilOf_any _ _ _ _ _ _ rng_p h452.rd h453.rd).mono ?_; rintro e W478 ⟨r426, rfl, h427, b428⟩
    have h479 := MxR.below (b428.mono (by omega)) h449
    have h480 := MxR.below (b428.mono (by omega)) h450
    have h481 := RpR.below (b428.mono (by omega)) h451
    have h482 := h452.below b428
    have h483 := h453.below b428
    have k484 := k454.call b428
    have k485 := k455.call b428
    have k486 := k456.call b428
    have k487 := k457.call b428
    have k488 := k447.call b428
    have s489 : W444.heap.size ≤ W478.heap.size := b428.size
    have g490 := bthen g459 b428
    clear h449 h450 h451 h452 h453 k454 k455 k456 k457 k447 g459 b428 c460 c461 c462 c463 c464 c465 c466 c467 c468 c469 c470 c471 c472 c473 c474 c475 c476 c477
    have c491 := k484.cell' (i := 0) rfl
    have c492 := k484.cell' (i := 1) rfl
    have c493 := k484.cell' (i := 2) rfl
    have c494 := k485.cell' (i := 0) rfl
    have c495 := k485.cell' (i := 1) rfl
    have c496 := k485.cell' (i := 2) rfl
    have c497 := k486.cell' (i := 0) rfl
    have c498 := k486.cell' (i := 1) rfl
    have c499 := k486.cell' (i := 2) rfl
    have c500 := k486.cell' (i := 3) rfl
    have c501 := k486.cell' (i := 4) rfl
    have c502 := k486.cell' (i := 5) rfl
    have c503 := k487.cell' (i := 0) rfl
    have c504 := k487.cell' (i := 1) rfl
    have c505 := k487.cell' (i := 2) rfl
    have c506 := k488.cell' (i := 0) rfl
    have c507 := k488.cell' (i := 1) rfl
    have c508 := k488.cell' (i := 2) rfl
    obtain ⟨Ax509, ax509, Cx509, cx509, Ex509, ex509, Hx509, hx509, e510⟩ := h427.form
    subst e510
    have c512 := fun o => (k484.alloc o).cell' (i := 0) rfl
    have c513 := fun o => (k484.alloc o).cell' (i := 1) rfl
    have c514 := fun o => (k484.alloc o).cell' (i := 2) rfl
    have c515 := fun o => (k485.alloc o).cell' (i := 0) rfl
    have c516 := fun o => (k485.alloc o).cell' (i := 1) rfl
    have c517 := fun o => (k485.alloc o).cell' (i := 2) rfl
    have c518 := fun o => (k486.alloc o).cell' (i := 0) rfl
    have c519 := fun o => (k486.alloc o).cell' (i := 1) rfl
    have c520 := fun o => (k486.alloc o).cell' (i := 2) rfl
    have c521 := fun o => (k486.alloc o).cell' (i := 3) rfl
    have c522 := fun o => (k486.alloc o).cell' (i := 4) rfl
    have c523 := fun o => (k486.alloc o).cell' (i := 5) rfl
    have c524 := fun o => (k487.alloc o).cell' (i := 0) rfl
    have c525 := fun o => (k487.alloc o).cell' (i := 1) rfl
    have c526 := fun o => (k487.alloc o).cell' (i := 2) rfl
    have c527 := fun o => (k488.alloc o).cell' (i := 0) rfl
    have c528 := fun o => (k488.alloc o).cell' (i := 1) rfl
    have c529 := fun o => (k488.alloc o).cell' (i := 2) rfl
    go_wp2_with fail
    obtain ⟨W530, e531⟩ : ∃ W, W = W478.alloc (.cells #[.int .i64 ((penOf p ma mb).1).p, .int .i64 ((penOf p ma mb).1).q.v, .slice Ax509 ((penOf p ma mb).1).q.f.length ax509, .slice Cx509 ((penOf p ma mb).1).q.t.length cx509, .slice Ex509 ((penOf p ma mb).1).d.length ex509, .slice Hx509 ((penOf p ma mb).1).m.length hx509] 43) := ⟨_, rfl⟩
    rw [← e531]
    have b532 : Below W478.heap.size W478 W530 := by rw [e531]; exact below_alloc _ _
    have k533 : Blk W530 W478.heap.size 43 #[.int .i64 ((penOf p ma mb).1).p, .int .i64 ((penOf p ma mb).1).q.v, .slice Ax509 ((penOf p ma mb).1).q.f.length ax509, .slice Cx509 ((penOf p ma mb).1).q.t.length cx509, .slice Ex509 ((penOf p ma mb).1).d.length ex509, .slice Hx509 ((penOf p ma mb).1).m.length hx509] := by rw [e531]; exact Blk.new _ _ _
    have s534 : W478.heap.size < W530.heap.size := by rw [e531]; simp
    clear e531
    have h535 := MxR.below (b532.mono (by omega)) h479
    have h536 := MxR.below (b532.mono (by omega)) h480
    have h537 := RpR.below (b532.mono (by omega)) h481
    have h538 := h482.below b532
    have h539 := h483.below b532
    have h540 := h427.below b532
    have k541 := k484.call b532
    have k542 := k485.call b532
    have k543 := k486.call b532
    have k544 := k487.call b532
    have k545 := k488.call b532
    have s546 : W478.heap.size ≤ W530.heap.size := b532.size
    have g547 := bthen g490 b532
    clear h479 h480 h481 h482 h483 h427 k484 k485 k486 k487 k488 g490 b532 c491 c492 c493 c494 c495 c496 c497 c498 c499 c500 c501 c502 c503 c504 c505 c506 c507 c508 c512 c513 c514 c515 c516 c517 c518 c519 c520 c521 c522 c523 c524 c525 c526 c527 c528 c529
    have c548 := k541.cell' (i := 0) rfl
    have c549 := k541.cell' (i := 1) rfl
    have c550 := k541.cell' (i := 2) rfl
    have c551 := k542.cell' (i := 0) rfl
    have c552 := k542.cell' (i := 1) rfl
    have c553 := k542.cell' (i := 2) rfl
    have c554 := k543.cell' (i := 0) rfl
    have c555 := k543.cell' (i := 1) rfl
    have c556 := k543.cell' (i := 2) rfl
    have c557 := k543.cell' (i := 3) rfl
    have c558 := k543.cell' (i := 4) rfl
    have c559 := k543.cell' (i := 5) rfl
    have c560 := k544.cell' (i := 0) rfl
    have c561 := k544.cell' (i := 1) rfl
    have c562 := k544.cell' (i := 2) rfl
    have c563 := k545.cell' (i := 0) rfl
    have c564 := k545.cell' (i := 1) rfl
    have c565 := k545.cell' (i := 2) rfl
    have c566 := k533.cell' (i := 0) rfl
    have c567 := k533.cell' (i := 1) rfl
    have c568 := k533.cell' (i := 2) rfl
    have c569 := k533.cell' (i := 3) rfl
    have c570 := k533.cell' (i := 4) rfl
    have c571 := k533.cell' (i := 5) rfl
    refine (eqRep_any _ _ _ _ _ h540.rd (RpR.more (by omega) h537)).mono ?_; rintro e W572 ⟨rfl, b511⟩
    have h573 := MxR.below (b511.mono (by omega)) h535
    have h574 := MxR.below (b511.mono (by omega)) h536
    have h575 := RpR.below (b511.mono (by omega)) h537
    have h576 := h538.below b511
    have h577 := h539.below b511
    have h578 := h540.below b511
    have k579 := k541.call b511
    have k580 := k542.call b511
    have k581 := k543.call b511
    have k582 := k544.call b511
    have k583 := k545.call b511
    have k584 := k533.call b511
    have s585 : W530.heap.size ≤ W572.heap.size := b511.size
    have g586 := bthen g547 b511
    clear h535 h536 h537 h538 h539 h540 k541 k542 k543 k544 k545 k533 g547 b511 c548 c549 c550 c551 c552 c553 c554 c555 c556 c557 c558 c559 c560 c561 c562 c563 c564 c565 c566 c567 c568 c569 c570 c571
    have c587 := k579.cell' (i := 0) rfl
    have c588 := k579.cell' (i := 1) rfl
    have c589 := k579.cell' (i := 2) rfl
    have c590 := k580.cell' (i := 0) rfl
    have c591 := k580.cell' (i := 1) rfl
    have c592 := k580.cell' (i := 2) rfl
    have c593 := k581.cell' (i := 0) rfl
    have c594 := k581.cell' (i := 1) rfl
    have c595 := k581.cell' (i := 2) rfl
    have c596 := k581.cell' (i := 3) rfl
    have c597 := k581.cell' (i := 4) rfl
    have c598 := k581.cell' (i := 5) rfl
    have c599 := k582.cell' (i := 0) rfl
    have c600 := k582.cell' (i := 1) rfl
    have c601 := k582.cell' (i := 2) rfl
    have c602 := k583.cell' (i := 0) rfl
    have c603 := k583.cell' (i := 1) rfl
    have c604 := k583.cell' (i := 2) rfl
    have c605 := k584.cell' (i := 0) rfl
    have c606 := k584.cell' (i := 1) rfl
    have c607 := k584.cell' (i := 2) rfl
    have c608 := k584.cell' (i := 3) rfl
    have c609 := k584.cell' (i := 4) rfl
    have c610 := k584.cell' (i := 5) rfl
    go_wp2_with fail
    have b611 := drew_below W572
    have h612 := MxR.below (b611.mono (by omega)) h573
    have h613 := MxR.below (b611.mono (by omega)) h574
    have h614 := RpR.below (b611.mono (by omega)) h575
    have h615 := h576.below b611
    have h616 := h577.below b611
    have h617 := h578.below b611
    have k618 := k579.call b611
    have k619 := k580.call b611
    have k620 := k581.call b611
    have k621 := k582.call b611
    have k622 := k583.call b611
    have k623 := k584.call b611
    have s624 : W572.heap.size ≤ W572.drew.heap.size := b611.size
    have g625 := bthen g586 b611
    clear h573 h574 h575 h576 h577 h578 k579 k580 k581 k582 k583 k584 g586 b611 c587 c588 c589 c590 c591 c592 c593 c594 c595 c596 c597 c598 c599 c600 c601 c602 c603 c604 c605 c606 c607 c608 c609 c610
    have c626 := k618.cell' (i := 0) rfl
    have c627 := k618.cell' (i := 1) rfl
    have c628 := k618.cell' (i := 2) rfl
    have c629 := k619.cell' (i := 0) rfl
    have c630 := k619.cell' (i := 1) rfl
    have c631 := k619.cell' (i := 2) rfl
    have c632 := k620.cell' (i := 0) rfl
    have c633 := k620.cell' (i := 1) rfl
    have c634 := k620.cell' (i := 2) rfl
    have c635 := k620.cell' (i := 3) rfl
    have c636 := k620.cell' (i := 4) rfl
    have c637 := k620.cell' (i := 5) rfl
    have c638 := k621.cell' (i := 0) rfl
    have c639 := k621.cell' (i := 1) rfl
    have c640 := k621.cell' (i := 2) rfl
    have c641 := k622.cell' (i := 0) rfl
    have c642 := k622.cell' (i := 1) rfl
    have c643 := k622.cell' (i := 2) rfl
    have c644 := k623.cell' (i := 0) rfl
    have c645 := k623.cell' (i := 1) rfl
    have c646 := k623.cell' (i := 2) rfl
    have c647 := k623.cell' (i := 3) rfl
    have c648 := k623.cell' (i := 4) rfl
    have c649 := k623.cell' (i := 5) rfl
    go_region_held3 (fun W' => W'.cell? ⟨w0.heap.size, 0, none⟩ = some (.int .i64 (ma).r) ∧ W'.cell? ⟨w0.heap.size, 1, none⟩ = some (.int .i64 (ma).c) ∧ W'.cell? ⟨w0.heap.size, 2, none⟩ = some (.slice Auma (ma).a.length cuma) ∧ W'.cell? ⟨(w0.heap.size + 1), 0, none⟩ = some (.int .i64 (mb).r) ∧ W'.cell? ⟨(w0.heap.size + 1), 1, none⟩ = some (.int .i64 (mb).c) ∧ W'.cell? ⟨(w0.heap.size + 1), 2, none⟩ = some (.slice Aumb (mb).a.length cumb) ∧ W'.cell? ⟨gR262, 0, none⟩ = some (.int .i64 ((penOf p ma mb).1).p) ∧ W'.cell? ⟨gR262, 1, none⟩ = some (.int .i64 ((penOf p ma mb).1).q.v) ∧ W'.cell? ⟨gR262, 2, none⟩ = some (.slice Ax261 ((penOf p ma mb).1).q.f.length ax261) ∧ W'.cell? ⟨gR262, 3, none⟩ = some (.slice Cx261 ((penOf p ma mb).1).q.t.length cx261) ∧ W'.cell? ⟨gR262, 4, none⟩ = some (.slice Ex261 ((penOf p ma mb).1).d.length ex261) ∧ W'.cell? ⟨gR262, 5, none⟩ = some (.slice Hx261 ((penOf p ma mb).1).m.length hx261) ∧ W'.cell? ⟨W331.heap.size, 0, none⟩ = some (.int .i64 (ma).r) ∧ W'.cell? ⟨W331.heap.size, 1, none⟩ = some (.int .i64 (ma).c) ∧ W'.cell? ⟨W331.heap.size, 2, none⟩ = some (.slice Ax352 (ma).a.length cx352) ∧ W'.cell? ⟨W398.heap.size, 0, none⟩ = some (.int .i64 (mb).r) ∧ W'.cell? ⟨W398.heap.size, 1, none⟩ = some (.int .i64 (mb).c) ∧ W'.cell? ⟨W398.heap.size, 2, none⟩ = some (.slice Ax424 (mb).a.length cx424) ∧ W'.cell? ⟨W478.heap.size, 0, none⟩ = some (.int .i64 ((penOf p ma mb).1).p) ∧ W'.cell? ⟨W478.heap.size, 1, none⟩ = some (.int .i64 ((penOf p ma mb).1).q.v) ∧ W'.cell? ⟨W478.heap.size, 2, none⟩ = some (.slice Ax509 ((penOf p ma mb).1).q.f.length ax509) ∧ W'.cell? ⟨W478.heap.size, 3, none⟩ = some (.slice Cx509 ((penOf p ma mb).1).q.t.length cx509) ∧ W'.cell? ⟨W478.heap.size, 4, none⟩ = some (.slice Ex509 ((penOf p ma mb).1).d.length ex509) ∧ W'.cell? ⟨W478.heap.size, 5, none⟩ = some (.slice Hx509 ((penOf p ma mb).1).m.length hx509))
      (first | exact ⟨c626, c627, c628, c629, c630, c631, c632, c633, c634, c635, c636, c637, c638, c639, c640, c641, c642, c643, c644, c645, c646, c647, c648, c649⟩ | exact ⟨c668, c669, c670, c671, c672, c673, c674, c675, c676, c677, c678, c679, c680, c681, c682, c683, c684, c685, c686, c687, c688, c689, c690, c691⟩ | exact ⟨c709, c710, c711, c712, c713, c714, c715, c716, c717, c718, c719, c720, c721, c722, c723, c724, c725, c726, c727, c728, c729, c730, c731, c732⟩)
      (first | (go_at_call 37; refine (mx_to _ _ _ (MxR.more (by omega) h612) (by omega)).mono ?_; rintro e W653 ⟨v650, rfl, h651, b652⟩; have h654 := MxR.below (b652.mono (by omega)) h612; have h655 := MxR.below (b652.mono (by omega)) h613; have h656 := RpR.below (b652.mono (by omega)) h614; have h657 := h615.below b652; have h658 := h616.below b652; have h659 := h617.below b652; have k660 := k618.call b652; have k661 := k619.call b652; have k662 := k620.call b652; have k663 := k621.call b652; have k664 := k622.call b652; have k665 := k623.call b652; have s666 : W572.drew.heap.size ≤ W653.heap.size := b652.size; have g667 := bthen g625 b652; clear h612 h613 h614 h615 h616 h617 k618 k619 k620 k621 k622 k623 g625 b652 c626 c627 c628 c629 c630 c631 c632 c633 c634 c635 c636 c637 c638 c639 c640 c641 c642 c643 c644 c645 c646 c647 c648 c649; have c668 := k660.cell' (i := 0) rfl; have c669 := k660.cell' (i := 1) rfl; have c670 := k660.cell' (i := 2) rfl; have c671 := k661.cell' (i := 0) rfl; have c672 := k661.cell' (i := 1) rfl; have c673 := k661.cell' (i := 2) rfl; have c674 := k662.cell' (i := 0) rfl; have c675 := k662.cell' (i := 1) rfl; have c676 := k662.cell' (i := 2) rfl; have c677 := k662.cell' (i := 3) rfl; have c678 := k662.cell' (i := 4) rfl; have c679 := k662.cell' (i := 5) rfl; have c680 := k663.cell' (i := 0) rfl; have c681 := k663.cell' (i := 1) rfl; have c682 := k663.cell' (i := 2) rfl; have c683 := k664.cell' (i := 0) rfl; have c684 := k664.cell' (i := 1) rfl; have c685 := k664.cell' (i := 2) rfl; have c686 := k665.cell' (i := 0) rfl; have c687 := k665.cell' (i := 1) rfl; have c688 := k665.cell' (i := 2) rfl; have c689 := k665.cell' (i := 3) rfl; have c690 := k665.cell' (i := 4) rfl; have c691 := k665.cell' (i := 5) rfl) | (go_at_call 39; refine (eqMatrix_any _ _ _ _ _ h657.rd h651.rd).mono ?_; rintro e W693 ⟨rfl, b692⟩; have h694 := MxR.below (b692.mono (by omega)) h654; have h695 := MxR.below (b692.mono (by omega)) h655; have h696 := RpR.below (b692.mono (by omega)) h656; have h697 := h657.below b692; have h698 := h658.below b692; have h699 := h659.below b692; have h700 := h651.below b692; have k701 := k660.call b692; have k702 := k661.call b692; have k703 := k662.call b692; have k704 := k663.call b692; have k705 := k664.call b692; have k706 := k665.call b692; have s707 : W653.heap.size ≤ W693.heap.size := b692.size; have g708 := bthen g667 b692; clear h654 h655 h656 h657 h658 h659 h651 k660 k661 k662 k663 k664 k665 g667 b692 c668 c669 c670 c671 c672 c673 c674 c675 c676 c677 c678 c679 c680 c681 c682 c683 c684 c685 c686 c687 c688 c689 c690 c691; have c709 := k701.cell' (i := 0) rfl; have c710 := k701.cell' (i := 1) rfl; have c711 := k701.cell' (i := 2) rfl; have c712 := k702.cell' (i := 0) rfl; have c713 := k702.cell' (i := 1) rfl; have c714 := k702.cell' (i := 2) rfl; have c715 := k703.cell' (i := 0) rfl; have c716 := k703.cell' (i := 1) rfl; have c717 := k703.cell' (i := 2) rfl; have c718 := k703.cell' (i := 3) rfl; have c719 := k703.cell' (i := 4) rfl; have c720 := k703.cell' (i := 5) rfl; have c721 := k704.cell' (i := 0) rfl; have c722 := k704.cell' (i := 1) rfl; have c723 := k704.cell' (i := 2) rfl; have c724 := k705.cell' (i := 0) rfl; have c725 := k705.cell' (i := 1) rfl; have c726 := k705.cell' (i := 2) rfl; have c727 := k706.cell' (i := 0) rfl; have c728 := k706.cell' (i := 1) rfl; have c729 := k706.cell' (i := 2) rfl; have c730 := k706.cell' (i := 3) rfl; have c731 := k706.cell' (i := 4) rfl; have c732 := k706.cell' (i := 5) rfl))
    clear h700
    go_wp2_with fail
    have b733 := drew_below W693
    have h734 := MxR.below (b733.mono (by omega)) h694
    have h735 := MxR.below (b733.mono (by omega)) h695
    have h736 := RpR.below (b733.mono (by omega)) h696
    have h737 := h697.below b733
    have h738 := h698.below b733
    have h739 := h699.below b733
    have k740 := k701.call b733
    have k741 := k702.call b733
    have k742 := k703.call b733
    have k743 := k704.call b733
    have k744 := k705.call b733
    have k745 := k706.call b733
    have s746 : W693.heap.size ≤ W693.drew.heap.size := b733.size
    have g747 := bthen g708 b733
    clear h694 h695 h696 h697 h698 h699 k701 k702 k703 k704 k705 k706 g708 b733 c709 c710 c711 c712 c713 c714 c715 c716 c717 c718 c719 c720 c721 c722 c723 c724 c725 c726 c727 c728 c729 c730 c731 c732
    have c748 := k740.cell' (i := 0) rfl
    have c749 := k740.cell' (i := 1) rfl
    have c750 := k740.cell' (i := 2) rfl
    have c751 := k741.cell' (i := 0) rfl
    have c752 := k741.cell' (i := 1) rfl
    have c753 := k741.cell' (i := 2) rfl
    have c754 := k742.cell' (i := 0) rfl
    have c755 := k742.cell' (i := 1) rfl
    have c756 := k742.cell' (i := 2) rfl
    have c757 := k742.cell' (i := 3) rfl
    have c758 := k742.cell' (i := 4) rfl
    have c759 := k742.cell' (i := 5) rfl
    have c760 := k743.cell' (i := 0) rfl
    have c761 := k743.cell' (i := 1) rfl
    have c762 := k743.cell' (i := 2) rfl
    have c763 := k744.cell' (i := 0) rfl
    have c764 := k744.cell' (i := 1) rfl
    have c765 := k744.cell' (i := 2) rfl
    have c766 := k745.cell' (i := 0) rfl
    have c767 := k745.cell' (i := 1) rfl
    have c768 := k745.cell' (i := 2) rfl
    have c769 := k745.cell' (i := 3) rfl
    have c770 := k745.cell' (i := 4) rfl
    have c771 := k745.cell' (i := 5) rfl
    go_region_held3 (fun W' => W'.cell? ⟨w0.heap.size, 0, none⟩ = some (.int .i64 (ma).r) ∧ W'.cell? ⟨w0.heap.size, 1, none⟩ = some (.int .i64 (ma).c) ∧ W'.cell? ⟨w0.heap.size, 2, none⟩ = some (.slice Auma (ma).a.length cuma) ∧ W'.cell? ⟨(w0.heap.size + 1), 0, none⟩ = some (.int .i64 (mb).r) ∧ W'.cell? ⟨(w0.heap.size + 1), 1, none⟩ = some (.int .i64 (mb).c) ∧ W'.cell? ⟨(w0.heap.size + 1), 2, none⟩ = some (.slice Aumb (mb).a.length cumb) ∧ W'.cell? ⟨gR262, 0, none⟩ = some (.int .i64 ((penOf p ma mb).1).p) ∧ W'.cell? ⟨gR262, 1, none⟩ = some (.int .i64 ((penOf p ma mb).1).q.v) ∧ W'.cell? ⟨gR262, 2, none⟩ = some (.slice Ax261 ((penOf p ma mb).1).q.f.length ax261) ∧ W'.cell? ⟨gR262, 3, none⟩ = some (.slice Cx261 ((penOf p ma mb).1).q.t.length cx261) ∧ W'.cell? ⟨gR262, 4, none⟩ = some (.slice Ex261 ((penOf p ma mb).1).d.length ex261) ∧ W'.cell? ⟨gR262, 5, none⟩ = some (.slice Hx261 ((penOf p ma mb).1).m.length hx261) ∧ W'.cell? ⟨W331.heap.size, 0, none⟩ = some (.int .i64 (ma).r) ∧ W'.cell? ⟨W331.heap.size, 1, none⟩ = some (.int .i64 (ma).c) ∧ W'.cell? ⟨W331.heap.size, 2, none⟩ = some (.slice Ax352 (ma).a.length cx352) ∧ W'.cell? ⟨W398.heap.size, 0, none⟩ = some (.int .i64 (mb).r) ∧ W'.cell? ⟨W398.heap.size, 1, none⟩ = some (.int .i64 (mb).c) ∧ W'.cell? ⟨W398.heap.size, 2, none⟩ = some (.slice Ax424 (mb).a.length cx424) ∧ W'.cell? ⟨W478.heap.size, 0, none⟩ = some (.int .i64 ((penOf p ma mb).1).p) ∧ W'.cell? ⟨W478.heap.size, 1, none⟩ = some (.int .i64 ((penOf p ma mb).1).q.v) ∧ W'.cell? ⟨W478.heap.size, 2, none⟩ = some (.slice Ax509 ((penOf p ma mb).1).q.f.length ax509) ∧ W'.cell? ⟨W478.heap.size, 3, none⟩ = some (.slice Cx509 ((penOf p ma mb).1).q.t.length cx509) ∧ W'.cell? ⟨W478.heap.size, 4, none⟩ = some (.slice Ex509 ((penOf p ma mb).1).d.length ex509) ∧ W'.cell? ⟨W478.heap.size, 5, none⟩ = some (.slice Hx509 ((penOf p ma mb).1).m.length hx509))
      (first | exact ⟨c748, c749, c750, c751, c752, c753, c754, c755, c756, c757, c758, c759, c760, c761, c762, c763, c764, c765, c766, c767, c768, c769, c770, c771⟩ | exact ⟨c790, c791, c792, c793, c794, c795, c796, c797, c798, c799, c800, c801, c802, c803, c804, c805, c806, c807, c808, c809, c810, c811, c812, c813⟩ | exact ⟨c831, c832, c833, c834, c835, c836, c837, c838, c839, c840, c841, c842, c843, c844, c845, c846, c847, c848, c849, c850, c851, c852, c853, c854⟩)
      (first | (go_at_call 37; refine (mx_to _ _ _ (MxR.more (by omega) h735) (by omega)).mono ?_; rintro e W775 ⟨v772, rfl, h773, b774⟩; have h776 := MxR.below (b774.mono (by omega)) h734; have h777 := MxR.below (b774.mono (by omega)) h735; have h778 := RpR.below (b774.mono (by omega)) h736; have h779 := h737.below b774; have h780 := h738.below b774; have h781 := h739.below b774; have k782 := k740.call b774; have k783 := k741.call b774; have k784 := k742.call b774; have k785 := k743.call b774; have k786 := k744.call b774; have k787 := k745.call b774; have s788 : W693.drew.heap.size ≤ W775.heap.size := b774.size; have g789 := bthen g747 b774; clear h734 h735 h736 h737 h738 h739 k740 k741 k742 k743 k744 k745 g747 b774 c748 c749 c750 c751 c752 c753 c754 c755 c756 c757 c758 c759 c760 c761 c762 c763 c764 c765 c766 c767 c768 c769 c770 c771; have c790 := k782.cell' (i := 0) rfl; have c791 := k782.cell' (i := 1) rfl; have c792 := k782.cell' (i := 2) rfl; have c793 := k783.cell' (i := 0) rfl; have c794 := k783.cell' (i := 1) rfl; have c795 := k783.cell' (i := 2) rfl; have c796 := k784.cell' (i := 0) rfl; have c797 := k784.cell' (i := 1) rfl; have c798 := k784.cell' (i := 2) rfl; have c799 := k784.cell' (i := 3) rfl; have c800 := k784.cell' (i := 4) rfl; have c801 := k784.cell' (i := 5) rfl; have c802 := k785.cell' (i := 0) rfl; have c803 := k785.cell' (i := 1) rfl; have c804 := k785.cell' (i := 2) rfl; have c805 := k786.cell' (i := 0) rfl; have c806 := k786.cell' (i := 1) rfl; have c807 := k786.cell' (i := 2) rfl; have c808 := k787.cell' (i := 0) rfl; have c809 := k787.cell' (i := 1) rfl; have c810 := k787.cell' (i := 2) rfl; have c811 := k787.cell' (i := 3) rfl; have c812 := k787.cell' (i := 4) rfl; have c813 := k787.cell' (i := 5) rfl) | (go_at_call 39; refine (eqMatrix_any _ _ _ _ _ h780.rd h773.rd).mono ?_; rintro e W815 ⟨rfl, b814⟩; have h816 := MxR.below (b814.mono (by omega)) h776; have h817 := MxR.below (b814.mono (by omega)) h777; have h818 := RpR.below (b814.mono (by omega)) h778; have h819 := h779.below b814; have h820 := h780.below b814; have h821 := h781.below b814; have h822 := h773.below b814; have k823 := k782.call b814; have k824 := k783.call b814; have k825 := k784.call b814; have k826 := k785.call b814; have k827 := k786.call b814; have k828 := k787.call b814; have s829 : W775.heap.size ≤ W815.heap.size := b814.size; have g830 := bthen g789 b814; clear h776 h777 h778 h779 h780 h781 h773 k782 k783 k784 k785 k786 k787 g789 b814 c790 c791 c792 c793 c794 c795 c796 c797 c798 c799 c800 c801 c802 c803 c804 c805 c806 c807 c808 c809 c810 c811 c812 c813; have c831 := k823.cell' (i := 0) rfl; have c832 := k823.cell' (i := 1) rfl; have c833 := k823.cell' (i := 2) rfl; have c834 := k824.cell' (i := 0) rfl; have c835 := k824.cell' (i := 1) rfl; have c836 := k824.cell' (i := 2) rfl; have c837 := k825.cell' (i := 0) rfl; have c838 := k825.cell' (i := 1) rfl; have c839 := k825.cell' (i := 2) rfl; have c840 := k825.cell' (i := 3) rfl; have c841 := k825.cell' (i := 4) rfl; have c842 := k825.cell' (i := 5) rfl; have c843 := k826.cell' (i := 0) rfl; have c844 := k826.cell' (i := 1) rfl; have c845 := k826.cell' (i := 2) rfl; have c846 := k827.cell' (i := 0) rfl; have c847 := k827.cell' (i := 1) rfl; have c848 := k827.cell' (i := 2) rfl; have c849 := k828.cell' (i := 0) rfl; have c850 := k828.cell' (i := 1) rfl; have c851 := k828.cell' (i := 2) rfl; have c852 := k828.cell' (i := 3) rfl; have c853 := k828.cell' (i := 4) rfl; have c854 := k828.cell' (i := 5) rfl))
    clear h822
    go_wp2_with fail
    refine (mx_mark _ _ _ _ _ _ h819 (by omega) (by omega) (by omega)).mono ?_; rintro e W857 ⟨rfl, h855, q856⟩
    have h858 := MxR.chg h816 q856 (by omega) (by omega)
    have h859 := MxR.chg h817 q856 (by omega) (by omega)
    have h860 := RpR.chg h818 q856 (by omega) (by omega)
    have h861 := h820.chg q856 (by omega)
    have h862 := h821.chg q856 (by omega)
    have k863 := k823.chg q856 (by omega)
    have k864 := k824.chg q856 (by omega)
    have k865 := k825.chg q856 (by omega)
    have k866 := k826.chg q856 (by omega)
    have k867 := k827.chg q856 (by omega)
    have k868 := k828.chg q856 (by omega)
    have s869 : W815.heap.size ≤ W857.heap.size := q856.size
    have g870 := g830.trans (q856.below (by omega) (by omega))
    clear h816 h817 h818 h820 h821 k823 k824 k825 k826 k827 k828 g830 q856 c831 c832 c833 c834 c835 c836 c837 c838 c839 c840 c841 c842 c843 c844 c845 c846 c847 c848 c849 c850 c851 c852 c853 c854
    have c871 := k863.cell' (i := 0) rfl
    have c872 := k863.cell' (i := 1) rfl
    have c873 := k863.cell' (i := 2) rfl
    have c874 := k864.cell' (i := 0) rfl
    have c875 := k864.cell' (i := 1) rfl
    have c876 := k864.cell' (i := 2) rfl
    have c877 := k865.cell' (i := 0) rfl
    have c878 := k865.cell' (i := 1) rfl
    have c879 := k865.cell' (i := 2) rfl
    have c880 := k865.cell' (i := 3) rfl
    have c881 := k865.cell' (i := 4) rfl
    have c882 := k865.cell' (i := 5) rfl
    have c883 := k866.cell' (i := 0) rfl
    have c884 := k866.cell' (i := 1) rfl
    have c885 := k866.cell' (i := 2) rfl
    have c886 := k867.cell' (i := 0) rfl
    have c887 := k867.cell' (i := 1) rfl
    have c888 := k867.cell' (i := 2) rfl
    have c889 := k868.cell' (i := 0) rfl
    have c890 := k868.cell' (i := 1) rfl
    have c891 := k868.cell' (i := 2) rfl
    have c892 := k868.cell' (i := 3) rfl
    have c893 := k868.cell' (i := 4) rfl
    have c894 := k868.cell' (i := 5) rfl
    clear h819
    go_wp2_with fail
    refine (mx_mark _ _ _ _ _ _ h861 (by omega) (by omega) (by omega)).mono ?_; rintro e W897 ⟨rfl, h895, q896⟩
    have h898 := MxR.chg h858 q896 (by omega) (by omega)
    have h899 := MxR.chg h859 q896 (by omega) (by omega)
    have h900 := RpR.chg h860 q896 (by omega) (by omega)
    have h901 := h855.chg q896 (by omega)
    have h902 := h862.chg q896 (by omega)
    have k903 := k863.chg q896 (by omega)
    have k904 := k864.chg q896 (by omega)
    have k905 := k865.chg q896 (by omega)
    have k906 := k866.chg q896 (by omega)
    have k907 := k867.chg q896 (by omega)
    have k908 := k868.chg q896 (by omega)
    have s909 : W857.heap.size ≤ W897.heap.size := q896.size
    have g910 := g870.trans (q896.below (by omega) (by omega))
    clear h858 h859 h860 h855 h862 k863 k864 k865 k866 k867 k868 g870 q896 c871 c872 c873 c874 c875 c876 c877 c878 c879 c880 c881 c882 c883 c884 c885 c886 c887 c888 c889 c890 c891 c892 c893 c894
    have c911 := k903.cell' (i := 0) rfl
    have c912 := k903.cell' (i := 1) rfl
    have c913 := k903.cell' (i := 2) rfl
    have c914 := k904.cell' (i := 0) rfl
    have c915 := k904.cell' (i := 1) rfl
    have c916 := k904.cell' (i := 2) rfl
    have c917 := k905.cell' (i := 0) rfl
    have c918 := k905.cell' (i := 1) rfl
    have c919 := k905.cell' (i := 2) rfl
    have c920 := k905.cell' (i := 3) rfl
    have c921 := k905.cell' (i := 4) rfl
    have c922 := k905.cell' (i := 5) rfl
    have c923 := k906.cell' (i := 0) rfl
    have c924 := k906.cell' (i := 1) rfl
    have c925 := k906.cell' (i := 2) rfl
    have c926 := k907.cell' (i := 0) rfl
    have c927 := k907.cell' (i := 1) rfl
    have c928 := k907.cell' (i := 2) rfl
    have c929 := k908.cell' (i := 0) rfl
    have c930 := k908.cell' (i := 1) rfl
    have c931 := k908.cell' (i := 2) rfl
    have c932 := k908.cell' (i := 3) rfl
    have c933 := k908.cell' (i := 4) rfl
    have c934 := k908.cell' (i := 5) rfl
    clear h861
    go_wp2_with fail
    refine (eqRep_any _ _ _ _ _ h902.rd (RpR.more (by omega) h900)).mono ?_; rintro e W936 ⟨rfl, b935⟩
    have h937 := MxR.below (b935.mono (by omega)) h898
    have h938 := MxR.below (b935.mono (by omega)) h899
    have h939 := RpR.below (b935.mono (by omega)) h900
    have h940 := h901.below b935
    have h941 := h895.below b935
    have h942 := h902.below b935
    have k943 := k903.call b935
    have k944 := k904.call b935
    have k945 := k905.call b935
    have k946 := k906.call b935
    have k947 := k907.call b935
    have k948 := k908.call b935
    have s949 : W897.heap.size ≤ W936.heap.size := b935.size
    have g950 := bthen g910 b935
    clear h898 h899 h900 h901 h895 h902 k903 k904 k905 k906 k907 k908 g910 b935 c911 c912 c913 c914 c915 c916 c917 c918 c919 c920 c921 c922 c923 c924 c925 c926 c927 c928 c929 c930 c931 c932 c933 c934
    have c951 := k943.cell' (i := 0) rfl
    have c952 := k943.cell' (i := 1) rfl
    have c953 := k943.cell' (i := 2) rfl
    have c954 := k944.cell' (i := 0) rfl
    have c955 := k944.cell' (i := 1) rfl
    have c956 := k944.cell' (i := 2) rfl
    have c957 := k945.cell' (i := 0) rfl
    have c958 := k945.cell' (i := 1) rfl
    have c959 := k945.cell' (i := 2) rfl
    have c960 := k945.cell' (i := 3) rfl
    have c961 := k945.cell' (i := 4) rfl
    have c962 := k945.cell' (i := 5) rfl
    have c963 := k946.cell' (i := 0) rfl
    have c964 := k946.cell' (i := 1) rfl
    have c965 := k946.cell' (i := 2) rfl
    have c966 := k947.cell' (i := 0) rfl
    have c967 := k947.cell' (i := 1) rfl
    have c968 := k947.cell' (i := 2) rfl
    have c969 := k948.cell' (i := 0) rfl
    have c970 := k948.cell' (i := 1) rfl
    have c971 := k948.cell' (i := 2) rfl
    have c972 := k948.cell' (i := 3) rfl
    have c973 := k948.cell' (i := 4) rfl
    have c974 := k948.cell' (i := 5) rfl
    clear h940
    clear h941
    go_wp2_with fail
    refine (rep_mark _ _ _ _ _ _ h942 (by omega) (by omega) (by omega) (by omega)).mono ?_; rintro e W977 ⟨rfl, h975, q976⟩
    have h978 := MxR.chg h937 q976 (by omega) (by omega)
    have h979 := MxR.chg h938 q976 (by omega) (by omega)
    have h980 := RpR.chg h939 q976 (by omega) (by omega)
    have k981 := k943.chg q976 (by omega)
    have k982 := k944.chg q976 (by omega)
    have k983 := k945.chg q976 (by omega)
    have k984 := k946.chg q976 (by omega)
    have k985 := k947.chg q976 (by omega)
    have k986 := k948.chg q976 (by omega)
    have s987 : W936.heap.size ≤ W977.heap.size := q976.size
    have g988 := g950.trans (q976.below (by omega) (by omega))
    clear h937 h938 h939 k943 k944 k945 k946 k947 k948 g950 q976 c951 c952 c953 c954 c955 c956 c957 c958 c959 c960 c961 c962 c963 c964 c965 c966 c967 c968 c969 c970 c971 c972 c973 c974
    have c989 := k981.cell' (i := 0) rfl
    have c990 := k981.cell' (i := 1) rfl
    have c991 := k981.cell' (i := 2) rfl
    have c992 := k982.cell' (i := 0) rfl
    have c993 := k982.cell' (i := 1) rfl
    have c994 := k982.cell' (i := 2) rfl
    have c995 := k983.cell' (i := 0) rfl
    have c996 := k983.cell' (i := 1) rfl
    have c997 := k983.cell' (i := 2) rfl
    have c998 := k983.cell' (i := 3) rfl
    have c999 := k983.cell' (i := 4) rfl
    have c1000 := k983.cell' (i := 5) rfl
    have c1001 := k984.cell' (i := 0) rfl
    have c1002 := k984.cell' (i := 1) rfl
    have c1003 := k984.cell' (i := 2) rfl
    have c1004 := k985.cell' (i := 0) rfl
    have c1005 := k985.cell' (i := 1) rfl
    have c1006 := k985.cell' (i := 2) rfl
    have c1007 := k986.cell' (i := 0) rfl
    have c1008 := k986.cell' (i := 1) rfl
    have c1009 := k986.cell' (i := 2) rfl
    have c1010 := k986.cell' (i := 3) rfl
    have c1011 := k986.cell' (i := 4) rfl
    have c1012 := k986.cell' (i := 5) rfl
    clear h942
    go_wp2_with fail
    refine (rep_held _ _ _ _ h975.rd (by omega) (by omega) (by omega)).mono ?_; rintro e W1014 ⟨rfl, b1013⟩
    have h1015 := MxR.below (b1013.mono (by omega)) h978
    have h1016 := MxR.below (b1013.mono (by omega)) h979
    have h1017 := RpR.below (b1013.mono (by omega)) h980
    have h1018 := h975.below b1013
    have k1019 := k981.call b1013
    have k1020 := k982.call b1013
    have k1021 := k983.call b1013
    have k1022 := k984.call b1013
    have k1023 := k985.call b1013
    have k1024 := k986.call b1013
    have s1025 : W977.heap.size ≤ W1014.heap.size := b1013.size
    have g1026 := bthen g988 b1013
    clear h978 h979 h980 h975 k981 k982 k983 k984 k985 k986 g988 b1013 c989 c990 c991 c992 c993 c994 c995 c996 c997 c998 c999 c1000 c1001 c1002 c1003 c1004 c1005 c1006 c1007 c1008 c1009 c1010 c1011 c1012
    have c1027 := k1019.cell' (i := 0) rfl
    have c1028 := k1019.cell' (i := 1) rfl
    have c1029 := k1019.cell' (i := 2) rfl
    have c1030 := k1020.cell' (i := 0) rfl
    have c1031 := k1020.cell' (i := 1) rfl
    have c1032 := k1020.cell' (i := 2) rfl
    have c1033 := k1021.cell' (i := 0) rfl
    have c1034 := k1021.cell' (i := 1) rfl
    have c1035 := k1021.cell' (i := 2) rfl
    have c1036 := k1021.cell' (i := 3) rfl
    have c1037 := k1021.cell' (i := 4) rfl
    have c1038 := k1021.cell' (i := 5) rfl
    have c1039 := k1022.cell' (i := 0) rfl
    have c1040 := k1022.cell' (i := 1) rfl
    have c1041 := k1022.cell' (i := 2) rfl
    have c1042 := k1023.cell' (i := 0) rfl
    have c1043 := k1023.cell' (i := 1) rfl
    have c1044 := k1023.cell' (i := 2) rfl
    have c1045 := k1024.cell' (i := 0) rfl
    have c1046 := k1024.cell' (i := 1) rfl
    have c1047 := k1024.cell' (i := 2) rfl
    have c1048 := k1024.cell' (i := 3) rfl
    have c1049 := k1024.cell' (i := 4) rfl
    have c1050 := k1024.cell' (i := 5) rfl
    go_wp2_with fail
    refine wp_region_net2 (by kernel_rfl) [.eq (.int .i64 p), .eq (.agg #[.int .i64 (ma).r, .int .i64 (ma).c, .slice Auma (ma).a.length cuma]), rel 2 (fun u lo hi w => MxO w lo hi u ma), .eq (.agg #[.int .i64 (mb).r, .int .i64 (mb).c, .slice Aumb (mb).a.length cumb]), rel 4 (fun u lo hi w => MxO w lo hi u mb), .rel (fun x w => ∃ Ax1051 ax1051 Cx1051 cx1051 Ex1051 ex1051 Hx1051 hx1051, x.v 5 = .tuple #[.agg #[.int .i64 ((penOf p ma mb).1).p, .int .i64 ((penOf p ma mb).1).q.v, .slice Ax1051 ((penOf p ma mb).1).q.f.length ax1051, .slice Cx1051 ((penOf p ma mb).1).q.t.length cx1051, .slice Ex1051 ((penOf p ma mb).1).d.length ex1051, .slice Hx1051 ((penOf p ma mb).1).m.length hx1051], .bool (penOf p ma mb).2] ∧ RepO w (x.lo 5) (x.hi 5) (.agg #[.int .i64 ((penOf p ma mb).1).p, .int .i64 ((penOf p ma mb).1).q.v, .slice Ax1051 ((penOf p ma mb).1).q.f.length ax1051, .slice Cx1051 ((penOf p ma mb).1).q.t.length cx1051, .slice Ex1051 ((penOf p ma mb).1).d.length ex1051, .slice Hx1051 ((penOf p ma mb).1).m.length hx1051]) (penOf p ma mb).1), .rel (fun x w => ∃ Ax1051 ax1051 Cx1051 cx1051 Ex1051 ex1051 Hx1051 hx1051, x.v 6 = .tuple #[.agg #[.int .i64 ((penOf p ma mb).1).p, .int .i64 ((penOf p ma mb).1).q.v, .slice Ax1051 ((penOf p ma mb).1).q.f.length ax1051, .slice Cx1051 ((penOf p ma mb).1).q.t.length cx1051, .slice Ex1051 ((penOf p ma mb).1).d.length ex1051, .slice Hx1051 ((penOf p ma mb).1).m.length hx1051], .bool (penOf p ma mb).2] ∧ RepO w (x.lo 5) (x.hi 5) (.agg #[.int .i64 ((penOf p ma mb).1).p, .int .i64 ((penOf p ma mb).1).q.v, .slice Ax1051 ((penOf p ma mb).1).q.f.length ax1051, .slice Cx1051 ((penOf p ma mb).1).q.t.length cx1051, .slice Ex1051 ((penOf p ma mb).1).d.length ex1051, .slice Hx1051 ((penOf p ma mb).1).m.length hx1051]) (penOf p ma mb).1), .rel (fun x w => ∃ Ax1051 ax1051 Cx1051 cx1051 Ex1051 ex1051 Hx1051 hx1051, x.v 7 = .agg #[.int .i64 ((penOf p ma mb).1).p, .int .i64 ((penOf p ma mb).1).q.v, .slice Ax1051 ((penOf p ma mb).1).q.f.length ax1051, .slice Cx1051 ((penOf p ma mb).1).q.t.length cx1051, .slice Ex1051 ((penOf p ma mb).1).d.length ex1051, .slice Hx1051 ((penOf p ma mb).1).m.length hx1051] ∧ RepO w (x.lo 5) (x.hi 5) (.agg #[.int .i64 ((penOf p ma mb).1).p, .int .i64 ((penOf p ma mb).1).q.v, .slice Ax1051 ((penOf p ma mb).1).q.f.length ax1051, .slice Cx1051 ((penOf p ma mb).1).q.t.length cx1051, .slice Ex1051 ((penOf p ma mb).1).d.length ex1051, .slice Hx1051 ((penOf p ma mb).1).m.length hx1051]) (penOf p ma mb).1), .eq (.bool (penOf p ma mb).2), rel 9 (fun u lo hi w => ∃ g, u = .pointer (some ⟨g, 0, none⟩) ∧ (lo ≤ g ∧ g < hi) ∧ Blk w g 43 #[.int .i64 0, .int .i64 0, .slice none 0 0, .slice none 0 0, .slice none 0 0, .slice none 0 0])] [[], [], [1], [], [1, 2, 3], [0, 1, 2, 3, 4], [0, 1, 2, 3, 4, 5], [0, 1, 2, 3, 4, 5, 6], [0, 1, 2, 3, 4, 5, 6], [], [0, 1, 2, 3, 4, 5, 6, 7, 9], [0, 1, 2, 3, 4, 5, 6, 7, 8, 9, 10]] 10 8 [0, 1, 2, 3, 4, 5, 6, 7, 9] (by kernel_rfl) rfl ⟨trivial, trivial, rel_stable (fun u lo hi w w' h hb => h.below hb), trivial, rel_stable (fun u lo hi w w' h hb => h.below hb), fun x w w' ⟨Ax1051, ax1051, Cx1051, cx1051, Ex1051, ex1051, Hx1051, hx1051, e, h⟩ hb => ⟨Ax1051, ax1051, Cx1051, cx1051, Ex1051, ex1051, Hx1051, hx1051, e, h.below hb⟩, fun x w w' ⟨Ax1051, ax1051, Cx1051, cx1051, Ex1051, ex1051, Hx1051, hx1051, e, h⟩ hb => ⟨Ax1051, ax1051, Cx1051, cx1051, Ex1051, ex1051, Hx1051, hx1051, e, h.below hb⟩, fun x w w' ⟨Ax1051, ax1051, Cx1051, cx1051, Ex1051, ex1051, Hx1051, hx1051, e, h⟩ hb => ⟨Ax1051, ax1051, Cx1051, cx1051, Ex1051, ex1051, Hx1051, hx1051, e, h.below hb⟩, trivial, rel_stable (fun u lo hi w w' ⟨g, e, h1, h⟩ hb => ⟨g, e, h1, h.call hb⟩), trivial⟩ ⟨?_, ?_, ?_, ?_, ?_, ?_, ?_, ?_, ?_, ?_, trivial⟩ ?_ ?_
    · intro x w hb hk Q' hQ
      clear hk
      simp only [netAct, dstAt, List.getElem?_toArray, List.getElem?_cons_zero, List.getElem?_cons_succ, Option.bind_some, Act.put, List.setIfInBounds_toArray, List.set_cons_zero, List.set_cons_succ] at hQ ⊢
      go_wp2
      exact hQ (.int .i64 p) _ (Below.refl _ _) rfl
    · intro x w hb hk Q' hQ
      clear hk
      simp only [netAct, dstAt, List.getElem?_toArray, List.getElem?_cons_zero, List.getElem?_cons_succ, Option.bind_some, Act.put, List.setIfInBounds_toArray, List.set_cons_zero, List.set_cons_succ] at hQ ⊢
      have z0 := (k1019.call hb).cell' (i := 0) rfl
      have z1 := (k1019.call hb).cell' (i := 1) rfl
      have z2 := (k1019.call hb).cell' (i := 2) rfl
      go_wp2
      exact hQ (.agg #[.int .i64 (ma).r, .int .i64 (ma).c, .slice Auma (ma).a.length cuma]) _ (Below.refl _ _) rfl
    · intro x w hb hk Q' hQ
      have h1 : x.v 1 = .agg #[.int .i64 (ma).r, .int .i64 (ma).c, .slice Auma (ma).a.length cuma] := (hk 1 (by decide)).1
      clear hk
      simp only [netAct, dstAt, List.getElem?_toArray, List.getElem?_cons_zero, List.getElem?_cons_succ, Option.bind_some, Act.put, List.setIfInBounds_toArray, List.set_cons_zero, List.set_cons_succ] at hQ ⊢
      simp only [h1] at hQ ⊢
      clear h1
      have hs := hb.size
      go_wp2_with fail
      refine (mx_to _ _ _ (MxR.more (by omega) (MxR.below (hb.mono (by omega)) h1015)) (by omega)).mono ?_; rintro e w1 ⟨v1, rfl, ho, hb1⟩
      go_wp2
      exact hQ _ _ hb1 ho
    · intro x w hb hk Q' hQ
      clear hk
      simp only [netAct, dstAt, List.getElem?_toArray, List.getElem?_cons_zero, List.getElem?_cons_succ, Option.bind_some, Act.put, List.setIfInBounds_toArray, List.set_cons_zero, List.set_cons_succ] at hQ ⊢
      have z0 := (k1020.call hb).cell' (i := 0) rfl
      have z1 := (k1020.call hb).cell' (i := 1) rfl
      have z2 := (k1020.call hb).cell' (i := 2) rfl
      go_wp2
      exact hQ (.agg #[.int .i64 (mb).r, .int .i64 (mb).c, .slice Aumb (mb).a.length cumb]) _ (Below.refl _ _) rfl
    · intro x w hb hk Q' hQ
      have h1 : x.v 1 = .agg #[.int .i64 (ma).r, .int .i64 (ma).c, .slice Auma (ma).a.length cuma] := (hk 1 (by decide)).1
      have h2 : MxO w (x.lo 2) (x.hi 2) (x.v 2) ma := (hk 2 (by decide)).1
      have h3 : x.v 3 = .agg #[.int .i64 (mb).r, .int .i64 (mb).c, .slice Aumb (mb).a.length cumb] := (hk 3 (by decide)).1
      have s2 := (hk 2 (by decide)).2
      clear hk
      simp only [netAct, dstAt, List.getElem?_toArray, List.getElem?_cons_zero, List.getElem?_cons_succ, Option.bind_some, Act.put, List.setIfInBounds_toArray, List.set_cons_zero, List.set_cons_succ] at hQ ⊢
      simp only [h1, h3] at hQ ⊢
      clear h1 h3
      have hs := hb.size
      go_wp2_with fail
      refine (mx_to _ _ _ (MxR.more (by omega) (MxR.below (hb.mono (by omega)) h1016)) (by omega)).mono ?_; rintro e w1 ⟨v1, rfl, ho, hb1⟩
      go_wp2
      exact hQ _ _ hb1 ho
    · intro x w hb hk Q' hQ
      have h0 : x.v 0 = .int .i64 p := (hk 0 (by decide)).1
      have h1 : x.v 1 = .agg #[.int .i64 (ma).r, .int .i64 (ma).c, .slice Auma (ma).a.length cuma] := (hk 1 (by decide)).1
      have h2 : MxO w (x.lo 2) (x.hi 2) (x.v 2) ma := (hk 2 (by decide)).1
      have h3 : x.v 3 = .agg #[.int .i64 (mb).r, .int .i64 (mb).c, .slice Aumb (mb).a.length cumb] := (hk 3 (by decide)).1
      have h4 : MxO w (x.lo 4) (x.hi 4) (x.v 4) mb := (hk 4 (by decide)).1
      have s2 := (hk 2 (by decide)).2
      have s4 := (hk 4 (by decide)).2
      clear hk
      simp only [netAct, dstAt, List.getElem?_toArray, List.getElem?_cons_zero, List.getElem?_cons_succ, Option.bind_some, Act.put, List.setIfInBounds_toArray, List.set_cons_zero, List.set_cons_succ] at hQ ⊢
      simp only [h0, h1, h3] at hQ ⊢
      clear h0 h1 h3
      obtain ⟨Aq2, cq2, e2⟩ := h2.form; rw [e2] at h2 hQ ⊢
      obtain ⟨Aq4, cq4, e4⟩ := h4.form; rw [e4] at h4 hQ ⊢
      go_wp2_with fail
      refine (implPencilOf_any _ _ _ _ _ _ rng_p h2.rd h4.rd).mono ?_; rintro e w1 ⟨v1, rfl, ho, hb1⟩
      obtain ⟨Ax1051, ax1051, Cx1051, cx1051, Ex1051, ex1051, Hx1051, hx1051, ev⟩ := ho.form; subst ev
      go_wp2
      exact hQ _ _ hb1 ⟨_, _, _, _, _, _, _, _, rfl, ho⟩
    · intro x w hb hk Q' hQ
      have h0 : x.v 0 = .int .i64 p := (hk 0 (by decide)).1
      have h1 : x.v 1 = .agg #[.int .i64 (ma).r, .int .i64 (ma).c, .slice Auma (ma).a.length cuma] := (hk 1 (by decide)).1
      have h2 : MxO w (x.lo 2) (x.hi 2) (x.v 2) ma := (hk 2 (by decide)).1
      have h3 : x.v 3 = .agg #[.int .i64 (mb).r, .int .i64 (mb).c, .slice Aumb (mb).a.length cumb] := (hk 3 (by decide)).1
      have h4 : MxO w (x.lo 4) (x.hi 4) (x.v 4) mb := (hk 4 (by decide)).1
      have h5 : ∃ Ax1051 ax1051 Cx1051 cx1051 Ex1051 ex1051 Hx1051 hx1051, x.v 5 = .tuple #[.agg #[.int .i64 ((penOf p ma mb).1).p, .int .i64 ((penOf p ma mb).1).q.v, .slice Ax1051 ((penOf p ma mb).1).q.f.length ax1051, .slice Cx1051 ((penOf p ma mb).1).q.t.length cx1051, .slice Ex1051 ((penOf p ma mb).1).d.length ex1051, .slice Hx1051 ((penOf p ma mb).1).m.length hx1051], .bool (penOf p ma mb).2] ∧ RepO w (x.lo 5) (x.hi 5) (.agg #[.int .i64 ((penOf p ma mb).1).p, .int .i64 ((penOf p ma mb).1).q.v, .slice Ax1051 ((penOf p ma mb).1).q.f.length ax1051, .slice Cx1051 ((penOf p ma mb).1).q.t.length cx1051, .slice Ex1051 ((penOf p ma mb).1).d.length ex1051, .slice Hx1051 ((penOf p ma mb).1).m.length hx1051]) (penOf p ma mb).1 := (hk 5 (by decide)).1
      have s2 := (hk 2 (by decide)).2
      have s4 := (hk 4 (by decide)).2
      have s5 := (hk 5 (by decide)).2
      clear hk
      simp only [netAct, dstAt, List.getElem?_toArray, List.getElem?_cons_zero, List.getElem?_cons_succ, Option.bind_some, Act.put, List.setIfInBounds_toArray, List.set_cons_zero, List.set_cons_succ] at hQ ⊢
      simp only [h0, h1, h3] at hQ ⊢
      clear h0 h1 h3
      obtain ⟨Ax1051, ax1051, Cx1051, cx1051, Ex1051, ex1051, Hx1051, hx1051, e1, ho⟩ := h5
      have hQ' := hQ (.tuple #[.agg #[.int .i64 ((penOf p ma mb).1).p, .int .i64 ((penOf p ma mb).1).q.v, .slice Ax1051 ((penOf p ma mb).1).q.f.length ax1051, .slice Cx1051 ((penOf p ma mb).1).q.t.length cx1051, .slice Ex1051 ((penOf p ma mb).1).d.length ex1051, .slice Hx1051 ((penOf p ma mb).1).m.length hx1051], .bool (penOf p ma mb).2]) w (Below.refl _ _) ⟨Ax1051, ax1051, Cx1051, cx1051, Ex1051, ex1051, Hx1051, hx1051, rfl, ho⟩
      rw [e1] at hQ' ⊢
      go_wp2
      exact hQ'
    · intro x w hb hk Q' hQ
      have h0 : x.v 0 = .int .i64 p := (hk 0 (by decide)).1
      have h1 : x.v 1 = .agg #[.int .i64 (ma).r, .int .i64 (ma).c, .slice Auma (ma).a.length cuma] := (hk 1 (by decide)).1
      have h2 : MxO w (x.lo 2) (x.hi 2) (x.v 2) ma := (hk 2 (by decide)).1
      have h3 : x.v 3 = .agg #[.int .i64 (mb).r, .int .i64 (mb).c, .slice Aumb (mb).a.length cumb] := (hk 3 (by decide)).1
      have h4 : MxO w (x.lo 4) (x.hi 4) (x.v 4) mb := (hk 4 (by decide)).1
      have h5 : ∃ Ax1051 ax1051 Cx1051 cx1051 Ex1051 ex1051 Hx1051 hx1051, x.v 5 = .tuple #[.agg #[.int .i64 ((penOf p ma mb).1).p, .int .i64 ((penOf p ma mb).1).q.v, .slice Ax1051 ((penOf p ma mb).1).q.f.length ax1051, .slice Cx1051 ((penOf p ma mb).1).q.t.length cx1051, .slice Ex1051 ((penOf p ma mb).1).d.length ex1051, .slice Hx1051 ((penOf p ma mb).1).m.length hx1051], .bool (penOf p ma mb).2] ∧ RepO w (x.lo 5) (x.hi 5) (.agg #[.int .i64 ((penOf p ma mb).1).p, .int .i64 ((penOf p ma mb).1).q.v, .slice Ax1051 ((penOf p ma mb).1).q.f.length ax1051, .slice Cx1051 ((penOf p ma mb).1).q.t.length cx1051, .slice Ex1051 ((penOf p ma mb).1).d.length ex1051, .slice Hx1051 ((penOf p ma mb).1).m.length hx1051]) (penOf p ma mb).1 := (hk 5 (by decide)).1
      have h6 : ∃ Ax1051 ax1051 Cx1051 cx1051 Ex1051 ex1051 Hx1051 hx1051, x.v 6 = .tuple #[.agg #[.int .i64 ((penOf p ma mb).1).p, .int .i64 ((penOf p ma mb).1).q.v, .slice Ax1051 ((penOf p ma mb).1).q.f.length ax1051, .slice Cx1051 ((penOf p ma mb).1).q.t.length cx1051, .slice Ex1051 ((penOf p ma mb).1).d.length ex1051, .slice Hx1051 ((penOf p ma mb).1).m.length hx1051], .bool (penOf p ma mb).2] ∧ RepO w (x.lo 5) (x.hi 5) (.agg #[.int .i64 ((penOf p ma mb).1).p, .int .i64 ((penOf p ma mb).1).q.v, .slice Ax1051 ((penOf p ma mb).1).q.f.length ax1051, .slice Cx1051 ((penOf p ma mb).1).q.t.length cx1051, .slice Ex1051 ((penOf p ma mb).1).d.length ex1051, .slice Hx1051 ((penOf p ma mb).1).m.length hx1051]) (penOf p ma mb).1 := (hk 6 (by decide)).1
      have s2 := (hk 2 (by decide)).2
      have s4 := (hk 4 (by decide)).2
      have s5 := (hk 5 (by decide)).2
      have s6 := (hk 6 (by decide)).2
      clear hk
      simp only [netAct, dstAt, List.getElem?_toArray, List.getElem?_cons_zero, List.getElem?_cons_succ, Option.bind_some, Act.put, List.setIfInBounds_toArray, List.set_cons_zero, List.set_cons_succ] at hQ ⊢
      simp only [h0, h1, h3] at hQ ⊢
      clear h0 h1 h3
      obtain ⟨Ax1051, ax1051, Cx1051, cx1051, Ex1051, ex1051, Hx1051, hx1051, e1, ho⟩ := h6
      have hQ' := hQ (.agg #[.int .i64 ((penOf p ma mb).1).p, .int .i64 ((penOf p ma mb).1).q.v, .slice Ax1051 ((penOf p ma mb).1).q.f.length ax1051, .slice Cx1051 ((penOf p ma mb).1).q.t.length cx1051, .slice Ex1051 ((penOf p ma mb).1).d.length ex1051, .slice Hx1051 ((penOf p ma mb).1).m.length hx1051]) w (Below.refl _ _) ⟨Ax1051, ax1051, Cx1051, cx1051, Ex1051, ex1051, Hx1051, hx1051, rfl, ho⟩
      rw [e1] at hQ' ⊢
      go_wp2
      exact hQ'
    · intro x w hb hk Q' hQ
      have h6 : ∃ Ax1051 ax1051 Cx1051 cx1051 Ex1051 ex1051 Hx1051 hx1051, x.v 6 = .tuple #[.agg #[.int .i64 ((penOf p ma mb).1).p, .int .i64 ((penOf p ma mb).1).q.v, .slice Ax1051 ((penOf p ma mb).1).q.f.length ax1051, .slice Cx1051 ((penOf p ma mb).1).q.t.length cx1051, .slice Ex1051 ((penOf p ma mb).1).d.length ex1051, .slice Hx1051 ((penOf p ma mb).1).m.length hx1051], .bool (penOf p ma mb).2] ∧ RepO w (x.lo 5) (x.hi 5) (.agg #[.int .i64 ((penOf p ma mb).1).p, .int .i64 ((penOf p ma mb).1).q.v, .slice Ax1051 ((penOf p ma mb).1).q.f.length ax1051, .slice Cx1051 ((penOf p ma mb).1).q.t.length cx1051, .slice Ex1051 ((penOf p ma mb).1).d.length ex1051, .slice Hx1051 ((penOf p ma mb).1).m.length hx1051]) (penOf p ma mb).1 := (hk 6 (by decide)).1
      clear hk
      simp only [netAct, dstAt, List.getElem?_toArray, List.getElem?_cons_zero, List.getElem?_cons_succ, Option.bind_some, Act.put, List.setIfInBounds_toArray, List.set_cons_zero, List.set_cons_succ] at hQ ⊢
      obtain ⟨Ax1051, ax1051, Cx1051, cx1051, Ex1051, ex1051, Hx1051, hx1051, e1, ho⟩ := h6
      rw [e1] at hQ ⊢
      go_wp2
      exact hQ (.bool (penOf p ma mb).2) _ (Below.refl _ _) rfl
    · intro x w hb hk Q' hQ
      clear hk
      simp only [netAct, dstAt, List.getElem?_toArray, List.getElem?_cons_zero, List.getElem?_cons_succ, Option.bind_some, Act.put, List.setIfInBounds_toArray, List.set_cons_zero, List.set_cons_succ] at hQ ⊢
      go_wp2
      exact hQ _ _ (below_alloc _ _) ⟨_, rfl, ⟨Nat.le_refl _, by show w.heap.size < (w.alloc _).heap.size; simp⟩, Blk.new _ _ _⟩
    · intro x w hb hk hiv hdj
      have h0 : x.v 0 = .int .i64 p := hk 0 (by decide)
      have h1 : x.v 1 = .agg #[.int .i64 (ma).r, .int .i64 (ma).c, .slice Auma (ma).a.length cuma] := hk 1 (by decide)
      have h2 : MxO w (x.lo 2) (x.hi 2) (x.v 2) ma := hk 2 (by decide)
      have h3 : x.v 3 = .agg #[.int .i64 (mb).r, .int .i64 (mb).c, .slice Aumb (mb).a.length cumb] := hk 3 (by decide)
      have h4 : MxO w (x.lo 4) (x.hi 4) (x.v 4) mb := hk 4 (by decide)
      have h5 : ∃ Ax1051 ax1051 Cx1051 cx1051 Ex1051 ex1051 Hx1051 hx1051, x.v 5 = .tuple #[.agg #[.int .i64 ((penOf p ma mb).1).p, .int .i64 ((penOf p ma mb).1).q.v, .slice Ax1051 ((penOf p ma mb).1).q.f.length ax1051, .slice Cx1051 ((penOf p ma mb).1).q.t.length cx1051, .slice Ex1051 ((penOf p ma mb).1).d.length ex1051, .slice Hx1051 ((penOf p ma mb).1).m.length hx1051], .bool (penOf p ma mb).2] ∧ RepO w (x.lo 5) (x.hi 5) (.agg #[.int .i64 ((penOf p ma mb).1).p, .int .i64 ((penOf p ma mb).1).q.v, .slice Ax1051 ((penOf p ma mb).1).q.f.length ax1051, .slice Cx1051 ((penOf p ma mb).1).q.t.length cx1051, .slice Ex1051 ((penOf p ma mb).1).d.length ex1051, .slice Hx1051 ((penOf p ma mb).1).m.length hx1051]) (penOf p ma mb).1 := hk 5 (by decide)
      have h6 : ∃ Ax1051 ax1051 Cx1051 cx1051 Ex1051 ex1051 Hx1051 hx1051, x.v 6 = .tuple #[.agg #[.int .i64 ((penOf p ma mb).1).p, .int .i64 ((penOf p ma mb).1).q.v, .slice Ax1051 ((penOf p ma mb).1).q.f.length ax1051, .slice Cx1051 ((penOf p ma mb).1).q.t.length cx1051, .slice Ex1051 ((penOf p ma mb).1).d.length ex1051, .slice Hx1051 ((penOf p ma mb).1).m.length hx1051], .bool (penOf p ma mb).2] ∧ RepO w (x.lo 5) (x.hi 5) (.agg #[.int .i64 ((penOf p ma mb).1).p, .int .i64 ((penOf p ma mb).1).q.v, .slice Ax1051 ((penOf p ma mb).1).q.f.length ax1051, .slice Cx1051 ((penOf p ma mb).1).q.t.length cx1051, .slice Ex1051 ((penOf p ma mb).1).d.length ex1051, .slice Hx1051 ((penOf p ma mb).1).m.length hx1051]) (penOf p ma mb).1 := hk 6 (by decide)
      have h7 : ∃ Ax1051 ax1051 Cx1051 cx1051 Ex1051 ex1051 Hx1051 hx1051, x.v 7 = .agg #[.int .i64 ((penOf p ma mb).1).p, .int .i64 ((penOf p ma mb).1).q.v, .slice Ax1051 ((penOf p ma mb).1).q.f.length ax1051, .slice Cx1051 ((penOf p ma mb).1).q.t.length cx1051, .slice Ex1051 ((penOf p ma mb).1).d.length ex1051, .slice Hx1051 ((penOf p ma mb).1).m.length hx1051] ∧ RepO w (x.lo 5) (x.hi 5) (.agg #[.int .i64 ((penOf p ma mb).1).p, .int .i64 ((penOf p ma mb).1).q.v, .slice Ax1051 ((penOf p ma mb).1).q.f.length ax1051, .slice Cx1051 ((penOf p ma mb).1).q.t.length cx1051, .slice Ex1051 ((penOf p ma mb).1).d.length ex1051, .slice Hx1051 ((penOf p ma mb).1).m.length hx1051]) (penOf p ma mb).1 := hk 7 (by decide)
      have h8 : x.v 8 = .bool (penOf p ma mb).2 := hk 8 (by decide)
      have h9 : ∃ g, (x.v 9) = .pointer (some ⟨g, 0, none⟩) ∧ ((x.lo 9) ≤ g ∧ g < (x.hi 9)) ∧ Blk w g 43 #[.int .i64 0, .int .i64 0, .slice none 0 0, .slice none 0 0, .slice none 0 0, .slice none 0 0] := hk 9 (by decide)
      clear hk
      simp only [netAct, dstAt, List.getElem?_toArray, List.getElem?_cons_zero, List.getElem?_cons_succ, Option.bind_some, Act.put, List.setIfInBounds_toArray, List.set_cons_zero, List.set_cons_succ]
      simp only [List.drop_succ_cons, List.drop_zero, h0, h1, h3, h8]
      clear h0 h1 h3 h8
      obtain ⟨Ax1051, ax1051, Cx1051, cx1051, Ex1051, ex1051, Hx1051, hx1051, e1054, h1053⟩ := h7
      obtain ⟨gR1052, e1055, y1056, k1057⟩ := h9
      rw [e1054, e1055]
      have y1058 := hiv 5 (by decide)
      have y1059 := hiv 9 (by decide)
      have y1060 := hdj 5 9 (by decide) (by decide) (by decide)
      have s1062 := hb.size
      have b1061 := hb
      clear hb hiv hdj e1054 e1055 h2 h4 h5
      obtain ⟨Ax1051b, ax1051b, Cx1051b, cx1051b, Ex1051b, ex1051b, Hx1051b, hx1051b, e1063, _⟩ := h6; rw [e1063]; clear e1063
      have h1065 := MxR.below (b1061.mono (by omega)) h1015
      have h1066 := MxR.below (b1061.mono (by omega)) h1016
      have h1067 := RpR.below (b1061.mono (by omega)) h1017
      have h1068 := h1018.below b1061
      have k1069 := k1019.call b1061
      have k1070 := k1020.call b1061
      have k1071 := k1021.call b1061
      have k1072 := k1022.call b1061
      have k1073 := k1023.call b1061
      have k1074 := k1024.call b1061
      have s1075 : W1014.heap.size ≤ w.heap.size := b1061.size
      have g1076 := bthen g1026 b1061
      clear h1015 h1016 h1017 h1018 k1019 k1020 k1021 k1022 k1023 k1024 g1026 b1061 c1027 c1028 c1029 c1030 c1031 c1032 c1033 c1034 c1035 c1036 c1037 c1038 c1039 c1040 c1041 c1042 c1043 c1044 c1045 c1046 c1047 c1048 c1049 c1050
      have c1077 := k1069.cell' (i := 0) rfl
      have c1078 := k1069.cell' (i := 1) rfl
      have c1079 := k1069.cell' (i := 2) rfl
      have c1080 := k1070.cell' (i := 0) rfl
      have c1081 := k1070.cell' (i := 1) rfl
      have c1082 := k1070.cell' (i := 2) rfl
      have c1083 := k1071.cell' (i := 0) rfl
      have c1084 := k1071.cell' (i := 1) rfl
      have c1085 := k1071.cell' (i := 2) rfl
      have c1086 := k1071.cell' (i := 3) rfl
      have c1087 := k1071.cell' (i := 4) rfl
      have c1088 := k1071.cell' (i := 5) rfl
      have c1089 := k1072.cell' (i := 0) rfl
      have c1090 := k1072.cell' (i := 1) rfl
      have c1091 := k1072.cell' (i := 2) rfl
      have c1092 := k1073.cell' (i := 0) rfl
      have c1093 := k1073.cell' (i := 1) rfl
      have c1094 := k1073.cell' (i := 2) rfl
      have c1095 := k1074.cell' (i := 0) rfl
      have c1096 := k1074.cell' (i := 1) rfl
      have c1097 := k1074.cell' (i := 2) rfl
      have c1098 := k1074.cell' (i := 3) rfl
      have c1099 := k1074.cell' (i := 4) rfl
      have c1100 := k1074.cell' (i := 5) rfl
      have f1101 := k1057.frozen
      have r1102 := k1057.cell' (i := 0) rfl
      have r1103 := k1057.cell' (i := 1) rfl
      have r1104 := k1057.cell' (i := 2) rfl
      have r1105 := k1057.cell' (i := 3) rfl
      have r1106 := k1057.cell' (i := 4) rfl
      have r1107 := k1057.cell' (i := 5) rfl
      obtain ⟨W1108, eW1108⟩ : ∃ u, u = ((((((w.setCell ⟨gR1052, 0, none⟩ (.int .i64 ((penOf p ma mb).1).p)).setCell ⟨gR1052, 1, none⟩ (.int .i64 ((penOf p ma mb).1).q.v)).setCell ⟨gR1052, 2, none⟩ (.slice Ax1051 ((penOf p ma mb).1).q.f.length ax1051)).setCell ⟨gR1052, 3, none⟩ (.slice Cx1051 ((penOf p ma mb).1).q.t.length cx1051)).setCell ⟨gR1052, 4, none⟩ (.slice Ex1051 ((penOf p ma mb).1).d.length ex1051)).setCell ⟨gR1052, 5, none⟩ (.slice Hx1051 ((penOf p ma mb).1).m.length hx1051)) := ⟨_, rfl⟩
      have k1109 : Blk W1108 gR1052 43 #[.int .i64 ((penOf p ma mb).1).p, .int .i64 ((penOf p ma mb).1).q.v, .slice Ax1051 ((penOf p ma mb).1).q.f.length ax1051, .slice Cx1051 ((penOf p ma mb).1).q.t.length cx1051, .slice Ex1051 ((penOf p ma mb).1).d.length ex1051, .slice Hx1051 ((penOf p ma mb).1).m.length hx1051] := by rw [eW1108]; exact ((((((k1057.set_ 0 _).set_ 1 _).set_ 2 _).set_ 3 _).set_ 4 _).set_ 5 _)
      have q1110 : Chg gR1052 (gR1052 + 1) w W1108 := by rw [eW1108]; exact chg6 _ _ _ _ _ _ _ _
      have h1111 := (h1053.chg q1110 (by omega)).rd
      clear h1053
      have h1112 := MxR.chg h1065 q1110 (by omega) (by omega)
      have h1113 := MxR.chg h1066 q1110 (by omega) (by omega)
      have h1114 := RpR.chg h1067 q1110 (by omega) (by omega)
      have h1115 := h1068.chg q1110 (by omega)
      have k1116 := k1069.chg q1110 (by omega)
      have k1117 := k1070.chg q1110 (by omega)
      have k1118 := k1071.chg q1110 (by omega)
      have k1119 := k1072.chg q1110 (by omega)
      have k1120 := k1073.chg q1110 (by omega)
      have k1121 := k1074.chg q1110 (by omega)
      have s1122 : w.heap.size ≤ W1108.heap.size := q1110.size
      have g1123 := g1076.trans (q1110.below (by omega) (by omega))
      clear h1065 h1066 h1067 h1068 k1069 k1070 k1071 k1072 k1073 k1074 g1076 q1110 c1077 c1078 c1079 c1080 c1081 c1082 c1083 c1084 c1085 c1086 c1087 c1088 c1089 c1090 c1091 c1092 c1093 c1094 c1095 c1096 c1097 c1098 c1099 c1100
      have c1124 := k1116.cell' (i := 0) rfl
      have c1125 := k1116.cell' (i := 1) rfl
      have c1126 := k1116.cell' (i := 2) rfl
      have c1127 := k1117.cell' (i := 0) rfl
      have c1128 := k1117.cell' (i := 1) rfl
      have c1129 := k1117.cell' (i := 2) rfl
      have c1130 := k1118.cell' (i := 0) rfl
      have c1131 := k1118.cell' (i := 1) rfl
      have c1132 := k1118.cell' (i := 2) rfl
      have c1133 := k1118.cell' (i := 3) rfl
      have c1134 := k1118.cell' (i := 4) rfl
      have c1135 := k1118.cell' (i := 5) rfl
      have c1136 := k1119.cell' (i := 0) rfl
      have c1137 := k1119.cell' (i := 1) rfl
      have c1138 := k1119.cell' (i := 2) rfl
      have c1139 := k1120.cell' (i := 0) rfl
      have c1140 := k1120.cell' (i := 1) rfl
      have c1141 := k1120.cell' (i := 2) rfl
      have c1142 := k1121.cell' (i := 0) rfl
      have c1143 := k1121.cell' (i := 1) rfl
      have c1144 := k1121.cell' (i := 2) rfl
      have c1145 := k1121.cell' (i := 3) rfl
      have c1146 := k1121.cell' (i := 4) rfl
      have c1147 := k1121.cell' (i := 5) rfl
      have c1148 := k1109.cell' (i := 0) rfl
      have c1149 := k1109.cell' (i := 1) rfl
      have c1150 := k1109.cell' (i := 2) rfl
      have c1151 := k1109.cell' (i := 3) rfl
      have c1152 := k1109.cell' (i := 4) rfl
      have c1153 := k1109.cell' (i := 5) rfl
      have q1154 := c1124; rw [eW1108] at q1154
      have q1155 := c1125; rw [eW1108] at q1155
      have q1156 := c1126; rw [eW1108] at q1156
      have q1157 := c1127; rw [eW1108] at q1157
      have q1158 := c1128; rw [eW1108] at q1158
      have q1159 := c1129; rw [eW1108] at q1159
      have q1160 := c1130; rw [eW1108] at q1160
      have q1161 := c1131; rw [eW1108] at q1161
      have q1162 := c1132; rw [eW1108] at q1162
      have q1163 := c1133; rw [eW1108] at q1163
      have q1164 := c1134; rw [eW1108] at q1164
      have q1165 := c1135; rw [eW1108] at q1165
      have q1166 := c1136; rw [eW1108] at q1166
      have q1167 := c1137; rw [eW1108] at q1167
      have q1168 := c1138; rw [eW1108] at q1168
      have q1169 := c1139; rw [eW1108] at q1169
      have q1170 := c1140; rw [eW1108] at q1170
      have q1171 := c1141; rw [eW1108] at q1171
      have q1172 := c1142; rw [eW1108] at q1172
      have q1173 := c1143; rw [eW1108] at q1173
      have q1174 := c1144; rw [eW1108] at q1174
      have q1175 := c1145; rw [eW1108] at q1175
      have q1176 := c1146; rw [eW1108] at q1176
      have q1177 := c1147; rw [eW1108] at q1177
      have q1178 := c1148; rw [eW1108] at q1178
      have q1179 := c1149; rw [eW1108] at q1179
      have q1180 := c1150; rw [eW1108] at q1180
      have q1181 := c1151; rw [eW1108] at q1181
      have q1182 := c1152; rw [eW1108] at q1182
      have q1183 := c1153; rw [eW1108] at q1183
      go_wp2_with fail
      rw [← eW1108]; clear eW1108 f1101 r1102 r1103 r1104 r1105 r1106 r1107 q1154 q1155 q1156 q1157 q1158 q1159 q1160 q1161 q1162 q1163 q1164 q1165 q1166 q1167 q1168 q1169 q1170 q1171 q1172 q1173 q1174 q1175 q1176 q1177 q1178 q1179 q1180 q1181 q1182 q1183 k1057
      refine (eqRep_any _ _ _ _ _ (RpR.more (by omega) h1111) (RpR.more (by omega) h1114)).mono ?_; rintro e W1185 ⟨rfl, b1184⟩
      have h1186 := MxR.below (b1184.mono (by omega)) h1112
      have h1187 := MxR.below (b1184.mono (by omega)) h1113
      have h1188 := RpR.below (b1184.mono (by omega)) h1114
      have h1189 := h1115.below b1184
      have h1190 := RpR.below (b1184.mono (by omega)) h1111
      have k1191 := k1116.call b1184
      have k1192 := k1117.call b1184
      have k1193 := k1118.call b1184
      have k1194 := k1119.call b1184
      have k1195 := k1120.call b1184
      have k1196 := k1121.call b1184
      have k1197 := k1109.call b1184
      have s1198 : W1108.heap.size ≤ W1185.heap.size := b1184.size
      have g1199 := bthen g1123 b1184
      clear h1112 h1113 h1114 h1115 h1111 k1116 k1117 k1118 k1119 k1120 k1121 k1109 g1123 b1184 c1124 c1125 c1126 c1127 c1128 c1129 c1130 c1131 c1132 c1133 c1134 c1135 c1136 c1137 c1138 c1139 c1140 c1141 c1142 c1143 c1144 c1145 c1146 c1147 c1148 c1149 c1150 c1151 c1152 c1153
      have c1200 := k1191.cell' (i := 0) rfl
      have c1201 := k1191.cell' (i := 1) rfl
      have c1202 := k1191.cell' (i := 2) rfl
      have c1203 := k1192.cell' (i := 0) rfl
      have c1204 := k1192.cell' (i := 1) rfl
      have c1205 := k1192.cell' (i := 2) rfl
      have c1206 := k1193.cell' (i := 0) rfl
      have c1207 := k1193.cell' (i := 1) rfl
      have c1208 := k1193.cell' (i := 2) rfl
      have c1209 := k1193.cell' (i := 3) rfl
      have c1210 := k1193.cell' (i := 4) rfl
      have c1211 := k1193.cell' (i := 5) rfl
      have c1212 := k1194.cell' (i := 0) rfl
      have c1213 := k1194.cell' (i := 1) rfl
      have c1214 := k1194.cell' (i := 2) rfl
      have c1215 := k1195.cell' (i := 0) rfl
      have c1216 := k1195.cell' (i := 1) rfl
      have c1217 := k1195.cell' (i := 2) rfl
      have c1218 := k1196.cell' (i := 0) rfl
      have c1219 := k1196.cell' (i := 1) rfl
      have c1220 := k1196.cell' (i := 2) rfl
      have c1221 := k1196.cell' (i := 3) rfl
      have c1222 := k1196.cell' (i := 4) rfl
      have c1223 := k1196.cell' (i := 5) rfl
      have c1224 := k1197.cell' (i := 0) rfl
      have c1225 := k1197.cell' (i := 1) rfl
      have c1226 := k1197.cell' (i := 2) rfl
      have c1227 := k1197.cell' (i := 3) rfl
      have c1228 := k1197.cell' (i := 4) rfl
      have c1229 := k1197.cell' (i := 5) rfl
      clear h1190
      go_wp2_with fail
      refine (rep_held _ _ _ _ h1189.rd (by omega) (by omega) (by omega)).mono ?_; rintro e W1231 ⟨rfl, b1230⟩
      have h1232 := MxR.below (b1230.mono (by omega)) h1186
      have h1233 := MxR.below (b1230.mono (by omega)) h1187
      have h1234 := RpR.below (b1230.mono (by omega)) h1188
      have h1235 := h1189.below b1230
      have k1236 := k1191.call b1230
      have k1237 := k1192.call b1230
      have k1238 := k1193.call b1230
      have k1239 := k1194.call b1230
      have k1240 := k1195.call b1230
      have k1241 := k1196.call b1230
      have k1242 := k1197.call b1230
      have s1243 : W1185.heap.size ≤ W1231.heap.size := b1230.size
      have g1244 := bthen g1199 b1230
      clear h1186 h1187 h1188 h1189 k1191 k1192 k1193 k1194 k1195 k1196 k1197 g1199 b1230 c1200 c1201 c1202 c1203 c1204 c1205 c1206 c1207 c1208 c1209 c1210 c1211 c1212 c1213 c1214 c1215 c1216 c1217 c1218 c1219 c1220 c1221 c1222 c1223 c1224 c1225 c1226 c1227 c1228 c1229
      have c1245 := k1236.cell' (i := 0) rfl
      have c1246 := k1236.cell' (i := 1) rfl
      have c1247 := k1236.cell' (i := 2) rfl
      have c1248 := k1237.cell' (i := 0) rfl
      have c1249 := k1237.cell' (i := 1) rfl
      have c1250 := k1237.cell' (i := 2) rfl
      have c1251 := k1238.cell' (i := 0) rfl
      have c1252 := k1238.cell' (i := 1) rfl
      have c1253 := k1238.cell' (i := 2) rfl
      have c1254 := k1238.cell' (i := 3) rfl
      have c1255 := k1238.cell' (i := 4) rfl
      have c1256 := k1238.cell' (i := 5) rfl
      have c1257 := k1239.cell' (i := 0) rfl
      have c1258 := k1239.cell' (i := 1) rfl
      have c1259 := k1239.cell' (i := 2) rfl
      have c1260 := k1240.cell' (i := 0) rfl
      have c1261 := k1240.cell' (i := 1) rfl
      have c1262 := k1240.cell' (i := 2) rfl
      have c1263 := k1241.cell' (i := 0) rfl
      have c1264 := k1241.cell' (i := 1) rfl
      have c1265 := k1241.cell' (i := 2) rfl
      have c1266 := k1241.cell' (i := 3) rfl
      have c1267 := k1241.cell' (i := 4) rfl
      have c1268 := k1241.cell' (i := 5) rfl
      have c1269 := k1242.cell' (i := 0) rfl
      have c1270 := k1242.cell' (i := 1) rfl
      have c1271 := k1242.cell' (i := 2) rfl
      have c1272 := k1242.cell' (i := 3) rfl
      have c1273 := k1242.cell' (i := 4) rfl
      have c1274 := k1242.cell' (i := 5) rfl
      go_wp2
      go_ret
      exact ⟨rfl, g1244⟩
    · intro x w hb hk hiv hdj om os hom hos
      simp only [List.getElem?_cons_zero, List.getElem?_cons_succ, Option.some.injEq] at hom hos
      subst hom hos
      have h0 : x.v 0 = .int .i64 p := hk 0 (by decide)
      have h1 : x.v 1 = .agg #[.int .i64 (ma).r, .int .i64 (ma).c, .slice Auma (ma).a.length cuma] := hk 1 (by decide)
      have h2 : MxO w (x.lo 2) (x.hi 2) (x.v 2) ma := hk 2 (by decide)
      have h3 : x.v 3 = .agg #[.int .i64 (mb).r, .int .i64 (mb).c, .slice Aumb (mb).a.length cumb] := hk 3 (by decide)
      have h4 : MxO w (x.lo 4) (x.hi 4) (x.v 4) mb := hk 4 (by decide)
      have h5 : ∃ Ax1051 ax1051 Cx1051 cx1051 Ex1051 ex1051 Hx1051 hx1051, x.v 5 = .tuple #[.agg #[.int .i64 ((penOf p ma mb).1).p, .int .i64 ((penOf p ma mb).1).q.v, .slice Ax1051 ((penOf p ma mb).1).q.f.length ax1051, .slice Cx1051 ((penOf p ma mb).1).q.t.length cx1051, .slice Ex1051 ((penOf p ma mb).1).d.length ex1051, .slice Hx1051 ((penOf p ma mb).1).m.length hx1051], .bool (penOf p ma mb).2] ∧ RepO w (x.lo 5) (x.hi 5) (.agg #[.int .i64 ((penOf p ma mb).1).p, .int .i64 ((penOf p ma mb).1).q.v, .slice Ax1051 ((penOf p ma mb).1).q.f.length ax1051, .slice Cx1051 ((penOf p ma mb).1).q.t.length cx1051, .slice Ex1051 ((penOf p ma mb).1).d.length ex1051, .slice Hx1051 ((penOf p ma mb).1).m.length hx1051]) (penOf p ma mb).1 := hk 5 (by decide)
      have h6 : ∃ Ax1051 ax1051 Cx1051 cx1051 Ex1051 ex1051 Hx1051 hx1051, x.v 6 = .tuple #[.agg #[.int .i64 ((penOf p ma mb).1).p, .int .i64 ((penOf p ma mb).1).q.v, .slice Ax1051 ((penOf p ma mb).1).q.f.length ax1051, .slice Cx1051 ((penOf p ma mb).1).q.t.length cx1051, .slice Ex1051 ((penOf p ma mb).1).d.length ex1051, .slice Hx1051 ((penOf p ma mb).1).m.length hx1051], .bool (penOf p ma mb).2] ∧ RepO w (x.lo 5) (x.hi 5) (.agg #[.int .i64 ((penOf p ma mb).1).p, .int .i64 ((penOf p ma mb).1).q.v, .slice Ax1051 ((penOf p ma mb).1).q.f.length ax1051, .slice Cx1051 ((penOf p ma mb).1).q.t.length cx1051, .slice Ex1051 ((penOf p ma mb).1).d.length ex1051, .slice Hx1051 ((penOf p ma mb).1).m.length hx1051]) (penOf p ma mb).1 := hk 6 (by decide)
      have h7 : ∃ Ax1051 ax1051 Cx1051 cx1051 Ex1051 ex1051 Hx1051 hx1051, x.v 7 = .agg #[.int .i64 ((penOf p ma mb).1).p, .int .i64 ((penOf p ma mb).1).q.v, .slice Ax1051 ((penOf p ma mb).1).q.f.length ax1051, .slice Cx1051 ((penOf p ma mb).1).q.t.length cx1051, .slice Ex1051 ((penOf p ma mb).1).d.length ex1051, .slice Hx1051 ((penOf p ma mb).1).m.length hx1051] ∧ RepO w (x.lo 5) (x.hi 5) (.agg #[.int .i64 ((penOf p ma mb).1).p, .int .i64 ((penOf p ma mb).1).q.v, .slice Ax1051 ((penOf p ma mb).1).q.f.length ax1051, .slice Cx1051 ((penOf p ma mb).1).q.t.length cx1051, .slice Ex1051 ((penOf p ma mb).1).d.length ex1051, .slice Hx1051 ((penOf p ma mb).1).m.length hx1051]) (penOf p ma mb).1 := hk 7 (by decide)
      have h9 : ∃ g, (x.v 9) = .pointer (some ⟨g, 0, none⟩) ∧ ((x.lo 9) ≤ g ∧ g < (x.hi 9)) ∧ Blk w g 43 #[.int .i64 0, .int .i64 0, .slice none 0 0, .slice none 0 0, .slice none 0 0, .slice none 0 0] := hk 9 (by decide)
      clear hk
      simp only [List.foldl_cons, List.foldl_nil, netAct, dstAt, List.getElem?_toArray, List.getElem?_cons_zero, List.getElem?_cons_succ, Option.bind_some, Act.put, List.setIfInBounds_toArray, List.set_cons_zero, List.set_cons_succ]
      simp only [List.drop_succ_cons, List.drop_zero, h0, h1, h3]
      clear h0 h1 h3
      obtain ⟨Ax1051, ax1051, Cx1051, cx1051, Ex1051, ex1051, Hx1051, hx1051, e1054, h1053⟩ := h7
      obtain ⟨gR1052, e1055, y1056, k1057⟩ := h9
      rw [e1054, e1055]
      have y1058 := hiv 5 (by decide)
      have y1059 := hiv 9 (by decide)
      have y1060 := hdj 5 9 (by decide) (by decide) (by decide)
      have s1062 := hb.size
      have b1061 := hb
      clear hb hiv hdj e1054 e1055 h2 h4 h5
      obtain ⟨Ax1051b, ax1051b, Cx1051b, cx1051b, Ex1051b, ex1051b, Hx1051b, hx1051b, e1063, _⟩ := h6; rw [e1063]; clear e1063
      have h1065 := MxR.below (b1061.mono (by omega)) h1015
      have h1066 := MxR.below (b1061.mono (by omega)) h1016
      have h1067 := RpR.below (b1061.mono (by omega)) h1017
      have h1068 := h1018.below b1061
      have k1069 := k1019.call b1061
      have k1070 := k1020.call b1061
      have k1071 := k1021.call b1061
      have k1072 := k1022.call b1061
      have k1073 := k1023.call b1061
      have k1074 := k1024.call b1061
      have s1075 : W1014.heap.size ≤ w.heap.size := b1061.size
      have g1076 := bthen g1026 b1061
      clear h1015 h1016 h1017 h1018 k1019 k1020 k1021 k1022 k1023 k1024 g1026 b1061 c1027 c1028 c1029 c1030 c1031 c1032 c1033 c1034 c1035 c1036 c1037 c1038 c1039 c1040 c1041 c1042 c1043 c1044 c1045 c1046 c1047 c1048 c1049 c1050
      have c1077 := k1069.cell' (i := 0) rfl
      have c1078 := k1069.cell' (i := 1) rfl
      have c1079 := k1069.cell' (i := 2) rfl
      have c1080 := k1070.cell' (i := 0) rfl
      have c1081 := k1070.cell' (i := 1) rfl
      have c1082 := k1070.cell' (i := 2) rfl
      have c1083 := k1071.cell' (i := 0) rfl
      have c1084 := k1071.cell' (i := 1) rfl
      have c1085 := k1071.cell' (i := 2) rfl
      have c1086 := k1071.cell' (i := 3) rfl
      have c1087 := k1071.cell' (i := 4) rfl
      have c1088 := k1071.cell' (i := 5) rfl
      have c1089 := k1072.cell' (i := 0) rfl
      have c1090 := k1072.cell' (i := 1) rfl
      have c1091 := k1072.cell' (i := 2) rfl
      have c1092 := k1073.cell' (i := 0) rfl
      have c1093 := k1073.cell' (i := 1) rfl
      have c1094 := k1073.cell' (i := 2) rfl
      have c1095 := k1074.cell' (i := 0) rfl
      have c1096 := k1074.cell' (i := 1) rfl
      have c1097 := k1074.cell' (i := 2) rfl
      have c1098 := k1074.cell' (i := 3) rfl
      have c1099 := k1074.cell' (i := 4) rfl
      have c1100 := k1074.cell' (i := 5) rfl
      have f1101 := k1057.frozen
      have r1102 := k1057.cell' (i := 0) rfl
      have r1103 := k1057.cell' (i := 1) rfl
      have r1104 := k1057.cell' (i := 2) rfl
      have r1105 := k1057.cell' (i := 3) rfl
      have r1106 := k1057.cell' (i := 4) rfl
      have r1107 := k1057.cell' (i := 5) rfl
      obtain ⟨W1108, eW1108⟩ : ∃ u, u = ((((((w.setCell ⟨gR1052, 0, none⟩ (.int .i64 ((penOf p ma mb).1).p)).setCell ⟨gR1052, 1, none⟩ (.int .i64 ((penOf p ma mb).1).q.v)).setCell ⟨gR1052, 2, none⟩ (.slice Ax1051 ((penOf p ma mb).1).q.f.length ax1051)).setCell ⟨gR1052, 3, none⟩ (.slice Cx1051 ((penOf p ma mb).1).q.t.length cx1051)).setCell ⟨gR1052, 4, none⟩ (.slice Ex1051 ((penOf p ma mb).1).d.length ex1051)).setCell ⟨gR1052, 5, none⟩ (.slice Hx1051 ((penOf p ma mb).1).m.length hx1051)) := ⟨_, rfl⟩
      have k1109 : Blk W1108 gR1052 43 #[.int .i64 ((penOf p ma mb).1).p, .int .i64 ((penOf p ma mb).1).q.v, .slice Ax1051 ((penOf p ma mb).1).q.f.length ax1051, .slice Cx1051 ((penOf p ma mb).1).q.t.length cx1051, .slice Ex1051 ((penOf p ma mb).1).d.length ex1051, .slice Hx1051 ((penOf p ma mb).1).m.length hx1051] := by rw [eW1108]; exact ((((((k1057.set_ 0 _).set_ 1 _).set_ 2 _).set_ 3 _).set_ 4 _).set_ 5 _)
      have q1110 : Chg gR1052 (gR1052 + 1) w W1108 := by rw [eW1108]; exact chg6 _ _ _ _ _ _ _ _
      have h1111 := (h1053.chg q1110 (by omega)).rd
      clear h1053
      have h1112 := MxR.chg h1065 q1110 (by omega) (by omega)
      have h1113 := MxR.chg h1066 q1110 (by omega) (by omega)
      have h1114 := RpR.chg h1067 q1110 (by omega) (by omega)
      have h1115 := h1068.chg q1110 (by omega)
      have k1116 := k1069.chg q1110 (by omega)
      have k1117 := k1070.chg q1110 (by omega)
      have k1118 := k1071.chg q1110 (by omega)
      have k1119 := k1072.chg q1110 (by omega)
      have k1120 := k1073.chg q1110 (by omega)
      have k1121 := k1074.chg q1110 (by omega)
      have s1122 : w.heap.size ≤ W1108.heap.size := q1110.size
      have g1123 := g1076.trans (q1110.below (by omega) (by omega))
      clear h1065 h1066 h1067 h1068 k1069 k1070 k1071 k1072 k1073 k1074 g1076 q1110 c1077 c1078 c1079 c1080 c1081 c1082 c1083 c1084 c1085 c1086 c1087 c1088 c1089 c1090 c1091 c1092 c1093 c1094 c1095 c1096 c1097 c1098 c1099 c1100
      have c1124 := k1116.cell' (i := 0) rfl
      have c1125 := k1116.cell' (i := 1) rfl
      have c1126 := k1116.cell' (i := 2) rfl
      have c1127 := k1117.cell' (i := 0) rfl
      have c1128 := k1117.cell' (i := 1) rfl
      have c1129 := k1117.cell' (i := 2) rfl
      have c1130 := k1118.cell' (i := 0) rfl
      have c1131 := k1118.cell' (i := 1) rfl
      have c1132 := k1118.cell' (i := 2) rfl
      have c1133 := k1118.cell' (i := 3) rfl
      have c1134 := k1118.cell' (i := 4) rfl
      have c1135 := k1118.cell' (i := 5) rfl
      have c1136 := k1119.cell' (i := 0) rfl
      have c1137 := k1119.cell' (i := 1) rfl
      have c1138 := k1119.cell' (i := 2) rfl
      have c1139 := k1120.cell' (i := 0) rfl
      have c1140 := k1120.cell' (i := 1) rfl
      have c1141 := k1120.cell' (i := 2) rfl
      have c1142 := k1121.cell' (i := 0) rfl
      have c1143 := k1121.cell' (i := 1) rfl
      have c1144 := k1121.cell' (i := 2) rfl
      have c1145 := k1121.cell' (i := 3) rfl
      have c1146 := k1121.cell' (i := 4) rfl
      have c1147 := k1121.cell' (i := 5) rfl
      have c1148 := k1109.cell' (i := 0) rfl
      have c1149 := k1109.cell' (i := 1) rfl
      have c1150 := k1109.cell' (i := 2) rfl
      have c1151 := k1109.cell' (i := 3) rfl
      have c1152 := k1109.cell' (i := 4) rfl
      have c1153 := k1109.cell' (i := 5) rfl
      have q1154 := c1124; rw [eW1108] at q1154
      have q1155 := c1125; rw [eW1108] at q1155
      have q1156 := c1126; rw [eW1108] at q1156
      have q1157 := c1127; rw [eW1108] at q1157
      have q1158 := c1128; rw [eW1108] at q1158
      have q1159 := c1129; rw [eW1108] at q1159
      have q1160 := c1130; rw [eW1108] at q1160
      have q1161 := c1131; rw [eW1108] at q1161
      have q1162 := c1132; rw [eW1108] at q1162
      have q1163 := c1133; rw [eW1108] at q1163
      have q1164 := c1134; rw [eW1108] at q1164
      have q1165 := c1135; rw [eW1108] at q1165
      have q1166 := c1136; rw [eW1108] at q1166
      have q1167 := c1137; rw [eW1108] at q1167
      have q1168 := c1138; rw [eW1108] at q1168
      have q1169 := c1139; rw [eW1108] at q1169
      have q1170 := c1140; rw [eW1108] at q1170
      have q1171 := c1141; rw [eW1108] at q1171
      have q1172 := c1142; rw [eW1108] at q1172
      have q1173 := c1143; rw [eW1108] at q1173
      have q1174 := c1144; rw [eW1108] at q1174
      have q1175 := c1145; rw [eW1108] at q1175
      have q1176 := c1146; rw [eW1108] at q1176
      have q1177 := c1147; rw [eW1108] at q1177
      have q1178 := c1148; rw [eW1108] at q1178
      have q1179 := c1149; rw [eW1108] at q1179
      have q1180 := c1150; rw [eW1108] at q1180
      have q1181 := c1151; rw [eW1108] at q1181
      have q1182 := c1152; rw [eW1108] at q1182
      have q1183 := c1153; rw [eW1108] at q1183
      go_wp2_with fail
      rw [← eW1108]; clear eW1108 f1101 r1102 r1103 r1104 r1105 r1106 r1107 q1154 q1155 q1156 q1157 q1158 q1159 q1160 q1161 q1162 q1163 q1164 q1165 q1166 q1167 q1168 q1169 q1170 q1171 q1172 q1173 q1174 q1175 q1176 q1177 q1178 q1179 q1180 q1181 q1182 q1183 k1057
      refine (eqRep_any _ _ _ _ _ (RpR.more (by omega) h1111) (RpR.more (by omega) h1114)).mono ?_; rintro e W1185 ⟨rfl, b1184⟩
      have h1186 := MxR.below (b1184.mono (by omega)) h1112
      have h1187 := MxR.below (b1184.mono (by omega)) h1113
      have h1188 := RpR.below (b1184.mono (by omega)) h1114
      have h1189 := h1115.below b1184
      have h1190 := RpR.below (b1184.mono (by omega)) h1111
      have k1191 := k1116.call b1184
      have k1192 := k1117.call b1184
      have k1193 := k1118.call b1184
      have k1194 := k1119.call b1184
      have k1195 := k1120.call b1184
      have k1196 := k1121.call b1184
      have k1197 := k1109.call b1184
      have s1198 : W1108.heap.size ≤ W1185.heap.size := b1184.size
      have g1199 := bthen g1123 b1184
      clear h1112 h1113 h1114 h1115 h1111 k1116 k1117 k1118 k1119 k1120 k1121 k1109 g1123 b1184 c1124 c1125 c1126 c1127 c1128 c1129 c1130 c1131 c1132 c1133 c1134 c1135 c1136 c1137 c1138 c1139 c1140 c1141 c1142 c1143 c1144 c1145 c1146 c1147 c1148 c1149 c1150 c1151 c1152 c1153
      have c1200 := k1191.cell' (i := 0) rfl
      have c1201 := k1191.cell' (i := 1) rfl
      have c1202 := k1191.cell' (i := 2) rfl
      have c1203 := k1192.cell' (i := 0) rfl
      have c1204 := k1192.cell' (i := 1) rfl
      have c1205 := k1192.cell' (i := 2) rfl
      have c1206 := k1193.cell' (i := 0) rfl
      have c1207 := k1193.cell' (i := 1) rfl
      have c1208 := k1193.cell' (i := 2) rfl
      have c1209 := k1193.cell' (i := 3) rfl
      have c1210 := k1193.cell' (i := 4) rfl
      have c1211 := k1193.cell' (i := 5) rfl
      have c1212 := k1194.cell' (i := 0) rfl
      have c1213 := k1194.cell' (i := 1) rfl
      have c1214 := k1194.cell' (i := 2) rfl
      have c1215 := k1195.cell' (i := 0) rfl
      have c1216 := k1195.cell' (i := 1) rfl
      have c1217 := k1195.cell' (i := 2) rfl
      have c1218 := k1196.cell' (i := 0) rfl
      have c1219 := k1196.cell' (i := 1) rfl
      have c1220 := k1196.cell' (i := 2) rfl
      have c1221 := k1196.cell' (i := 3) rfl
      have c1222 := k1196.cell' (i := 4) rfl
      have c1223 := k1196.cell' (i := 5) rfl
      have c1224 := k1197.cell' (i := 0) rfl
      have c1225 := k1197.cell' (i := 1) rfl
      have c1226 := k1197.cell' (i := 2) rfl
      have c1227 := k1197.cell' (i := 3) rfl
      have c1228 := k1197.cell' (i := 4) rfl
      have c1229 := k1197.cell' (i := 5) rfl
      clear h1190
      go_wp2_with fail
      refine (rep_held _ _ _ _ h1189.rd (by omega) (by omega) (by omega)).mono ?_; rintro e W1231 ⟨rfl, b1230⟩
      have h1232 := MxR.below (b1230.mono (by omega)) h1186
      have h1233 := MxR.below (b1230.mono (by omega)) h1187
      have h1234 := RpR.below (b1230.mono (by omega)) h1188
      have h1235 := h1189.below b1230
      have k1236 := k1191.call b1230
      have k1237 := k1192.call b1230
      have k1238 := k1193.call b1230
      have k1239 := k1194.call b1230
      have k1240 := k1195.call b1230
      have k1241 := k1196.call b1230
      have k1242 := k1197.call b1230
      have s1243 : W1185.heap.size ≤ W1231.heap.size := b1230.size
      have g1244 := bthen g1199 b1230
      clear h1186 h1187 h1188 h1189 k1191 k1192 k1193 k1194 k1195 k1196 k1197 g1199 b1230 c1200 c1201 c1202 c1203 c1204 c1205 c1206 c1207 c1208 c1209 c1210 c1211 c1212 c1213 c1214 c1215 c1216 c1217 c1218 c1219 c1220 c1221 c1222 c1223 c1224 c1225 c1226 c1227 c1228 c1229
      have c1245 := k1236.cell' (i := 0) rfl
      have c1246 := k1236.cell' (i := 1) rfl
      have c1247 := k1236.cell' (i := 2) rfl
      have c1248 := k1237.cell' (i := 0) rfl
      have c1249 := k1237.cell' (i := 1) rfl
      have c1250 := k1237.cell' (i := 2) rfl
      have c1251 := k1238.cell' (i := 0) rfl
      have c1252 := k1238.cell' (i := 1) rfl
      have c1253 := k1238.cell' (i := 2) rfl
      have c1254 := k1238.cell' (i := 3) rfl
      have c1255 := k1238.cell' (i := 4) rfl
      have c1256 := k1238.cell' (i := 5) rfl
      have c1257 := k1239.cell' (i := 0) rfl
      have c1258 := k1239.cell' (i := 1) rfl
      have c1259 := k1239.cell' (i := 2) rfl
      have c1260 := k1240.cell' (i := 0) rfl
      have c1261 := k1240.cell' (i := 1) rfl
      have c1262 := k1240.cell' (i := 2) rfl
      have c1263 := k1241.cell' (i := 0) rfl
      have c1264 := k1241.cell' (i := 1) rfl
      have c1265 := k1241.cell' (i := 2) rfl
      have c1266 := k1241.cell' (i := 3) rfl
      have c1267 := k1241.cell' (i := 4) rfl
      have c1268 := k1241.cell' (i := 5) rfl
      have c1269 := k1242.cell' (i := 0) rfl
      have c1270 := k1242.cell' (i := 1) rfl
      have c1271 := k1242.cell' (i := 2) rfl
      have c1272 := k1242.cell' (i := 3) rfl
      have c1273 := k1242.cell' (i := 4) rfl
      have c1274 := k1242.cell' (i := 5) rfl
      go_wp2
      go_ret
      exact ⟨rfl, g1244⟩
end Go.Proofs.Ytpcgjjflmhnimaa
