/- FnExactDefectOf: for every argument the program's function returns what the reference's returns. Part 9 of 9 of the proof: Conn, ConnI, Dfct, LawDefectOf, LawDefectOfRow. No condition. -/
import Derived.Test.YtkhkamcmlhmpiaaBDefectOf8
/- IsConnectedQuiver: plain part; the reference's. -/
namespace Go.Proofs.Ytkhkamcmlhmpiaa
set_option linter.unusedVariables false
set_option linter.unusedSimpArgs false
open Go.RowKit

def cnP (x a b : Int) (s : List Int) : List Int := if a = x ∧ b ∉ s then s ++ [b] else s
def cnA (x : Int) (s : List Int) (p : Int × Int) : List Int := cnP x p.2 p.1 (cnP x p.1 p.2 s)
def cnR (q : Qv) (x : Int) (s : List Int) (k : Nat) : List Int := ((q.f.zip q.t).take k).foldl (cnA x) s
def cnG (q : Qv) : Nat → List Int → Nat → List Int
  | 0, s, _ => s
  | n + 1, s, k => if k < s.length then cnG q n (cnR q (s.getD k 0) s q.f.length) (k + 1) else s
def conQ (q : Qv) : Bool := isQ q && decide (((cnG q 6 [0] 0).length : Int) = q.v)
structure cnOkS (q : Qv) (s : List Int) : Prop where
  nd : s.Nodup
  rng : ∀ x ∈ s, 0 ≤ x ∧ x ≤ q.v - 1
theorem cnOkS.len {q : Qv} {s : List Int} (h : cnOkS q s) (hv : q.v ≤ 5) : s.length ≤ 5 := by
  have := nodup_sub s [0, 1, 2, 3, 4] h.nd fun x hx => by
    have := h.rng x hx
    have : x = 0 ∨ x = 1 ∨ x = 2 ∨ x = 3 ∨ x = 4 := by omega
    rcases this with rfl | rfl | rfl | rfl | rfl <;> simp
  simpa using this
theorem cnOkS.add {q : Qv} {s : List Int} (h : cnOkS q s) {b : Int} (hb : 0 ≤ b ∧ b ≤ q.v - 1) (hn : b ∉ s) : cnOkS q (s ++ [b]) := by
  refine ⟨?_, fun x hx => ?_⟩
  · rw [List.nodup_append]
    refine ⟨h.nd, by simp, fun x hx y hy => ?_⟩
    rw [List.mem_singleton] at hy
    subst hy
    rintro rfl
    exact hn hx
  · rcases List.mem_append.1 hx with hx | hx
    · exact h.rng x hx
    · rw [List.mem_singleton] at hx; subst hx; exact hb
theorem cnP_ok {q : Qv} {x a b : Int} {s : List Int} (h : cnOkS q s) (hb : 0 ≤ b ∧ b ≤ q.v - 1) : cnOkS q (cnP x a b s) := by
  unfold cnP
  split
  · rename_i h2; exact h.add hb h2.2
  · exact h
theorem cnP_ge (x a b : Int) (s : List Int) : s.length ≤ (cnP x a b s).length := by
  unfold cnP; split <;> simp
theorem cnP_get {x a b : Int} {s : List Int} {k : Nat} {y : Int} (h : s[k]? = some y) : (cnP x a b s)[k]? = some y := by
  unfold cnP
  split
  · rw [List.getElem?_append_left (lt_of_some h)]; exact h
  · exact h
theorem cnR_succ {q : Qv} {x a b : Int} {s : List Int} {k : Nat} (hf : q.f[k]? = some a) (ht : q.t[k]? = some b) : cnR q x s (k + 1) = cnP x b a (cnP x a b (cnR q x s k)) := by
  have e : (q.f.zip q.t)[k]? = some (a, b) := by rw [List.getElem?_zip_eq_some]; exact ⟨hf, ht⟩
  rw [cnR, take_snoc e, List.foldl_append]
  rfl
theorem cnR_0 (q : Qv) (x : Int) (s : List Int) : cnR q x s 0 = s := rfl
theorem cnOk_one {q : Qv} (hv : 1 ≤ q.v) : cnOkS q [0] := ⟨by simp, fun x hx => by simp at hx; subst hx; omega⟩
theorem cnG_step {q : Qv} {n k : Nat} {s : List Int} {x : Int} (h : s[k]? = some x) : cnG q (n + 1) s k = cnG q n (cnR q x s q.f.length) (k + 1) := by
  rw [cnG, if_pos (lt_of_some h), List.getD_eq_getElem?_getD, h]; rfl
theorem cnG_end {q : Qv} {n k : Nat} {s : List Int} (h : s.length ≤ k) : cnG q n s k = s := by
  cases n with
  | zero => rfl
  | succ n => rw [cnG, if_neg (by omega)]
theorem cnA_fold_ok {q : Qv} {x : Int} : ∀ (l : List (Int × Int)) (s : List Int), (∀ p ∈ l, (0 ≤ p.1 ∧ p.1 ≤ q.v - 1) ∧ 0 ≤ p.2 ∧ p.2 ≤ q.v - 1) → cnOkS q s → cnOkS q (l.foldl (cnA x) s)
  | [], _, _, h => h
  | p :: l, s, hp, h => by
    rw [List.foldl_cons]
    have h1 := hp p (by simp)
    exact cnA_fold_ok l _ (fun p' hp' => hp p' (by simp [hp'])) (cnP_ok (cnP_ok h h1.2) h1.1)
theorem cnA_fold_get {x y : Int} {k : Nat} : ∀ (l : List (Int × Int)) (s : List Int), s[k]? = some y → (l.foldl (cnA x) s)[k]? = some y
  | [], _, h => h
  | p :: l, s, h => by
    rw [List.foldl_cons]
    exact cnA_fold_get l _ (cnP_get (cnP_get h))
theorem cnR_ok {q : Qv} (hq : isQ q = true) {x : Int} {s : List Int} (h : cnOkS q s) (j : Nat) : cnOkS q (cnR q x s j) := by
  obtain ⟨hv, hl, h6, hfr, htr⟩ := isQ_t.1 hq
  refine cnA_fold_ok _ _ (fun p hp => ?_) h
  have := List.of_mem_zip (a := p.1) (b := p.2) (List.mem_of_mem_take hp)
  exact ⟨hfr _ this.1, htr _ this.2⟩
theorem cnR_get {q : Qv} {x y : Int} {s : List Int} {k j : Nat} (h : s[k]? = some y) : (cnR q x s j)[k]? = some y := cnA_fold_get _ _ h
theorem cnP_yes {x b : Int} {s : List Int} (h : b ∉ s) : cnP x x b s = s ++ [b] := by rw [cnP, if_pos ⟨rfl, h⟩]
theorem cnP_mem {x a b : Int} {s : List Int} (h : b ∈ s) : cnP x a b s = s := by rw [cnP, if_neg (fun h' => h'.2 h)]
theorem cnP_ne {x a b : Int} {s : List Int} (h : a ≠ x) : cnP x a b s = s := by rw [cnP, if_neg (fun h' => h h'.1)]
set_option maxRecDepth 100000 in
set_option maxHeartbeats 6400000 in
theorem specConnected_any (u : Value) (q : Qv) (w : World) (hu : QvR w w.heap.size u q) :
    Calls Try.prog 60 #[u] w fun e w' => e = .returned (.bool (conQ q)) ∧ Below w.heap.size w w' := by
  have hu' := hu
  obtain ⟨A, c, C, d, rfl, hf, ht, hr, lf, lt⟩ := hu.open_
  clear hu
  obtain ⟨W, hW⟩ : ∃ W, W = (w.alloc (.cells #[.int .i64 q.v, .slice A q.f.length c, .slice C q.t.length d] 28)).alloc (.cells #[.int .i64 0] 3) := ⟨_, rfl⟩
  have kB : Blk W w.heap.size 28 #[.int .i64 q.v, .slice A q.f.length c, .slice C q.t.length d] := by rw [hW]; exact (Blk.new _ _ _).alloc _
  have g0 : Below w.heap.size w W := by rw [hW]; exact ((Below.refl _ _).alloc (Nat.le_refl _) _).alloc (by simp) _
  have ho0 : OwnI W w.heap.size (.slice (some ⟨w.heap.size + 1, 0, none⟩) 1 1) [0] := by
    rw [hW]
    have := OwnI.newBlk (w := w.alloc (.cells #[.int .i64 q.v, .slice A q.f.length c, .slice C q.t.length d] 28)) (base := w.heap.size) (N := 1) (cs := #[.int .i64 0]) (l := [0]) (by simp) (by omega) rfl rfl (fun x hx => by simp at hx; subst hx; exact ⟨by omega, by omega⟩)
    simpa only [World.size_alloc] using this
  have hqW : QvR W W.heap.size (.agg #[.int .i64 q.v, .slice A q.f.length c, .slice C q.t.length d]) q := QvR.next g0 hu'
  rcases hq : isQ q with _ | _
  · have HC : Hid (conQ q = false) := by show _ = _; rw [conQ, hq]; rfl
    have HQ := Lib.hid hq
    have c0 := kB.cell' (i := 0) rfl
    have c1 := kB.cell' (i := 1) rfl
    have c2 := kB.cell' (i := 2) rfl
    clear hq hu' hf ht
    go_enter Try.func60, Try.ntmps60
    go_wp2_with fail
    rw [← hW]; clear hW
    refine wp_loop_rounds 1 ?_
    rw [rounds_succ]
    go_wp2_with fail
    refine (specIsQuiver_any _ q _ hqW).mono ?_; rintro e w1 ⟨rfl, hb1⟩
    rw [HQ.out]
    have hq1 := QvR.next hb1 hqW
    have kB1 := kB.call hb1
    clear c0 c1 c2
    have c0 := kB1.cell' (i := 0) rfl
    have c1 := kB1.cell' (i := 1) rfl
    have c2 := kB1.cell' (i := 2) rfl
    go_wp2_with fail
    refine (specIsQuiver_any _ q _ hq1).mono ?_; rintro e w2 ⟨rfl, hb2⟩
    rw [HQ.out]
    go_wp2
    go_ret
    exact ⟨by rw [HC.out]; rfl, bthen (bthen g0 hb1) hb2⟩
  · have HQ := Lib.hid hq
    have hq0 := hq
    obtain ⟨hv, hl, h6, hfr, htr⟩ := isQ_t.1 hq
    have HL := Lib.hid hl
    have HU := Lib.hid hu'
    clear hq hl hqW
    go_enter Try.func60, Try.ntmps60
    go_wp2
    rw [← hW]; clear hW
    go_loopw [3, 4] (fun vs vi wr => ∃ (k : Nat) (s : List Int), k ≤ s.length ∧ vi = .int .i64 k ∧ OwnI wr w.heap.size vs s ∧ Below w.heap.size w wr ∧ Blk wr w.heap.size 28 #[.int .i64 q.v, .slice A q.f.length c, .slice C q.t.length d] ∧ Hid (cnOkS q s ∧ cnG q (6 - k) s k = cnG q 6 [0] 0)) (fun _ vi _ => 6 - (intOf vi).toNat)
    case atStart => exact ⟨0, [0], by simp, rfl, ho0, g0, kB, ⟨cnOk_one hv.1, rfl⟩⟩
    case round =>
      clear ho0 g0 kB
      obtain ⟨k, s, hk, rfl, ho, hb, hkB, HO⟩ := hrel
      have hs5 := HO.out.1.len hv.2
      obtain ⟨SA, sc, hve, _, _⟩ := ho.form
      subst hve
      have c0 := hkB.cell' (i := 0) rfl
      have c1 := hkB.cell' (i := 1) rfl
      have c2 := hkB.cell' (i := 2) rfl
      by_cases hlt : k < s.length
      · go_wp2_with fail
        refine (specIsQuiver_any _ q _ (QvR.more hb.size (QvR.below hb HU.out))).mono ?_; rintro e w1 ⟨rfl, hb1⟩
        rw [HQ.out]
        have ho1 := ho.below hb1
        have hB1 := hb.trans (hb1.mono hb.size)
        have k1 := hkB.call hb1
        have hx : s[k]? = some s[k] := List.getElem?_eq_getElem hlt
        obtain ⟨xS, hxe⟩ : ∃ x, s[k] = x := ⟨_, rfl⟩
        rw [hxe] at hx
        have HX := Lib.hid hx
        clear c0 c1 c2 ho hb hkB hb1 hx hxe
        go_wp2
        go_loopw [3, 5] (fun vs vj wr => ∃ j : Nat, j ≤ q.f.length ∧ vj = .int .i64 j ∧ OwnI wr w.heap.size vs (cnR q xS s j) ∧ Below w.heap.size w wr ∧ Blk wr w.heap.size 28 #[.int .i64 q.v, .slice A q.f.length c, .slice C q.t.length d]) (fun _ vj _ => q.f.length - (intOf vj).toNat)
        case atStart => exact ⟨0, Nat.zero_le _, rfl, by rw [cnR_0]; exact ho1, hB1, k1⟩
        case round =>
          clear ho1 hB1 k1
          obtain ⟨j, hj, rfl, o0, b0, k0⟩ := hrel
          obtain ⟨z0, hz0⟩ : ∃ z, z = wr := ⟨_, rfl⟩
          subst hz0
          have c1 := k0.cell' (i := 1) rfl
          by_cases hlt2 : j < q.f.length
          · obtain ⟨bF, oF, a, rfl, hbF, HF, cF, _⟩ := SlI.at_ hf hlt2
            have hlt3 : j < q.t.length := by have := HL.out; omega
            obtain ⟨bT, oT, b, rfl, hbT, HT, cT, _⟩ := SlI.at_ ht hlt3
            have ra := hfr a (List.mem_of_getElem? HF.out)
            have rb := htr b (List.mem_of_getElem? HT.out)
            have HZ0 : Hid (cnOkS q (cnR q xS s j) ∧ (cnR q xS s j)[k]? = some xS) := ⟨cnR_ok hq0 HO.out.1 j, cnR_get HX.out⟩
            obtain ⟨S0, hS0⟩ : ∃ z, cnR q xS s j = z := ⟨_, rfl⟩
            rw [hS0] at o0 HZ0
            have HS0 := Lib.hid hS0
            clear hS0 hf ht
            obtain ⟨SA0, sc0, hv0, _, _⟩ := o0.form
            subst hv0
            have rd0 := o0.rd
            obtain ⟨bS, oS, xT, hSA, hbS, HXS, cS, hxr1, hxr2⟩ := SlI.at_ (k := k) rd0 (lt_of_some HZ0.out.2)
            obtain rfl : xS = xT := by have := HXS.out; rw [HZ0.out.2] at this; injection this
            subst hSA
            clear HXS
            have qq1 := InB.cell k0.lt (k0.cell' (i := 1) rfl)
            have qq2 := InB.cell k0.lt (k0.cell' (i := 2) rfl)
            have qqf := InB.cell (Nat.lt_of_lt_of_le hbF b0.size) (bcell b0 hbF cF)
            have qqt := InB.cell (Nat.lt_of_lt_of_le hbT b0.size) (bcell b0 hbT cT)
            have qqs := InB.cell hbS cS
            have hkl0 := lt_of_some HZ0.out.2
            by_cases hax : a = xS
            · have HAX := Lib.hid hax
              have hax2 : (a == xS) = true := by simpa using hax
              clear hax
              rcases hd : decide (b ∈ S0) with _ | _
              · have CL : Hid (∀ t : InB z0, Calls Try.prog 107 #[.slice (some ⟨bS, oS, none⟩) S0.length sc0, .int .i64 b] t.val fun e w' => e = .returned (.bool false) ∧ Below t.val.heap.size t.val w') := by
                  intro t
                  have := l4Has_any _ S0 b t.val (SlI.next t.below rd0)
                  rwa [hd] at this
                have HD := Lib.hid hd
                clear hd
                go_wp2_with fail
                (refine wp_region_inB (by kernel_rfl) (by kernel_rfl) ?_; (repeat (go_big_quiet_step ((go_at_call 107; exact InB.call (CL.out _))))); refine wpQuiet_nil ?_; intro w1 hw'; obtain ⟨s1, hw1⟩ := hw'; have hb1 := s1.below; rw [← hw1] at hb1; clear hw1 s1)
                clear qq1 qq2 qqf qqt qqs CL
                have o1 := o0.below hb1
                have b1 := b0.trans (hb1.mono b0.size)
                have k1 := k0.call hb1
                have e1 := (k1.alloc (.cells #[.int .i64 b] 3)).cell' (i := 1) rfl
                have e1' := k1.cell' (i := 1) rfl
                have e2' := k1.cell' (i := 2) rfl
                have cF' := bcell b1 hbF cF
                have cT' := bcell b1 hbT cT
                have hko := o1.alloc (.cells #[.int .i64 b] 3)
                have hkb := k1.alloc (.cells #[.int .i64 b] 3)
                have hbb := b1.alloc b1.size (.cells #[.int .i64 b] 3)
                have hsz := HZ0.out.1.len hv.2
                clear e1
                (go_wp2_with (at_builtin; refine Hold.stop ?_)); unfold Hold
                refine wpList_appI rfl (.tmp 44) (.tmp 50) rfl w.heap.size _ (.slice (some ⟨bS, oS, none⟩) S0.length sc0) S0 rfl hko _ _ _ [b] rfl rfl (SlI.one w1 _ b ⟨by omega, by omega⟩) (by simp only [List.length_singleton]; omega) (by have := b1.size; simp; omega) ?_
                intro vn z1 on hg1 hv1
                have kn := hkb.grown hg1 (hko.blkne hkb (by decide))
                have bn := hbb.grown hg1 (by have := b1.size; simp; omega) (fun j hj => (hko.lt j hj).1)
                clear hko hkb hbb hg1 hv1 e1' e2' cF' cT' o1 b1 k1
                have hnm : b ∉ S0 := of_decide_eq_false HD.out
                have HS1 := Lib.hid (show S0 ++ [b] = cnP xS a b S0 by rw [HAX.out, cnP_yes hnm])
                have HZ1 : Hid (cnOkS q (S0 ++ [b]) ∧ (S0 ++ [b])[k]? = some xS) := ⟨HZ0.out.1.add rb hnm, by rw [List.getElem?_append_left (lt_of_some HZ0.out.2)]; exact HZ0.out.2⟩
                obtain ⟨S1, hSn⟩ : ∃ z, S0 ++ [b] = z := ⟨_, rfl⟩
                rw [hSn] at on HS1 HZ1
                clear hSn
                have o1 := on
                have b1 := bn
                have k1 := kn
                clear on bn kn
                clear cS hbS hxr1 hxr2 rd0 hkl0
                obtain ⟨SA1, sc1, hv1, _, _⟩ := o1.form
                subst hv1
                have rd1 := o1.rd
                obtain ⟨bS, oS, xT, hSA, hbS, HXS, cS, hxr1, hxr2⟩ := SlI.at_ (k := k) rd1 (lt_of_some HZ1.out.2)
                obtain rfl : xS = xT := by have := HXS.out; rw [HZ1.out.2] at this; injection this
                subst hSA
                clear HXS
                have qq1 := InB.cell k1.lt (k1.cell' (i := 1) rfl)
                have qq2 := InB.cell k1.lt (k1.cell' (i := 2) rfl)
                have qqf := InB.cell (Nat.lt_of_lt_of_le hbF b1.size) (bcell b1 hbF cF)
                have qqt := InB.cell (Nat.lt_of_lt_of_le hbT b1.size) (bcell b1 hbT cT)
                have qqs := InB.cell hbS cS
                have hkl1 := lt_of_some HZ1.out.2
                by_cases hax : b = xS
                · have HAX := Lib.hid hax
                  have hax2 : (b == xS) = true := by simpa using hax
                  clear hax
                  rcases hd : decide (a ∈ S1) with _ | _
                  · have CL : Hid (∀ t : InB z1, Calls Try.prog 107 #[.slice (some ⟨bS, oS, none⟩) S1.length sc1, .int .i64 a] t.val fun e w' => e = .returned (.bool false) ∧ Below t.val.heap.size t.val w') := by
                      intro t
                      have := l4Has_any _ S1 a t.val (SlI.next t.below rd1)
                      rwa [hd] at this
                    have HD := Lib.hid hd
                    clear hd
                    go_wp2_with fail
                    (refine wp_region_inB (by kernel_rfl) (by kernel_rfl) ?_; (repeat (go_big_quiet_step ((go_at_call 107; exact InB.call (CL.out _))))); refine wpQuiet_nil ?_; intro w1 hw'; obtain ⟨s1, hw1⟩ := hw'; have hb1 := s1.below; rw [← hw1] at hb1; clear hw1 s1)
                    clear qq1 qq2 qqf qqt qqs CL
                    have o2 := o1.below hb1
                    have b2 := b1.trans (hb1.mono b1.size)
                    have k2 := k1.call hb1
                    have e1 := (k2.alloc (.cells #[.int .i64 a] 3)).cell' (i := 1) rfl
                    have e1' := k2.cell' (i := 1) rfl
                    have e2' := k2.cell' (i := 2) rfl
                    have cF' := bcell b2 hbF cF
                    have cT' := bcell b2 hbT cT
                    have hko := o2.alloc (.cells #[.int .i64 a] 3)
                    have hkb := k2.alloc (.cells #[.int .i64 a] 3)
                    have hbb := b2.alloc b2.size (.cells #[.int .i64 a] 3)
                    have hsz := HZ1.out.1.len hv.2
                    clear e1
                    (go_wp2_with (at_builtin; refine Hold.stop ?_)); unfold Hold
                    refine wpList_appI rfl (.tmp 72) (.tmp 78) rfl w.heap.size _ (.slice (some ⟨bS, oS, none⟩) S1.length sc1) S1 rfl hko _ _ _ [a] rfl rfl (SlI.one w1 _ a ⟨by omega, by omega⟩) (by simp only [List.length_singleton]; omega) (by have := b2.size; simp; omega) ?_
                    intro vn z2 on hg1 hv1
                    have kn := hkb.grown hg1 (hko.blkne hkb (by decide))
                    have bn := hbb.grown hg1 (by have := b2.size; simp; omega) (fun j hj => (hko.lt j hj).1)
                    clear hko hkb hbb hg1 hv1 e1' e2' cF' cT' o2 b2 k2
                    have hnm : a ∉ S1 := of_decide_eq_false HD.out
                    have HS2 := Lib.hid (show S1 ++ [a] = cnP xS b a S1 by rw [HAX.out, cnP_yes hnm])
                    have HZ2 : Hid (cnOkS q (S1 ++ [a]) ∧ (S1 ++ [a])[k]? = some xS) := ⟨HZ1.out.1.add ra hnm, by rw [List.getElem?_append_left (lt_of_some HZ1.out.2)]; exact HZ1.out.2⟩
                    obtain ⟨S2, hSn⟩ : ∃ z, S1 ++ [a] = z := ⟨_, rfl⟩
                    rw [hSn] at on HS2 HZ2
                    clear hSn
                    have o2 := on
                    have b2 := bn
                    have k2 := kn
                    clear on bn kn
                    obtain ⟨SA2, sc2, hv2, _, _⟩ := o2.form
                    subst hv2
                    have HR : Hid (cnR q xS s (j + 1) = S2) := by show _ = _; rw [cnR_succ HF.out HT.out, HS0.out, ← HS1.out, ← HS2.out]
                    go_wp2
                    go_roundw
                    case rel => exact ⟨j + 1, by omega, by go_num, by rw [HR.out]; exact o2, b2, k2⟩
                    case measure => simp [intOf]; omega

                  · have CL : Hid (∀ t : InB z1, Calls Try.prog 107 #[.slice (some ⟨bS, oS, none⟩) S1.length sc1, .int .i64 a] t.val fun e w' => e = .returned (.bool true) ∧ Below t.val.heap.size t.val w') := by
                      intro t
                      have := l4Has_any _ S1 a t.val (SlI.next t.below rd1)
                      rwa [hd] at this
                    have HD := Lib.hid hd
                    clear hd
                    go_wp2_with fail
                    (refine wp_region_inB (by kernel_rfl) (by kernel_rfl) ?_; (repeat (go_big_quiet_step ((go_at_call 107; exact InB.call (CL.out _))))); refine wpQuiet_nil ?_; intro w1 hw'; obtain ⟨s1, hw1⟩ := hw'; have hb1 := s1.below; rw [← hw1] at hb1; clear hw1 s1)
                    clear qq1 qq2 qqf qqt qqs CL
                    have o2 := o1.below hb1
                    have b2 := b1.trans (hb1.mono b1.size)
                    have k2 := k1.call hb1
                    have HS2 := Lib.hid (show S1 = cnP xS b a S1 by rw [cnP_mem (of_decide_eq_true HD.out)])
                    have HZ2 := HZ1
                    obtain ⟨S2, hSn⟩ : ∃ z, z = S1 := ⟨_, rfl⟩
                    try rw [← hSn] at HS0
                    try rw [← hSn] at HS1
                    rw [← hSn] at o2 HS2 HZ2 ⊢
                    clear hSn
                    obtain ⟨z2, hzn⟩ : ∃ z, z = w1 := ⟨_, rfl⟩
                    subst hzn
                    have HR : Hid (cnR q xS s (j + 1) = S2) := by show _ = _; rw [cnR_succ HF.out HT.out, HS0.out, ← HS1.out, ← HS2.out]
                    go_wp2
                    go_roundw
                    case rel => exact ⟨j + 1, by omega, by go_num, by rw [HR.out]; exact o2, b2, k2⟩
                    case measure => simp [intOf]; omega


                · have HAX := Lib.hid hax
                  have hax2 : (b == xS) = false := by simpa using hax
                  clear hax
                  go_wp2_with fail
                  (refine wp_region_inB (by kernel_rfl) (by kernel_rfl) ?_; (repeat (go_big_quiet_step (fail))); refine wpQuiet_nil ?_; intro w1 hw'; obtain ⟨s1, hw1⟩ := hw'; have hb1 := s1.below; rw [← hw1] at hb1; clear hw1 s1)
                  clear qq1 qq2 qqf qqt qqs
                  have o2 := o1.below hb1
                  have b2 := b1.trans (hb1.mono b1.size)
                  have k2 := k1.call hb1
                  have HS2 := Lib.hid (show S1 = cnP xS b a S1 by rw [cnP_ne HAX.out])
                  have HZ2 := HZ1
                  obtain ⟨S2, hSn⟩ : ∃ z, z = S1 := ⟨_, rfl⟩
                  try rw [← hSn] at HS0
                  try rw [← hSn] at HS1
                  rw [← hSn] at o2 HS2 HZ2 ⊢
                  clear hSn
                  obtain ⟨z2, hzn⟩ : ∃ z, z = w1 := ⟨_, rfl⟩
                  subst hzn
                  have HR : Hid (cnR q xS s (j + 1) = S2) := by show _ = _; rw [cnR_succ HF.out HT.out, HS0.out, ← HS1.out, ← HS2.out]
                  go_wp2
                  go_roundw
                  case rel => exact ⟨j + 1, by omega, by go_num, by rw [HR.out]; exact o2, b2, k2⟩
                  case measure => simp [intOf]; omega

              · have CL : Hid (∀ t : InB z0, Calls Try.prog 107 #[.slice (some ⟨bS, oS, none⟩) S0.length sc0, .int .i64 b] t.val fun e w' => e = .returned (.bool true) ∧ Below t.val.heap.size t.val w') := by
                  intro t
                  have := l4Has_any _ S0 b t.val (SlI.next t.below rd0)
                  rwa [hd] at this
                have HD := Lib.hid hd
                clear hd
                go_wp2_with fail
                (refine wp_region_inB (by kernel_rfl) (by kernel_rfl) ?_; (repeat (go_big_quiet_step ((go_at_call 107; exact InB.call (CL.out _))))); refine wpQuiet_nil ?_; intro w1 hw'; obtain ⟨s1, hw1⟩ := hw'; have hb1 := s1.below; rw [← hw1] at hb1; clear hw1 s1)
                clear qq1 qq2 qqf qqt qqs CL
                have o1 := o0.below hb1
                have b1 := b0.trans (hb1.mono b0.size)
                have k1 := k0.call hb1
                have HS1 := Lib.hid (show S0 = cnP xS a b S0 by rw [cnP_mem (of_decide_eq_true HD.out)])
                have HZ1 := HZ0
                obtain ⟨S1, hSn⟩ : ∃ z, z = S0 := ⟨_, rfl⟩
                try rw [← hSn] at HS0
                try rw [← hSn] at HS0
                rw [← hSn] at o1 HS1 HZ1 ⊢
                clear hSn
                obtain ⟨z1, hzn⟩ : ∃ z, z = w1 := ⟨_, rfl⟩
                subst hzn
                clear cS hbS hxr1 hxr2 rd0 hkl0
                have rd1 := o1.rd
                obtain ⟨bS2, oS2, xT, hSA, hbS, HXS, cS, hxr1, hxr2⟩ := SlI.at_ (k := k) rd1 (lt_of_some HZ1.out.2)
                injection hSA with hSA
                injection hSA with hSA1 hSA2 _
                subst hSA1 hSA2
                obtain rfl : xS = xT := by have := HXS.out; rw [HZ1.out.2] at this; injection this
                clear HXS
                have qq1 := InB.cell k1.lt (k1.cell' (i := 1) rfl)
                have qq2 := InB.cell k1.lt (k1.cell' (i := 2) rfl)
                have qqf := InB.cell (Nat.lt_of_lt_of_le hbF b1.size) (bcell b1 hbF cF)
                have qqt := InB.cell (Nat.lt_of_lt_of_le hbT b1.size) (bcell b1 hbT cT)
                have qqs := InB.cell hbS cS
                have hkl1 := lt_of_some HZ1.out.2
                by_cases hax : b = xS
                · have HAX := Lib.hid hax
                  have hax2 : (b == xS) = true := by simpa using hax
                  clear hax
                  rcases hd : decide (a ∈ S1) with _ | _
                  · have CL : Hid (∀ t : InB z1, Calls Try.prog 107 #[.slice (some ⟨bS, oS, none⟩) S1.length sc0, .int .i64 a] t.val fun e w' => e = .returned (.bool false) ∧ Below t.val.heap.size t.val w') := by
                      intro t
                      have := l4Has_any _ S1 a t.val (SlI.next t.below rd1)
                      rwa [hd] at this
                    have HD := Lib.hid hd
                    clear hd
                    go_wp2_with fail
                    (refine wp_region_inB (by kernel_rfl) (by kernel_rfl) ?_; (repeat (go_big_quiet_step ((go_at_call 107; exact InB.call (CL.out _))))); refine wpQuiet_nil ?_; intro w1 hw'; obtain ⟨s1, hw1⟩ := hw'; have hb1 := s1.below; rw [← hw1] at hb1; clear hw1 s1)
                    clear qq1 qq2 qqf qqt qqs CL
                    have o2 := o1.below hb1
                    have b2 := b1.trans (hb1.mono b1.size)
                    have k2 := k1.call hb1
                    have e1 := (k2.alloc (.cells #[.int .i64 a] 3)).cell' (i := 1) rfl
                    have e1' := k2.cell' (i := 1) rfl
                    have e2' := k2.cell' (i := 2) rfl
                    have cF' := bcell b2 hbF cF
                    have cT' := bcell b2 hbT cT
                    have hko := o2.alloc (.cells #[.int .i64 a] 3)
                    have hkb := k2.alloc (.cells #[.int .i64 a] 3)
                    have hbb := b2.alloc b2.size (.cells #[.int .i64 a] 3)
                    have hsz := HZ1.out.1.len hv.2
                    clear e1
                    (go_wp2_with (at_builtin; refine Hold.stop ?_)); unfold Hold
                    refine wpList_appI rfl (.tmp 72) (.tmp 78) rfl w.heap.size _ (.slice (some ⟨bS, oS, none⟩) S1.length sc0) S1 rfl hko _ _ _ [a] rfl rfl (SlI.one w1 _ a ⟨by omega, by omega⟩) (by simp only [List.length_singleton]; omega) (by have := b2.size; simp; omega) ?_
                    intro vn z2 on hg1 hv1
                    have kn := hkb.grown hg1 (hko.blkne hkb (by decide))
                    have bn := hbb.grown hg1 (by have := b2.size; simp; omega) (fun j hj => (hko.lt j hj).1)
                    clear hko hkb hbb hg1 hv1 e1' e2' cF' cT' o2 b2 k2
                    have hnm : a ∉ S1 := of_decide_eq_false HD.out
                    have HS2 := Lib.hid (show S1 ++ [a] = cnP xS b a S1 by rw [HAX.out, cnP_yes hnm])
                    have HZ2 : Hid (cnOkS q (S1 ++ [a]) ∧ (S1 ++ [a])[k]? = some xS) := ⟨HZ1.out.1.add ra hnm, by rw [List.getElem?_append_left (lt_of_some HZ1.out.2)]; exact HZ1.out.2⟩
                    obtain ⟨S2, hSn⟩ : ∃ z, S1 ++ [a] = z := ⟨_, rfl⟩
                    rw [hSn] at on HS2 HZ2
                    clear hSn
                    have o2 := on
                    have b2 := bn
                    have k2 := kn
                    clear on bn kn
                    obtain ⟨SA2, sc2, hv2, _, _⟩ := o2.form
                    subst hv2
                    have HR : Hid (cnR q xS s (j + 1) = S2) := by show _ = _; rw [cnR_succ HF.out HT.out, HS0.out, ← HS1.out, ← HS2.out]
                    go_wp2
                    go_roundw
                    case rel => exact ⟨j + 1, by omega, by go_num, by rw [HR.out]; exact o2, b2, k2⟩
                    case measure => simp [intOf]; omega

                  · have CL : Hid (∀ t : InB z1, Calls Try.prog 107 #[.slice (some ⟨bS, oS, none⟩) S1.length sc0, .int .i64 a] t.val fun e w' => e = .returned (.bool true) ∧ Below t.val.heap.size t.val w') := by
                      intro t
                      have := l4Has_any _ S1 a t.val (SlI.next t.below rd1)
                      rwa [hd] at this
                    have HD := Lib.hid hd
                    clear hd
                    go_wp2_with fail
                    (refine wp_region_inB (by kernel_rfl) (by kernel_rfl) ?_; (repeat (go_big_quiet_step ((go_at_call 107; exact InB.call (CL.out _))))); refine wpQuiet_nil ?_; intro w1 hw'; obtain ⟨s1, hw1⟩ := hw'; have hb1 := s1.below; rw [← hw1] at hb1; clear hw1 s1)
                    clear qq1 qq2 qqf qqt qqs CL
                    have o2 := o1.below hb1
                    have b2 := b1.trans (hb1.mono b1.size)
                    have k2 := k1.call hb1
                    have HS2 := Lib.hid (show S1 = cnP xS b a S1 by rw [cnP_mem (of_decide_eq_true HD.out)])
                    have HZ2 := HZ1
                    obtain ⟨S2, hSn⟩ : ∃ z, z = S1 := ⟨_, rfl⟩
                    try rw [← hSn] at HS0
                    try rw [← hSn] at HS1
                    rw [← hSn] at o2 HS2 HZ2 ⊢
                    clear hSn
                    obtain ⟨z2, hzn⟩ : ∃ z, z = w1 := ⟨_, rfl⟩
                    subst hzn
                    have HR : Hid (cnR q xS s (j + 1) = S2) := by show _ = _; rw [cnR_succ HF.out HT.out, HS0.out, ← HS1.out, ← HS2.out]
                    go_wp2
                    go_roundw
                    case rel => exact ⟨j + 1, by omega, by go_num, by rw [HR.out]; exact o2, b2, k2⟩
                    case measure => simp [intOf]; omega


                · have HAX := Lib.hid hax
                  have hax2 : (b == xS) = false := by simpa using hax
                  clear hax
                  go_wp2_with fail
                  (refine wp_region_inB (by kernel_rfl) (by kernel_rfl) ?_; (repeat (go_big_quiet_step (fail))); refine wpQuiet_nil ?_; intro w1 hw'; obtain ⟨s1, hw1⟩ := hw'; have hb1 := s1.below; rw [← hw1] at hb1; clear hw1 s1)
                  clear qq1 qq2 qqf qqt qqs
                  have o2 := o1.below hb1
                  have b2 := b1.trans (hb1.mono b1.size)
                  have k2 := k1.call hb1
                  have HS2 := Lib.hid (show S1 = cnP xS b a S1 by rw [cnP_ne HAX.out])
                  have HZ2 := HZ1
                  obtain ⟨S2, hSn⟩ : ∃ z, z = S1 := ⟨_, rfl⟩
                  try rw [← hSn] at HS0
                  try rw [← hSn] at HS1
                  rw [← hSn] at o2 HS2 HZ2 ⊢
                  clear hSn
                  obtain ⟨z2, hzn⟩ : ∃ z, z = w1 := ⟨_, rfl⟩
                  subst hzn
                  have HR : Hid (cnR q xS s (j + 1) = S2) := by show _ = _; rw [cnR_succ HF.out HT.out, HS0.out, ← HS1.out, ← HS2.out]
                  go_wp2
                  go_roundw
                  case rel => exact ⟨j + 1, by omega, by go_num, by rw [HR.out]; exact o2, b2, k2⟩
                  case measure => simp [intOf]; omega


            · have HAX := Lib.hid hax
              have hax2 : (a == xS) = false := by simpa using hax
              clear hax
              go_wp2_with fail
              (refine wp_region_inB (by kernel_rfl) (by kernel_rfl) ?_; (repeat (go_big_quiet_step (fail))); refine wpQuiet_nil ?_; intro w1 hw'; obtain ⟨s1, hw1⟩ := hw'; have hb1 := s1.below; rw [← hw1] at hb1; clear hw1 s1)
              clear qq1 qq2 qqf qqt qqs
              have o1 := o0.below hb1
              have b1 := b0.trans (hb1.mono b0.size)
              have k1 := k0.call hb1
              have HS1 := Lib.hid (show S0 = cnP xS a b S0 by rw [cnP_ne HAX.out])
              have HZ1 := HZ0
              obtain ⟨S1, hSn⟩ : ∃ z, z = S0 := ⟨_, rfl⟩
              try rw [← hSn] at HS0
              try rw [← hSn] at HS0
              rw [← hSn] at o1 HS1 HZ1 ⊢
              clear hSn
              obtain ⟨z1, hzn⟩ : ∃ z, z = w1 := ⟨_, rfl⟩
              subst hzn
              clear cS hbS hxr1 hxr2 rd0 hkl0
              have rd1 := o1.rd
              obtain ⟨bS2, oS2, xT, hSA, hbS, HXS, cS, hxr1, hxr2⟩ := SlI.at_ (k := k) rd1 (lt_of_some HZ1.out.2)
              injection hSA with hSA
              injection hSA with hSA1 hSA2 _
              subst hSA1 hSA2
              obtain rfl : xS = xT := by have := HXS.out; rw [HZ1.out.2] at this; injection this
              clear HXS
              have qq1 := InB.cell k1.lt (k1.cell' (i := 1) rfl)
              have qq2 := InB.cell k1.lt (k1.cell' (i := 2) rfl)
              have qqf := InB.cell (Nat.lt_of_lt_of_le hbF b1.size) (bcell b1 hbF cF)
              have qqt := InB.cell (Nat.lt_of_lt_of_le hbT b1.size) (bcell b1 hbT cT)
              have qqs := InB.cell hbS cS
              have hkl1 := lt_of_some HZ1.out.2
              by_cases hax : b = xS
              · have HAX := Lib.hid hax
                have hax2 : (b == xS) = true := by simpa using hax
                clear hax
                rcases hd : decide (a ∈ S1) with _ | _
                · have CL : Hid (∀ t : InB z1, Calls Try.prog 107 #[.slice (some ⟨bS, oS, none⟩) S1.length sc0, .int .i64 a] t.val fun e w' => e = .returned (.bool false) ∧ Below t.val.heap.size t.val w') := by
                    intro t
                    have := l4Has_any _ S1 a t.val (SlI.next t.below rd1)
                    rwa [hd] at this
                  have HD := Lib.hid hd
                  clear hd
                  go_wp2_with fail
                  (refine wp_region_inB (by kernel_rfl) (by kernel_rfl) ?_; (repeat (go_big_quiet_step ((go_at_call 107; exact InB.call (CL.out _))))); refine wpQuiet_nil ?_; intro w1 hw'; obtain ⟨s1, hw1⟩ := hw'; have hb1 := s1.below; rw [← hw1] at hb1; clear hw1 s1)
                  clear qq1 qq2 qqf qqt qqs CL
                  have o2 := o1.below hb1
                  have b2 := b1.trans (hb1.mono b1.size)
                  have k2 := k1.call hb1
                  have e1 := (k2.alloc (.cells #[.int .i64 a] 3)).cell' (i := 1) rfl
                  have e1' := k2.cell' (i := 1) rfl
                  have e2' := k2.cell' (i := 2) rfl
                  have cF' := bcell b2 hbF cF
                  have cT' := bcell b2 hbT cT
                  have hko := o2.alloc (.cells #[.int .i64 a] 3)
                  have hkb := k2.alloc (.cells #[.int .i64 a] 3)
                  have hbb := b2.alloc b2.size (.cells #[.int .i64 a] 3)
                  have hsz := HZ1.out.1.len hv.2
                  clear e1
                  (go_wp2_with (at_builtin; refine Hold.stop ?_)); unfold Hold
                  refine wpList_appI rfl (.tmp 72) (.tmp 78) rfl w.heap.size _ (.slice (some ⟨bS, oS, none⟩) S1.length sc0) S1 rfl hko _ _ _ [a] rfl rfl (SlI.one w1 _ a ⟨by omega, by omega⟩) (by simp only [List.length_singleton]; omega) (by have := b2.size; simp; omega) ?_
                  intro vn z2 on hg1 hv1
                  have kn := hkb.grown hg1 (hko.blkne hkb (by decide))
                  have bn := hbb.grown hg1 (by have := b2.size; simp; omega) (fun j hj => (hko.lt j hj).1)
                  clear hko hkb hbb hg1 hv1 e1' e2' cF' cT' o2 b2 k2
                  have hnm : a ∉ S1 := of_decide_eq_false HD.out
                  have HS2 := Lib.hid (show S1 ++ [a] = cnP xS b a S1 by rw [HAX.out, cnP_yes hnm])
                  have HZ2 : Hid (cnOkS q (S1 ++ [a]) ∧ (S1 ++ [a])[k]? = some xS) := ⟨HZ1.out.1.add ra hnm, by rw [List.getElem?_append_left (lt_of_some HZ1.out.2)]; exact HZ1.out.2⟩
                  obtain ⟨S2, hSn⟩ : ∃ z, S1 ++ [a] = z := ⟨_, rfl⟩
                  rw [hSn] at on HS2 HZ2
                  clear hSn
                  have o2 := on
                  have b2 := bn
                  have k2 := kn
                  clear on bn kn
                  obtain ⟨SA2, sc2, hv2, _, _⟩ := o2.form
                  subst hv2
                  have HR : Hid (cnR q xS s (j + 1) = S2) := by show _ = _; rw [cnR_succ HF.out HT.out, HS0.out, ← HS1.out, ← HS2.out]
                  go_wp2
                  go_roundw
                  case rel => exact ⟨j + 1, by omega, by go_num, by rw [HR.out]; exact o2, b2, k2⟩
                  case measure => simp [intOf]; omega

                · have CL : Hid (∀ t : InB z1, Calls Try.prog 107 #[.slice (some ⟨bS, oS, none⟩) S1.length sc0, .int .i64 a] t.val fun e w' => e = .returned (.bool true) ∧ Below t.val.heap.size t.val w') := by
                    intro t
                    have := l4Has_any _ S1 a t.val (SlI.next t.below rd1)
                    rwa [hd] at this
                  have HD := Lib.hid hd
                  clear hd
                  go_wp2_with fail
                  (refine wp_region_inB (by kernel_rfl) (by kernel_rfl) ?_; (repeat (go_big_quiet_step ((go_at_call 107; exact InB.call (CL.out _))))); refine wpQuiet_nil ?_; intro w1 hw'; obtain ⟨s1, hw1⟩ := hw'; have hb1 := s1.below; rw [← hw1] at hb1; clear hw1 s1)
                  clear qq1 qq2 qqf qqt qqs CL
                  have o2 := o1.below hb1
                  have b2 := b1.trans (hb1.mono b1.size)
                  have k2 := k1.call hb1
                  have HS2 := Lib.hid (show S1 = cnP xS b a S1 by rw [cnP_mem (of_decide_eq_true HD.out)])
                  have HZ2 := HZ1
                  obtain ⟨S2, hSn⟩ : ∃ z, z = S1 := ⟨_, rfl⟩
                  try rw [← hSn] at HS0
                  try rw [← hSn] at HS1
                  rw [← hSn] at o2 HS2 HZ2 ⊢
                  clear hSn
                  obtain ⟨z2, hzn⟩ : ∃ z, z = w1 := ⟨_, rfl⟩
                  subst hzn
                  have HR : Hid (cnR q xS s (j + 1) = S2) := by show _ = _; rw [cnR_succ HF.out HT.out, HS0.out, ← HS1.out, ← HS2.out]
                  go_wp2
                  go_roundw
                  case rel => exact ⟨j + 1, by omega, by go_num, by rw [HR.out]; exact o2, b2, k2⟩
                  case measure => simp [intOf]; omega


              · have HAX := Lib.hid hax
                have hax2 : (b == xS) = false := by simpa using hax
                clear hax
                go_wp2_with fail
                (refine wp_region_inB (by kernel_rfl) (by kernel_rfl) ?_; (repeat (go_big_quiet_step (fail))); refine wpQuiet_nil ?_; intro w1 hw'; obtain ⟨s1, hw1⟩ := hw'; have hb1 := s1.below; rw [← hw1] at hb1; clear hw1 s1)
                clear qq1 qq2 qqf qqt qqs
                have o2 := o1.below hb1
                have b2 := b1.trans (hb1.mono b1.size)
                have k2 := k1.call hb1
                have HS2 := Lib.hid (show S1 = cnP xS b a S1 by rw [cnP_ne HAX.out])
                have HZ2 := HZ1
                obtain ⟨S2, hSn⟩ : ∃ z, z = S1 := ⟨_, rfl⟩
                try rw [← hSn] at HS0
                try rw [← hSn] at HS1
                rw [← hSn] at o2 HS2 HZ2 ⊢
                clear hSn
                obtain ⟨z2, hzn⟩ : ∃ z, z = w1 := ⟨_, rfl⟩
                subst hzn
                have HR : Hid (cnR q xS s (j + 1) = S2) := by show _ = _; rw [cnR_succ HF.out HT.out, HS0.out, ← HS1.out, ← HS2.out]
                go_wp2
                go_roundw
                case rel => exact ⟨j + 1, by omega, by go_num, by rw [HR.out]; exact o2, b2, k2⟩
                case measure => simp [intOf]; omega

          · obtain rfl : j = q.f.length := by omega
            have hge : Hid (k + 1 ≤ (cnR q xS s q.f.length).length ∧ cnOkS q (cnR q xS s q.f.length) ∧ cnG q (6 - (k + 1)) (cnR q xS s q.f.length) (k + 1) = cnG q 6 [0] 0) := by
              refine ⟨?_, cnR_ok hq0 HO.out.1 _, ?_⟩
              · have := lt_of_some (cnR_get (q := q) (x := xS) (j := q.f.length) HX.out); omega
              · rw [← HO.out.2, show 6 - k = (6 - (k + 1)) + 1 by omega, cnG_step HX.out]
            obtain ⟨SA0, sc0, hv0, _, _⟩ := o0.form
            subst hv0
            have c1 := k0.cell' (i := 1) rfl
            go_wp2
            go_roundw
            case rel => exact ⟨k + 1, _, hge.out.1, by go_num, o0, b0, k0, hge.out.2⟩
            case measure => simp [intOf]; omega
      · obtain rfl : k = s.length := by omega
        have HC : Hid (conQ q = ((s.length : Int) == q.v)) := by
          show _ = _
          rw [conQ, HQ.out, ← HO.out.2, cnG_end (Nat.le_refl _), Bool.true_and]
          rw [Bool.eq_iff_iff]; simp
        have hlt' : ¬ s.length < s.length := by omega
        go_wp2_with fail
        refine (specIsQuiver_any _ q _ (QvR.more hb.size (QvR.below hb HU.out))).mono ?_; rintro e w1 ⟨rfl, hb1⟩
        rw [HQ.out]
        have k1 := hkB.call hb1
        have hB1 := hb.trans (hb1.mono hb.size)
        clear c0 c1 c2
        have c0 := k1.cell' (i := 0) rfl
        go_wp2
        go_ret
        exact ⟨by rw [HC.out]; rfl, hB1⟩
end Go.Proofs.Ytkhkamcmlhmpiaa

/- IsConnectedQuiver: the program's. -/
namespace Go.Proofs.Ytkhkamcmlhmpiaa
set_option linter.unusedVariables false
set_option linter.unusedSimpArgs false
open Go.RowKit

set_option maxRecDepth 100000 in
set_option maxHeartbeats 6400000 in
theorem implConnected_any (u : Value) (q : Qv) (w : World) (hu : QvR w w.heap.size u q) :
    Calls Try.prog 63 #[u] w fun e w' => e = .returned (.bool (conQ q)) ∧ Below w.heap.size w w' := by
  have hu' := hu
  obtain ⟨A, c, C, d, rfl, hf, ht, hr, lf, lt⟩ := hu.open_
  clear hu
  obtain ⟨W, hW⟩ : ∃ W, W = w.alloc (.cells #[.int .i64 q.v, .slice A q.f.length c, .slice C q.t.length d] 28) := ⟨_, rfl⟩
  have kB : Blk W w.heap.size 28 #[.int .i64 q.v, .slice A q.f.length c, .slice C q.t.length d] := by rw [hW]; exact Blk.new _ _ _
  have g0 : Below w.heap.size w W := by rw [hW]; exact below_alloc _ _
  have hqW : QvR W W.heap.size (.agg #[.int .i64 q.v, .slice A q.f.length c, .slice C q.t.length d]) q := QvR.next g0 hu'
  have c0 := kB.cell' (i := 0) rfl
  have c1 := kB.cell' (i := 1) rfl
  have c2 := kB.cell' (i := 2) rfl
  rcases hq : isQ q with _ | _
  · have HC : Hid (conQ q = false) := by show _ = _; rw [conQ, hq]; rfl
    have HQ := Lib.hid hq
    clear hq hu' hf ht
    go_enter Try.func63, Try.ntmps63
    go_wp2_with fail
    rw [← hW]; clear hW
    refine (implIsQuiver_any _ q _ hqW).mono ?_; rintro e w1 ⟨rfl, hb1⟩
    rw [HQ.out]
    go_wp2
    go_ret
    exact ⟨by rw [HC.out]; rfl, bthen g0 hb1⟩
  · have HQ := Lib.hid hq
    have hq0 := hq
    obtain ⟨hv, hl, h6, hfr, htr⟩ := isQ_t.1 hq
    have HL := Lib.hid hl
    have hmo : Try.prog.follows .mixedOrders = true := by kernel_rfl
    clear hq hl
    go_enter Try.func63, Try.ntmps63
    go_wp2_with fail
    rw [← hW]; clear hW
    refine (implIsQuiver_any _ q _ hqW).mono ?_; rintro e w1 ⟨rfl, hb1⟩
    rw [HQ.out]
    have k1 := (kB.call hb1).alloc (.cells #[.int .i64 0] 3)
    have g1 := (bthen g0 hb1).alloc (bthen g0 hb1).size (.cells #[.int .i64 0] 3)
    have ho1 : OwnI (w1.alloc (.cells #[.int .i64 0] 3)) w.heap.size (.slice (some ⟨w1.heap.size, 0, none⟩) 1 1) [0] :=
      OwnI.newBlk (N := 1) (cs := #[.int .i64 0]) (l := [0]) (bthen g0 hb1).size (by omega) rfl rfl (fun x hx => by simp at hx; subst hx; exact ⟨by omega, by omega⟩)
    clear c0 c1 c2 kB g0 hqW hb1 hu'
    go_wp2
    go_loopw [3, 4] (fun vs vi wr => ∃ (k : Nat) (s : List Int), k ≤ s.length ∧ vi = .int .i64 k ∧ OwnI wr w.heap.size vs s ∧ Below w.heap.size w wr ∧ Blk wr w.heap.size 28 #[.int .i64 q.v, .slice A q.f.length c, .slice C q.t.length d] ∧ Hid (cnOkS q s ∧ cnG q (6 - k) s k = cnG q 6 [0] 0)) (fun _ vi _ => 6 - (intOf vi).toNat)
    case atStart => exact ⟨0, [0], by simp, rfl, ho1, g1, k1, ⟨cnOk_one hv.1, rfl⟩⟩
    case round =>
      clear ho1 g1 k1
      obtain ⟨k, s, hk, rfl, ho, hb, hkB, HO⟩ := hrel
      have hs5 := HO.out.1.len hv.2
      obtain ⟨SA, sc, hve, _, _⟩ := ho.form
      subst hve
      have c0 := hkB.cell' (i := 0) rfl
      have c1 := hkB.cell' (i := 1) rfl
      have c2 := hkB.cell' (i := 2) rfl
      by_cases hlt : k < s.length
      · have hx : s[k]? = some s[k] := List.getElem?_eq_getElem hlt
        obtain ⟨xS, hxe⟩ : ∃ x, s[k] = x := ⟨_, rfl⟩
        rw [hxe] at hx
        have HX := Lib.hid hx
        clear hx hxe
        go_wp2
        clear c0 c1 c2
        go_loopw [3, 22] (fun vs vj wr => ∃ j : Nat, j ≤ q.f.length ∧ vj = .int .i64 j ∧ OwnI wr w.heap.size vs (cnR q xS s j) ∧ Below w.heap.size w wr ∧ Blk wr w.heap.size 28 #[.int .i64 q.v, .slice A q.f.length c, .slice C q.t.length d]) (fun _ vj _ => q.f.length - (intOf vj).toNat)
        case atStart => exact ⟨0, Nat.zero_le _, rfl, by rw [cnR_0]; exact ho, hb, hkB⟩
        case round =>
          clear ho hb hkB
          obtain ⟨j, hj, rfl, o0, b0, k0⟩ := hrel
          obtain ⟨z0, hz0⟩ : ∃ z, z = wr := ⟨_, rfl⟩
          subst hz0
          have c1 := k0.cell' (i := 1) rfl
          have c2 := k0.cell' (i := 2) rfl
          by_cases hlt2 : j < q.f.length
          · obtain ⟨bF, oF, a, rfl, hbF, HF, cF0, _⟩ := SlI.at_ hf hlt2
            have hlt3 : j < q.t.length := by have := HL.out; omega
            obtain ⟨bT, oT, b, rfl, hbT, HT, cT0, _⟩ := SlI.at_ ht hlt3
            have cF := bcell b0 hbF cF0
            have cT := bcell b0 hbT cT0
            have ra := hfr a (List.mem_of_getElem? HF.out)
            have rb := htr b (List.mem_of_getElem? HT.out)
            have HZ0 : Hid (cnOkS q (cnR q xS s j) ∧ (cnR q xS s j)[k]? = some xS) := ⟨cnR_ok hq0 HO.out.1 j, cnR_get HX.out⟩
            obtain ⟨S0, hS0⟩ : ∃ z, cnR q xS s j = z := ⟨_, rfl⟩
            rw [hS0] at o0 HZ0
            have HS0 := Lib.hid hS0
            clear hS0 hf ht
            obtain ⟨SA0, sc0, hv0, _, _⟩ := o0.form
            subst hv0
            go_wp2_with fail
            go_region_o
            go_wp2
            obtain ⟨v0, hWd⟩ : ∃ z, z = (z0.alloc (.cells #[.int .i64 a, .int .i64 b, .int .i64 b, .int .i64 a] 94)).drew := ⟨_, rfl⟩
            have gP : Blk v0 z0.heap.size 94 #[.int .i64 a, .int .i64 b, .int .i64 b, .int .i64 a] := by rw [hWd]; exact Blk.new _ _ _
            have oD : OwnI v0 w.heap.size (.slice SA0 S0.length sc0) S0 := by rw [hWd]; exact o0.alloc _
            have kD : Blk v0 w.heap.size 28 #[.int .i64 q.v, .slice (some ⟨bF, oF, none⟩) q.f.length c, .slice (some ⟨bT, oT, none⟩) q.t.length d] := by rw [hWd]; exact k0.alloc _
            have bD : Below w.heap.size w v0 := by rw [hWd]; exact (b0.alloc b0.size _).drew
            rw [← hWd]
            clear hWd o0 k0 b0 c1 c2 cF cT cF0 cT0
            have o0 := oD
            have k0 := kD
            have b0 := bD
            have g0 := gP
            clear oD kD bD gP
            refine wp_loop_rounds 3 ?_
            rw [rounds_succ]
            have p0 := g0.cell' (i := 0) rfl
            have p1 := g0.cell' (i := 1) rfl
            go_wp2_with fail
            obtain ⟨y0, hy0⟩ : ∃ z, z = v0.alloc (.cells #[.int .i64 a, .int .i64 b] 94) := ⟨_, rfl⟩
            have gE0 : Blk y0 v0.heap.size 94 #[.int .i64 a, .int .i64 b] := by rw [hy0]; exact Blk.new _ _ _
            have gy0 : Blk y0 z0.heap.size 94 #[.int .i64 a, .int .i64 b, .int .i64 b, .int .i64 a] := by rw [hy0]; exact g0.alloc _
            have oy0 : OwnI y0 w.heap.size (.slice SA0 S0.length sc0) S0 := by rw [hy0]; exact o0.alloc _
            have ky0 : Blk y0 w.heap.size 28 #[.int .i64 q.v, .slice (some ⟨bF, oF, none⟩) q.f.length c, .slice (some ⟨bT, oT, none⟩) q.t.length d] := by rw [hy0]; exact k0.alloc _
            have by0 : Below w.heap.size w y0 := by rw [hy0]; exact b0.alloc b0.size _
            rw [← hy0]
            clear hy0 p0 p1 o0 k0 b0 g0
            have rd0 := oy0.rd
            obtain ⟨bS, oS, xT, hSA, hbS, HXS, cS, hxr1, hxr2⟩ := SlI.at_ (k := k) rd0 (lt_of_some HZ0.out.2)
            obtain rfl : xS = xT := by have := HXS.out; rw [HZ0.out.2] at this; injection this
            subst hSA
            clear HXS
            have qq0 := InB.cell gE0.lt (gE0.cell' (i := 0) rfl)
            have qq1 := InB.cell gE0.lt (gE0.cell' (i := 1) rfl)
            have qqs := InB.cell hbS cS
            have hkl0 := lt_of_some HZ0.out.2
            by_cases hax : a = xS
            · have HAX := Lib.hid hax
              have hax2 : (a == xS) = true := by simpa using hax
              clear hax
              rcases hd : decide (b ∈ S0) with _ | _
              · have CL : Hid (∀ t : InB y0, Calls Try.prog 112 #[.slice (some ⟨bS, oS, none⟩) S0.length sc0, .int .i64 b] t.val fun e w' => e = .returned (.bool false) ∧ w' = t.val) := by
                  intro t
                  have := contains_any _ S0 b t.val (SlI.next t.below rd0)
                  rwa [hd] at this
                have HD := Lib.hid hd
                clear hd
                go_wp2_with fail
                (refine wp_region_inB (by kernel_rfl) (by kernel_rfl) ?_; (repeat (go_big_quiet_step ((go_at_call 112; exact InB.call_same (CL.out _))))); refine wpQuiet_nil ?_; intro w1 hw'; obtain ⟨s1, hw1⟩ := hw'; have hb1 := s1.below; rw [← hw1] at hb1; clear hw1 s1)
                clear qq0 qq1 qqs CL
                have ow := oy0.below hb1
                have bw := by0.trans (hb1.mono by0.size)
                have kw := ky0.call hb1
                have gw := gy0.call hb1
                have gEw := gE0.call hb1
                clear oy0 by0 ky0 gy0 gE0 hb1
                have e1' := gEw.cell' (i := 1) rfl
                have hko := ow.alloc (.cells #[.int .i64 b] 3)
                have hkb := kw.alloc (.cells #[.int .i64 b] 3)
                have hkg := gw.alloc (.cells #[.int .i64 b] 3)
                have hbb := bw.alloc bw.size (.cells #[.int .i64 b] 3)
                have hsz := HZ0.out.1.len hv.2
                (go_wp2_with (at_builtin; refine Hold.stop ?_)); unfold Hold
                refine wpList_appI rfl (.tmp 61) (.tmp 64) rfl w.heap.size _ (.slice (some ⟨bS, oS, none⟩) S0.length sc0) S0 rfl hko _ _ _ [b] rfl rfl (SlI.one w1 _ b ⟨by omega, by omega⟩) (by simp only [List.length_singleton]; omega) (by have := bw.size; simp; omega) ?_
                intro vn v1 on hg1 hv1
                have k1 := hkb.grown hg1 (hko.blkne hkb (by decide))
                have g1 := hkg.grown hg1 (hko.blkne hkg (by decide))
                have b1 := hbb.grown hg1 (by have := bw.size; simp; omega) (fun j hj => (hko.lt j hj).1)
                clear hko hkb hkg hbb hg1 hv1 e1' ow bw kw gw gEw
                have hnm : b ∉ S0 := of_decide_eq_false HD.out
                have HS1 := Lib.hid (show S0 ++ [b] = cnP xS a b S0 by rw [HAX.out, cnP_yes hnm])
                have HZ1 : Hid (cnOkS q (S0 ++ [b]) ∧ (S0 ++ [b])[k]? = some xS) := ⟨HZ0.out.1.add rb hnm, by rw [List.getElem?_append_left (lt_of_some HZ0.out.2)]; exact HZ0.out.2⟩
                obtain ⟨S1, hSn⟩ : ∃ z, S0 ++ [b] = z := ⟨_, rfl⟩
                rw [hSn] at on HS1 HZ1
                clear hSn
                have o1 := on
                clear on
                obtain ⟨SA1, sc1, hv1, _, _⟩ := o1.form
                subst hv1
                go_wp2
                clear cS hbS hxr1 hxr2 rd0 hkl0
                have p0 := g1.cell' (i := 2) rfl
                have p1 := g1.cell' (i := 3) rfl
                rw [rounds_succ]; go_wp2_with fail
                obtain ⟨y1, hy1⟩ : ∃ z, z = v1.alloc (.cells #[.int .i64 b, .int .i64 a] 94) := ⟨_, rfl⟩
                have gE1 : Blk y1 v1.heap.size 94 #[.int .i64 b, .int .i64 a] := by rw [hy1]; exact Blk.new _ _ _
                have gy1 : Blk y1 z0.heap.size 94 #[.int .i64 a, .int .i64 b, .int .i64 b, .int .i64 a] := by rw [hy1]; exact g1.alloc _
                have oy1 : OwnI y1 w.heap.size (.slice SA1 S1.length sc1) S1 := by rw [hy1]; exact o1.alloc _
                have ky1 : Blk y1 w.heap.size 28 #[.int .i64 q.v, .slice (some ⟨bF, oF, none⟩) q.f.length c, .slice (some ⟨bT, oT, none⟩) q.t.length d] := by rw [hy1]; exact k1.alloc _
                have by1 : Below w.heap.size w y1 := by rw [hy1]; exact b1.alloc b1.size _
                rw [← hy1]
                clear hy1 p0 p1 o1 k1 b1 g1
                have rd1 := oy1.rd
                obtain ⟨bS, oS, xT, hSA, hbS, HXS, cS, hxr1, hxr2⟩ := SlI.at_ (k := k) rd1 (lt_of_some HZ1.out.2)
                obtain rfl : xS = xT := by have := HXS.out; rw [HZ1.out.2] at this; injection this
                subst hSA
                clear HXS
                have qq0 := InB.cell gE1.lt (gE1.cell' (i := 0) rfl)
                have qq1 := InB.cell gE1.lt (gE1.cell' (i := 1) rfl)
                have qqs := InB.cell hbS cS
                have hkl1 := lt_of_some HZ1.out.2
                by_cases hax : b = xS
                · have HAX := Lib.hid hax
                  have hax2 : (b == xS) = true := by simpa using hax
                  clear hax
                  rcases hd : decide (a ∈ S1) with _ | _
                  · have CL : Hid (∀ t : InB y1, Calls Try.prog 112 #[.slice (some ⟨bS, oS, none⟩) S1.length sc1, .int .i64 a] t.val fun e w' => e = .returned (.bool false) ∧ w' = t.val) := by
                      intro t
                      have := contains_any _ S1 a t.val (SlI.next t.below rd1)
                      rwa [hd] at this
                    have HD := Lib.hid hd
                    clear hd
                    go_wp2_with fail
                    (refine wp_region_inB (by kernel_rfl) (by kernel_rfl) ?_; (repeat (go_big_quiet_step ((go_at_call 112; exact InB.call_same (CL.out _))))); refine wpQuiet_nil ?_; intro w1 hw'; obtain ⟨s1, hw1⟩ := hw'; have hb1 := s1.below; rw [← hw1] at hb1; clear hw1 s1)
                    clear qq0 qq1 qqs CL
                    have ow := oy1.below hb1
                    have bw := by1.trans (hb1.mono by1.size)
                    have kw := ky1.call hb1
                    have gw := gy1.call hb1
                    have gEw := gE1.call hb1
                    clear oy1 by1 ky1 gy1 gE1 hb1
                    have e1' := gEw.cell' (i := 1) rfl
                    have hko := ow.alloc (.cells #[.int .i64 a] 3)
                    have hkb := kw.alloc (.cells #[.int .i64 a] 3)
                    have hkg := gw.alloc (.cells #[.int .i64 a] 3)
                    have hbb := bw.alloc bw.size (.cells #[.int .i64 a] 3)
                    have hsz := HZ1.out.1.len hv.2
                    (go_wp2_with (at_builtin; refine Hold.stop ?_)); unfold Hold
                    refine wpList_appI rfl (.tmp 61) (.tmp 64) rfl w.heap.size _ (.slice (some ⟨bS, oS, none⟩) S1.length sc1) S1 rfl hko _ _ _ [a] rfl rfl (SlI.one w1 _ a ⟨by omega, by omega⟩) (by simp only [List.length_singleton]; omega) (by have := bw.size; simp; omega) ?_
                    intro vn v2 on hg1 hv1
                    have k2 := hkb.grown hg1 (hko.blkne hkb (by decide))
                    have g2 := hkg.grown hg1 (hko.blkne hkg (by decide))
                    have b2 := hbb.grown hg1 (by have := bw.size; simp; omega) (fun j hj => (hko.lt j hj).1)
                    clear hko hkb hkg hbb hg1 hv1 e1' ow bw kw gw gEw
                    have hnm : a ∉ S1 := of_decide_eq_false HD.out
                    have HS2 := Lib.hid (show S1 ++ [a] = cnP xS b a S1 by rw [HAX.out, cnP_yes hnm])
                    have HZ2 : Hid (cnOkS q (S1 ++ [a]) ∧ (S1 ++ [a])[k]? = some xS) := ⟨HZ1.out.1.add ra hnm, by rw [List.getElem?_append_left (lt_of_some HZ1.out.2)]; exact HZ1.out.2⟩
                    obtain ⟨S2, hSn⟩ : ∃ z, S1 ++ [a] = z := ⟨_, rfl⟩
                    rw [hSn] at on HS2 HZ2
                    clear hSn
                    have o2 := on
                    clear on
                    obtain ⟨SA2, sc2, hv2, _, _⟩ := o2.form
                    subst hv2
                    go_wp2
                    have HR : Hid (cnR q xS s (j + 1) = S2) := by show _ = _; rw [cnR_succ HF.out HT.out, HS0.out, ← HS1.out, ← HS2.out]
                    rw [rounds_succ]
                    go_wp2
                    go_roundw
                    case rel => exact ⟨j + 1, by omega, by go_num, by rw [HR.out]; exact o2, b2, k2⟩
                    case measure => simp [intOf]; omega

                  · have CL : Hid (∀ t : InB y1, Calls Try.prog 112 #[.slice (some ⟨bS, oS, none⟩) S1.length sc1, .int .i64 a] t.val fun e w' => e = .returned (.bool true) ∧ w' = t.val) := by
                      intro t
                      have := contains_any _ S1 a t.val (SlI.next t.below rd1)
                      rwa [hd] at this
                    have HD := Lib.hid hd
                    clear hd
                    go_wp2_with fail
                    (refine wp_region_inB (by kernel_rfl) (by kernel_rfl) ?_; (repeat (go_big_quiet_step ((go_at_call 112; exact InB.call_same (CL.out _))))); refine wpQuiet_nil ?_; intro w1 hw'; obtain ⟨s1, hw1⟩ := hw'; have hb1 := s1.below; rw [← hw1] at hb1; clear hw1 s1)
                    clear qq0 qq1 qqs CL
                    have ow := oy1.below hb1
                    have bw := by1.trans (hb1.mono by1.size)
                    have kw := ky1.call hb1
                    have gw := gy1.call hb1
                    have gEw := gE1.call hb1
                    clear oy1 by1 ky1 gy1 gE1 hb1
                    have HS2 := Lib.hid (show S1 = cnP xS b a S1 by rw [cnP_mem (of_decide_eq_true HD.out)])
                    have HZ2 := HZ1
                    obtain ⟨S2, hSn⟩ : ∃ z, z = S1 := ⟨_, rfl⟩
                    try rw [← hSn] at HS0
                    try rw [← hSn] at HS1
                    rw [← hSn] at ow HS2 HZ2 ⊢
                    clear hSn
                    obtain ⟨v2, hzn⟩ : ∃ z, z = w1 := ⟨_, rfl⟩
                    subst hzn
                    have o2 := ow
                    have b2 := bw
                    have k2 := kw
                    have g2 := gw
                    clear ow bw kw gw gEw
                    go_wp2_with fail
                    have HR : Hid (cnR q xS s (j + 1) = S2) := by show _ = _; rw [cnR_succ HF.out HT.out, HS0.out, ← HS1.out, ← HS2.out]
                    rw [rounds_succ]
                    go_wp2
                    go_roundw
                    case rel => exact ⟨j + 1, by omega, by go_num, by rw [HR.out]; exact o2, b2, k2⟩
                    case measure => simp [intOf]; omega


                · have HAX := Lib.hid hax
                  have hax2 : (b == xS) = false := by simpa using hax
                  clear hax
                  go_wp2_with fail
                  (refine wp_region_inB (by kernel_rfl) (by kernel_rfl) ?_; (repeat (go_big_quiet_step (fail))); refine wpQuiet_nil ?_; intro w1 hw'; obtain ⟨s1, hw1⟩ := hw'; have hb1 := s1.below; rw [← hw1] at hb1; clear hw1 s1)
                  clear qq0 qq1 qqs
                  have ow := oy1.below hb1
                  have bw := by1.trans (hb1.mono by1.size)
                  have kw := ky1.call hb1
                  have gw := gy1.call hb1
                  have gEw := gE1.call hb1
                  clear oy1 by1 ky1 gy1 gE1 hb1
                  have HS2 := Lib.hid (show S1 = cnP xS b a S1 by rw [cnP_ne HAX.out])
                  have HZ2 := HZ1
                  obtain ⟨S2, hSn⟩ : ∃ z, z = S1 := ⟨_, rfl⟩
                  try rw [← hSn] at HS0
                  try rw [← hSn] at HS1
                  rw [← hSn] at ow HS2 HZ2 ⊢
                  clear hSn
                  obtain ⟨v2, hzn⟩ : ∃ z, z = w1 := ⟨_, rfl⟩
                  subst hzn
                  have o2 := ow
                  have b2 := bw
                  have k2 := kw
                  have g2 := gw
                  clear ow bw kw gw gEw
                  go_wp2_with fail
                  have HR : Hid (cnR q xS s (j + 1) = S2) := by show _ = _; rw [cnR_succ HF.out HT.out, HS0.out, ← HS1.out, ← HS2.out]
                  rw [rounds_succ]
                  go_wp2
                  go_roundw
                  case rel => exact ⟨j + 1, by omega, by go_num, by rw [HR.out]; exact o2, b2, k2⟩
                  case measure => simp [intOf]; omega

              · have CL : Hid (∀ t : InB y0, Calls Try.prog 112 #[.slice (some ⟨bS, oS, none⟩) S0.length sc0, .int .i64 b] t.val fun e w' => e = .returned (.bool true) ∧ w' = t.val) := by
                  intro t
                  have := contains_any _ S0 b t.val (SlI.next t.below rd0)
                  rwa [hd] at this
                have HD := Lib.hid hd
                clear hd
                go_wp2_with fail
                (refine wp_region_inB (by kernel_rfl) (by kernel_rfl) ?_; (repeat (go_big_quiet_step ((go_at_call 112; exact InB.call_same (CL.out _))))); refine wpQuiet_nil ?_; intro w1 hw'; obtain ⟨s1, hw1⟩ := hw'; have hb1 := s1.below; rw [← hw1] at hb1; clear hw1 s1)
                clear qq0 qq1 qqs CL
                have ow := oy0.below hb1
                have bw := by0.trans (hb1.mono by0.size)
                have kw := ky0.call hb1
                have gw := gy0.call hb1
                have gEw := gE0.call hb1
                clear oy0 by0 ky0 gy0 gE0 hb1
                have HS1 := Lib.hid (show S0 = cnP xS a b S0 by rw [cnP_mem (of_decide_eq_true HD.out)])
                have HZ1 := HZ0
                obtain ⟨S1, hSn⟩ : ∃ z, z = S0 := ⟨_, rfl⟩
                try rw [← hSn] at HS0
                try rw [← hSn] at HS0
                rw [← hSn] at ow HS1 HZ1 ⊢
                clear hSn
                obtain ⟨v1, hzn⟩ : ∃ z, z = w1 := ⟨_, rfl⟩
                subst hzn
                have o1 := ow
                have b1 := bw
                have k1 := kw
                have g1 := gw
                clear ow bw kw gw gEw
                go_wp2_with fail
                clear cS hbS hxr1 hxr2 rd0 hkl0
                have p0 := g1.cell' (i := 2) rfl
                have p1 := g1.cell' (i := 3) rfl
                rw [rounds_succ]; go_wp2_with fail
                obtain ⟨y1, hy1⟩ : ∃ z, z = v1.alloc (.cells #[.int .i64 b, .int .i64 a] 94) := ⟨_, rfl⟩
                have gE1 : Blk y1 v1.heap.size 94 #[.int .i64 b, .int .i64 a] := by rw [hy1]; exact Blk.new _ _ _
                have gy1 : Blk y1 z0.heap.size 94 #[.int .i64 a, .int .i64 b, .int .i64 b, .int .i64 a] := by rw [hy1]; exact g1.alloc _
                have oy1 : OwnI y1 w.heap.size (.slice (some ⟨bS, oS, none⟩) S1.length sc0) S1 := by rw [hy1]; exact o1.alloc _
                have ky1 : Blk y1 w.heap.size 28 #[.int .i64 q.v, .slice (some ⟨bF, oF, none⟩) q.f.length c, .slice (some ⟨bT, oT, none⟩) q.t.length d] := by rw [hy1]; exact k1.alloc _
                have by1 : Below w.heap.size w y1 := by rw [hy1]; exact b1.alloc b1.size _
                rw [← hy1]
                clear hy1 p0 p1 o1 k1 b1 g1
                have rd1 := oy1.rd
                obtain ⟨bS2, oS2, xT, hSA, hbS, HXS, cS, hxr1, hxr2⟩ := SlI.at_ (k := k) rd1 (lt_of_some HZ1.out.2)
                injection hSA with hSA
                injection hSA with hSA1 hSA2 _
                subst hSA1 hSA2
                obtain rfl : xS = xT := by have := HXS.out; rw [HZ1.out.2] at this; injection this
                clear HXS
                have qq0 := InB.cell gE1.lt (gE1.cell' (i := 0) rfl)
                have qq1 := InB.cell gE1.lt (gE1.cell' (i := 1) rfl)
                have qqs := InB.cell hbS cS
                have hkl1 := lt_of_some HZ1.out.2
                by_cases hax : b = xS
                · have HAX := Lib.hid hax
                  have hax2 : (b == xS) = true := by simpa using hax
                  clear hax
                  rcases hd : decide (a ∈ S1) with _ | _
                  · have CL : Hid (∀ t : InB y1, Calls Try.prog 112 #[.slice (some ⟨bS, oS, none⟩) S1.length sc0, .int .i64 a] t.val fun e w' => e = .returned (.bool false) ∧ w' = t.val) := by
                      intro t
                      have := contains_any _ S1 a t.val (SlI.next t.below rd1)
                      rwa [hd] at this
                    have HD := Lib.hid hd
                    clear hd
                    go_wp2_with fail
                    (refine wp_region_inB (by kernel_rfl) (by kernel_rfl) ?_; (repeat (go_big_quiet_step ((go_at_call 112; exact InB.call_same (CL.out _))))); refine wpQuiet_nil ?_; intro w1 hw'; obtain ⟨s1, hw1⟩ := hw'; have hb1 := s1.below; rw [← hw1] at hb1; clear hw1 s1)
                    clear qq0 qq1 qqs CL
                    have ow := oy1.below hb1
                    have bw := by1.trans (hb1.mono by1.size)
                    have kw := ky1.call hb1
                    have gw := gy1.call hb1
                    have gEw := gE1.call hb1
                    clear oy1 by1 ky1 gy1 gE1 hb1
                    have e1' := gEw.cell' (i := 1) rfl
                    have hko := ow.alloc (.cells #[.int .i64 a] 3)
                    have hkb := kw.alloc (.cells #[.int .i64 a] 3)
                    have hkg := gw.alloc (.cells #[.int .i64 a] 3)
                    have hbb := bw.alloc bw.size (.cells #[.int .i64 a] 3)
                    have hsz := HZ1.out.1.len hv.2
                    (go_wp2_with (at_builtin; refine Hold.stop ?_)); unfold Hold
                    refine wpList_appI rfl (.tmp 61) (.tmp 64) rfl w.heap.size _ (.slice (some ⟨bS, oS, none⟩) S1.length sc0) S1 rfl hko _ _ _ [a] rfl rfl (SlI.one w1 _ a ⟨by omega, by omega⟩) (by simp only [List.length_singleton]; omega) (by have := bw.size; simp; omega) ?_
                    intro vn v2 on hg1 hv1
                    have k2 := hkb.grown hg1 (hko.blkne hkb (by decide))
                    have g2 := hkg.grown hg1 (hko.blkne hkg (by decide))
                    have b2 := hbb.grown hg1 (by have := bw.size; simp; omega) (fun j hj => (hko.lt j hj).1)
                    clear hko hkb hkg hbb hg1 hv1 e1' ow bw kw gw gEw
                    have hnm : a ∉ S1 := of_decide_eq_false HD.out
                    have HS2 := Lib.hid (show S1 ++ [a] = cnP xS b a S1 by rw [HAX.out, cnP_yes hnm])
                    have HZ2 : Hid (cnOkS q (S1 ++ [a]) ∧ (S1 ++ [a])[k]? = some xS) := ⟨HZ1.out.1.add ra hnm, by rw [List.getElem?_append_left (lt_of_some HZ1.out.2)]; exact HZ1.out.2⟩
                    obtain ⟨S2, hSn⟩ : ∃ z, S1 ++ [a] = z := ⟨_, rfl⟩
                    rw [hSn] at on HS2 HZ2
                    clear hSn
                    have o2 := on
                    clear on
                    obtain ⟨SA2, sc2, hv2, _, _⟩ := o2.form
                    subst hv2
                    go_wp2
                    have HR : Hid (cnR q xS s (j + 1) = S2) := by show _ = _; rw [cnR_succ HF.out HT.out, HS0.out, ← HS1.out, ← HS2.out]
                    rw [rounds_succ]
                    go_wp2
                    go_roundw
                    case rel => exact ⟨j + 1, by omega, by go_num, by rw [HR.out]; exact o2, b2, k2⟩
                    case measure => simp [intOf]; omega

                  · have CL : Hid (∀ t : InB y1, Calls Try.prog 112 #[.slice (some ⟨bS, oS, none⟩) S1.length sc0, .int .i64 a] t.val fun e w' => e = .returned (.bool true) ∧ w' = t.val) := by
                      intro t
                      have := contains_any _ S1 a t.val (SlI.next t.below rd1)
                      rwa [hd] at this
                    have HD := Lib.hid hd
                    clear hd
                    go_wp2_with fail
                    (refine wp_region_inB (by kernel_rfl) (by kernel_rfl) ?_; (repeat (go_big_quiet_step ((go_at_call 112; exact InB.call_same (CL.out _))))); refine wpQuiet_nil ?_; intro w1 hw'; obtain ⟨s1, hw1⟩ := hw'; have hb1 := s1.below; rw [← hw1] at hb1; clear hw1 s1)
                    clear qq0 qq1 qqs CL
                    have ow := oy1.below hb1
                    have bw := by1.trans (hb1.mono by1.size)
                    have kw := ky1.call hb1
                    have gw := gy1.call hb1
                    have gEw := gE1.call hb1
                    clear oy1 by1 ky1 gy1 gE1 hb1
                    have HS2 := Lib.hid (show S1 = cnP xS b a S1 by rw [cnP_mem (of_decide_eq_true HD.out)])
                    have HZ2 := HZ1
                    obtain ⟨S2, hSn⟩ : ∃ z, z = S1 := ⟨_, rfl⟩
                    try rw [← hSn] at HS0
                    try rw [← hSn] at HS1
                    rw [← hSn] at ow HS2 HZ2 ⊢
                    clear hSn
                    obtain ⟨v2, hzn⟩ : ∃ z, z = w1 := ⟨_, rfl⟩
                    subst hzn
                    have o2 := ow
                    have b2 := bw
                    have k2 := kw
                    have g2 := gw
                    clear ow bw kw gw gEw
                    go_wp2_with fail
                    have HR : Hid (cnR q xS s (j + 1) = S2) := by show _ = _; rw [cnR_succ HF.out HT.out, HS0.out, ← HS1.out, ← HS2.out]
                    rw [rounds_succ]
                    go_wp2
                    go_roundw
                    case rel => exact ⟨j + 1, by omega, by go_num, by rw [HR.out]; exact o2, b2, k2⟩
                    case measure => simp [intOf]; omega


                · have HAX := Lib.hid hax
                  have hax2 : (b == xS) = false := by simpa using hax
                  clear hax
                  go_wp2_with fail
                  (refine wp_region_inB (by kernel_rfl) (by kernel_rfl) ?_; (repeat (go_big_quiet_step (fail))); refine wpQuiet_nil ?_; intro w1 hw'; obtain ⟨s1, hw1⟩ := hw'; have hb1 := s1.below; rw [← hw1] at hb1; clear hw1 s1)
                  clear qq0 qq1 qqs
                  have ow := oy1.below hb1
                  have bw := by1.trans (hb1.mono by1.size)
                  have kw := ky1.call hb1
                  have gw := gy1.call hb1
                  have gEw := gE1.call hb1
                  clear oy1 by1 ky1 gy1 gE1 hb1
                  have HS2 := Lib.hid (show S1 = cnP xS b a S1 by rw [cnP_ne HAX.out])
                  have HZ2 := HZ1
                  obtain ⟨S2, hSn⟩ : ∃ z, z = S1 := ⟨_, rfl⟩
                  try rw [← hSn] at HS0
                  try rw [← hSn] at HS1
                  rw [← hSn] at ow HS2 HZ2 ⊢
                  clear hSn
                  obtain ⟨v2, hzn⟩ : ∃ z, z = w1 := ⟨_, rfl⟩
                  subst hzn
                  have o2 := ow
                  have b2 := bw
                  have k2 := kw
                  have g2 := gw
                  clear ow bw kw gw gEw
                  go_wp2_with fail
                  have HR : Hid (cnR q xS s (j + 1) = S2) := by show _ = _; rw [cnR_succ HF.out HT.out, HS0.out, ← HS1.out, ← HS2.out]
                  rw [rounds_succ]
                  go_wp2
                  go_roundw
                  case rel => exact ⟨j + 1, by omega, by go_num, by rw [HR.out]; exact o2, b2, k2⟩
                  case measure => simp [intOf]; omega


            · have HAX := Lib.hid hax
              have hax2 : (a == xS) = false := by simpa using hax
              clear hax
              go_wp2_with fail
              (refine wp_region_inB (by kernel_rfl) (by kernel_rfl) ?_; (repeat (go_big_quiet_step (fail))); refine wpQuiet_nil ?_; intro w1 hw'; obtain ⟨s1, hw1⟩ := hw'; have hb1 := s1.below; rw [← hw1] at hb1; clear hw1 s1)
              clear qq0 qq1 qqs
              have ow := oy0.below hb1
              have bw := by0.trans (hb1.mono by0.size)
              have kw := ky0.call hb1
              have gw := gy0.call hb1
              have gEw := gE0.call hb1
              clear oy0 by0 ky0 gy0 gE0 hb1
              have HS1 := Lib.hid (show S0 = cnP xS a b S0 by rw [cnP_ne HAX.out])
              have HZ1 := HZ0
              obtain ⟨S1, hSn⟩ : ∃ z, z = S0 := ⟨_, rfl⟩
              try rw [← hSn] at HS0
              try rw [← hSn] at HS0
              rw [← hSn] at ow HS1 HZ1 ⊢
              clear hSn
              obtain ⟨v1, hzn⟩ : ∃ z, z = w1 := ⟨_, rfl⟩
              subst hzn
              have o1 := ow
              have b1 := bw
              have k1 := kw
              have g1 := gw
              clear ow bw kw gw gEw
              go_wp2_with fail
              clear cS hbS hxr1 hxr2 rd0 hkl0
              have p0 := g1.cell' (i := 2) rfl
              have p1 := g1.cell' (i := 3) rfl
              rw [rounds_succ]; go_wp2_with fail
              obtain ⟨y1, hy1⟩ : ∃ z, z = v1.alloc (.cells #[.int .i64 b, .int .i64 a] 94) := ⟨_, rfl⟩
              have gE1 : Blk y1 v1.heap.size 94 #[.int .i64 b, .int .i64 a] := by rw [hy1]; exact Blk.new _ _ _
              have gy1 : Blk y1 z0.heap.size 94 #[.int .i64 a, .int .i64 b, .int .i64 b, .int .i64 a] := by rw [hy1]; exact g1.alloc _
              have oy1 : OwnI y1 w.heap.size (.slice (some ⟨bS, oS, none⟩) S1.length sc0) S1 := by rw [hy1]; exact o1.alloc _
              have ky1 : Blk y1 w.heap.size 28 #[.int .i64 q.v, .slice (some ⟨bF, oF, none⟩) q.f.length c, .slice (some ⟨bT, oT, none⟩) q.t.length d] := by rw [hy1]; exact k1.alloc _
              have by1 : Below w.heap.size w y1 := by rw [hy1]; exact b1.alloc b1.size _
              rw [← hy1]
              clear hy1 p0 p1 o1 k1 b1 g1
              have rd1 := oy1.rd
              obtain ⟨bS2, oS2, xT, hSA, hbS, HXS, cS, hxr1, hxr2⟩ := SlI.at_ (k := k) rd1 (lt_of_some HZ1.out.2)
              injection hSA with hSA
              injection hSA with hSA1 hSA2 _
              subst hSA1 hSA2
              obtain rfl : xS = xT := by have := HXS.out; rw [HZ1.out.2] at this; injection this
              clear HXS
              have qq0 := InB.cell gE1.lt (gE1.cell' (i := 0) rfl)
              have qq1 := InB.cell gE1.lt (gE1.cell' (i := 1) rfl)
              have qqs := InB.cell hbS cS
              have hkl1 := lt_of_some HZ1.out.2
              by_cases hax : b = xS
              · have HAX := Lib.hid hax
                have hax2 : (b == xS) = true := by simpa using hax
                clear hax
                rcases hd : decide (a ∈ S1) with _ | _
                · have CL : Hid (∀ t : InB y1, Calls Try.prog 112 #[.slice (some ⟨bS, oS, none⟩) S1.length sc0, .int .i64 a] t.val fun e w' => e = .returned (.bool false) ∧ w' = t.val) := by
                    intro t
                    have := contains_any _ S1 a t.val (SlI.next t.below rd1)
                    rwa [hd] at this
                  have HD := Lib.hid hd
                  clear hd
                  go_wp2_with fail
                  (refine wp_region_inB (by kernel_rfl) (by kernel_rfl) ?_; (repeat (go_big_quiet_step ((go_at_call 112; exact InB.call_same (CL.out _))))); refine wpQuiet_nil ?_; intro w1 hw'; obtain ⟨s1, hw1⟩ := hw'; have hb1 := s1.below; rw [← hw1] at hb1; clear hw1 s1)
                  clear qq0 qq1 qqs CL
                  have ow := oy1.below hb1
                  have bw := by1.trans (hb1.mono by1.size)
                  have kw := ky1.call hb1
                  have gw := gy1.call hb1
                  have gEw := gE1.call hb1
                  clear oy1 by1 ky1 gy1 gE1 hb1
                  have e1' := gEw.cell' (i := 1) rfl
                  have hko := ow.alloc (.cells #[.int .i64 a] 3)
                  have hkb := kw.alloc (.cells #[.int .i64 a] 3)
                  have hkg := gw.alloc (.cells #[.int .i64 a] 3)
                  have hbb := bw.alloc bw.size (.cells #[.int .i64 a] 3)
                  have hsz := HZ1.out.1.len hv.2
                  (go_wp2_with (at_builtin; refine Hold.stop ?_)); unfold Hold
                  refine wpList_appI rfl (.tmp 61) (.tmp 64) rfl w.heap.size _ (.slice (some ⟨bS, oS, none⟩) S1.length sc0) S1 rfl hko _ _ _ [a] rfl rfl (SlI.one w1 _ a ⟨by omega, by omega⟩) (by simp only [List.length_singleton]; omega) (by have := bw.size; simp; omega) ?_
                  intro vn v2 on hg1 hv1
                  have k2 := hkb.grown hg1 (hko.blkne hkb (by decide))
                  have g2 := hkg.grown hg1 (hko.blkne hkg (by decide))
                  have b2 := hbb.grown hg1 (by have := bw.size; simp; omega) (fun j hj => (hko.lt j hj).1)
                  clear hko hkb hkg hbb hg1 hv1 e1' ow bw kw gw gEw
                  have hnm : a ∉ S1 := of_decide_eq_false HD.out
                  have HS2 := Lib.hid (show S1 ++ [a] = cnP xS b a S1 by rw [HAX.out, cnP_yes hnm])
                  have HZ2 : Hid (cnOkS q (S1 ++ [a]) ∧ (S1 ++ [a])[k]? = some xS) := ⟨HZ1.out.1.add ra hnm, by rw [List.getElem?_append_left (lt_of_some HZ1.out.2)]; exact HZ1.out.2⟩
                  obtain ⟨S2, hSn⟩ : ∃ z, S1 ++ [a] = z := ⟨_, rfl⟩
                  rw [hSn] at on HS2 HZ2
                  clear hSn
                  have o2 := on
                  clear on
                  obtain ⟨SA2, sc2, hv2, _, _⟩ := o2.form
                  subst hv2
                  go_wp2
                  have HR : Hid (cnR q xS s (j + 1) = S2) := by show _ = _; rw [cnR_succ HF.out HT.out, HS0.out, ← HS1.out, ← HS2.out]
                  rw [rounds_succ]
                  go_wp2
                  go_roundw
                  case rel => exact ⟨j + 1, by omega, by go_num, by rw [HR.out]; exact o2, b2, k2⟩
                  case measure => simp [intOf]; omega

                · have CL : Hid (∀ t : InB y1, Calls Try.prog 112 #[.slice (some ⟨bS, oS, none⟩) S1.length sc0, .int .i64 a] t.val fun e w' => e = .returned (.bool true) ∧ w' = t.val) := by
                    intro t
                    have := contains_any _ S1 a t.val (SlI.next t.below rd1)
                    rwa [hd] at this
                  have HD := Lib.hid hd
                  clear hd
                  go_wp2_with fail
                  (refine wp_region_inB (by kernel_rfl) (by kernel_rfl) ?_; (repeat (go_big_quiet_step ((go_at_call 112; exact InB.call_same (CL.out _))))); refine wpQuiet_nil ?_; intro w1 hw'; obtain ⟨s1, hw1⟩ := hw'; have hb1 := s1.below; rw [← hw1] at hb1; clear hw1 s1)
                  clear qq0 qq1 qqs CL
                  have ow := oy1.below hb1
                  have bw := by1.trans (hb1.mono by1.size)
                  have kw := ky1.call hb1
                  have gw := gy1.call hb1
                  have gEw := gE1.call hb1
                  clear oy1 by1 ky1 gy1 gE1 hb1
                  have HS2 := Lib.hid (show S1 = cnP xS b a S1 by rw [cnP_mem (of_decide_eq_true HD.out)])
                  have HZ2 := HZ1
                  obtain ⟨S2, hSn⟩ : ∃ z, z = S1 := ⟨_, rfl⟩
                  try rw [← hSn] at HS0
                  try rw [← hSn] at HS1
                  rw [← hSn] at ow HS2 HZ2 ⊢
                  clear hSn
                  obtain ⟨v2, hzn⟩ : ∃ z, z = w1 := ⟨_, rfl⟩
                  subst hzn
                  have o2 := ow
                  have b2 := bw
                  have k2 := kw
                  have g2 := gw
                  clear ow bw kw gw gEw
                  go_wp2_with fail
                  have HR : Hid (cnR q xS s (j + 1) = S2) := by show _ = _; rw [cnR_succ HF.out HT.out, HS0.out, ← HS1.out, ← HS2.out]
                  rw [rounds_succ]
                  go_wp2
                  go_roundw
                  case rel => exact ⟨j + 1, by omega, by go_num, by rw [HR.out]; exact o2, b2, k2⟩
                  case measure => simp [intOf]; omega


              · have HAX := Lib.hid hax
                have hax2 : (b == xS) = false := by simpa using hax
                clear hax
                go_wp2_with fail
                (refine wp_region_inB (by kernel_rfl) (by kernel_rfl) ?_; (repeat (go_big_quiet_step (fail))); refine wpQuiet_nil ?_; intro w1 hw'; obtain ⟨s1, hw1⟩ := hw'; have hb1 := s1.below; rw [← hw1] at hb1; clear hw1 s1)
                clear qq0 qq1 qqs
                have ow := oy1.below hb1
                have bw := by1.trans (hb1.mono by1.size)
                have kw := ky1.call hb1
                have gw := gy1.call hb1
                have gEw := gE1.call hb1
                clear oy1 by1 ky1 gy1 gE1 hb1
                have HS2 := Lib.hid (show S1 = cnP xS b a S1 by rw [cnP_ne HAX.out])
                have HZ2 := HZ1
                obtain ⟨S2, hSn⟩ : ∃ z, z = S1 := ⟨_, rfl⟩
                try rw [← hSn] at HS0
                try rw [← hSn] at HS1
                rw [← hSn] at ow HS2 HZ2 ⊢
                clear hSn
                obtain ⟨v2, hzn⟩ : ∃ z, z = w1 := ⟨_, rfl⟩
                subst hzn
                have o2 := ow
                have b2 := bw
                have k2 := kw
                have g2 := gw
                clear ow bw kw gw gEw
                go_wp2_with fail
                have HR : Hid (cnR q xS s (j + 1) = S2) := by show _ = _; rw [cnR_succ HF.out HT.out, HS0.out, ← HS1.out, ← HS2.out]
                rw [rounds_succ]
                go_wp2
                go_roundw
                case rel => exact ⟨j + 1, by omega, by go_num, by rw [HR.out]; exact o2, b2, k2⟩
                case measure => simp [intOf]; omega

          · obtain rfl : j = q.f.length := by omega
            have hge : Hid (k + 1 ≤ (cnR q xS s q.f.length).length ∧ cnOkS q (cnR q xS s q.f.length) ∧ cnG q (6 - (k + 1)) (cnR q xS s q.f.length) (k + 1) = cnG q 6 [0] 0) := by
              refine ⟨?_, cnR_ok hq0 HO.out.1 _, ?_⟩
              · have := lt_of_some (cnR_get (q := q) (x := xS) (j := q.f.length) HX.out); omega
              · rw [← HO.out.2, show 6 - k = (6 - (k + 1)) + 1 by omega, cnG_step HX.out]
            obtain ⟨SA0, sc0, hv0, _, _⟩ := o0.form
            subst hv0
            go_wp2
            go_roundw
            case rel => exact ⟨k + 1, _, hge.out.1, by go_num, o0, b0, k0, hge.out.2⟩
            case measure => simp [intOf]; omega
      · obtain rfl : k = s.length := by omega
        have HC : Hid (conQ q = ((s.length : Int) == q.v)) := by
          show _ = _
          rw [conQ, HQ.out, ← HO.out.2, cnG_end (Nat.le_refl _), Bool.true_and]
          rw [Bool.eq_iff_iff]; simp
        go_wp2
        go_ret
        exact ⟨by rw [HC.out]; rfl, hb⟩
end Go.Proofs.Ytkhkamcmlhmpiaa

/- DefectOf. -/
namespace Go.Proofs.Ytkhkamcmlhmpiaa
set_option linter.unusedVariables false
set_option linter.unusedSimpArgs false
open Go.RowKit

def dfQ (q : Qv) (x : List Int) : Int × Bool := if (nvQ q).2 = true ∧ conQ q = true ∧ isNum q x = true then (eul q (nvQ q).1 x, true) else (0, false)
theorem nvQ_num {q : Qv} (h : (nvQ q).2 = true) : isNum q (nvQ q).1 = true := by
  rw [nvQ] at h ⊢
  split at h
  · rename_i hk
    rw [if_pos hk]
    have hq : isQ q = true := by
      rcases h : isQ q with _ | _
      · simp [kindQ, h] at hk
      · rfl
    rcases nvB_or q q.v.toNat (5 ^ q.v.toNat) with h1 | ⟨c, h1⟩
    · rw [h1] at h; simp at h
    · show isNum q (nvB q q.v.toNat (5 ^ q.v.toNat)) = true
      rw [h1]; exact isNum_bx hq c
  · cases h
set_option maxRecDepth 100000 in
set_option maxHeartbeats 1600000 in
theorem specDefectOf_any (u xv : Value) (q : Qv) (x : List Int) (w : World) (hu : QvR w w.heap.size u q) (hx : SlI w w.heap.size xv x) :
    Calls Try.prog 16 #[u, xv] w fun e w' => e = .returned (.tuple #[.int .i64 (dfQ q x).1, .bool (dfQ q x).2]) ∧ Below w.heap.size w w' := by
  have hu' := hu
  have hx' := hx
  obtain ⟨A, c, C, d, rfl, hf, ht, hr, _⟩ := hu.open_
  obtain ⟨XA, xc, rfl, _, _, lx, _⟩ := hx.open_
  clear hu hf ht hx
  obtain ⟨W, hW⟩ : ∃ W, W = w.alloc (.cells #[.int .i64 q.v, .slice A q.f.length c, .slice C q.t.length d] 28) := ⟨_, rfl⟩
  have kB : Blk W w.heap.size 28 #[.int .i64 q.v, .slice A q.f.length c, .slice C q.t.length d] := by rw [hW]; exact Blk.new _ _ _
  have g0 : Below w.heap.size w W := by rw [hW]; exact below_alloc _ _
  have hq1 := QvR.next g0 hu'
  have hx1 := SlI.next g0 hx'
  have c0 := kB.cell' (i := 0) rfl
  have c1 := kB.cell' (i := 1) rfl
  have c2 := kB.cell' (i := 2) rfl
  have hdf : dfQ q x = if (nvQ q).2 = true ∧ conQ q = true ∧ isNum q x = true then (eul q (nvQ q).1 x, true) else (0, false) := rfl
  have hnn := @nvQ_num q
  rcases hB1 : (nvQ q).2 with _ | _
  · have HF : Hid (dfQ q x = (0, false)) := by show _ = _; rw [hdf, if_neg (fun h => by rw [hB1] at h; cases h.1)]
    have HB1 := Lib.hid hB1
    clear hB1 hdf hnn hu' hx'
    go_enter Try.func16, Try.ntmps16
    go_wp2_with fail
    rw [← hW]; clear hW
    refine (specNullVector_any _ q _ hq1).mono ?_; rintro e w1 ⟨vn, rfl, hN, hb1⟩
    rw [HB1.out]
    go_wp2
    go_ret2
    exact ⟨by rw [HF.out]; rfl, bthen g0 hb1⟩
  · have hn := hnn hB1
    have HB1 := Lib.hid hB1
    rcases hB2 : conQ q with _ | _
    all_goals rcases hB3 : isNum q x with _ | _
    rotate_left 3
    · have HF : Hid (dfQ q x = (eul q (nvQ q).1 x, true)) := by show _ = _; rw [hdf, if_pos ⟨hB1, hB2, hB3⟩]
      have HB2 := Lib.hid hB2
      have HB3 := Lib.hid hB3
      have HNN := Lib.hid hn
      clear hB1 hB2 hB3 hdf hnn hu' hx' hn
      go_enter Try.func16, Try.ntmps16
      go_wp2_with fail
      rw [← hW]; clear hW
      refine (specNullVector_any _ q _ hq1).mono ?_; rintro e w1 ⟨vn, rfl, hN, hb1⟩
      rw [HB1.out]
      have kB1 := kB.call hb1
      have hq2 := QvR.next hb1 hq1
      have hx2 := SlI.next hb1 hx1
      have hN2 := hN.rd
      obtain ⟨nn, hnn⟩ : ∃ z, (nvQ q).1 = z := ⟨_, rfl⟩
      rw [hnn] at HF HNN hN2
      have g1 := bthen g0 hb1
      clear c0 c1 c2 kB hq1 hx1 hN hnn g0 hb1
      have c0 := kB1.cell' (i := 0) rfl
      have c1 := kB1.cell' (i := 1) rfl
      have c2 := kB1.cell' (i := 2) rfl
      go_wp2_with fail
      refine (l18Vector_any _ _ q x _ hq2 hx2).mono ?_; rintro e w2 ⟨rfl, hb2⟩
      try rw [HB2.out]
      try rw [HB3.out]
      have kB2 := kB1.call hb2
      replace hq2 := QvR.next hb2 hq2
      replace hx2 := SlI.next hb2 hx2
      replace hN2 := SlI.next hb2 hN2
      have g2 := bthen g1 hb2
      clear c0 c1 c2 kB1 g1 hb2
      have c0 := kB2.cell' (i := 0) rfl
      have c1 := kB2.cell' (i := 1) rfl
      have c2 := kB2.cell' (i := 2) rfl
      go_wp2_with fail
      refine (specConnected_any _ q _ hq2).mono ?_; rintro e w3 ⟨rfl, hb3⟩
      try rw [HB2.out]
      try rw [HB3.out]
      have kB3 := kB2.call hb3
      replace hq2 := QvR.next hb3 hq2
      replace hx2 := SlI.next hb3 hx2
      replace hN2 := SlI.next hb3 hN2
      have g3 := bthen g2 hb3
      clear c0 c1 c2 kB2 g2 hb3
      have c0 := kB3.cell' (i := 0) rfl
      have c1 := kB3.cell' (i := 1) rfl
      have c2 := kB3.cell' (i := 2) rfl
      go_wp2_with fail
      refine (eulerForm_any _ _ _ q nn x _ hq2 hN2 hx2 HNN.out HB3.out).mono ?_; rintro e w4 ⟨rfl, hb4⟩
      go_wp2
      go_ret2
      exact ⟨by rw [HF.out]; rfl, bthen g3 hb4⟩
    all_goals
      have HF : Hid (dfQ q x = (0, false)) := by show _ = _; rw [hdf, if_neg (fun h => by rw [hB2, hB3] at h; simp at h)]
      have HB2 := Lib.hid hB2
      have HB3 := Lib.hid hB3
      clear hB1 hB2 hB3 hdf hnn hu' hx' hn
      go_enter Try.func16, Try.ntmps16
      go_wp2_with fail
      rw [← hW]; clear hW
      refine (specNullVector_any _ q _ hq1).mono ?_; rintro e w1 ⟨vn, rfl, hN, hb1⟩
      rw [HB1.out]
      have kB1 := kB.call hb1
      have hq2 := QvR.next hb1 hq1
      have hx2 := SlI.next hb1 hx1
      have g1 := bthen g0 hb1
      clear c0 c1 c2 kB hq1 hx1 hN g0 hb1
      have c0 := kB1.cell' (i := 0) rfl
      have c1 := kB1.cell' (i := 1) rfl
      have c2 := kB1.cell' (i := 2) rfl
      go_wp2_with fail
      refine (l18Vector_any _ _ q x _ hq2 hx2).mono ?_; rintro e w2 ⟨rfl, hb2⟩
      try rw [HB2.out]
      try rw [HB3.out]
      have kB2 := kB1.call hb2
      replace hq2 := QvR.next hb2 hq2
      replace hx2 := SlI.next hb2 hx2
      have g2 := bthen g1 hb2
      clear c0 c1 c2 kB1 g1 hb2
      have c0 := kB2.cell' (i := 0) rfl
      have c1 := kB2.cell' (i := 1) rfl
      have c2 := kB2.cell' (i := 2) rfl
      first
        | (go_wp2
           go_ret2
           exact ⟨by rw [HF.out]; rfl, g2⟩)
        | (go_wp2_with fail
           refine (specConnected_any _ q _ hq2).mono ?_; rintro e w3 ⟨rfl, hb3⟩
           try rw [HB2.out]
           try rw [HB3.out]
           go_wp2
           go_ret2
           exact ⟨by rw [HF.out]; rfl, bthen g2 hb3⟩)
set_option maxRecDepth 100000 in
set_option maxHeartbeats 1600000 in
theorem implDefectOf_any (u xv : Value) (q : Qv) (x : List Int) (w : World) (hu : QvR w w.heap.size u q) (hx : SlI w w.heap.size xv x) :
    Calls Try.prog 19 #[u, xv] w fun e w' => e = .returned (.tuple #[.int .i64 (dfQ q x).1, .bool (dfQ q x).2]) ∧ Below w.heap.size w w' := by
  have hu' := hu
  have hx' := hx
  obtain ⟨A, c, C, d, rfl, hf, ht, hr, _⟩ := hu.open_
  obtain ⟨XA, xc, rfl, _, _, lx, _⟩ := hx.open_
  clear hu hf ht hx
  obtain ⟨W, hW⟩ : ∃ W, W = w.alloc (.cells #[.int .i64 q.v, .slice A q.f.length c, .slice C q.t.length d] 28) := ⟨_, rfl⟩
  have kB : Blk W w.heap.size 28 #[.int .i64 q.v, .slice A q.f.length c, .slice C q.t.length d] := by rw [hW]; exact Blk.new _ _ _
  have g0 : Below w.heap.size w W := by rw [hW]; exact below_alloc _ _
  have hq1 := QvR.next g0 hu'
  have hx1 := SlI.next g0 hx'
  have c0 := kB.cell' (i := 0) rfl
  have c1 := kB.cell' (i := 1) rfl
  have c2 := kB.cell' (i := 2) rfl
  have hdf : dfQ q x = if (nvQ q).2 = true ∧ conQ q = true ∧ isNum q x = true then (eul q (nvQ q).1 x, true) else (0, false) := rfl
  have hnn := @nvQ_num q
  rcases hB1 : (nvQ q).2 with _ | _
  · have HF : Hid (dfQ q x = (0, false)) := by show _ = _; rw [hdf, if_neg (fun h => by rw [hB1] at h; cases h.1)]
    have HB1 := Lib.hid hB1
    clear hB1 hdf hnn hu' hx'
    go_enter Try.func19, Try.ntmps19
    go_wp2_with fail
    rw [← hW]; clear hW
    refine (implNullVector_any _ q _ hq1).mono ?_; rintro e w1 ⟨vn, rfl, hN, hb1⟩
    rw [HB1.out]
    go_wp2
    go_ret2
    exact ⟨by rw [HF.out]; rfl, bthen g0 hb1⟩
  · have hn := hnn hB1
    have HB1 := Lib.hid hB1
    rcases hB2 : conQ q with _ | _
    all_goals rcases hB3 : isNum q x with _ | _
    rotate_left 3
    · have HF : Hid (dfQ q x = (eul q (nvQ q).1 x, true)) := by show _ = _; rw [hdf, if_pos ⟨hB1, hB2, hB3⟩]
      have HB2 := Lib.hid hB2
      have HB3 := Lib.hid hB3
      have HNN := Lib.hid hn
      clear hB1 hB2 hB3 hdf hnn hu' hx' hn
      go_enter Try.func19, Try.ntmps19
      go_wp2_with fail
      rw [← hW]; clear hW
      refine (implNullVector_any _ q _ hq1).mono ?_; rintro e w1 ⟨vn, rfl, hN, hb1⟩
      rw [HB1.out]
      have kB1 := kB.call hb1
      have hq2 := QvR.next hb1 hq1
      have hx2 := SlI.next hb1 hx1
      have hN2 := hN.rd
      obtain ⟨nn, hnn⟩ : ∃ z, (nvQ q).1 = z := ⟨_, rfl⟩
      rw [hnn] at HF HNN hN2
      have g1 := bthen g0 hb1
      clear c0 c1 c2 kB hq1 hx1 hN hnn g0 hb1
      have c0 := kB1.cell' (i := 0) rfl
      have c1 := kB1.cell' (i := 1) rfl
      have c2 := kB1.cell' (i := 2) rfl
      go_wp2_with fail
      refine (implConnected_any _ q _ hq2).mono ?_; rintro e w2 ⟨rfl, hb2⟩
      try rw [HB2.out]
      try rw [HB3.out]
      have kB2 := kB1.call hb2
      replace hq2 := QvR.next hb2 hq2
      replace hx2 := SlI.next hb2 hx2
      replace hN2 := SlI.next hb2 hN2
      have g2 := bthen g1 hb2
      clear c0 c1 c2 kB1 g1 hb2
      have c0 := kB2.cell' (i := 0) rfl
      have c1 := kB2.cell' (i := 1) rfl
      have c2 := kB2.cell' (i := 2) rfl
      go_wp2_with fail
      refine (areNumbers_any _ _ q x _ hq2 hx2).mono ?_; rintro e w3 ⟨rfl, hb3⟩
      try rw [HB2.out]
      try rw [HB3.out]
      have kB3 := kB2.call hb3
      replace hq2 := QvR.next hb3 hq2
      replace hx2 := SlI.next hb3 hx2
      replace hN2 := SlI.next hb3 hN2
      have g3 := bthen g2 hb3
      clear c0 c1 c2 kB2 g2 hb3
      have c0 := kB3.cell' (i := 0) rfl
      have c1 := kB3.cell' (i := 1) rfl
      have c2 := kB3.cell' (i := 2) rfl
      go_wp2_with fail
      refine (euler_any _ _ _ q nn x _ hq2 hN2 hx2 (isNum_t.1 HB3.out).1 (isNum_len HNN.out) (isNum_len HB3.out) (isNum_small HNN.out) (isNum_small HB3.out)).mono ?_; rintro e w4 ⟨rfl, hb4⟩
      go_wp2
      go_ret2
      exact ⟨by rw [HF.out]; rfl, bthen g3 hb4⟩
    all_goals
      have HF : Hid (dfQ q x = (0, false)) := by show _ = _; rw [hdf, if_neg (fun h => by rw [hB2, hB3] at h; simp at h)]
      have HB2 := Lib.hid hB2
      have HB3 := Lib.hid hB3
      clear hB1 hB2 hB3 hdf hnn hu' hx' hn
      go_enter Try.func19, Try.ntmps19
      go_wp2_with fail
      rw [← hW]; clear hW
      refine (implNullVector_any _ q _ hq1).mono ?_; rintro e w1 ⟨vn, rfl, hN, hb1⟩
      rw [HB1.out]
      have kB1 := kB.call hb1
      have hq2 := QvR.next hb1 hq1
      have hx2 := SlI.next hb1 hx1
      have g1 := bthen g0 hb1
      clear c0 c1 c2 kB hq1 hx1 hN g0 hb1
      have c0 := kB1.cell' (i := 0) rfl
      have c1 := kB1.cell' (i := 1) rfl
      have c2 := kB1.cell' (i := 2) rfl
      go_wp2_with fail
      refine (implConnected_any _ q _ hq2).mono ?_; rintro e w2 ⟨rfl, hb2⟩
      try rw [HB2.out]
      try rw [HB3.out]
      have kB2 := kB1.call hb2
      replace hq2 := QvR.next hb2 hq2
      replace hx2 := SlI.next hb2 hx2
      have g2 := bthen g1 hb2
      clear c0 c1 c2 kB1 g1 hb2
      have c0 := kB2.cell' (i := 0) rfl
      have c1 := kB2.cell' (i := 1) rfl
      have c2 := kB2.cell' (i := 2) rfl
      first
        | (go_wp2
           go_ret2
           exact ⟨by rw [HF.out]; rfl, g2⟩)
        | (go_wp2_with fail
           refine (areNumbers_any _ _ q x _ hq2 hx2).mono ?_; rintro e w3 ⟨rfl, hb3⟩
           try rw [HB2.out]
           try rw [HB3.out]
           go_wp2
           go_ret2
           exact ⟨by rw [HF.out]; rfl, bthen g2 hb3⟩)
end Go.Proofs.Ytkhkamcmlhmpiaa

/- The walk of FnExactDefectOf, printed by program (wip/law.py) out of the contracts of what it calls. -/
namespace Go.Proofs.Ytkhkamcmlhmpiaa
set_option linter.unusedVariables false
set_option linter.unusedSimpArgs false
open Go.RowKit

set_option maxHeartbeats 1600000 in
set_option maxRecDepth 100000 in
theorem lawDefectOf_any (uq : Value) (q : Qv) (ux : Value) (x : List Int) (w : World) (hq : QvR w w.heap.size uq q) (hx : SlI w w.heap.size ux x) :
    Calls Try.prog 3 #[uq, ux] w fun e w' => e = .returned (.bool true) ∧ Below w.heap.size w w' := by
  obtain ⟨Auq, cuq, Cuq, duq, eq⟩ := QvR.form hq
  subst eq
  have lq := QvR.lens hq
  obtain ⟨Ax, cx, rfl, _, _, lx, _⟩ := hx.open_
  have g0 := Below.refl w.heap.size w
  by_cases z0 : (1048576 : Int) < x.length
  · go_enter Try.func3, Try.ntmps3
    go_wp2
    go_ret
    exact ⟨rfl, (g0).alloc (by simp) _⟩
  by_cases z1 : (1048576 : Int) < (q.size : Nat)
  · have y1 : szLeft (1048576 : Int) (q.size) = -1 := by rw [szLeft, if_pos z1]
    go_enter Try.func3, Try.ntmps3
    go_wp2_with fail
    obtain ⟨W2, e3⟩ : ∃ W, W = w.alloc (.cells #[.int .i64 (q).v, .slice Auq (q).f.length cuq, .slice Cuq (q).t.length duq] 24) := ⟨_, rfl⟩
    rw [← e3]
    have b4 : Below w.heap.size w W2 := by rw [e3]; exact below_alloc _ _
    have k5 : Blk W2 w.heap.size 24 #[.int .i64 (q).v, .slice Auq (q).f.length cuq, .slice Cuq (q).t.length duq] := by rw [e3]; exact Blk.new _ _ _
    have s6 : w.heap.size < W2.heap.size := by rw [e3]; simp
    clear e3
    have h7 := QvR.below (b4.mono (by omega)) hq
    have h8 := SlI.below (b4.mono (by omega)) hx
    have s9 : w.heap.size ≤ W2.heap.size := b4.size
    have g10 := bthen g0 b4
    clear hq hx g0 b4
    have c11 := k5.cell' (i := 0) rfl
    have c12 := k5.cell' (i := 1) rfl
    have c13 := k5.cell' (i := 2) rfl
    refine (szQuiver_any _ _ (1048576 : Int) _ (QvR.more (by omega) h7) (by omega) (by omega)).mono ?_; rintro e W14 ⟨rfl, b1⟩
    have h15 := QvR.below (b1.mono (by omega)) h7
    have h16 := SlI.below (b1.mono (by omega)) h8
    have k17 := k5.call b1
    have s18 : W2.heap.size ≤ W14.heap.size := b1.size
    have g19 := bthen g10 b1
    clear h7 h8 k5 g10 b1 c11 c12 c13
    have c20 := k17.cell' (i := 0) rfl
    have c21 := k17.cell' (i := 1) rfl
    have c22 := k17.cell' (i := 2) rfl
    go_wp2
    go_ret
    exact ⟨rfl, g19⟩
  have y1 : szLeft (1048576 : Int) (q.size) = (1048576 : Int) - (q.size : Nat) := by rw [szLeft, if_neg z1]
  have x1 : ¬ ((1048576 : Int) - ((q.size : Nat) : Int) < 0) := by omega
  go_enter Try.func3, Try.ntmps3
  go_wp2_with fail
  obtain ⟨W24, e25⟩ : ∃ W, W = w.alloc (.cells #[.int .i64 (q).v, .slice Auq (q).f.length cuq, .slice Cuq (q).t.length duq] 24) := ⟨_, rfl⟩
  rw [← e25]
  have b26 : Below w.heap.size w W24 := by rw [e25]; exact below_alloc _ _
  have k27 : Blk W24 w.heap.size 24 #[.int .i64 (q).v, .slice Auq (q).f.length cuq, .slice Cuq (q).t.length duq] := by rw [e25]; exact Blk.new _ _ _
  have s28 : w.heap.size < W24.heap.size := by rw [e25]; simp
  clear e25
  have h29 := QvR.below (b26.mono (by omega)) hq
  have h30 := SlI.below (b26.mono (by omega)) hx
  have s31 : w.heap.size ≤ W24.heap.size := b26.size
  have g32 := bthen g0 b26
  clear hq hx g0 b26
  have c33 := k27.cell' (i := 0) rfl
  have c34 := k27.cell' (i := 1) rfl
  have c35 := k27.cell' (i := 2) rfl
  refine (szQuiver_any _ _ (1048576 : Int) _ (QvR.more (by omega) h29) (by omega) (by omega)).mono ?_; rintro e W36 ⟨rfl, b23⟩
  have h37 := QvR.below (b23.mono (by omega)) h29
  have h38 := SlI.below (b23.mono (by omega)) h30
  have k39 := k27.call b23
  have s40 : W24.heap.size ≤ W36.heap.size := b23.size
  have g41 := bthen g32 b23
  clear h29 h30 k27 g32 b23 c33 c34 c35
  have c42 := k39.cell' (i := 0) rfl
  have c43 := k39.cell' (i := 1) rfl
  have c44 := k39.cell' (i := 2) rfl
  go_wp2_with fail
  refine (quiv_to _ _ _ (QvR.more (by omega) h37) (by omega)).mono ?_; rintro e W48 ⟨v45, rfl, h46, b47⟩
  have h49 := QvR.below (b47.mono (by omega)) h37
  have h50 := SlI.below (b47.mono (by omega)) h38
  have k51 := k39.call b47
  have s52 : W36.heap.size ≤ W48.heap.size := b47.size
  have g53 := bthen g41 b47
  clear h37 h38 k39 g41 b47 c42 c43 c44
  have c54 := k51.cell' (i := 0) rfl
  have c55 := k51.cell' (i := 1) rfl
  have c56 := k51.cell' (i := 2) rfl
  go_wp2_with fail
  refine (ints_to _ _ _ (SlI.more (by omega) h50) (by omega)).mono ?_; rintro e W60 ⟨v57, rfl, h58, b59⟩
  have h61 := QvR.below (b59.mono (by omega)) h49
  have h62 := SlI.below (b59.mono (by omega)) h50
  have h63 := h46.below b59
  have k64 := k51.call b59
  have s65 : W48.heap.size ≤ W60.heap.size := b59.size
  have g66 := bthen g53 b59
  clear h49 h50 h46 k51 g53 b59 c54 c55 c56
  have c67 := k64.cell' (i := 0) rfl
  have c68 := k64.cell' (i := 1) rfl
  have c69 := k64.cell' (i := 2) rfl
  go_wp2_with fail
  refine (specDefectOf_any _ _ _ _ _ h63.rd h58.rd).mono ?_; rintro e W71 ⟨rfl, b70⟩
  have h72 := QvR.below (b70.mono (by omega)) h61
  have h73 := SlI.below (b70.mono (by omega)) h62
  have h74 := h63.below b70
  have h75 := h58.below b70
  have k76 := k64.call b70
  have s77 : W60.heap.size ≤ W71.heap.size := b70.size
  have g78 := bthen g66 b70
  clear h61 h62 h63 h58 k64 g66 b70 c67 c68 c69
  have c79 := k76.cell' (i := 0) rfl
  have c80 := k76.cell' (i := 1) rfl
  have c81 := k76.cell' (i := 2) rfl
  clear h74
  clear h75
  go_wp2_with fail
  refine (quiv_to _ _ _ (QvR.more (by omega) h72) (by omega)).mono ?_; rintro e W85 ⟨v82, rfl, h83, b84⟩
  have h86 := QvR.below (b84.mono (by omega)) h72
  have h87 := SlI.below (b84.mono (by omega)) h73
  have k88 := k76.call b84
  have s89 : W71.heap.size ≤ W85.heap.size := b84.size
  have g90 := bthen g78 b84
  clear h72 h73 k76 g78 b84 c79 c80 c81
  have c91 := k88.cell' (i := 0) rfl
  have c92 := k88.cell' (i := 1) rfl
  have c93 := k88.cell' (i := 2) rfl
  obtain ⟨Ax94, cx94, Cx94, dx94, e95⟩ := h83.form
  subst e95
  have c99 := fun o => (k88.alloc o).cell' (i := 0) rfl
  have c100 := fun o => (k88.alloc o).cell' (i := 1) rfl
  have c101 := fun o => (k88.alloc o).cell' (i := 2) rfl
  go_wp2_with fail
  obtain ⟨W102, e103⟩ : ∃ W, W = W85.alloc (.cells #[.int .i64 (q).v, .slice Ax94 (q).f.length cx94, .slice Cx94 (q).t.length dx94] 28) := ⟨_, rfl⟩
  rw [← e103]
  have b104 : Below W85.heap.size W85 W102 := by rw [e103]; exact below_alloc _ _
  have k105 : Blk W102 W85.heap.size 28 #[.int .i64 (q).v, .slice Ax94 (q).f.length cx94, .slice Cx94 (q).t.length dx94] := by rw [e103]; exact Blk.new _ _ _
  have s106 : W85.heap.size < W102.heap.size := by rw [e103]; simp
  clear e103
  have h107 := QvR.below (b104.mono (by omega)) h86
  have h108 := SlI.below (b104.mono (by omega)) h87
  have h109 := h83.below b104
  have k110 := k88.call b104
  have s111 : W85.heap.size ≤ W102.heap.size := b104.size
  have g112 := bthen g90 b104
  clear h86 h87 h83 k88 g90 b104 c91 c92 c93 c99 c100 c101
  have c113 := k110.cell' (i := 0) rfl
  have c114 := k110.cell' (i := 1) rfl
  have c115 := k110.cell' (i := 2) rfl
  have c116 := k105.cell' (i := 0) rfl
  have c117 := k105.cell' (i := 1) rfl
  have c118 := k105.cell' (i := 2) rfl
  refine (ints_to _ _ _ (SlI.more (by omega) h108) (by omega)).mono ?_; rintro e W119 ⟨v96, rfl, h97, b98⟩
  have h120 := QvR.below (b98.mono (by omega)) h107
  have h121 := SlI.below (b98.mono (by omega)) h108
  have h122 := h109.below b98
  have k123 := k110.call b98
  have k124 := k105.call b98
  have s125 : W102.heap.size ≤ W119.heap.size := b98.size
  have g126 := bthen g112 b98
  clear h107 h108 h109 k110 k105 g112 b98 c113 c114 c115 c116 c117 c118
  have c127 := k123.cell' (i := 0) rfl
  have c128 := k123.cell' (i := 1) rfl
  have c129 := k123.cell' (i := 2) rfl
  have c130 := k124.cell' (i := 0) rfl
  have c131 := k124.cell' (i := 1) rfl
  have c132 := k124.cell' (i := 2) rfl
  go_wp2_with fail
  refine (implDefectOf_any _ _ _ _ _ h122.rd h97.rd).mono ?_; rintro e W134 ⟨rfl, b133⟩
  have h135 := QvR.below (b133.mono (by omega)) h120
  have h136 := SlI.below (b133.mono (by omega)) h121
  have h137 := h122.below b133
  have h138 := h97.below b133
  have k139 := k123.call b133
  have k140 := k124.call b133
  have s141 : W119.heap.size ≤ W134.heap.size := b133.size
  have g142 := bthen g126 b133
  clear h120 h121 h122 h97 k123 k124 g126 b133 c127 c128 c129 c130 c131 c132
  have c143 := k139.cell' (i := 0) rfl
  have c144 := k139.cell' (i := 1) rfl
  have c145 := k139.cell' (i := 2) rfl
  have c146 := k140.cell' (i := 0) rfl
  have c147 := k140.cell' (i := 1) rfl
  have c148 := k140.cell' (i := 2) rfl
  go_wp2_with fail
  have b149 := drew_below W134
  have h150 := QvR.below (b149.mono (by omega)) h135
  have h151 := SlI.below (b149.mono (by omega)) h136
  have h152 := h137.below b149
  have h153 := h138.below b149
  have k154 := k139.call b149
  have k155 := k140.call b149
  have s156 : W134.heap.size ≤ W134.drew.heap.size := b149.size
  have g157 := bthen g142 b149
  clear h135 h136 h137 h138 k139 k140 g142 b149 c143 c144 c145 c146 c147 c148
  have c158 := k154.cell' (i := 0) rfl
  have c159 := k154.cell' (i := 1) rfl
  have c160 := k154.cell' (i := 2) rfl
  have c161 := k155.cell' (i := 0) rfl
  have c162 := k155.cell' (i := 1) rfl
  have c163 := k155.cell' (i := 2) rfl
  go_region_held3 (fun W' => W'.cell? ⟨w.heap.size, 0, none⟩ = some (.int .i64 (q).v) ∧ W'.cell? ⟨w.heap.size, 1, none⟩ = some (.slice Auq (q).f.length cuq) ∧ W'.cell? ⟨w.heap.size, 2, none⟩ = some (.slice Cuq (q).t.length duq) ∧ W'.cell? ⟨W85.heap.size, 0, none⟩ = some (.int .i64 (q).v) ∧ W'.cell? ⟨W85.heap.size, 1, none⟩ = some (.slice Ax94 (q).f.length cx94) ∧ W'.cell? ⟨W85.heap.size, 2, none⟩ = some (.slice Cx94 (q).t.length dx94))
    (first | exact ⟨c158, c159, c160, c161, c162, c163⟩ | exact ⟨c176, c177, c178, c179, c180, c181⟩ | exact ⟨c193, c194, c195, c196, c197, c198⟩)
    (first | (go_at_call 17; refine (quiv_to _ _ _ (QvR.more (by omega) h150) (by omega)).mono ?_; rintro e W167 ⟨v164, rfl, h165, b166⟩; have h168 := QvR.below (b166.mono (by omega)) h150; have h169 := SlI.below (b166.mono (by omega)) h151; have h170 := h152.below b166; have h171 := h153.below b166; have k172 := k154.call b166; have k173 := k155.call b166; have s174 : W134.drew.heap.size ≤ W167.heap.size := b166.size; have g175 := bthen g157 b166; clear h150 h151 h152 h153 k154 k155 g157 b166 c158 c159 c160 c161 c162 c163; have c176 := k172.cell' (i := 0) rfl; have c177 := k172.cell' (i := 1) rfl; have c178 := k172.cell' (i := 2) rfl; have c179 := k173.cell' (i := 0) rfl; have c180 := k173.cell' (i := 1) rfl; have c181 := k173.cell' (i := 2) rfl) | (go_at_call 20; refine (eqQuiver_any _ _ _ _ _ h170.rd h165.rd).mono ?_; rintro e W183 ⟨rfl, b182⟩; have h184 := QvR.below (b182.mono (by omega)) h168; have h185 := SlI.below (b182.mono (by omega)) h169; have h186 := h170.below b182; have h187 := h171.below b182; have h188 := h165.below b182; have k189 := k172.call b182; have k190 := k173.call b182; have s191 : W167.heap.size ≤ W183.heap.size := b182.size; have g192 := bthen g175 b182; clear h168 h169 h170 h171 h165 k172 k173 g175 b182 c176 c177 c178 c179 c180 c181; have c193 := k189.cell' (i := 0) rfl; have c194 := k189.cell' (i := 1) rfl; have c195 := k189.cell' (i := 2) rfl; have c196 := k190.cell' (i := 0) rfl; have c197 := k190.cell' (i := 1) rfl; have c198 := k190.cell' (i := 2) rfl))
  clear h188
  go_wp2_with fail
  refine (ints_to _ _ _ (SlI.more (by omega) h185) (by omega)).mono ?_; rintro e W202 ⟨v199, rfl, h200, b201⟩
  have h203 := QvR.below (b201.mono (by omega)) h184
  have h204 := SlI.below (b201.mono (by omega)) h185
  have h205 := h186.below b201
  have h206 := h187.below b201
  have k207 := k189.call b201
  have k208 := k190.call b201
  have s209 : W183.heap.size ≤ W202.heap.size := b201.size
  have g210 := bthen g192 b201
  clear h184 h185 h186 h187 k189 k190 g192 b201 c193 c194 c195 c196 c197 c198
  have c211 := k207.cell' (i := 0) rfl
  have c212 := k207.cell' (i := 1) rfl
  have c213 := k207.cell' (i := 2) rfl
  have c214 := k208.cell' (i := 0) rfl
  have c215 := k208.cell' (i := 1) rfl
  have c216 := k208.cell' (i := 2) rfl
  go_wp2_with fail
  refine (eqIntS_any _ _ _ _ _ h206.rd h200.rd).mono ?_; rintro e W218 ⟨rfl, b217⟩
  have h219 := QvR.below (b217.mono (by omega)) h203
  have h220 := SlI.below (b217.mono (by omega)) h204
  have h221 := h205.below b217
  have h222 := h206.below b217
  have h223 := h200.below b217
  have k224 := k207.call b217
  have k225 := k208.call b217
  have s226 : W202.heap.size ≤ W218.heap.size := b217.size
  have g227 := bthen g210 b217
  clear h203 h204 h205 h206 h200 k207 k208 g210 b217 c211 c212 c213 c214 c215 c216
  have c228 := k224.cell' (i := 0) rfl
  have c229 := k224.cell' (i := 1) rfl
  have c230 := k224.cell' (i := 2) rfl
  have c231 := k225.cell' (i := 0) rfl
  have c232 := k225.cell' (i := 1) rfl
  have c233 := k225.cell' (i := 2) rfl
  clear h223
  go_wp2
  go_ret
  exact ⟨rfl, g227⟩
end Go.Proofs.Ytkhkamcmlhmpiaa

/- FnExactDefectOf is proved: for every argument the program's DefectOf returns what the reference's returns, leaves its arguments as they were, and returns memory of its own. No condition. -/
namespace Go.Proofs.Ytkhkamcmlhmpiaa
set_option linter.unusedVariables false
set_option linter.unusedSimpArgs false
open Go.RowKit Go.ChangeShapes Go.WideShapes Go.ChangeAt Go.Deep

set_option maxRecDepth 100000 in
theorem defectOf_lifted (os : Os) (started : os.Started) (H : Type) (enc : TypeId × Value → H) :
    ReturnsInHanded {} Try.checked os 3 .any (Rows.fnExactDefectOfSpec.pre6 enc Try.prog Try.f3 Rows.fnExactDefectOfRow.domain false) (Rows.fnExactDefectOfSpec.post enc Try.prog Try.f3 false true false false) := by
  refine lift_law started (by kernel_rfl) Try.func3 (ChangeSpec.witness6 (enc := enc) (C := Try.checked) false ⟨#[], #[.agg #[.int .i64 0, .slice none 0 0, .slice none 0 0], .slice none 0 0], []⟩ 8 (by kernel_rfl) (by kernel_rfl) (by kernel_rfl) (by kernel_rfl))
    rfl rfl (by rw [Try.params3]; intro t ht; simp only [List.mem_cons, List.not_mem_nil, or_false] at ht; rcases ht with rfl | rfl <;> exact ⟨by kernel_rfl, of_decide_eq_true (by kernel_rfl)⟩) (fun ds hl => by rw [Try.params3] at hl; match ds, hl with | [_, _], _ => rfl) ?_
  intro W args ds ps base hval hA hwt
  rw [Try.params3] at hA hval hwt
  obtain ⟨v0, v1, d0, d1, p0, p1, hargs, rfl, rfl, h0, h1⟩ := trodAll_two hA
  obtain rfl : args = #[v0, v1] := by cases args; simp_all
  obtain ⟨x0, r0⟩ := argQuiver (hval 0 _ _ rfl rfl) h0 (hwt 0 _ _ rfl rfl)
  obtain ⟨x1, r1⟩ := argInts (hval 1 _ _ rfl rfl) h1 (hwt 1 _ _ rfl rfl)
  exact lawDefectOf_any _ _ _ _ W r0 r1

theorem defectOf_closed : joinedFacts Try.prog 3 Try.f3 Rows.fnExactDefectOfSpec Rows.fnExactDefectOfRow = true := by
  unfold joinedFacts
  refine band (band (band (band (band (band (band ?_ seatEnter) seatLifts) seatMake) ?_) ?_) ?_) ?_ <;> kernel_rfl

theorem defectOf_holds : Rows.FnExactDefectOfSaid :=
  OpenClaim.holds_of_wide 3 Try.f3 rfl rfl rfl rfl rfl rfl rfl ⟨rfl, rfl, rfl, rfl, rfl⟩ rfl rfl rfl rfl rfl (by kernel_rfl) Try.func3 defectOf_closed
    (of_decide_eq_true (by kernel_rfl)) (by unfold Func.isWrapper; first | (rw [if_pos (by decide +kernel)]; kernel_rfl) | (rw [if_neg (by decide +kernel)]; exact ⟨rfl, rfl⟩))
    (fun os started H enc _ => defectOf_lifted os started H enc)
#print axioms defectOf_holds
end Go.Proofs.Ytkhkamcmlhmpiaa
