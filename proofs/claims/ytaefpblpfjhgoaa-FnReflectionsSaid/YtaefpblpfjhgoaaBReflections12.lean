/- FnReflections: the law holds for every argument. Part 12 of 13 of the proof: Conn, ConnI, Dfct, RflP. No condition. -/
import Derived.Test.YtaefpblpfjhgoaaBReflections11
/- IsConnectedQuiver: plain part; the reference's. -/
namespace Go.Proofs.Ytaefpblpfjhgoaa
set_option linter.unusedVariables false
set_option linter.unusedSimpArgs false
open Go.RowKit

def cnP (x a b : Int) (s : List Int) : List Int := if a = x ∧ b ∉ s then s ++ [b] else s
def cnA (x : Int) (s : List Int) (p : Int × Int) : List Int := cnP x p.2 p.1 (cnP x p.1 p.2 s)
def cnR (q : Qv) (x : Int) (s : List Int) (k : Nat) : List Int := ((q.f.zip q.t).take k).foldl (cnA x) s
def cnG (q : Qv) : Nat → List Int → Nat → List Int
  | 0, s, _ => s
  | n + 1, s, k => if k < s.length then cnG q n (cnR q (s.getD k 0) s q.f.length) (k + 1) else s
def conQ (q : Qv) : Bool := isQ q && decide (((cnG q 6 [0] 0).length : Int) = q.v)
structure cnOkS (q : Qv) (s : List Int) : Prop where
  nd : s.Nodup
  rng : ∀ x ∈ s, 0 ≤ x ∧ x ≤ q.v - 1
theorem cnOkS.len {q : Qv} {s : List Int} (h : cnOkS q s) (hv : q.v ≤ 5) : s.length ≤ 5 := by
  have := nodup_sub s [0, 1, 2, 3, 4] h.nd fun x hx => by
    have := h.rng x hx
    have : x = 0 ∨ x = 1 ∨ x = 2 ∨ x = 3 ∨ x = 4 := by omega
    rcases this with rfl | rfl | rfl | rfl | rfl <;> simp
  simpa using this
theorem cnOkS.add {q : Qv} {s : List Int} (h : cnOkS q s) {b : Int} (hb : 0 ≤ b ∧ b ≤ q.v - 1) (hn : b ∉ s) : cnOkS q (s ++ [b]) := by
  refine ⟨?_, fun x hx => ?_⟩
  · rw [List.nodup_append]
    refine ⟨h.nd, by simp, fun x hx y hy => ?_⟩
    rw [List.mem_singleton] at hy
    subst hy
    rintro rfl
    exact hn hx
  · rcases List.mem_append.1 hx with hx | hx
    · exact h.rng x hx
    · rw [List.mem_singleton] at hx; subst hx; exact hb
theorem cnP_ok {q : Qv} {x a b : Int} {s : List Int} (h : cnOkS q s) (hb : 0 ≤ b ∧ b ≤ q.v - 1) : cnOkS q (cnP x a b s) := by
  unfold cnP
  split
  · rename_i h2; exact h.add hb h2.2
  · exact h
theorem cnP_get {x a b : Int} {s : List Int} {k : Nat} {y : Int} (h : s[k]? = some y) : (cnP x a b s)[k]? = some y := by
  unfold cnP
  split
  · rw [List.getElem?_append_left (lt_of_some h)]; exact h
  · exact h
theorem cnR_succ {q : Qv} {x a b : Int} {s : List Int} {k : Nat} (hf : q.f[k]? = some a) (ht : q.t[k]? = some b) : cnR q x s (k + 1) = cnP x b a (cnP x a b (cnR q x s k)) := by
  have e : (q.f.zip q.t)[k]? = some (a, b) := by rw [List.getElem?_zip_eq_some]; exact ⟨hf, ht⟩
  rw [cnR, take_snoc e, List.foldl_append]
  rfl
theorem cnR_0 (q : Qv) (x : Int) (s : List Int) : cnR q x s 0 = s := rfl
theorem cnOk_one {q : Qv} (hv : 1 ≤ q.v) : cnOkS q [0] := ⟨by simp, fun x hx => by simp at hx; subst hx; omega⟩
theorem cnG_step {q : Qv} {n k : Nat} {s : List Int} {x : Int} (h : s[k]? = some x) : cnG q (n + 1) s k = cnG q n (cnR q x s q.f.length) (k + 1) := by
  rw [cnG, if_pos (lt_of_some h), List.getD_eq_getElem?_getD, h]; rfl
theorem cnG_end {q : Qv} {n k : Nat} {s : List Int} (h : s.length ≤ k) : cnG q n s k = s := by
  cases n with
  | zero => rfl
  | succ n => rw [cnG, if_neg (by omega)]
theorem cnA_fold_ok {q : Qv} {x : Int} : ∀ (l : List (Int × Int)) (s : List Int), (∀ p ∈ l, (0 ≤ p.1 ∧ p.1 ≤ q.v - 1) ∧ 0 ≤ p.2 ∧ p.2 ≤ q.v - 1) → cnOkS q s → cnOkS q (l.foldl (cnA x) s)
  | [], _, _, h => h
  | p :: l, s, hp, h => by
    rw [List.foldl_cons]
    have h1 := hp p (by simp)
    exact cnA_fold_ok l _ (fun p' hp' => hp p' (by simp [hp'])) (cnP_ok (cnP_ok h h1.2) h1.1)
theorem cnA_fold_get {x y : Int} {k : Nat} : ∀ (l : List (Int × Int)) (s : List Int), s[k]? = some y → (l.foldl (cnA x) s)[k]? = some y
  | [], _, h => h
  | p :: l, s, h => by
    rw [List.foldl_cons]
    exact cnA_fold_get l _ (cnP_get (cnP_get h))
theorem cnR_ok {q : Qv} (hq : isQ q = true) {x : Int} {s : List Int} (h : cnOkS q s) (j : Nat) : cnOkS q (cnR q x s j) := by
  obtain ⟨hv, hl, h6, hfr, htr⟩ := isQ_t.1 hq
  refine cnA_fold_ok _ _ (fun p hp => ?_) h
  have := List.of_mem_zip (a := p.1) (b := p.2) (List.mem_of_mem_take hp)
  exact ⟨hfr _ this.1, htr _ this.2⟩
theorem cnR_get {q : Qv} {x y : Int} {s : List Int} {k j : Nat} (h : s[k]? = some y) : (cnR q x s j)[k]? = some y := cnA_fold_get _ _ h
theorem cnP_yes {x b : Int} {s : List Int} (h : b ∉ s) : cnP x x b s = s ++ [b] := by rw [cnP, if_pos ⟨rfl, h⟩]
theorem cnP_mem {x a b : Int} {s : List Int} (h : b ∈ s) : cnP x a b s = s := by rw [cnP, if_neg (fun h' => h'.2 h)]
theorem cnP_ne {x a b : Int} {s : List Int} (h : a ≠ x) : cnP x a b s = s := by rw [cnP, if_neg (fun h' => h h'.1)]
set_option maxRecDepth 100000 in
set_option maxHeartbeats 6400000 in
theorem specConnected_any (u : Value) (q : Qv) (w : World) (hu : QvR w w.heap.size u q) :
    Calls Try.prog 54 #[u] w fun e w' => e = .returned (.bool (conQ q)) ∧ Below w.heap.size w w' := by
  have hu' := hu
  obtain ⟨A, c, C, d, rfl, hf, ht, hr, lf, lt⟩ := hu.open_
  clear hu
  obtain ⟨W, hW⟩ : ∃ W, W = (w.alloc (.cells #[.int .i64 q.v, .slice A q.f.length c, .slice C q.t.length d] 26)).alloc (.cells #[.int .i64 0] 3) := ⟨_, rfl⟩
  have kB : Blk W w.heap.size 26 #[.int .i64 q.v, .slice A q.f.length c, .slice C q.t.length d] := by rw [hW]; exact (Blk.new _ _ _).alloc _
  have g0 : Below w.heap.size w W := by rw [hW]; exact ((Below.refl _ _).alloc (Nat.le_refl _) _).alloc (by simp) _
  have ho0 : OwnI W w.heap.size (.slice (some ⟨w.heap.size + 1, 0, none⟩) 1 1) [0] := by
    rw [hW]
    have := OwnI.newBlk (w := w.alloc (.cells #[.int .i64 q.v, .slice A q.f.length c, .slice C q.t.length d] 26)) (base := w.heap.size) (N := 1) (cs := #[.int .i64 0]) (l := [0]) (by simp) (by omega) rfl rfl (fun x hx => by simp at hx; subst hx; exact ⟨by omega, by omega⟩)
    simpa only [World.size_alloc] using this
  have hqW : QvR W W.heap.size (.agg #[.int .i64 q.v, .slice A q.f.length c, .slice C q.t.length d]) q := QvR.next g0 hu'
  rcases hq : isQ q with _ | _
  · have HC : Hid (conQ q = false) := by show _ = _; rw [conQ, hq]; rfl
    have HQ := Lib.hid hq
    have c0 := kB.cell' (i := 0) rfl
    have c1 := kB.cell' (i := 1) rfl
    have c2 := kB.cell' (i := 2) rfl
    clear hq hu' hf ht
    go_enter Try.func54, Try.ntmps54
    go_wp2_with fail
    rw [← hW]; clear hW
    refine wp_loop_rounds 1 ?_
    rw [rounds_succ]
    go_wp2_with fail
    refine (specIsQuiver_any _ q _ hqW).mono ?_; rintro e w1 ⟨rfl, hb1⟩
    rw [HQ.out]
    have hq1 := QvR.next hb1 hqW
    have kB1 := kB.call hb1
    clear c0 c1 c2
    have c0 := kB1.cell' (i := 0) rfl
    have c1 := kB1.cell' (i := 1) rfl
    have c2 := kB1.cell' (i := 2) rfl
    go_wp2_with fail
    refine (specIsQuiver_any _ q _ hq1).mono ?_; rintro e w2 ⟨rfl, hb2⟩
    rw [HQ.out]
    go_wp2
    go_ret
    exact ⟨by rw [HC.out]; rfl, bthen (bthen g0 hb1) hb2⟩
  · have HQ := Lib.hid hq
    have hq0 := hq
    obtain ⟨hv, hl, h6, hfr, htr⟩ := isQ_t.1 hq
    have HL := Lib.hid hl
    have HU := Lib.hid hu'
    clear hq hl hqW
    go_enter Try.func54, Try.ntmps54
    go_wp2
    rw [← hW]; clear hW
    go_loopw [3, 4] (fun vs vi wr => ∃ (k : Nat) (s : List Int), k ≤ s.length ∧ vi = .int .i64 k ∧ OwnI wr w.heap.size vs s ∧ Below w.heap.size w wr ∧ Blk wr w.heap.size 26 #[.int .i64 q.v, .slice A q.f.length c, .slice C q.t.length d] ∧ Hid (cnOkS q s ∧ cnG q (6 - k) s k = cnG q 6 [0] 0)) (fun _ vi _ => 6 - (intOf vi).toNat)
    case atStart => exact ⟨0, [0], by simp, rfl, ho0, g0, kB, ⟨cnOk_one hv.1, rfl⟩⟩
    case round =>
      clear ho0 g0 kB
      obtain ⟨k, s, hk, rfl, ho, hb, hkB, HO⟩ := hrel
      have hs5 := HO.out.1.len hv.2
      obtain ⟨SA, sc, hve, _, _⟩ := ho.form
      subst hve
      have c0 := hkB.cell' (i := 0) rfl
      have c1 := hkB.cell' (i := 1) rfl
      have c2 := hkB.cell' (i := 2) rfl
      by_cases hlt : k < s.length
      · go_wp2_with fail
        refine (specIsQuiver_any _ q _ (QvR.more hb.size (QvR.below hb HU.out))).mono ?_; rintro e w1 ⟨rfl, hb1⟩
        rw [HQ.out]
        have ho1 := ho.below hb1
        have hB1 := hb.trans (hb1.mono hb.size)
        have k1 := hkB.call hb1
        have hx : s[k]? = some s[k] := List.getElem?_eq_getElem hlt
        obtain ⟨xS, hxe⟩ : ∃ x, s[k] = x := ⟨_, rfl⟩
        rw [hxe] at hx
        have HX := Lib.hid hx
        clear c0 c1 c2 ho hb hkB hb1 hx hxe
        go_wp2
        go_loopw [3, 5] (fun vs vj wr => ∃ j : Nat, j ≤ q.f.length ∧ vj = .int .i64 j ∧ OwnI wr w.heap.size vs (cnR q xS s j) ∧ Below w.heap.size w wr ∧ Blk wr w.heap.size 26 #[.int .i64 q.v, .slice A q.f.length c, .slice C q.t.length d]) (fun _ vj _ => q.f.length - (intOf vj).toNat)
        case atStart => exact ⟨0, Nat.zero_le _, rfl, by rw [cnR_0]; exact ho1, hB1, k1⟩
        case round =>
          clear ho1 hB1 k1
          obtain ⟨j, hj, rfl, o0, b0, k0⟩ := hrel
          obtain ⟨z0, hz0⟩ : ∃ z, z = wr := ⟨_, rfl⟩
          subst hz0
          have c1 := k0.cell' (i := 1) rfl
          by_cases hlt2 : j < q.f.length
          · obtain ⟨bF, oF, a, rfl, hbF, HF, cF, _⟩ := SlI.at_ hf hlt2
            have hlt3 : j < q.t.length := by have := HL.out; omega
            obtain ⟨bT, oT, b, rfl, hbT, HT, cT, _⟩ := SlI.at_ ht hlt3
            have ra := hfr a (List.mem_of_getElem? HF.out)
            have rb := htr b (List.mem_of_getElem? HT.out)
            have HZ0 : Hid (cnOkS q (cnR q xS s j) ∧ (cnR q xS s j)[k]? = some xS) := ⟨cnR_ok hq0 HO.out.1 j, cnR_get HX.out⟩
            obtain ⟨S0, hS0⟩ : ∃ z, cnR q xS s j = z := ⟨_, rfl⟩
            rw [hS0] at o0 HZ0
            have HS0 := Lib.hid hS0
            clear hS0 hf ht
            obtain ⟨SA0, sc0, hv0, _, _⟩ := o0.form
            subst hv0
            have rd0 := o0.rd
            obtain ⟨bS, oS, xT, hSA, hbS, HXS, cS, hxr1, hxr2⟩ := SlI.at_ (k := k) rd0 (lt_of_some HZ0.out.2)
            obtain rfl : xS = xT := by have := HXS.out; rw [HZ0.out.2] at this; injection this
            subst hSA
            clear HXS
            have qq1 := InB.cell k0.lt (k0.cell' (i := 1) rfl)
            have qq2 := InB.cell k0.lt (k0.cell' (i := 2) rfl)
            have qqf := InB.cell (Nat.lt_of_lt_of_le hbF b0.size) (bcell b0 hbF cF)
            have qqt := InB.cell (Nat.lt_of_lt_of_le hbT b0.size) (bcell b0 hbT cT)
            have qqs := InB.cell hbS cS
            have hkl0 := lt_of_some HZ0.out.2
            by_cases hax : a = xS
            · have HAX := Lib.hid hax
              have hax2 : (a == xS) = true := by simpa using hax
              clear hax
              rcases hd : decide (b ∈ S0) with _ | _
              · have CL : Hid (∀ t : InB z0, Calls Try.prog 71 #[.slice (some ⟨bS, oS, none⟩) S0.length sc0, .int .i64 b] t.val fun e w' => e = .returned (.bool false) ∧ Below t.val.heap.size t.val w') := by
                  intro t
                  have := l4Has_any _ S0 b t.val (SlI.next t.below rd0)
                  rwa [hd] at this
                have HD := Lib.hid hd
                clear hd
                go_wp2_with fail
                (refine wp_region_inB (by kernel_rfl) (by kernel_rfl) ?_; (repeat (go_big_quiet_step ((go_at_call 71; exact InB.call (CL.out _))))); refine wpQuiet_nil ?_; intro w1 hw'; obtain ⟨s1, hw1⟩ := hw'; have hb1 := s1.below; rw [← hw1] at hb1; clear hw1 s1)
                clear qq1 qq2 qqf qqt qqs CL
                have o1 := o0.below hb1
                have b1 := b0.trans (hb1.mono b0.size)
                have k1 := k0.call hb1
                have e1 := (k1.alloc (.cells #[.int .i64 b] 3)).cell' (i := 1) rfl
                have e1' := k1.cell' (i := 1) rfl
                have e2' := k1.cell' (i := 2) rfl
                have cF' := bcell b1 hbF cF
                have cT' := bcell b1 hbT cT
                have hko := o1.alloc (.cells #[.int .i64 b] 3)
                have hkb := k1.alloc (.cells #[.int .i64 b] 3)
                have hbb := b1.alloc b1.size (.cells #[.int .i64 b] 3)
                have hsz := HZ0.out.1.len hv.2
                clear e1
                (go_wp2_with (at_builtin; refine Hold.stop ?_)); unfold Hold
                refine wpList_appI rfl (.tmp 44) (.tmp 50) rfl w.heap.size _ (.slice (some ⟨bS, oS, none⟩) S0.length sc0) S0 rfl hko _ _ _ [b] rfl rfl (SlI.one w1 _ b ⟨by omega, by omega⟩) (by simp only [List.length_singleton]; omega) (by have := b1.size; simp; omega) ?_
                intro vn z1 on hg1 hv1
                have kn := hkb.grown hg1 (hko.blkne hkb (by decide))
                have bn := hbb.grown hg1 (by have := b1.size; simp; omega) (fun j hj => (hko.lt j hj).1)
                clear hko hkb hbb hg1 hv1 e1' e2' cF' cT' o1 b1 k1
                have hnm : b ∉ S0 := of_decide_eq_false HD.out
                have HS1 := Lib.hid (show S0 ++ [b] = cnP xS a b S0 by rw [HAX.out, cnP_yes hnm])
                have HZ1 : Hid (cnOkS q (S0 ++ [b]) ∧ (S0 ++ [b])[k]? = some xS) := ⟨HZ0.out.1.add rb hnm, by rw [List.getElem?_append_left (lt_of_some HZ0.out.2)]; exact HZ0.out.2⟩
                obtain ⟨S1, hSn⟩ : ∃ z, S0 ++ [b] = z := ⟨_, rfl⟩
                rw [hSn] at on HS1 HZ1
                clear hSn
                have o1 := on
                have b1 := bn
                have k1 := kn
                clear on bn kn
                clear cS hbS hxr1 hxr2 rd0 hkl0
                obtain ⟨SA1, sc1, hv1, _, _⟩ := o1.form
                subst hv1
                have rd1 := o1.rd
                obtain ⟨bS, oS, xT, hSA, hbS, HXS, cS, hxr1, hxr2⟩ := SlI.at_ (k := k) rd1 (lt_of_some HZ1.out.2)
                obtain rfl : xS = xT := by have := HXS.out; rw [HZ1.out.2] at this; injection this
                subst hSA
                clear HXS
                have qq1 := InB.cell k1.lt (k1.cell' (i := 1) rfl)
                have qq2 := InB.cell k1.lt (k1.cell' (i := 2) rfl)
                have qqf := InB.cell (Nat.lt_of_lt_of_le hbF b1.size) (bcell b1 hbF cF)
                have qqt := InB.cell (Nat.lt_of_lt_of_le hbT b1.size) (bcell b1 hbT cT)
                have qqs := InB.cell hbS cS
                have hkl1 := lt_of_some HZ1.out.2
                by_cases hax : b = xS
                · have HAX := Lib.hid hax
                  have hax2 : (b == xS) = true := by simpa using hax
                  clear hax
                  rcases hd : decide (a ∈ S1) with _ | _
                  · have CL : Hid (∀ t : InB z1, Calls Try.prog 71 #[.slice (some ⟨bS, oS, none⟩) S1.length sc1, .int .i64 a] t.val fun e w' => e = .returned (.bool false) ∧ Below t.val.heap.size t.val w') := by
                      intro t
                      have := l4Has_any _ S1 a t.val (SlI.next t.below rd1)
                      rwa [hd] at this
                    have HD := Lib.hid hd
                    clear hd
                    go_wp2_with fail
                    (refine wp_region_inB (by kernel_rfl) (by kernel_rfl) ?_; (repeat (go_big_quiet_step ((go_at_call 71; exact InB.call (CL.out _))))); refine wpQuiet_nil ?_; intro w1 hw'; obtain ⟨s1, hw1⟩ := hw'; have hb1 := s1.below; rw [← hw1] at hb1; clear hw1 s1)
                    clear qq1 qq2 qqf qqt qqs CL
                    have o2 := o1.below hb1
                    have b2 := b1.trans (hb1.mono b1.size)
                    have k2 := k1.call hb1
                    have e1 := (k2.alloc (.cells #[.int .i64 a] 3)).cell' (i := 1) rfl
                    have e1' := k2.cell' (i := 1) rfl
                    have e2' := k2.cell' (i := 2) rfl
                    have cF' := bcell b2 hbF cF
                    have cT' := bcell b2 hbT cT
                    have hko := o2.alloc (.cells #[.int .i64 a] 3)
                    have hkb := k2.alloc (.cells #[.int .i64 a] 3)
                    have hbb := b2.alloc b2.size (.cells #[.int .i64 a] 3)
                    have hsz := HZ1.out.1.len hv.2
                    clear e1
                    (go_wp2_with (at_builtin; refine Hold.stop ?_)); unfold Hold
                    refine wpList_appI rfl (.tmp 72) (.tmp 78) rfl w.heap.size _ (.slice (some ⟨bS, oS, none⟩) S1.length sc1) S1 rfl hko _ _ _ [a] rfl rfl (SlI.one w1 _ a ⟨by omega, by omega⟩) (by simp only [List.length_singleton]; omega) (by have := b2.size; simp; omega) ?_
                    intro vn z2 on hg1 hv1
                    have kn := hkb.grown hg1 (hko.blkne hkb (by decide))
                    have bn := hbb.grown hg1 (by have := b2.size; simp; omega) (fun j hj => (hko.lt j hj).1)
                    clear hko hkb hbb hg1 hv1 e1' e2' cF' cT' o2 b2 k2
                    have hnm : a ∉ S1 := of_decide_eq_false HD.out
                    have HS2 := Lib.hid (show S1 ++ [a] = cnP xS b a S1 by rw [HAX.out, cnP_yes hnm])
                    have HZ2 : Hid (cnOkS q (S1 ++ [a]) ∧ (S1 ++ [a])[k]? = some xS) := ⟨HZ1.out.1.add ra hnm, by rw [List.getElem?_append_left (lt_of_some HZ1.out.2)]; exact HZ1.out.2⟩
                    obtain ⟨S2, hSn⟩ : ∃ z, S1 ++ [a] = z := ⟨_, rfl⟩
                    rw [hSn] at on HS2 HZ2
                    clear hSn
                    have o2 := on
                    have b2 := bn
                    have k2 := kn
                    clear on bn kn
                    obtain ⟨SA2, sc2, hv2, _, _⟩ := o2.form
                    subst hv2
                    have HR : Hid (cnR q xS s (j + 1) = S2) := by show _ = _; rw [cnR_succ HF.out HT.out, HS0.out, ← HS1.out, ← HS2.out]
                    go_wp2
                    go_roundw
                    case rel => exact ⟨j + 1, by omega, by go_num, by rw [HR.out]; exact o2, b2, k2⟩
                    case measure => simp [intOf]; omega

                  · have CL : Hid (∀ t : InB z1, Calls Try.prog 71 #[.slice (some ⟨bS, oS, none⟩) S1.length sc1, .int .i64 a] t.val fun e w' => e = .returned (.bool true) ∧ Below t.val.heap.size t.val w') := by
                      intro t
                      have := l4Has_any _ S1 a t.val (SlI.next t.below rd1)
                      rwa [hd] at this
                    have HD := Lib.hid hd
                    clear hd
                    go_wp2_with fail
                    (refine wp_region_inB (by kernel_rfl) (by kernel_rfl) ?_; (repeat (go_big_quiet_step ((go_at_call 71; exact InB.call (CL.out _))))); refine wpQuiet_nil ?_; intro w1 hw'; obtain ⟨s1, hw1⟩ := hw'; have hb1 := s1.below; rw [← hw1] at hb1; clear hw1 s1)
                    clear qq1 qq2 qqf qqt qqs CL
                    have o2 := o1.below hb1
                    have b2 := b1.trans (hb1.mono b1.size)
                    have k2 := k1.call hb1
                    have HS2 := Lib.hid (show S1 = cnP xS b a S1 by rw [cnP_mem (of_decide_eq_true HD.out)])
                    have HZ2 := HZ1
                    obtain ⟨S2, hSn⟩ : ∃ z, z = S1 := ⟨_, rfl⟩
                    try rw [← hSn] at HS0
                    try rw [← hSn] at HS1
                    rw [← hSn] at o2 HS2 HZ2 ⊢
                    clear hSn
                    obtain ⟨z2, hzn⟩ : ∃ z, z = w1 := ⟨_, rfl⟩
                    subst hzn
                    have HR : Hid (cnR q xS s (j + 1) = S2) := by show _ = _; rw [cnR_succ HF.out HT.out, HS0.out, ← HS1.out, ← HS2.out]
                    go_wp2
                    go_roundw
                    case rel => exact ⟨j + 1, by omega, by go_num, by rw [HR.out]; exact o2, b2, k2⟩
                    case measure => simp [intOf]; omega


                · have HAX := Lib.hid hax
                  have hax2 : (b == xS) = false := by simpa using hax
                  clear hax
                  go_wp2_with fail
                  (refine wp_region_inB (by kernel_rfl) (by kernel_rfl) ?_; (repeat (go_big_quiet_step (fail))); refine wpQuiet_nil ?_; intro w1 hw'; obtain ⟨s1, hw1⟩ := hw'; have hb1 := s1.below; rw [← hw1] at hb1; clear hw1 s1)
                  clear qq1 qq2 qqf qqt qqs
                  have o2 := o1.below hb1
                  have b2 := b1.trans (hb1.mono b1.size)
                  have k2 := k1.call hb1
                  have HS2 := Lib.hid (show S1 = cnP xS b a S1 by rw [cnP_ne HAX.out])
                  have HZ2 := HZ1
                  obtain ⟨S2, hSn⟩ : ∃ z, z = S1 := ⟨_, rfl⟩
                  try rw [← hSn] at HS0
                  try rw [← hSn] at HS1
                  rw [← hSn] at o2 HS2 HZ2 ⊢
                  clear hSn
                  obtain ⟨z2, hzn⟩ : ∃ z, z = w1 := ⟨_, rfl⟩
                  subst hzn
                  have HR : Hid (cnR q xS s (j + 1) = S2) := by show _ = _; rw [cnR_succ HF.out HT.out, HS0.out, ← HS1.out, ← HS2.out]
                  go_wp2
                  go_roundw
                  case rel => exact ⟨j + 1, by omega, by go_num, by rw [HR.out]; exact o2, b2, k2⟩
                  case measure => simp [intOf]; omega

              · have CL : Hid (∀ t : InB z0, Calls Try.prog 71 #[.slice (some ⟨bS, oS, none⟩) S0.length sc0, .int .i64 b] t.val fun e w' => e = .returned (.bool true) ∧ Below t.val.heap.size t.val w') := by
                  intro t
                  have := l4Has_any _ S0 b t.val (SlI.next t.below rd0)
                  rwa [hd] at this
                have HD := Lib.hid hd
                clear hd
                go_wp2_with fail
                (refine wp_region_inB (by kernel_rfl) (by kernel_rfl) ?_; (repeat (go_big_quiet_step ((go_at_call 71; exact InB.call (CL.out _))))); refine wpQuiet_nil ?_; intro w1 hw'; obtain ⟨s1, hw1⟩ := hw'; have hb1 := s1.below; rw [← hw1] at hb1; clear hw1 s1)
                clear qq1 qq2 qqf qqt qqs CL
                have o1 := o0.below hb1
                have b1 := b0.trans (hb1.mono b0.size)
                have k1 := k0.call hb1
                have HS1 := Lib.hid (show S0 = cnP xS a b S0 by rw [cnP_mem (of_decide_eq_true HD.out)])
                have HZ1 := HZ0
                obtain ⟨S1, hSn⟩ : ∃ z, z = S0 := ⟨_, rfl⟩
                try rw [← hSn] at HS0
                try rw [← hSn] at HS0
                rw [← hSn] at o1 HS1 HZ1 ⊢
                clear hSn
                obtain ⟨z1, hzn⟩ : ∃ z, z = w1 := ⟨_, rfl⟩
                subst hzn
                clear cS hbS hxr1 hxr2 rd0 hkl0
                have rd1 := o1.rd
                obtain ⟨bS2, oS2, xT, hSA, hbS, HXS, cS, hxr1, hxr2⟩ := SlI.at_ (k := k) rd1 (lt_of_some HZ1.out.2)
                injection hSA with hSA
                injection hSA with hSA1 hSA2 _
                subst hSA1 hSA2
                obtain rfl : xS = xT := by have := HXS.out; rw [HZ1.out.2] at this; injection this
                clear HXS
                have qq1 := InB.cell k1.lt (k1.cell' (i := 1) rfl)
                have qq2 := InB.cell k1.lt (k1.cell' (i := 2) rfl)
                have qqf := InB.cell (Nat.lt_of_lt_of_le hbF b1.size) (bcell b1 hbF cF)
                have qqt := InB.cell (Nat.lt_of_lt_of_le hbT b1.size) (bcell b1 hbT cT)
                have qqs := InB.cell hbS cS
                have hkl1 := lt_of_some HZ1.out.2
                by_cases hax : b = xS
                · have HAX := Lib.hid hax
                  have hax2 : (b == xS) = true := by simpa using hax
                  clear hax
                  rcases hd : decide (a ∈ S1) with _ | _
                  · have CL : Hid (∀ t : InB z1, Calls Try.prog 71 #[.slice (some ⟨bS, oS, none⟩) S1.length sc0, .int .i64 a] t.val fun e w' => e = .returned (.bool false) ∧ Below t.val.heap.size t.val w') := by
                      intro t
                      have := l4Has_any _ S1 a t.val (SlI.next t.below rd1)
                      rwa [hd] at this
                    have HD := Lib.hid hd
                    clear hd
                    go_wp2_with fail
                    (refine wp_region_inB (by kernel_rfl) (by kernel_rfl) ?_; (repeat (go_big_quiet_step ((go_at_call 71; exact InB.call (CL.out _))))); refine wpQuiet_nil ?_; intro w1 hw'; obtain ⟨s1, hw1⟩ := hw'; have hb1 := s1.below; rw [← hw1] at hb1; clear hw1 s1)
                    clear qq1 qq2 qqf qqt qqs CL
                    have o2 := o1.below hb1
                    have b2 := b1.trans (hb1.mono b1.size)
                    have k2 := k1.call hb1
                    have e1 := (k2.alloc (.cells #[.int .i64 a] 3)).cell' (i := 1) rfl
                    have e1' := k2.cell' (i := 1) rfl
                    have e2' := k2.cell' (i := 2) rfl
                    have cF' := bcell b2 hbF cF
                    have cT' := bcell b2 hbT cT
                    have hko := o2.alloc (.cells #[.int .i64 a] 3)
                    have hkb := k2.alloc (.cells #[.int .i64 a] 3)
                    have hbb := b2.alloc b2.size (.cells #[.int .i64 a] 3)
                    have hsz := HZ1.out.1.len hv.2
                    clear e1
                    (go_wp2_with (at_builtin; refine Hold.stop ?_)); unfold Hold
                    refine wpList_appI rfl (.tmp 72) (.tmp 78) rfl w.heap.size _ (.slice (some ⟨bS, oS, none⟩) S1.length sc0) S1 rfl hko _ _ _ [a] rfl rfl (SlI.one w1 _ a ⟨by omega, by omega⟩) (by simp only [List.length_singleton]; omega) (by have := b2.size; simp; omega) ?_
                    intro vn z2 on hg1 hv1
                    have kn := hkb.grown hg1 (hko.blkne hkb (by decide))
                    have bn := hbb.grown hg1 (by have := b2.size; simp; omega) (fun j hj => (hko.lt j hj).1)
                    clear hko hkb hbb hg1 hv1 e1' e2' cF' cT' o2 b2 k2
                    have hnm : a ∉ S1 := of_decide_eq_false HD.out
                    have HS2 := Lib.hid (show S1 ++ [a] = cnP xS b a S1 by rw [HAX.out, cnP_yes hnm])
                    have HZ2 : Hid (cnOkS q (S1 ++ [a]) ∧ (S1 ++ [a])[k]? = some xS) := ⟨HZ1.out.1.add ra hnm, by rw [List.getElem?_append_left (lt_of_some HZ1.out.2)]; exact HZ1.out.2⟩
                    obtain ⟨S2, hSn⟩ : ∃ z, S1 ++ [a] = z := ⟨_, rfl⟩
                    rw [hSn] at on HS2 HZ2
                    clear hSn
                    have o2 := on
                    have b2 := bn
                    have k2 := kn
                    clear on bn kn
                    obtain ⟨SA2, sc2, hv2, _, _⟩ := o2.form
                    subst hv2
                    have HR : Hid (cnR q xS s (j + 1) = S2) := by show _ = _; rw [cnR_succ HF.out HT.out, HS0.out, ← HS1.out, ← HS2.out]
                    go_wp2
                    go_roundw
                    case rel => exact ⟨j + 1, by omega, by go_num, by rw [HR.out]; exact o2, b2, k2⟩
                    case measure => simp [intOf]; omega

                  · have CL : Hid (∀ t : InB z1, Calls Try.prog 71 #[.slice (some ⟨bS, oS, none⟩) S1.length sc0, .int .i64 a] t.val fun e w' => e = .returned (.bool true) ∧ Below t.val.heap.size t.val w') := by
                      intro t
                      have := l4Has_any _ S1 a t.val (SlI.next t.below rd1)
                      rwa [hd] at this
                    have HD := Lib.hid hd
                    clear hd
                    go_wp2_with fail
                    (refine wp_region_inB (by kernel_rfl) (by kernel_rfl) ?_; (repeat (go_big_quiet_step ((go_at_call 71; exact InB.call (CL.out _))))); refine wpQuiet_nil ?_; intro w1 hw'; obtain ⟨s1, hw1⟩ := hw'; have hb1 := s1.below; rw [← hw1] at hb1; clear hw1 s1)
                    clear qq1 qq2 qqf qqt qqs CL
                    have o2 := o1.below hb1
                    have b2 := b1.trans (hb1.mono b1.size)
                    have k2 := k1.call hb1
                    have HS2 := Lib.hid (show S1 = cnP xS b a S1 by rw [cnP_mem (of_decide_eq_true HD.out)])
                    have HZ2 := HZ1
                    obtain ⟨S2, hSn⟩ : ∃ z, z = S1 := ⟨_, rfl⟩
                    try rw [← hSn] at HS0
                    try rw [← hSn] at HS1
                    rw [← hSn] at o2 HS2 HZ2 ⊢
                    clear hSn
                    obtain ⟨z2, hzn⟩ : ∃ z, z = w1 := ⟨_, rfl⟩
                    subst hzn
                    have HR : Hid (cnR q xS s (j + 1) = S2) := by show _ = _; rw [cnR_succ HF.out HT.out, HS0.out, ← HS1.out, ← HS2.out]
                    go_wp2
                    go_roundw
                    case rel => exact ⟨j + 1, by omega, by go_num, by rw [HR.out]; exact o2, b2, k2⟩
                    case measure => simp [intOf]; omega


                · have HAX := Lib.hid hax
                  have hax2 : (b == xS) = false := by simpa using hax
                  clear hax
                  go_wp2_with fail
                  (refine wp_region_inB (by kernel_rfl) (by kernel_rfl) ?_; (repeat (go_big_quiet_step (fail))); refine wpQuiet_nil ?_; intro w1 hw'; obtain ⟨s1, hw1⟩ := hw'; have hb1 := s1.below; rw [← hw1] at hb1; clear hw1 s1)
                  clear qq1 qq2 qqf qqt qqs
                  have o2 := o1.below hb1
                  have b2 := b1.trans (hb1.mono b1.size)
                  have k2 := k1.call hb1
                  have HS2 := Lib.hid (show S1 = cnP xS b a S1 by rw [cnP_ne HAX.out])
                  have HZ2 := HZ1
                  obtain ⟨S2, hSn⟩ : ∃ z, z = S1 := ⟨_, rfl⟩
                  try rw [← hSn] at HS0
                  try rw [← hSn] at HS1
                  rw [← hSn] at o2 HS2 HZ2 ⊢
                  clear hSn
                  obtain ⟨z2, hzn⟩ : ∃ z, z = w1 := ⟨_, rfl⟩
                  subst hzn
                  have HR : Hid (cnR q xS s (j + 1) = S2) := by show _ = _; rw [cnR_succ HF.out HT.out, HS0.out, ← HS1.out, ← HS2.out]
                  go_wp2
                  go_roundw
                  case rel => exact ⟨j + 1, by omega, by go_num, by rw [HR.out]; exact o2, b2, k2⟩
                  case measure => simp [intOf]; omega


            · have HAX := Lib.hid hax
              have hax2 : (a == xS) = false := by simpa using hax
              clear hax
              go_wp2_with fail
              (refine wp_region_inB (by kernel_rfl) (by kernel_rfl) ?_; (repeat (go_big_quiet_step (fail))); refine wpQuiet_nil ?_; intro w1 hw'; obtain ⟨s1, hw1⟩ := hw'; have hb1 := s1.below; rw [← hw1] at hb1; clear hw1 s1)
              clear qq1 qq2 qqf qqt qqs
              have o1 := o0.below hb1
              have b1 := b0.trans (hb1.mono b0.size)
              have k1 := k0.call hb1
              have HS1 := Lib.hid (show S0 = cnP xS a b S0 by rw [cnP_ne HAX.out])
              have HZ1 := HZ0
              obtain ⟨S1, hSn⟩ : ∃ z, z = S0 := ⟨_, rfl⟩
              try rw [← hSn] at HS0
              try rw [← hSn] at HS0
              rw [← hSn] at o1 HS1 HZ1 ⊢
              clear hSn
              obtain ⟨z1, hzn⟩ : ∃ z, z = w1 := ⟨_, rfl⟩
              subst hzn
              clear cS hbS hxr1 hxr2 rd0 hkl0
              have rd1 := o1.rd
              obtain ⟨bS2, oS2, xT, hSA, hbS, HXS, cS, hxr1, hxr2⟩ := SlI.at_ (k := k) rd1 (lt_of_some HZ1.out.2)
              injection hSA with hSA
              injection hSA with hSA1 hSA2 _
              subst hSA1 hSA2
              obtain rfl : xS = xT := by have := HXS.out; rw [HZ1.out.2] at this; injection this
              clear HXS
              have qq1 := InB.cell k1.lt (k1.cell' (i := 1) rfl)
              have qq2 := InB.cell k1.lt (k1.cell' (i := 2) rfl)
              have qqf := InB.cell (Nat.lt_of_lt_of_le hbF b1.size) (bcell b1 hbF cF)
              have qqt := InB.cell (Nat.lt_of_lt_of_le hbT b1.size) (bcell b1 hbT cT)
              have qqs := InB.cell hbS cS
              have hkl1 := lt_of_some HZ1.out.2
              by_cases hax : b = xS
              · have HAX := Lib.hid hax
                have hax2 : (b == xS) = true := by simpa using hax
                clear hax
                rcases hd : decide (a ∈ S1) with _ | _
                · have CL : Hid (∀ t : InB z1, Calls Try.prog 71 #[.slice (some ⟨bS, oS, none⟩) S1.length sc0, .int .i64 a] t.val fun e w' => e = .returned (.bool false) ∧ Below t.val.heap.size t.val w') := by
                    intro t
                    have := l4Has_any _ S1 a t.val (SlI.next t.below rd1)
                    rwa [hd] at this
                  have HD := Lib.hid hd
                  clear hd
                  go_wp2_with fail
                  (refine wp_region_inB (by kernel_rfl) (by kernel_rfl) ?_; (repeat (go_big_quiet_step ((go_at_call 71; exact InB.call (CL.out _))))); refine wpQuiet_nil ?_; intro w1 hw'; obtain ⟨s1, hw1⟩ := hw'; have hb1 := s1.below; rw [← hw1] at hb1; clear hw1 s1)
                  clear qq1 qq2 qqf qqt qqs CL
                  have o2 := o1.below hb1
                  have b2 := b1.trans (hb1.mono b1.size)
                  have k2 := k1.call hb1
                  have e1 := (k2.alloc (.cells #[.int .i64 a] 3)).cell' (i := 1) rfl
                  have e1' := k2.cell' (i := 1) rfl
                  have e2' := k2.cell' (i := 2) rfl
                  have cF' := bcell b2 hbF cF
                  have cT' := bcell b2 hbT cT
                  have hko := o2.alloc (.cells #[.int .i64 a] 3)
                  have hkb := k2.alloc (.cells #[.int .i64 a] 3)
                  have hbb := b2.alloc b2.size (.cells #[.int .i64 a] 3)
                  have hsz := HZ1.out.1.len hv.2
                  clear e1
                  (go_wp2_with (at_builtin; refine Hold.stop ?_)); unfold Hold
                  refine wpList_appI rfl (.tmp 72) (.tmp 78) rfl w.heap.size _ (.slice (some ⟨bS, oS, none⟩) S1.length sc0) S1 rfl hko _ _ _ [a] rfl rfl (SlI.one w1 _ a ⟨by omega, by omega⟩) (by simp only [List.length_singleton]; omega) (by have := b2.size; simp; omega) ?_
                  intro vn z2 on hg1 hv1
                  have kn := hkb.grown hg1 (hko.blkne hkb (by decide))
                  have bn := hbb.grown hg1 (by have := b2.size; simp; omega) (fun j hj => (hko.lt j hj).1)
                  clear hko hkb hbb hg1 hv1 e1' e2' cF' cT' o2 b2 k2
                  have hnm : a ∉ S1 := of_decide_eq_false HD.out
                  have HS2 := Lib.hid (show S1 ++ [a] = cnP xS b a S1 by rw [HAX.out, cnP_yes hnm])
                  have HZ2 : Hid (cnOkS q (S1 ++ [a]) ∧ (S1 ++ [a])[k]? = some xS) := ⟨HZ1.out.1.add ra hnm, by rw [List.getElem?_append_left (lt_of_some HZ1.out.2)]; exact HZ1.out.2⟩
                  obtain ⟨S2, hSn⟩ : ∃ z, S1 ++ [a] = z := ⟨_, rfl⟩
                  rw [hSn] at on HS2 HZ2
                  clear hSn
                  have o2 := on
                  have b2 := bn
                  have k2 := kn
                  clear on bn kn
                  obtain ⟨SA2, sc2, hv2, _, _⟩ := o2.form
                  subst hv2
                  have HR : Hid (cnR q xS s (j + 1) = S2) := by show _ = _; rw [cnR_succ HF.out HT.out, HS0.out, ← HS1.out, ← HS2.out]
                  go_wp2
                  go_roundw
                  case rel => exact ⟨j + 1, by omega, by go_num, by rw [HR.out]; exact o2, b2, k2⟩
                  case measure => simp [intOf]; omega

                · have CL : Hid (∀ t : InB z1, Calls Try.prog 71 #[.slice (some ⟨bS, oS, none⟩) S1.length sc0, .int .i64 a] t.val fun e w' => e = .returned (.bool true) ∧ Below t.val.heap.size t.val w') := by
                    intro t
                    have := l4Has_any _ S1 a t.val (SlI.next t.below rd1)
                    rwa [hd] at this
                  have HD := Lib.hid hd
                  clear hd
                  go_wp2_with fail
                  (refine wp_region_inB (by kernel_rfl) (by kernel_rfl) ?_; (repeat (go_big_quiet_step ((go_at_call 71; exact InB.call (CL.out _))))); refine wpQuiet_nil ?_; intro w1 hw'; obtain ⟨s1, hw1⟩ := hw'; have hb1 := s1.below; rw [← hw1] at hb1; clear hw1 s1)
                  clear qq1 qq2 qqf qqt qqs CL
                  have o2 := o1.below hb1
                  have b2 := b1.trans (hb1.mono b1.size)
                  have k2 := k1.call hb1
                  have HS2 := Lib.hid (show S1 = cnP xS b a S1 by rw [cnP_mem (of_decide_eq_true HD.out)])
                  have HZ2 := HZ1
                  obtain ⟨S2, hSn⟩ : ∃ z, z = S1 := ⟨_, rfl⟩
                  try rw [← hSn] at HS0
                  try rw [← hSn] at HS1
                  rw [← hSn] at o2 HS2 HZ2 ⊢
                  clear hSn
                  obtain ⟨z2, hzn⟩ : ∃ z, z = w1 := ⟨_, rfl⟩
                  subst hzn
                  have HR : Hid (cnR q xS s (j + 1) = S2) := by show _ = _; rw [cnR_succ HF.out HT.out, HS0.out, ← HS1.out, ← HS2.out]
                  go_wp2
                  go_roundw
                  case rel => exact ⟨j + 1, by omega, by go_num, by rw [HR.out]; exact o2, b2, k2⟩
                  case measure => simp [intOf]; omega


              · have HAX := Lib.hid hax
                have hax2 : (b == xS) = false := by simpa using hax
                clear hax
                go_wp2_with fail
                (refine wp_region_inB (by kernel_rfl) (by kernel_rfl) ?_; (repeat (go_big_quiet_step (fail))); refine wpQuiet_nil ?_; intro w1 hw'; obtain ⟨s1, hw1⟩ := hw'; have hb1 := s1.below; rw [← hw1] at hb1; clear hw1 s1)
                clear qq1 qq2 qqf qqt qqs
                have o2 := o1.below hb1
                have b2 := b1.trans (hb1.mono b1.size)
                have k2 := k1.call hb1
                have HS2 := Lib.hid (show S1 = cnP xS b a S1 by rw [cnP_ne HAX.out])
                have HZ2 := HZ1
                obtain ⟨S2, hSn⟩ : ∃ z, z = S1 := ⟨_, rfl⟩
                try rw [← hSn] at HS0
                try rw [← hSn] at HS1
                rw [← hSn] at o2 HS2 HZ2 ⊢
                clear hSn
                obtain ⟨z2, hzn⟩ : ∃ z, z = w1 := ⟨_, rfl⟩
                subst hzn
                have HR : Hid (cnR q xS s (j + 1) = S2) := by show _ = _; rw [cnR_succ HF.out HT.out, HS0.out, ← HS1.out, ← HS2.out]
                go_wp2
                go_roundw
                case rel => exact ⟨j + 1, by omega, by go_num, by rw [HR.out]; exact o2, b2, k2⟩
                case measure => simp [intOf]; omega

          · obtain rfl : j = q.f.length := by omega
            have hge : Hid (k + 1 ≤ (cnR q xS s q.f.length).length ∧ cnOkS q (cnR q xS s q.f.length) ∧ cnG q (6 - (k + 1)) (cnR q xS s q.f.length) (k + 1) = cnG q 6 [0] 0) := by
              refine ⟨?_, cnR_ok hq0 HO.out.1 _, ?_⟩
              · have := lt_of_some (cnR_get (q := q) (x := xS) (j := q.f.length) HX.out); omega
              · rw [← HO.out.2, show 6 - k = (6 - (k + 1)) + 1 by omega, cnG_step HX.out]
            obtain ⟨SA0, sc0, hv0, _, _⟩ := o0.form
            subst hv0
            have c1 := k0.cell' (i := 1) rfl
            go_wp2
            go_roundw
            case rel => exact ⟨k + 1, _, hge.out.1, by go_num, o0, b0, k0, hge.out.2⟩
            case measure => simp [intOf]; omega
      · obtain rfl : k = s.length := by omega
        have HC : Hid (conQ q = ((s.length : Int) == q.v)) := by
          show _ = _
          rw [conQ, HQ.out, ← HO.out.2, cnG_end (Nat.le_refl _), Bool.true_and]
          rw [Bool.eq_iff_iff]; simp
        have hlt' : ¬ s.length < s.length := by omega
        go_wp2_with fail
        refine (specIsQuiver_any _ q _ (QvR.more hb.size (QvR.below hb HU.out))).mono ?_; rintro e w1 ⟨rfl, hb1⟩
        rw [HQ.out]
        have k1 := hkB.call hb1
        have hB1 := hb.trans (hb1.mono hb.size)
        clear c0 c1 c2
        have c0 := k1.cell' (i := 0) rfl
        go_wp2
        go_ret
        exact ⟨by rw [HC.out]; rfl, hB1⟩
end Go.Proofs.Ytaefpblpfjhgoaa

/- IsConnectedQuiver: the program's. -/
namespace Go.Proofs.Ytaefpblpfjhgoaa
set_option linter.unusedVariables false
set_option linter.unusedSimpArgs false
open Go.RowKit

set_option maxRecDepth 100000 in
set_option maxHeartbeats 6400000 in
theorem implConnected_any (u : Value) (q : Qv) (w : World) (hu : QvR w w.heap.size u q) :
    Calls Try.prog 51 #[u] w fun e w' => e = .returned (.bool (conQ q)) ∧ Below w.heap.size w w' := by
  have hu' := hu
  obtain ⟨A, c, C, d, rfl, hf, ht, hr, lf, lt⟩ := hu.open_
  clear hu
  obtain ⟨W, hW⟩ : ∃ W, W = w.alloc (.cells #[.int .i64 q.v, .slice A q.f.length c, .slice C q.t.length d] 26) := ⟨_, rfl⟩
  have kB : Blk W w.heap.size 26 #[.int .i64 q.v, .slice A q.f.length c, .slice C q.t.length d] := by rw [hW]; exact Blk.new _ _ _
  have g0 : Below w.heap.size w W := by rw [hW]; exact below_alloc _ _
  have hqW : QvR W W.heap.size (.agg #[.int .i64 q.v, .slice A q.f.length c, .slice C q.t.length d]) q := QvR.next g0 hu'
  have c0 := kB.cell' (i := 0) rfl
  have c1 := kB.cell' (i := 1) rfl
  have c2 := kB.cell' (i := 2) rfl
  rcases hq : isQ q with _ | _
  · have HC : Hid (conQ q = false) := by show _ = _; rw [conQ, hq]; rfl
    have HQ := Lib.hid hq
    clear hq hu' hf ht
    go_enter Try.func51, Try.ntmps51
    go_wp2_with fail
    rw [← hW]; clear hW
    refine (implIsQuiver_any _ q _ hqW).mono ?_; rintro e w1 ⟨rfl, hb1⟩
    rw [HQ.out]
    go_wp2
    go_ret
    exact ⟨by rw [HC.out]; rfl, bthen g0 hb1⟩
  · have HQ := Lib.hid hq
    have hq0 := hq
    obtain ⟨hv, hl, h6, hfr, htr⟩ := isQ_t.1 hq
    have HL := Lib.hid hl
    have hmo : Try.prog.follows .mixedOrders = true := by kernel_rfl
    clear hq hl
    go_enter Try.func51, Try.ntmps51
    go_wp2_with fail
    rw [← hW]; clear hW
    refine (implIsQuiver_any _ q _ hqW).mono ?_; rintro e w1 ⟨rfl, hb1⟩
    rw [HQ.out]
    have k1 := (kB.call hb1).alloc (.cells #[.int .i64 0] 3)
    have g1 := (bthen g0 hb1).alloc (bthen g0 hb1).size (.cells #[.int .i64 0] 3)
    have ho1 : OwnI (w1.alloc (.cells #[.int .i64 0] 3)) w.heap.size (.slice (some ⟨w1.heap.size, 0, none⟩) 1 1) [0] :=
      OwnI.newBlk (N := 1) (cs := #[.int .i64 0]) (l := [0]) (bthen g0 hb1).size (by omega) rfl rfl (fun x hx => by simp at hx; subst hx; exact ⟨by omega, by omega⟩)
    clear c0 c1 c2 kB g0 hqW hb1 hu'
    go_wp2
    go_loopw [3, 4] (fun vs vi wr => ∃ (k : Nat) (s : List Int), k ≤ s.length ∧ vi = .int .i64 k ∧ OwnI wr w.heap.size vs s ∧ Below w.heap.size w wr ∧ Blk wr w.heap.size 26 #[.int .i64 q.v, .slice A q.f.length c, .slice C q.t.length d] ∧ Hid (cnOkS q s ∧ cnG q (6 - k) s k = cnG q 6 [0] 0)) (fun _ vi _ => 6 - (intOf vi).toNat)
    case atStart => exact ⟨0, [0], by simp, rfl, ho1, g1, k1, ⟨cnOk_one hv.1, rfl⟩⟩
    case round =>
      clear ho1 g1 k1
      obtain ⟨k, s, hk, rfl, ho, hb, hkB, HO⟩ := hrel
      have hs5 := HO.out.1.len hv.2
      obtain ⟨SA, sc, hve, _, _⟩ := ho.form
      subst hve
      have c0 := hkB.cell' (i := 0) rfl
      have c1 := hkB.cell' (i := 1) rfl
      have c2 := hkB.cell' (i := 2) rfl
      by_cases hlt : k < s.length
      · have hx : s[k]? = some s[k] := List.getElem?_eq_getElem hlt
        obtain ⟨xS, hxe⟩ : ∃ x, s[k] = x := ⟨_, rfl⟩
        rw [hxe] at hx
        have HX := Lib.hid hx
        clear hx hxe
        go_wp2
        clear c0 c1 c2
        go_loopw [3, 22] (fun vs vj wr => ∃ j : Nat, j ≤ q.f.length ∧ vj = .int .i64 j ∧ OwnI wr w.heap.size vs (cnR q xS s j) ∧ Below w.heap.size w wr ∧ Blk wr w.heap.size 26 #[.int .i64 q.v, .slice A q.f.length c, .slice C q.t.length d]) (fun _ vj _ => q.f.length - (intOf vj).toNat)
        case atStart => exact ⟨0, Nat.zero_le _, rfl, by rw [cnR_0]; exact ho, hb, hkB⟩
        case round =>
          clear ho hb hkB
          obtain ⟨j, hj, rfl, o0, b0, k0⟩ := hrel
          obtain ⟨z0, hz0⟩ : ∃ z, z = wr := ⟨_, rfl⟩
          subst hz0
          have c1 := k0.cell' (i := 1) rfl
          have c2 := k0.cell' (i := 2) rfl
          by_cases hlt2 : j < q.f.length
          · obtain ⟨bF, oF, a, rfl, hbF, HF, cF0, _⟩ := SlI.at_ hf hlt2
            have hlt3 : j < q.t.length := by have := HL.out; omega
            obtain ⟨bT, oT, b, rfl, hbT, HT, cT0, _⟩ := SlI.at_ ht hlt3
            have cF := bcell b0 hbF cF0
            have cT := bcell b0 hbT cT0
            have ra := hfr a (List.mem_of_getElem? HF.out)
            have rb := htr b (List.mem_of_getElem? HT.out)
            have HZ0 : Hid (cnOkS q (cnR q xS s j) ∧ (cnR q xS s j)[k]? = some xS) := ⟨cnR_ok hq0 HO.out.1 j, cnR_get HX.out⟩
            obtain ⟨S0, hS0⟩ : ∃ z, cnR q xS s j = z := ⟨_, rfl⟩
            rw [hS0] at o0 HZ0
            have HS0 := Lib.hid hS0
            clear hS0 hf ht
            obtain ⟨SA0, sc0, hv0, _, _⟩ := o0.form
            subst hv0
            go_wp2_with fail
            go_region_o
            go_wp2
            obtain ⟨v0, hWd⟩ : ∃ z, z = (z0.alloc (.cells #[.int .i64 a, .int .i64 b, .int .i64 b, .int .i64 a] 85)).drew := ⟨_, rfl⟩
            have gP : Blk v0 z0.heap.size 85 #[.int .i64 a, .int .i64 b, .int .i64 b, .int .i64 a] := by rw [hWd]; exact Blk.new _ _ _
            have oD : OwnI v0 w.heap.size (.slice SA0 S0.length sc0) S0 := by rw [hWd]; exact o0.alloc _
            have kD : Blk v0 w.heap.size 26 #[.int .i64 q.v, .slice (some ⟨bF, oF, none⟩) q.f.length c, .slice (some ⟨bT, oT, none⟩) q.t.length d] := by rw [hWd]; exact k0.alloc _
            have bD : Below w.heap.size w v0 := by rw [hWd]; exact (b0.alloc b0.size _).drew
            rw [← hWd]
            clear hWd o0 k0 b0 c1 c2 cF cT cF0 cT0
            have o0 := oD
            have k0 := kD
            have b0 := bD
            have g0 := gP
            clear oD kD bD gP
            refine wp_loop_rounds 3 ?_
            rw [rounds_succ]
            have p0 := g0.cell' (i := 0) rfl
            have p1 := g0.cell' (i := 1) rfl
            go_wp2_with fail
            obtain ⟨y0, hy0⟩ : ∃ z, z = v0.alloc (.cells #[.int .i64 a, .int .i64 b] 85) := ⟨_, rfl⟩
            have gE0 : Blk y0 v0.heap.size 85 #[.int .i64 a, .int .i64 b] := by rw [hy0]; exact Blk.new _ _ _
            have gy0 : Blk y0 z0.heap.size 85 #[.int .i64 a, .int .i64 b, .int .i64 b, .int .i64 a] := by rw [hy0]; exact g0.alloc _
            have oy0 : OwnI y0 w.heap.size (.slice SA0 S0.length sc0) S0 := by rw [hy0]; exact o0.alloc _
            have ky0 : Blk y0 w.heap.size 26 #[.int .i64 q.v, .slice (some ⟨bF, oF, none⟩) q.f.length c, .slice (some ⟨bT, oT, none⟩) q.t.length d] := by rw [hy0]; exact k0.alloc _
            have by0 : Below w.heap.size w y0 := by rw [hy0]; exact b0.alloc b0.size _
            rw [← hy0]
            clear hy0 p0 p1 o0 k0 b0 g0
            have rd0 := oy0.rd
            obtain ⟨bS, oS, xT, hSA, hbS, HXS, cS, hxr1, hxr2⟩ := SlI.at_ (k := k) rd0 (lt_of_some HZ0.out.2)
            obtain rfl : xS = xT := by have := HXS.out; rw [HZ0.out.2] at this; injection this
            subst hSA
            clear HXS
            have qq0 := InB.cell gE0.lt (gE0.cell' (i := 0) rfl)
            have qq1 := InB.cell gE0.lt (gE0.cell' (i := 1) rfl)
            have qqs := InB.cell hbS cS
            have hkl0 := lt_of_some HZ0.out.2
            by_cases hax : a = xS
            · have HAX := Lib.hid hax
              have hax2 : (a == xS) = true := by simpa using hax
              clear hax
              rcases hd : decide (b ∈ S0) with _ | _
              · have CL : Hid (∀ t : InB y0, Calls Try.prog 77 #[.slice (some ⟨bS, oS, none⟩) S0.length sc0, .int .i64 b] t.val fun e w' => e = .returned (.bool false) ∧ w' = t.val) := by
                  intro t
                  have := contains_any _ S0 b t.val (SlI.next t.below rd0)
                  rwa [hd] at this
                have HD := Lib.hid hd
                clear hd
                go_wp2_with fail
                (refine wp_region_inB (by kernel_rfl) (by kernel_rfl) ?_; (repeat (go_big_quiet_step ((go_at_call 77; exact InB.call_same (CL.out _))))); refine wpQuiet_nil ?_; intro w1 hw'; obtain ⟨s1, hw1⟩ := hw'; have hb1 := s1.below; rw [← hw1] at hb1; clear hw1 s1)
                clear qq0 qq1 qqs CL
                have ow := oy0.below hb1
                have bw := by0.trans (hb1.mono by0.size)
                have kw := ky0.call hb1
                have gw := gy0.call hb1
                have gEw := gE0.call hb1
                clear oy0 by0 ky0 gy0 gE0 hb1
                have e1' := gEw.cell' (i := 1) rfl
                have hko := ow.alloc (.cells #[.int .i64 b] 3)
                have hkb := kw.alloc (.cells #[.int .i64 b] 3)
                have hkg := gw.alloc (.cells #[.int .i64 b] 3)
                have hbb := bw.alloc bw.size (.cells #[.int .i64 b] 3)
                have hsz := HZ0.out.1.len hv.2
                (go_wp2_with (at_builtin; refine Hold.stop ?_)); unfold Hold
                refine wpList_appI rfl (.tmp 61) (.tmp 64) rfl w.heap.size _ (.slice (some ⟨bS, oS, none⟩) S0.length sc0) S0 rfl hko _ _ _ [b] rfl rfl (SlI.one w1 _ b ⟨by omega, by omega⟩) (by simp only [List.length_singleton]; omega) (by have := bw.size; simp; omega) ?_
                intro vn v1 on hg1 hv1
                have k1 := hkb.grown hg1 (hko.blkne hkb (by decide))
                have g1 := hkg.grown hg1 (hko.blkne hkg (by decide))
                have b1 := hbb.grown hg1 (by have := bw.size; simp; omega) (fun j hj => (hko.lt j hj).1)
                clear hko hkb hkg hbb hg1 hv1 e1' ow bw kw gw gEw
                have hnm : b ∉ S0 := of_decide_eq_false HD.out
                have HS1 := Lib.hid (show S0 ++ [b] = cnP xS a b S0 by rw [HAX.out, cnP_yes hnm])
                have HZ1 : Hid (cnOkS q (S0 ++ [b]) ∧ (S0 ++ [b])[k]? = some xS) := ⟨HZ0.out.1.add rb hnm, by rw [List.getElem?_append_left (lt_of_some HZ0.out.2)]; exact HZ0.out.2⟩
                obtain ⟨S1, hSn⟩ : ∃ z, S0 ++ [b] = z := ⟨_, rfl⟩
                rw [hSn] at on HS1 HZ1
                clear hSn
                have o1 := on
                clear on
                obtain ⟨SA1, sc1, hv1, _, _⟩ := o1.form
                subst hv1
                go_wp2
                clear cS hbS hxr1 hxr2 rd0 hkl0
                have p0 := g1.cell' (i := 2) rfl
                have p1 := g1.cell' (i := 3) rfl
                rw [rounds_succ]; go_wp2_with fail
                obtain ⟨y1, hy1⟩ : ∃ z, z = v1.alloc (.cells #[.int .i64 b, .int .i64 a] 85) := ⟨_, rfl⟩
                have gE1 : Blk y1 v1.heap.size 85 #[.int .i64 b, .int .i64 a] := by rw [hy1]; exact Blk.new _ _ _
                have gy1 : Blk y1 z0.heap.size 85 #[.int .i64 a, .int .i64 b, .int .i64 b, .int .i64 a] := by rw [hy1]; exact g1.alloc _
                have oy1 : OwnI y1 w.heap.size (.slice SA1 S1.length sc1) S1 := by rw [hy1]; exact o1.alloc _
                have ky1 : Blk y1 w.heap.size 26 #[.int .i64 q.v, .slice (some ⟨bF, oF, none⟩) q.f.length c, .slice (some ⟨bT, oT, none⟩) q.t.length d] := by rw [hy1]; exact k1.alloc _
                have by1 : Below w.heap.size w y1 := by rw [hy1]; exact b1.alloc b1.size _
                rw [← hy1]
                clear hy1 p0 p1 o1 k1 b1 g1
                have rd1 := oy1.rd
                obtain ⟨bS, oS, xT, hSA, hbS, HXS, cS, hxr1, hxr2⟩ := SlI.at_ (k := k) rd1 (lt_of_some HZ1.out.2)
                obtain rfl : xS = xT := by have := HXS.out; rw [HZ1.out.2] at this; injection this
                subst hSA
                clear HXS
                have qq0 := InB.cell gE1.lt (gE1.cell' (i := 0) rfl)
                have qq1 := InB.cell gE1.lt (gE1.cell' (i := 1) rfl)
                have qqs := InB.cell hbS cS
                have hkl1 := lt_of_some HZ1.out.2
                by_cases hax : b = xS
                · have HAX := Lib.hid hax
                  have hax2 : (b == xS) = true := by simpa using hax
                  clear hax
                  rcases hd : decide (a ∈ S1) with _ | _
                  · have CL : Hid (∀ t : InB y1, Calls Try.prog 77 #[.slice (some ⟨bS, oS, none⟩) S1.length sc1, .int .i64 a] t.val fun e w' => e = .returned (.bool false) ∧ w' = t.val) := by
                      intro t
                      have := contains_any _ S1 a t.val (SlI.next t.below rd1)
                      rwa [hd] at this
                    have HD := Lib.hid hd
                    clear hd
                    go_wp2_with fail
                    (refine wp_region_inB (by kernel_rfl) (by kernel_rfl) ?_; (repeat (go_big_quiet_step ((go_at_call 77; exact InB.call_same (CL.out _))))); refine wpQuiet_nil ?_; intro w1 hw'; obtain ⟨s1, hw1⟩ := hw'; have hb1 := s1.below; rw [← hw1] at hb1; clear hw1 s1)
                    clear qq0 qq1 qqs CL
                    have ow := oy1.below hb1
                    have bw := by1.trans (hb1.mono by1.size)
                    have kw := ky1.call hb1
                    have gw := gy1.call hb1
                    have gEw := gE1.call hb1
                    clear oy1 by1 ky1 gy1 gE1 hb1
                    have e1' := gEw.cell' (i := 1) rfl
                    have hko := ow.alloc (.cells #[.int .i64 a] 3)
                    have hkb := kw.alloc (.cells #[.int .i64 a] 3)
                    have hkg := gw.alloc (.cells #[.int .i64 a] 3)
                    have hbb := bw.alloc bw.size (.cells #[.int .i64 a] 3)
                    have hsz := HZ1.out.1.len hv.2
                    (go_wp2_with (at_builtin; refine Hold.stop ?_)); unfold Hold
                    refine wpList_appI rfl (.tmp 61) (.tmp 64) rfl w.heap.size _ (.slice (some ⟨bS, oS, none⟩) S1.length sc1) S1 rfl hko _ _ _ [a] rfl rfl (SlI.one w1 _ a ⟨by omega, by omega⟩) (by simp only [List.length_singleton]; omega) (by have := bw.size; simp; omega) ?_
                    intro vn v2 on hg1 hv1
                    have k2 := hkb.grown hg1 (hko.blkne hkb (by decide))
                    have g2 := hkg.grown hg1 (hko.blkne hkg (by decide))
                    have b2 := hbb.grown hg1 (by have := bw.size; simp; omega) (fun j hj => (hko.lt j hj).1)
                    clear hko hkb hkg hbb hg1 hv1 e1' ow bw kw gw gEw
                    have hnm : a ∉ S1 := of_decide_eq_false HD.out
                    have HS2 := Lib.hid (show S1 ++ [a] = cnP xS b a S1 by rw [HAX.out, cnP_yes hnm])
                    have HZ2 : Hid (cnOkS q (S1 ++ [a]) ∧ (S1 ++ [a])[k]? = some xS) := ⟨HZ1.out.1.add ra hnm, by rw [List.getElem?_append_left (lt_of_some HZ1.out.2)]; exact HZ1.out.2⟩
                    obtain ⟨S2, hSn⟩ : ∃ z, S1 ++ [a] = z := ⟨_, rfl⟩
                    rw [hSn] at on HS2 HZ2
                    clear hSn
                    have o2 := on
                    clear on
                    obtain ⟨SA2, sc2, hv2, _, _⟩ := o2.form
                    subst hv2
                    go_wp2
                    have HR : Hid (cnR q xS s (j + 1) = S2) := by show _ = _; rw [cnR_succ HF.out HT.out, HS0.out, ← HS1.out, ← HS2.out]
                    rw [rounds_succ]
                    go_wp2
                    go_roundw
                    case rel => exact ⟨j + 1, by omega, by go_num, by rw [HR.out]; exact o2, b2, k2⟩
                    case measure => simp [intOf]; omega

                  · have CL : Hid (∀ t : InB y1, Calls Try.prog 77 #[.slice (some ⟨bS, oS, none⟩) S1.length sc1, .int .i64 a] t.val fun e w' => e = .returned (.bool true) ∧ w' = t.val) := by
                      intro t
                      have := contains_any _ S1 a t.val (SlI.next t.below rd1)
                      rwa [hd] at this
                    have HD := Lib.hid hd
                    clear hd
                    go_wp2_with fail
                    (refine wp_region_inB (by kernel_rfl) (by kernel_rfl) ?_; (repeat (go_big_quiet_step ((go_at_call 77; exact InB.call_same (CL.out _))))); refine wpQuiet_nil ?_; intro w1 hw'; obtain ⟨s1, hw1⟩ := hw'; have hb1 := s1.below; rw [← hw1] at hb1; clear hw1 s1)
                    clear qq0 qq1 qqs CL
                    have ow := oy1.below hb1
                    have bw := by1.trans (hb1.mono by1.size)
                    have kw := ky1.call hb1
                    have gw := gy1.call hb1
                    have gEw := gE1.call hb1
                    clear oy1 by1 ky1 gy1 gE1 hb1
                    have HS2 := Lib.hid (show S1 = cnP xS b a S1 by rw [cnP_mem (of_decide_eq_true HD.out)])
                    have HZ2 := HZ1
                    obtain ⟨S2, hSn⟩ : ∃ z, z = S1 := ⟨_, rfl⟩
                    try rw [← hSn] at HS0
                    try rw [← hSn] at HS1
                    rw [← hSn] at ow HS2 HZ2 ⊢
                    clear hSn
                    obtain ⟨v2, hzn⟩ : ∃ z, z = w1 := ⟨_, rfl⟩
                    subst hzn
                    have o2 := ow
                    have b2 := bw
                    have k2 := kw
                    have g2 := gw
                    clear ow bw kw gw gEw
                    go_wp2_with fail
                    have HR : Hid (cnR q xS s (j + 1) = S2) := by show _ = _; rw [cnR_succ HF.out HT.out, HS0.out, ← HS1.out, ← HS2.out]
                    rw [rounds_succ]
                    go_wp2
                    go_roundw
                    case rel => exact ⟨j + 1, by omega, by go_num, by rw [HR.out]; exact o2, b2, k2⟩
                    case measure => simp [intOf]; omega


                · have HAX := Lib.hid hax
                  have hax2 : (b == xS) = false := by simpa using hax
                  clear hax
                  go_wp2_with fail
                  (refine wp_region_inB (by kernel_rfl) (by kernel_rfl) ?_; (repeat (go_big_quiet_step (fail))); refine wpQuiet_nil ?_; intro w1 hw'; obtain ⟨s1, hw1⟩ := hw'; have hb1 := s1.below; rw [← hw1] at hb1; clear hw1 s1)
                  clear qq0 qq1 qqs
                  have ow := oy1.below hb1
                  have bw := by1.trans (hb1.mono by1.size)
                  have kw := ky1.call hb1
                  have gw := gy1.call hb1
                  have gEw := gE1.call hb1
                  clear oy1 by1 ky1 gy1 gE1 hb1
                  have HS2 := Lib.hid (show S1 = cnP xS b a S1 by rw [cnP_ne HAX.out])
                  have HZ2 := HZ1
                  obtain ⟨S2, hSn⟩ : ∃ z, z = S1 := ⟨_, rfl⟩
                  try rw [← hSn] at HS0
                  try rw [← hSn] at HS1
                  rw [← hSn] at ow HS2 HZ2 ⊢
                  clear hSn
                  obtain ⟨v2, hzn⟩ : ∃ z, z = w1 := ⟨_, rfl⟩
                  subst hzn
                  have o2 := ow
                  have b2 := bw
                  have k2 := kw
                  have g2 := gw
                  clear ow bw kw gw gEw
                  go_wp2_with fail
                  have HR : Hid (cnR q xS s (j + 1) = S2) := by show _ = _; rw [cnR_succ HF.out HT.out, HS0.out, ← HS1.out, ← HS2.out]
                  rw [rounds_succ]
                  go_wp2
                  go_roundw
                  case rel => exact ⟨j + 1, by omega, by go_num, by rw [HR.out]; exact o2, b2, k2⟩
                  case measure => simp [intOf]; omega

              · have CL : Hid (∀ t : InB y0, Calls Try.prog 77 #[.slice (some ⟨bS, oS, none⟩) S0.length sc0, .int .i64 b] t.val fun e w' => e = .returned (.bool true) ∧ w' = t.val) := by
                  intro t
                  have := contains_any _ S0 b t.val (SlI.next t.below rd0)
                  rwa [hd] at this
                have HD := Lib.hid hd
                clear hd
                go_wp2_with fail
                (refine wp_region_inB (by kernel_rfl) (by kernel_rfl) ?_; (repeat (go_big_quiet_step ((go_at_call 77; exact InB.call_same (CL.out _))))); refine wpQuiet_nil ?_; intro w1 hw'; obtain ⟨s1, hw1⟩ := hw'; have hb1 := s1.below; rw [← hw1] at hb1; clear hw1 s1)
                clear qq0 qq1 qqs CL
                have ow := oy0.below hb1
                have bw := by0.trans (hb1.mono by0.size)
                have kw := ky0.call hb1
                have gw := gy0.call hb1
                have gEw := gE0.call hb1
                clear oy0 by0 ky0 gy0 gE0 hb1
                have HS1 := Lib.hid (show S0 = cnP xS a b S0 by rw [cnP_mem (of_decide_eq_true HD.out)])
                have HZ1 := HZ0
                obtain ⟨S1, hSn⟩ : ∃ z, z = S0 := ⟨_, rfl⟩
                try rw [← hSn] at HS0
                try rw [← hSn] at HS0
                rw [← hSn] at ow HS1 HZ1 ⊢
                clear hSn
                obtain ⟨v1, hzn⟩ : ∃ z, z = w1 := ⟨_, rfl⟩
                subst hzn
                have o1 := ow
                have b1 := bw
                have k1 := kw
                have g1 := gw
                clear ow bw kw gw gEw
                go_wp2_with fail
                clear cS hbS hxr1 hxr2 rd0 hkl0
                have p0 := g1.cell' (i := 2) rfl
                have p1 := g1.cell' (i := 3) rfl
                rw [rounds_succ]; go_wp2_with fail
                obtain ⟨y1, hy1⟩ : ∃ z, z = v1.alloc (.cells #[.int .i64 b, .int .i64 a] 85) := ⟨_, rfl⟩
                have gE1 : Blk y1 v1.heap.size 85 #[.int .i64 b, .int .i64 a] := by rw [hy1]; exact Blk.new _ _ _
                have gy1 : Blk y1 z0.heap.size 85 #[.int .i64 a, .int .i64 b, .int .i64 b, .int .i64 a] := by rw [hy1]; exact g1.alloc _
                have oy1 : OwnI y1 w.heap.size (.slice (some ⟨bS, oS, none⟩) S1.length sc0) S1 := by rw [hy1]; exact o1.alloc _
                have ky1 : Blk y1 w.heap.size 26 #[.int .i64 q.v, .slice (some ⟨bF, oF, none⟩) q.f.length c, .slice (some ⟨bT, oT, none⟩) q.t.length d] := by rw [hy1]; exact k1.alloc _
                have by1 : Below w.heap.size w y1 := by rw [hy1]; exact b1.alloc b1.size _
                rw [← hy1]
                clear hy1 p0 p1 o1 k1 b1 g1
                have rd1 := oy1.rd
                obtain ⟨bS2, oS2, xT, hSA, hbS, HXS, cS, hxr1, hxr2⟩ := SlI.at_ (k := k) rd1 (lt_of_some HZ1.out.2)
                injection hSA with hSA
                injection hSA with hSA1 hSA2 _
                subst hSA1 hSA2
                obtain rfl : xS = xT := by have := HXS.out; rw [HZ1.out.2] at this; injection this
                clear HXS
                have qq0 := InB.cell gE1.lt (gE1.cell' (i := 0) rfl)
                have qq1 := InB.cell gE1.lt (gE1.cell' (i := 1) rfl)
                have qqs := InB.cell hbS cS
                have hkl1 := lt_of_some HZ1.out.2
                by_cases hax : b = xS
                · have HAX := Lib.hid hax
                  have hax2 : (b == xS) = true := by simpa using hax
                  clear hax
                  rcases hd : decide (a ∈ S1) with _ | _
                  · have CL : Hid (∀ t : InB y1, Calls Try.prog 77 #[.slice (some ⟨bS, oS, none⟩) S1.length sc0, .int .i64 a] t.val fun e w' => e = .returned (.bool false) ∧ w' = t.val) := by
                      intro t
                      have := contains_any _ S1 a t.val (SlI.next t.below rd1)
                      rwa [hd] at this
                    have HD := Lib.hid hd
                    clear hd
                    go_wp2_with fail
                    (refine wp_region_inB (by kernel_rfl) (by kernel_rfl) ?_; (repeat (go_big_quiet_step ((go_at_call 77; exact InB.call_same (CL.out _))))); refine wpQuiet_nil ?_; intro w1 hw'; obtain ⟨s1, hw1⟩ := hw'; have hb1 := s1.below; rw [← hw1] at hb1; clear hw1 s1)
                    clear qq0 qq1 qqs CL
                    have ow := oy1.below hb1
                    have bw := by1.trans (hb1.mono by1.size)
                    have kw := ky1.call hb1
                    have gw := gy1.call hb1
                    have gEw := gE1.call hb1
                    clear oy1 by1 ky1 gy1 gE1 hb1
                    have e1' := gEw.cell' (i := 1) rfl
                    have hko := ow.alloc (.cells #[.int .i64 a] 3)
                    have hkb := kw.alloc (.cells #[.int .i64 a] 3)
                    have hkg := gw.alloc (.cells #[.int .i64 a] 3)
                    have hbb := bw.alloc bw.size (.cells #[.int .i64 a] 3)
                    have hsz := HZ1.out.1.len hv.2
                    (go_wp2_with (at_builtin; refine Hold.stop ?_)); unfold Hold
                    refine wpList_appI rfl (.tmp 61) (.tmp 64) rfl w.heap.size _ (.slice (some ⟨bS, oS, none⟩) S1.length sc0) S1 rfl hko _ _ _ [a] rfl rfl (SlI.one w1 _ a ⟨by omega, by omega⟩) (by simp only [List.length_singleton]; omega) (by have := bw.size; simp; omega) ?_
                    intro vn v2 on hg1 hv1
                    have k2 := hkb.grown hg1 (hko.blkne hkb (by decide))
                    have g2 := hkg.grown hg1 (hko.blkne hkg (by decide))
                    have b2 := hbb.grown hg1 (by have := bw.size; simp; omega) (fun j hj => (hko.lt j hj).1)
                    clear hko hkb hkg hbb hg1 hv1 e1' ow bw kw gw gEw
                    have hnm : a ∉ S1 := of_decide_eq_false HD.out
                    have HS2 := Lib.hid (show S1 ++ [a] = cnP xS b a S1 by rw [HAX.out, cnP_yes hnm])
                    have HZ2 : Hid (cnOkS q (S1 ++ [a]) ∧ (S1 ++ [a])[k]? = some xS) := ⟨HZ1.out.1.add ra hnm, by rw [List.getElem?_append_left (lt_of_some HZ1.out.2)]; exact HZ1.out.2⟩
                    obtain ⟨S2, hSn⟩ : ∃ z, S1 ++ [a] = z := ⟨_, rfl⟩
                    rw [hSn] at on HS2 HZ2
                    clear hSn
                    have o2 := on
                    clear on
                    obtain ⟨SA2, sc2, hv2, _, _⟩ := o2.form
                    subst hv2
                    go_wp2
                    have HR : Hid (cnR q xS s (j + 1) = S2) := by show _ = _; rw [cnR_succ HF.out HT.out, HS0.out, ← HS1.out, ← HS2.out]
                    rw [rounds_succ]
                    go_wp2
                    go_roundw
                    case rel => exact ⟨j + 1, by omega, by go_num, by rw [HR.out]; exact o2, b2, k2⟩
                    case measure => simp [intOf]; omega

                  · have CL : Hid (∀ t : InB y1, Calls Try.prog 77 #[.slice (some ⟨bS, oS, none⟩) S1.length sc0, .int .i64 a] t.val fun e w' => e = .returned (.bool true) ∧ w' = t.val) := by
                      intro t
                      have := contains_any _ S1 a t.val (SlI.next t.below rd1)
                      rwa [hd] at this
                    have HD := Lib.hid hd
                    clear hd
                    go_wp2_with fail
                    (refine wp_region_inB (by kernel_rfl) (by kernel_rfl) ?_; (repeat (go_big_quiet_step ((go_at_call 77; exact InB.call_same (CL.out _))))); refine wpQuiet_nil ?_; intro w1 hw'; obtain ⟨s1, hw1⟩ := hw'; have hb1 := s1.below; rw [← hw1] at hb1; clear hw1 s1)
                    clear qq0 qq1 qqs CL
                    have ow := oy1.below hb1
                    have bw := by1.trans (hb1.mono by1.size)
                    have kw := ky1.call hb1
                    have gw := gy1.call hb1
                    have gEw := gE1.call hb1
                    clear oy1 by1 ky1 gy1 gE1 hb1
                    have HS2 := Lib.hid (show S1 = cnP xS b a S1 by rw [cnP_mem (of_decide_eq_true HD.out)])
                    have HZ2 := HZ1
                    obtain ⟨S2, hSn⟩ : ∃ z, z = S1 := ⟨_, rfl⟩
                    try rw [← hSn] at HS0
                    try rw [← hSn] at HS1
                    rw [← hSn] at ow HS2 HZ2 ⊢
                    clear hSn
                    obtain ⟨v2, hzn⟩ : ∃ z, z = w1 := ⟨_, rfl⟩
                    subst hzn
                    have o2 := ow
                    have b2 := bw
                    have k2 := kw
                    have g2 := gw
                    clear ow bw kw gw gEw
                    go_wp2_with fail
                    have HR : Hid (cnR q xS s (j + 1) = S2) := by show _ = _; rw [cnR_succ HF.out HT.out, HS0.out, ← HS1.out, ← HS2.out]
                    rw [rounds_succ]
                    go_wp2
                    go_roundw
                    case rel => exact ⟨j + 1, by omega, by go_num, by rw [HR.out]; exact o2, b2, k2⟩
                    case measure => simp [intOf]; omega


                · have HAX := Lib.hid hax
                  have hax2 : (b == xS) = false := by simpa using hax
                  clear hax
                  go_wp2_with fail
                  (refine wp_region_inB (by kernel_rfl) (by kernel_rfl) ?_; (repeat (go_big_quiet_step (fail))); refine wpQuiet_nil ?_; intro w1 hw'; obtain ⟨s1, hw1⟩ := hw'; have hb1 := s1.below; rw [← hw1] at hb1; clear hw1 s1)
                  clear qq0 qq1 qqs
                  have ow := oy1.below hb1
                  have bw := by1.trans (hb1.mono by1.size)
                  have kw := ky1.call hb1
                  have gw := gy1.call hb1
                  have gEw := gE1.call hb1
                  clear oy1 by1 ky1 gy1 gE1 hb1
                  have HS2 := Lib.hid (show S1 = cnP xS b a S1 by rw [cnP_ne HAX.out])
                  have HZ2 := HZ1
                  obtain ⟨S2, hSn⟩ : ∃ z, z = S1 := ⟨_, rfl⟩
                  try rw [← hSn] at HS0
                  try rw [← hSn] at HS1
                  rw [← hSn] at ow HS2 HZ2 ⊢
                  clear hSn
                  obtain ⟨v2, hzn⟩ : ∃ z, z = w1 := ⟨_, rfl⟩
                  subst hzn
                  have o2 := ow
                  have b2 := bw
                  have k2 := kw
                  have g2 := gw
                  clear ow bw kw gw gEw
                  go_wp2_with fail
                  have HR : Hid (cnR q xS s (j + 1) = S2) := by show _ = _; rw [cnR_succ HF.out HT.out, HS0.out, ← HS1.out, ← HS2.out]
                  rw [rounds_succ]
                  go_wp2
                  go_roundw
                  case rel => exact ⟨j + 1, by omega, by go_num, by rw [HR.out]; exact o2, b2, k2⟩
                  case measure => simp [intOf]; omega


            · have HAX := Lib.hid hax
              have hax2 : (a == xS) = false := by simpa using hax
              clear hax
              go_wp2_with fail
              (refine wp_region_inB (by kernel_rfl) (by kernel_rfl) ?_; (repeat (go_big_quiet_step (fail))); refine wpQuiet_nil ?_; intro w1 hw'; obtain ⟨s1, hw1⟩ := hw'; have hb1 := s1.below; rw [← hw1] at hb1; clear hw1 s1)
              clear qq0 qq1 qqs
              have ow := oy0.below hb1
              have bw := by0.trans (hb1.mono by0.size)
              have kw := ky0.call hb1
              have gw := gy0.call hb1
              have gEw := gE0.call hb1
              clear oy0 by0 ky0 gy0 gE0 hb1
              have HS1 := Lib.hid (show S0 = cnP xS a b S0 by rw [cnP_ne HAX.out])
              have HZ1 := HZ0
              obtain ⟨S1, hSn⟩ : ∃ z, z = S0 := ⟨_, rfl⟩
              try rw [← hSn] at HS0
              try rw [← hSn] at HS0
              rw [← hSn] at ow HS1 HZ1 ⊢
              clear hSn
              obtain ⟨v1, hzn⟩ : ∃ z, z = w1 := ⟨_, rfl⟩
              subst hzn
              have o1 := ow
              have b1 := bw
              have k1 := kw
              have g1 := gw
              clear ow bw kw gw gEw
              go_wp2_with fail
              clear cS hbS hxr1 hxr2 rd0 hkl0
              have p0 := g1.cell' (i := 2) rfl
              have p1 := g1.cell' (i := 3) rfl
              rw [rounds_succ]; go_wp2_with fail
              obtain ⟨y1, hy1⟩ : ∃ z, z = v1.alloc (.cells #[.int .i64 b, .int .i64 a] 85) := ⟨_, rfl⟩
              have gE1 : Blk y1 v1.heap.size 85 #[.int .i64 b, .int .i64 a] := by rw [hy1]; exact Blk.new _ _ _
              have gy1 : Blk y1 z0.heap.size 85 #[.int .i64 a, .int .i64 b, .int .i64 b, .int .i64 a] := by rw [hy1]; exact g1.alloc _
              have oy1 : OwnI y1 w.heap.size (.slice (some ⟨bS, oS, none⟩) S1.length sc0) S1 := by rw [hy1]; exact o1.alloc _
              have ky1 : Blk y1 w.heap.size 26 #[.int .i64 q.v, .slice (some ⟨bF, oF, none⟩) q.f.length c, .slice (some ⟨bT, oT, none⟩) q.t.length d] := by rw [hy1]; exact k1.alloc _
              have by1 : Below w.heap.size w y1 := by rw [hy1]; exact b1.alloc b1.size _
              rw [← hy1]
              clear hy1 p0 p1 o1 k1 b1 g1
              have rd1 := oy1.rd
              obtain ⟨bS2, oS2, xT, hSA, hbS, HXS, cS, hxr1, hxr2⟩ := SlI.at_ (k := k) rd1 (lt_of_some HZ1.out.2)
              injection hSA with hSA
              injection hSA with hSA1 hSA2 _
              subst hSA1 hSA2
              obtain rfl : xS = xT := by have := HXS.out; rw [HZ1.out.2] at this; injection this
              clear HXS
              have qq0 := InB.cell gE1.lt (gE1.cell' (i := 0) rfl)
              have qq1 := InB.cell gE1.lt (gE1.cell' (i := 1) rfl)
              have qqs := InB.cell hbS cS
              have hkl1 := lt_of_some HZ1.out.2
              by_cases hax : b = xS
              · have HAX := Lib.hid hax
                have hax2 : (b == xS) = true := by simpa using hax
                clear hax
                rcases hd : decide (a ∈ S1) with _ | _
                · have CL : Hid (∀ t : InB y1, Calls Try.prog 77 #[.slice (some ⟨bS, oS, none⟩) S1.length sc0, .int .i64 a] t.val fun e w' => e = .returned (.bool false) ∧ w' = t.val) := by
                    intro t
                    have := contains_any _ S1 a t.val (SlI.next t.below rd1)
                    rwa [hd] at this
                  have HD := Lib.hid hd
                  clear hd
                  go_wp2_with fail
                  (refine wp_region_inB (by kernel_rfl) (by kernel_rfl) ?_; (repeat (go_big_quiet_step ((go_at_call 77; exact InB.call_same (CL.out _))))); refine wpQuiet_nil ?_; intro w1 hw'; obtain ⟨s1, hw1⟩ := hw'; have hb1 := s1.below; rw [← hw1] at hb1; clear hw1 s1)
                  clear qq0 qq1 qqs CL
                  have ow := oy1.below hb1
                  have bw := by1.trans (hb1.mono by1.size)
                  have kw := ky1.call hb1
                  have gw := gy1.call hb1
                  have gEw := gE1.call hb1
                  clear oy1 by1 ky1 gy1 gE1 hb1
                  have e1' := gEw.cell' (i := 1) rfl
                  have hko := ow.alloc (.cells #[.int .i64 a] 3)
                  have hkb := kw.alloc (.cells #[.int .i64 a] 3)
                  have hkg := gw.alloc (.cells #[.int .i64 a] 3)
                  have hbb := bw.alloc bw.size (.cells #[.int .i64 a] 3)
                  have hsz := HZ1.out.1.len hv.2
                  (go_wp2_with (at_builtin; refine Hold.stop ?_)); unfold Hold
                  refine wpList_appI rfl (.tmp 61) (.tmp 64) rfl w.heap.size _ (.slice (some ⟨bS, oS, none⟩) S1.length sc0) S1 rfl hko _ _ _ [a] rfl rfl (SlI.one w1 _ a ⟨by omega, by omega⟩) (by simp only [List.length_singleton]; omega) (by have := bw.size; simp; omega) ?_
                  intro vn v2 on hg1 hv1
                  have k2 := hkb.grown hg1 (hko.blkne hkb (by decide))
                  have g2 := hkg.grown hg1 (hko.blkne hkg (by decide))
                  have b2 := hbb.grown hg1 (by have := bw.size; simp; omega) (fun j hj => (hko.lt j hj).1)
                  clear hko hkb hkg hbb hg1 hv1 e1' ow bw kw gw gEw
                  have hnm : a ∉ S1 := of_decide_eq_false HD.out
                  have HS2 := Lib.hid (show S1 ++ [a] = cnP xS b a S1 by rw [HAX.out, cnP_yes hnm])
                  have HZ2 : Hid (cnOkS q (S1 ++ [a]) ∧ (S1 ++ [a])[k]? = some xS) := ⟨HZ1.out.1.add ra hnm, by rw [List.getElem?_append_left (lt_of_some HZ1.out.2)]; exact HZ1.out.2⟩
                  obtain ⟨S2, hSn⟩ : ∃ z, S1 ++ [a] = z := ⟨_, rfl⟩
                  rw [hSn] at on HS2 HZ2
                  clear hSn
                  have o2 := on
                  clear on
                  obtain ⟨SA2, sc2, hv2, _, _⟩ := o2.form
                  subst hv2
                  go_wp2
                  have HR : Hid (cnR q xS s (j + 1) = S2) := by show _ = _; rw [cnR_succ HF.out HT.out, HS0.out, ← HS1.out, ← HS2.out]
                  rw [rounds_succ]
                  go_wp2
                  go_roundw
                  case rel => exact ⟨j + 1, by omega, by go_num, by rw [HR.out]; exact o2, b2, k2⟩
                  case measure => simp [intOf]; omega

                · have CL : Hid (∀ t : InB y1, Calls Try.prog 77 #[.slice (some ⟨bS, oS, none⟩) S1.length sc0, .int .i64 a] t.val fun e w' => e = .returned (.bool true) ∧ w' = t.val) := by
                    intro t
                    have := contains_any _ S1 a t.val (SlI.next t.below rd1)
                    rwa [hd] at this
                  have HD := Lib.hid hd
                  clear hd
                  go_wp2_with fail
                  (refine wp_region_inB (by kernel_rfl) (by kernel_rfl) ?_; (repeat (go_big_quiet_step ((go_at_call 77; exact InB.call_same (CL.out _))))); refine wpQuiet_nil ?_; intro w1 hw'; obtain ⟨s1, hw1⟩ := hw'; have hb1 := s1.below; rw [← hw1] at hb1; clear hw1 s1)
                  clear qq0 qq1 qqs CL
                  have ow := oy1.below hb1
                  have bw := by1.trans (hb1.mono by1.size)
                  have kw := ky1.call hb1
                  have gw := gy1.call hb1
                  have gEw := gE1.call hb1
                  clear oy1 by1 ky1 gy1 gE1 hb1
                  have HS2 := Lib.hid (show S1 = cnP xS b a S1 by rw [cnP_mem (of_decide_eq_true HD.out)])
                  have HZ2 := HZ1
                  obtain ⟨S2, hSn⟩ : ∃ z, z = S1 := ⟨_, rfl⟩
                  try rw [← hSn] at HS0
                  try rw [← hSn] at HS1
                  rw [← hSn] at ow HS2 HZ2 ⊢
                  clear hSn
                  obtain ⟨v2, hzn⟩ : ∃ z, z = w1 := ⟨_, rfl⟩
                  subst hzn
                  have o2 := ow
                  have b2 := bw
                  have k2 := kw
                  have g2 := gw
                  clear ow bw kw gw gEw
                  go_wp2_with fail
                  have HR : Hid (cnR q xS s (j + 1) = S2) := by show _ = _; rw [cnR_succ HF.out HT.out, HS0.out, ← HS1.out, ← HS2.out]
                  rw [rounds_succ]
                  go_wp2
                  go_roundw
                  case rel => exact ⟨j + 1, by omega, by go_num, by rw [HR.out]; exact o2, b2, k2⟩
                  case measure => simp [intOf]; omega


              · have HAX := Lib.hid hax
                have hax2 : (b == xS) = false := by simpa using hax
                clear hax
                go_wp2_with fail
                (refine wp_region_inB (by kernel_rfl) (by kernel_rfl) ?_; (repeat (go_big_quiet_step (fail))); refine wpQuiet_nil ?_; intro w1 hw'; obtain ⟨s1, hw1⟩ := hw'; have hb1 := s1.below; rw [← hw1] at hb1; clear hw1 s1)
                clear qq0 qq1 qqs
                have ow := oy1.below hb1
                have bw := by1.trans (hb1.mono by1.size)
                have kw := ky1.call hb1
                have gw := gy1.call hb1
                have gEw := gE1.call hb1
                clear oy1 by1 ky1 gy1 gE1 hb1
                have HS2 := Lib.hid (show S1 = cnP xS b a S1 by rw [cnP_ne HAX.out])
                have HZ2 := HZ1
                obtain ⟨S2, hSn⟩ : ∃ z, z = S1 := ⟨_, rfl⟩
                try rw [← hSn] at HS0
                try rw [← hSn] at HS1
                rw [← hSn] at ow HS2 HZ2 ⊢
                clear hSn
                obtain ⟨v2, hzn⟩ : ∃ z, z = w1 := ⟨_, rfl⟩
                subst hzn
                have o2 := ow
                have b2 := bw
                have k2 := kw
                have g2 := gw
                clear ow bw kw gw gEw
                go_wp2_with fail
                have HR : Hid (cnR q xS s (j + 1) = S2) := by show _ = _; rw [cnR_succ HF.out HT.out, HS0.out, ← HS1.out, ← HS2.out]
                rw [rounds_succ]
                go_wp2
                go_roundw
                case rel => exact ⟨j + 1, by omega, by go_num, by rw [HR.out]; exact o2, b2, k2⟩
                case measure => simp [intOf]; omega

          · obtain rfl : j = q.f.length := by omega
            have hge : Hid (k + 1 ≤ (cnR q xS s q.f.length).length ∧ cnOkS q (cnR q xS s q.f.length) ∧ cnG q (6 - (k + 1)) (cnR q xS s q.f.length) (k + 1) = cnG q 6 [0] 0) := by
              refine ⟨?_, cnR_ok hq0 HO.out.1 _, ?_⟩
              · have := lt_of_some (cnR_get (q := q) (x := xS) (j := q.f.length) HX.out); omega
              · rw [← HO.out.2, show 6 - k = (6 - (k + 1)) + 1 by omega, cnG_step HX.out]
            obtain ⟨SA0, sc0, hv0, _, _⟩ := o0.form
            subst hv0
            go_wp2
            go_roundw
            case rel => exact ⟨k + 1, _, hge.out.1, by go_num, o0, b0, k0, hge.out.2⟩
            case measure => simp [intOf]; omega
      · obtain rfl : k = s.length := by omega
        have HC : Hid (conQ q = ((s.length : Int) == q.v)) := by
          show _ = _
          rw [conQ, HQ.out, ← HO.out.2, cnG_end (Nat.le_refl _), Bool.true_and]
          rw [Bool.eq_iff_iff]; simp
        go_wp2
        go_ret
        exact ⟨by rw [HC.out]; rfl, hb⟩
end Go.Proofs.Ytaefpblpfjhgoaa

/- DefectOf. -/
namespace Go.Proofs.Ytaefpblpfjhgoaa
set_option linter.unusedVariables false
set_option linter.unusedSimpArgs false
open Go.RowKit

def dfQ (q : Qv) (x : List Int) : Int × Bool := if (nvQ q).2 = true ∧ conQ q = true ∧ isNum q x = true then (eul q (nvQ q).1 x, true) else (0, false)
theorem nvQ_num {q : Qv} (h : (nvQ q).2 = true) : isNum q (nvQ q).1 = true := by
  rw [nvQ] at h ⊢
  split at h
  · rename_i hk
    rw [if_pos hk]
    have hq : isQ q = true := by
      rcases h : isQ q with _ | _
      · simp [kindQ, h] at hk
      · rfl
    rcases nvB_or q q.v.toNat (5 ^ q.v.toNat) with h1 | ⟨c, h1⟩
    · rw [h1] at h; simp at h
    · show isNum q (nvB q q.v.toNat (5 ^ q.v.toNat)) = true
      rw [h1]; exact isNum_bx hq c
  · cases h
set_option maxRecDepth 100000 in
set_option maxHeartbeats 1600000 in
theorem specDefectOf_any (u xv : Value) (q : Qv) (x : List Int) (w : World) (hu : QvR w w.heap.size u q) (hx : SlI w w.heap.size xv x) :
    Calls Try.prog 19 #[u, xv] w fun e w' => e = .returned (.tuple #[.int .i64 (dfQ q x).1, .bool (dfQ q x).2]) ∧ Below w.heap.size w w' := by
  have hu' := hu
  have hx' := hx
  obtain ⟨A, c, C, d, rfl, hf, ht, hr, _⟩ := hu.open_
  obtain ⟨XA, xc, rfl, _, _, lx, _⟩ := hx.open_
  clear hu hf ht hx
  obtain ⟨W, hW⟩ : ∃ W, W = w.alloc (.cells #[.int .i64 q.v, .slice A q.f.length c, .slice C q.t.length d] 26) := ⟨_, rfl⟩
  have kB : Blk W w.heap.size 26 #[.int .i64 q.v, .slice A q.f.length c, .slice C q.t.length d] := by rw [hW]; exact Blk.new _ _ _
  have g0 : Below w.heap.size w W := by rw [hW]; exact below_alloc _ _
  have hq1 := QvR.next g0 hu'
  have hx1 := SlI.next g0 hx'
  have c0 := kB.cell' (i := 0) rfl
  have c1 := kB.cell' (i := 1) rfl
  have c2 := kB.cell' (i := 2) rfl
  have hdf : dfQ q x = if (nvQ q).2 = true ∧ conQ q = true ∧ isNum q x = true then (eul q (nvQ q).1 x, true) else (0, false) := rfl
  have hnn := @nvQ_num q
  rcases hB1 : (nvQ q).2 with _ | _
  · have HF : Hid (dfQ q x = (0, false)) := by show _ = _; rw [hdf, if_neg (fun h => by rw [hB1] at h; cases h.1)]
    have HB1 := Lib.hid hB1
    clear hB1 hdf hnn hu' hx'
    go_enter Try.func19, Try.ntmps19
    go_wp2_with fail
    rw [← hW]; clear hW
    refine (specNullVector_any _ q _ hq1).mono ?_; rintro e w1 ⟨vn, rfl, hN, hb1⟩
    rw [HB1.out]
    go_wp2
    go_ret2
    exact ⟨by rw [HF.out]; rfl, bthen g0 hb1⟩
  · have hn := hnn hB1
    have HB1 := Lib.hid hB1
    rcases hB2 : conQ q with _ | _
    all_goals rcases hB3 : isNum q x with _ | _
    rotate_left 3
    · have HF : Hid (dfQ q x = (eul q (nvQ q).1 x, true)) := by show _ = _; rw [hdf, if_pos ⟨hB1, hB2, hB3⟩]
      have HB2 := Lib.hid hB2
      have HB3 := Lib.hid hB3
      have HNN := Lib.hid hn
      clear hB1 hB2 hB3 hdf hnn hu' hx' hn
      go_enter Try.func19, Try.ntmps19
      go_wp2_with fail
      rw [← hW]; clear hW
      refine (specNullVector_any _ q _ hq1).mono ?_; rintro e w1 ⟨vn, rfl, hN, hb1⟩
      rw [HB1.out]
      have kB1 := kB.call hb1
      have hq2 := QvR.next hb1 hq1
      have hx2 := SlI.next hb1 hx1
      have hN2 := hN.rd
      obtain ⟨nn, hnn⟩ : ∃ z, (nvQ q).1 = z := ⟨_, rfl⟩
      rw [hnn] at HF HNN hN2
      have g1 := bthen g0 hb1
      clear c0 c1 c2 kB hq1 hx1 hN hnn g0 hb1
      have c0 := kB1.cell' (i := 0) rfl
      have c1 := kB1.cell' (i := 1) rfl
      have c2 := kB1.cell' (i := 2) rfl
      go_wp2_with fail
      refine (l18Vector_any _ _ q x _ hq2 hx2).mono ?_; rintro e w2 ⟨rfl, hb2⟩
      try rw [HB2.out]
      try rw [HB3.out]
      have kB2 := kB1.call hb2
      replace hq2 := QvR.next hb2 hq2
      replace hx2 := SlI.next hb2 hx2
      replace hN2 := SlI.next hb2 hN2
      have g2 := bthen g1 hb2
      clear c0 c1 c2 kB1 g1 hb2
      have c0 := kB2.cell' (i := 0) rfl
      have c1 := kB2.cell' (i := 1) rfl
      have c2 := kB2.cell' (i := 2) rfl
      go_wp2_with fail
      refine (specConnected_any _ q _ hq2).mono ?_; rintro e w3 ⟨rfl, hb3⟩
      try rw [HB2.out]
      try rw [HB3.out]
      have kB3 := kB2.call hb3
      replace hq2 := QvR.next hb3 hq2
      replace hx2 := SlI.next hb3 hx2
      replace hN2 := SlI.next hb3 hN2
      have g3 := bthen g2 hb3
      clear c0 c1 c2 kB2 g2 hb3
      have c0 := kB3.cell' (i := 0) rfl
      have c1 := kB3.cell' (i := 1) rfl
      have c2 := kB3.cell' (i := 2) rfl
      go_wp2_with fail
      refine (eulerForm_any _ _ _ q nn x _ hq2 hN2 hx2 HNN.out HB3.out).mono ?_; rintro e w4 ⟨rfl, hb4⟩
      go_wp2
      go_ret2
      exact ⟨by rw [HF.out]; rfl, bthen g3 hb4⟩
    all_goals
      have HF : Hid (dfQ q x = (0, false)) := by show _ = _; rw [hdf, if_neg (fun h => by rw [hB2, hB3] at h; simp at h)]
      have HB2 := Lib.hid hB2
      have HB3 := Lib.hid hB3
      clear hB1 hB2 hB3 hdf hnn hu' hx' hn
      go_enter Try.func19, Try.ntmps19
      go_wp2_with fail
      rw [← hW]; clear hW
      refine (specNullVector_any _ q _ hq1).mono ?_; rintro e w1 ⟨vn, rfl, hN, hb1⟩
      rw [HB1.out]
      have kB1 := kB.call hb1
      have hq2 := QvR.next hb1 hq1
      have hx2 := SlI.next hb1 hx1
      have g1 := bthen g0 hb1
      clear c0 c1 c2 kB hq1 hx1 hN g0 hb1
      have c0 := kB1.cell' (i := 0) rfl
      have c1 := kB1.cell' (i := 1) rfl
      have c2 := kB1.cell' (i := 2) rfl
      go_wp2_with fail
      refine (l18Vector_any _ _ q x _ hq2 hx2).mono ?_; rintro e w2 ⟨rfl, hb2⟩
      try rw [HB2.out]
      try rw [HB3.out]
      have kB2 := kB1.call hb2
      replace hq2 := QvR.next hb2 hq2
      replace hx2 := SlI.next hb2 hx2
      have g2 := bthen g1 hb2
      clear c0 c1 c2 kB1 g1 hb2
      have c0 := kB2.cell' (i := 0) rfl
      have c1 := kB2.cell' (i := 1) rfl
      have c2 := kB2.cell' (i := 2) rfl
      first
        | (go_wp2
           go_ret2
           exact ⟨by rw [HF.out]; rfl, g2⟩)
        | (go_wp2_with fail
           refine (specConnected_any _ q _ hq2).mono ?_; rintro e w3 ⟨rfl, hb3⟩
           try rw [HB2.out]
           try rw [HB3.out]
           go_wp2
           go_ret2
           exact ⟨by rw [HF.out]; rfl, bthen g2 hb3⟩)
set_option maxRecDepth 100000 in
set_option maxHeartbeats 1600000 in
theorem implDefectOf_any (u xv : Value) (q : Qv) (x : List Int) (w : World) (hu : QvR w w.heap.size u q) (hx : SlI w w.heap.size xv x) :
    Calls Try.prog 18 #[u, xv] w fun e w' => e = .returned (.tuple #[.int .i64 (dfQ q x).1, .bool (dfQ q x).2]) ∧ Below w.heap.size w w' := by
  have hu' := hu
  have hx' := hx
  obtain ⟨A, c, C, d, rfl, hf, ht, hr, _⟩ := hu.open_
  obtain ⟨XA, xc, rfl, _, _, lx, _⟩ := hx.open_
  clear hu hf ht hx
  obtain ⟨W, hW⟩ : ∃ W, W = w.alloc (.cells #[.int .i64 q.v, .slice A q.f.length c, .slice C q.t.length d] 26) := ⟨_, rfl⟩
  have kB : Blk W w.heap.size 26 #[.int .i64 q.v, .slice A q.f.length c, .slice C q.t.length d] := by rw [hW]; exact Blk.new _ _ _
  have g0 : Below w.heap.size w W := by rw [hW]; exact below_alloc _ _
  have hq1 := QvR.next g0 hu'
  have hx1 := SlI.next g0 hx'
  have c0 := kB.cell' (i := 0) rfl
  have c1 := kB.cell' (i := 1) rfl
  have c2 := kB.cell' (i := 2) rfl
  have hdf : dfQ q x = if (nvQ q).2 = true ∧ conQ q = true ∧ isNum q x = true then (eul q (nvQ q).1 x, true) else (0, false) := rfl
  have hnn := @nvQ_num q
  rcases hB1 : (nvQ q).2 with _ | _
  · have HF : Hid (dfQ q x = (0, false)) := by show _ = _; rw [hdf, if_neg (fun h => by rw [hB1] at h; cases h.1)]
    have HB1 := Lib.hid hB1
    clear hB1 hdf hnn hu' hx'
    go_enter Try.func18, Try.ntmps18
    go_wp2_with fail
    rw [← hW]; clear hW
    refine (implNullVector_any _ q _ hq1).mono ?_; rintro e w1 ⟨vn, rfl, hN, hb1⟩
    rw [HB1.out]
    go_wp2
    go_ret2
    exact ⟨by rw [HF.out]; rfl, bthen g0 hb1⟩
  · have hn := hnn hB1
    have HB1 := Lib.hid hB1
    rcases hB2 : conQ q with _ | _
    all_goals rcases hB3 : isNum q x with _ | _
    rotate_left 3
    · have HF : Hid (dfQ q x = (eul q (nvQ q).1 x, true)) := by show _ = _; rw [hdf, if_pos ⟨hB1, hB2, hB3⟩]
      have HB2 := Lib.hid hB2
      have HB3 := Lib.hid hB3
      have HNN := Lib.hid hn
      clear hB1 hB2 hB3 hdf hnn hu' hx' hn
      go_enter Try.func18, Try.ntmps18
      go_wp2_with fail
      rw [← hW]; clear hW
      refine (implNullVector_any _ q _ hq1).mono ?_; rintro e w1 ⟨vn, rfl, hN, hb1⟩
      rw [HB1.out]
      have kB1 := kB.call hb1
      have hq2 := QvR.next hb1 hq1
      have hx2 := SlI.next hb1 hx1
      have hN2 := hN.rd
      obtain ⟨nn, hnn⟩ : ∃ z, (nvQ q).1 = z := ⟨_, rfl⟩
      rw [hnn] at HF HNN hN2
      have g1 := bthen g0 hb1
      clear c0 c1 c2 kB hq1 hx1 hN hnn g0 hb1
      have c0 := kB1.cell' (i := 0) rfl
      have c1 := kB1.cell' (i := 1) rfl
      have c2 := kB1.cell' (i := 2) rfl
      go_wp2_with fail
      refine (implConnected_any _ q _ hq2).mono ?_; rintro e w2 ⟨rfl, hb2⟩
      try rw [HB2.out]
      try rw [HB3.out]
      have kB2 := kB1.call hb2
      replace hq2 := QvR.next hb2 hq2
      replace hx2 := SlI.next hb2 hx2
      replace hN2 := SlI.next hb2 hN2
      have g2 := bthen g1 hb2
      clear c0 c1 c2 kB1 g1 hb2
      have c0 := kB2.cell' (i := 0) rfl
      have c1 := kB2.cell' (i := 1) rfl
      have c2 := kB2.cell' (i := 2) rfl
      go_wp2_with fail
      refine (areNumbers_any _ _ q x _ hq2 hx2).mono ?_; rintro e w3 ⟨rfl, hb3⟩
      try rw [HB2.out]
      try rw [HB3.out]
      have kB3 := kB2.call hb3
      replace hq2 := QvR.next hb3 hq2
      replace hx2 := SlI.next hb3 hx2
      replace hN2 := SlI.next hb3 hN2
      have g3 := bthen g2 hb3
      clear c0 c1 c2 kB2 g2 hb3
      have c0 := kB3.cell' (i := 0) rfl
      have c1 := kB3.cell' (i := 1) rfl
      have c2 := kB3.cell' (i := 2) rfl
      go_wp2_with fail
      refine (euler_any _ _ _ q nn x _ hq2 hN2 hx2 (isNum_t.1 HB3.out).1 (isNum_len HNN.out) (isNum_len HB3.out) (isNum_small HNN.out) (isNum_small HB3.out)).mono ?_; rintro e w4 ⟨rfl, hb4⟩
      go_wp2
      go_ret2
      exact ⟨by rw [HF.out]; rfl, bthen g3 hb4⟩
    all_goals
      have HF : Hid (dfQ q x = (0, false)) := by show _ = _; rw [hdf, if_neg (fun h => by rw [hB2, hB3] at h; simp at h)]
      have HB2 := Lib.hid hB2
      have HB3 := Lib.hid hB3
      clear hB1 hB2 hB3 hdf hnn hu' hx' hn
      go_enter Try.func18, Try.ntmps18
      go_wp2_with fail
      rw [← hW]; clear hW
      refine (implNullVector_any _ q _ hq1).mono ?_; rintro e w1 ⟨vn, rfl, hN, hb1⟩
      rw [HB1.out]
      have kB1 := kB.call hb1
      have hq2 := QvR.next hb1 hq1
      have hx2 := SlI.next hb1 hx1
      have g1 := bthen g0 hb1
      clear c0 c1 c2 kB hq1 hx1 hN g0 hb1
      have c0 := kB1.cell' (i := 0) rfl
      have c1 := kB1.cell' (i := 1) rfl
      have c2 := kB1.cell' (i := 2) rfl
      go_wp2_with fail
      refine (implConnected_any _ q _ hq2).mono ?_; rintro e w2 ⟨rfl, hb2⟩
      try rw [HB2.out]
      try rw [HB3.out]
      have kB2 := kB1.call hb2
      replace hq2 := QvR.next hb2 hq2
      replace hx2 := SlI.next hb2 hx2
      have g2 := bthen g1 hb2
      clear c0 c1 c2 kB1 g1 hb2
      have c0 := kB2.cell' (i := 0) rfl
      have c1 := kB2.cell' (i := 1) rfl
      have c2 := kB2.cell' (i := 2) rfl
      first
        | (go_wp2
           go_ret2
           exact ⟨by rw [HF.out]; rfl, g2⟩)
        | (go_wp2_with fail
           refine (areNumbers_any _ _ q x _ hq2 hx2).mono ?_; rintro e w3 ⟨rfl, hb3⟩
           try rw [HB2.out]
           try rw [HB3.out]
           go_wp2
           go_ret2
           exact ⟨by rw [HF.out]; rfl, bthen g2 hb3⟩)
end Go.Proofs.Ytaefpblpfjhgoaa

/- Reflections and the Coxeter map, plain: a reflection is its own inverse and keeps the form; the Coxeter map carries projectives to the negatives of injectives, its power by a negative number is the inverse, and it keeps defects. -/
namespace Go.Proofs.Ytaefpblpfjhgoaa
set_option linter.unusedVariables false
set_option linter.unusedSimpArgs false
open Go.RowKit

theorem refl_yes {q : Qv} {x : List Int} {v : Int} (h : (reflQ q x v).2 = true) : isNum q x = true ∧ (0 ≤ v ∧ v ≤ q.v - 1) ∧ loopQ q v = false ∧ reflQ q x v = (reflL q x v.toNat, true) := by
  unfold reflQ at h ⊢
  split at h
  · rename_i hc
    rw [if_pos hc]
    simp only [Bool.and_eq_true, Bool.not_eq_true', inR_t] at hc
    exact ⟨hc.1.1, hc.1.2, hc.2, rfl⟩
  · cases h
theorem ent_diag {q : Qv} (hq : isQ q = true) {v : Int} (h0 : 0 ≤ v) (hl : loopQ q v = false) : ent q q.f.length v.toNat v.toNat = 2 := by
  have := loop_ent (q := q) (v := v.toNat) (isQ_t.1 hq).2.1
  rw [show ((v.toNat : Nat) : Int) = v by omega, hl] at this
  simpa using this
theorem rf_mv {n : Nat} {g : Nat → Nat → Int} {v : Nat} (hv : v < n) (hd : g v v = 2) (x : Nat → Int) : (sm n fun b => g v b * rfF n g x v b) = - sm n fun b => g v b * x b := by
  rw [rfF, sm_mv (h := g v) hv x, hd]; omega
theorem rf_inv {n : Nat} {g : Nat → Nat → Int} {v : Nat} (hv : v < n) (hd : g v v = 2) (x : Nat → Int) : rfF n g (rfF n g x v) v = x := by
  funext i
  rw [rfF, rf_mv hv hd]
  unfold rfF mvF
  split <;> omega
theorem bil_mv1 {n : Nat} {g : Nat → Nat → Int} (hs : ∀ a b, g a b = g b a) {v : Nat} (hv : v < n) (hd : g v v = 2) (x : Nat → Int) (c : Int) : bil n g (mvF x v c) (mvF x v c) = bil n g x x - 2 * c * (sm n fun b => g v b * x b) + 2 * c * c := by
  let d : Nat → Int := fun i => if i = v then 1 else 0
  have hdx : ∀ y : Nat → Int, bil n g d y = sm n fun b => g v b * y b := by
    intro y
    rw [bil_row, sm_one (k := v) n hv]
    · simp [d]
    · intro i _ hi; simp [d, hi]
  have hdd : bil n g d d = 2 := by
    rw [hdx, sm_one (k := v) n hv]
    · simp [d, hd]
    · intro i _ hi; simp [d, hi]
  have e1 : bil n g (mvF x v c) (mvF x v c) = bil n g (fun a => x a - c * d a) (fun a => x a - c * d a) := by
    apply bil_congr (fun _ _ _ _ => rfl) <;> intro a _ <;> simp only [mvF, d] <;> split <;> simp
  rw [e1, bil_subl n g x (fun a => c * d a), bil_mull, bil_symm hs x, bil_symm hs d, bil_subl, bil_subl, bil_mull, bil_mull, hdd, bil_symm hs x d, hdx]
  grind
theorem vx_reflL {q : Qv} {x : List Int} {v : Nat} (hx : x.length = q.v.toNat) (hv : v < q.v.toNat) : vx (reflL q x v) = rfF q.v.toNat (ent q q.f.length) (vx x) v := by
  funext i
  rw [vx_refl q x v (by omega), hx]; rfl
theorem num_len {q : Qv} {x : List Int} (h : isNum q x = true) : isQ q = true ∧ x.length = q.v.toNat ∧ 1 ≤ q.v := by
  obtain ⟨h1, h2, _⟩ := isNum_t.1 h
  have := (isQ_t.1 h1).1
  exact ⟨h1, by omega, by omega⟩
/-- A reflection is its own inverse. -/
theorem refl_back {q : Qv} {x : List Int} {v : Int} (h : (reflQ q x v).2 = true) (hz : ∀ y ∈ (reflQ q x v).1, -100 ≤ y ∧ y ≤ 100) :
    isNum q (reflQ q x v).1 = true ∧ reflQ q (reflQ q x v).1 v = (x, true) ∧ eul q (reflQ q x v).1 (reflQ q x v).1 = eul q x x := by
  obtain ⟨hn, hv, hl, e⟩ := refl_yes h
  obtain ⟨hq, hx, hv1⟩ := num_len hn
  rw [e] at hz ⊢
  have hvt : v.toNat < q.v.toNat := by omega
  have hd := ent_diag hq hv.1 hl
  have hlen : (reflL q x v.toNat).length = q.v.toNat := by rw [reflL_length, hx]
  have hnum : isNum q (reflL q x v.toNat) = true := isNum_t.2 ⟨hq, by omega, hz⟩
  have hvx := vx_reflL hx hvt
  refine ⟨hnum, ?_, ?_⟩
  · rw [reflQ, hnum, hl, show inR v 0 (q.v - 1) = true from inR_t.2 hv]
    show (reflL q (reflL q x v.toNat) v.toNat, true) = _
    congr 1
    apply vx_ext (by rw [reflL_length, hlen, hx])
    intro i _
    rw [vx_reflL hlen hvt, hvx, rf_inv hvt hd]
  · have h1 := eul_two hq (reflL q x v.toNat) (reflL q x v.toNat)
    have h2 := eul_two hq x x
    rw [hvx, rfF, bil_mv1 (ent_symm q) hvt hd] at h1
    grind
theorem refl_inv {q : Qv} {x z : List Int} {v : Int} (h : reflQ q x v = (z, true)) (hz : (reflQ q z v).2 = true) : reflQ q z v = (x, true) := by
  have h1 : (reflQ q x v).2 = true := by rw [h]
  have h2 := refl_back h1
  rw [h] at h2
  obtain ⟨hn, _⟩ := refl_yes hz
  exact (h2 (isNum_t.1 hn).2.2).2.1
theorem wordGo_app {q : Qv} : ∀ (a b x : List Int), wordGo q x (a ++ b) = if (wordGo q x a).2 then wordGo q (wordGo q x a).1 b else ([], false)
  | [], b, x => rfl
  | v :: r, b, x => by
    rw [List.cons_append, wordGo]
    rcases h : (reflQ q x v).2 with _ | _
    · have e : wordGo q x (v :: r) = ([], false) := by rw [wordGo, h]; rfl
      rw [e]; rfl
    · have e : wordGo q x (v :: r) = wordGo q (reflQ q x v).1 r := by rw [wordGo, h]; rfl
      rw [e]; exact wordGo_app r b _
/-- the reversed word is the inverse, where both are defined -/
theorem word_back {q : Qv} : ∀ (wd x y : List Int), wordGo q x wd = (y, true) → (wordGo q y wd.reverse).2 = true → wordGo q y wd.reverse = (x, true)
  | [], x, y, h, _ => by
    rw [wordGo] at h; injection h with h; rw [h]; rfl
  | v :: r, x, y, h, hb => by
    rw [wordGo] at h
    rcases hr : (reflQ q x v).2 with _ | _
    · rw [hr] at h; simp at h
    · rw [hr] at h
      have h' : wordGo q (reflQ q x v).1 r = (y, true) := h
      rw [List.reverse_cons, wordGo_app] at hb ⊢
      rcases hc : (wordGo q y r.reverse).2 with _ | _
      · rw [hc] at hb; simp at hb
      · have ih := word_back r _ _ h' hc
        rw [ih] at hb ⊢
        simp only [if_true] at hb ⊢
        rw [wordGo] at hb ⊢
        rcases hz : (reflQ q (reflQ q x v).1 v).2 with _ | _
        · rw [hz] at hb; simp at hb
        · have e : reflQ q x v = ((reflQ q x v).1, true) := by rw [← hr]
          have := refl_inv e hz
          rw [this]; rfl
theorem wordQ_yes {q : Qv} {x wd : List Int} (h : (wordQ q x wd).2 = true) : wordQ q x wd = wordGo q x wd ∧ isNum q x = true ∧ wd.length ≤ 200 := by
  unfold wordQ at h ⊢
  split at h
  · rename_i hc
    simp only [Bool.and_eq_true, decide_eq_true_eq] at hc
    rw [if_pos (by simpa using hc)]
    exact ⟨rfl, hc⟩
  · cases h
theorem wordQ_back {q : Qv} {x y wd : List Int} (h : wordQ q x wd = (y, true)) (hb : (wordQ q y wd.reverse).2 = true) : wordQ q y wd.reverse = (x, true) := by
  have h1 := (wordQ_yes (by rw [h] : (wordQ q x wd).2 = true)).1
  have h2 := (wordQ_yes hb).1
  rw [h2] at hb ⊢
  rw [h1] at h
  exact word_back wd x y h hb
theorem powGo_app {q : Qv} {wd : List Int} : ∀ (n m : Nat) (x : List Int), powGo q wd x (n + m) = if (powGo q wd x n).2 then powGo q wd (powGo q wd x n).1 m else ([], false)
  | 0, m, x => by rw [Nat.zero_add]; rfl
  | n + 1, m, x => by
    rw [show n + 1 + m = (n + m) + 1 by omega, powGo]
    rcases h : (wordQ q x wd).2 with _ | _
    · have e : powGo q wd x (n + 1) = ([], false) := by rw [powGo, h]; rfl
      rw [e]; rfl
    · have e : powGo q wd x (n + 1) = powGo q wd (wordQ q x wd).1 n := by rw [powGo, h]; rfl
      rw [e]; exact powGo_app n m _
theorem powGo_back {q : Qv} {wd : List Int} : ∀ (n : Nat) (x y : List Int), powGo q wd x n = (y, true) → (powGo q wd.reverse y n).2 = true → powGo q wd.reverse y n = (x, true)
  | 0, x, y, h, _ => by rw [powGo] at h ⊢; injection h with h; rw [h]
  | n + 1, x, y, h, hb => by
    rw [powGo] at h
    rcases hr : (wordQ q x wd).2 with _ | _
    · rw [hr] at h; simp at h
    · rw [hr] at h
      have h' : powGo q wd (wordQ q x wd).1 n = (y, true) := h
      rw [powGo_app] at hb ⊢
      rcases hc : (powGo q wd.reverse y n).2 with _ | _
      · rw [hc] at hb; simp at hb
      · have ih := powGo_back n _ _ h' hc
        rw [ih] at hb ⊢
        simp only [if_true] at hb ⊢
        rw [powGo] at hb ⊢
        rcases hz : (wordQ q (wordQ q x wd).1 wd.reverse).2 with _ | _
        · rw [hz] at hb; simp at hb
        · have e : wordQ q x wd = ((wordQ q x wd).1, true) := by rw [← hr]
          rw [wordQ_back e hz]; rfl
theorem coxP_yes {q : Qv} {x : List Int} {n : Int} (h : (coxP q x n).2 = true) : coxP q x n = powGo q (if n < 0 then (ordQ q).1 else (ordQ q).1.reverse) x n.natAbs ∧ (ordQ q).2 = true ∧ isNum q x = true := by
  unfold coxP at h ⊢
  split at h
  · rename_i hc
    rw [if_pos hc]
    simp only [Bool.and_eq_true] at hc
    exact ⟨rfl, hc.1.1, hc.1.2⟩
  · cases h
/-- **The power by -n is the inverse.** -/
theorem cox_back {q : Qv} {x y : List Int} {n : Int} (h : coxP q x n = (y, true)) (hb : (coxP q y (-n)).2 = true) : coxP q y (-n) = (x, true) := by
  have h1 := (coxP_yes (by rw [h] : (coxP q x n).2 = true)).1
  have h2 := (coxP_yes hb).1
  rw [h2] at hb ⊢
  rw [h1] at h
  rw [Int.natAbs_neg] at hb ⊢
  rcases Int.lt_trichotomy n 0 with hn | hn | hn
  · rw [if_neg (by omega)] at hb ⊢
    rw [if_pos hn] at h
    exact powGo_back _ _ _ h hb
  · subst hn
    rw [powGo.eq_def] at h ⊢
    simp only [Int.natAbs_zero] at h ⊢
    injection h with h
    rw [h]
  · rw [if_pos (by omega)] at hb ⊢
    rw [if_neg (by omega)] at h
    have := powGo_back _ _ _ h (by rwa [List.reverse_reverse])
    rwa [List.reverse_reverse] at this

/-! ### the Coxeter map -/
/-- the row of the form at v -/
theorem ent_row {q : Qv} (hq : isQ q = true) {v : Nat} (hv : v < q.v.toNat) (x : Nat → Int) : ∀ k, k ≤ q.f.length →
    (sm q.v.toNat fun b => ent q k v b * x b) = 2 * x v - (sm k fun i => if vx q.f i = v then x (vx q.t i).toNat else 0) - sm k fun i => if vx q.t i = v then x (vx q.f i).toNat else 0
  | 0, _ => by
    rw [sm_one (k := v) _ hv fun i hi hn => by rw [ent_zero, if_neg (fun e => hn e.symm)]; simp, ent_zero, if_pos rfl]
    simp [sm]
  | k + 1, hk => by
    obtain ⟨_, hl, _, hf, ht⟩ := isQ_t.1 hq
    have h1 : q.f[k]? = some q.f[k] := List.getElem?_eq_getElem (by omega)
    have h2 : q.t[k]? = some q.t[k] := List.getElem?_eq_getElem (by omega)
    have r1 := hf _ (List.mem_of_getElem? h1)
    have r2 := ht _ (List.mem_of_getElem? h2)
    obtain ⟨u, hu⟩ : ∃ u : Nat, q.f[k] = (u : Int) := ⟨q.f[k].toNat, by omega⟩
    obtain ⟨w, hw⟩ : ∃ w : Nat, q.t[k] = (w : Int) := ⟨q.t[k].toNat, by omega⟩
    rw [hu] at h1 r1
    rw [hw] at h2 r2
    have e1 : vx q.f k = u := vx_some h1
    have e2 : vx q.t k = w := vx_some h2
    have e3 : (sm q.v.toNat fun b => ent q (k + 1) v b * x b) = (sm q.v.toNat fun b => ent q k v b * x b) - (sm q.v.toNat fun b => if v = u ∧ b = w then x b else 0) - sm q.v.toNat fun b => if v = w ∧ b = u then x b else 0 := by
      rw [← sm_sub, ← sm_sub]
      apply sm_congr; intro b _
      rw [ent_succ h1 h2]
      by_cases c1 : v = u ∧ b = w <;> by_cases c2 : v = w ∧ b = u <;> simp only [if_pos, if_neg, c1, c2] <;> simp <;> grind
    have e4 : (sm q.v.toNat fun b => if v = u ∧ b = w then x b else 0) = if (u : Int) = v then x w else 0 := by
      rw [sm_one (k := w) _ (by omega) fun i _ hn => by rw [if_neg (fun e => hn e.2)]]
      by_cases c : v = u
      · rw [if_pos ⟨c, rfl⟩, if_pos (by omega)]
      · rw [if_neg (fun e => c e.1), if_neg (by omega)]
    have e5 : (sm q.v.toNat fun b => if v = w ∧ b = u then x b else 0) = if (w : Int) = v then x u else 0 := by
      rw [sm_one (k := u) _ (by omega) fun i _ hn => by rw [if_neg (fun e => hn e.2)]]
      by_cases c : v = w
      · rw [if_pos ⟨c, rfl⟩, if_pos (by omega)]
      · rw [if_neg (fun e => c e.1), if_neg (by omega)]
    rw [e3, ent_row hq hv x k (by omega), e4, e5]
    simp only [sm, e1, e2, Int.toNat_natCast]
    omega
theorem wF_app {n : Nat} {g : Nat → Nat → Int} : ∀ (a b : List Nat) (x : Nat → Int), wF n g x (a ++ b) = wF n g (wF n g x a) b
  | [], _, _ => rfl
  | v :: r, b, x => by rw [List.cons_append, wF, wF, wF_app r b]
/-- what the reversed order of an acyclic quiver does, vertex by vertex -/
theorem cox_fn {q : Qv} (hq : isQ q = true) {r : List Nat} (hn : r.Nodup) (hr : ∀ v ∈ r, v < q.v.toNat)
    (hord : ∀ (r1 : List Nat) (v : Nat) (r2 : List Nat), r = r1 ++ v :: r2 → ∀ i, i < q.f.length → (vx q.f i = (v : Int) → (vx q.t i).toNat ∈ r1) ∧ (vx q.t i = (v : Int) → (vx q.f i).toNat ∈ r2)) (x : Nat → Int) :
    ∀ v ∈ r, wF q.v.toNat (ent q q.f.length) x r v = - x v + (sm q.f.length fun i => if vx q.f i = v then wF q.v.toNat (ent q q.f.length) x r (vx q.t i).toNat else 0) + sm q.f.length fun i => if vx q.t i = v then x (vx q.f i).toNat else 0 := by
  intro v hv
  obtain ⟨r1, r2, e⟩ := List.append_of_mem hv
  have ho := hord r1 v r2 e
  rw [e, List.nodup_append] at hn
  obtain ⟨n1, n2, n3⟩ := hn
  rw [List.nodup_cons] at n2
  have hv1 : v ∉ r1 := fun h => n3 v h v (by simp) rfl
  obtain ⟨z, hz⟩ : ∃ z, wF q.v.toNat (ent q q.f.length) x r1 = z := ⟨_, rfl⟩
  have zv : z v = x v := by rw [← hz]; exact wF_out r1 x hv1
  have hy : ∀ u, u ∉ v :: r2 → wF q.v.toNat (ent q q.f.length) x r u = z u := fun u hu => by rw [e, wF_app, hz]; exact wF_out _ _ hu
  have h1 : wF q.v.toNat (ent q q.f.length) x r v = z v - sm q.v.toNat fun b => ent q q.f.length v b * z b := by
    rw [e, wF_app, hz, wF, wF_out _ _ n2.1, rfF, mvF, if_pos rfl]
  have s1 : (sm q.f.length fun i => if vx q.f i = v then wF q.v.toNat (ent q q.f.length) x r (vx q.t i).toNat else 0) = sm q.f.length fun i => if vx q.f i = v then z (vx q.t i).toNat else 0 := by
    apply sm_congr; intro i hi
    by_cases c : vx q.f i = (v : Int)
    · rw [if_pos c, if_pos c]
      have hm := (ho i hi).1 c
      exact hy _ fun h => by
        exact n3 _ hm _ h rfl
    · rw [if_neg c, if_neg c]
  have s2 : (sm q.f.length fun i => if vx q.t i = v then z (vx q.f i).toNat else 0) = sm q.f.length fun i => if vx q.t i = v then x (vx q.f i).toNat else 0 := by
    apply sm_congr; intro i hi
    by_cases c : vx q.t i = (v : Int)
    · rw [if_pos c, if_pos c, ← hz]
      have hm := (ho i hi).2 c
      exact wF_out r1 x fun h => n3 _ h _ (by simp [hm]) rfl
    · rw [if_neg c, if_neg c]
  rw [h1, ent_row hq (hr v hv) z _ (Nat.le_refl _), s1, s2, zv]
  omega
/-- the order of an acyclic quiver, turned round -/
theorem ord_rev {q : Qv} (ha : acyQ q = true) : (((ordQ q).1.reverse.map Int.toNat).Nodup ∧ (∀ v ∈ (ordQ q).1.reverse.map Int.toNat, v < q.v.toNat) ∧ (∀ v, v < q.v.toNat → v ∈ (ordQ q).1.reverse.map Int.toNat)) ∧
    ∀ (r1 : List Nat) (v : Nat) (r2 : List Nat), (ordQ q).1.reverse.map Int.toNat = r1 ++ v :: r2 → ∀ i, i < q.f.length → (vx q.f i = (v : Int) → (vx q.t i).toNat ∈ r1) ∧ (vx q.t i = (v : Int) → (vx q.f i).toNat ∈ r2) := by
  obtain ⟨ho, hol⟩ := acy_ord ha
  have hq := acy_isQ ha
  obtain ⟨hv, hlen, _, hf, ht⟩ := isQ_t.1 hq
  obtain ⟨s, hs⟩ : ∃ s, (ordQ q).1 = s := ⟨_, rfl⟩
  rw [hs] at ho hol ⊢
  have hall : ∀ v, v < q.v.toNat → v ∈ s.reverse.map Int.toNat := fun v hv' => by
    have := ord_all ho hol (v := (v : Int)) (by omega) (by omega)
    rw [List.mem_map]
    exact ⟨v, by simpa using this, by simp⟩
  have hnd : (s.reverse.map Int.toNat).Nodup := by
    rw [List.Nodup, List.pairwise_map]
    have h1 : s.reverse.Nodup := by
      rw [List.Nodup, List.pairwise_reverse]
      exact ho.nd.imp fun h => h.symm
    refine List.Pairwise.imp_of_mem ?_ h1
    intro a b ha' hb' hne e
    have := ho.rng a (by simpa using ha')
    have := ho.rng b (by simpa using hb')
    omega
  refine ⟨⟨hnd, fun v hv' => ?_, hall⟩, fun r1 v r2 e i hi => ?_⟩
  · rw [List.mem_map] at hv'
    obtain ⟨a, ha', rfl⟩ := hv'
    have := ho.rng a (by simpa using ha')
    omega
  · -- an arrow's start stands behind its end
    have key : ∀ (j : Nat) (x : Int), s[j]? = some x → vx q.t i = x → vx q.f i ∈ s.take j := fun j x hj hx => by
      have h1 : q.f[i]? = some (q.f[i]'hi) := List.getElem?_eq_getElem hi
      have h2 : q.t[i]? = some (q.t[i]'(by omega)) := List.getElem?_eq_getElem (by omega)
      rw [vx_some h2] at hx
      rw [vx_some h1]
      exact ho.rd j x hj i _ h1 (by rw [← hx]; exact h2)
    have hti := ht _ (vx_mem (l := q.t) (k := i) (by omega))
    have hfi := hf _ (vx_mem (l := q.f) (k := i) hi)
    -- the list s is r2 reversed, v, r1 reversed
    have es : s.map Int.toNat = r2.reverse ++ v :: r1.reverse := by
      have := congrArg List.reverse e
      rw [List.map_reverse, List.reverse_reverse, List.reverse_append, List.reverse_cons, List.append_assoc] at this
      simpa using this
    have hpos : ∀ (j : Nat) (x : Int), s[j]? = some x → x = (((s.map Int.toNat)[j]?).getD 0 : Nat) := fun j x hj => by
      have := ho.rng x (List.mem_of_getElem? hj)
      rw [List.getElem?_map, hj]; simp; omega
    have hndm : (s.map Int.toNat).Nodup := by
      rw [List.map_reverse] at hnd
      rw [List.Nodup] at hnd ⊢
      rw [List.pairwise_reverse] at hnd
      exact hnd.imp fun h => h.symm
    constructor
    · intro hc
      -- the end of the arrow: its place in s
      have hmem : vx q.t i ∈ s := ord_all ho hol (by omega) (by omega)
      obtain ⟨j, hj⟩ := List.mem_iff_getElem?.1 hmem
      have hk := key j _ hj rfl
      rw [hc] at hk
      -- v stands before j, so j is behind v: in r1
      obtain ⟨j', hj'⟩ := List.mem_iff_getElem?.1 hk
      have hj'lt : j' < j := by
        have := lt_of_some hj'
        rw [List.length_take] at this; omega
      rw [List.getElem?_take, if_pos hj'lt] at hj'
      have m1 : (s.map Int.toNat)[j']? = some v := by rw [List.getElem?_map, hj']; simp
      have m2 : (s.map Int.toNat)[j]? = some (vx q.t i).toNat := by rw [List.getElem?_map, hj]; rfl
      have p0 : (s.map Int.toNat)[r2.length]? = some v := by rw [es, List.getElem?_append_right (by simp)]; simp
      have hjj : j' = r2.length := (List.getElem?_inj (lt_of_some m1) hndm).1 (m1.trans p0.symm)
      rw [es, List.getElem?_append_right (by simp; omega)] at m2
      rw [List.length_reverse, show j - r2.length = (j - r2.length - 1) + 1 by omega, List.getElem?_cons_succ] at m2
      have := List.mem_of_getElem? m2
      simpa using this
    · intro hc
      have p0 : (s.map Int.toNat)[r2.length]? = some v := by rw [es, List.getElem?_append_right (by simp)]; simp
      rw [List.getElem?_map] at p0
      obtain ⟨x, hx, hxv⟩ : ∃ x, s[r2.length]? = some x ∧ x.toNat = v := by
        rcases h : s[r2.length]? with _ | x
        · rw [h] at p0; cases p0
        · rw [h] at p0; injection p0 with p0; exact ⟨x, rfl, p0⟩
      have hxr := ho.rng x (List.mem_of_getElem? hx)
      have hk := key r2.length x hx (by rw [hc]; omega)
      have h3 : (vx q.f i).toNat ∈ (s.map Int.toNat).take r2.length := by
        rw [← List.map_take]; exact List.mem_map_of_mem hk
      rw [es, List.take_left' (by simp)] at h3
      simpa using h3
/-- a word that is defined -/
theorem word_fn {q : Qv} : ∀ (wd x : List Int), x.length = q.v.toNat → (wordGo q x wd).2 = true → vx (wordGo q x wd).1 = wF q.v.toNat (ent q q.f.length) (vx x) (wd.map Int.toNat) ∧ (wordGo q x wd).1.length = q.v.toNat
  | [], x, hl, _ => ⟨rfl, hl⟩
  | v :: r, x, hl, h => by
    rw [wordGo] at h ⊢
    rcases hr : (reflQ q x v).2 with _ | _
    · rw [hr] at h; simp at h
    · obtain ⟨hn, hv, _, e⟩ := refl_yes hr
      have hq := (num_len hn).1
      have := (isQ_t.1 hq).1
      rw [hr, e] at h
      simp only [if_true] at h ⊢
      rw [e, List.map_cons, wF, ← vx_reflL hl (show v.toNat < q.v.toNat by omega)]
      exact word_fn r _ (by rw [reflL_length, hl]) h
/-- a word is defined if all on its way are small -/
theorem word_def {q : Qv} (hq : isQ q = true) : ∀ (wd x : List Int), x.length = q.v.toNat → (∀ v ∈ wd, (0 ≤ v ∧ v ≤ q.v - 1) ∧ loopQ q v = false) →
    (∀ a b, wd = a ++ b → ∀ i, i < q.v.toNat → -100 ≤ wF q.v.toNat (ent q q.f.length) (vx x) (a.map Int.toNat) i ∧ wF q.v.toNat (ent q q.f.length) (vx x) (a.map Int.toNat) i ≤ 100) → (wordGo q x wd).2 = true
  | [], x, _, _, _ => rfl
  | v :: r, x, hl, hv, hs => by
    have hv0 := (isQ_t.1 hq).1
    obtain ⟨h1, h2⟩ := hv v (by simp)
    have hn : isNum q x = true := isNum_t.2 ⟨hq, by omega, fun y hy => by
      obtain ⟨i, hi⟩ := List.mem_iff_getElem?.1 hy
      have := hs [] (v :: r) rfl i (by have := lt_of_some hi; omega)
      rw [List.map_nil, wF, vx_some hi] at this
      exact this⟩
    have e : reflQ q x v = (reflL q x v.toNat, true) := by rw [reflQ, hn, h2, show inR v 0 (q.v - 1) = true from inR_t.2 h1]; rfl
    rw [wordGo, e]
    simp only [if_true]
    refine word_def hq r _ (by rw [reflL_length, hl]) (fun u hu => hv u (by simp [hu])) fun a b hab i hi => ?_
    have := hs (v :: a) b (by rw [hab]; rfl) i hi
    rwa [List.map_cons, wF, ← vx_reflL hl (show v.toNat < q.v.toNat by omega)] at this
/-- numbers of paths are at most 64 -/
def outC (q : Qv) (h : Int → Nat) (k : Nat) : Nat := (List.range q.f.length).countP fun i => decide (h (vx q.f i) < k)
theorem cN_64 {q : Qv} {h : Int → Nat} (hh : Hgt q h) (hl : q.f.length = q.t.length) (w : Int) : ∀ (n : Nat) (s : Int), cN q n s w ≤ ((2 ^ outC q h (h s + 1) : Nat) : Int)
  | 0, s => by
    have : 1 ≤ 2 ^ outC q h (h s + 1) := Nat.pow_pos (by decide)
    rw [cN]; split <;> omega
  | n + 1, s => by
    have hp : 1 ≤ 2 ^ outC q h (h s + 1) := Nat.pow_pos (by decide)
    by_cases hsw : s = w
    · subst hsw
      rw [cN_self hh hl]; omega
    · rw [cN, if_neg hsw, Int.zero_add]
      -- the sum over the arrows from s
      have h1 : ∀ m, m ≤ q.f.length → (sm m fun i => if vx q.f i = s then cN q n (vx q.t i) w else 0) ≤ (((List.range m).countP fun i => decide (vx q.f i = s)) : Nat) * ((2 ^ outC q h (h s) : Nat) : Int) := by
        intro m
        induction m with
        | zero => intro _; simp [sm]
        | succ m ih =>
          intro hm
          have ih := ih (by omega)
          rw [sm, List.range_succ, List.countP_append]
          by_cases c : vx q.f m = s
          · have hf : q.f[m]? = some (q.f[m]'(by omega)) := List.getElem?_eq_getElem (by omega)
            have ht : q.t[m]? = some (q.t[m]'(by omega)) := List.getElem?_eq_getElem (by omega)
            have hlt := hh m _ _ hf ht
            rw [← vx_some hf, ← vx_some ht, c] at hlt
            have h2 := cN_64 hh hl w n (vx q.t m)
            have h3 : outC q h (h (vx q.t m) + 1) ≤ outC q h (h s) := List.countP_mono_left fun i _ hi => by
              simp only [decide_eq_true_eq] at hi ⊢; omega
            have h4 : 2 ^ outC q h (h (vx q.t m) + 1) ≤ 2 ^ outC q h (h s) := Nat.pow_le_pow_right (by decide) h3
            rw [if_pos c]
            simp only [List.countP_cons, List.countP_nil, decide_eq_true_eq, if_pos c, Nat.zero_add, Int.natCast_add, Int.add_mul]
            omega
          · rw [if_neg c]
            simp only [List.countP_cons, List.countP_nil, decide_eq_true_eq, if_neg c]
            simpa using ih
      have h2 := h1 q.f.length (Nat.le_refl _)
      have h3 : ((List.range q.f.length).countP fun i => decide (vx q.f i = s)) + outC q h (h s) ≤ outC q h (h s + 1) := by
        unfold outC
        have : ∀ l : List Nat, (l.countP fun i => decide (vx q.f i = s)) + (l.countP fun i => decide (h (vx q.f i) < h s)) ≤ l.countP fun i => decide (h (vx q.f i) < h s + 1) := by
          intro l
          induction l with
          | nil => simp
          | cons a l ih =>
            simp only [List.countP_cons, decide_eq_true_eq]
            by_cases c : vx q.f a = s
            · rw [if_pos c, if_neg (by rw [c]; omega), if_pos (by rw [c]; omega)]; omega
            · rw [if_neg c]
              by_cases c2 : h (vx q.f a) < h s
              · rw [if_pos c2, if_pos (by omega)]; omega
              · rw [if_neg c2]; split <;> omega
        exact this _
      obtain ⟨d, hd⟩ : ∃ d, ((List.range q.f.length).countP fun i => decide (vx q.f i = s)) = d := ⟨_, rfl⟩
      rw [hd] at h2 h3
      have h4 : d * 2 ^ outC q h (h s) ≤ 2 ^ outC q h (h s + 1) := by
        have h5 : d ≤ 2 ^ d := Nat.le_of_lt Nat.lt_two_pow_self
        calc d * 2 ^ outC q h (h s) ≤ 2 ^ d * 2 ^ outC q h (h s) := Nat.mul_le_mul_right _ h5
          _ = 2 ^ (d + outC q h (h s)) := (Nat.pow_add _ _ _).symm
          _ ≤ 2 ^ outC q h (h s + 1) := Nat.pow_le_pow_right (by decide) h3
      have h6 : (d : Int) * ((2 ^ outC q h (h s) : Nat) : Int) = ((d * 2 ^ outC q h (h s) : Nat) : Int) := by rw [Int.natCast_mul]
      omega
theorem cN_le64 {q : Qv} (ha : acyQ q = true) (n : Nat) (s w : Int) : 0 ≤ cN q n s w ∧ cN q n s w ≤ 64 := by
  have hq := acy_isQ ha
  obtain ⟨_, hlen, h6, _, _⟩ := isQ_t.1 hq
  have h := cN_64 (acy_hgt ha) hlen w n s
  have h1 : outC q (hgtQ q) (hgtQ q s + 1) ≤ 6 := by
    have := List.countP_le_length (p := fun i => decide (hgtQ q (vx q.f i) < hgtQ q s + 1)) (l := List.range q.f.length)
    rw [List.length_range] at this
    exact Nat.le_trans this h6
  have h2 : 2 ^ outC q (hgtQ q) (hgtQ q s + 1) ≤ 2 ^ 6 := Nat.pow_le_pow_right (by decide) h1
  exact ⟨cN_nonneg _ _ _ _, by omega⟩
/-- **The Coxeter map carries a projective to the negative of the injective.** -/
theorem cox_proj {q : Qv} (ha : acyQ q = true) {u : Int} (h0 : 0 ≤ u) (h1 : u ≤ q.v - 1) : coxP q (dmQ q u) 1 = ((dmJ q u).map fun y => -y, true) := by
  have hq := acy_isQ ha
  obtain ⟨hv, hlen, h6, hf, ht⟩ := isQ_t.1 hq
  have hh := acy_hgt ha
  obtain ⟨⟨hnd, hrng, hall⟩, hord⟩ := ord_rev ha
  obtain ⟨ho, hol⟩ := acy_ord ha
  have hok : dimOk q u = true := by rw [dimOk, ha, show inR u 0 (q.v - 1) = true from inR_t.2 ⟨h0, h1⟩]; rfl
  have eP : dmQ q u = dmP q u := by rw [dmQ, if_pos hok]
  have eJ : dmJ q u = dmI q u := by rw [dmJ, if_pos hok]
  rw [eP, eJ]
  have hlP : (dmP q u).length = q.v.toNat := by simp [dmP]
  have hlI : (dmI q u).length = q.v.toNat := by simp [dmI]
  have hI : ∀ w, w < q.v.toNat → vx (dmI q u) w = cN q 4 w u := fun w hw => by simp [vx, dmI, hw]
  have hst := fun (w : Int) (s : Int) => cN_stab hh hlen w 4 s (by have := hgtQ_le q s; omega)
  obtain ⟨r, hr⟩ : ∃ r, (ordQ q).1.reverse.map Int.toNat = r := ⟨_, rfl⟩
  rw [hr] at hnd hrng hall hord
  have hc := cox_fn hq hnd hrng hord (vx (dmP q u))
  obtain ⟨y, hy⟩ : ∃ y, wF q.v.toNat (ent q q.f.length) (vx (dmP q u)) r = y := ⟨_, rfl⟩
  rw [hy] at hc
  -- by the heights
  have key : ∀ (m : Nat) (v : Nat), v < q.v.toNat → hgtQ q v ≤ m → y v = - cN q 4 v u := by
    have step : ∀ (v : Nat), v < q.v.toNat → (∀ i, i < q.f.length → vx q.f i = (v : Int) → y (vx q.t i).toNat = - cN q 4 (vx q.t i) u) → y v = - cN q 4 v u := fun v hv' hs => by
      have e := hc v (hall v hv')
      have e1 : (sm q.f.length fun i => if vx q.f i = v then y (vx q.t i).toNat else 0) = - sm q.f.length fun i => if vx q.f i = v then cN q 4 (vx q.t i) u else 0 := by
        have : (- sm q.f.length fun i => if vx q.f i = v then cN q 4 (vx q.t i) u else 0) = sm q.f.length fun i => (-1) * if vx q.f i = v then cN q 4 (vx q.t i) u else 0 := by rw [sm_mul]; omega
        rw [this]
        apply sm_congr; intro i hi
        by_cases c : vx q.f i = (v : Int)
        · rw [if_pos c, if_pos c, hs i hi c]; omega
        · rw [if_neg c, if_neg c]; rfl
      have e2 : (sm q.f.length fun i => if vx q.t i = v then vx (dmP q u) (vx q.f i).toNat else 0) = sm q.f.length fun i => if vx q.t i = v then cN q 4 u (vx q.f i) else 0 := by
        apply sm_congr; intro i hi
        have hfi := hf _ (vx_mem (l := q.f) (k := i) hi)
        rw [dmP_at q u (w := (vx q.f i).toNat) (by omega), show (((vx q.f i).toNat : Nat) : Int) = vx q.f i by omega]
      have e3 := cN_last q 4 u v
      rw [hst] at e3
      have e4 := hst u v
      rw [cN] at e4
      rw [e1, e2, dmP_at q u hv'] at e
      by_cases c : u = (v : Int)
      · rw [if_pos c] at e3
        rw [if_pos c.symm] at e4
        omega
      · rw [if_neg c] at e3
        rw [if_neg (fun h => c h.symm)] at e4
        omega
    intro m
    induction m with
    | zero =>
      intro v hv' hm
      refine step v hv' fun i hi hfi => ?_
      have h1 : q.f[i]? = some (q.f[i]'hi) := List.getElem?_eq_getElem hi
      have h2 : q.t[i]? = some (q.t[i]'(by omega)) := List.getElem?_eq_getElem (by omega)
      have := hh i _ _ h1 h2
      rw [← vx_some h1, hfi] at this
      omega
    | succ m ih =>
      intro v hv' hm
      refine step v hv' fun i hi hfi => ?_
      have h1 : q.f[i]? = some (q.f[i]'hi) := List.getElem?_eq_getElem hi
      have h2 : q.t[i]? = some (q.t[i]'(by omega)) := List.getElem?_eq_getElem (by omega)
      have h3 := hh i _ _ h1 h2
      rw [← vx_some h1, hfi, ← vx_some h2] at h3
      have hti := ht _ (vx_mem (l := q.t) (k := i) (by omega))
      have := ih (vx q.t i).toNat (by omega) (by rw [show (((vx q.t i).toNat : Nat) : Int) = vx q.t i by omega]; omega)
      rwa [show (((vx q.t i).toNat : Nat) : Int) = vx q.t i by omega] at this
  have hyv : ∀ v, v < q.v.toNat → y v = - cN q 4 v u := fun v hv' => key _ v hv' (Nat.le_refl _)
  have hloop : ∀ v : Int, 0 ≤ v → v ≤ q.v - 1 → loopQ q v = false := fun v hv0 hv1 => by
    rcases h : loopQ q v with _ | _
    · rfl
    · exfalso
      rw [loopQ, List.any_eq_true] at h
      obtain ⟨p, hp, hp2⟩ := h
      obtain ⟨i, hi⟩ := List.mem_iff_getElem?.1 hp
      rw [List.getElem?_zip_eq_some] at hi
      simp only [Bool.and_eq_true, beq_iff_eq] at hp2
      have := hh i _ _ hi.1 hi.2
      rw [hp2.1, hp2.2] at this
      omega
  have hdef : (wordGo q (dmP q u) (ordQ q).1.reverse).2 = true := by
    refine word_def hq _ _ hlP (fun v hv' => ?_) fun a b hab i hi => ?_
    · have := ho.rng v (by simpa using hv')
      exact ⟨this, hloop v this.1 this.2⟩
    · have er : r = a.map Int.toNat ++ b.map Int.toNat := by rw [← hr, hab, List.map_append]
      by_cases hm : i ∈ a.map Int.toNat
      · have hb : i ∉ b.map Int.toNat := fun h => by
          rw [er, List.nodup_append] at hnd
          exact hnd.2.2 _ hm _ h rfl
        have e : wF q.v.toNat (ent q q.f.length) (vx (dmP q u)) (a.map Int.toNat) i = y i := by
          rw [← hy, er, wF_app, wF_out _ _ hb]
        rw [e, hyv i hi]
        have := cN_le64 ha 4 i u
        omega
      · rw [wF_out _ _ hm, dmP_at q u hi]
        have := cN_le64 ha 4 u i
        omega
  have hnum : isNum q (dmP q u) = true := isNum_t.2 ⟨hq, by omega, fun z hz => by
    obtain ⟨i, hi⟩ := List.mem_iff_getElem?.1 hz
    have := cN_le64 ha 4 u i
    rw [← dmP_at q u (w := i) (by have := lt_of_some hi; omega), vx_some hi] at this
    omega⟩
  have hw : wordQ q (dmP q u) (ordQ q).1.reverse = wordGo q (dmP q u) (ordQ q).1.reverse := by
    rw [wordQ, hnum, show decide ((ordQ q).1.reverse.length ≤ 200) = true from decide_eq_true (by rw [List.length_reverse]; omega)]; rfl
  obtain ⟨f1, f2⟩ := word_fn _ _ hlP hdef
  have ha' : (ordQ q).2 = true := ha
  rw [coxP_one, if_pos ha', hw]
  refine Prod.ext ?_ hdef
  apply vx_ext (by rw [f2, List.length_map, hlI])
  intro i hi
  rw [f2] at hi
  rw [f1, hr, hy, hyv i hi, ← hI i hi]
  simp only [vx, List.getD_eq_getElem?_getD, List.getElem?_map]
  rw [List.getElem?_eq_getElem (show i < (dmI q u).length by omega)]; rfl
/-- **The Coxeter map keeps defects.** -/
theorem df_cox {q : Qv} {x : List Int} (h1 : (dfQ q x).2 = true) (h2 : (coxP q x 1).2 = true) (h3 : (dfQ q (coxP q x 1).1).2 = true) : (dfQ q (coxP q x 1).1).1 = (dfQ q x).1 := by
  unfold dfQ at h1 h3 ⊢
  split at h1
  · rename_i hc
    split at h3
    · rename_i hc3
      rw [if_pos hc, if_pos hc3]
      show eul q (nvQ q).1 (coxP q x 1).1 = eul q (nvQ q).1 x
      obtain ⟨d, hd⟩ : ∃ d, (nvQ q).1 = d := ⟨_, rfl⟩
      have ho := nvQ_orth hc.1 x
      rw [hd] at ho ⊢
      obtain ⟨hq, hlx, _⟩ := num_len hc.2.2
      have ha : acyQ q = true := (coxP_yes h2).2.1
      obtain ⟨⟨hnd, hrng, hall⟩, hord⟩ := ord_rev ha
      have hw : (wordQ q x (ordQ q).1.reverse).2 = true := by
        rw [coxP_one, if_pos (show (ordQ q).2 = true from ha)] at h2; exact h2
      obtain ⟨e1, _⟩ := wordQ_yes hw
      rw [e1] at hw
      obtain ⟨f1, f2⟩ := word_fn _ _ hlx hw
      have eY : (coxP q x 1).1 = (wordGo q x (ordQ q).1.reverse).1 := by rw [coxP_one, if_pos (show (ordQ q).2 = true from ha), e1]
      rw [eY]
      obtain ⟨y, hy⟩ : ∃ y, (wordGo q x (ordQ q).1.reverse).1 = y := ⟨_, rfl⟩
      rw [hy] at f1 ⊢
      have hcx := cox_fn hq hnd hrng hord (vx x)
      rw [← f1] at hcx
      obtain ⟨_, hlen, _, hf, ht⟩ := isQ_t.1 hq
      -- by the vertices
      have s1 : eulA q d y q.f.length = sm q.v.toNat fun v => vx d v * sm q.f.length fun i => if vx q.f i = v then vx y (vx q.t i).toNat else 0 := by
        have : (fun v : Nat => vx d v * sm q.f.length fun i => if vx q.f i = v then vx y (vx q.t i).toNat else 0) = fun v : Nat => sm q.f.length fun i => vx d v * if vx q.f i = v then vx y (vx q.t i).toNat else 0 := by
          funext v; rw [sm_mul]
        rw [this, ← sm_swap]
        unfold eulA
        apply sm_congr; intro i hi
        have hfi := hf _ (vx_mem (l := q.f) (k := i) hi)
        rw [sm_one (k := (vx q.f i).toNat) _ (by omega) fun j _ hj => by rw [if_neg (by omega)]; simp, if_pos (by omega)]
      have s2 : eulA q x d q.f.length = sm q.v.toNat fun v => vx d v * sm q.f.length fun i => if vx q.t i = v then vx x (vx q.f i).toNat else 0 := by
        have : (fun v : Nat => vx d v * sm q.f.length fun i => if vx q.t i = v then vx x (vx q.f i).toNat else 0) = fun v : Nat => sm q.f.length fun i => vx d v * if vx q.t i = v then vx x (vx q.f i).toNat else 0 := by
          funext v; rw [sm_mul]
        rw [this, ← sm_swap]
        unfold eulA
        apply sm_congr; intro i hi
        have hti := ht _ (vx_mem (l := q.t) (k := i) (by omega))
        rw [sm_one (k := (vx q.t i).toNat) _ (by omega) fun j _ hj => by rw [if_neg (by omega)]; simp, if_pos (by omega), Int.mul_comm]
      have s3 : eul q d y = - eul q x d := by
        unfold eul
        rw [s1, s2]
        unfold eulV
        rw [← sm_sub, ← sm_sub]
        have : (- sm q.v.toNat fun v => vx x v * vx d v - vx d v * sm q.f.length fun i => if vx q.t i = v then vx x (vx q.f i).toNat else 0) = sm q.v.toNat fun v => (-1) * (vx x v * vx d v - vx d v * sm q.f.length fun i => if vx q.t i = v then vx x (vx q.f i).toNat else 0) := by rw [sm_mul]; omega
        rw [this]
        apply sm_congr; intro v hv'
        rw [hcx v (hall v hv')]
        grind
      omega
    · cases h3
  · cases h1
end Go.Proofs.Ytaefpblpfjhgoaa
