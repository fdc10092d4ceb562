/- The reference's symmetric form. -/
import Derived.Test.YtpcgjjflmhnimaaSymm
namespace Go.Proofs.Ytpcgjjflmhnimaa
set_option linter.unusedVariables false
set_option linter.unusedSimpArgs false
open Go.RowKit

/-- append of one slice onto a row of slices of the call's own -/
theorem wpList_appS {w : World} {ops : Array Oper} {rest : List Oper} {o : Oper} {a : Act} {Q : Exit → Act → World → Prop} (hgd : o.guard = none) (s x : Operand)
    (ho : o.op = .call { callee := .builtin .append, args := #[s, x], argTypes := #[100, 100] })
    (base : Nat) (v : Value) (vs : List Value) (hs : a.eval s = v) (hown : w.ownsRow base 22 1 v vs.length vs) (A : Option Addr) (c : Nat) (u : Value) (hx : a.eval x = .slice A 1 c) (hA : ∃ b o, A = some ⟨b, o, none⟩ ∧ w.cell? ⟨b, o, none⟩ = some u) (h1 : u.oneCell' = true)
    (hn : vs.length + 1 ≤ 1048576) (hbase : base ≤ w.heap.size)
    (h : ∀ v' w', w'.ownsRow base 22 1 v' (vs ++ [u]).length (vs ++ [u]) → w.grownBy w' v.ownBlock → (v'.ownBlock = v.ownBlock ∨ v'.ownBlock = some w.heap.size) → wpList Try.prog ops Q rest (a.put o.dst v') w') : wpList Try.prog ops Q (o :: rest) a w := by
  obtain ⟨i0, hi, hz0, hz1, hz2⟩ := info_parts infoInts
  obtain ⟨b, off, rfl, hc⟩ := hA
  refine wpList_append_G w hgd s x _ ho base 22 i0 _ 1 24 Try.underlying100 hi hz0 hz1 hz2 rfl (by decide) v vs.length _ hs hown (some ⟨b, off, none⟩) 1 c [u] hx ⟨by simp, .inr ⟨b, off, rfl, fun j u' hu => ?_⟩⟩ (by simpa using h1) (by simp only [maxLen]; omega) (by omega) hbase fun v' w' h2 h3 h4 => ?_
  · match j, hu with
    | 0, hu =>
      simp at hu
      subst hu
      exact hc
  · exact h v' w' (by simpa using h2) h3 h4
theorem Fam.grownO {w w' : World} {lo hi base n : Nat} {L : List (Value × List Int)} {v : Value} {vs : List Value} (hF : Fam w lo hi L) (ho : w.ownsRow base 22 1 v n vs) (hg : w.grownBy w' v.ownBlock) : Fam w' lo hi L := by
  refine ⟨fun p hp => ⟨(hF.1 p hp).1.kept hg ?_, (hF.1 p hp).2⟩, hF.2⟩
  rcases ho.2 with ⟨rfl, _⟩ | ⟨g, cap, cur, rfl, _, hh, _⟩
  · rcases hA : p.1.ownBlock with _ | x
    · exact .inl rfl
    · right
      simp [Value.ownBlock]
  · right
    exact fun e => (hF.1 p hp).1.blkne (g := g) (t := 22) (cs := cur) hh (by decide) (by rw [e]; rfl)

theorem rowF_dec {V : Nat} (g : Nat → Int) (j : Nat) : (rowF V g).set j (g j - 1) = rowF V fun b => g b - if b = j then 1 else 0 := by
  rw [rowF_set]
  apply rowF_congr
  intro b _
  by_cases e : b = j
  · subst e; rw [if_pos rfl, if_pos rfl]
  · rw [if_neg e, if_neg e]; omega
theorem if_pos_and {p r : Prop} [Decidable p] [Decidable r] (h : p) : (if p ∧ r then (1 : Int) else 0) = if r then 1 else 0 := by
  by_cases hr : r
  · rw [if_pos ⟨h, hr⟩, if_pos hr]
  · rw [if_neg (fun x => hr x.2), if_neg hr]

theorem OutO.blkne {w : World} {lo hi g : Nat} {v : Value} {vs : List Value} {t : TypeId} {cs : Array Value} (h : OutO w lo hi v vs) (hb : Blk w g t cs) (ht : 22 ≠ t) : some g ≠ v.ownBlock := by
  rcases h.1.2 with ⟨rfl, _⟩ | ⟨g', cap, cur, rfl, _, hh, _⟩
  · simp [Value.ownBlock]
  · intro he
    have : g = g' := by simpa [Value.ownBlock] using he
    subst this
    unfold Blk at hb
    rw [hh] at hb
    injection hb with hb
    injection hb with _ hb
    exact ht hb

set_option maxHeartbeats 1600000 in
set_option maxRecDepth 20000 in
theorem symmetricForm_any (u : Value) (q : Qv) (w : World) (hu : QvR w w.heap.size u q) (hq : isQ q = true) :
    Calls Try.prog 140 #[u] w fun e w' => ∃ v, e = .returned v ∧ IntssO w' w.heap.size w'.heap.size v (symM q) ∧ Below w.heap.size w w' := by
  obtain ⟨qv, qf, qt⟩ := q
  have hu' := hu
  obtain ⟨A, c, C, d, rfl, hf, hT, hr, lf, lt⟩ := hu.open_
  clear hu
  obtain ⟨⟨hv1, hv2⟩, hlen, hl6, hfr, htr⟩ := isQ_t.1 hq
  dsimp only at *
  obtain ⟨V, rfl⟩ : ∃ V : Nat, qv = V := ⟨qv.toNat, by omega⟩
  have hV5 : V ≤ 5 := by omega
  have HLE := Lib.hid hlen
  have HR := Lib.hid (And.intro hfr htr)
  clear hlen hfr htr
  obtain ⟨i1, hi, hz0, hz1, hz2⟩ := info_parts infoInt
  have hmk1 := run_mk (P := Try.prog) Try.underlying22 hi hz0 (n := V) (by rw [hz2]; omega) (by omega)
  rw [hz1] at hmk1
  clear hi hz0 hz1 hz2
  have g0 : Below w.heap.size w ((w.alloc (.cells #[.int .i64 V, .slice A qf.length c, .slice C qt.length d] 29)).alloc (.cells #[] 22)) := ((Below.refl _ _).alloc (Nat.le_refl _) _).alloc (by simp) _
  have kB : Blk ((w.alloc (.cells #[.int .i64 V, .slice A qf.length c, .slice C qt.length d] 29)).alloc (.cells #[] 22)) w.heap.size 29 #[.int .i64 V, .slice A qf.length c, .slice C qt.length d] := (Blk.new _ _ _).alloc _
  go_enter Try.func140, Try.ntmps140
  go_wp2
  have hmo : Try.prog.follows .mixedOrders = true := by kernel_rfl
  have ho0 : OutO ((w.alloc (.cells #[.int .i64 V, .slice A qf.length c, .slice C qt.length d] 29)).alloc (.cells #[] 22)) w.heap.size ((w.alloc (.cells #[.int .i64 V, .slice A qf.length c, .slice C qt.length d] 29)).alloc (.cells #[] 22)).heap.size (.slice (some ⟨w.heap.size + 1, 0, none⟩) 0 0) [] := by
    have hb := Blk.new (w.alloc (.cells #[.int .i64 V, .slice A qf.length c, .slice C qt.length d] 29)) 22 #[]
    have h := OutCs.own (lo := w.heap.size) (vs := []) ⟨rfl, by simp, fun j v h => by simp at h⟩ hb (by simp) (by simp)
    simpa only [World.size_alloc, List.length_nil] using h
  go_loopw [3, 4] (fun a i wr => ∃ vs : List Value, vs.length ≤ V ∧ i = .int .i64 vs.length ∧ Below w.heap.size w wr ∧ Blk wr w.heap.size 29 #[.int .i64 V, .slice A qf.length c, .slice C qt.length d] ∧ OutO wr w.heap.size wr.heap.size a vs ∧ Fam wr w.heap.size wr.heap.size (vs.zip ((symM ⟨V, qf, qt⟩).take vs.length))) (fun _ i _ => V - (intOf i).toNat)
  case atStart => exact ⟨[], Nat.zero_le _, rfl, g0, kB, ho0, ⟨fun p hp => by simp at hp, by simp⟩⟩
  case round =>
    clear g0 kB ho0
    obtain ⟨vs, hk, rfl, hbel, hkB, ho, hF⟩ := hrel
    have e0 := hkB.cell' (i := 0) rfl
    have e1 := hkB.cell' (i := 1) rfl
    have e2 := hkB.cell' (i := 2) rfl
    obtain ⟨OA, oc, rfl, _, _⟩ := ho.form
    obtain ⟨N, hN⟩ : ∃ N, vs.length = N := ⟨_, rfl⟩
    have HN := Lib.hid hN
    rw [hN] at hk hF ⊢
    rw [hN] at ho
    clear hN
    by_cases hlt : N < V
    · have hN5 : N ≤ 5 := by omega
      have hrq := QvR.more (B' := wr.heap.size) (by have := hbel.size; omega) (QvR.below hbel hu')
      go_wp2_with fail
      refine (specIsQuiver_any _ _ _ hrq).mono ?_; rintro e w5 ⟨rfl, hb5⟩
      rw [hq]
      have hkB' := hkB.call hb5
      have ho' := (ho.below hb5).mono (Nat.le_refl _) hb5.size
      have hF' := (hF.below hb5).mono (Nat.le_refl _) hb5.size
      have hbel' := hbel.trans (hb5.mono hbel.size)
      clear hkB ho hF hbel e0 e1 e2 hrq hb5
      have hkB := hkB'
      clear hkB'
      have e0 := hkB.cell' (i := 0) rfl
      have e1 := hkB.cell' (i := 1) rfl
      have e2 := hkB.cell' (i := 2) rfl
      have hs5 := hbel'.size
      have hv1 := OwnI.made0 (w := w5) (base := w5.heap.size) (N := V) (Nat.le_refl _) (by omega)
      have c3 := (hv1.cellG (j := N) (by simpa using hlt)).1
      have f3 := hv1.frozenG N
      rw [show (List.replicate V (0 : Int)).getD N 0 = 0 by rw [List.getD_eq_getElem?_getD, List.getElem?_replicate, if_pos hlt]; rfl] at c3
      have hv3 : OwnI (w5.alloc (.cells ((mkCells (.int .i64 0) V).setIfInBounds N (.int .i64 2)) 3)) w5.heap.size (Value.slice (some ⟨w5.heap.size, 0, none⟩) V V) ((List.replicate V (0 : Int)).set N 2) :=
        OwnI.newBlk (w := w5) (base := w5.heap.size) (N := V) (Nat.le_refl _) (by omega) (by simp) (by
          rw [Array.toList_setIfInBounds, show (mkCells (.int .i64 0) V).toList = List.replicate V (.int .i64 0) from toList_madeCells_one _ _, List.map_set, List.map_replicate]) (fun x hx => by
          rcases List.mem_or_eq_of_mem_set hx with hx | rfl
          · obtain ⟨_, rfl⟩ := List.mem_replicate.1 hx
            exact ⟨by decide, by decide⟩
          · exact ⟨by decide, by decide⟩)
      have hrow : (List.replicate V (0 : Int)).set N 2 = rowF V (ent ⟨V, qf, qt⟩ 0 N) := by
        rw [show List.replicate V (0 : Int) = rowF V (fun _ => 0) from by rw [rowF, List.map_const', List.length_range], rowF_set]
        apply rowF_congr
        intro b _
        rw [ent_zero]
        by_cases e : b = N
        · rw [if_pos e, if_pos e.symm]
        · rw [if_neg e, if_neg (fun h => e h.symm)]
      rw [hrow] at hv3
      have hb3 := below_alloc w5 (.cells ((mkCells (.int .i64 0) V).setIfInBounds N (.int .i64 2)) 3)
      have zs3 : (w5.alloc (.cells ((mkCells (.int .i64 0) V).setIfInBounds N (.int .i64 2)) 3)).heap.size = w5.heap.size + 1 := by simp
      clear hrow hv1
      go_wp2
      clear c3 f3 e0 e1 e2
      go_loopw [6] (fun i wr => ∃ k : Nat, k ≤ qf.length ∧ i = .int .i64 k ∧ OwnI wr w5.heap.size (Value.slice (some ⟨w5.heap.size, 0, none⟩) V V) (rowF V (ent ⟨V, qf, qt⟩ k N)) ∧ Below w5.heap.size w5 wr ∧ wr.heap.size = w5.heap.size + 1) (fun i _ => qf.length - (intOf i).toNat)
      case atStart => exact ⟨0, Nat.zero_le _, rfl, hv3, hb3, zs3⟩
      case round =>
        clear hv3 hb3 zs3
        obtain ⟨k, hk, rfl, hown, hbel, hsz⟩ := hrel
        have hSZ := Lib.hid hsz
        have e1 := (hkB.call hbel).cell' (i := 1) rfl
        have e2 := (hkB.call hbel).cell' (i := 2) rfl
        by_cases hltk : k < qf.length
        · have hltT : k < qt.length := by have := HLE.out; omega
          obtain ⟨b, o, x', rfl, hb, HX, x1, _⟩ := SlI.at_ hf hltk
          obtain ⟨b2, o2, y', rfl, hb2, HY, y1, _⟩ := SlI.at_ hT hltT
          have hxr := HR.out.1 x' (List.mem_of_getElem? HX.out)
          have hyr := HR.out.2 y' (List.mem_of_getElem? HY.out)
          obtain ⟨x, rfl⟩ : ∃ x : Nat, x' = x := ⟨x'.toNat, by omega⟩
          obtain ⟨y, rfl⟩ : ∃ y : Nat, y' = y := ⟨y'.toNat, by omega⟩
          have hxV : x < V := by omega
          have hyV : y < V := by omega
          clear hxr hyr
          have x2 := bcell (hbel'.trans (hbel.mono hs5)) hb x1
          have y2 := bcell (hbel'.trans (hbel.mono hs5)) hb2 y1
          by_cases ex : x = N
          · have exb : ((x : Int) == (N : Int)) = true := by rw [beq_iff_eq]; omega
            by_cases ey : y = N
            · have eyb : ((y : Int) == (N : Int)) = true := by rw [beq_iff_eq]; omega
              have EX := Lib.hid ex
              have EY := Lib.hid ey
              clear ex ey
              obtain ⟨m1, hm1⟩ : ∃ m, (ent ⟨V, qf, qt⟩ k N) y = m := ⟨_, rfl⟩
              have hmr1 : -13 ≤ m1 ∧ m1 ≤ 2 := by
                rw [← hm1]
                have := ent_rng ⟨V, qf, qt⟩ k N y hl6
                first | omega | (dsimp only; split <;> omega)
              have r21 := (hown.cellG (j := y) (by rw [rowF_length]; exact hyV)).1
              rw [rowF_getD _ hyV, hm1] at r21
              have r31 := hown.frozenG y
              have hp1 := hown.put (j := y) (x := m1 - 1) ⟨by omega, by omega⟩
              rw [← hm1, rowF_dec, hm1] at hp1
              have hz1 := hbel.grown hp1.2 (by have := hbel.size; omega) (fun j hj => by injection hj with hj; omega)
              have HP1 := Lib.hid hp1.1
              have HZ1 := Lib.hid hz1
              clear hp1 hz1 hm1 hown
              go_wp2_with fail
              go_region_o
              obtain ⟨Wq1, hWq1⟩ : ∃ Wq, Wq = (wr.setCell ⟨w5.heap.size, y, none⟩ (.int .i64 (m1 - 1))).drew := ⟨_, rfl⟩
              rw [← hWq1]
              have hown1 : OwnI Wq1 w5.heap.size (Value.slice (some ⟨w5.heap.size, 0, none⟩) V V) (rowF V (fun b => (ent ⟨V, qf, qt⟩ k N) b - if b = y then 1 else 0)) := by rw [hWq1]; exact HP1.out.drewN 1
              have hbel1 : Below w5.heap.size w5 Wq1 := by rw [hWq1]; exact below_drewN HZ1.out 1
              have hsz1 : Wq1.heap.size = wr.heap.size := by rw [hWq1]; simp
              have SZ1 := Lib.hid hsz1
              clear hWq1 hsz1 r21 r31
              clear e1 e2 x2 y2
              have e1 := (hkB.call hbel1).cell' (i := 1) rfl
              have e2 := (hkB.call hbel1).cell' (i := 2) rfl
              have x2 := bcell (hbel'.trans (hbel1.mono hs5)) hb x1
              have y2 := bcell (hbel'.trans (hbel1.mono hs5)) hb2 y1
              obtain ⟨G1, hG1⟩ : ∃ G : Nat → Int, G = fun b => (ent ⟨V, qf, qt⟩ k N) b - if b = y then 1 else 0 := ⟨_, rfl⟩
              rw [← hG1] at hown1
              have HG1 := Lib.hid hG1
              clear hG1
              obtain ⟨m2, hm2⟩ : ∃ m, (G1) x = m := ⟨_, rfl⟩
              have hmr2 : -13 ≤ m2 ∧ m2 ≤ 2 := by
                rw [← hm2, HG1.out]
                have := ent_rng ⟨V, qf, qt⟩ k N x hl6
                first | omega | (dsimp only; split <;> omega)
              have r22 := (hown1.cellG (j := x) (by rw [rowF_length]; exact hxV)).1
              rw [rowF_getD _ hxV, hm2] at r22
              have r32 := hown1.frozenG x
              have hp2 := hown1.put (j := x) (x := m2 - 1) ⟨by omega, by omega⟩
              rw [← hm2, rowF_dec, hm2] at hp2
              have hz2 := hbel1.grown hp2.2 (by have := hbel1.size; omega) (fun j hj => by injection hj with hj; omega)
              have HP2 := Lib.hid hp2.1
              have HZ2 := Lib.hid hz2
              clear hp2 hz2 hm2 hown1
              go_wp2_with fail
              go_region_o
              obtain ⟨Wq2, hWq2⟩ : ∃ Wq, Wq = (Wq1.setCell ⟨w5.heap.size, x, none⟩ (.int .i64 (m2 - 1))).drew := ⟨_, rfl⟩
              rw [← hWq2]
              have hown2 : OwnI Wq2 w5.heap.size (Value.slice (some ⟨w5.heap.size, 0, none⟩) V V) (rowF V (fun b => (G1) b - if b = x then 1 else 0)) := by rw [hWq2]; exact HP2.out.drewN 1
              have hbel2 : Below w5.heap.size w5 Wq2 := by rw [hWq2]; exact below_drewN HZ2.out 1
              have hsz2 : Wq2.heap.size = Wq1.heap.size := by rw [hWq2]; simp
              have SZ2 := Lib.hid hsz2
              clear hWq2 hsz2 r22 r32
              have hst : Hid (rowF V (fun b => (G1) b - if b = x then 1 else 0) = rowF V (ent ⟨V, qf, qt⟩ (k + 1) N)) := by
                show rowF V (fun b => (G1) b - if b = x then 1 else 0) = _
                apply rowF_congr
                intro b _
                rw [ent_succ HX.out HY.out]
                rw [HG1.out, if_pos_and EX.out.symm, if_pos_and EY.out.symm]
              rw [hst.out] at hown2
              go_wp2
              go_roundw
              case rel => exact ⟨k + 1, by omega, by go_num, hown2, hbel2, (SZ2.out.trans (SZ1.out.trans hsz))⟩
              case measure => simp [intOf]; omega
            · have eyb : ((y : Int) == (N : Int)) = false := by rw [beq_eq_false_iff_ne]; omega
              have hyn := ey
              have EX := Lib.hid ex
              clear ex ey
              obtain ⟨m1, hm1⟩ : ∃ m, (ent ⟨V, qf, qt⟩ k N) y = m := ⟨_, rfl⟩
              have hmr1 : -13 ≤ m1 ∧ m1 ≤ 2 := by
                rw [← hm1]
                have := ent_rng ⟨V, qf, qt⟩ k N y hl6
                first | omega | (dsimp only; split <;> omega)
              have r21 := (hown.cellG (j := y) (by rw [rowF_length]; exact hyV)).1
              rw [rowF_getD _ hyV, hm1] at r21
              have r31 := hown.frozenG y
              have hp1 := hown.put (j := y) (x := m1 - 1) ⟨by omega, by omega⟩
              rw [← hm1, rowF_dec, hm1] at hp1
              have hz1 := hbel.grown hp1.2 (by have := hbel.size; omega) (fun j hj => by injection hj with hj; omega)
              have HP1 := Lib.hid hp1.1
              have HZ1 := Lib.hid hz1
              clear hp1 hz1 hm1 hown
              go_wp2_with fail
              go_region_o
              obtain ⟨Wq1, hWq1⟩ : ∃ Wq, Wq = (wr.setCell ⟨w5.heap.size, y, none⟩ (.int .i64 (m1 - 1))).drew := ⟨_, rfl⟩
              rw [← hWq1]
              have hown1 : OwnI Wq1 w5.heap.size (Value.slice (some ⟨w5.heap.size, 0, none⟩) V V) (rowF V (fun b => (ent ⟨V, qf, qt⟩ k N) b - if b = y then 1 else 0)) := by rw [hWq1]; exact HP1.out.drewN 1
              have hbel1 : Below w5.heap.size w5 Wq1 := by rw [hWq1]; exact below_drewN HZ1.out 1
              have hsz1 : Wq1.heap.size = wr.heap.size := by rw [hWq1]; simp
              have SZ1 := Lib.hid hsz1
              clear hWq1 hsz1 r21 r31
              clear e1 e2 x2 y2
              have e1 := (hkB.call hbel1).cell' (i := 1) rfl
              have e2 := (hkB.call hbel1).cell' (i := 2) rfl
              have x2 := bcell (hbel'.trans (hbel1.mono hs5)) hb x1
              have y2 := bcell (hbel'.trans (hbel1.mono hs5)) hb2 y1
              have hst : Hid (rowF V (fun b => (ent ⟨V, qf, qt⟩ k N) b - if b = y then 1 else 0) = rowF V (ent ⟨V, qf, qt⟩ (k + 1) N)) := by
                show rowF V (fun b => (ent ⟨V, qf, qt⟩ k N) b - if b = y then 1 else 0) = _
                apply rowF_congr
                intro b _
                rw [ent_succ HX.out HY.out]
                rw [if_pos_and EX.out.symm, if_neg (c := N = y ∧ b = x) (fun h => hyn h.1.symm)]; omega
              rw [hst.out] at hown1
              go_wp2
              go_roundw
              case rel => exact ⟨k + 1, by omega, by go_num, hown1, hbel1, (SZ1.out.trans hsz)⟩
              case measure => simp [intOf]; omega
          · have exb : ((x : Int) == (N : Int)) = false := by rw [beq_eq_false_iff_ne]; omega
            have hxn := ex
            clear ex
            by_cases ey : y = N
            · have eyb : ((y : Int) == (N : Int)) = true := by rw [beq_iff_eq]; omega
              have EY := Lib.hid ey
              clear ey
              obtain ⟨m1, hm1⟩ : ∃ m, (ent ⟨V, qf, qt⟩ k N) x = m := ⟨_, rfl⟩
              have hmr1 : -13 ≤ m1 ∧ m1 ≤ 2 := by
                rw [← hm1]
                have := ent_rng ⟨V, qf, qt⟩ k N x hl6
                first | omega | (dsimp only; split <;> omega)
              have r21 := (hown.cellG (j := x) (by rw [rowF_length]; exact hxV)).1
              rw [rowF_getD _ hxV, hm1] at r21
              have r31 := hown.frozenG x
              have hp1 := hown.put (j := x) (x := m1 - 1) ⟨by omega, by omega⟩
              rw [← hm1, rowF_dec, hm1] at hp1
              have hz1 := hbel.grown hp1.2 (by have := hbel.size; omega) (fun j hj => by injection hj with hj; omega)
              have HP1 := Lib.hid hp1.1
              have HZ1 := Lib.hid hz1
              clear hp1 hz1 hm1 hown
              go_wp2_with fail
              go_region_o
              obtain ⟨Wq1, hWq1⟩ : ∃ Wq, Wq = (wr.setCell ⟨w5.heap.size, x, none⟩ (.int .i64 (m1 - 1))).drew := ⟨_, rfl⟩
              rw [← hWq1]
              have hown1 : OwnI Wq1 w5.heap.size (Value.slice (some ⟨w5.heap.size, 0, none⟩) V V) (rowF V (fun b => (ent ⟨V, qf, qt⟩ k N) b - if b = x then 1 else 0)) := by rw [hWq1]; exact HP1.out.drewN 1
              have hbel1 : Below w5.heap.size w5 Wq1 := by rw [hWq1]; exact below_drewN HZ1.out 1
              have hsz1 : Wq1.heap.size = wr.heap.size := by rw [hWq1]; simp
              have SZ1 := Lib.hid hsz1
              clear hWq1 hsz1 r21 r31
              have hst : Hid (rowF V (fun b => (ent ⟨V, qf, qt⟩ k N) b - if b = x then 1 else 0) = rowF V (ent ⟨V, qf, qt⟩ (k + 1) N)) := by
                show rowF V (fun b => (ent ⟨V, qf, qt⟩ k N) b - if b = x then 1 else 0) = _
                apply rowF_congr
                intro b _
                rw [ent_succ HX.out HY.out]
                rw [if_neg (c := N = x ∧ b = y) (fun h => hxn h.1.symm), if_pos_and EY.out.symm]; omega
              rw [hst.out] at hown1
              go_wp2
              go_roundw
              case rel => exact ⟨k + 1, by omega, by go_num, hown1, hbel1, (SZ1.out.trans hsz)⟩
              case measure => simp [intOf]; omega
            · have eyb : ((y : Int) == (N : Int)) = false := by rw [beq_eq_false_iff_ne]; omega
              have hyn := ey
              clear ey
              have hst : Hid (rowF V (ent ⟨V, qf, qt⟩ k N) = rowF V (ent ⟨V, qf, qt⟩ (k + 1) N)) := by
                show rowF V (ent ⟨V, qf, qt⟩ k N) = _
                apply rowF_congr
                intro b _
                rw [ent_succ HX.out HY.out]
                rw [if_neg (c := N = x ∧ b = y) (fun h => hxn h.1.symm), if_neg (c := N = y ∧ b = x) (fun h => hyn h.1.symm)]; omega
              rw [hst.out] at hown
              go_wp2
              go_roundw
              case rel => exact ⟨k + 1, by omega, by go_num, hown, hbel, hsz⟩
              case measure => simp [intOf]; omega
        · have hst : Hid (ent ⟨V, qf, qt⟩ k N = ent ⟨V, qf, qt⟩ qf.length N) := by show _ = _; rw [show k = qf.length by omega]
          rw [hst.out] at hown
          have ho1 := ho'.below hbel
          have hF1 := hF'.below hbel
          have hkB1 := hkB.call hbel
          have hb1 := hbel'.trans (hbel.mono hs5)
          have hsz' := hSZ.out
          have hF2 := hF1.snoc (hi := wr.heap.size) ⟨hown, fun k hk => by simp [Value.ownBlock] at hk; omega⟩ hs5 (by omega)
          have hzip : vs.zip ((symM ⟨V, qf, qt⟩).take N) ++ [((Value.slice (some ⟨w5.heap.size, 0, none⟩) V V), rowF V (ent ⟨V, qf, qt⟩ qf.length N))] = (vs ++ [(Value.slice (some ⟨w5.heap.size, 0, none⟩) V V)]).zip ((symM ⟨V, qf, qt⟩).take (vs ++ [(Value.slice (some ⟨w5.heap.size, 0, none⟩) V V)]).length) := by
            rw [List.length_append, List.length_singleton, HN.out, take_snoc (show (symM ⟨V, qf, qt⟩)[N]? = some (rowF V (ent ⟨V, qf, qt⟩ qf.length N)) from matF_get (V := V) _ hlt), List.zip_append (by rw [HN.out, List.length_take, symM, matF_length]; show N = min N V; omega)]
            rfl
          rw [hzip] at hF2
          have hoA := ho1.below (below_alloc wr (.cells #[(Value.slice (some ⟨w5.heap.size, 0, none⟩) V V)] 22))
          have hFA := hF2.below (below_alloc wr (.cells #[(Value.slice (some ⟨w5.heap.size, 0, none⟩) V V)] 22))
          have hkA := hkB1.call (below_alloc wr (.cells #[(Value.slice (some ⟨w5.heap.size, 0, none⟩) V V)] 22))
          clear hF2 hF1 hzip ho1 hown hkB1 hsz hsz'
          (go_wp2_with (at_builtin; refine Hold.stop ?_)); unfold Hold
          refine wpList_appS rfl (.tmp 77) (.tmp 79) rfl w.heap.size (.slice OA N oc) vs rfl hoA.1 _ _ (Value.slice (some ⟨w5.heap.size, 0, none⟩) V V) rfl ⟨wr.heap.size, 0, rfl, (Blk.new wr 22 #[(Value.slice (some ⟨w5.heap.size, 0, none⟩) V V)]).cell' (i := 0) rfl⟩ rfl (by have := HN.out; omega) (by rw [World.size_alloc]; have := hb1.size; omega) ?_
          intro v1 w2 ho2 hg hv
          have hF3 := (hFA.grownO hoA.1 hg).mono (Nat.le_refl _) (show wr.heap.size ≤ w2.heap.size by have := hg.size; simp at this; omega)
          have hk3 := hkA.grown hg (hoA.blkne hkA (by decide))
          have hb3 := (hb1.alloc hb1.size (.cells #[(Value.slice (some ⟨w5.heap.size, 0, none⟩) V V)] 22)).grown hg (by have := hb1.size; simp; omega) (fun j hj => (hoA.1.lt j hj).1)
          have ho3 : OutO w2 w.heap.size w2.heap.size v1 (vs ++ [(Value.slice (some ⟨w5.heap.size, 0, none⟩) V V)]) := ⟨ho2, fun k hk => (ho2.lt k hk).2, by have := HN.out; simp; omega⟩
          have HF3 := Lib.hid hF3
          have HL : Hid ((vs ++ [(Value.slice (some ⟨w5.heap.size, 0, none⟩) V V)]).length = N + 1) := by show _ = _; rw [List.length_append, HN.out]; rfl
          clear hF3 hFA hoA hkA hg hv ho2
          go_wp2
          go_roundw
          case rel => exact ⟨vs ++ [(Value.slice (some ⟨w5.heap.size, 0, none⟩) V V)], by rw [HL.out]; omega, by rw [HL.out]; go_num, hb3, hk3, ho3, HF3.out⟩
          case measure => simp [intOf]; omega
    · have hrq := QvR.more (B' := wr.heap.size) (by have := hbel.size; omega) (QvR.below hbel hu')
      have hNV : N = V := by omega
      go_wp2
      refine bodyPost_ret (v := .slice OA N oc) (by simp [results, go_sem]) rfl ⟨_, rfl, ⟨vs, ho, by rw [symM, matF_length, HN.out, hNV]; rfl, ?_⟩, hbel⟩
      rwa [List.take_of_length_le (by rw [symM, matF_length]; show V ≤ N; omega)] at hF
end Go.Proofs.Ytpcgjjflmhnimaa
