/- The symmetric form of a quiver. -/
import Derived.Test.YtpcgjjflmhnimaaSS
import Derived.Test.YtpcgjjflmhnimaaNum
import Derived.Shelf.RegionOpenPlain
namespace Go.Proofs.Ytpcgjjflmhnimaa
set_option linter.unusedVariables false
set_option linter.unusedSimpArgs false
open Go.RowKit

/-- arrows from a to b among the first k -/
def arr (q : Qv) (a b k : Nat) : Nat := ((q.f.zip q.t).take k).countP fun p => p.1 == (a : Int) && p.2 == (b : Int)
def ent (q : Qv) (k a b : Nat) : Int := (if a = b then 2 else 0) - arr q a b k - arr q b a k
def symM (q : Qv) : List (List Int) := matF q.v.toNat (ent q q.f.length)
theorem arr_le (q : Qv) (a b k : Nat) : arr q a b k ≤ q.f.length := by
  refine Nat.le_trans List.countP_le_length ?_
  simp; omega
theorem arr_zero (q : Qv) (a b : Nat) : arr q a b 0 = 0 := by simp [arr]
theorem arr_succ {q : Qv} {k a b x y : Nat} (hx : q.f[k]? = some (x : Int)) (hy : q.t[k]? = some (y : Int)) : arr q a b (k + 1) = arr q a b k + if x = a ∧ y = b then 1 else 0 := by
  have e : (q.f.zip q.t)[k]? = some ((x : Int), (y : Int)) := by rw [List.getElem?_zip_eq_some]; exact ⟨hx, hy⟩
  rw [arr, take_snoc e, List.countP_append, arr]
  congr 1
  rw [List.countP_singleton]
  by_cases h : x = a ∧ y = b
  · rw [if_pos h, if_pos (by simp [h.1, h.2])]
  · rw [if_neg h, if_neg]
    simp only [Bool.and_eq_true, beq_iff_eq]
    omega
theorem ent_rng (q : Qv) (k a b : Nat) (h : q.f.length ≤ 6) : -12 ≤ ent q k a b ∧ ent q k a b ≤ 2 := by
  have h1 := arr_le q a b k
  have h2 := arr_le q b a k
  unfold ent
  split <;> omega
theorem ent_zero (q : Qv) (a b : Nat) : ent q 0 a b = if a = b then 2 else 0 := by simp [ent, arr_zero]
theorem ent_succ {q : Qv} {k x y : Nat} (hx : q.f[k]? = some (x : Int)) (hy : q.t[k]? = some (y : Int)) (a b : Nat) : ent q (k + 1) a b = ent q k a b - (if a = x ∧ b = y then 1 else 0) - (if a = y ∧ b = x then 1 else 0) := by
  rw [ent, arr_succ hx hy, arr_succ hx hy, ent]
  by_cases h1 : x = a ∧ y = b
  · rw [if_pos h1, if_pos (c := a = x ∧ b = y) ⟨h1.1.symm, h1.2.symm⟩]
    by_cases h2 : x = b ∧ y = a
    · rw [if_pos h2, if_pos (c := a = y ∧ b = x) ⟨h2.2.symm, h2.1.symm⟩]; split <;> omega
    · rw [if_neg h2, if_neg (c := a = y ∧ b = x) (fun h => h2 ⟨h.2.symm, h.1.symm⟩)]; split <;> omega
  · rw [if_neg h1, if_neg (c := a = x ∧ b = y) (fun h => h1 ⟨h.1.symm, h.2.symm⟩)]
    by_cases h2 : x = b ∧ y = a
    · rw [if_pos h2, if_pos (c := a = y ∧ b = x) ⟨h2.2.symm, h2.1.symm⟩]; split <;> omega
    · rw [if_neg h2, if_neg (c := a = y ∧ b = x) (fun h => h2 ⟨h.2.symm, h.1.symm⟩)]; split <;> omega

theorem OwnI.newBlk {w : World} {base N : Nat} {cs : Array Value} {l : List Int} (hb : base ≤ w.heap.size) (hN : N ≤ 17592186044416) (hl : l.length = N) (hc : cs.toList = l.map (Value.int .i64)) (hr : ∀ x ∈ l, I64 x) : OwnI (w.alloc (.cells cs 3)) base (.slice (some ⟨w.heap.size, 0, none⟩) N N) l := by
  have hs : cs.size = N := by rw [← Array.length_toList, hc, List.length_map, hl]
  have h := (Blk.new w 3 cs).own (base := base) (n := N) (cap := N) (size := 1) hb (Nat.le_refl _) (by simp only [maxLen]; omega) (by omega)
  rw [hc, List.take_of_length_le (by simp; omega)] at h
  exact ⟨by rw [hl]; exact h, by omega, hr⟩
theorem Fam.far {w : World} {lo hi : Nat} {L : List (Value × List Int)} (h : Fam w lo hi L) {p : Addr} (hp : hi ≤ p.block) (u : Value) : Fam (w.setCell p u) lo hi L :=
  ⟨fun x hx => ⟨(h.1 x hx).1.setCell (fun e => by have := (h.1 x hx).2 _ e; omega) u, (h.1 x hx).2⟩, h.2⟩

theorem matF_dec {V : Nat} (g : Nat → Nat → Int) (x y : Nat) : (matF V g).set x ((rowF V (g x)).set y (g x y - 1)) = matF V fun a b => g a b - if a = x ∧ b = y then 1 else 0 := by
  rw [rowF_set, matF_set]
  apply matF_congr
  intro a b _ _
  by_cases e : a = x
  · subst e
    rw [if_pos rfl]
    by_cases e2 : b = y
    · subst e2
      rw [if_pos rfl, if_pos ⟨rfl, rfl⟩]
    · rw [if_neg e2, if_neg (fun h => e2 h.2)]; omega
  · rw [if_neg e, if_neg (fun h => e h.1)]; omega

set_option maxHeartbeats 1600000 in
theorem symmetric_any (u : Value) (q : Qv) (w : World) (hu : QvR w w.heap.size u q) (hq : isQ q = true) :
    Calls Try.prog 148 #[u] w fun e w' => ∃ v, e = .returned v ∧ IntssO w' w.heap.size w'.heap.size v (symM q) ∧ Below w.heap.size w w' := by
  obtain ⟨qv, qf, qt⟩ := q
  obtain ⟨A, c, C, d, rfl, hf, hT, hr, lf, lt⟩ := hu.open_
  clear hu
  obtain ⟨⟨hv1, hv2⟩, hlen, hl6, hfr, htr⟩ := isQ_t.1 hq
  dsimp only at *
  obtain ⟨V, rfl⟩ : ∃ V : Nat, qv = V := ⟨qv.toNat, by omega⟩
  have hV5 : V ≤ 5 := by omega
  have HLE := Lib.hid hlen
  have HR := Lib.hid (And.intro hfr htr)
  clear hlen hfr htr
  obtain ⟨i0, hi, hz0, hz1, hz2⟩ := info_parts infoInts
  have hmk := run_mk (P := Try.prog) Try.underlying100 hi hz0 (n := V) (by rw [hz2]; omega) (by omega)
  rw [hz1] at hmk
  clear hi hz0 hz1 hz2
  obtain ⟨i1, hi, hz0, hz1, hz2⟩ := info_parts infoInt
  have hmk1 := run_mk (P := Try.prog) Try.underlying22 hi hz0 (n := V) (by rw [hz2]; omega) (by omega)
  rw [hz1] at hmk1
  clear hi hz0 hz1 hz2
  obtain ⟨W, hW⟩ : ∃ W, W = (w.alloc (.cells #[.int .i64 V, .slice A qf.length c, .slice C qt.length d] 29)).alloc (.cells (mkCells (.slice none 0 0) V) 22) := ⟨_, rfl⟩
  have g0 : Below w.heap.size w W := by rw [hW]; exact ((Below.refl _ _).alloc (Nat.le_refl _) _).alloc (by simp) _
  have kB : Blk W w.heap.size 29 #[.int .i64 V, .slice A qf.length c, .slice C qt.length d] := by rw [hW]; exact (Blk.new _ _ _).alloc _
  have kO : Blk W (w.heap.size + 1) 22 (mkCells (.slice none 0 0) V) := by
    rw [hW]
    have := Blk.new (w.alloc (.cells #[.int .i64 V, .slice A qf.length c, .slice C qt.length d] 29)) 22 (mkCells (.slice none 0 0) V)
    simpa only [World.size_alloc] using this
  have zW : w.heap.size + 1 < W.heap.size := kO.lt
  go_enter Try.func148, Try.ntmps148
  go_wp2
  rw [← hW]; clear hW hmk
  go_loopw [12] (fun i wr => ∃ (cs : Array Value) (vs : List Value), vs.length ≤ V ∧ i = .int .i64 vs.length ∧ Below w.heap.size w wr ∧ Blk wr w.heap.size 29 #[.int .i64 V, .slice A qf.length c, .slice C qt.length d] ∧ Blk wr (w.heap.size + 1) 22 cs ∧ OutCs cs V vs ∧ Fam wr w.heap.size wr.heap.size (vs.zip ((matF V (ent ⟨V, qf, qt⟩ 0)).take vs.length))) (fun i _ => V - (intOf i).toNat)
  case atStart => exact ⟨_, [], Nat.zero_le _, rfl, g0, kB, kO, ⟨by simp [mkCells_size], by simp, fun j v h => by simp at h⟩, ⟨fun p hp => by simp at hp, by simp⟩⟩
  case round =>
    clear g0 kB kO zW
    obtain ⟨cs, vs, hk, rfl, hbel, hkB, hblk, hcs, hF⟩ := hrel
    have e0 := hkB.cell' (i := 0) rfl
    have e1 := hkB.cell' (i := 1) rfl
    have e2 := hkB.cell' (i := 2) rfl
    have hsz := hbel.size
    by_cases hlt : vs.length < V
    · have hgo := hblk.lt
      have hvs5 : vs.length ≤ 5 := by omega
      have hO := hblk.set_ vs.length (.slice (some ⟨wr.heap.size, 0, none⟩) V V)
      have hO1 := hO.alloc (.cells (mkCells (.int .i64 0) V) 3)
      have hQ1 := (hkB.far (p := ⟨w.heap.size + 1, vs.length, none⟩) (by simp) (.slice (some ⟨wr.heap.size, 0, none⟩) V V)).alloc (.cells (mkCells (.int .i64 0) V) 3)
      have f0 := hblk.frozen vs.length
      obtain ⟨v0, c0⟩ : ∃ v0, wr.cell? ⟨w.heap.size + 1, vs.length, none⟩ = some v0 := by rw [hblk.cell]; have := hcs.1; exact ⟨_, Array.getElem?_eq_getElem (by omega)⟩
      have cS := hO1.cell' (i := vs.length) (v := .slice (some ⟨wr.heap.size, 0, none⟩) V V) (by have := hcs.1; simp [Array.getElem?_setIfInBounds]; omega)
      have k0 := hQ1.cell' (i := 0) rfl
      have hv1 := OwnI.made0 (w := wr.setCell ⟨w.heap.size + 1, vs.length, none⟩ (.slice (some ⟨wr.heap.size, 0, none⟩) V V)) (base := wr.heap.size) (N := V) (by simp) (by omega)
      have zs : (wr.setCell ⟨w.heap.size + 1, vs.length, none⟩ (.slice (some ⟨wr.heap.size, 0, none⟩) V V)).heap.size = wr.heap.size := by simp
      rw [zs] at hv1
      have ZS := Lib.hid zs
      clear zs
      have c3 := (hv1.cellG (j := vs.length) (by simpa using hlt)).1
      have f3 := hv1.frozenG vs.length
      rw [show (List.replicate V (0 : Int)).getD vs.length 0 = 0 by rw [List.getD_eq_getElem?_getD, List.getElem?_replicate, if_pos hlt]; rfl] at c3
      have hv3 : OwnI ((wr.setCell ⟨w.heap.size + 1, vs.length, none⟩ (.slice (some ⟨wr.heap.size, 0, none⟩) V V)).alloc (.cells ((mkCells (.int .i64 0) V).setIfInBounds vs.length (.int .i64 2)) 3)) wr.heap.size (.slice (some ⟨wr.heap.size, 0, none⟩) V V) ((List.replicate V (0 : Int)).set vs.length 2) := by
        have h := OwnI.newBlk (w := wr.setCell ⟨w.heap.size + 1, vs.length, none⟩ (.slice (some ⟨wr.heap.size, 0, none⟩) V V)) (base := wr.heap.size) (N := V) (cs := (mkCells (.int .i64 0) V).setIfInBounds vs.length (.int .i64 2)) (l := (List.replicate V (0 : Int)).set vs.length 2) (by simp) (by omega) (by simp) (by
          rw [Array.toList_setIfInBounds, show (mkCells (.int .i64 0) V).toList = List.replicate V (.int .i64 0) from toList_madeCells_one _ _, List.map_set, List.map_replicate]) (fun x hx => by
          rcases List.mem_or_eq_of_mem_set hx with hx | rfl
          · obtain ⟨_, rfl⟩ := List.mem_replicate.1 hx
            exact ⟨by decide, by decide⟩
          · exact ⟨by decide, by decide⟩)
        rw [ZS.out] at h
        exact h
      have hF2 := (hF.setBlk (i := vs.length) hblk (by decide) (.slice (some ⟨wr.heap.size, 0, none⟩) V V)).below (below_alloc _ (.cells ((mkCells (.int .i64 0) V).setIfInBounds vs.length (.int .i64 2)) 3))
      have hQ3 := (hkB.far (p := ⟨w.heap.size + 1, vs.length, none⟩) (by simp) (.slice (some ⟨wr.heap.size, 0, none⟩) V V)).alloc (.cells ((mkCells (.int .i64 0) V).setIfInBounds vs.length (.int .i64 2)) 3)
      have hO3 := hO.alloc (.cells ((mkCells (.int .i64 0) V).setIfInBounds vs.length (.int .i64 2)) 3)
      have hrow : (List.replicate V (0 : Int)).set vs.length 2 = rowF V (ent ⟨V, qf, qt⟩ 0 vs.length) := by
        rw [show List.replicate V (0 : Int) = rowF V (fun _ => 0) from by rw [rowF, List.map_const', List.length_range], rowF_set]
        apply rowF_congr
        intro b _
        rw [ent_zero]
        by_cases e : b = vs.length
        · rw [if_pos e, if_pos e.symm]
        · rw [if_neg e, if_neg (fun h => e h.symm)]
      rw [hrow] at hv3
      have hF3 := hF2.snoc (hi := wr.heap.size + 1) ⟨hv3, fun k hk => by simp [Value.ownBlock] at hk; omega⟩ hsz (by omega)
      have hzip : vs.zip ((matF V (ent ⟨V, qf, qt⟩ 0)).take vs.length) ++ [(Value.slice (some ⟨wr.heap.size, 0, none⟩) V V, rowF V (ent ⟨V, qf, qt⟩ 0 vs.length))] = (vs ++ [Value.slice (some ⟨wr.heap.size, 0, none⟩) V V]).zip ((matF V (ent ⟨V, qf, qt⟩ 0)).take (vs ++ [Value.slice (some ⟨wr.heap.size, 0, none⟩) V V]).length) := by
        rw [List.length_append, List.length_singleton, take_snoc (matF_get _ hlt), List.zip_append (by simp [matF_length]; omega)]
        rfl
      rw [hzip] at hF3
      have HF3 := Lib.hid hF3
      clear hF hF2 hF3 hzip hrow hv1 hv2 hv3
      go_wp2
      go_roundw
      case rel => exact ⟨_, vs ++ [.slice (some ⟨wr.heap.size, 0, none⟩) V V], by simp; omega, by simp, (hbel.setCell (by simp) _).alloc (by simpa using hsz) _, hQ3, hO3, hcs.step hlt, by simpa using HF3.out⟩
      case measure => simp [intOf]; omega
    · have hvV : vs.length = V := by omega
      have ho : OutO wr w.heap.size wr.heap.size (.slice (some ⟨w.heap.size + 1, 0, none⟩) V V) vs := by
        have h1 := hcs
        rw [← hvV] at h1 ⊢
        exact h1.own hblk (by omega) (by omega)
      have hF0 : Fam wr w.heap.size wr.heap.size (vs.zip (matF V (ent ⟨V, qf, qt⟩ 0))) := by
        rwa [List.take_of_length_le (by rw [matF_length]; omega)] at hF
      have HVV := Lib.hid hvV
      have hbel0 := hbel
      have hkB0 := hkB
      go_wp2
      clear hvV hF hcs hblk hlt hbel hkB e0 e1 e2 hmk1
      have hmo : Try.prog.follows .mixedOrders = true := by kernel_rfl
      go_loopw [31] (fun i wr => ∃ k : Nat, k ≤ qf.length ∧ i = .int .i64 k ∧ Below w.heap.size w wr ∧ Blk wr w.heap.size 29 #[.int .i64 V, .slice A qf.length c, .slice C qt.length d] ∧ OutO wr w.heap.size wr.heap.size (.slice (some ⟨w.heap.size + 1, 0, none⟩) V V) vs ∧ Fam wr w.heap.size wr.heap.size (vs.zip (matF V (ent ⟨V, qf, qt⟩ k)))) (fun i _ => qf.length - (intOf i).toNat)
      case atStart => exact ⟨0, Nat.zero_le _, rfl, hbel0, hkB0, ho, hF0⟩
      case round =>
        clear hbel0 hkB0 ho hF0
        obtain ⟨k, hk, rfl, hbel, hkB, ho, hF⟩ := hrel
        have e0 := hkB.cell' (i := 0) rfl
        have e1 := hkB.cell' (i := 1) rfl
        have e2 := hkB.cell' (i := 2) rfl
        have hsz0 := Lib.hid hbel.size
        by_cases hlt : k < qf.length
        · have hltT : k < qt.length := by have := HLE.out; omega
          obtain ⟨b, o, x', rfl, hb, HX, x1, _⟩ := SlI.at_ hf hlt
          obtain ⟨b2, o2, y', rfl, hb2, HY, y1, _⟩ := SlI.at_ hT hltT
          have hxr := HR.out.1 x' (List.mem_of_getElem? HX.out)
          have hyr := HR.out.2 y' (List.mem_of_getElem? HY.out)
          obtain ⟨x, rfl⟩ : ∃ x : Nat, x' = x := ⟨x'.toNat, by omega⟩
          obtain ⟨y, rfl⟩ : ∃ y : Nat, y' = y := ⟨y'.toNat, by omega⟩
          have hxV : x < V := by omega
          have hyV : y < V := by omega
          clear hxr hyr
          have x2 := bcell hbel hb x1
          have y2 := bcell hbel hb2 y1
          obtain ⟨gr, cr, hvr, hor, hcr1, hcr2, hgr1, hgr2⟩ := hF.rowAt (by rw [HVV.out, matF_length]) (matF_get _ hxV) (by rw [rowF_length]; omega)
          obtain ⟨n, hn⟩ : ∃ n, ent ⟨V, qf, qt⟩ k x y = n := ⟨_, rfl⟩
          have hnr := ent_rng ⟨V, qf, qt⟩ k x y hl6
          have r1 := ho.cellS hvr
          rw [rowF_length] at r1 hcr1
          have r2 := (hor.cellG (j := y) (by rw [rowF_length]; exact hyV)).1
          rw [rowF_getD _ hyV, hn] at r2
          rw [hn] at hnr
          have r3 := hor.frozenG y
          have hp := hF.putAt (i := y) (x := n - 1) hvr (matF_get _ hxV) hor ⟨by omega, by omega⟩
          rw [← hn, matF_dec, hn] at hp
          have hput := (hor.put (j := y) (x := n - 1) ⟨by omega, by omega⟩).2
          have hoo := ho.grown hor hput
          have hkk := hkB.grown hput (hor.blkne hkB (by decide))
          have hbb := hbel.grown hput hsz0.out (fun j hj => by injection hj with hj; omega)
          obtain ⟨G1, hG1⟩ : ∃ G1 : Nat → Nat → Int, G1 = fun a b => ent ⟨V, qf, qt⟩ k a b - if a = x ∧ b = y then 1 else 0 := ⟨_, rfl⟩
          rw [← hG1] at hp
          have HG1 := Lib.hid hG1
          clear hG1 hput hor hF ho hn
          obtain ⟨W1, hW1⟩ : ∃ W1, W1 = (wr.setCell ⟨gr, y, none⟩ (.int .i64 (n - 1))).drew := ⟨_, rfl⟩
          have zW1 : W1.heap.size = wr.heap.size := by rw [hW1]; simp
          have hF1 : Fam W1 w.heap.size wr.heap.size (vs.zip (matF V G1)) := by rw [hW1]; exact hp.below (drew_below _)
          have ho1 : OutO W1 w.heap.size wr.heap.size (.slice (some ⟨w.heap.size + 1, 0, none⟩) V V) vs := by rw [hW1]; exact hoo.below (drew_below _)
          have hk1 : Blk W1 w.heap.size 29 #[.int .i64 V, .slice (some ⟨b, o, none⟩) qf.length c, .slice (some ⟨b2, o2, none⟩) qt.length d] := by rw [hW1]; exact hkk.drewN 1
          have hb1 : Below w.heap.size w W1 := by rw [hW1]; exact below_drewN hbb 1
          clear hp hoo hkk hbb hkB hbel
          go_wp2_with fail
          go_region_o
          rw [← hW1]
          clear hW1 r1 r2 r3 x2 y2 e0 e1 e2 hvr
          have e2 := hk1.cell' (i := 2) rfl
          have y2 := bcell hb1 hb2 y1
          obtain ⟨gs, cr', hvr, hor, hcr1', hcr2', hgs1, hgs2⟩ := hF1.rowAt (by rw [HVV.out, matF_length]) (matF_get _ hyV) (by rw [rowF_length]; omega)
          obtain ⟨m, hm⟩ : ∃ m, G1 y x = m := ⟨_, rfl⟩
          have hmr : -13 ≤ m ∧ m ≤ 2 := by
            rw [← hm, HG1.out]
            have := ent_rng ⟨V, qf, qt⟩ k y x hl6
            dsimp only
            split <;> omega
          have r1 := ho1.cellS hvr
          rw [rowF_length] at r1 hcr1'
          have r2 := (hor.cellG (j := x) (by rw [rowF_length]; exact hxV)).1
          rw [rowF_getD _ hxV, hm] at r2
          have r3 := hor.frozenG x
          have hp := hF1.putAt (i := x) (x := m - 1) hvr (matF_get _ hyV) hor ⟨by omega, by omega⟩
          rw [← hm, matF_dec, hm] at hp
          have hput := (hor.put (j := x) (x := m - 1) ⟨by omega, by omega⟩).2
          have hoo := ho1.grown hor hput
          have hkk := hk1.grown hput (hor.blkne hk1 (by decide))
          have hbb := hb1.grown hput (by have := hsz0.out; omega) (fun j hj => by injection hj with hj; omega)
          have hst : (matF V fun a b => G1 a b - if a = y ∧ b = x then 1 else 0) = matF V (ent ⟨V, qf, qt⟩ (k + 1)) := by
            apply matF_congr
            intro a b _ _
            rw [ent_succ HX.out HY.out, HG1.out]
          rw [hst] at hp
          have HP := Lib.hid hp
          have HOO := Lib.hid hoo
          clear hst hp hput hoo hor hF1 ho1 hm hvr
          go_wp2
          go_roundw
          case rel => exact ⟨k + 1, by omega, by go_num, hbb, hkk, HOO.out.mono (Nat.le_refl _) (by simp; omega), HP.out.mono (Nat.le_refl _) (by simp; omega)⟩
          case measure => simp [intOf]; omega
        · have hst : Hid (symM ⟨V, qf, qt⟩ = matF V (ent ⟨V, qf, qt⟩ k)) := by
            show _ = _
            rw [symM, show qf.length = k by omega]
            rfl
          rw [← hst.out] at hF
          go_wp2
          exact bodyPost_ret (v := .slice (some ⟨w.heap.size + 1, 0, none⟩) V V) (by simp [results, go_sem]) rfl ⟨_, rfl, ⟨vs, ho, by rw [hst.out, matF_length]; exact HVV.out, hF⟩, hbel⟩
end Go.Proofs.Ytpcgjjflmhnimaa
