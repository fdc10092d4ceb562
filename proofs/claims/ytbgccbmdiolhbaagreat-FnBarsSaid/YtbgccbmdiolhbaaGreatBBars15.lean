/- FnBars: the law holds for every argument. Part 15 of 16 of the proof: IsoD. No condition. -/
import Derived.Test.YtbgccbmdiolhbaaGreatBBars14
set_option linter.unusedVariables false
set_option linter.unusedSimpArgs false
set_option maxHeartbeats 12800000
set_option maxRecDepth 100000
namespace Go.Proofs.YtbgccbmdiolhbaaGreat
open Go.RowKit
theorem g3x {X Y:Rp} (hp2:2≤X.p) (i t:Nat):0≤rwF (hbB X Y) i t∧rwF (hbB X Y) i t≤X.p-1:=by
 unfold rwF;rcases h:(hbB X Y)[i]? with _ | l
 ·rw[l1_ (l:=hbB X Y),h];simp;omega
 ·rw[l1_ (l:=hbB X Y),h,Option.getD_some];have hm:=l4_ h;rw[hbB,kerR,kerM,List.mem_map]at hm;obtain⟨a,_,rfl⟩:=hm;by_cases ht:t<hmN X Y
  ·rw[i9_ _ ht];exact c3Q hp2 _ _ _ _ _
  ·rw[l1_,l6_ (by rw[a2_];omega)];simp;omega
theorem d2J {p:Nat} (hp:2≤p) (n code i:Nat):dgtN p n code i<p:=Nat.mod_lt _ (by omega)
def nmF (X Y:Rp) (code:Nat):Nat→Nat→Nat→Int:=vcF X Y (nbM X Y code)
theorem Z0_ (ua ub lv:Value) (X Y:Rp) (code:Nat) (w0:World) (ha:RpR w0 w0.heap.size ua X) (hb:RpR w0 w0.heap.size ub Y) (hl:SlMM w0 w0.heap.size lv (bsL X Y (hbB X Y) (homN X Y))) (hf:Fit2 X Y) (hc:code≤1000000) :
  Calls Tryz.prog 100 #[ua,ub,lv,.int .i64 code] w0 fun e w'=>∃ v,e = .returned v∧d8_ w' w0.heap.size w'.heap.size v (mvL X Y (nmF X Y code) X.d.length)∧Below w0.heap.size w0 w':=by
 obtain⟨LA,lc,rfl,lc1,lc2⟩:=hl.form;rw[m6_]at hl lc1⊢;have hn80:=Q0_ hf;have hN80:homN X Y≤80:=by unfold homN;omega
 have HL0:=h_ hl;clear hl;have ha':=ha;have hb':=hb;obtain⟨A,a,C,c,Ea,ea,Ha,ha_,rfl,hqa,hda,hma,hpa,lda,lma⟩:=ha.open_;obtain⟨A2,a2,C2,c2,Eb,eb,Hb,hb_,rfl,hqb,hdb,hmb,hpb,ldb,lmb⟩:=hb.open_;clear ha hb;obtain⟨W,hW,g0,k1,k2⟩:=b_4 w0 #[.int .i64 X.p,.int .i64 X.q.v,.slice A X.q.f.length a,.slice C X.q.t.length c,.slice Ea X.d.length ea,.slice Ha X.m.length ha_] 29 #[.int .i64 Y.p,.int .i64 Y.q.v,.slice A2 Y.q.f.length a2,.slice C2 Y.q.t.length c2,.slice Eb Y.d.length eb,.slice Hb Y.m.length hb_] 29;have HXA:=h_ (RpR.next g0 ha');have HXB:=h_ (RpR.next g0 hb');have HQA:=h_ (QvR.next g0 hqa);have HDA:=h_ (SlI.next g0 hda);have HDB:=h_ (SlI.next g0 hdb);have HMA:=h_ (SlM.next g0 hma);have HMB:=h_ (SlM.next g0 hmb);have G0:=h_ g0;clear ha' hb' hqa hqb hda hdb hma hmb hpa hpb g0;have HL:=h_ (SlMM.next G0.out HL0.out);have HF:=h_ hf;have HP2:=hf.p2;have hCM:=fun (ua ub lv kv:Value) (w:World) (h1:RpR w w.heap.size ua X) (h2:RpR w w.heap.size ub Y) (h3:SlMM w w.heap.size lv (bsL X Y (hbB X Y) (homN X Y))) (h4:SlI w w.heap.size kv (rowF (homN X Y) fun i=>(dgtN X.p.toNat (homN X Y) code i:Int))) =>
  W9_ ua ub lv kv X Y (hbB X Y) (homN X Y) (fun i=>(dgtN X.p.toNat (homN X Y) code i:Int)) w h1 h2 h3 h4 hf (by omega) (fun i _=>by have:=d2J (p:=X.p.toNat) (by omega) (homN X Y) code i;omega) (fun i t _=>by have:=g3x (X:=X) (Y:=Y) HP2.1 i t;omega)
 have HCM:=h_ hCM;clear HL0 hf hCM HDA HDB HMA HMB HQA;have K1:=h_ k1;have K2:=h_ k2;clear k1 k2;obtain⟨N,hN⟩:=e_ (homN X Y);rw[hN]at HL HCM hN80⊢;have HN:=h_ hN;clear hN;go_enter Tryz.func100,Tryz.ntmps100
 go_wp2;rw[←hW];clear hW;refine a9_ (by kernel_rfl) [.eq (.agg #[.int .i64 X.p,.int .i64 X.q.v,.slice A X.q.f.length a,.slice C X.q.t.length c,.slice Ea X.d.length ea,.slice Ha X.m.length ha_]),.eq (.agg #[.int .i64 Y.p,.int .i64 Y.q.v,.slice A2 Y.q.f.length a2,.slice C2 Y.q.t.length c2,.slice Eb Y.d.length eb,.slice Hb Y.m.length hb_]),.eq (.slice LA N lc),.eq (.pointer (some ⟨w0.heap.size,0,none⟩)),.eq (.int .i64 X.p),.eq (.slice LA N lc),.eq (.int .i64 N),.eq (.int .i64 code),rel 8 (fun u lo hi w=>a8_ w lo hi u (rowF N fun i=>(dgtN X.p.toNat N code i:Int))),rel 9 (fun u lo hi w=>d8_ w lo hi u (mvL X Y (nmF X Y code) X.d.length)),.rel (fun x w=>x.v 10=x.v 9∧d8_ w (x.lo 9) (x.hi 9) (x.v 9) (mvL X Y (nmF X Y code) X.d.length))] [[],[],[],[],[3],[],[5],[],[3,4,5,6,7],[0,1,2,3,4,5,6,7,8],[0,1,2,3,4,5,6,7,8,9]] 11 (by kernel_rfl) ⟨trivial,trivial,trivial,trivial,trivial,trivial,trivial,trivial,a7_ (fun u lo hi w w' h hb=>h.below hb),a7_ (fun u lo hi w w' h hb=>h.below hb),fun x w w' h hb=>⟨h.1,h.2.below hb⟩,trivial⟩ ⟨?_,?_,?_,?_,?_,?_,?_,?_,?_,?_,?_,trivial⟩ ?_;iterate 11 (intro x w hb hk Q' hQ;have he:=k_e hk;simp only[k_s]at he;simp only[netE]at hQ⊢;(try simp only[he]at hQ⊢);(try clear he);rotate_left)
 rotate_left
 ·clear hk;have e0:=K1.out.call hb;obtain⟨z0,z1,z2,z3,z4,z5⟩:=c_6 e0;clear e0;go_wp2;exact hQ _ _ br_ rfl
 ·clear hk;have e0:=K2.out.call hb;obtain⟨z0,z1,z2,z3,z4,z5⟩:=c_6 e0;clear e0;go_wp2;exact hQ _ _ br_ rfl
 iterate 2 (· clear hk;go_wp2;exact hQ _ _ br_ rfl)
 ·clear hk;have z:=(K1.out.call hb).cell' (i:=0) rfl;go_wp2;exact hQ _ _ br_ rfl
 iterate 3 (· clear hk;go_wp2;exact hQ _ _ br_ rfl)
 ·clear hk;go_wp2_with fail
  refine (a0X X.p N code _ HP2 (by omega) hc).mono ?_;rintro e w8 ⟨v8,rfl,h8,hb8⟩;go_wp2;exact hQ _ _ hb8 h8
 ·have h8:a8_ w (x.lo 8) (x.hi 8) (x.v 8) (rowF N fun i=>(dgtN X.p.toNat N code i:Int)):=(hk 8 (by decide)).1;have s8:=(hk 8 (by decide)).2;clear hk;go_wp2_with fail
  refine (HCM.out _ _ _ _ _ (RpR.next hb HXA.out) (RpR.next hb HXB.out) (SlMM.next hb HL.out) h8.rd).mono ?_;rintro e w8 ⟨v8,rfl,h9,hb8⟩;have h10:d8_ w8 w.heap.size w8.heap.size v8 (mvL X Y (nmF X Y code) X.d.length):=by
   unfold nmF nbM;rw[HN.out];exact h9
  go_wp2;exact hQ _ _ hb8 h10
 ·have h8:a8_ w (x.lo 8) (x.hi 8) (x.v 8) (rowF N fun i=>(dgtN X.p.toNat N code i:Int)):=(hk 8 (by decide)).1;have h9:d8_ w (x.lo 9) (x.hi 9) (x.v 9) (mvL X Y (nmF X Y code) X.d.length):=(hk 9 (by decide)).1;have s8:=(hk 8 (by decide)).2;have s9:=(hk 9 (by decide)).2;clear hk;have hQ':=hQ (x.v 9) w br_ ⟨rfl,h9⟩;go_wp2;exact hQ'
 ·intro x w hb hk hiv hdj;have h8:a8_ w (x.lo 8) (x.hi 8) (x.v 8) (rowF N fun i=>(dgtN X.p.toNat N code i:Int)):=hk 8 (by decide);have h9:d8_ w (x.lo 9) (x.hi 9) (x.v 9) (mvL X Y (nmF X Y code) X.d.length):=hk 9 (by decide);have h10:x.v 10=x.v 9∧d8_ w (x.lo 9) (x.hi 9) (x.v 9) (mvL X Y (nmF X Y code) X.d.length):=hk 10 (by decide);have he:=k_g hk [0,1,2,3,4,5,6,7];simp only[k_s]at he;simp only[netE,he];clear he hk;obtain⟨e10,_⟩:=h10;have li:=(hiv 9 (by decide)).1;have hi_:=(hiv 9 (by decide)).2.2;rw[e10];have hg:=G0.out.size;have HM:=h_ (h9.wider (lo':=w0.heap.size) (Nat.le_trans hg li) hi_);have HB:=h_ (b0_ G0.out hb);clear hiv hdj hb h8 h9 e10;go_wp2;go_ret
  exact⟨_,rfl,HM.out,HB.out⟩
theorem O5_ (ua ub fv:Value) (X Y:Rp) (F:Nat→Nat→Nat→Int) (w0:World) (ha:RpR w0 w0.heap.size ua X) (hb:RpR w0 w0.heap.size ub Y) (hfv:SlM w0 w0.heap.size fv (mvL X Y F X.d.length)) (hf:Fit2 X Y) (hd:X.d=Y.d) (hF:∀ v,v<X.d.length→InF X.p (dmN Y.d v) (dmN X.d v) (F v)) :
  Calls Tryz.prog 101 #[ua,ub,fv] w0 fun e w'=>e = .returned (.bool (decide (rkL5 X.p X Y F X.d.length=X.d)))∧Below w0.heap.size w0 w':=by
 obtain⟨LA,lc,rfl,lc1,lc2,_,_⟩:=hfv.open_;rw[g0_]at hfv lc1⊢;have HV0:=h_ hfv;clear hfv;have HDD:=h_ hd;clear hd;have ha':=ha;have hb':=hb;obtain⟨A,a,C,c,Ea,ea,Ha,ha_,rfl,hqa,hda,hma,hpa,lda,lma⟩:=ha.open_;obtain⟨A2,a2,C2,c2,Eb,eb,Hb,hb_,rfl,hqb,hdb,hmb,hpb,ldb,lmb⟩:=hb.open_;clear ha hb;obtain⟨W,hW,g0,k1,k2⟩:=b_4 w0 #[.int .i64 X.p,.int .i64 X.q.v,.slice A X.q.f.length a,.slice C X.q.t.length c,.slice Ea X.d.length ea,.slice Ha X.m.length ha_] 29 #[.int .i64 Y.p,.int .i64 Y.q.v,.slice A2 Y.q.f.length a2,.slice C2 Y.q.t.length c2,.slice Eb Y.d.length eb,.slice Hb Y.m.length hb_] 29;have HXA:=h_ (RpR.next g0 ha');have HXB:=h_ (RpR.next g0 hb');have HQA:=h_ (QvR.next g0 hqa);have HDA:=h_ (SlI.next g0 hda);have HDB:=h_ (SlI.next g0 hdb);have HMA:=h_ (SlM.next g0 hma);have HMB:=h_ (SlM.next g0 hmb);have G0:=h_ g0;clear ha' hb' hqa hqb hda hdb hma hmb hpa hpb g0;have HV:=h_ (SlM.next G0.out HV0.out);have HF:=h_ hf;have HI:=h_ hF;have HP:=h_ (j0_.1 hf.hx).1;have hV5:=hf.len.2;have HYL:=h_ (show SlI W W.heap.size (.slice Eb Y.d.length eb) X.d by rw[HDD.out];exact HDB.out);have HYD:=h_ (show Y.d.length=X.d.length by rw[HDD.out]);clear HV0 hf hF HDB HMA HMB HQA HXA HXB;have K1:=h_ k1;have K2:=h_ k2;clear k1 k2;obtain⟨D,hD⟩:=e_ (decide (rkL5 X.p X Y F X.d.length=X.d));rw[hD];have HD:=h_ hD;clear hD;go_enter Tryz.func101,Tryz.ntmps101
 go_wp2;rw[←hW];clear hW;refine s5_ (by kernel_rfl) [.eq (.pointer (some ⟨w0.heap.size,4,none⟩)),.eq (.slice Ea X.d.length ea),.eq (.pointer (some ⟨w0.heap.size+1,4,none⟩)),.eq (.slice Eb Y.d.length eb),.eq (.bool true),.eq (.bool true),.eq (.pointer (some ⟨w0.heap.size,0,none⟩)),.eq (.int .i64 X.p),.eq (.slice LA X.d.length lc),rel 9 (fun u lo hi w=>SlI w w.heap.size u (rkL5 X.p X Y F X.d.length)),.eq (.pointer (some ⟨w0.heap.size,4,none⟩)),.eq (.slice Ea X.d.length ea),.eq (.bool D),.eq (.bool D),.eq (.bool D)] [[],[0],[],[2],[0,1,2,3],[0,1,2,3,4],[0,1,2,3,4,5],[0,1,2,3,4,5,6],[0,1,2,3,4,5],[0,1,2,3,4,5,6,7,8],[0,1,2,3,4,5],[0,1,2,3,4,5,10],[0,1,2,3,4,5,6,7,8,9,10,11],[0,1,2,3,4,5,6,7,8,9,10,11,12],[0,1,2,3,4,5,6,7,8,9,10,11,12,13]] 15 (by kernel_rfl) ⟨trivial,trivial,trivial,trivial,trivial,trivial,trivial,trivial,trivial,a7_ (fun u lo hi w w' h hb=>SlI.next hb h),trivial,trivial,trivial,trivial,trivial,trivial⟩ ⟨?_,?_,?_,?_,?_,?_,?_,?_,?_,?_,?_,?_,?_,?_,?_,trivial⟩ ?_;iterate 15 (intro x w hb hk Q' hQ;have he:=k_e hk;simp only[k_s]at he;simp only[netE]at hQ⊢;(try simp only[he]at hQ⊢);(try clear he);rotate_left)
 rotate_left
 ·clear hk;go_wp2;exact hQ _ _ br_ rfl
 ·clear hk;have z:=(K1.out.call hb).cell' (i:=4) rfl;go_wp2;exact hQ _ _ br_ rfl
 ·clear hk;go_wp2;exact hQ _ _ br_ rfl
 ·clear hk;have z:=(K2.out.call hb).cell' (i:=4) rfl;go_wp2;exact hQ _ _ br_ rfl
 ·clear hk;go_wp2_with fail
  refine (n7_ _ _ X.d X.d _ (SlI.next hb HDA.out) (SlI.next hb HYL.out)).mono ?_;rintro e w8 ⟨rfl,hb8⟩;rw[show decide (X.d=X.d)=true from decide_eq_true rfl];go_wp2;exact hQ _ _ hb8 rfl
 iterate 2 (· clear hk;go_wp2;exact hQ _ _ br_ rfl)
 ·clear hk;have z:=(K1.out.call hb).cell' (i:=0) rfl;go_wp2;exact hQ _ _ br_ rfl
 ·clear hk;go_wp2;exact hQ _ _ br_ rfl
 ·clear hk;go_wp2_with fail
  refine (c6q X.p _ X Y F X.d.length _ HP.out HF.out hV5 (SlM.next hb HV.out) HI.out).mono ?_;rintro e w8 ⟨v8,rfl,h8,hb8⟩;go_wp2;exact hQ _ _ hb8 h8.rd
 ·clear hk;go_wp2;exact hQ _ _ br_ rfl
 ·clear hk;have z:=(K1.out.call hb).cell' (i:=4) rfl;go_wp2;exact hQ _ _ br_ rfl
 ·have h9:SlI w w.heap.size (x.v 9) (rkL5 X.p X Y F X.d.length):=(hk 9 (by decide)).1;clear hk;go_wp2_with fail
  refine (n7_ _ _ (rkL5 X.p X Y F X.d.length) X.d _ h9 (SlI.next hb HDA.out)).mono ?_;rintro e w8 ⟨rfl,hb8⟩;rw[HD.out];go_wp2;exact hQ _ _ hb8 rfl
 iterate 2 (· clear hk;go_wp2;exact hQ _ _ br_ rfl)
 ·intro x w hb hk hiv hdj;have h9:SlI w w.heap.size (x.v 9) (rkL5 X.p X Y F X.d.length):=hk 9 (by decide);have he:=k_g hk [0,1,2,3,4,5,6,7,8,10,11,12,13,14];simp only[k_s]at he;simp only[netE,he];clear he hk;have HB:=h_ (b0_ G0.out hb);clear hiv hdj hb h9;go_wp2;go_ret
  exact⟨rfl,HB.out⟩
def isoN (X Y:Rp) (code:Nat):Prop:=rkL5 X.p X Y (nmF X Y code) X.d.length=X.d
theorem g2q {X Y:Rp} (hp2:2≤X.p) (code v r c:Nat):InF X.p r c (nmF X Y code v):=fun a b _ _=>a3Z hp2 _ _ _ _
theorem a2q (ua ub lv:Value) (X Y:Rp) (w0:World) (ha:RpR w0 w0.heap.size ua X) (hb:RpR w0 w0.heap.size ub Y) (hl:SlMM w0 w0.heap.size lv (bsL X Y (hbB X Y) (homN X Y))) (hf:Fit2 X Y) (hd:X.d=Y.d) :
  Calls Tryz.prog 48 #[ua,ub,lv] w0 fun e w'=>∃ v b,e = .returned (.tuple #[v,.bool b])∧(b=false→X.p.toNat ^ homN X Y≤3000→∀ code,code<X.p.toNat ^ homN X Y→¬ isoN X Y code)∧Below w0.heap.size w0 w':=by
 obtain⟨LA,lc,rfl,lc1,lc2⟩:=hl.form;rw[m6_]at hl lc1⊢;have hn80:=Q0_ hf;have hN80:homN X Y≤80:=by unfold homN;omega
 have HL0:=h_ hl;clear hl;have ha':=ha;have hb':=hb;obtain⟨A,a,C,c,Ea,ea,Ha,ha_,rfl,hqa,hda,hma,hpa,lda,lma⟩:=ha.open_;obtain⟨A2,a2,C2,c2,Eb,eb,Hb,hb_,rfl,hqb,hdb,hmb,hpb,ldb,lmb⟩:=hb.open_;clear ha hb;obtain⟨W,hW,g0,k1,k2⟩:=b_4 w0 #[.int .i64 X.p,.int .i64 X.q.v,.slice A X.q.f.length a,.slice C X.q.t.length c,.slice Ea X.d.length ea,.slice Ha X.m.length ha_] 29 #[.int .i64 Y.p,.int .i64 Y.q.v,.slice A2 Y.q.f.length a2,.slice C2 Y.q.t.length c2,.slice Eb Y.d.length eb,.slice Hb Y.m.length hb_] 29;have HXA:=h_ (RpR.next g0 ha');have HXB:=h_ (RpR.next g0 hb');have HQA:=h_ (QvR.next g0 hqa);have HDA:=h_ (SlI.next g0 hda);have HDB:=h_ (SlI.next g0 hdb);have HMA:=h_ (SlM.next g0 hma);have HMB:=h_ (SlM.next g0 hmb);have G0:=h_ g0;clear ha' hb' hqa hqb hda hdb hma hmb hpa hpb g0;have HL:=h_ (SlMM.next G0.out HL0.out);have HP2:=hf.p2;have HNM:=h_ (show ∀ (ua ub lv:Value) (code:Nat) (w:World),RpR w w.heap.size ua X→RpR w w.heap.size ub Y→SlMM w w.heap.size lv (bsL X Y (hbB X Y) (homN X Y))→code≤1000000→Calls Tryz.prog 100 #[ua,ub,lv,.int .i64 code] w fun e w'=>∃ v,e = .returned v∧d8_ w' w.heap.size w'.heap.size v (mvL X Y (nmF X Y code) X.d.length)∧Below w.heap.size w w' from fun ua ub lv code w h1 h2 h3 h4=>Z0_ ua ub lv X Y code w h1 h2 h3 hf h4);have HII:=h_ (show ∀ (ua ub fv:Value) (code:Nat) (w:World),RpR w w.heap.size ua X→RpR w w.heap.size ub Y→SlM w w.heap.size fv (mvL X Y (nmF X Y code) X.d.length)→Calls Tryz.prog 101 #[ua,ub,fv] w fun e w'=>e = .returned (.bool (decide (rkL5 X.p X Y (nmF X Y code) X.d.length=X.d)))∧Below w.heap.size w w' from fun ua ub fv code w h1 h2 h3=>O5_ ua ub fv X Y (nmF X Y code) w h1 h2 h3 hf hd fun v _=>g2q hf.p2.1 code v _ _);clear HL0 hf hd HDA HDB HMA HMB HQA;have K1:=h_ k1;have K2:=h_ k2;clear k1 k2;obtain⟨N,hN⟩:=e_ (homN X Y);rw[hN]at HL HNM hN80⊢;clear hN;have c0:=K1.out.cell' (i:=0) rfl;go_enter Tryz.func48,Tryz.ntmps48
 go_wp2_with fail
 rw[←hW];clear hW;refine (B4_ X.p N _ HP2 (by omega)).mono ?_;rintro e w1 ⟨⟨cn,rfl,hc1,_,hc2,hc3⟩,hww⟩;replace hww:=hww.symm;subst hww;have HC1:=h_ hc1;clear hc1 c0;obtain⟨M,hM⟩:∃ M:Nat,min cn 3000=M:=⟨_,rfl⟩;have hM2:M≤3000:=by omega
 have hmin:(if (cn:Int)<3000 then (cn:Int) else 3000)=(M:Int):=by split <;> omega
 have hmin2:(if (3000:Int)<(cn:Int) then (3000:Int) else (cn:Int))=(M:Int):=by split <;> omega
 have hmin3:(if (cn:Int) > 3000 then (3000:Int) else (cn:Int))=(M:Int):=by split <;> omega
 have HM:=h_ (show X.p.toNat ^ N≤3000→M=X.p.toNat ^ N from fun h=>by have:=HC1.out (by omega);omega);clear hM hc2 hc3;go_wp2;go_loopw [16] (fun ix wr=>∃ k:Nat,k≤M∧ix = .int .i64 k∧Hid (∀ c,c<k→¬ isoN X Y c)∧Below W.heap.size W wr) (fun ix _=>M-(intOf ix).toNat)
 case atStart=>exact⟨0,l0_ _,rfl,fun c h=>absurd h (by omega),Below.refl _ _⟩
 case round =>
  obtain⟨k,hk,rfl,HNO,hbel⟩:=hrel;by_cases hlt:k<M
  ·have e1:=K1.out.call hbel;have e2:=K2.out.call hbel;obtain⟨z0,z1,z2,z3,z4,z5⟩:=c_6 e1;obtain⟨y0,y1,y2,y3,y4,y5⟩:=c_6 e2;have HA:=h_ (RpR.next hbel HXA.out);have HB:=h_ (RpR.next hbel HXB.out);have HL1:=h_ (SlMM.next hbel HL.out);have HBL:=h_ hbel;have E1:=h_ e1;have E2:=h_ e2;clear e1 e2 hbel;go_wp2_with fail
   refine (HNM.out _ _ _ k _ HA.out HB.out HL1.out (by omega)).mono ?_;rintro e w2 ⟨v2,rfl,hM2',hb2⟩;obtain⟨MA,mc,em,_,_⟩:=hM2'.form2;rw[g0_]at em;subst em;have HMM:=h_ hM2'.rd;have HA2:=h_ (RpR.next hb2 HA.out);have HB2:=h_ (RpR.next hb2 HB.out);have HBL2:=h_ (b0_ HBL.out hb2);clear z0 z1 z2 z3 z4 z5 y0 y1 y2 y3 y4 y5;have e1:=E1.out.call hb2;have e2:=E2.out.call hb2;obtain⟨z0,z1,z2,z3,z4,z5⟩:=c_6 e1;obtain⟨y0,y1,y2,y3,y4,y5⟩:=c_6 e2;clear e1 e2 hb2 hM2' HA HB HL1 HBL E1 E2;go_wp2_with fail
   refine (HII.out _ _ _ k _ HA2.out HB2.out HMM.out).mono ?_;rintro e w3 ⟨rfl,hb3⟩;have HBF:=h_ (b0_ G0.out (b0_ HBL2.out hb3));have HBG:=h_ (b0_ HBL2.out hb3);clear hb3 HA2 HB2 HBL2 HMM z0 z1 z2 z3 z4 z5 y0 y1 y2 y3 y4 y5;obtain⟨D,hD⟩:=e_ (decide (rkL5 X.p X Y (nmF X Y k) X.d.length=X.d));rw[hD];have HD:=h_ hD;clear hD;cases D
   ·have HN2:=h_ (show ∀ c,c<k+1→¬ isoN X Y c from fun c hc=>by
     by_cases h:c<k
     ·exact HNO.out c h
     ·obtain rfl:c=k:=by omega
      have h9:=HD.out;rw[decide_eq_false_iff_not]at h9;exact h9)
    clear HD HNO;go_wp2;go_roundw
    case rel=>exact⟨k+1,by omega,by go_num,HN2.out,HBG.out⟩
    case measure=>simp[intOf];omega
   ·go_wp2;exact bodyPost_ret (v:=.tuple #[.slice MA X.d.length mc,.bool true]) (by simp[results,go_sem]) rfl ⟨_,_,rfl,fun h=>absurd h (by simp),HBF.out⟩
  ·obtain rfl:k=M:=by omega
   have HBF:=h_ (b0_ G0.out hbel);have HFN:=h_ (show X.p.toNat ^ N≤3000→∀ code,code<X.p.toNat ^ N→¬ isoN X Y code from fun h code hc=>HNO.out code (by rw[HM.out h];exact hc));clear hbel HNO;go_wp2;exact bodyPost_ret (v:=.tuple #[.slice none 0 0,.bool false]) (by simp[results,go_sem]) rfl ⟨_,_,rfl,fun _=>HFN.out,HBF.out⟩
theorem b4x (ua ub:Value) (X Y:Rp) (w0:World) (ha:RpR w0 w0.heap.size ua X) (hb:RpR w0 w0.heap.size ub Y) (hf:Fit2 X Y) (hd:X.d=Y.d) (hh:homN X Y=homN X X∧homN Y X=homN X X∧homN Y Y=homN X X) :
  Calls Tryz.prog 46 #[ua,ub] w0 fun e w'=>e = .returned (.bool false)∧Below w0.heap.size w0 w':=by
 have HF:=h_ hf;have HDD:=h_ hd;have HH:=h_ hh;clear hf hd hh;have ha':=ha;have hb':=hb;obtain⟨A,a,C,c,Ea,ea,Ha,ha_,rfl,hqa,hda,hma,hpa,lda,lma⟩:=ha.open_;obtain⟨A2,a2,C2,c2,Eb,eb,Hb,hb_,rfl,hqb,hdb,hmb,hpb,ldb,lmb⟩:=hb.open_;clear ha hb;obtain⟨W,hW,g0,k1,k2⟩:=b_4 w0 #[.int .i64 X.p,.int .i64 X.q.v,.slice A X.q.f.length a,.slice C X.q.t.length c,.slice Ea X.d.length ea,.slice Ha X.m.length ha_] 29 #[.int .i64 Y.p,.int .i64 Y.q.v,.slice A2 Y.q.f.length a2,.slice C2 Y.q.t.length c2,.slice Eb Y.d.length eb,.slice Hb Y.m.length hb_] 29;have HXA:=h_ (RpR.next g0 ha');have HXB:=h_ (RpR.next g0 hb');have HQA:=h_ (QvR.next g0 hqa);have HDA:=h_ (SlI.next g0 hda);have HDB:=h_ (SlI.next g0 hdb);have HMA:=h_ (SlM.next g0 hma);have HMB:=h_ (SlM.next g0 hmb);have G0:=h_ g0;clear ha' hb' hqa hqb hda hdb hma hmb hpa hpb g0;have HYL:=h_ (show SlI W W.heap.size (.slice Eb Y.d.length eb) X.d by rw[HDD.out];exact HDB.out);have HXX:=h_ (show Fit2 X X from HF.out.rfl1);have HYY:=h_ (show Fit2 Y Y from HF.out.symm.rfl1);have HYX:=h_ (show Fit2 Y X from HF.out.symm);clear HMA HMB HQA HDB HDD;have K1:=h_ k1;have K2:=h_ k2;clear k1 k2;have e1:=K1.out;have e2:=K2.out;obtain⟨z0,z1,z2,z3,z4,z5⟩:=c_6 e1;obtain⟨y0,y1,y2,y3,y4,y5⟩:=c_6 e2;clear e1 e2;go_enter Tryz.func46,Tryz.ntmps46
 go_wp2_with fail
 rw[←hW];clear hW;refine (n7_ _ _ X.d X.d _ HDA.out HYL.out).mono ?_;rintro e w1 ⟨rfl,hb1⟩;rw[show decide (X.d=X.d)=true from decide_eq_true rfl];have G1:=h_ (b0_ G0.out hb1);have HA1:=h_ (RpR.next hb1 HXA.out);have HB1:=h_ (RpR.next hb1 HXB.out);have L1:=h_ (K1.out.call hb1);have L2:=h_ (K2.out.call hb1);clear z0 z1 z2 z3 z4 z5 y0 y1 y2 y3 y4 y5 hb1 G0 HXA HXB K1 K2;have e1:=L1.out;have e2:=L2.out;obtain⟨z0,z1,z2,z3,z4,z5⟩:=c_6 e1;obtain⟨y0,y1,y2,y3,y4,y5⟩:=c_6 e2;clear e1 e2;go_wp2_with fail
 refine (t0_ _ _ X X _ HA1.out HA1.out HXX.out).mono ?_;rintro e w2 ⟨rfl,hb2⟩;have G2:=h_ (b0_ G1.out hb2);have HA2:=h_ (RpR.next hb2 HA1.out);have HB2:=h_ (RpR.next hb2 HB1.out);have M1:=h_ (L1.out.call hb2);have M2:=h_ (L2.out.call hb2);clear z0 z1 z2 z3 z4 z5 y0 y1 y2 y3 y4 y5 hb2 G1 HA1 HB1 L1 L2;have e1:=M1.out;have e2:=M2.out;obtain⟨z0,z1,z2,z3,z4,z5⟩:=c_6 e1;obtain⟨y0,y1,y2,y3,y4,y5⟩:=c_6 e2;clear e1 e2;go_wp2_with fail
 refine (t0_ _ _ X Y _ HA2.out HB2.out HF.out).mono ?_;rintro e w3 ⟨rfl,hb3⟩;rw[HH.out.1];have G3:=h_ (b0_ G2.out hb3);have HA3:=h_ (RpR.next hb3 HA2.out);have HB3:=h_ (RpR.next hb3 HB2.out);have N1:=h_ (M1.out.call hb3);have N2:=h_ (M2.out.call hb3);clear z0 z1 z2 z3 z4 z5 y0 y1 y2 y3 y4 y5 hb3 G2 HA2 HB2 M1 M2;have e1:=N1.out;have e2:=N2.out;obtain⟨z0,z1,z2,z3,z4,z5⟩:=c_6 e1;obtain⟨y0,y1,y2,y3,y4,y5⟩:=c_6 e2;clear e1 e2;have hne:(((homN X X:Nat):Int) != ((homN X X:Nat):Int))=false:=by simp
 go_wp2_with fail
 refine (t0_ _ _ Y X _ HB3.out HA3.out HYX.out).mono ?_;rintro e w4 ⟨rfl,hb4⟩;rw[HH.out.2.1];have G4:=h_ (b0_ G3.out hb4);have HA4:=h_ (RpR.next hb4 HA3.out);have HB4:=h_ (RpR.next hb4 HB3.out);have O1:=h_ (N1.out.call hb4);have O2:=h_ (N2.out.call hb4);clear z0 z1 z2 z3 z4 z5 y0 y1 y2 y3 y4 y5 hb4 G3 HA3 HB3 N1 N2;have e1:=O1.out;have e2:=O2.out;obtain⟨z0,z1,z2,z3,z4,z5⟩:=c_6 e1;obtain⟨y0,y1,y2,y3,y4,y5⟩:=c_6 e2;clear e1 e2;go_wp2_with fail
 refine (t0_ _ _ Y Y _ HB4.out HB4.out HYY.out).mono ?_;rintro e w5 ⟨rfl,hb5⟩;rw[HH.out.2.2];have GF:=h_ (b0_ G4.out hb5);clear hb5;go_wp2;go_ret
 exact⟨rfl,GF.out⟩
theorem f9q {X Y:Rp} {F G:Nat→Nat→Nat→Int} (h:IsoF X Y F G):∃ code,code<X.p.toNat ^ homN X Y∧isoN X Y code:=by
 obtain⟨code,hc,hr⟩:=d4q h;refine⟨code,hc,?_⟩;unfold isoN;apply List.ext_getElem?
 intro v;by_cases hv:v<X.d.length
 ·rw[(h.fit.dim hv).1,rkL5,List.getElem?_map,List.getElem?_range hv];show some ((rkF X.p (dmN Y.d v) (dmN X.d v) (nmF X Y code v):Nat):Int)=_;have e:rkF X.p (dmN Y.d v) (dmN X.d v) (nmF X Y code v)=dmN X.d v:=hr v hv;rw[e]
 ·rw[l6_ (by rw[A4_];omega),l6_ (by omega)]
theorem b3J (ua ub:Value) (X Y:Rp) (F G:Nat→Nat→Nat→Int) (w0:World) (ha:RpR w0 w0.heap.size ua X) (hb:RpR w0 w0.heap.size ub Y) (hi:IsoF X Y F G) (hd:X.d=Y.d) :
  Calls Tryz.prog 14 #[ua,ub] w0 fun e w'=>(∃ r:Int,e = .returned (.int .i64 r)∧(r=1∨r = -1))∧Below w0.heap.size w0 w':=by
 have HF:=h_ hi.fit;have HDD:=h_ hd;have HH:=h_ (d4z hi);have HIS:=h_ (f9q hi);have HP2:=hi.fit.p2;have hn80:=Q0_ hi.fit;have hN80:homN X Y≤80:=by unfold homN;omega
 clear hi hd;have ha':=ha;have hb':=hb;obtain⟨A,a,C,c,Ea,ea,Ha,ha_,rfl,hqa,hda,hma,hpa,lda,lma⟩:=ha.open_;obtain⟨A2,a2,C2,c2,Eb,eb,Hb,hb_,rfl,hqb,hdb,hmb,hpb,ldb,lmb⟩:=hb.open_;clear ha hb;obtain⟨W,hW,g0,k1,k2⟩:=b_4 w0 #[.int .i64 X.p,.int .i64 X.q.v,.slice A X.q.f.length a,.slice C X.q.t.length c,.slice Ea X.d.length ea,.slice Ha X.m.length ha_] 29 #[.int .i64 Y.p,.int .i64 Y.q.v,.slice A2 Y.q.f.length a2,.slice C2 Y.q.t.length c2,.slice Eb Y.d.length eb,.slice Hb Y.m.length hb_] 29;have HXA:=h_ (RpR.next g0 ha');have HXB:=h_ (RpR.next g0 hb');have HQA:=h_ (QvR.next g0 hqa);have HDA:=h_ (SlI.next g0 hda);have HDB:=h_ (SlI.next g0 hdb);have HMA:=h_ (SlM.next g0 hma);have HMB:=h_ (SlM.next g0 hmb);have G0:=h_ g0;clear ha' hb' hqa hqb hda hdb hma hmb hpa hpb g0;clear HMA HMB HQA HDA HDB;have K1:=h_ k1;have K2:=h_ k2;clear k1 k2;have e1:=K1.out;have e2:=K2.out;obtain⟨z0,z1,z2,z3,z4,z5⟩:=c_6 e1;obtain⟨y0,y1,y2,y3,y4,y5⟩:=c_6 e2;clear e1 e2;go_enter Tryz.func14,Tryz.ntmps14
 go_wp2_with fail
 rw[←hW];clear hW;refine (b9Z _ _ X Y _ HXA.out HXB.out HF.out).mono ?_;rintro e w1 ⟨rfl,hb1⟩;have G1:=h_ (b0_ G0.out hb1);have HA1:=h_ (RpR.next hb1 HXA.out);have HB1:=h_ (RpR.next hb1 HXB.out);have L1:=h_ (K1.out.call hb1);have L2:=h_ (K2.out.call hb1);clear z0 z1 z2 z3 z4 z5 y0 y1 y2 y3 y4 y5 hb1 G0 HXA HXB K1 K2;have e1:=L1.out;have e2:=L2.out;obtain⟨z0,z1,z2,z3,z4,z5⟩:=c_6 e1;obtain⟨y0,y1,y2,y3,y4,y5⟩:=c_6 e2;clear e1 e2;go_wp2_with fail
 refine (b4x _ _ X Y _ HA1.out HB1.out HF.out HDD.out HH.out).mono ?_;rintro e w2 ⟨rfl,hb2⟩;have G2:=h_ (b0_ G1.out hb2);have HA2:=h_ (RpR.next hb2 HA1.out);have HB2:=h_ (RpR.next hb2 HB1.out);have M1:=h_ (L1.out.call hb2);have M2:=h_ (L2.out.call hb2);clear z0 z1 z2 z3 z4 z5 y0 y1 y2 y3 y4 y5 hb2 G1 HA1 HB1 L1 L2;have e1:=M1.out;have e2:=M2.out;obtain⟨z0,z1,z2,z3,z4,z5⟩:=c_6 e1;obtain⟨y0,y1,y2,y3,y4,y5⟩:=c_6 e2;clear e1 e2;go_wp2_with fail
 refine (X7_ _ _ X Y _ HA2.out HB2.out HF.out).mono ?_;rintro e w3 ⟨bv,rfl,hB3,hb3⟩;have G3:=h_ (b0_ G2.out hb3);have HA3:=h_ (RpR.next hb3 HA2.out);have HB3:=h_ (RpR.next hb3 HB2.out);have N1:=h_ (M1.out.call hb3);have N2:=h_ (M2.out.call hb3);clear z0 z1 z2 z3 z4 z5 y0 y1 y2 y3 y4 y5 hb3 G2 HA2 HB2 M1 M2;have e1:=N1.out;have e2:=N2.out;obtain⟨z0,z1,z2,z3,z4,z5⟩:=c_6 e1;obtain⟨y0,y1,y2,y3,y4,y5⟩:=c_6 e2;clear e1 e2;obtain⟨BA,bc,eb,_,_⟩:=hB3.form;rw[m6_]at eb;subst eb;have HBS:=h_ hB3;clear hB3;go_wp2_with fail
 refine (a2q _ _ _ X Y _ HA3.out HB3.out HBS.out HF.out HDD.out).mono ?_;rintro e w4 ⟨fv,b,rfl,hno,hb4⟩;have HNO:=h_ hno;have G4:=h_ (b0_ G3.out hb4);have HA4:=h_ (RpR.next hb4 HA3.out);have HB4:=h_ (RpR.next hb4 HB3.out);have O1:=h_ (N1.out.call hb4);have O2:=h_ (N2.out.call hb4);clear z0 z1 z2 z3 z4 z5 y0 y1 y2 y3 y4 y5 hb4 G3 HA3 HB3 N1 N2;have e1:=O1.out;have e2:=O2.out;obtain⟨z0,z1,z2,z3,z4,z5⟩:=c_6 e1;obtain⟨y0,y1,y2,y3,y4,y5⟩:=c_6 e2;clear e1 e2;clear hno HBS HA4 HB4;obtain⟨N,hN⟩:=e_ (homN X Y);rw[hN]at HNO HIS hN80⊢;clear hN;cases b
 ·go_wp2_with fail
  refine (B4_ X.p N _ HP2 (by omega)).mono ?_;rintro e w5 ⟨⟨cn,rfl,hc1,hc2,_,_⟩,hww⟩;replace hww:=hww.symm;subst hww;have hc3:3000<cn:=by
   refine Nat.lt_of_not_le fun hle=>?_
   by_cases h:X.p.toNat ^ N≤100000
   ·have:=hc1 h;obtain⟨code,h1,h2⟩:=HIS.out;exact HNO.out (by trivial) (by omega) code h1 h2
   ·have:=hc2 h;omega
  clear hc1 hc2 HIS HNO;go_wp2;go_ret
  exact⟨⟨_,rfl,.inr rfl⟩,G4.out⟩
 ·go_wp2;go_ret
  exact⟨⟨_,rfl,.inl rfl⟩,G4.out⟩
end Go.Proofs.YtbgccbmdiolhbaaGreat

