/- FnFunctors: the law holds for every argument. Part 10 of 14 of the proof: HomF, IsoD, FncL, FncP, RfC, RepCl, RfI, InOut2, InOut3. No condition. -/
import Derived.Test.YtnohdlkailpnoaaGreatBFunctors9
set_option linter.unusedVariables false
set_option linter.unusedSimpArgs false
set_option maxHeartbeats 12800000
set_option maxRecDepth 100000
namespace Go.Proofs.YtnohdlkailpnoaaGreat
open Go.RowKit
theorem b1Z (ua ub:Value) (X Y:Rp) (w0:World) (ha:RpR w0 w0.heap.size ua X) (hb:RpR w0 w0.heap.size ub Y) (hf:Fit2 X Y) :
  Calls Tryz.prog 46 #[ua,ub] w0 fun e w'=>e = .returned (.bool true)∧Below w0.heap.size w0 w':=by
 have HF:=h_ hf;clear hf;have ha':=ha;have hb':=hb;obtain⟨A,a,C,c,Ea,ea,Ha,ha_,rfl,hqa,hda,hma,hpa,lda,lma⟩:=ha.open_;obtain⟨A2,a2,C2,c2,Eb,eb,Hb,hb_,rfl,hqb,hdb,hmb,hpb,ldb,lmb⟩:=hb.open_;clear ha hb;obtain⟨W,hW,g0,k1,k2⟩:=b_4 w0 #[.int .i64 X.p,.int .i64 X.q.v,.slice A X.q.f.length a,.slice C X.q.t.length c,.slice Ea X.d.length ea,.slice Ha X.m.length ha_] 29 #[.int .i64 Y.p,.int .i64 Y.q.v,.slice A2 Y.q.f.length a2,.slice C2 Y.q.t.length c2,.slice Eb Y.d.length eb,.slice Hb Y.m.length hb_] 29;have HXA:=h_ (RpR.next g0 ha');have HXB:=h_ (RpR.next g0 hb');have HQA:=h_ (QvR.next g0 hqa);have HDA:=h_ (SlI.next g0 hda);have HDB:=h_ (SlI.next g0 hdb);have HMA:=h_ (SlM.next g0 hma);have HMB:=h_ (SlM.next g0 hmb);have G0:=h_ g0;clear ha' hb' hqa hqb hda hdb hma hmb hpa hpb g0;clear HDA HDB HMA HMB HQA;obtain⟨c0,c1,c2,c3,c4,c5⟩:=c_6 k1;obtain⟨d0,d1,d2,d3,d4,d5⟩:=c_6 k2;go_enter Tryz.func46,Tryz.ntmps46
 go_wp2_with fail
 rw[←hW];clear hW;refine (i4_ _ X _ HXA.out).mono ?_;rintro e w1 ⟨rfl,hb1⟩;rw[HF.out.hx];have G1:=h_ (G0.out.trans (hb1.mono G0.out.size));have HA1:=h_ (RpR.next hb1 HXA.out);have HB1:=h_ (RpR.next hb1 HXB.out);clear c0 c1 c2 c3 c4 c5 d0 d1 d2 d3 d4 d5;replace k1:=k1.call hb1;replace k2:=k2.call hb1;clear hb1 G0 HXA HXB;obtain⟨c0,c1,c2,c3,c4,c5⟩:=c_6 k1;obtain⟨d0,d1,d2,d3,d4,d5⟩:=c_6 k2;go_wp2_with fail
 refine (i4_ _ Y _ HB1.out).mono ?_;rintro e w2 ⟨rfl,hb2⟩;rw[HF.out.hy];have G2:=h_ (G1.out.trans (hb2.mono G1.out.size));have HA2:=h_ (RpR.next hb2 HA1.out);have HB2:=h_ (RpR.next hb2 HB1.out);clear c0 c1 c2 c3 c4 c5 d0 d1 d2 d3 d4 d5;replace k1:=k1.call hb2;replace k2:=k2.call hb2;clear hb2 G1 HA1 HB1;obtain⟨c0,c1,c2,c3,c4,c5⟩:=c_6 k1;obtain⟨d0,d1,d2,d3,d4,d5⟩:=c_6 k2;have hpp:(X.p == Y.p)=true:=by rw[beq_iff_eq];exact HF.out.hp
 obtain⟨_,_,_,_,_,_,_,_,ea2,hqa,_⟩:=HA2.out.open_;obtain⟨_,_,_,_,_,_,_,_,eb2,hqb,_⟩:=HB2.out.open_;simp only[Value.agg.injEq,Array.mk.injEq,List.cons.injEq,and_true,true_and,Value.slice.injEq]at ea2 eb2;obtain⟨⟨rfl,rfl⟩,⟨rfl,rfl⟩,⟨rfl,rfl⟩,⟨rfl,rfl⟩⟩:=ea2;obtain⟨⟨rfl,rfl⟩,⟨rfl,rfl⟩,⟨rfl,rfl⟩,⟨rfl,rfl⟩⟩:=eb2;have HQ1:=h_ hqa;have HQ2:=h_ hqb;clear hqa hqb;go_wp2_with fail
 refine (z4_ _ _ X.q Y.q _ HQ1.out HQ2.out).mono ?_;rintro e w3 ⟨rfl,hb3⟩;rw[decide_eq_true HF.out.hq];have G3:=h_ (G2.out.trans (hb3.mono G2.out.size));clear hb3 G2;go_wp2;go_ret
 exact⟨rfl,G3.out⟩
theorem o8_ (ua ub:Value) (X Y:Rp) (w0:World) (ha:RpR w0 w0.heap.size ua X) (hb:RpR w0 w0.heap.size ub Y) (hf:Fit2 X Y) :
  Calls Tryz.prog 13 #[ua,ub] w0 fun e w'=>e = .returned (.int .i64 (homN X Y:Int))∧Below w0.heap.size w0 w':=by
 have HF:=h_ hf;clear hf;have ha':=ha;have hb':=hb;obtain⟨A,a,C,c,Ea,ea,Ha,ha_,rfl,hqa,hda,hma,hpa,lda,lma⟩:=ha.open_;obtain⟨A2,a2,C2,c2,Eb,eb,Hb,hb_,rfl,hqb,hdb,hmb,hpb,ldb,lmb⟩:=hb.open_;clear ha hb;obtain⟨W,hW,g0,k1,k2⟩:=b_4 w0 #[.int .i64 X.p,.int .i64 X.q.v,.slice A X.q.f.length a,.slice C X.q.t.length c,.slice Ea X.d.length ea,.slice Ha X.m.length ha_] 29 #[.int .i64 Y.p,.int .i64 Y.q.v,.slice A2 Y.q.f.length a2,.slice C2 Y.q.t.length c2,.slice Eb Y.d.length eb,.slice Hb Y.m.length hb_] 29;have HXA:=h_ (RpR.next g0 ha');have HXB:=h_ (RpR.next g0 hb');have HQA:=h_ (QvR.next g0 hqa);have HDA:=h_ (SlI.next g0 hda);have HDB:=h_ (SlI.next g0 hdb);have HMA:=h_ (SlM.next g0 hma);have HMB:=h_ (SlM.next g0 hmb);have G0:=h_ g0;clear ha' hb' hqa hqb hda hdb hma hmb hpa hpb g0;clear HDA HDB HMA HMB HQA;obtain⟨c0,c1,c2,c3,c4,c5⟩:=c_6 k1;obtain⟨d0,d1,d2,d3,d4,d5⟩:=c_6 k2;go_enter Tryz.func13,Tryz.ntmps13
 go_wp2_with fail
 rw[←hW];clear hW;refine (b1Z _ _ X Y _ HXA.out HXB.out HF.out).mono ?_;rintro e w1 ⟨rfl,hb1⟩;have G1:=h_ (G0.out.trans (hb1.mono G0.out.size));have HA1:=h_ (RpR.next hb1 HXA.out);have HB1:=h_ (RpR.next hb1 HXB.out);clear c0 c1 c2 c3 c4 c5 d0 d1 d2 d3 d4 d5;replace k1:=k1.call hb1;replace k2:=k2.call hb1;clear hb1 G0 HXA HXB;obtain⟨c0,c1,c2,c3,c4,c5⟩:=c_6 k1;obtain⟨d0,d1,d2,d3,d4,d5⟩:=c_6 k2;go_wp2_with fail
 refine (u0_ _ _ X Y _ HA1.out HB1.out HF.out).mono ?_;rintro e w2 ⟨rfl,hb2⟩;have G2:=h_ (G1.out.trans (hb2.mono G1.out.size));clear hb2 G1;go_wp2;go_ret
 exact⟨rfl,G2.out⟩
theorem d3Z {X Y:Rp} (hp2:2≤X.p) (i t:Nat):0≤rwF (hbB X Y) i t∧rwF (hbB X Y) i t≤X.p-1:=by
 unfold rwF;rcases h:(hbB X Y)[i]? with _ | l
 ·rw[l1_ (l:=hbB X Y),h];simp;omega
 ·rw[l1_ (l:=hbB X Y),h,Option.getD_some];have hm:=l4_ h;rw[hbB,kerR,kerM,List.mem_map]at hm;obtain⟨a,_,rfl⟩:=hm;by_cases ht:t<hmN X Y
  ·rw[c9_ _ ht];exact X8_ hp2 _ _ _ _ _
  ·rw[l1_,l6_ (by rw[a1_];omega)];simp;omega
theorem c4x {p:Nat} (hp:2≤p) (n code i:Nat):dgtN p n code i<p:=Nat.mod_lt _ (by omega)
def nmF (X Y:Rp) (code:Nat):Nat→Nat→Nat→Int:=vcF X Y (nbM X Y code)
theorem V6_ (ua ub lv:Value) (X Y:Rp) (code:Nat) (w0:World) (ha:RpR w0 w0.heap.size ua X) (hb:RpR w0 w0.heap.size ub Y) (hl:SlMM w0 w0.heap.size lv (bsL X Y (hbB X Y) (homN X Y))) (hf:Fit2 X Y) (hc:code≤1000000) :
  Calls Tryz.prog 96 #[ua,ub,lv,.int .i64 code] w0 fun e w'=>∃ v,e = .returned v∧d3_ w' w0.heap.size w'.heap.size v (mvL X Y (nmF X Y code) X.d.length)∧Below w0.heap.size w0 w':=by
 obtain⟨LA,lc,rfl,lc1,lc2⟩:=hl.form;rw[n3_]at hl lc1⊢;have hn80:=N2_ hf;have hN80:homN X Y≤80:=by unfold homN;omega
 have HL0:=h_ hl;clear hl;have ha':=ha;have hb':=hb;obtain⟨A,a,C,c,Ea,ea,Ha,ha_,rfl,hqa,hda,hma,hpa,lda,lma⟩:=ha.open_;obtain⟨A2,a2,C2,c2,Eb,eb,Hb,hb_,rfl,hqb,hdb,hmb,hpb,ldb,lmb⟩:=hb.open_;clear ha hb;obtain⟨W,hW,g0,k1,k2⟩:=b_4 w0 #[.int .i64 X.p,.int .i64 X.q.v,.slice A X.q.f.length a,.slice C X.q.t.length c,.slice Ea X.d.length ea,.slice Ha X.m.length ha_] 29 #[.int .i64 Y.p,.int .i64 Y.q.v,.slice A2 Y.q.f.length a2,.slice C2 Y.q.t.length c2,.slice Eb Y.d.length eb,.slice Hb Y.m.length hb_] 29;have HXA:=h_ (RpR.next g0 ha');have HXB:=h_ (RpR.next g0 hb');have HQA:=h_ (QvR.next g0 hqa);have HDA:=h_ (SlI.next g0 hda);have HDB:=h_ (SlI.next g0 hdb);have HMA:=h_ (SlM.next g0 hma);have HMB:=h_ (SlM.next g0 hmb);have G0:=h_ g0;clear ha' hb' hqa hqb hda hdb hma hmb hpa hpb g0;have HL:=h_ (SlMM.next G0.out HL0.out);have HF:=h_ hf;have HP2:=hf.p2;have hCM:=fun (ua ub lv kv:Value) (w:World) (h1:RpR w w.heap.size ua X) (h2:RpR w w.heap.size ub Y) (h3:SlMM w w.heap.size lv (bsL X Y (hbB X Y) (homN X Y))) (h4:SlI w w.heap.size kv (rowF (homN X Y) fun i=>(dgtN X.p.toNat (homN X Y) code i:Int))) =>
  T6_ ua ub lv kv X Y (hbB X Y) (homN X Y) (fun i=>(dgtN X.p.toNat (homN X Y) code i:Int)) w h1 h2 h3 h4 hf (by omega) (fun i _=>by have:=c4x (p:=X.p.toNat) (by omega) (homN X Y) code i;omega) (fun i t _=>by have:=d3Z (X:=X) (Y:=Y) HP2.1 i t;omega)
 have HCM:=h_ hCM;clear HL0 hf hCM HDA HDB HMA HMB HQA;have K1:=h_ k1;have K2:=h_ k2;clear k1 k2;obtain⟨N,hN⟩:=e_ (homN X Y);rw[hN]at HL HCM hN80⊢;have HN:=h_ hN;clear hN;go_enter Tryz.func96,Tryz.ntmps96
 go_wp2;rw[←hW];clear hW;refine a8_ (by kernel_rfl) [.eq (.agg #[.int .i64 X.p,.int .i64 X.q.v,.slice A X.q.f.length a,.slice C X.q.t.length c,.slice Ea X.d.length ea,.slice Ha X.m.length ha_]),.eq (.agg #[.int .i64 Y.p,.int .i64 Y.q.v,.slice A2 Y.q.f.length a2,.slice C2 Y.q.t.length c2,.slice Eb Y.d.length eb,.slice Hb Y.m.length hb_]),.eq (.slice LA N lc),.eq (.pointer (some ⟨w0.heap.size,0,none⟩)),.eq (.int .i64 X.p),.eq (.slice LA N lc),.eq (.int .i64 N),.eq (.int .i64 code),rel 8 (fun u lo hi w=>a9_ w lo hi u (rowF N fun i=>(dgtN X.p.toNat N code i:Int))),rel 9 (fun u lo hi w=>d3_ w lo hi u (mvL X Y (nmF X Y code) X.d.length)),.rel (fun x w=>x.v 10=x.v 9∧d3_ w (x.lo 9) (x.hi 9) (x.v 9) (mvL X Y (nmF X Y code) X.d.length))] [[],[],[],[],[3],[],[5],[],[3,4,5,6,7],[0,1,2,3,4,5,6,7,8],[0,1,2,3,4,5,6,7,8,9]] 11 (by kernel_rfl) ⟨trivial,trivial,trivial,trivial,trivial,trivial,trivial,trivial,a4_ (fun u lo hi w w' h hb=>h.below hb),a4_ (fun u lo hi w w' h hb=>h.below hb),fun x w w' h hb=>⟨h.1,h.2.below hb⟩,trivial⟩ ⟨?_,?_,?_,?_,?_,?_,?_,?_,?_,?_,?_,trivial⟩ ?_;iterate 11 (intro x w hb hk Q' hQ;have he:=k_e hk;simp only[k_s]at he;simp only[netE]at hQ⊢;(try simp only[he]at hQ⊢);(try clear he);rotate_left)
 rotate_left
 ·clear hk;have e0:=K1.out.call hb;obtain⟨z0,z1,z2,z3,z4,z5⟩:=c_6 e0;clear e0;go_wp2;exact hQ _ _ br_ rfl
 ·clear hk;have e0:=K2.out.call hb;obtain⟨z0,z1,z2,z3,z4,z5⟩:=c_6 e0;clear e0;go_wp2;exact hQ _ _ br_ rfl
 iterate 2 (· clear hk;go_wp2;exact hQ _ _ br_ rfl)
 ·clear hk;have z:=(K1.out.call hb).cell' (i:=0) rfl;go_wp2;exact hQ _ _ br_ rfl
 iterate 3 (· clear hk;go_wp2;exact hQ _ _ br_ rfl)
 ·clear hk;go_wp2_with fail
  refine (V0_ X.p N code _ HP2 (by omega) hc).mono ?_;rintro e w8 ⟨v8,rfl,h8,hb8⟩;go_wp2;exact hQ _ _ hb8 h8
 ·have h8:a9_ w (x.lo 8) (x.hi 8) (x.v 8) (rowF N fun i=>(dgtN X.p.toNat N code i:Int)):=(hk 8 (by decide)).1;have s8:=(hk 8 (by decide)).2;clear hk;go_wp2_with fail
  refine (HCM.out _ _ _ _ _ (RpR.next hb HXA.out) (RpR.next hb HXB.out) (SlMM.next hb HL.out) h8.rd).mono ?_;rintro e w8 ⟨v8,rfl,h9,hb8⟩;have h10:d3_ w8 w.heap.size w8.heap.size v8 (mvL X Y (nmF X Y code) X.d.length):=by
   unfold nmF nbM;rw[HN.out];exact h9
  go_wp2;exact hQ _ _ hb8 h10
 ·have h8:a9_ w (x.lo 8) (x.hi 8) (x.v 8) (rowF N fun i=>(dgtN X.p.toNat N code i:Int)):=(hk 8 (by decide)).1;have h9:d3_ w (x.lo 9) (x.hi 9) (x.v 9) (mvL X Y (nmF X Y code) X.d.length):=(hk 9 (by decide)).1;have s8:=(hk 8 (by decide)).2;have s9:=(hk 9 (by decide)).2;clear hk;have hQ':=hQ (x.v 9) w br_ ⟨rfl,h9⟩;go_wp2;exact hQ'
 ·intro x w hb hk hiv hdj;have h8:a9_ w (x.lo 8) (x.hi 8) (x.v 8) (rowF N fun i=>(dgtN X.p.toNat N code i:Int)):=hk 8 (by decide);have h9:d3_ w (x.lo 9) (x.hi 9) (x.v 9) (mvL X Y (nmF X Y code) X.d.length):=hk 9 (by decide);have h10:x.v 10=x.v 9∧d3_ w (x.lo 9) (x.hi 9) (x.v 9) (mvL X Y (nmF X Y code) X.d.length):=hk 10 (by decide);have he:=k_g hk [0,1,2,3,4,5,6,7];simp only[k_s]at he;simp only[netE,he];clear he hk;obtain⟨e10,_⟩:=h10;have li:=(hiv 9 (by decide)).1;have hi_:=(hiv 9 (by decide)).2.2;rw[e10];have hg:=G0.out.size;have HM:=h_ (h9.wider (lo':=w0.heap.size) (Nat.le_trans hg li) hi_);have HB:=h_ (a6_ G0.out hb);clear hiv hdj hb h8 h9 e10;go_wp2;go_ret
  exact⟨_,rfl,HM.out,HB.out⟩
theorem L8_ (ua ub fv:Value) (X Y:Rp) (F:Nat→Nat→Nat→Int) (w0:World) (ha:RpR w0 w0.heap.size ua X) (hb:RpR w0 w0.heap.size ub Y) (hfv:SlM w0 w0.heap.size fv (mvL X Y F X.d.length)) (hf:Fit2 X Y) (hd:X.d=Y.d) (hF:∀ v,v<X.d.length→InF X.p (dmN Y.d v) (dmN X.d v) (F v)) :
  Calls Tryz.prog 97 #[ua,ub,fv] w0 fun e w'=>e = .returned (.bool (decide (rkL5 X.p X Y F X.d.length=X.d)))∧Below w0.heap.size w0 w':=by
 obtain⟨LA,lc,rfl,lc1,lc2,_,_⟩:=hfv.open_;rw[g1_]at hfv lc1⊢;have HV0:=h_ hfv;clear hfv;have HDD:=h_ hd;clear hd;have ha':=ha;have hb':=hb;obtain⟨A,a,C,c,Ea,ea,Ha,ha_,rfl,hqa,hda,hma,hpa,lda,lma⟩:=ha.open_;obtain⟨A2,a2,C2,c2,Eb,eb,Hb,hb_,rfl,hqb,hdb,hmb,hpb,ldb,lmb⟩:=hb.open_;clear ha hb;obtain⟨W,hW,g0,k1,k2⟩:=b_4 w0 #[.int .i64 X.p,.int .i64 X.q.v,.slice A X.q.f.length a,.slice C X.q.t.length c,.slice Ea X.d.length ea,.slice Ha X.m.length ha_] 29 #[.int .i64 Y.p,.int .i64 Y.q.v,.slice A2 Y.q.f.length a2,.slice C2 Y.q.t.length c2,.slice Eb Y.d.length eb,.slice Hb Y.m.length hb_] 29;have HXA:=h_ (RpR.next g0 ha');have HXB:=h_ (RpR.next g0 hb');have HQA:=h_ (QvR.next g0 hqa);have HDA:=h_ (SlI.next g0 hda);have HDB:=h_ (SlI.next g0 hdb);have HMA:=h_ (SlM.next g0 hma);have HMB:=h_ (SlM.next g0 hmb);have G0:=h_ g0;clear ha' hb' hqa hqb hda hdb hma hmb hpa hpb g0;have HV:=h_ (SlM.next G0.out HV0.out);have HF:=h_ hf;have HI:=h_ hF;have HP:=h_ (b8_.1 hf.hx).1;have hV5:=hf.len.2;have HYL:=h_ (show SlI W W.heap.size (.slice Eb Y.d.length eb) X.d by rw[HDD.out];exact HDB.out);have HYD:=h_ (show Y.d.length=X.d.length by rw[HDD.out]);clear HV0 hf hF HDB HMA HMB HQA HXA HXB;have K1:=h_ k1;have K2:=h_ k2;clear k1 k2;obtain⟨D,hD⟩:=e_ (decide (rkL5 X.p X Y F X.d.length=X.d));rw[hD];have HD:=h_ hD;clear hD;go_enter Tryz.func97,Tryz.ntmps97
 go_wp2;rw[←hW];clear hW;refine t2_ (by kernel_rfl) [.eq (.pointer (some ⟨w0.heap.size,4,none⟩)),.eq (.slice Ea X.d.length ea),.eq (.pointer (some ⟨w0.heap.size+1,4,none⟩)),.eq (.slice Eb Y.d.length eb),.eq (.bool true),.eq (.bool true),.eq (.pointer (some ⟨w0.heap.size,0,none⟩)),.eq (.int .i64 X.p),.eq (.slice LA X.d.length lc),rel 9 (fun u lo hi w=>SlI w w.heap.size u (rkL5 X.p X Y F X.d.length)),.eq (.pointer (some ⟨w0.heap.size,4,none⟩)),.eq (.slice Ea X.d.length ea),.eq (.bool D),.eq (.bool D),.eq (.bool D)] [[],[0],[],[2],[0,1,2,3],[0,1,2,3,4],[0,1,2,3,4,5],[0,1,2,3,4,5,6],[0,1,2,3,4,5],[0,1,2,3,4,5,6,7,8],[0,1,2,3,4,5],[0,1,2,3,4,5,10],[0,1,2,3,4,5,6,7,8,9,10,11],[0,1,2,3,4,5,6,7,8,9,10,11,12],[0,1,2,3,4,5,6,7,8,9,10,11,12,13]] 15 (by kernel_rfl) ⟨trivial,trivial,trivial,trivial,trivial,trivial,trivial,trivial,trivial,a4_ (fun u lo hi w w' h hb=>SlI.next hb h),trivial,trivial,trivial,trivial,trivial,trivial⟩ ⟨?_,?_,?_,?_,?_,?_,?_,?_,?_,?_,?_,?_,?_,?_,?_,trivial⟩ ?_;iterate 15 (intro x w hb hk Q' hQ;have he:=k_e hk;simp only[k_s]at he;simp only[netE]at hQ⊢;(try simp only[he]at hQ⊢);(try clear he);rotate_left)
 rotate_left
 ·clear hk;go_wp2;exact hQ _ _ br_ rfl
 ·clear hk;have z:=(K1.out.call hb).cell' (i:=4) rfl;go_wp2;exact hQ _ _ br_ rfl
 ·clear hk;go_wp2;exact hQ _ _ br_ rfl
 ·clear hk;have z:=(K2.out.call hb).cell' (i:=4) rfl;go_wp2;exact hQ _ _ br_ rfl
 ·clear hk;go_wp2_with fail
  refine (o3_ _ _ X.d X.d _ (SlI.next hb HDA.out) (SlI.next hb HYL.out)).mono ?_;rintro e w8 ⟨rfl,hb8⟩;rw[show decide (X.d=X.d)=true from decide_eq_true rfl];go_wp2;exact hQ _ _ hb8 rfl
 iterate 2 (· clear hk;go_wp2;exact hQ _ _ br_ rfl)
 ·clear hk;have z:=(K1.out.call hb).cell' (i:=0) rfl;go_wp2;exact hQ _ _ br_ rfl
 ·clear hk;go_wp2;exact hQ _ _ br_ rfl
 ·clear hk;go_wp2_with fail
  refine (b3Z X.p _ X Y F X.d.length _ HP.out HF.out hV5 (SlM.next hb HV.out) HI.out).mono ?_;rintro e w8 ⟨v8,rfl,h8,hb8⟩;go_wp2;exact hQ _ _ hb8 h8.rd
 ·clear hk;go_wp2;exact hQ _ _ br_ rfl
 ·clear hk;have z:=(K1.out.call hb).cell' (i:=4) rfl;go_wp2;exact hQ _ _ br_ rfl
 ·have h9:SlI w w.heap.size (x.v 9) (rkL5 X.p X Y F X.d.length):=(hk 9 (by decide)).1;clear hk;go_wp2_with fail
  refine (o3_ _ _ (rkL5 X.p X Y F X.d.length) X.d _ h9 (SlI.next hb HDA.out)).mono ?_;rintro e w8 ⟨rfl,hb8⟩;rw[HD.out];go_wp2;exact hQ _ _ hb8 rfl
 iterate 2 (· clear hk;go_wp2;exact hQ _ _ br_ rfl)
 ·intro x w hb hk hiv hdj;have h9:SlI w w.heap.size (x.v 9) (rkL5 X.p X Y F X.d.length):=hk 9 (by decide);have he:=k_g hk [0,1,2,3,4,5,6,7,8,10,11,12,13,14];simp only[k_s]at he;simp only[netE,he];clear he hk;have HB:=h_ (a6_ G0.out hb);clear hiv hdj hb h9;go_wp2;go_ret
  exact⟨rfl,HB.out⟩
def isoN (X Y:Rp) (code:Nat):Prop:=rkL5 X.p X Y (nmF X Y code) X.d.length=X.d
theorem d9j {X Y:Rp} (hp2:2≤X.p) (code v r c:Nat):InF X.p r c (nmF X Y code v):=fun a b _ _=>X1_ hp2 _ _ _ _
theorem W8_ (ua ub lv:Value) (X Y:Rp) (w0:World) (ha:RpR w0 w0.heap.size ua X) (hb:RpR w0 w0.heap.size ub Y) (hl:SlMM w0 w0.heap.size lv (bsL X Y (hbB X Y) (homN X Y))) (hf:Fit2 X Y) (hd:X.d=Y.d) :
  Calls Tryz.prog 54 #[ua,ub,lv] w0 fun e w'=>∃ v b,e = .returned (.tuple #[v,.bool b])∧(b=false→X.p.toNat ^ homN X Y≤3000→∀ code,code<X.p.toNat ^ homN X Y→¬ isoN X Y code)∧Below w0.heap.size w0 w':=by
 obtain⟨LA,lc,rfl,lc1,lc2⟩:=hl.form;rw[n3_]at hl lc1⊢;have hn80:=N2_ hf;have hN80:homN X Y≤80:=by unfold homN;omega
 have HL0:=h_ hl;clear hl;have ha':=ha;have hb':=hb;obtain⟨A,a,C,c,Ea,ea,Ha,ha_,rfl,hqa,hda,hma,hpa,lda,lma⟩:=ha.open_;obtain⟨A2,a2,C2,c2,Eb,eb,Hb,hb_,rfl,hqb,hdb,hmb,hpb,ldb,lmb⟩:=hb.open_;clear ha hb;obtain⟨W,hW,g0,k1,k2⟩:=b_4 w0 #[.int .i64 X.p,.int .i64 X.q.v,.slice A X.q.f.length a,.slice C X.q.t.length c,.slice Ea X.d.length ea,.slice Ha X.m.length ha_] 29 #[.int .i64 Y.p,.int .i64 Y.q.v,.slice A2 Y.q.f.length a2,.slice C2 Y.q.t.length c2,.slice Eb Y.d.length eb,.slice Hb Y.m.length hb_] 29;have HXA:=h_ (RpR.next g0 ha');have HXB:=h_ (RpR.next g0 hb');have HQA:=h_ (QvR.next g0 hqa);have HDA:=h_ (SlI.next g0 hda);have HDB:=h_ (SlI.next g0 hdb);have HMA:=h_ (SlM.next g0 hma);have HMB:=h_ (SlM.next g0 hmb);have G0:=h_ g0;clear ha' hb' hqa hqb hda hdb hma hmb hpa hpb g0;have HL:=h_ (SlMM.next G0.out HL0.out);have HP2:=hf.p2;have HNM:=h_ (show ∀ (ua ub lv:Value) (code:Nat) (w:World),RpR w w.heap.size ua X→RpR w w.heap.size ub Y→SlMM w w.heap.size lv (bsL X Y (hbB X Y) (homN X Y))→code≤1000000→Calls Tryz.prog 96 #[ua,ub,lv,.int .i64 code] w fun e w'=>∃ v,e = .returned v∧d3_ w' w.heap.size w'.heap.size v (mvL X Y (nmF X Y code) X.d.length)∧Below w.heap.size w w' from fun ua ub lv code w h1 h2 h3 h4=>V6_ ua ub lv X Y code w h1 h2 h3 hf h4);have HII:=h_ (show ∀ (ua ub fv:Value) (code:Nat) (w:World),RpR w w.heap.size ua X→RpR w w.heap.size ub Y→SlM w w.heap.size fv (mvL X Y (nmF X Y code) X.d.length)→Calls Tryz.prog 97 #[ua,ub,fv] w fun e w'=>e = .returned (.bool (decide (rkL5 X.p X Y (nmF X Y code) X.d.length=X.d)))∧Below w.heap.size w w' from fun ua ub fv code w h1 h2 h3=>L8_ ua ub fv X Y (nmF X Y code) w h1 h2 h3 hf hd fun v _=>d9j hf.p2.1 code v _ _);clear HL0 hf hd HDA HDB HMA HMB HQA;have K1:=h_ k1;have K2:=h_ k2;clear k1 k2;obtain⟨N,hN⟩:=e_ (homN X Y);rw[hN]at HL HNM hN80⊢;clear hN;have c0:=K1.out.cell' (i:=0) rfl;go_enter Tryz.func54,Tryz.ntmps54
 go_wp2_with fail
 rw[←hW];clear hW;refine (B5_ X.p N _ HP2 (by omega)).mono ?_;rintro e w1 ⟨⟨cn,rfl,hc1,_,hc2,hc3⟩,hww⟩;replace hww:=hww.symm;subst hww;have HC1:=h_ hc1;clear hc1 c0;obtain⟨M,hM⟩:∃ M:Nat,min cn 3000=M:=⟨_,rfl⟩;have hM2:M≤3000:=by omega
 have hmin:(if (cn:Int)<3000 then (cn:Int) else 3000)=(M:Int):=by split <;> omega
 have hmin2:(if (3000:Int)<(cn:Int) then (3000:Int) else (cn:Int))=(M:Int):=by split <;> omega
 have hmin3:(if (cn:Int) > 3000 then (3000:Int) else (cn:Int))=(M:Int):=by split <;> omega
 have HM:=h_ (show X.p.toNat ^ N≤3000→M=X.p.toNat ^ N from fun h=>by have:=HC1.out (by omega);omega);clear hM hc2 hc3;go_wp2;go_loopw [16] (fun ix wr=>∃ k:Nat,k≤M∧ix = .int .i64 k∧Hid (∀ c,c<k→¬ isoN X Y c)∧Below W.heap.size W wr) (fun ix _=>M-(intOf ix).toNat)
 case atStart=>exact⟨0,l0_ _,rfl,fun c h=>absurd h (by omega),Below.refl _ _⟩
 case round =>
  obtain⟨k,hk,rfl,HNO,hbel⟩:=hrel;by_cases hlt:k<M
  ·have e1:=K1.out.call hbel;have e2:=K2.out.call hbel;obtain⟨z0,z1,z2,z3,z4,z5⟩:=c_6 e1;obtain⟨y0,y1,y2,y3,y4,y5⟩:=c_6 e2;have HA:=h_ (RpR.next hbel HXA.out);have HB:=h_ (RpR.next hbel HXB.out);have HL1:=h_ (SlMM.next hbel HL.out);have HBL:=h_ hbel;have E1:=h_ e1;have E2:=h_ e2;clear e1 e2 hbel;go_wp2_with fail
   refine (HNM.out _ _ _ k _ HA.out HB.out HL1.out (by omega)).mono ?_;rintro e w2 ⟨v2,rfl,hM2',hb2⟩;obtain⟨MA,mc,em,_,_⟩:=hM2'.form2;rw[g1_]at em;subst em;have HMM:=h_ hM2'.rd;have HA2:=h_ (RpR.next hb2 HA.out);have HB2:=h_ (RpR.next hb2 HB.out);have HBL2:=h_ (a6_ HBL.out hb2);clear z0 z1 z2 z3 z4 z5 y0 y1 y2 y3 y4 y5;have e1:=E1.out.call hb2;have e2:=E2.out.call hb2;obtain⟨z0,z1,z2,z3,z4,z5⟩:=c_6 e1;obtain⟨y0,y1,y2,y3,y4,y5⟩:=c_6 e2;clear e1 e2 hb2 hM2' HA HB HL1 HBL E1 E2;go_wp2_with fail
   refine (HII.out _ _ _ k _ HA2.out HB2.out HMM.out).mono ?_;rintro e w3 ⟨rfl,hb3⟩;have HBF:=h_ (a6_ G0.out (a6_ HBL2.out hb3));have HBG:=h_ (a6_ HBL2.out hb3);clear hb3 HA2 HB2 HBL2 HMM z0 z1 z2 z3 z4 z5 y0 y1 y2 y3 y4 y5;obtain⟨D,hD⟩:=e_ (decide (rkL5 X.p X Y (nmF X Y k) X.d.length=X.d));rw[hD];have HD:=h_ hD;clear hD;cases D
   ·have HN2:=h_ (show ∀ c,c<k+1→¬ isoN X Y c from fun c hc=>by
     by_cases h:c<k
     ·exact HNO.out c h
     ·obtain rfl:c=k:=by omega
      have h9:=HD.out;rw[decide_eq_false_iff_not]at h9;exact h9)
    clear HD HNO;go_wp2;go_roundw
    case rel=>exact⟨k+1,by omega,by go_num,HN2.out,HBG.out⟩
    case measure=>simp[intOf];omega
   ·go_wp2;exact bodyPost_ret (v:=.tuple #[.slice MA X.d.length mc,.bool true]) (by simp[results,go_sem]) rfl ⟨_,_,rfl,fun h=>absurd h (by simp),HBF.out⟩
  ·obtain rfl:k=M:=by omega
   have HBF:=h_ (a6_ G0.out hbel);have HFN:=h_ (show X.p.toNat ^ N≤3000→∀ code,code<X.p.toNat ^ N→¬ isoN X Y code from fun h code hc=>HNO.out code (by rw[HM.out h];exact hc));clear hbel HNO;go_wp2;exact bodyPost_ret (v:=.tuple #[.slice none 0 0,.bool false]) (by simp[results,go_sem]) rfl ⟨_,_,rfl,fun _=>HFN.out,HBF.out⟩
theorem a7Q (ua ub:Value) (X Y:Rp) (w0:World) (ha:RpR w0 w0.heap.size ua X) (hb:RpR w0 w0.heap.size ub Y) (hf:Fit2 X Y) (hd:X.d=Y.d) (hh:homN X Y=homN X X∧homN Y X=homN X X∧homN Y Y=homN X X) :
  Calls Tryz.prog 52 #[ua,ub] w0 fun e w'=>e = .returned (.bool false)∧Below w0.heap.size w0 w':=by
 have HF:=h_ hf;have HDD:=h_ hd;have HH:=h_ hh;clear hf hd hh;have ha':=ha;have hb':=hb;obtain⟨A,a,C,c,Ea,ea,Ha,ha_,rfl,hqa,hda,hma,hpa,lda,lma⟩:=ha.open_;obtain⟨A2,a2,C2,c2,Eb,eb,Hb,hb_,rfl,hqb,hdb,hmb,hpb,ldb,lmb⟩:=hb.open_;clear ha hb;obtain⟨W,hW,g0,k1,k2⟩:=b_4 w0 #[.int .i64 X.p,.int .i64 X.q.v,.slice A X.q.f.length a,.slice C X.q.t.length c,.slice Ea X.d.length ea,.slice Ha X.m.length ha_] 29 #[.int .i64 Y.p,.int .i64 Y.q.v,.slice A2 Y.q.f.length a2,.slice C2 Y.q.t.length c2,.slice Eb Y.d.length eb,.slice Hb Y.m.length hb_] 29;have HXA:=h_ (RpR.next g0 ha');have HXB:=h_ (RpR.next g0 hb');have HQA:=h_ (QvR.next g0 hqa);have HDA:=h_ (SlI.next g0 hda);have HDB:=h_ (SlI.next g0 hdb);have HMA:=h_ (SlM.next g0 hma);have HMB:=h_ (SlM.next g0 hmb);have G0:=h_ g0;clear ha' hb' hqa hqb hda hdb hma hmb hpa hpb g0;have HYL:=h_ (show SlI W W.heap.size (.slice Eb Y.d.length eb) X.d by rw[HDD.out];exact HDB.out);have HXX:=h_ (show Fit2 X X from HF.out.rfl1);have HYY:=h_ (show Fit2 Y Y from HF.out.symm.rfl1);have HYX:=h_ (show Fit2 Y X from HF.out.symm);clear HMA HMB HQA HDB HDD;have K1:=h_ k1;have K2:=h_ k2;clear k1 k2;have e1:=K1.out;have e2:=K2.out;obtain⟨z0,z1,z2,z3,z4,z5⟩:=c_6 e1;obtain⟨y0,y1,y2,y3,y4,y5⟩:=c_6 e2;clear e1 e2;go_enter Tryz.func52,Tryz.ntmps52
 go_wp2_with fail
 rw[←hW];clear hW;refine (o3_ _ _ X.d X.d _ HDA.out HYL.out).mono ?_;rintro e w1 ⟨rfl,hb1⟩;rw[show decide (X.d=X.d)=true from decide_eq_true rfl];have G1:=h_ (a6_ G0.out hb1);have HA1:=h_ (RpR.next hb1 HXA.out);have HB1:=h_ (RpR.next hb1 HXB.out);have L1:=h_ (K1.out.call hb1);have L2:=h_ (K2.out.call hb1);clear z0 z1 z2 z3 z4 z5 y0 y1 y2 y3 y4 y5 hb1 G0 HXA HXB K1 K2;have e1:=L1.out;have e2:=L2.out;obtain⟨z0,z1,z2,z3,z4,z5⟩:=c_6 e1;obtain⟨y0,y1,y2,y3,y4,y5⟩:=c_6 e2;clear e1 e2;go_wp2_with fail
 refine (u0_ _ _ X X _ HA1.out HA1.out HXX.out).mono ?_;rintro e w2 ⟨rfl,hb2⟩;have G2:=h_ (a6_ G1.out hb2);have HA2:=h_ (RpR.next hb2 HA1.out);have HB2:=h_ (RpR.next hb2 HB1.out);have M1:=h_ (L1.out.call hb2);have M2:=h_ (L2.out.call hb2);clear z0 z1 z2 z3 z4 z5 y0 y1 y2 y3 y4 y5 hb2 G1 HA1 HB1 L1 L2;have e1:=M1.out;have e2:=M2.out;obtain⟨z0,z1,z2,z3,z4,z5⟩:=c_6 e1;obtain⟨y0,y1,y2,y3,y4,y5⟩:=c_6 e2;clear e1 e2;go_wp2_with fail
 refine (u0_ _ _ X Y _ HA2.out HB2.out HF.out).mono ?_;rintro e w3 ⟨rfl,hb3⟩;rw[HH.out.1];have G3:=h_ (a6_ G2.out hb3);have HA3:=h_ (RpR.next hb3 HA2.out);have HB3:=h_ (RpR.next hb3 HB2.out);have N1:=h_ (M1.out.call hb3);have N2:=h_ (M2.out.call hb3);clear z0 z1 z2 z3 z4 z5 y0 y1 y2 y3 y4 y5 hb3 G2 HA2 HB2 M1 M2;have e1:=N1.out;have e2:=N2.out;obtain⟨z0,z1,z2,z3,z4,z5⟩:=c_6 e1;obtain⟨y0,y1,y2,y3,y4,y5⟩:=c_6 e2;clear e1 e2;have hne:(((homN X X:Nat):Int) != ((homN X X:Nat):Int))=false:=by simp
 go_wp2_with fail
 refine (u0_ _ _ Y X _ HB3.out HA3.out HYX.out).mono ?_;rintro e w4 ⟨rfl,hb4⟩;rw[HH.out.2.1];have G4:=h_ (a6_ G3.out hb4);have HA4:=h_ (RpR.next hb4 HA3.out);have HB4:=h_ (RpR.next hb4 HB3.out);have O1:=h_ (N1.out.call hb4);have O2:=h_ (N2.out.call hb4);clear z0 z1 z2 z3 z4 z5 y0 y1 y2 y3 y4 y5 hb4 G3 HA3 HB3 N1 N2;have e1:=O1.out;have e2:=O2.out;obtain⟨z0,z1,z2,z3,z4,z5⟩:=c_6 e1;obtain⟨y0,y1,y2,y3,y4,y5⟩:=c_6 e2;clear e1 e2;go_wp2_with fail
 refine (u0_ _ _ Y Y _ HB4.out HB4.out HYY.out).mono ?_;rintro e w5 ⟨rfl,hb5⟩;rw[HH.out.2.2];have GF:=h_ (a6_ G4.out hb5);clear hb5;go_wp2;go_ret
 exact⟨rfl,GF.out⟩
theorem d9x {X Y:Rp} {F G:Nat→Nat→Nat→Int} (h:IsoF X Y F G):∃ code,code<X.p.toNat ^ homN X Y∧isoN X Y code:=by
 obtain⟨code,hc,hr⟩:=c2x h;refine⟨code,hc,?_⟩;unfold isoN;apply List.ext_getElem?
 intro v;by_cases hv:v<X.d.length
 ·rw[(h.fit.dim hv).1,rkL5,List.getElem?_map,List.getElem?_range hv];show some ((rkF X.p (dmN Y.d v) (dmN X.d v) (nmF X Y code v):Nat):Int)=_;have e:rkF X.p (dmN Y.d v) (dmN X.d v) (nmF X Y code v)=dmN X.d v:=hr v hv;rw[e]
 ·rw[l6_ (by rw[A9_];omega),l6_ (by omega)]
theorem a6q (ua ub:Value) (X Y:Rp) (F G:Nat→Nat→Nat→Int) (w0:World) (ha:RpR w0 w0.heap.size ua X) (hb:RpR w0 w0.heap.size ub Y) (hi:IsoF X Y F G) (hd:X.d=Y.d) :
  Calls Tryz.prog 16 #[ua,ub] w0 fun e w'=>(∃ r:Int,e = .returned (.int .i64 r)∧(r=1∨r = -1))∧Below w0.heap.size w0 w':=by
 have HF:=h_ hi.fit;have HDD:=h_ hd;have HH:=h_ (c3J hi);have HIS:=h_ (d9x hi);have HP2:=hi.fit.p2;have hn80:=N2_ hi.fit;have hN80:homN X Y≤80:=by unfold homN;omega
 clear hi hd;have ha':=ha;have hb':=hb;obtain⟨A,a,C,c,Ea,ea,Ha,ha_,rfl,hqa,hda,hma,hpa,lda,lma⟩:=ha.open_;obtain⟨A2,a2,C2,c2,Eb,eb,Hb,hb_,rfl,hqb,hdb,hmb,hpb,ldb,lmb⟩:=hb.open_;clear ha hb;obtain⟨W,hW,g0,k1,k2⟩:=b_4 w0 #[.int .i64 X.p,.int .i64 X.q.v,.slice A X.q.f.length a,.slice C X.q.t.length c,.slice Ea X.d.length ea,.slice Ha X.m.length ha_] 29 #[.int .i64 Y.p,.int .i64 Y.q.v,.slice A2 Y.q.f.length a2,.slice C2 Y.q.t.length c2,.slice Eb Y.d.length eb,.slice Hb Y.m.length hb_] 29;have HXA:=h_ (RpR.next g0 ha');have HXB:=h_ (RpR.next g0 hb');have HQA:=h_ (QvR.next g0 hqa);have HDA:=h_ (SlI.next g0 hda);have HDB:=h_ (SlI.next g0 hdb);have HMA:=h_ (SlM.next g0 hma);have HMB:=h_ (SlM.next g0 hmb);have G0:=h_ g0;clear ha' hb' hqa hqb hda hdb hma hmb hpa hpb g0;clear HMA HMB HQA HDA HDB;have K1:=h_ k1;have K2:=h_ k2;clear k1 k2;have e1:=K1.out;have e2:=K2.out;obtain⟨z0,z1,z2,z3,z4,z5⟩:=c_6 e1;obtain⟨y0,y1,y2,y3,y4,y5⟩:=c_6 e2;clear e1 e2;go_enter Tryz.func16,Tryz.ntmps16
 go_wp2_with fail
 rw[←hW];clear hW;refine (b1Z _ _ X Y _ HXA.out HXB.out HF.out).mono ?_;rintro e w1 ⟨rfl,hb1⟩;have G1:=h_ (a6_ G0.out hb1);have HA1:=h_ (RpR.next hb1 HXA.out);have HB1:=h_ (RpR.next hb1 HXB.out);have L1:=h_ (K1.out.call hb1);have L2:=h_ (K2.out.call hb1);clear z0 z1 z2 z3 z4 z5 y0 y1 y2 y3 y4 y5 hb1 G0 HXA HXB K1 K2;have e1:=L1.out;have e2:=L2.out;obtain⟨z0,z1,z2,z3,z4,z5⟩:=c_6 e1;obtain⟨y0,y1,y2,y3,y4,y5⟩:=c_6 e2;clear e1 e2;go_wp2_with fail
 refine (a7Q _ _ X Y _ HA1.out HB1.out HF.out HDD.out HH.out).mono ?_;rintro e w2 ⟨rfl,hb2⟩;have G2:=h_ (a6_ G1.out hb2);have HA2:=h_ (RpR.next hb2 HA1.out);have HB2:=h_ (RpR.next hb2 HB1.out);have M1:=h_ (L1.out.call hb2);have M2:=h_ (L2.out.call hb2);clear z0 z1 z2 z3 z4 z5 y0 y1 y2 y3 y4 y5 hb2 G1 HA1 HB1 L1 L2;have e1:=M1.out;have e2:=M2.out;obtain⟨z0,z1,z2,z3,z4,z5⟩:=c_6 e1;obtain⟨y0,y1,y2,y3,y4,y5⟩:=c_6 e2;clear e1 e2;go_wp2_with fail
 refine (V2_ _ _ X Y _ HA2.out HB2.out HF.out).mono ?_;rintro e w3 ⟨bv,rfl,hB3,hb3⟩;have G3:=h_ (a6_ G2.out hb3);have HA3:=h_ (RpR.next hb3 HA2.out);have HB3:=h_ (RpR.next hb3 HB2.out);have N1:=h_ (M1.out.call hb3);have N2:=h_ (M2.out.call hb3);clear z0 z1 z2 z3 z4 z5 y0 y1 y2 y3 y4 y5 hb3 G2 HA2 HB2 M1 M2;have e1:=N1.out;have e2:=N2.out;obtain⟨z0,z1,z2,z3,z4,z5⟩:=c_6 e1;obtain⟨y0,y1,y2,y3,y4,y5⟩:=c_6 e2;clear e1 e2;obtain⟨BA,bc,eb,_,_⟩:=hB3.form;rw[n3_]at eb;subst eb;have HBS:=h_ hB3;clear hB3;go_wp2_with fail
 refine (W8_ _ _ _ X Y _ HA3.out HB3.out HBS.out HF.out HDD.out).mono ?_;rintro e w4 ⟨fv,b,rfl,hno,hb4⟩;have HNO:=h_ hno;have G4:=h_ (a6_ G3.out hb4);have HA4:=h_ (RpR.next hb4 HA3.out);have HB4:=h_ (RpR.next hb4 HB3.out);have O1:=h_ (N1.out.call hb4);have O2:=h_ (N2.out.call hb4);clear z0 z1 z2 z3 z4 z5 y0 y1 y2 y3 y4 y5 hb4 G3 HA3 HB3 N1 N2;have e1:=O1.out;have e2:=O2.out;obtain⟨z0,z1,z2,z3,z4,z5⟩:=c_6 e1;obtain⟨y0,y1,y2,y3,y4,y5⟩:=c_6 e2;clear e1 e2;clear hno HBS HA4 HB4;obtain⟨N,hN⟩:=e_ (homN X Y);rw[hN]at HNO HIS hN80⊢;clear hN;cases b
 ·go_wp2_with fail
  refine (B5_ X.p N _ HP2 (by omega)).mono ?_;rintro e w5 ⟨⟨cn,rfl,hc1,hc2,_,_⟩,hww⟩;replace hww:=hww.symm;subst hww;have hc3:3000<cn:=by
   refine Nat.lt_of_not_le fun hle=>?_
   by_cases h:X.p.toNat ^ N≤100000
   ·have:=hc1 h;obtain⟨code,h1,h2⟩:=HIS.out;exact HNO.out (by trivial) (by omega) code h1 h2
   ·have:=hc2 h;omega
  clear hc1 hc2 HIS HNO;go_wp2;go_ret
  exact⟨⟨_,rfl,.inr rfl⟩,G4.out⟩
 ·go_wp2;go_ret
  exact⟨⟨_,rfl,.inl rfl⟩,G4.out⟩
theorem k8_ (f:Nat→Int) (σ:Nat→Nat→Int) (u:Nat→Int) (c r:Nat):sgF (fun t=>f t*sgF (fun j=>σ t j*u j) r) c=sgF (fun j=>sgF (fun t=>f t*σ t j) c*u j) r:=by
 rw[a5_ (b:=fun t=>sgF (fun j=>f t*σ t j*u j) r) fun t _=>?_,r6_]
 ·exact a5_ fun j _=>B2_ _ _ _
 ·rw[←p9_];exact a5_ fun j _=>by rw[Int.mul_assoc]
theorem z9_ {h:Nat→Int} {r n:Nat} (hr:r<n):sgF (fun s=>idF r s*h s) n=h r:=by
 rw[a5_ (b:=fun s=>if s=r then h s else 0) fun s _=>?_,s7_ (h:=h) hr];unfold idF;by_cases e:r=s
 ·rw[if_pos e,if_pos e.symm,Int.one_mul]
 ·rw[if_neg e,if_neg fun h=>e h.symm,Int.zero_mul]
theorem t9_ {h:Nat→Int} {r n:Nat} (hr:r<n):sgF (fun s=>h s*idF s r) n=h r:=by
 rw[a5_ (b:=fun s=>if s=r then h s else 0) fun s _=>?_,s7_ (h:=h) hr];unfold idF;by_cases e:s=r
 ·rw[if_pos e,if_pos e,Int.mul_one]
 ·rw[if_neg e,if_neg e,Int.mul_zero]
theorem j3_ {p a b:Int} (h:p∣a-b):p∣b-a:=by
 have:=Int.dvd_neg.2 h;rwa[show -(a-b)=b-a by omega]at this
theorem f8_ {p a b c:Int} (h:p∣a-b) (k:p∣b-c):p∣a-c:=by
 have:=Int.dvd_add h k;rwa[show a-b+(b-c)=a-c by omega]at this
theorem n8_ (p a:Int):p∣a-a:=by rw[Int.sub_self];exact Int.dvd_zero _
theorem d3j {p r c:Nat} {f σ:Nat→Nat→Int} (hp:f2_ p=true) (hf:InF p r c f) (hs:∀ i j,i<r→j<r→(p:Int)∣sgF (fun t=>f i t*σ t j) c-idF i j):rkF p r c f=r:=by
 have hp2:=(f4_ hp).1;have hp2':2≤p:=by omega
 have hle:=(s3_ (p:Int) r c f).1;have hcnt:=v6_ hp hp2' hf c (l_ _);have key:∀ u z:Nat→Int,Ker p r f c z→∀ i,i<r→(p:Int)∣sgF (fun t=>f i t*(sgF (fun j=>σ t j*u j) r+z t)) c-u i:=by
  intro u z hz i hi;have e:sgF (fun t=>f i t*(sgF (fun j=>σ t j*u j) r+z t)) c=sgF (fun j=>sgF (fun t=>f i t*σ t j) c*u j) r+sgF (fun t=>f i t*z t) c:=by
   rw[←k8_,←L2_];exact a5_ fun t _=>by rw[Int.mul_add]
  rw[e];have h1:(p:Int)∣sgF (fun j=>sgF (fun t=>f i t*σ t j) c*u j) r-sgF (fun j=>idF i j*u j) r:=j9_ fun j hj=>i9_ _ (hs i j hi hj)
  rw[z9_ hi]at h1;have:=Int.dvd_add h1 (hz i hi);rwa[show sgF (fun j=>sgF (fun t=>f i t*σ t j) c*u j) r-u i+sgF (fun t=>f i t*z t) c=sgF (fun j=>sgF (fun t=>f i t*σ t j) c*u j) r+sgF (fun t=>f i t*z t) c-u i by omega]at this
 have hin:(prs (vecs p r) (kerL p r f c)).length≤(vecs p c).length:=by
  refine J8_ (φ:=fun y=>can p c fun t=>sgF (fun j=>σ t j*at0 y.1 j) r+at0 y.2 t) (B7_ (j5_ _ _ _ _) (t6_ p r)) ?_ fun y _=>s1_.2 (V4_ (by omega) _ _)
  rintro⟨u,z⟩ hx ⟨u',z'⟩ hy e;try simp only at e
  obtain⟨a1,a2⟩:=u8_.1 hx;obtain⟨b1,b2⟩:=u8_.1 hy;have vu:=s1_.1 a1;have vu':=s1_.1 b1;obtain⟨vz,kz⟩:=d2_.1 a2;obtain⟨vz',kz'⟩:=d2_.1 b2;have hd:∀ t,t<c→(p:Int)∣(sgF (fun j=>σ t j*at0 u j) r+at0 z t)-(sgF (fun j=>σ t j*at0 u' j) r+at0 z' t):=fun t ht=>by
   have h1:=p3_ p (fun t=>sgF (fun j=>σ t j*at0 u j) r+at0 z t) ht;have h2:=p3_ p (fun t=>sgF (fun j=>σ t j*at0 u' j) r+at0 z' t) ht;rw[e]at h1;exact f8_ (j3_ h1) h2
  have hu:u=u':=P4_ vu vu' fun i hi=>by
   have h1:=key (at0 u) (at0 z) kz i hi;have h2:=key (at0 u') (at0 z') kz' i hi;have h3:(p:Int)∣sgF (fun t=>f i t*(sgF (fun j=>σ t j*at0 u j) r+at0 z t)) c-sgF (fun t=>f i t*(sgF (fun j=>σ t j*at0 u' j) r+at0 z' t)) c:=j9_ fun t ht=>j2_ _ (hd t ht)
   exact f8_ (j3_ h1) (f8_ h3 h2)
  subst hu;have hz:z=z':=P4_ vz vz' fun t ht=>by
   have:=hd t ht;rwa[show sgF (fun j=>σ t j*at0 u j) r+at0 z t-(sgF (fun j=>σ t j*at0 u j) r+at0 z' t)=at0 z t-at0 z' t by omega]at this
  rw[hz]
 rw[P2_,C5_,C5_,←hcnt,Nat.mul_comm (p ^ r)]at hin;have hpos:0<(kerL p r f c).length:=by
  rcases Nat.eq_zero_or_pos (kerL p r f c).length with h0 | h0
  ·rw[h0,Nat.zero_mul]at hcnt;have:=Nat.pow_pos (n:=c) (show 0<p by omega);omega
  ·exact h0
 have h1:p ^ r≤p ^ (rdTo (p:Int) r f c).2.length:=Nat.le_of_mul_le_mul_left hin hpos;have h2:r≤(rdTo (p:Int) r f c).2.length:=(Nat.pow_le_pow_iff_right (by omega)).1 h1;have:rkF p r c f=(rdTo (p:Int) r f c).2.length:=rfl;omega
theorem a0Z {p r c:Nat} {f:Nat→Nat→Int} (hp:f2_ p=true) (hf:InF p r c f) (hr:rkF p r c f=r):∃ σ:Nat→Nat→Int,∀ i j,i<r→j<r→(p:Int)∣sgF (fun t=>f i t*σ t j) c-idF i j:=by
 have hp2:=(f4_ hp).1;have hp2':2≤p:=by omega
 have one:∀ j,∃ x0:Nat→Int,∀ i,i<r→(p:Int)∣sgF (fun t=>f i t*x0 t) c-idF i j:=by
  intro j;obtain⟨f',hf'⟩:∃ f':Nat→Nat→Int,f'=fun i t=>if t<c then f i t else (- idF i j) % (p:Int):=⟨_,rfl⟩
  have f1:∀ i t,t<c→f' i t=f i t:=fun i t ht=>by rw[hf'];exact if_pos ht
  have f2:∀ i,f' i c=(- idF i j) % (p:Int):=fun i=>by rw[hf'];exact if_neg (by omega)
  have hI:InF p r (c+1) f':=fun a b ha hb=>by
   by_cases e:b<c
   ·rw[f1 a b e];exact hf a b ha e
   ·rw[show b=c by omega,f2];exact g6_ hp2
  have hk:∀ x,Ker p r f' c x↔Ker p r f c x:=fun x=>by
   have:∀ i,sgF (fun t=>f' i t*x t) c=sgF (fun t=>f i t*x t) c:=fun i=>a5_ fun t ht=>by rw[f1 i t ht]
   unfold Ker;simp only[this]
  have hlen:=D7_ (p:=p) (r:=r) (k:=c) hk;have c1:=v6_ hp hp2' hf c (l_ _);have c2:=v6_ hp hp2' hI c (by omega);rw[hlen,←c1]at c2;have hpos:0<(kerL p r f c).length:=by
   rcases Nat.eq_zero_or_pos (kerL p r f c).length with h0 | h0
   ·rw[h0,Nat.zero_mul]at c1;have:=Nat.pow_pos (n:=c) (show 0<p by omega);omega
   ·exact h0
  have e2:=Nat.eq_of_mul_eq_mul_left hpos c2;have e3:=(Nat.pow_right_inj (show 1<p by omega)).1 e2;have e4:(rdTo (p:Int) r f c).2.length=r:=hr;have hR:=G2_ hp hp2 hI c (by omega);obtain⟨x0,hx0⟩:=b1z hR fun i h1 h2=>by omega
  refine⟨x0,fun i hi=>?_⟩;have hK:Ker p r (rdTo (p:Int) r f' c).1 (c+1) fun b=>if b<c then x0 b else 1:=fun i hi=>by
   have e5:sgF (fun t=>(rdTo (p:Int) r f' c).1 i t*(if t<c then x0 t else 1)) c=sgF (fun t=>(rdTo (p:Int) r f' c).1 i t*x0 t) c:=a5_ fun t ht=>by rw[if_pos ht]
   rw[sgF,e5,hx0 i hi];simp only[Nat.lt_irrefl,if_false,Int.mul_one];exact⟨0,by omega⟩
  have hK2:=(z7_ hp hp2 hI c (by omega) (c+1) _).1 hK i hi;have e6:sgF (fun t=>f' i t*(if t<c then x0 t else 1)) c=sgF (fun t=>f i t*x0 t) c:=a5_ fun t ht=>by rw[if_pos ht,f1 i t ht]
  rw[sgF,e6]at hK2;simp only[Nat.lt_irrefl,if_false,f2,Int.mul_one]at hK2;have h7:=v3_ (p:Int) (- idF i j);have:=Int.dvd_sub hK2 h7;refine (k2_ ?_).1 this;exact⟨0,by omega⟩
 exact⟨fun t j=>Classical.choose (one j) t,fun i j hi _=>Classical.choose_spec (one j) i hi⟩
theorem a6z {α:Type} {l m:List α} (hl:l.Nodup) (h:∀ x∈l,x∈m) (hn:m.length≤l.length) (hm:m.Nodup) {x:α} (hx:x∈m):x∈l:=by
 apply Classical.byContradiction
 intro hne;have:=q9_ (l:=x :: l) (m:=m) (List.nodup_cons.2 ⟨hne,hl⟩) fun y hy=>by
  rcases List.mem_cons.1 hy with rfl | hy
  ·exact hx
  ·exact h y hy
 rw[List.length_cons]at this;omega
section
variable (T:Nat→Bool) (dm:Nat→Nat)
def boN:Nat→Nat
 | 0=>0
 | k+1=>if T k=true then boN k+dm k else boN k
theorem d7Q {a b:Nat} (h:a≤b):boN T dm a≤boN T dm b:=by
 induction b with
 | zero =>
  obtain rfl:a=0:=by omega
  exact l_ _
 | succ b ih =>
  by_cases e:a=b+1
  ·subst e;exact l_ _
  ·have:=ih (by omega);rw[boN];split <;> omega
theorem L4_ {k n:Nat} (hk:k<n) (hT:T k=true):boN T dm k+dm k≤boN T dm n:=by
 have:=d7Q T dm (show k+1≤n by omega);rwa[boN,if_pos hT]at this
theorem a8q:∀ {n t:Nat},t<boN T dm n→∃ k a,k<n∧T k=true∧a<dm k∧t=boN T dm k+a
 | 0,t,h=>by simp[boN]at h
 | n+1,t,h=>by
  rcases Nat.lt_or_ge t (boN T dm n) with h1 | h1
  ·obtain⟨k,a,hk,r⟩:=a8q h1;exact⟨k,a,by omega,r⟩
  ·rw[boN]at h;split at h
   ·rename_i hT
    exact⟨n,t-boN T dm n,by omega,hT,by omega,by omega⟩
   ·omega
theorem d2j (h:Nat→Int) (m:Nat):∀ n,sgF h (m+n)=sgF h m+sgF (fun i=>h (m+i)) n
 | 0=>by simp[sgF]
 | n+1=>by rw[←Nat.add_assoc,sgF,d2j h m n,sgF];omega
theorem b2q (h:Nat→Int) {k:Nat} (hT:T k=true):sgF h (boN T dm (k+1))=sgF h (boN T dm k)+sgF (fun a=>h (boN T dm k+a)) (dm k):=by
 rw[boN,if_pos hT,d2j]
theorem b7x {k:Nat} (hT:¬ T k=true):boN T dm (k+1)=boN T dm k:=by rw[boN,if_neg hT]
variable (ow:Nat→Nat)
def bkF (H:Nat→Nat→Nat→Int) (X:Nat→Nat→Int):Nat→Nat→Nat→Int
 | 0,_,_=>0
 | k+1,t,j=>if T k=true∧¬ t<boN T dm k then sgF (fun c=>H (ow k) (t-boN T dm k) c*X (boN T dm k+c) j) (dm k) else bkF H X k t j
theorem D5_ {H:Nat→Nat→Nat→Int} {X:Nat→Nat→Int} {k a:Nat} (hT:T k=true) (ha:a<dm k) (j:Nat):∀ {n},k<n→bkF T dm ow H X n (boN T dm k+a) j=sgF (fun c=>H (ow k) a c*X (boN T dm k+c) j) (dm k)
 | n+1,hk=>by
  rw[bkF];by_cases e:k<n
  ·have:=L4_ T dm e hT;rw[if_neg (by omega)];exact D5_ hT ha j e
  ·obtain rfl:k=n:=by omega
   rw[if_pos ⟨hT,by omega⟩,show boN T dm k+a-boN T dm k=a by omega]
theorem d5Q {p:Int} {H H':Nat→Nat→Nat→Int} {X X':Nat→Nat→Int} {n j:Nat} (hH:∀ k a c,k<n→T k=true→a<dm k→c<dm k→p∣H (ow k) a c-H' (ow k) a c) (hX:∀ t,t<boN T dm n→p∣X t j-X' t j) {t:Nat} (ht:t<boN T dm n) :
  p∣bkF T dm ow H X n t j-bkF T dm ow H' X' n t j:=by
 obtain⟨k,a,hk,hT,ha,rfl⟩:=a8q T dm ht;rw[D5_ T dm ow hT ha j hk,D5_ T dm ow hT ha j hk];refine j9_ fun c hc=>?_
 have hfit:=L4_ T dm hk hT;have h1:=j2_ (H (ow k) a c) (hX (boN T dm k+c) (by omega));have h2:=i9_ (X' (boN T dm k+c) j) (hH k a c hk hT ha hc);exact f8_ h1 h2
theorem d0X {H:Nat→Nat→Nat→Int} {X:Nat→Nat→Int} {m:Nat→Int} {C n t:Nat} (ht:t<boN T dm n):bkF T dm ow H (fun t _=>sgF (fun s=>X t s*m s) C) n t 0=sgF (fun s=>bkF T dm ow H X n t s*m s) C:=by
 obtain⟨k,a,hk,hT,ha,rfl⟩:=a8q T dm ht;rw[D5_ T dm ow hT ha 0 hk,k8_];exact a5_ fun s _=>by rw[D5_ T dm ow hT ha s hk]
theorem f5J {H:Nat→Nat→Nat→Int} {e f:Nat→Int} {n t:Nat} (ht:t<boN T dm n):bkF T dm ow H (fun t _=>e t-f t) n t 0=bkF T dm ow H (fun t _=>e t) n t 0-bkF T dm ow H (fun t _=>f t) n t 0:=by
 obtain⟨k,a,hk,hT,ha,rfl⟩:=a8q T dm ht;rw[D5_ T dm ow hT ha 0 hk,D5_ T dm ow hT ha 0 hk,D5_ T dm ow hT ha 0 hk,←A0_];exact a5_ fun c _=>by rw[Int.mul_sub]
theorem b5Z {H:Nat→Nat→Nat→Int} {M:Nat→Int} {k c:Nat} (hT:T k=true) (hc:c<dm k):∀ {n N},k<N→n≤N→sgF (fun t=>M t*bkF T dm ow H (fun t _=>idF t (boN T dm k+c)) N t 0) (boN T dm n)=if k<n then sgF (fun a=>M (boN T dm k+a)*H (ow k) a c) (dm k) else 0
 | 0,_,_,_=>by simp[boN,sgF]
 | n+1,N,hN,hn=>by
  have ih:=b5Z (H:=H) (M:=M) hT hc (n:=n) hN (by omega);by_cases hTn:T n=true
  ·rw[b2q T dm _ hTn,ih];by_cases e:n=k
   ·subst e;rw[if_neg (by omega),if_pos (by omega),Int.zero_add];refine a5_ fun a ha=>?_
    rw[D5_ T dm ow hT ha 0 (by omega)];congr 1
    rw[a5_ (b:=fun s=>H (ow n) a s*idF s c) fun s _=>?_,t9_ hc];congr 1
    unfold idF;by_cases e2:s=c
    ·rw[if_pos e2,if_pos (by omega)]
    ·rw[if_neg e2,if_neg (by omega)]
   ·have hz:sgF (fun a=>M (boN T dm n+a)*bkF T dm ow H (fun t _=>idF t (boN T dm k+c)) N (boN T dm n+a) 0) (dm n)=0:=by
     rw[a5_ (b:=fun _=>0) fun a ha=>?_,sg_0];rw[D5_ T dm ow hTn ha 0 (by omega),a5_ (b:=fun _=>0) fun s hs=>?_,sg_0,Int.mul_zero];have hne:¬ boN T dm n+s=boN T dm k+c:=by
      rcases Nat.lt_or_ge n k with h | h
      ·have:=L4_ T dm h hTn;omega
      ·have:=L4_ T dm (show k<n by omega) hT;omega
     rw[idF,if_neg hne,Int.mul_zero]
    rw[hz,Int.add_zero];by_cases e2:k<n
    ·rw[if_pos e2,if_pos (by omega)]
    ·rw[if_neg e2,if_neg (by omega)]
  ·rw[b7x T dm hTn,ih];have hne:n≠k:=fun e=>hTn (e ▸ hT)
   by_cases e2:k<n
   ·rw[if_pos e2,if_pos (by omega)]
   ·rw[if_neg e2,if_neg (by omega)]
end
structure Star (r y:Rp) (v n C N K:Nat) (T:Nat→Bool) (ow:Nat→Nat) (M B S L:Nat→Nat→Int):Prop where
 rr:Fit2 r r
 yy:Fit2 y y
 p:r.p=y.p
 len:y.d.length=r.d.length
 arrR:r.q.f.length=n
 arrY:y.q.f.length=n
 N_:boN T (fun k=>dmN r.d (ow k)) n=N
 dv:dmN r.d v=C
 dvy:dmN y.d v=K
 dw:∀ w,w≠v→dmN y.d w=dmN r.d w
 yes:∀ k,k<n→T k=true→srN r.q k=ow k∧tgN r.q k=v∧srN y.q k=v∧tgN y.q k=ow k∧ow k≠v
 no:∀ k,k<n→¬ T k=true→srN y.q k=srN r.q k∧tgN y.q k=tgN r.q k∧srN r.q k≠v∧tgN r.q k≠v
 aR:∀ k i c,k<n→T k=true→i<C→c<dmN r.d (ow k)→arF r k i c=M i (boN T (fun k=>dmN r.d (ow k)) k+c)
 aY:∀ k a b,k<n→T k=true→a<dmN r.d (ow k)→b<K→arF y k a b=B (boN T (fun k=>dmN r.d (ow k)) k+a) b
 aN:∀ k a c,k<n→¬ T k=true→a<dmN r.d (tgN r.q k)→c<dmN r.d (srN r.q k)→arF y k a c=arF r k a c
 MB:∀ i b,i<C→b<K→r.p∣sgF (fun t=>M i t*B t b) N
 MS:∀ i j,i<C→j<C→r.p∣sgF (fun t=>M i t*S t j) N-idF i j
 LB:∀ a b,a<K→b<K→r.p∣sgF (fun t=>L a t*B t b) N-idF a b
 ex:∀ x:Nat→Int,(∀ i,i<C→r.p∣sgF (fun t=>M i t*x t) N)→∀ t,t<N→r.p∣x t-sgF (fun b=>B t b*sgF (fun u=>L b u*x u) N) K
section
variable {r y:Rp} {v n C N K:Nat} {T:Nat→Bool} {ow:Nat→Nat} {M B S L:Nat→Nat→Int}
theorem Star.in_ (h:Star r y v n C N K T ow M B S L) {H:Nat→Nat→Nat→Int} (hH:HmF r r H) (X:Nat→Nat→Int) {i:Nat} (hi:i<C) (j:Nat) :
  ∀ m,m≤n→r.p∣sgF (fun t=>M i t*bkF T (fun k=>dmN r.d (ow k)) ow H X n t j) (boN T (fun k=>dmN r.d (ow k)) m)-sgF (fun s=>H v i s*sgF (fun t=>M s t*X t j) (boN T (fun k=>dmN r.d (ow k)) m)) C
 | 0,_=>by
  rw[boN,sgF,a5_ (b:=fun _=>0) fun s _=>by rw[sgF,Int.mul_zero],sg_0];exact n8_ _ _
 | m+1,hm=>by
  have ih:=Star.in_ h hH X hi j m (by omega);by_cases hT:T m=true
  ·obtain⟨a1,a2,_,_,_⟩:=h.yes m (by omega) hT;have e1:=b2q T (fun k=>dmN r.d (ow k)) (fun t=>M i t*bkF T (fun k=>dmN r.d (ow k)) ow H X n t j) hT;have e2:sgF (fun s=>H v i s*sgF (fun t=>M s t*X t j) (boN T (fun k=>dmN r.d (ow k)) (m+1))) C=sgF (fun s=>H v i s*sgF (fun t=>M s t*X t j) (boN T (fun k=>dmN r.d (ow k)) m)) C+sgF (fun s=>H v i s*sgF (fun c=>M s (boN T (fun k=>dmN r.d (ow k)) m+c)*X (boN T (fun k=>dmN r.d (ow k)) m+c) j) (dmN r.d (ow m))) C:=by
    rw[←L2_];refine a5_ fun s _=>?_
    rw[b2q T (fun k=>dmN r.d (ow k)) (fun t=>M s t*X t j) hT,Int.mul_add]
   have e3:sgF (fun a=>M i (boN T (fun k=>dmN r.d (ow k)) m+a)*bkF T (fun k=>dmN r.d (ow k)) ow H X n (boN T (fun k=>dmN r.d (ow k)) m+a) j) (dmN r.d (ow m))=sgF (fun c=>sgF (fun a=>arF r m i a*H (ow m) a c) (dmN r.d (ow m))*X (boN T (fun k=>dmN r.d (ow k)) m+c) j) (dmN r.d (ow m)):=by
    rw[←k8_];refine a5_ fun a ha=>?_
    rw[D5_ T (fun k=>dmN r.d (ow k)) ow hT ha j (by omega),h.aR m i a (by omega) hT hi ha]
   have e4:sgF (fun s=>H v i s*sgF (fun c=>M s (boN T (fun k=>dmN r.d (ow k)) m+c)*X (boN T (fun k=>dmN r.d (ow k)) m+c) j) (dmN r.d (ow m))) C=sgF (fun c=>sgF (fun s=>H v i s*arF r m s c) C*X (boN T (fun k=>dmN r.d (ow k)) m+c) j) (dmN r.d (ow m)):=by
    rw[←k8_];refine a5_ fun s hs=>?_
    congr 1
    exact a5_ fun c hc=>by rw[h.aR m s c (by omega) hT hs hc]
   have h5:r.p∣sgF (fun c=>sgF (fun a=>arF r m i a*H (ow m) a c) (dmN r.d (ow m))*X (boN T (fun k=>dmN r.d (ow k)) m+c) j) (dmN r.d (ow m))-sgF (fun c=>sgF (fun s=>H v i s*arF r m s c) C*X (boN T (fun k=>dmN r.d (ow k)) m+c) j) (dmN r.d (ow m)):=j9_ fun c hc=>i9_ _ (by
    have:=hH m (by rw[h.arrR];omega) i c (by rw[a2,h.dv];exact hi) (by rw[a1];exact hc);rwa[a1,a2,h.dv]at this)
   rw[e1,e2,e3,e4];have:=Int.dvd_add ih h5;refine (k2_ ?_).1 this;exact⟨0,by omega⟩
  ·rw[b7x T _ hT];exact ih
theorem Star.inA (h:Star r y v n C N K T ow M B S L) {H:Nat→Nat→Nat→Int} (hH:HmF r r H) (X:Nat→Nat→Int) {i:Nat} (hi:i<C) (j:Nat) :
  r.p∣sgF (fun t=>M i t*bkF T (fun k=>dmN r.d (ow k)) ow H X n t j) N-sgF (fun s=>H v i s*sgF (fun t=>M s t*X t j) N) C:=by
 have:=h.in_ hH X hi j n (l_ _);rwa[h.N_]at this
theorem Star.out_ (h:Star r y v n C N K T ow M B S L) {G:Nat→Nat→Nat→Int} (hG:HmF y y G) {t b:Nat} (ht:t<N) (hb:b<K) :
  r.p∣bkF T (fun k=>dmN r.d (ow k)) ow G B n t b-sgF (fun s=>B t s*G v s b) K:=by
 rw[←h.N_]at ht;obtain⟨k,a,hk,hT,ha,rfl⟩:=a8q T _ ht;obtain⟨_,_,a3,a4,a5⟩:=h.yes k hk hT;rw[D5_ T _ ow hT ha b hk];have h1:=hG k (by rw[h.arrY];exact hk) a b (by rw[a4,h.dw _ a5];exact ha) (by rw[a3,h.dvy];exact hb);rw[a3,a4,h.dvy,h.dw _ a5,←h.p]at h1;have e1:sgF (fun s=>arF y k a s*G v s b) K=sgF (fun s=>B (boN T (fun k=>dmN r.d (ow k)) k+a) s*G v s b) K:=a5_ fun s hs=>by rw[h.aY k a s hk hT ha hs]
 have e2:sgF (fun s=>G (ow k) a s*arF y k s b) (dmN r.d (ow k))=sgF (fun c=>G (ow k) a c*B (boN T (fun k=>dmN r.d (ow k)) k+c) b) (dmN r.d (ow k)):=a5_ fun s hs=>by rw[h.aY k s b hk hT hs hb]
 rw[e1,e2]at h1;exact j3_ h1
theorem Star.own (h:Star r y v n C N K T ow M B S L) {k:Nat} (hk:k<n) (hT:T k=true):ow k<r.d.length:=by
 obtain⟨_,_,lf,_⟩:=h.rr.arr (k:=k) (by rw[h.arrR];exact hk);rwa[(h.yes k hk hT).1]at lf
def stP (v K N:Nat) (T:Nat→Bool) (dm ow:Nat→Nat) (n:Nat) (L B:Nat→Nat→Int) (H:Nat→Nat→Nat→Int) (w:Nat):Nat→Nat→Int:=if w=v then fun a b=>sgF (fun t=>L a t*bkF T dm ow H B n t b) N else H w
theorem Star.le1 (h:Star r y v n C N K T ow M B S L):homN r r≤homN y y:=by
 have key:∀ H,HmF r r H→∀ t b,t<N→b<K→r.p∣bkF T (fun k=>dmN r.d (ow k)) ow H B n t b-sgF (fun s=>B t s*stP v K N T (fun k=>dmN r.d (ow k)) ow n L B H v s b) K:=by
  intro H hH t b ht hb;have h1:=h.ex (fun t=>bkF T (fun k=>dmN r.d (ow k)) ow H B n t b) (fun i hi=>?_) t ht
  ·simpa only[stP,if_true] using h1
  ·refine (k2_ (h.inA hH B hi b)).2 (w9_ fun s hs=>Int.dvd_mul_of_dvd_right (h.MB s b hs hb))
 refine Q4_ h.rr h.yy h.p (stP v K N T (fun k=>dmN r.d (ow k)) ow n L B) (fun H hH=>?_) fun H G hH hG e=>?_
 ·intro k hk a b ha hb;have hk':k<n:=by rw[←h.arrY];exact hk
  by_cases hT:T k=true
  ·obtain⟨_,_,a3,a4,a5⟩:=h.yes k hk' hT;rw[a4,h.dw _ a5]at ha;rw[a3,h.dvy]at hb;rw[a3,a4,h.dvy,h.dw _ a5,←h.p];have hfit:=L4_ T (fun k=>dmN r.d (ow k)) hk' hT;rw[h.N_]at hfit;have h1:=key H hH (boN T (fun k=>dmN r.d (ow k)) k+a) b (by omega) hb;rw[D5_ T _ ow hT ha b hk']at h1;have e1:sgF (fun s=>arF y k a s*stP v K N T (fun k=>dmN r.d (ow k)) ow n L B H v s b) K=sgF (fun s=>B (boN T (fun k=>dmN r.d (ow k)) k+a) s*stP v K N T (fun k=>dmN r.d (ow k)) ow n L B H v s b) K:=a5_ fun s hs=>by rw[h.aY k a s hk' hT ha hs]
   have e2:sgF (fun s=>stP v K N T (fun k=>dmN r.d (ow k)) ow n L B H (ow k) a s*arF y k s b) (dmN r.d (ow k))=sgF (fun c=>H (ow k) a c*B (boN T (fun k=>dmN r.d (ow k)) k+c) b) (dmN r.d (ow k)):=a5_ fun s hs=>by
    rw[h.aY k s b hk' hT hs hb];simp only[stP,if_neg a5]
   rw[e1,e2];exact j3_ h1
  ·obtain⟨b1,b2,b3,b4⟩:=h.no k hk' hT;rw[b2,h.dw _ b4]at ha;rw[b1,h.dw _ b3]at hb;rw[b1,b2,h.dw _ b3,h.dw _ b4,←h.p];have h1:=hH k (by rw[h.arrR];exact hk') a b ha hb;have e1:sgF (fun s=>arF y k a s*stP v K N T (fun k=>dmN r.d (ow k)) ow n L B H (srN r.q k) s b) (dmN r.d (srN r.q k))=sgF (fun s=>arF r k a s*H (srN r.q k) s b) (dmN r.d (srN r.q k)):=a5_ fun s hs=>by
    rw[h.aN k a s hk' hT ha hs];simp only[stP,if_neg b3]
   have e2:sgF (fun s=>stP v K N T (fun k=>dmN r.d (ow k)) ow n L B H (tgN r.q k) a s*arF y k s b) (dmN r.d (tgN r.q k))=sgF (fun s=>H (tgN r.q k) a s*arF r k s b) (dmN r.d (tgN r.q k)):=a5_ fun s hs=>by
    rw[h.aN k s b hk' hT hs hb];simp only[stP,if_neg b4]
   rw[e1,e2];exact h1
 ·have hw:∀ w a c,w≠v→w<r.d.length→a<dmN r.d w→c<dmN r.d w→r.p∣H w a c-G w a c:=fun w a c hne hl ha hc=>by
   have:=e w a c (by rw[h.len];exact hl) (by rw[h.dw _ hne];exact ha) (by rw[h.dw _ hne];exact hc);simp only[stP,if_neg hne]at this;rwa[←h.p]at this
  intro w i j hl hi hj;by_cases hne:w=v
  ·subst hne;rw[h.dv]at hi hj;have one:∀ H,HmF r r H→r.p∣H w i j-sgF (fun t=>M i t*bkF T (fun k=>dmN r.d (ow k)) ow H S n t j) N:=fun H hH=>by
    have h1:=h.inA hH S hi j;have h2:r.p∣sgF (fun s=>H w i s*sgF (fun t=>M s t*S t j) N) C-sgF (fun s=>H w i s*idF s j) C:=j9_ fun s hs=>j2_ _ (h.MS s j hs hj)
    rw[t9_ (h:=fun s=>H w i s) hj]at h2;exact j3_ (f8_ h1 h2)
   have h3:r.p∣sgF (fun t=>M i t*bkF T (fun k=>dmN r.d (ow k)) ow H S n t j) N-sgF (fun t=>M i t*bkF T (fun k=>dmN r.d (ow k)) ow G S n t j) N:=j9_ fun t ht=>j2_ _ (d5Q T _ ow (fun k a c hk hT ha hc=>hw _ a c (h.yes k hk hT).2.2.2.2 (h.own hk hT) ha hc) (fun _ _=>n8_ _ _) (by rw[h.N_];exact ht))
   exact f8_ (one H hH) (f8_ h3 (j3_ (one G hG)))
  ·exact hw w i j hne hl hi hj
theorem Star.le2 (h:Star r y v n C N K T ow M B S L):homN y y≤homN r r:=by
 have lem:∀ G,HmF y y G→∀ x:Nat→Int,(∀ i,i<C→r.p∣sgF (fun t=>M i t*x t) N)→∀ i,i<C→r.p∣sgF (fun t=>M i t*bkF T (fun k=>dmN r.d (ow k)) ow G (fun t _=>x t) n t 0) N:=by
  intro G hG x hx i hi;obtain⟨z,hz⟩:∃ z:Nat→Int,z=fun b=>sgF (fun u=>L b u*x u) N:=⟨_,rfl⟩
  have h1:∀ t,t<N→r.p∣x t-sgF (fun b=>B t b*z b) K:=fun t ht=>by rw[hz];exact h.ex x hx t ht
  have h2:∀ t,t<N→r.p∣bkF T (fun k=>dmN r.d (ow k)) ow G (fun t _=>x t) n t 0-sgF (fun b=>sgF (fun s=>B t s*G v s b) K*z b) K:=fun t ht=>by
   have a:=d5Q (p:=r.p) T (fun k=>dmN r.d (ow k)) ow (H:=G) (H':=G) (X:=fun t _=>x t) (X':=fun t _=>sgF (fun b=>B t b*z b) K) (n:=n) (j:=0) (fun _ _ _ _ _ _ _=>n8_ _ _) (fun t ht=>h1 t (by rw[←h.N_];exact ht)) (t:=t) (by rw[h.N_];exact ht);rw[d0X T _ ow (by rw[h.N_];exact ht)]at a;exact f8_ a (j9_ fun b hb=>i9_ _ (h.out_ hG ht hb))
  have h3:r.p∣sgF (fun t=>M i t*bkF T (fun k=>dmN r.d (ow k)) ow G (fun t _=>x t) n t 0) N-sgF (fun t=>M i t*sgF (fun b=>sgF (fun s=>B t s*G v s b) K*z b) K) N:=j9_ fun t ht=>j2_ _ (h2 t ht)
  refine (k2_ h3).2 ?_;have e1:sgF (fun t=>M i t*sgF (fun b=>sgF (fun s=>B t s*G v s b) K*z b) K) N=sgF (fun s=>sgF (fun t=>M i t*B t s) N*sgF (fun b=>G v s b*z b) K) K:=by
   rw[←k8_];refine a5_ fun t _=>?_
   congr 1
   exact (k8_ _ _ _ _ _).symm
  rw[e1];exact w9_ fun s hs=>Int.dvd_mul_of_dvd_left (h.MB i s hi hs)
 refine Q4_ h.yy h.rr h.p.symm (stP v C N T (fun k=>dmN r.d (ow k)) ow n M S) (fun G hG=>?_) fun H G hH hG e=>?_
 ·intro k hk i c hi hc;have hk':k<n:=by rw[←h.arrR];exact hk
  by_cases hT:T k=true
  ·obtain⟨a1,a2,_,_,a5⟩:=h.yes k hk' hT;rw[a2,h.dv]at hi;rw[a1]at hc;rw[a1,a2,h.dv];have hfit:=L4_ T (fun k=>dmN r.d (ow k)) hk' hT;rw[h.N_]at hfit;obtain⟨j0,hj0⟩:=e_ (boN T (fun k=>dmN r.d (ow k)) k+c);have hj:j0<N:=by omega
   have hx:∀ i,i<C→r.p∣sgF (fun t=>M i t*(idF t j0-sgF (fun s=>S t s*M s j0) C)) N:=fun i hi=>by
    have e1:sgF (fun t=>M i t*(idF t j0-sgF (fun s=>S t s*M s j0) C)) N=M i j0-sgF (fun s=>sgF (fun t=>M i t*S t s) N*M s j0) C:=by
     rw[←k8_,←t9_ (h:=fun t=>M i t) hj,←A0_];exact a5_ fun t _=>by rw[Int.mul_sub]
    have h2:r.p∣sgF (fun s=>sgF (fun t=>M i t*S t s) N*M s j0) C-sgF (fun s=>idF i s*M s j0) C:=j9_ fun s hs=>i9_ _ (h.MS i s hi hs)
    rw[z9_ (h:=fun s=>M s j0) hi]at h2;rw[e1];exact j3_ h2
   have h1:=lem G hG _ hx i hi;have e2:sgF (fun t=>M i t*bkF T (fun k=>dmN r.d (ow k)) ow G (fun t _=>idF t j0-sgF (fun s=>S t s*M s j0) C) n t 0) N=sgF (fun a=>arF r k i a*G (ow k) a c) (dmN r.d (ow k))-sgF (fun s=>sgF (fun t=>M i t*bkF T (fun k=>dmN r.d (ow k)) ow G S n t s) N*M s j0) C:=by
    have u:=b5Z T (fun k=>dmN r.d (ow k)) ow (H:=G) (M:=fun t=>M i t) hT hc (n:=n) (N:=n) hk' (l_ _);rw[if_pos hk',h.N_,hj0]at u;have e3:sgF (fun a=>arF r k i a*G (ow k) a c) (dmN r.d (ow k))=sgF (fun a=>M i (boN T (fun k=>dmN r.d (ow k)) k+a)*G (ow k) a c) (dmN r.d (ow k)):=a5_ fun a ha=>by rw[h.aR k i a hk' hT hi ha]
    rw[e3,←u,←k8_,←A0_];refine a5_ fun t ht=>?_
    have ht':t<boN T (fun k=>dmN r.d (ow k)) n:=by rw[h.N_];exact ht
    rw[f5J T _ ow ht',d0X T _ ow ht',Int.mul_sub]
   rw[e2]at h1;have e4:sgF (fun s=>arF r k i s*stP v C N T (fun k=>dmN r.d (ow k)) ow n M S G (ow k) s c) (dmN r.d (ow k))=sgF (fun a=>arF r k i a*G (ow k) a c) (dmN r.d (ow k)):=a5_ fun s _=>by simp only[stP,if_neg a5]
   have e5:sgF (fun s=>stP v C N T (fun k=>dmN r.d (ow k)) ow n M S G v i s*arF r k s c) C=sgF (fun s=>sgF (fun t=>M i t*bkF T (fun k=>dmN r.d (ow k)) ow G S n t s) N*M s j0) C:=a5_ fun s hs=>by
    rw[h.aR k s c hk' hT hs hc,hj0];simp only[stP,if_true]
   rw[e4,e5];exact h1
  ·obtain⟨b1,b2,b3,b4⟩:=h.no k hk' hT;have h1:=hG k (by rw[h.arrY];exact hk') i c (by rw[b2,h.dw _ b4];exact hi) (by rw[b1,h.dw _ b3];exact hc);rw[b1,b2,h.dw _ b3,h.dw _ b4,←h.p]at h1;have e1:sgF (fun s=>arF r k i s*stP v C N T (fun k=>dmN r.d (ow k)) ow n M S G (srN r.q k) s c) (dmN r.d (srN r.q k))=sgF (fun s=>arF y k i s*G (srN r.q k) s c) (dmN r.d (srN r.q k)):=a5_ fun s hs=>by
    rw[h.aN k i s hk' hT hi hs];simp only[stP,if_neg b3]
   have e2:sgF (fun s=>stP v C N T (fun k=>dmN r.d (ow k)) ow n M S G (tgN r.q k) i s*arF r k s c) (dmN r.d (tgN r.q k))=sgF (fun s=>G (tgN r.q k) i s*arF y k s c) (dmN r.d (tgN r.q k)):=a5_ fun s hs=>by
    rw[h.aN k s c hk' hT hs hc];simp only[stP,if_neg b4]
   rw[e1,e2];exact h1
 ·have hw:∀ w a c,w≠v→w<r.d.length→a<dmN r.d w→c<dmN r.d w→r.p∣H w a c-G w a c:=fun w a c hne hl ha hc=>by
   have:=e w a c hl ha hc;simpa only[stP,if_neg hne] using this
  intro w i j hl hi hj;rw[←h.p];by_cases hne:w=v
  ·subst hne;rw[h.dvy]at hi hj;have one:∀ H,HmF y y H→r.p∣H w i j-sgF (fun t=>L i t*bkF T (fun k=>dmN r.d (ow k)) ow H B n t j) N:=fun H hH=>by
    have h1:r.p∣sgF (fun t=>L i t*bkF T (fun k=>dmN r.d (ow k)) ow H B n t j) N-sgF (fun t=>L i t*sgF (fun s=>B t s*H w s j) K) N:=j9_ fun t ht=>j2_ _ (h.out_ hH ht hj)
    rw[k8_]at h1;have h2:r.p∣sgF (fun s=>sgF (fun t=>L i t*B t s) N*H w s j) K-sgF (fun s=>idF i s*H w s j) K:=j9_ fun s hs=>i9_ _ (h.LB i s hi hs)
    rw[z9_ (h:=fun s=>H w s j) hi]at h2;exact j3_ (f8_ h1 h2)
   have h3:r.p∣sgF (fun t=>L i t*bkF T (fun k=>dmN r.d (ow k)) ow H B n t j) N-sgF (fun t=>L i t*bkF T (fun k=>dmN r.d (ow k)) ow G B n t j) N:=j9_ fun t ht=>j2_ _ (d5Q T _ ow (fun k a c hk hT ha hc=>hw _ a c (h.yes k hk hT).2.2.2.2 (h.own hk hT) ha hc) (fun _ _=>n8_ _ _) (by rw[h.N_];exact ht))
   exact f8_ (one H hH) (f8_ h3 (j3_ (one G hG)))
  ·rw[h.len]at hl;rw[h.dw _ hne]at hi hj;exact hw w i j hne hl hi hj
theorem Star.eq (h:Star r y v n C N K T ow M B S L):homN r r=homN y y:=Nat.le_antisymm h.le1 h.le2
end
theorem F6_ (u:Value) (r c:Nat) (f:Nat→Nat→Int) (w0:World) (hu:MxR w0 w0.heap.size u (mxF r c f)) (hr:r≤1000) (hc:c≤1000) :
  Calls Tryz.prog 29 #[u] w0 fun e w'=>∃ v,e = .returned v∧MxO w' w0.heap.size w'.heap.size v (mxF c r fun a b=>f b a)∧Below w0.heap.size w0 w':=by
 have hu':=hu;obtain⟨UA,uc,rfl⟩:=hu.form;simp only[mxF]at hu hu'⊢;rw[a0_]at hu hu'⊢;obtain⟨UL,hUL⟩:=e_ (r*c);rw[hUL]at hu hu'⊢;have HUL:=h_ hUL;clear hUL hu;obtain⟨W,hW,g0,k1,k2⟩:=b_4 w0 #[.int .i64 r,.int .i64 c,.slice UA UL uc] 41 #[.int .i64 0,.int .i64 0,.slice none 0 0] 41;have sz:W.heap.size=w0.heap.size+1+1:=by rw[hW];simp
 have SZ:=h_ sz;have HU:=h_ (MxR.next g0 hu');clear hu' sz;go_enter Tryz.func29,Tryz.ntmps29
 go_wp2;rw[←hW];clear hW;refine a8_ (by kernel_rfl) [.eq (.pointer (some ⟨w0.heap.size,1,none⟩)),.eq (.int .i64 c),.eq (.agg #[.int .i64 r,.int .i64 c,.slice UA UL uc]),rel 3 (fun u lo hi w=>b1_ w lo hi u (b5_ r c f)),rel 4 (fun u lo hi w=>MxO w lo hi u (mxF c r fun a b=>f b a))] [[],[0],[],[2],[0,1,2,3],[0,1,2,3,4]] 5 (by kernel_rfl) ⟨trivial,trivial,trivial,a4_ (fun u lo hi w w' h hb=>h.below hb),a4_ (fun u lo hi w w' h hb=>h.below hb),trivial⟩ ⟨?_,?_,?_,?_,?_,trivial⟩ ?_;iterate 5 (intro x w hb hk Q' hQ;have he:=k_e hk;simp only[k_s]at he;simp only[netE]at hQ⊢;(try simp only[he]at hQ⊢);(try clear he);rotate_left)
 rotate_left
 ·clear hk;go_wp2;exact hQ _ _ br_ rfl
 ·clear hk;have z1:=(k1.call hb).cell' (i:=1) rfl;go_wp2;exact hQ _ _ br_ rfl
 ·clear hk;obtain⟨z0,z1,z2⟩:=c_3 (k1.call hb);go_wp2;exact hQ _ _ br_ rfl
 ·clear hk;go_wp2_with fail
  refine (I3_ _ r c f _ (MxR.next hb HU.out) hr hc).mono ?_;rintro e w1 ⟨v1,rfl,ho,hb1⟩;go_wp2;exact hQ _ _ hb1 ho
 ·have h3:b1_ w (x.lo 3) (x.hi 3) (x.v 3) (b5_ r c f):=(hk 3 (by decide)).1;have s3:=(hk 3 (by decide)).2;clear hk;have H3:=h_ h3.rd;obtain⟨A3,c3,e3,_⟩:=h3.form2;rw[e3]at H3 hQ⊢;go_wp2_with fail
  refine (i7_ _ c r (fun a b=>f b a) _ H3.out hc hr).mono ?_;rintro e w1 ⟨v1,rfl,ho,hb1⟩;go_wp2;exact hQ _ _ hb1 ho
 ·intro x w hb hk hiv hdj;have h3:b1_ w (x.lo 3) (x.hi 3) (x.v 3) (b5_ r c f):=hk 3 (by decide);have h4:MxO w (x.lo 4) (x.hi 4) (x.v 4) (mxF c r fun a b=>f b a):=hk 4 (by decide);have he:=k_g hk [0,1,2];simp only[k_s]at he;simp only[netE,he];clear he hk;have i4:=hiv 4 (by decide);obtain⟨A4,c4,e4⟩:=h4.form;simp only[mxF]at e4;rw[a0_]at e4;have H4:=h4;simp only[mxF]at H4;rw[e4]at H4⊢;obtain⟨L4,hL4⟩:=e_ (c*r);have HL4:=h_ hL4;rw[hL4]at H4⊢;have k2':=k2.call hb;have f2:=k2'.frozen;obtain⟨r0,r1,r2⟩:=c_3 k2';have gf:=g0.trans (hb.mono g0.size);have sz:=SZ.out;have hbs:=hb.size;have hc:=chg3 w (w0.heap.size+1) (.int .i64 c) (.int .i64 r) (.slice A4 L4 c4);have OF:=h_ ((H4.chg hc (.inr (by omega))).wider (lo':=w0.heap.size) (hi':=w.heap.size) (by omega) (by omega));have GF:=h_ (gf.trans (hc.below (by omega) gf.size));clear h3 h4 H4 e4 k1 k2 k2' hb hL4 hiv hdj i4 gf hc;go_wp2;exact bodyPost_ret (v:=.agg #[.int .i64 c,.int .i64 r,.slice A4 L4 c4]) (by simp[results,go_sem,r0,r1,r2]) rfl ⟨_,rfl,by have:=OF.out.wider (l_ _) (l_ _);simpa [mxF] using this,GF.out⟩
theorem K7_ (a b:Int) (A:Option Addr) (n k:Nat) (w0:World) :
  Calls Tryz.prog 51 #[.agg #[.int .i64 a,.int .i64 b,.slice A n k]] w0 fun e w'=>e = .returned (.agg #[.int .i64 a,.int .i64 b,.slice A n k])∧Below w0.heap.size w0 w':=by
 go_enter Tryz.func51,Tryz.ntmps51
 go_wp2;exact bodyPost_ret (v:=.agg #[.int .i64 a,.int .i64 b,.slice A n k]) (by simp[results,go_sem]) rfl ⟨rfl,((Below.refl _ _).alloc (l_ _) _).alloc (by simp) _⟩
theorem T8_ (u:Value) (y:Rp) (w0:World) (hu:RpR w0 w0.heap.size u y) (hn:y.m.length≤1000000) :
  Calls Tryz.prog 79 #[u] w0 fun e w'=>∃ v,e = .returned v∧RepO w' w0.heap.size w'.heap.size v y∧Below w0.heap.size w0 w':=by
 obtain⟨A,a,C,c,E,e,H,h,rfl,hq,hd,hm,hp,ld,lm⟩:=hu.open_;have hv:=hu;clear hu;obtain⟨W,hW,g0,k1,k2⟩:=b_4 w0 #[.int .i64 y.p,.int .i64 y.q.v,.slice A y.q.f.length a,.slice C y.q.t.length c,.slice E y.d.length e,.slice H y.m.length h] 29 #[.int .i64 0,.int .i64 0,.slice none 0 0,.slice none 0 0,.slice none 0 0,.slice none 0 0] 29;have sz:W.heap.size=w0.heap.size+1+1:=by rw[hW];simp
 have SZ:=h_ sz;clear sz;have HIm:=h_ (SlM.I64s hm);have HQ:=h_ (QvR.next g0 hq);have HD:=h_ (SlI.next g0 hd);have HM:=h_ (SlM.next g0 hm);have HI:=h_ (show I64 y.p∧I64 y.q.v from by obtain⟨_,_,_,_,_,_,_,_,_,h⟩:=hv;exact h);clear hq hd hm hv hp;go_enter Tryz.func79,Tryz.ntmps79
 go_wp2;rw[←hW];clear hW;refine a8_ (by kernel_rfl) [.eq (.pointer (some ⟨w0.heap.size,0,none⟩)),.eq (.int .i64 y.p),.eq (.pointer (some ⟨w0.heap.size,1,none⟩)),.eq (.agg #[.int .i64 y.q.v,.slice A y.q.f.length a,.slice C y.q.t.length c]),rel 4 (fun u lo hi w=>d5_ w lo hi u y.q),.eq (.pointer (some ⟨w0.heap.size,4,none⟩)),.eq (.slice E y.d.length e),rel 7 (fun u lo hi w=>a9_ w lo hi u y.d),.eq (.pointer (some ⟨w0.heap.size,5,none⟩)),.eq (.slice H y.m.length h),rel 10 (fun u lo hi w=>d3_ w lo hi u y.m),.rel (fun x w=>∃ qa qb,x.v 4 = .agg #[.int .i64 y.q.v,qa,qb]∧x.v 11 = .agg #[.int .i64 y.p,.int .i64 y.q.v,qa,qb,x.v 7,x.v 10])] [[],[0],[],[2],[2,3],[],[5],[2,3,4,5,6],[],[8],[2,3,4,5,6,7,8,9],[0,1,2,3,4,5,6,7,8,9,10],[0,1,2,3,4,5,6,7,8,9,10,11]] 12 (by kernel_rfl) ⟨trivial,trivial,trivial,trivial,a4_ (fun u lo hi w w' h hb=>h.below hb),trivial,trivial,a4_ (fun u lo hi w w' h hb=>h.below hb),trivial,trivial,a4_ (fun u lo hi w w' h hb=>h.below hb),fun x w w' h hb=>h,trivial⟩ ⟨?_,?_,?_,?_,?_,?_,?_,?_,?_,?_,?_,?_,trivial⟩ ?_;iterate 12 (intro x w hb hk Q' hQ;have he:=k_e hk;simp only[k_s]at he;simp only[netE]at hQ⊢;(try simp only[he]at hQ⊢);(try clear he);rotate_left)
 rotate_left
 ·clear hk;go_wp2;exact hQ _ _ br_ rfl
 ·clear hk;have z:=(k1.call hb).cell' (i:=0) rfl;go_wp2;exact hQ _ _ br_ rfl
 ·clear hk;go_wp2;exact hQ _ _ br_ rfl
 ·clear hk;have z1:=(k1.call hb).cell' (i:=1) rfl;have z2:=(k1.call hb).cell' (i:=2) rfl;have z3:=(k1.call hb).cell' (i:=3) rfl;go_wp2;exact hQ _ _ br_ rfl
 ·clear hk;go_wp2_with fail
  refine (B3_ _ y.q _ (QvR.next hb HQ.out)).mono ?_;rintro e w1 ⟨v1,rfl,ho,hb1⟩;go_wp2;exact hQ _ _ hb1 ho
 ·clear hk;go_wp2;exact hQ _ _ br_ rfl
 ·clear hk;have z:=(k1.call hb).cell' (i:=4) rfl;go_wp2;exact hQ _ _ br_ rfl
 ·have h4:d5_ w (x.lo 4) (x.hi 4) (x.v 4) y.q:=(hk 4 (by decide)).1;have s4:=(hk 4 (by decide)).2;clear hk;go_wp2_with fail
  refine (o9_ _ y.d _ (SlI.next hb HD.out)).mono ?_;rintro e w1 ⟨v1,rfl,ho,hb1⟩;go_wp2;exact hQ _ _ hb1 ho
 ·clear hk;go_wp2;exact hQ _ _ br_ rfl
 ·clear hk;have z:=(k1.call hb).cell' (i:=5) rfl;go_wp2;exact hQ _ _ br_ rfl
 ·have h4:d5_ w (x.lo 4) (x.hi 4) (x.v 4) y.q:=(hk 4 (by decide)).1;have h7:a9_ w (x.lo 7) (x.hi 7) (x.v 7) y.d:=(hk 7 (by decide)).1;have s4:=(hk 4 (by decide)).2;have s7:=(hk 7 (by decide)).2;clear hk;go_wp2_with fail
  refine (G0_ _ y.m _ (SlM.next hb HM.out) hn).mono ?_;rintro e w1 ⟨v1,rfl,ho,hb1⟩;go_wp2;exact hQ _ _ hb1 ho
 ·have h4:d5_ w (x.lo 4) (x.hi 4) (x.v 4) y.q:=(hk 4 (by decide)).1;have h7:a9_ w (x.lo 7) (x.hi 7) (x.v 7) y.d:=(hk 7 (by decide)).1;have h10:d3_ w (x.lo 10) (x.hi 10) (x.v 10) y.m:=(hk 10 (by decide)).1;have s4:=(hk 4 (by decide)).2;have s7:=(hk 7 (by decide)).2;have s10:=(hk 10 (by decide)).2;clear hk;obtain⟨qa,qb,e4,hqF,_⟩:=h4;have f1:a9_ w (x.lo 4) (x.hi 4) qa y.q.f:=hqF.1 (qa,y.q.f) (by simp);have f2:a9_ w (x.lo 4) (x.hi 4) qb y.q.t:=hqF.1 (qb,y.q.t) (by simp);obtain⟨qA,qc,rfl⟩:=f1.form;obtain⟨qB,qd,rfl⟩:=f2.form;obtain⟨dA,dc,e7⟩:=h7.form;obtain⟨vs,h10,_⟩:=h10;obtain⟨mA,mc,e10,_,_⟩:=RowO.form h10;have hQ':=hQ (.agg #[.int .i64 y.p,.int .i64 y.q.v,.slice qA y.q.f.length qc,.slice qB y.q.t.length qd,x.v 7,x.v 10]) w br_ ⟨_,_,e4,rfl⟩;rw[e4,e7,e10]at hQ'⊢;go_wp2;exact hQ'
 ·intro x w hb hk hiv hdj;have h4:d5_ w (x.lo 4) (x.hi 4) (x.v 4) y.q:=hk 4 (by decide);have h7:a9_ w (x.lo 7) (x.hi 7) (x.v 7) y.d:=hk 7 (by decide);have h10:d3_ w (x.lo 10) (x.hi 10) (x.v 10) y.m:=hk 10 (by decide);have h11:∃ qa qb,x.v 4 = .agg #[.int .i64 y.q.v,qa,qb]∧x.v 11 = .agg #[.int .i64 y.p,.int .i64 y.q.v,qa,qb,x.v 7,x.v 10]:=hk 11 (by decide);have he:=k_g hk [0,1,2,3,5,6,8,9];simp only[k_s]at he;simp only[netE,he];clear he hk;obtain⟨qa,qb,e4,hqF,_⟩:=h4;have f1:a9_ w (x.lo 4) (x.hi 4) qa y.q.f:=hqF.1 (qa,y.q.f) (by simp);have f2:a9_ w (x.lo 4) (x.hi 4) qb y.q.t:=hqF.1 (qb,y.q.t) (by simp);obtain⟨qA,qc,rfl⟩:=f1.form;obtain⟨qB,qd,rfl⟩:=f2.form;obtain⟨dA,dc,e7⟩:=h7.form;obtain⟨vs,ho,hvl,hFm,hIm⟩:=h10;obtain⟨mA,mc,e10,_,_⟩:=RowO.form ho;obtain⟨qa',qb',e4',e11⟩:=h11;rw[e4]at e4';simp only[Value.agg.injEq,Array.mk.injEq,List.cons.injEq,and_true,true_and]at e4';obtain⟨rfl,rfl⟩:=e4';rw[e7]at h7;rw[e10]at ho;rw[e7,e10]at e11;have i4:=hiv 4 (by decide);have i7:=hiv 7 (by decide);have i10:=hiv 10 (by decide);have hF3:Fam w W.heap.size w.heap.size ([(.slice qA y.q.f.length qc,y.q.f),(.slice qB y.q.t.length qd,y.q.t)] ++ ([(.slice dA y.d.length dc,y.d)] ++ vs.zip (y.m.map Mx.a))) :=
   Fam.three hqF (Fam.one h7) hFm (hdj 4 7 (by decide) (by decide) (by decide)) (hdj 4 10 (by decide) (by decide) (by decide)) (hdj 7 10 (by decide) (by decide) (by decide)) ⟨i4.1,i4.2.2⟩ ⟨i7.1,i7.2.2⟩ ⟨i10.1,i10.2.2⟩
  have hR:RepO w W.heap.size w.heap.size (.agg #[.int .i64 y.p,.int .i64 y.q.v,.slice qA y.q.f.length qc,.slice qB y.q.t.length qd,.slice dA y.d.length dc,.slice mA y.m.length mc]) y :=
   ⟨_,_,_,_,vs,rfl,ho.mono i10.1 i10.2.2,hvl,hF3,HI.out,hIm⟩
  rw[e11];have kz:=k2.call hb;have fr:=kz.frozen;obtain⟨s0,s1,s2,s3,s4,s5⟩:=c_6 kz;have gf:=g0.trans (hb.mono g0.size);have hc:=chg6 w (w0.heap.size+1) (.int .i64 y.p) (.int .i64 y.q.v) (.slice qA y.q.f.length qc) (.slice qB y.q.t.length qd) (.slice dA y.d.length dc) (.slice mA y.m.length mc);have sz:=SZ.out;have OF:=h_ ((hR.chg hc (.inr (by omega))).wider (lo':=w0.heap.size) (hi':=w.heap.size) (by omega) (l_ _));have GF:=h_ (gf.trans (hc.below (by omega) gf.size));clear hR hF3 hqF hFm hIm h7 ho e4 e7 e10 e11 f1 f2 hiv hdj i4 i7 i10 kz gf hc sz hb k1 k2;go_wp2;exact bodyPost_ret (v:=.agg #[.int .i64 y.p,.int .i64 y.q.v,.slice qA y.q.f.length qc,.slice qB y.q.t.length qd,.slice dA y.d.length dc,.slice mA y.m.length mc]) (by simp[results,go_sem,s0,s1,s2,s3,s4,s5]) rfl ⟨_,rfl,OF.out.wider (l_ _) (by simp),GF.out⟩
theorem X5_ (q:Qv) (v:Int):(rvQ q v).f.length=q.f.length∧(rvQ q v).t.length=q.f.length∧(rvQ q v).v=q.v:=⟨a1_ _ _,a1_ _ _,rfl⟩
theorem Z1_ {x:Rp} {v:Int} {K:Nat} {G:Nat→Mx} (h:d4_ (rvQ x.q v) (x.d.set v.toNat K)=true):rfP x v K G=(rfK x v K G x.q.f.length,true):=by rw[rfP,if_pos h]
theorem b1x {x:Rp} {v:Int} {K:Nat} {G:Nat→Mx} (h:d4_ (rvQ x.q v) (x.d.set v.toNat K)=false):rfP x v K G=(rp0,false):=by rw[rfP,if_neg (by rw[h];decide)]
theorem d1Z {x:Rp} {v:Int} (hx:f1_ x=true):∀ k,k≤x.q.f.length→atN x v k≤4*k
 | 0,_=>by simp[atN]
 | k+1,hk=>by
  have ih:=d1Z (v:=v) hx k (by omega);obtain⟨m,nf,nt,yf,yt,em,ef,et,df,dt,eM,_,b1,b2,_⟩:=g9_ hx (show k<x.q.f.length by omega);obtain⟨o1,o2⟩:=L5_ (v:=v) ef et df dt;rw[atN];split
  ·rename_i h
   rw[p8_ ef et]at h;simp only[Bool.or_eq_true,decide_eq_true_eq]at h;rcases h with h | h
   ·rw[o2 h];omega
   ·rw[o1 h];omega
  ·omega
theorem RepO.dims {w:World} {lo hi:Nat} {p v:Int} {f t d m:Value} {x:Rp} (h:RepO w lo hi (.agg #[.int .i64 p,.int .i64 v,f,t,d,m]) x):SlI w w.heap.size d x.d:=by
 obtain⟨f1,t1,d1,m1,vs,e,hO,hvl,hF,_⟩:=h;simp only[Value.agg.injEq,Array.mk.injEq,List.cons.injEq,and_true]at e;obtain⟨_,_,rfl,rfl,rfl,rfl⟩:=e;exact (hF.1 (d,x.d) (by simp)).rd
theorem d3q {y:Rp} {nv k nf nt yf yt:Nat} (ef:y.q.f[k]?=some (nf:Int)) (et:y.q.t[k]?=some (nt:Int)) (df:y.d[nf]?=some (yf:Int)) (dt:y.d[nt]?=some (yt:Int)) (b1:yf≤4) (b2:yt≤4) (h:tch y.q nv k=true) :
  ∃ u s:Nat,(nf:Int)+nt-nv=u∧y.d[u]?=some (s:Int)∧othN y nv k=s∧s≤4∧u<y.d.length:=by
 obtain⟨o1,o2⟩:=L5_ (v:=(nv:Int)) ef et df dt;rw[p8_ ef et]at h;simp only[Bool.or_eq_true,decide_eq_true_eq]at h;rcases h with h | h
 ·exact⟨nt,yt,by omega,dt,o2 h,b2,b0_ dt⟩
 ·exact⟨nf,yf,by omega,df,o1 h,b1,b0_ df⟩
def gB (s:Bool):Rp→Int→Nat→(Nat→Nat→Int)→Nat→Mx:=if s then s0_ else gSrc
theorem F0_ (s0:Bool) (cl:Nat) (ru mv:Value) (y:Rp) (v:Int) (K:Nat) (F:Nat→Nat→Int) (w0:World) (hr:RpR w0 w0.heap.size ru y) (hm:MxR w0 w0.heap.size mv (mxF K (atN y v y.q.f.length) F)) (hy:f1_ y=true) (hv:endV y.q.t y.q v=true∨endV y.q.f y.q v=true) (hK:K≤1000) (hcl:(s0=true∧cl=29)∨(s0=false∧cl=51)) :
  Calls Tryz.prog 27 #[ru,.int .i64 v,mv,.func (.func cl) #[] #[]] w0 fun e w'=>∃ r,e = .returned (.tuple #[r,.bool (rfP y v K (gB s0 y v K F)).2])∧RepO w' w0.heap.size w'.heap.size r (rfP y v K (gB s0 y v K F)).1∧Below w0.heap.size w0 w':=by
 have HCL:=h_ hcl;clear hcl;have hdm:=(b8_.1 hy).2.1;have hq:isQ y.q=true:=(b7_.1 hdm).1;have hml:y.m.length=y.q.f.length:=(b8_.1 hy).2.2.1;have hn6:y.q.f.length≤6:=(g4_.1 hq).2.2.1;have hlt:y.q.f.length=y.q.t.length:=(g4_.1 hq).2.1;have hN:=d1Z (v:=v) hy _ (l_ _);obtain⟨nv,Cv,env,hnvl,_,_,_,hnv5⟩:∃ n C:Nat,v=(n:Int)∧n<y.d.length∧y.d[n]?=some (C:Int)∧dAt y.d v=(C:Int)∧C≤4∧n≤5:=by
  rcases hv with hv | hv <;> exact k5_ hy hv
 have hr':=hr;have hm':=hm;obtain⟨A,a,C,c,E,e,H,h,rfl,hqr,hdr,hmr,hp,ld,lm⟩:=hr.open_;obtain⟨MA,mc,rfl⟩:=hm.form;clear hr hm;simp only[mxF]at hm'⊢;rw[a0_]at hm'⊢;obtain⟨ML,hML⟩:=e_ (K*atN y v y.q.f.length);rw[hML]at hm'⊢;obtain⟨N,hNN⟩:=e_ (atN y v y.q.f.length);rw[hNN]at hm' hN hML⊢;have HNN:=h_ hNN;have HML:=h_ hML;obtain⟨W,hW⟩:∃ W,W=((w0.alloc (.cells #[.int .i64 y.p,.int .i64 y.q.v,.slice A y.q.f.length a,.slice C y.q.t.length c,.slice E y.d.length e,.slice H y.m.length h] 29)).alloc (.cells #[.int .i64 K,.int .i64 N,.slice MA ML mc] 41)).alloc (.cells #[.int .i64 0,.int .i64 0,.slice none 0 0,.slice none 0 0,.slice none 0 0,.slice none 0 0] 29):=⟨_,rfl⟩;have g0:Below w0.heap.size w0 W:=by rw[hW];exact (((Below.refl _ _).alloc (l_ _) _).alloc (by simp) _).alloc (by simp;omega) _
 have k1:Blk W w0.heap.size 29 #[.int .i64 y.p,.int .i64 y.q.v,.slice A y.q.f.length a,.slice C y.q.t.length c,.slice E y.d.length e,.slice H y.m.length h]:=by rw[hW];exact ((Blk.new _ _ _).alloc _).alloc _
 have k2:Blk W (w0.heap.size+1) 41 #[.int .i64 K,.int .i64 N,.slice MA ML mc]:=by
  rw[hW];have:=(Blk.new (w0.alloc (.cells #[.int .i64 y.p,.int .i64 y.q.v,.slice A y.q.f.length a,.slice C y.q.t.length c,.slice E y.d.length e,.slice H y.m.length h] 29)) 41 #[.int .i64 K,.int .i64 N,.slice MA ML mc]).alloc (.cells #[.int .i64 0,.int .i64 0,.slice none 0 0,.slice none 0 0,.slice none 0 0,.slice none 0 0] 29);simpa only[l3_] using this
 have k3:Blk W (w0.heap.size+1+1) 29 #[.int .i64 0,.int .i64 0,.slice none 0 0,.slice none 0 0,.slice none 0 0,.slice none 0 0]:=by
  rw[hW];have:=Blk.new ((w0.alloc (.cells #[.int .i64 y.p,.int .i64 y.q.v,.slice A y.q.f.length a,.slice C y.q.t.length c,.slice E y.d.length e,.slice H y.m.length h] 29)).alloc (.cells #[.int .i64 K,.int .i64 N,.slice MA ML mc] 41)) 29 #[.int .i64 0,.int .i64 0,.slice none 0 0,.slice none 0 0,.slice none 0 0,.slice none 0 0];simpa only[l3_] using this
 have sz:W.heap.size=w0.heap.size+1+1+1:=by rw[hW];simp
 have SZ:=h_ sz;have HRR:=h_ (RpR.next g0 hr');have HQR:=h_ (QvR.next g0 hqr);have HDR:=h_ (SlI.next g0 hdr);have HMR:=h_ (MxR.next g0 hm');have HY:=h_ hy;have HQ:=h_ hq;have HML2:=h_ hml;have HLT:=h_ hlt;have HVV:=h_ hv;clear hr' hqr hdr hmr hm' hy hq hml hlt hML hNN hdm sz hv;subst env;have c1:=k1.cell' (i:=1) rfl;have c2:=k1.cell' (i:=2) rfl;have c3:=k1.cell' (i:=3) rfl;go_enter Tryz.func27,Tryz.ntmps27
 go_wp2_with fail
 rw[←hW];clear hW;refine (D9_ _ y.q nv _ HQR.out HQ.out HVV.out).mono ?_;rintro er w1 ⟨vq,rfl,hQr,hb1⟩;obtain⟨QA,qa,QB,qb,ev⟩:=hQr.form;obtain⟨l1,l2,l3⟩:=X5_ y.q nv;rw[l1,l2,l3]at ev;subst ev;obtain⟨W2,hW2,ga,kq⟩:=b_1 w1 #[.int .i64 y.q.v,.slice QA y.q.f.length qa,.slice QB y.q.f.length qb] 26;have g12:=a6_ hb1 ga;have k12:=k1.call g12;clear c1 c2 c3 l1 l2 l3;obtain⟨c0,c1,c2,c3,c4,c5⟩:=c_6 k12;have HQ2:=h_ (hQr.below ga);have s1:=hb1.size;have s2:=ga.size;have lq:=kq.lt;clear hQr ga hb1 k12;go_wp2_with fail
 clear hW2;refine (T8_ _ y _ (RpR.next g12 HRR.out) (by have:=HML2.out;omega)).mono ?_;rintro er w3 ⟨vr,rfl,hO,hb3⟩;obtain⟨A3,a3,C3,c3',E3,e3,HM,h3,ev⟩:=hO.form;subst ev;obtain⟨gE,ce,eE,hE1,hE2,dc,df,_⟩:=hO.dimAt hnvl;simp only[Value.slice.injEq,true_and]at eE;obtain⟨eE,ece⟩:=eE;subst eE;subst ece;have HHM:=h_ (show ∀ (j:Nat) (m:Mx),y.m[j]?=some m→∃ gH,HM=some ⟨gH,0,none⟩∧W2.heap.size≤gH∧gH<w3.heap.size from fun j m hj=>by
  obtain⟨g,c,s,e,h1,h2,_⟩:=hO.mxAt hj;simp only[Value.slice.injEq,true_and]at e;exact⟨g,e.1,h1,h2⟩)
 obtain⟨W4,hW4,ga,kO4⟩:=b_1 w3 #[.int .i64 y.p,.int .i64 y.q.v,.slice A3 y.q.f.length a3,.slice C3 y.q.t.length c3',.slice (some ⟨gE,0,none⟩) y.d.length e3,.slice HM y.m.length h3] 29;have hb34:=a6_ hb3 ga;have s3:=hb3.size;have s4:=ga.size;have kq4:=kq.call hb34;have g14:=a6_ g12 hb34;have k14:=k2.call g14;clear c0 c1 c2 c3 c4 c5;obtain⟨q0,q1,q2⟩:=c_3 kq4;have o1:=kO4.cell' (i:=1) rfl;have o2:=kO4.cell' (i:=2) rfl;have o3:=kO4.cell' (i:=3) rfl;have o4:=kO4.cell' (i:=4) rfl;have of_:=kO4.frozen;have m0:=k14.cell' (i:=0) rfl;obtain⟨W5,hW5⟩:=e_ (((W4.setCell ⟨w3.heap.size,1,none⟩ (.int .i64 y.q.v)).setCell ⟨w3.heap.size,2,none⟩ (.slice QA y.q.f.length qa)).setCell ⟨w3.heap.size,3,none⟩ (.slice QB y.q.f.length qb));have hc5:Chg w3.heap.size (w3.heap.size+1) W4 W5:=by rw[←hW5];exact ((c6_ _ _ _ _).trans (c6_ _ _ _ _)).trans (c6_ _ _ _ _)
 have k5:Blk W5 w3.heap.size 29 #[.int .i64 y.p,.int .i64 y.q.v,.slice QA y.q.f.length qa,.slice QB y.q.f.length qb,.slice (some ⟨gE,0,none⟩) y.d.length e3,.slice HM y.m.length h3]:=by
  rw[←hW5];exact ((kO4.set_ 1 (.int .i64 y.q.v)).set_ 2 (.slice QA y.q.f.length qa)).set_ 3 (.slice QB y.q.f.length qb)
 have hO5:RepO W5 W2.heap.size w3.heap.size (.agg #[.int .i64 y.p,.int .i64 y.q.v,.slice A3 y.q.f.length a3,.slice C3 y.q.t.length c3',.slice (some ⟨gE,0,none⟩) y.d.length e3,.slice HM y.m.length h3]) y:=(hO.below ga).chg hc5 (.inl (l_ _));have hQ5:=((HQ2.out.below hb34).chg hc5 (.inl (by omega)));have hO6:=hO5.setQ hQ5 (by omega) (by omega) (by omega);obtain⟨W6,hW6⟩:=e_ (W5.setCell ⟨gE,nv,none⟩ (.int .i64 K));have hO7:=(hO6.setDim (j:=nv) (y:=(K:Int)) (by unfold I64;omega)).1;rw[hW6]at hO7;have hc6:Chg gE (gE+1) W5 W6:=by rw[←hW6];exact c6_ _ _ _ _
 have d5:=(hO6.dimAt (j:=nv) hnvl);obtain⟨gE',ce',eE',_,_,dc5,df5,_⟩:=d5;simp only[Value.slice.injEq,Option.some.injEq,Addr.mk.injEq,and_true,true_and]at eE';obtain⟨eE',ece'⟩:=eE';subst eE';subst ece';have kq5:=(kq4.chg hc5 (.inl (by omega)));have k15:=(k14.chg hc5 (.inl (by have:=SZ.out;omega)));have o5':=k5.cell' (i:=4) rfl;have m0':=k15.cell' (i:=0) rfl;have kq6:=kq5.chg hc6 (.inl (by omega));have k6:=k5.chg hc6 (.inr (by omega));obtain⟨p0,p1,p2⟩:=c_3 kq6;have o6':=k6.cell' (i:=4) rfl;have hQ6:=hQ5.chg hc6 (.inl (by omega));have b46:Below W2.heap.size W4 W6:=(hc5.below (by omega) (by omega)).trans (hc6.below (by omega) (by have:=hc5.size;omega));have G6:=h_ ((g12.trans (hb34.mono g12.size)).trans (b46.mono (by omega)));have KQ6:=h_ kq6;have K6:=h_ k6;have HO6:=h_ hO7;have HQ6:=h_ hQ6.rd;have s6:=G6.out.size;have s56:W6.heap.size=W4.heap.size:=by rw[←hW6,←hW5];simp
 have S56:=h_ s56;have HD6:=h_ hO7.dims;clear hO7 hQ6 b46 s56 kq6 k6 hO5 hO6 hQ5 hc5 hc6 kq5 k15 k5 hO hb34 hb3 ga g14 k14 kO4 kq4 df dc hE1 hE2;go_wp2_with fail
 clear hW4 hW5 hW6 o1 o2 o3 o4 of_ q0 q1 q2 m0 m0' dc5 df5 o5' o6' p0 p1 p2;refine (n9_ _ _ (rvQ y.q nv) (y.d.set nv (K:Int)) _ HQ6.out (by have:=HD6.out;simpa using this)).mono ?_;rintro er w7 ⟨rfl,hb7⟩;have G7:=h_ (G6.out.trans (hb7.mono s6));rcases hA:d4_ (rvQ y.q nv) (y.d.set nv (K:Int)) with _ | _
 ·have HE:=h_ (b1x (G:=gB s0 y nv K F) (by rw[l5_];exact hA));have kz:=k3.call G7.out;have fr:=kz.frozen;have s0:=kz.cell' (i:=0) rfl;have s1':=kz.cell' (i:=1) rfl;have s2':=kz.cell' (i:=2) rfl;have s3':=kz.cell' (i:=3) rfl;have s4':=kz.cell' (i:=4) rfl;have s5':=kz.cell' (i:=5) rfl;have gf:=g0.trans (G7.out.mono g0.size);have GF:=h_ gf;clear kz gf hA hb7;go_wp2;have gf:=GF.out;have hE:=HE.out;exact bodyPost_ret (v:=.tuple #[.agg #[.int .i64 0,.int .i64 0,.slice none 0 0,.slice none 0 0,.slice none 0 0,.slice none 0 0],.bool false]) (by simp[results,go_sem,s0,s1',s2',s3',s4',s5']) rfl ⟨_,by rw[hE],by rw[hE];exact RepO.zero _ _ _,(((((gf.setCell (by simp;omega) _).setCell (by simp;omega) _).setCell (by simp;omega) _).setCell (by simp;omega) _).setCell (by simp;omega) _).setCell (by simp;omega) _⟩
 ·have HE:=h_ (Z1_ (G:=gB s0 y nv K F) (by rw[l5_];exact hA));have k27:=k2.call G7.out;obtain⟨m0,m1,m2⟩:=c_3 k27;have s7:=hb7.size;have K7:=h_ (K6.out.call hb7);have HO7:=h_ (HO6.out.below hb7);clear hA hb7 k27;go_wp2_with fail
  refine (v7_ _ K N F _ (MxR.next G7.out HMR.out) hK (by omega)).mono ?_;rintro er w8 ⟨v8,rfl,hC8,hb8⟩;obtain⟨CA0,cc0,ev,hcc0,hcc1,_⟩:=hC8.form2;rw[a3_]at ev hcc0;subst ev;have G8:=h_ (G7.out.trans (hb8.mono G7.out.size));have K8:=h_ (K7.out.call hb8);have HO8:=h_ ((HO7.out.below hb8).wider (l_ _) (show w3.heap.size≤w8.heap.size by have:=hb8.size;have:=S56.out;omega));have HC8:=h_ hC8;have s8:=hb8.size;have k18:=k1.call G8.out;have c2:=k18.cell' (i:=2) rfl;have HF:=h_ (QvR.sl HQR.out).1;have HT:=h_ (QvR.sl HQR.out).2;have hlt':y.q.f.length≤y.q.t.length:=Nat.le_of_eq HLT.out;have hml':y.q.f.length≤y.m.length:=Nat.le_of_eq HML2.out.symm;have s56:W4.heap.size≤W6.heap.size:=Nat.le_of_eq S56.out.symm;clear m0 m1 m2 hC8 hb8 k18;go_wp2;clear c2;go_loopw [13,46] (fun cv i wr=>∃ (k:Nat) (CA:Option Addr) (cn cc:Nat),k≤y.q.f.length∧i = .int .i64 k∧cv = .slice CA cn cc∧Hid (cn+atN y nv k=N)∧(cn≤cc∧cc≤9223372036854775807)∧(∀ (w:World) (B:Nat),SlII w B (.slice CA0 N cc0) (b5_ N K fun a b=>F b a)→SlII w B (.slice CA cn cc) ((b5_ N K fun a b=>F b a).drop (atN y nv k)))∧Chg W2.heap.size w3.heap.size w8 wr∧RepO wr W.heap.size wr.heap.size (.agg #[.int .i64 y.p,.int .i64 y.q.v,.slice QA y.q.f.length qa,.slice QB y.q.f.length qb,.slice (some ⟨gE,0,none⟩) y.d.length e3,.slice HM y.m.length h3]) (rfK y nv K (gB s0 y nv K F) k)) (fun _ i _=>y.q.f.length-(intOf i).toNat)
  case atStart=>exact⟨0,CA0,N,cc0,l0_ _,rfl,rfl,rfl,⟨hcc0,hcc1⟩,fun w B h=>by simpa [atN] using h,Chg.refl _ _ _,by have:=HO8.out;rw[rfK,f9z HML2.out,l5_];exact this⟩
  case round =>
   obtain⟨k,CA,cn,cc,hk,rfl,rfl,HCN,⟨hcn,hcc⟩,hcut,hch,hO⟩:=hrel;have hcs:=hch.size;have gWr:=G8.out.trans (hch.below (B:=W.heap.size) (by omega) G8.out.size);have gws:=gWr.size;by_cases hkn:k<y.q.f.length
   ·obtain⟨m,nf,nt,yf,yt,em,ef,et,df,dt,eM,_,b1,b2,b3,b4,hfd,htd,b8,b9⟩:=g9_ HY.out hkn;obtain⟨bf,of_,xf,eA,hbf,HXF,f1,_⟩:=SlI.at_ HF.out hkn;obtain⟨bt,ot,xt,eC,hbt,HXT,t1,_⟩:=SlI.at_ HT.out b8;subst eA eC;have q1:=HXF.out;rw[ef]at q1;injection q1 with q1
    subst q1;have q2:=HXT.out;rw[et]at q2;injection q2 with q2
    subst q2;have f1':=a7_ gWr hbf f1;have t1':=a7_ gWr hbt t1;have kr:=k1.call gWr;have c1:=kr.cell' (i:=1) rfl;have c3:=kr.cell' (i:=3) rfl;have HTC:=h_ (p8_ (v:=(nv:Int)) ef et);have HOU:=h_ (fun h=>d3q (nv:=nv) ef et df dt b1 b2 h);obtain⟨gH,eH,hgH1,hgH2⟩:=HHM.out k m em;have HEM:=h_ em;have F1:=h_ f1;have T1:=h_ t1;have GWr:=h_ gWr;have HCUT:=h_ hcut;have HCH:=h_ hch;have HOr:=h_ hO;have HNO:=h_ (fun h:tch y.q nv k=false=>f0X (x:=y) (v:=nv) (G:=gB s0 y nv K F) h);have HYES:=h_ (fun h:tch y.q nv k=true=>d5q (x:=y) (v:=nv) (G:=gB s0 y nv K F) h);have HAT:=h_ (fun h:tch y.q nv k=true=>A4_ (x:=y) (v:=nv) (n:=y.q.f.length) h hkn);have HA1:=h_ (show atN y nv (k+1)=if tch y.q nv k=true then atN y nv k+othN y nv k else atN y nv k from rfl);have hsr:W.heap.size≤wr.heap.size:=gws;obtain⟨w9,hw9⟩:∃ u,u=wr:=⟨_,rfl⟩;subst hw9;subst eH;clear f1 t1 kr gWr hcut hch hO em ef et df dt eM;rcases htc:tch y.q nv k with _ | _
    ·rw[htc]at HTC;have h12:¬ (nf:Int)=nv∧¬ (nt:Int)=nv:=by
      have:=HTC.out.symm;simpa only[Bool.or_eq_false_iff,decide_eq_false_iff_not] using this
     have hd1:((nf:Int) != (nv:Int))=true:=by rw[bne_iff_ne];exact h12.1
     have hd2:((nt:Int) != (nv:Int))=true:=by rw[bne_iff_ne];exact h12.2
     have hN2:=h_ (HNO.out htc);have hA2:=h_ (show atN y nv (k+1)=atN y nv k by rw[HA1.out,htc];rfl);clear htc h12 HTC HOU HNO HYES HAT HA1 HEM;go_wp2;go_roundw
     case rel=>exact⟨k+1,CA,cn,cc,by omega,by go_num,rfl,by rw[hA2.out];exact HCN,⟨hcn,hcc⟩,by rw[hA2.out];exact HCUT.out,HCH.out,by rw[rfK,hN2.out];exact HOr.out⟩
     case measure=>simp[intOf];omega
    ·obtain⟨u,s,huv,hds,hos,hs4,hud⟩:=HOU.out htc;obtain⟨bd,od,xd,eE',hbd,HXD,d1,_⟩:=SlI.at_ HDR.out hud;subst eE';have q3:=HXD.out;rw[hds]at q3;injection q3 with q3
     subst q3;have D1:=h_ d1;have HUV:=h_ huv;have HOS:=h_ hos;have HYS:=h_ (HYES.out htc);have hfit:=HAT.out htc;rw[HNN.out,hos]at hfit;have hA2:=h_ (show atN y nv (k+1)=atN y nv k+s by rw[HA1.out,htc,hos];rfl);have hscn:s≤cn:=by have:=HCN.out;omega
     have hu5:u≤10:=by omega
     clear hds hos huv d1 HOU HNO HYES HAT HA1 HXD;by_cases h1:(nf:Int)=nv
     ·have hd1:((nf:Int) != (nv:Int))=false:=by rw[bne_eq_false_iff_eq];exact h1
      clear h1 htc HTC;go_wp2;refine a8_ (by kernel_rfl) [.eq (.pointer (some ⟨w0.heap.size,4,none⟩)),.eq (.slice (some ⟨bd,od,none⟩) y.d.length e),.eq (.int .i64 nf),.eq (.pointer (some ⟨w0.heap.size,1,none⟩)),.eq (.pointer (some ⟨w0.heap.size,3,none⟩)),.eq (.slice (some ⟨bt,ot,none⟩) y.q.t.length c),.eq (.int .i64 k),.eq (.pointer (some ⟨bt,ot+k,none⟩)),.eq (.int .i64 nt),.eq (.int .i64 ((nf:Int)+nt)),.eq (.int .i64 nv),.eq (.int .i64 u),.eq (.pointer (some ⟨bd,od+u,none⟩)),.eq (.int .i64 s)] [[],[0],[],[],[3],[3,4],[],[3,4,5,6],[3,4,5,6,7],[2,3,4,5,6,7,8],[],[2,3,4,5,6,7,8,9,10],[0,1,2,3,4,5,6,7,8,9,10,11],[0,1,2,3,4,5,6,7,8,9,10,11,12],[0,1,2,3,4,5,6,7,8,9,10,11,12,13]] 14 (by kernel_rfl) ⟨trivial,trivial,trivial,trivial,trivial,trivial,trivial,trivial,trivial,trivial,trivial,trivial,trivial,trivial,trivial⟩ ⟨?_,?_,?_,?_,?_,?_,?_,?_,?_,?_,?_,?_,?_,?_,trivial⟩ ?_;iterate 14 (intro x w hb hk Q' hQ;have he:=k_e hk;simp only[k_s]at he;simp only[netE]at hQ⊢;(try simp only[he]at hQ⊢);(try clear he);rotate_left)
      rotate_left
      ·clear hk;go_wp2;exact hQ _ _ br_ rfl
      ·clear hk;have z:=(k1.call (GWr.out.trans (hb.mono hsr))).cell' (i:=4) rfl;go_wp2;exact hQ _ _ br_ rfl
      iterate 3 (· clear hk;go_wp2;exact hQ _ _ br_ rfl)
      ·clear hk;have z:=(k1.call (GWr.out.trans (hb.mono hsr))).cell' (i:=3) rfl;go_wp2;exact hQ _ _ br_ rfl
      iterate 2 (· clear hk;go_wp2;exact hQ _ _ br_ rfl)
      ·clear hk;have z:=a7_ (GWr.out.trans (hb.mono hsr)) hbt T1.out;go_wp2;exact hQ _ _ br_ rfl
      iterate 2 (· clear hk;go_wp2;exact hQ _ _ br_ rfl)
      ·clear hk;go_wp2;rw[HUV.out];exact hQ _ _ br_ rfl
      ·clear hk;go_wp2;exact hQ _ _ br_ rfl
      ·clear hk;have z:=a7_ (GWr.out.trans (hb.mono hsr)) hbd D1.out;go_wp2;exact hQ _ _ br_ rfl
      ·intro x w hb hk hiv hdj;have he:=k_g hk [0,1,2,3,4,5,6,7,8,9,10,11,12,13];simp only[k_s]at he;simp only[netE,he];clear he hk;have GW12:=h_ (GWr.out.trans (hb.mono hsr));have HCH12:=h_ (HCH.out.trans (Chg.of_below hb));have HO12:=h_ ((HOr.out.below hb).wider (l_ _) hb.size);have hb12s:=hb.size;obtain⟨w12,hw12⟩:∃ z,z=w:=⟨_,rfl⟩;subst hw12;clear hiv hdj hb;go_wp2;have hs12:W.heap.size≤w12.heap.size:=GW12.out.size;have h38:w3.heap.size≤w12.heap.size:=by omega
       have hslc:=HC8.out.chg HCH12.out (.inr (by omega));have hS12:=HCUT.out _ _ hslc.rd;have hcl:((b5_ N K fun a b=>F b a).drop (atN y nv k)).length=cn:=by rw[List.length_drop,a3_];have:=HCN.out;omega
       rw[←hcl]at hS12;have hSB:=SlG.takeG (k:=s) hS12 (by rw[hcl];exact hscn);rw[N3_,O7_ _ _ _ _ (by have:=HCN.out;omega)]at hSB;have HSB:=h_ hSB;have KM12:=h_ (k2.call GW12.out);have KO12:=h_ (K8.out.chg HCH12.out (.inr (by omega)));clear hslc hS12 hcl hSB;refine a8_ (by kernel_rfl) [.eq (.pointer (some ⟨w3.heap.size,5,none⟩)),.eq (.slice (some ⟨gH,0,none⟩) y.m.length h3),.eq (.int .i64 k),.eq (.func (.func cl) #[] #[]),.eq (.pointer (some ⟨w0.heap.size+1,0,none⟩)),.eq (.int .i64 K),.eq (.slice CA cn cc),.eq (.int .i64 s),.eq (.slice CA s cc),rel 9 (fun u lo hi w=>MxO w lo hi u (mxF K s fun b a=>F b (atN y nv k+a))∧w12.heap.size≤lo∧hi≤w.heap.size),.rel (fun x w=>∃ h',h'≤w.heap.size∧MxO w w12.heap.size h' (x.v 10) (gB s0 y nv K F k)),.eq (.pointer (some ⟨gH,k*3,none⟩))] [[],[0],[],[],[],[4],[],[],[6,7],[4,5,6,7,8],[3,4,5,6,7,8,9],[0,1,2,3,4,5,6,7,8,9,10],[0,1,2,3,4,5,6,7,8,9,10,11]] 12 (by kernel_rfl) ⟨trivial,trivial,trivial,trivial,trivial,trivial,trivial,trivial,trivial,a4_ (fun u lo hi w w' h hb=>⟨h.1.below hb,h.2.1,Nat.le_trans h.2.2 hb.size⟩),fun x w w' ⟨h',l,o⟩ hb=>⟨h',Nat.le_trans l hb.size,o.below hb⟩,trivial,trivial⟩ ⟨?_,?_,?_,?_,?_,?_,?_,?_,?_,?_,?_,?_,trivial⟩ ?_;iterate 12 (intro x w hb hk Q' hQ;have he:=k_e hk;simp only[k_s]at he;simp only[netE]at hQ⊢;(try simp only[he]at hQ⊢);(try clear he);rotate_left)
       rotate_left
       ·clear hk;go_wp2;exact hQ _ _ br_ rfl
       ·clear hk;have z:=(KO12.out.call hb).cell' (i:=5) rfl;go_wp2;exact hQ _ _ br_ rfl
       iterate 3 (· clear hk;go_wp2;exact hQ _ _ br_ rfl)
       ·clear hk;have z:=(KM12.out.call hb).cell' (i:=0) rfl;go_wp2;exact hQ _ _ br_ rfl
       iterate 3 (· clear hk;go_wp2;exact hQ _ _ br_ rfl)
       ·clear hk;go_wp2_with fail
        refine (i7_ _ K s (fun b a=>F b (atN y nv k+a)) _ (SlII.next hb HSB.out) hK (by omega)).mono ?_;rintro er w6 ⟨v6,rfl,ho6,hb6⟩;go_wp2;exact hQ _ _ hb6 ⟨ho6,hb.size,l_ _⟩
       ·have h9:MxO w (x.lo 9) (x.hi 9) (x.v 9) (mxF K s fun b a=>F b (atN y nv k+a))∧w12.heap.size≤(x.lo 9)∧(x.hi 9)≤w.heap.size:=(hk 9 (by decide)).1;have s9:=(hk 9 (by decide)).2;clear hk;rcases HCL.out with ⟨rfl,rfl⟩ | ⟨rfl,rfl⟩
        ·obtain⟨A9,c9,e9⟩:=h9.1.form;have H9:=h_ h9.1.rd;rw[e9]at H9 hQ⊢;go_wp2_with fail
         refine (F6_ _ K s (fun b a=>F b (atN y nv k+a)) _ H9.out hK (by omega)).mono ?_;rintro er w6 ⟨v6,rfl,ho6,hb6⟩;go_wp2;exact hQ _ _ hb6 ⟨_,l_ _,by rw[show gB true=s0_ from rfl,s0_,HOS.out];exact ho6.wider hb.size (l_ _)⟩
        ·obtain⟨A9,c9,e9⟩:=h9.1.form;have H9:=h_ h9;rw[e9]at H9 hQ⊢;go_wp2_with fail
         refine (K7_ _ _ A9 _ c9 _).mono ?_;rintro er w6 ⟨rfl,hb6⟩;go_wp2;exact hQ _ _ hb6 ⟨_,Nat.le_trans H9.out.2.2 hb6.size,by rw[show gB false=gSrc from rfl,gSrc,HOS.out];exact (H9.out.1.below hb6).wider H9.out.2.1 (l_ _)⟩
       ·clear hk;go_wp2;exact hQ _ _ br_ rfl
       ·intro x w hb hk hiv hdj;have h9:MxO w (x.lo 9) (x.hi 9) (x.v 9) (mxF K s fun b a=>F b (atN y nv k+a))∧w12.heap.size≤(x.lo 9)∧(x.hi 9)≤w.heap.size:=hk 9 (by decide);have h10:∃ h',h'≤w.heap.size∧MxO w w12.heap.size h' (x.v 10) (gB s0 y nv K F k):=hk 10 (by decide);have he:=k_g hk [0,1,2,3,4,5,6,7,8,11];simp only[k_s]at he;simp only[netE,he];clear he hk;obtain⟨h',l',o10⟩:=h10;obtain⟨AM,am,e10⟩:=o10.form;rw[e10]at o10⊢;replace o10:=o10.wider (l_ _) l';obtain⟨mr,hmr⟩:=e_ ((gB s0 y nv K F k).r);obtain⟨mk,hmk⟩:=e_ ((gB s0 y nv K F k).c);obtain⟨ml,hml2⟩:=e_ ((gB s0 y nv K F k).a.length);rw[hmr,hmk,hml2]at o10⊢;have hOw:=HO12.out.below hb;have hbs:=hb.size;have hkm:k<(rfK y nv K (gB s0 y nv K F) k).m.length:=by rw[rfK,d0_];exact hkn
        have hset:=RepO.setMx hOw hkm o10 (l_ _) (by omega) hs12;obtain⟨W14,hW14⟩:=e_ (set3 w gH (k*3) (.int .i64 mr) (.int .i64 mk) (.slice AM ml am));rw[hW14]at hset;have hch3:Chg gH (gH+1) w W14:=by rw[←hW14];exact q1_ _ _ _ _ _ _
        have hs14:W14.heap.size=w.heap.size:=by rw[←hW14];simp
        have hRep:RepO W14 W.heap.size W14.heap.size (.agg #[.int .i64 y.p,.int .i64 y.q.v,.slice QA y.q.f.length qa,.slice QB y.q.f.length qb,.slice (some ⟨gE,0,none⟩) y.d.length e3,.slice (some ⟨gH,0,none⟩) y.m.length h3]) (rfK y nv K (gB s0 y nv K F) (k+1)):=by
         have:=hset.1.wider (lo':=W.heap.size) (hi':=W14.heap.size) (l_ _) (by omega);rw[rfK,←HYS.out];exact this
        have HREP:=h_ hRep;have HCH14:=h_ ((HCH12.out.trans (Chg.of_below hb)).trans (hch3.wider (show W2.heap.size≤gH by omega) (by omega)));obtain⟨hk0,hk1,hk2,hkf⟩:(∃ u,w.cell? ⟨gH,k*3,none⟩=some u)∧(∃ u,w.cell? ⟨gH,k*3+1,none⟩=some u)∧(∃ u,w.cell? ⟨gH,k*3+2,none⟩=some u)∧∀ i,w.frozen? ⟨gH,i,none⟩=false:=by
         obtain⟨g,c0',s0',e,_,_,z0,z1,z2,_,zf,_⟩:=hOw.mxAt (j:=k) (l2_ hkm);simp only[Value.slice.injEq,Option.some.injEq,Addr.mk.injEq,and_true,true_and]at e;obtain⟨e1,_⟩:=e;subst e1;exact⟨⟨_,z0⟩,⟨_,z1⟩,⟨_,z2⟩,zf⟩
        obtain⟨u0,z0⟩:=hk0;obtain⟨u1,z1⟩:=hk1;obtain⟨u2,z2⟩:=hk2;clear hset hRep hch3 hs14 hOw hmr hmk hml2 hiv hdj e10 o10 h9 hkm;go_wp2;clear hW14 z0 z1 z2 hkf;refine⟨⟨k+1,_,cn-s,cc-s,by omega,by go_num,rfl,?_,⟨by omega,by omega⟩,fun w B h=>?_,HCH14.out,HREP.out⟩,?_⟩
        ·have:=HCN.out;have h2:=hA2.out;show cn-s+atN y (nv:Int) (k+1)=N;omega
        ·have h2:=HCUT.out w B h;have hcl:((b5_ N K fun a b=>F b a).drop (atN y nv k)).length=cn:=by rw[List.length_drop,a3_];have:=HCN.out;omega
         rw[←hcl]at h2;obtain⟨CB,eCB,h3⟩:=SlG.cut (i:=s) (k:=cn) h2 hscn (Nat.le_of_eq hcl.symm);rw[l7_ (by rw[List.length_drop,hcl];exact l_ _),List.drop_drop,←hA2.out]at h3;rw[←eCB,Nat.mul_one]at h3;exact h3
        ·simp[intOf];omega
     ·have h2:(nt:Int)=nv:=by
       have:=HTC.out;rw[htc]at this;have:=this.symm;simp only[Bool.or_eq_true,decide_eq_true_eq]at this;exact this.resolve_left h1
      have hd1:((nf:Int) != (nv:Int))=true:=by rw[bne_iff_ne];exact h1
      have hd2:((nt:Int) != (nv:Int))=false:=by rw[bne_eq_false_iff_eq];exact h2
      clear h1 h2 htc HTC;go_wp2;refine a8_ (by kernel_rfl) [.eq (.pointer (some ⟨w0.heap.size,4,none⟩)),.eq (.slice (some ⟨bd,od,none⟩) y.d.length e),.eq (.int .i64 nf),.eq (.pointer (some ⟨w0.heap.size,1,none⟩)),.eq (.pointer (some ⟨w0.heap.size,3,none⟩)),.eq (.slice (some ⟨bt,ot,none⟩) y.q.t.length c),.eq (.int .i64 k),.eq (.pointer (some ⟨bt,ot+k,none⟩)),.eq (.int .i64 nt),.eq (.int .i64 ((nf:Int)+nt)),.eq (.int .i64 nv),.eq (.int .i64 u),.eq (.pointer (some ⟨bd,od+u,none⟩)),.eq (.int .i64 s)] [[],[0],[],[],[3],[3,4],[],[3,4,5,6],[3,4,5,6,7],[2,3,4,5,6,7,8],[],[2,3,4,5,6,7,8,9,10],[0,1,2,3,4,5,6,7,8,9,10,11],[0,1,2,3,4,5,6,7,8,9,10,11,12],[0,1,2,3,4,5,6,7,8,9,10,11,12,13]] 14 (by kernel_rfl) ⟨trivial,trivial,trivial,trivial,trivial,trivial,trivial,trivial,trivial,trivial,trivial,trivial,trivial,trivial,trivial⟩ ⟨?_,?_,?_,?_,?_,?_,?_,?_,?_,?_,?_,?_,?_,?_,trivial⟩ ?_;iterate 14 (intro x w hb hk Q' hQ;have he:=k_e hk;simp only[k_s]at he;simp only[netE]at hQ⊢;(try simp only[he]at hQ⊢);(try clear he);rotate_left)
      rotate_left
      ·clear hk;go_wp2;exact hQ _ _ br_ rfl
      ·clear hk;have z:=(k1.call (GWr.out.trans (hb.mono hsr))).cell' (i:=4) rfl;go_wp2;exact hQ _ _ br_ rfl
      iterate 3 (· clear hk;go_wp2;exact hQ _ _ br_ rfl)
      ·clear hk;have z:=(k1.call (GWr.out.trans (hb.mono hsr))).cell' (i:=3) rfl;go_wp2;exact hQ _ _ br_ rfl
      iterate 2 (· clear hk;go_wp2;exact hQ _ _ br_ rfl)
      ·clear hk;have z:=a7_ (GWr.out.trans (hb.mono hsr)) hbt T1.out;go_wp2;exact hQ _ _ br_ rfl
      iterate 2 (· clear hk;go_wp2;exact hQ _ _ br_ rfl)
      ·clear hk;go_wp2;rw[HUV.out];exact hQ _ _ br_ rfl
      ·clear hk;go_wp2;exact hQ _ _ br_ rfl
      ·clear hk;have z:=a7_ (GWr.out.trans (hb.mono hsr)) hbd D1.out;go_wp2;exact hQ _ _ br_ rfl
      ·intro x w hb hk hiv hdj;have he:=k_g hk [0,1,2,3,4,5,6,7,8,9,10,11,12,13];simp only[k_s]at he;simp only[netE,he];clear he hk;have GW12:=h_ (GWr.out.trans (hb.mono hsr));have HCH12:=h_ (HCH.out.trans (Chg.of_below hb));have HO12:=h_ ((HOr.out.below hb).wider (l_ _) hb.size);have hb12s:=hb.size;obtain⟨w12,hw12⟩:∃ z,z=w:=⟨_,rfl⟩;subst hw12;clear hiv hdj hb;go_wp2;have hs12:W.heap.size≤w12.heap.size:=GW12.out.size;have h38:w3.heap.size≤w12.heap.size:=by omega
       have hslc:=HC8.out.chg HCH12.out (.inr (by omega));have hS12:=HCUT.out _ _ hslc.rd;have hcl:((b5_ N K fun a b=>F b a).drop (atN y nv k)).length=cn:=by rw[List.length_drop,a3_];have:=HCN.out;omega
       rw[←hcl]at hS12;have hSB:=SlG.takeG (k:=s) hS12 (by rw[hcl];exact hscn);rw[N3_,O7_ _ _ _ _ (by have:=HCN.out;omega)]at hSB;have HSB:=h_ hSB;have KM12:=h_ (k2.call GW12.out);have KO12:=h_ (K8.out.chg HCH12.out (.inr (by omega)));clear hslc hS12 hcl hSB;refine a8_ (by kernel_rfl) [.eq (.pointer (some ⟨w3.heap.size,5,none⟩)),.eq (.slice (some ⟨gH,0,none⟩) y.m.length h3),.eq (.int .i64 k),.eq (.func (.func cl) #[] #[]),.eq (.pointer (some ⟨w0.heap.size+1,0,none⟩)),.eq (.int .i64 K),.eq (.slice CA cn cc),.eq (.int .i64 s),.eq (.slice CA s cc),rel 9 (fun u lo hi w=>MxO w lo hi u (mxF K s fun b a=>F b (atN y nv k+a))∧w12.heap.size≤lo∧hi≤w.heap.size),.rel (fun x w=>∃ h',h'≤w.heap.size∧MxO w w12.heap.size h' (x.v 10) (gB s0 y nv K F k)),.eq (.pointer (some ⟨gH,k*3,none⟩))] [[],[0],[],[],[],[4],[],[],[6,7],[4,5,6,7,8],[3,4,5,6,7,8,9],[0,1,2,3,4,5,6,7,8,9,10],[0,1,2,3,4,5,6,7,8,9,10,11]] 12 (by kernel_rfl) ⟨trivial,trivial,trivial,trivial,trivial,trivial,trivial,trivial,trivial,a4_ (fun u lo hi w w' h hb=>⟨h.1.below hb,h.2.1,Nat.le_trans h.2.2 hb.size⟩),fun x w w' ⟨h',l,o⟩ hb=>⟨h',Nat.le_trans l hb.size,o.below hb⟩,trivial,trivial⟩ ⟨?_,?_,?_,?_,?_,?_,?_,?_,?_,?_,?_,?_,trivial⟩ ?_;iterate 12 (intro x w hb hk Q' hQ;have he:=k_e hk;simp only[k_s]at he;simp only[netE]at hQ⊢;(try simp only[he]at hQ⊢);(try clear he);rotate_left)
       rotate_left
       ·clear hk;go_wp2;exact hQ _ _ br_ rfl
       ·clear hk;have z:=(KO12.out.call hb).cell' (i:=5) rfl;go_wp2;exact hQ _ _ br_ rfl
       iterate 3 (· clear hk;go_wp2;exact hQ _ _ br_ rfl)
       ·clear hk;have z:=(KM12.out.call hb).cell' (i:=0) rfl;go_wp2;exact hQ _ _ br_ rfl
       iterate 3 (· clear hk;go_wp2;exact hQ _ _ br_ rfl)
       ·clear hk;go_wp2_with fail
        refine (i7_ _ K s (fun b a=>F b (atN y nv k+a)) _ (SlII.next hb HSB.out) hK (by omega)).mono ?_;rintro er w6 ⟨v6,rfl,ho6,hb6⟩;go_wp2;exact hQ _ _ hb6 ⟨ho6,hb.size,l_ _⟩
       ·have h9:MxO w (x.lo 9) (x.hi 9) (x.v 9) (mxF K s fun b a=>F b (atN y nv k+a))∧w12.heap.size≤(x.lo 9)∧(x.hi 9)≤w.heap.size:=(hk 9 (by decide)).1;have s9:=(hk 9 (by decide)).2;clear hk;rcases HCL.out with ⟨rfl,rfl⟩ | ⟨rfl,rfl⟩
        ·obtain⟨A9,c9,e9⟩:=h9.1.form;have H9:=h_ h9.1.rd;rw[e9]at H9 hQ⊢;go_wp2_with fail
         refine (F6_ _ K s (fun b a=>F b (atN y nv k+a)) _ H9.out hK (by omega)).mono ?_;rintro er w6 ⟨v6,rfl,ho6,hb6⟩;go_wp2;exact hQ _ _ hb6 ⟨_,l_ _,by rw[show gB true=s0_ from rfl,s0_,HOS.out];exact ho6.wider hb.size (l_ _)⟩
        ·obtain⟨A9,c9,e9⟩:=h9.1.form;have H9:=h_ h9;rw[e9]at H9 hQ⊢;go_wp2_with fail
         refine (K7_ _ _ A9 _ c9 _).mono ?_;rintro er w6 ⟨rfl,hb6⟩;go_wp2;exact hQ _ _ hb6 ⟨_,Nat.le_trans H9.out.2.2 hb6.size,by rw[show gB false=gSrc from rfl,gSrc,HOS.out];exact (H9.out.1.below hb6).wider H9.out.2.1 (l_ _)⟩
       ·clear hk;go_wp2;exact hQ _ _ br_ rfl
       ·intro x w hb hk hiv hdj;have h9:MxO w (x.lo 9) (x.hi 9) (x.v 9) (mxF K s fun b a=>F b (atN y nv k+a))∧w12.heap.size≤(x.lo 9)∧(x.hi 9)≤w.heap.size:=hk 9 (by decide);have h10:∃ h',h'≤w.heap.size∧MxO w w12.heap.size h' (x.v 10) (gB s0 y nv K F k):=hk 10 (by decide);have he:=k_g hk [0,1,2,3,4,5,6,7,8,11];simp only[k_s]at he;simp only[netE,he];clear he hk;obtain⟨h',l',o10⟩:=h10;obtain⟨AM,am,e10⟩:=o10.form;rw[e10]at o10⊢;replace o10:=o10.wider (l_ _) l';obtain⟨mr,hmr⟩:=e_ ((gB s0 y nv K F k).r);obtain⟨mk,hmk⟩:=e_ ((gB s0 y nv K F k).c);obtain⟨ml,hml2⟩:=e_ ((gB s0 y nv K F k).a.length);rw[hmr,hmk,hml2]at o10⊢;have hOw:=HO12.out.below hb;have hbs:=hb.size;have hkm:k<(rfK y nv K (gB s0 y nv K F) k).m.length:=by rw[rfK,d0_];exact hkn
        have hset:=RepO.setMx hOw hkm o10 (l_ _) (by omega) hs12;obtain⟨W14,hW14⟩:=e_ (set3 w gH (k*3) (.int .i64 mr) (.int .i64 mk) (.slice AM ml am));rw[hW14]at hset;have hch3:Chg gH (gH+1) w W14:=by rw[←hW14];exact q1_ _ _ _ _ _ _
        have hs14:W14.heap.size=w.heap.size:=by rw[←hW14];simp
        have hRep:RepO W14 W.heap.size W14.heap.size (.agg #[.int .i64 y.p,.int .i64 y.q.v,.slice QA y.q.f.length qa,.slice QB y.q.f.length qb,.slice (some ⟨gE,0,none⟩) y.d.length e3,.slice (some ⟨gH,0,none⟩) y.m.length h3]) (rfK y nv K (gB s0 y nv K F) (k+1)):=by
         have:=hset.1.wider (lo':=W.heap.size) (hi':=W14.heap.size) (l_ _) (by omega);rw[rfK,←HYS.out];exact this
        have HREP:=h_ hRep;have HCH14:=h_ ((HCH12.out.trans (Chg.of_below hb)).trans (hch3.wider (show W2.heap.size≤gH by omega) (by omega)));obtain⟨hk0,hk1,hk2,hkf⟩:(∃ u,w.cell? ⟨gH,k*3,none⟩=some u)∧(∃ u,w.cell? ⟨gH,k*3+1,none⟩=some u)∧(∃ u,w.cell? ⟨gH,k*3+2,none⟩=some u)∧∀ i,w.frozen? ⟨gH,i,none⟩=false:=by
         obtain⟨g,c0',s0',e,_,_,z0,z1,z2,_,zf,_⟩:=hOw.mxAt (j:=k) (l2_ hkm);simp only[Value.slice.injEq,Option.some.injEq,Addr.mk.injEq,and_true,true_and]at e;obtain⟨e1,_⟩:=e;subst e1;exact⟨⟨_,z0⟩,⟨_,z1⟩,⟨_,z2⟩,zf⟩
        obtain⟨u0,z0⟩:=hk0;obtain⟨u1,z1⟩:=hk1;obtain⟨u2,z2⟩:=hk2;clear hset hRep hch3 hs14 hOw hmr hmk hml2 hiv hdj e10 o10 h9 hkm;go_wp2;clear hW14 z0 z1 z2 hkf;refine⟨⟨k+1,_,cn-s,cc-s,by omega,by go_num,rfl,?_,⟨by omega,by omega⟩,fun w B h=>?_,HCH14.out,HREP.out⟩,?_⟩
        ·have:=HCN.out;have h2:=hA2.out;show cn-s+atN y (nv:Int) (k+1)=N;omega
        ·have h2:=HCUT.out w B h;have hcl:((b5_ N K fun a b=>F b a).drop (atN y nv k)).length=cn:=by rw[List.length_drop,a3_];have:=HCN.out;omega
         rw[←hcl]at h2;obtain⟨CB,eCB,h3⟩:=SlG.cut (i:=s) (k:=cn) h2 hscn (Nat.le_of_eq hcl.symm);rw[l7_ (by rw[List.length_drop,hcl];exact l_ _),List.drop_drop,←hA2.out]at h3;rw[←eCB,Nat.mul_one]at h3;exact h3
        ·simp[intOf];omega
   ·obtain rfl:k=y.q.f.length:=by omega
    have kz:=k3.call gWr;have fr:=kz.frozen;have s0:=kz.cell' (i:=0) rfl;have s1':=kz.cell' (i:=1) rfl;have s2':=kz.cell' (i:=2) rfl;have s3':=kz.cell' (i:=3) rfl;have s4':=kz.cell' (i:=4) rfl;have s5':=kz.cell' (i:=5) rfl;have kr:=K8.out.chg hch (.inr (by omega));obtain⟨r0,r1,r2,r3,r4,r5⟩:=c_6 kr;have gf:=g0.trans (gWr.mono g0.size);have hc:=chg6 wr (w0.heap.size+1+1) (.int .i64 y.p) (.int .i64 y.q.v) (.slice QA y.q.f.length qa) (.slice QB y.q.f.length qb) (.slice (some ⟨gE,0,none⟩) y.d.length e3) (.slice HM y.m.length h3);have OF:=h_ ((hO.chg hc (.inr (by have:=SZ.out;omega))).wider (lo':=w0.heap.size) (hi':=wr.heap.size) (by have:=SZ.out;omega) (l_ _));have GF:=h_ (gf.trans (hc.below (by omega) gf.size));clear hO kz kr gf hc hcut hch;go_wp2;have hE:=HE.out;exact bodyPost_ret (v:=.tuple #[.agg #[.int .i64 y.p,.int .i64 y.q.v,.slice QA y.q.f.length qa,.slice QB y.q.f.length qb,.slice (some ⟨gE,0,none⟩) y.d.length e3,.slice HM y.m.length h3],.bool true]) (by simp[results,go_sem,s0,s1',s2',s3',s4',s5']) rfl ⟨_,by rw[hE],by rw[hE];have:=OF.out.wider (l_ _) (l_ _);simpa using this,GF.out⟩
theorem U5_ (ru mv:Value) (y:Rp) (v:Int) (K:Nat) (F:Nat→Nat→Int) (w0:World) (hr:RpR w0 w0.heap.size ru y) (hm:MxR w0 w0.heap.size mv (mxF K (atN y v y.q.f.length) F)) (hy:f1_ y=true) (hv:endV y.q.t y.q v=true∨endV y.q.f y.q v=true) (hK:K≤1000) :
  Calls Tryz.prog 27 #[ru,.int .i64 v,mv,.func (.func 29) #[] #[]] w0 fun e w'=>∃ r,e = .returned (.tuple #[r,.bool (rfP y v K (s0_ y v K F)).2])∧RepO w' w0.heap.size w'.heap.size r (rfP y v K (s0_ y v K F)).1∧Below w0.heap.size w0 w' :=
 F0_ true _ ru mv y v K F w0 hr hm hy hv hK (.inl ⟨rfl,rfl⟩)
theorem W5_ (ru mv:Value) (y:Rp) (v:Int) (K:Nat) (F:Nat→Nat→Int) (w0:World) (hr:RpR w0 w0.heap.size ru y) (hm:MxR w0 w0.heap.size mv (mxF K (atN y v y.q.f.length) F)) (hy:f1_ y=true) (hv:endV y.q.t y.q v=true∨endV y.q.f y.q v=true) (hK:K≤1000) :
  Calls Tryz.prog 27 #[ru,.int .i64 v,mv,.func (.func 51) #[] #[]] w0 fun e w'=>∃ r,e = .returned (.tuple #[r,.bool (rfP y v K (gSrc y v K F)).2])∧RepO w' w0.heap.size w'.heap.size r (rfP y v K (gSrc y v K F)).1∧Below w0.heap.size w0 w' :=
 F0_ false _ ru mv y v K F w0 hr hm hy hv hK (.inr ⟨rfl,rfl⟩)
theorem a7Z (u:Value) (x:Rp) (v:Int) (w0:World) (hu:RpR w0 w0.heap.size u x) (hno:k0_ x v=false) :
  Calls Tryz.prog 22 #[u,.int .i64 v] w0 fun e w'=>∃ r,e = .returned (.tuple #[r,.bool (outP x v).2])∧MxO w' w0.heap.size w'.heap.size r (outP x v).1∧Below w0.heap.size w0 w':=by
 have hu':=hu;obtain⟨A,a,C,c,E,e,H,h,rfl,hq,hd,hm,hp,ld,lm⟩:=hu.open_;clear hu;obtain⟨W,hW,g0,kB,kR⟩:=b_4 w0 #[.int .i64 x.p,.int .i64 x.q.v,.slice A x.q.f.length a,.slice C x.q.t.length c,.slice E x.d.length e,.slice H x.m.length h] 29 #[.int .i64 0,.int .i64 0,.slice none 0 0] 41;have sz:W.heap.size=w0.heap.size+1+1:=by rw[hW];simp
 replace hq:=QvR.next g0 hq;replace hd:=SlI.next g0 hd;replace hm:=SlM.next g0 hm;rcases h1:f1_ x with _ | _
 ·have HF:=h_ (show outP x v=(mx0,false) by simp[outP,k0_,h1]);have H1:=h_ h1;have SZ:=h_ sz;have hxr:RpR W W.heap.size (.agg #[.int .i64 x.p,.int .i64 x.q.v,.slice A x.q.f.length a,.slice C x.q.t.length c,.slice E x.d.length e,.slice H x.m.length h]) x:=RpR.next g0 hu';have HXR:=h_ hxr;clear h1 sz hxr hq hd hm;obtain⟨c0,c1,c2,c3,c4,c5⟩:=c_6 kB;go_enter Tryz.func22,Tryz.ntmps22
  go_wp2_with fail
  rw[←hW];clear hW;refine (i4_ _ x _ HXR.out).mono ?_;rintro e w1 ⟨rfl,hb1⟩;rw[H1.out];replace kR:=kR.call hb1;replace kB:=kB.call hb1;replace g0:=a6_ g0 hb1;have hs1:=hb1.size;clear c0 c1 c2 c3 c4 c5 hb1;have hF:=HF.out;have sz:=SZ.out;have kZ:=kR;obtain⟨p0,p1,p2⟩:=c_3 kZ;have fr:=kZ.frozen;clear hF kR kB;go_wp2;have hF:=HF.out;exact bodyPost_ret (v:=.tuple #[.agg #[.int .i64 0,.int .i64 0,.slice none 0 0],.bool false]) (by simp[results,go_sem,p0,p1,p2]) rfl ⟨_,by rw[hF],by rw[hF];exact MxO.zero _ _ _,((g0.setCell (by simp) _).setCell (by simp) _).setCell (by simp) _⟩
 ·have HF:=h_ (show outP x v=(mx0,false) by simp[outP,hno]);have hq1:isQ x.q=true:=(b7_.1 (b8_.1 h1).2.1).1;have h2:endV x.q.t x.q v=false:=by simpa [k0_,h1] using hno
  have H1:=h_ h1;have H2:=h_ h2;have HQ1:=h_ hq1;have SZ:=h_ sz;have hxr:RpR W W.heap.size (.agg #[.int .i64 x.p,.int .i64 x.q.v,.slice A x.q.f.length a,.slice C x.q.t.length c,.slice E x.d.length e,.slice H x.m.length h]) x:=RpR.next g0 hu';have HXR:=h_ hxr;clear h1 h2 hq1 hno sz hxr hd hm;obtain⟨c0,c1,c2,c3,c4,c5⟩:=c_6 kB;go_enter Tryz.func22,Tryz.ntmps22
  go_wp2_with fail
  rw[←hW];clear hW;refine (i4_ _ x _ HXR.out).mono ?_;rintro e w1 ⟨rfl,hb1⟩;rw[H1.out];replace kR:=kR.call hb1;replace kB:=kB.call hb1;replace g0:=a6_ g0 hb1;replace hq:=QvR.next hb1 hq;have hs1:=hb1.size;clear c0 c1 c2 c3 c4 c5 hb1;obtain⟨c0,c1,c2,c3,c4,c5⟩:=c_6 kB;go_wp2_with fail
  refine (s5_ _ x.q v _ hq HQ1.out).mono ?_;rintro e w2 ⟨rfl,hb1⟩;rw[H2.out];replace kR:=kR.call hb1;replace kB:=kB.call hb1;replace g0:=a6_ g0 hb1;have hs2:=hb1.size;clear c0 c1 c2 c3 c4 c5 hb1 hq;have hF:=HF.out;have sz:=SZ.out;have kZ:=kR;obtain⟨p0,p1,p2⟩:=c_3 kZ;have fr:=kZ.frozen;clear hF kR kB;go_wp2;have hF:=HF.out;exact bodyPost_ret (v:=.tuple #[.agg #[.int .i64 0,.int .i64 0,.slice none 0 0],.bool false]) (by simp[results,go_sem,p0,p1,p2]) rfl ⟨_,by rw[hF],by rw[hF];exact MxO.zero _ _ _,((g0.setCell (by simp) _).setCell (by simp) _).setCell (by simp) _⟩
theorem b0j (u:Value) (x:Rp) (v:Int) (w0:World) (hu:RpR w0 w0.heap.size u x) (hno:inOk x v=false) :
  Calls Tryz.prog 20 #[u,.int .i64 v] w0 fun e w'=>∃ r,e = .returned (.tuple #[r,.bool (inP x v).2])∧MxO w' w0.heap.size w'.heap.size r (inP x v).1∧Below w0.heap.size w0 w':=by
 have hu':=hu;obtain⟨A,a,C,c,E,e,H,h,rfl,hq,hd,hm,hp,ld,lm⟩:=hu.open_;clear hu;obtain⟨W,hW,g0,kB,kR⟩:=b_4 w0 #[.int .i64 x.p,.int .i64 x.q.v,.slice A x.q.f.length a,.slice C x.q.t.length c,.slice E x.d.length e,.slice H x.m.length h] 29 #[.int .i64 0,.int .i64 0,.slice none 0 0] 41;have sz:W.heap.size=w0.heap.size+1+1:=by rw[hW];simp
 replace hq:=QvR.next g0 hq;replace hd:=SlI.next g0 hd;replace hm:=SlM.next g0 hm;rcases h1:f1_ x with _ | _
 ·have HF:=h_ (show inP x v=(mx0,false) by simp[inP,inOk,h1]);have H1:=h_ h1;have SZ:=h_ sz;have hxr:RpR W W.heap.size (.agg #[.int .i64 x.p,.int .i64 x.q.v,.slice A x.q.f.length a,.slice C x.q.t.length c,.slice E x.d.length e,.slice H x.m.length h]) x:=RpR.next g0 hu';have HXR:=h_ hxr;clear h1 sz hxr hq hd hm;obtain⟨c0,c1,c2,c3,c4,c5⟩:=c_6 kB;go_enter Tryz.func20,Tryz.ntmps20
  go_wp2_with fail
  rw[←hW];clear hW;refine (i4_ _ x _ HXR.out).mono ?_;rintro e w1 ⟨rfl,hb1⟩;rw[H1.out];replace kR:=kR.call hb1;replace kB:=kB.call hb1;replace g0:=a6_ g0 hb1;have hs1:=hb1.size;clear c0 c1 c2 c3 c4 c5 hb1;have hF:=HF.out;have sz:=SZ.out;have kZ:=kR;obtain⟨p0,p1,p2⟩:=c_3 kZ;have fr:=kZ.frozen;clear hF kR kB;go_wp2;have hF:=HF.out;exact bodyPost_ret (v:=.tuple #[.agg #[.int .i64 0,.int .i64 0,.slice none 0 0],.bool false]) (by simp[results,go_sem,p0,p1,p2]) rfl ⟨_,by rw[hF],by rw[hF];exact MxO.zero _ _ _,((g0.setCell (by simp) _).setCell (by simp) _).setCell (by simp) _⟩
 ·have HF:=h_ (show inP x v=(mx0,false) by simp[inP,hno]);have hq1:isQ x.q=true:=(b7_.1 (b8_.1 h1).2.1).1;have h2:endV x.q.f x.q v=false:=by simpa [inOk,h1] using hno
  have H1:=h_ h1;have H2:=h_ h2;have HQ1:=h_ hq1;have SZ:=h_ sz;have hxr:RpR W W.heap.size (.agg #[.int .i64 x.p,.int .i64 x.q.v,.slice A x.q.f.length a,.slice C x.q.t.length c,.slice E x.d.length e,.slice H x.m.length h]) x:=RpR.next g0 hu';have HXR:=h_ hxr;clear h1 h2 hq1 hno sz hxr hd hm;obtain⟨c0,c1,c2,c3,c4,c5⟩:=c_6 kB;go_enter Tryz.func20,Tryz.ntmps20
  go_wp2_with fail
  rw[←hW];clear hW;refine (i4_ _ x _ HXR.out).mono ?_;rintro e w1 ⟨rfl,hb1⟩;rw[H1.out];replace kR:=kR.call hb1;replace kB:=kB.call hb1;replace g0:=a6_ g0 hb1;replace hq:=QvR.next hb1 hq;have hs1:=hb1.size;clear c0 c1 c2 c3 c4 c5 hb1;obtain⟨c0,c1,c2,c3,c4,c5⟩:=c_6 kB;go_wp2_with fail
  refine (D4_ _ x.q v _ hq HQ1.out).mono ?_;rintro e w2 ⟨rfl,hb1⟩;rw[H2.out];replace kR:=kR.call hb1;replace kB:=kB.call hb1;replace g0:=a6_ g0 hb1;have hs2:=hb1.size;clear c0 c1 c2 c3 c4 c5 hb1 hq;have hF:=HF.out;have sz:=SZ.out;have kZ:=kR;obtain⟨p0,p1,p2⟩:=c_3 kZ;have fr:=kZ.frozen;clear hF kR kB;go_wp2;have hF:=HF.out;exact bodyPost_ret (v:=.tuple #[.agg #[.int .i64 0,.int .i64 0,.slice none 0 0],.bool false]) (by simp[results,go_sem,p0,p1,p2]) rfl ⟨_,by rw[hF],by rw[hF];exact MxO.zero _ _ _,((g0.setCell (by simp) _).setCell (by simp) _).setCell (by simp) _⟩
theorem a6x (u:Value) (x:Rp) (v:Int) (w0:World) (hu:RpR w0 w0.heap.size u x) (hno:k0_ x v=false) :
  Calls Tryz.prog 23 #[u,.int .i64 v] w0 fun e w'=>∃ r,e = .returned (.tuple #[r,.bool (outP x v).2])∧MxO w' w0.heap.size w'.heap.size r (outP x v).1∧Below w0.heap.size w0 w':=by
 have hu':=hu;obtain⟨A,a,C,c,E,e,H,h,rfl,hq,hd,hm,hp,ld,lm⟩:=hu.open_;clear hu;obtain⟨W,hW,g0,kB,kR⟩:=b_4 w0 #[.int .i64 x.p,.int .i64 x.q.v,.slice A x.q.f.length a,.slice C x.q.t.length c,.slice E x.d.length e,.slice H x.m.length h] 29 #[.int .i64 0,.int .i64 0,.slice none 0 0] 41;have sz:W.heap.size=w0.heap.size+1+1:=by rw[hW];simp
 replace hq:=QvR.next g0 hq;replace hd:=SlI.next g0 hd;replace hm:=SlM.next g0 hm;rcases h1:f1_ x with _ | _
 ·have HF:=h_ (show outP x v=(mx0,false) by simp[outP,k0_,h1]);have H1:=h_ h1;have SZ:=h_ sz;have hxr:RpR W W.heap.size (.agg #[.int .i64 x.p,.int .i64 x.q.v,.slice A x.q.f.length a,.slice C x.q.t.length c,.slice E x.d.length e,.slice H x.m.length h]) x:=RpR.next g0 hu';have HXR:=h_ hxr;clear h1 sz hxr hq hd hm;obtain⟨c0,c1,c2,c3,c4,c5⟩:=c_6 kB;go_enter Tryz.func23,Tryz.ntmps23
  go_wp2_with fail
  rw[←hW];clear hW;refine (k6_ _ x _ HXR.out).mono ?_;rintro e w1 ⟨rfl,hb1⟩;rw[H1.out];replace kR:=kR.call hb1;replace kB:=kB.call hb1;replace g0:=a6_ g0 hb1;have hs1:=hb1.size;clear c0 c1 c2 c3 c4 c5 hb1;have hF:=HF.out;have sz:=SZ.out;have kZ:=kR;obtain⟨p0,p1,p2⟩:=c_3 kZ;have fr:=kZ.frozen;clear hF kR kB;go_wp2;have hF:=HF.out;exact bodyPost_ret (v:=.tuple #[.agg #[.int .i64 0,.int .i64 0,.slice none 0 0],.bool false]) (by simp[results,go_sem,p0,p1,p2]) rfl ⟨_,by rw[hF],by rw[hF];exact MxO.zero _ _ _,((g0.setCell (by simp) _).setCell (by simp) _).setCell (by simp) _⟩
 ·have HF:=h_ (show outP x v=(mx0,false) by simp[outP,hno]);have hq1:isQ x.q=true:=(b7_.1 (b8_.1 h1).2.1).1;have h2:endV x.q.t x.q v=false:=by simpa [k0_,h1] using hno
  have hV:x.q.v=(x.q.v.toNat:Int):=by have:=(g4_.1 hq1).1;omega
  have h3:decide (v∈b2_ x.q.t x.q.v.toNat)=false:=by rw[u2_ _ _ _ _ hV];exact h2
  have H1:=h_ h1;have H3:=h_ h3;have HQ1:=h_ hq1;have SZ:=h_ sz;have hxr:RpR W W.heap.size (.agg #[.int .i64 x.p,.int .i64 x.q.v,.slice A x.q.f.length a,.slice C x.q.t.length c,.slice E x.d.length e,.slice H x.m.length h]) x:=RpR.next g0 hu';have HXR:=h_ hxr;clear h1 h2 h3 hq1 hno sz hxr hd hm hV;obtain⟨c0,c1,c2,c3,c4,c5⟩:=c_6 kB;go_enter Tryz.func23,Tryz.ntmps23
  go_wp2_with fail
  rw[←hW];clear hW;refine (k6_ _ x _ HXR.out).mono ?_;rintro e w1 ⟨rfl,hb1⟩;rw[H1.out];replace kR:=kR.call hb1;replace kB:=kB.call hb1;replace g0:=a6_ g0 hb1;replace hq:=QvR.next hb1 hq;have hs1:=hb1.size;clear c0 c1 c2 c3 c4 c5 hb1;obtain⟨c0,c1,c2,c3,c4,c5⟩:=c_6 kB;go_wp2_with fail
  refine (q8_ _ x.q _ hq HQ1.out).mono ?_;rintro e w2 ⟨sv,rfl,hsv,hb1⟩;replace kR:=kR.call hb1;replace kB:=kB.call hb1;replace g0:=a6_ g0 hb1;have hs2:=hb1.size;clear c0 c1 c2 c3 c4 c5 hb1 hq;go_wp2_with fail
  refine (i6_ _ _ v _ hsv).mono ?_;rintro e w3 ⟨rfl,hb1⟩;rw[H3.out];replace kR:=kR.call hb1;replace kB:=kB.call hb1;replace g0:=a6_ g0 hb1;have hs3:=hb1.size;clear hb1 hsv;have hF:=HF.out;have sz:=SZ.out;have kZ:=kR;obtain⟨p0,p1,p2⟩:=c_3 kZ;have fr:=kZ.frozen;clear hF kR kB;go_wp2;have hF:=HF.out;exact bodyPost_ret (v:=.tuple #[.agg #[.int .i64 0,.int .i64 0,.slice none 0 0],.bool false]) (by simp[results,go_sem,p0,p1,p2]) rfl ⟨_,by rw[hF],by rw[hF];exact MxO.zero _ _ _,((g0.setCell (by simp) _).setCell (by simp) _).setCell (by simp) _⟩
theorem b7j (u:Value) (x:Rp) (v:Int) (w0:World) (hu:RpR w0 w0.heap.size u x) (hno:inOk x v=false) :
  Calls Tryz.prog 21 #[u,.int .i64 v] w0 fun e w'=>∃ r,e = .returned (.tuple #[r,.bool (inP x v).2])∧MxO w' w0.heap.size w'.heap.size r (inP x v).1∧Below w0.heap.size w0 w':=by
 have hu':=hu;obtain⟨A,a,C,c,E,e,H,h,rfl,hq,hd,hm,hp,ld,lm⟩:=hu.open_;clear hu;obtain⟨W,hW,g0,kB,kR⟩:=b_4 w0 #[.int .i64 x.p,.int .i64 x.q.v,.slice A x.q.f.length a,.slice C x.q.t.length c,.slice E x.d.length e,.slice H x.m.length h] 29 #[.int .i64 0,.int .i64 0,.slice none 0 0] 41;have sz:W.heap.size=w0.heap.size+1+1:=by rw[hW];simp
 replace hq:=QvR.next g0 hq;replace hd:=SlI.next g0 hd;replace hm:=SlM.next g0 hm;rcases h1:f1_ x with _ | _
 ·have HF:=h_ (show inP x v=(mx0,false) by simp[inP,inOk,h1]);have H1:=h_ h1;have SZ:=h_ sz;have hxr:RpR W W.heap.size (.agg #[.int .i64 x.p,.int .i64 x.q.v,.slice A x.q.f.length a,.slice C x.q.t.length c,.slice E x.d.length e,.slice H x.m.length h]) x:=RpR.next g0 hu';have HXR:=h_ hxr;clear h1 sz hxr hq hd hm;obtain⟨c0,c1,c2,c3,c4,c5⟩:=c_6 kB;go_enter Tryz.func21,Tryz.ntmps21
  go_wp2_with fail
  rw[←hW];clear hW;refine (k6_ _ x _ HXR.out).mono ?_;rintro e w1 ⟨rfl,hb1⟩;rw[H1.out];replace kR:=kR.call hb1;replace kB:=kB.call hb1;replace g0:=a6_ g0 hb1;have hs1:=hb1.size;clear c0 c1 c2 c3 c4 c5 hb1;have hF:=HF.out;have sz:=SZ.out;have kZ:=kR;obtain⟨p0,p1,p2⟩:=c_3 kZ;have fr:=kZ.frozen;clear hF kR kB;go_wp2;have hF:=HF.out;exact bodyPost_ret (v:=.tuple #[.agg #[.int .i64 0,.int .i64 0,.slice none 0 0],.bool false]) (by simp[results,go_sem,p0,p1,p2]) rfl ⟨_,by rw[hF],by rw[hF];exact MxO.zero _ _ _,((g0.setCell (by simp) _).setCell (by simp) _).setCell (by simp) _⟩
 ·have HF:=h_ (show inP x v=(mx0,false) by simp[inP,hno]);have hq1:isQ x.q=true:=(b7_.1 (b8_.1 h1).2.1).1;have h2:endV x.q.f x.q v=false:=by simpa [inOk,h1] using hno
  have hV:x.q.v=(x.q.v.toNat:Int):=by have:=(g4_.1 hq1).1;omega
  have h3:decide (v∈b2_ x.q.f x.q.v.toNat)=false:=by rw[u2_ _ _ _ _ hV];exact h2
  have H1:=h_ h1;have H3:=h_ h3;have HQ1:=h_ hq1;have SZ:=h_ sz;have hxr:RpR W W.heap.size (.agg #[.int .i64 x.p,.int .i64 x.q.v,.slice A x.q.f.length a,.slice C x.q.t.length c,.slice E x.d.length e,.slice H x.m.length h]) x:=RpR.next g0 hu';have HXR:=h_ hxr;clear h1 h2 h3 hq1 hno sz hxr hd hm hV;obtain⟨c0,c1,c2,c3,c4,c5⟩:=c_6 kB;go_enter Tryz.func21,Tryz.ntmps21
  go_wp2_with fail
  rw[←hW];clear hW;refine (k6_ _ x _ HXR.out).mono ?_;rintro e w1 ⟨rfl,hb1⟩;rw[H1.out];replace kR:=kR.call hb1;replace kB:=kB.call hb1;replace g0:=a6_ g0 hb1;replace hq:=QvR.next hb1 hq;have hs1:=hb1.size;clear c0 c1 c2 c3 c4 c5 hb1;obtain⟨c0,c1,c2,c3,c4,c5⟩:=c_6 kB;go_wp2_with fail
  refine (B1_ _ x.q _ hq HQ1.out).mono ?_;rintro e w2 ⟨sv,rfl,hsv,hb1⟩;replace kR:=kR.call hb1;replace kB:=kB.call hb1;replace g0:=a6_ g0 hb1;have hs2:=hb1.size;clear c0 c1 c2 c3 c4 c5 hb1 hq;go_wp2_with fail
  refine (i6_ _ _ v _ hsv).mono ?_;rintro e w3 ⟨rfl,hb1⟩;rw[H3.out];replace kR:=kR.call hb1;replace kB:=kB.call hb1;replace g0:=a6_ g0 hb1;have hs3:=hb1.size;clear hb1 hsv;have hF:=HF.out;have sz:=SZ.out;have kZ:=kR;obtain⟨p0,p1,p2⟩:=c_3 kZ;have fr:=kZ.frozen;clear hF kR kB;go_wp2;have hF:=HF.out;exact bodyPost_ret (v:=.tuple #[.agg #[.int .i64 0,.int .i64 0,.slice none 0 0],.bool false]) (by simp[results,go_sem,p0,p1,p2]) rfl ⟨_,by rw[hF],by rw[hF];exact MxO.zero _ _ _,((g0.setCell (by simp) _).setCell (by simp) _).setCell (by simp) _⟩
theorem Y5_ (u:Value) (x:Rp) (v:Int) (w0:World) (hu:RpR w0 w0.heap.size u x) (hyes:k0_ x v=true) :
  Calls Tryz.prog 22 #[u,.int .i64 v] w0 fun e w'=>∃ r,e = .returned (.tuple #[r,.bool (outP x v).2])∧MxO w' w0.heap.size w'.heap.size r (outP x v).1∧Below w0.heap.size w0 w':=by
 have hu':=hu;obtain⟨A,a,C,c,E,e,H,h,rfl,hq,hd,hm,hp,ld,lm⟩:=hu.open_;clear hu;obtain⟨W,hW,g0,kB,kR⟩:=b_4 w0 #[.int .i64 x.p,.int .i64 x.q.v,.slice A x.q.f.length a,.slice C x.q.t.length c,.slice E x.d.length e,.slice H x.m.length h] 29 #[.int .i64 0,.int .i64 0,.slice none 0 0] 41;have sz:W.heap.size=w0.heap.size+1+1:=by rw[hW];simp
 replace hq:=QvR.next g0 hq;replace hd:=SlI.next g0 hd;replace hm:=SlM.next g0 hm;have h1:f1_ x=true:=by simp only[k0_,l9_]at hyes;exact hyes.1
 have h2:endV x.q.t x.q v=true:=by simp only[k0_,l9_]at hyes;exact hyes.2
 have hq1:isQ x.q=true:=(b7_.1 (b8_.1 h1).2.1).1;obtain⟨n,D,rfl,hn,dn,hD,hD4,hn5⟩:=k5_ h1 h2;have HF:=h_ (y5_ hyes hD);have DN:=h_ dn;have H1:=h_ h1;have H2:=h_ h2;have HQ1:=h_ hq1;have SZ:=h_ sz;have hl6:x.q.f.length≤6:=(g4_.1 hq1).2.2.1;have HXR:=h_ (show RpR W W.heap.size (.agg #[.int .i64 x.p,.int .i64 x.q.v,.slice A x.q.f.length a,.slice C x.q.t.length c,.slice E x.d.length e,.slice H x.m.length h]) x from RpR.next g0 hu');have HQ:=h_ hq;have HD:=h_ hd;have HM:=h_ hm;have KB:=h_ kB;have KR:=h_ kR;have G0:=h_ g0;clear h1 h2 hq1 sz hD hyes hu' hm;obtain⟨c0,c1,c2,c3,c4,c5⟩:=c_6 kB;go_enter Tryz.func22,Tryz.ntmps22
 go_wp2_with fail
 rw[←hW];clear hW;refine (i4_ _ x _ HXR.out).mono ?_;rintro e w1 ⟨rfl,hb1⟩;rw[H1.out];replace kB:=kB.call hb1;replace hq:=QvR.next hb1 hq;have gW:=hb1;clear c0 c1 c2 c3 c4 c5 hb1;obtain⟨c0,c1,c2,c3,c4,c5⟩:=c_6 kB;go_wp2_with fail
 refine (s5_ _ x.q n _ hq HQ1.out).mono ?_;rintro e w2 ⟨rfl,hb1⟩;rw[H2.out];replace kB:=kB.call hb1;replace gW:=a6_ gW hb1;clear c0 c1 c2 c3 c4 c5 hb1 hq;obtain⟨c0,c1,c2,c3,c4,c5⟩:=c_6 kB;have hd2:=SlI.more gW.size (SlI.below gW hd);obtain⟨be,oe,xe,rfl,hbe,HXE,xc,_⟩:=SlI.at_ hd2 hn;have ex:=HXE.out;rw[dn]at ex;injection ex with ex
 subst ex;clear hd hd2 HXE hbe;go_wp2_with fail
 refine (v9_ 0 (D:Int) _ (by omega) (by omega) (by omega) (by omega)).mono ?_;rintro e w3 ⟨v3,rfl,hZ,hb3⟩;rw[d2Z x n D]at hZ;obtain⟨MA,mc,e3⟩:=hZ.form;subst e3;have gW3:=a6_ gW hb3;have hs3:=hb3.size;have hs2:=gW.size;obtain⟨N3,hN3⟩:=e_ ((outM x n D 0).a.length);rw[hN3]at hZ⊢;obtain⟨W4,hW4,b4,k4⟩:=b_3 w3 #[.int .i64 (outM x n D 0).r,.int .i64 (outM x n D 0).c,.slice MA N3 mc] 41;have l4:w3.heap.size<W4.heap.size:=k4.lt;have kB4:=(kB.call hb3).call b4;have gW4:=a6_ gW3 b4;have hO:=(hZ.below b4).wider (lo':=W.heap.size) (hi':=W4.heap.size) (by omega) (by omega);clear c0 c1 c2 c3 c4 c5 xc hZ hb3 b4 gW gW3 kB hN3;obtain⟨c0,c1,c2,c3,c4,c5⟩:=c_6 kB4;rw[hW4]at c0 c1 c2 c3 c4 c5;go_wp2;rw[←hW4];clear hW4 c0 c1 c2 c3 c4 c5 kB4;go_loopw [30] (fun i wr=>∃ (k N mc:Nat) (MA:Option Addr),k≤x.q.f.length∧i = .int .i64 k∧Below W.heap.size W wr∧Blk wr w3.heap.size 41 #[.int .i64 (outM x n D k).r,.int .i64 (outM x n D k).c,.slice MA N mc]∧MxO wr W.heap.size wr.heap.size (.agg #[.int .i64 (outM x n D k).r,.int .i64 (outM x n D k).c,.slice MA N mc]) (outM x n D k)) (fun i _=>x.q.f.length-(intOf i).toNat)
 case atStart=>exact⟨0,_,_,_,l0_ _,rfl,gW4,k4,hO⟩
 case round =>
  clear k4 hO gW4;obtain⟨k,N,mc,MA,hk,rfl,gW,k4,hO⟩:=hrel;have s6:=gW.size;by_cases hlt:k<x.q.f.length
  ·obtain⟨m,nf,nt,yf,yt,em,ef,et,df,dt,eM,_,b1,b2,b3,b4,b5,b6,b7,b8⟩:=g9_ H1.out hlt;obtain⟨hsf,hst⟩:=QvR.sl HQ.out;obtain⟨bf,of_,xf,rfl,hbf,HXF,f1,_⟩:=SlI.at_ hsf hlt;have q1:=HXF.out;rw[ef]at q1;injection q1 with q1
   subst q1;have f2:=a7_ gW hbf f1;have hm:=HM.out;obtain⟨bm,om,m',MB,mb,rfl,hbm,HXM,x0,x1,x2,hsl,hr1,hr2,_⟩:=SlM.at_ hm b8;have q2:=HXM.out;rw[em]at q2;injection q2 with q2
   subst q2;have HMR:Hid (MxR W W.heap.size (.agg #[.int .i64 m.r,.int .i64 m.c,.slice MB m.a.length mb]) m):=⟨_,rfl,hsl,hr1,hr2⟩;have kBr:=(KB.out).below gW (KB.out).lt;have EF:=h_ ef;have DF:=h_ df;have EM:=h_ em;have EMX:=h_ eM;clear HXF HXM hsf hst hm hsl hr1 hr2 f1 em ef et df dt eM;by_cases hv:nf=n
   ·subst hv;have hR:=B0_ (v:=(nf:Int)) (C:=D) H1.out k hk;have hyD:yf=D:=by have:=DN.out;rw[DF.out]at this;injection this with this;omega
    subst hyD;have e1:=y6_ (C:=yf) EF.out EM.out (yt:=yt) (by rw[EMX.out];rfl);have e2:outM x nf yf (k+1)=mxF ((outS x nf yf k).1+yt) yf (blF (outS x nf yf k).1 (outS x nf yf k).2 (q6_ m.a yf)):=by unfold outM;rw[e1]
    have E2:=h_ e2;have HR:=h_ hR;have gws:=gW.size;have hHO:=h_ hO;have x0':=a7_ gW hbm x0;have x1':=a7_ gW hbm x1;have x2':=a7_ gW hbm x2;have hbmw:bm<wr.heap.size:=by omega
    clear e1 e2 hR x0 x1 x2 hO;go_wp2;obtain⟨y,hy⟩:∃ y,y=x:=⟨_,rfl⟩;subst hy;refine a8_ (by kernel_rfl) [.eq (.agg #[.int .i64 (outM y nf yf k).r,.int .i64 (outM y nf yf k).c,.slice MA N mc]),.eq (.pointer (some ⟨w0.heap.size,5,none⟩)),.eq (.slice (some ⟨bm,om,none⟩) y.m.length h),.eq (.int .i64 k),.eq (.pointer (some ⟨bm,om+k*3,none⟩)),.eq (.agg #[.int .i64 m.r,.int .i64 m.c,.slice MB m.a.length mb]),rel 6 (fun u lo hi w=>MxO w lo hi u (outM y nf yf (k+1)))] [[],[],[1],[],[1,2,3],[1,2,3,4],[0,1,2,3,4,5],[0,1,2,3,4,5,6]] 7 (by kernel_rfl) ⟨trivial,trivial,trivial,trivial,trivial,trivial,a4_ (fun u lo hi w w' h hb=>h.below hb),trivial⟩ ⟨?_,?_,?_,?_,?_,?_,?_,trivial⟩ ?_;iterate 7 (intro x w hb hk Q' hQ;have he:=k_e hk;simp only[k_s]at he;simp only[netE]at hQ⊢;(try simp only[he]at hQ⊢);(try clear he);rotate_left)
    rotate_left
    ·clear hk;obtain⟨z0,z1,z2⟩:=c_3 (k4.call hb);go_wp2;exact hQ _ _ br_ rfl
    ·clear hk;go_wp2;exact hQ _ _ br_ rfl
    ·clear hk;have z5:=(kBr.call hb).cell' (i:=5) rfl;go_wp2;exact hQ _ _ br_ rfl
    iterate 2 (· clear hk;go_wp2;exact hQ _ _ br_ rfl)
    ·clear hk;have z0:=a7_ hb hbmw x0';have z1:=a7_ hb hbmw x1';have z2:=a7_ hb hbmw x2';go_wp2;exact hQ _ _ br_ rfl
    ·clear hk;have hmr:MxR w w.heap.size (.agg #[.int .i64 m.r,.int .i64 m.c,.slice MB m.a.length mb]) (mxF yt yf (q6_ m.a yf)):=by rw[←EMX.out];exact MxR.more (by have:=hb.size;omega) (MxR.below (gW.trans (hb.mono gws)) HMR.out)
     have HMRw:=h_ hmr;have HOw:=h_ ((hHO.out).below hb).rd;clear hmr;go_wp2_with fail
     refine (b0z _ _ yf (outS y nf yf k).1 yt (outS y nf yf k).2 (q6_ m.a yf) _ HOw.out HMRw.out (by have:=HR.out;omega) (by omega) (by omega)).mono ?_;rintro e w5 ⟨v5,rfl,hO5,hb5⟩;rw[←E2.out]at hO5;go_wp2;exact hQ _ _ hb5 hO5
    ·intro x w hb hk hiv hdj;have h6:MxO w (x.lo 6) (x.hi 6) (x.v 6) (outM y nf yf (k+1)):=hk 6 (by decide);have he:=k_g hk [0,1,2,3,4,5];simp only[k_s]at he;simp only[netE,he];clear he hk;obtain⟨l6,_,l6h⟩:=hiv 6 (by decide);obtain⟨MA',mc',e6⟩:=h6.form;rw[e6]at h6⊢;obtain⟨N',hN'⟩:=e_ ((outM y nf yf (k+1)).a.length);rw[hN']at h6⊢;have k4w:=k4.call hb;obtain⟨p0,p1,p2⟩:=c_3 k4w;have fr:=k4w.frozen;have hbs:=hb.size;have K5:=h_ (((k4w.set_ 0 (.int .i64 (outM y nf yf (k+1)).r)).set_ 1 (.int .i64 (outM y nf yf (k+1)).c)).set_ 2 (.slice MA' N' mc'));have O5:=h_ ((((h6.setBlk (i:=0) k4w (by decide) (.int .i64 (outM y nf yf (k+1)).r)).setBlk (i:=1) (k4w.set_ 0 _) (by decide) (.int .i64 (outM y nf yf (k+1)).c)).setBlk (i:=2) ((k4w.set_ 0 _).set_ 1 _) (by decide) (.slice MA' N' mc')).wider (lo':=W.heap.size) (hi':=w.heap.size) (by omega) (by omega));have hc3:=chg3 w w3.heap.size (.int .i64 (outM y nf yf (k+1)).r) (.int .i64 (outM y nf yf (k+1)).c) (.slice MA' N' mc');have GW:=h_ ((gW.trans (hb.mono gws)).trans (hc3.below (B:=W.heap.size) (by omega) (by omega)));clear hiv hdj e6 h6 hc3 k4w hb gW kBr k4 hN';go_wp2;go_roundw
     case rel=>exact⟨k+1,N',mc',MA',by omega,by go_num,GW.out,K5.out,O5.out.wider (l_ _) (by simp)⟩
     case measure=>simp[intOf];omega
   ·have hne:((nf:Int) == n)=false:=by rw[beq_eq_false_iff_ne];omega
    have e1:=D0_ (C:=D) EF.out (show (nf:Int)≠n by omega);have e2:outM x n D (k+1)=outM x n D k:=by unfold outM;rw[e1]
    have E2:=h_ e2;have K4:=h_ k4;have HO:=h_ hO;have GW:=h_ gW;clear e1 e2 k4 hO gW kBr;go_wp2;go_roundw
    case rel=>exact⟨k+1,N,mc,MA,by omega,by go_num,GW.out,by rw[E2.out];exact K4.out,by rw[E2.out];exact HO.out⟩
    case measure=>simp[intOf];omega
  ·obtain rfl:k=x.q.f.length:=by omega
   have HF':=HF.out;have k2:=(KR.out).below gW (by have:=SZ.out;omega);obtain⟨z0,z1,z2⟩:=c_3 k4;obtain⟨p0,p1,p2⟩:=c_3 k2;have f2:=k2.frozen;have h2:=chg3 wr (w0.heap.size+1) (.int .i64 (outM x n D x.q.f.length).r) (.int .i64 (outM x n D x.q.f.length).c) (.slice MA N mc);have gw:Below w0.heap.size w0 wr:=(G0.out).trans (gW.mono (G0.out).size);have gs:=gw.size;have gws:=gW.size;have sz:=SZ.out;have oA2:=(hO.chg h2 (.inr (by omega))).wider (lo':=w0.heap.size) (hi':=wr.heap.size) (by omega) (l_ _);have fg:=gw.trans (h2.below (by omega) gs);have OA2:=h_ oA2;have FG:=h_ fg;have HFF:=h_ HF';clear hO oA2 fg gw h2 k2 k4 gW sz gws HF';go_wp2;exact bodyPost_ret (v:=.tuple #[.agg #[.int .i64 (outM x n D x.q.f.length).r,.int .i64 (outM x n D x.q.f.length).c,.slice MA N mc],.bool true]) (by simp[results,go_sem,p0,p1,p2]) rfl ⟨_,by rw[(HFF.out:_)],by rw[(HFF.out:_)];exact OA2.out.wider (l_ _) (by simp),FG.out⟩
theorem a7q (u:Value) (x:Rp) (v:Int) (w0:World) (hu:RpR w0 w0.heap.size u x) (hyes:inOk x v=true) :
  Calls Tryz.prog 20 #[u,.int .i64 v] w0 fun e w'=>∃ r,e = .returned (.tuple #[r,.bool (inP x v).2])∧MxO w' w0.heap.size w'.heap.size r (inP x v).1∧Below w0.heap.size w0 w':=by
 have hu':=hu;obtain⟨A,a,C,c,E,e,H,h,rfl,hq,hd,hm,hp,ld,lm⟩:=hu.open_;clear hu;obtain⟨W,hW,g0,kB,kR⟩:=b_4 w0 #[.int .i64 x.p,.int .i64 x.q.v,.slice A x.q.f.length a,.slice C x.q.t.length c,.slice E x.d.length e,.slice H x.m.length h] 29 #[.int .i64 0,.int .i64 0,.slice none 0 0] 41;have sz:W.heap.size=w0.heap.size+1+1:=by rw[hW];simp
 replace hq:=QvR.next g0 hq;replace hd:=SlI.next g0 hd;replace hm:=SlM.next g0 hm;have h1:f1_ x=true:=by simp only[inOk,l9_]at hyes;exact hyes.1
 have h2:endV x.q.f x.q v=true:=by simp only[inOk,l9_]at hyes;exact hyes.2
 have hq1:isQ x.q=true:=(b7_.1 (b8_.1 h1).2.1).1;obtain⟨n,D,rfl,hn,dn,hD,hD4,hn5⟩:=k5_ h1 h2;have HF:=h_ (E2_ hyes hD);have DN:=h_ dn;have H1:=h_ h1;have H2:=h_ h2;have HQ1:=h_ hq1;have SZ:=h_ sz;have hl6:x.q.f.length≤6:=(g4_.1 hq1).2.2.1;have HXR:=h_ (show RpR W W.heap.size (.agg #[.int .i64 x.p,.int .i64 x.q.v,.slice A x.q.f.length a,.slice C x.q.t.length c,.slice E x.d.length e,.slice H x.m.length h]) x from RpR.next g0 hu');have HQ:=h_ hq;have HD:=h_ hd;have HM:=h_ hm;have KB:=h_ kB;have KR:=h_ kR;have G0:=h_ g0;clear h1 h2 hq1 sz hD hyes hu' hm;obtain⟨c0,c1,c2,c3,c4,c5⟩:=c_6 kB;go_enter Tryz.func20,Tryz.ntmps20
 go_wp2_with fail
 rw[←hW];clear hW;refine (i4_ _ x _ HXR.out).mono ?_;rintro e w1 ⟨rfl,hb1⟩;rw[H1.out];replace kB:=kB.call hb1;replace hq:=QvR.next hb1 hq;have gW:=hb1;clear c0 c1 c2 c3 c4 c5 hb1;obtain⟨c0,c1,c2,c3,c4,c5⟩:=c_6 kB;go_wp2_with fail
 refine (D4_ _ x.q n _ hq HQ1.out).mono ?_;rintro e w2 ⟨rfl,hb1⟩;rw[H2.out];replace kB:=kB.call hb1;replace gW:=a6_ gW hb1;clear c0 c1 c2 c3 c4 c5 hb1 hq;obtain⟨c0,c1,c2,c3,c4,c5⟩:=c_6 kB;have hd2:=SlI.more gW.size (SlI.below gW hd);obtain⟨be,oe,xe,rfl,hbe,HXE,xc,_⟩:=SlI.at_ hd2 hn;have ex:=HXE.out;rw[dn]at ex;injection ex with ex
 subst ex;clear hd hd2 HXE hbe;go_wp2_with fail
 refine (v9_ (D:Int) 0 _ (by omega) (by omega) (by omega) (by omega)).mono ?_;rintro e w3 ⟨v3,rfl,hZ,hb3⟩;rw[f2Q x n D]at hZ;obtain⟨MA,mc,e3⟩:=hZ.form;subst e3;have gW3:=a6_ gW hb3;have hs3:=hb3.size;have hs2:=gW.size;obtain⟨N3,hN3⟩:=e_ ((inM x n D 0).a.length);rw[hN3]at hZ⊢;obtain⟨W4,hW4,b4,k4⟩:=b_3 w3 #[.int .i64 (inM x n D 0).r,.int .i64 (inM x n D 0).c,.slice MA N3 mc] 41;have l4:w3.heap.size<W4.heap.size:=k4.lt;have kB4:=(kB.call hb3).call b4;have gW4:=a6_ gW3 b4;have hO:=(hZ.below b4).wider (lo':=W.heap.size) (hi':=W4.heap.size) (by omega) (by omega);clear c0 c1 c2 c3 c4 c5 xc hZ hb3 b4 gW gW3 kB hN3;obtain⟨c0,c1,c2,c3,c4,c5⟩:=c_6 kB4;rw[hW4]at c0 c1 c2 c3 c4 c5;go_wp2;rw[←hW4];clear hW4 c0 c1 c2 c3 c4 c5 kB4;go_loopw [30] (fun i wr=>∃ (k N mc:Nat) (MA:Option Addr),k≤x.q.f.length∧i = .int .i64 k∧Below W.heap.size W wr∧Blk wr w3.heap.size 41 #[.int .i64 (inM x n D k).r,.int .i64 (inM x n D k).c,.slice MA N mc]∧MxO wr W.heap.size wr.heap.size (.agg #[.int .i64 (inM x n D k).r,.int .i64 (inM x n D k).c,.slice MA N mc]) (inM x n D k)) (fun i _=>x.q.f.length-(intOf i).toNat)
 case atStart=>exact⟨0,_,_,_,l0_ _,rfl,gW4,k4,hO⟩
 case round =>
  clear k4 hO gW4;have hlen:x.q.t.length≤x.q.f.length:=by have:=(g4_.1 HQ1.out).2.1;omega
  obtain⟨k,N,mc,MA,hk,rfl,gW,k4,hO⟩:=hrel;have s6:=gW.size;by_cases hlt:k<x.q.f.length
  ·obtain⟨m,nf,nt,yf,yt,em,ef,et,df,dt,eM,_,b1,b2,b3,b4,b5,b6,b7,b8⟩:=g9_ H1.out hlt;obtain⟨hsf,hst⟩:=QvR.sl HQ.out;obtain⟨bf,of_,xf,rfl,hbf,HXF,f1,_⟩:=SlI.at_ hst b7;have q1:=HXF.out;rw[et]at q1;injection q1 with q1
   subst q1;have f2:=a7_ gW hbf f1;have hm:=HM.out;obtain⟨bm,om,m',MB,mb,rfl,hbm,HXM,x0,x1,x2,hsl,hr1,hr2,_⟩:=SlM.at_ hm b8;have q2:=HXM.out;rw[em]at q2;injection q2 with q2
   subst q2;have HMR:Hid (MxR W W.heap.size (.agg #[.int .i64 m.r,.int .i64 m.c,.slice MB m.a.length mb]) m):=⟨_,rfl,hsl,hr1,hr2⟩;have kBr:=(KB.out).below gW (KB.out).lt;have EF:=h_ et;have DF:=h_ dt;have EM:=h_ em;have EMX:=h_ eM;clear HXF HXM hsf hst hm hsl hr1 hr2 f1 em ef et df dt eM;by_cases hv:nt=n
   ·subst hv;have hR:=L6_ (v:=(nt:Int)) (C:=D) H1.out k hk;have hyD:yt=D:=by have:=DN.out;rw[DF.out]at this;injection this with this;omega
    subst hyD;have e1:=E0_ (R:=yt) EF.out EM.out (yf:=yf) (by rw[EMX.out];rfl);have e2:inM x nt yt (k+1)=mxF yt ((inS x nt yt k).1+yf) (bsF (inS x nt yt k).1 (inS x nt yt k).2 (q6_ m.a yf)):=by unfold inM;rw[e1]
    have E2:=h_ e2;have HR:=h_ hR;have gws:=gW.size;have hHO:=h_ hO;have x0':=a7_ gW hbm x0;have x1':=a7_ gW hbm x1;have x2':=a7_ gW hbm x2;have hbmw:bm<wr.heap.size:=by omega
    clear e1 e2 hR x0 x1 x2 hO;go_wp2;obtain⟨y,hy⟩:∃ y,y=x:=⟨_,rfl⟩;subst hy;refine a8_ (by kernel_rfl) [.eq (.agg #[.int .i64 (inM y nt yt k).r,.int .i64 (inM y nt yt k).c,.slice MA N mc]),.eq (.pointer (some ⟨w0.heap.size,5,none⟩)),.eq (.slice (some ⟨bm,om,none⟩) y.m.length h),.eq (.int .i64 k),.eq (.pointer (some ⟨bm,om+k*3,none⟩)),.eq (.agg #[.int .i64 m.r,.int .i64 m.c,.slice MB m.a.length mb]),rel 6 (fun u lo hi w=>MxO w lo hi u (inM y nt yt (k+1)))] [[],[],[1],[],[1,2,3],[1,2,3,4],[0,1,2,3,4,5],[0,1,2,3,4,5,6]] 7 (by kernel_rfl) ⟨trivial,trivial,trivial,trivial,trivial,trivial,a4_ (fun u lo hi w w' h hb=>h.below hb),trivial⟩ ⟨?_,?_,?_,?_,?_,?_,?_,trivial⟩ ?_;iterate 7 (intro x w hb hk Q' hQ;have he:=k_e hk;simp only[k_s]at he;simp only[netE]at hQ⊢;(try simp only[he]at hQ⊢);(try clear he);rotate_left)
    rotate_left
    ·clear hk;obtain⟨z0,z1,z2⟩:=c_3 (k4.call hb);go_wp2;exact hQ _ _ br_ rfl
    ·clear hk;go_wp2;exact hQ _ _ br_ rfl
    ·clear hk;have z5:=(kBr.call hb).cell' (i:=5) rfl;go_wp2;exact hQ _ _ br_ rfl
    iterate 2 (· clear hk;go_wp2;exact hQ _ _ br_ rfl)
    ·clear hk;have z0:=a7_ hb hbmw x0';have z1:=a7_ hb hbmw x1';have z2:=a7_ hb hbmw x2';go_wp2;exact hQ _ _ br_ rfl
    ·clear hk;have hmr:MxR w w.heap.size (.agg #[.int .i64 m.r,.int .i64 m.c,.slice MB m.a.length mb]) (mxF yt yf (q6_ m.a yf)):=by rw[←EMX.out];exact MxR.more (by have:=hb.size;omega) (MxR.below (gW.trans (hb.mono gws)) HMR.out)
     have HMRw:=h_ hmr;have HOw:=h_ ((hHO.out).below hb).rd;clear hmr;go_wp2_with fail
     refine (a7x _ _ yt (inS y nt yt k).1 yf (inS y nt yt k).2 (q6_ m.a yf) _ HOw.out HMRw.out (by omega) (by have:=HR.out;omega) (by omega)).mono ?_;rintro e w5 ⟨v5,rfl,hO5,hb5⟩;rw[←E2.out]at hO5;go_wp2;exact hQ _ _ hb5 hO5
    ·intro x w hb hk hiv hdj;have h6:MxO w (x.lo 6) (x.hi 6) (x.v 6) (inM y nt yt (k+1)):=hk 6 (by decide);have he:=k_g hk [0,1,2,3,4,5];simp only[k_s]at he;simp only[netE,he];clear he hk;obtain⟨l6,_,l6h⟩:=hiv 6 (by decide);obtain⟨MA',mc',e6⟩:=h6.form;rw[e6]at h6⊢;obtain⟨N',hN'⟩:=e_ ((inM y nt yt (k+1)).a.length);rw[hN']at h6⊢;have k4w:=k4.call hb;obtain⟨p0,p1,p2⟩:=c_3 k4w;have fr:=k4w.frozen;have hbs:=hb.size;have K5:=h_ (((k4w.set_ 0 (.int .i64 (inM y nt yt (k+1)).r)).set_ 1 (.int .i64 (inM y nt yt (k+1)).c)).set_ 2 (.slice MA' N' mc'));have O5:=h_ ((((h6.setBlk (i:=0) k4w (by decide) (.int .i64 (inM y nt yt (k+1)).r)).setBlk (i:=1) (k4w.set_ 0 _) (by decide) (.int .i64 (inM y nt yt (k+1)).c)).setBlk (i:=2) ((k4w.set_ 0 _).set_ 1 _) (by decide) (.slice MA' N' mc')).wider (lo':=W.heap.size) (hi':=w.heap.size) (by omega) (by omega));have hc3:=chg3 w w3.heap.size (.int .i64 (inM y nt yt (k+1)).r) (.int .i64 (inM y nt yt (k+1)).c) (.slice MA' N' mc');have GW:=h_ ((gW.trans (hb.mono gws)).trans (hc3.below (B:=W.heap.size) (by omega) (by omega)));clear hiv hdj e6 h6 hc3 k4w hb gW kBr k4 hN';go_wp2;go_roundw
     case rel=>exact⟨k+1,N',mc',MA',by omega,by go_num,GW.out,K5.out,O5.out.wider (l_ _) (by simp)⟩
     case measure=>simp[intOf];omega
   ·have hne:((nt:Int) == n)=false:=by rw[beq_eq_false_iff_ne];omega
    have e1:=N6_ (C:=D) EF.out (show (nt:Int)≠n by omega);have e2:inM x n D (k+1)=inM x n D k:=by unfold inM;rw[e1]
    have E2:=h_ e2;have K4:=h_ k4;have HO:=h_ hO;have GW:=h_ gW;clear e1 e2 k4 hO gW kBr;go_wp2;go_roundw
    case rel=>exact⟨k+1,N,mc,MA,by omega,by go_num,GW.out,by rw[E2.out];exact K4.out,by rw[E2.out];exact HO.out⟩
    case measure=>simp[intOf];omega
  ·obtain rfl:k=x.q.f.length:=by omega
   have HF':=HF.out;have k2:=(KR.out).below gW (by have:=SZ.out;omega);obtain⟨z0,z1,z2⟩:=c_3 k4;obtain⟨p0,p1,p2⟩:=c_3 k2;have f2:=k2.frozen;have h2:=chg3 wr (w0.heap.size+1) (.int .i64 (inM x n D x.q.f.length).r) (.int .i64 (inM x n D x.q.f.length).c) (.slice MA N mc);have gw:Below w0.heap.size w0 wr:=(G0.out).trans (gW.mono (G0.out).size);have gs:=gw.size;have gws:=gW.size;have sz:=SZ.out;have oA2:=(hO.chg h2 (.inr (by omega))).wider (lo':=w0.heap.size) (hi':=wr.heap.size) (by omega) (l_ _);have fg:=gw.trans (h2.below (by omega) gs);have OA2:=h_ oA2;have FG:=h_ fg;have HFF:=h_ HF';clear hO oA2 fg gw h2 k2 k4 gW sz gws HF';go_wp2;exact bodyPost_ret (v:=.tuple #[.agg #[.int .i64 (inM x n D x.q.f.length).r,.int .i64 (inM x n D x.q.f.length).c,.slice MA N mc],.bool true]) (by simp[results,go_sem,p0,p1,p2]) rfl ⟨_,by rw[(HFF.out:_)],by rw[(HFF.out:_)];exact OA2.out.wider (l_ _) (by simp),FG.out⟩
theorem i0_ (u:Value) (x:Rp) (v:Int) (w0:World) (hu:RpR w0 w0.heap.size u x) (hv:I64 v) :
  Calls Tryz.prog 22 #[u,.int .i64 v] w0 fun e w'=>∃ r,e = .returned (.tuple #[r,.bool (outP x v).2])∧MxO w' w0.heap.size w'.heap.size r (outP x v).1∧Below w0.heap.size w0 w':=by
 rcases h:k0_ x v with _ | _
 ·exact a7Z u x v w0 hu h
 ·exact Y5_ u x v w0 hu h
theorem i1_ (u:Value) (x:Rp) (v:Int) (w0:World) (hu:RpR w0 w0.heap.size u x) (hv:I64 v) :
  Calls Tryz.prog 20 #[u,.int .i64 v] w0 fun e w'=>∃ r,e = .returned (.tuple #[r,.bool (inP x v).2])∧MxO w' w0.heap.size w'.heap.size r (inP x v).1∧Below w0.heap.size w0 w':=by
 rcases h:inOk x v with _ | _
 ·exact b0j u x v w0 hu h
 ·exact a7q u x v w0 hu h
end Go.Proofs.YtnohdlkailpnoaaGreat

