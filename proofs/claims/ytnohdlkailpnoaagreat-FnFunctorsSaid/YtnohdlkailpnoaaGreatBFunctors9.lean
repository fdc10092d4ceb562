/- FnFunctors: the law holds for every argument. Part 9 of 14 of the proof: Hom2b, Hom3, IsoP, SpP, RstP, IsoE, KerI, KerI2, SlVs, IsoA, IsoB, IsoC. No condition. -/
import Derived.Test.YtnohdlkailpnoaaGreatBFunctors8
set_option linter.unusedVariables false
set_option linter.unusedSimpArgs false
set_option maxHeartbeats 12800000
set_option maxRecDepth 100000
namespace Go.Proofs.YtnohdlkailpnoaaGreat
open Go.RowKit
theorem M9_ (ua ub fv:Value) (X Y:Rp) (F:Nat→Nat→Nat→Int) (w0:World) (ha:RpR w0 w0.heap.size ua X) (hb:RpR w0 w0.heap.size ub Y) (hfv:SlM w0 w0.heap.size fv (mvL X Y F X.d.length)) (hf:Fit2 X Y) (hF:∀ v,v<X.d.length→InF X.p (dmN Y.d v) (dmN X.d v) (F v)) :
  Calls Tryz.prog 122 #[ua,ub,fv] w0 fun e w'=>∃ v,e = .returned v∧d3_ w' w0.heap.size w'.heap.size v (cbL X Y F X.q.f.length)∧Below w0.heap.size w0 w':=by
 obtain⟨FA,fc,rfl,_,_,_,hfx⟩:=hfv.open_;clear hfv;rw[g1_]at hfx⊢;have ha':=ha;have hb':=hb;obtain⟨A,a,C,c,Ea,ea,Ha,ha_,rfl,hqa,hda,hma,hpa,lda,lma⟩:=ha.open_;obtain⟨A2,a2,C2,c2,Eb,eb,Hb,hb_,rfl,hqb,hdb,hmb,hpb,ldb,lmb⟩:=hb.open_;clear ha hb;obtain⟨W,hW,g0,k1,k2⟩:=b_4 w0 #[.int .i64 X.p,.int .i64 X.q.v,.slice A X.q.f.length a,.slice C X.q.t.length c,.slice Ea X.d.length ea,.slice Ha X.m.length ha_] 29 #[.int .i64 Y.p,.int .i64 Y.q.v,.slice A2 Y.q.f.length a2,.slice C2 Y.q.t.length c2,.slice Eb Y.d.length eb,.slice Hb Y.m.length hb_] 29;have HXA:=h_ (RpR.next g0 ha');have HXB:=h_ (RpR.next g0 hb');have HQA:=h_ (QvR.next g0 hqa);have HDA:=h_ (SlI.next g0 hda);have HDB:=h_ (SlI.next g0 hdb);have HMA:=h_ (SlM.next g0 hma);have HMB:=h_ (SlM.next g0 hmb);have G0:=h_ g0;clear ha' hb' hqa hqb hda hdb hma hmb hpa hpb g0;have HFV:=h_ (SlM.next G0.out hfx);have HF:=h_ hf;have HFF:=h_ hF;have hp2:=hf.p2;obtain⟨hN6,hlm,hlmy,hTl⟩:=hf.arrs;have HLM:=h_ hlm;have HLMY:=h_ hlmy;obtain⟨_,_,_,_,eqq,hfs,hts,_⟩:=HQA.out.open_;simp only[Value.agg.injEq,Array.mk.injEq,List.cons.injEq,and_true,Value.slice.injEq,true_and]at eqq;obtain⟨⟨rfl,rfl⟩,rfl,rfl⟩:=eqq;have HFS:=h_ hfs;have HTS:=h_ hts;have c2_:=k1.cell' (i:=2) rfl;clear hf hfs hts hfx hF hlm hlmy hTl;go_enter Tryz.func122,Tryz.ntmps122
 go_wp2;rw[←hW];clear hW;go_loopw [7,15] (fun out i wr=>∃ k:Nat,k≤X.q.f.length∧i = .int .i64 k∧d3_ wr W.heap.size wr.heap.size out (cbL X Y F k)∧Below W.heap.size W wr) (fun _ i _=>X.q.f.length-(intOf i).toNat)
 case atStart=>exact⟨0,l0_ _,rfl,d3_.nil _ _ _,Below.refl _ _⟩
 case round =>
  obtain⟨k,hk,rfl,hO,hbel⟩:=hrel;have hbs:=hbel.size;obtain⟨OA,oc,eo,_,_⟩:=hO.form2;rw[D6_]at eo;subst eo;by_cases hlt:k<X.q.f.length
  ·obtain⟨ef,et,lf,lt,hkt,emx,emy,hIx,hIy⟩:=HF.out.arr hlt;have hIf:=HFF.out _ lf;have hIt:=HFF.out _ lt;have bf4:=HF.out.dims (srN X.q k);have bt4:=HF.out.dims (tgN X.q k);have gf:=A6_ X Y F lf;have gt_:=A6_ X Y F lt;have HZS:=h_ (a1x X Y F k);have HCB:=h_ (show cbF X Y F k=plF X.p (X.p-1) (muP X.p (dmN Y.d (srN X.q k)) (arF Y k) (F (srN X.q k))) (muP X.p (dmN X.d (tgN X.q k)) (F (tgN X.q k)) (arF X k)) from rfl);obtain⟨nf,hnf⟩:=e_ (srN X.q k);obtain⟨nt,hnt⟩:=e_ (tgN X.q k);rw[hnf]at ef lf emx emy hIx hIy hIf bf4 gf HZS HCB;rw[hnt]at et lt emx emy hIx hIy hIt bt4 gt_ HZS HCB;obtain⟨DXF,e1⟩:=e_ (dmN X.d nf);obtain⟨DYF,e2⟩:=e_ (dmN Y.d nf);obtain⟨DXT,e3⟩:=e_ (dmN X.d nt);obtain⟨DYT,e4⟩:=e_ (dmN Y.d nt);simp only[e1,e2,e3,e4]at emx emy hIx hIy hIf hIt bf4 bt4 gf gt_ HZS HCB;obtain⟨CF,hCF⟩:=e_ (cbF X Y F k);rw[hCF]at HZS HCB;clear hnf hnt e1 e2 e3 e4 hCF;obtain⟨bf,of_,x1,e1,hbf,HX1,z1,_,_⟩:=SlI.at_ HFS.out hlt;obtain⟨bt,ot,x2,e2,hbt,HX2,z2,_,_⟩:=SlI.at_ HTS.out hkt;subst e1 e2;have q1:=HX1.out;rw[ef]at q1;injection q1 with q1
   subst q1;have q2:=HX2.out;rw[et]at q2;injection q2 with q2
   subst q2;obtain⟨bx,ox,AX,LX,cx,e1,hbx,mx0_,mx1,mx2,MX⟩:=SlM.atF HMA.out rfl emx;obtain⟨by_,oy,AY,LY,cy,e2,hby,my0,my1,my2,MY⟩:=SlM.atF HMB.out rfl emy;subst e1 e2;obtain⟨bg,og,AF,LF,cf,e1,hbg,mf0,mf1,mf2,MF⟩:=SlM.atF HFV.out (g1_ _ _ _ _) gf;obtain⟨bg',og',AG,LG,cg,e2,_,mg0,mg1,mg2,MG⟩:=SlM.atF HFV.out (g1_ _ _ _ _) gt_;rw[e1]at e2;injection e2 with e2
   injection e2 with e2 e3
   subst e2 e3;subst e1;clear HX1 HX2 ef et emx emy gf gt_;have K1:=h_ (k1.call hbel);have K2:=h_ (k2.call hbel);have y1:=a7_ hbel hbf z1;have Y2:=h_ (a7_ hbel hbt z2);have HO:=h_ hO;have HB:=h_ hbel;have MX0:=h_ (a7_ hbel hbx mx0_);have MX1:=h_ (a7_ hbel hbx mx1);have MX2:=h_ (a7_ hbel hbx mx2);have MY0:=h_ (a7_ hbel hby my0);have MY1:=h_ (a7_ hbel hby my1);have MY2:=h_ (a7_ hbel hby my2);have MF0:=h_ (a7_ hbel hbg mf0);have MF1:=h_ (a7_ hbel hbg mf1);have MF2:=h_ (a7_ hbel hbg mf2);have MG0:=h_ (a7_ hbel hbg mg0);have MG1:=h_ (a7_ hbel hbg mg1);have MG2:=h_ (a7_ hbel hbg mg2);have HMX:=h_ (MxR.more hbs (MxR.below hbel MX));have HMY:=h_ (MxR.more hbs (MxR.below hbel MY));have HMF:=h_ (MxR.more hbs (MxR.below hbel MF));have HMG:=h_ (MxR.more hbs (MxR.below hbel MG));have HIX:=h_ hIx;have HIY:=h_ hIy;have HIF:=h_ hIf;have HIT:=h_ hIt;clear hO hbel z1 z2 c2_ mx0_ mx1 mx2 my0 my1 my2 mf0 mf1 mf2 mg0 mg1 mg2 MX MY MF MG hIx hIy hIf hIt;have a1':(k:Int)<Y.m.length:=by have:=HLMY.out;omega
   have a2':(k:Int)<X.m.length:=by have:=HLM.out;omega
   have a3':(nf:Int)<X.d.length:=by omega
   have a4':(nt:Int)<X.d.length:=by omega
   have a5':(k:Int)<X.q.t.length:=by omega
   have a6':(0:Int)≤(nf:Int):=by omega
   have a7':(0:Int)≤(nt:Int):=by omega
   go_wp2;clear y1;refine a8_ (by kernel_rfl) [.eq (.pointer (some ⟨w0.heap.size,0,none⟩)),.eq (.int .i64 X.p),.eq (.pointer (some ⟨w0.heap.size+1,5,none⟩)),.eq (.slice (some ⟨by_,oy,none⟩) Y.m.length hb_),.eq (.int .i64 k),.eq (.pointer (some ⟨by_,oy+k*3,none⟩)),.eq (.agg #[.int .i64 DYT,.int .i64 DYF,.slice AY LY cy]),.eq (.slice (some ⟨bg,og,none⟩) X.d.length fc),.eq (.int .i64 nf),.eq (.pointer (some ⟨bg,og+nf*3,none⟩)),.eq (.agg #[.int .i64 DYF,.int .i64 DXF,.slice AF LF cf]),rel 11 (fun u lo hi w=>MxO w lo hi u (mxF DYT DXF (muP X.p DYF (arF Y k) (F nf)))),rel 12 (fun u lo hi w=>∃ g,u = .pointer (some ⟨g,0,none⟩)∧lo≤g∧Blk w g 41 #[.int .i64 0,.int .i64 0,.slice none 0 0])] [[],[0],[],[2],[],[2,3,4],[2,3,4,5],[],[],[7,8],[7,8,9],[0,1,2,3,4,5,6,7,8,9,10],[],[0,1,2,3,4,5,6,7,8,9,10,11,12]] 13 (by kernel_rfl) ⟨trivial,trivial,trivial,trivial,trivial,trivial,trivial,trivial,trivial,trivial,trivial,a4_ (fun u lo hi w w' h hb=>h.below hb),a4_ (fun u lo hi w w' ⟨g,e,h1,h⟩ hb=>⟨g,e,h1,h.call hb⟩),trivial⟩ ⟨?_,?_,?_,?_,?_,?_,?_,?_,?_,?_,?_,?_,?_,trivial⟩ ?_;iterate 13 (intro x w hb hk Q' hQ;have he:=k_e hk;simp only[k_s]at he;simp only[netE]at hQ⊢;(try simp only[he]at hQ⊢);(try clear he);rotate_left)
   rotate_left
   ·clear hk;go_wp2;exact hQ _ _ br_ rfl
   ·clear hk;have z:=(K1.out.call hb).cell' (i:=0) rfl;go_wp2;exact hQ _ _ br_ rfl
   ·clear hk;go_wp2;exact hQ _ _ br_ rfl
   ·clear hk;have z:=(K2.out.call hb).cell' (i:=5) rfl;go_wp2;exact hQ _ _ br_ rfl
   iterate 2 (· clear hk;go_wp2;exact hQ _ _ br_ rfl)
   ·clear hk;have q0:=a7_ hb (by omega) MY0.out;have q1:=a7_ hb (by omega) MY1.out;have q2:=a7_ hb (by omega) MY2.out;go_wp2;exact hQ _ _ br_ rfl
   iterate 3 (· clear hk;go_wp2;exact hQ _ _ br_ rfl)
   ·clear hk;have q0:=a7_ hb (by omega) MF0.out;have q1:=a7_ hb (by omega) MF1.out;have q2:=a7_ hb (by omega) MF2.out;go_wp2;exact hQ _ _ br_ rfl
   ·clear hk;have hA:=h_ (MxR.next hb HMY.out);have hB:=h_ (MxR.next hb HMF.out);go_wp2_with fail
    refine (W4_ X.p _ _ DYT DYF DXF (arF Y k) (F nf) _ hp2 (by omega) (by omega) (by omega) hA.out hB.out HIY.out HIF.out).mono ?_;rintro e w3 ⟨v3,rfl,hZ,hb3⟩;go_wp2;exact hQ _ _ hb3 hZ
   ·clear hk;go_wp2;exact hQ _ _ (a2_ _ _) ⟨_,rfl,l_ _,Blk.new _ _ _⟩
   ·intro x w hb hk hiv hdj;have h11:MxO w (x.lo 11) (x.hi 11) (x.v 11) (mxF DYT DXF (muP X.p DYF (arF Y k) (F nf))):=hk 11 (by decide);have h12:∃ g,(x.v 12) = .pointer (some ⟨g,0,none⟩)∧(x.lo 12)≤g∧Blk w g 41 #[.int .i64 0,.int .i64 0,.slice none 0 0]:=hk 12 (by decide);have he:=k_g hk [0,1,2,3,4,5,6,7,8,9,10];simp only[k_s]at he;simp only[netE,he];clear he hk;obtain⟨g5,e12,hg5,k5'⟩:=h12;have li12:=(hiv 12 (by decide)).1;rw[e12];have hM11:=((h11.setBlk (i:=0) k5' (by decide) (.int .i64 DYT)).setBlk (i:=1) (k5'.set_ 0 _) (by decide) (.int .i64 DXF));obtain⟨s1,e11,hs,hI1⟩:=h11;obtain⟨s1A,s1c,es⟩:=hs.form;obtain⟨s1n,hs1n⟩:=e_ ((mxF DYT DXF (muP X.p DYF (arF Y k) (F nf))).a.length);rw[hs1n]at es;subst es;simp only[mxF]at e11;rw[e11]at hM11⊢;have hM12:=hM11.setBlk (i:=2) ((k5'.set_ 0 (.int .i64 DYT)).set_ 1 (.int .i64 DXF)) (by decide) (.slice s1A s1n s1c);obtain⟨W5,hW5⟩:=e_ (((w.setCell ⟨g5,0,none⟩ (.int .i64 DYT)).setCell ⟨g5,1,none⟩ (.int .i64 DXF)).setCell ⟨g5,2,none⟩ (.slice s1A s1n s1c));have k5:Blk W5 g5 41 #[.int .i64 DYT,.int .i64 DXF,.slice s1A s1n s1c]:=by rw[←hW5];exact ((k5'.set_ 0 _).set_ 1 _).set_ 2 _
    have hcs:∀ (w:World) (i:Nat) (u:Value),Chg g5 (g5+1) w (w.setCell ⟨g5,i,none⟩ u):=fun w i u=>b4_ (l_ _) (m0_ _)
    have hc5:Chg g5 (g5+1) w W5:=by rw[←hW5];exact ((hcs _ _ _).trans (hcs _ _ _)).trans (hcs _ _ _)
    clear hcs;rw[hW5]at hM12;have hbs5:=hb.size;have hb5:Below wr.heap.size wr W5:=hb.trans (hc5.below (by omega) hbs5);have K5:=h_ k5;have HM5:=h_ (show MxR W5 W5.heap.size (.agg #[.int .i64 DYT,.int .i64 DXF,.slice s1A s1n s1c]) (mxF DYT DXF (muP X.p DYF (arF Y k) (F nf))) from hM12.rd);have HB5:=h_ hb5;have hsz5:=hb5.size;have HO5:=h_ (HO.out.below hb5);have fr5:=k5'.frozen;obtain⟨z0_,z1_,z2_⟩:=c_3 k5';clear hiv hdj hs e11 hs1n k5 hb5 hI1 hb hc5 hM11 hM12 k5' e12;go_wp2;clear hW5 fr5 z0_ z1_ z2_;have sW:=HB.out.size;have KK1:=h_ (K1.out.call HB5.out);have KK2:=h_ (K2.out.call HB5.out);have HMX5:=h_ (MxR.next HB5.out HMX.out);have HMG5:=h_ (MxR.next HB5.out HMG.out);refine a8_ (by kernel_rfl) [.eq (.slice OA k oc),.eq (.pointer (some ⟨w0.heap.size,0,none⟩)),.eq (.int .i64 X.p),.eq (.agg #[.int .i64 DYT,.int .i64 DXF,.slice s1A s1n s1c]),.eq (.pointer (some ⟨w0.heap.size,0,none⟩)),.eq (.int .i64 X.p),.eq (.int .i64 (X.p-1)),.eq (.pointer (some ⟨w0.heap.size,0,none⟩)),.eq (.int .i64 X.p),.eq (.slice (some ⟨bg,og,none⟩) X.d.length fc),.eq (.pointer (some ⟨w0.heap.size,1,none⟩)),.eq (.pointer (some ⟨w0.heap.size,3,none⟩)),.eq (.slice (some ⟨bt,ot,none⟩) X.q.t.length c),.eq (.int .i64 k),.eq (.pointer (some ⟨bt,ot+k,none⟩)),.eq (.int .i64 nt),.eq (.pointer (some ⟨bg,og+nt*3,none⟩)),.eq (.agg #[.int .i64 DYT,.int .i64 DXT,.slice AG LG cg]),.eq (.pointer (some ⟨w0.heap.size,5,none⟩)),.eq (.slice (some ⟨bx,ox,none⟩) X.m.length ha_),.eq (.int .i64 k),.eq (.pointer (some ⟨bx,ox+k*3,none⟩)),.eq (.agg #[.int .i64 DXT,.int .i64 DXF,.slice AX LX cx]),rel 23 (fun u lo hi w=>MxO w lo hi u (mxF DYT DXF (muP X.p DXT (F nt) (arF X k)))),rel 24 (fun u lo hi w=>MxO w lo hi u (mxF DYT DXF CF)),.rel (fun x w=>∃ g s,x.v 25 = .slice (some ⟨g,0,none⟩) 1 1∧x.v 24 = .agg #[.int .i64 DYT,.int .i64 DXF,s]∧Blk w g 41 #[.int .i64 DYT,.int .i64 DXF,s])] [[],[],[1],[],[],[4],[4,5],[],[7],[],[],[10],[10,11],[],[10,11,12,13],[10,11,12,13,14],[9,10,11,12,13,14,15],[9,10,11,12,13,14,15,16],[],[18],[],[18,19,20],[18,19,20,21],[7,8,9,10,11,12,13,14,15,16,17,18,19,20,21,22],[1,2,3,4,5,6,7,8,9,10,11,12,13,14,15,16,17,18,19,20,21,22,23],[1,2,3,4,5,6,7,8,9,10,11,12,13,14,15,16,17,18,19,20,21,22,23,24],[0,1,2,3,4,5,6,7,8,9,10,11,12,13,14,15,16,17,18,19,20,21,22,23,24,25],[0,1,2,3,4,5,6,7,8,9,10,11,12,13,14,15,16,17,18,19,20,21,22,23,24,25,26]] 26 (by kernel_rfl) ⟨trivial,trivial,trivial,trivial,trivial,trivial,trivial,trivial,trivial,trivial,trivial,trivial,trivial,trivial,trivial,trivial,trivial,trivial,trivial,trivial,trivial,trivial,trivial,a4_ (fun u lo hi w w' h hb=>h.below hb),a4_ (fun u lo hi w w' h hb=>h.below hb),fun x w w' ⟨g,s,e1,e2,h⟩ hb=>⟨g,s,e1,e2,h.call hb⟩,trivial⟩ ⟨?_,?_,?_,?_,?_,?_,?_,?_,?_,?_,?_,?_,?_,?_,?_,?_,?_,?_,?_,?_,?_,?_,?_,?_,?_,?_,trivial⟩ ?_;iterate 26 (intro x w hb hk Q' hQ;have he:=k_e hk;simp only[k_s]at he;simp only[netE]at hQ⊢;(try simp only[he]at hQ⊢);(try clear he);rotate_left)
    rotate_left
    iterate 2 (· clear hk;go_wp2;exact hQ _ _ br_ rfl)
    ·clear hk;have z:=(KK1.out.call hb).cell' (i:=0) rfl;go_wp2;exact hQ _ _ br_ rfl
    ·clear hk;obtain⟨q0,q1,q2⟩:=c_3 (K5.out.call hb);go_wp2;exact hQ _ _ br_ rfl
    ·clear hk;go_wp2;exact hQ _ _ br_ rfl
    ·clear hk;have z:=(KK1.out.call hb).cell' (i:=0) rfl;go_wp2;exact hQ _ _ br_ rfl
    iterate 2 (· clear hk;go_wp2;exact hQ _ _ br_ rfl)
    ·clear hk;have z:=(KK1.out.call hb).cell' (i:=0) rfl;go_wp2;exact hQ _ _ br_ rfl
    iterate 3 (· clear hk;go_wp2;exact hQ _ _ br_ rfl)
    ·clear hk;have z:=(KK1.out.call hb).cell' (i:=3) rfl;go_wp2;exact hQ _ _ br_ rfl
    iterate 2 (· clear hk;go_wp2;exact hQ _ _ br_ rfl)
    ·clear hk;have z:=a7_ (HB5.out.trans (hb.mono hsz5)) (by omega) Y2.out;go_wp2;exact hQ _ _ br_ rfl
    ·clear hk;go_wp2;exact hQ _ _ br_ rfl
    ·clear hk;have q0:=a7_ (HB5.out.trans (hb.mono hsz5)) (by omega) MG0.out;have q1:=a7_ (HB5.out.trans (hb.mono hsz5)) (by omega) MG1.out;have q2:=a7_ (HB5.out.trans (hb.mono hsz5)) (by omega) MG2.out;go_wp2;exact hQ _ _ br_ rfl
    ·clear hk;go_wp2;exact hQ _ _ br_ rfl
    ·clear hk;have z:=(KK1.out.call hb).cell' (i:=5) rfl;go_wp2;exact hQ _ _ br_ rfl
    iterate 2 (· clear hk;go_wp2;exact hQ _ _ br_ rfl)
    ·clear hk;have q0:=a7_ (HB5.out.trans (hb.mono hsz5)) (by omega) MX0.out;have q1:=a7_ (HB5.out.trans (hb.mono hsz5)) (by omega) MX1.out;have q2:=a7_ (HB5.out.trans (hb.mono hsz5)) (by omega) MX2.out;go_wp2;exact hQ _ _ br_ rfl
    ·clear hk;have hA:=h_ (MxR.next hb HMG5.out);have hB:=h_ (MxR.next hb HMX5.out);go_wp2_with fail
     refine (W4_ X.p _ _ DYT DXT DXF (F nt) (arF X k) _ hp2 (by omega) (by omega) (by omega) hA.out hB.out HIT.out HIX.out).mono ?_;rintro e w3 ⟨v3,rfl,hZ,hb3⟩;go_wp2;exact hQ _ _ hb3 hZ
    ·have h23:MxO w (x.lo 23) (x.hi 23) (x.v 23) (mxF DYT DXF (muP X.p DXT (F nt) (arF X k))):=(hk 23 (by decide)).1;have s23:=(hk 23 (by decide)).2;clear hk;have hA:=h_ (MxR.next hb HM5.out);have hB:=h_ h23.rd;obtain⟨s2,e23,_⟩:=h23;rw[e23]at hB hQ⊢;go_wp2_with fail
     refine (c2j X.p (X.p-1) _ _ DYT DXF (muP X.p DYF (arF Y k) (F nf)) (muP X.p DXT (F nt) (arF X k)) _ hp2 (by omega) hA.out hB.out (by omega) (by omega) (fun i j _ _=>by have:=P7_ hp2.1 DYF (arF Y k) (F nf) i j;omega) (fun i j _ _=>by have:=P7_ hp2.1 DXT (F nt) (arF X k) i j;omega)).mono ?_;rintro e w3 ⟨v3,rfl,hZ,hb3⟩;rw[←HCB.out]at hZ;go_wp2;exact hQ _ _ hb3 hZ
    ·have h23:MxO w (x.lo 23) (x.hi 23) (x.v 23) (mxF DYT DXF (muP X.p DXT (F nt) (arF X k))):=(hk 23 (by decide)).1;have h24:MxO w (x.lo 24) (x.hi 24) (x.v 24) (mxF DYT DXF CF):=(hk 24 (by decide)).1;have s23:=(hk 23 (by decide)).2;have s24:=(hk 24 (by decide)).2;clear hk;obtain⟨s,e24,hs⟩:=h24;obtain⟨sA,sc,es⟩:=hs.1.form;obtain⟨sn,hsn⟩:=e_ ((mxF DYT DXF CF).a.length);rw[hsn]at es;clear hsn hs;subst es;have hQ':=hQ (.slice (some ⟨w.heap.size,0,none⟩) 1 1) (w.alloc (.cells #[.int .i64 (mxF DYT DXF CF).r,.int .i64 (mxF DYT DXF CF).c,.slice sA sn sc] 41)) (a2_ _ _) ⟨_,_,rfl,e24,Blk.new _ _ _⟩;simp only[mxF]at e24 hQ';rw[e24]at hQ'⊢;go_wp2;exact hQ'
    ·intro x w hb hk hiv hdj;have h23:MxO w (x.lo 23) (x.hi 23) (x.v 23) (mxF DYT DXF (muP X.p DXT (F nt) (arF X k))):=hk 23 (by decide);have h24:MxO w (x.lo 24) (x.hi 24) (x.v 24) (mxF DYT DXF CF):=hk 24 (by decide);have h25:∃ g s,x.v 25 = .slice (some ⟨g,0,none⟩) 1 1∧x.v 24 = .agg #[.int .i64 DYT,.int .i64 DXF,s]∧Blk w g 41 #[.int .i64 DYT,.int .i64 DXF,s]:=hk 25 (by decide);have he:=k_g hk [0,1,2,3,4,5,6,7,8,9,10,11,12,13,14,15,16,17,18,19,20,21,22];simp only[k_s]at he;simp only[netE,he];clear he hk;obtain⟨g,s,ej,ei,hg⟩:=h25;have li2:=(hiv 24 (by decide)).1;have hi2:=(hiv 24 (by decide)).2.2;obtain⟨s',ei',hs,hI⟩:=h24;rw[ei]at ei';simp only[Value.agg.injEq,Array.mk.injEq,List.cons.injEq,and_true,mxF,true_and]at ei';subst ei';rw[ej];have hbs2:=hb.size;have HOZ:=h_ (HO5.out.below hb);have HKZ:=h_ hg;have HSZ:=h_ (hs.wider li2 hi2);have HI:=h_ hI;have HBZ:=h_ ((HB.out.trans (HB5.out.mono hbs)).trans (hb.mono (by omega)));clear hiv hdj hs hI ej ei hg hb;refine o7_ (by rfl) (.tmp 32) (.tmp 57) (by rfl) W.heap.size wr.heap.size _ (cbL X Y F k) (by rfl) HOZ.out g 1 W5.heap.size w.heap.size (mxF DYT DXF CF) s (by rfl) HKZ.out HSZ.out HI.out hsz5 hbs (l_ _) (by omega) (by rw[D6_];omega) ?_;intro v' w' h1 h2;rw[←HZS.out]at h1;have H1:=h_ h1;have H2:=h_ (HBZ.out.trans (h2.below (l_ _) (by omega)));clear h1 h2;go_wp2;go_roundw
     case rel=>exact⟨k+1,by omega,by go_num,H1.out,H2.out⟩
     case measure=>simp[intOf];omega
  ·obtain rfl:k=X.q.f.length:=by omega
   have HO:=h_ hO;have GF:=h_ (G0.out.trans (hbel.mono G0.out.size));have hgs:=G0.out.size;clear hO hbel;go_wp2;go_ret
   exact⟨_,rfl,HO.out.wider hgs (l_ _),GF.out⟩
def homN (X Y:Rp):Nat:=hmN X Y-rkF X.p (eqR X Y) (hmN X Y) (eqG X Y)
theorem d5j (X Y:Rp) (j V:Nat):shF X.d Y.d (c4j j) V=mvL X Y (uF X Y j) V:=rfl
theorem f9Z {X Y:Rp} (hp:2≤X.p) (j v r c:Nat):InF X.p r c (uF X Y j v):=fun a b _ _=>by
 have:=c7X (hOff X.d Y.d v+a*dmN X.d v+b) j;unfold uF;omega
theorem z5_ (ua ub:Value) (X Y:Rp) (w0:World) (ha:RpR w0 w0.heap.size ua X) (hb:RpR w0 w0.heap.size ub Y) (hf:Fit2 X Y) :
  Calls Tryz.prog 88 #[ua,ub] w0 fun e w'=>∃ v,e = .returned v∧MxO w' w0.heap.size w'.heap.size v (mxF (eqR X Y) (hmN X Y) (eqG X Y))∧Below w0.heap.size w0 w':=by
 have ha':=ha;have hb':=hb;obtain⟨A,a,C,c,Ea,ea,Ha,ha_,rfl,_⟩:=ha.open_;obtain⟨A2,a2,C2,c2,Eb,eb,Hb,hb_,rfl,_⟩:=hb.open_;clear ha hb;obtain⟨W,hW⟩:∃ W,W=((w0.alloc (.cells #[.int .i64 X.p,.int .i64 X.q.v,.slice A X.q.f.length a,.slice C X.q.t.length c,.slice Ea X.d.length ea,.slice Ha X.m.length ha_] 29)).alloc (.cells #[.int .i64 Y.p,.int .i64 Y.q.v,.slice A2 Y.q.f.length a2,.slice C2 Y.q.t.length c2,.slice Eb Y.d.length eb,.slice Hb Y.m.length hb_] 29)).alloc (.cells #[.int .i64 0,.int .i64 0,.slice none 0 0] 41):=⟨_,rfl⟩;have g0:Below w0.heap.size w0 W:=by rw[hW];exact (((Below.refl _ _).alloc (l_ _) _).alloc (by simp) _).alloc (by simp;omega) _
 have k1:Blk W w0.heap.size 29 #[.int .i64 X.p,.int .i64 X.q.v,.slice A X.q.f.length a,.slice C X.q.t.length c,.slice Ea X.d.length ea,.slice Ha X.m.length ha_]:=by rw[hW];exact ((Blk.new _ _ _).alloc _).alloc _
 have k2:Blk W (w0.heap.size+1) 29 #[.int .i64 Y.p,.int .i64 Y.q.v,.slice A2 Y.q.f.length a2,.slice C2 Y.q.t.length c2,.slice Eb Y.d.length eb,.slice Hb Y.m.length hb_]:=by
  rw[hW];have:=(Blk.new (w0.alloc (.cells #[.int .i64 X.p,.int .i64 X.q.v,.slice A X.q.f.length a,.slice C X.q.t.length c,.slice Ea X.d.length ea,.slice Ha X.m.length ha_] 29)) 29 #[.int .i64 Y.p,.int .i64 Y.q.v,.slice A2 Y.q.f.length a2,.slice C2 Y.q.t.length c2,.slice Eb Y.d.length eb,.slice Hb Y.m.length hb_]).alloc (.cells #[.int .i64 0,.int .i64 0,.slice none 0 0] 41);simpa only[l3_] using this
 have k3:Blk W (w0.heap.size+1+1) 41 #[.int .i64 0,.int .i64 0,.slice none 0 0]:=by
  rw[hW];have:=Blk.new ((w0.alloc (.cells #[.int .i64 X.p,.int .i64 X.q.v,.slice A X.q.f.length a,.slice C X.q.t.length c,.slice Ea X.d.length ea,.slice Ha X.m.length ha_] 29)).alloc (.cells #[.int .i64 Y.p,.int .i64 Y.q.v,.slice A2 Y.q.f.length a2,.slice C2 Y.q.t.length c2,.slice Eb Y.d.length eb,.slice Hb Y.m.length hb_] 29)) 41 #[.int .i64 0,.int .i64 0,.slice none 0 0];simpa only[l3_] using this
 have sz:W.heap.size=w0.heap.size+1+1+1:=by rw[hW];simp
 have SZ:=h_ sz;have HXA:=h_ (RpR.next g0 ha');have HXB:=h_ (RpR.next g0 hb');have G0:=h_ g0;have HF:=h_ hf;have hl5:=hf.len.2;have hN80:=N2_ hf;have hR96:=b3Q hf;have HN6:=h_ hf.arrs.1;obtain⟨c0,c1,c2_,c3,c4,c5⟩:=c_6 k1;obtain⟨d0,d1,d2,d3,d4,d5⟩:=c_6 k2;obtain⟨n,hn⟩:=e_ (hmN X Y);have HN':=h_ (show hOff X.d Y.d X.d.length=n from hn);obtain⟨R,hR⟩:=e_ (eqR X Y);obtain⟨g,hg⟩:=e_ (eqG X Y);have HCOL:=h_ (show ∀ j,j<n→rowF R (fun i=>g i j)=flM (cbL X Y (uF X Y j) X.q.f.length) from fun j hj=>by rw[←hR,←hg];exact d7x X Y j (by rw[hn];exact hj));have HR:=h_ hR;rw[hn]at hN80⊢;rw[hR]at hR96⊢;rw[hg];clear hn hR hg;clear ha' hb' g0 sz hf;go_enter Tryz.func88,Tryz.ntmps88
 go_wp2_with fail
 rw[←hW];clear hW;refine (I6_ _ _ X Y _ HXA.out HXB.out HF.out).mono ?_;rintro e w1 ⟨v1,rfl,hZ,hb1⟩;obtain⟨ZA,zc,ez,_,_⟩:=hZ.form2;rw[o1_]at ez;subst ez;have HZ:=h_ hZ;have s1:=hb1.size;have B1:=h_ hb1;clear hZ hb1;go_wp2_with fail
 refine (Q5_ _ (zrL X.d Y.d X.d.length) _ HZ.out.rd (by rw[o1_];omega) (by rw[E9_,HN'.out];omega)).mono ?_;rintro e w2 ⟨v2,rfl,hFl,hb2⟩;obtain⟨FA,fc,ef⟩:=hFl.form;rw[y8_,E9_]at ef;subst ef;rw[HN'.out];have s2:=hb2.size;have B2:=h_ (B1.out.trans (hb2.mono s1));have HZ2:=h_ (HZ.out.below hb2);have HXA2:=h_ (RpR.next B2.out HXA.out);have HXB2:=h_ (RpR.next B2.out HXB.out);have K1:=h_ (k1.call B2.out);have K2:=h_ (k2.call B2.out);have K3:=h_ (k3.call B2.out);clear hFl hb2 c0 c1 c2_ c3 c4 c5 d0 d1 d2 d3 d4 d5 k1 k2 k3;go_wp2;go_loopw [7,17] (fun out i wr=>∃ k:Nat,k≤n∧i = .int .i64 k∧b1_ wr w2.heap.size wr.heap.size out (b5_ k R (fun a b=>g b a))∧Below w2.heap.size w2 wr) (fun _ i _=>n-(intOf i).toNat)
 case atStart=>exact⟨0,l0_ _,rfl,by simpa [b5_] using b1_.nil w2 w2.heap.size w2.heap.size,Below.refl _ _⟩
 case round =>
  obtain⟨k,hk,rfl,hO,hbel⟩:=hrel;have hbs:=hbel.size;obtain⟨OA,oc,eo,_,_,_⟩:=hO.form2;rw[a3_]at eo;subst eo;by_cases hlt:k<n
  ·have hmk:=R9_ wr (n:=n) (by omega);obtain⟨W4,hW4⟩:=e_ (wr.alloc (.cells (g8_ (.int .i64 0) n) 3));rw[hW4]at hmk;have g4:Below wr.heap.size wr W4:=by rw[←hW4];exact a2_ _ _
   have o4:OwnI W4 wr.heap.size (.slice (some ⟨wr.heap.size,0,none⟩) n n) (List.replicate n 0):=by
    rw[←hW4];exact OwnI.made0 (l_ _) (by omega)
   obtain⟨gr,hgr⟩:=e_ (wr.heap.size);have f4:=o4.frozenG k;have r4:=(o4.cellG (j:=k) (by simpa using hlt)).1;obtain⟨W5,hW5⟩:=e_ (W4.setCell ⟨wr.heap.size,k,none⟩ (.int .i64 1));have hp5:=o4.put (j:=k) (x:=1) (by simp[I64]);rw[c3j,hW5]at hp5;have g5:Below wr.heap.size wr W5:=by rw[←hW5];exact g4.setCell (l_ _) _
   have HE5:=h_ hp5.1.rd;have HO5:=h_ (hO.below g5);have G5:=h_ (hbel.trans (g5.mono hbs));have hs5:=g5.size;have HZ5:=h_ (HZ2.out.rd.next G5.out);have HXA5:=h_ (RpR.next G5.out HXA2.out);have HXB5:=h_ (RpR.next G5.out HXB2.out);have KK1:=h_ (K1.out.call G5.out);have KK2:=h_ (K2.out.call G5.out);have a1':(k:Int)<n:=by omega
   have a2':(0:Int)≤(n:Int):=by omega
   have hs52:w2.heap.size≤W5.heap.size:=by omega
   clear hO hbel o4 g4 hp5 g5;rw[hgr]at hmk f4 r4 hW5 HE5 ;clear hW4;go_wp2;clear hW5 hmk f4 r4;refine a8_ (by kernel_rfl) [.eq (.slice OA k oc),.eq (.agg #[.int .i64 X.p,.int .i64 X.q.v,.slice A X.q.f.length a,.slice C X.q.t.length c,.slice Ea X.d.length ea,.slice Ha X.m.length ha_]),.eq (.agg #[.int .i64 Y.p,.int .i64 Y.q.v,.slice A2 Y.q.f.length a2,.slice C2 Y.q.t.length c2,.slice Eb Y.d.length eb,.slice Hb Y.m.length hb_]),.eq (.slice ZA X.d.length zc),.eq (.slice (some ⟨gr,0,none⟩) n n),rel 5 (fun u lo hi w=>d3_ w lo hi u (mvL X Y (uF X Y k) X.d.length)),rel 6 (fun u lo hi w=>d3_ w lo hi u (cbL X Y (uF X Y k) X.q.f.length)),rel 7 (fun u lo hi w=>a9_ w lo hi u (rowF R fun i=>g i k)),.rel (fun x w=>∃ g',x.v 8 = .slice (some ⟨g',0,none⟩) 1 1∧Blk w g' 24 #[x.v 7])] [[],[],[],[],[],[3,4],[1,2,3,4,5],[1,2,3,4,5,6],[1,2,3,4,5,6,7],[0,1,2,3,4,5,6,7,8],[0,1,2,3,4,5,6,7,8,9]] 9 (by kernel_rfl) ⟨trivial,trivial,trivial,trivial,trivial,a4_ (fun u lo hi w w' h hb=>h.below hb),a4_ (fun u lo hi w w' h hb=>h.below hb),a4_ (fun u lo hi w w' h hb=>h.below hb),fun x w w' ⟨g,e1,h⟩ hb=>⟨g,e1,h.call hb⟩,trivial⟩ ⟨?_,?_,?_,?_,?_,?_,?_,?_,?_,trivial⟩ ?_;iterate 9 (intro x w hb hk Q' hQ;have he:=k_e hk;simp only[k_s]at he;simp only[netE]at hQ⊢;(try simp only[he]at hQ⊢);(try clear he);rotate_left)
   rotate_left
   ·clear hk;go_wp2;exact hQ _ _ br_ rfl
   ·clear hk;obtain⟨z0,z1,z2,z3,z4,z5⟩:=c_6 (KK1.out.call hb);go_wp2;exact hQ _ _ br_ rfl
   ·clear hk;obtain⟨z0,z1,z2,z3,z4,z5⟩:=c_6 (KK2.out.call hb);go_wp2;exact hQ _ _ br_ rfl
   iterate 2 (· clear hk;go_wp2;exact hQ _ _ br_ rfl)
   ·clear hk;have hA:=h_ (SlM.next hb HZ5.out);have hE:=h_ (SlI.next hb HE5.out);go_wp2_with fail
    refine (O8_ _ _ (zrL X.d Y.d X.d.length) (rowF n (c4j k)) _ hA.out hE.out (by rw[o1_];omega) (by rw[E9_,HN'.out,a1_];exact l_ _)).mono ?_;rintro e w3 ⟨v3,rfl,hS,hb3⟩;rw[b9z _ _ _ _ _ (by rw[HN'.out];exact l_ _),d5j]at hS;go_wp2;exact hQ _ _ hb3 hS
   ·have h5:d3_ w (x.lo 5) (x.hi 5) (x.v 5) (mvL X Y (uF X Y k) X.d.length):=(hk 5 (by decide)).1;have s5:=(hk 5 (by decide)).2;clear hk;have hA:=h_ (RpR.next hb HXA5.out);have hB:=h_ (RpR.next hb HXB5.out);have H5:=h_ h5.rd;clear h5;go_wp2_with fail
    refine (M9_ _ _ _ X Y (uF X Y k) _ hA.out hB.out H5.out HF.out (fun v _=>f9Z HF.out.p2.1 _ _ _ _)).mono ?_;rintro e w3 ⟨v3,rfl,hS,hb3⟩;go_wp2;exact hQ _ _ hb3 hS
   ·have h5:d3_ w (x.lo 5) (x.hi 5) (x.v 5) (mvL X Y (uF X Y k) X.d.length):=(hk 5 (by decide)).1;have h6:d3_ w (x.lo 6) (x.hi 6) (x.v 6) (cbL X Y (uF X Y k) X.q.f.length):=(hk 6 (by decide)).1;have s5:=(hk 5 (by decide)).2;have s6:=(hk 6 (by decide)).2;clear hk;have H6:=h_ h6.rd;clear h6;have hcl:=HCOL.out k hlt;go_wp2_with fail
    refine (Q5_ _ (cbL X Y (uF X Y k) X.q.f.length) _ H6.out (by rw[D6_];have:=HN6.out;omega) (by rw[←y8_,←hcl,a1_];omega)).mono ?_;rintro e w3 ⟨v3,rfl,hS,hb3⟩;rw[←hcl]at hS;clear hcl;go_wp2;exact hQ _ _ hb3 hS
   ·have h5:d3_ w (x.lo 5) (x.hi 5) (x.v 5) (mvL X Y (uF X Y k) X.d.length):=(hk 5 (by decide)).1;have h6:d3_ w (x.lo 6) (x.hi 6) (x.v 6) (cbL X Y (uF X Y k) X.q.f.length):=(hk 6 (by decide)).1;have h7:a9_ w (x.lo 7) (x.hi 7) (x.v 7) (rowF R fun i=>g i k):=(hk 7 (by decide)).1;have s5:=(hk 5 (by decide)).2;have s6:=(hk 6 (by decide)).2;have s7:=(hk 7 (by decide)).2;clear hk;obtain⟨sA,sc,es⟩:=h7.form;rw[a1_]at es;have hQ':=hQ (.slice (some ⟨w.heap.size,0,none⟩) 1 1) (w.alloc (.cells #[x.v 7] 24)) (a2_ _ _) ⟨_,rfl,Blk.new _ _ _⟩;rw[es]at hQ'⊢;clear h7 es;go_wp2;exact hQ'
   ·intro x w hb hk hiv hdj;have h5:d3_ w (x.lo 5) (x.hi 5) (x.v 5) (mvL X Y (uF X Y k) X.d.length):=hk 5 (by decide);have h6:d3_ w (x.lo 6) (x.hi 6) (x.v 6) (cbL X Y (uF X Y k) X.q.f.length):=hk 6 (by decide);have h7:a9_ w (x.lo 7) (x.hi 7) (x.v 7) (rowF R fun i=>g i k):=hk 7 (by decide);have h8:∃ g',x.v 8 = .slice (some ⟨g',0,none⟩) 1 1∧Blk w g' 24 #[x.v 7]:=hk 8 (by decide);have he:=k_g hk [0,1,2,3,4];simp only[k_s]at he;simp only[netE,he];clear he hk;obtain⟨g8,e8,kg⟩:=h8;have li:=(hiv 7 (by decide)).1;have hi_:=(hiv 7 (by decide)).2.2;rw[e8];obtain⟨v7,hv7⟩:=e_ (x.v 7);rw[hv7]at h7 kg;have hbs2:=hb.size;have HOZ:=h_ (HO5.out.below hb);have C0:=h_ (kg.cell' (i:=0) rfl);have HSZ:=h_ (h7.wider li hi_);have HBZ:=h_ (G5.out.trans (hb.mono hs52));clear hiv hdj h7 h6 h5 e8 kg hb hv7;refine n1_ (by rfl) (.tmp 25) (.tmp 33) (by rfl) w2.heap.size wr.heap.size W5.heap.size w.heap.size _ _ _ (by rfl) HOZ.out (some ⟨g8,0,none⟩) 1 _ (by rfl) ⟨_,_,rfl,C0.out⟩ HSZ.out (by omega) (by omega) (by omega) (by rw[a3_];omega) (by omega) (by omega) ?_;intro v' w' h1 h2 h3;have hsn:=n2_ k R (fun a b=>g b a);rw[←hsn]at h1;have H1:=h_ h1;have H2:=h_ (HBZ.out.trans h2);clear h1 h2 h3 hsn;go_wp2;go_roundw
    case rel=>exact⟨k+1,by omega,by go_num,H1.out,H2.out⟩
    case measure=>simp[intOf];omega
  ·obtain rfl:k=n:=by omega
   have KK1:=K1.out.call hbel;have KK2:=K2.out.call hbel;have K3r:=h_ (K3.out.call hbel);obtain⟨c0,c1,c2_,c3,c4,c5⟩:=c_6 KK1;obtain⟨d0,d1,d2,d3,d4,d5⟩:=c_6 KK2;have HXr:=h_ (RpR.next hbel HXA2.out);have HYr:=h_ (RpR.next hbel HXB2.out);have HO:=h_ hO.rd;have GR:=h_ (G0.out.trans ((B2.out.trans (hbel.mono (by omega))).mono G0.out.size));have hgr:=GR.out.size;clear hO hbel KK1 KK2;go_wp2_with fail
   refine (G6_ _ _ X Y _ HXr.out HYr.out HF.out).mono ?_;rintro e w6 ⟨v6,rfl,hC,hb6⟩;obtain⟨ZB,zd,ezb,_,_⟩:=hC.form2;rw[y2_]at ezb;subst ezb;have HC:=h_ hC;clear hC c0 c1 c2_ c3 c4 c5 d0 d1 d2 d3 d4 d5;go_wp2_with fail
   refine (Q5_ _ (czL X Y X.q.f.length) _ HC.out.rd (by rw[y2_];have:=HN6.out;omega) (by rw[X9_ X Y (hmN X Y)];have:=HR.out;unfold eqR at this;omega)).mono ?_;rintro e w7 ⟨v7,rfl,hFl,hb7⟩;obtain⟨FB,fd,ef⟩:=hFl.form;rw[y8_,X9_ X Y (hmN X Y),show (eqL X Y (hmN X Y) X.q.f.length).length=R from HR.out]at ef;subst ef;have hb67:=a6_ hb6 hb7;have HO7:=h_ (SlII.next hb67 HO.out);have HB7:=h_ (GR.out.trans (hb67.mono hgr));have K37:=h_ (K3r.out.call hb67);have s67:=hb67.size;clear hFl hb6 hb7 hb67;go_wp2_with fail
   refine (i7_ _ R k g _ HO7.out (by omega) (by omega)).mono ?_;rintro e w8 ⟨v8,rfl,hM,hb8⟩;obtain⟨sM,e8,hs8,hI8⟩:=hM;obtain⟨MA,mc,em⟩:=hs8.form;obtain⟨ml,hml⟩:=e_ ((mxF R k g).a.length);rw[hml]at em;subst em;simp only[mxF]at e8;subst e8;have k8:=K37.out.call hb8;obtain⟨z0,z1,z2⟩:=c_3 k8;have fr:=k8.frozen;have GF:=h_ (HB7.out.trans (hb8.mono (HB7.out.size)));have HS8:=h_ hs8;have HI8:=h_ hI8;have s8:=hb8.size;have gs:=HB7.out.size;clear hs8 hI8 hb8 k8 hml;go_wp2;have gf:=GF.out;have sz:=SZ.out;have hc:Chg (w0.heap.size+1+1) (w0.heap.size+1+1+1) w8 _:=((b4_ (w:=w8) (p:=⟨w0.heap.size+1+1,0,none⟩) (u:=.int .i64 R) (by simp) (by simp)).trans (b4_ (p:=⟨w0.heap.size+1+1,1,none⟩) (u:=.int .i64 k) (by simp) (by simp))).trans (b4_ (p:=⟨w0.heap.size+1+1,2,none⟩) (u:=.slice MA ml mc) (by simp) (by simp));refine bodyPost_ret (v:=.agg #[.int .i64 R,.int .i64 k,.slice MA ml mc]) (by simp[results,go_sem,z0,z1,z2]) rfl ⟨_,rfl,⟨_,rfl,(HS8.out.chg hc (.inr (by omega))).wider (by omega) (by simp),HI8.out⟩,((gf.setCell (by simp;omega) _).setCell (by simp;omega) _).setCell (by simp;omega) _⟩
theorem u0_ (ua ub:Value) (X Y:Rp) (w0:World) (ha:RpR w0 w0.heap.size ua X) (hb:RpR w0 w0.heap.size ub Y) (hf:Fit2 X Y) :
  Calls Tryz.prog 47 #[ua,ub] w0 fun e w'=>e = .returned (.int .i64 (homN X Y:Int))∧Below w0.heap.size w0 w':=by
 have hp:=(b8_.1 hf.hx).1;have hN80:=N2_ hf;have hR96:=b3Q hf;have HIF:=h_ (Q2_ (x:=X) Y hf.p2.1);have HP:=h_ hp;have ha':=ha;have hb':=hb;obtain⟨A,a,C,c,Ea,ea,Ha,ha_,rfl,hqa,hda,hma,hpa,lda,lma⟩:=ha.open_;obtain⟨A2,a2,C2,c2,Eb,eb,Hb,hb_,rfl,hqb,hdb,hmb,hpb,ldb,lmb⟩:=hb.open_;clear ha hb;obtain⟨W,hW,g0,k1,k2⟩:=b_4 w0 #[.int .i64 X.p,.int .i64 X.q.v,.slice A X.q.f.length a,.slice C X.q.t.length c,.slice Ea X.d.length ea,.slice Ha X.m.length ha_] 29 #[.int .i64 Y.p,.int .i64 Y.q.v,.slice A2 Y.q.f.length a2,.slice C2 Y.q.t.length c2,.slice Eb Y.d.length eb,.slice Hb Y.m.length hb_] 29;have HXA:=h_ (RpR.next g0 ha');have HXB:=h_ (RpR.next g0 hb');have HQA:=h_ (QvR.next g0 hqa);have HDA:=h_ (SlI.next g0 hda);have HDB:=h_ (SlI.next g0 hdb);have HMA:=h_ (SlM.next g0 hma);have HMB:=h_ (SlM.next g0 hmb);have G0:=h_ g0;clear ha' hb' hqa hqb hda hdb hma hmb hpa hpb g0;have HF:=h_ hf;obtain⟨c0,c1,c2_,c3,c4,c5⟩:=c_6 k1;obtain⟨d0,d1,d2,d3,d4,d5⟩:=c_6 k2;have hVV:(homN X Y:Int)=((hmN X Y:Nat):Int)-(rkF X.p (eqR X Y) (hmN X Y) (eqG X Y):Nat):=by
  have:=s3_ X.p (eqR X Y) (hmN X Y) (eqG X Y);unfold homN;omega
 rw[hVV];have hrk:=(s3_ X.p (eqR X Y) (hmN X Y) (eqG X Y)).2;obtain⟨R,hR⟩:=e_ (eqR X Y);obtain⟨n,hn⟩:=e_ (hmN X Y);obtain⟨g,hg⟩:=e_ (eqG X Y);have HRE:=h_ hR;have HNE:=h_ hn;have HGE:=h_ hg;rw[hR,hn,hg]at HIF hrk;rw[hR]at hR96;rw[hn]at hN80;rw[hR,hn,hg];obtain⟨rk,hrk2⟩:=e_ (rkF X.p R n g);have HRK:=h_ hrk2;rw[hrk2]at hrk⊢;clear hf hp hR hn hg hrk2 hVV;go_enter Tryz.func47,Tryz.ntmps47
 go_wp2_with fail
 rw[←hW];clear hW;refine (z5_ _ _ X Y _ HXA.out HXB.out HF.out).mono ?_;rintro e w1 ⟨v1,rfl,hM,hb1⟩;rw[HRE.out,HNE.out,HGE.out]at hM;obtain⟨MA,mc,em⟩:=hM.form;subst em;simp only[mxF]at hM⊢;obtain⟨ML,hML⟩:=e_ ((flat R n g).length);rw[hML]at hM⊢;obtain⟨W2,hW2,ga,g2,hg2,kM⟩:=b_2 w1 #[.int .i64 R,.int .i64 n,.slice MA ML mc] 41;have HM:=h_ (MxR.next ga hM.rd);have gW:=a6_ hb1 ga;have K1:=h_ (k1.call gW);have G2:=h_ (a6_ G0.out gW);clear hM hML hb1 ga gW c0 c1 c2_ c3 c4 c5 d0 d1 d2 d3 d4 d5 k1 k2;go_wp2;clear hW2;try clear hg2
 refine a8_ (by kernel_rfl) [.eq (.pointer (some ⟨g2,1,none⟩)),.eq (.int .i64 n),.eq (.pointer (some ⟨w0.heap.size,0,none⟩)),.eq (.int .i64 X.p),.eq (.agg #[.int .i64 R,.int .i64 n,.slice MA ML mc]),.eq (.int .i64 rk),.eq (.int .i64 ((n:Int)-rk))] [[],[0],[],[2],[],[2,3,4],[0,1,2,3,4,5],[0,1,2,3,4,5,6]] 7 (by kernel_rfl) ⟨trivial,trivial,trivial,trivial,trivial,trivial,trivial,trivial⟩ ⟨?_,?_,?_,?_,?_,?_,?_,trivial⟩ ?_;iterate 7 (intro x w hb hk Q' hQ;have he:=k_e hk;simp only[k_s]at he;simp only[netE]at hQ⊢;(try simp only[he]at hQ⊢);(try clear he);rotate_left)
 rotate_left
 ·clear hk;go_wp2;exact hQ _ _ br_ rfl
 ·clear hk;have z:=(kM.call hb).cell' (i:=1) rfl;go_wp2;exact hQ _ _ br_ rfl
 ·clear hk;go_wp2;exact hQ _ _ br_ rfl
 ·clear hk;have z:=(K1.out.call hb).cell' (i:=0) rfl;go_wp2;exact hQ _ _ br_ rfl
 ·clear hk;obtain⟨z0,z1,z2⟩:=c_3 (kM.call hb);go_wp2;exact hQ _ _ br_ rfl
 ·clear hk;have hA:=h_ (MxR.next hb HM.out);go_wp2_with fail
  refine (s4_ X.p _ R n g _ HP.out (by omega) (by omega) hA.out HIF.out).mono ?_;rintro e w3 ⟨rfl,hb3⟩;rw[HRK.out];go_wp2;exact hQ _ _ hb3 rfl
 ·clear hk;go_wp2;exact hQ _ _ br_ rfl
 ·intro x w hb hk hiv hdj;have he:=k_g hk [0,1,2,3,4,5,6];simp only[k_s]at he;simp only[netE,he];clear he hk;have GF:=h_ (a6_ G2.out hb);clear hb hiv hdj;go_wp2;go_ret
  exact⟨rfl,GF.out⟩
def HmF (X Y:Rp) (F:Nat→Nat→Nat→Int):Prop:=∀ k,k<X.q.f.length→∀ r c,r<dmN Y.d (tgN X.q k)→c<dmN X.d (srN X.q k) →
 X.p∣sgF (fun s=>arF Y k r s*F (srN X.q k) s c) (dmN Y.d (srN X.q k))-sgF (fun s=>F (tgN X.q k) r s*arF X k s c) (dmN X.d (tgN X.q k))
def vcF (X Y:Rp) (x:Nat→Int) (v r c:Nat):Int:=x (hOff X.d Y.d v+r*dmN X.d v+c)
def EqF (X Y:Rp) (F G:Nat→Nat→Nat→Int):Prop:=∀ v r c,v<X.d.length→r<dmN Y.d v→c<dmN X.d v→X.p∣F v r c-G v r c
def cpF (Y:Rp) (G F:Nat→Nat→Nat→Int) (v r c:Nat):Int:=sgF (fun s=>G v r s*F v s c) (dmN Y.d v)
theorem B2_ (s:Int) (a:Nat→Int) (n:Nat):sgF (fun t=>a t*s) n=sgF a n*s:=by
 rw[Int.mul_comm,←p9_];exact a5_ fun t _=>Int.mul_comm _ _
theorem a2X {P:Nat→Nat} {a x:Nat→Int} {m n:Nat} (hP:∀ s,s<m→P s<n):sgF (fun t=>sgF (fun s=>a s*hInd (P s) t) m*x t) n=sgF (fun s=>a s*x (P s)) m:=by
 rw[a5_ (b:=fun t=>sgF (fun s=>a s*hInd (P s) t*x t) m) fun t _=>(B2_ _ _ _).symm,r6_];refine a5_ fun s hs=>?_
 rw[a5_ (b:=fun t=>if t=P s then a s*x t else 0) fun t _=>?_,s7_ (h:=fun t=>a s*x t) (hP s hs)];unfold hInd;by_cases e:P s=t
 ·rw[if_pos e,if_pos e.symm,Int.mul_one]
 ·rw[if_neg e,if_neg fun h=>e h.symm,Int.mul_zero,Int.zero_mul]
theorem J6_ {x y:List Int} {v i j n:Nat} (hv:v<n) (hi:i<dmN y v) (hj:j<dmN x v):hOff x y v+i*dmN x v+j<hOff x y n:=by
 have h1:=E7_ hi hj;have h2:=b8J x y (show v+1≤n by omega);simp only[hOff]at h2;omega
theorem b0x {x y:List Int}:∀ {n t:Nat},t<hOff x y n→∃ v i j,v<n∧i<dmN y v∧j<dmN x v∧t=hOff x y v+i*dmN x v+j
 | 0,t,h=>by simp[hOff]at h
 | n+1,t,h=>by
  rcases Nat.lt_or_ge t (hOff x y n) with h1 | h1
  ·obtain⟨v,i,j,hv,r⟩:=b0x h1;exact⟨v,i,j,by omega,r⟩
  ·simp only[hOff]at h;obtain⟨i,j,hi,hj,e⟩:=R5_ (show t-hOff x y n<dmN y n*dmN x n by omega);exact⟨n,i,j,by omega,hi,hj,by omega⟩
theorem f4q {p:Int} {n:Nat} {L:List (List Int)} {x:Nat→Int}:Ker p L.length (lsF L) n x↔∀ l∈L,p∣sgF (fun t=>l.getD t 0*x t) n:=by
 constructor
 ·intro h l hl;obtain⟨i,hi⟩:=List.mem_iff_getElem?.1 hl;have:=h i (b0_ hi);have e:L.getD i []=l:=by rw[l1_,hi];rfl
  simpa only[lsF,e] using this
 ·intro h i hi;have:=h L[i] (List.getElem_mem hi);have e:L.getD i []=L[i]:=by rw[l1_,l2_ hi];rfl
  simpa only[lsF,e] using this
theorem Y1_ {x y:Rp} {n:Nat} {l:List Int}:∀ {K:Nat},l∈eqL x y n K↔∃ k r c,k<K∧r<dmN y.d (tgN x.q k)∧c<dmN x.d (srN x.q k)∧l=rowF n (eqE x y k r c)
 | 0=>by simp[eqL]
 | K+1=>by
  rw[eqL,List.mem_append,Y1_ (K:=K)];constructor
  ·rintro (⟨k,r,c,hk,h⟩ | h)
   ·exact⟨k,r,c,by omega,h⟩
   ·simp only[eqRw,b5_,List.mem_map,List.mem_range]at h;obtain⟨i,hi,rfl⟩:=h;obtain⟨r,c,hr,hc,rfl⟩:=R5_ hi;exact⟨K,r,c,by omega,hr,hc,by rw[w1_ hc,w5_ hc]⟩
  ·rintro⟨k,r,c,hk,hr,hc,rfl⟩;by_cases e:k<K
   ·exact .inl ⟨k,r,c,e,hr,hc,rfl⟩
   ·obtain rfl:k=K:=by omega
    refine .inr ?_;simp only[eqRw,b5_,List.mem_map,List.mem_range];exact⟨r*dmN x.d (srN x.q k)+c,E7_ hr hc,by rw[w1_ hc,w5_ hc]⟩
theorem d0z {X Y:Rp} (hf:Fit2 X Y) {k r c:Nat} (hk:k<X.q.f.length) (hr:r<dmN Y.d (tgN X.q k)) (hc:c<dmN X.d (srN X.q k)) (x:Nat→Int) :
  X.p∣sgF (fun t=>(rowF (hmN X Y) (eqE X Y k r c)).getD t 0*x t) (hmN X Y)-(sgF (fun s=>arF Y k r s*vcF X Y x (srN X.q k) s c) (dmN Y.d (srN X.q k))-sgF (fun s=>vcF X Y x (tgN X.q k) r s*arF X k s c) (dmN X.d (tgN X.q k))):=by
 obtain⟨_,_,lf,lt,_⟩:=hf.arr hk;have e1:sgF (fun t=>eqS X Y k r c t (dmN Y.d (srN X.q k))*x t) (hmN X Y)=sgF (fun s=>arF Y k r s*vcF X Y x (srN X.q k) s c) (dmN Y.d (srN X.q k)) :=
  a2X (P:=fun s=>hOff X.d Y.d (srN X.q k)+s*dmN X.d (srN X.q k)+c) (a:=fun s=>arF Y k r s) fun s hs=>J6_ lf hs hc
 have e2:sgF (fun t=>eqT X Y k r c t (dmN X.d (tgN X.q k))*x t) (hmN X Y)=sgF (fun s=>vcF X Y x (tgN X.q k) r s*arF X k s c) (dmN X.d (tgN X.q k)):=by
  refine Eq.trans (a2X (P:=fun s=>hOff X.d Y.d (tgN X.q k)+r*dmN X.d (tgN X.q k)+s) (a:=fun s=>arF X k s c) fun s hs=>J6_ lt hr hs) ?_;exact a5_ fun s _=>Int.mul_comm _ _
 rw[←e1,←e2,←A0_];refine j9_ fun t ht=>?_
 rw[c9_ _ ht,eqE,←Int.sub_mul];exact i9_ _ (v3_ _ _)
theorem d2z {X Y:Rp} (hf:Fit2 X Y) (x:Nat→Int):Ker X.p (eqR X Y) (eqG X Y) (hmN X Y) x↔HmF X Y (vcF X Y x):=by
 rw[show Ker X.p (eqR X Y) (eqG X Y) (hmN X Y) x↔_ from f4q];constructor
 ·intro h k hk r c hr hc;exact (k2_ (d0z hf hk hr hc x)).1 (h _ (Y1_.2 ⟨k,r,c,hk,hr,hc,rfl⟩))
 ·intro h l hl;obtain⟨k,r,c,hk,hr,hc,rfl⟩:=Y1_.1 hl;exact (k2_ (d0z hf hk hr hc x)).2 (h k hk r c hr hc)
theorem HmF.congr {X Y:Rp} (hf:Fit2 X Y) {F G:Nat→Nat→Nat→Int} (h:HmF X Y F) (e:EqF X Y F G):HmF X Y G:=by
 intro k hk r c hr hc;obtain⟨_,_,lf,lt,_⟩:=hf.arr hk;have h1:=h k hk r c hr hc;have e1:X.p∣sgF (fun s=>arF Y k r s*F (srN X.q k) s c) (dmN Y.d (srN X.q k))-sgF (fun s=>arF Y k r s*G (srN X.q k) s c) (dmN Y.d (srN X.q k)):=j9_ fun s hs=>j2_ _ (e _ s c lf hs hc)
 have e2:X.p∣sgF (fun s=>F (tgN X.q k) r s*arF X k s c) (dmN X.d (tgN X.q k))-sgF (fun s=>G (tgN X.q k) r s*arF X k s c) (dmN X.d (tgN X.q k)):=j9_ fun s hs=>i9_ _ (e _ r s lt hr hs)
 have:=Int.dvd_sub (Int.dvd_add h1 e2) e1;refine (k2_ ?_).1 this;refine⟨0,by omega⟩
def flV (x y:List Int) (F:Nat→Nat→Nat→Int):Nat→Nat→Int
 | 0,_=>0
 | V+1,j=>if j<hOff x y V then flV x y F V j else F V ((j-hOff x y V) / dmN x V) ((j-hOff x y V) % dmN x V)
theorem d0J {x y:List Int} {F:Nat→Nat→Nat→Int} {v r c:Nat} (hr:r<dmN y v) (hc:c<dmN x v):∀ {V},v<V→flV x y F V (hOff x y v+r*dmN x v+c)=F v r c
 | V+1,h=>by
  rw[flV];by_cases e:v<V
  ·rw[if_pos (J6_ e hr hc)];exact d0J hr hc e
  ·obtain rfl:v=V:=by omega
   rw[if_neg (by omega),show hOff x y v+r*dmN x v+c-hOff x y v=r*dmN x v+c by omega,w1_ hc,w5_ hc]
def hmL (X Y:Rp):List (List Int):=kerL X.p.toNat (eqR X Y) (eqG X Y) (hmN X Y)
theorem Fit2.pN {X Y:Rp} (h:Fit2 X Y):((X.p.toNat:Nat):Int)=X.p:=by have:=h.p2;omega
theorem I4_ {X Y:Rp} (hf:Fit2 X Y) {x:List Int}:x∈hmL X Y↔IsV X.p.toNat (hmN X Y) x∧HmF X Y (vcF X Y (at0 x)):=by
 rw[hmL,d2_,hf.pN,d2z hf]
theorem b6X {X Y:Rp} (hf:Fit2 X Y):(hmL X Y).length=X.p.toNat ^ homN X Y:=by
 have hp:=(b8_.1 hf.hx).1;have hp2:=hf.p2;have hI:=Q2_ (x:=X) Y hp2.1;rw[←hf.pN]at hI hp;have h:=v6_ hp (by omega) hI (hmN X Y) (l_ _);have hrk:rkF X.p (eqR X Y) (hmN X Y) (eqG X Y)≤hmN X Y:=(s3_ _ _ _ _).2;have e:(rdTo ((X.p.toNat:Nat):Int) (eqR X Y) (eqG X Y) (hmN X Y)).2.length=rkF X.p (eqR X Y) (hmN X Y) (eqG X Y):=by rw[rkF,hf.pN]
 rw[e]at h;have h2:X.p.toNat ^ hmN X Y=X.p.toNat ^ homN X Y*X.p.toNat ^ rkF X.p (eqR X Y) (hmN X Y) (eqG X Y):=by
  rw[←Nat.pow_add,homN,Nat.sub_add_cancel hrk]
 rw[h2]at h;exact Nat.eq_of_mul_eq_mul_right (Nat.pow_pos (by omega)) h
theorem a4x {X Y:Rp} (hf:Fit2 X Y) {F:Nat→Nat→Nat→Int} (h:HmF X Y F):can X.p.toNat (hmN X Y) (flV X.d Y.d F X.d.length)∈hmL X Y∧EqF X Y (vcF X Y (at0 (can X.p.toNat (hmN X Y) (flV X.d Y.d F X.d.length)))) F:=by
 have hp2:=hf.p2;have e:EqF X Y (vcF X Y (at0 (can X.p.toNat (hmN X Y) (flV X.d Y.d F X.d.length)))) F:=fun v r c hv hr hc=>by
  have:=p3_ X.p.toNat (flV X.d Y.d F X.d.length) (k:=hmN X Y) (J6_ hv hr hc);rw[d0J hr hc hv,hf.pN]at this;exact this
 refine⟨(I4_ hf).2 ⟨V4_ (by omega) _ _,h.congr hf fun v r c hv hr hc=>cg_symmP (e v r c hv hr hc)⟩,e⟩
where
 cg_symmP {p a b:Int} (h:p∣a-b):p∣b-a:=by
  have:=Int.dvd_neg.2 h;rwa[show -(a-b)=b-a by omega]at this
theorem f6x {X Y:Rp} (hf:Fit2 X Y) {x y:List Int} (hx:IsV X.p.toNat (hmN X Y) x) (hy:IsV X.p.toNat (hmN X Y) y) (h:EqF X Y (vcF X Y (at0 x)) (vcF X Y (at0 y))):x=y :=
 P4_ hx hy fun t ht=>by
  obtain⟨v,i,j,hv,hi,hj,rfl⟩:=b0x ht;rw[hf.pN];exact h v i j hv hi hj
theorem R0_ {X Y:Rp} {F G:Nat→Nat→Nat→Int} (h:EqF X Y F G):EqF X Y G F:=fun v r c hv hr hc=>by
 have:=Int.dvd_neg.2 (h v r c hv hr hc);rwa[show -(F v r c-G v r c)=G v r c-F v r c by omega]at this
theorem r3_ {X Y:Rp} {F G H:Nat→Nat→Nat→Int} (h:EqF X Y F G) (k:EqF X Y G H):EqF X Y F H:=fun v r c hv hr hc=>by
 have:=Int.dvd_add (h v r c hv hr hc) (k v r c hv hr hc);rwa[show F v r c-G v r c+(G v r c-H v r c)=F v r c-H v r c by omega]at this
theorem Q4_ {X Y X' Y':Rp} (hf:Fit2 X Y) (hf':Fit2 X' Y') (hpp:X.p=X'.p) (Φ:(Nat→Nat→Nat→Int)→Nat→Nat→Nat→Int) (h1:∀ F,HmF X Y F→HmF X' Y' (Φ F))
  (h2:∀ F G,HmF X Y F→HmF X Y G→EqF X' Y' (Φ F) (Φ G)→EqF X Y F G):homN X Y≤homN X' Y':=by
 have hp2:=hf.p2;have hle:(hmL X Y).length≤(hmL X' Y').length:=by
  refine J8_ (φ:=fun x=>can X'.p.toNat (hmN X' Y') (flV X'.d Y'.d (Φ (vcF X Y (at0 x))) X'.d.length)) (j5_ _ _ _ _) (fun x hx y hy e=>?_) fun x hx=>?_
  ·obtain⟨vx,kx⟩:=(I4_ hf).1 hx;obtain⟨vy,ky⟩:=(I4_ hf).1 hy;refine f6x hf vx vy (h2 _ _ kx ky ?_);have e1:=(a4x hf' (h1 _ kx)).2;have e2:=(a4x hf' (h1 _ ky)).2;try simp only at e
   rw[e]at e1;exact r3_ (R0_ e1) e2
  ·obtain⟨_,kx⟩:=(I4_ hf).1 hx;exact (a4x hf' (h1 _ kx)).1
 rw[b6X hf,b6X hf',←hpp]at hle;rcases Nat.lt_or_ge (homN X' Y') (homN X Y) with h | h
 ·have:=Nat.pow_lt_pow_right (show 1<X.p.toNat by omega) h;omega
 ·exact h
theorem f3Q {X Y Z:Rp} (hf:Fit2 X Y) (hg:Fit2 Y Z) {F G:Nat→Nat→Nat→Int} (h:HmF X Y F) (k:HmF Y Z G):HmF X Z (cpF Y G F):=by
 intro a ha r c hr hc;have hq:=hf.hq;have hp:=hf.hp;have ha':a<Y.q.f.length:=by rw[←hq];exact ha
 have s1:sgF (fun s=>arF Z a r s*cpF Y G F (srN X.q a) s c) (dmN Z.d (srN X.q a))=sgF (fun t=>sgF (fun s=>arF Z a r s*G (srN X.q a) s t) (dmN Z.d (srN X.q a))*F (srN X.q a) t c) (dmN Y.d (srN X.q a)):=by
  rw[a5_ (b:=fun s=>sgF (fun t=>arF Z a r s*G (srN X.q a) s t*F (srN X.q a) t c) (dmN Y.d (srN X.q a))) fun s _=>?_,r6_]
  ·exact a5_ fun t _=>B2_ _ _ _
  ·rw[cpF,←p9_];exact a5_ fun t _=>by rw[Int.mul_assoc]
 have s2:sgF (fun t=>sgF (fun u=>G (tgN X.q a) r u*arF Y a u t) (dmN Y.d (tgN X.q a))*F (srN X.q a) t c) (dmN Y.d (srN X.q a))=sgF (fun u=>G (tgN X.q a) r u*sgF (fun t=>arF Y a u t*F (srN X.q a) t c) (dmN Y.d (srN X.q a))) (dmN Y.d (tgN X.q a)):=by
  rw[a5_ (b:=fun t=>sgF (fun u=>G (tgN X.q a) r u*(arF Y a u t*F (srN X.q a) t c)) (dmN Y.d (tgN X.q a))) fun t _=>?_,r6_]
  ·exact a5_ fun u _=>p9_ _ _ _
  ·rw[←B2_];exact a5_ fun u _=>by rw[Int.mul_assoc]
 have s3:sgF (fun s=>cpF Y G F (tgN X.q a) r s*arF X a s c) (dmN X.d (tgN X.q a))=sgF (fun u=>G (tgN X.q a) r u*sgF (fun s=>F (tgN X.q a) u s*arF X a s c) (dmN X.d (tgN X.q a))) (dmN Y.d (tgN X.q a)):=by
  rw[a5_ (b:=fun s=>sgF (fun u=>G (tgN X.q a) r u*(F (tgN X.q a) u s*arF X a s c)) (dmN Y.d (tgN X.q a))) fun s _=>?_,r6_]
  ·exact a5_ fun u _=>p9_ _ _ _
  ·rw[cpF,←B2_];exact a5_ fun u _=>by rw[Int.mul_assoc]
 have c1:X.p∣sgF (fun t=>sgF (fun s=>arF Z a r s*G (srN X.q a) s t) (dmN Z.d (srN X.q a))*F (srN X.q a) t c) (dmN Y.d (srN X.q a))-sgF (fun t=>sgF (fun u=>G (tgN X.q a) r u*arF Y a u t) (dmN Y.d (tgN X.q a))*F (srN X.q a) t c) (dmN Y.d (srN X.q a)):=j9_ fun t ht=>i9_ _ (by
  have:=k a ha' r t (by rw[←hq];exact hr) (by rw[←hq];exact ht);rwa[←hq,←hp]at this)
 have c2:X.p∣sgF (fun u=>G (tgN X.q a) r u*sgF (fun t=>arF Y a u t*F (srN X.q a) t c) (dmN Y.d (srN X.q a))) (dmN Y.d (tgN X.q a))-sgF (fun u=>G (tgN X.q a) r u*sgF (fun s=>F (tgN X.q a) u s*arF X a s c) (dmN X.d (tgN X.q a))) (dmN Y.d (tgN X.q a)):=j9_ fun u hu=>j2_ _ (h a ha u c hu hc)
 rw[s1,s3];rw[s2]at c1;have:=Int.dvd_add c1 c2;refine (k2_ ?_).1 this;exact⟨0,by omega⟩
theorem a3J (X Y:Rp) (H G F:Nat→Nat→Nat→Int) (v r c:Nat):cpF Y H (cpF X G F) v r c=cpF X (cpF Y H G) F v r c:=by
 show sgF (fun s=>H v r s*sgF (fun t=>G v s t*F v t c) (dmN X.d v)) (dmN Y.d v)=sgF (fun t=>sgF (fun s=>H v r s*G v s t) (dmN Y.d v)*F v t c) (dmN X.d v);rw[a5_ (b:=fun s=>sgF (fun t=>H v r s*G v s t*F v t c) (dmN X.d v)) fun s _=>?_,r6_]
 ·exact a5_ fun t _=>B2_ _ _ _
 ·rw[←p9_];exact a5_ fun t _=>by rw[Int.mul_assoc]
theorem c7j {X Y Z:Rp} (hp:X.p=Y.p) (hl:X.d.length=Y.d.length) {F F' G G':Nat→Nat→Nat→Int} (h:EqF X Y F F') (k:EqF Y Z G G'):EqF X Z (cpF Y G F) (cpF Y G' F'):=fun v r c hv hr hc=>by
 refine j9_ fun s hs=>?_
 have h1:=j2_ (G v r s) (h v s c hv hs hc);have h2:=i9_ (F' v s c) (k v r s (by omega) hr hs);rw[←hp]at h2;have:=Int.dvd_add h1 h2;rwa[show G v r s*F v s c-G v r s*F' v s c+(G v r s*F' v s c-G' v r s*F' v s c)=G v r s*F v s c-G' v r s*F' v s c by omega]at this
def idM (_ r c:Nat):Int:=idF r c
theorem f3q {X Y:Rp} (F:Nat→Nat→Nat→Int):EqF X Y (cpF Y idM F) F:=fun v r c _ hr _=>by
 have:cpF Y idM F v r c=F v r c:=by
  rw[cpF,a5_ (b:=fun s=>if s=r then F v s c else 0) fun s _=>?_,s7_ (h:=fun s=>F v s c) hr];unfold idM idF;by_cases e:r=s
  ·rw[if_pos e,if_pos e.symm,Int.one_mul]
  ·rw[if_neg e,if_neg fun h=>e h.symm,Int.zero_mul]
 rw[this,Int.sub_self];exact Int.dvd_zero _
theorem f3X {X Y:Rp} (F:Nat→Nat→Nat→Int):EqF X Y (cpF X F idM) F:=fun v r c _ _ hc=>by
 have:cpF X F idM v r c=F v r c:=by
  rw[cpF,a5_ (b:=fun s=>if s=c then F v r s else 0) fun s _=>?_,s7_ (h:=fun s=>F v r s) hc];unfold idM idF;by_cases e:s=c
  ·rw[if_pos e,if_pos e,Int.mul_one]
  ·rw[if_neg e,if_neg e,Int.mul_zero]
 rw[this,Int.sub_self];exact Int.dvd_zero _
structure IsoF (X Y:Rp) (F G:Nat→Nat→Nat→Int):Prop where
 fit:Fit2 X Y
 fwd:HmF X Y F
 bwd:HmF Y X G
 gf:EqF X X (cpF Y G F) idM
 fg:EqF Y Y (cpF X F G) idM
theorem Fit2.symm {X Y:Rp} (h:Fit2 X Y):Fit2 Y X:=⟨h.hy,h.hx,h.hp.symm,h.hq.symm⟩
theorem Fit2.rfl1 {X Y:Rp} (h:Fit2 X Y):Fit2 X X:=⟨h.hx,h.hx,rfl,rfl⟩
theorem Fit2.trans {X Y Z:Rp} (h:Fit2 X Y) (k:Fit2 Y Z):Fit2 X Z:=⟨h.hx,k.hy,h.hp.trans k.hp,h.hq.trans k.hq⟩
theorem IsoF.symm {X Y:Rp} {F G:Nat→Nat→Nat→Int} (h:IsoF X Y F G):IsoF Y X G F:=⟨h.fit.symm,h.bwd,h.fwd,h.fg,h.gf⟩
theorem K3_ {X Y:Rp} {F G:Nat→Nat→Nat→Int} (h:IsoF X Y F G) {Z:Rp} (hz:Fit2 Z X):homN Z X≤homN Z Y:=by
 have hl:=h.fit.len.1;have hl2:=hz.len.1;refine Q4_ hz (hz.trans h.fit) rfl (fun H=>cpF X F H) (fun H hH=>f3Q hz h.fit hH h.fwd) fun H K _ _ e=>?_
 have key:∀ H,EqF Z X (cpF Y G (cpF X F H)) H:=fun H=>by
  have a:EqF Z X (cpF X (cpF Y G F) H) (cpF X idM H):=c7j hz.hp hl2.symm (fun v r c _ _ _=>by rw[Int.sub_self];exact Int.dvd_zero _) h.gf;refine r3_ (fun v r c hv hr hc=>?_) (f3q H);rw[a3J];exact a v r c hv hr hc
 have b:EqF Z X (cpF Y G (cpF X F H)) (cpF Y G (cpF X F K)):=c7j (hz.hp.trans h.fit.hp) (by omega) e fun v r c _ _ _=>by rw[Int.sub_self];exact Int.dvd_zero _
 exact r3_ (R0_ (key H)) (r3_ b (key K))
theorem x9_ {X Y:Rp} {F G:Nat→Nat→Nat→Int} (h:IsoF X Y F G) {Z:Rp} (hz:Fit2 Y Z):homN Y Z≤homN X Z:=by
 have hl:=h.fit.len.1;have hl2:=hz.len.1;refine Q4_ hz (h.fit.trans hz) h.fit.hp.symm (fun H=>cpF Y H F) (fun H hH=>f3Q h.fit hz h.fwd hH) fun H K _ _ e=>?_
 have key:∀ H,EqF Y Z (cpF X (cpF Y H F) G) H:=fun H=>by
  have a:EqF Y Z (cpF Y H (cpF X F G)) (cpF Y H idM):=c7j rfl rfl h.fg fun v r c _ _ _=>by rw[Int.sub_self];exact Int.dvd_zero _
  refine r3_ (fun v r c hv hr hc=>?_) (f3X H);rw[←a3J];exact a v r c hv hr hc
 have b:EqF Y Z (cpF X (cpF Y H F) G) (cpF X (cpF Y K F) G):=c7j h.fit.hp.symm hl (fun v r c _ _ _=>by rw[Int.sub_self];exact Int.dvd_zero _) e;exact r3_ (R0_ (key H)) (r3_ b (key K))
theorem c3J {X Y:Rp} {F G:Nat→Nat→Nat→Int} (h:IsoF X Y F G):homN X Y=homN X X∧homN Y X=homN X X∧homN Y Y=homN X X:=by
 have hxx:=h.fit.rfl1;have hyy:=h.fit.symm.rfl1;have a1:=K3_ h hxx;have a2:=K3_ h.symm h.fit;have b1:=x9_ h h.fit.symm;have b2:=x9_ h.symm hxx;have c1:=x9_ h hyy;have c2:=x9_ h.symm h.fit;omega
theorem c1q {X Y:Rp} {F G:Nat→Nat→Nat→Int} (h:IsoF X Y F G) {v:Nat} (hv:v<X.d.length) {f:Nat→Nat→Int} (hI:InF X.p (dmN Y.d v) (dmN X.d v) f) (hf:∀ r c,r<dmN Y.d v→c<dmN X.d v→X.p∣f r c-F v r c):rkF X.p (dmN Y.d v) (dmN X.d v) f=dmN X.d v:=by
 have hp:=(b8_.1 h.fit.hx).1;have hp2:=h.fit.p2;have hpN:=h.fit.pN;have hI':=hI;rw[←hpN]at hI' hp;have hc:=v6_ hp (by omega) hI' (dmN X.d v) (l_ _);have one:(kerL X.p.toNat (dmN Y.d v) f (dmN X.d v)).length≤1:=by
  refine Nat.le_trans (q9_ (m:=[List.replicate (dmN X.d v) 0]) (j5_ _ _ _ _) fun x hx=>?_) (l_ _);obtain⟨hv1,hK⟩:=d2_.1 hx;rw[List.mem_singleton];refine P4_ hv1 ⟨by simp,fun e he=>by rw[List.eq_of_mem_replicate he];omega⟩ fun t ht=>?_
  have e0:at0 (List.replicate (dmN X.d v) (0:Int)) t=0:=by simp[at0,l1_,List.getElem?_replicate,ht]
  rw[e0,Int.sub_zero,hpN];rw[hpN]at hK;have g1:=h.gf v t;have k1:X.p∣sgF (fun c=>cpF Y G F v t c*at0 x c) (dmN X.d v):=by
   have e1:sgF (fun c=>cpF Y G F v t c*at0 x c) (dmN X.d v)=sgF (fun s=>G v t s*sgF (fun c=>F v s c*at0 x c) (dmN X.d v)) (dmN Y.d v):=by
    rw[a5_ (b:=fun c=>sgF (fun s=>G v t s*(F v s c*at0 x c)) (dmN Y.d v)) fun c _=>?_,r6_]
    ·exact a5_ fun s _=>p9_ _ _ _
    ·rw[cpF,←B2_];exact a5_ fun s _=>by rw[Int.mul_assoc]
   rw[e1];refine w9_ fun s hs=>Int.dvd_mul_of_dvd_right ?_
   have h1:=hK s hs;refine (k2_ ?_).1 h1;exact j9_ fun c hcc=>i9_ _ (hf s c hs hcc)
  have k2:X.p∣sgF (fun c=>cpF Y G F v t c*at0 x c) (dmN X.d v)-sgF (fun c=>idM v t c*at0 x c) (dmN X.d v):=j9_ fun c hcc=>i9_ _ (g1 c hv ht hcc)
  have k3:sgF (fun c=>idM v t c*at0 x c) (dmN X.d v)=at0 x t:=by
   rw[a5_ (b:=fun c=>if c=t then at0 x c else 0) fun c _=>?_,s7_ (h:=fun c=>at0 x c) ht];unfold idM idF;by_cases e:t=c
   ·rw[if_pos e,if_pos e.symm,Int.one_mul]
   ·rw[if_neg e,if_neg fun h=>e h.symm,Int.zero_mul]
  rw[k3]at k2;exact (k2_ k2).1 k1
 have e:(rdTo ((X.p.toNat:Nat):Int) (dmN Y.d v) f (dmN X.d v)).2.length=rkF X.p (dmN Y.d v) (dmN X.d v) f:=by rw[rkF,hpN]
 rw[e]at hc;have hle:rkF X.p (dmN Y.d v) (dmN X.d v) f≤dmN X.d v:=(s3_ _ _ _ _).2;have hpos:0<X.p.toNat ^ dmN X.d v:=Nat.pow_pos (by omega);have h1:(kerL X.p.toNat (dmN Y.d v) f (dmN X.d v)).length=1:=by
  rcases Nat.eq_zero_or_pos (kerL X.p.toNat (dmN Y.d v) f (dmN X.d v)).length with h0 | h0
  ·rw[h0,Nat.zero_mul]at hc;omega
  ·omega
 rw[h1,Nat.one_mul]at hc;exact (Nat.pow_right_inj (by omega)).1 hc
def zvec (g:Nat→Nat→Int) (ps:List Int) (j t:Nat):Int:=(if t=j then 1 else 0)-sgF (fun i=>if (t:Int)=ps.getD i 0 then g i j else 0) ps.length
theorem a2q {g:Nat→Nat→Int} {ps:List Int} {c j:Nat} (hj:j<c) (hps:∀ i,i<ps.length→∃ b:Nat,ps.getD i 0=(b:Int)∧b<c) (h:Nat→Int) :
  sgF (fun t=>h t*zvec g ps j t) c=h j-sgF (fun i=>g i j*h (ps.getD i 0).toNat) ps.length:=by
 have e1:sgF (fun t=>h t*zvec g ps j t) c=sgF (fun t=>(if t=j then h t else 0)-sgF (fun i=>if (t:Int)=ps.getD i 0 then h t*g i j else 0) ps.length) c:=by
  refine a5_ fun t _=>?_
  rw[zvec,Int.mul_sub,←p9_];congr 1
  ·split <;> simp
  ·exact a5_ fun i _=>by split <;> simp
 rw[e1,A0_,s7_ hj,r6_];congr 1
 refine a5_ fun i hi=>?_
 obtain⟨b,hb,hbc⟩:=hps i hi;rw[hb,a5_ (b:=fun t=>if t=b then h t*g i j else 0) fun t _=>by simp only[Int.natCast_inj],s7_ hbc,l5_,Int.mul_comm]
theorem V1_ {p:Int} {r c:Nat} {f:Nat→Nat→Int} (hp:f2_ p=true) (hp2:2≤p) (hf:InF p r c f) (i:Nat) (hi:i<(rdTo p r f c).2.length):∃ b:Nat,(rdTo p r f c).2.getD i 0=(b:Int)∧b<c∧∀ a,a<r→(rdTo p r f c).1 a b=if a=i then 1 else 0:=by
 obtain⟨b,h1,h2,h3⟩:=(G2_ hp hp2 hf c (l_ _)).pos i hi;exact⟨b,by rw[l1_,h1];rfl,h2,h3⟩
theorem d8j {p:Int} {r c:Nat} {f:Nat→Nat→Int} (hp:f2_ p=true) (hp2:2≤p) (hf:InF p r c f) {j:Nat} (hj:j<c):∀ a,a<r→p∣f a j-sgF (fun i=>(rdTo p r f c).1 i j*f a ((rdTo p r f c).2.getD i 0).toNat) (rdTo p r f c).2.length:=by
 have hps:∀ i,i<(rdTo p r f c).2.length→∃ b:Nat,(rdTo p r f c).2.getD i 0=(b:Int)∧b<c:=fun i hi=>by
  obtain⟨b,h1,h2,_⟩:=V1_ hp hp2 hf i hi;exact⟨b,h1,h2⟩
 have hk:Ker p r (rdTo p r f c).1 c (zvec (rdTo p r f c).1 (rdTo p r f c).2 j):=fun a ha=>by
  rw[a2q hj hps];have e:sgF (fun i=>(rdTo p r f c).1 i j*(rdTo p r f c).1 a ((rdTo p r f c).2.getD i 0).toNat) (rdTo p r f c).2.length=sgF (fun i=>if i=a then (rdTo p r f c).1 i j else 0) (rdTo p r f c).2.length:=a5_ fun i hi=>by
   obtain⟨b,h1,_,h3⟩:=V1_ hp hp2 hf i hi;rw[h1,l5_,h3 a ha];by_cases e:a=i
   ·rw[if_pos e,if_pos e.symm,Int.mul_one]
   ·rw[if_neg e,if_neg (fun h=>e h.symm),Int.mul_zero]
  rw[e];rcases Nat.lt_or_ge a (rdTo p r f c).2.length with h | h
  ·rw[s7_ (h:=fun i=>(rdTo p r f c).1 i j) h];exact⟨0,by omega⟩
  ·rw[a5_ (b:=fun _=>0) fun t ht=>if_neg (by omega),sg_0,(G2_ hp hp2 hf c (l_ _)).low a j h ha hj];exact⟨0,by omega⟩
 have hk2:=(z7_ hp hp2 hf c (l_ _) c _).1 hk;intro a ha;have:=hk2 a ha;rwa[a2q hj hps]at this
def trF (f:Nat→Nat→Int) (a b:Nat):Int:=f b a
def pvSF (f:Nat→Nat→Int) (ps:List Int) (a b:Nat):Int:=f b (ps.getD a 0).toNat
theorem c8x {p:Int} {r c:Nat} {f:Nat→Nat→Int} (hp:f2_ p=true) (hp2:2≤p) (hf:InF p r c f) (x:Nat→Int):Ker p c (trF f) r x↔Ker p (rdTo p r f c).2.length (pvSF f (rdTo p r f c).2) r x:=by
 constructor
 ·intro h i hi;obtain⟨b,h1,h2,_⟩:=V1_ hp hp2 hf i hi;have:=h b h2;rw[a5_ (b:=fun t=>trF f b t*x t) fun t _=>by rw[pvSF,h1,l5_];rfl];exact this
 ·intro h j hj;have e:p∣sgF (fun t=>trF f j t*x t) r-sgF (fun t=>sgF (fun i=>(rdTo p r f c).1 i j*(f t ((rdTo p r f c).2.getD i 0).toNat*x t)) (rdTo p r f c).2.length) r:=by
   refine j9_ fun t ht=>?_
   have:=i9_ (x t) (d8j hp hp2 hf hj t ht);rw[Int.mul_comm (sgF _ _) (x t),←p9_]at this;rw[a5_ (b:=fun i=>x t*((rdTo p r f c).1 i j*f t ((rdTo p r f c).2.getD i 0).toNat)) fun i _=>by rw[←Int.mul_assoc,Int.mul_comm (x t)]];exact this
  refine (k2_ e).2 ?_;rw[r6_];refine w9_ fun i hi=>?_
  rw[p9_];exact Int.dvd_mul_of_dvd_right (h i hi)
theorem O3_ {p:Int} {r c:Nat} {f:Nat→Nat→Int} (hf:InF p r c f):InF p c r (trF f):=fun a b ha hb=>hf b a hb ha
theorem d0Z {p:Int} {r c:Nat} {f:Nat→Nat→Int} (hp:f2_ p=true) (hp2:2≤p) (hf:InF p r c f):InF p (rdTo p r f c).2.length r (pvSF f (rdTo p r f c).2):=fun a b ha hb=>by
 obtain⟨b',h1,h2,_⟩:=V1_ hp hp2 hf a ha;rw[pvSF,h1,l5_];exact hf b b' hb h2
theorem d8x {p:Int} {r c:Nat} {f:Nat→Nat→Int} (hp:f2_ p=true) (hp2:2≤p) (hf:InF p r c f) :
  (rdTo p c (trF f) r).2=(rdTo p (rdTo p r f c).2.length (pvSF f (rdTo p r f c).2) r).2∧∀ i,i<(rdTo p c (trF f) r).2.length→∀ b,b<r→(rdTo p c (trF f) r).1 i b=(rdTo p (rdTo p r f c).2.length (pvSF f (rdTo p r f c).2) r).1 i b :=
 b5Q hp hp2 (O3_ hf) (d0Z hp hp2 hf) (c8x hp hp2 hf) r (l_ _)
def rsO (p:Int) (g:Nat→Nat→Int) (ps:List Int) (j:Nat):Nat→Nat→Int
 | 0,t=>if t=j then 1 else 0
 | i+1,t=>(rsO p g ps j i t+(p-rsO p g ps j i (ps.getD i 0).toNat)*g i t) % p
structure Piv (r c:Nat) (g:Nat→Nat→Int) (ps:List Int):Prop where
 at_:∀ i,i<ps.length→∃ b:Nat,ps.getD i 0=(b:Int)∧b<c∧∀ a,a<r→g a b=if a=i then 1 else 0
 len:ps.length≤r
theorem Piv.inj {r c:Nat} {g:Nat→Nat→Int} {ps:List Int} (h:Piv r c g ps) {i i':Nat} (hi:i<ps.length) (hi':i'<ps.length) (e:ps.getD i 0=ps.getD i' 0):i=i':=by
 obtain⟨b,h1,_,h3⟩:=h.at_ i hi;obtain⟨b',h1',_,h3'⟩:=h.at_ i' hi';have eb:b=b':=by rw[h1,h1']at e;exact Int.natCast_inj.1 e
 subst eb;have hl:=h.len;have u1:=h3 i (by omega);have u2:=h3' i (by omega);rw[if_pos rfl]at u1;by_cases e2:i=i'
 ·exact e2
 ·rw[if_neg e2]at u2;omega
theorem a8X {p:Int} {r c:Nat} {g:Nat→Nat→Int} {ps:List Int} (hp2:2≤p) (hg:InF p r c g) (h:Piv r c g ps) (j:Nat):∀ n,n≤ps.length →
  ((∀ i,i<n→ps.getD i 0≠(j:Int))∧∀ t,t<c→rsO p g ps j n t=if t=j then 1 else 0)∨(∃ i,i<n∧ps.getD i 0=(j:Int)∧∀ t,t<c→rsO p g ps j n t=((if t=j then 1 else 0)-g i t) % p)
 | 0,_ => .inl ⟨fun i hi=>absurd hi (by omega),fun t _=>rfl⟩
 | n+1,hn=>by
  obtain⟨b,hb,hbc,hb3⟩:=h.at_ n (by omega);have hl:=h.len;rcases a8X hp2 hg h j n (by omega) with ⟨h1,h2⟩ | ⟨i,hi,h1,h2⟩
  ·by_cases e:b=j
   ·refine .inr ⟨n,by omega,by rw[hb,e],fun t ht=>?_⟩;rw[rsO,hb,l5_,h2 b hbc,if_pos e,h2 t ht,Int.sub_mul,Int.one_mul,show (if t=j then (1:Int) else 0)+(p*g n t-g n t)=(if t=j then 1 else 0)-g n t+p*g n t by omega,Int.add_mul_emod_self_left]
   ·refine .inl ⟨fun i hi=>?_,fun t ht=>?_⟩
    ·rcases Nat.lt_or_ge i n with h3 | h3
     ·exact h1 i h3
     ·obtain rfl:i=n:=by omega
      rw[hb];intro e2;exact e (Int.natCast_inj.1 e2)
    ·rw[rsO,hb,l5_,h2 b hbc,if_neg e,h2 t ht,Int.sub_zero,Int.add_mul_emod_self_left];split
     ·exact Int.emod_eq_of_lt (by omega) (by omega)
     ·exact Int.emod_eq_of_lt (by omega) (by omega)
  ·refine .inr ⟨i,by omega,h1,fun t ht=>?_⟩;have hbj:b≠j:=by
    rintro rfl;have:=h.inj (i:=n) (i':=i) (by omega) (by omega) (by rw[hb,h1]);omega
   rw[rsO,hb,l5_,h2 b hbc,if_neg hbj,hb3 i (by omega),if_neg (by omega),h2 t ht];rw[show ((0:Int)-0) % p=0 by simp,Int.sub_zero,Int.add_mul_emod_self_left,Int.emod_emod_of_dvd _ (Int.dvd_refl p)]
theorem Z3_ {p:Int} (g:Nat→Nat→Int) (ps:List Int) (k j:Nat):∀ n,
  ((∀ i,i<n→ps.getD i 0≠(j:Int))∧kvG p g ps k n j=if j=k then 1 else 0)∨(∃ i,i<n∧ps.getD i 0=(j:Int)∧kvG p g ps k n j=(- g i k) % p)
 | 0 => .inl ⟨fun i hi=>absurd hi (by omega),rfl⟩
 | n+1=>by
  by_cases e:(j:Int)=ps.getD n 0
  ·exact .inr ⟨n,by omega,e.symm,by rw[kvG,if_pos e]⟩
  ·rw[kvG,if_neg e];rcases Z3_ g ps k j n with ⟨h1,h2⟩ | ⟨i,hi,h1,h2⟩
   ·refine .inl ⟨fun i hi=>?_,h2⟩;rcases Nat.lt_or_ge i n with h3 | h3
    ·exact h1 i h3
    ·obtain rfl:i=n:=by omega
     exact fun e2=>e e2.symm
   ·exact .inr ⟨i,by omega,h1,h2⟩
theorem d0j {p:Int} {r c:Nat} {g:Nat→Nat→Int} {ps:List Int} (hp2:2≤p) (hg:InF p r c g) (h:Piv r c g ps) {k j:Nat} (hk:k<c) (hkp:(k:Int) ∉ ps):rsO p g ps j ps.length k=kvG p g ps k ps.length j:=by
 have hne:∀ i,i<ps.length→ps.getD i 0=(j:Int)→j≠k:=by
  rintro i hi e rfl;refine hkp ?_;rw[←e,l1_,l2_ hi];exact List.getElem_mem hi
 rcases a8X hp2 hg h j ps.length (l_ _) with ⟨h1,h2⟩ | ⟨i,hi,h1,h2⟩
 ·rcases Z3_ (p:=p) g ps k j ps.length with ⟨h3,h4⟩ | ⟨i,hi,h3,_⟩
  ·rw[h2 k hk,h4];by_cases e:k=j
   ·rw[if_pos e,if_pos e.symm]
   ·rw[if_neg e,if_neg fun e2=>e e2.symm]
  ·exact absurd h3 (h1 i hi)
 ·rcases Z3_ (p:=p) g ps k j ps.length with ⟨h3,_⟩ | ⟨i',hi',h3,h4⟩
  ·exact absurd h1 (h3 i hi)
  ·obtain rfl:i=i':=h.inj hi hi' (h1.trans h3.symm);rw[h2 k hk,h4,if_neg (fun e=>hne i hi h1 e.symm),Int.zero_sub]
theorem S6_ {p:Int} {r c:Nat} {f:Nat→Nat→Int} (hp:f2_ p=true) (hp2:2≤p) (hf:InF p r c f):Piv r c (rdTo p r f c).1 (rdTo p r f c).2:=⟨V1_ hp hp2 hf,(f6_ p r f c).1⟩
theorem P8_ {ps:List Int} {h:Nat→Int}:∀ c,sgF (fun b=>if (b:Int)∈ps then 0 else h b) c=sgF (fun i=>h ((b2_ ps c).getD i 0).toNat) (b2_ ps c).length
 | 0=>rfl
 | c+1=>by
  have ih:=P8_ (ps:=ps) (h:=h) c;by_cases e:(c:Int)∈ps
  ·rw[q5_ (by simpa using e),sgF,if_pos e,ih];omega
  ·rw[n7_ (by simpa using e),List.length_append,List.length_singleton,sgF,sgF,if_neg e,ih];have e1:((b2_ ps c ++ [(c:Int)]).getD (b2_ ps c).length 0).toNat=c:=by simp
   rw[e1];congr 1
   refine a5_ fun i hi=>?_
   have e2:(b2_ ps c ++ [(c:Int)]).getD i 0=(b2_ ps c).getD i 0:=by rw[l1_,List.getElem?_append_left hi,l1_]
   rw[e2]
theorem Q8_ {p:Int} {g:Nat→Nat→Int} {ps:List Int} {k t:Nat}:∀ n,(∀ i,i<n→ps.getD i 0≠(t:Int))→kvG p g ps k n t=if t=k then 1 else 0
 | 0,_=>rfl
 | n+1,h=>by
  rw[kvG,if_neg fun e=>h n (by omega) e.symm];exact Q8_ n fun i hi=>h i (by omega)
theorem Y4_ {p:Int} {g:Nat→Nat→Int} {ps:List Int} {k t j:Nat} (hj:ps.getD j 0=(t:Int)):∀ n,j<n→(∀ i,i<n→i≠j→ps.getD i 0≠(t:Int))→kvG p g ps k n t=(- g j k) % p
 | n+1,h1,h2=>by
  rw[kvG];by_cases e:j=n
  ·subst e;rw[if_pos hj.symm]
  ·rw[if_neg fun h=>h2 n (by omega) (fun h=>e h.symm) h.symm];exact Y4_ hj n (by omega) fun i hi=>h2 i (by omega)
theorem b3j {r c:Nat} {g:Nat→Nat→Int} {ps:List Int} (h:Piv r c g ps) {t j:Nat} (hjl:j<ps.length) (ej:ps.getD j 0=(t:Int)) (ht:t<c) (x:Nat→Int) :
  sgF (fun b=>g j b*x b) c=x t+sgF (fun i=>g j ((b2_ ps c).getD i 0).toNat*x ((b2_ ps c).getD i 0).toNat) (b2_ ps c).length:=by
 rw[←P8_ (ps:=ps) (h:=fun b=>g j b*x b) c];have e3:sgF (fun b=>if b=t then x b else 0) c=x t:=s7_ (h:=x) ht;rw[←e3,←L2_];have hm:(t:Int)∈ps:=by
  rw[←ej,l1_,l2_ hjl];exact List.getElem_mem hjl
 refine a5_ fun b hb=>?_
 by_cases hbm:(b:Int)∈ps
 ·obtain⟨i,hi⟩:=List.mem_iff_getElem?.1 hbm;have hil:=b0_ hi;have ei:ps.getD i 0=(b:Int):=by rw[l1_,hi];rfl
  obtain⟨b',eb,_,hg⟩:=h.at_ i hil;rw[ei]at eb;have:b=b':=by omega
  subst this;rw[hg j (Nat.lt_of_lt_of_le hjl h.len),if_pos hbm];by_cases e:j=i
  ·subst e;rw[ej]at ei;have:t=b:=by omega
   rw[if_pos rfl,if_pos this.symm];omega
  ·rw[if_neg e,if_neg fun e4=>e (h.inj hjl hil (by rw[ej,ei,e4]))];omega
 ·have hne:¬ b=t:=fun e=>hbm (by rw[e];exact hm)
  rw[if_neg hbm,if_neg hne];omega
theorem a4j {p:Int} {r c:Nat} {g:Nat→Nat→Int} {ps:List Int} (h:Piv r c g ps) {x:Nat→Int} (hx:Ker p r g c x) {t:Nat} (ht:t<c) :
  p∣x t-sgF (fun i=>x ((b2_ ps c).getD i 0).toNat*kvG p g ps ((b2_ ps c).getD i 0).toNat ps.length t) (b2_ ps c).length:=by
 by_cases hm:(t:Int)∈ps
 ·obtain⟨j,hj⟩:=List.mem_iff_getElem?.1 hm;have hjl:=b0_ hj;have ej:ps.getD j 0=(t:Int):=by rw[l1_,hj];rfl
  have hkv:∀ k,kvG p g ps k ps.length t=(- g j k) % p:=fun k=>Y4_ ej _ hjl fun i hi hne e=>hne (h.inj hi hjl (e.trans ej.symm))
  have h1:p∣sgF (fun i=>x ((b2_ ps c).getD i 0).toNat*kvG p g ps ((b2_ ps c).getD i 0).toNat ps.length t) (b2_ ps c).length-sgF (fun i => - (g j ((b2_ ps c).getD i 0).toNat*x ((b2_ ps c).getD i 0).toNat)) (b2_ ps c).length:=j9_ fun i _=>by
   rw[hkv];have:=j2_ (x ((b2_ ps c).getD i 0).toNat) (v3_ p (- g j ((b2_ ps c).getD i 0).toNat));rwa[show x ((b2_ ps c).getD i 0).toNat*- g j ((b2_ ps c).getD i 0).toNat =-(g j ((b2_ ps c).getD i 0).toNat*x ((b2_ ps c).getD i 0).toNat) by rw[Int.mul_neg,Int.mul_comm]]at this
  have h2:=hx j (Nat.lt_of_lt_of_le hjl h.len);have e2:=b3j h hjl ej ht x;rw[e2]at h2;have e4:sgF (fun i => - (g j ((b2_ ps c).getD i 0).toNat*x ((b2_ ps c).getD i 0).toNat)) (b2_ ps c).length =-sgF (fun i=>g j ((b2_ ps c).getD i 0).toNat*x ((b2_ ps c).getD i 0).toNat) (b2_ ps c).length:=by
   have:=p9_ (-1) (fun i=>g j ((b2_ ps c).getD i 0).toNat*x ((b2_ ps c).getD i 0).toNat) (b2_ ps c).length;rw[Int.neg_mul,Int.one_mul]at this;rw[←this];exact a5_ fun i _=>by rw[Int.neg_mul,Int.one_mul]
  rw[e4]at h1;have:=Int.dvd_sub h2 h1;refine (k2_ ?_).1 this;exact⟨0,by omega⟩
 ·have e1:sgF (fun i=>x ((b2_ ps c).getD i 0).toNat*kvG p g ps ((b2_ ps c).getD i 0).toNat ps.length t) (b2_ ps c).length=x t:=by
   rw[←P8_ (ps:=ps) (h:=fun b=>x b*kvG p g ps b ps.length t) c];rw[a5_ (b:=fun b=>if b=t then x b else 0) fun b hb=>?_]
   ·exact s7_ (h:=x) ht
   ·have hk:=Q8_ (p:=p) (g:=g) (ps:=ps) (k:=b) (t:=t) ps.length fun i hi e=>hm (by rw[←e,l1_,l2_ hi];exact List.getElem_mem hi)
    by_cases e:b=t
    ·subst e;rw[if_neg hm,if_pos rfl,hk,if_pos rfl,Int.mul_one]
    ·have e':¬ t=b:=fun h=>e h.symm
     rw[if_neg e,hk,if_neg e',Int.mul_zero,ite_self]
  rw[e1,Int.sub_self];exact Int.dvd_zero _
def dgtN (p n code i:Nat):Nat:=code / p ^ (n-1-i) % p
theorem f5Z {p:Nat} (hp:2≤p):∀ (n:Nat) (d:Nat→Nat),(∀ i,i<n→d i<p)→∃ code,code<p ^ n∧∀ i,i<n→dgtN p n code i=d i
 | 0,_,_=>⟨0,by simp,fun i hi=>absurd hi (by omega)⟩
 | n+1,d,h=>by
  obtain⟨c,hc,hd⟩:=f5Z hp n d fun i hi=>h i (by omega)
  have hn:=h n (by omega);have hdiv:(c*p+d n) / p=c:=by
   rw[Nat.mul_comm,Nat.mul_add_div (by omega),Nat.div_eq_of_lt hn];rfl
  refine⟨c*p+d n,?_,fun i hi=>?_⟩
  ·rw[Nat.pow_succ];have:(c+1)*p≤p ^ n*p:=Nat.mul_le_mul_right _ hc;rw[Nat.add_mul]at this;omega
  ·unfold dgtN;by_cases e:i=n
   ·subst e;rw[show i+1-1-i=0 by omega,Nat.pow_zero,Nat.div_one,Nat.mul_comm,Nat.mul_add_mod,Nat.mod_eq_of_lt hn]
   ·have hin:i<n:=by omega
    have:=hd i hin;unfold dgtN at this;rw[show n+1-1-i=1+(n-1-i) by omega,Nat.pow_add,Nat.pow_one,←Nat.div_div_eq_div_mul,hdiv,this]
def nbF (p:Int) (B:List (List Int)) (d:Nat→Int):Nat→Nat→Int
 | 0,_=>0
 | i+1,j=>(nbF p B d i j+d i*(B.getD i []).getD j 0) % p
theorem d1j {p:Int} (B:List (List Int)) (d:Nat→Int) (j:Nat):∀ n,p∣nbF p B d n j-sgF (fun i=>d i*(B.getD i []).getD j 0) n
 | 0=>by simp[nbF,sgF]
 | n+1=>by
  have ih:=d1j (p:=p) B d j n;simp only[nbF,sgF];have h1:=v3_ p (nbF p B d n j+d n*(B.getD n []).getD j 0);have:=Int.dvd_add h1 ih;rwa[show (nbF p B d n j+d n*(B.getD n []).getD j 0) % p-(nbF p B d n j+d n*(B.getD n []).getD j 0)+(nbF p B d n j-sgF (fun i=>d i*(B.getD i []).getD j 0) n)=(nbF p B d n j+d n*(B.getD n []).getD j 0) % p-(sgF (fun i=>d i*(B.getD i []).getD j 0) n+d n*(B.getD n []).getD j 0) by omega]at this
theorem X1_ {p:Int} (hp:2≤p) (B:List (List Int)) (d:Nat→Int) (j:Nat):∀ n,0≤nbF p B d n j∧nbF p B d n j≤p-1
 | 0=>by simp only[nbF];omega
 | n+1=>g6_ hp
theorem S0_ (p:Int) (r:Nat) (f:Nat→Nat→Int):∀ k,(b2_ (rdTo p r f k).2 k).length+(rdTo p r f k).2.length=k
 | 0=>by simp[rdTo,b2_]
 | k+1=>by
  have ih:=S0_ p r f k;have hm:=G8_ p r f k;rw[C0_];split
  ·simp only;have e:b2_ ((rdTo p r f k).2 ++ [(k:Int)]) (k+1)=b2_ (rdTo p r f k).2 k:=by
    rw[q5_ (by simp)];unfold b2_;refine List.filter_congr fun u hu=>?_
    simp only[List.mem_map,List.mem_range]at hu;obtain⟨n,hn,rfl⟩:=hu;have:¬ (n:Int)=(k:Int):=by omega
    simp[this]
   rw[e,List.length_append,List.length_singleton];omega
  ·try simp only
   rw[n7_ (by simp only[decide_eq_false_iff_not];intro h;have:=hm _ h;omega),List.length_append,List.length_singleton];omega
def hbB (X Y:Rp):List (List Int):=kerR X.p (eqR X Y) (hmN X Y) (eqG X Y)
theorem b4z (X Y:Rp):(hbB X Y).length=homN X Y:=by
 have h:=S0_ X.p (eqR X Y) (eqG X Y) (hmN X Y);rw[hbB,kerR,j1_,homN,rkF];omega
def nbM (X Y:Rp) (code:Nat):Nat→Int:=nbF X.p (hbB X Y) (fun i=>(dgtN X.p.toNat (homN X Y) code i:Int)) (homN X Y)
theorem f0x {X Y:Rp} (hf:Fit2 X Y) {F:Nat→Nat→Nat→Int} (h:HmF X Y F):∃ code,code<X.p.toNat ^ homN X Y∧EqF X Y (vcF X Y (nbM X Y code)) F:=by
 have hp:=(b8_.1 hf.hx).1;have hp2:=hf.p2;have hpN:=hf.pN;have hI:=Q2_ (x:=X) Y hp2.1;obtain⟨hm,he⟩:=a4x hf h;obtain⟨x,hx⟩:=e_ (can X.p.toNat (hmN X Y) (flV X.d Y.d F X.d.length));rw[hx]at hm he;obtain⟨hv,hk⟩:=(I4_ hf).1 hm;have hK:Ker X.p (eqR X Y) (eqG X Y) (hmN X Y) (at0 x):=(d2z hf _).2 hk;obtain⟨g,hg⟩:=e_ ((rdTo X.p (eqR X Y) (eqG X Y) (hmN X Y)).1);obtain⟨ps,hps⟩:=e_ ((rdTo X.p (eqR X Y) (eqG X Y) (hmN X Y)).2);have hP:=S6_ hp hp2.1 hI;have hKg:=(z7_ hp hp2.1 hI (hmN X Y) (l_ _) (hmN X Y) (at0 x)).2 hK;have hB:hbB X Y=kerM X.p (hmN X Y) g ps (b2_ ps (hmN X Y)):=by rw[hbB,kerR,hg,hps]
 have hN:(b2_ ps (hmN X Y)).length=homN X Y:=by rw[←b4z,hB,j1_]
 rw[hg,hps]at hP;rw[hg]at hKg;have hcb:∀ t,t<hmN X Y→X.p∣at0 x t-sgF (fun i=>at0 x ((b2_ ps (hmN X Y)).getD i 0).toNat*kvG X.p g ps ((b2_ ps (hmN X Y)).getD i 0).toNat ps.length t) (b2_ ps (hmN X Y)).length:=fun t ht=>a4j hP hKg ht
 rw[hN]at hcb;have hfl:∀ i,i<homN X Y→((b2_ ps (hmN X Y)).getD i 0).toNat<hmN X Y:=fun i hi=>by
  have hi':i<(b2_ ps (hmN X Y)).length:=by omega
  obtain⟨n,e,hn,_⟩:=y4_ (l2_ hi');rw[l1_,l2_ hi',Option.getD_some,e];simpa using hn
 obtain⟨code,hc,hd⟩:=f5Z (p:=X.p.toNat) (by omega) (homN X Y) (fun i=>(at0 x ((b2_ ps (hmN X Y)).getD i 0).toNat).toNat) fun i hi=>by
  have:=v_at hv (hfl i hi);omega
 refine⟨code,hc,fun v r c hvl hr hcc=>?_⟩;have ht:=J6_ (x:=X.d) (y:=Y.d) hvl hr hcc;have h1:=d1j (p:=X.p) (hbB X Y) (fun i=>(dgtN X.p.toNat (homN X Y) code i:Int)) (hOff X.d Y.d v+r*dmN X.d v+c) (homN X Y);have e1:sgF (fun i=>(dgtN X.p.toNat (homN X Y) code i:Int)*((hbB X Y).getD i []).getD (hOff X.d Y.d v+r*dmN X.d v+c) 0) (homN X Y)=sgF (fun i=>at0 x ((b2_ ps (hmN X Y)).getD i 0).toNat*kvG X.p g ps ((b2_ ps (hmN X Y)).getD i 0).toNat ps.length (hOff X.d Y.d v+r*dmN X.d v+c)) (homN X Y):=a5_ fun i hi=>by
  have hi':i<(b2_ ps (hmN X Y)).length:=by omega
  have a1:=v_at hv (hfl i hi);have a2:(dgtN X.p.toNat (homN X Y) code i:Int)=at0 x ((b2_ ps (hmN X Y)).getD i 0).toNat:=by rw[hd i hi];omega
  have a3:((hbB X Y).getD i []).getD (hOff X.d Y.d v+r*dmN X.d v+c) 0=kvG X.p g ps ((b2_ ps (hmN X Y)).getD i 0).toNat ps.length (hOff X.d Y.d v+r*dmN X.d v+c):=by
   have e5:(kerM X.p (hmN X Y) g ps (b2_ ps (hmN X Y))).getD i []=rowF (hmN X Y) (kvG X.p g ps ((b2_ ps (hmN X Y)).getD i 0).toNat ps.length):=by
    rw[kerM,l1_,List.getElem?_map,l1_,l2_ hi'];rfl
   rw[hB,e5];exact c9_ _ ht
  rw[a2,a3]
 rw[e1]at h1;have h2:=hcb _ ht;have h3:=he v r c hvl hr hcc;show X.p∣nbM X Y code (hOff X.d Y.d v+r*dmN X.d v+c)-F v r c;have h3':X.p∣at0 x (hOff X.d Y.d v+r*dmN X.d v+c)-F v r c:=h3;have k2:=Int.dvd_add (Int.dvd_sub h1 h2) h3';refine (k2_ ?_).1 k2;unfold nbM;exact⟨0,by omega⟩
theorem c2x {X Y:Rp} {F G:Nat→Nat→Nat→Int} (h:IsoF X Y F G):∃ code,code<X.p.toNat ^ homN X Y∧∀ v,v<X.d.length→rkF X.p (dmN Y.d v) (dmN X.d v) (fun r c=>nbM X Y code (hOff X.d Y.d v+r*dmN X.d v+c))=dmN X.d v:=by
 have hp2:=h.fit.p2;obtain⟨code,hc,he⟩:=f0x h.fit h.fwd;exact⟨code,hc,fun v hv=>c1q h hv (fun r c _ _=>X1_ hp2.1 _ _ _ _) fun r c hr hcc=>he v r c hv hr hcc⟩
theorem x4_ (c:Nat) (u:Value) (l:List Int) (w0:World) (hc:c≤1000) (hu:SlI w0 w0.heap.size u l) :
  Calls Tryz.prog 76 #[.int .i64 c,u] w0 fun e w'=>∃ v,e = .returned v∧a9_ w' w0.heap.size w'.heap.size v (b2_ l c)∧Below w0.heap.size w0 w':=by
 have hu1:=hu;obtain⟨A,ac,rfl,_⟩:=hu1;have HU:=h_ hu;clear hu;obtain⟨ll,hll⟩:=e_ (l.length);rw[hll]at HU⊢;clear hll;go_enter Tryz.func76,Tryz.ntmps76
 go_wp2;go_loopw [5,8] (fun out i wr=>∃ k:Nat,k≤c∧i = .int .i64 k∧OwnI wr w0.heap.size out (b2_ l k)∧Below w0.heap.size w0 wr) (fun _ i _=>c-(intOf i).toNat)
 case atStart=>exact⟨0,l0_ _,rfl,OwnI.nil _ _,Below.refl _ _⟩
 case round =>
  obtain⟨k,hk,rfl,ho,hb⟩:=hrel;have s0:=hb.size;by_cases hlt:k<c
  ·obtain⟨OA,oc,rfl,_,_⟩:=ho.form;go_wp2_with fail
   refine (x6_ _ l k _ (SlI.more s0 (SlI.below hb HU.out))).mono ?_;rintro e w1 ⟨rfl,hww⟩;replace hww:=hww.symm;subst hww;rcases hd:decide ((k:Int)∈l) with _ | _
   ·have HN:=h_ (n7_ hd);have hfl:=d7_ l k;have HO:=h_ ho;have HB:=h_ hb;have hlo2:=ho.lt;clear hd ho hb
    (go_wp2_with (at_builtin;refine Hold.stop ?_));unfold Hold
    obtain⟨X,hX⟩:∃ X,X=wr.alloc (.cells #[.int .i64 (k:Int)] 3):=⟨_,rfl⟩;have gn:Below wr.heap.size wr X:=by rw[hX];exact a2_ _ _
    have h1x:SlI X X.heap.size (.slice (some ⟨wr.heap.size,0,none⟩) 1 1) [(k:Int)]:=by rw[hX];exact SlI.one _ _ _ (by simp only[I64];omega)
    have ho3:=(HO.out).below gn;have gns:=gn.size;rw[←hX];clear hX;refine c3_ rfl (.tmp 15) (.tmp 17) rfl w0.heap.size X.heap.size _ _ rfl ho3 _ 1 1 [(k:Int)] rfl rfl h1x (by simp;omega) (by omega) ?_;intro v' w' h1 h2 h3;rw[←HN.out]at h1;have hbX:=b9_ h2 (B:=w0.heap.size) (fun k hk=>(hlo2 k hk).1) (by omega);have H1:=h_ h1;have G1:=h_ ((HB.out).trans ((gn.mono s0).trans hbX));clear h1 h2 h3 hbX gn ho3 h1x;go_wp2;go_roundw
    case rel=>exact⟨k+1,by omega,by go_num,H1.out,G1.out⟩
    case measure=>simp[intOf];omega
   ·have HN:=h_ (q5_ hd);have HO:=h_ ho;have HB:=h_ hb;clear hd ho hb;go_wp2;go_roundw
    case rel=>exact⟨k+1,by omega,by go_num,by rw[HN.out];exact HO.out,HB.out⟩
    case measure=>simp[intOf];omega
  ·obtain rfl:k=c:=by omega
   go_wp2;go_ret
   exact⟨_,rfl,a9_.of_own ho,hb⟩
theorem SlI.atM {w:World} {B n c:Nat} {A:Option Addr} {xs:List Int} {k:Nat} (h:SlI w B (.slice A n c) xs) (hn:xs.length=n) (hk:k<n) :
  ∃ b o x,A=some ⟨b,o,none⟩∧b<B∧Hid (xs[k]?=some x)∧w.cell? ⟨b,o+k,none⟩=some (.int .i64 x)∧-9223372036854775808≤x∧x≤9223372036854775807:=by
 subst hn;exact SlI.at_ h hk
theorem d8Z {p:Int} {r c:Nat} {f:Nat→Nat→Int} (hp:f2_ p=true) (hp2:2≤p) (hf:InF p r c f):∀ (j:Nat) (x:Int),(rdTo p r f c).2[j]?=some x→∃ b:Nat,x=(b:Int)∧b<c:=by
 intro j x hx;obtain⟨b,h1,h2,_⟩:=(G2_ hp hp2 hf c (l_ _)).pos j (b0_ hx);rw[h1]at hx;injection hx with hx
 exact⟨b,hx.symm,h2⟩
theorem N8_ (p:Int) (u:Value) (r c:Nat) (f:Nat→Nat→Int) (w0:World) (hp:f2_ p=true) (hr:r≤1000) (hc:c≤1000) (hu:MxR w0 w0.heap.size u (mxF r c f)) (hf:InF p r c f) :
  Calls Tryz.prog 26 #[.int .i64 p,u] w0 fun e w'=>∃ v,e = .returned v∧b1_ w' w0.heap.size w'.heap.size v (kerR p r c f)∧Below w0.heap.size w0 w':=by
 have hpr:=f4_ hp;have hu':=hu;obtain⟨UA,uc,rfl⟩:=hu.form;simp only[mxF]at hu hu'⊢;rw[a0_]at hu hu'⊢;obtain⟨UL,hUL⟩:=e_ (r*c);rw[hUL]at hu hu'⊢;have HUL:=h_ hUL;clear hUL hu;obtain⟨W,hW,g0,kB⟩:=b_3 w0 #[.int .i64 r,.int .i64 c,.slice UA UL uc] 41;have HU:=h_ (MxR.next g0 hu');have HF:=h_ hf;have HP:=h_ hp;have sW:W.heap.size=w0.heap.size+1:=by rw[hW];simp
 have SW:=h_ sW;obtain⟨c0,c1,c2⟩:=c_3 kB;clear hu' hf hp sW;go_enter Tryz.func26,Tryz.ntmps26
 go_wp2_with fail
 rw[←hW];clear hW;refine (t3_ p _ r c f _ HP.out hr hc HU.out HF.out).mono ?_;rintro e w1 ⟨m,v,rfl,hM,hI,hb1⟩;have HPS:=h_ (d8Z HP.out hpr.1 HF.out);have HG:=h_ (p6_ hpr.1 HF.out c);have hpl:=f6_ p r f c;have HK:=h_ (show kerR p r c f=kerM p c (rdTo p r f c).1 (rdTo p r f c).2 (b2_ (rdTo p r f c).2 c) from rfl);obtain⟨g,hg⟩:=e_ ((rdTo p r f c).1);obtain⟨ps,hps⟩:=e_ ((rdTo p r f c).2);rw[hg]at hM HG HK;rw[hps]at hI HPS hpl HK;clear hg hps;obtain⟨MA,mc,em⟩:=hM.form;obtain⟨PA,pc,ev⟩:=hI.form;subst em ev;simp only[mxF]at hM⊢;rw[a0_]at hM⊢;rw[HUL.out]at hM⊢;obtain⟨pn,hpn⟩:=e_ (ps.length);rw[hpn]at hI hpl⊢;have HPN:=h_ hpn;clear hpn c0 c1 c2;obtain⟨W2,hW2,ga,kM⟩:=b_1 w1 #[.int .i64 r,.int .i64 c,.slice MA UL mc] 41;have g12:=a6_ hb1 ga;have kB2:=kB.call g12;have c1:=kB2.cell' (i:=1) rfl;have HM:=h_ (hM.below ga).rd;have HI:=h_ (hI.below ga).rd;have G2:=h_ (a6_ g0 g12);have s12:=g12.size;clear hM hI ga hb1 g12 g0;go_wp2_with fail
 clear hW2 c1 kB;refine (x4_ c _ ps _ hc HI.out).mono ?_;rintro e w3 ⟨v3,rfl,hF,hb3⟩;obtain⟨FA,fc,ev⟩:=hF.form;subst ev;have HFV:=h_ (fun (j:Nat) (x:Int) (hx:(b2_ ps c)[j]?=some x)=>y4_ hx);have hfl:=d7_ ps c;obtain⟨L,hL⟩:=e_ (b2_ ps c);rw[hL]at hF HFV HK hfl⊢;obtain⟨n,hn⟩:=e_ (L.length);rw[hn]at hF hfl⊢;have HN:=h_ hn;have HLF:=h_ hF.rd;have kB3:=kB2.call hb3;have kM3:=kM.call hb3;have HM3:=h_ (MxR.next hb3 HM.out);have HI3:=h_ (SlI.next hb3 HI.out);have G3:=h_ (a6_ G2.out hb3);have lB:=kB3.lt;have lM:=kM3.lt;clear hL hn hF hb3 kM kB2;go_wp2;go_loopw [7,24] (fun out i wr=>∃ k:Nat,k≤n∧i = .int .i64 k∧b1_ wr w3.heap.size wr.heap.size out (kerM p c g ps (L.take k))∧Below w3.heap.size w3 wr) (fun _ i _=>n-(intOf i).toNat)
 case atStart=>exact⟨0,l0_ _,rfl,b1_.nil _ _ _,Below.refl _ _⟩
 case round =>
  obtain⟨k,hk,rfl,hO,hb⟩:=hrel;have s3:=hb.size;obtain⟨OA,oc,eo,_,_,_⟩:=hO.form2;have hkl:(kerM p c g ps (L.take k)).length=k:=by rw[j1_,List.length_take,HN.out];omega
  rw[hkl]at eo;subst eo;by_cases hlt:k<n
  ·obtain⟨bf,of_,x,ef,hbf,HX,f1,_⟩:=SlI.atM (k:=k) HLF.out HN.out hlt;subst ef;obtain⟨fk,rfl,hfk,_⟩:=HFV.out k x HX.out;have z1:=a7_ hb hbf f1;have kBr:=kB3.call hb;have c1:=kBr.cell' (i:=1) rfl;obtain⟨w5,hw5⟩:∃ z,z=wr:=⟨_,rfl⟩;subst hw5;have hmkX:=R9_ w5 (n:=c) (by omega);obtain⟨X,hX⟩:=e_ (w5.alloc (.cells (g8_ (.int .i64 0) c) 3));have bX:Below w5.heap.size w5 X:=by rw[←hX];exact a2_ _ _
   have rX:a9_ X w5.heap.size X.heap.size (.slice (some ⟨w5.heap.size,0,none⟩) c c) (List.replicate c 0):=by rw[←hX];exact a9_.of_own (OwnI.made0 (l_ _) (by omega))
   rw[hX]at hmkX;obtain⟨G,hG⟩:=e_ (w5.heap.size);have cX:=(rX.1.cellG (j:=fk) (by simp;omega)).1;have fX:=rX.1.frozenG fk;have rY:=rX.put (j:=fk) (x:=1) (by unfold I64;omega);rw[f1z p g ps]at rY;obtain⟨Y,hY⟩:=e_ (X.setCell ⟨w5.heap.size,fk,none⟩ (.int .i64 1));have hcY:Chg G (G+1) X Y:=by rw[←hY,hG];exact b4_ (l_ _) (m0_ _)
   have sX:X.heap.size=G+1:=by rw[←hX,←hG];simp
   have hs3G:w3.heap.size≤G:=by omega
   have bY:Below w5.heap.size w5 Y:=bX.trans (hcY.below (by omega) (by omega));rw[hY,hG,sX]at rY;have BY:=h_ (hb.trans (bY.mono (by omega)));have HO:=h_ ((hO.below bX).chg hcY (.inl (by omega)));rw[hG]at HO;have sY:G+1≤Y.heap.size:=by have:=hcY.size;omega
   have RY:=h_ rY;clear rX rY bX hcY bY sX hO hb f1 kBr;rw[hG]at hmkX cX fX hY;go_wp2;clear hX hY cX fX hmkX c1 z1 hG;go_loopw [36] (fun i wr=>∃ j:Nat,j≤pn∧i = .int .i64 j∧Below w3.heap.size w3 wr∧b1_ wr w3.heap.size G (.slice OA k oc) (kerM p c g ps (L.take k))∧a9_ wr G (G+1) (.slice (some ⟨G,0,none⟩) c c) (rowF c (kvG p g ps fk j))∧G+1≤wr.heap.size) (fun i _=>pn-(intOf i).toNat)
   case atStart=>exact⟨0,l0_ _,rfl,BY.out,HO.out,RY.out,sY⟩
   case round =>
    clear BY HO RY sY;obtain⟨j,hj,rfl,hb,hO,hR,hs⟩:=hrel;have s4:=hb.size;by_cases hjl:j<pn
    ·obtain⟨bp,op,x,ep,hbp,HXP,p1,_⟩:=SlI.atM (k:=j) HI3.out HPN.out hjl;subst ep;obtain⟨pk,rfl,hpk⟩:=HPS.out j x HXP.out;have z1:=a7_ hb hbp p1;have kMr:=kM3.call hb;obtain⟨m0,m1,m2⟩:=c_3 kMr;have HMr:=h_ (MxR.next hb HM3.out);have HB:=h_ hb;have HO:=h_ hO;have HR:=h_ hR;clear hb hO hR p1 kMr;go_wp2_with fail
     refine (W9_ _ r c j g _ HMr.out hr hc (by omega)).mono ?_;rintro e w6 ⟨v6,rfl,hS,hb6⟩;have hS1:=hS;obtain⟨VA,vc,ev,_⟩:=hS1;rw[a1_]at ev;subst ev;obtain⟨bv,ov,x,ev,hbv,HXV,v1,_⟩:=SlI.atM (k:=fk) hS (a1_ _ _) hfk;subst ev;have hxv:=HXV.out;rw[d1_ _ hfk]at hxv;injection hxv with hxv
     subst hxv;have hgr:=HG.out j fk (by omega) hfk;have e1:wrap64 (p-g j fk)=p-g j fk:=IntWalk.wrap64_in _ ⟨by omega,by omega⟩;have e2:=c5X hpr.1 hgr;have hgm:=g6_ (p:=p) (x:=- g j fk) hpr.1;have hR6:=HR.out.below hb6;have cX:=(hR6.1.cellG (j:=pk) (by rw[a1_];exact hpk)).1;have fX:=hR6.1.frozenG pk;have rY:=hR6.put (j:=pk) (x:=(- g j fk) % p) (by unfold I64;omega);rw[b6x HXP.out]at rY;have RY:=h_ rY;obtain⟨Y,hY⟩:=e_ (w6.setCell ⟨G,pk,none⟩ (.int .i64 ((- g j fk) % p)));have hcY:Chg G (G+1) w6 Y:=by rw[←hY];exact b4_ (l_ _) (m0_ _)
     have s6:=hb6.size;have sY:=hcY.size;rw[hY]at RY;have BY:=h_ ((HB.out.trans (hb6.mono (by omega))).trans (hcY.below hs3G (by omega)));have HO6:=h_ ((HO.out.below hb6).chg hcY (.inl (by omega)));clear rY hcY hb6 hS hR6 m0 m1 m2 z1 HXV;go_wp2;clear hY cX fX;go_roundw
     case rel=>exact⟨j+1,by omega,by go_num,BY.out,HO6.out,RY.out,by omega⟩
     case measure=>simp[intOf];omega
    ·obtain rfl:j=pn:=by omega
     rw[←HPN.out]at hR;have hn1:=U3_ p c g ps (L.take k) fk;rw[←c8_ HX.out]at hn1;have HN1:=h_ hn1;obtain⟨Z,hZ⟩:=e_ (wr.alloc (.cells #[.slice (some ⟨G,0,none⟩) c c] 24));obtain⟨gz,hgz⟩:=e_ (wr.heap.size);have bZ:Below wr.heap.size wr Z:=by rw[←hZ];exact a2_ _ _
     have kZ:Blk Z gz 24 #[.slice (some ⟨G,0,none⟩) c c]:=by rw[←hZ,←hgz];exact Blk.new _ _ _
     have HOZ:=h_ (hO.below bZ);have HRZ:=h_ (hR.below bZ);have HBZ:=h_ (hb.trans (bZ.mono s4));have sZ:=bZ.size;have C0:=h_ (kZ.cell' (i:=0) rfl);clear hO hR hb hn1 bZ kZ
     (go_wp2_with (at_builtin;refine Hold.stop ?_));unfold Hold
     clear hZ hgz;refine n1_ (by rfl) (.tmp 55) (.tmp 57) (by rfl) w3.heap.size G G (G+1) _ _ _ (by rfl) HOZ.out (some ⟨gz,0,none⟩) 1 _ (by rfl) ⟨_,_,rfl,C0.out⟩ HRZ.out (by omega) (by omega) (by omega) (by rw[j1_,List.length_take];have:=HN.out;omega) (by omega) (by omega) ?_;intro v' w' h1 h2 h3;rw[←HN1.out]at h1;have H1:=h_ h1;have H2:=h_ (HBZ.out.trans h2);clear h1 h2 h3;go_wp2;go_roundw
     case rel=>exact⟨k+1,by omega,by go_num,H1.out,H2.out⟩
     case measure=>simp[intOf];omega
  ·obtain rfl:k=n:=by omega
   rw[l7_ (by have:=HN.out;omega)]at hO;have HOF:=h_ hO;have GF:=h_ (a6_ G3.out hb);have sz:=SW.out;have s5:=s12;clear hO hb;go_wp2;go_ret
   exact⟨_,rfl,by rw[HK.out];exact HOF.out.wider (by omega) (l_ _),GF.out⟩
def RV (w:World) (_B b o:Nat) (x:Value):Prop:=w.cell? ⟨b,o,none⟩=some x∧x.oneCell'=true
abbrev SlV:=SlG 1 RV
theorem SlV.below {w w':World} {B:Nat} {v:Value} {l:List Value} (hb:Below B w w') (h:SlV w B v l):SlV w' B v l :=
 SlG.mono (fun _ _ _ hlt ⟨hc,hx⟩=>⟨a7_ hb hlt hc,hx⟩) (l_ _) h
theorem SlV.more {w:World} {B B':Nat} {v:Value} {l:List Value} (hB:B≤B') (h:SlV w B v l):SlV w B' v l :=
 SlG.mono (B:=B) (B':=B') (fun _ _ _ _ h=>h) hB h
theorem SlV.next {w w':World} {v:Value} {l:List Value} (hb:Below w.heap.size w w') (h:SlV w w.heap.size v l):SlV w' w'.heap.size v l:=SlV.more hb.size (SlV.below hb h)
theorem SlV.one {w:World} {B:Nat} {v:Value} {l:List Value} (h:SlV w B v l):∀ u∈l,u.oneCell'=true:=by
 obtain⟨A,c,_,_,_,_,h4⟩:=h;intro x hx;obtain⟨j,hj⟩:=List.getElem?_of_mem hx;obtain⟨_,_,_,_,hr⟩:=h4 (by have:=b0_ hj;omega);exact (hr j x hj).2
theorem z8_.of_slV {w:World} {B:Nat} {A:Option Addr} {c:Nat} {l:List Value} (h:SlV w B (.slice A l.length c) l):z8_ w A l.length l 1:=by
 refine⟨by simp,?_⟩;obtain⟨A',c',e,h1,h2,h3,h4⟩:=h;injection e with e1 e2 e3;subst e1
 rcases Nat.eq_zero_or_pos l.length with h0 | h0
 ·exact .inl h0
 ·obtain⟨b,o,rfl,_,hc⟩:=h4 h0;exact .inr ⟨b,o,rfl,fun j u hu=>by simpa using (hc j u hu).1⟩
def OwnV (w:World) (base:Nat) (v:Value) (vs:List Value):Prop:=w.ownsRow base 24 1 v vs.length vs∧vs.length≤17592186044416∧∀ u∈vs,u.oneCell'=true
theorem OwnV.rd {w:World} {base:Nat} {v:Value} {l:List Value} (h:OwnV w base v l):SlV w w.heap.size v l:=by
 obtain⟨h1,h2,h3⟩:=h;rcases h1.2 with ⟨rfl,h0⟩ | ⟨g,cap,cur,rfl,_,hg,hnc,hcm,hcs,htake⟩
 ·obtain rfl:l=[]:=m1_ h0;exact SlG.nil
 ·refine⟨_,_,rfl,hnc,by simp only[maxLen]at hcm;omega,h2,fun hp=>⟨g,0,rfl,(Array.getElem?_eq_some_iff.1 hg).1,fun j x hj=>⟨?_,h3 x (l4_ hj)⟩⟩⟩;have hc:=h1.cellAt j (by have:=b0_ hj;omega);rw[show 0+j*1=j by omega,hc,hj]
theorem OwnV.below {w w':World} {base:Nat} {v:Value} {l:List Value} (h:OwnV w base v l) (hb:Below w.heap.size w w'):OwnV w' base v l :=
 ⟨h.1.kept (row:=none) ⟨hb.os,hb.tape,hb.output,hb.size,fun k hk _=>hb.block k hk⟩ (by cases v.ownBlock <;> simp),h.2⟩
theorem OwnV.lt {w:World} {base:Nat} {v:Value} {l:List Value} (h:OwnV w base v l):∀ k,v.ownBlock=some k→base≤k∧k<w.heap.size:=h.1.lt
theorem OwnV.lower {w:World} {base base':Nat} {v:Value} {l:List Value} (h:OwnV w base v l) (hb:base'≤base):OwnV w base' v l:=by
 obtain⟨⟨h0,h1⟩,h2⟩:=h;refine⟨⟨h0,?_⟩,h2⟩;rcases h1 with h1 | ⟨g,cap,cur,e,hg,rest⟩
 ·exact .inl h1
 ·exact .inr ⟨g,cap,cur,e,by omega,rest⟩
theorem OwnV.form {w:World} {base:Nat} {v:Value} {l:List Value} (h:OwnV w base v l):∃ A c,v = .slice A l.length c∧l.length≤c∧c≤9223372036854775807:=by
 rcases h.1.2 with ⟨rfl,h0⟩ | ⟨g,cap,cur,rfl,_,_,hnc,hcm,_⟩
 ·exact⟨none,0,by rw[h0],by omega,by omega⟩
 ·exact⟨_,_,rfl,hnc,by simp only[maxLen]at hcm;omega⟩
def V5_ (w:World) (lo:Nat) (u:Value):Prop:=∃ g,u = .slice (some ⟨g,0,none⟩) 0 0∧lo≤g∧Blk w g 24 #[]
theorem V5_.below {w w':World} {lo:Nat} {u:Value} (h:V5_ w lo u) (hb:Below w.heap.size w w'):V5_ w' lo u:=by
 obtain⟨g,e,h1,h2⟩:=h;exact⟨g,e,h1,h2.call hb⟩
theorem V5_.new (w:World) {lo:Nat} (h:lo≤w.heap.size):V5_ (w.alloc (.cells #[] 24)) lo (.slice (some ⟨w.heap.size,0,none⟩) 0 0):=⟨_,rfl,h,Blk.new _ _ _⟩
theorem SlV.new (w:World) (t:TypeId) (x:Value) (hx:x.oneCell'=true):SlV (w.alloc (.cells #[x] t)) (w.alloc (.cells #[x] t)).heap.size (.slice (some ⟨w.heap.size,0,none⟩) 1 1) [x]:=by
 refine⟨_,1,rfl,by simp,by omega,by simp,fun _=>⟨w.heap.size,0,rfl,by simp,fun j y hj=>?_⟩⟩
 match j,hj with
 | 0,hj =>
  simp at hj;subst hj;exact⟨by simp,hx⟩
 | j+1,hj=>simp at hj
theorem d3x:(Tryz.prog.info? 27).map (fun i=>(i.zero,i.size,i.bytes))=some (some (.slice none 0 0),1,24):=by kernel_rfl
def OwnW (w:World) (base:Nat) (v:Value) (vs:List Value):Prop:=w.ownsRow base 27 1 v vs.length vs∧vs.length≤17592186044416∧∀ u∈vs,u.oneCell'=true
theorem OwnW.rd {w:World} {base:Nat} {v:Value} {l:List Value} (h:OwnW w base v l):SlV w w.heap.size v l:=by
 obtain⟨h1,h2,h3⟩:=h;rcases h1.2 with ⟨rfl,h0⟩ | ⟨g,cap,cur,rfl,_,hg,hnc,hcm,hcs,htake⟩
 ·obtain rfl:l=[]:=m1_ h0;exact SlG.nil
 ·refine⟨_,_,rfl,hnc,by simp only[maxLen]at hcm;omega,h2,fun hp=>⟨g,0,rfl,(Array.getElem?_eq_some_iff.1 hg).1,fun j x hj=>⟨?_,h3 x (l4_ hj)⟩⟩⟩;have hc:=h1.cellAt j (by have:=b0_ hj;omega);rw[show 0+j*1=j by omega,hc,hj]
theorem OwnW.below {w w':World} {base:Nat} {v:Value} {l:List Value} (h:OwnW w base v l) (hb:Below w.heap.size w w'):OwnW w' base v l :=
 ⟨h.1.kept (row:=none) ⟨hb.os,hb.tape,hb.output,hb.size,fun k hk _=>hb.block k hk⟩ (by cases v.ownBlock <;> simp),h.2⟩
theorem OwnW.lt {w:World} {base:Nat} {v:Value} {l:List Value} (h:OwnW w base v l):∀ k,v.ownBlock=some k→base≤k∧k<w.heap.size:=h.1.lt
theorem OwnW.lower {w:World} {base base':Nat} {v:Value} {l:List Value} (h:OwnW w base v l) (hb:base'≤base):OwnW w base' v l:=by
 obtain⟨⟨h0,h1⟩,h2⟩:=h;refine⟨⟨h0,?_⟩,h2⟩;rcases h1 with h1 | ⟨g,cap,cur,e,hg,rest⟩
 ·exact .inl h1
 ·exact .inr ⟨g,cap,cur,e,by omega,rest⟩
theorem OwnW.form {w:World} {base:Nat} {v:Value} {l:List Value} (h:OwnW w base v l):∃ A c,v = .slice A l.length c∧l.length≤c∧c≤9223372036854775807:=by
 rcases h.1.2 with ⟨rfl,h0⟩ | ⟨g,cap,cur,rfl,_,_,hnc,hcm,_⟩
 ·exact⟨none,0,by rw[h0],by omega,by omega⟩
 ·exact⟨_,_,rfl,hnc,by simp only[maxLen]at hcm;omega⟩
theorem Y3_ {w:World} {ops:Array Oper} {rest:List Oper} {o:Oper} {a:Act} {Q:Exit→Act→World→Prop} (hgd:o.guard=none) (s x:Operand)
  (ho:o.op = .call { callee:=.builtin .append,args:=#[s,x],argTypes:=#[68,68] })
  (base B:Nat) (v:Value) (l:List Value) (hs:a.eval s=v) (hown:OwnW w base v l) (A:Option Addr) (m c:Nat) (news:List Value) (hx:a.eval x = .slice A m c) (hm:m=news.length) (hr:SlV w B (.slice A news.length c) news)
  (hn:l.length+news.length≤1048576) (hbase:base≤w.heap.size)
  (h:∀ v' w',OwnW w' base v' (l ++ news)→w.grownBy w' v.ownBlock→(v'.ownBlock=v.ownBlock∨v'.ownBlock=some w.heap.size)→wpList Tryz.prog ops Q rest (a.put o.dst v') w'):wpList Tryz.prog ops Q (o :: rest) a w:=by
 subst hm;obtain⟨i0,hi,hz0,hz1,hz2⟩:=info_parts d3x;refine i8_ w hgd s x _ ho base 27 i0 _ 1 24 Tryz.underlying68 hi hz0 hz1 hz2 rfl (by decide) v l.length _ hs hown.1 A _ c _ hx (z8_.of_slV hr) (SlV.one hr) (by simp only[maxLen];omega) (by omega) hbase fun v' w' h1 h2 h3=>?_
 refine h v' w' ⟨by simpa using h1,by simp;omega,fun y hy=>?_⟩ h2 h3;rcases List.mem_append.1 hy with hy | hy
 ·exact hown.2.2 y hy
 ·exact SlV.one hr y hy
theorem OwnW.nil (w:World) (base:Nat):OwnW w base (.slice none 0 0) []:=⟨⟨by simp,.inl ⟨rfl,rfl⟩⟩,by simp,by simp⟩
theorem d3_.grown {w w':World} {lo hi:Nat} {v:Value} {ms:List Mx} {row:Option Nat} (h:d3_ w lo hi v ms) (hg:w.grownBy w' row) (hr:∀ g,row=some g→g<lo∨hi≤g) (hh:hi≤w.heap.size):d3_ w' lo hi v ms:=by
 cases row with
 | none=>exact h.below ⟨hg.os,hg.tape,hg.output,hg.size,fun k hk=>hg.block k hk (by simp)⟩
 | some g =>
  refine h.chg (lo':=g) (hi':=g+1) ⟨hg.os,hg.tape,hg.output,hg.size,fun k hk hne=>hg.block k hk (by intro e;injection e with e;omega)⟩ ?_;rcases hr g rfl with h1 | h1
  ·exact .inr (by omega)
  ·exact .inl h1
def SlMM (w:World) (B:Nat) (v:Value) (L:List (List Mx)):Prop:=∃ vs:List Value,SlV w B v vs∧vs.length=L.length∧∀ (j:Nat) (u:Value) (ms:List Mx),vs[j]?=some u→L[j]?=some ms→SlM w B u ms
theorem SlMM.below {w w':World} {B:Nat} {v:Value} {L:List (List Mx)} (hb:Below B w w') (h:SlMM w B v L):SlMM w' B v L:=by
 obtain⟨vs,h1,h2,h3⟩:=h;exact⟨vs,SlV.below hb h1,h2,fun j u ms hu hm=>SlM.below hb (h3 j u ms hu hm)⟩
theorem SlMM.more {w:World} {B B':Nat} {v:Value} {L:List (List Mx)} (hB:B≤B') (h:SlMM w B v L):SlMM w B' v L:=by
 obtain⟨vs,h1,h2,h3⟩:=h;exact⟨vs,SlV.more hB h1,h2,fun j u ms hu hm=>SlM.more hB (h3 j u ms hu hm)⟩
theorem SlMM.next {w w':World} {v:Value} {L:List (List Mx)} (hb:Below w.heap.size w w') (h:SlMM w w.heap.size v L):SlMM w' w'.heap.size v L:=SlMM.more hb.size (SlMM.below hb h)
theorem SlMM.form {w:World} {B:Nat} {v:Value} {L:List (List Mx)} (h:SlMM w B v L):∃ A c,v = .slice A L.length c∧L.length≤c∧c≤9223372036854775807:=by
 obtain⟨vs,⟨A,c,rfl,h1,h2,_⟩,h3,_⟩:=h;exact⟨A,c,by rw[h3],by omega,h2⟩
theorem SlMM.at_ {w:World} {B n c k:Nat} {A:Option Addr} {L:List (List Mx)} (h:SlMM w B (.slice A n c) L) (hk:k<L.length) :
  ∃ b o u ms,A=some ⟨b,o,none⟩∧b<B∧Hid (L[k]?=some ms)∧w.cell? ⟨b,o+k,none⟩=some u∧SlM w B u ms:=by
 obtain⟨vs,⟨A',c',e,h1,h2,h3,h4⟩,hl,hr⟩:=h;injection e with e1 e2 e3
 obtain⟨b,o,e,hb,hc⟩:=h4 (by omega);have hv:vs[k]?=some (vs[k]'(by omega)):=l2_ (by omega);refine⟨b,o,vs[k]'(by omega),L[k],by rw[e1,e],hb,l2_ hk,?_,hr k _ _ hv (l2_ hk)⟩;have:=(hc k _ hv).1;rwa[Nat.mul_one]at this
def MssI (w:World) (base:Nat) (v:Value) (L:List (List Mx)):Prop:=∃ vs,OwnW w base v vs∧vs.length=L.length∧∀ (j:Nat) (u:Value) (ms:List Mx),vs[j]?=some u→L[j]?=some ms→∃ lo hi,base≤lo∧hi≤w.heap.size∧d3_ w lo hi u ms∧∀ g,v.ownBlock=some g→g<lo∨hi≤g
theorem MssI.nil (w:World) (base:Nat):MssI w base (.slice none 0 0) []:=⟨[],OwnW.nil _ _,rfl,fun j u ms h=>by simp at h⟩
theorem MssI.below {w w':World} {base:Nat} {v:Value} {L:List (List Mx)} (h:MssI w base v L) (hb:Below w.heap.size w w'):MssI w' base v L:=by
 obtain⟨vs,h1,h2,h3⟩:=h;refine⟨vs,h1.below hb,h2,fun j u ms hu hm=>?_⟩;obtain⟨lo,hi,a,b,c,d⟩:=h3 j u ms hu hm;exact⟨lo,hi,a,Nat.le_trans b hb.size,c.below hb,d⟩
theorem MssI.rd {w:World} {base:Nat} {v:Value} {L:List (List Mx)} (h:MssI w base v L):SlMM w w.heap.size v L:=by
 obtain⟨vs,h1,h2,h3⟩:=h;exact⟨vs,h1.rd,h2,fun j u ms hu hm=>by obtain⟨_,_,_,_,c,_⟩:=h3 j u ms hu hm;exact c.rd⟩
theorem MssI.form {w:World} {base:Nat} {v:Value} {L:List (List Mx)} (h:MssI w base v L):∃ A c,v = .slice A L.length c∧L.length≤c∧c≤9223372036854775807:=h.rd.form
theorem MssI.lt {w:World} {base:Nat} {v:Value} {L:List (List Mx)} (h:MssI w base v L):∀ k,v.ownBlock=some k→base≤k∧k<w.heap.size:=by
 obtain⟨vs,h1,_⟩:=h;exact h1.lt
theorem T7_ {w:World} {ops:Array Oper} {rest:List Oper} {o:Oper} {a:Act} {Q:Exit→Act→World→Prop} (hgd:o.guard=none) (s x:Operand)
  (ho:o.op = .call { callee:=.builtin .append,args:=#[s,x],argTypes:=#[68,68] })
  (base lo hi:Nat) (v u:Value) (L:List (List Mx)) (ms:List Mx) (hs:a.eval s=v) (hown:MssI w base v L) (A:Option Addr) (c:Nat) (hx:a.eval x = .slice A 1 c) (hr:SlV w w.heap.size (.slice A 1 c) [u])
  (hm:d3_ w lo hi u ms) (hlo:base≤lo) (hhi:hi≤w.heap.size) (hd:∀ g,v.ownBlock=some g→g<lo∨hi≤g) (hn:L.length≤1000) (hbase:base≤w.heap.size)
  (h:∀ v' w',MssI w' base v' (L ++ [ms])→Below base w w'→wpList Tryz.prog ops Q rest (a.put o.dst v') w'):wpList Tryz.prog ops Q (o :: rest) a w:=by
 have hlt:=hown.lt;obtain⟨vs,h1,h2,h3⟩:=hown;refine Y3_ hgd s x ho base w.heap.size v vs hs h1 A 1 c [u] hx rfl hr (by simp;omega) hbase fun v' w' k1 k2 k3=>?_
 refine h v' w' ⟨vs ++ [u],k1,by simp[h2],fun j y m hj hm'=>?_⟩ (b9_ k2 (fun k hk=>(hlt k hk).1) hbase);have hs':=k2.size;have key:∀ {lo hi:Nat} {y:Value} {m:List Mx},base≤lo→hi≤w.heap.size→d3_ w lo hi y m→(∀ g,v.ownBlock=some g→g<lo∨hi≤g)→∃ lo hi,base≤lo∧hi≤w'.heap.size∧d3_ w' lo hi y m∧∀ g,v'.ownBlock=some g→g<lo∨hi≤g:=fun {lo hi y m} a b c d=>by
  refine⟨lo,hi,a,by omega,c.grown k2 d b,fun g hg=>?_⟩;rcases k3 with k3 | k3
  ·exact d g (by rw[←k3];exact hg)
  ·rw[k3]at hg;injection hg with hg;omega
 by_cases hjl:j<L.length
 ·rw[List.getElem?_append_left (by omega)]at hj hm';obtain⟨lo',hi',a,b,c,d⟩:=h3 j y m hj hm';exact key a b c d
 ·have hj1:=b0_ hm';simp only[List.length_append,List.length_singleton]at hj1;obtain rfl:j=L.length:=by omega
  rw[List.getElem?_append_right (by omega),h2,Nat.sub_self]at hj;rw[List.getElem?_append_right (l_ _),Nat.sub_self]at hm';simp only[List.getElem?_cons_zero,Option.some.injEq]at hj hm';subst hj hm';exact key hlo hhi hm hd
def vcK (P n code m t:Nat):Int:=if m≤t then (dgtN P n code t:Int) else 0
theorem f8Q (P n code:Nat):List.replicate n 0=rowF n (vcK P n code n):=by
 apply List.ext_getElem?
 intro i;by_cases h:i<n
 ·rw[d1_ _ h];simp only[vcK,if_neg (show ¬ n≤i by omega)];simp[h]
 ·rw[l6_ (by simp;omega),l6_ (by rw[a1_];omega)]
theorem d9Z {P n code m:Nat} (hm:m<n) {d:Int} (hd:d=(dgtN P n code m:Int)):(rowF n (vcK P n code (m+1))).set m d=rowF n (vcK P n code m):=by
 rw[q4_,hd];refine b6_ fun i _=>?_
 simp only[vcK]
 (repeat' split) <;> first | rfl | omega | (subst_vars;rfl)
theorem f7x (P n code:Nat):rowF n (vcK P n code 0)=rowF n fun i=>(dgtN P n code i:Int):=b6_ fun i _=>by simp[vcK]
theorem V0_ (p:Int) (n code:Nat) (w0:World) (hp:2≤p∧p≤5) (hn:n≤1000) (hc:code≤1000000) :
  Calls Tryz.prog 126 #[.int .i64 p,.int .i64 n,.int .i64 code] w0 fun e w'=>∃ v,e = .returned v∧a9_ w' w0.heap.size w'.heap.size v (rowF n fun i=>(dgtN p.toNat n code i:Int))∧Below w0.heap.size w0 w':=by
 obtain⟨P,hP⟩:∃ P:Nat,p=(P:Int):=⟨p.toNat,by omega⟩;subst hP;rw[l5_];have hmk:=R9_ w0 (n:=n) (by omega);obtain⟨W,hW⟩:=e_ (w0.alloc (.cells (g8_ (.int .i64 0) n) 3));have g0:Below w0.heap.size w0 W:=by rw[←hW];exact a2_ _ _
 have ho:a9_ W w0.heap.size (w0.heap.size+1) (.slice (some ⟨w0.heap.size,0,none⟩) n n) (List.replicate n 0):=by
  have h1:W.heap.size=w0.heap.size+1:=by rw[←hW];simp
  rw[←h1,←hW];exact a9_.of_own (OwnI.made0 (l_ _) (by omega))
 rw[f8Q P n code]at ho;rw[hW]at hmk;obtain⟨G,hG⟩:=e_ (w0.heap.size);rw[hG]at hmk ho g0⊢;have HG:=h_ hG;clear hG;go_enter Tryz.func126,Tryz.ntmps126
 go_wp2;clear hW;go_loopw [2,8] (fun cv iv wr=>∃ m C:Nat,m≤n∧iv = .int .i64 ((m:Int)-1)∧cv = .int .i64 (C:Int)∧C≤1000000∧Hid (C=code / P ^ (n-m))∧a9_ wr G (G+1) (.slice (some ⟨G,0,none⟩) n n) (rowF n (vcK P n code m))∧Below G w0 wr) (fun _ iv _=>(intOf iv+1).toNat)
 case atStart=>exact⟨n,code,l_ _,by go_num,rfl,hc,by show _=_;rw[Nat.sub_self,Nat.pow_zero,Nat.div_one],ho,g0⟩
 case round =>
  clear ho g0 hmk;obtain⟨m,C,hm,rfl,rfl,hC,HC,ho,hb⟩:=hrel;rcases m with _ | m
  ·rw[f7x]at ho;go_wp2;go_ret
   have h3:G<wr.heap.size:=(ho.1.lt _ rfl).2;exact⟨_,rfl,ho.wider (l_ _) (by omega),hb⟩
  ·have htm:Int.tmod (C:Int) (P:Int)=((C % P:Nat):Int):=by rw[Int.tmod_eq_emod_of_nonneg (by omega)];rfl
   have htd:Int.tdiv (C:Int) (P:Int)=((C / P:Nat):Int):=by rw[Int.tdiv_eq_ediv_of_nonneg (by omega)];rfl
   have hd:((C % P:Nat):Int)=(dgtN P n code m:Int):=by
    rw[dgtN,HC.out];congr 4;omega
   have hE:C / P=code / P ^ (n-m):=by
    rw[HC.out,Nat.div_div_eq_div_mul,←Nat.pow_succ];congr 2;omega
   have hE1:C / P≤1000000:=Nat.le_trans (Nat.div_le_self _ _) hC;have hD1:C % P<P:=Nat.mod_lt _ (by omega);have ho2:=ho.put (j:=m) (x:=((C % P:Nat):Int)) (by unfold I64;omega);rw[d9Z (by omega) hd]at ho2;have HE:=h_ hE;obtain⟨D,hD⟩:=e_ (C % P);obtain⟨E,hE⟩:=e_ (C / P);rw[hD]at htm ho2 hD1;rw[hE]at htd HE hE1;have cA:=(ho.1.cellG (j:=m) (by rw[a1_];omega)).1;have fA:=ho.1.frozenG m;have hc1:Chg G (G+1) wr (wr.setCell ⟨G,m,none⟩ (.int .i64 (D:Int))):=b4_ (l_ _) (m0_ _);have HB:=h_ (hb.trans (hc1.below (l_ _) (by have:=hb.size;have:=HG.out;omega)));have HO2:=h_ ho2;clear hD hE hd HC ho ho2 hb hc1;go_wp2;go_roundw
   case rel=>exact⟨m,E,by omega,by go_num,by trivial,hE1,HE.out,HO2.out,HB.out⟩
   case measure=>simp[intOf] <;> omega
theorem c0Q {P:Nat} (hP:2≤P) {i d:Nat} (h:i<d) (hp:¬ P ^ i≤100000):¬ P ^ d≤100000:=by
 have:=Nat.pow_le_pow_right (show 0<P by omega) (Nat.le_of_lt h);omega
theorem B5_ (p:Int) (d:Nat) (w0:World) (hp:2≤p∧p≤5) (hd:d≤1000) :
  Calls Tryz.prog 55 #[.int .i64 p,.int .i64 d] w0 fun e w'=>(∃ c:Nat,e = .returned (.int .i64 c)∧(p.toNat ^ d≤100000→c=p.toNat ^ d)∧(¬ p.toNat ^ d≤100000→100000<c)∧c≤500000∧1≤c)∧w'=w0:=by
 obtain⟨P,hP⟩:∃ P:Nat,p=(P:Int):=⟨p.toNat,by omega⟩;subst hP;rw[l5_];go_enter Tryz.func55,Tryz.ntmps55
 go_wp2;go_loopw [5,6] (fun cv iv wr=>∃ i C:Nat,i≤d∧iv = .int .i64 i∧cv = .int .i64 (C:Int)∧1≤C∧C≤500000∧Hid (C=P ^ i)∧wr=w0) (fun _ iv _=>d-(intOf iv).toNat)
 case atStart=>exact⟨0,1,l0_ _,rfl,rfl,by omega,by omega,by show _=_;rw[Nat.pow_zero],rfl⟩
 case round =>
  obtain⟨i,C,hi,rfl,rfl,hC1,hC,HC,hww⟩:=hrel;replace hww:=hww.symm;subst hww;by_cases hlt:i<d
  ·by_cases hc:C≤100000
   ·obtain⟨M,hM⟩:∃ M:Nat,C*P=M:=⟨_,rfl⟩;have hM1:M≤500000∧1≤M:=by
     rw[←hM];have h5:P=2∨P=3∨P=4∨P=5:=by omega
     rcases h5 with rfl | rfl | rfl | rfl <;> omega
    have hw:wrap64 ((C:Int)*(P:Int))=(M:Int):=by
     have e:(C:Int)*(P:Int)=(M:Int):=by rw[←hM];push_cast;rfl
     rw[e];unfold wrap64;omega
    have HM:=h_ (show M=P ^ (i+1) by rw[←hM,HC.out,Nat.pow_succ]);clear hM HC;go_wp2;go_roundw
    case rel=>exact⟨i+1,M,by omega,by go_num,by first | rfl | rw[hw],hM1.2,hM1.1,HM.out,by trivial⟩
    case measure=>simp[intOf];omega
   ·have HN:=h_ (show ¬ P ^ d≤100000 from c0Q (by omega) hlt (by rw[←HC.out];exact hc));go_wp2;go_ret
    exact⟨⟨C,rfl,fun h=>absurd h HN.out,fun _=>by omega,hC,hC1⟩,by trivial⟩
  ·obtain rfl:i=d:=by omega
   go_wp2;go_ret
   exact⟨⟨C,rfl,fun _=>HC.out,fun h=>by have:=HC.out;omega,hC,hC1⟩,by trivial⟩
def rkL5 (p:Int) (X Y:Rp) (F:Nat→Nat→Nat→Int) (V:Nat):List Int:=(List.range V).map fun v=>(rkF p (dmN Y.d v) (dmN X.d v) (F v):Int)
theorem b8j (p:Int) (X Y:Rp) (F:Nat→Nat→Nat→Int) (V:Nat):rkL5 p X Y F (V+1)=rkL5 p X Y F V ++ [(rkF p (dmN Y.d V) (dmN X.d V) (F V):Int)]:=by simp[rkL5,List.range_succ]
theorem A9_ (p:Int) (X Y:Rp) (F:Nat→Nat→Nat→Int) (V:Nat):(rkL5 p X Y F V).length=V:=by simp[rkL5]
theorem b3Z (p:Int) (u:Value) (X Y:Rp) (F:Nat→Nat→Nat→Int) (V:Nat) (w0:World) (hp:f2_ p=true) (hf:Fit2 X Y) (hV:V≤5) (hu:SlM w0 w0.heap.size u (mvL X Y F V)) (hF:∀ v,v<V→InF p (dmN Y.d v) (dmN X.d v) (F v)) :
  Calls Tryz.prog 127 #[.int .i64 p,u] w0 fun e w'=>∃ v,e = .returned v∧a9_ w' w0.heap.size w'.heap.size v (rkL5 p X Y F V)∧Below w0.heap.size w0 w':=by
 obtain⟨A,c,rfl,_,_,_,hx⟩:=hu.open_;have HU:=h_ hu;have HP:=h_ hp;have HF:=h_ hF;have HD:=h_ hf.dims;rw[g1_]at hx HU⊢;clear hu hp hF hx hf;go_enter Tryz.func127,Tryz.ntmps127
 go_wp2;go_loopw [5,10] (fun out i wr=>∃ k:Nat,k≤V∧i = .int .i64 k∧OwnI wr w0.heap.size out (rkL5 p X Y F k)∧Below w0.heap.size w0 wr) (fun _ i _=>V-(intOf i).toNat)
 case atStart=>exact⟨0,l0_ _,rfl,OwnI.nil _ _,Below.refl _ _⟩
 case round =>
  obtain⟨k,hk,rfl,ho,hb⟩:=hrel;have s0:=hb.size;have hol:=A9_ p X Y F k;obtain⟨OA,oc,rfl,_,_⟩:=ho.form;rw[hol]at ho⊢;clear hol;by_cases hlt:k<V
  ·obtain⟨b,o,A',L,c',rfl,hb5,x1,x2,x3,hsl⟩:=SlM.atF HU.out (g1_ X Y F V) (A6_ X Y F hlt);have hdm:=HD.out k;have HFk:=h_ (HF.out k hlt);have HN:=h_ (b8j p X Y F k);have hln:=A9_ p X Y F k;obtain⟨R,hR⟩:=e_ (dmN Y.d k);obtain⟨C,hC⟩:=e_ (dmN X.d k);obtain⟨f,hf⟩:=e_ (F k);rw[hR,hC]at hdm;rw[hR,hC,hf]at HFk HN hsl;rw[hR]at x1;rw[hC]at x2;clear hR hC hf;obtain⟨rs,hrs⟩:=e_ (rkL5 p X Y F k);rw[hrs]at ho HN hln;clear hrs;obtain⟨W1,hW1,ga,kW⟩:=b_1 wr #[.int .i64 R,.int .i64 C,.slice A' L c'] 41;obtain⟨z0,z1,z2⟩:=c_3 kW;have d1:=a7_ hb hb5 x1;have d2:=a7_ hb hb5 x2;have d3:=a7_ hb hb5 x3;have HM:=h_ (MxR.next (hb.trans (ga.mono s0)) hsl);have HO:=h_ (ho.below ga);have HB:=h_ (hb.trans (ga.mono s0));have hsa:=ga.size;have hlo:=ho.lt;obtain⟨gg,hgg⟩:=e_ (wr.heap.size);rw[hgg]at z0 z1 z2;clear x1 x2 x3 hsl ho hb ga kW;go_wp2_with fail
   clear hW1 hgg;refine (s4_ p _ R C f _ HP.out (by omega) (by omega) HM.out HFk.out).mono ?_;rintro e w2 ⟨rfl,hb2⟩;obtain⟨rk,hrk⟩:=e_ (rkF p R C f);have hrk4:=(s3_ p R C f).1;rw[hrk]at HN hrk4⊢;have HO2:=h_ (HO.out.below hb2);have HB2:=h_ (HB.out.trans (hb2.mono (by omega)));have hs2:=hb2.size;clear hrk HO HB hb2 z0 z1 z2 HM HFk d1 d2 d3
   (go_wp2_with (at_builtin;refine Hold.stop ?_));unfold Hold
   obtain⟨X',hX⟩:∃ X,X=w2.alloc (.cells #[.int .i64 (rk:Int)] 3):=⟨_,rfl⟩;have gn:Below w2.heap.size w2 X':=by rw[hX];exact a2_ _ _
   have h1x:SlI X' X'.heap.size (.slice (some ⟨w2.heap.size,0,none⟩) 1 1) [(rk:Int)]:=by rw[hX];exact SlI.one _ _ _ (by simp only[I64];omega)
   have ho3:=(HO2.out).below gn;have gns:=gn.size;rw[←hX];clear hX;refine c3_ rfl (.tmp 14) (.tmp 18) rfl w0.heap.size X'.heap.size _ _ rfl ho3 _ 1 1 [(rk:Int)] rfl rfl h1x (by simp;omega) (by omega) ?_;intro v' w' h1 h2 h3;rw[←HN.out]at h1;have hbX:=b9_ h2 (B:=w0.heap.size) (fun k hk=>(hlo k hk).1) (by omega);have H1:=h_ h1;have G1:=h_ ((HB2.out).trans ((gn.mono (by omega)).trans hbX));clear h1 h2 h3 hbX gn ho3 h1x HO2 HB2;go_wp2;go_roundw
   case rel=>exact⟨k+1,by omega,by go_num,H1.out,G1.out⟩
   case measure=>simp[intOf];omega
  ·obtain rfl:k=V:=by omega
   go_wp2;go_ret
   exact⟨_,rfl,a9_.of_own ho,hb⟩
def rwF (B:List (List Int)) (i t:Nat):Int:=(B.getD i []).getD t 0
def bsL (X Y:Rp) (B:List (List Int)) (k:Nat):List (List Mx):=(List.range k).map fun i=>mvL X Y (vcF X Y (rwF B i)) X.d.length
theorem c9z (X Y:Rp) (B:List (List Int)) (k:Nat):bsL X Y B (k+1)=bsL X Y B k ++ [mvL X Y (vcF X Y (rwF B k)) X.d.length]:=by simp[bsL,List.range_succ]
theorem n3_ (X Y:Rp) (B:List (List Int)) (k:Nat):(bsL X Y B k).length=k:=by simp[bsL]
theorem d5X (X Y:Rp) (B:List (List Int)) {k i:Nat} (h:i<k):(bsL X Y B k)[i]?=some (mvL X Y (vcF X Y (rwF B i)) X.d.length):=by simp[bsL,h]
theorem b2Q {X Y:Rp} {i:Nat} {l:List Int} (h:(hbB X Y)[i]?=some l):l=rowF (hmN X Y) (rwF (hbB X Y) i):=by
 have hl:l.length=hmN X Y:=by
  have:=l4_ h;rw[hbB,kerR,kerM,List.mem_map]at this;obtain⟨a,_,rfl⟩:=this;exact a1_ _ _
 have e:∀ t,rwF (hbB X Y) i t=l.getD t 0:=fun t=>by rw[rwF,l1_ (l:=hbB X Y),h];rfl
 rw[←hl,b6_ fun t _=>e t];exact (E4_ l).symm
theorem f2j {X Y:Rp} {i:Nat} {l:List Int} (h:(hbB X Y)[i]?=some l):shL (zrL X.d Y.d X.d.length) l=mvL X Y (vcF X Y (rwF (hbB X Y) i)) X.d.length:=by
 rw[b2Q h,b9z X.d Y.d (hmN X Y) _ X.d.length (show hOff X.d Y.d X.d.length≤hmN X Y from l_ _)];rfl
theorem V2_ (ua ub:Value) (X Y:Rp) (w0:World) (ha:RpR w0 w0.heap.size ua X) (hb:RpR w0 w0.heap.size ub Y) (hf:Fit2 X Y) :
  Calls Tryz.prog 53 #[ua,ub] w0 fun e w'=>∃ v,e = .returned v∧SlMM w' w'.heap.size v (bsL X Y (hbB X Y) (homN X Y))∧Below w0.heap.size w0 w':=by
 have ha':=ha;have hb':=hb;obtain⟨A,a,C,c,Ea,ea,Ha,ha_,rfl,hqa,hda,hma,hpa,lda,lma⟩:=ha.open_;obtain⟨A2,a2,C2,c2,Eb,eb,Hb,hb_,rfl,hqb,hdb,hmb,hpb,ldb,lmb⟩:=hb.open_;clear ha hb;obtain⟨W,hW,g0,k1,k2⟩:=b_4 w0 #[.int .i64 X.p,.int .i64 X.q.v,.slice A X.q.f.length a,.slice C X.q.t.length c,.slice Ea X.d.length ea,.slice Ha X.m.length ha_] 29 #[.int .i64 Y.p,.int .i64 Y.q.v,.slice A2 Y.q.f.length a2,.slice C2 Y.q.t.length c2,.slice Eb Y.d.length eb,.slice Hb Y.m.length hb_] 29;have HXA:=h_ (RpR.next g0 ha');have HXB:=h_ (RpR.next g0 hb');have HQA:=h_ (QvR.next g0 hqa);have HDA:=h_ (SlI.next g0 hda);have HDB:=h_ (SlI.next g0 hdb);have HMA:=h_ (SlM.next g0 hma);have HMB:=h_ (SlM.next g0 hmb);have G0:=h_ g0;clear ha' hb' hqa hqb hda hdb hma hmb hpa hpb g0;have HF:=h_ hf;have HP:=h_ (b8_.1 hf.hx).1;have hn80:=N2_ hf;have hr96:=b3Q hf;have HI:=h_ (Q2_ (x:=X) Y hf.p2.1);have hV5:=hf.len.2;have hN80:homN X Y≤80:=by unfold homN;omega
 obtain⟨B,hB⟩:=e_ (hbB X Y);obtain⟨N,hN⟩:=e_ (homN X Y);have HBN:=h_ (show B.length=N by rw[←hB,←hN];exact b4z X Y);have HSH:=h_ (show ∀ (i:Nat) (l:List Int),B[i]?=some l→shL (zrL X.d Y.d X.d.length) l=mvL X Y (vcF X Y (rwF B i)) X.d.length∧l.length=hmN X Y from fun i l h=>by
  rw[←hB]at h⊢;exact⟨f2j h,by rw[b2Q h];exact a1_ _ _⟩)
 have HBK:=h_ (show kerR X.p (eqR X Y) (hmN X Y) (eqG X Y)=B from hB);rw[hB,hN];rw[hN]at hN80;obtain⟨R,hR⟩:=e_ (eqR X Y);obtain⟨M,hM⟩:=e_ (hmN X Y);have HBD:=h_ (show ∀ (ua ub:Value) (w:World),RpR w w.heap.size ua X→RpR w w.heap.size ub Y→Calls Tryz.prog 88 #[ua,ub] w fun e w'=>∃ v,e = .returned v∧MxO w' w.heap.size w'.heap.size v (mxF R M (eqG X Y))∧Below w.heap.size w w' from fun ua ub w h1 h2=>by
  have:=z5_ ua ub X Y w h1 h2 HF.out;rw[hR,hM]at this;exact this)
 rw[hR,hM]at HBK HI;rw[hM]at HSH hn80;have HZT:=h_ (show totA (zrL X.d Y.d X.d.length)=M by rw[E9_];exact hM);rw[hR]at hr96;clear hB hN hf hR hM;clear HDA HDB HMA HMB HQA;have K1:=h_ k1;have K2:=h_ k2;clear k1 k2;go_enter Tryz.func53,Tryz.ntmps53
 go_wp2;rw[←hW];clear hW;refine a8_ (by kernel_rfl) [.eq (.pointer (some ⟨w0.heap.size,0,none⟩)),.eq (.int .i64 X.p),.eq (.agg #[.int .i64 X.p,.int .i64 X.q.v,.slice A X.q.f.length a,.slice C X.q.t.length c,.slice Ea X.d.length ea,.slice Ha X.m.length ha_]),.eq (.agg #[.int .i64 Y.p,.int .i64 Y.q.v,.slice A2 Y.q.f.length a2,.slice C2 Y.q.t.length c2,.slice Eb Y.d.length eb,.slice Hb Y.m.length hb_]),rel 4 (fun u lo hi w=>MxO w lo hi u (mxF R M (eqG X Y))),rel 5 (fun u lo hi w=>b1_ w lo hi u B),.eq (.int .i64 N),.eq (.int .i64 0)] [[],[0],[],[],[2,3],[0,1,2,3,4],[0,1,2,3,4,5],[]] 8 (by kernel_rfl) ⟨trivial,trivial,trivial,trivial,a4_ (fun u lo hi w w' h hb=>h.below hb),a4_ (fun u lo hi w w' h hb=>h.below hb),trivial,trivial,trivial⟩ ⟨?_,?_,?_,?_,?_,?_,?_,?_,trivial⟩ ?_;iterate 8 (intro x w hb hk Q' hQ;have he:=k_e hk;simp only[k_s]at he;simp only[netE]at hQ⊢;(try simp only[he]at hQ⊢);(try clear he);rotate_left)
 rotate_left
 ·clear hk;go_wp2;exact hQ _ _ br_ rfl
 ·clear hk;have z:=(K1.out.call hb).cell' (i:=0) rfl;go_wp2;exact hQ _ _ br_ rfl
 ·clear hk;have e0:=K1.out.call hb;obtain⟨z0,z1,z2,z3,z4,z5⟩:=c_6 e0;clear e0;go_wp2;exact hQ _ _ br_ rfl
 ·clear hk;have e0:=K2.out.call hb;obtain⟨z0,z1,z2,z3,z4,z5⟩:=c_6 e0;clear e0;go_wp2;exact hQ _ _ br_ rfl
 ·clear hk;go_wp2_with fail
  refine (HBD.out _ _ _ (RpR.next hb HXA.out) (RpR.next hb HXB.out)).mono ?_;rintro e w8 ⟨v8,rfl,h8,hb8⟩;go_wp2;exact hQ _ _ hb8 h8
 ·have h4:MxO w (x.lo 4) (x.hi 4) (x.v 4) (mxF R M (eqG X Y)):=(hk 4 (by decide)).1;have s4:=(hk 4 (by decide)).2;clear hk;go_wp2_with fail
  refine (N8_ X.p _ R M (eqG X Y) _ HP.out (by omega) (by omega) h4.rd HI.out).mono ?_;rintro e w8 ⟨v8,rfl,h8,hb8⟩;rw[HBK.out]at h8;go_wp2;exact hQ _ _ hb8 h8
 ·have h5:b1_ w (x.lo 5) (x.hi 5) (x.v 5) B:=(hk 5 (by decide)).1;clear hk;obtain⟨sA,sc,es,_,_,_⟩:=h5.form2;rw[HBN.out]at es;rw[es]at hQ⊢;clear es h5;go_wp2;exact hQ _ _ br_ rfl
 ·clear hk;go_wp2;exact hQ _ _ br_ rfl
 ·intro x w hb hk hiv hdj;have h4:MxO w (x.lo 4) (x.hi 4) (x.v 4) (mxF R M (eqG X Y)):=hk 4 (by decide);have h5:b1_ w (x.lo 5) (x.hi 5) (x.v 5) B:=hk 5 (by decide);have he:=k_g hk [0,1,2,3,6,7];simp only[k_s]at he;simp only[netE,he];clear he hk;obtain⟨sA,sc,es,_,_,_⟩:=h5.form2;rw[HBN.out]at es;have hrd:=h5.rd;rw[es]at hrd⊢;have HRW:=h_ hrd;have HA1:=h_ (RpR.next hb HXA.out);have HB1:=h_ (RpR.next hb HXB.out);have HK1:=h_ (K1.out.call hb);have HK2:=h_ (K2.out.call hb);have HG1:=h_ (a6_ G0.out hb);clear hiv hdj h4 h5 hb hrd es K1 K2 G0;obtain⟨w1,hw1⟩:∃ z,z=w:=⟨_,rfl⟩;subst hw1;go_wp2;go_loopw [5,7,15] (fun out _ i wr=>∃ k:Nat,k≤N∧i = .int .i64 k∧MssI wr w1.heap.size out (bsL X Y B k)∧Below w1.heap.size w1 wr) (fun _ _ i _=>N-(intOf i).toNat)
  case atStart=>exact⟨0,l0_ _,rfl,MssI.nil _ _,Below.refl _ _⟩
  case round =>
   obtain⟨k,hk,rfl,ho,hbel⟩:=hrel;have hbs:=hbel.size;obtain⟨OA,oc,eo,_,_⟩:=ho.form;rw[n3_]at eo;subst eo;by_cases hlt:k<N
   ·have hrw:=HRW.out;rw[←HBN.out]at hrw;obtain⟨b,o,l,A',c',rfl,hb5,HX,x1,hsl⟩:=SlII.at_ hrw (k:=k) (by rw[HBN.out];exact hlt);obtain⟨hsh,hll⟩:=HSH.out k l HX.out;have HSL:=h_ hsh;have HLL:=h_ hll;rw[hll]at x1 hsl;have d1:=a7_ hbel hb5 x1;have HS:=h_ (SlI.next hbel hsl);have HO:=h_ ho;have HBL:=h_ hbel;have e1:=HK1.out.call hbel;obtain⟨z0,z1,z2,z3,z4,z5⟩:=c_6 e1;have e2:=HK2.out.call hbel;obtain⟨y0,y1,y2,y3,y4,y5⟩:=c_6 e2;have HA2:=h_ (RpR.next hbel HA1.out);have HB2:=h_ (RpR.next hbel HB1.out);have hlo:=ho.lt;clear hrw HX x1 hsl ho hbel e1 e2 hsh hll;go_wp2_with fail
    refine (I6_ _ _ X Y _ HA2.out HB2.out HF.out).mono ?_;rintro e w2 ⟨zv,rfl,hZ,hb2⟩;have HZ:=h_ hZ.rd;have HO2:=h_ (HO.out.below hb2);have HBL2:=h_ (HBL.out.trans (hb2.mono hbs));have HS2:=h_ (SlI.next hb2 HS.out);have hs2:=hb2.size;clear hZ hb2 HO HBL HS z0 z1 z2 z3 z4 z5 y0 y1 y2 y3 y4 y5 HA2 HB2 d1;go_wp2_with fail
    refine (O8_ _ _ (zrL X.d Y.d X.d.length) l _ HZ.out HS2.out (by rw[o1_];omega) (by rw[HZT.out,HLL.out];exact l_ _)).mono ?_;rintro e w3 ⟨mv,rfl,hM,hb3⟩;rw[HSL.out]at hM;obtain⟨MA,mc,em,_,_⟩:=hM.form2;rw[g1_]at em;subst em;obtain⟨V,hV⟩:=e_ (X.d.length);have HM3:=h_ hM;have HO3:=h_ (HO2.out.below hb3);have HBL3:=h_ (HBL2.out.trans (hb3.mono (by omega)));have hs3:=hb3.size;clear hM hb3 HO2 HBL2 HS2 HZ HSL HLL hV
    (go_wp2_with (at_builtin;refine Hold.stop ?_));unfold Hold
    obtain⟨X',hX⟩:∃ X',X'=w3.alloc (.cells #[.slice MA X.d.length mc] 27):=⟨_,rfl⟩;have gn:Below w3.heap.size w3 X':=by rw[hX];exact a2_ _ _
    have h1x:SlV X' X'.heap.size (.slice (some ⟨w3.heap.size,0,none⟩) 1 1) [.slice MA X.d.length mc]:=by rw[hX];exact SlV.new _ _ _ rfl
    have hm4:=HM3.out.below gn;have ho4:=HO3.out.below gn;have gns:=gn.size;rw[←hX];clear hX;refine T7_ rfl (.tmp 19) (.tmp 25) rfl w1.heap.size w2.heap.size w3.heap.size _ _ _ _ rfl ho4 _ 1 rfl h1x hm4 (by omega) gns (fun g hg => .inl (by have:=(hlo g hg).2;omega)) (by rw[n3_];omega) (by omega) ?_;intro v' w' h1 h2;rw[←c9z]at h1;have H1:=h_ h1;have G1:=h_ (HBL3.out.trans ((gn.mono (by omega)).trans h2));clear h1 h2 gn ho4 h1x hm4;go_wp2;go_roundw
    case rel=>exact⟨k+1,by omega,by go_num,H1.out,G1.out⟩
    case measure=>simp[intOf];omega
   ·obtain rfl:k=N:=by omega
    have HO:=h_ ho.rd;have HBL:=h_ (a6_ HG1.out hbel);have hlen:=n3_ X Y B k;clear ho hbel;go_wp2;go_ret
    exact⟨_,rfl,HO.out,HBL.out⟩
theorem OwnI.raise {w:World} {lo g n c:Nat} {l:List Int} (h:OwnI w lo (.slice (some ⟨g,0,none⟩) n c) l):OwnI w g (.slice (some ⟨g,0,none⟩) n c) l:=by
 obtain⟨⟨h0,h1⟩,h2⟩:=h;refine⟨⟨h0,?_⟩,h2⟩;rcases h1 with h1 | ⟨g',cap,cur,e,hg,rest⟩
 ·exact .inl h1
 ·have e2:=e;injection e2 with e2
  injection e2 with e2
  injection e2 with e2
  exact .inr ⟨g',cap,cur,e,by omega,rest⟩
theorem OwnI.down {w:World} {lo g n c:Nat} {l:List Int} (h:OwnI w g (.slice (some ⟨g,0,none⟩) n c) l) (hl:lo≤g):OwnI w lo (.slice (some ⟨g,0,none⟩) n c) l:=by
 obtain⟨⟨h0,h1⟩,h2⟩:=h;refine⟨⟨h0,?_⟩,h2⟩;rcases h1 with h1 | ⟨g',cap,cur,e,hg,rest⟩
 ·exact .inl h1
 ·exact .inr ⟨g',cap,cur,e,by omega,rest⟩
theorem b6q {g:Nat} {w w':World} (h:Chg g (g+1) w w'):w.grownBy w' (some g):=⟨h.os,h.tape,h.output,h.size,fun k hk hne=>h.block k hk (by
 rcases Nat.lt_trichotomy k g with h | h | h
 ·exact .inl h
 ·exact absurd (by rw[h]) hne
 ·exact .inr (by omega))⟩
theorem d3_.turnAt {w:World} {lo hi j:Nat} {mv:Value} {ms:List Mx} {m:Mx} (h:d3_ w lo hi mv ms) (hm:ms[j]?=some m) (hne:0<m.a.length) :
  ∃ gm cm g c,mv = .slice (some ⟨gm,0,none⟩) ms.length cm∧gm<w.heap.size∧w.cell? ⟨gm,j*3+2,none⟩=some (.slice (some ⟨g,0,none⟩) m.a.length c)∧OwnI w lo (.slice (some ⟨g,0,none⟩) m.a.length c) m.a∧(lo≤g∧g<hi)∧m.a.length≤c∧c≤9223372036854775807 ∧
   ∀ w' l',OwnI w' lo (.slice (some ⟨g,0,none⟩) m.a.length c) l'→w.grownBy w' (some g)→d3_ w' lo hi mv (ms.set j ⟨m.r,m.c,l'⟩):=by
 obtain⟨vs,hO,hl,hF,hI⟩:=h;obtain⟨gm,cm,g,c,e,h1,hv,_,_,h4,ho,hg,hc1,hc2,_,_⟩:=OutM.at_ (L0:=[]) hO hl hF hm hne;refine⟨gm,cm,g,c,e,h1,h4,ho,hg,hc1,hc2,fun w' l' ho' hgr=>⟨vs,OutM.rc (ms:=ms) (RowO.grown hO (by decide) ho hgr) ?_,by simp[hl],?_,fun m' hm'=>?_⟩⟩
 ·apply List.ext_getElem?
  intro k;rw[List.getElem?_map,List.getElem?_map,List.getElem?_set];by_cases e:j=k
  ·subst e;rw[if_pos rfl,if_pos (b0_ hm),hm];rfl
  ·rw[if_neg e]
 ·rw[List.map_set];exact Fam.setAt (L0:=[]) hF hv (show (ms.map Mx.a)[j]?=some m.a by simp[hm]) ho' hgr
 ·exact a4z hI hm m' hm'
theorem f0j {X Y:Rp} {F:Nat→Nat→Nat→Int} {V j:Nat} (hj:j<V) (g:Nat→Nat→Int):(mvL X Y F V).set j (mxF (dmN Y.d j) (dmN X.d j) g)=mvL X Y (fun v=>if v=j then g else F v) V:=by
 apply List.ext_getElem?
 intro i;rw[List.getElem?_set];by_cases h:i<V
 ·rw[A6_ _ _ _ h,A6_ _ _ _ h,g1_];by_cases e:j=i
  ·subst e;rw[if_pos rfl,if_pos h];simp
  ·rw[if_neg e,if_neg fun e'=>e e'.symm]
 ·rw[if_neg (show ¬ j=i by omega),l6_ (by rw[g1_];omega),l6_ (by rw[g1_];omega)]
theorem J2_ {X Y:Rp} {F G:Nat→Nat→Nat→Int} {V:Nat} (h:∀ v,v<V→F v=G v):mvL X Y F V=mvL X Y G V:=by
 refine List.map_congr_left fun v hv=>?_
 rw[List.mem_range]at hv;rw[h v hv]
theorem d5Z {p k:Int} (R C:Nat) (f y:Nat→Nat→Int):rowF (R*C) (amF p k 0 (R*C) (fun t=>(flat R C f).getD t 0) (fun t=>(flat R C y).getD t 0))=flat R C (fun a b=>(f a b+k*y a b) % p) :=
 v4_ (by rw[a1_]) fun i j hi hj=>by
  have:=E7_ hi hj;rw[d1_ _ this,amF,if_pos (by omega),Nat.sub_zero,x2_ f hi hj,x2_ y hi hj]
theorem a4q (R C:Nat) (f:Nat→Nat→Int):flat R C f=rowF (R*C) fun t=>(flat R C f).getD t 0:=by
 have:=E4_ (flat R C f);rw[a0_]at this;exact this.symm
theorem a3q {R C:Nat} {F:Nat→Nat→Int} (h:∀ a b,0≤F a b∧F a b≤4) (t:Nat) (ht:t<R*C):0≤(flat R C F).getD t 0∧(flat R C F).getD t 0≤4:=by
 obtain⟨i,k,hi,hk,rfl⟩:=R5_ ht;rw[x2_ F hi hk];exact h _ _
def nbX (p:Int) (B:List (List Int)) (d:Nat→Int) (X Y:Rp) (i j v:Nat):Nat→Nat→Int:=if v<j then vcF X Y (nbF p B d (i+1)) v else vcF X Y (nbF p B d i) v
theorem a9q {p:Int} {B:List (List Int)} {d:Nat→Int} {X Y:Rp} {i j V:Nat} (hj:j<V) :
  (mvL X Y (nbX p B d X Y i j) V).set j (mxF (dmN Y.d j) (dmN X.d j) fun a b=>(vcF X Y (nbF p B d i) j a b+d i*vcF X Y (rwF B i) j a b) % p)=mvL X Y (nbX p B d X Y i (j+1)) V:=by
 rw[f0j hj];refine J2_ fun v _=>?_
 unfold nbX;by_cases e:v=j
 ·subst e;rw[if_pos rfl,if_pos (by omega)];rfl
 ·rw[if_neg e];by_cases h:v<j
  ·rw[if_pos h,if_pos (by omega)]
  ·rw[if_neg h,if_neg (by omega)]
theorem b9Q {p:Int} {B:List (List Int)} {d:Nat→Int} {X Y:Rp} {i j V:Nat} (hj:j<V):(mvL X Y (nbX p B d X Y i j) V)[j]?=some (mxF (dmN Y.d j) (dmN X.d j) (vcF X Y (nbF p B d i) j)):=by
 rw[A6_ _ _ _ hj,nbX,if_neg (by omega)]
theorem c1x (p:Int) (B:List (List Int)) (d:Nat→Int) (X Y:Rp) (i V:Nat):mvL X Y (nbX p B d X Y i V) V=mvL X Y (nbX p B d X Y (i+1) 0) V:=J2_ fun v hv=>by
 unfold nbX;rw[if_pos hv,if_neg (by omega)]
theorem b9X (p:Int) (B:List (List Int)) (d:Nat→Int) (X Y:Rp) (i V:Nat):mvL X Y (nbX p B d X Y i 0) V=mvL X Y (vcF X Y (nbF p B d i)) V:=J2_ fun v _=>by
 unfold nbX;rw[if_neg (by omega)]
theorem f8q (R C:Nat) (h:R*C=0) (f g:Nat→Nat→Int):mxF R C f=mxF R C g:=by
 have e:∀ f:Nat→Nat→Int,flat R C f=[]:=fun f=>m1_ (by rw[a0_];exact h)
 unfold mxF;rw[e f,e g]
theorem c5x {p:Int} {B:List (List Int)} {d:Nat→Int} {X Y:Rp} {i j V:Nat} (hj:j<V) (h:dmN Y.d j*dmN X.d j=0):mvL X Y (nbX p B d X Y i j) V=mvL X Y (nbX p B d X Y i (j+1)) V:=by
 rw[←a9q hj,f8q _ _ h _ (vcF X Y (nbF p B d i) j)];have:=b9Q (p:=p) (B:=B) (d:=d) (X:=X) (Y:=Y) (i:=i) hj;apply List.ext_getElem?
 intro k;rw[List.getElem?_set];by_cases e:j=k
 ·subst e;rw[if_pos rfl,if_pos (by rw[g1_];exact hj),this]
 ·rw[if_neg e]
theorem T6_ (ua ub lv kv:Value) (X Y:Rp) (B:List (List Int)) (K:Nat) (d:Nat→Int) (w0:World) (ha:RpR w0 w0.heap.size ua X) (hb:RpR w0 w0.heap.size ub Y) (hl:SlMM w0 w0.heap.size lv (bsL X Y B K)) (hk:SlI w0 w0.heap.size kv (rowF K d))
  (hf:Fit2 X Y) (hK:K≤100) (hd:∀ i,i<K→0≤d i∧d i≤5) (hB:∀ i t,i<K→0≤rwF B i t∧rwF B i t≤4) :
  Calls Tryz.prog 125 #[ua,ub,lv,kv] w0 fun e w'=>∃ v,e = .returned v∧d3_ w' w0.heap.size w'.heap.size v (mvL X Y (vcF X Y (nbF X.p B d K)) X.d.length)∧Below w0.heap.size w0 w':=by
 obtain⟨LA,lc,rfl,lc1,lc2⟩:=hl.form;obtain⟨KA,kc,rfl,kc1,kc2,_,hkk⟩:=hk.open_;rw[n3_]at hl lc1⊢;rw[a1_]at hk kc1⊢;clear hkk;have HL0:=h_ hl;have HKV0:=h_ hk;clear hl hk;have ha':=ha;have hb':=hb;obtain⟨A,a,C,c,Ea,ea,Ha,ha_,rfl,hqa,hda,hma,hpa,lda,lma⟩:=ha.open_;obtain⟨A2,a2,C2,c2,Eb,eb,Hb,hb_,rfl,hqb,hdb,hmb,hpb,ldb,lmb⟩:=hb.open_;clear ha hb;obtain⟨W,hW,g0,k1,k2⟩:=b_4 w0 #[.int .i64 X.p,.int .i64 X.q.v,.slice A X.q.f.length a,.slice C X.q.t.length c,.slice Ea X.d.length ea,.slice Ha X.m.length ha_] 29 #[.int .i64 Y.p,.int .i64 Y.q.v,.slice A2 Y.q.f.length a2,.slice C2 Y.q.t.length c2,.slice Eb Y.d.length eb,.slice Hb Y.m.length hb_] 29;have HXA:=h_ (RpR.next g0 ha');have HXB:=h_ (RpR.next g0 hb');have HQA:=h_ (QvR.next g0 hqa);have HDA:=h_ (SlI.next g0 hda);have HDB:=h_ (SlI.next g0 hdb);have HMA:=h_ (SlM.next g0 hma);have HMB:=h_ (SlM.next g0 hmb);have G0:=h_ g0;clear ha' hb' hqa hqb hda hdb hma hmb hpa hpb g0;have HL:=h_ (SlMM.next G0.out HL0.out);have HKV:=h_ (SlI.next G0.out HKV0.out);have HF:=h_ hf;have HD:=h_ hd;have HBB:=h_ hB;have HDM:=h_ hf.dims;have HP2:=hf.p2;have hV5:=hf.len.2;have HNB:=h_ (show ∀ i t,0≤nbF X.p B d i t∧nbF X.p B d i t≤4 from fun i t=>by have:=X1_ HP2.1 B d t i;omega);clear HL0 HKV0 hf hd hB HDA HDB HMA HMB HQA;have K1:=h_ k1;obtain⟨c0,c1,c2_,c3,c4,c5⟩:=c_6 k1;obtain⟨d0,d1,d2,d3,d4,d5⟩:=c_6 k2;clear k1 k2;go_enter Tryz.func125,Tryz.ntmps125
 go_wp2_with fail
 rw[←hW];clear hW;refine (I6_ _ _ X Y _ HXA.out HXB.out HF.out).mono ?_;rintro e w1 ⟨zv,rfl,hZ,hb1⟩;obtain⟨ZA,zc,ez,zc1,zc2⟩:=hZ.form2;rw[o1_]at ez zc1;subst ez;have hZ2:d3_ w1 W.heap.size w1.heap.size (.slice ZA X.d.length zc) (mvL X Y (nbX X.p B d X Y 0 0) X.d.length):=by
  have e:zrL X.d Y.d X.d.length=mvL X Y (nbX X.p B d X Y 0 0) X.d.length:=by rw[b9X];rfl
  rw[←e];exact hZ
 obtain⟨lo,hlo⟩:=e_ (W.heap.size);obtain⟨hi,hhi⟩:=e_ (w1.heap.size);have hs1:=hb1.size;have hs0:=G0.out.size;rw[hlo,hhi]at hZ2 hs1;rw[hlo]at hb1 hs0 HL HKV;have HLO:=h_ hlo;have HHI:=h_ hhi;have HIW:=h_ (show hi≤w1.heap.size by omega);clear hZ c0 c1 c2_ c3 c4 c5 d0 d1 d2 d3 d4 d5 hlo hhi HXA HXB;go_wp2;go_loopw [19] (fun ix wr=>∃ i:Nat,i≤K∧ix = .int .i64 i∧d3_ wr lo hi (.slice ZA X.d.length zc) (mvL X Y (nbX X.p B d X Y i 0) X.d.length)∧Below lo W wr∧Hid (hi≤wr.heap.size)) (fun ix _=>K-(intOf ix).toNat)
 case atStart=>exact⟨0,l0_ _,rfl,hZ2,hb1,HIW.out⟩
 case round =>
  clear hZ2 hb1 HIW;obtain⟨i,hi1,rfl,hM,hbel,hiw⟩:=hrel;by_cases hlt:i<K
  ·obtain⟨b,o,u,ms,rfl,hb5,HX,x1,hsl⟩:=SlMM.at_ HL.out (k:=i) (by rw[n3_];exact hlt);have hms:=HX.out;rw[d5X X Y B hlt]at hms;injection hms with hms
   subst hms;obtain⟨MA,mc,em,mc1,mc2,_,hsl2⟩:=hsl.open_;rw[g1_]at em mc1;subst em;have HSL:=h_ hsl;have e1:=a7_ hbel hb5 x1;have HM:=h_ hM;have HBL:=h_ hbel;clear HX x1 hsl hsl2 hM hbel;go_wp2;go_loopw [26] (fun jx wr=>∃ j:Nat,j≤X.d.length∧jx = .int .i64 j∧d3_ wr lo hi (.slice ZA X.d.length zc) (mvL X Y (nbX X.p B d X Y i j) X.d.length)∧Below lo W wr∧Hid (hi≤wr.heap.size)) (fun jx _=>X.d.length-(intOf jx).toNat)
   case atStart=>exact⟨0,l0_ _,rfl,HM.out,HBL.out,hiw.out⟩
   case round =>
    clear HM HBL hiw e1;obtain⟨j,hj,rfl,hM,hbel,hiw⟩:=hrel;by_cases hjl:j<X.d.length
    ·obtain⟨b2,o2,A',L',c',rfl,hb6,y1,y2,y3,hmx⟩:=SlM.atF HSL.out (g1_ X Y _ _) (A6_ X Y _ hjl);have hdm:=HDM.out j;obtain⟨A'',c'',em,hsy,_,_,_⟩:=hmx.open_;simp only[mxF,Value.agg.injEq,Array.mk.injEq,List.cons.injEq,Value.slice.injEq,and_true,true_and]at em;obtain⟨rfl,rfl,rfl⟩:=em;simp only[mxF]at hsy y3;rw[a0_]at hsy y3;obtain⟨b3,o3,m3,A3,c3,ZA',zc',ez,eza,hb7,HX3,_,_,w3_,hs3⟩:=hM.at_ (k:=j) (by rw[g1_];exact hjl);injection ez with ez1 ez2 ez3
     subst ez1 ez3;subst eza;clear ez2;have hm3:=HX3.out;rw[b9Q hjl]at hm3;injection hm3 with hm3
     subst hm3;simp only[mxF]at w3_ hs3;rw[a0_]at w3_ hs3;clear HX3;have HSET:=h_ (a9q (p:=X.p) (B:=B) (d:=d) (X:=X) (Y:=Y) (i:=i) hjl);have HSKIP:=h_ (c5x (p:=X.p) (B:=B) (d:=d) (X:=X) (Y:=Y) (i:=i) hjl);have HAT:=h_ (b9Q (p:=X.p) (B:=B) (d:=d) (X:=X) (Y:=Y) (i:=i) hjl);obtain⟨F,hF⟩:=e_ (vcF X Y (nbF X.p B d i) j);obtain⟨G,hG⟩:=e_ (vcF X Y (rwF B i) j);have HFB:=h_ (show ∀ a b,0≤F a b∧F a b≤4 from fun a b=>by rw[←hF];exact HNB.out _ _);have HGB:=h_ (show ∀ a b,0≤G a b∧G a b≤4 from fun a b=>by rw[←hG];exact HBB.out _ _ hlt);rw[hF,hG]at HSET;rw[hF]at hs3 HAT;rw[hG]at hsy;clear hF hG hmx;obtain⟨R,hR⟩:=e_ (dmN Y.d j);obtain⟨C,hC⟩:=e_ (dmN X.d j);rw[hR,hC]at HSET HSKIP HAT hsy y3 w3_ hs3 hdm;rw[hR]at y1;rw[hC]at y2;clear hR hC;obtain⟨L,hL⟩:=e_ (R*C);have hL16:L≤16:=by rw[←hL];exact Nat.mul_le_mul hdm.2 hdm.1
     rw[hL]at hsy y3 w3_ hs3;have HLL:=h_ hL;clear hL;have hc3:L≤c3∧c3≤9223372036854775807:=by
      obtain⟨_,_,e,a1,a2,_⟩:=hs3;injection e with _ _ e3
      rw[a0_,HLL.out]at a1;omega
     have hcc:L≤c'∧c'≤9223372036854775807:=by
      obtain⟨_,_,e,a1,a2,_⟩:=hsy;injection e with _ _ e3
      rw[a0_,HLL.out]at a1;omega
     obtain⟨bk,ok,kd,rfl,hbk,HXK,k1,_⟩:=SlI.atM (k:=i) HKV.out (a1_ _ _) hlt;have hxd:=HXK.out;rw[d1_ _ hlt]at hxd;injection hxd with hxd
     have HDI:=h_ (HD.out i hlt);rw[hxd]at HDI HSET;clear HXK hxd;obtain⟨W1,hW1,ga,kW⟩:=b_1 wr #[.int .i64 R,.int .i64 C,.slice A' L c'] 41;have f1:=a7_ hbel hb6 y1;have f2:=a7_ hbel hb6 y2;have f3:=a7_ hbel hb6 y3;have hbs:=hbel.size;have hwl:lo≤wr.heap.size:=by have:=HLO.out;omega
     have hba:=hbel.trans (ga.mono hwl);have HBA:=h_ hba;have HBW:=h_ (show Below W.heap.size W W1 by rw[HLO.out];exact hba);have HM1:=h_ (hM.below ga);have HSY:=h_ hsy;have HW3:=h_ (a7_ ga hb7 w3_);have HK1:=h_ (And.intro hbk k1);have KW:=h_ kW;have gas:=ga.size;have hb71:b3<W1.heap.size:=by omega
     have HIS:=h_ (show hi≤W1.heap.size by have:=hiw.out;omega);obtain⟨gb,hgb⟩:=e_ (wr.heap.size);rw[hgb]at KW;clear y1 y2 y3 hM hbel hsy w3_ hs3 ga kW hba hiw hbk k1;go_upto_region 8 with fail
     clear hW1 f1 f2 f3 hgb;refine a8_ (by kernel_rfl) [.eq (.pointer (some ⟨w0.heap.size,0,none⟩)),.eq (.int .i64 X.p),.eq (.slice (some ⟨b3,o3,none⟩) X.d.length zc),.eq (.int .i64 j),.eq (.pointer (some ⟨b3,o3+j*3,none⟩)),.eq (.pointer (some ⟨b3,o3+j*3+2,none⟩)),.eq (.slice A3 L c3),.eq (.slice (some ⟨bk,ok,none⟩) K kc),.eq (.int .i64 i),.eq (.pointer (some ⟨bk,ok+i,none⟩)),.eq (.int .i64 kd),.eq (.pointer (some ⟨gb,2,none⟩)),.eq (.slice A' L c')] [[],[0],[],[],[2,3],[2,3,4],[2,3,4,5],[],[],[7,8],[7,8,9],[],[11],[0,1,2,3,4,5,6,7,8,9,10,11,12]] 13 (by kernel_rfl) ⟨trivial,trivial,trivial,trivial,trivial,trivial,trivial,trivial,trivial,trivial,trivial,trivial,trivial,trivial⟩ ⟨?_,?_,?_,?_,?_,?_,?_,?_,?_,?_,?_,?_,?_,trivial⟩ ?_;iterate 13 (intro x w hb hk Q' hQ;have he:=k_e hk;simp only[k_s]at he;simp only[netE]at hQ⊢;(try simp only[he]at hQ⊢);(try clear he);rotate_left)
     rotate_left
     ·clear hk;go_wp2;exact hQ _ _ br_ rfl
     ·clear hk;have z:=(K1.out.call (a6_ HBW.out hb)).cell' (i:=0) rfl;go_wp2;exact hQ _ _ br_ rfl
     iterate 4 (· clear hk;go_wp2;exact hQ _ _ br_ rfl)
     ·clear hk;have z:=a7_ hb hb71 HW3.out;go_wp2;exact hQ _ _ br_ rfl
     iterate 3 (· clear hk;go_wp2;exact hQ _ _ br_ rfl)
     ·clear hk;have z:=a7_ (HBA.out.trans (hb.mono (by omega))) HK1.out.1 HK1.out.2;go_wp2;exact hQ _ _ br_ rfl
     ·clear hk;go_wp2;exact hQ _ _ br_ rfl
     ·clear hk;have z:=(KW.out.call hb).cell' (i:=2) rfl;go_wp2;exact hQ _ _ br_ rfl
     ·intro x w hb hk hiv hdj;have he:=k_g hk [0,1,2,3,4,5,6,7,8,9,10,11,12];simp only[k_s]at he;simp only[netE,he];clear he hk;have HBF:=h_ (HBA.out.trans (hb.mono (by omega)));have HMF:=h_ (HM1.out.below hb);have HC3:=h_ (a7_ hb hb71 HW3.out);have hsz:=hb.size;have HIS2:=h_ (show hi≤w.heap.size by have:=HIS.out;omega);clear hiv hdj hb HBA HBW HM1 HW3 KW HIS;go_wp2_with fail
      rcases Nat.eq_zero_or_pos L with h0 | h0
      ·refine (z6_ X.p kd (.slice A3 L c3) _ A' L c' _ h0 ⟨_,_,_,rfl⟩ rfl hcc.2).mono ?_;rintro e w9 ⟨rfl,hww⟩;replace hww:=hww.symm;subst hww;have HMG:=h_ (show d3_ w lo hi (.slice (some ⟨b3,o3,none⟩) X.d.length zc) (mvL X Y (nbX X.p B d X Y i (j+1)) X.d.length) by rw[←HSKIP.out (by rw[HLL.out];exact h0)];exact HMF.out);clear HMF HC3;go_wp2;go_roundw
       case rel=>exact⟨j+1,by omega,by go_num,HMG.out,HBF.out,HIS2.out⟩
       case measure=>simp[intOf];omega
      ·obtain⟨gm,cm,g,c9,e9,_,h9,ho9,hg9,hc9,_,hturn⟩:=HMF.out.turnAt HAT.out (by simp only[mxF];rw[a0_,HLL.out];exact h0);simp only[mxF]at h9 ho9 hc9 hturn;rw[a0_,HLL.out]at h9 ho9 hc9 hturn;injection e9 with e91 e92 e93
       injection e91 with e91
       injection e91 with e911 e912
       subst e911 e912;clear e92 e93;have h10:=HC3.out;rw[Nat.zero_add]at h10;rw[h10]at h9;injection h9 with h9
       injection h9 with h91 _ h93
       subst h91 h93;have hfr:=a4q R C F;have hgr:=a4q R C G;rw[HLL.out]at hfr hgr;have hown:a9_ w g (g+1) (.slice (some ⟨g,0,none⟩) L c3) (rowF L fun t=>(flat R C F).getD t 0):=by
        rw[←hfr];exact⟨ho9.raise,fun k hk=>by simp[Value.ownBlock]at hk;omega⟩
       have hsrc:SlI w g (.slice A' L c') (rowF L fun t=>(flat R C G).getD t 0):=by
        rw[←hgr];exact SlI.more hg9.1 (SlI.below HBF.out HSY.out)
       have hgw:g≤w.heap.size:=by have:=HIS2.out;omega
       refine (o0_ X.p kd g 0 L L c3 c3 g (g+1) _ _ _ w HP2 HDI.out hown ⟨l_ _,m0_ _⟩ (by omega) (by omega) hc3 hgw hsrc (fun t ht=>a3q HFB.out t (by rw[HLL.out];exact ht)) (fun t ht=>a3q HGB.out t (by rw[HLL.out];exact ht))).mono ?_;rintro e w9 ⟨rfl,hI9,hc99,hs9⟩;have e8:=d5Z (p:=X.p) (k:=kd) R C F G;rw[HLL.out]at e8;rw[e8]at hI9;have hM9:=hturn w9 _ (OwnI.down hI9.1 hg9.1) (b6q hc99);have HMG:=h_ (show d3_ w9 lo hi (.slice (some ⟨b3,0,none⟩) X.d.length zc) (mvL X Y (nbX X.p B d X Y i (j+1)) X.d.length) by rw[←HSET.out];exact hM9);have HBG:=h_ (HBF.out.trans (hc99.below hg9.1 (by have:=HIS2.out;omega)));have HIS3:=h_ (show hi≤w9.heap.size by have:=HIS2.out;omega);clear hM9 hI9 hc99 hs9 e8 hown hsrc hturn ho9 h10 hfr hgr HMF HC3 HBF HIS2;go_wp2;go_roundw
       case rel=>exact⟨j+1,by omega,by go_num,HMG.out,HBG.out,HIS3.out⟩
       case measure=>simp[intOf];omega
    ·obtain rfl:j=X.d.length:=by omega
     rw[c1x]at hM;have HM:=h_ hM;have HBL:=h_ hbel;clear hM hbel;go_wp2;go_roundw
     case rel=>exact⟨i+1,by omega,by go_num,HM.out,HBL.out,hiw.out⟩
     case measure=>simp[intOf];omega
  ·obtain rfl:i=K:=by omega
   rw[b9X]at hM;have HM:=h_ (d3_.wider hM (lo':=w0.heap.size) (hi':=wr.heap.size) (by omega) hiw.out);have HBL:=h_ (G0.out.trans (hbel.mono (by omega)));clear hM hbel;go_wp2;go_ret
   exact⟨_,rfl,HM.out,HBL.out⟩
end Go.Proofs.YtnohdlkailpnoaaGreat

