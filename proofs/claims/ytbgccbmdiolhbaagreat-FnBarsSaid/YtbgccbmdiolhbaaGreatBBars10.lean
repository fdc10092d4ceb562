/- FnBars: the law holds for every argument. Part 10 of 16 of the proof: RTab3, Det0, BfOf, BfOf2, BfOf3, Zero2, Zero3, ZigI, ZigI2, ZigI3, ZigI4, ZigI5, ColZ. No condition. -/
import Derived.Test.YtbgccbmdiolhbaaGreatBBars9
set_option linter.unusedVariables false
set_option linter.unusedSimpArgs false
set_option maxHeartbeats 12800000
set_option maxRecDepth 100000
namespace Go.Proofs.YtbgccbmdiolhbaaGreat
open Go.RowKit
def rtS (L:Nat) (f:Nat→Nat→Int) (v:Nat):List (List Int):=(List.range v).map fun a=>rowF L (f a)
theorem Q7_ (L:Nat) (f:Nat→Nat→Int) (v:Nat):(rtS L f v).length=v:=by simp[rtS]
theorem d8q (L:Nat) (f:Nat→Nat→Int) (v:Nat):rtS L f (v+1)=rtS L f v ++ [rowF L (f v)]:=by simp[rtS,List.range_succ]
theorem g3z {L v:Nat} (f:Nat→Nat→Int) (h:∀ w,w<v→f v w=0):List.replicate L 0=rtR L f v v:=by
 rw[i2j L f v];refine d1_ fun b _=>?_
 rw[if_neg (by omega)];split
 ·exact (h b ‹_›).symm
 ·rfl
theorem J0_ (u:Value) (x:Rp) (w0:World) (hu:RpR w0 w0.heap.size u x) (hno:okL x=false) :
  Calls Tryz.prog 9 #[u] w0 fun e w'=>∃ v,e = .returned (.tuple #[v,.bool (rtM x).2])∧b4_ w' w0.heap.size w'.heap.size v (rtM x).1∧Below w0.heap.size w0 w':=by
 have hu':=hu;obtain⟨A,a,C,c,E,e,H,h,rfl,hq,hd,hm,hp,ld,lm⟩:=hu.open_;clear hu;obtain⟨W,hW⟩:∃ W,W=(w0.alloc (.cells #[.int .i64 x.p,.int .i64 x.q.v,.slice A x.q.f.length a,.slice C x.q.t.length c,.slice E x.d.length e,.slice H x.m.length h] 29)).alloc (.cells #[] 24):=⟨_,rfl⟩;have g0:Below w0.heap.size w0 W:=by rw[hW];exact ((Below.refl _ _).alloc (l_ _) _).alloc (by simp) _
 have kB:Blk W w0.heap.size 29 #[.int .i64 x.p,.int .i64 x.q.v,.slice A x.q.f.length a,.slice C x.q.t.length c,.slice E x.d.length e,.slice H x.m.length h]:=by rw[hW];exact (Blk.new _ _ _).alloc _
 have oW:b4_ W (w0.heap.size+1) W.heap.size (.slice (some ⟨w0.heap.size+1,0,none⟩) 0 0) []:=by
  have:=b4_.made0 (w0.alloc (.cells #[.int .i64 x.p,.int .i64 x.q.v,.slice A x.q.f.length a,.slice C x.q.t.length c,.slice E x.d.length e,.slice H x.m.length h] 29)) (lo:=w0.heap.size+1) (by simp);rw[←hW]at this;simpa only[l3_] using this
 have sz:W.heap.size=w0.heap.size+1+1:=by rw[hW];simp
 have HXR:=h_ (RpR.next g0 hu');have HQ1:=h_ (QvR.next g0 hq);have HF:=h_ (show rtM x=([],false) by rw[rtM,if_neg (by simp[hno])]);have SZ:=h_ sz;clear hd hm sz;rcases h1:m9_ x with _ | _
 ·have H1:=h_ h1;clear h1 hu' hq;obtain⟨c0,c1,c2,c3,c4,c5⟩:=c_6 kB;rw[hW]at c0 c1 c2 c3 c4 c5;go_enter Tryz.func9,Tryz.ntmps9
  go_wp2_with fail
  rw[←hW];clear hW;refine (k4_ _ x _ HXR.out).mono ?_;rintro e w1 ⟨rfl,hb1⟩;rw[H1.out];have g1:=b0_ g0 hb1;have o1:=(oW.below hb1).wider (show w0.heap.size≤w0.heap.size+1 by omega) hb1.size;clear c0 c1 c2 c3 c4 c5 hb1 kB oW;go_wp2;go_ret2
  exact⟨.slice (some ⟨w0.heap.size+1,0,none⟩) 0 0,by rw[HF.out];rfl,by rw[HF.out];exact o1,g1⟩
 ·have H1:=h_ h1;have H2:=h_ (show isL x.q=false by simpa [okL,h1] using hno);clear h1 hu' hq hno;obtain⟨c0,c1,c2,c3,c4,c5⟩:=c_6 kB;rw[hW]at c0 c1 c2 c3 c4 c5;go_enter Tryz.func9,Tryz.ntmps9
  go_wp2_with fail
  rw[←hW];clear hW;refine (k4_ _ x _ HXR.out).mono ?_;rintro e w1 ⟨rfl,hb1⟩;rw[H1.out];have g1:=b0_ g0 hb1;have o1:=(oW.below hb1).wider (l_ _) hb1.size;have kB1:=kB.call hb1;have HQ2:=h_ (QvR.next hb1 HQ1.out);clear c0 c1 c2 c3 c4 c5 hb1 kB g0 oW;obtain⟨c0,c1,c2,c3,c4,c5⟩:=c_6 kB1;go_wp2_with fail
  refine (g2_ _ x.q _ HQ2.out).mono ?_;rintro e w2 ⟨rfl,hb2⟩;rw[H2.out];have g2:=b0_ g1 hb2;have o2:=(o1.below hb2).wider (show w0.heap.size≤w0.heap.size+1 by omega) hb2.size;clear c0 c1 c2 c3 c4 c5 hb2 kB1 g1 o1;go_wp2;go_ret2
  exact⟨.slice (some ⟨w0.heap.size+1,0,none⟩) 0 0,by rw[HF.out];rfl,by rw[HF.out];exact o2,g2⟩
theorem F1_ (u:Value) (x:Rp) (w0:World) (hu:RpR w0 w0.heap.size u x) (hok:okL x=true) :
  Calls Tryz.prog 9 #[u] w0 fun e w'=>∃ v,e = .returned (.tuple #[v,.bool (rtM x).2])∧b4_ w' w0.heap.size w'.heap.size v (rtM x).1∧Below w0.heap.size w0 w':=by
 have hu':=hu;obtain⟨A,a,C,c,E,e,H,h,rfl,hq,hd,hm,hp,ld,lm⟩:=hu.open_;clear hu;obtain⟨W,hW⟩:∃ W,W=(w0.alloc (.cells #[.int .i64 x.p,.int .i64 x.q.v,.slice A x.q.f.length a,.slice C x.q.t.length c,.slice E x.d.length e,.slice H x.m.length h] 29)).alloc (.cells #[] 24):=⟨_,rfl⟩;have g0:Below w0.heap.size w0 W:=by rw[hW];exact ((Below.refl _ _).alloc (l_ _) _).alloc (by simp) _
 have kB:Blk W w0.heap.size 29 #[.int .i64 x.p,.int .i64 x.q.v,.slice A x.q.f.length a,.slice C x.q.t.length c,.slice E x.d.length e,.slice H x.m.length h]:=by rw[hW];exact (Blk.new _ _ _).alloc _
 have oW:b4_ W (w0.heap.size+1) W.heap.size (.slice (some ⟨w0.heap.size+1,0,none⟩) 0 0) []:=by
  have:=b4_.made0 (w0.alloc (.cells #[.int .i64 x.p,.int .i64 x.q.v,.slice A x.q.f.length a,.slice C x.q.t.length c,.slice E x.d.length e,.slice H x.m.length h] 29)) (lo:=w0.heap.size+1) (by simp);rw[←hW]at this;simpa only[l3_] using this
 have sz:W.heap.size=w0.heap.size+1+1:=by rw[hW];simp
 have HXR:=h_ (RpR.next g0 hu');have HQ1:=h_ (QvR.next g0 hq);clear hu';obtain⟨h1,h2,h3,l1,l5,lm',hds,hms⟩:=T8_ hok;have hpr:=f9_ h3;have HF:=h_ (show rtM x=(matF x.d.length (rtF x),true) by rw[rtM,if_pos hok]);have H1:=h_ h1;have H2:=h_ h2;have H3:=h_ h3;have HDS:=h_ hds;have HMS:=h_ hms;have HDA:=h_ (a7x hok);have HM:=h_ hm;have HD:=h_ hd;have LM:=h_ lm';have SZ:=h_ sz;clear h1 h2 h3 hds hms hok hq hm hd lm lm';obtain⟨bd,od,ed,hbd⟩:∃ b o,E=some ⟨b,o,none⟩∧b<w0.heap.size:=by
  obtain⟨b,o,_,h1,h2,_⟩:=SlI.at_ (k:=0) HD.out (by omega);exact⟨b,o,h1,h2⟩
 subst ed;clear sz;obtain⟨c0,c1,c2,c3,c4,c5⟩:=c_6 kB;rw[hW]at c0 c1 c2 c3 c4 c5;go_enter Tryz.func9,Tryz.ntmps9
 go_wp2_with fail
 rw[←hW];clear hW;refine (k4_ _ x _ HXR.out).mono ?_;rintro e w1 ⟨rfl,hb1⟩;rw[H1.out];have g1:=b0_ g0 hb1;have o1:=(oW.below hb1).wider (l_ _) hb1.size;have kB1:=kB.call hb1;have HQ2:=h_ (QvR.next hb1 HQ1.out);clear c0 c1 c2 c3 c4 c5 hb1 kB g0 oW;obtain⟨c0,c1,c2,c3,c4,c5⟩:=c_6 kB1;go_wp2_with fail
 refine (g2_ _ x.q _ HQ2.out).mono ?_;rintro e w2 ⟨rfl,hb2⟩;rw[H2.out];have g2:=b0_ g1 hb2;have kB2:=kB1.call hb2;have o2:=(o1.below hb2).wider (l_ _) hb2.size;have s2:w0.heap.size+1≤w2.heap.size:=by have:=kB2.lt;omega
 clear c0 c1 c2 c3 c4 c5 hb2 kB1 g1 o1;go_wp2;go_loopw [4,5] (fun ov i wr=>∃ v:Nat,v≤x.d.length∧i = .int .i64 v∧Below (w0.heap.size+1) w2 wr∧b4_ wr (w0.heap.size+1) wr.heap.size ov (rtS x.d.length (rtF x) v)) (fun _ i _=>x.d.length-(intOf i).toNat)
 case atStart=>exact⟨0,l0_ _,rfl,Below.refl _ _,o2⟩
 case round =>
  clear o2;obtain⟨v,hv,rfl,hbel,hO⟩:=hrel;obtain⟨OA,oc,eo,hoc,hoc2,_⟩:=hO.form2;rw[Q7_]at eo hoc;subst eo;have ws:=hbel.size;have kBr:=kB2.below hbel (by omega);have gw:=g2.trans (hbel.mono (by omega));by_cases hlt:v<x.d.length
  ·obtain⟨bd',od',D0,ed,hbd',HX,x1,_⟩:=SlI.at_ (k:=v) HD.out hlt;injection ed with ed
   injection ed with ed1 ed2
   subst ed1 ed2;have hx:=HX.out;rw[(HDS.out v hlt).1]at hx;injection hx with hx
   subst hx;have hDv:=HDA.out v;obtain⟨X,hX⟩:∃ u,u=wr.alloc (.cells (f4_ (.int .i64 0) x.d.length) 3):=⟨_,rfl⟩;have hmkX:=A5_ wr (n:=x.d.length) (by omega);rw[←hX]at hmkX;have bX:Below wr.heap.size wr X:=by rw[hX];exact a0_ _ _
   have rX:a8_ X wr.heap.size X.heap.size (.slice (some ⟨wr.heap.size,0,none⟩) x.d.length x.d.length) (rtR x.d.length (rtF x) v v):=by
    rw[hX,←g3z (rtF x) fun w hw=>c7X x hw];exact a8_.of_own (OwnI.made0 (l_ _) (by omega))
   have sX:X.heap.size=wr.heap.size+1:=by rw[hX];simp
   have hOX:=hO.below bX;have x2:=a4_ (gw.trans (bX.mono (by omega))) hbd x1;have p4:=kBr.cell' (i:=4) rfl;have kBX:=kBr.call bX;have c4:=kBX.cell' (i:=4) rfl;have BX:=h_ (hbel.trans (bX.mono (by omega)));obtain⟨G,hG⟩:∃ z,z=wr.heap.size:=⟨_,rfl⟩;clear hO hbel HX x1 bX hX;go_wp2_with fail
   rw[←hG]at rX sX hOX⊢;have hG2:w0.heap.size+1≤G:=by omega
   clear hmkX p4 c4 x2 hG;refine (O6_ (dN x v) _ (by omega)).mono ?_;rintro e w4 ⟨m4,rfl,hI,hb4⟩;obtain⟨MA,mc,em⟩:=hI.form;subst em;simp only[mxF,a1_]at hI⊢;obtain⟨MN,hMN⟩:=e_ (dN x v*dN x v);rw[hMN]at hI⊢;obtain⟨s4,es,oI,_,_⟩:=hI;simp only[Value.agg.injEq,Array.mk.injEq,List.cons.injEq,and_true,true_and]at es;subst es;obtain⟨w5,hw5,b5,k5⟩:=b_3 w4 #[.int .i64 (dN x v),.int .i64 (dN x v),.slice MA MN mc] 65;have b45:=b0_ hb4 b5;have s45:=b45.size;have s4:=hb4.size;have s5:w5.heap.size=w4.heap.size+1:=by rw[hw5];simp
   have oI5:a8_ w5 X.heap.size w4.heap.size (.slice MA MN mc) (flat (dN x (v+(0-1))) (dN x v) (pdF x v (0-1))):=by
    have:=oI.below b5;exact this
   have hO5:=hOX.below b45;have B5:=BX.out.trans (b45.mono (by omega));have r5:=rX.below b45;clear oI b5 hb4 hMN b45 hOX rX;go_wp2;rw[←hw5];clear hw5;go_loopw [8] (fun i wr=>∃ (n NN K:Nat) (MA:Option Addr) (mc:Nat),v+n≤x.d.length∧i = .int .i64 (K:Int)∧Hid (K=v+n)∧Below (w0.heap.size+1) w2 wr∧w5.heap.size≤wr.heap.size∧b4_ wr (w0.heap.size+1) G (.slice OA v oc) (rtS x.d.length (rtF x) v) ∧
    a8_ wr G (G+1) (.slice (some ⟨G,0,none⟩) x.d.length x.d.length) (rtR x.d.length (rtF x) v K) ∧
    Blk wr w4.heap.size 65 #[.int .i64 (dN x (v+(n-1))),.int .i64 (dN x v),.slice MA NN mc]∧a8_ wr X.heap.size wr.heap.size (.slice MA NN mc) (flat (dN x (v+(n-1))) (dN x v) (pdF x v (n-1)))) (fun i _=>x.d.length-(intOf i).toNat)
   case atStart=>exact⟨0,MN,v,MA,mc,by omega,rfl,rfl,B5,l_ _,hO5,r5.wider (l_ _) (by omega),k5,oI5.wider (l_ _) (by omega)⟩
   case round =>
    clear hO5 r5 k5 oI5 B5 ws kBr gw kBX;obtain⟨n,NN,K,MA,mc,hn,rfl,HK,hbel,hs,hO,hR,k5,oM⟩:=hrel;have kBr:=kB2.below hbel (by omega);have gw:=g2.trans (hbel.mono (by omega));have k4:=kBr.cell' (i:=4) rfl;have hK1:K≤v+n:=Nat.le_of_eq HK.out;have hK2:v+n≤K:=Nat.le_of_eq HK.out.symm;by_cases hlw:K<x.d.length
    ·obtain⟨y,hy⟩:∃ y,y=x:=⟨_,rfl⟩;subst hy;obtain⟨D0,hD0⟩:=e_ (dN y v);obtain⟨D2,hD2⟩:=e_ (dN y (v+n));have hrt:rtF y v K=(rkF y.p D2 D0 (pdF y v n):Int):=by
      rw[rtF,if_neg (by omega),show K-v=n by omega,show K=v+n by omega,hD2,hD0]
     have inP1:=s4_ H3.out v n;have hd0:=HDA.out v;have hd2:=HDA.out (v+n);rw[hD0]at hd0 inP1 oM k5;rw[hD2]at hd2 inP1;have HRT:=h_ hrt;have HINP1:=h_ inP1;have HD2:=h_ hD2;have HD0:=h_ hD0;clear hrt inP1 hD2 hD0;rcases n with _ | n
     ·have hnv:¬ v<K:=by omega
      have e0:D2=dN y (v+(0-1)):=HD2.out.symm;rw[←e0]at k5 oM;have HROW:=h_ hR;have HOUT:=h_ hO;have HBY:=h_ hbel;have ONY:=h_ oM;have kBY:=kBr;have kY:=k5;clear hR hO hbel oM k5 kBr e0 gw;have hRKL:=r5_ y.p D2 D0 (pdF y v 0);obtain⟨rk,hrk⟩:=e_ (rkF y.p D2 D0 (pdF y v 0));rw[hrk]at hRKL;have HRK:=h_ hrk;have HHR:=h_ (show rtF y v K=(rk:Int) by rw[HRT.out,hrk]);have hM:=ONY.out.rd;have HMM:Hid (MxR wr wr.heap.size (.agg #[.int .i64 D2,.int .i64 D0,.slice MA NN mc]) (mxF D2 D0 (pdF y v 0))):=⟨_,rfl,hM,by constructor <;> simp[mxF] <;> omega,by constructor <;> simp[mxF] <;> omega⟩;clear hM hrk;obtain⟨q0,q1,q2⟩:=c_3 kY;have p0:=kBY.cell' (i:=0) rfl;go_wp2_with fail
      refine (Q6_ y.p _ D2 D0 (pdF y v 0) _ H3.out (by omega) (by omega) HMM.out HINP1.out).mono ?_;rintro e w6 ⟨rfl,hb6⟩;rw[HRK.out];have hws6:=hb6.size;have hR6:=HROW.out.below hb6;have y3:=(hR6.1.cellG (j:=K) (by rw[rtR,a2_];exact hlw)).1;have y4:=hR6.1.frozenG K;have pt:=hR6.put (j:=K) (x:=(rk:Int)) (by constructor <;> omega);rw[←HHR.out,a4Q,HHR.out]at pt;have hc3:Chg G (G+1) w6 (w6.setCell ⟨G,K,none⟩ (.int .i64 (rk:Int))):=a5_ (l_ _) (m0_ _);have kY2:=(kY.call hb6).chg hc3 (.inr (by omega));have oN2:=(ONY.out.below hb6).chg hc3 (.inr (by omega));have oO2:=(HOUT.out.below hb6).chg hc3 (.inl (by omega));have bY2:=(HBY.out.trans (hb6.mono (by omega))).trans (hc3.below (by omega) (by omega));have PT:=h_ pt;have HK2:=h_ kY2;have HON2:=h_ oN2;have HOO2:=h_ oO2;have HB2:=h_ bY2;clear pt hc3 kY2 oN2 oO2 bY2 hR6 hb6 kBY kY;go_wp2;go_roundw
      case rel=>exact⟨0+1,NN,K+1,MA,mc,by omega,by go_num,(by show K+1=v+(0+1);omega),HB2.out,by simp;omega,HOO2.out,PT.out,by show Blk _ _ _ #[.int .i64 (dN y (v+0)),_,_];rw[HD2.out,HD0.out];exact HK2.out,by show a8_ _ _ _ _ (flat (dN y (v+0)) _ (pdF y v 0));rw[HD2.out,HD0.out];exact HON2.out.wider (by omega) (by simp;omega)⟩
      case measure=>simp[intOf];omega
     ·replace oM:a8_ wr X.heap.size wr.heap.size (.slice MA NN mc) (flat (dN y (v+n)) D0 (pdF y v n)):=oM;replace k5:Blk wr w4.heap.size 65 #[.int .i64 (dN y (v+n)),.int .i64 D0,.slice MA NN mc]:=k5;obtain⟨J,hJ⟩:∃ z,z=v+n:=⟨_,rfl⟩;have hJ1:J+1≤K:=by omega
      have hJ2:K≤J+1:=by omega
      have hvK:v<K:=by omega
      obtain⟨hm1,hm2⟩:=HMS.out (v+n) (by omega);have hml:v+n<y.m.length:=by have:=LM.out;omega
      obtain⟨bm,om,m1,A1,c1',eH,hbm,HM1,z0,z1,z2,hs1,i1,i2,_⟩:=SlM.at_ (k:=v+n) HM.out hml;subst eH;have em1:=HM1.out;rw[hm1]at em1;injection em1 with em1
      subst em1;have hMB:MxR w0 w0.heap.size (.agg #[.int .i64 (dN y (v+n+1)),.int .i64 (dN y (v+n)),.slice A1 (flat (dN y (v+n+1)) (dN y (v+n)) (mpF y (v+n))).length c1']) (mxF (dN y (v+n+1)) (dN y (v+n)) (mpF y (v+n))):=⟨_,rfl,hs1,i1,i2⟩;simp only[mxF,a1_]at hMB z0 z1 z2;obtain⟨ML,hML⟩:=e_ (dN y (v+n+1)*dN y (v+n));rw[hML]at hMB z2;obtain⟨D1,hD1⟩:=e_ (dN y (v+n));have hD2:dN y (v+n+1)=D2:=HD2.out;have hp1:pdF y v (n+1)=muP y.p D1 (mpF y (v+n)) (pdF y v n):=by rw[pdF,hD1]
      have inP:=s4_ H3.out v n;have hd1:=HDA.out (v+n);rw[HD0.out]at inP;rw[hD1]at oM k5 hd1 inP hm2 hMB z1;rw[hD2]at hm2 hMB z0;rw[←hJ]at z0 z1 z2;have HJ:=h_ hJ;have hJm:J<y.m.length:=by omega
      have HP1:=h_ hp1;have HMB:=h_ hMB;have HIN1:=h_ hm2;have HINP:=h_ inP;have HOM:=h_ oM;have HBEL:=h_ hbel;have HOO:=h_ hO;have HRR:=h_ hR;have HGW:=h_ gw;have gws:=gw.size;clear hm1 hm2 hml hs1 i1 i2 HM1 hMB hML hD1 hD2 inP hp1 oM hbel hO hR gw hJ;go_wp2;clear k4;refine a9_ (by kernel_rfl) [.eq (.pointer (some ⟨w0.heap.size,0,none⟩)),.eq (.int .i64 y.p),.eq (.pointer (some ⟨w0.heap.size,5,none⟩)),.eq (.slice (some ⟨bm,om,none⟩) y.m.length h),.eq (.int .i64 (K:Int)),.eq (.int .i64 (J:Int)),.eq (.pointer (some ⟨bm,om+J*3,none⟩)),.eq (.agg #[.int .i64 D2,.int .i64 D1,.slice A1 ML c1']),.eq (.agg #[.int .i64 D1,.int .i64 D0,.slice MA NN mc]),rel 9 (fun u lo hi w=>MxO w lo hi u (mxF D2 D0 (muP y.p D1 (mpF y (v+n)) (pdF y v n))))] [[],[0],[],[2],[],[4],[2,3,4,5],[2,3,4,5,6],[],[0,1,2,3,4,5,6,7,8],[0,1,2,3,4,5,6,7,8,9]] 10 (by kernel_rfl) ⟨trivial,trivial,trivial,trivial,trivial,trivial,trivial,trivial,trivial,a7_ (fun u lo hi w w' h hb=>h.below hb),trivial⟩ ⟨?_,?_,?_,?_,?_,?_,?_,?_,?_,?_,trivial⟩ ?_;iterate 10 (intro x w hb hk Q' hQ;have he:=k_e hk;simp only[k_s]at he;simp only[netE]at hQ⊢;(try simp only[he]at hQ⊢);(try clear he);rotate_left)
      rotate_left
      ·clear hk;go_wp2;exact hQ _ _ br_ rfl
      ·clear hk;have q0:=(kBr.call hb).cell' (i:=0) rfl;go_wp2;exact hQ _ _ br_ rfl
      ·clear hk;go_wp2;exact hQ _ _ br_ rfl
      ·clear hk;have q0:=(kBr.call hb).cell' (i:=5) rfl;go_wp2;exact hQ _ _ br_ rfl
      ·clear hk;go_wp2;exact hQ _ _ br_ rfl
      ·clear hk;go_wp2;rw[show (K:Int)-1=(J:Int) by omega];exact hQ _ _ br_ rfl
      ·clear hk;go_wp2;exact hQ _ _ br_ rfl
      ·clear hk;have gq:=(HGW.out).trans (hb.mono (HGW.out).size);have q0:=a4_ gq hbm z0;have q1:=a4_ gq hbm z1;have q2:=a4_ gq hbm z2;go_wp2;exact hQ _ _ br_ rfl
      ·clear hk;have kq:=k5.call hb;obtain⟨q0,q1,q2⟩:=c_3 kq;go_wp2;exact hQ _ _ br_ rfl
      ·clear hk;have gq:=(HGW.out).trans (hb.mono (HGW.out).size);have HMR:=h_ (MxR.more gq.size (MxR.below gq HMB.out));have hM:=(HOM.out.below hb).rd;have HMM:Hid (MxR w w.heap.size (.agg #[.int .i64 D1,.int .i64 D0,.slice MA NN mc]) (mxF D1 D0 (pdF y v n))):=⟨_,rfl,hM,by constructor <;> simp[mxF] <;> omega,by constructor <;> simp[mxF] <;> omega⟩;clear gq hM;go_wp2_with fail
       refine (O7_ y.p _ _ D2 D1 D0 _ _ _ hpr (by omega) (by omega) (by omega) HMR.out HMM.out HIN1.out HINP.out).mono ?_;rintro e w6 ⟨m6,rfl,hM6,hb6⟩;go_wp2;exact hQ _ _ hb6 hM6
      ·intro x w hb hk hiv hdj;have h9:MxO w (x.lo 9) (x.hi 9) (x.v 9) (mxF D2 D0 (muP y.p D1 (mpF y (v+n)) (pdF y v n))):=hk 9 (by decide);have he:=k_g hk [0,1,2,3,4,5,6,7,8];simp only[k_s]at he;simp only[netE,he];clear he hk;obtain⟨i9a,i9b,i9c⟩:=hiv 9 (by decide);obtain⟨MB,mb,e9⟩:=h9.form;have h9':=h9;rw[e9]at h9'⊢;simp only[mxF,a1_]at h9'⊢;obtain⟨MS,hMS⟩:=e_ (D2*D0);rw[hMS]at h9'⊢;obtain⟨sq,eq,oN,_,_⟩:=h9';simp only[Value.agg.injEq,Array.mk.injEq,List.cons.injEq,and_true,true_and]at eq;subst eq;have kq:=k5.call hb;obtain⟨q0,q1,q2⟩:=c_3 kq;have qf:=kq.frozen;have hws:=hb.size;have hc:=chg3 w w4.heap.size (.int .i64 D2) (.int .i64 D0) (.slice MB MS mb);obtain⟨Y,hY⟩:∃ u,u=((w.setCell ⟨w4.heap.size,0,none⟩ (.int .i64 D2)).setCell ⟨w4.heap.size,1,none⟩ (.int .i64 D0)).setCell ⟨w4.heap.size,2,none⟩ (.slice MB MS mb):=⟨_,rfl⟩;rw[←hY]at hc;have kY:Blk Y w4.heap.size 65 #[.int .i64 D2,.int .i64 D0,.slice MB MS mb]:=by
        rw[hY];exact ((kq.set_ 0 (.int .i64 D2)).set_ 1 (.int .i64 D0)).set_ 2 (.slice MB MS mb)
       have HOUT:=h_ ((HOO.out.below hb).chg hc (.inl (by omega)));have HROW:=h_ ((HRR.out.below hb).chg hc (.inl (by omega)));have hbY:=(HBEL.out.trans (hb.mono (by omega))).trans (hc.below (by omega) (by omega));have ONY:=h_ ((oN.chg hc (.inr (by omega))).wider (lo':=X.heap.size) (hi':=w.heap.size) (by omega) (by omega));have hsY:Y.heap.size=w.heap.size:=by rw[hY];simp
       have HSY:=h_ hsY;have hsY1:w.heap.size≤Y.heap.size:=Nat.le_of_eq HSY.out.symm;have kBY:=kB2.below hbY (by omega);have HBY:=h_ hbY;rw[←HP1.out]at ONY;clear hMS h9 e9 oN hc hiv hdj kq hb k5 hbY hsY;obtain⟨y0,y1,y2⟩:=c_3 kY;have y3:=kBY.cell' (i:=0) rfl;rw[hY]at y0 y1 y2 y3;go_wp2_with fail
       rw[←hY];clear hY q0 q1 q2 qf y0 y1 y2 y3;have hRKL:=r5_ y.p D2 D0 (pdF y v (n+1));obtain⟨rk,hrk⟩:=e_ (rkF y.p D2 D0 (pdF y v (n+1)));rw[hrk]at hRKL;have HRK:=h_ hrk;have HHR:=h_ (show rtF y v K=(rk:Int) by rw[HRT.out,hrk]);have hM:=ONY.out.rd;have HMM:Hid (MxR Y Y.heap.size (.agg #[.int .i64 D2,.int .i64 D0,.slice MB MS mb]) (mxF D2 D0 (pdF y v (n+1)))):=⟨_,rfl,hM,by constructor <;> simp[mxF] <;> omega,by constructor <;> simp[mxF] <;> omega⟩;clear hM hrk;refine (Q6_ y.p _ D2 D0 (pdF y v (n+1)) _ H3.out (by omega) (by omega) HMM.out HINP1.out).mono ?_;rintro e w6 ⟨rfl,hb6⟩;rw[HRK.out];have hws6:=hb6.size;have hR6:=HROW.out.below hb6;have y3:=(hR6.1.cellG (j:=K) (by rw[rtR,a2_];exact hlw)).1;have y4:=hR6.1.frozenG K;have pt:=hR6.put (j:=K) (x:=(rk:Int)) (by constructor <;> omega);rw[←HHR.out,a4Q,HHR.out]at pt;have hc3:Chg G (G+1) w6 (w6.setCell ⟨G,K,none⟩ (.int .i64 (rk:Int))):=a5_ (l_ _) (m0_ _);have kY2:=(kY.call hb6).chg hc3 (.inr (by omega));have oN2:=(ONY.out.below hb6).chg hc3 (.inr (by omega));have oO2:=(HOUT.out.below hb6).chg hc3 (.inl (by omega));have bY2:=(HBY.out.trans (hb6.mono (by omega))).trans (hc3.below (by omega) (by omega));have PT:=h_ pt;have HK2:=h_ kY2;have HON2:=h_ oN2;have HOO2:=h_ oO2;have HB2:=h_ bY2;clear pt hc3 kY2 oN2 oO2 bY2 hR6 hb6 kBY kY;go_wp2;go_roundw
       case rel=>exact⟨(n+1)+1,MS,K+1,MB,mb,by omega,by go_num,(by show K+1=v+((n+1)+1);omega),HB2.out,by simp;omega,HOO2.out,PT.out,by show Blk _ _ _ #[.int .i64 (dN y (v+(n+1))),_,_];rw[HD2.out,HD0.out];exact HK2.out,by show a8_ _ _ _ _ (flat (dN y (v+(n+1))) _ (pdF y v (n+1)));rw[HD2.out,HD0.out];exact HON2.out.wider (by omega) (by simp;omega)⟩
       case measure=>simp[intOf];omega
    ·have hKL:K=x.d.length:=by omega
     rw[hKL,c8j]at hR;obtain⟨u,hu,Z,hZ⟩:∃ u,u=wr.heap.size∧∃ Z,Z=wr.alloc (.cells #[.slice (some ⟨G,0,none⟩) x.d.length x.d.length] 24):=⟨_,rfl,_,rfl⟩;have bZ:Below wr.heap.size wr Z:=by rw[hZ];exact a0_ _ _
     have kZ:Blk Z u 24 #[.slice (some ⟨G,0,none⟩) x.d.length x.d.length]:=by rw[hZ,hu];exact Blk.new _ _ _
     have hOZ:=hO.below bZ;have hRZ:=hR.below bZ;have hBZ:=hbel.trans (bZ.mono (by omega));have sZ:=bZ.size;have HOZ:=h_ hOZ;have HRZ:=h_ hRZ;have HBZ:=h_ hBZ;have c0:=kZ.cell' (i:=0) rfl;have C0:=h_ c0;have HU:=h_ hu;have HKL:=h_ hKL;clear hO hR hbel bZ hOZ hRZ hBZ kZ c0 hu hKL k5 oM kBr gw
     (go_wp2_with (at_builtin;refine Hold.stop ?_));unfold Hold
     rw[←HU.out,←hZ];clear hZ;refine A8_ rfl (.tmp 65) (.tmp 67) rfl (w0.heap.size+1) G G (G+1) (.slice OA v oc) (rtS x.d.length (rtF x) v) (rowF x.d.length (rtF x v)) rfl HOZ.out _ _ (.slice (some ⟨G,0,none⟩) x.d.length x.d.length) rfl ⟨u,0,rfl,C0.out⟩ HRZ.out (l_ _) (by omega) (by omega) (by rw[Q7_];omega) (by omega) (by omega) ?_;intro v9 w9 ho9 hb9 _;rw[←d8q]at ho9;have HO9:=h_ ho9;have HB9:=h_ (HBZ.out.trans hb9);clear ho9 hb9;go_wp2;go_roundw
     case rel=>exact⟨v+1,by omega,by go_num,HB9.out,HO9.out⟩
     case measure=>simp[intOf];omega
  ·have hvL:v=x.d.length:=by omega
   have e1:rtS x.d.length (rtF x) v=matF x.d.length (rtF x):=by rw[hvL];rfl
   rw[e1]at hO;have HO:=h_ (hO.wider (show w0.heap.size≤w0.heap.size+1 by omega) (l_ _));have HG:=h_ gw;have c4:=kBr.cell' (i:=4) rfl;clear hO hbel hvL e1 gw;go_wp2;go_ret2
   exact⟨.slice OA v oc,by rw[HF.out];rfl,by rw[HF.out];exact HO.out,HG.out⟩
theorem n9_ (u:Value) (x:Rp) (w0:World) (hu:RpR w0 w0.heap.size u x) :
  Calls Tryz.prog 9 #[u] w0 fun e w'=>∃ v,e = .returned (.tuple #[v,.bool (rtM x).2])∧b4_ w' w0.heap.size w'.heap.size v (rtM x).1∧Below w0.heap.size w0 w':=by
 rcases h:okL x with _ | _
 ·exact J0_ u x w0 hu h
 ·exact F1_ u x w0 hu h
structure Sq (n:Nat) (m:List (List Int)):Prop where
 len:m.length=n
 row:∀ r∈m,r.length=n
 rng:∀ r∈m,∀ x∈r,-12≤x∧x≤12
theorem SlII.two {w:World} {t:TypeId} {a b:Value} {l m:List Int} (ha:SlI w w.heap.size a l) (hb:SlI w w.heap.size b m) :
  SlII (w.alloc (.cells #[a,b] t)) (w.alloc (.cells #[a,b] t)).heap.size (.slice (some ⟨w.heap.size,0,none⟩) 2 2) [l,m]:=by
 have hbel:=a0_ w (.cells #[a,b] t);have hk:=Blk.new w t #[a,b];refine⟨some ⟨w.heap.size,0,none⟩,2,rfl,by simp,by omega,by simp,fun _=>⟨w.heap.size,0,rfl,hk.lt,fun j x hj=>?_⟩⟩
 match j,hj with
 | 0,hj=>injection hj with hj;subst hj;exact⟨a,hk.cell' rfl,SlI.next hbel ha⟩
 | 1,hj=>injection hj with hj;subst hj;exact⟨b,hk.cell' rfl,SlI.next hbel hb⟩
theorem SlI.elt {w:World} {B b o c k:Nat} {xs:List Int} (h:SlI w B (.slice (some ⟨b,o,none⟩) xs.length c) xs) (hk:k<xs.length):∃ x,xs[k]?=some x∧b<B∧w.cell? ⟨b,o+k,none⟩=some (.int .i64 x)∧-9223372036854775808≤x∧x≤9223372036854775807:=by
 obtain⟨b',o',x,e,h1,h2,h3,h4⟩:=SlI.at_ h hk;injection e with e
 injection e with e1 e2
 subst e1 e2;exact⟨x,h2.out,h1,h3,h4⟩
theorem SlII.elt {w:World} {B b o c k:Nat} {xs:List (List Int)} (h:SlII w B (.slice (some ⟨b,o,none⟩) xs.length c) xs) (hk:k<xs.length):∃ l A' c',xs[k]?=some l∧b<B∧w.cell? ⟨b,o+k,none⟩=some (.slice A' l.length c')∧SlI w B (.slice A' l.length c') l∧l.length≤c'∧c'≤9223372036854775807:=by
 obtain⟨b',o',l,A',c',e,h1,h2,h3,h4⟩:=SlII.at_ h hk;injection e with e
 injection e with e1 e2
 subst e1 e2;have h5:=h4;obtain⟨_,_,e,h6,h7,_⟩:=h5;injection e with _ _ e
 subst e;exact⟨l,A',c',h2.out,h1,h3,h4,h6,h7⟩
theorem SlI.addr {w:World} {B c:Nat} {A:Option Addr} {xs:List Int} (h:SlI w B (.slice A xs.length c) xs) (h0:0<xs.length):∃ b o,A=some ⟨b,o,none⟩∧b<B:=by
 obtain⟨b,o,_,e,h1,_⟩:=SlI.at_ (k:=0) h h0;exact⟨b,o,e,h1⟩
theorem SlII.addr {w:World} {B c:Nat} {A:Option Addr} {xs:List (List Int)} (h:SlII w B (.slice A xs.length c) xs) (h0:0<xs.length):∃ b o,A=some ⟨b,o,none⟩∧b<B:=by
 obtain⟨b,o,_,_,_,e,h1,_⟩:=SlII.at_ (k:=0) h h0;exact⟨b,o,e,h1⟩
theorem SlI.form2 {w:World} {B:Nat} {v:Value} {l:List Int} (h:SlI w B v l):∃ A c,v = .slice A l.length c:=by
 obtain⟨A,c,e,_⟩:=h;exact⟨A,c,e⟩
def atF (L:Nat) (f:Nat→Nat→Int) (v w:Int):Int:=if v<0∨(L:Int)≤w then 0 else f v.toNat w.toNat
def cntF (L:Nat) (f:Nat→Nat→Int) (v w:Nat):Int:=atF L f v w-atF L f (v-1) w-atF L f v (w+1)+atF L f (v-1) (w+1)
def K0_ (L:Nat) (f:Nat→Nat→Int) (v w:Nat):List Bar:=if cntF L f v w=0 then [] else [((v:Int),(w:Int),cntF L f v w)]
def o7_ (L:Nat) (f:Nat→Nat→Int) (v n:Nat):List Bar:=(List.range n).flatMap fun k=>K0_ L f v (v+k)
def g8_ (L:Nat) (f:Nat→Nat→Int) (v:Nat):List Bar:=(List.range v).flatMap fun a=>o7_ L f a (L-a)
def bfQ (x:Rp):List Bar×Bool:=if okL x then (g8_ x.d.length (rtF x) x.d.length,true) else ([],false)
theorem s8_ (L:Nat) (f:Nat→Nat→Int) (v n:Nat):o7_ L f v (n+1)=o7_ L f v n ++ K0_ L f v (v+n):=by
 simp[o7_,List.range_succ,List.flatMap_append]
theorem D4_ (L:Nat) (f:Nat→Nat→Int) (v:Nat):g8_ L f (v+1)=g8_ L f v ++ o7_ L f v (L-v):=by
 simp[g8_,List.range_succ,List.flatMap_append]
theorem b7Q (L:Nat) (f:Nat→Nat→Int) (v w:Nat):(K0_ L f v w).length≤1:=by
 unfold K0_;split <;> simp
theorem B3_ (L:Nat) (f:Nat→Nat→Int) (v:Nat):∀ n,(o7_ L f v n).length≤n
 | 0=>by simp[o7_]
 | n+1=>by
  rw[s8_,List.length_append];have:=B3_ L f v n;have:=b7Q L f v (v+n);omega
theorem B2_ (L:Nat) (f:Nat→Nat→Int):∀ v,(g8_ L f v).length≤v*L
 | 0=>by simp[g8_]
 | v+1=>by
  rw[D4_,List.length_append,Nat.succ_mul];have:=B2_ L f v;have:=B3_ L f v (L-v);omega
theorem o8_ {L:Nat} {f:Nat→Nat→Int} (hf:∀ v w,0≤f v w∧f v w≤4) (v w:Int):0≤atF L f v w∧atF L f v w≤4:=by
 unfold atF;split
 ·omega
 ·exact hf _ _
theorem c6Z (p:Int) (r:Nat) (f:Nat→Nat→Int):rkF p r 0 f=0:=by
 have:=(r5_ p r 0 f).2;omega
theorem b1Q (p:Int) (c:Nat) (f:Nat→Nat→Int):rkF p 0 c f=0:=by
 have:=(r5_ p 0 c f).1;omega
theorem a8J (p:Int) (r:Nat) (f:Nat→Nat→Int):InF p r 0 f:=fun a b _ hb=>absurd hb (by omega)
theorem X9_ (p:Int) (c:Nat) (f:Nat→Nat→Int):InF p 0 c f:=fun a b ha _=>absurd ha (by omega)
theorem f0z {y:Nat→Int} {c s:Nat} (hs:s<c):appF idF c y s=y s:=by
 rw[appF,a3_ (b:=fun t=>if t=s then y t else 0) fun t _=>by
  unfold idF;by_cases e:s=t
  ·rw[if_pos e,if_pos e.symm,Int.one_mul]
  ·rw[if_neg e,if_neg (fun h=>e h.symm),Int.zero_mul],r6_ (h:=y) hs]
theorem a6Z {p a b c:Int} (h:p∣a-b) (k:p∣b-c):p∣a-c:=by
 have:=Int.dvd_add h k;rwa[show a-b+(b-c)=a-c by omega]at this
theorem f6q {p a b:Int} (h:p∣a-b):p∣b-a:=by
 have:=Int.dvd_neg.2 h;rwa[Int.neg_sub]at this
theorem T9_ (x:Rp) (v:Nat) (y:Nat→Int):∀ n i,i<dN x (v+1+n)→x.p∣appF (pdF x v (n+1)) (dN x v) y i-appF (pdF x (v+1) n) (dN x (v+1)) (appF (mpF x v) (dN x v) y) i
 | 0,i,hi=>by
  have h1:=W3_ (p:=x.p) (d:=dN x v) (c:=dN x v) (f:=mpF x v) (g:=idF) (x:=y) i;rw[a3_ (a:=fun s=>mpF x v i s*appF idF (dN x v) y s) (b:=fun s=>mpF x v i s*y s) fun s hs=>by rw[f0z hs]]at h1;rw[show appF (pdF x (v+1) 0) (dN x (v+1)) (appF (mpF x v) (dN x v) y) i=appF (mpF x v) (dN x v) y i from f0z hi];exact h1
 | n+1,i,hi=>by
  have ih:=T9_ x v y n;have h1:=W3_ (p:=x.p) (d:=dN x (v+(n+1))) (c:=dN x v) (f:=mpF x (v+(n+1))) (g:=pdF x v (n+1)) (x:=y) i;have h2:=W3_ (p:=x.p) (d:=dN x (v+1+n)) (c:=dN x (v+1)) (f:=mpF x (v+1+n)) (g:=pdF x (v+1) n) (x:=appF (mpF x v) (dN x v) y) i;have h3:x.p∣sgF (fun s=>mpF x (v+(n+1)) i s*appF (pdF x v (n+1)) (dN x v) y s) (dN x (v+(n+1)))-sgF (fun s=>mpF x (v+1+n) i s*appF (pdF x (v+1) n) (dN x (v+1)) (appF (mpF x v) (dN x v) y) s) (dN x (v+1+n)):=by
   rw[show v+(n+1)=v+1+n by omega];exact i4_ fun s hs=>i3_ _ (ih s hs)
  exact a6Z (a6Z h1 h3) (f6q h2)
theorem a9q (x:Rp) (v n:Nat) (y:Nat→Int):Ker x.p (dN x (v+1+n)) (pdF x v (n+1)) (dN x v) y↔Ker x.p (dN x (v+1+n)) (pdF x (v+1) n) (dN x (v+1)) (appF (mpF x v) (dN x v) y) :=
 ⟨fun h i hi=>(i2_ (T9_ x v y n i hi)).1 (h i hi),fun h i hi=>(i2_ (T9_ x v y n i hi)).2 (h i hi)⟩
theorem f1Z {p:Int} {r d c:Nat} {f g:Nat→Nat→Int} {y:Nat→Int} (h:Ker p d g c y):Ker p r (muP p d f g) c y :=
 g9z.2 fun i _=>n3_ fun t ht=>Int.dvd_mul_of_dvd_right (h t ht)
theorem c3J {p:Int} {r k:Nat} {f:Nat→Nat→Int} {x:Nat→Int} (h:∀ t,t<k→x t=0):Ker p r f k x:=fun i _=>n3_ fun t ht=>by rw[h t ht,Int.mul_zero];exact Int.dvd_zero p
theorem b2Q (x:Rp) (v n:Nat):rtF x v (v+n)=(rkF x.p (dN x (v+n)) (dN x v) (pdF x v n):Int):=by
 rw[rtF,if_neg (by omega),Nat.add_sub_cancel_left]
theorem f6x {x:Rp} (hp:c8_ x.p=true) {L v n:Nat} (hw:v+n<L):0≤cntF L (rtF x) v (v+n):=by
 obtain⟨P,hP⟩:=Int.eq_ofNat_of_zero_le (show 0≤x.p by have:=f9_ hp;omega);have hpP:=hp;rw[hP]at hpP;have hP2:2≤P:=by have:=f9_ hpP;omega
 have inB:=s4_ hp v n;have key:∀ (rD u rG:Nat) (D E G C:Nat→Nat→Int),InF P rD (dN x v) D→InF P (dN x (v+n)) u E→InF P rG u G →
   (∀ y,Ker P (dN x (v+n)) (pdF x v n) (dN x v) y→Ker P rD D (dN x v) y)→(∀ y,Ker P (dN x (v+n)) E u y↔Ker P (dN x (v+n)) (pdF x v n) (dN x v) (appF C u y))→(∀ y,Ker P rG G u y↔Ker P rD D (dN x v) (appF C u y)) →
   rkF P rD (dN x v) D+rkF P (dN x (v+n)) u E≤rkF P (dN x (v+n)) (dN x v) (pdF x v n)+rkF P rG u G:=fun rD u rG D E G C h1 h2 h3 h4 h5 h6=>frob hpP hP2 (hP ▸ inB) h1 h2 h3 h4 h5 h6
 have a0:atF L (rtF x) (v:Int) ((v+n:Nat):Int)=(rkF P (dN x (v+n)) (dN x v) (pdF x v n):Int):=by
  rw[atF,if_neg (by omega),l5_,l5_,b2Q,hP]
 have a1:atF L (rtF x) (v:Int) (((v+n:Nat):Int)+1)=if v+n+1<L then (rkF P (dN x (v+(n+1))) (dN x v) (pdF x v (n+1)):Int) else 0:=by
  by_cases h:v+n+1<L
  ·rw[if_pos h,atF,if_neg (by omega),l5_,show (((v+n:Nat):Int)+1).toNat=v+(n+1) by omega,b2Q,hP]
  ·rw[if_neg h,atF,if_pos (by omega)]
 rcases v with _ | v
 ·have b0:∀ w,atF L (rtF x) (((0:Nat):Int)-1) w=0:=fun w=>by rw[atF,if_pos (by omega)]
  rw[cntF,b0,b0,a0,a1];by_cases h:0+n+1<L
  ·rw[if_pos h];have:=key (dN x (0+(n+1))) 0 0 (pdF x 0 (n+1)) (fun _ _=>0) (fun _ _=>0) (fun _ _=>0) (hP ▸ s4_ hp 0 (n+1)) (a8J _ _ _) (a8J _ _ _)
    (fun y hy=>by rw[pdF,hP];exact f1Z hy) (fun y=>⟨fun _=>c3J fun t _=>rfl,fun _ i _=>Int.dvd_zero _⟩) (fun y=>⟨fun _=>c3J fun t _=>rfl,fun _ i hi=>absurd hi (by omega)⟩)
   rw[c6Z,c6Z]at this;omega
  ·rw[if_neg h];omega
 ·have b0:atF L (rtF x) (((v+1:Nat):Int)-1) ((v+1+n:Nat):Int)=(rkF P (dN x (v+1+n)) (dN x v) (pdF x v (n+1)):Int):=by
   rw[atF,if_neg (by omega),l5_,show (((v+1:Nat):Int)-1).toNat=v by omega,show v+1+n=v+(n+1) by omega,b2Q,hP]
  have b1:atF L (rtF x) (((v+1:Nat):Int)-1) (((v+1+n:Nat):Int)+1)=if v+1+n+1<L then (rkF P (dN x (v+1+(n+1))) (dN x v) (pdF x v (n+1+1)):Int) else 0:=by
   by_cases h:v+1+n+1<L
   ·rw[if_pos h,atF,if_neg (by omega),show (((v+1:Nat):Int)-1).toNat=v by omega,show (((v+1+n:Nat):Int)+1).toNat=v+(n+1+1) by omega,b2Q,hP,show v+1+(n+1)=v+(n+1+1) by omega]
   ·rw[if_neg h,atF,if_pos (by omega)]
  rw[cntF,b0,b1,a0,a1];have eE:∀ y,Ker P (dN x (v+1+n)) (pdF x v (n+1)) (dN x v) y↔Ker P (dN x (v+1+n)) (pdF x (v+1) n) (dN x (v+1)) (appF (mpF x v) (dN x v) y):=fun y=>hP ▸ a9q x v n y
  have iE:InF P (dN x (v+1+n)) (dN x v) (pdF x v (n+1)):=by
   have:=s4_ hp v (n+1);rw[hP,show v+(n+1)=v+1+n by omega]at this;exact this
  by_cases h:v+1+n+1<L
  ·rw[if_pos h,if_pos h];have eG:∀ y,Ker P (dN x (v+1+(n+1))) (pdF x v (n+1+1)) (dN x v) y↔Ker P (dN x (v+1+(n+1))) (pdF x (v+1) (n+1)) (dN x (v+1)) (appF (mpF x v) (dN x v) y):=fun y=>hP ▸ a9q x v (n+1) y
   have iG:InF P (dN x (v+1+(n+1))) (dN x v) (pdF x v (n+1+1)):=by
    have:=s4_ hp v (n+1+1);rw[hP,show v+(n+1+1)=v+1+(n+1) by omega]at this;exact this
   have:=key (dN x (v+1+(n+1))) (dN x v) (dN x (v+1+(n+1))) (pdF x (v+1) (n+1)) (pdF x v (n+1)) (pdF x v (n+1+1)) (mpF x v) (hP ▸ s4_ hp (v+1) (n+1)) iE iG
    (fun y hy=>by rw[pdF,hP];exact f1Z hy) eE eG
   omega
  ·rw[if_neg h,if_neg h];have:=key 0 (dN x v) 0 (fun _ _=>0) (pdF x v (n+1)) (fun _ _=>0) (mpF x v) (X9_ _ _ _) iE (X9_ _ _ _)
    (fun y _ i hi=>absurd hi (by omega)) eE (fun y=>⟨fun _ i hi=>absurd hi (by omega),fun _ i hi=>absurd hi (by omega)⟩)
   rw[b1Q,b1Q]at this;omega
theorem b7Z (x:Rp):(bfQ x).1.length≤1000:=by
 unfold bfQ;split
 ·rename_i h
  have h5:=(T8_ h).2.2.2.2.1;have h1:=B2_ x.d.length (rtF x) x.d.length;have h2:x.d.length*x.d.length≤5*5:=Nat.mul_le_mul h5 h5;show (g8_ x.d.length (rtF x) x.d.length).length≤1000;omega
 ·simp
theorem B7_ (u:Value) (L:Nat) (f:Nat→Nat→Int) (v w:Int) (w0:World) (hL:L≤5) (hv:-1≤v∧v<L) (hw:0≤w∧w≤L) (hu:SlII w0 w0.heap.size u (matF L f)) :
  Calls Tryz.prog 35 #[u,.int .i64 v,.int .i64 w] w0 fun e w'=>e = .returned (.int .i64 (atF L f v w))∧w'=w0:=by
 obtain⟨A,c,rfl,_,_,_,hx⟩:=hu.open_;clear hu;have HX:=h_ hx;clear hx;by_cases h1:v<0
 ·have HA:=h_ (show atF L f v w=0 by rw[atF,if_pos (.inl h1)]);go_enter Tryz.func35,Tryz.ntmps35
  go_wp2;go_ret
  exact⟨by rw[HA.out];rfl,rfl⟩
 ·by_cases h2:(L:Int)≤w
  ·have HA:=h_ (show atF L f v w=0 by rw[atF,if_pos (.inr h2)]);rw[j5_];go_enter Tryz.func35,Tryz.ntmps35
   go_wp2;go_ret
   exact⟨by rw[HA.out];rfl,rfl⟩
  ·obtain⟨a,rfl⟩:=Int.eq_ofNat_of_zero_le (show 0≤v by omega);obtain⟨b,rfl⟩:=Int.eq_ofNat_of_zero_le (show 0≤w by omega);have HA:=h_ (show atF L f (a:Int) (b:Int)=f a b by rw[atF,if_neg (by omega)];rfl);have ha:a<L:=by omega
   have hb:b<L:=by omega
   obtain⟨bA,oA,rfl,_⟩:=SlII.addr HX.out (by rw[j5_];omega);obtain⟨r,RA,rc,hr0,_,y1,hr,hrc1,hrc2⟩:=SlII.elt HX.out (k:=a) (by rw[j5_];exact ha);rw[a9Z _ ha]at hr0;injection hr0 with hr0
   subst hr0;rw[a2_]at y1;obtain⟨b2,o2,rfl,_⟩:=SlI.addr hr (by rw[a2_];omega);obtain⟨z,hz,_,z1,_⟩:=SlI.elt hr (k:=b) (by rw[a2_];exact hb);rw[c0_ _ hb]at hz;injection hz with hz
   have HZ:=h_ hz;rw[j5_];clear hr hrc1 hz;go_enter Tryz.func35,Tryz.ntmps35
   go_wp2;go_ret
   exact⟨by rw[HA.out,HZ.out];rfl,rfl⟩
theorem y6_ (u:Value) (x:Rp) (w0:World) (hu:RpR w0 w0.heap.size u x) :
  Calls Tryz.prog 7 #[u] w0 fun e w'=>∃ v,e = .returned (.tuple #[v,.bool (bfQ x).2])∧g5_ w' w0.heap.size w'.heap.size v (bfQ x).1∧Below w0.heap.size w0 w':=by
 have hu':=hu;obtain⟨A,a,C,c,E,e,H,h,rfl,hq,hd,hm,hp,ld,lm⟩:=hu.open_;clear hu hq hd hm;obtain⟨W,hW,g0,kB⟩:=b_3 w0 #[.int .i64 x.p,.int .i64 x.q.v,.slice A x.q.f.length a,.slice C x.q.t.length c,.slice E x.d.length e,.slice H x.m.length h] 29;have HXR:=h_ (RpR.next g0 hu');clear hu';obtain⟨c0,c1,c2,c3,c4,c5⟩:=c_6 kB;rcases hok:okL x with _ | _
 ·have HF:=h_ (show bfQ x=([],false) by simp[bfQ,hok]);have HR:=h_ (show rtM x=([],false) by simp[rtM,hok]);clear hok;go_enter Tryz.func7,Tryz.ntmps7
  go_wp2_with fail
  rw[←hW];clear hW;refine (n9_ _ x _ HXR.out).mono ?_;rintro e w1 ⟨v1,rfl,hT,hb1⟩;rw[HR.out]at hT⊢;obtain⟨TA,tc,et,_⟩:=hT.form2;subst et;have g1:=b0_ g0 hb1;have hg1:=g1.size;have HG:=h_ (g1.trans ((a0_ w1 (.cells #[] 44)).mono hg1));clear hT hb1 c0 c1 c2 c3 c4 c5 kB g0 g1;go_wp2;refine wp_loop_rounds 1 ?_;rw[rounds_succ];go_wp2;go_ret2
  exact⟨.slice (some ⟨w1.heap.size,0,none⟩) 0 0,by rw[HF.out];rfl,by rw[HF.out];exact g5_.made0 w1 hg1,HG.out⟩
 ·have hL5:=(T8_ hok).2.2.2.2.1;have HF:=h_ (show bfQ x=(g8_ x.d.length (rtF x) x.d.length,true) by simp[bfQ,hok]);have HR:=h_ (show rtM x=(matF x.d.length (rtF x),true) by simp[rtM,hok]);have HP:=h_ (T8_ hok).2.2.1;have HRG:=h_ (fun v w=>a4J (a7x hok) v w);obtain⟨L,hL⟩:=e_ (x.d.length);rw[hL]at HF HR hL5;obtain⟨f,hf⟩:=e_ (rtF x);have HPOS:=h_ (fun (v n:Nat) (hw:v+n<L)=>(by rw[←hf];exact f6x HP.out hw:0≤cntF L f v (v+n)));rw[hf]at HF HR HRG;clear hok hL hf;go_enter Tryz.func7,Tryz.ntmps7
  go_wp2_with fail
  rw[←hW];clear hW;refine (n9_ _ x _ HXR.out).mono ?_;rintro e w1 ⟨v1,rfl,hT,hb1⟩;rw[HR.out]at hT⊢;obtain⟨TA,tc,et,_⟩:=hT.form2;rw[j5_]at et;subst et;have g1:=b0_ g0 hb1;have hg1:=g1.size;obtain⟨w2,hw2⟩:∃ z,z=w1.alloc (.cells #[] 44):=⟨_,rfl⟩;have b2:Below w1.heap.size w1 w2:=by rw[hw2];exact a0_ _ _
  have o2:g5_ w2 w0.heap.size w2.heap.size (.slice (some ⟨w1.heap.size,0,none⟩) 0 0) []:=by rw[hw2];exact g5_.made0 w1 hg1
  have o3:g5_ w2 w1.heap.size w2.heap.size (.slice (some ⟨w1.heap.size,0,none⟩) 0 0) []:=by rw[hw2];exact g5_.made0 w1 (l_ _)
  have g2:=b0_ g1 b2;have HT:=h_ (SlII.below b2 hT.rd);have hg2:=b2.size;clear hT hb1 c0 c1 c2 c3 c4 c5 kB g0 g1 b2 o2;go_wp2;rw[←hw2];clear hw2;go_loopw [6,7] (fun ov i wr=>∃ v:Nat,v≤L∧i = .int .i64 v∧g5_ wr w1.heap.size wr.heap.size ov (g8_ L f v)∧Below w1.heap.size w2 wr) (fun _ i _=>L-(intOf i).toNat)
  case atStart=>exact⟨0,l0_ _,rfl,by simpa [g8_] using o3,Below.refl _ _⟩
  case round =>
   clear o3;obtain⟨v,hv,rfl,hO,hbel⟩:=hrel;have hws:=hbel.size;by_cases hlt:v<L
   ·go_wp2;obtain⟨w3,hw3⟩:∃ z,z=wr:=⟨_,rfl⟩;subst hw3;go_loopw [6,8] (fun ov i wq=>∃ n k:Nat,v+n≤L∧i = .int .i64 k∧Hid (k=v+n)∧g5_ wq w1.heap.size wq.heap.size ov (g8_ L f v ++ o7_ L f v n)∧Below w1.heap.size w2 wq) (fun _ i _=>L-(intOf i).toNat)
    case atStart=>exact⟨0,v,by omega,rfl,rfl,by simpa [o7_] using hO,hbel⟩
    case round =>
     clear hO hbel;obtain⟨n,k,hn,rfl,HK,hO,hbel⟩:=hrel;have hk1:k≤v+n:=Nat.le_of_eq HK.out;have hk2:v+n≤k:=Nat.le_of_eq HK.out.symm;obtain⟨OA,oc,eo,_,_⟩:=hO.form;have hl1:=B2_ L f v;have hl2:=B3_ L f v n;have hvL:v*L≤5*5:=Nat.mul_le_mul (by omega) hL5;obtain⟨OL,hOL⟩:=e_ ((g8_ L f v ++ o7_ L f v n).length);have hOL2:OL≤100:=by rw[←hOL,List.length_append];omega
     rw[hOL]at eo;subst eo;have hqs:=hbel.size;have HO:=h_ hO;have HOL:=h_ hOL;by_cases hkL:k<L
     ·have HTR:=h_ (SlII.more (show w1.heap.size≤wr.heap.size by omega) (SlII.below hbel HT.out));have HB:=h_ hbel;have r1:=o8_ HRG.out (L:=L) (v:Int) (k:Int);have r2:=o8_ HRG.out (L:=L) ((v:Int)-1) (k:Int);have r3:=o8_ HRG.out (L:=L) (v:Int) ((k:Int)+1);have r4:=o8_ HRG.out (L:=L) ((v:Int)-1) ((k:Int)+1);have hc:=HPOS.out v n (by omega);have hcf:cntF L f v (v+n)=atF L f (v:Int) (k:Int)-atF L f ((v:Int)-1) (k:Int)-atF L f (v:Int) ((k:Int)+1)+atF L f ((v:Int)-1) ((k:Int)+1):=by rw[cntF,←HK.out]
      obtain⟨t1,h1⟩:=e_ (atF L f (v:Int) (k:Int));obtain⟨t2,h2⟩:=e_ (atF L f ((v:Int)-1) (k:Int));obtain⟨t3,h3⟩:=e_ (atF L f (v:Int) ((k:Int)+1));obtain⟨t4,h4⟩:=e_ (atF L f ((v:Int)-1) ((k:Int)+1));rw[h1]at r1 hcf;rw[h2]at r2 hcf;rw[h3]at r3 hcf;rw[h4]at r4 hcf;rw[hcf]at hc;have HC:=h_ hcf;have H1:=h_ h1;have H2:=h_ h2;have H3:=h_ h3;have H4:=h_ h4;clear hO hbel hOL h1 h2 h3 h4 hcf;go_wp2_with fail
      refine (B7_ _ L f v k _ hL5 (by omega) (by omega) HTR.out).mono ?_;rintro e w' ⟨rfl,hww⟩;replace hww:=hww.symm;subst hww;rw[H1.out];go_wp2_with fail
      refine (B7_ _ L f ((v:Int)-1) k _ hL5 (by omega) (by omega) HTR.out).mono ?_;rintro e w' ⟨rfl,hww⟩;replace hww:=hww.symm;subst hww;rw[H2.out];go_wp2_with fail
      refine (B7_ _ L f v ((k:Int)+1) _ hL5 (by omega) (by omega) HTR.out).mono ?_;rintro e w' ⟨rfl,hww⟩;replace hww:=hww.symm;subst hww;rw[H3.out];go_wp2_with fail
      refine (B7_ _ L f ((v:Int)-1) ((k:Int)+1) _ hL5 (by omega) (by omega) HTR.out).mono ?_;rintro e w' ⟨rfl,hww⟩;replace hww:=hww.symm;subst hww;rw[H4.out];have hN8:t1-t2-t3+t4≤8:=by omega
      by_cases hz:0<t1-t2-t3+t4
      ·have HSU:=h_ (show g8_ L f v ++ o7_ L f v (n+1)=(g8_ L f v ++ o7_ L f v n) ++ [((v:Int),(k:Int),t1-t2-t3+t4)] by
        rw[s8_,K0_,HC.out,if_neg (by omega),List.append_assoc,←HK.out])
       have bz:=a0_ wr (.cells #[.int .i64 v,.int .i64 k,.int .i64 (t1-t2-t3+t4)] 44);have HKZ:=h_ (Blk.new wr 44 #[.int .i64 v,.int .i64 k,.int .i64 (t1-t2-t3+t4)]);have HO2:=h_ (HO.out.below bz);have HB2:=h_ (HB.out.trans (bz.mono (by omega)));have hzs:=bz.size;clear bz
       (go_wp2_with (at_builtin;refine Hold.stop ?_));unfold Hold
       refine N3_ rfl (.tmp 54) (.tmp 59) rfl w1.heap.size _ (.slice OA OL oc) (g8_ L f v ++ o7_ L f v n) rfl HO2.out wr.heap.size 1 ((v:Int),(k:Int),t1-t2-t3+t4) rfl HKZ.out ⟨⟨by simp only;omega,by simp only;omega⟩,⟨by simp only;omega,by simp only;omega⟩,⟨by simp only;omega,by simp only;omega⟩⟩ (by rw[HOL.out];omega) (by simp;omega) ?_;intro v9 w9 ho9 hb9 _;rw[←HSU.out]at ho9;have HO9:=h_ ho9;have HB9:=h_ (HB2.out.trans hb9);clear ho9 hb9;go_wp2;go_roundw
       case rel=>exact⟨n+1,k+1,by omega,by go_num,(by show k+1=v+(n+1);omega),HO9.out,HB9.out⟩
       case measure=>simp[intOf];omega
      ·have HSU:=h_ (show g8_ L f v ++ o7_ L f v (n+1)=g8_ L f v ++ o7_ L f v n by
        rw[s8_,K0_,HC.out,if_pos (by omega),List.append_nil])
       go_wp2;go_roundw
       case rel=>exact⟨n+1,k+1,by omega,by go_num,(by show k+1=v+(n+1);omega),by rw[HSU.out];exact HO.out,HB.out⟩
       case measure=>simp[intOf];omega
     ·have HSU:=h_ (show g8_ L f (v+1)=g8_ L f v ++ o7_ L f v n by rw[D4_,show L-v=n by omega]);have HB:=h_ hbel;clear hO hbel hOL;go_wp2;go_roundw
      case rel=>exact⟨v+1,by omega,by go_num,by rw[HSU.out];exact HO.out,HB.out⟩
      case measure=>simp[intOf];omega
   ·have hvL:v=L:=by omega
    obtain⟨OA,oc,eo,_,_⟩:=hO.form;subst eo;have HO:=h_ (show g5_ wr w1.heap.size wr.heap.size (.slice OA (g8_ L f v).length oc) (g8_ L f L) by rw[show g8_ L f L=g8_ L f v by rw[hvL]];exact hO);have HG:=h_ (g2.trans (hbel.mono hg1));clear hO hbel hvL;go_wp2;go_ret2
    exact⟨_,by rw[HF.out];rfl,by rw[HF.out];exact HO.out.wider hg1 (l_ _),HG.out⟩
theorem J2_ (L:Nat) (f:Nat→Nat→Int) (v w:Int) (b c:Nat) (A:Option Addr) (w0:World) (hL:L≤5) (hv:-1≤v∧v<L) (hw:0≤w∧w≤L) (hc0:w0.cell? ⟨b,0,none⟩=some (.slice A L c)) (hu:SlII w0 w0.heap.size (.slice A L c) (matF L f)) :
  Calls Tryz.prog 34 #[.int .i64 v,.int .i64 w,.pointer (some ⟨b,0,none⟩)] w0 fun e w'=>e = .returned (.int .i64 (atF L f v w))∧w'=w0:=by
 by_cases h1:v<0
 ·have HA:=h_ (show atF L f v w=0 by rw[atF,if_pos (.inl h1)]);go_enter Tryz.func34,Tryz.ntmps34
  go_wp2;go_ret
  exact⟨by rw[HA.out];rfl,rfl⟩
 ·by_cases h2:(L:Int)≤w
  ·have HA:=h_ (show atF L f v w=0 by rw[atF,if_pos (.inr h2)]);go_enter Tryz.func34,Tryz.ntmps34
   go_wp2;go_ret
   exact⟨by rw[HA.out];rfl,rfl⟩
  ·obtain⟨a,rfl⟩:=Int.eq_ofNat_of_zero_le (show 0≤v by omega);obtain⟨d,rfl⟩:=Int.eq_ofNat_of_zero_le (show 0≤w by omega);have HA:=h_ (show atF L f (a:Int) (d:Int)=f a d by rw[atF,if_neg (by omega)];rfl);have ha:a<L:=by omega
   have hb:d<L:=by omega
   have HX:Hid (SlII w0 w0.heap.size (.slice A (matF L f).length c) (matF L f)):=by rw[j5_];exact hu
   clear hu;obtain⟨bA,oA,rfl,_⟩:=SlII.addr HX.out (by rw[j5_];omega);obtain⟨r,RA,rc,hr0,_,y1,hr,hrc1,hrc2⟩:=SlII.elt HX.out (k:=a) (by rw[j5_];exact ha);rw[a9Z _ ha]at hr0;injection hr0 with hr0
   subst hr0;rw[a2_]at y1;obtain⟨b2,o2,rfl,_⟩:=SlI.addr hr (by rw[a2_];omega);obtain⟨z,hz,_,z1,_⟩:=SlI.elt hr (k:=d) (by rw[a2_];exact hb);rw[c0_ _ hb]at hz;injection hz with hz
   have HZ:=h_ hz;clear hr hrc1 hz;go_enter Tryz.func34,Tryz.ntmps34
   go_wp2;go_ret
   exact⟨by rw[HA.out,HZ.out];rfl,rfl⟩
theorem y4_ (u:Value) (x:Rp) (w0:World) (hu:RpR w0 w0.heap.size u x) :
  Calls Tryz.prog 6 #[u] w0 fun e w'=>∃ v,e = .returned (.tuple #[v,.bool (bfQ x).2])∧g5_ w' w0.heap.size w'.heap.size v (bfQ x).1∧Below w0.heap.size w0 w':=by
 have hu':=hu;obtain⟨A,a,C,c,E,e,H,h,rfl,hq,hd,hm,hp,ld,lm⟩:=hu.open_;clear hu hq hd hm;obtain⟨W,hW,g0,kB⟩:=b_3 w0 #[.int .i64 x.p,.int .i64 x.q.v,.slice A x.q.f.length a,.slice C x.q.t.length c,.slice E x.d.length e,.slice H x.m.length h] 29;have HXR:=h_ (RpR.next g0 hu');clear hu';obtain⟨c0,c1,c2,c3,c4,c5⟩:=c_6 kB;rcases hok:okL x with _ | _
 ·have HF:=h_ (show bfQ x=([],false) by simp[bfQ,hok]);have HR:=h_ (show rtM x=([],false) by simp[rtM,hok]);clear hok;go_enter Tryz.func6,Tryz.ntmps6
  go_wp2_with fail
  rw[←hW];clear hW;refine (n5_ _ x _ HXR.out).mono ?_;rintro e w1 ⟨v1,rfl,hT,hb1⟩;rw[HR.out]at hT⊢;obtain⟨TA,tc,et,_⟩:=hT.form2;subst et;have g1:=b0_ g0 hb1;have hg1:=g1.size;have HG:=h_ (g1.trans ((a0_ w1 (.cells #[.slice TA 0 tc] 34)).mono hg1));clear hT hb1 c0 c1 c2 c3 c4 c5 kB g0 g1;go_wp2;go_ret2
  exact⟨.slice none 0 0,by rw[HF.out];rfl,by rw[HF.out];exact g5_.nil _ _ _,HG.out⟩
 ·have hL5:=(T8_ hok).2.2.2.2.1;have HF:=h_ (show bfQ x=(g8_ x.d.length (rtF x) x.d.length,true) by simp[bfQ,hok]);have HR:=h_ (show rtM x=(matF x.d.length (rtF x),true) by simp[rtM,hok]);have HP:=h_ (T8_ hok).2.2.1;have HRG:=h_ (fun v w=>a4J (a7x hok) v w);obtain⟨L,hL⟩:=e_ (x.d.length);rw[hL]at HF HR hL5;obtain⟨f,hf⟩:=e_ (rtF x);rw[hf]at HF HR HRG;clear hok hL hf;go_enter Tryz.func6,Tryz.ntmps6
  go_wp2_with fail
  rw[←hW];clear hW;refine (n5_ _ x _ HXR.out).mono ?_;rintro e w1 ⟨v1,rfl,hT,hb1⟩;rw[HR.out]at hT⊢;obtain⟨TA,tc,et,_⟩:=hT.form2;rw[j5_]at et;subst et;have g1:=b0_ g0 hb1;have hg1:=g1.size;obtain⟨w2,hw2,b2,k2⟩:=b_3 w1 #[.slice TA L tc] 34;have g2:=b0_ g1 b2;have HT:=h_ (SlII.next b2 hT.rd);have hg2:=k2.lt;have t0:=k2.cell' (i:=0) rfl;rw[hw2]at t0;clear hT hb1 c0 c1 c2 c3 c4 c5 kB g0 g1 b2;go_wp2;rw[←hw2];clear hw2 t0;go_loopw [7,21] (fun ov i wr=>∃ v:Nat,v≤L∧i = .int .i64 v∧g5_ wr w2.heap.size wr.heap.size ov (g8_ L f v)∧Below w2.heap.size w2 wr) (fun _ i _=>L-(intOf i).toNat)
  case atStart=>exact⟨0,l0_ _,rfl,by simpa [g8_] using g5_.nil w2 _ _,Below.refl _ _⟩
  case round =>
   obtain⟨v,hv,rfl,hO,hbel⟩:=hrel;have hws:=hbel.size;by_cases hlt:v<L
   ·go_wp2;obtain⟨w3,hw3⟩:∃ z,z=wr:=⟨_,rfl⟩;subst hw3;go_loopw [7,9] (fun ov i wq=>∃ n k:Nat,v+n≤L∧i = .int .i64 k∧Hid (k=v+n)∧g5_ wq w2.heap.size wq.heap.size ov (g8_ L f v ++ o7_ L f v n)∧Below w2.heap.size w2 wq) (fun _ i _=>L-(intOf i).toNat)
    case atStart=>exact⟨0,v,by omega,rfl,rfl,by simpa [o7_] using hO,hbel⟩
    case round =>
     clear hO hbel;obtain⟨n,k,hn,rfl,HK,hO,hbel⟩:=hrel;have hk1:k≤v+n:=Nat.le_of_eq HK.out;have hk2:v+n≤k:=Nat.le_of_eq HK.out.symm;obtain⟨OA,oc,eo,_,_⟩:=hO.form;have hl1:=B2_ L f v;have hl2:=B3_ L f v n;have hvL:v*L≤5*5:=Nat.mul_le_mul (by omega) hL5;obtain⟨OL,hOL⟩:=e_ ((g8_ L f v ++ o7_ L f v n).length);have hOL2:OL≤100:=by rw[←hOL,List.length_append];omega
     rw[hOL]at eo;subst eo;have hqs:=hbel.size;have HO:=h_ hO;have HOL:=h_ hOL;have t0:=(k2.below hbel k2.lt).cell' (i:=0) rfl;by_cases hkL:k<L
     ·have HTR:=h_ (SlII.more hqs (SlII.below hbel HT.out));have HB:=h_ hbel;have r1:=o8_ HRG.out (L:=L) (v:Int) (k:Int);have r2:=o8_ HRG.out (L:=L) ((v:Int)-1) (k:Int);have r3:=o8_ HRG.out (L:=L) (v:Int) ((k:Int)+1);have r4:=o8_ HRG.out (L:=L) ((v:Int)-1) ((k:Int)+1);have hcf:cntF L f v (v+n)=atF L f (v:Int) (k:Int)-atF L f ((v:Int)-1) (k:Int)-atF L f (v:Int) ((k:Int)+1)+atF L f ((v:Int)-1) ((k:Int)+1):=by rw[cntF,←HK.out]
      obtain⟨t1,h1⟩:=e_ (atF L f (v:Int) (k:Int));obtain⟨t2,h2⟩:=e_ (atF L f ((v:Int)-1) (k:Int));obtain⟨t3,h3⟩:=e_ (atF L f (v:Int) ((k:Int)+1));obtain⟨t4,h4⟩:=e_ (atF L f ((v:Int)-1) ((k:Int)+1));rw[h1]at r1 hcf;rw[h2]at r2 hcf;rw[h3]at r3 hcf;rw[h4]at r4 hcf;have HC:=h_ hcf;have H1:=h_ h1;have H2:=h_ h2;have H3:=h_ h3;have H4:=h_ h4;have T0:=h_ t0;clear hO hbel hOL h1 h2 h3 h4 hcf;go_wp2_with fail
      refine (J2_ L f v k _ tc TA _ hL5 (by omega) (by omega) T0.out HTR.out).mono ?_;rintro e w' ⟨rfl,hww⟩;replace hww:=hww.symm;subst hww;rw[H1.out];go_wp2_with fail
      refine (J2_ L f ((v:Int)-1) k _ tc TA _ hL5 (by omega) (by omega) T0.out HTR.out).mono ?_;rintro e w' ⟨rfl,hww⟩;replace hww:=hww.symm;subst hww;rw[H2.out];go_wp2_with fail
      refine (J2_ L f v ((k:Int)+1) _ tc TA _ hL5 (by omega) (by omega) T0.out HTR.out).mono ?_;rintro e w' ⟨rfl,hww⟩;replace hww:=hww.symm;subst hww;rw[H3.out];go_wp2_with fail
      refine (J2_ L f ((v:Int)-1) ((k:Int)+1) _ tc TA _ hL5 (by omega) (by omega) T0.out HTR.out).mono ?_;rintro e w' ⟨rfl,hww⟩;replace hww:=hww.symm;subst hww;rw[H4.out];by_cases hz:t1-t2-t3+t4=0
      ·have HSU:=h_ (show g8_ L f v ++ o7_ L f v (n+1)=g8_ L f v ++ o7_ L f v n by
        rw[s8_,K0_,HC.out,if_pos hz,List.append_nil])
       have hzb:(t1-t2-t3+t4 != 0)=false:=by rw[bne_eq_false_iff_eq];exact hz
       clear hz;go_wp2;go_roundw
       case rel=>exact⟨n+1,k+1,by omega,by go_num,(by show k+1=v+(n+1);omega),by rw[HSU.out];exact HO.out,HB.out⟩
       case measure=>simp[intOf];omega
      ·have HSU:=h_ (show g8_ L f v ++ o7_ L f v (n+1)=(g8_ L f v ++ o7_ L f v n) ++ [((v:Int),(k:Int),t1-t2-t3+t4)] by
        rw[s8_,K0_,HC.out,if_neg hz,List.append_assoc,←HK.out])
       have hzb:(t1-t2-t3+t4 != 0)=true:=by rw[bne_iff_ne];exact hz
       have bz:=a0_ wr (.cells #[.int .i64 v,.int .i64 k,.int .i64 (t1-t2-t3+t4)] 44);have HKZ:=h_ (Blk.new wr 44 #[.int .i64 v,.int .i64 k,.int .i64 (t1-t2-t3+t4)]);have HO2:=h_ (HO.out.below bz);have HB2:=h_ (HB.out.trans (bz.mono (by omega)));have hzs:=bz.size;clear bz
       (go_wp2_with (at_builtin;refine Hold.stop ?_));unfold Hold
       refine N3_ rfl (.tmp 56) (.tmp 61) rfl w2.heap.size _ (.slice OA OL oc) (g8_ L f v ++ o7_ L f v n) rfl HO2.out wr.heap.size 1 ((v:Int),(k:Int),t1-t2-t3+t4) rfl HKZ.out ⟨⟨by simp only;omega,by simp only;omega⟩,⟨by simp only;omega,by simp only;omega⟩,⟨by simp only;omega,by simp only;omega⟩⟩ (by rw[HOL.out];omega) (by simp;omega) ?_;intro v9 w9 ho9 hb9 _;rw[←HSU.out]at ho9;have HO9:=h_ ho9;have HB9:=h_ (HB2.out.trans hb9);clear ho9 hb9 t0;go_wp2;go_roundw
       case rel=>exact⟨n+1,k+1,by omega,by go_num,(by show k+1=v+(n+1);omega),HO9.out,HB9.out⟩
       case measure=>simp[intOf];omega
     ·have HSU:=h_ (show g8_ L f (v+1)=g8_ L f v ++ o7_ L f v n by rw[D4_,show L-v=n by omega]);have HB:=h_ hbel;clear hO hbel hOL;go_wp2;go_roundw
      case rel=>exact⟨v+1,by omega,by go_num,by rw[HSU.out];exact HO.out,HB.out⟩
      case measure=>simp[intOf];omega
   ·have hvL:v=L:=by omega
    obtain⟨OA,oc,eo,_,_⟩:=hO.form;subst eo;have HO:=h_ (show g5_ wr w2.heap.size wr.heap.size (.slice OA (g8_ L f v).length oc) (g8_ L f L) by rw[show g8_ L f L=g8_ L f v by rw[hvL]];exact hO);have HG:=h_ (g2.trans (hbel.mono (by omega)));clear hO hbel hvL;go_wp2;go_ret2
    exact⟨_,by rw[HF.out];rfl,by rw[HF.out];exact HO.out.wider (by omega) (l_ _),HG.out⟩
def zms (q:Qv) (d:List Int) (k:Nat):List Mx:=(List.range k).map fun i=>zmx (dAt d (q.t.getD i 0)) (dAt d (q.f.getD i 0))
theorem m8_ (q:Qv) (d:List Int) (k:Nat):(zms q d k).length=k:=by simp[zms]
theorem V6_ {q:Qv} {d:List Int} {k nf nt:Nat} {yf yt:Int} (hf:q.f[k]?=some (nf:Int)) (ht:q.t[k]?=some (nt:Int)) (hyf:d[nf]?=some yf) (hyt:d[nt]?=some yt):zms q d (k+1)=zms q d k ++ [zmx yt yf]:=by
 simp[zms,List.range_succ,l1_,hf,ht,dAt,hyf,hyt]
def zRep (p:Int) (q:Qv) (d:List Int):Rp:=⟨p,q,d,zms q d q.f.length⟩
theorem a5x {q:Qv} {d:List Int} (h:i0_ q d=true) (k:Nat) (hk:k≤q.f.length):∀ m∈zms q d k,I64 m.r∧I64 m.c:=by
 intro m hm;simp only[zms,List.mem_map,List.mem_range]at hm;obtain⟨i,hi,rfl⟩:=hm;obtain⟨nf,nt,yf,yt,ef,et,df,dt,_⟩:=C0_ (x:=⟨0,q,d,[]⟩) h (show i<q.f.length by omega);obtain⟨_,_,hd,_⟩:=c3_.1 h;have b1:=hd _ (l4_ df);have b2:=hd _ (l4_ dt);simp only[zmx,l1_,ef,et,Option.getD_some,r4_ df,r4_ dt,I64];omega
theorem a8_.cell {w:World} {lo hi:Nat} {v:Value} {l:List Int} (h:a8_ w lo hi v l):v.oneCell'=true:=by
 obtain⟨A,c,rfl⟩:=h.form;rfl
theorem N5_ (p:Int) (u xv:Value) (q:Qv) (d:List Int) (w0:World) (hp:I64 p) (hu:QvR w0 w0.heap.size u q) (hx:SlI w0 w0.heap.size xv d) (hq:i0_ q d=true) :
  Calls Tryz.prog 110 #[.int .i64 p,u,xv] w0 fun e w'=>∃ v,e = .returned v∧RepO w' w0.heap.size w'.heap.size v (zRep p q d)∧Below w0.heap.size w0 w':=by
 have hu':=hu;obtain⟨A,c,C,c',rfl,hf,ht,hr,lf,lt⟩:=hu.open_;obtain⟨XA,xc,rfl,_,_,lx,hx⟩:=hx.open_;clear hu;obtain⟨W,hW,g0,k1,k2⟩:=b_4 w0 #[.int .i64 q.v,.slice A q.f.length c,.slice C q.t.length c'] 26 #[.int .i64 0,.int .i64 0,.slice none 0 0,.slice none 0 0,.slice none 0 0,.slice none 0 0] 29;have sz:W.heap.size=w0.heap.size+1+1:=by rw[hW];simp
 have SZ:=h_ sz;clear sz;obtain⟨c0,c1,c2⟩:=c_3 k1;have HQ:=h_ hq;clear hq;go_enter Tryz.func110,Tryz.ntmps110
 go_wp2_with fail
 rw[←hW];clear hW;refine (M4_ _ q _ (QvR.next g0 hu')).mono ?_;rintro e w1 ⟨v1,rfl,hQ,hb1⟩;have s1:=hb1.size;replace k2:=k2.call hb1;replace g0:=b0_ g0 hb1;replace k1:=k1.call hb1;replace c0:=k1.cell' (i:=0) rfl;replace c1:=k1.cell' (i:=1) rfl;replace c2:=k1.cell' (i:=2) rfl;clear hb1;obtain⟨qa,qb,rfl,hQF,hqv⟩:=hQ;have fa:a8_ w1 W.heap.size w1.heap.size qa q.f:=hQF.1 (qa,q.f) (by simp);have fb:a8_ w1 W.heap.size w1.heap.size qb q.t:=hQF.1 (qb,q.t) (by simp);obtain⟨A1,a1,rfl⟩:=fa.form;obtain⟨C1,b1,rfl⟩:=fb.form;clear fa fb;go_wp2_with fail
 refine (q2_ _ d _ (SlI.next g0 hx)).mono ?_;rintro e w2 ⟨v2,rfl,hD,hb2⟩;have s2:=hb2.size;replace k2:=k2.call hb2;replace hQF:=hQF.below hb2;replace g0:=b0_ g0 hb2;replace k1:=k1.call hb2;replace c0:=k1.cell' (i:=0) rfl;replace c1:=k1.cell' (i:=1) rfl;replace c2:=k1.cell' (i:=2) rfl;clear hb2;obtain⟨E1,e1,rfl⟩:=hD.form;have hF3:Fam w2 W.heap.size w2.heap.size ([(.slice A1 q.f.length a1,q.f),(.slice C1 q.t.length b1,q.t)] ++ [(.slice E1 d.length e1,d)]):=Fam.join (mi:=w1.heap.size) hQF (Fam.one hD) (by omega) (by omega);have HF3:=h_ hF3;clear hF3 hQF hD;have gR:=Blk.new w2 29 #[.int .i64 p,.int .i64 q.v,.slice A1 q.f.length a1,.slice C1 q.t.length b1,.slice E1 d.length e1,.slice none 0 0];have ga:=a0_ w2 (.cells #[.int .i64 p,.int .i64 q.v,.slice A1 q.f.length a1,.slice C1 q.t.length b1,.slice E1 d.length e1,.slice none 0 0] 29);have k1a:=k1.call ga;have c1a:=k1a.cell' (i:=1) rfl;have K1:=h_ k1;have K2:=h_ k2;have G0:=h_ g0;clear k1 k2 c0 c1 c2 k1a g0;go_wp2;clear c1a;go_loopw [19] (fun i wr=>∃ (k:Nat) (mv:Value) (vs:List Value),k≤q.f.length∧i = .int .i64 k∧Below w2.heap.size w2 wr∧w2.heap.size<wr.heap.size∧Blk wr w2.heap.size 29 #[.int .i64 p,.int .i64 q.v,.slice A1 q.f.length a1,.slice C1 q.t.length b1,.slice E1 d.length e1,mv] ∧
  RowO 65 3 wr w2.heap.size wr.heap.size mv k (mxCs vs (zms q d k))∧vs.length=k∧Fam wr w2.heap.size wr.heap.size (vs.zip ((zms q d k).map Mx.a))) (fun i _=>q.f.length-(intOf i).toNat)
 case atStart=>exact⟨0,_,[],l0_ _,rfl,ga,by simp,gR,RowO.nil _ _ _ _,rfl,⟨fun p hp=>by simp at hp,by simp⟩⟩
 case round =>
  clear gR ga;obtain⟨k,mv,vs,hk,rfl,hbel,hlt2,hB,hO,hvl,hF⟩:=hrel;have HVL:=h_ hvl;clear hvl;have kq:=K1.out.call hbel;by_cases hlt:k<q.f.length
  ·obtain⟨nf,nt,yf,yt,ef,et,df,dt,lnf,lnt,lnf5,lnt5,hkt0⟩:=C0_ (x:=⟨0,q,d,[]⟩) HQ.out hlt;simp only at ef et df dt lnf lnt hkt0;have hkf:=hlt;have hd:=(c3_.1 HQ.out).2.2.1;have hlf6:q.f.length≤6:=(j2_.1 (c3_.1 HQ.out).1).2.2.1;have byf:=hd _ (l4_ df);have byt:=hd _ (l4_ dt);have HZS:=h_ (V6_ ef et df dt);clear hd;have hkt:=hkt0;obtain⟨bf,of_,xf,eA,hbf,HXF,f1,_⟩:=SlI.at_ hf hkf;obtain⟨bt,ot,xt,eC,hbt,HXT,t1,_⟩:=SlI.at_ ht hkt;obtain⟨bd,od,xdf,eX,hbd,HXDF,d1,_⟩:=SlI.at_ hx lnf;obtain⟨bd',od',xdt,eX',hbd',HXDT,d2,_⟩:=SlI.at_ hx lnt;subst eA eC eX;injection eX' with eX'
   injection eX' with e1 e2
   subst e1 e2;have q1:=HXF.out;rw[ef]at q1;injection q1 with q1
   subst q1;have q2:=HXT.out;rw[et]at q2;injection q2 with q2
   subst q2;have q3:=HXDF.out;rw[df]at q3;injection q3 with q3
   subst q3;have q4:=HXDT.out;rw[dt]at q4;injection q4 with q4
   subst q4;clear HXF HXT HXDF HXDT ef et df dt;have gw:Below w0.heap.size w0 wr:=G0.out.trans (hbel.mono (G0.out).size);have hbs:=hbel.size;have gws:=(G0.out).size;have f2:=a4_ gw hbf f1;have a1':(0:Int)≤(k:Int):=by omega
   have a2':(k:Int)<q.f.length:=by omega
   have a3':(k:Int)<q.t.length:=by omega
   have a4':(0:Int)≤(nf:Int):=by omega
   have a5':(nf:Int)<d.length:=by omega
   have a6':(0:Int)≤(nt:Int):=by omega
   have a7':(nt:Int)<d.length:=by omega
   go_wp2;refine a9_ (by kernel_rfl) [.eq (.pointer (some ⟨w2.heap.size,5,none⟩)),.eq (mv),.eq (.slice (some ⟨bd,od,none⟩) d.length xc),.eq (.pointer (some ⟨w0.heap.size,2,none⟩)),.eq (.slice (some ⟨bt,ot,none⟩) q.t.length c'),.eq (.int .i64 k),.eq (.pointer (some ⟨bt,ot+k,none⟩)),.eq (.int .i64 nt),.eq (.pointer (some ⟨bd,od+nt,none⟩)),.eq (.int .i64 yt),.eq (.slice (some ⟨bd,od,none⟩) d.length xc),.eq (.int .i64 nf),.eq (.pointer (some ⟨bd,od+nf,none⟩)),.eq (.int .i64 yf),rel 14 (fun u lo hi w=>MxO w lo hi u (zmx yt yf)),.rel (fun x w=>∃ g s,x.v 15 = .slice (some ⟨g,0,none⟩) 1 1∧x.v 14 = .agg #[.int .i64 yt,.int .i64 yf,s]∧Blk w g 65 #[.int .i64 yt,.int .i64 yf,s])] [[],[0],[],[],[3],[],[3,4,5],[3,4,5,6],[2,3,4,5,6,7],[2,3,4,5,6,7,8],[],[],[10,11],[10,11,12],[2,3,4,5,6,7,8,9,10,11,12,13],[2,3,4,5,6,7,8,9,10,11,12,13,14],[0,1,2,3,4,5,6,7,8,9,10,11,12,13,14,15],[0,1,2,3,4,5,6,7,8,9,10,11,12,13,14,15,16],[0,1,2,3,4,5,6,7,8,9,10,11,12,13,14,15,16,17]] 16 (by kernel_rfl) ⟨trivial,trivial,trivial,trivial,trivial,trivial,trivial,trivial,trivial,trivial,trivial,trivial,trivial,trivial,a7_ (fun u lo hi w w' h hb=>h.below hb),fun x w w' ⟨g,s,e1,e2,h⟩ hb=>⟨g,s,e1,e2,h.call hb⟩,trivial⟩ ⟨?_,?_,?_,?_,?_,?_,?_,?_,?_,?_,?_,?_,?_,?_,?_,?_,trivial⟩ ?_;iterate 16 (intro x w hb hk Q' hQ;have he:=k_e hk;simp only[k_s]at he;simp only[netE]at hQ⊢;(try simp only[he]at hQ⊢);(try clear he);rotate_left)
   rotate_left
   ·clear hk;go_wp2;exact hQ _ _ br_ rfl
   ·clear hk;have z5:=(hB.call hb).cell' (i:=5) rfl;go_wp2;exact hQ _ _ br_ rfl
   iterate 2 (· clear hk;go_wp2;exact hQ _ _ br_ rfl)
   ·clear hk;have z2:=(kq.call hb).cell' (i:=2) rfl;go_wp2;exact hQ _ _ br_ rfl
   iterate 2 (· clear hk;go_wp2;exact hQ _ _ br_ rfl)
   ·clear hk;have z2:=a4_ hb (by omega) (a4_ gw hbt t1);go_wp2;exact hQ _ _ br_ rfl
   ·clear hk;go_wp2;exact hQ _ _ br_ rfl
   ·clear hk;have z2:=a4_ hb (by omega) (a4_ gw hbd' d2);go_wp2;exact hQ _ _ br_ rfl
   iterate 3 (· clear hk;go_wp2;exact hQ _ _ br_ rfl)
   ·clear hk;have z2:=a4_ hb (by omega) (a4_ gw hbd d1);go_wp2;exact hQ _ _ br_ rfl
   ·clear hk;go_wp2_with fail
    refine (r8_ yt yf _ byt.1 byf.1 (by omega) (by omega)).mono ?_;rintro e w3 ⟨v3,rfl,hZ,hb3⟩;go_wp2;exact hQ _ _ hb3 hZ
   ·have h14:MxO w (x.lo 14) (x.hi 14) (x.v 14) (zmx yt yf):=(hk 14 (by decide)).1;have s14:=(hk 14 (by decide)).2;clear hk;obtain⟨s,e14,hs⟩:=h14;obtain⟨sA,sc,es⟩:=hs.1.form;obtain⟨sn,hsn⟩:=e_ ((zmx yt yf).a.length);rw[hsn]at es;clear hsn hs;subst es;have hQ':=hQ (.slice (some ⟨w.heap.size,0,none⟩) 1 1) (w.alloc (.cells #[.int .i64 yt,.int .i64 yf,.slice sA sn sc] 65)) (a0_ _ _) ⟨_,_,rfl,e14,Blk.new _ _ _⟩;simp only[zmx]at e14;rw[e14]at hQ'⊢;go_wp2;exact hQ'
   ·intro x w hb hk hiv hdj;have h14:MxO w (x.lo 14) (x.hi 14) (x.v 14) (zmx yt yf):=hk 14 (by decide);have h15:∃ g s,x.v 15 = .slice (some ⟨g,0,none⟩) 1 1∧x.v 14 = .agg #[.int .i64 yt,.int .i64 yf,s]∧Blk w g 65 #[.int .i64 yt,.int .i64 yf,s]:=hk 15 (by decide);have he:=k_g hk [0,1,2,3,4,5,6,7,8,9,10,11,12,13];simp only[k_s]at he;simp only[netE,he];clear he hk;obtain⟨g,s,e15,e14,hg⟩:=h15;have l14:=(hiv 14 (by decide)).1;have h14i:=(hiv 14 (by decide)).2.2;obtain⟨s',e14',hs,_⟩:=h14;rw[e14]at e14';simp only[Value.agg.injEq,Array.mk.injEq,List.cons.injEq,and_true,zmx,true_and]at e14';subst e14';rw[e15];have hO':=hO.below hb;have hF':=(hF.below hb).snoc (hs.wider l14 h14i) (by omega) hb.size;have hB':=hB.call hb;have gb2:Below w2.heap.size w2 w:=hbel.trans (hb.mono hbs);have hbs2:=hb.size;have hLen:=h_ (m8_ q d k);have HF':=h_ hF';have hO'':OutM w w2.heap.size wr.heap.size mv vs (zms q d k):=by rw[OutM,hLen.out];exact hO'
    have HC:=h_ hs.cell;clear hiv hdj hs hF' hO' hO hF e14 e15 hb hB;refine o0_ (by rfl) (.tmp 25) (.tmp 39) (by rfl) w2.heap.size wr.heap.size mv vs (zms q d k) (by rfl) hO'' (by rw[HVL.out,hLen.out]) g 1 (zmx yt yf) s (by rfl) hg HC.out (by rw[hLen.out];omega) (by omega) ?_;intro v' w' hO3 hA;obtain⟨n9,hn9⟩:=e_ ((zms q d k ++ [zmx yt yf]).length);rw[OutM,hn9]at hO3;have HN9:=h_ (show n9=k+1 by rw[←hn9];simp[hLen.out]);clear hn9;obtain⟨A9,c9,ev,_,_⟩:=hO3.form;subst ev;have hB3:=hA.other _ _ _ (by decide) hB';have z5:=hB3.cell' (i:=5) rfl;have fr:=hB3.frozen;have gb3:Below w2.heap.size w2 w':=gb2.trans (hA.below (l_ _) (by omega));have hs3:=hA.size;have hF3':=HF'.out.appT (by decide) hA;have HF3':=h_ hF3';have HO3:=h_ hO3;clear hF3' hO3 HF' hO'' hA gb2 hg;go_wp2;go_roundw
    case rel =>
     refine⟨k+1,.slice A9 n9 c9,vs ++ [s],by omega,by go_num,gb3.setCell (by simp) _,by simp;omega,hB3.set_ 5 _,?_,by simp[HVL.out],?_⟩
     ·have:=HO3.out.set hB3 (by decide) 5 (.slice A9 n9 c9);rw[HZS.out];rw[HN9.out]at this⊢;simpa using this
     ·have h1:=HF3'.out.setBlk (i:=5) hB3 (by decide) (.slice A9 n9 c9);have e:(vs ++ [s]).zip ((zms q d (k+1)).map Mx.a)=vs.zip ((zms q d k).map Mx.a) ++ [(s,List.replicate (yt*yf).toNat 0)]:=by
       rw[HZS.out,List.map_append,List.zip_append (by simp[HVL.out,hLen.out])];rfl
      rw[e];exact h1.mono (l_ _) (by simp;omega)
    case measure=>simp[intOf];omega
  ·obtain rfl:k=q.f.length:=by omega
   have hbs:=hbel.size;obtain⟨H1,h1,rfl,_,_⟩:=hO.form;have hI:=h_ (a5x HQ.out q.f.length (l_ _));have hF':Fam wr W.heap.size wr.heap.size ([(.slice A1 q.f.length a1,q.f),(.slice C1 q.t.length b1,q.t)] ++ [(.slice E1 d.length e1,d)] ++ vs.zip ((zms q d q.f.length).map Mx.a)) :=
    Fam.join (mi:=w2.heap.size) (HF3.out.below hbel) hF (by omega) (by omega)
   have hL:=m8_ q d q.f.length;have hO':OutM wr w2.heap.size wr.heap.size (.slice H1 q.f.length h1) vs (zms q d q.f.length):=by rw[OutM,hL];exact hO
   have hR:RepO wr W.heap.size wr.heap.size (.agg #[.int .i64 p,.int .i64 q.v,.slice A1 q.f.length a1,.slice C1 q.t.length b1,.slice E1 d.length e1,.slice H1 q.f.length h1]) (zRep p q d) :=
    ⟨_,_,_,_,vs,rfl,hO'.mono (by omega) (l_ _),by rw[HVL.out];exact hL.symm,hF',⟨hp,hqv⟩,hI.out⟩
   have HR:=h_ hR;have k2':=K2.out.call hbel;obtain⟨r0,r1,r2,r3,r4,r5⟩:=c_6 hB;obtain⟨s0,s1,s2,s3,s4,s5⟩:=c_6 k2';have fr:=k2'.frozen;have gf:Below w0.heap.size w0 wr:=G0.out.trans (hbel.mono (G0.out).size);have GF:=h_ gf;clear hR hO' hF' hL hO hF hB k2' kq gf;go_wp2;have sz:=SZ.out;have gf:=GF.out;refine bodyPost_ret (v:=.agg #[.int .i64 p,.int .i64 q.v,.slice A1 q.f.length a1,.slice C1 q.t.length b1,.slice E1 d.length e1,.slice H1 q.f.length h1]) (by simp[results,go_sem,s0,s1,s2,s3,s4,s5]) rfl ⟨_,rfl,RepO.wider (lo:=W.heap.size) (hi:=wr.heap.size) ?_ (by omega) (by simp),(((((gf.setCell (by simp) _).setCell (by simp) _).setCell (by simp) _).setCell (by simp) _).setCell (by simp) _).setCell (by simp) _⟩;have hc:Chg (w0.heap.size+1) (w0.heap.size+1+1) wr _:=(((((a5_ (w:=wr) (p:=⟨w0.heap.size+1,0,none⟩) (u:=.int .i64 p) (by simp) (by simp)).trans (a5_ (p:=⟨w0.heap.size+1,1,none⟩) (u:=.int .i64 q.v) (by simp) (by simp))).trans (a5_ (p:=⟨w0.heap.size+1,2,none⟩) (u:=.slice A1 q.f.length a1) (by simp) (by simp))).trans (a5_ (p:=⟨w0.heap.size+1,3,none⟩) (u:=.slice C1 q.t.length b1) (by simp) (by simp))).trans (a5_ (p:=⟨w0.heap.size+1,4,none⟩) (u:=.slice E1 d.length e1) (by simp) (by simp))).trans (a5_ (p:=⟨w0.heap.size+1,5,none⟩) (u:=.slice H1 q.f.length h1) (by simp) (by simp));exact HR.out.chg hc (.inr (by omega))
def RepI (w:World) (lo hi:Nat) (val:Value) (x:Rp):Prop:=∃ f t d m vs mi,val = .agg #[.int .i64 x.p,.int .i64 x.q.v,f,t,d,m]∧a8_ w lo mi f x.q.f∧a8_ w lo mi t x.q.t∧a8_ w lo mi d x.d∧OutM w lo hi m vs x.m∧vs.length=x.m.length ∧
 Fam w mi hi (vs.zip (x.m.map Mx.a))∧(lo≤mi∧mi≤hi)∧(I64 x.p∧I64 x.q.v)∧∀ m∈x.m,I64 m.r∧I64 m.c
theorem RepI.rd {w:World} {lo hi:Nat} {v:Value} {x:Rp} (h:RepI w lo hi v x):RpR w w.heap.size v x:=by
 obtain⟨f,t,d,m,vs,mi,e,h1,h2,h3,h4,h5,h6,_,h7,h8⟩:=h;exact⟨f,t,d,m,e,h1.rd,h2.rd,h3.rd,OutM.rd h4 h5 (fun p hp=>(h6.1 p hp).rd) h8,h7⟩
theorem RepI.chg {w w':World} {lo hi lo' hi':Nat} {v:Value} {x:Rp} (h:RepI w lo hi v x) (hc:Chg lo' hi' w w') (hd:hi≤lo'∨hi'≤lo):RepI w' lo hi v x:=by
 obtain⟨f,t,d,m,vs,mi,e,h1,h2,h3,h4,h5,h6,h9,h7,h8⟩:=h;exact⟨f,t,d,m,vs,mi,e,h1.chg hc (by omega),h2.chg hc (by omega),h3.chg hc (by omega),h4.chg hc hd,h5,h6.chg hc (by omega),h9,h7,h8⟩
theorem RepI.below {w w':World} {lo hi:Nat} {v:Value} {x:Rp} (h:RepI w lo hi v x) (hb:Below w.heap.size w w'):RepI w' lo hi v x:=by
 obtain⟨f,t,d,m,vs,mi,e,h1,h2,h3,h4,h5,h6,h9,h7,h8⟩:=h;exact⟨f,t,d,m,vs,mi,e,h1.below hb,h2.below hb,h3.below hb,h4.below hb,h5,h6.below hb,h9,h7,h8⟩
theorem RepI.wider {w:World} {lo hi lo' hi':Nat} {v:Value} {x:Rp} (h:RepI w lo hi v x) (k1:lo'≤lo) (k2:hi≤hi'):RepI w lo' hi' v x:=by
 obtain⟨f,t,d,m,vs,mi,e,h1,h2,h3,h4,h5,h6,h9,h7,h8⟩:=h;exact⟨f,t,d,m,vs,mi,e,h1.wider k1 (l_ _),h2.wider k1 (l_ _),h3.wider k1 (l_ _),h4.mono k1 k2,h5,h6.mono (l_ _) k2,by omega,h7,h8⟩
theorem RepI.zero (w:World) {lo hi:Nat} (h:lo≤hi):RepI w lo hi (.agg #[.int .i64 0,.int .i64 0,.slice none 0 0,.slice none 0 0,.slice none 0 0,.slice none 0 0]) rp0 :=
 ⟨_,_,_,_,[],lo,rfl,⟨OwnI.nil _ _,by simp[Value.ownBlock]⟩,⟨OwnI.nil _ _,by simp[Value.ownBlock]⟩,⟨OwnI.nil _ _,by simp[Value.ownBlock]⟩,RowO.nil _ w lo hi,rfl,⟨fun p hp=>by simp at hp,by simp⟩,⟨l_ _,h⟩,by simp[rp0,I64],fun m hm=>by simp[rp0]at hm⟩
theorem Q4_ (p:Int) (u xv:Value) (q:Qv) (d:List Int) (w0:World) (hp:I64 p) (hu:QvR w0 w0.heap.size u q) (hx:SlI w0 w0.heap.size xv d) (hq:i0_ q d=true) :
  Calls Tryz.prog 56 #[.int .i64 p,u,xv] w0 fun e w'=>∃ v,e = .returned v∧RepI w' w0.heap.size w'.heap.size v (zRep p q d)∧Below w0.heap.size w0 w':=by
 have hu':=hu;obtain⟨A,c,C,c',rfl,hf,ht,hr,lf,lt⟩:=hu.open_;obtain⟨XA,xc,rfl,_,_,lx,hx⟩:=hx.open_;clear hu;obtain⟨W,hW,g0,k1,k2⟩:=b_4 w0 #[.int .i64 q.v,.slice A q.f.length c,.slice C q.t.length c'] 26 #[.int .i64 0,.int .i64 0,.slice none 0 0,.slice none 0 0,.slice none 0 0,.slice none 0 0] 29;have sz:W.heap.size=w0.heap.size+1+1:=by rw[hW];simp
 have SZ:=h_ sz;clear sz;have HQ:=h_ hq;clear hq;have hxW:=SlI.next g0 hx;have huW:=QvR.next g0 hu';go_enter Tryz.func56,Tryz.ntmps56
 obtain⟨c0,c1,c2⟩:=c_3 k1;go_wp2_with fail
 rw[←hW];clear hW;refine (E6_ _ q _ huW).mono ?_;rintro e w1 ⟨v1,rfl,⟨qa,qb,rfl,ha,hb2,hqv⟩,hb1⟩;obtain⟨A1,a1,rfl⟩:=ha.form;obtain⟨C1,b1,rfl⟩:=hb2.form;have s1:=hb1.size;clear c0 c1 c2
 (go_wp2_with (at_builtin;refine Hold.stop ?_));unfold Hold
 refine i5_ (by rfl) (.tmp 12) (.tmp 13) (by rfl) w1.heap.size w1.heap.size (w1.alloc (.cells #[] 3)).heap.size #[] (by rfl) (Blk.new _ _ _) rfl (l_ _) XA xc d (by rfl) (SlI.next (a0_ _ _) (SlI.next hb1 hxW)) ?_;intro v2 w2 ho hb2';obtain⟨E1,e1,rfl,_,_⟩:=ho.form;have hb3:Below w1.heap.size w1 w2:=b0_ (a0_ _ _) hb2';have s2:=hb3.size;have s2':=hb2'.size;obtain⟨W3,hW3⟩:∃ W3,W3=(w2.alloc (.cells #[] 65)).alloc (.cells #[.int .i64 p,.int .i64 q.v,.slice A1 q.f.length a1,.slice C1 q.t.length b1,.slice E1 d.length e1,.slice (some ⟨w2.heap.size,0,none⟩) 0 0] 29):=⟨_,rfl⟩;have gA:Below w2.heap.size w2 W3:=by rw[hW3];exact ((Below.refl _ _).alloc (l_ _) _).alloc (by simp) _
 have z3:W3.heap.size=w2.heap.size+1+1:=by rw[hW3];simp
 have hBm3:Blk W3 w2.heap.size 65 #[]:=by rw[hW3];exact (Blk.new _ _ _).alloc _
 have hB3:Blk W3 (w2.heap.size+1) 29 #[.int .i64 p,.int .i64 q.v,.slice A1 q.f.length a1,.slice C1 q.t.length b1,.slice E1 d.length e1,.slice (some ⟨w2.heap.size,0,none⟩) 0 0]:=by
  rw[hW3];have:=Blk.new (w2.alloc (.cells #[] 65)) 29 #[.int .i64 p,.int .i64 q.v,.slice A1 q.f.length a1,.slice C1 q.t.length b1,.slice E1 d.length e1,.slice (some ⟨w2.heap.size,0,none⟩) 0 0];simpa only[l3_] using this
 have g1:Below W.heap.size W w2:=b0_ hb1 hb3;have gW3:Below W.heap.size W W3:=b0_ g1 gA;have sW:=g1.size;simp only[l3_]at s2';have hO3:RowO 65 3 W3 W.heap.size W3.heap.size (.slice (some ⟨w2.heap.size,0,none⟩) 0 0) 0 []:=by
  have:=hBm3.own (base:=W.heap.size) (n:=0) (cap:=0) (size:=3) sW (l_ _) (by simp only[maxLen];omega) (by simp);exact⟨by simpa using this,fun k hk=>by simp[Value.ownBlock]at hk;subst hk;exact hBm3.lt,by omega⟩
 have ha3:a8_ W3 W.heap.size W3.heap.size (.slice A1 q.f.length a1) q.f:=((ha.below hb3).below gA).wider (l_ _) (by omega);have hb3':a8_ W3 W.heap.size W3.heap.size (.slice C1 q.t.length b1) q.t:=((hb2.below hb3).below gA).wider (l_ _) (by omega);have hd3:a8_ W3 W.heap.size W3.heap.size (.slice E1 d.length e1) d:=((a8_.of_own ho).below gA).wider (by omega) (by omega);have hgR:W.heap.size≤(w2.heap.size+1):=by omega
 have q1':W3.cell? ⟨w0.heap.size,1,none⟩=some (.slice A q.f.length c):=(k1.below gW3 (by have:=SZ.out;omega)).cell' (i:=1) rfl;have q1'':w2.cell? ⟨w0.heap.size,1,none⟩=some (.slice A q.f.length c):=(k1.below g1 (by have:=SZ.out;omega)).cell' (i:=1) rfl;have hlt0:w0.heap.size<w2.heap.size:=by have:=SZ.out;omega
 have K1:=h_ k1;have K2:=h_ k2;have G0:=h_ g0;have HA3:=h_ ha3;have HB3:=h_ hb3';have HD3:=h_ hd3;have H3:=h_ hB3;have O3:=h_ hO3;have GW3:=h_ gW3;have HGR:=h_ (show (w2.heap.size+1)<W3.heap.size by omega);clear ho ha hb2 hBm3 ha3 hb3 hb3' hd3 hB3 hO3 gW3 k1 k2 g0 hb1 hb2' gA g1 s1 s2 s2' sW z3;go_wp2;rw[←hW3];clear hW3 q1' q1'';go_loopw [8] (fun i wr=>∃ (k:Nat) (mv:Value) (vs:List Value),k≤q.f.length∧i = .int .i64 k∧Below W.heap.size W wr∧W3.heap.size≤wr.heap.size∧Blk wr (w2.heap.size+1) 29 #[.int .i64 p,.int .i64 q.v,.slice A1 q.f.length a1,.slice C1 q.t.length b1,.slice E1 d.length e1,mv] ∧
  a8_ wr W.heap.size W3.heap.size (.slice A1 q.f.length a1) q.f∧a8_ wr W.heap.size W3.heap.size (.slice C1 q.t.length b1) q.t∧a8_ wr W.heap.size W3.heap.size (.slice E1 d.length e1) d ∧
  RowO 65 3 wr W.heap.size wr.heap.size mv k (mxCs vs (zms q d k))∧vs.length=k∧Fam wr W3.heap.size wr.heap.size (vs.zip ((zms q d k).map Mx.a))) (fun i _=>q.f.length-(intOf i).toNat)
 case atStart=>exact⟨0,_,[],l0_ _,rfl,GW3.out,l_ _,H3.out,HA3.out,HB3.out,HD3.out,O3.out,rfl,⟨fun p hp=>by simp at hp,by simp⟩⟩
 case round =>
  obtain⟨k,mv,vs,hk,rfl,hbel,hlt2,hB,hIa,hIb,hId,hO,hvl,hF⟩:=hrel;have HVL:=h_ hvl;clear hvl;have kq:=(K1.out).below hbel (by have:=SZ.out;omega);have p1:=kq.cell' (i:=1) rfl;by_cases hlt:k<q.f.length
  ·obtain⟨nf,nt,yf,yt,ef,et,df,dt,lnf,lnt,lnf5,lnt5,hkt0⟩:=C0_ (x:=⟨0,q,d,[]⟩) HQ.out hlt;simp only at ef et df dt lnf lnt hkt0;have hkf:=hlt;have hd:=(c3_.1 HQ.out).2.2.1;have hlf6:q.f.length≤6:=(j2_.1 (c3_.1 HQ.out).1).2.2.1;have byf:=hd _ (l4_ df);have byt:=hd _ (l4_ dt);have HZS:=h_ (V6_ ef et df dt);clear hd;have hkt:=hkt0;obtain⟨bf,of_,xf,eA,hbf,HXF,f1,_⟩:=SlI.at_ hf hkf;obtain⟨bt,ot,xt,eC,hbt,HXT,t1,_⟩:=SlI.at_ ht hkt;obtain⟨bd,od,xdf,eX,hbd,HXDF,d1,_⟩:=SlI.at_ hx lnf;obtain⟨bd',od',xdt,eX',hbd',HXDT,d2,_⟩:=SlI.at_ hx lnt;subst eA eC eX;injection eX' with eX'
   injection eX' with e1 e2
   subst e1 e2;have q1:=HXF.out;rw[ef]at q1;injection q1 with q1
   subst q1;have q2:=HXT.out;rw[et]at q2;injection q2 with q2
   subst q2;have q3:=HXDF.out;rw[df]at q3;injection q3 with q3
   subst q3;have q4:=HXDT.out;rw[dt]at q4;injection q4 with q4
   subst q4;clear HXF HXT HXDF HXDT ef et df dt;have gw:Below w0.heap.size w0 wr:=G0.out.trans (hbel.mono (G0.out).size);have gws:=gw.size;have hbelS:=hbel.size;have sz:=SZ.out;have a1':(0:Int)≤(k:Int):=by omega
   have a2':(k:Int)<q.f.length:=by omega
   have a3':(k:Int)<q.t.length:=by omega
   have a4':(0:Int)≤(nf:Int):=by omega
   have a5':(nf:Int)<d.length:=by omega
   have a6':(0:Int)≤(nt:Int):=by omega
   have a7':(nt:Int)<d.length:=by omega
   have SZ2:=h_ sz;clear sz;go_wp2;refine a9_ (by kernel_rfl) [.eq (.pointer (some ⟨w2.heap.size+1,5,none⟩)),.eq (mv),.eq (.slice (some ⟨bd,od,none⟩) d.length xc),.eq (.pointer (some ⟨w0.heap.size,2,none⟩)),.eq (.slice (some ⟨bt,ot,none⟩) q.t.length c'),.eq (.int .i64 k),.eq (.pointer (some ⟨bt,ot+k,none⟩)),.eq (.int .i64 nt),.eq (.pointer (some ⟨bd,od+nt,none⟩)),.eq (.int .i64 yt),.eq (.slice (some ⟨bd,od,none⟩) d.length xc),.eq (.pointer (some ⟨w0.heap.size,1,none⟩)),.eq (.slice (some ⟨bf,of_,none⟩) q.f.length c),.eq (.int .i64 k),.eq (.pointer (some ⟨bf,of_+k,none⟩)),.eq (.int .i64 nf),.eq (.pointer (some ⟨bd,od+nf,none⟩)),.eq (.int .i64 yf),rel 18 (fun u lo hi w=>MxO w lo hi u (zmx yt yf)),.rel (fun x w=>∃ g s,x.v 19 = .slice (some ⟨g,0,none⟩) 1 1∧x.v 18 = .agg #[.int .i64 yt,.int .i64 yf,s]∧Blk w g 65 #[.int .i64 yt,.int .i64 yf,s])] [[],[0],[],[],[3],[],[3,4,5],[3,4,5,6],[2,3,4,5,6,7],[2,3,4,5,6,7,8],[],[],[11],[],[11,12,13],[11,12,13,14],[10,11,12,13,14,15],[10,11,12,13,14,15,16],[2,3,4,5,6,7,8,9,10,11,12,13,14,15,16,17],[2,3,4,5,6,7,8,9,10,11,12,13,14,15,16,17,18],[0,1,2,3,4,5,6,7,8,9,10,11,12,13,14,15,16,17,18,19],[0,1,2,3,4,5,6,7,8,9,10,11,12,13,14,15,16,17,18,19,20],[0,1,2,3,4,5,6,7,8,9,10,11,12,13,14,15,16,17,18,19,20,21]] 20 (by kernel_rfl) ⟨trivial,trivial,trivial,trivial,trivial,trivial,trivial,trivial,trivial,trivial,trivial,trivial,trivial,trivial,trivial,trivial,trivial,trivial,a7_ (fun u lo hi w w' h hb=>h.below hb),fun x w w' ⟨g,s,e1,e2,h⟩ hb=>⟨g,s,e1,e2,h.call hb⟩,trivial⟩ ⟨?_,?_,?_,?_,?_,?_,?_,?_,?_,?_,?_,?_,?_,?_,?_,?_,?_,?_,?_,?_,trivial⟩ ?_;iterate 20 (intro x w hb hk Q' hQ;have he:=k_e hk;simp only[k_s]at he;simp only[netE]at hQ⊢;(try simp only[he]at hQ⊢);(try clear he);rotate_left)
   rotate_left
   ·clear hk;go_wp2;exact hQ _ _ br_ rfl
   ·clear hk;have z5:=(hB.call hb).cell' (i:=5) rfl;go_wp2;exact hQ _ _ br_ rfl
   iterate 2 (· clear hk;go_wp2;exact hQ _ _ br_ rfl)
   ·clear hk;have z2:=(kq.call hb).cell' (i:=2) rfl;go_wp2;exact hQ _ _ br_ rfl
   iterate 2 (· clear hk;go_wp2;exact hQ _ _ br_ rfl)
   ·clear hk;have z2:=a4_ hb (by omega) (a4_ gw hbt t1);go_wp2;exact hQ _ _ br_ rfl
   ·clear hk;go_wp2;exact hQ _ _ br_ rfl
   ·clear hk;have z2:=a4_ hb (by omega) (a4_ gw hbd' d2);go_wp2;exact hQ _ _ br_ rfl
   iterate 2 (· clear hk;go_wp2;exact hQ _ _ br_ rfl)
   ·clear hk;have z2:=(kq.call hb).cell' (i:=1) rfl;go_wp2;exact hQ _ _ br_ rfl
   iterate 2 (· clear hk;go_wp2;exact hQ _ _ br_ rfl)
   ·clear hk;have z2:=a4_ hb (by omega) (a4_ gw hbf f1);go_wp2;exact hQ _ _ br_ rfl
   ·clear hk;go_wp2;exact hQ _ _ br_ rfl
   ·clear hk;have z2:=a4_ hb (by omega) (a4_ gw hbd d1);go_wp2;exact hQ _ _ br_ rfl
   ·clear hk;go_wp2_with fail
    refine (p7_ yt yf _ byt.1 byf.1 (by omega) (by omega)).mono ?_;rintro e w3 ⟨v3,rfl,hZ,hb3⟩;go_wp2;exact hQ _ _ hb3 hZ
   ·have h18:MxO w (x.lo 18) (x.hi 18) (x.v 18) (zmx yt yf):=(hk 18 (by decide)).1;have s18:=(hk 18 (by decide)).2;clear hk;obtain⟨s,e14,hs⟩:=h18;obtain⟨sA,sc,es⟩:=hs.1.form;obtain⟨sn,hsn⟩:=e_ ((zmx yt yf).a.length);rw[hsn]at es;clear hsn hs;subst es;have hQ':=hQ (.slice (some ⟨w.heap.size,0,none⟩) 1 1) (w.alloc (.cells #[.int .i64 yt,.int .i64 yf,.slice sA sn sc] 65)) (a0_ _ _) ⟨_,_,rfl,e14,Blk.new _ _ _⟩;simp only[zmx]at e14;rw[e14]at hQ'⊢;go_wp2;exact hQ'
   ·intro x w hb hk hiv hdj;have h18:MxO w (x.lo 18) (x.hi 18) (x.v 18) (zmx yt yf):=hk 18 (by decide);have h19:∃ g s,x.v 19 = .slice (some ⟨g,0,none⟩) 1 1∧x.v 18 = .agg #[.int .i64 yt,.int .i64 yf,s]∧Blk w g 65 #[.int .i64 yt,.int .i64 yf,s]:=hk 19 (by decide);have he:=k_g hk [0,1,2,3,4,5,6,7,8,9,10,11,12,13,14,15,16,17];simp only[k_s]at he;simp only[netE,he];clear he hk;obtain⟨g,s,e15,e14,hg⟩:=h19;have l14:=(hiv 18 (by decide)).1;have h14i:=(hiv 18 (by decide)).2.2;obtain⟨s',e14',hs,_⟩:=h18;rw[e14]at e14';simp only[Value.agg.injEq,Array.mk.injEq,List.cons.injEq,and_true,zmx,true_and]at e14';subst e14';rw[e15];have hO':=hO.below hb;have hF':=(hF.below hb).snoc (hs.wider l14 h14i) (by omega) hb.size;have hB':=hB.call hb;have hIa':=hIa.below hb;have hIb':=hIb.below hb;have hId':=hId.below hb;have gb2:Below W.heap.size W w:=hbel.trans (hb.mono hbelS);have hbs2:=hb.size;have hLen:=h_ (m8_ q d k);have HF':=h_ hF';have hO'':OutM w W.heap.size wr.heap.size mv vs (zms q d k):=by rw[OutM,hLen.out];exact hO'
    have HC:=h_ hs.cell;clear hiv hdj hs hF' hO' hO hF e14 e15 hb hB hIa hIb hId;refine o0_ (by rfl) (.tmp 25) (.tmp 43) (by rfl) W.heap.size wr.heap.size mv vs (zms q d k) (by rfl) hO'' (by rw[HVL.out,hLen.out]) g 1 (zmx yt yf) s (by rfl) hg HC.out (by rw[hLen.out];omega) (by omega) ?_;intro v' w' hO3 hA;obtain⟨n9,hn9⟩:=e_ ((zms q d k ++ [zmx yt yf]).length);rw[OutM,hn9]at hO3;have HN9:=h_ (show n9=k+1 by rw[←hn9];simp[hLen.out]);clear hn9;obtain⟨A9,c9,ev,_,_⟩:=hO3.form;subst ev;have hB3:=hA.other _ _ _ (by decide) hB';have z5:=hB3.cell' (i:=5) rfl;have fr:=hB3.frozen;have gb3:Below W.heap.size W w':=gb2.trans (hA.below (l_ _) (by omega));have hs3:=hA.size;have hF3':=HF'.out.appT (by decide) hA;have HF3':=h_ hF3';have HO3:=h_ hO3;have HIa:=h_ (hIa'.appT (by decide) hA);have HIb:=h_ (hIb'.appT (by decide) hA);have HId:=h_ (hId'.appT (by decide) hA);clear hF3' hO3 HF' hO'' hA gb2 hg hIa' hIb' hId';go_wp2;go_roundw
    case rel =>
     have ti:AppT 29 W.heap.size w' (w'.setCell ⟨w2.heap.size+1,5,none⟩ (.slice A9 n9 c9)):=AppT.set hB3 rfl hgR;refine⟨k+1,.slice A9 n9 c9,vs ++ [s],by omega,by go_num,gb3.setCell (by simpa using hgR) _,by simp;omega,hB3.set_ 5 _,HIa.out.appT (by decide) ti,HIb.out.appT (by decide) ti,HId.out.appT (by decide) ti,?_,by simp[HVL.out],?_⟩
     ·have:=HO3.out.set hB3 (by decide) 5 (.slice A9 n9 c9);rw[HZS.out];rw[HN9.out]at this⊢;simpa using this
     ·have h1:=HF3'.out.setBlk (i:=5) hB3 (by decide) (.slice A9 n9 c9);have e:(vs ++ [s]).zip ((zms q d (k+1)).map Mx.a)=vs.zip ((zms q d k).map Mx.a) ++ [(s,List.replicate (yt*yf).toNat 0)]:=by
       rw[HZS.out,List.map_append,List.zip_append (by simp[HVL.out,hLen.out])];rfl
      rw[e];exact h1.mono (l_ _) (by simp;omega)
    case measure=>simp[intOf];omega
  ·obtain rfl:k=q.f.length:=by omega
   have hbs:=hbel.size;obtain⟨H1,h1,rfl,_,_⟩:=hO.form;have hI:=h_ (a5x HQ.out q.f.length (l_ _));have hL:=m8_ q d q.f.length;have hO':OutM wr W.heap.size wr.heap.size (.slice H1 q.f.length h1) vs (zms q d q.f.length):=by rw[OutM,hL];exact hO
   have hbW3:=(GW3.out).size;have hR:RepI wr W.heap.size wr.heap.size (.agg #[.int .i64 p,.int .i64 q.v,.slice A1 q.f.length a1,.slice C1 q.t.length b1,.slice E1 d.length e1,.slice H1 q.f.length h1]) (zRep p q d) :=
    ⟨_,_,_,_,vs,W3.heap.size,rfl,hIa,hIb,hId,hO',by rw[HVL.out];exact hL.symm,hF,⟨hbW3,hlt2⟩,⟨hp,hqv⟩,hI.out⟩
   have HR:=h_ hR;have k2':=(K2.out).below hbel (by have:=SZ.out;omega);obtain⟨r0,r1,r2,r3,r4,r5⟩:=c_6 hB;obtain⟨s0,s1,s2,s3,s4,s5⟩:=c_6 k2';have fr:=k2'.frozen;have GF:=h_ (G0.out.trans (hbel.mono (G0.out).size));have HBS:=h_ hbs;clear hR hO' hL hO hF hB k2' kq hIa hIb hId hbs hbW3;go_wp2;have sz:=SZ.out;have hbs:=HBS.out;have gf:=GF.out;refine bodyPost_ret (v:=.agg #[.int .i64 p,.int .i64 q.v,.slice A1 q.f.length a1,.slice C1 q.t.length b1,.slice E1 d.length e1,.slice H1 q.f.length h1]) (by simp[results,go_sem,s0,s1,s2,s3,s4,s5]) rfl ⟨_,rfl,RepI.wider (lo:=W.heap.size) (hi:=wr.heap.size) ?_ (by omega) (by simp),(((((gf.setCell (by simp) _).setCell (by simp) _).setCell (by simp) _).setCell (by simp) _).setCell (by simp) _).setCell (by simp) _⟩;have hc:Chg (w0.heap.size+1) (w0.heap.size+1+1) wr _:=(((((a5_ (w:=wr) (p:=⟨w0.heap.size+1,0,none⟩) (u:=.int .i64 p) (by simp) (by simp)).trans (a5_ (p:=⟨w0.heap.size+1,1,none⟩) (u:=.int .i64 q.v) (by simp) (by simp))).trans (a5_ (p:=⟨w0.heap.size+1,2,none⟩) (u:=.slice A1 q.f.length a1) (by simp) (by simp))).trans (a5_ (p:=⟨w0.heap.size+1,3,none⟩) (u:=.slice C1 q.t.length b1) (by simp) (by simp))).trans (a5_ (p:=⟨w0.heap.size+1,4,none⟩) (u:=.slice E1 d.length e1) (by simp) (by simp))).trans (a5_ (p:=⟨w0.heap.size+1,5,none⟩) (u:=.slice H1 q.f.length h1) (by simp) (by simp));exact HR.out.chg hc (.inr (by omega))
def msF (n:Nat) (F:Nat→Mx):List Mx:=(List.range n).map F
theorem b2_ (n:Nat) (F:Nat→Mx):(msF n F).length=n:=by simp[msF]
theorem s3_ {n j:Nat} (F:Nat→Mx) (h:j<n):(msF n F)[j]?=some (F j):=by simp[msF,h]
theorem j7_ {n:Nat} {F G:Nat→Mx} (e:∀ i,i<n→F i=G i):msF n F=msF n G:=by
 apply List.ext_getElem?
 intro i;by_cases hi:i<n
 ·rw[s3_ F hi,s3_ G hi,e i hi]
 ·rw[l6_ (by rw[b2_];omega),l6_ (by rw[b2_];omega)]
theorem a3Q {n j:Nat} (F:Nat→Mx) (m:Mx):(msF n F).set j m=msF n fun i=>if i=j then m else F i:=by
 apply List.ext_getElem?
 intro i;rw[List.getElem?_set,b2_];by_cases hi:i<n
 ·rw[s3_ (fun i=>if i=j then m else F i) hi];by_cases e:j=i
  ·rw[if_pos e,if_pos (by omega),if_pos e.symm]
  ·rw[if_neg e,s3_ _ hi,if_neg (fun h=>e h.symm)]
 ·rw[l6_ (l:=msF n fun i=>if i=j then m else F i) (by rw[b2_];omega)];split
  ·rw[if_neg (by omega)]
  ·rw[l6_ (by rw[b2_];omega)]
theorem a3J {n:Nat} {F:Nat→Mx} {m:Mx} (h:m∈msF n F):∃ i,i<n∧m=F i:=by
 simp only[msF,List.mem_map,List.mem_range]at h;obtain⟨i,hi,rfl⟩:=h;exact⟨i,hi,rfl⟩
theorem c4Z:∀ (vs:List Value) (ms ms':List Mx),ms.map (fun m=>(m.r,m.c))=ms'.map (fun m=>(m.r,m.c))→mxCs vs ms=mxCs vs ms'
 | [],ms,ms',_=>by simp[mxCs]
 | v :: vs,[],ms',h=>by
  have:ms'=[]:=by simpa using h.symm
  subst this;rfl
 | v :: vs,m :: ms,[],h=>by simp at h
 | v :: vs,m :: ms,m' :: ms',h=>by
  simp only[List.map_cons,List.cons.injEq,Prod.mk.injEq]at h;simp only[mxCs,h.1.1,h.1.2,c4Z vs ms ms' h.2]
theorem OutM.rc {w:World} {lo hi:Nat} {v:Value} {vs:List Value} {ms ms':List Mx} (h:OutM w lo hi v vs ms) (e:ms.map (fun m=>(m.r,m.c))=ms'.map (fun m=>(m.r,m.c))):OutM w lo hi v vs ms':=by
 have h1:=congrArg List.length e;simp only[List.length_map]at h1;have h2:=c4Z vs ms ms' e;unfold OutM at h⊢;rw[←h1,←h2];exact h
theorem OutM.at_ {w:World} {lo hi lo' hi' j:Nat} {mv:Value} {vs:List Value} {ms:List Mx} {L0:List (Value×List Int)} {m:Mx} (h:OutM w lo hi mv vs ms) (hl:vs.length=ms.length) (hF:Fam w lo' hi' (L0 ++ vs.zip (ms.map Mx.a))) (hm:ms[j]?=some m) (hne:0<m.a.length) :
  ∃ gm cm g c,mv = .slice (some ⟨gm,0,none⟩) ms.length cm∧gm<w.heap.size∧vs[j]?=some (.slice (some ⟨g,0,none⟩) m.a.length c)∧w.cell? ⟨gm,j*3,none⟩=some (.int .i64 m.r)∧w.cell? ⟨gm,j*3+1,none⟩=some (.int .i64 m.c) ∧
   w.cell? ⟨gm,j*3+2,none⟩=some (.slice (some ⟨g,0,none⟩) m.a.length c)∧OwnI w lo' (.slice (some ⟨g,0,none⟩) m.a.length c) m.a∧(lo'≤g∧g<hi')∧m.a.length≤c∧c≤9223372036854775807∧ms.length≤cm∧cm≤9223372036854775807:=by
 have hj:=a6_ hm;have hv:vs[j]?=some (vs[j]'(by omega)):=l2_ (by omega);have hI:=hF.getAt hv (show (ms.map Mx.a)[j]?=some m.a by simp[hm]);obtain⟨gm,cm,cur,e,h1,h2,h3,h4⟩:=RowO.at_ h (by omega);have hml:=A2_ vs ms hl;obtain⟨a,b,c⟩:=x6_ hv hm;rcases hI.1.1.2 with ⟨e',h0⟩ | ⟨g,cap,cur',e',hg,_,hnc,hcm,_⟩
 ·omega
 ·have hf:=RowO.form h;obtain⟨A,c2,e2,l1,l2⟩:=hf;rw[e]at e2;injection e2 with e21 e22 e23
  subst e23;have h1:=h.1;subst e;have c0:=h1.cellAt (j*3) (by omega);have c1:=h1.cellAt (j*3+1) (by omega);have c3:=h1.cellAt (j*3+2) (by omega);refine⟨gm,cm,g,cap,rfl,h3,by rw[hv,e'],by rw[c0];exact a,by rw[c1];exact b,by rw[c3,←e'];exact c,by rw[←e'];exact hI.1,⟨hg,hI.2 g (by simp[e',Value.ownBlock])⟩,hnc,by simp only[maxLen]at hcm;omega,l1,l2⟩
theorem a9X {w:World} {lo hi lo' hi' j i g c:Nat} {mv:Value} {vs:List Value} {ms:List Mx} {L0:List (Value×List Int)} {m:Mx} {x:Int} (hO:OutM w lo hi mv vs ms) (hF:Fam w lo' hi' (L0 ++ vs.zip (ms.map Mx.a)))
  (hv:vs[j]?=some (.slice (some ⟨g,0,none⟩) m.a.length c)) (hm:ms[j]?=some m) (ho:OwnI w lo' (.slice (some ⟨g,0,none⟩) m.a.length c) m.a) (hx:I64 x) :
  OutM (w.setCell ⟨g,i,none⟩ (.int .i64 x)) lo hi mv vs (ms.set j ⟨m.r,m.c,m.a.set i x⟩)∧Fam (w.setCell ⟨g,i,none⟩ (.int .i64 x)) lo' hi' (L0 ++ vs.zip ((ms.set j ⟨m.r,m.c,m.a.set i x⟩).map Mx.a)):=by
 have hp:=ho.put (j:=i) hx;refine⟨OutM.rc (ms:=ms) (RowO.grown hO (by decide) ho hp.2) ?_,?_⟩
 ·apply List.ext_getElem?
  intro k;rw[List.getElem?_map,List.getElem?_map,List.getElem?_set];by_cases e:j=k
  ·subst e;rw[if_pos rfl,if_pos (a6_ hm),hm];rfl
  ·rw[if_neg e]
 ·rw[List.map_set];exact hF.setAt hv (show (ms.map Mx.a)[j]?=some m.a by simp[hm]) hp.1 hp.2
theorem d5z {ms:List Mx} {j:Nat} {m:Mx} {l:List Int} (h:∀ m∈ms,I64 m.r∧I64 m.c) (hm:ms[j]?=some m):∀ x∈ms.set j ⟨m.r,m.c,l⟩,I64 x.r∧I64 x.c:=by
 intro x hx;rcases List.mem_or_eq_of_mem_set hx with hx | rfl
 ·exact h x hx
 ·exact h m (l4_ hm)
def ivF (a k:Nat) (v:Nat):Int:=if a≤v∧v<k then 1 else 0
theorem a8X {V a k:Nat} (hk:k<V) (ha:a≤k):(rowF V (ivF a k)).set k 1=rowF V (ivF a (k+1)):=by
 rw[o4_];apply d1_
 intro v hv;unfold ivF;repeat' split
 all_goals omega
theorem g8z (V a:Nat):List.replicate V (0:Int)=rowF V (ivF a a):=by
 apply List.ext_getElem?
 intro i;by_cases hi:i<V
 ·rw[c0_ _ hi];simp only[ivF,hi,List.getElem?_replicate,if_true];rw[if_neg (by omega)]
 ·rw[l6_ (by simp;omega),l6_ (by rw[a2_];omega)]
theorem d4J (a k v:Nat):0≤ivF a k v∧ivF a k v≤1:=by unfold ivF;split <;> omega
theorem c3j (a k:Nat):∀ V,0≤(rowF V (ivF a k)).sum∧(rowF V (ivF a k)).sum≤V
 | 0=>by simp[rowF]
 | V+1=>by
  have h:=c3j a k V;have h2:=d4J a k V;simp only[rowF,List.range_succ,List.map_append,List.sum_append,List.map_cons,List.map_nil,List.sum_cons,List.sum_nil]at h⊢;omega
theorem J7_ {q:Qv} {V:Nat} (hq:isQ q=true) (hV:q.v=V) (a k:Nat):i0_ q (rowF V (ivF a k))=true:=by
 have h5:=(j2_.1 hq).1;have hs:=c3j a k V;refine c3_.2 ⟨hq,by rw[a2_];omega,fun x hx=>?_,by omega⟩;simp only[rowF,List.mem_map,List.mem_range]at hx;obtain⟨i,_,rfl⟩:=hx;have:=d4J a k i;omega
def zmAt (q:Qv) (d:List Int) (i:Nat):Mx:=zmx (dAt d (q.t.getD i 0)) (dAt d (q.f.getD i 0))
theorem g5j (q:Qv) (d:List Int) (n:Nat):zms q d n=msF n (zmAt q d):=rfl
def b5X (m:Mx):Mx:=⟨m.r,m.c,List.replicate m.a.length 1⟩
def r0_ (p:Int) (q:Qv) (a b:Nat):Rp:=⟨p,q,rowF q.v.toNat (ivF a (b+1)),msF q.f.length fun i=>b5X (zmAt q (rowF q.v.toNat (ivF a (b+1))) i)⟩
def ziOk (ok:Bool) (p:Int) (q:Qv) (a b:Int):Bool:=c8_ p && (ok && (inR a 0 (q.v-1) && inR b a (q.v-1)))
def ziP (ok:Bool) (p:Int) (q:Qv) (a b:Int):Rp×Bool:=if ziOk ok p q a b then (r0_ p q a.toNat b.toNat,true) else (rp0,false)
theorem b3x {ok:Bool} {p:Int} {q:Qv} {a b:Int} (h:ziOk ok p q a b=false):ziP ok p q a b=(rp0,false):=by simp[ziP,h]
theorem V5_ {ok:Bool} {p:Int} {q:Qv} {a b:Int} (h:ziOk ok p q a b=true):ziP ok p q a b=(r0_ p q a.toNat b.toNat,true):=by simp[ziP,h]
theorem a1z {q:Qv} (hz:isZ q=true) {V a b i:Nat} (hV:q.v=V) (hi:i<q.f.length):∃ r c:Int,zmAt q (rowF V (ivF a (b+1))) i=⟨r,c,if a≤i∧i<b then [0] else []⟩∧I64 r∧I64 c:=by
 obtain⟨hq,hl,ht⟩:=u9_ hz;obtain⟨nf,nt,yf,yt,ef,et,df,dt,_⟩:=C0_ (x:=⟨0,q,rowF V (ivF a (b+1)),[]⟩) (J7_ hq hV a (b+1)) (show i<q.f.length from hi);simp only at ef et df dt;have hzz:=ht i nf nt hi ef et;simp only[zzAt,l9_,decide_eq_true_eq]at hzz;have lf:nf<V:=by have:=a6_ df;rwa[a2_]at this
 have lt:nt<V:=by have:=a6_ dt;rwa[a2_]at this
 rw[c0_ _ lf]at df;rw[c0_ _ lt]at dt;injection df with df
 injection dt with dt
 have e1:dAt (rowF V (ivF a (b+1))) (q.t.getD i 0)=ivF a (b+1) nt:=by rw[l1_,et];exact r4_ (c0_ _ lt)
 have e2:dAt (rowF V (ivF a (b+1))) (q.f.getD i 0)=ivF a (b+1) nf:=by rw[l1_,ef];exact r4_ (c0_ _ lf)
 refine⟨ivF a (b+1) nt,ivF a (b+1) nf,?_,by have:=d4J a (b+1) nt;unfold I64;omega,by have:=d4J a (b+1) nf;unfold I64;omega⟩;rw[zmAt,e1,e2,zmx];congr 1
 by_cases h:a≤i∧i<b
 ·rw[if_pos h];have h1:ivF a (b+1) nt=1:=by unfold ivF;rw[if_pos];omega
  have h2:ivF a (b+1) nf=1:=by unfold ivF;rw[if_pos];omega
  rw[h1,h2];rfl
 ·rw[if_neg h];have h0:ivF a (b+1) nt=0∨ivF a (b+1) nf=0:=by
   unfold ivF;by_cases g:a≤nt∧nt<b+1
   ·right;rw[if_neg];omega
   ·left;rw[if_neg g]
  rcases h0 with h0 | h0 <;> rw[h0] <;> simp
theorem T2_ {q:Qv} (h:isL q=true):isQ q=true∧isZ q=true:=by
 rcases hz:isZ q with _ | _
 ·rw[T1_ hz]at h;cases h
 ·exact⟨(u9_ hz).1,rfl⟩
theorem I8_ (p a b:Int) (u:Value) (q:Qv) (w0:World) (hp:I64 p) (hu:QvR w0 w0.heap.size u q) (ha:I64 a) (hb:I64 b) (hno:ziOk (isL q) p q a b=false) :
  Calls Tryz.prog 23 #[.int .i64 p,u,.int .i64 a,.int .i64 b] w0 fun e w'=>∃ r,e = .returned (.tuple #[r,.bool (ziP (isL q) p q a b).2])∧RpR w' w'.heap.size r (ziP (isL q) p q a b).1∧Below w0.heap.size w0 w':=by
 have hu':=hu;obtain⟨A,c,C,c',rfl,hf,ht,hr,lf,lt⟩:=hu.open_;clear hu hf ht;obtain⟨W,hW,g0,kq,kR⟩:=b_4 w0 #[.int .i64 q.v,.slice A q.f.length c,.slice C q.t.length c'] 26 #[.int .i64 0,.int .i64 0,.slice none 0 0,.slice none 0 0,.slice none 0 0,.slice none 0 0] 29;have sz:W.heap.size=w0.heap.size+1+1:=by rw[hW];simp
 have SZ:=h_ sz;have hq:=QvR.next g0 hu';clear sz hu';rw[b3x hno];simp only[ziOk]at hno;rcases h1:c8_ p with _ | _
 ·have H1:=h_ h1;clear h1 hno;obtain⟨c0,c1,c2⟩:=c_3 kq;go_enter Tryz.func23,Tryz.ntmps23
  go_wp2_with fail
  rw[←hW];clear hW;refine (b6_ _ _).mono ?_;rintro e w1' ⟨rfl,rfl⟩;rw[H1.out];have KR:=h_ kR;have G0:=h_ g0;clear kR g0;have kR:=KR.out;have fr:=kR.frozen;obtain⟨s0,s1,s2,s3,s4,s5⟩:=c_6 kR;clear kR;go_wp2;have sz:=SZ.out;have g1:=G0.out;refine bodyPost_ret (v:=.tuple #[.agg #[.int .i64 0,.int .i64 0,.slice none 0 0,.slice none 0 0,.slice none 0 0,.slice none 0 0],.bool false]) (by simp[results,go_sem,s0,s1,s2,s3,s4,s5]) rfl ⟨_,rfl,(RepO.zero _ 0 0).rd,(((((g1.setCell (by simp) _).setCell (by simp) _).setCell (by simp) _).setCell (by simp) _).setCell (by simp) _).setCell (by simp) _⟩
 rcases h2:isL q with _ | _
 ·have H1:=h_ h1;have H2:=h_ h2;clear h1 h2 hno;obtain⟨c0,c1,c2⟩:=c_3 kq;go_enter Tryz.func23,Tryz.ntmps23
  go_wp2_with fail
  rw[←hW];clear hW;refine (b6_ _ _).mono ?_;rintro e w1' ⟨rfl,rfl⟩;rw[H1.out];go_wp2_with fail
  refine (g2_ _ _ _ hq).mono ?_;rintro e w1 ⟨rfl,hb1⟩;rw[H2.out];replace hq:=QvR.next hb1 hq;replace g0:=b0_ g0 hb1;replace kq:=kq.call hb1;replace kR:=kR.call hb1;have gW:=hb1;clear hb1 c0 c1 c2;obtain⟨c0,c1,c2⟩:=c_3 kq;have KR:=h_ kR;have G0:=h_ g0;clear kR g0;have kR:=KR.out;have fr:=kR.frozen;obtain⟨s0,s1,s2,s3,s4,s5⟩:=c_6 kR;clear kR;go_wp2;have sz:=SZ.out;have g1:=G0.out;refine bodyPost_ret (v:=.tuple #[.agg #[.int .i64 0,.int .i64 0,.slice none 0 0,.slice none 0 0,.slice none 0 0,.slice none 0 0],.bool false]) (by simp[results,go_sem,s0,s1,s2,s3,s4,s5]) rfl ⟨_,rfl,(RepO.zero _ 0 0).rd,(((((g1.setCell (by simp) _).setCell (by simp) _).setCell (by simp) _).setCell (by simp) _).setCell (by simp) _).setCell (by simp) _⟩
 have hqv:I64 q.v:=hr;have hv1:=(j2_.1 (by first | exact (u9_ h2).1 | exact (T2_ h2).1)).1;rcases h3:inR a 0 (q.v-1) with _ | _
 ·have H1:=h_ h1;have H2:=h_ h2;have H3:=h_ h3;clear h1 h2 h3 hno;obtain⟨c0,c1,c2⟩:=c_3 kq;go_enter Tryz.func23,Tryz.ntmps23
  go_wp2_with fail
  rw[←hW];clear hW;refine (b6_ _ _).mono ?_;rintro e w1' ⟨rfl,rfl⟩;rw[H1.out];go_wp2_with fail
  refine (g2_ _ _ _ hq).mono ?_;rintro e w1 ⟨rfl,hb1⟩;rw[H2.out];replace hq:=QvR.next hb1 hq;replace g0:=b0_ g0 hb1;replace kq:=kq.call hb1;replace kR:=kR.call hb1;have gW:=hb1;clear hb1 c0 c1 c2;obtain⟨c0,c1,c2⟩:=c_3 kq;go_wp2_with fail
  refine (d4_ _ _ _ _).mono ?_;rintro e w2' ⟨rfl,hww⟩;replace hww:=hww.symm;subst hww;rw[H3.out];have KR:=h_ kR;have G0:=h_ g0;clear kR g0;have kR:=KR.out;have fr:=kR.frozen;obtain⟨s0,s1,s2,s3,s4,s5⟩:=c_6 kR;clear kR;go_wp2;have sz:=SZ.out;have g1:=G0.out;refine bodyPost_ret (v:=.tuple #[.agg #[.int .i64 0,.int .i64 0,.slice none 0 0,.slice none 0 0,.slice none 0 0,.slice none 0 0],.bool false]) (by simp[results,go_sem,s0,s1,s2,s3,s4,s5]) rfl ⟨_,rfl,(RepO.zero _ 0 0).rd,(((((g1.setCell (by simp) _).setCell (by simp) _).setCell (by simp) _).setCell (by simp) _).setCell (by simp) _).setCell (by simp) _⟩
 rcases h4:inR b a (q.v-1) with _ | _
 ·have H1:=h_ h1;have H2:=h_ h2;have H3:=h_ h3;have H4:=h_ h4;clear h1 h2 h3 h4 hno;obtain⟨c0,c1,c2⟩:=c_3 kq;go_enter Tryz.func23,Tryz.ntmps23
  go_wp2_with fail
  rw[←hW];clear hW;refine (b6_ _ _).mono ?_;rintro e w1' ⟨rfl,rfl⟩;rw[H1.out];go_wp2_with fail
  refine (g2_ _ _ _ hq).mono ?_;rintro e w1 ⟨rfl,hb1⟩;rw[H2.out];replace hq:=QvR.next hb1 hq;replace g0:=b0_ g0 hb1;replace kq:=kq.call hb1;replace kR:=kR.call hb1;have gW:=hb1;clear hb1 c0 c1 c2;obtain⟨c0,c1,c2⟩:=c_3 kq;go_wp2_with fail
  refine (d4_ _ _ _ _).mono ?_;rintro e w2' ⟨rfl,hww⟩;replace hww:=hww.symm;subst hww;rw[H3.out];go_wp2_with fail
  refine (d4_ _ _ _ _).mono ?_;rintro e w2' ⟨rfl,hww⟩;replace hww:=hww.symm;subst hww;rw[H4.out];have KR:=h_ kR;have G0:=h_ g0;clear kR g0;have kR:=KR.out;have fr:=kR.frozen;obtain⟨s0,s1,s2,s3,s4,s5⟩:=c_6 kR;clear kR;go_wp2;have sz:=SZ.out;have g1:=G0.out;refine bodyPost_ret (v:=.tuple #[.agg #[.int .i64 0,.int .i64 0,.slice none 0 0,.slice none 0 0,.slice none 0 0,.slice none 0 0],.bool false]) (by simp[results,go_sem,s0,s1,s2,s3,s4,s5]) rfl ⟨_,rfl,(RepO.zero _ 0 0).rd,(((((g1.setCell (by simp) _).setCell (by simp) _).setCell (by simp) _).setCell (by simp) _).setCell (by simp) _).setCell (by simp) _⟩
 rw[h1,h2,h3,h4]at hno;exact absurd hno (by decide)
theorem z5_ (p a b:Int) (u:Value) (q:Qv) (w0:World) (hp:I64 p) (hu:QvR w0 w0.heap.size u q) (ha:I64 a) (hb:I64 b) (hno:ziOk (isZ q) p q a b=false) :
  Calls Tryz.prog 66 #[.int .i64 p,u,.int .i64 a,.int .i64 b] w0 fun e w'=>∃ r,e = .returned (.tuple #[r,.bool (ziP (isZ q) p q a b).2])∧RepO w' w0.heap.size w'.heap.size r (ziP (isZ q) p q a b).1∧Below w0.heap.size w0 w':=by
 have hu':=hu;obtain⟨A,c,C,c',rfl,hf,ht,hr,lf,lt⟩:=hu.open_;clear hu hf ht;obtain⟨W,hW,g0,kq,kR⟩:=b_4 w0 #[.int .i64 q.v,.slice A q.f.length c,.slice C q.t.length c'] 26 #[.int .i64 0,.int .i64 0,.slice none 0 0,.slice none 0 0,.slice none 0 0,.slice none 0 0] 29;have sz:W.heap.size=w0.heap.size+1+1:=by rw[hW];simp
 have SZ:=h_ sz;have hq:=QvR.next g0 hu';clear sz hu';rw[b3x hno];simp only[ziOk]at hno;rcases h1:c8_ p with _ | _
 ·have H1:=h_ h1;clear h1 hno;obtain⟨c0,c1,c2⟩:=c_3 kq;go_enter Tryz.func66,Tryz.ntmps66
  go_wp2_with fail
  rw[←hW];clear hW;refine (b5_ _ _).mono ?_;rintro e w1' ⟨rfl,rfl⟩;rw[H1.out];have KR:=h_ kR;have G0:=h_ g0;clear kR g0;have kR:=KR.out;have fr:=kR.frozen;obtain⟨s0,s1,s2,s3,s4,s5⟩:=c_6 kR;clear kR;go_wp2;have sz:=SZ.out;have g1:=G0.out;refine bodyPost_ret (v:=.tuple #[.agg #[.int .i64 0,.int .i64 0,.slice none 0 0,.slice none 0 0,.slice none 0 0,.slice none 0 0],.bool false]) (by simp[results,go_sem,s0,s1,s2,s3,s4,s5]) rfl ⟨_,rfl,RepO.zero _ _ _,(((((g1.setCell (by simp) _).setCell (by simp) _).setCell (by simp) _).setCell (by simp) _).setCell (by simp) _).setCell (by simp) _⟩
 rcases h2:isZ q with _ | _
 ·have H1:=h_ h1;have H2:=h_ h2;clear h1 h2 hno;obtain⟨c0,c1,c2⟩:=c_3 kq;go_enter Tryz.func66,Tryz.ntmps66
  go_wp2_with fail
  rw[←hW];clear hW;refine (b5_ _ _).mono ?_;rintro e w1' ⟨rfl,rfl⟩;rw[H1.out];go_wp2_with fail
  refine (f2_ _ _ _ hq).mono ?_;rintro e w1 ⟨rfl,hb1⟩;rw[H2.out];replace hq:=QvR.next hb1 hq;replace g0:=b0_ g0 hb1;replace kq:=kq.call hb1;replace kR:=kR.call hb1;have gW:=hb1;clear hb1 c0 c1 c2;obtain⟨c0,c1,c2⟩:=c_3 kq;have KR:=h_ kR;have G0:=h_ g0;clear kR g0;have kR:=KR.out;have fr:=kR.frozen;obtain⟨s0,s1,s2,s3,s4,s5⟩:=c_6 kR;clear kR;go_wp2;have sz:=SZ.out;have g1:=G0.out;refine bodyPost_ret (v:=.tuple #[.agg #[.int .i64 0,.int .i64 0,.slice none 0 0,.slice none 0 0,.slice none 0 0,.slice none 0 0],.bool false]) (by simp[results,go_sem,s0,s1,s2,s3,s4,s5]) rfl ⟨_,rfl,RepO.zero _ _ _,(((((g1.setCell (by simp) _).setCell (by simp) _).setCell (by simp) _).setCell (by simp) _).setCell (by simp) _).setCell (by simp) _⟩
 have hqv:I64 q.v:=hr;have hv1:=(j2_.1 (by first | exact (u9_ h2).1 | exact (T2_ h2).1)).1;rcases h3:inR a 0 (q.v-1) with _ | _
 ·have H1:=h_ h1;have H2:=h_ h2;have H3:=h_ h3;clear h1 h2 h3 hno;obtain⟨c0,c1,c2⟩:=c_3 kq;go_enter Tryz.func66,Tryz.ntmps66
  go_wp2_with fail
  rw[←hW];clear hW;refine (b5_ _ _).mono ?_;rintro e w1' ⟨rfl,rfl⟩;rw[H1.out];go_wp2_with fail
  refine (f2_ _ _ _ hq).mono ?_;rintro e w1 ⟨rfl,hb1⟩;rw[H2.out];replace hq:=QvR.next hb1 hq;replace g0:=b0_ g0 hb1;replace kq:=kq.call hb1;replace kR:=kR.call hb1;have gW:=hb1;clear hb1 c0 c1 c2;obtain⟨c0,c1,c2⟩:=c_3 kq;go_wp2_with fail
  refine (b7_ _ _ _ _).mono ?_;rintro e w2' ⟨rfl,hww⟩;replace hww:=hww.symm;subst hww;rw[H3.out];have KR:=h_ kR;have G0:=h_ g0;clear kR g0;have kR:=KR.out;have fr:=kR.frozen;obtain⟨s0,s1,s2,s3,s4,s5⟩:=c_6 kR;clear kR;go_wp2;have sz:=SZ.out;have g1:=G0.out;refine bodyPost_ret (v:=.tuple #[.agg #[.int .i64 0,.int .i64 0,.slice none 0 0,.slice none 0 0,.slice none 0 0,.slice none 0 0],.bool false]) (by simp[results,go_sem,s0,s1,s2,s3,s4,s5]) rfl ⟨_,rfl,RepO.zero _ _ _,(((((g1.setCell (by simp) _).setCell (by simp) _).setCell (by simp) _).setCell (by simp) _).setCell (by simp) _).setCell (by simp) _⟩
 rcases h4:inR b a (q.v-1) with _ | _
 ·have H1:=h_ h1;have H2:=h_ h2;have H3:=h_ h3;have H4:=h_ h4;clear h1 h2 h3 h4 hno;obtain⟨c0,c1,c2⟩:=c_3 kq;go_enter Tryz.func66,Tryz.ntmps66
  go_wp2_with fail
  rw[←hW];clear hW;refine (b5_ _ _).mono ?_;rintro e w1' ⟨rfl,rfl⟩;rw[H1.out];go_wp2_with fail
  refine (f2_ _ _ _ hq).mono ?_;rintro e w1 ⟨rfl,hb1⟩;rw[H2.out];replace hq:=QvR.next hb1 hq;replace g0:=b0_ g0 hb1;replace kq:=kq.call hb1;replace kR:=kR.call hb1;have gW:=hb1;clear hb1 c0 c1 c2;obtain⟨c0,c1,c2⟩:=c_3 kq;go_wp2_with fail
  refine (b7_ _ _ _ _).mono ?_;rintro e w2' ⟨rfl,hww⟩;replace hww:=hww.symm;subst hww;rw[H3.out];go_wp2_with fail
  refine (b7_ _ _ _ _).mono ?_;rintro e w2' ⟨rfl,hww⟩;replace hww:=hww.symm;subst hww;rw[H4.out];have KR:=h_ kR;have G0:=h_ g0;clear kR g0;have kR:=KR.out;have fr:=kR.frozen;obtain⟨s0,s1,s2,s3,s4,s5⟩:=c_6 kR;clear kR;go_wp2;have sz:=SZ.out;have g1:=G0.out;refine bodyPost_ret (v:=.tuple #[.agg #[.int .i64 0,.int .i64 0,.slice none 0 0,.slice none 0 0,.slice none 0 0,.slice none 0 0],.bool false]) (by simp[results,go_sem,s0,s1,s2,s3,s4,s5]) rfl ⟨_,rfl,RepO.zero _ _ _,(((((g1.setCell (by simp) _).setCell (by simp) _).setCell (by simp) _).setCell (by simp) _).setCell (by simp) _).setCell (by simp) _⟩
 rw[h1,h2,h3,h4]at hno;exact absurd hno (by decide)
def ziF (q:Qv) (d:List Int) (a k i:Nat):Mx:=if a≤i∧i<k then b5X (zmAt q d i) else zmAt q d i
theorem g4J {q:Qv} (hz:isZ q=true) {V a b k:Nat} (hV:q.v=V):∀ m∈msF q.f.length (ziF q (rowF V (ivF a (b+1))) a k),I64 m.r∧I64 m.c:=by
 intro m hm;obtain⟨i,hi,rfl⟩:=a3J hm;obtain⟨r,c,e,h1,h2⟩:=a1z hz (a:=a) (b:=b) hV hi;unfold ziF;rw[e];split <;> exact⟨h1,h2⟩
theorem d9Z {q:Qv} {D:List Int} {a k:Nat} {r c:Int} (e:zmAt q D k=⟨r,c,[0]⟩) (h:a≤k):(msF q.f.length (ziF q D a k)).set k ⟨r,c,[1]⟩=msF q.f.length (ziF q D a (k+1)):=by
 rw[a3Q];apply j7_
 intro i _;by_cases hi:i=k
 ·subst hi;rw[if_pos rfl,ziF,if_pos ⟨h,by omega⟩,e];rfl
 ·rw[if_neg hi];unfold ziF;by_cases h2:a≤i∧i<k
  ·rw[if_pos h2,if_pos (by omega)]
  ·rw[if_neg h2,if_neg (by omega)]
theorem g4Q {q:Qv} (hz:isZ q=true) {V a b:Nat} (hV:q.v=V):msF q.f.length (ziF q (rowF V (ivF a (b+1))) a b)=msF q.f.length fun i=>b5X (zmAt q (rowF V (ivF a (b+1))) i):=by
 apply j7_
 intro i hi;obtain⟨r,c,e,_⟩:=a1z hz (a:=a) (b:=b) hV hi;unfold ziF;by_cases h2:a≤i∧i<b
 ·rw[if_pos h2]
 ·rw[if_neg h2,e,if_neg h2];rfl
theorem i7j (q:Qv) (D:List Int) (a n:Nat):msF n (ziF q D a a)=msF n (zmAt q D):=by
 apply j7_
 intro i _;unfold ziF;rw[if_neg (by omega)]
theorem i3z {q:Qv} (hz:isZ q=true) {V a b k:Nat} (hV:q.v=V) (h1:a≤k) (h2:k<b) (hk:k<q.f.length):∃ r c:Int,zmAt q (rowF V (ivF a (b+1))) k=⟨r,c,[0]⟩∧(msF q.f.length (ziF q (rowF V (ivF a (b+1))) a k))[k]?=some ⟨r,c,[0]⟩:=by
 obtain⟨r,c,e,_⟩:=a1z hz (a:=a) (b:=b) hV hk;rw[if_pos ⟨h1,h2⟩]at e;exact⟨r,c,e,by rw[s3_ _ hk,ziF,if_neg (by omega),e]⟩
theorem u8_ (p a b:Int) (u:Value) (q:Qv) (w0:World) (hp:I64 p) (hu:QvR w0 w0.heap.size u q) (ha:I64 a) (hb:I64 b) (hyes:ziOk (isL q) p q a b=true) :
  Calls Tryz.prog 23 #[.int .i64 p,u,.int .i64 a,.int .i64 b] w0 fun e w'=>∃ r,e = .returned (.tuple #[r,.bool (ziP (isL q) p q a b).2])∧RepI w' w0.heap.size w'.heap.size r (ziP (isL q) p q a b).1∧Below w0.heap.size w0 w':=by
 have hu':=hu;obtain⟨A,c,C,c',rfl,hf,ht,hr,lf,lt⟩:=hu.open_;clear hu hf ht;obtain⟨W,hW,g0,kq,kR⟩:=b_4 w0 #[.int .i64 q.v,.slice A q.f.length c,.slice C q.t.length c'] 26 #[.int .i64 0,.int .i64 0,.slice none 0 0,.slice none 0 0,.slice none 0 0,.slice none 0 0] 29;have sz:W.heap.size=w0.heap.size+1+1:=by rw[hW];simp
 have SZ:=h_ sz;have hq:=QvR.next g0 hu';clear sz hu';have HF:=h_ (V5_ hyes);simp only[ziOk,l9_]at hyes;obtain⟨h1,h2,h3,h4⟩:=hyes;have hz:isZ q=true:=by first | exact h2 | exact (T2_ h2).2
 obtain⟨n1,n2⟩:=j1_.1 h3;obtain⟨n3,n4⟩:=j1_.1 h4;have hv1:=(j2_.1 (u9_ hz).1).1;have hlf:=(u9_ hz).2.1;obtain⟨a,rfl⟩:=Int.eq_ofNat_of_zero_le n1;obtain⟨b,rfl⟩:=Int.eq_ofNat_of_zero_le (show 0≤b by omega);obtain⟨V,hV⟩:=Int.eq_ofNat_of_zero_le (show 0≤q.v by omega);have hqv:I64 q.v:=hr;obtain⟨i0,hi,hz0,hz1,hz2⟩:=info_parts u1_;have hmk:=C3_ (P:=Tryz.prog) Tryz.underlying24 hi hz0 (n:=V) (by rw[hz2];omega) (by omega);rw[hz1,Nat.mul_one,←show q.v=(V:Int) from hV]at hmk;clear hi hz0 hz1 hz2;have H1:=h_ h1;have H2:=h_ h2;have H3:=h_ h3;have H4:=h_ h4;have HV:=h_ hV;have HZ:=h_ hz;have HLF:=h_ hlf;clear h1 h2 h3 h4 hV hz hlf;obtain⟨c0,c1,c2⟩:=c_3 kq;go_enter Tryz.func23,Tryz.ntmps23
 go_wp2_with fail
 rw[←hW];clear hW;refine (b6_ _ _).mono ?_;rintro e w1' ⟨rfl,rfl⟩;rw[H1.out];go_wp2_with fail
 refine (g2_ _ _ _ hq).mono ?_;rintro e w1 ⟨rfl,hb1⟩;rw[H2.out];replace hq:=QvR.next hb1 hq;replace g0:=b0_ g0 hb1;replace kq:=kq.call hb1;replace kR:=kR.call hb1;have gW:=hb1;clear hb1 c0 c1 c2;obtain⟨c0,c1,c2⟩:=c_3 kq;go_wp2_with fail
 refine (d4_ _ _ _ _).mono ?_;rintro e w2' ⟨rfl,hww⟩;replace hww:=hww.symm;subst hww;rw[H3.out];go_wp2_with fail
 refine (d4_ _ _ _ _).mono ?_;rintro e w2' ⟨rfl,hww⟩;replace hww:=hww.symm;subst hww;rw[H4.out];obtain⟨W4,hW4⟩:∃ u,u=w1.alloc (.cells (f4_ (.int .i64 0) V) 3):=⟨_,rfl⟩;have b4:Below w1.heap.size w1 W4:=by rw[hW4];exact a0_ _ _
 have oD:a8_ W4 w1.heap.size W4.heap.size (.slice (some ⟨w1.heap.size,0,none⟩) V V) (rowF V (ivF a a)):=by
  have:=OwnI.made0 (w:=w1) (base:=w1.heap.size) (N:=V) (l_ _) (by have:=HV.out;omega);rw[←hW4,g8z V a]at this;exact a8_.of_own this
 have s4:=b4.size;have KQ:=h_ kq;have HQ:=h_ hq;have B4:=h_ b4;have G0:=h_ g0;have GW:=h_ gW;have KR:=h_ kR;clear b4 kq hq gW g0 kR;go_wp2;rw[←hW4];clear hW4 c0 c1 c2 hmk;go_loopw [11] (fun i wr=>∃ k:Nat,a≤k∧k≤b+1∧i = .int .i64 k∧a8_ wr w1.heap.size W4.heap.size (.slice (some ⟨w1.heap.size,0,none⟩) V V) (rowF V (ivF a k))∧Chg w1.heap.size (w1.heap.size+1) W4 wr) (fun i _=>b+1-(intOf i).toNat)
 case atStart=>exact⟨a,l_ _,by omega,rfl,oD,Chg.refl _ _ _⟩
 case round =>
  clear oD;obtain⟨k,hak,hk,rfl,oD,hch⟩:=hrel;have hVV:=HV.out;by_cases hlt:k<b+1
  ·have hkV:k<V:=by omega
   have hst:=a8X hkV hak;have hc:=(oD.1.cellG (j:=k) (by rw[a2_];exact hkV)).1;have fr:=oD.1.frozenG k;have hp1:=oD.1.put (j:=k) (x:=1) (by unfold I64;omega);rw[hst]at hp1;have HP1:=h_ hp1;clear hst hp1 hVV;go_wp2;go_roundw
   case rel=>exact⟨k+1,by omega,by omega,by go_num,⟨HP1.out.1,oD.2⟩,hch.trans (a5_ (by simp) (by simp))⟩
   case measure=>simp[intOf];omega
  ·have hkb:k=b+1:=by omega
   rw[hkb]at oD;obtain⟨kz,hkz⟩:∃ u,u=k:=⟨_,rfl⟩;subst hkz;have hdz:decide (kz≤b)=false:=decide_eq_false (by omega);clear hkb;obtain⟨wa,hwa⟩:∃ u,u=wr:=⟨_,rfl⟩;subst hwa;have gX:Below w1.heap.size w1 wa:=B4.out.trans (hch.below (l_ _) (by omega));have kq:=KQ.out.call gX;have hq:=QvR.next gX HQ.out;obtain⟨c0,c1,c2⟩:=c_3 kq;have hdm:=J7_ (u9_ HZ.out).1 HV.out a (b+1);have HDM:=h_ hdm;have HQX:=h_ hq;have OD:=h_ oD.rd;have sX:=hch.size;clear hq oD hch hdm hVV kq;go_wp2_with fail
   refine (Q4_ p _ _ q _ wa hp HQX.out OD.out HDM.out).mono ?_;rintro e w5 ⟨v,rfl,⟨f,t,d,m,vs,mi,rfl,i1,i2,i3,hO,hvl,hFm,hmi,hpq,hrc⟩,hb5⟩;simp only[zRep,g5j,b2_]at i1 i2 i3 hO hvl hFm hpq hrc⊢;obtain⟨fA,fc,ef⟩:=i1.form;obtain⟨tA,tc,et⟩:=i2.form;obtain⟨dA,dc,ed⟩:=i3.form;subst ef et ed;have hlD:=a2_ V (ivF a (b+1));rw[hlD]at i3⊢;obtain⟨D,hD⟩:=e_ (rowF V (ivF a (b+1)));rw[hD]at i3 hO hFm;obtain⟨mA,mc,em,lm1,lm2⟩:=RowO.form hO;subst em;simp only[b2_]at hO lm1⊢;obtain⟨W6,hW6,b6,k6⟩:=b_3 w5 #[.int .i64 p,.int .i64 q.v,.slice fA q.f.length fc,.slice tA q.t.length tc,.slice dA V dc,.slice mA q.f.length mc] 29;have s5:=hb5.size;have s6:=k6.lt;have hrcF:(msF q.f.length (ziF q D a a))=msF q.f.length (zmAt q D):=i7j q D a _;have hO6:OutM W6 wa.heap.size w5.heap.size (.slice mA q.f.length mc) vs (msF q.f.length (ziF q D a a)):=by
    rw[hrcF];exact RowO.below hO b6
   have hF6:Fam W6 mi w5.heap.size ([] ++ vs.zip ((msF q.f.length (ziF q D a a)).map Mx.a)):=by
    rw[hrcF];exact hFm.below b6
   have I1:=h_ (i1.below b6);have I2:=h_ (i2.below b6);have I3:=h_ (i3.below b6);have HVL:=h_ hvl;have HD:=h_ hD;have HB5:=h_ (b0_ hb5 b6);have GX:=h_ gX;have HRC:=h_ hrc;clear i1 i2 i3 hvl hD hlD hrcF hO hFm hb5 b6 gX hrc c0 c1 c2;go_wp2;rw[←hW6];clear hW6;go_loopw [13] (fun i wr=>∃ k:Nat,a≤k∧k≤b∧i = .int .i64 k∧OutM wr wa.heap.size w5.heap.size (.slice mA q.f.length mc) vs (msF q.f.length (ziF q D a k))∧Fam wr mi w5.heap.size ([] ++ vs.zip ((msF q.f.length (ziF q D a k)).map Mx.a))∧Chg mi w5.heap.size W6 wr) (fun i _=>b-(intOf i).toNat)
   case atStart=>exact⟨a,l_ _,by omega,rfl,hO6,hF6,Chg.refl _ _ _⟩
   case round =>
    clear hO6 hF6;obtain⟨k,hak,hk,rfl,hO,hFm,hch⟩:=hrel;have k7:=k6.chg hch (.inr (l_ _));by_cases hlt:k<b
    ·have hkl:k<q.f.length:=by have:=HLF.out;have:=HV.out;omega
     obtain⟨r,c,ez,em⟩:=i3z HZ.out HV.out hak hlt hkl;rw[HD.out]at ez em;obtain⟨gm,cm,g,cg,e1,hgm,hvk,y0,y1,y2,oM,hgb,lg1,lg2,lg3,lg4⟩:=OutM.at_ hO (by rw[HVL.out,b2_]) hFm em (by simp);rw[b2_]at e1;injection e1 with e11 e12 e13
     subst e11 e13;have hput:=a9X (i:=0) (x:=1) hO hFm hvk em oM (by unfold I64;omega);simp only[List.set_cons_zero,d9Z ez hak]at hput;have x0:=(oM.cellG (j:=0) (by simp)).1;have fr:=oM.frozenG 0;have c5:=k7.cell' (i:=5) rfl;simp only[List.length_cons,List.length_nil]at y2 lg1 x0 fr hvk oM;have HP:=h_ hput;clear hput em ez hvk oM hO hFm y0 y1 k7;go_wp2;go_roundw
     case rel=>exact⟨k+1,by omega,by omega,by go_num,HP.out.1,HP.out.2,hch.trans (a5_ (by simp;omega) (by simp;omega))⟩
     case measure=>simp[intOf];omega
    ·obtain rfl:k=b:=by omega
     have gX:=GX.out;have gXs:=gX.size;have gB:=HB5.out;have gAll:Below w1.heap.size w1 wr:=(gX.trans (gB.mono gXs)).trans (hch.below (by omega) (by omega));have kR:=KR.out.call gAll;have sz:=SZ.out;have g0s:=(G0.out).size;have gws:=(GW.out).size;have hch6:=chg6 wr (w0.heap.size+1) (.int .i64 p) (.int .i64 q.v) (.slice fA q.f.length fc) (.slice tA q.t.length tc) (.slice dA V dc) (.slice mA q.f.length mc);have sy:=hch.size;have hmI:=g4J HZ.out (a:=a) (b:=k) (k:=k) HV.out;rw[HD.out]at hmI;have hend:=g4Q HZ.out (a:=a) (b:=k) HV.out;rw[HD.out]at hend;have hDr:(r0_ p q a k).d=D:=by rw[←HD.out];simp only[r0_,HV.out];rfl
     have hMr:(r0_ p q a k).m=msF q.f.length (ziF q D a k):=by rw[hend,←HD.out];simp only[r0_,HV.out];rfl
     have hI:RepI wr wa.heap.size wr.heap.size (.agg #[.int .i64 p,.int .i64 q.v,.slice fA q.f.length fc,.slice tA q.t.length tc,.slice dA V dc,.slice mA q.f.length mc]) (r0_ p q a k):=by
      refine⟨_,_,_,_,vs,mi,rfl,(I1.out.chg hch (.inl (l_ _))),(I2.out.chg hch (.inl (l_ _))),?_,?_,?_,?_,by omega,hpq,?_⟩
      ·rw[hDr];exact I3.out.chg hch (.inl (l_ _))
      ·rw[hMr];exact RowO.mono hO (l_ _) (by omega)
      ·rw[hMr,HVL.out,b2_]
      ·rw[hMr];exact hFm.mono (l_ _) (by omega)
      ·rw[hMr];exact hmI
     have HI:=h_ ((hI.chg hch6 (.inr (by omega))).wider (lo':=w0.heap.size) (hi':=wr.heap.size) (by omega) (l_ _));have FG:=h_ ((G0.out.trans (gAll.mono g0s)).trans (hch6.below (by omega) (by omega)));obtain⟨c0,c1,c2,c3,c4,c5⟩:=c_6 k7;have fr:=kR.frozen;obtain⟨s0,s1,s2,s3,s4,s5⟩:=c_6 kR;clear gX gB gAll hch6 hmI hend hI hO hFm hch k7 kR g0s;go_wp2;have sz:=SZ.out;have hF:=HF.out;refine bodyPost_ret (v:=.tuple #[.agg #[.int .i64 p,.int .i64 q.v,.slice fA q.f.length fc,.slice tA q.t.length tc,.slice dA V dc,.slice mA q.f.length mc],.bool true]) (by simp[results,go_sem,s0,s1,s2,s3,s4,s5]) rfl ⟨_,by rw[hF],by rw[hF];exact HI.out.wider (l_ _) (by simp),FG.out⟩
theorem A6_ (p:Int) (u:Value) (q:Qv) (a b:Int) (w0:World) (hp:I64 p) (hu:QvR w0 w0.heap.size u q) (ha:I64 a) (hb:I64 b) :
  Calls Tryz.prog 23 #[.int .i64 p,u,.int .i64 a,.int .i64 b] w0 fun e w'=>∃ r,e = .returned (.tuple #[r,.bool (ziP (isL q) p q a b).2])∧RpR w' w'.heap.size r (ziP (isL q) p q a b).1∧Below w0.heap.size w0 w':=by
 rcases h:ziOk (isL q) p q a b with _ | _
 ·exact I8_ p a b u q w0 hp hu ha hb h
 ·exact (u8_ p a b u q w0 hp hu ha hb h).mono fun e w' ⟨r,h1,h2,h3⟩=>⟨r,h1,h2.rd,h3⟩
def zoF (q:Qv) (d:List Int) (k i:Nat):Mx:=if i<k then b5X (zmAt q d i) else zmAt q d i
theorem d0j {q:Qv} (hz:isZ q=true) {V a b k:Nat} (hV:q.v=V):∀ m∈msF q.f.length (zoF q (rowF V (ivF a (b+1))) k),I64 m.r∧I64 m.c:=by
 intro m hm;obtain⟨i,hi,rfl⟩:=a3J hm;obtain⟨r,c,e,h1,h2⟩:=a1z hz (a:=a) (b:=b) hV hi;unfold zoF;rw[e];split <;> exact⟨h1,h2⟩
theorem i7q (q:Qv) (D:List Int) (n:Nat):msF n (zoF q D 0)=msF n (zmAt q D):=by
 apply j7_
 intro i _;unfold zoF;rw[if_neg (by omega)]
theorem g5q (q:Qv) (D:List Int) (n:Nat):msF n (zoF q D n)=msF n fun i=>b5X (zmAt q D i):=by
 apply j7_
 intro i h;unfold zoF;rw[if_pos h]
theorem f0j {q:Qv} {D:List Int} {k:Nat} {r c:Int} (e:zmAt q D k=⟨r,c,[0]⟩):(msF q.f.length (zoF q D k)).set k ⟨r,c,[1]⟩=msF q.f.length (zoF q D (k+1)):=by
 rw[a3Q];apply j7_
 intro i _;by_cases hi:i=k
 ·subst hi;rw[if_pos rfl,zoF,if_pos (by omega),e];rfl
 ·rw[if_neg hi];unfold zoF;by_cases h2:i<k
  ·rw[if_pos h2,if_pos (by omega)]
  ·rw[if_neg h2,if_neg (by omega)]
theorem d9X {q:Qv} {D:List Int} {k:Nat} {r c:Int} (e:zmAt q D k=⟨r,c,[]⟩):msF q.f.length (zoF q D k)=msF q.f.length (zoF q D (k+1)):=by
 apply j7_
 intro i _;unfold zoF;by_cases hi:i=k
 ·subst hi;rw[if_neg (by omega),if_pos (by omega),e];rfl
 ·by_cases h2:i<k
  ·rw[if_pos h2,if_pos (by omega)]
  ·rw[if_neg h2,if_neg (by omega)]
theorem i3J {q:Qv} {D:List Int} {k:Nat} (hk:k<q.f.length):(msF q.f.length (zoF q D k))[k]?=some (zmAt q D k):=by
 rw[s3_ _ hk,zoF,if_neg (by omega)]
theorem z6_ (p a b:Int) (u:Value) (q:Qv) (w0:World) (hp:I64 p) (hu:QvR w0 w0.heap.size u q) (ha:I64 a) (hb:I64 b) (hyes:ziOk (isZ q) p q a b=true) :
  Calls Tryz.prog 66 #[.int .i64 p,u,.int .i64 a,.int .i64 b] w0 fun e w'=>∃ r,e = .returned (.tuple #[r,.bool (ziP (isZ q) p q a b).2])∧RepO w' w0.heap.size w'.heap.size r (ziP (isZ q) p q a b).1∧Below w0.heap.size w0 w':=by
 have hu':=hu;obtain⟨A,c,C,c',rfl,hf,ht,hr,lf,lt⟩:=hu.open_;clear hu hf ht;obtain⟨W,hW,g0,kq,kR⟩:=b_4 w0 #[.int .i64 q.v,.slice A q.f.length c,.slice C q.t.length c'] 26 #[.int .i64 0,.int .i64 0,.slice none 0 0,.slice none 0 0,.slice none 0 0,.slice none 0 0] 29;have sz:W.heap.size=w0.heap.size+1+1:=by rw[hW];simp
 have SZ:=h_ sz;have hq:=QvR.next g0 hu';clear sz hu';have HF:=h_ (V5_ hyes);simp only[ziOk,l9_]at hyes;obtain⟨h1,h2,h3,h4⟩:=hyes;have hz:isZ q=true:=by first | exact h2 | exact (T2_ h2).2
 obtain⟨n1,n2⟩:=j1_.1 h3;obtain⟨n3,n4⟩:=j1_.1 h4;have hv1:=(j2_.1 (u9_ hz).1).1;have hlf:=(u9_ hz).2.1;obtain⟨a,rfl⟩:=Int.eq_ofNat_of_zero_le n1;obtain⟨b,rfl⟩:=Int.eq_ofNat_of_zero_le (show 0≤b by omega);obtain⟨V,hV⟩:=Int.eq_ofNat_of_zero_le (show 0≤q.v by omega);have hqv:I64 q.v:=hr;obtain⟨i0,hi,hz0,hz1,hz2⟩:=info_parts u1_;have hmk:=C3_ (P:=Tryz.prog) Tryz.underlying24 hi hz0 (n:=V) (by rw[hz2];omega) (by omega);rw[hz1,Nat.mul_one,←show q.v=(V:Int) from hV]at hmk;clear hi hz0 hz1 hz2;have H1:=h_ h1;have H2:=h_ h2;have H3:=h_ h3;have H4:=h_ h4;have HV:=h_ hV;have HZ:=h_ hz;have HLF:=h_ hlf;clear h1 h2 h3 h4 hV hz hlf;obtain⟨c0,c1,c2⟩:=c_3 kq;go_enter Tryz.func66,Tryz.ntmps66
 go_wp2_with fail
 rw[←hW];clear hW;refine (b5_ _ _).mono ?_;rintro e w1' ⟨rfl,rfl⟩;rw[H1.out];go_wp2_with fail
 refine (f2_ _ _ _ hq).mono ?_;rintro e w1 ⟨rfl,hb1⟩;rw[H2.out];replace hq:=QvR.next hb1 hq;replace g0:=b0_ g0 hb1;replace kq:=kq.call hb1;replace kR:=kR.call hb1;have gW:=hb1;clear hb1 c0 c1 c2;obtain⟨c0,c1,c2⟩:=c_3 kq;go_wp2_with fail
 refine (b7_ _ _ _ _).mono ?_;rintro e w2' ⟨rfl,hww⟩;replace hww:=hww.symm;subst hww;rw[H3.out];go_wp2_with fail
 refine (b7_ _ _ _ _).mono ?_;rintro e w2' ⟨rfl,hww⟩;replace hww:=hww.symm;subst hww;rw[H4.out];obtain⟨W4,hW4⟩:∃ u,u=w1.alloc (.cells (f4_ (.int .i64 0) V) 3):=⟨_,rfl⟩;have b4:Below w1.heap.size w1 W4:=by rw[hW4];exact a0_ _ _
 have oD:a8_ W4 w1.heap.size W4.heap.size (.slice (some ⟨w1.heap.size,0,none⟩) V V) (rowF V (ivF a a)):=by
  have:=OwnI.made0 (w:=w1) (base:=w1.heap.size) (N:=V) (l_ _) (by have:=HV.out;omega);rw[←hW4,g8z V a]at this;exact a8_.of_own this
 have s4:=b4.size;have KQ:=h_ kq;have HQ:=h_ hq;have B4:=h_ b4;have G0:=h_ g0;have GW:=h_ gW;have KR:=h_ kR;clear b4 kq hq gW g0 kR;go_wp2;rw[←hW4];clear hW4 c0 c1 c2 hmk;go_loopw [11] (fun i wr=>∃ k:Nat,a≤k∧k≤b+1∧i = .int .i64 k∧a8_ wr w1.heap.size W4.heap.size (.slice (some ⟨w1.heap.size,0,none⟩) V V) (rowF V (ivF a k))∧Chg w1.heap.size (w1.heap.size+1) W4 wr) (fun i _=>b+1-(intOf i).toNat)
 case atStart=>exact⟨a,l_ _,by omega,rfl,oD,Chg.refl _ _ _⟩
 case round =>
  clear oD;obtain⟨k,hak,hk,rfl,oD,hch⟩:=hrel;have hVV:=HV.out;by_cases hlt:k<b+1
  ·have hkV:k<V:=by omega
   have hst:=a8X hkV hak;have hc:=(oD.1.cellG (j:=k) (by rw[a2_];exact hkV)).1;have fr:=oD.1.frozenG k;have hp1:=oD.1.put (j:=k) (x:=1) (by unfold I64;omega);rw[hst]at hp1;have HP1:=h_ hp1;clear hst hp1 hVV;go_wp2;go_roundw
   case rel=>exact⟨k+1,by omega,by omega,by go_num,⟨HP1.out.1,oD.2⟩,hch.trans (a5_ (by simp) (by simp))⟩
   case measure=>simp[intOf];omega
  ·have hkb:k=b+1:=by omega
   rw[hkb]at oD;obtain⟨kz,hkz⟩:∃ u,u=k:=⟨_,rfl⟩;subst hkz;have hdz:decide (kz≤b)=false:=decide_eq_false (by omega);clear hkb;obtain⟨wa,hwa⟩:∃ u,u=wr:=⟨_,rfl⟩;subst hwa;have gX:Below w1.heap.size w1 wa:=B4.out.trans (hch.below (l_ _) (by omega));have kq:=KQ.out.call gX;have hq:=QvR.next gX HQ.out;obtain⟨c0,c1,c2⟩:=c_3 kq;have hdm:=J7_ (u9_ HZ.out).1 HV.out a (b+1);have HDM:=h_ hdm;have HQX:=h_ hq;have OD:=h_ oD.rd;have sX:=hch.size;clear hq oD hch hdm hVV kq;go_wp2_with fail
   refine (N5_ p _ _ q _ wa hp HQX.out OD.out HDM.out).mono ?_;rintro e w5 ⟨v,rfl,⟨f,t,d,m,vs,rfl,hO,hvl,hFm,hpq,hrc⟩,hb5⟩;have i1:=hFm.1 (f,(zRep p q (rowF V (ivF a (b+1)))).q.f) (by simp);have i2:=hFm.1 (t,(zRep p q (rowF V (ivF a (b+1)))).q.t) (by simp);have i3:=hFm.1 (d,(zRep p q (rowF V (ivF a (b+1)))).d) (by simp);simp only[zRep,g5j,b2_]at i1 i2 i3 hO hvl hFm hpq hrc⊢;obtain⟨fA,fc,ef⟩:=i1.form;obtain⟨tA,tc,et⟩:=i2.form;obtain⟨dA,dc,ed⟩:=i3.form;subst ef et ed;clear i1 i2 i3;have hlD:=a2_ V (ivF a (b+1));rw[hlD]at hFm⊢;obtain⟨D,hD⟩:=e_ (rowF V (ivF a (b+1)));rw[hD]at hO hFm;obtain⟨mA,mc,em,lm1,lm2⟩:=RowO.form hO;subst em;simp only[b2_]at hO lm1⊢;obtain⟨W6,hW6,b6,k6⟩:=b_3 w5 #[.int .i64 p,.int .i64 q.v,.slice fA q.f.length fc,.slice tA q.t.length tc,.slice dA V dc,.slice mA q.f.length mc] 29;have s5:=hb5.size;have s6:=k6.lt;have hrcF:(msF q.f.length (zoF q D 0))=msF q.f.length (zmAt q D):=i7q q D _;have hO6:OutM W6 wa.heap.size w5.heap.size (.slice mA q.f.length mc) vs (msF q.f.length (zoF q D 0)):=by
    rw[hrcF];exact RowO.below hO b6
   have hF6:Fam W6 wa.heap.size w5.heap.size ([(.slice fA q.f.length fc,q.f),(.slice tA q.t.length tc,q.t),(.slice dA V dc,D)] ++ vs.zip ((msF q.f.length (zoF q D 0)).map Mx.a)):=by
    rw[hrcF];exact hFm.below b6
   have HVL:=h_ hvl;have HD:=h_ hD;have HB5:=h_ (b0_ hb5 b6);have GX:=h_ gX;have HRC:=h_ hrc;have c5:=k6.cell' (i:=5) rfl;clear hvl hD hlD hrcF hO hFm hb5 b6 gX hrc c0 c1 c2;rw[hW6]at c5;go_wp2;rw[←hW6];clear hW6 c5;go_loopw [61] (fun i wy=>∃ k:Nat,k≤q.f.length∧i = .int .i64 k∧OutM wy wa.heap.size w5.heap.size (.slice mA q.f.length mc) vs (msF q.f.length (zoF q D k))∧Fam wy wa.heap.size w5.heap.size ([(.slice fA q.f.length fc,q.f),(.slice tA q.t.length tc,q.t),(.slice dA V dc,D)] ++ vs.zip ((msF q.f.length (zoF q D k)).map Mx.a))∧Chg wa.heap.size w5.heap.size W6 wy) (fun i _=>q.f.length-(intOf i).toNat)
   case atStart=>exact⟨0,l0_ _,rfl,hO6,hF6,Chg.refl _ _ _⟩
   case round =>
    clear hO6 hF6;obtain⟨k,hk,rfl,hO,hFm,hch⟩:=hrel;have k7:=k6.chg hch (.inr (l_ _));have sy:=hch.size;by_cases hlt:k<q.f.length
    ·obtain⟨r,c,ez,hzr,hzc⟩:=a1z HZ.out (a:=a) (b:=b) HV.out hlt;have em:=i3J (D:=D) hlt;rw[HD.out]at ez;rw[ez]at em;by_cases hab:a≤k∧k<b
     ·rw[if_pos hab]at ez em;obtain⟨gm,cm,g,cg,e1,hgm,hvk,y0,y1,y2,oM,hgb,lg1,lg2,lg3,lg4⟩:=OutM.at_ hO (by rw[HVL.out,b2_]) hFm em (by simp);rw[b2_]at e1;injection e1 with e11 e12 e13
      subst e11 e13;simp only[List.length_cons,List.length_nil]at y2 lg1 hvk oM y0 y1;obtain⟨wk,hwk⟩:∃ u,u=wr:=⟨_,rfl⟩;subst hwk;obtain⟨W7,hW7,b7,k8⟩:=b_3 wk #[.int .i64 r,.int .i64 c,.slice (some ⟨g,0,none⟩) (0+1) cg] 65;have hO7:=RowO.below hO b7;have hF7:=hFm.below b7;have s7:=b7.size;have HCH:=h_ (hch.trans (Chg.of_below b7));have HVK:=h_ hvk;have EM:=h_ em;have EZ:=h_ ez;have c2:=k8.cell' (i:=2) rfl;rw[hW7]at c2;clear hO hFm hch b7 hvk em ez oM;go_wp2;rw[←hW7];clear hW7 y0 y1 y2 c2;go_loopw [68] (fun i wy=>∃ j:Nat,j≤1∧i = .int .i64 j∧OutM wy wa.heap.size w5.heap.size (.slice (some ⟨gm,0,none⟩) q.f.length mc) vs (msF q.f.length (zoF q D (k+j)))∧Fam wy wa.heap.size w5.heap.size ([(.slice fA q.f.length fc,q.f),(.slice tA q.t.length tc,q.t),(.slice dA V dc,D)] ++ vs.zip ((msF q.f.length (zoF q D (k+j))).map Mx.a))∧Chg wa.heap.size w5.heap.size W7 wy) (fun i _=>1-(intOf i).toNat)
      case atStart=>exact⟨0,by omega,rfl,hO7,hF7,Chg.refl _ _ _⟩
      case round =>
       clear hO7 hF7;obtain⟨j,hj,rfl,hO,hFm,hch⟩:=hrel;have k9:=k8.chg hch (.inr (by omega));have c2:=k9.cell' (i:=2) rfl;by_cases hj1:j<1
       ·obtain rfl:j=0:=by omega
        have em:=EM.out;obtain⟨gm2,cm2,g2,cg2,e1,hgm2,hvk,_,_,_,oM,hgb2,_,_,_,_⟩:=OutM.at_ hO (by rw[HVL.out,b2_]) hFm em (by simp);rw[HVK.out]at hvk;simp only[List.length_cons,List.length_nil]at hvk oM;injection hvk with hvk
        injection hvk with hvk1 hvk2 hvk3
        injection hvk1 with hvk1
        injection hvk1 with hvk1
        subst hvk1 hvk3;have hput:=a9X (i:=0) (x:=1) hO hFm HVK.out em oM (by unfold I64;omega);simp only[List.set_cons_zero,Nat.add_zero,f0j EZ.out]at hput;have x0:=(oM.cellG (j:=0) (by simp)).1;have fr:=oM.frozenG 0;have HP:=h_ hput;clear hput em e1 oM hO hFm k9;go_wp2;go_roundw
        case rel=>exact⟨1,by omega,rfl,HP.out.1,HP.out.2,hch.trans (a5_ (by simp;omega) (by simp;omega))⟩
        case measure=>simp[intOf]
       ·obtain rfl:j=1:=by omega
        clear c2;go_wp2;go_roundw
        case rel=>exact⟨k+1,by omega,by go_num,hO,hFm,(HCH.out).trans hch⟩
        case measure=>simp[intOf];omega
     ·rw[if_neg hab]at ez em;have hrd:=OutM.rd (ms:=msF q.f.length (zoF q D k)) hO (by rw[HVL.out,b2_]) (fun p hp=>(hFm.1 p (by simp[hp])).rd) (by have:=d0j HZ.out (a:=a) (b:=b) (k:=k) HV.out;rwa[HD.out]at this);obtain⟨gm,om,m',mA',mc',e1,hgm,HMM,y0,y1,y2,_,_,_,_⟩:=SlM.at_ (k:=k) (by rw[b2_];exact hrd) (by rw[b2_];exact hlt);have hmm:=HMM.out;rw[em]at hmm;injection hmm with hmm
      subst hmm;subst e1;have c5:=k7.cell' (i:=5) rfl;simp only[List.length_nil]at y2;have hsk:=d9X ez;rw[hsk]at hO hFm;obtain⟨W7,hW7,b7,k8⟩:=b_3 wr #[.int .i64 r,.int .i64 c,.slice mA' 0 mc'] 65;have c2:=k8.cell' (i:=2) rfl;rw[hW7]at c2;have HO7:=h_ (RowO.below hO b7);have HF7:=h_ (hFm.below b7);have HCH:=h_ (hch.trans (Chg.of_below b7));clear hO hFm hch b7 em ez hsk hrd k7 k8;go_wp2;rw[←hW7];rw[←hW7]at c2;clear hW7;refine wp_loop_rounds 1 ?_;rw[rounds_succ];go_wp2;go_roundw
      case rel=>exact⟨k+1,by omega,by go_num,HO7.out,HF7.out,HCH.out⟩
      case measure=>simp[intOf];omega
    ·obtain rfl:k=q.f.length:=by omega
     have gX:=GX.out;have gXs:=gX.size;have gB:=HB5.out;have gAll:Below w1.heap.size w1 wr:=(gX.trans (gB.mono gXs)).trans (hch.below (by omega) (by omega));have kR:=KR.out.call gAll;have sz:=SZ.out;have g0s:=(G0.out).size;have gws:=(GW.out).size;have hch6:=chg6 wr (w0.heap.size+1) (.int .i64 p) (.int .i64 q.v) (.slice fA q.f.length fc) (.slice tA q.t.length tc) (.slice dA V dc) (.slice mA q.f.length mc);have hmI:=d0j HZ.out (a:=a) (b:=b) (k:=q.f.length) HV.out;rw[HD.out]at hmI;have hend:=g5q q D q.f.length;have hDr:(r0_ p q a b).d=D:=by rw[←HD.out];simp only[r0_,HV.out];rfl
     have hMr:(r0_ p q a b).m=msF q.f.length (zoF q D q.f.length):=by rw[hend,←HD.out];simp only[r0_,HV.out];rfl
     have hI:RepO wr wa.heap.size wr.heap.size (.agg #[.int .i64 p,.int .i64 q.v,.slice fA q.f.length fc,.slice tA q.t.length tc,.slice dA V dc,.slice mA q.f.length mc]) (r0_ p q a b):=by
      refine⟨_,_,_,_,vs,rfl,?_,?_,?_,hpq,?_⟩
      ·rw[hMr];have:=RowO.mono hO (l_ _) (show w5.heap.size≤wr.heap.size by omega);rw[b2_]at this;rw[OutM,b2_];exact this
      ·rw[hMr,HVL.out,b2_]
      ·rw[hMr,hDr];exact hFm.mono (l_ _) (by omega)
      ·rw[hMr];exact hmI
     have HI:=h_ ((hI.chg hch6 (.inr (by omega))).wider (lo':=w0.heap.size) (by omega) (l_ _));have FG:=h_ ((G0.out.trans (gAll.mono g0s)).trans (hch6.below (by omega) (by omega)));obtain⟨c0,c1,c2,c3,c4,c5⟩:=c_6 k7;have fr:=kR.frozen;obtain⟨s0,s1,s2,s3,s4,s5⟩:=c_6 kR;clear gX gB gAll hch6 hmI hend hI hO hFm hch k7 kR g0s gws;go_wp2;have sz:=SZ.out;have hF:=HF.out;refine bodyPost_ret (v:=.tuple #[.agg #[.int .i64 p,.int .i64 q.v,.slice fA q.f.length fc,.slice tA q.t.length tc,.slice dA V dc,.slice mA q.f.length mc],.bool true]) (by simp[results,go_sem,s0,s1,s2,s3,s4,s5]) rfl ⟨_,by rw[hF],by rw[hF];exact RepO.wider HI.out (l_ _) (by simp),FG.out⟩
theorem n2_ (p:Int) (u:Value) (q:Qv) (a b:Int) (w0:World) (hp:I64 p) (hu:QvR w0 w0.heap.size u q) (ha:I64 a) (hb:I64 b) :
  Calls Tryz.prog 66 #[.int .i64 p,u,.int .i64 a,.int .i64 b] w0 fun e w'=>∃ r,e = .returned (.tuple #[r,.bool (ziP (isZ q) p q a b).2])∧RepO w' w0.heap.size w'.heap.size r (ziP (isZ q) p q a b).1∧Below w0.heap.size w0 w':=by
 rcases h:ziOk (isZ q) p q a b with _ | _
 ·exact z5_ p a b u q w0 hp hu ha hb h
 ·exact z6_ p a b u q w0 hp hu ha hb h
theorem z3_ (p:Int) (u:Value) (q:Qv) (a b:Int) (w0:World) (hp:I64 p) (hu:QvR w0 w0.heap.size u q) (ha:I64 a) (hb:I64 b) :
  Calls Tryz.prog 22 #[.int .i64 p,u,.int .i64 a,.int .i64 b] w0 fun e w'=>∃ r,e = .returned (.tuple #[r,.bool (ziP (isL q) p q a b).2])∧RepO w' w0.heap.size w'.heap.size r (ziP (isL q) p q a b).1∧Below w0.heap.size w0 w':=by
 have hu':=hu;obtain⟨A,c,C,c',rfl,hf,ht,hr,lf,lt⟩:=hu.open_;clear hu hf ht;obtain⟨W,hW,g0,kq,kR⟩:=b_4 w0 #[.int .i64 q.v,.slice A q.f.length c,.slice C q.t.length c'] 26 #[.int .i64 0,.int .i64 0,.slice none 0 0,.slice none 0 0,.slice none 0 0,.slice none 0 0] 29;have sz:W.heap.size=w0.heap.size+1+1:=by rw[hW];simp
 have SZ:=h_ sz;have hq:=QvR.next g0 hu';clear sz hu';rcases h2:isL q with _ | _
 ·rw[b3x (ok:=false) (by cases h:c8_ p <;> simp[ziOk,h])];have H2:=h_ h2;clear h2;obtain⟨c0,c1,c2⟩:=c_3 kq;go_enter Tryz.func22,Tryz.ntmps22
  go_wp2_with fail
  rw[←hW];clear hW;refine (g1_ _ _ _ hq).mono ?_;rintro e w1 ⟨rfl,hb1⟩;rw[H2.out];replace g0:=b0_ g0 hb1;replace kR:=kR.call hb1;clear hb1 c0 c1 c2 kq;have KR:=h_ kR;have G0:=h_ g0;clear kR g0;have kR:=KR.out;have fr:=kR.frozen;obtain⟨s0,s1,s2,s3,s4,s5⟩:=c_6 kR;clear kR;go_wp2;have sz:=SZ.out;have g1:=G0.out;refine bodyPost_ret (v:=.tuple #[.agg #[.int .i64 0,.int .i64 0,.slice none 0 0,.slice none 0 0,.slice none 0 0,.slice none 0 0],.bool false]) (by simp[results,go_sem,s0,s1,s2,s3,s4,s5]) rfl ⟨_,rfl,RepO.zero _ _ _,(((((g1.setCell (by simp) _).setCell (by simp) _).setCell (by simp) _).setCell (by simp) _).setCell (by simp) _).setCell (by simp) _⟩
 ·have hz:=(T2_ h2).2;have H2:=h_ h2;have hF:Hid (ziP true p q a b=ziP (isZ q) p q a b):=by show _=_;rw[hz]
  clear h2 hz;obtain⟨c0,c1,c2⟩:=c_3 kq;go_enter Tryz.func22,Tryz.ntmps22
  go_wp2_with fail
  rw[←hW];clear hW;refine (g1_ _ _ _ hq).mono ?_;rintro e w1 ⟨rfl,hb1⟩;rw[H2.out];have g1:=b0_ g0 hb1;have kR1:=kR.call hb1;have kq1:=kq.call hb1;have hq1:=QvR.next hb1 hq;clear c0 c1 c2 kq kR g0 hq;obtain⟨c0,c1,c2⟩:=c_3 kq1;go_wp2_with fail
  refine (n2_ p _ q a b _ hp hq1 ha hb).mono ?_;rintro e w2 ⟨r,rfl,ho,hb3⟩;generalize ziP (isZ q) p q a b=R at *;have kR2:=kR1.call hb3;have g2:=b0_ g1 hb3;have s3:=hb3.size;have s1:=g1.size;have sz:=SZ.out;have sb:=hb1.size;obtain⟨RA,ra,RC,rc,RE,re,RH,rh,er⟩:=ho.form;subst er;have fr:=kR2.frozen;obtain⟨p0,p1,p2,p3,p4,p5⟩:=c_6 kR2;have hc:=chg6 w2 (w0.heap.size+1) (.int .i64 R.1.p) (.int .i64 R.1.q.v) (.slice RA R.1.q.f.length ra) (.slice RC R.1.q.t.length rc) (.slice RE R.1.d.length re) (.slice RH R.1.m.length rh);have OF:=h_ (RepO.wider (ho.chg hc (.inr (by omega))) (lo':=w0.heap.size) (by omega) (hi':=w2.heap.size) (by omega));have GF:=h_ (g2.trans (hc.below (by omega) g2.size));clear ho hc g2 kR2 kR1 hb1 hb3 s1 s3 c0 c1 c2 kq1 hq1 g1 sz sb;go_wp2;exact bodyPost_ret (v:=.tuple #[.agg #[.int .i64 R.1.p,.int .i64 R.1.q.v,.slice RA R.1.q.f.length ra,.slice RC R.1.q.t.length rc,.slice RE R.1.d.length re,.slice RH R.1.m.length rh],.bool R.2]) (by simp[results,go_sem,p0,p1,p2,p3,p4,p5]) rfl ⟨_,by rw[hF.out],by rw[hF.out];exact RepO.wider OF.out (l_ _) (by simp),GF.out⟩
def colK (k:Nat) (f:Nat→Nat→Int) (j i:Nat):Int:=if i<j then f i k else 0
theorem g6j (r k:Nat) (f:Nat→Nat→Int):List.replicate r 0=rowF r (colK k f 0):=by
 apply List.ext_getElem?
 intro i;by_cases h:i<r
 ·rw[c0_ _ h];simp[h,colK]
 ·rw[l6_ (by simp;omega),l6_ (by rw[a2_];omega)]
theorem b8Z {r k j:Nat} (f:Nat→Nat→Int) (h:j<r):(rowF r (colK k f j)).set j (f j k)=rowF r (colK k f (j+1)):=by
 rw[o4_];refine d1_ fun i _=>?_
 simp only[colK]
 (repeat' split) <;> first | rfl | omega | (subst_vars;rfl)
theorem g6q (r k:Nat) (f:Nat→Nat→Int):rowF r (colK k f r)=rowF r (fun i=>f i k):=d1_ fun i h=>by simp[colK,h]
theorem b4j (u:Value) (r c k:Nat) (f:Nat→Nat→Int) (w0:World) (hu:MxR w0 w0.heap.size u (mxF r c f)) (hr:r≤1000) (hc:c≤1000) (hk:k<c) :
  Calls Tryz.prog 166 #[u,.int .i64 k] w0 fun e w'=>∃ v,e = .returned v∧a8_ w' w0.heap.size w'.heap.size v (rowF r (fun i=>f i k))∧Below w0.heap.size w0 w':=by
 obtain⟨A,cap,rfl,hs,i1,i2,hl⟩:=hu.open_;clear hu;simp only[mxF]at hs hl i1 i2⊢;obtain⟨W,hW⟩:∃ W,W=(w0.alloc (.cells #[.int .i64 r,.int .i64 c,.slice A (flat r c f).length cap] 65)).alloc (.cells (f4_ (.int .i64 0) r) 3):=⟨_,rfl⟩;have g0:Below w0.heap.size w0 W:=by rw[hW];exact ((Below.refl _ _).alloc (l_ _) _).alloc (by simp) _
 have kB:Blk W w0.heap.size 65 #[.int .i64 r,.int .i64 c,.slice A (flat r c f).length cap]:=by rw[hW];exact (Blk.new _ _ _).alloc _
 have sz:W.heap.size=w0.heap.size+1+1:=by rw[hW];simp
 have ho:a8_ W (w0.heap.size+1) W.heap.size (.slice (some ⟨w0.heap.size+1,0,none⟩) r r) (List.replicate r 0):=by
  rw[hW];have:=OwnI.made0 (w:=w0.alloc (.cells #[.int .i64 r,.int .i64 c,.slice A (flat r c f).length cap] 65)) (base:=w0.heap.size+1) (N:=r) (by simp) (by omega);exact a8_.of_own (by simpa only[l3_] using this)
 rw[g6j r k f]at ho;obtain⟨L,hL⟩:=e_ ((flat r c f).length);have HS:=h_ hs;have HL:=h_ hL;rw[hL]at hl kB hW⊢;have SZ:=h_ sz;obtain⟨i0,hi,hz0,hz1,hz2⟩:=info_parts u1_;have hmk:=C3_ (P:=Tryz.prog) Tryz.underlying24 hi hz0 (n:=r) (by rw[hz2];omega) (by omega);rw[hz1]at hmk;rw[Nat.mul_one]at hmk;clear hi hz0 hz1 hz2 hL hs sz;go_enter Tryz.func166,Tryz.ntmps166
 go_wp2;rw[←hW];clear hW hmk;go_loopw [12] (fun i wr=>∃ j:Nat,j≤r∧i = .int .i64 j∧Below w0.heap.size w0 wr∧Blk wr w0.heap.size 65 #[.int .i64 r,.int .i64 c,.slice A L cap]∧a8_ wr (w0.heap.size+1) W.heap.size (.slice (some ⟨w0.heap.size+1,0,none⟩) r r) (rowF r (colK k f j))) (fun i _=>r-(intOf i).toNat)
 case atStart=>exact⟨0,l0_ _,rfl,g0,kB,ho⟩
 case round =>
  clear g0 kB ho;obtain⟨j,hj,rfl,hbel,kB,ho⟩:=hrel;by_cases hlt:j<r
  ·obtain⟨P,J,hP,hPJ,hJ,hJN,hJb⟩:=m3_ hlt hk hr hc;have hs:=HS.out;obtain⟨b,o,x,rfl,hb,HX,x1,_⟩:=SlI.at_ (k:=P+k) hs (by rw[a1_];omega);have hx:=HX.out;rw[hPJ,hJ,k3_ f hlt hk]at hx;injection hx with hx
   subst hx;rw[←a1_ r c f,HL.out]at hJN;have hPl:P+k<L:=by omega
   have c1:=kB.cell' (i:=1) rfl;have c2:=kB.cell' (i:=2) rfl;have d1:=a4_ hbel hb x1;have d2:wr.cell? ⟨b,o+P+k,none⟩=some (.int .i64 (f j k)):=by rw[Nat.add_assoc];exact d1
   have cA:=(ho.1.cellG (j:=j) (by rw[a2_];exact hlt)).1;have fA:=ho.1.frozenG j;have hxr:=SlI.i64 hs (f j k) (l4_ (k3_ f hlt hk));have hc1:Chg (w0.heap.size+1) W.heap.size wr (wr.setCell ⟨w0.heap.size+1,j,none⟩ (.int .i64 (f j k))):=a5_ (l_ _) (by have:=SZ.out;simp;omega);have ho2:=ho.put (j:=j) (x:=f j k) hxr;rw[b8Z f hlt]at ho2;have HO2:=h_ ho2;have KB:=h_ (kB.chg hc1 (by omega));have HB:=h_ (hbel.trans (hc1.below (by omega) hbel.size));clear hs HX hJ hPJ hJN x1 ho ho2 kB hbel hc1 hb;go_wp2;go_roundw
   case rel=>exact⟨j+1,by omega,by go_num,HB.out,KB.out,HO2.out⟩
   case measure=>simp[intOf];omega
  ·obtain rfl:j=r:=by omega
   rw[g6q]at ho;go_wp2;go_ret
   have h3:w0.heap.size+1<wr.heap.size:=(ho.1.lt _ rfl).2;have h4:=SZ.out;exact⟨_,rfl,ho.wider (by omega) (by omega),hbel⟩
theorem K1_ (u:Value) (r c:Nat) (f:Nat→Nat→Int) (w0:World) (hu:MxR w0 w0.heap.size u (mxF r c f)) (hr:r≤1000) (hc:c≤1000) :
  Calls Tryz.prog 164 #[u] w0 fun e w'=>∃ v,e = .returned v∧b4_ w' w0.heap.size w'.heap.size v (g9_ c r (fun a b=>f b a))∧Below w0.heap.size w0 w':=by
 have hu':=hu;obtain⟨A,cap,rfl,hs,i1,i2,hl⟩:=hu.open_;clear hu;simp only[mxF]at hs hl i1 i2⊢;obtain⟨W,hW,g0,kB⟩:=b_3 w0 #[.int .i64 r,.int .i64 c,.slice A (flat r c f).length cap] 65;obtain⟨L,hL⟩:=e_ ((flat r c f).length);simp only[mxF]at hu';rw[hL]at hu' hs hl kB hW⊢;clear hL;obtain⟨c0,c1,c2⟩:=c_3 kB;have HU:=h_ (MxR.next g0 hu');have sz:w0.heap.size<W.heap.size:=kB.lt;go_enter Tryz.func164,Tryz.ntmps164
 go_wp2;rw[←hW];clear hW;go_loopw [3,7] (fun out i wr=>∃ (k:Nat) (vs:List Value),k≤c∧i = .int .i64 k∧Below W.heap.size W wr∧OutO wr W.heap.size wr.heap.size out vs∧vs.length=k∧Fam wr W.heap.size wr.heap.size (vs.zip (g9_ k r (fun a b=>f b a)))) (fun _ i _=>c-(intOf i).toNat)
 case atStart=>exact⟨0,[],l0_ _,rfl,Below.refl _ _,⟨World.ownsRow_nil _ _ _ _,by simp[Value.ownBlock],by simp⟩,rfl,⟨fun p hp=>by simp at hp,by simp⟩⟩
 case round =>
  clear c0 c1 c2;obtain⟨k,vs,hk,rfl,hbel,hO,hvl,hF⟩:=hrel;have kB2:=kB.call hbel;obtain⟨c0,c1,c2⟩:=c_3 kB2;have HVL:=h_ hvl;clear hvl;by_cases hlt:k<c
  ·have HUR:=h_ (MxR.more hbel.size (MxR.below hbel HU.out));have hws:=hbel.size;obtain⟨OA,oc,rfl,_,_⟩:=hO.form;have HO:=h_ hO;have HF:=h_ hF;clear hO hF;go_wp2_with fail
   refine (b4j _ r c k f _ HUR.out hr hc hlt).mono ?_;rintro e w1 ⟨v1,rfl,hv1,hb1⟩;obtain⟨wC,ewC⟩:∃ x,x=w1:=⟨_,rfl⟩;subst ewC;have hI:=hv1;have hbC:=hb1;have hlo:=l_ wr.heap.size;obtain⟨VA,vc,ev⟩:=hI.form;rw[a2_]at ev;subst ev;have hO2:=HO.out.below hbC;have hF2:=HF.out.below hbC;have hbs:=hbC.size;have HI:=h_ hI;have HO2:=h_ hO2;have HF2:=h_ hF2;have HBC:=h_ hbC;clear hI hO2 hF2 hbC hb1 hv1
   (go_wp2_with (at_builtin;refine Hold.stop ?_));unfold Hold
   obtain⟨X,hX,gn,kn⟩:=b_3 wC #[.slice VA r vc] 24;have hO3:=HO2.out.below gn;have hF3:=(HF2.out.snoc (HI.out.wider (lo':=wr.heap.size) hlo (l_ _)) hws (by omega)).below gn;have hXs:=gn.size;rw[←hX];clear hX;refine A9_ rfl (.tmp 10) (.tmp 14) rfl W.heap.size (.slice OA vs.length oc) vs rfl hO3.1 _ _ (.slice VA r vc) rfl ⟨wC.heap.size,0,rfl,kn.cell' (i:=0) rfl⟩ rfl (by have:=HVL.out;omega) (by omega) ?_;intro v' w' hn' hg' hv';have hbg:Below W.heap.size X w':=c9_ hg' (fun k hk=>(hO3.1.lt k hk).1) (by omega);have hbt:=(hbel.trans ((HBC.out).mono hws)).trans ((gn.mono (by omega)).trans hbg);have hF4:=Fam.grownO hF3 hO3.1 hg';have hws':=hbg.size;have hO4:OutO w' W.heap.size w'.heap.size v' (vs ++ [.slice VA r vc]):=⟨hn',fun k hk=>(hn'.lt k hk).2,by simp;have:=HVL.out;omega⟩;have HF4:=h_ hF4;have HO4:=h_ hO4;have HBT:=h_ hbt;clear hn' hg' hv' hbg hbt hF4 hO4 hO3 hF3 kn gn;go_wp2;go_roundw
   case rel =>
    refine⟨k+1,vs ++ [.slice VA r vc],by omega,by go_num,HBT.out,HO4.out,by simp[HVL.out],?_⟩;have:=HF4.out.mono (l_ _) (show wC.heap.size≤w'.heap.size by omega);have e:(vs ++ [Value.slice VA r vc]).zip (g9_ (k+1) r (fun a b=>f b a))=vs.zip (g9_ k r (fun a b=>f b a)) ++ [(Value.slice VA r vc,rowF r (fun i=>f i k))]:=by
     rw[x7_,List.zip_append (by rw[HVL.out,b8_])];rfl
    rw[e];exact this
   case measure=>simp[intOf];omega
  ·obtain rfl:k=c:=by omega
   have hO':=hO;have hF':=hF;go_wp2;go_ret
   exact⟨_,rfl,⟨vs,hO'.mono (by omega) (l_ _),by rw[HVL.out,b8_],hF'.mono (by omega) (l_ _)⟩,g0.trans (hbel.mono (by omega))⟩
end Go.Proofs.YtbgccbmdiolhbaaGreat

