/- FnFunctors: the law holds for every argument. Part 13 of 14 of the proof: RsS, RsrQ, Sp5, Im4, Ld12, Pj12, RsrS. No condition. -/
import Derived.Test.YtnohdlkailpnoaaGreatBFunctors12
import Derived.Deep.CutRange
import Derived.Deep.LoopGhost
import Derived.Deep.CutBlock
set_option linter.unusedVariables false
set_option linter.unusedSimpArgs false
set_option maxHeartbeats 12800000
set_option maxRecDepth 100000
namespace Go.Proofs.YtnohdlkailpnoaaGreat
open Go.RowKit
theorem f7j {a b K yf P:Nat} (ha:a<yf) (hb:b<K) (hy:yf≤4) (hK:K≤24) (hP:P=a*K):wrap64 ((a:Int)*(K:Int))=(P:Int)∧P+b<yf*K∧yf*K≤96:=by
 have h1:(a+1)*K≤yf*K:=Nat.mul_le_mul_right _ ha;have h2:yf*K≤4*24:=Nat.mul_le_mul hy hK;have h3:(a+1)*K=a*K+K:=by rw[Nat.add_mul,Nat.one_mul]
 refine⟨?_,by omega,by omega⟩;rw[show ((a:Int)*(K:Int))=((a*K:Nat):Int) by simp,hP];exact IntWalk.wrap64_in _ ⟨by omega,by omega⟩
theorem A2_ (u:Value) (y:Rp) (v:Int) (w0:World) (hu:RpR w0 w0.heap.size u y) (hv:I64 v) :
  Calls Tryz.prog 7 #[u,.int .i64 v] w0 fun e w'=>∃ r,e = .returned (.tuple #[r,.bool (rsP y v).2])∧RpR w' w'.heap.size r (rsP y v).1∧Below w0.heap.size w0 w':=by
 have hu':=hu;obtain⟨A,a,C,c,E,ec,H,hc,rfl,hqr,hdr,hmr,_⟩:=hu.open_;clear hu;obtain⟨W,hW,g0,k1,k2⟩:=b_4 w0 #[.int .i64 y.p,.int .i64 y.q.v,.slice A y.q.f.length a,.slice C y.q.t.length c,.slice E y.d.length ec,.slice H y.m.length hc] 29 #[.int .i64 0,.int .i64 0,.slice none 0 0,.slice none 0 0,.slice none 0 0,.slice none 0 0] 29;have sz:W.heap.size=w0.heap.size+1+1:=by rw[hW];simp
 have SZ:=h_ sz;have HR:=h_ (RpR.next g0 hu');have HQR:=h_ (QvR.next g0 hqr);have HDR:=h_ (SlI.next g0 hdr);have HMR:=h_ (SlM.next g0 hmr);obtain⟨c0,c1,c2,c3,c4,c5⟩:=c_6 k1;clear hu' sz hqr hdr hmr;go_enter Tryz.func7,Tryz.ntmps7
 go_wp2_with fail
 rw[←hW];clear hW;refine (i2_ _ y v _ HR.out hv).mono ?_;rintro e w1 ⟨r1,rfl,hM,hb1⟩;clear c0 c1 c2 c3 c4 c5;rcases hok:inOk y v with _ | _
 ·have hP:inP y v=(mx0,false):=by rw[inP,if_neg (by rw[hok];decide)]
  have HE:=h_ (show rsP y v=(rp0,false) by rw[rsP,if_neg (by rw[hok];decide)]);rw[hP]at hM⊢;obtain⟨MA,mc,em⟩:=hM.form;simp only[mx0,List.length_nil]at em⊢;subst em;obtain⟨W2,hW2⟩:=e_ (w1.alloc (.cells #[.int .i64 0,.int .i64 0,.slice MA 0 mc] 41));have ga:Below w1.heap.size w1 W2:=by rw[←hW2];exact a2_ _ _
  have gW:=a6_ hb1 ga;have kz:=k2.call gW;have fr:=kz.frozen;obtain⟨s0,s1,s2,s3,s4,s5⟩:=c_6 kz;have gf:=g0.trans (gW.mono g0.size);have GF:=h_ gf;clear kz gf gW hM hP hok hb1 ga k1 k2 g0;go_wp2;have gf:=GF.out;have hE:=HE.out;exact bodyPost_ret (v:=.tuple #[.agg #[.int .i64 0,.int .i64 0,.slice none 0 0,.slice none 0 0,.slice none 0 0,.slice none 0 0],.bool false]) (by simp[results,go_sem,s0,s1,s2,s3,s4,s5]) rfl ⟨_,by rw[hE],by rw[hE];exact (RepO.zero _ 0 0).rd,(((((gf.setCell (by simp) _).setCell (by simp) _).setCell (by simp) _).setCell (by simp) _).setCell (by simp) _).setCell (by simp) _⟩
 ·obtain⟨hy,hs⟩:f1_ y=true∧endV y.q.f y.q v=true:=by simpa [inOk] using hok
  obtain⟨n,D,env,hnl,hdn,hdA,hD4,hn5⟩:=k5_ hy hs;subst env;have hP:=E2_ hok hdA;have hN:=L6_ (v:=n) (C:=D) hy _ (l_ _);have hqq:isQ y.q=true:=(b7_.1 (b8_.1 hy).2.1).1;have hn6:y.q.f.length≤6:=(g4_.1 hqq).2.2.1;have hat:=U8_ (C:=D) hy hs _ (l_ _);have hinF:=D8_ hy rfl hdn _ (l_ _);have hfld:=(b8_.1 hy).1;have hIp:I64 y.p:=by have:=f4_ hfld;simp only[I64];omega
  have HE:=h_ (show rsP y n=rfP y n (ksL y n).length (s0_ y n (ksL y n).length (ksF y n)) by rw[rsP,if_pos hok]);have hks:ksL y n=kerR y.p D (inS y n D y.q.f.length).1 (inS y n D y.q.f.length).2:=by rw[ksL,hdA,l5_]
  rw[hP]at hM⊢;simp only[inM]at hM;obtain⟨N,hNN⟩:=e_ ((inS y n D y.q.f.length).1);obtain⟨F0,hF0⟩:=e_ ((inS y n D y.q.f.length).2);rw[hNN,hF0]at hM hks hinF;rw[hNN]at hat hN;have hkr:=S7_ y.p D N F0;have hkl:=a2z y.p D N F0;rw[←hks]at hkr hkl;obtain⟨F,hF⟩:=e_ (ksF y n);obtain⟨K,hK⟩:=e_ ((ksL y n).length);rw[hK,hF]at HE;rw[hK]at hkr hkl;have hkr2:ksL y n=b5_ K N F:=by rw[←hF];exact hkr
  have HKR:=h_ hkr2;have HKS:=h_ hks;have HY:=h_ hy;have HS:=h_ hs;have HIN:=h_ hinF;have HFL:=h_ hfld;have HAT:=h_ hat
  have HQQ:=h_ hqq;have HDN:=h_ hdn;have HML2:=h_ (b8_.1 hy).2.2.1;clear hok hP hNN hF0 hkr hkr2 hF hks hy hs hinF hfld hat hK hdA hdn hqq;obtain⟨MA,mc,em⟩:=hM.form;simp only[mxF]at em hM;rw[a0_]at em;subst em;obtain⟨ML,hML⟩:=e_ (D*N);rw[hML]at hM⊢;have HML:=h_ hML;clear hML;obtain⟨W2,hW2,ga,kM⟩:=b_1 w1 #[.int .i64 D,.int .i64 N,.slice MA ML mc] 41;have gW:=a6_ hb1 ga;have k12:=k1.call gW;have c1:=k12.cell' (i:=1) rfl;have c2:=k12.cell' (i:=2) rfl;have c3:=k12.cell' (i:=3) rfl;have HM:=h_ (hM.below ga).rd;have GW:=h_ gW;clear hM hb1 ga gW k12;go_wp2_with fail
  clear hW2;refine (u4_ _ y.q n _ (QvR.next GW.out HQR.out) HQQ.out (.inr HS.out)).mono ?_;rintro e w3 ⟨v3,rfl,hQ3,hb3⟩;obtain⟨QA,qa,QB,qb,ev⟩:=hQ3.form;obtain⟨l1,l2,l3⟩:=X5_ y.q n;rw[l1,l2,l3]at ev;subst ev;obtain⟨W4,hW4,ga,kq⟩:=b_1 w3 #[.int .i64 y.q.v,.slice QA y.q.f.length qa,.slice QB y.q.f.length qb] 26;have g34:=a6_ hb3 ga;have G4:=h_ (GW.out.trans (g34.mono GW.out.size));have HQ4:=h_ (hQ3.below ga).rd;have HM4:=h_ (MxR.next g34 HM.out);have kM4:=kM.call g34;have k14:=k1.call G4.out;clear c1 c2 c3 l1 l2 l3 hQ3 hb3 ga g34 kM;have c0:=k14.cell' (i:=0) rfl;obtain⟨m0,m1,m2⟩:=c_3 kM4;go_wp2_with fail
  clear hW4;refine (U4_ y.p _ D N F0 _ HFL.out (by omega) (by omega) HM4.out HIN.out).mono ?_;rintro e w5 ⟨v5,rfl,hK5,hb5⟩;rw[←HKS.out,HKR.out]at hK5;obtain⟨KA,kc,ev,_⟩:=hK5.form2;rw[a3_]at ev;subst ev;have G5:=h_ (G4.out.trans (hb5.mono G4.out.size));have HK5:=h_ hK5.rd;have HQ5:=h_ (QvR.next hb5 HQ4.out);have kq5:=kq.call hb5;have k15:=k1.call G5.out;clear c0 m0 m1 m2 hK5 hb5 kq k14 kM4;obtain⟨X,hX,bX,kX⟩:=b_1 w5 #[] 3;have HDX:=h_ (SlI.next (a6_ G5.out bX) HDR.out);have c4:=(k15.call bX).cell' (i:=4) rfl;obtain⟨gx,hgx⟩:=e_ (w5.heap.size);rw[hgx]at kX
  (go_wp2_with (at_builtin;refine Hold.stop ?_));unfold Hold
  clear hX;refine c5_ (by rfl) (.tmp 37) (.tmp 39) (by rfl) gx gx X.heap.size #[] (by rfl) kX rfl (l_ _) E ec y.d (by rfl) HDX.out ?_;intro v6 w6 ho6 hb6;obtain⟨DA,dc,ev,hdc1,hdc2⟩:=ho6.form;subst ev;obtain⟨gd,hgd⟩:∃ gd,DA=some ⟨gd,0,none⟩:=by
   obtain⟨g,k,e,_⟩:=(a9_.of_own ho6).at_ (by omega);simp only[Value.slice.injEq,true_and]at e;exact⟨g,e.1⟩
  subst hgd;have dcell:=(ho6.cellG (j:=n) hnl).1;have dfr:=ho6.frozenG n;have dput:=(ho6.put (j:=n) (x:=(K:Int)) (by unfold I64;omega)).1;have hgdl:=ho6.lt gd rfl;obtain⟨W7,hW7⟩:=e_ (w6.setCell ⟨gd,n,none⟩ (.int .i64 K));rw[hW7]at dput;have hc7:Chg gd (gd+1) w6 W7:=by rw[←hW7];exact c6_ _ _ _ _
  have b57:Below w5.heap.size w5 W7:=(bX.trans (hb6.mono bX.size)).trans (hc7.below (by omega) (by have:=bX.size;have:=hb6.size;omega));have G7:=h_ (G5.out.trans (b57.mono G5.out.size));have kq7:=kq5.call b57;have HQ7:=h_ (QvR.next b57 HQ5.out);have HK7:=h_ (SlII.next b57 HK5.out);have HD7:Hid (SlI W7 W7.heap.size (.slice (some ⟨gd,0,none⟩) y.d.length dc) (rsD y n K)):=by
   have:=dput.rd;show SlI _ _ _ (y.d.set (n:Int).toNat K);rw[l5_];exact this
  clear ho6 dput hc7 b57 bX kX hb6 kq5 k15 c4;obtain⟨q0,q1,q2⟩:=c_3 kq7;go_wp2_with fail
  clear hW7 dcell dfr hgx;refine (k1_ _ _ (rvQ y.q n) (rsD y n K) _ HQ7.out HD7.out).mono ?_;rintro e w8 ⟨rfl,hb8⟩;have G8:=h_ (G7.out.trans (hb8.mono G7.out.size));rcases hA:d4_ (rvQ y.q n) (rsD y n K) with _ | _
  ·have HE2:=h_ (HE.out.trans (b1x (G:=s0_ y n K F) hA));have kz:=k2.call G8.out;have fr:=kz.frozen;have s0:=kz.cell' (i:=0) rfl;have s1':=kz.cell' (i:=1) rfl;have s2':=kz.cell' (i:=2) rfl;have s3':=kz.cell' (i:=3) rfl;have s4':=kz.cell' (i:=4) rfl;have s5':=kz.cell' (i:=5) rfl;have gf:=g0.trans (G8.out.mono g0.size);have GF:=h_ gf;clear kz gf hA hb8 q0 q1 q2;go_wp2;have gf:=GF.out;have hE:=HE2.out;exact bodyPost_ret (v:=.tuple #[.agg #[.int .i64 0,.int .i64 0,.slice none 0 0,.slice none 0 0,.slice none 0 0,.slice none 0 0],.bool false]) (by simp[results,go_sem,s0,s1',s2',s3',s4',s5']) rfl ⟨_,by rw[hE],by rw[hE];exact (RepO.zero _ 0 0).rd,(((((gf.setCell (by simp) _).setCell (by simp) _).setCell (by simp) _).setCell (by simp) _).setCell (by simp) _).setCell (by simp) _⟩
  ·have HE2:=h_ (HE.out.trans (Z1_ (G:=s0_ y n K F) hA));have HA:=h_ hA;have k18:=k1.call G8.out;have kq8:=kq7.call hb8;have HQ8:=h_ (QvR.next hb8 HQ7.out);have HD8:=h_ (SlI.next hb8 HD7.out);have HK8:=h_ (SlII.next hb8 HK7.out);clear hA q0 q1 q2 kq7 hb8;have c0:=k18.cell' (i:=0) rfl;obtain⟨q0,q1,q2⟩:=c_3 kq8;go_wp2_with fail
   refine (O2_ y.p _ _ (rvQ y.q n) (rsD y n K) _ hIp HQ8.out HD8.out HA.out).mono ?_;rintro e w9 ⟨v9,rfl,hO9,hb9⟩;obtain⟨QA2,qa2,QB2,qb2,DA2,dc2,HM,hm,ev⟩:=hO9.rd.form;have e1:(zRep y.p (rvQ y.q n) (rsD y n K)).q.f.length=y.q.f.length:=a1_ _ _;have e2:(zRep y.p (rvQ y.q n) (rsD y n K)).q.t.length=y.q.f.length:=a1_ _ _;have e3:(zRep y.p (rvQ y.q n) (rsD y n K)).d.length=y.d.length:=by simp[zRep,rsD]
   have e4:(zRep y.p (rvQ y.q n) (rsD y n K)).m.length=y.q.f.length:=by rw[zRep,c8Q,d0_];exact e1
   have e5:(zRep y.p (rvQ y.q n) (rsD y n K)).q.v=y.q.v:=rfl;have e6:(zRep y.p (rvQ y.q n) (rsD y n K)).p=y.p:=rfl;rw[e1,e2,e3,e4,e5,e6]at ev;subst ev;have hO9':RepI w9 w8.heap.size w9.heap.size (.agg #[.int .i64 y.p,.int .i64 y.q.v,.slice QA2 y.q.f.length qa2,.slice QB2 y.q.f.length qb2,.slice DA2 y.d.length dc2,.slice HM y.q.f.length hm]) ⟨y.p,rvQ y.q n,rsD y n K,msF y.q.f.length (rsM y n K F 0)⟩:=by
    have hz:zRep y.p (rvQ y.q n) (rsD y n K)=⟨y.p,rvQ y.q n,rsD y n K,msF y.q.f.length (rsM y n K F 0)⟩:=by
     rw[zRep,c8Q,show (rvQ y.q (n:Int)).f.length=y.q.f.length from a1_ _ _];congr 1
    rw[←hz];exact hO9
   obtain⟨W10,hW10,ga,kO⟩:=b_1 w9 #[.int .i64 y.p,.int .i64 y.q.v,.slice QA2 y.q.f.length qa2,.slice QB2 y.q.f.length qb2,.slice DA2 y.d.length dc2,.slice HM y.q.f.length hm] 29;have lO:=kO.lt;have hO10:=(hO9'.below ga).wider (l_ _) ga.size;have hb810:=a6_ hb9 ga;have hHM:Hid (∀ (j:Nat) (m:Mx),j<y.q.f.length→∃ gH,HM=some ⟨gH,0,none⟩∧gH<w9.heap.size):=fun j m hj=>by
    obtain⟨g,c',s',e,h1,h2,_⟩:=hO9'.mxAt (j:=j) (l2_ (by rw[d0_];exact hj));simp only[Value.slice.injEq,true_and]at e;exact⟨g,e.1,h2⟩
   have s9:=hb9.size;clear e1 e2 e3 e4 e5 e6 hO9 hO9' hb9 ga c0 q0 q1 q2 k18 kq8;go_wp2;clear hW10;go_loopw [13,14] (fun av i wr=>∃ k:Nat,k≤y.q.f.length∧i = .int .i64 k∧av = .int .i64 (atN y n k)∧Below w8.heap.size w8 wr∧Blk wr w9.heap.size 29 #[.int .i64 y.p,.int .i64 y.q.v,.slice QA2 y.q.f.length qa2,.slice QB2 y.q.f.length qb2,.slice DA2 y.d.length dc2,.slice HM y.q.f.length hm]∧RepI wr w8.heap.size wr.heap.size (.agg #[.int .i64 y.p,.int .i64 y.q.v,.slice QA2 y.q.f.length qa2,.slice QB2 y.q.f.length qb2,.slice DA2 y.d.length dc2,.slice HM y.q.f.length hm]) ⟨y.p,rvQ y.q n,rsD y n K,msF y.q.f.length (rsM y n K F k)⟩∧w9.heap.size<wr.heap.size) (fun _ i _=>y.q.f.length-(intOf i).toNat)
   case atStart=>exact⟨0,l0_ _,rfl,rfl,hb810,kO,hO10,lO⟩
   case round =>
    clear hb810 kO hO10 lO;obtain⟨k,hk,rfl,rfl,hb,hB,hO,hlO⟩:=hrel;have gWr:=G8.out.trans (hb.mono G8.out.size);have gws:=gWr.size;have hbs:=hb.size;have kr:=k1.call gWr;have c5:=kr.cell' (i:=5) rfl;have hml:y.m.length≤y.q.f.length:=Nat.le_of_eq HML2.out;have hml2:y.q.f.length≤y.m.length:=Nat.le_of_eq HML2.out.symm;by_cases hkn:k<y.q.f.length
    ·obtain⟨m,nf,nt,yf,yt,em,ef,et,df,dt,eM,_,b1,b2,b3,b4,hfd,htd,b8,b9⟩:=g9_ HY.out hkn;obtain⟨bt,ot,xt,eC,hbt,HXT,t1,_⟩:=SlI.at_ (QvR.sl HQR.out).2 b8;subst eC;have q2:=HXT.out;rw[et]at q2;injection q2 with q2
     subst q2;obtain⟨bm,om,m',MB,mb,eH,hbm,HXM,x0,x1,x2,hsl,hr1,hr2,_⟩:=SlM.at_ HMR.out b9;subst eH;have q3:=HXM.out;rw[em]at q3;injection q3 with q3
     subst q3;have hMR:MxR W W.heap.size (.agg #[.int .i64 m.r,.int .i64 m.c,.slice MB m.a.length mb]) m:=⟨_,rfl,hsl,hr1,hr2⟩;have hmc:m.c=(yf:Int):=by rw[eM];rfl
     rw[hmc]at x1;have t1':=a7_ gWr hbt t1;have c3:=kr.cell' (i:=3) rfl;obtain⟨gH,eHM,hgHl⟩:=hHM.out k m hkn;subst eHM;have HTC:=h_ (p8_ (v:=(n:Int)) ef et);have hne:nf≠n:=by
      rintro rfl;exact (q2_ HS.out).1 (l4_ ef)
     obtain⟨o1,o2⟩:=L5_ (v:=(n:Int)) ef et df dt;by_cases hnt:(nt:Int)=n
     ·have hd:((nt:Int) != (n:Int))=false:=by rw[bne_eq_false_iff_eq];exact hnt
      have htc:tch y.q n k=true:=by rw[HTC.out,hnt];simp
      have hoth:othN y n k=yf:=o1 hnt;have hzm:zmAt (rvQ y.q n) (rsD y n K) k=mxF (othN y n k) K fun _ _=>0:=by
       rw[hoth];exact d4z hkn ef (by rw[hnt]at et;exact et) df hne hnl
      have hA1:atN y n (k+1)=atN y n k+yf:=by rw[atN,if_pos htc,hoth]
      have hfit:=A4_ htc hkn;rw[HAT.out,hoth]at hfit;have hI0:=f8X (F:=F) hzm;have HEND:=h_ (f0z (K:=K) (F:=F) htc);have HOTH:=h_ hoth;have HA1:=h_ hA1;obtain⟨at_,hat_⟩:=e_ (atN y n k);rw[hat_]at hfit⊢;have HAT_:=h_ hat_;have X1:=h_ x1;rw[hI0]at hO;have GWr:=h_ gWr;have htn:(nt:Int)=n:=hnt;obtain⟨wa,hwa⟩:∃ z,z=wr:=⟨_,rfl⟩;subst hwa;have HB:=h_ hB;have HO:=h_ hO;have HBB:=h_ hb;clear hat_ hA1 htc hnt htn hMR hsl hr1 hr2 x0 x1 x2 em ef et df dt eM hB hO hb kr HTC HXT HXM o1 o2 hne hmc t1 gWr hI0 hzm hoth;go_wp2;clear c5 c3 t1';go_loopw [15] (fun i wr=>∃ ja:Nat,ja≤yf∧i = .int .i64 ja∧Below w8.heap.size w8 wr∧Blk wr w9.heap.size 29 #[.int .i64 y.p,.int .i64 y.q.v,.slice QA2 y.q.f.length qa2,.slice QB2 y.q.f.length qb2,.slice DA2 y.d.length dc2,.slice (some ⟨gH,0,none⟩) y.q.f.length hm]∧RepI wr w8.heap.size wr.heap.size (.agg #[.int .i64 y.p,.int .i64 y.q.v,.slice QA2 y.q.f.length qa2,.slice QB2 y.q.f.length qb2,.slice DA2 y.d.length dc2,.slice (some ⟨gH,0,none⟩) y.q.f.length hm]) ⟨y.p,rvQ y.q n,rsD y n K,msF y.q.f.length (rsI y n K F k ja 0)⟩∧w9.heap.size<wr.heap.size) (fun i _=>yf-(intOf i).toNat)
      case atStart=>exact⟨0,l0_ _,rfl,HBB.out,HB.out,HO.out,hlO⟩
      case round =>
       clear HBB HB HO;obtain⟨ja,hja,rfl,hb,hB,hO,hl2⟩:=hrel;have gWr:=G8.out.trans (hb.mono G8.out.size);have kr:=k1.call gWr;have c5:=kr.cell' (i:=5) rfl;have x1:=a7_ gWr hbm X1.out;have hbs2:=hb.size;by_cases hjl:ja<yf
       ·have HB:=h_ hB;have HO:=h_ hO;have HBB:=h_ hb;have HJL:=h_ hjl;clear hB hO hb kr gWr;obtain⟨wb,hwb⟩:∃ z,z=wr:=⟨_,rfl⟩;subst hwb;go_wp2;clear c5 x1;go_loopw [16] (fun i wr=>∃ jb:Nat,jb≤K∧i = .int .i64 jb∧Below w8.heap.size w8 wr∧Blk wr w9.heap.size 29 #[.int .i64 y.p,.int .i64 y.q.v,.slice QA2 y.q.f.length qa2,.slice QB2 y.q.f.length qb2,.slice DA2 y.d.length dc2,.slice (some ⟨gH,0,none⟩) y.q.f.length hm]∧RepI wr w8.heap.size wr.heap.size (.agg #[.int .i64 y.p,.int .i64 y.q.v,.slice QA2 y.q.f.length qa2,.slice QB2 y.q.f.length qb2,.slice DA2 y.d.length dc2,.slice (some ⟨gH,0,none⟩) y.q.f.length hm]) ⟨y.p,rvQ y.q n,rsD y n K,msF y.q.f.length (rsI y n K F k ja jb)⟩∧w9.heap.size<wr.heap.size) (fun i _=>K-(intOf i).toNat)
        case atStart=>exact⟨0,l0_ _,rfl,HBB.out,HB.out,HO.out,hl2⟩
        case round =>
         clear HBB HB HO;obtain⟨jb,hjb,rfl,hb,hB,hO,hl3⟩:=hrel;have hbs3:=hb.size;by_cases hjk:jb<K
         ·have hKKl:(b5_ K N F).length=K:=a3_ _ _ _;have hKs:=HK8.out;obtain⟨bb,oo,lr,A',c',eK,hbb,HXL,r1,hrow⟩:=SlII.at_ (k:=jb) (xs:=b5_ K N F) (by rw[hKKl];exact hKs) (by rw[hKKl];exact hjk);subst eK;have hlr:=HXL.out;rw[g2_ _ hjk]at hlr;injection hlr with hlr
          subst hlr;rw[a1_]at r1 hrow;obtain⟨br,ob,xv,eR,hbr,HXV,v1,hx1,hx2⟩:=SlI.atM (k:=at_+ja) hrow (a1_ _ _) (by omega);subst eR;have hxv:=HXV.out;rw[d1_ _ (show at_+ja<N by omega)]at hxv;injection hxv with hxv
          have hyl:=f4j y n K k F ja jb hkn;rw[HOTH.out]at hyl;obtain⟨P,hP⟩:∃ P,P=ja*K:=⟨_,rfl⟩;obtain⟨p1,p2,p3⟩:=f7j hjl hjk b1 (by omega) hP;obtain⟨Lk,hLk⟩:=e_ (yf*K);rw[hLk]at p2 p3;have hput:=hO.putMx (i:=P+jb) (z:=xv) hyl (by simp only[mxF];rw[a0_,hLk];exact p2) ⟨hx1,hx2⟩;simp only[mxF]at hput;rw[a0_,hLk]at hput;obtain⟨g,cg,gr,cr,eg,z1,z2,⟨u0,z3⟩,z4,⟨cg1,cg2⟩,⟨cr1,cr2⟩,⟨hgr1,hgr2⟩,hapart,_⟩:=hput;simp only[Value.slice.injEq,Option.some.injEq,Addr.mk.injEq,and_true,true_and,d0_]at eg cg1;obtain⟨eg1,eg2⟩:=eg;subst eg1;subst eg2;have HPUT:=h_ (fun (w:World) (h:RepI w w8.heap.size w.heap.size (.agg #[.int .i64 y.p,.int .i64 y.q.v,.slice QA2 y.q.f.length qa2,.slice QB2 y.q.f.length qb2,.slice DA2 y.d.length dc2,.slice (some ⟨gH,0,none⟩) y.q.f.length hm]) ⟨y.p,rvQ y.q n,rsD y n K,msF y.q.f.length (rsI y n K F k ja jb)⟩)=>RepI.putMx (i:=P+jb) (z:=xv) h hyl (by simp only[mxF];rw[a0_,hLk];exact p2) ⟨hx1,hx2⟩);have hst:=d4q (x:=y) (v:=(n:Int)) (K:=K) (k:=k) (F:=F) (a:=ja) (b:=jb) (by rw[HOTH.out];exact hjl) hjk;have hxv2:F jb (atN y n k+ja)=xv:=by rw[HAT_.out];exact hxv
          rw[HOTH.out,hxv2,←hP]at hst;have HST:=h_ hst;have hgo:=hapart _ _ _ hB (by decide);have HP1:=h_ p1;have Z2:=h_ z2;have V1:=h_ v1;have R1:=h_ r1;have HBr:=h_ hB;have HOr:=h_ hO;have HBBr:=h_ hb;have hgHw:gH<wr.heap.size:=by omega
          have hLKe:=h_ hLk;obtain⟨wc,hwc⟩:∃ z,z=wr:=⟨_,rfl⟩;subst hwc;clear hKs hKKl hrow HXL HXV hxv hxv2 hyl hLk hst hB hO hb z1 z2 z3 z4 v1 r1 hapart p1 hP;go_wp2;refine a8_ (by kernel_rfl) [.eq (.pointer (some ⟨w9.heap.size,5,none⟩)),.eq (.slice (some ⟨gH,0,none⟩) y.q.f.length hm),.eq (.int .i64 k),.eq (.pointer (some ⟨gH,k*3,none⟩)),.eq (.pointer (some ⟨gH,k*3+2,none⟩)),.eq (.slice (some ⟨gr,0,none⟩) Lk cr),.eq (.int .i64 ja),.eq (.slice (some ⟨bb,oo,none⟩) K kc),.eq (.int .i64 K),.eq (.int .i64 P),.eq (.int .i64 jb),.eq (.int .i64 ((P:Int)+jb)),.eq (.slice (some ⟨bb,oo,none⟩) K kc),.eq (.int .i64 jb),.eq (.pointer (some ⟨bb,oo+jb,none⟩)),.eq (.slice (some ⟨br,ob,none⟩) N c'),.eq (.int .i64 at_),.eq (.int .i64 ja),.eq (.int .i64 ((at_:Int)+ja)),.eq (.pointer (some ⟨br,ob+(at_+ja),none⟩)),.eq (.int .i64 xv),.eq (.pointer (some ⟨gr,P+jb,none⟩))] [[],[0],[],[0,1,2],[0,1,2,3],[0,1,2,3,4],[],[],[7],[6,7,8],[],[6,7,8,9,10],[],[],[12,13],[12,13,14],[],[],[16,17],[12,13,14,15,16,17,18],[12,13,14,15,16,17,18,19],[0,1,2,3,4,5,6,7,8,9,10,11,12,13,14,15,16,17,18,19,20],[0,1,2,3,4,5,6,7,8,9,10,11,12,13,14,15,16,17,18,19,20,21]] 22 (by kernel_rfl) ⟨trivial,trivial,trivial,trivial,trivial,trivial,trivial,trivial,trivial,trivial,trivial,trivial,trivial,trivial,trivial,trivial,trivial,trivial,trivial,trivial,trivial,trivial,trivial⟩ ⟨?_,?_,?_,?_,?_,?_,?_,?_,?_,?_,?_,?_,?_,?_,?_,?_,?_,?_,?_,?_,?_,?_,trivial⟩ ?_;iterate 22 (intro x w hb hk Q' hQ;have he:=k_e hk;simp only[k_s]at he;simp only[netE]at hQ⊢;(try simp only[he]at hQ⊢);(try clear he);rotate_left)
          rotate_left
          ·clear hk;go_wp2;exact hQ _ _ br_ rfl
          ·clear hk;have z:=(HBr.out.call hb).cell' (i:=5) rfl;go_wp2;exact hQ _ _ br_ rfl
          iterate 3 (· clear hk;go_wp2;exact hQ _ _ br_ rfl)
          ·clear hk;have z:=a7_ hb hgHw Z2.out;go_wp2;exact hQ _ _ br_ rfl
          iterate 3 (· clear hk;go_wp2;exact hQ _ _ br_ rfl)
          ·clear hk;go_wp2;rw[HP1.out];exact hQ _ _ br_ rfl
          iterate 5 (· clear hk;go_wp2;exact hQ _ _ br_ rfl)
          ·clear hk;have z:=a7_ (HBBr.out.trans (hb.mono hbs3)) hbb R1.out;go_wp2;exact hQ _ _ br_ rfl
          iterate 4 (· clear hk;go_wp2;exact hQ _ _ br_ rfl)
          ·clear hk;have z:=a7_ (HBBr.out.trans (hb.mono hbs3)) hbr V1.out;go_wp2;exact hQ _ _ br_ rfl
          ·clear hk;go_wp2;exact hQ _ _ br_ rfl
          ·intro x w hb hk hiv hdj;have he:=k_g hk [0,1,2,3,4,5,6,7,8,9,10,11,12,13,14,15,16,17,18,19,20,21];simp only[k_s]at he;simp only[netE,he];clear he hk;have hOw:=(HOr.out.below hb).wider (l_ _) hb.size;have hput:=HPUT.out w hOw;simp only[mxF]at hput;rw[a0_,hLKe.out]at hput;obtain⟨g,cg,gr2,cr2,eg,z1,z2,⟨u0,z3⟩,z4,_,_,⟨hg1,hg2⟩,_,hnew⟩:=hput;simp only[Value.slice.injEq,Option.some.injEq,Addr.mk.injEq,and_true,true_and,d0_]at eg;obtain⟨eg1,eg2⟩:=eg;subst eg1;subst eg2;have hz:=a7_ hb hgHw Z2.out;rw[z2]at hz;simp only[Option.some.injEq,Value.slice.injEq,Addr.mk.injEq,and_true,true_and]at hz;obtain⟨hz1,hz2⟩:=hz;subst hz1;subst hz2;rw[HST.out]at hnew;obtain⟨W14,hW14⟩:=e_ (w.setCell ⟨gr2,P+jb,none⟩ (.int .i64 xv));rw[hW14]at hnew;have hch3:Chg gr2 (gr2+1) w W14:=by rw[←hW14];exact c6_ _ _ _ _
           have hs14:W14.heap.size=w.heap.size:=by rw[←hW14];simp
           have hbsw:=hb.size;have HREP:=h_ (hnew.wider (l_ _) (show w.heap.size≤W14.heap.size by omega));have hB14:=h_ ((HBr.out.call hb).chg hch3 (by omega));have hb14:=h_ ((HBBr.out.trans (hb.mono (by omega))).trans (hch3.below (B:=w8.heap.size) hg1 (by omega)));have hl14:w9.heap.size<W14.heap.size:=by omega
           clear hnew hch3 hs14 hOw hiv hdj z1 z2;go_wp2;clear hW14 z3 z4;refine⟨⟨jb+1,by omega,by go_num,hb14.out,hB14.out,HREP.out,hl14⟩,?_⟩;simp[intOf];omega
         ·obtain rfl:jb=K:=by omega
          rw[c3q]at hO;have HB:=h_ hB;have HO:=h_ hO;have HBB:=h_ hb;have hjl:=HJL.out;clear hB hO hb;go_wp2;go_roundw
          case rel=>exact⟨ja+1,by omega,by go_num,HBB.out,HB.out,HO.out,hl3⟩
          case measure=>simp[intOf];omega
       ·obtain rfl:ja=yf:=by omega
        have hend:=HEND.out;rw[HOTH.out]at hend;rw[hend]at hO;have HB:=h_ hB;have HO:=h_ hO;have HBB:=h_ hb;have hatb:at_≤24:=by omega
        clear hB hO hb hend kr gWr;go_wp2;refine⟨⟨k+1,by omega,by go_num,by rw[HA1.out,HAT_.out];go_num,HBB.out,HB.out,HO.out,hl2⟩,?_⟩;simp[intOf];omega
     ·have hd:((nt:Int) != (n:Int))=true:=by rw[bne_iff_ne];exact hnt
      have htc:tch y.q n k=false:=by rw[HTC.out];simp;exact⟨by omega,by omega⟩
      have hcp:=c4Z (K:=K) (F:=F) htc em;have hA1:atN y n (k+1)=atN y n k:=by rw[atN,if_neg (by rw[htc];decide)]
      have HCP:=h_ hcp;have HA1:=h_ hA1;have HMRr:=h_ (MxR.next gWr hMR);have X0:=h_ (a7_ gWr hbm x0);have X1:=h_ (a7_ gWr hbm x1);have X2:=h_ (a7_ gWr hbm x2);have HMC:=h_ hmc;have KR:=h_ kr;have HB:=h_ hB;have HO:=h_ hO;have HBB:=h_ hb;obtain⟨at_,hat_⟩:=e_ (atN y n k);rw[hat_]at HA1⊢;have hbmr:bm<wr.heap.size:=by omega
      obtain⟨wa,hwa⟩:∃ z,z=wr:=⟨_,rfl⟩;subst hwa;clear hat_ hcp hA1 htc hnt hMR hsl hr1 hr2 x0 x1 x2 em ef et df dt eM hB hO hb kr HTC HXT HXM o1 o2 hne hmc t1;go_wp2;clear c5 c3 t1';refine a8_ (by kernel_rfl) [.eq (.pointer (some ⟨w9.heap.size,5,none⟩)),.eq (.slice (some ⟨gH,0,none⟩) y.q.f.length hm),.eq (.int .i64 k),.eq (.pointer (some ⟨w0.heap.size,5,none⟩)),.eq (.slice (some ⟨bm,om,none⟩) y.m.length hc),.eq (.int .i64 k),.eq (.pointer (some ⟨bm,om+k*3,none⟩)),.eq (.agg #[.int .i64 m.r,.int .i64 yf,.slice MB m.a.length mb]),rel 8 (fun u lo hi w=>MxO w lo hi u m),.eq (.pointer (some ⟨gH,k*3,none⟩))] [[],[0],[],[],[3],[],[3,4,5],[3,4,5,6],[3,4,5,6,7],[0,1,2,3,4,5,6,7,8],[0,1,2,3,4,5,6,7,8,9]] 10 (by kernel_rfl) ⟨trivial,trivial,trivial,trivial,trivial,trivial,trivial,trivial,a4_ (fun u lo hi w w' h hb=>h.below hb),trivial,trivial⟩ ⟨?_,?_,?_,?_,?_,?_,?_,?_,?_,?_,trivial⟩ ?_;iterate 10 (intro x w hb hk Q' hQ;have he:=k_e hk;simp only[k_s]at he;simp only[netE]at hQ⊢;(try simp only[he]at hQ⊢);(try clear he);rotate_left)
      rotate_left
      ·clear hk;go_wp2;exact hQ _ _ br_ rfl
      ·clear hk;have z:=(HB.out.call hb).cell' (i:=5) rfl;go_wp2;exact hQ _ _ br_ rfl
      iterate 2 (· clear hk;go_wp2;exact hQ _ _ br_ rfl)
      ·clear hk;have z:=(KR.out.call hb).cell' (i:=5) rfl;go_wp2;exact hQ _ _ br_ rfl
      iterate 2 (· clear hk;go_wp2;exact hQ _ _ br_ rfl)
      ·clear hk;have z0:=a7_ hb hbmr X0.out;have z1:=a7_ hb hbmr X1.out;have z2:=a7_ hb hbmr X2.out;go_wp2;exact hQ _ _ br_ rfl
      ·clear hk;go_wp2_with fail
       refine (D3_ _ m _ (by have:=MxR.next hb HMRr.out;rw[HMC.out]at this;exact this)).mono ?_;rintro e w6 ⟨v6,rfl,ho6,hb6⟩;go_wp2;exact hQ _ _ hb6 ho6
      ·clear hk;go_wp2;exact hQ _ _ br_ rfl
      ·intro x w hb hk hiv hdj;have h8:MxO w (x.lo 8) (x.hi 8) (x.v 8) m:=hk 8 (by decide);have he:=k_g hk [0,1,2,3,4,5,6,7,9];simp only[k_s]at he;simp only[netE,he];clear he hk;have i8:=hiv 8 (by decide);obtain⟨AM,am,e8⟩:=h8.form;rw[e8]at h8⊢;obtain⟨mr,hmr⟩:=e_ (m.r);obtain⟨mk,hmk⟩:=e_ (m.c);obtain⟨ml,hml3⟩:=e_ (m.a.length);rw[hmr,hmk,hml3]at h8⊢;have hOw:=HO.out.below hb;have hbs2:=hb.size;have o8:=h8.wider (lo':=wa.heap.size) (hi':=w.heap.size) i8.1 i8.2.2;have hset:=RepI.setMx hOw (j:=k) (by rw[d0_];exact hkn) o8 (l_ _) (by omega);obtain⟨W14,hW14⟩:=e_ (set3 w gH (k*3) (.int .i64 mr) (.int .i64 mk) (.slice AM ml am));rw[hW14]at hset;have hch3:Chg gH (gH+1) w W14:=by rw[←hW14];exact q1_ _ _ _ _ _ _
       have hs14:W14.heap.size=w.heap.size:=by rw[←hW14];simp
       have HREP:=h_ (show RepI W14 w8.heap.size W14.heap.size _ ⟨y.p,rvQ y.q n,rsD y n K,msF y.q.f.length (rsM y n K F (k+1))⟩ from by
        rw[←HCP.out];exact hset.1.wider (l_ _) (by omega))
       have hB14:=h_ ((HB.out.call hb).chg hch3 (.inr (by omega)));have hb14:=h_ ((HBB.out.trans (hb.mono (by omega))).trans (hch3.below (B:=w8.heap.size) hset.2.1 (by omega)));have hl14:w9.heap.size<W14.heap.size:=by omega
       obtain⟨g,c',s',e,_,_,z0,z1,z2,_,zf⟩:=hOw.mxAt (j:=k) (l2_ (by rw[d0_];exact hkn));simp only[Value.slice.injEq,Option.some.injEq,Addr.mk.injEq,and_true,true_and]at e;obtain⟨eg1,_,eg2⟩:=e;subst eg1;subst eg2;replace z0:∃ u,w.cell? ⟨gH,k*3,none⟩=some u:=⟨_,z0⟩;replace z1:∃ u,w.cell? ⟨gH,k*3+1,none⟩=some u:=⟨_,z1⟩;replace z2:∃ u,w.cell? ⟨gH,k*3+2,none⟩=some u:=⟨_,z2⟩;obtain⟨u0,z0⟩:=z0;obtain⟨u1,z1⟩:=z1;obtain⟨u2,z2⟩:=z2;clear hset hch3 hs14 hOw hmr hmk hml3 hiv hdj e8 o8 h8 i8;go_wp2;clear hW14 z0 z1 z2 zf;refine⟨⟨k+1,by omega,by go_num,by rw[HA1.out],hb14.out,hB14.out,HREP.out,hl14⟩,?_⟩;simp[intOf];omega
    ·obtain rfl:k=y.q.f.length:=by omega
     have kz:=k2.call gWr;have fr:=kz.frozen;obtain⟨s0,s1,s2,s3,s4,s5⟩:=c_6 kz;obtain⟨r0,r1,r2,r3,r4,r5⟩:=c_6 hB;have gf:=g0.trans (gWr.mono g0.size);have hc6:=chg6 wr (w0.heap.size+1) (.int .i64 y.p) (.int .i64 y.q.v) (.slice QA2 y.q.f.length qa2) (.slice QB2 y.q.f.length qb2) (.slice DA2 y.d.length dc2) (.slice HM y.q.f.length hm);have hw8:=G8.out.size;have OF:=h_ ((hO.chg hc6 (.inr (by have:=SZ.out;omega))).rd);have GF:=h_ (gf.trans (hc6.below (by omega) gf.size));have HRS:=h_ (d7X y n K F);clear hO hB kz gf hc6 hb kr gWr;go_wp2;have hE:=HE2.out;exact bodyPost_ret (v:=.tuple #[.agg #[.int .i64 y.p,.int .i64 y.q.v,.slice QA2 y.q.f.length qa2,.slice QB2 y.q.f.length qb2,.slice DA2 y.d.length dc2,.slice HM y.q.f.length hm],.bool true]) (by simp[results,go_sem,s0,s1,s2,s3,s4,s5]) rfl ⟨_,by rw[hE],by rw[hE,rfK,←HRS.out];exact OF.out,GF.out⟩
def pkS (F:Nat→Nat→Int) (o a b i j:Nat):Int:=if i<a∨(i=a∧j<b) then F i (o+j) else 0
theorem f8x (F:Nat→Nat→Int) (o r c:Nat):mxF r c (fun _ _=>0)=mxF r c (pkS F o 0 0):=r2_ fun i j _ _=>by simp[pkS]
theorem d5J {F:Nat→Nat→Int} {o r c a b:Nat} (ha:a<r) (hb:b<c):(flat r c (pkS F o a b)).set (a*c+b) (F a (o+b))=flat r c (pkS F o a (b+1)):=by
 rw[j8_ _ _ ha hb];refine c1_ fun i j _ _=>?_
 by_cases h:i=a∧j=b
 ·obtain⟨rfl,rfl⟩:=h;rw[if_pos ⟨rfl,rfl⟩,pkS,if_pos (by omega)]
 ·rw[if_neg h];unfold pkS;by_cases h2:i<a∨(i=a∧j<b)
  ·rw[if_pos h2,if_pos (by omega)]
  ·rw[if_neg h2,if_neg (by omega)]
theorem c3z (F:Nat→Nat→Int) (o r c a:Nat):mxF r c (pkS F o a c)=mxF r c (pkS F o (a+1) 0):=r2_ fun i j _ hj=>by
 unfold pkS;by_cases h2:i<a∨(i=a∧j<c)
 ·rw[if_pos h2,if_pos (by omega)]
 ·rw[if_neg h2,if_neg (by omega)]
theorem d8q (F:Nat→Nat→Int) (o r c:Nat):mxF r c (pkS F o r 0)=mxF r c fun a b=>F a (o+b):=r2_ fun i j hi _=>by
 rw[pkS,if_pos (.inl hi)]
def rsdD (x:Rp) (v:Int) (K:Nat):List Int:=x.d.set v.toNat K
def rsrM (x:Rp) (v:Int) (K:Nat) (F:Nat→Nat→Int) (k i:Nat):Mx:=if i<k then (if tch x.q v i=true then gSrc x v K F i else x.m.getD i mx0) else zmAt (rvQ x.q v) (rsdD x v K) i
def rsrI (x:Rp) (v:Int) (K:Nat) (F:Nat→Nat→Int) (k a b i:Nat):Mx:=if i=k then mxF K (othN x v k) (pkS F (atN x v k) a b) else rsrM x v K F k i
theorem c6z (x:Rp) (v:Int) (K:Nat) (F:Nat→Nat→Int):msF x.q.f.length (rsrM x v K F x.q.f.length)=msF x.q.f.length (rfM x v (gSrc x v K F) x.q.f.length):=i5_ fun i hi=>by
 rw[rsrM,if_pos hi,rfM];by_cases h:tch x.q v i=true
 ·rw[if_pos h,if_pos ⟨hi,h⟩]
 ·rw[if_neg h,if_neg fun e=>h e.2]
theorem b0Q {x:Rp} {v:Int} {K k:Nat} {F:Nat→Nat→Int} {m:Mx} (h:tch x.q v k=false) (hm:x.m[k]?=some m):(msF x.q.f.length (rsrM x v K F k)).set k m=msF x.q.f.length (rsrM x v K F (k+1)):=by
 rw[I8_];refine i5_ fun i _=>?_
 by_cases e:i=k
 ·subst e;rw[if_pos rfl,rsrM,if_pos (by omega),if_neg (by rw[h];decide),l1_,hm];rfl
 ·rw[if_neg e];unfold rsrM;by_cases e2:i<k
  ·rw[if_pos e2,if_pos (show i<k+1 by omega)]
  ·rw[if_neg e2,if_neg (show ¬ i<k+1 by omega)]
theorem f1q {x:Rp} {v:Int} {K k:Nat} {F:Nat→Nat→Int} (hz:zmAt (rvQ x.q v) (rsdD x v K) k=mxF K (othN x v k) fun _ _=>0):msF x.q.f.length (rsrM x v K F k)=msF x.q.f.length (rsrI x v K F k 0 0):=i5_ fun i _=>by
 unfold rsrI;by_cases e:i=k
 ·subst e;rw[if_pos rfl,rsrM,if_neg (by omega),hz,f8x]
 ·rw[if_neg e]
theorem d6j (x:Rp) (v:Int) (K k:Nat) (F:Nat→Nat→Int) (a b:Nat) (hk:k<x.q.f.length):(msF x.q.f.length (rsrI x v K F k a b))[k]?=some (mxF K (othN x v k) (pkS F (atN x v k) a b)):=by
 rw[x8_ _ hk,rsrI,if_pos rfl]
theorem c1Q {x:Rp} {v:Int} {K k:Nat} {F:Nat→Nat→Int} {a b:Nat} (ha:a<K) (hb:b<othN x v k) :
  (msF x.q.f.length (rsrI x v K F k a b)).set k ⟨(K:Int),(othN x v k:Int),(flat K (othN x v k) (pkS F (atN x v k) a b)).set (a*othN x v k+b) (F a (atN x v k+b))⟩=msF x.q.f.length (rsrI x v K F k a (b+1)):=by
 rw[I8_];refine i5_ fun i _=>?_
 unfold rsrI;by_cases e:i=k
 ·rw[if_pos e,if_pos e,d5J ha hb];rfl
 ·rw[if_neg e,if_neg e,if_neg e]
theorem b2z (x:Rp) (v:Int) (K k:Nat) (F:Nat→Nat→Int) (a:Nat):msF x.q.f.length (rsrI x v K F k a (othN x v k))=msF x.q.f.length (rsrI x v K F k (a+1) 0):=i5_ fun i _=>by
 unfold rsrI;by_cases e:i=k
 ·rw[if_pos e,if_pos e,c3z]
 ·rw[if_neg e,if_neg e]
theorem c3X {x:Rp} {v:Int} {K k:Nat} {F:Nat→Nat→Int} (h:tch x.q v k=true):msF x.q.f.length (rsrI x v K F k K 0)=msF x.q.f.length (rsrM x v K F (k+1)):=i5_ fun i _=>by
 unfold rsrI;by_cases e:i=k
 ·subst e;rw[if_pos rfl,rsrM,if_pos (by omega),if_pos h,d8q,gSrc]
 ·rw[if_neg e];unfold rsrM;by_cases e2:i<k
  ·rw[if_pos e2,if_pos (show i<k+1 by omega)]
  ·rw[if_neg e2,if_neg (show ¬ i<k+1 by omega)]
theorem f5q {x:Rp} {n k nt yt K:Nat} (hk:k<x.q.f.length) (hlt:x.q.f.length=x.q.t.length) (ef:x.q.f[k]?=some (n:Int)) (et:x.q.t[k]?=some (nt:Int)) (dt:x.d[nt]?=some (yt:Int)) (hne:nt≠n) (hn:n<x.d.length):zmAt (rvQ x.q (n:Int)) (rsdD x (n:Int) K) k=mxF K yt fun _ _=>0:=by
 have ht:tch x.q (n:Int) k=true:=by rw[p8_ ef et];simp
 have e1:(rvQ x.q (n:Int)).t.getD k 0=(n:Int):=by
  rw[rvQ,rvK,c9_ _ hk,rvT,if_pos ⟨hk,ht⟩,l1_,ef];rfl
 have e2:(rvQ x.q (n:Int)).f.getD k 0=(nt:Int):=by
  rw[rvQ,rvK,c9_ _ hk,rvF,if_pos ⟨hk,ht⟩,l1_,et];rfl
 have e3:dAt (rsdD x (n:Int) K) (nt:Int)=(yt:Int):=by
  rw[dAt,rsdD,l5_,l5_,l1_,List.getElem?_set,if_neg (by omega),dt];rfl
 have e4:dAt (rsdD x (n:Int) K) (n:Int)=(K:Int):=by
  rw[dAt,rsdD,l5_,l1_,List.getElem?_set,if_pos rfl,if_pos hn];rfl
 rw[zmAt,e1,e2,e3,e4,m6_]
theorem d4J {y:Rp} {n N D:Nat} {F0:Nat→Nat→Int} (hfld:f2_ y.p=true) (hdA:dAt y.d (n:Int)=(D:Int)) (hN:(outS y n D y.q.f.length).1=N) (hF:(outS y n D y.q.f.length).2=F0) (hin:InF y.p N D F0) :
  (srR y n).2=(rdTo y.p (rdTo y.p N F0 D).2.length (pvSF F0 (rdTo y.p N F0 D).2) N).2 ∧
  mxF (srK y n) N (srF y n)=mxF (b2_ (rdTo y.p (rdTo y.p N F0 D).2.length (pvSF F0 (rdTo y.p N F0 D).2) N).2 N).length N (fun a j=>kvG y.p (rdTo y.p (rdTo y.p N F0 D).2.length (pvSF F0 (rdTo y.p N F0 D).2) N).1 (rdTo y.p (rdTo y.p N F0 D).2.length (pvSF F0 (rdTo y.p N F0 D).2) N).2 ((b2_ (rdTo y.p (rdTo y.p N F0 D).2.length (pvSF F0 (rdTo y.p N F0 D).2) N).2 N).getD a 0).toNat (rdTo y.p (rdTo y.p N F0 D).2.length (pvSF F0 (rdTo y.p N F0 D).2) N).2.length j)∧srRN y n=N:=by
 have hp2:=(f4_ hfld).1;have hsn:srRN y n=N:=by rw[srRN,hdA,l5_,hN]
 have hsr:srR y n=rdTo y.p D (trF F0) N:=by rw[srR,hsn,hdA,l5_,hF]
 obtain⟨e1,e2⟩:=d8x hfld hp2 hin;obtain⟨g1,hg1⟩:=e_ ((rdTo y.p (rdTo y.p N F0 D).2.length (pvSF F0 (rdTo y.p N F0 D).2) N).1);obtain⟨ps,hps⟩:=e_ ((rdTo y.p (rdTo y.p N F0 D).2.length (pvSF F0 (rdTo y.p N F0 D).2) N).2);have hpiv:=S6_ hfld hp2 (O3_ hin);have hgf:=p6_ hp2 (O3_ hin) N;rw[hps]at e1;rw[hg1]at e2;rw[e1]at e2 hpiv;have hK:srK y n=(b2_ ps N).length:=by rw[srK,hsr,hsn,e1]
 rw[hg1,hps];refine⟨by rw[hsr,e1],?_,hsn⟩;rw[hK];refine r2_ fun a j ha hj=>?_
 rw[srF,hsr,hsn,e1,pjF];obtain⟨x,hx⟩:∃ x,(b2_ ps N)[a]?=some x:=⟨_,l2_ ha⟩;obtain⟨k,rfl,hk,hkn⟩:=y4_ hx;rw[l1_,hx];simp only[Option.getD_some,l5_];rw[d0j hp2 hgf hpiv hk hkn];have hcong:∀ m,m≤ps.length→kvG y.p (rdTo y.p D (trF F0) N).1 ps k m j=kvG y.p g1 ps k m j:=by
  intro m;induction m with
  | zero=>intro _;rfl
  | succ m ih =>
   intro hm;rw[kvG,kvG,ih (by omega),e2 m (by omega) k hk]
 exact hcong _ (l_ _)
theorem b3X (k c:Nat) (f:Nat→Nat→Int):flat k c f ++ rowF c (f k)=flat (k+1) c f:=by
 refine v4_ (by rw[List.length_append,a0_,a1_,Nat.add_mul,Nat.one_mul]) fun i j hi hj=>?_
 by_cases h:i<k
 ·have h1:i*c+j<k*c:=by
   have:(i+1)*c≤k*c:=Nat.mul_le_mul_right _ h;rw[Nat.add_mul,Nat.one_mul]at this;omega
  rw[List.getElem?_append_left (by rw[a0_];exact h1),j0_ f h hj]
 ·obtain rfl:i=k:=by omega
  rw[List.getElem?_append_right (by rw[a0_];omega),a0_,show i*c+j-i*c=j by omega,d1_ _ hj]
theorem f1x (c:Nat) (f:Nat→Nat→Int):flat 0 c f=[]:=by
 have:=a0_ 0 c f;rw[Nat.zero_mul]at this;exact m1_ this
theorem a8j (u:Value) (r c:Nat) (f:Nat→Nat→Int) (w0:World) (hr:r≤1000) (hc:c≤1000) (hu:SlII w0 w0.heap.size u (b5_ r c f)) :
  Calls Tryz.prog 100 #[.int .i64 c,u] w0 fun e w'=>∃ v,e = .returned v∧MxO w' w0.heap.size w'.heap.size v (mxF r c f)∧Below w0.heap.size w0 w':=by
 have hu1:=hu;obtain⟨UA,uc,rfl,_⟩:=hu1;rw[a3_]at hu⊢;have HU:=h_ hu;clear hu;go_enter Tryz.func100,Tryz.ntmps100
 go_wp2;obtain⟨W,hW⟩:=e_ (((w0.alloc (.cells #[.int .i64 0,.int .i64 0,.slice none 0 0] 41)).alloc (.cells #[.int .i64 r,.int .i64 c,.slice none 0 0] 41)));have g0:Below w0.heap.size w0 W:=by rw[←hW];exact ((Below.refl _ _).alloc (l_ _) _).alloc (by simp) _
 have k1:Blk W w0.heap.size 41 #[.int .i64 0,.int .i64 0,.slice none 0 0]:=by rw[←hW];exact (Blk.new _ _ _).alloc _
 have k2:Blk W (w0.heap.size+1) 41 #[.int .i64 r,.int .i64 c,.slice none 0 0]:=by
  rw[←hW];have:=Blk.new (w0.alloc (.cells #[.int .i64 0,.int .i64 0,.slice none 0 0] 41)) 41 #[.int .i64 r,.int .i64 c,.slice none 0 0];simpa only[l3_] using this
 have sW:W.heap.size=w0.heap.size+1+1:=by rw[←hW];simp
 rw[hW];clear hW;have HUL:=h_ (a3_ r c f);go_loopw [6] (fun i wr=>∃ (k:Nat) (OA:Option Addr) (on oc:Nat),k≤r∧i = .int .i64 k∧Blk wr (w0.heap.size+1) 41 #[.int .i64 r,.int .i64 c,.slice OA on oc]∧OwnI wr W.heap.size (.slice OA on oc) (flat k c f)∧Below w0.heap.size w0 wr∧W.heap.size≤wr.heap.size∧Blk wr w0.heap.size 41 #[.int .i64 0,.int .i64 0,.slice none 0 0]) (fun i _=>r-(intOf i).toNat)
 case atStart=>exact⟨0,none,0,0,l0_ _,rfl,k2,by rw[f1x];exact OwnI.nil _ _,g0,l_ _,k1⟩
 case round =>
  clear g0 k1 k2;obtain⟨k,OA,on,oc,hk,rfl,hB,hO,hb,hs,hB1⟩:=hrel;by_cases hlt:k<r
  ·have hur:=SlII.next hb HU.out;obtain⟨bu,ou,l,LA,lc,rfl,hbu,HL,u1,hl⟩:=SlII.at_ (k:=k) (xs:=b5_ r c f) (by rw[a3_];exact hur) (by rw[a3_];exact hlt);have hle:=HL.out;rw[g2_ _ hlt]at hle;injection hle with hle
   subst hle;rw[a1_]at u1;rw[a1_]at hl;have HLL:=h_ hl;have U1:=h_ u1;have HB:=h_ hB;have HB1:=h_ hB1;have HO:=h_ hO;have Hb:=h_ hb;have hsz:r*c≤1000000:=Nat.mul_le_mul hr hc;have hkc:(k+1)*c≤r*c:=Nat.mul_le_mul_right _ hlt;have hfl:(flat k c f).length+c≤1000000:=by rw[a0_];rw[Nat.add_mul,Nat.one_mul]at hkc;omega
   have HFL:=h_ hfl;clear hB hB1 hO hb hur HL u1 hl hsz hkc hfl;go_wp2;obtain⟨wx,hwx⟩:∃ z,z=wr:=⟨_,rfl⟩;subst hwx;refine a8_ (by kernel_rfl) [.eq (.pointer (some ⟨w0.heap.size+1,2,none⟩)),.eq (.slice OA on oc),.eq (.slice (some ⟨bu,ou,none⟩) r uc),.eq (.int .i64 k),.eq (.pointer (some ⟨bu,ou+k,none⟩)),.eq (.slice LA c lc)] [[],[0],[],[],[2,3],[2,3,4],[0,1,2,3,4,5],[0,1,2,3,4,5,6],[0,1,2,3,4,5,6,7]] 6 (by kernel_rfl) ⟨trivial,trivial,trivial,trivial,trivial,trivial,trivial⟩ ⟨?_,?_,?_,?_,?_,?_,trivial⟩ ?_;iterate 6 (intro x w hb hk Q' hQ;have he:=k_e hk;simp only[k_s]at he;simp only[netE]at hQ⊢;(try simp only[he]at hQ⊢);(try clear he);rotate_left)
   rotate_left
   ·clear hk;go_wp2;exact hQ _ _ br_ rfl
   ·clear hk;have z:=(HB.out.call hb).cell' (i:=2) rfl;go_wp2;exact hQ _ _ br_ rfl
   iterate 3 (· clear hk;go_wp2;exact hQ _ _ br_ rfl)
   ·clear hk;have z:=a7_ hb hbu U1.out;go_wp2;exact hQ _ _ br_ rfl
   ·intro x w hb hk hiv hdj;have he:=k_g hk [0,1,2,3,4,5];simp only[k_s]at he;simp only[netE,he];clear he hk;refine c3_ (by rfl) (.tmp 18) (.tmp 22) (by rfl) W.heap.size wx.heap.size _ (flat k c f) (by rfl) (HO.out.below hb) LA c lc (rowF c (f k)) (by rfl) (a1_ _ _).symm (by rw[a1_];exact SlI.below hb HLL.out) (by rw[a1_];have:=HFL.out;omega) (Nat.le_trans hs hb.size) ?_;intro v' w' ho' hg' _;rw[b3X]at ho';obtain⟨OA',oc',rfl,_⟩:=ho'.form;have hOb:=HO.out.below hb;have hk2:=(HB.out.call hb).grown hg' (hOb.blkne (HB.out.call hb) (by decide));have hk1:=(HB1.out.call hb).grown hg' (hOb.blkne (HB1.out.call hb) (by decide));have hb2:Below w0.heap.size w0 w':=(Hb.out.trans (hb.mono Hb.out.size)).grown hg' (Nat.le_trans Hb.out.size hb.size) fun j hj=>by have:=(hOb.lt j hj).1;omega
    have hs2:W.heap.size≤w'.heap.size:=Nat.le_trans hs (Nat.le_trans hb.size hg'.size);have n2:=ho'.blkne hk2 (by decide);have fr:=hk2.frozen;have z2:=hk2.cell' (i:=2) rfl;obtain⟨W',hW'⟩:=e_ (w'.setCell ⟨w0.heap.size+1,2,none⟩ (.slice OA' (flat (k+1) c f).length oc'));have hc':Chg (w0.heap.size+1) (w0.heap.size+1+1) w' W':=by rw[←hW'];exact b4_ (l_ _) (m0_ _)
    have H2:Hid (Blk W' (w0.heap.size+1) 41 #[.int .i64 r,.int .i64 c,.slice OA' (flat (k+1) c f).length oc']):=by show Blk _ _ _ _;rw[←hW'];exact hk2.set_ 2 _
    have H1:=h_ (hk1.chg hc' (.inl (by omega)));have HO2:Hid (OwnI W' W.heap.size (.slice OA' (flat (k+1) c f).length oc') (flat (k+1) c f)):=by
     show OwnI _ _ _ _;rw[←hW'];exact ho'.setCell (by intro e;exact n2 e.symm) _
    have HB2:=h_ (hb2.trans (hc'.below (by omega) (by omega)));have hs3:W.heap.size≤W'.heap.size:=Nat.le_trans hs2 hc'.size;clear ho' hg' hk2 hk1 hb2 hOb n2 hc' hiv hdj HO HB HB1 Hb HLL;go_wp2;clear hW' z2 fr;go_roundw
    case rel=>exact⟨k+1,OA',_,oc',by omega,by go_num,H2.out,HO2.out,HB2.out,hs3,H1.out⟩
    case measure=>simp[intOf];omega
  ·obtain rfl:k=r:=by omega
   have hn:on=(flat k c f).length:=by obtain⟨_,_,e,_⟩:=hO.form;injection e
   subst hn;have fr:=hB1.frozen;obtain⟨z0,z1,z2⟩:=c_3 hB1;obtain⟨y0,y1,y2⟩:=c_3 hB;have n1:=hO.blkne hB1 (by decide);have hc2:=(((c6_ wr w0.heap.size 0 (.int .i64 k)).trans (c6_ _ w0.heap.size 1 (.int .i64 c))).trans (c6_ _ w0.heap.size 2 (.slice OA (flat k c f).length oc)));have OF:=h_ (((a9_.of_own hO).chg hc2 (.inr (by omega))).wider (lo':=w0.heap.size) (hi':=wr.heap.size) (by omega) (l_ _));have GF:=h_ (hb.trans (hc2.below (l_ _) hb.size));clear hO hb hB hB1 hc2 n1;go_wp2;exact bodyPost_ret (v:=.agg #[.int .i64 k,.int .i64 c,.slice OA (flat k c f).length oc]) (by simp[results,go_sem,z0,z1,z2]) rfl ⟨_,rfl,⟨_,rfl,by simpa [mxF] using OF.out,by simp only[mxF];unfold I64;omega,by simp only[mxF];unfold I64;omega⟩,GF.out⟩
theorem Y7_ (p:Int) (u:Value) (r c:Nat) (f:Nat→Nat→Int) (w0:World) (hp:f2_ p=true) (hr:r≤1000) (hc:c≤1000) (hu:MxR w0 w0.heap.size u (mxF r c f)) (hf:InF p r c f) :
  Calls Tryz.prog 99 #[.int .i64 p,u] w0 fun e w'=>∃ v,e = .returned v∧b1_ w' w0.heap.size w'.heap.size v (b5_ (rdTo p r f c).2.length c (rdTo p r f c).1)∧Below w0.heap.size w0 w':=by
 have hpr:=f4_ hp;have hu':=hu;obtain⟨UA,uc,rfl⟩:=hu.form;simp only[mxF]at hu hu'⊢;rw[a0_]at hu hu'⊢;obtain⟨UL,hUL⟩:=e_ (r*c);rw[hUL]at hu hu'⊢;have HUL:=h_ hUL;clear hUL hu;obtain⟨W,hW,g0,kB⟩:=b_3 w0 #[.int .i64 r,.int .i64 c,.slice UA UL uc] 41;have HU:=h_ (MxR.next g0 hu');have HF:=h_ hf;have HP:=h_ hp;have sW:W.heap.size=w0.heap.size+1:=by rw[hW];simp
 have SW:=h_ sW;obtain⟨c0,c1,c2⟩:=c_3 kB;clear hu' hf hp sW;go_enter Tryz.func99,Tryz.ntmps99
 go_wp2_with fail
 rw[←hW];clear hW;refine (p2_ p _ r c f _ HP.out hr hc HU.out HF.out).mono ?_;rintro e w1 ⟨m,v,rfl,hM,hI,hb1⟩;have hpl:=f6_ p r f c;obtain⟨g,hg⟩:=e_ ((rdTo p r f c).1);obtain⟨ps,hps⟩:=e_ ((rdTo p r f c).2);rw[hg]at hM;rw[hps]at hI hpl;have HG:=h_ hg;have HPS:=h_ hps;clear hg hps;obtain⟨MA,mc,em⟩:=hM.form;obtain⟨PA,pc,ev⟩:=hI.form;subst em ev;simp only[mxF]at hM⊢;rw[a0_]at hM⊢;rw[HUL.out]at hM⊢;obtain⟨pn,hpn⟩:=e_ (ps.length);rw[hpn]at hI hpl⊢;have HPN:=h_ hpn;clear hpn c0 c1 c2;obtain⟨W2,hW2,ga,kM⟩:=b_1 w1 #[.int .i64 r,.int .i64 c,.slice MA UL mc] 41;have g12:=a6_ hb1 ga;have s12:=g12.size;have sa:W2.heap.size=w1.heap.size+1:=by rw[←hW2];simp
 obtain⟨W3,hW3⟩:=e_ (W2.alloc (.cells #[] 24));have gb:Below W2.heap.size W2 W3:=by rw[←hW3];exact a2_ _ _
 have hO3:b1_ W3 W2.heap.size W3.heap.size (.slice (some ⟨W2.heap.size,0,none⟩) 0 0) (b5_ 0 c g):=by rw[←hW3];simpa [b5_] using b1_.made0 _ (l_ _)
 have HM2:=h_ (hM.below ga).rd;have G2:=h_ (a6_ g0 g12);have sb:=gb.size;have lM:=kM.lt;clear hM hI ga hb1 g12 g0 kB;go_wp2;clear hW2 hW3;go_loopw [7,8] (fun out i wr=>∃ (k:Nat) (OA:Option Addr) (on oc:Nat),k≤pn∧i = .int .i64 k∧out = .slice OA on oc∧b1_ wr W2.heap.size wr.heap.size (.slice OA on oc) (b5_ k c g)∧Below W2.heap.size W2 wr) (fun _ i _=>pn-(intOf i).toNat)
 case atStart=>exact⟨0,_,_,_,l0_ _,rfl,rfl,by have:=hO3;rw[sa]at this⊢;exact this,gb⟩
 case round =>
  clear hO3 gb;obtain⟨k,OA,on,oc,hk,rfl,rfl,hO,hb⟩:=hrel;have s3:=hb.size;have kMr:=kM.call hb;have m1:=kMr.cell' (i:=1) rfl;have m2:=kMr.cell' (i:=2) rfl;by_cases hlt:k<pn
  ·have hkr:k<r:=by omega
   obtain⟨P,hP⟩:∃ P,P=k*c:=⟨_,rfl⟩;have hkc:(k+1)*c≤r*c:=Nat.mul_le_mul_right _ hkr;rw[Nat.add_mul,Nat.one_mul,HUL.out,←hP]at hkc;have hrc:r*c≤1000000:=Nat.mul_le_mul hr hc;rw[HUL.out]at hrc;have hPw:∀ [Inhabited Unit],wrap64 ((k:Int)*(c:Int))=(P:Int):=fun {_}=>by
    rw[hP,←Int.natCast_mul];exact IntWalk.wrap64_in _ ⟨by rw[←hP];omega,by rw[←hP];omega⟩
   obtain⟨_,_,ema,hMs,_,_,_⟩:=(MxR.next hb HM2.out).open_;simp only[Value.agg.injEq,Array.mk.injEq,List.cons.injEq,and_true,true_and,Value.slice.injEq]at ema;obtain⟨eMA,eUL,emc⟩:=ema;subst eMA emc;have hml:UL≤mc:=by
    obtain⟨_,c',e',h1,_⟩:=hMs;injection e' with _ _ e3
    subst e3;rw[eUL];exact h1
   rw[←eUL]at hMs;obtain⟨A',eA',hcut⟩:∃ A',(if mc=P then MA else MA.map (·.add (P*1)))=A'∧SlG 1 RI wr wr.heap.size (.slice A' (P+c-P) (mc-P)) (((flat r c g).drop P).take (P+c-P)):=SlG.cut (i:=P) (k:=P+c) (xs:=flat r c g) (by rw[a0_,HUL.out];exact hMs) (by omega) (by rw[a0_,HUL.out];omega);clear eUL;rw[show P+c-P=c by omega]at hcut;have hrow:((flat r c g).drop P).take c=rowF c (g k):=by
    apply List.ext_getElem?
    intro j;rw[List.getElem?_take,List.getElem?_drop];by_cases hj:j<c
    ·rw[if_pos hj,hP,j0_ g hkr hj,d1_ _ hj]
    ·rw[if_neg hj,l6_ (by rw[a1_];omega)]
   rw[hrow]at hcut;have hcut2:SlG 1 RI wr wr.heap.size (.slice (MA.map fun x=>x.add P) c (mc-P)) (rowF c (g k)):=by
    rw[Nat.mul_one]at eA';by_cases hmp:mc=P
    ·obtain rfl:c=0:=by omega
     refine⟨_,mc-P,rfl,by simp[rowF],?_,by simp[rowF],fun h=>absurd h (by simp[rowF])⟩;obtain⟨_,_,e,_,h,_⟩:=hcut;injection e with _ _ e;omega
    ·rw[if_neg hmp]at eA';rw[eA'];exact hcut
   have HC:=h_ hcut2;have HO:=h_ hO;have HB:=h_ hb;clear hcut hcut2 eA' hO hb hMs hrow hP kMr;obtain⟨X,hX,bX,gx,hgx,kX⟩:=b_2 wr #[] 3;have HCX:=h_ (SlI.next bX HC.out);have HBX:=h_ (HB.out.trans (bX.mono HB.out.size));have HOX:=h_ (HO.out.below bX);have kMX:=kM.call HBX.out;have m1x:=kMX.cell' (i:=1) rfl;have m2x:=kMX.cell' (i:=2) rfl;clear m1 m2 kMX bX
   (go_wp2_with (at_builtin;refine Hold.stop ?_));unfold Hold
   clear hX m1x m2x hPw;refine c5_ (by rfl) (.tmp 23) (.tmp 37) (by rfl) gx gx X.heap.size #[] (by rfl) kX rfl (l_ _) _ (mc-P) (rowF c (g k)) (by rw[a1_];rfl) (by rw[a1_];exact HCX.out) ?_;intro v6 w6 ho6 hb6;obtain⟨RA,rc,ev,_⟩:=ho6.form;subst ev;rw[a1_]at ho6⊢;obtain⟨Z,hZ⟩:=e_ (w6.alloc (.cells #[.slice RA c rc] 24));obtain⟨gz,hgz⟩:=e_ (w6.heap.size);have bZ:Below w6.heap.size w6 Z:=by rw[←hZ];exact a2_ _ _
   have kZ:Blk Z gz 24 #[.slice RA c rc]:=by rw[←hZ,←hgz];exact Blk.new _ _ _
   have s6:=hb6.size;have sZ:=bZ.size;have sX:wr.heap.size≤X.heap.size:=by have:=HBX.out.size;have:=kX.lt;omega
   have sX0:W2.heap.size≤gx:=by omega
   have HOZ:=h_ ((HOX.out.below hb6).below bZ);have HRZ:=h_ ((a9_.of_own ho6).below bZ);have HBZ:=h_ ((HBX.out.trans (hb6.mono (by omega))).trans (bZ.mono (by omega)));have C0:=h_ (kZ.cell' (i:=0) rfl);have hgz2:w6.heap.size≤gz:=Nat.le_of_eq hgz;have hgz3:gz≤w6.heap.size:=Nat.le_of_eq hgz.symm;clear ho6 hb6 bZ kZ
   (go_wp2_with (at_builtin;refine Hold.stop ?_));unfold Hold
   clear hZ hgz;refine n1_ (by rfl) (.tmp 22) (.tmp 39) (by rfl) W2.heap.size _ gx w6.heap.size _ _ _ (by rfl) HOZ.out (some ⟨gz,0,none⟩) 1 _ (by rfl) ⟨_,_,rfl,C0.out⟩ HRZ.out (by omega) (by omega) (by omega) (by rw[a3_];omega) (by omega) (by omega) ?_;intro v' w' h1 h2 h3;have hsn:=n2_ k c g;rw[←hsn]at h1;obtain⟨A2,c2',ev',_⟩:=h1.form2;subst ev';have H1:=h_ h1;have H2:=h_ (HBZ.out.trans h2);clear h1 h2 h3 hsn;go_wp2;go_roundw
   case rel=>exact⟨k+1,A2,_,c2',by omega,by go_num,rfl,H1.out,H2.out⟩
   case measure=>simp[intOf];omega
  ·obtain rfl:k=pn:=by omega
   have HOF:=h_ hO;have GF:=h_ (a6_ G2.out hb);have sz:=SW.out;have s5:=s12;clear hO hb;go_wp2;go_ret
   exact⟨_,rfl,by rw[HPS.out,HG.out,HPN.out];exact HOF.out.wider (by omega) (l_ _),GF.out⟩
theorem a5x (p:Int) (u:Value) (r c:Nat) (f:Nat→Nat→Int) (w0:World) (hp:f2_ p=true) (hr:r≤1000) (hc:c≤1000) (hu:SlII w0 w0.heap.size u (b5_ r c f)) (hf:InF p r c f) :
  Calls Tryz.prog 57 #[.int .i64 p,.int .i64 c,u] w0 fun e w'=>∃ v,e = .returned (.agg #[.int .i64 c,v])∧b1_ w' w0.heap.size w'.heap.size v (b5_ (rdTo p r f c).2.length c (rdTo p r f c).1)∧Below w0.heap.size w0 w':=by
 obtain⟨W,hW,g0,kR⟩:=b_3 w0 #[.int .i64 0,.slice none 0 0] 65;have sW:W.heap.size=w0.heap.size+1:=by rw[hW];simp
 have HU:=h_ (SlII.next g0 hu);have HF:=h_ hf;have HP:=h_ hp;clear hu hf hp;go_enter Tryz.func57,Tryz.ntmps57
 go_wp2_with fail
 rw[←hW];clear hW;refine (a8j _ r c f _ hr hc HU.out).mono ?_;rintro e w1 ⟨v1,rfl,hM,hb1⟩;have HM:=h_ hM.rd;have g1:=a6_ g0 hb1;have kR1:=kR.call hb1;clear hM hb1;go_wp2_with fail
 refine (Y7_ p _ r c f _ HP.out hr hc HM.out HF.out).mono ?_;rintro e w2 ⟨v,rfl,hI,hb2⟩;obtain⟨VA,vc,ev,_⟩:=hI.form2;subst ev;rw[a3_]at hI⊢;have kz:=kR1.call hb2;have fr:=kz.frozen;have z0:=kz.cell' (i:=0) rfl;have z1:=kz.cell' (i:=1) rfl;have g2:=a6_ g1 hb2;have s1:=g1.size;obtain⟨n,hn⟩:=e_ ((rdTo p r f c).2.length);rw[hn]at hI;rw[hn];have HN:=h_ hn;clear hn;have hc2:Chg w0.heap.size (w0.heap.size+1) w2 ((w2.setCell ⟨w0.heap.size,0,none⟩ (.int .i64 c)).setCell ⟨w0.heap.size,1,none⟩ (.slice VA n vc)):=(c6_ _ _ _ _).trans (c6_ _ _ _ _);have s2:=kR1.lt;have OF:=h_ ((hI.chg hc2 (.inr (by omega))).wider (lo':=w0.heap.size) (hi':=w2.heap.size) (by omega) (l_ _));have GF:=h_ (g2.trans (hc2.below (l_ _) g2.size));clear hI kz g2 hc2 hb2;go_wp2;exact bodyPost_ret (v:=.agg #[.int .i64 c,.slice VA n vc]) (by simp[results,go_sem,z0,z1]) rfl ⟨_,rfl,by rw[HN.out];simpa using OF.out,GF.out⟩
theorem R7_ {w w':World} {G:Nat} (h:Below G w w'):Chg G w.heap.size w w':=⟨h.os,h.tape,h.output,h.size,fun k hk hn=>h.block k (by omega)⟩
theorem f4x (n:Nat) (f:Nat→Int):rowF (n+1) f=rowF n f ++ [f n]:=by simp[rowF,List.range_succ]
theorem d3Q {w:World} {g:Nat} {x:Int} (hk:Blk w g 3 #[.int .i64 x]) (hx:I64 x):SlI w w.heap.size (.slice (some ⟨g,0,none⟩) 1 1) [x]:=by
 refine⟨_,1,rfl,by simp,by omega,by simp,fun _=>⟨g,0,rfl,hk.lt,fun j y hj=>?_⟩⟩
 match j,hj with
 | 0,hj =>
  simp at hj;subst hj;exact⟨by rw[hk.cell];rfl,hx⟩
 | j+1,hj=>simp at hj
theorem Z6_ (p:Int) (u:Value) (r c:Nat) (f:Nat→Nat→Int) (w0:World) (hp:f2_ p=true) (hr:r≤1000) (hc:c≤1000) (hu:MxR w0 w0.heap.size u (mxF r c f)) (hf:InF p r c f) :
  Calls Tryz.prog 58 #[.int .i64 p,u] w0 fun e w'=>∃ v,e = .returned v∧b1_ w' w0.heap.size w'.heap.size v (b5_ (rdTo p r f c).2.length r (pvSF f (rdTo p r f c).2))∧Below w0.heap.size w0 w':=by
 have hpr:=f4_ hp;have hu':=hu;obtain⟨UA,uc,rfl⟩:=hu.form;simp only[mxF]at hu hu'⊢;rw[a0_]at hu hu'⊢;obtain⟨UL,hUL⟩:=e_ (r*c);rw[hUL]at hu hu'⊢;have HUL:=h_ hUL;clear hUL hu;obtain⟨W,hW,g0,kB⟩:=b_3 w0 #[.int .i64 r,.int .i64 c,.slice UA UL uc] 41;have HU:=h_ (MxR.next g0 hu');have HF:=h_ hf;have HP:=h_ hp;have sW:W.heap.size=w0.heap.size+1:=by rw[hW];simp
 have SW:=h_ sW;obtain⟨c0,c1,c2⟩:=c_3 kB;clear hu' hf hp sW;go_enter Tryz.func58,Tryz.ntmps58
 go_wp2_with fail
 rw[←hW];clear hW;refine (p2_ p _ r c f _ HP.out hr hc HU.out HF.out).mono ?_;rintro e w1 ⟨m,v,rfl,hM,hI,hb1⟩;have HPS:=h_ (d8Z HP.out hpr.1 HF.out);have hpl:=f6_ p r f c;obtain⟨ps,hps⟩:=e_ ((rdTo p r f c).2);rw[hps]at hI hpl HPS;have HPSE:=h_ hps;clear hps;obtain⟨MA,mc,em⟩:=hM.form;obtain⟨PA,pc,ev⟩:=hI.form;subst em ev;simp only[mxF]at hM⊢;rw[a0_]at hM⊢;rw[HUL.out]at hM⊢;obtain⟨pn,hpn⟩:=e_ (ps.length);rw[hpn]at hI hpl⊢;have HPN:=h_ hpn;clear hpn c0 c1 c2;obtain⟨W2,hW2⟩:=e_ (w1.alloc (.cells #[.int .i64 r,.int .i64 c,.slice MA UL mc] 41));have ga:Below w1.heap.size w1 W2:=by rw[←hW2];exact a2_ _ _
 have g12:=a6_ hb1 ga;have s12:=g12.size;have sa:W2.heap.size=w1.heap.size+1:=by rw[←hW2];simp
 obtain⟨W3,hW3⟩:=e_ (W2.alloc (.cells #[] 24));have gb:Below W2.heap.size W2 W3:=by rw[←hW3];exact a2_ _ _
 have hO3:b1_ W3 W2.heap.size W3.heap.size (.slice (some ⟨W2.heap.size,0,none⟩) 0 0) (b5_ 0 r (pvSF f ps)):=by rw[←hW3];simpa [b5_] using b1_.made0 _ (l_ _)
 have HI2:=h_ (hI.below ga).rd;have HU2:=h_ (MxR.next g12 HU.out);have KB:=h_ (kB.call g12);have G2:=h_ (a6_ g0 g12);have sb:=gb.size;clear hM hI ga hb1 g12 g0 kB;go_wp2;clear hW2 hW3;go_loopw [7,8] (fun out i wr=>∃ (k:Nat) (OA:Option Addr) (on oc:Nat),k≤pn∧i = .int .i64 k∧out = .slice OA on oc∧b1_ wr W2.heap.size wr.heap.size (.slice OA on oc) (b5_ k r (pvSF f ps))∧Below W2.heap.size W2 wr) (fun _ i _=>pn-(intOf i).toNat)
 case atStart=>exact⟨0,_,_,_,l0_ _,rfl,rfl,by have:=hO3;rw[sa]at this⊢;exact this,gb⟩
 case round =>
  clear hO3 gb;obtain⟨k,OA,on,oc,hk,rfl,rfl,hO,hb⟩:=hrel;have s3:=hb.size;by_cases hlt:k<pn
  ·obtain⟨bp,op,x,ep,hbp,HXP,p1,_⟩:=SlI.atM (k:=k) HI2.out HPN.out hlt;subst ep;obtain⟨pk,rfl,hpk⟩:=HPS.out k x HXP.out;have hpv:Hid (∀ b,pvSF f ps k b=f b pk):=fun b=>by rw[pvSF,l1_,HXP.out];rfl
   obtain⟨X,hX⟩:=e_ (wr.alloc (.cells #[] 3));have bX:Below wr.heap.size wr X:=by rw[←hX];exact a2_ _ _
   obtain⟨G,hG⟩:=e_ (wr.heap.size);have hV:OwnI X G (.slice (some ⟨G,0,none⟩) 0 0) (rowF 0 (pvSF f ps k)):=by rw[←hX,←hG];simpa [rowF] using OwnI.made (w:=wr) (base:=wr.heap.size) 3 rfl (l_ _)
   have hOX:=hO.below bX;rw[hG]at hOX;have hBX:=hb.trans (bX.mono s3);have hsX:G≤X.heap.size:=by have:=bX.size;omega
   have hGW:W2.heap.size≤G:=by omega
   have P1:=h_ p1;clear hO hb bX p1 HXP;go_wp2;clear hX hG;go_loopw [9,10] (fun vv j wr=>∃ (m:Nat) (VA:Option Addr) (vc:Nat),m≤r∧j = .int .i64 m∧vv = .slice VA m vc∧OwnI wr G (.slice VA m vc) (rowF m (pvSF f ps k))∧b1_ wr W2.heap.size G (.slice OA on oc) (b5_ k r (pvSF f ps))∧Below W2.heap.size W2 wr∧G≤wr.heap.size) (fun _ j _=>r-(intOf j).toNat)
   case atStart=>exact⟨0,_,0,l0_ _,rfl,rfl,hV,hOX,hBX,hsX⟩
   case round =>
    clear hV hOX hBX hsX s3;obtain⟨m,VA,vc,hm,rfl,rfl,hV,hO,hb,hG⟩:=hrel;have s4:=hb.size;have kBr:=KB.out.call hb;have m0:=kBr.cell' (i:=0) rfl;by_cases hml:m<r
    ·obtain⟨P,hP⟩:∃ P,P=m*c:=⟨_,rfl⟩;have hPw:=h_ (ixP (i:=m) (k:=pk) hml hpk hr hc hP);obtain⟨d1,d2,d3⟩:=rowP (i:=m) (k:=pk) (r:=r) (c:=c) hml hpk hr hc hP;rw[HUL.out]at d1 d2 d3;have hU:(flat r c f)[P+pk]?=some (f m pk):=by rw[hP];exact j0_ f hml hpk
     obtain⟨_,_,ema,hMs,_,_,_⟩:=HU2.out.open_;simp only[Value.agg.injEq,Array.mk.injEq,List.cons.injEq,and_true,true_and,Value.slice.injEq]at ema;obtain⟨eMA,eUL,emc⟩:=ema;subst eMA emc;rw[←eUL]at hMs;clear eUL;obtain⟨bm,om,x',em,hbm,HXM,x1,hx1,hx2⟩:=SlI.atM (k:=P+pk) hMs (by simp only[a0_];exact HUL.out) d1;subst em;have hx':=HXM.out;simp only at hx';rw[hU]at hx';injection hx' with hx'
     have HX':=h_ hx';have X1:=h_ x1;have HV:=h_ hV;have HO:=h_ hO;have HB:=h_ hb;have HIx:Hid (I64 x'):=⟨hx1,hx2⟩;clear hV hO hb kBr hMs hU HXM x1 hx' hP hx1 hx2;go_wp2;clear m0;obtain⟨wx,hwx⟩:∃ z,z=wr:=⟨_,rfl⟩;subst hwx;refine a8_ (by kernel_rfl) [.eq (.slice VA m vc),.eq (.pointer (some ⟨w0.heap.size,2,none⟩)),.eq (.slice (some ⟨bm,om,none⟩) UL uc),.eq (.int .i64 m),.eq (.pointer (some ⟨w0.heap.size,1,none⟩)),.eq (.int .i64 c),.eq (.int .i64 P),.eq (.slice (some ⟨bp,op,none⟩) pn pc),.eq (.int .i64 k),.eq (.pointer (some ⟨bp,op+k,none⟩)),.eq (.int .i64 pk),.eq (.int .i64 ((P:Int)+pk)),.eq (.pointer (some ⟨bm,om+(P+pk),none⟩)),.eq (.int .i64 x'),rel 14 (fun u lo hi w=>∃ g,u = .slice (some ⟨g,0,none⟩) 1 1∧Blk w g 3 #[.int .i64 x'])] [[],[],[1],[],[],[4],[3,4,5],[],[],[7,8],[7,8,9],[3,4,5,6,7,8,9,10],[1,2,3,4,5,6,7,8,9,10,11],[1,2,3,4,5,6,7,8,9,10,11,12],[1,2,3,4,5,6,7,8,9,10,11,12,13],[0,1,2,3,4,5,6,7,8,9,10,11,12,13,14],[0,1,2,3,4,5,6,7,8,9,10,11,12,13,14,15]] 15 (by kernel_rfl) ⟨trivial,trivial,trivial,trivial,trivial,trivial,trivial,trivial,trivial,trivial,trivial,trivial,trivial,trivial,a4_ (fun u lo hi w w' ⟨g,e,h⟩ hb=>⟨g,e,h.call hb⟩),trivial⟩ ⟨?_,?_,?_,?_,?_,?_,?_,?_,?_,?_,?_,?_,?_,?_,?_,trivial⟩ ?_;iterate 15 (intro x w hb hk Q' hQ;have he:=k_e hk;simp only[k_s]at he;simp only[netE]at hQ⊢;(try simp only[he]at hQ⊢);(try clear he);rotate_left)
     rotate_left
     iterate 2 (· clear hk;go_wp2;exact hQ _ _ br_ rfl)
     ·clear hk;have z:=(KB.out.call (HB.out.trans (hb.mono s4))).cell' (i:=2) rfl;go_wp2;exact hQ _ _ br_ rfl
     iterate 2 (· clear hk;go_wp2;exact hQ _ _ br_ rfl)
     ·clear hk;have z:=(KB.out.call (HB.out.trans (hb.mono s4))).cell' (i:=1) rfl;go_wp2;exact hQ _ _ br_ rfl
     ·clear hk;go_wp2;rw[hPw.out];exact hQ _ _ br_ rfl
     iterate 3 (· clear hk;go_wp2;exact hQ _ _ br_ rfl)
     ·clear hk;have z:=a7_ (HB.out.trans (hb.mono s4)) hbp P1.out;go_wp2;exact hQ _ _ br_ rfl
     iterate 2 (· clear hk;go_wp2;exact hQ _ _ br_ rfl)
     ·clear hk;have z:=a7_ (HB.out.trans (hb.mono s4)) hbm X1.out;go_wp2;exact hQ _ _ br_ rfl
     ·clear hk;go_wp2;exact hQ _ _ (a2_ _ _) ⟨_,rfl,Blk.new _ _ _⟩
     ·intro x w hb hk hiv hdj;have h14:∃ g,(x.v 14) = .slice (some ⟨g,0,none⟩) 1 1∧Blk w g 3 #[.int .i64 x']:=hk 14 (by decide);have he:=k_g hk [0,1,2,3,4,5,6,7,8,9,10,11,12,13];simp only[k_s]at he;simp only[netE,he];clear he hk;obtain⟨gn,e14,hN⟩:=h14;rw[e14];have hVw:=HV.out.below hb;refine c3_ (by rfl) (.tmp 31) (.tmp 45) (by rfl) G w.heap.size _ (rowF m (pvSF f ps k)) (by rfl) hVw (some ⟨gn,0,none⟩) 1 1 [x'] (by rfl) rfl (d3Q hN HIx.out) (by rw[a1_];simp;omega) (Nat.le_trans hG hb.size) ?_;intro v' w' ho' hg' _;have hsn:rowF m (pvSF f ps k) ++ [x']=rowF (m+1) (pvSF f ps k):=by rw[f4x,hpv.out,HX'.out]
      rw[hsn]at ho';obtain⟨VA',vc',ev',_⟩:=ho'.form;rw[a1_]at ev';subst ev';have hOw:=HO.out.below hb;have hgB:Below G w w':=b9_ hg' (fun j hj=>(hVw.lt j hj).1) (Nat.le_trans hG hb.size);have H1:=h_ ho';have H2:=h_ (show b1_ w' W2.heap.size G _ _ from hOw.chg (R7_ hgB) (.inl (l_ _)));have H3:=h_ ((HB.out.trans (hb.mono s4)).trans (hgB.mono hGW));have H4:G≤w'.heap.size:=Nat.le_trans hG (Nat.le_trans hb.size hgB.size);clear ho' hg' hOw hgB hVw hsn hN e14 hiv hdj;go_wp2;go_roundw
      case rel=>exact⟨m+1,VA',vc',by omega,by go_num,rfl,H1.out,H2.out,H3.out,H4⟩
      case measure=>simp[intOf];omega
    ·obtain rfl:m=r:=by omega
     obtain⟨Z,hZ⟩:=e_ (wr.alloc (.cells #[.slice VA m vc] 24));obtain⟨gz,hgz⟩:=e_ (wr.heap.size);have bZ:Below wr.heap.size wr Z:=by rw[←hZ];exact a2_ _ _
     have kZ:Blk Z gz 24 #[.slice VA m vc]:=by rw[←hZ,←hgz];exact Blk.new _ _ _
     have HOZ:=h_ (hO.below bZ);have HRZ:=h_ ((a9_.of_own hV).below bZ);have HBZ:=h_ (hb.trans (bZ.mono s4));have sZ:=bZ.size;have C0:=h_ (kZ.cell' (i:=0) rfl);clear hO hV hb bZ kZ
     (go_wp2_with (at_builtin;refine Hold.stop ?_));unfold Hold
     clear hZ hgz;refine n1_ (by rfl) (.tmp 47) (.tmp 49) (by rfl) W2.heap.size G G wr.heap.size _ _ _ (by rfl) HOZ.out (some ⟨gz,0,none⟩) 1 _ (by rfl) ⟨_,_,rfl,C0.out⟩ HRZ.out (by omega) (by omega) (by omega) (by rw[a3_];omega) (by omega) (by omega) ?_;intro v' w' h1 h2 h3;have hsn:=n2_ k m (pvSF f ps);rw[←hsn]at h1;obtain⟨A2,c2',ev',_⟩:=h1.form2;subst ev';have H1:=h_ h1;have H2:=h_ (HBZ.out.trans h2);clear h1 h2 h3 hsn;go_wp2;go_roundw
     case rel=>exact⟨k+1,A2,_,c2',by omega,by go_num,rfl,H1.out,H2.out⟩
     case measure=>simp[intOf];omega
  ·obtain rfl:k=pn:=by omega
   have HOF:=h_ hO;have GF:=h_ (a6_ G2.out hb);have sz:=SW.out;have s5:=s12;clear hO hb;go_wp2;go_ret
   exact⟨_,rfl,by rw[HPSE.out,HPN.out];exact HOF.out.wider (by omega) (l_ _),GF.out⟩
def a9X (n c:Nat) (g:Nat→Nat→Int) (ps:List Int):Prop:=ps.length=n∧∀ k,k<n→∃ b:Nat,ps[k]?=some (b:Int)∧b<c∧(∀ t,t<b→g k t=0)∧g k b≠0
theorem c0j {p:Int} {r c:Nat} {f:Nat→Nat→Int} (hp:f2_ p=true) (hp2:2≤p) (hf:InF p r c f):a9X (rdTo p r f c).2.length c (rdTo p r f c).1 (rdTo p r f c).2:=by
 refine⟨rfl,fun k hk=>?_⟩;obtain⟨b,h1,h2,h3⟩:=(G2_ hp hp2 hf c (l_ _)).pos k hk;have hl:=(f6_ p r f c).1;exact⟨b,h1,h2,B8_ hp hp2 hf c (l_ _) k b h1,by rw[h3 k (by omega),if_pos rfl];decide⟩
theorem Z9_ (n c:Nat) (g:Nat→Nat→Int) (ps:List Int) (z:Int) (u:Value) (w0:World) (hn:n≤1000) (hc:c≤1000) (hu:SlII w0 w0.heap.size u (b5_ n c g)) (hps:a9X n c g ps) :
  Calls Tryz.prog 98 #[.agg #[.int .i64 z,u]] w0 fun e w'=>∃ v,e = .returned v∧a9_ w' w0.heap.size w'.heap.size v ps∧Below w0.heap.size w0 w':=by
 have hu1:=hu;obtain⟨UA,uc,rfl,_⟩:=hu1;rw[a3_]at hu⊢;obtain⟨W,hW,g0,kB⟩:=b_3 w0 #[.int .i64 z,.slice UA n uc] 65;have HU:=h_ (SlII.next g0 hu);have HL:=h_ hps.1;have HP:=h_ hps.2;clear hu hps;obtain⟨W1,hW1⟩:=e_ (W.alloc (.cells #[] 3));have gb:Below W.heap.size W W1:=by rw[←hW1];exact a2_ _ _
 have hO0:OwnI W1 W.heap.size (.slice (some ⟨W.heap.size,0,none⟩) 0 0) (ps.take 0):=by rw[←hW1];simpa using OwnI.made (w:=W) (base:=W.heap.size) 3 rfl (l_ _)
 have c1:=kB.cell' (i:=1) rfl;have sW:W.heap.size=w0.heap.size+1:=by rw[hW];simp
 go_enter Tryz.func98,Tryz.ntmps98
 go_wp2;rw[←hW,hW1];clear hW hW1 c1;rw[sW]at hO0;go_loopw [3,4] (fun out i wr=>∃ (k:Nat) (OA:Option Addr) (oc:Nat),k≤n∧i = .int .i64 k∧out = .slice OA k oc∧OwnI wr W.heap.size (.slice OA k oc) (ps.take k)∧Below W.heap.size W wr) (fun _ i _=>n-(intOf i).toNat)
 case atStart=>exact⟨0,_,0,l0_ _,rfl,rfl,by rw[sW];exact hO0,gb⟩
 case round =>
  clear hO0 gb;obtain⟨k,OA,oc,hk,rfl,rfl,ho,hb⟩:=hrel;have sb:=hb.size;have kBr:=kB.call hb;have c1:=kBr.cell' (i:=1) rfl;by_cases hlt:k<n
  ·obtain⟨bb,oo,lr,A',c',eK,hbb,HXL,r1,hrow⟩:=SlII.at_ (k:=k) (xs:=b5_ n c g) (by rw[a3_];exact HU.out) (by rw[a3_];exact hlt);subst eK;have hlr:=HXL.out;rw[g2_ _ hlt]at hlr;injection hlr with hlr
   subst hlr;rw[a1_]at r1 hrow;obtain⟨b,hb1,hb2,hb3,hb4⟩:=HP.out k hlt;have r1':=a7_ hb hbb r1;have HRW:=h_ (SlI.next hb hrow);have HTK:=h_ (c8_ hb1);have HB3:=h_ hb3;have HB4:=h_ hb4;have HO:=h_ ho;have HB:=h_ hb;clear hrow r1 hb1 hb3 hb4 ho hb HXL kBr;go_wp2;go_loopw [5] (fun j wx=>∃ m:Nat,m≤b∧j = .int .i64 m∧wx=wr) (fun j _=>b+1-(intOf j).toNat)
   case atStart=>exact⟨0,l0_ _,rfl,rfl⟩
   case round =>
    obtain⟨m,hm,rfl,rfl⟩:=hrel;obtain⟨be,oe,x,ee,hbe,HX,x1,hx1,hx2⟩:=SlI.atM (k:=m) HRW.out (a1_ _ _) (by omega);subst ee;have hx:=HX.out;rw[d1_ _ (show m<c by omega)]at hx;injection hx with hx
    by_cases hmb:m<b
    ·have hx0:x=0:=by rw[←hx];exact HB3.out m hmb
     subst hx0;clear hx HX;go_wp2;go_roundw
     case rel=>exact⟨m+1,by omega,by go_num,by first | rfl | trivial⟩
     case measure=>simp[intOf];omega
    ·obtain rfl:m=b:=by omega
     have hx0:(x == 0)=false:=by
      rw[beq_eq_false_iff_ne,←hx];exact HB4.out
     clear hx HX;have hlo:=HO.out.lt
     (go_wp2_with (at_builtin;refine Hold.stop ?_));unfold Hold
     obtain⟨X,hX⟩:∃ X,X=wr.alloc (.cells #[.int .i64 (m:Int)] 3):=⟨_,rfl⟩;have gn:Below wr.heap.size wr X:=by rw[hX];exact a2_ _ _
     have h1x:SlI X X.heap.size (.slice (some ⟨wr.heap.size,0,none⟩) 1 1) [(m:Int)]:=by rw[hX];exact SlI.one _ _ _ ⟨by omega,by omega⟩
     have ho3:=(HO.out).below gn;have gns:=gn.size;rw[←hX];clear hX;refine c3_ rfl (.tmp 25) (.tmp 27) rfl W.heap.size X.heap.size _ _ rfl ho3 _ 1 1 [(m:Int)] rfl rfl h1x (by simp;omega) (by omega) ?_;intro v' w' h1 h2 h3;have hbX:=b9_ h2 (B:=W.heap.size) (fun k hk=>(hlo k hk).1) (by omega);rw[←HTK.out]at h1;obtain⟨VA',vc',ev',_⟩:=h1.form;have hl1:(ps.take (k+1)).length=k+1:=by rw[List.length_take,HL.out];omega
     rw[hl1]at ev';subst ev';have H1:=h_ h1;have G1:=h_ ((HB.out).trans ((gn.mono (by omega)).trans hbX));clear h1 h2 h3 hbX gn ho3 h1x hlo hl1 hx0;go_wp2;go_roundw
     case rel=>exact⟨k+1,VA',vc',by omega,by go_num,rfl,H1.out,G1.out⟩
     case measure=>simp[intOf];omega
  ·obtain rfl:k=n:=by omega
   have HO:=h_ (a9_.of_own ho);have GF:=h_ (a6_ g0 hb);have hl:ps.take k=ps:=by rw[l7_];rw[HL.out];omega
   have HLL:=h_ hl;clear ho hb kBr;go_wp2;go_ret
   exact⟨_,rfl,by have:=HO.out;rw[HLL.out]at this;exact this.wider (by omega) (l_ _),GF.out⟩
def pqF (p:Int) (g:Nat→Nat→Int) (ps L:List Int) (n a i r j:Nat):Int:=if r<a then kvG p g ps (L.getD r 0).toNat n j else if r=a then kvG p g ps (L.getD r 0).toNat i j else 0
def prF (p:Int) (g:Nat→Nat→Int) (ps L:List Int) (n a r j:Nat):Int:=if r<a then kvG p g ps (L.getD r 0).toNat n j else 0
section
variable {p:Int} {g:Nat→Nat→Int} {ps L:List Int} {n a K c:Nat}
theorem f8j:flat K c (fun _ _=>0)=flat K c (prF p g ps L n 0):=c1_ fun r j _ _=>by rw[prF,if_neg (by omega)]
theorem d4Q {k P:Nat} (ha:a<K) (hk:k<c) (hL:L[a]?=some (k:Int)) (hP:P=a*c):(flat K c (prF p g ps L n a)).set (P+k) 1=flat K c (pqF p g ps L n a 0):=by
 rw[hP,j8_ _ _ ha hk];refine c1_ fun r j _ _=>?_
 have hL':(L.getD a 0).toNat=k:=by rw[l1_,hL];simp
 by_cases h1:r<a
 ·rw[if_neg (by omega),prF,if_pos h1,pqF,if_pos h1]
 ·by_cases h2:r=a
  ·subst h2;rw[pqF,if_neg h1,if_pos rfl,kvG,hL'];by_cases h3:j=k
   ·rw[if_pos ⟨rfl,h3⟩,if_pos h3]
   ·rw[if_neg (fun h=>h3 h.2),if_neg h3,prF,if_neg h1]
  ·rw[if_neg (fun h=>h2 h.1),prF,if_neg h1,pqF,if_neg h1,if_neg h2]
theorem d7j {k b i P:Nat} (ha:a<K) (hb:b<c) (hL:L[a]?=some (k:Int)) (hp:ps[i]?=some (b:Int)) (hP:P=a*c):(flat K c (pqF p g ps L n a i)).set (P+b) ((- g i k) % p)=flat K c (pqF p g ps L n a (i+1)):=by
 rw[hP,j8_ _ _ ha hb];refine c1_ fun r j _ _=>?_
 have hL':(L.getD a 0).toNat=k:=by rw[l1_,hL];simp
 have hp':ps.getD i 0=(b:Int):=by rw[l1_,hp];rfl
 by_cases h1:r<a
 ·rw[if_neg (by omega),pqF,if_pos h1,pqF,if_pos h1]
 ·by_cases h2:r=a
  ·subst h2;rw[pqF,if_neg h1,if_pos rfl,pqF,if_neg h1,if_pos rfl,kvG,hL',hp'];by_cases h3:j=b
   ·rw[if_pos ⟨rfl,h3⟩,if_pos (by omega)]
   ·rw[if_neg (fun h=>h3 h.2),if_neg (by omega)]
  ·rw[if_neg (fun h=>h2 h.1),pqF,if_neg h1,if_neg h2,pqF,if_neg h1,if_neg h2]
theorem c6Q:flat K c (pqF p g ps L n a n)=flat K c (prF p g ps L n (a+1)):=c1_ fun r j _ _=>by
 unfold pqF prF;by_cases h1:r<a
 ·rw[if_pos h1,if_pos (by omega)]
 ·by_cases h2:r=a
  ·rw[if_neg h1,if_pos h2,if_pos (by omega)]
  ·rw[if_neg h1,if_neg h2,if_neg (by omega)]
theorem d6Q:flat K c (prF p g ps L n K)=flat K c (fun a j=>kvG p g ps (L.getD a 0).toNat n j):=c1_ fun r j hr _=>by rw[prF,if_pos hr]
end
theorem a9_.adr {w:World} {lo hi n c:Nat} {A:Option Addr} {l:List Int} (h:a9_ w lo hi (.slice A n c) l) (h0:0<l.length):∃ g,A=some ⟨g,0,none⟩∧lo≤g∧g<hi:=by
 rcases h.1.1.2 with ⟨_,h1⟩ | ⟨g,cap,cur,e,hg,_⟩
 ·omega
 ·injection e with e1 _ _
  subst e1;exact⟨g,rfl,hg,h.2 g rfl⟩
theorem M4_ (p:Int) (n c:Nat) (g:Nat→Nat→Int) (ps:List Int) (u:Value) (w0:World) (hp:2≤p∧p≤5) (hn:n≤1000) (hc:c≤100) (hu:SlII w0 w0.heap.size u (b5_ n c g)) (hg:InF p n c g) (hps:a9X n c g ps) :
  Calls Tryz.prog 56 #[.int .i64 p,.agg #[.int .i64 c,u]] w0 fun e w'=>∃ v1 x2 y2 A2 n2 c2,e = .returned (.tuple #[v1,.agg #[.int .i64 x2,.int .i64 y2,.slice A2 n2 c2]])∧MxO w' w0.heap.size w'.heap.size v1 (mxF (b2_ ps c).length c (fun a j=>kvG p g ps ((b2_ ps c).getD a 0).toNat n j))∧Below w0.heap.size w0 w':=by
 have hu1:=hu;obtain⟨UA,uc,rfl,_⟩:=hu1;rw[a3_]at hu⊢;obtain⟨W,hW⟩:∃ W,W=((w0.alloc (.cells #[.int .i64 c,.slice UA n uc] 65)).alloc (.cells #[.int .i64 0,.int .i64 0,.slice none 0 0] 41)).alloc (.cells #[.int .i64 0,.int .i64 0,.slice none 0 0] 41):=⟨_,rfl⟩;have g0:Below w0.heap.size w0 W:=by rw[hW];exact (((Below.refl _ _).alloc (l_ _) _).alloc (by simp) _).alloc (by simp;omega) _
 have kS:Blk W w0.heap.size 65 #[.int .i64 c,.slice UA n uc]:=by rw[hW];exact ((Blk.new _ _ _).alloc _).alloc _
 have kR1:Blk W (w0.heap.size+1) 41 #[.int .i64 0,.int .i64 0,.slice none 0 0]:=by
  rw[hW];have:=(Blk.new (w0.alloc (.cells #[.int .i64 c,.slice UA n uc] 65)) 41 #[.int .i64 0,.int .i64 0,.slice none 0 0]).alloc (.cells #[.int .i64 0,.int .i64 0,.slice none 0 0] 41);simpa only[l3_] using this
 have kR2:Blk W (w0.heap.size+1+1) 41 #[.int .i64 0,.int .i64 0,.slice none 0 0]:=by
  rw[hW];have:=Blk.new ((w0.alloc (.cells #[.int .i64 c,.slice UA n uc] 65)).alloc (.cells #[.int .i64 0,.int .i64 0,.slice none 0 0] 41)) 41 #[.int .i64 0,.int .i64 0,.slice none 0 0];simpa only[l3_] using this
 have sW:W.heap.size=w0.heap.size+1+1+1:=by rw[hW];simp
 have SW:=h_ sW;have HU:=h_ (SlII.next g0 hu);have HG:=h_ hg;have HP:=h_ hps;have HPN:=h_ hps.1;have c0:=kS.cell' (i:=0) rfl;have c1:=kS.cell' (i:=1) rfl;clear hu hg hps;go_enter Tryz.func56,Tryz.ntmps56
 go_wp2_with fail
 rw[←hW];clear hW;refine (Z9_ n c g ps c _ _ hn (by omega) HU.out HP.out).mono ?_;rintro e w1 ⟨v1,rfl,hI,hb1⟩;obtain⟨PA,pc,ev⟩:=hI.form;rw[HPN.out]at ev;subst ev;obtain⟨W2,hW2⟩:=e_ (w1.alloc (.cells #[] 3));have ga:Below w1.heap.size w1 W2:=by rw[←hW2];exact a2_ _ _
 have hO0:OwnI W2 w1.heap.size (.slice (some ⟨w1.heap.size,0,none⟩) 0 0) (b2_ ps 0):=by rw[←hW2];simpa [b2_] using OwnI.made (w:=w1) (base:=w1.heap.size) 3 rfl (l_ _)
 have hb2:=a6_ hb1 ga;have HI:=h_ (SlI.below ga hI.rd);have kS2:=kS.call hb2;have KR1:=h_ (kR1.call hb2);have KR2:=h_ (kR2.call hb2);have HU2:=h_ (SlII.below ga (SlII.next hb1 HU.out));have G2:=h_ (a6_ g0 hb2);have s2:=hb2.size;have s1:=hb1.size;have KS:=h_ kS2;have sa:w1.heap.size<W2.heap.size:=by rw[←hW2];simp
 clear c0 c1 hI hb1 ga hb2 kS kR1 kR2 g0 kS2;go_wp2;clear hW2;go_loopw [7,8] (fun fv i wr=>∃ (k:Nat) (OA:Option Addr) (on oc:Nat),k≤c∧i = .int .i64 k∧fv = .slice OA on oc∧OwnI wr w1.heap.size (.slice OA on oc) (b2_ ps k)∧Below w1.heap.size W2 wr) (fun _ i _=>c-(intOf i).toNat)
 case atStart=>exact⟨0,_,_,_,l0_ _,rfl,rfl,hO0,Below.refl _ _⟩
 case round =>
  clear hO0;obtain⟨k,OA,on,oc,hk,rfl,rfl,hO,hb⟩:=hrel;have sb:=hb.size;have kSr:=KS.out.below hb (by omega);have c0:=kSr.cell' (i:=0) rfl;by_cases hlt:k<c
  ·have HIr:=h_ (SlI.more (show w1.heap.size≤wr.heap.size by omega) (SlI.below hb HI.out));have HO:=h_ hO;have HB:=h_ hb;clear hO hb kSr;go_wp2_with fail
   refine (i6_ _ ps k _ (by rw[HPN.out]at *;exact HIr.out)).mono ?_;rintro e w4 ⟨rfl,hb4⟩;have hO4:=HO.out.below hb4;have hB4:=HB.out.trans (hb4.mono (by omega));have s4:=hb4.size;rcases hd:decide ((k:Int)∈ps) with _ | _
   ·have HFY:=h_ (n7_ hd);have hfl:=d7_ ps k;have hlo:=hO4.lt;have HO4:=h_ hO4;have HB4:=h_ hB4;clear hd hO4 hB4 hb4 c0
    (go_wp2_with (at_builtin;refine Hold.stop ?_));unfold Hold
    obtain⟨X,hX⟩:∃ X,X=w4.alloc (.cells #[.int .i64 (k:Int)] 3):=⟨_,rfl⟩;have gn:Below w4.heap.size w4 X:=by rw[hX];exact a2_ _ _
    have h1x:SlI X X.heap.size (.slice (some ⟨w4.heap.size,0,none⟩) 1 1) [(k:Int)]:=by rw[hX];exact SlI.one _ _ _ ⟨by omega,by omega⟩
    have ho3:=(HO4.out).below gn;have gns:=gn.size;rw[←hX];clear hX;refine c3_ rfl (.tmp 26) (.tmp 28) rfl w1.heap.size X.heap.size _ _ rfl ho3 _ 1 1 [(k:Int)] rfl rfl h1x (by simp;omega) (by omega) ?_;intro v' w' h1 h2 h3;have hbX:=b9_ h2 (B:=w1.heap.size) (fun k hk=>(hlo k hk).1) (by omega);rw[←HFY.out]at h1;obtain⟨VA',vc',ev',_⟩:=h1.form;subst ev';have H1:=h_ h1;have G1:=h_ ((HB4.out).trans ((gn.mono (by omega)).trans hbX));clear h1 h2 h3 hbX gn ho3 h1x hlo;go_wp2;go_roundw
    case rel=>exact⟨k+1,VA',_,vc',by omega,by go_num,rfl,H1.out,G1.out⟩
    case measure=>simp[intOf];omega
   ·have HFN:=h_ (q5_ hd);have HO4:=h_ hO4;have HB4:=h_ hB4;clear hd hO4 hB4 hb4 c0;go_wp2;go_roundw
    case rel=>exact⟨k+1,OA,on,oc,by omega,by go_num,rfl,by rw[HFN.out];exact HO4.out,HB4.out⟩
    case measure=>simp[intOf];omega
  ·obtain rfl:k=c:=by omega
   obtain⟨wq,hwq⟩:∃ z,z=wr:=⟨_,rfl⟩;subst hwq;obtain⟨L,hL⟩:=e_ (b2_ ps k);have hLa:=fun (j:Nat) (x:Int) (h:L[j]?=some x)=>y4_ (l:=ps) (k:=k) (j:=j) (x:=x) (by rw[hL];exact h)
   have hLl:=d7_ ps k;rw[hL]at hO hLl;have HLE:=h_ hL;have HLA:=h_ hLa;obtain⟨K,hK⟩:=e_ (L.length);have hon:on=L.length:=by obtain⟨_,_,e,_⟩:=hO.form;injection e
   subst hon;rw[hK]at hO hLl⊢;have HK:=h_ hK;have HB:=h_ hb;have HO:=h_ hO;clear hL hLa hK hO hb kSr;go_wp2_with fail
   refine (n4_ (K:Int) (k:Int) _ (by omega) (by omega) (by omega) (by omega)).mono ?_;rintro e w4 ⟨v4,rfl,hM4,hb4⟩;rw[m6_]at hM4;obtain⟨FA,fc,ev⟩:=hM4.form;simp only[mxF]at ev hM4;rw[a0_]at ev;subst ev;obtain⟨FL,hFL⟩:=e_ (K*k);rw[hFL]at hM4⊢;have HFL:=h_ hFL;clear hFL c0;obtain⟨W5,hW5,ga5,k9⟩:=b_1 w4 #[.int .i64 K,.int .i64 k,.slice FA FL fc] 41;obtain⟨FS,eFS,hIF,_,_⟩:=hM4;simp only[Value.agg.injEq,Array.mk.injEq,List.cons.injEq,and_true,true_and]at eFS;subst eFS;have HIF:=h_ (hIF.below ga5);have hb5:=a6_ hb4 ga5;have HB5:=h_ (HB.out.trans (hb5.mono sb |>.mono (by omega)));have s5:=hb5.size;have s4:=hb4.size;have kS5:=KS.out.below HB5.out (by omega);have c0:=kS5.cell' (i:=0) rfl;have s5a:W5.heap.size=w4.heap.size+1:=by rw[←hW5];simp
   clear hIF hb4 ga5 kS5;go_wp2_with fail
   clear hW5;refine (n4_ (k:Int) (K:Int) _ (by omega) (by omega) (by omega) (by omega)).mono ?_;rintro e w6 ⟨v6,rfl,hM6,hb6⟩;rw[m6_]at hM6;obtain⟨BA,bc,ev⟩:=hM6.form;simp only[mxF]at ev hM6;rw[a0_]at ev;subst ev;obtain⟨BL,hBL⟩:=e_ (k*K);rw[hBL]at hM6⊢;have HBL:=h_ hBL;obtain⟨BS,eBS,hIB,_,_⟩:=hM6;simp only[Value.agg.injEq,Array.mk.injEq,List.cons.injEq,and_true,true_and]at eBS;subst eBS;obtain⟨W7,hW7,ga7,k10⟩:=b_1 w6 #[.int .i64 k,.int .i64 K,.slice BA BL bc] 41;have hb7:=a6_ hb6 ga7;have hIB7:=hIB.below ga7;have hIF7:=HIF.out.below hb7;rw[f8j (p:=p) (g:=g) (ps:=ps) (L:=L) (n:=n)]at hIF7;have hb57:=(hb5.trans (hb7.mono s5));have k97:=k9.call hb7;have s6:=hb6.size;have s7:W7.heap.size=w6.heap.size+1:=by rw[←hW7];simp
   have hlB:(flat k K fun _ _=>0).length=BL:=by rw[a0_,hBL]
   clear hBL hIB hb6 ga7 hb7 k9 hb5 c0 HIF;go_wp2;clear hW7;have HLF:=h_ (a0_ K k (prF p g ps L n 0));have HOF:=h_ (SlI.below (a6_ (Below.refl wq.heap.size wq) hb57) (HO.out.rd));have hHI:Hid (∀ (wz:World),Below wq.heap.size wq wz→SlI wz w1.heap.size (.slice PA n pc) ps∧SlII wz w1.heap.size (.slice UA n uc) (b5_ n k g)∧SlI wz wq.heap.size (.slice OA K oc) L∧Blk wz w0.heap.size 65 #[.int .i64 k,.slice UA n uc]):=fun wz hz=>by
    have hBz:=HB.out.trans (hz.mono (by omega));exact⟨SlI.below hBz HI.out,SlII.below hBz HU2.out,SlI.below hz HO.out.rd,KS.out.below hBz (by omega)⟩
   clear HOF;go_loopw [11] (fun i wz=>∃ a:Nat,a≤K∧i = .int .i64 a∧Below wq.heap.size wq wz∧Blk wz w4.heap.size 41 #[.int .i64 K,.int .i64 k,.slice FA FL fc]∧Blk wz w6.heap.size 41 #[.int .i64 k,.int .i64 K,.slice BA BL bc]∧a9_ wz wq.heap.size w4.heap.size (.slice FA FL fc) (flat K k (prF p g ps L n a))∧(∃ H,H.length=BL∧a9_ wz W5.heap.size w6.heap.size (.slice BA BL bc) H)∧w6.heap.size<wz.heap.size) (fun i _=>K-(intOf i).toNat)
   case atStart=>exact⟨0,l0_ _,rfl,hb57,k97,k10,hIF7,⟨_,hlB,hIB7⟩,by omega⟩
   case round =>
    clear hb57 k97 k10 hIF7 hIB7 hlB;obtain⟨a,ha,rfl,hb,hB9,hB10,hIF,⟨H,hH,hIB⟩,hs6⟩:=hrel;obtain⟨_,_,hfr,hSp⟩:=hHI.out _ hb;by_cases hak:a<K
    ·obtain⟨bl,ol,x,el,hbl,HX,l1,_⟩:=SlI.atM (k:=a) hfr HK.out hak;subst el;obtain⟨kk,rfl,hkk,hkn⟩:=HLA.out a x HX.out;obtain⟨P,hP⟩:∃ P,P=a*k:=⟨_,rfl⟩;have hPw:=h_ (ixP (i:=a) (k:=kk) (r:=K) (c:=k) hak hkk (by omega) (by omega) hP);obtain⟨d1,d2,d3⟩:=rowP (i:=a) (k:=kk) (r:=K) (c:=k) hak hkk (by omega) (by omega) hP;rw[HFL.out]at d1 d2 d3;obtain⟨Q,hQ⟩:∃ Q,Q=kk*K:=⟨_,rfl⟩;have hQw:=h_ (ixP (i:=kk) (k:=a) (r:=k) (c:=K) hkk hak (by omega) (by omega) hQ);obtain⟨f1,f2,f3⟩:=rowP (i:=kk) (k:=a) (r:=k) (c:=K) hkk hak (by omega) (by omega) hQ;rw[HBL.out]at f1 f2 f3;obtain⟨gf,rfl,hgf1,hgf2⟩:=hIF.adr (by rw[a0_,HFL.out];omega);obtain⟨gb,rfl,hgb1,hgb2⟩:=hIB.adr (by rw[hH];omega);have HONE:=h_ (d4Q (p:=p) (g:=g) (ps:=ps) (L:=L) (n:=n) (a:=a) (K:=K) (c:=k) hak hkk HX.out hP);have HPUT:=h_ (fun (i b:Nat) (hb:b<k) (hi:ps[i]?=some (b:Int))=>d7j (p:=p) (g:=g) (ps:=ps) (L:=L) (n:=n) (a:=a) (K:=K) (c:=k) hak hb HX.out hi hP);have HROW:=h_ (fun (b:Nat) (hb:b<k)=>(rowP (i:=a) (k:=b) (r:=K) (c:=k) hak hb (by omega) (by omega) hP).1);have HIF:=h_ hIF;have HIB:=h_ hIB;have HHL:=h_ hH;have HBB:=h_ hb;have HB9:=h_ hB9;have HB10:=h_ hB10;have L1:=h_ l1;have hbs:=hb.size;obtain⟨wx,hwx⟩:∃ z,z=wr:=⟨_,rfl⟩;subst hwx;clear hIF hIB hH hb hB9 hB10 l1 hfr hSp hP hQ;go_wp2;refine a8_ (by kernel_rfl) [.eq (.pointer (some ⟨w4.heap.size,2,none⟩)),.eq (.slice (some ⟨gf,0,none⟩) FL fc),.eq (.int .i64 a),.eq (.pointer (some ⟨w0.heap.size,0,none⟩)),.eq (.int .i64 k),.eq (.int .i64 P),.eq (.slice (some ⟨bl,ol,none⟩) K oc),.eq (.int .i64 a),.eq (.pointer (some ⟨bl,ol+a,none⟩)),.eq (.int .i64 kk),.eq (.int .i64 ((P:Int)+kk))] [[],[0],[],[],[3],[2,3,4],[],[],[6,7],[6,7,8],[2,3,4,5,6,7,8,9],[0,1,2,3,4,5,6,7,8,9,10],[0,1,2,3,4,5,6,7,8,9,10,11]] 11 (by kernel_rfl) ⟨trivial,trivial,trivial,trivial,trivial,trivial,trivial,trivial,trivial,trivial,trivial,trivial⟩ ⟨?_,?_,?_,?_,?_,?_,?_,?_,?_,?_,?_,trivial⟩ ?_;iterate 11 (intro x w hb hk Q' hQ;have he:=k_e hk;simp only[k_s]at he;simp only[netE]at hQ⊢;(try simp only[he]at hQ⊢);(try clear he);rotate_left)
     rotate_left
     ·clear hk;go_wp2;exact hQ _ _ br_ rfl
     ·clear hk;have z:=(HB9.out.call hb).cell' (i:=2) rfl;go_wp2;exact hQ _ _ br_ rfl
     iterate 2 (· clear hk;go_wp2;exact hQ _ _ br_ rfl)
     ·clear hk;have z:=(hHI.out _ (HBB.out.trans (hb.mono hbs))).2.2.2.cell' (i:=0) rfl;go_wp2;exact hQ _ _ br_ rfl
     ·clear hk;go_wp2;rw[hPw.out];exact hQ _ _ br_ rfl
     iterate 3 (· clear hk;go_wp2;exact hQ _ _ br_ rfl)
     ·clear hk;have z:=a7_ hb (show bl<wx.heap.size by omega) L1.out;go_wp2;exact hQ _ _ br_ rfl
     ·clear hk;go_wp2;exact hQ _ _ br_ rfl
     ·intro x w hb hk hiv hdj;have he:=k_g hk [0,1,2,3,4,5,6,7,8,9,10];simp only[k_s]at he;simp only[netE,he];clear he hk;have hIFw:=HIF.out.below hb;have cX:=(hIFw.1.cellG (j:=P+kk) (by rw[a0_,HFL.out];omega)).1;have fX:=hIFw.1.frozenG (P+kk);have rY:=hIFw.put (j:=P+kk) (x:=1) (by unfold I64;omega);rw[HONE.out]at rY;obtain⟨Y,hY⟩:=e_ (w.setCell ⟨gf,P+kk,none⟩ (.int .i64 1));rw[hY]at rY;have hcY:Chg gf (gf+1) w Y:=by rw[←hY];exact c6_ _ _ _ _
      have hsw:=hb.size;have hsY:=hcY.size;have RY:=h_ rY;have HIB2:=h_ ((HIB.out.below hb).chg hcY (.inr (by omega)));have HB92:=h_ ((HB9.out.call hb).chg hcY (.inr (by omega)));have HB102:=h_ ((HB10.out.call hb).chg hcY (.inr (by omega)));have HBB2:=h_ ((HBB.out.trans (hb.mono hbs)).trans (hcY.below (by omega) (by omega)));have L2:=h_ (a7_ ((hb.mono hbs).trans (hcY.below (by omega) (by omega))) hbl L1.out);have hs6':w6.heap.size<Y.heap.size:=by omega
      have hqY:wq.heap.size≤Y.heap.size:=by omega
      clear hIFw rY hcY hiv hdj;go_wp2;clear hY cX fX;refine a8_ (by kernel_rfl) [.eq (.pointer (some ⟨w6.heap.size,2,none⟩)),.eq (.slice (some ⟨gb,0,none⟩) BL bc),.eq (.slice (some ⟨bl,ol,none⟩) K oc),.eq (.int .i64 a),.eq (.pointer (some ⟨bl,ol+a,none⟩)),.eq (.int .i64 kk),.eq (.slice (some ⟨bl,ol,none⟩) K oc),.eq (.int .i64 K),.eq (.int .i64 Q),.eq (.int .i64 a),.eq (.int .i64 ((Q:Int)+a))] [[],[0],[],[],[2,3],[2,3,4],[],[6],[2,3,4,5,6,7],[],[2,3,4,5,6,7,8,9],[0,1,2,3,4,5,6,7,8,9,10],[0,1,2,3,4,5,6,7,8,9,10,11]] 11 (by kernel_rfl) ⟨trivial,trivial,trivial,trivial,trivial,trivial,trivial,trivial,trivial,trivial,trivial,trivial⟩ ⟨?_,?_,?_,?_,?_,?_,?_,?_,?_,?_,?_,trivial⟩ ?_;iterate 11 (intro x w hb hk Q' hQ;have he:=k_e hk;simp only[k_s]at he;simp only[netE]at hQ⊢;(try simp only[he]at hQ⊢);(try clear he);rotate_left)
      rotate_left
      ·clear hk;go_wp2;exact hQ _ _ br_ rfl
      ·clear hk;have z:=(HB102.out.call hb).cell' (i:=2) rfl;go_wp2;exact hQ _ _ br_ rfl
      iterate 3 (· clear hk;go_wp2;exact hQ _ _ br_ rfl)
      ·clear hk;have z:=a7_ hb (show bl<Y.heap.size by omega) L2.out;go_wp2;exact hQ _ _ br_ rfl
      iterate 2 (· clear hk;go_wp2;exact hQ _ _ br_ rfl)
      ·clear hk;go_wp2;rw[hQw.out];exact hQ _ _ br_ rfl
      iterate 2 (· clear hk;go_wp2;exact hQ _ _ br_ rfl)
      ·intro x w hb hk hiv hdj;have he:=k_g hk [0,1,2,3,4,5,6,7,8,9,10];simp only[k_s]at he;simp only[netE,he];clear he hk;have hIBw:=HIB2.out.below hb;have cX:=(hIBw.1.cellG (j:=Q+a) (by rw[HHL.out];omega)).1;have fX:=hIBw.1.frozenG (Q+a);have rY:=hIBw.put (j:=Q+a) (x:=1) (by unfold I64;omega);obtain⟨V,hV⟩:=e_ (w.setCell ⟨gb,Q+a,none⟩ (.int .i64 1));rw[hV]at rY;have hcV:Chg gb (gb+1) w V:=by rw[←hV];exact c6_ _ _ _ _
       have hsw:=hb.size;have hsV:=hcV.size;have hIF3:=(RY.out.below hb).chg hcV (.inl (by omega));have hB93:=(HB92.out.call hb).chg hcV (.inl (by omega));have hB103:=(HB102.out.call hb).chg hcV (.inr (by omega));have hBB3:=(HBB2.out.trans (hb.mono hqY)).trans (hcV.below (by omega) (by omega));have hIB3:∃ H,H.length=BL∧a9_ V W5.heap.size w6.heap.size (.slice (some ⟨gb,0,none⟩) BL bc) H:=⟨_,by rw[List.length_set,HHL.out],rY⟩;have hs6V:w6.heap.size<V.heap.size:=by omega
       clear hIBw rY hcV hiv hdj HIB2 HB92 HB102 HBB2 L2 RY HIB HB9 HB10 HBB L1 HIF HHL;go_wp2;clear hV cX fX;go_loopw [12] (fun j wr=>∃ i:Nat,i≤n∧j = .int .i64 i∧Below wq.heap.size wq wr∧Blk wr w4.heap.size 41 #[.int .i64 K,.int .i64 k,.slice (some ⟨gf,0,none⟩) FL fc]∧Blk wr w6.heap.size 41 #[.int .i64 k,.int .i64 K,.slice (some ⟨gb,0,none⟩) BL bc]∧a9_ wr wq.heap.size w4.heap.size (.slice (some ⟨gf,0,none⟩) FL fc) (flat K k (pqF p g ps L n a i))∧(∃ H,H.length=BL∧a9_ wr W5.heap.size w6.heap.size (.slice (some ⟨gb,0,none⟩) BL bc) H)∧w6.heap.size<wr.heap.size) (fun j _=>n-(intOf j).toNat)
       case atStart=>exact⟨0,l0_ _,rfl,hBB3,hB93,hB103,hIF3,hIB3,hs6V⟩
       case round =>
        clear hBB3 hB93 hB103 hIF3 hIB3 hs6V hsw hsV hsY hs6' hqY hbs hs6;obtain⟨i,hi,rfl,hb,hB9,hB10,hIF,hIB,hs6⟩:=hrel;obtain⟨hpi,hui,hfi,hSp⟩:=hHI.out _ hb;have hbs:=hb.size;by_cases hin:i<n
        ·obtain⟨bp,op,xb,ep,hbp,HXB,p1,_⟩:=SlI.atM (k:=i) hpi HPN.out hin;subst ep;obtain⟨b,hpb,hbk,_⟩:=HP.out.2 i hin;have hxb:=HXB.out;rw[hpb]at hxb;injection hxb with hxb
         subst hxb;obtain⟨bu,ou,lr,UA',uc',eU,hbu,HXL,r1,hrow⟩:=SlII.at_ (k:=i) (xs:=b5_ n k g) (by rw[a3_];exact hui) (by rw[a3_];exact hin);subst eU;have hlr:=HXL.out;rw[g2_ _ hin]at hlr;injection hlr with hlr
         subst hlr;rw[a1_]at r1 hrow;obtain⟨be,oe,y,ee,hbe,HXE,e1,hy1,hy2⟩:=SlI.atM (k:=kk) hrow (a1_ _ _) hkk;subst ee;have hye:=HXE.out;rw[d1_ _ hkk]at hye;injection hye with hye
         have hgr:=HG.out i kk hin hkk;have hput:=HPUT.out i b hbk hpb;rw[hye]at hgr hput;have hgm:=g6_ (p:=p) (x:=- y) hp.1;have hrb:=HROW.out b hbk;rw[HFL.out]at hrb;have HPU:=h_ hput;have hgI:Hid (I64 (- y)):=⟨by omega,by omega⟩;have hgI2:Hid (I64 ((- y) % p)):=⟨by omega,by omega⟩;have HPP:=h_ hp;have P1:=h_ p1;have R1:=h_ r1;have E1:=h_ e1;obtain⟨bl',ol',x',el',hbl',HX',l1',_⟩:=SlI.atM (k:=a) hfi HK.out hak;injection el' with el'
         injection el' with el1 el2
         subst el1 el2;have hx':=HX'.out;rw[HX.out]at hx';injection hx' with hx'
         subst hx';have L1:=h_ l1';have HIF:=h_ hIF;have HIB:=h_ hIB;have HBB:=h_ hb;have HB9:=h_ hB9;have HB10:=h_ hB10;have HSP:=h_ hSp;obtain⟨wx,hwx⟩:∃ z,z=wr:=⟨_,rfl⟩;subst hwx;clear hIF hIB hb hB9 hB10 l1' p1 r1 e1 hSp hfi hui hpi hrow HXE HXL HXB hput hpb hye hp HX';go_wp2;refine a8_ (by kernel_rfl) [.eq (.pointer (some ⟨w4.heap.size,2,none⟩)),.eq (.slice (some ⟨gf,0,none⟩) FL fc),.eq (.int .i64 a),.eq (.pointer (some ⟨w0.heap.size,0,none⟩)),.eq (.int .i64 k),.eq (.int .i64 P),.eq (.slice (some ⟨bp,op,none⟩) n pc),.eq (.int .i64 i),.eq (.pointer (some ⟨bp,op+i,none⟩)),.eq (.int .i64 b),.eq (.int .i64 ((P:Int)+b)),.eq (.int .i64 p),.eq (.pointer (some ⟨w0.heap.size,1,none⟩)),.eq (.slice (some ⟨bu,ou,none⟩) n uc),.eq (.int .i64 i),.eq (.pointer (some ⟨bu,ou+i,none⟩)),.eq (.slice (some ⟨be,oe,none⟩) k uc'),.eq (.slice (some ⟨bl,ol,none⟩) K oc),.eq (.int .i64 a),.eq (.pointer (some ⟨bl,ol+a,none⟩)),.eq (.int .i64 kk),.eq (.pointer (some ⟨be,oe+kk,none⟩)),.eq (.int .i64 y),.eq (.int .i64 (- y)),.eq (.int .i64 ((- y) % p))] [[],[0],[],[],[3],[2,3,4],[],[],[6,7],[6,7,8],[2,3,4,5,6,7,8,9],[],[],[12],[],[12,13,14],[12,13,14,15],[],[],[17,18],[17,18,19],[12,13,14,15,16,17,18,19,20],[12,13,14,15,16,17,18,19,20,21],[12,13,14,15,16,17,18,19,20,21,22],[11,12,13,14,15,16,17,18,19,20,21,22,23],[0,1,2,3,4,5,6,7,8,9,10,11,12,13,14,15,16,17,18,19,20,21,22,23,24],[0,1,2,3,4,5,6,7,8,9,10,11,12,13,14,15,16,17,18,19,20,21,22,23,24,25]] 25 (by kernel_rfl) ⟨trivial,trivial,trivial,trivial,trivial,trivial,trivial,trivial,trivial,trivial,trivial,trivial,trivial,trivial,trivial,trivial,trivial,trivial,trivial,trivial,trivial,trivial,trivial,trivial,trivial,trivial⟩ ⟨?_,?_,?_,?_,?_,?_,?_,?_,?_,?_,?_,?_,?_,?_,?_,?_,?_,?_,?_,?_,?_,?_,?_,?_,?_,trivial⟩ ?_;iterate 25 (intro x w hb hk Q' hQ;have he:=k_e hk;simp only[k_s]at he;simp only[netE]at hQ⊢;(try simp only[he]at hQ⊢);(try clear he);rotate_left)
         rotate_left
         ·clear hk;go_wp2;exact hQ _ _ br_ rfl
         ·clear hk;have z:=(HB9.out.call hb).cell' (i:=2) rfl;go_wp2;exact hQ _ _ br_ rfl
         iterate 2 (· clear hk;go_wp2;exact hQ _ _ br_ rfl)
         ·clear hk;have z:=(HSP.out.call hb).cell' (i:=0) rfl;go_wp2;exact hQ _ _ br_ rfl
         ·clear hk;go_wp2;rw[hPw.out];exact hQ _ _ br_ rfl
         iterate 3 (· clear hk;go_wp2;exact hQ _ _ br_ rfl)
         ·clear hk;have z:=a7_ hb (show bp<wx.heap.size by omega) P1.out;go_wp2;exact hQ _ _ br_ rfl
         iterate 3 (· clear hk;go_wp2;exact hQ _ _ br_ rfl)
         ·clear hk;have z:=(HSP.out.call hb).cell' (i:=1) rfl;go_wp2;exact hQ _ _ br_ rfl
         iterate 2 (· clear hk;go_wp2;exact hQ _ _ br_ rfl)
         ·clear hk;have z:=a7_ hb (show bu<wx.heap.size by omega) R1.out;go_wp2;exact hQ _ _ br_ rfl
         iterate 3 (· clear hk;go_wp2;exact hQ _ _ br_ rfl)
         ·clear hk;have z:=a7_ hb (show bl<wx.heap.size by omega) L1.out;go_wp2;exact hQ _ _ br_ rfl
         ·clear hk;go_wp2;exact hQ _ _ br_ rfl
         ·clear hk;have z:=a7_ hb (show be<wx.heap.size by omega) E1.out;go_wp2;exact hQ _ _ br_ rfl
         ·clear hk;go_wp2;exact hQ _ _ br_ rfl
         ·clear hk;go_wp2_with fail
          refine (p1_ p (- y) _ HPP.out hgI.out).mono ?_;rintro e w5 ⟨rfl,hww⟩;replace hww:=hww.symm;subst hww;go_wp2;exact hQ (.int .i64 ((- y) % p)) _ br_ rfl
         ·intro x w hb hk hiv hdj;have he:=k_g hk [0,1,2,3,4,5,6,7,8,9,10,11,12,13,14,15,16,17,18,19,20,21,22,23,24];simp only[k_s]at he;simp only[netE,he];clear he hk;have hIFw:=HIF.out.below hb;have cX:=(hIFw.1.cellG (j:=P+b) (by rw[a0_,HFL.out];omega)).1;have fX:=hIFw.1.frozenG (P+b);have rY:=hIFw.put (j:=P+b) (x:=(- y) % p) hgI2.out;rw[HPU.out]at rY;obtain⟨Y2,hY⟩:=e_ (w.setCell ⟨gf,P+b,none⟩ (.int .i64 ((- y) % p)));rw[hY]at rY;have hcY:Chg gf (gf+1) w Y2:=by rw[←hY];exact c6_ _ _ _ _
          have hsw:=hb.size;have hsY:=hcY.size;have RY:=h_ rY;obtain⟨H2,hH2,hIB2⟩:=HIB.out;have HIB2:=h_ (show ∃ H,H.length=BL∧a9_ Y2 W5.heap.size w6.heap.size (.slice (some ⟨gb,0,none⟩) BL bc) H from ⟨H2,hH2,(hIB2.below hb).chg hcY (.inr (by omega))⟩);have HB92:=h_ ((HB9.out.call hb).chg hcY (.inr (by omega)));have HB102:=h_ ((HB10.out.call hb).chg hcY (.inr (by omega)));have HBB2:=h_ ((HBB.out.trans (hb.mono hbs)).trans (hcY.below (by omega) (by omega)));have hs6Y:w6.heap.size<Y2.heap.size:=by omega
          clear hIFw rY hcY hiv hdj hIB2 hH2;go_wp2;clear hY cX fX;go_roundw
          case rel=>exact⟨i+1,by omega,by go_num,HBB2.out,HB92.out,HB102.out,RY.out,HIB2.out,hs6Y⟩
          case measure=>simp[intOf];omega
        ·obtain rfl:i=n:=by omega
         rw[c6Q]at hIF;have HIF:=h_ hIF;have HIB:=h_ hIB;have HBB:=h_ hb;have HB9:=h_ hB9;have HB10:=h_ hB10;clear hIF hIB hb hB9 hB10 hpi hui hfi hSp;go_wp2;go_roundw
         case rel=>exact⟨a+1,by omega,by go_num,HBB.out,HB9.out,HB10.out,HIF.out,HIB.out,hs6⟩
         case measure=>simp[intOf];omega
    ·obtain rfl:a=K:=by omega
     rw[d6Q]at hIF;have kz1:=KR1.out.below (HB.out.trans (hb.mono (by omega))) (by omega);have kz2:=KR2.out.below (HB.out.trans (hb.mono (by omega))) (by omega);have HIF:=h_ hIF;have HB9:=h_ hB9;have HB10:=h_ hB10;have GF:=h_ (G2.out.trans ((HB.out.trans (hb.mono (by omega))).mono (by omega)));have hbs:=hb.size;have hIFl:=hIF.1.lt;obtain⟨wx,hwx⟩:∃ z,z=wr:=⟨_,rfl⟩;subst hwx;clear hIF hB9 hB10 hIB hH hfr hSp hb;go_wp2;refine k9_ (by kernel_rfl) [.eq (.agg #[.int .i64 a,.int .i64 k,.slice FA FL fc]),.eq (.agg #[.int .i64 k,.int .i64 a,.slice BA BL bc])] [[],[],[0],[0,1,2]] 2 1 [0] (by kernel_rfl) rfl ⟨trivial,trivial,trivial⟩ ⟨?_,?_,trivial⟩ ?_ ?_;iterate 2 (intro x w hb hk Q' hQ;have he:=k_e hk;simp only[k_s]at he;simp only[netE]at hQ⊢;(try simp only[he]at hQ⊢);(try clear he);rotate_left)
     rotate_left 2
     ·clear hk;obtain⟨z0,z1,z2⟩:=c_3 (HB9.out.call hb);go_wp2;exact hQ _ _ br_ rfl
     ·clear hk;obtain⟨z0,z1,z2⟩:=c_3 (HB10.out.call hb);go_wp2;exact hQ _ _ br_ rfl
     ·intro x w hb hk hiv hdj;have he:=k_g hk [0,1];simp only[k_s]at he;simp only[netE,he];clear he hk;have k1:=kz1.call hb;have k2:=kz2.call hb;have fr1:=k1.frozen;have fr2:=k2.frozen;obtain⟨y0,y1,y2⟩:=c_3 k1;obtain⟨x0,x1,x2⟩:=c_3 k2;obtain⟨q0,q1,q2⟩:=c_3 (HB10.out.call hb);have hne:w0.heap.size+1+1<w6.heap.size:=by omega
      have hsw:=hb.size;have gw:=GF.out.trans (hb.mono (by omega));have gws:=gw.size;have hc1:=((c6_ w (w0.heap.size+1) 0 (.int .i64 a)).trans (c6_ _ (w0.heap.size+1) 1 (.int .i64 k))).trans (c6_ _ (w0.heap.size+1) 2 (.slice FA FL fc));have hc2:=((c6_ (((w.setCell ⟨w0.heap.size+1,0,none⟩ (.int .i64 a)).setCell ⟨w0.heap.size+1,1,none⟩ (.int .i64 k)).setCell ⟨w0.heap.size+1,2,none⟩ (.slice FA FL fc)) (w0.heap.size+1+1) 0 (.int .i64 k)).trans (c6_ _ (w0.heap.size+1+1) 1 (.int .i64 a))).trans (c6_ _ (w0.heap.size+1+1) 2 (.slice BA BL bc));have hs1:=hc1.size;have hIo:=((HIF.out.below hb).chg hc1 (.inr (by omega))).chg hc2 (.inr (by omega));have OF:=h_ (hIo.wider (lo':=w0.heap.size) (hi':=w.heap.size) (by omega) (by omega));have GG:=h_ ((gw.trans (hc1.below (by omega) gws)).trans (hc2.below (by omega) (by omega)));clear hIo hc1 hc2 k1 k2 gw hiv hdj hs1;go_wp2;exact bodyPost_ret (v:=.tuple #[.agg #[.int .i64 a,.int .i64 k,.slice FA FL fc],.agg #[.int .i64 k,.int .i64 a,.slice BA BL bc]]) (by simp[results,go_sem,y0,y1,y2,x0,x1,x2]) rfl ⟨_,_,_,_,_,_,rfl,by rw[HLE.out,HK.out];exact⟨_,rfl,by simpa [mxF] using OF.out,by simp only[mxF];unfold I64;omega,by simp only[mxF];unfold I64;omega⟩,GG.out⟩
     ·intro x w hb hk hiv hdj om os hom hos;simp only[List.getElem?_cons_zero,List.getElem?_cons_succ,Option.some.injEq]at hom hos;subst hom hos;have he:=k_g hk [0];simp only[k_s]at he;simp only[List.foldl_cons,List.foldl_nil,netE,he];clear he hk;have k1:=kz1.call hb;have k2:=kz2.call hb;have fr1:=k1.frozen;have fr2:=k2.frozen;obtain⟨y0,y1,y2⟩:=c_3 k1;obtain⟨x0,x1,x2⟩:=c_3 k2;obtain⟨q0,q1,q2⟩:=c_3 (HB10.out.call hb);have hne:w0.heap.size+1+1<w6.heap.size:=by omega
      have hsw:=hb.size;have gw:=GF.out.trans (hb.mono (by omega));have gws:=gw.size;have hc1:=((c6_ w (w0.heap.size+1) 0 (.int .i64 a)).trans (c6_ _ (w0.heap.size+1) 1 (.int .i64 k))).trans (c6_ _ (w0.heap.size+1) 2 (.slice FA FL fc));have hc2:=((c6_ (((w.setCell ⟨w0.heap.size+1,0,none⟩ (.int .i64 a)).setCell ⟨w0.heap.size+1,1,none⟩ (.int .i64 k)).setCell ⟨w0.heap.size+1,2,none⟩ (.slice FA FL fc)) (w0.heap.size+1+1) 0 (.int .i64 k)).trans (c6_ _ (w0.heap.size+1+1) 1 (.int .i64 a))).trans (c6_ _ (w0.heap.size+1+1) 2 (.slice BA BL bc));have hs1:=hc1.size;have hIo:=((HIF.out.below hb).chg hc1 (.inr (by omega))).chg hc2 (.inr (by omega));have OF:=h_ (hIo.wider (lo':=w0.heap.size) (hi':=w.heap.size) (by omega) (by omega));have GG:=h_ ((gw.trans (hc1.below (by omega) gws)).trans (hc2.below (by omega) (by omega)));clear hIo hc1 hc2 k1 k2 gw hiv hdj hs1;go_wp2;exact bodyPost_ret (v:=.tuple #[.agg #[.int .i64 a,.int .i64 k,.slice FA FL fc],.agg #[.int .i64 k,.int .i64 a,.slice BA BL bc]]) (by simp[results,go_sem,y0,y1,y2,x0,x1,x2]) rfl ⟨_,_,_,_,_,_,rfl,by rw[HLE.out,HK.out];exact⟨_,rfl,by simpa [mxF] using OF.out,by simp only[mxF];unfold I64;omega,by simp only[mxF];unfold I64;omega⟩,GG.out⟩
theorem f3J {a b K yt P:Nat} (ha:a<K) (hb:b<yt) (hy:yt≤4) (hK:K≤24) (hP:P=a*yt):wrap64 ((a:Int)*(yt:Int))=(P:Int)∧P+b<K*yt∧K*yt≤96:=by
 have h1:(a+1)*yt≤K*yt:=Nat.mul_le_mul_right _ ha;have h2:K*yt≤24*4:=Nat.mul_le_mul hK hy;have h3:(a+1)*yt=a*yt+yt:=by rw[Nat.add_mul,Nat.one_mul]
 refine⟨?_,by omega,by omega⟩;rw[show ((a:Int)*(yt:Int))=((a*yt:Nat):Int) by simp,hP];exact IntWalk.wrap64_in _ ⟨by omega,by omega⟩
theorem w7_ (u:Value) (y:Rp) (v:Int) (w0:World) (hu:RpR w0 w0.heap.size u y) (hv:I64 v) :
  Calls Tryz.prog 18 #[u,.int .i64 v] w0 fun e w'=>∃ r,e = .returned (.tuple #[r,.bool (rsrP y v).2])∧RpR w' w'.heap.size r (rsrP y v).1∧Below w0.heap.size w0 w':=by
 have hu':=hu;obtain⟨A,a,C,c,E,ec,H,hc,rfl,hqr,hdr,hmr,_⟩:=hu.open_;clear hu;obtain⟨W,hW,g0,k1,k2⟩:=b_4 w0 #[.int .i64 y.p,.int .i64 y.q.v,.slice A y.q.f.length a,.slice C y.q.t.length c,.slice E y.d.length ec,.slice H y.m.length hc] 29 #[.int .i64 0,.int .i64 0,.slice none 0 0,.slice none 0 0,.slice none 0 0,.slice none 0 0] 29;have sz:W.heap.size=w0.heap.size+1+1:=by rw[hW];simp
 have SZ:=h_ sz;have HR:=h_ (RpR.next g0 hu');have HQR:=h_ (QvR.next g0 hqr);have HDR:=h_ (SlI.next g0 hdr);have HMR:=h_ (SlM.next g0 hmr);obtain⟨c0,c1,c2,c3,c4,c5⟩:=c_6 k1;clear hu' sz hqr hdr hmr;go_enter Tryz.func18,Tryz.ntmps18
 go_wp2_with fail
 rw[←hW];clear hW;refine (i3_ _ y v _ HR.out hv).mono ?_;rintro e w1 ⟨r1,rfl,hM,hb1⟩;clear c0 c1 c2 c3 c4 c5;rcases hok:k0_ y v with _ | _
 ·have hP:outP y v=(mx0,false):=by rw[outP,if_neg (by rw[hok];decide)]
  have HE:=h_ (show rsrP y v=(rp0,false) by rw[rsrP,if_neg (by rw[hok];decide)]);rw[hP]at hM⊢;obtain⟨MA,mc,em⟩:=hM.form;simp only[mx0,List.length_nil]at em⊢;subst em;obtain⟨W2,hW2⟩:=e_ (w1.alloc (.cells #[.int .i64 0,.int .i64 0,.slice MA 0 mc] 41));have ga:Below w1.heap.size w1 W2:=by rw[←hW2];exact a2_ _ _
  have gW:=a6_ hb1 ga;have kz:=k2.call gW;have fr:=kz.frozen;obtain⟨s0,s1,s2,s3,s4,s5⟩:=c_6 kz;have gf:=g0.trans (gW.mono g0.size);have GF:=h_ gf;clear kz gf gW hM hP hok hb1 ga k1 k2 g0;go_wp2;have gf:=GF.out;have hE:=HE.out;exact bodyPost_ret (v:=.tuple #[.agg #[.int .i64 0,.int .i64 0,.slice none 0 0,.slice none 0 0,.slice none 0 0,.slice none 0 0],.bool false]) (by simp[results,go_sem,s0,s1,s2,s3,s4,s5]) rfl ⟨_,by rw[hE],by rw[hE];exact (RepO.zero _ 0 0).rd,(((((gf.setCell (by simp) _).setCell (by simp) _).setCell (by simp) _).setCell (by simp) _).setCell (by simp) _).setCell (by simp) _⟩
 ·obtain⟨hy,hs⟩:f1_ y=true∧endV y.q.t y.q v=true:=by simpa [k0_] using hok
  obtain⟨n,D,env,hnl,hdn,hdA,hD4,hn5⟩:=k5_ hy hs;subst env;have hP:=y5_ hok hdA;have hN:=B0_ (v:=n) (C:=D) hy _ (l_ _);have hqq:isQ y.q=true:=(b7_.1 (b8_.1 hy).2.1).1;have hn6:y.q.f.length≤6:=(g4_.1 hqq).2.2.1;have hat:=E6_ (C:=D) hy hs _ (l_ _);have houF:=v0_ hy rfl hdn _ (l_ _);have hfld:=(b8_.1 hy).1;have hIp:I64 y.p:=by have:=f4_ hfld;simp only[I64];omega
  have hpr:=f4_ hfld;have HE:=h_ (show rsrP y n=rfP y n (srK y n) (gSrc y n (srK y n) (srF y n)) by rw[rsrP,if_pos hok]);rw[hP]at hM⊢;simp only[outM]at hM;obtain⟨N,hNN⟩:=e_ ((outS y n D y.q.f.length).1);obtain⟨F0,hF0⟩:=e_ ((outS y n D y.q.f.length).2);rw[hNN,hF0]at hM houF;rw[hNN]at hat hN;obtain⟨hsr1,hsr2,hsr3⟩:=d4J hfld hdA hNN hF0 houF;obtain⟨ps0,hps0⟩:=e_ ((rdTo y.p N F0 D).2);have hpl0:=(f6_ y.p N F0 D).2;have hinp:=d0Z hfld hpr.1 houF;rw[hps0]at hsr1 hsr2 hpl0 hinp;obtain⟨g1,hg1⟩:=e_ ((rdTo y.p ps0.length (pvSF F0 ps0) N).1);obtain⟨ps,hps⟩:=e_ ((rdTo y.p ps0.length (pvSF F0 ps0) N).2);have hgp:rdTo y.p ps0.length (pvSF F0 ps0) N=(g1,ps):=by rw[←hg1,←hps]
  have hpl:=(f6_ y.p ps0.length (pvSF F0 ps0) N).1;have hgF:InF y.p ps.length N g1:=fun i j hi hj=>by
   rw[←hg1];rw[hps]at hpl;exact p6_ hpr.1 hinp N i j (by omega) hj
  have hlead:=c0j hfld hpr.1 hinp;rw[hg1,hps]at hlead;rw[hps]at hpl;rw[hps]at hsr1 hsr2;rw[hg1]at hsr2;obtain⟨K,hK⟩:=e_ (srK y n);have hKf:(b2_ ps N).length=K:=by rw[←hK,srK,hsr1,hsr3]
  have hkl:K≤N:=by rw[←hKf];exact d7_ _ _
  obtain⟨F,hF⟩:=e_ (srF y n);rw[hK,hF]at HE hsr2;rw[hKf]at hsr2;have HSR:=h_ hsr2;have HPS0:=h_ hps0;have HGP:=h_ hgp;have HGF:=h_ hgF;have HLE:=h_ hlead;have HKF:=h_ hKf;have HINP:=h_ hinp;have HPR:=h_ hpr;have HY:=h_ hy;have HS:=h_ hs;have HIN:=h_ houF;have HFL:=h_ hfld;have HAT:=h_ hat
  have HQQ:=h_ hqq;have HDN:=h_ hdn;have HML2:=h_ (b8_.1 hy).2.2.1;clear hok hP hNN hF0 hF hsr1 hsr2 hsr3 hps0 hinp hg1 hps hgp hgF hlead hKf hpr hy hs houF hfld hat hK hdA hdn hqq;obtain⟨MA,mc,em⟩:=hM.form;simp only[mxF]at em hM;rw[a0_]at em;subst em;obtain⟨ML,hML⟩:=e_ (N*D);rw[hML]at hM⊢;have HML:=h_ hML;clear hML;obtain⟨W2,hW2,ga,kM⟩:=b_1 w1 #[.int .i64 N,.int .i64 D,.slice MA ML mc] 41;have gW:=a6_ hb1 ga;have k12:=k1.call gW;have c1:=k12.cell' (i:=1) rfl;have c2:=k12.cell' (i:=2) rfl;have c3:=k12.cell' (i:=3) rfl;have HM:=h_ (hM.below ga).rd;have GW:=h_ gW;clear hM hb1 ga gW k12;go_wp2_with fail
  clear hW2;refine (u4_ _ y.q n _ (QvR.next GW.out HQR.out) HQQ.out (.inl HS.out)).mono ?_;rintro e w3 ⟨v3,rfl,hQ3,hb3⟩;obtain⟨QA,qa,QB,qb,ev⟩:=hQ3.form;obtain⟨l1,l2,l3⟩:=X5_ y.q n;rw[l1,l2,l3]at ev;subst ev;obtain⟨W4,hW4,ga,kq⟩:=b_1 w3 #[.int .i64 y.q.v,.slice QA y.q.f.length qa,.slice QB y.q.f.length qb] 26;have g34:=a6_ hb3 ga;have G4:=h_ (GW.out.trans (g34.mono GW.out.size));have HQ4:=h_ (hQ3.below ga).rd;have HM4:=h_ (MxR.next g34 HM.out);have kM4:=kM.call g34;have k14:=k1.call G4.out;clear c1 c2 c3 l1 l2 l3 hQ3 hb3 ga g34 kM;go_upto_region 5 with fail
  clear hW4;have s4w:=kM4.lt;go_cut [10,11] from 34 to 48 (fun s10 _ wx=>∃ (ga:Nat) (FA:Option Addr) (FL fc:Nat),s10 = .pointer (some ⟨ga,0,none⟩)∧Blk wx ga 41 #[.int .i64 K,.int .i64 N,.slice FA FL fc]∧MxR wx wx.heap.size (.agg #[.int .i64 K,.int .i64 N,.slice FA FL fc]) (mxF K N F)∧Below W4.heap.size W4 wx)
  case first =>
   refine k9_ (by kernel_rfl) [.eq (.pointer (some ⟨w0.heap.size,0,none⟩)),.eq (.int .i64 y.p),.eq (.pointer (some ⟨w0.heap.size,0,none⟩)),.eq (.int .i64 y.p),.eq (.pointer (some ⟨w1.heap.size,0,none⟩)),.eq (.int .i64 N),.eq (.pointer (some ⟨w0.heap.size,0,none⟩)),.eq (.int .i64 y.p),.eq (.agg #[.int .i64 N,.int .i64 D,.slice MA ML mc]),rel 9 (fun u lo hi w=>b1_ w lo hi u (b5_ ps0.length N (pvSF F0 ps0))),rel 10 (fun u lo hi w=>∃ GA gc,u = .agg #[.int .i64 N,.slice GA ps.length gc]∧b1_ w lo hi (.slice GA ps.length gc) (b5_ ps.length N g1)),.rel (fun x w=>∃ FA FL fc x2 y2 A2 n2 c2,x.v 11 = .tuple #[.agg #[.int .i64 K,.int .i64 N,.slice FA FL fc],.agg #[.int .i64 x2,.int .i64 y2,.slice A2 n2 c2]]∧MxO w (x.lo 11) (x.hi 11) (.agg #[.int .i64 K,.int .i64 N,.slice FA FL fc]) (mxF K N F)),.rel (fun x w=>x.v 12=x.v 11),.rel (fun x w=>∃ a b,x.v 11 = .tuple #[a,b]∧x.v 13=a),.rel (fun x w=>∃ a b,x.v 11 = .tuple #[a,b]∧x.v 14=b),rel 15 (fun u lo hi w=>∃ gp,u = .pointer (some ⟨gp,0,none⟩)∧(lo≤gp∧gp<hi)∧Blk w gp 41 #[.int .i64 0,.int .i64 0,.slice none 0 0]),rel 16 (fun u lo hi w=>∃ gp,u = .pointer (some ⟨gp,0,none⟩)∧(lo≤gp∧gp<hi)∧Blk w gp 41 #[.int .i64 0,.int .i64 0,.slice none 0 0])] [[],[0],[],[2],[],[4],[],[6],[],[6,7,8],[2,3,4,5,6,7,8,9],[0,1,2,3,4,5,6,7,8,9,10],[0,1,2,3,4,5,6,7,8,9,10,11],[0,1,2,3,4,5,6,7,8,9,10,11,12],[0,1,2,3,4,5,6,7,8,9,10,11,12],[],[],[0,1,2,3,4,5,6,7,8,9,10,11,12,13,15,16],[0,1,2,3,4,5,6,7,8,9,10,11,12,13,14,15,16,17]] 17 14 [0,1,2,3,4,5,6,7,8,9,10,11,12,13,15,16] (by kernel_rfl) rfl ⟨trivial,trivial,trivial,trivial,trivial,trivial,trivial,trivial,trivial,a4_ (fun u lo hi w w' h hb=>h.below hb),a4_ (fun u lo hi w w' ⟨GA,gc,e,h⟩ hb=>⟨GA,gc,e,h.below hb⟩),fun x w w' ⟨FA,FL,fc,x2,y2,A2,n2,c2,e,h⟩ hb=>⟨FA,FL,fc,x2,y2,A2,n2,c2,e,h.below hb⟩,fun x w w' e hb=>e,fun x w w' e hb=>e,fun x w w' e hb=>e,a4_ (fun u lo hi w w' ⟨gp,e,h1,h⟩ hb=>⟨gp,e,h1,h.call hb⟩),a4_ (fun u lo hi w w' ⟨gp,e,h1,h⟩ hb=>⟨gp,e,h1,h.call hb⟩),trivial⟩ ⟨?_,?_,?_,?_,?_,?_,?_,?_,?_,?_,?_,?_,?_,?_,?_,?_,?_,trivial⟩ ?_ ?_;iterate 17 (intro x w hb hk Q' hQ;have he:=k_e hk;simp only[k_s]at he;simp only[netE]at hQ⊢;(try simp only[he]at hQ⊢);(try clear he);rotate_left)
   rotate_left 2
   ·clear hk;go_wp2;exact hQ _ _ br_ rfl
   ·clear hk;have z:=(k14.call hb).cell' (i:=0) rfl;go_wp2;exact hQ _ _ br_ rfl
   ·clear hk;go_wp2;exact hQ _ _ br_ rfl
   ·clear hk;have z:=(k14.call hb).cell' (i:=0) rfl;go_wp2;exact hQ _ _ br_ rfl
   ·clear hk;go_wp2;exact hQ _ _ br_ rfl
   ·clear hk;have z:=(kM4.call hb).cell' (i:=0) rfl;go_wp2;exact hQ _ _ br_ rfl
   ·clear hk;go_wp2;exact hQ _ _ br_ rfl
   ·clear hk;have z:=(k14.call hb).cell' (i:=0) rfl;go_wp2;exact hQ _ _ br_ rfl
   ·clear hk;obtain⟨z0,z1,z2⟩:=c_3 (kM4.call hb);go_wp2;exact hQ _ _ br_ rfl
   ·clear hk;go_wp2_with fail
    refine (Z6_ y.p _ N D F0 _ HFL.out (by omega) (by omega) (MxR.next hb HM4.out) HIN.out).mono ?_;rintro e w6 ⟨v6,rfl,ho6,hb6⟩;rw[HPS0.out]at ho6;go_wp2;exact hQ _ _ hb6 ho6
   ·have h9:b1_ w (x.lo 9) (x.hi 9) (x.v 9) (b5_ ps0.length N (pvSF F0 ps0)):=(hk 9 (by decide)).1;have s9:=(hk 9 (by decide)).2;clear hk;obtain⟨CA,cc,e5,_⟩:=h9.form2;rw[e5]at h9 hQ⊢;rw[a3_]at h9 hQ⊢;go_wp2_with fail
    refine (a5x y.p _ ps0.length N (pvSF F0 ps0) _ HFL.out (by omega) (by omega) h9.rd HINP.out).mono ?_;rintro e w6 ⟨v6,rfl,ho6,hb6⟩;rw[HGP.out]at ho6;obtain⟨GA,gc,e6,_⟩:=ho6.form2;rw[a3_]at e6;subst e6;go_wp2;exact hQ _ _ hb6 ⟨GA,gc,rfl,ho6⟩
   ·have h9:b1_ w (x.lo 9) (x.hi 9) (x.v 9) (b5_ ps0.length N (pvSF F0 ps0)):=(hk 9 (by decide)).1;have h10:∃ GA gc,(x.v 10) = .agg #[.int .i64 N,.slice GA ps.length gc]∧b1_ w (x.lo 10) (x.hi 10) (.slice GA ps.length gc) (b5_ ps.length N g1):=(hk 10 (by decide)).1;have s9:=(hk 9 (by decide)).2;have s10:=(hk 10 (by decide)).2;clear hk;obtain⟨GA,gc,e10,h10⟩:=h10;rw[e10]at hQ⊢;go_wp2_with fail
    refine (M4_ y.p ps.length N g1 ps _ _ HPR.out (by omega) (by omega) h10.rd HGF.out HLE.out).mono ?_;rintro e w6 ⟨v6,x2,y2,A2,n2,c2,rfl,ho6,hb6⟩;rw[HKF.out,←HSR.out]at ho6;obtain⟨FA,fc,e6⟩:=ho6.form;simp only[mxF]at e6;subst e6;go_wp2;exact hQ _ _ hb6 ⟨FA,_,fc,x2,y2,A2,n2,c2,rfl,ho6⟩
   ·have h9:b1_ w (x.lo 9) (x.hi 9) (x.v 9) (b5_ ps0.length N (pvSF F0 ps0)):=(hk 9 (by decide)).1;have h10:∃ GA gc,(x.v 10) = .agg #[.int .i64 N,.slice GA ps.length gc]∧b1_ w (x.lo 10) (x.hi 10) (.slice GA ps.length gc) (b5_ ps.length N g1):=(hk 10 (by decide)).1;have h11:∃ FA FL fc x2 y2 A2 n2 c2,x.v 11 = .tuple #[.agg #[.int .i64 K,.int .i64 N,.slice FA FL fc],.agg #[.int .i64 x2,.int .i64 y2,.slice A2 n2 c2]]∧MxO w (x.lo 11) (x.hi 11) (.agg #[.int .i64 K,.int .i64 N,.slice FA FL fc]) (mxF K N F):=(hk 11 (by decide)).1;have s9:=(hk 9 (by decide)).2;have s10:=(hk 10 (by decide)).2;have s11:=(hk 11 (by decide)).2;clear hk;obtain⟨FA,FL,fc,x2,y2,A2,n2,c2,e,_⟩:=h11;have hQ':=hQ (x.v 11) w br_ rfl;rw[e]at hQ'⊢;go_wp2;exact hQ'
   ·have h9:b1_ w (x.lo 9) (x.hi 9) (x.v 9) (b5_ ps0.length N (pvSF F0 ps0)):=(hk 9 (by decide)).1;have h10:∃ GA gc,(x.v 10) = .agg #[.int .i64 N,.slice GA ps.length gc]∧b1_ w (x.lo 10) (x.hi 10) (.slice GA ps.length gc) (b5_ ps.length N g1):=(hk 10 (by decide)).1;have h11:∃ FA FL fc x2 y2 A2 n2 c2,x.v 11 = .tuple #[.agg #[.int .i64 K,.int .i64 N,.slice FA FL fc],.agg #[.int .i64 x2,.int .i64 y2,.slice A2 n2 c2]]∧MxO w (x.lo 11) (x.hi 11) (.agg #[.int .i64 K,.int .i64 N,.slice FA FL fc]) (mxF K N F):=(hk 11 (by decide)).1;have h12:x.v 12=x.v 11:=(hk 12 (by decide)).1;have s9:=(hk 9 (by decide)).2;have s10:=(hk 10 (by decide)).2;have s11:=(hk 11 (by decide)).2;have s12:=(hk 12 (by decide)).2;clear hk;obtain⟨FA,FL,fc,x2,y2,A2,n2,c2,e,_⟩:=h11;have hQ':=hQ (.agg #[.int .i64 K,.int .i64 N,.slice FA FL fc]) w br_ ⟨_,_,e,rfl⟩;rw[h12,e]at hQ'⊢;go_wp2;exact hQ'
   ·have h9:b1_ w (x.lo 9) (x.hi 9) (x.v 9) (b5_ ps0.length N (pvSF F0 ps0)):=(hk 9 (by decide)).1;have h10:∃ GA gc,(x.v 10) = .agg #[.int .i64 N,.slice GA ps.length gc]∧b1_ w (x.lo 10) (x.hi 10) (.slice GA ps.length gc) (b5_ ps.length N g1):=(hk 10 (by decide)).1;have h11:∃ FA FL fc x2 y2 A2 n2 c2,x.v 11 = .tuple #[.agg #[.int .i64 K,.int .i64 N,.slice FA FL fc],.agg #[.int .i64 x2,.int .i64 y2,.slice A2 n2 c2]]∧MxO w (x.lo 11) (x.hi 11) (.agg #[.int .i64 K,.int .i64 N,.slice FA FL fc]) (mxF K N F):=(hk 11 (by decide)).1;have h12:x.v 12=x.v 11:=(hk 12 (by decide)).1;have s9:=(hk 9 (by decide)).2;have s10:=(hk 10 (by decide)).2;have s11:=(hk 11 (by decide)).2;have s12:=(hk 12 (by decide)).2;clear hk;obtain⟨FA,FL,fc,x2,y2,A2,n2,c2,e,_⟩:=h11;have hQ':=hQ (.agg #[.int .i64 x2,.int .i64 y2,.slice A2 n2 c2]) w br_ ⟨_,_,e,rfl⟩;rw[h12,e]at hQ'⊢;go_wp2;exact hQ'
   ·clear hk;go_wp2;exact hQ _ _ (a2_ _ _) ⟨_,rfl,⟨l_ _,by show w.heap.size<(w.alloc _).heap.size;simp⟩,Blk.new _ _ _⟩
   ·clear hk;go_wp2;exact hQ _ _ (a2_ _ _) ⟨_,rfl,⟨l_ _,by show w.heap.size<(w.alloc _).heap.size;simp⟩,Blk.new _ _ _⟩
   ·intro x w hb hk hiv hdj;have h9:b1_ w (x.lo 9) (x.hi 9) (x.v 9) (b5_ ps0.length N (pvSF F0 ps0)):=hk 9 (by decide);have h10:∃ GA gc,(x.v 10) = .agg #[.int .i64 N,.slice GA ps.length gc]∧b1_ w (x.lo 10) (x.hi 10) (.slice GA ps.length gc) (b5_ ps.length N g1):=hk 10 (by decide);have h11:∃ FA FL fc x2 y2 A2 n2 c2,x.v 11 = .tuple #[.agg #[.int .i64 K,.int .i64 N,.slice FA FL fc],.agg #[.int .i64 x2,.int .i64 y2,.slice A2 n2 c2]]∧MxO w (x.lo 11) (x.hi 11) (.agg #[.int .i64 K,.int .i64 N,.slice FA FL fc]) (mxF K N F):=hk 11 (by decide);have h12:x.v 12=x.v 11:=hk 12 (by decide);have h13:∃ a b,x.v 11 = .tuple #[a,b]∧x.v 13=a:=hk 13 (by decide);have h14:∃ a b,x.v 11 = .tuple #[a,b]∧x.v 14=b:=hk 14 (by decide);have h15:∃ gp,(x.v 15) = .pointer (some ⟨gp,0,none⟩)∧((x.lo 15)≤gp∧gp<(x.hi 15))∧Blk w gp 41 #[.int .i64 0,.int .i64 0,.slice none 0 0]:=hk 15 (by decide);have h16:∃ gp,(x.v 16) = .pointer (some ⟨gp,0,none⟩)∧((x.lo 16)≤gp∧gp<(x.hi 16))∧Blk w gp 41 #[.int .i64 0,.int .i64 0,.slice none 0 0]:=hk 16 (by decide);have he:=k_g hk [0,1,2,3,4,5,6,7,8];simp only[k_s]at he;simp only[netE,he];clear he hk;obtain⟨FA,FL,fc,x2,y2,A2,n2,c2,e11,hMF⟩:=h11;obtain⟨a13,b13,e13a,e13⟩:=h13;rw[e11]at e13a;simp only[Value.tuple.injEq,Array.mk.injEq,List.cons.injEq,and_true]at e13a;obtain⟨ea1,ea2⟩:=e13a;subst ea1 ea2;obtain⟨ga,e15,hga,kA⟩:=h15;obtain⟨gb,e16,hgb,kB⟩:=h16;try
     obtain⟨a14,b14,e14a,e14⟩:=h14;rw[e11]at e14a;simp only[Value.tuple.injEq,Array.mk.injEq,List.cons.injEq,and_true]at e14a;obtain⟨eb1,eb2⟩:=e14a;subst eb1 eb2;rw[e14]
    rw[e13,h12,e11,e15,e16];have i11:=hiv 11 (by decide);have i15:=hiv 15 (by decide);have i16:=hiv 16 (by decide);have d1:=hdj 11 15 (by decide) (by decide) (by decide);have d2:=hdj 11 16 (by decide) (by decide) (by decide);have d3:=hdj 15 16 (by decide) (by decide) (by decide);have hab:ga≠gb:=by omega
    have fA:=kA.frozen;have fB:=kB.frozen;obtain⟨a0,a1,a2⟩:=c_3 kA;obtain⟨b0,b1,b2⟩:=c_3 kB;obtain⟨wA,hwA⟩:=e_ (set3 w ga 0 (.int .i64 K) (.int .i64 N) (.slice FA FL fc));have hcA:Chg ga (ga+1) w wA:=by rw[←hwA];exact q1_ _ _ _ _ _ _
    have kA3:Blk wA ga 41 #[.int .i64 K,.int .i64 N,.slice FA FL fc]:=by rw[←hwA];exact ((kA.set_ 0 _).set_ 1 _).set_ 2 _
    obtain⟨w5,hw5⟩:=e_ (set3 wA gb 0 (.int .i64 x2) (.int .i64 y2) (.slice A2 n2 c2));have hcB:Chg gb (gb+1) wA w5:=by rw[←hw5];exact q1_ _ _ _ _ _ _
    have hbs:=hb.size;have hsA:=hcA.size;have kf5:=kA3.chg hcB (by omega);have hb5:Below W4.heap.size W4 w5:=(hb.trans (hcA.below (by omega) (by omega))).trans (hcB.below (by omega) (by omega));have HK5:=h_ (((hMF.chg hcA (by omega)).chg hcB (by omega)).rd);rw[←hwA]at hw5;clear hMF kA kB hga hgb i11 i15 i16 d1 d2 d3 hcA hcB hwA kA3 hb hiv hdj e11 e13 e15 e16 h12 hbs hsA;go_wp2;go_meet
    case rel=>exact⟨ga,FA,FL,fc,rfl,kf5,HK5.out,hb5⟩
   ·intro x w hb hk hiv hdj om os hom hos;simp only[List.getElem?_cons_zero,List.getElem?_cons_succ,Option.some.injEq]at hom hos;subst hom hos;have h9:b1_ w (x.lo 9) (x.hi 9) (x.v 9) (b5_ ps0.length N (pvSF F0 ps0)):=hk 9 (by decide);have h10:∃ GA gc,(x.v 10) = .agg #[.int .i64 N,.slice GA ps.length gc]∧b1_ w (x.lo 10) (x.hi 10) (.slice GA ps.length gc) (b5_ ps.length N g1):=hk 10 (by decide);have h11:∃ FA FL fc x2 y2 A2 n2 c2,x.v 11 = .tuple #[.agg #[.int .i64 K,.int .i64 N,.slice FA FL fc],.agg #[.int .i64 x2,.int .i64 y2,.slice A2 n2 c2]]∧MxO w (x.lo 11) (x.hi 11) (.agg #[.int .i64 K,.int .i64 N,.slice FA FL fc]) (mxF K N F):=hk 11 (by decide);have h12:x.v 12=x.v 11:=hk 12 (by decide);have h13:∃ a b,x.v 11 = .tuple #[a,b]∧x.v 13=a:=hk 13 (by decide);have h15:∃ gp,(x.v 15) = .pointer (some ⟨gp,0,none⟩)∧((x.lo 15)≤gp∧gp<(x.hi 15))∧Blk w gp 41 #[.int .i64 0,.int .i64 0,.slice none 0 0]:=hk 15 (by decide);have h16:∃ gp,(x.v 16) = .pointer (some ⟨gp,0,none⟩)∧((x.lo 16)≤gp∧gp<(x.hi 16))∧Blk w gp 41 #[.int .i64 0,.int .i64 0,.slice none 0 0]:=hk 16 (by decide);have he:=k_g hk [0,1,2,3,4,5,6,7,8];simp only[k_s]at he;simp only[List.foldl_cons,List.foldl_nil,netE,he];clear he hk;obtain⟨FA,FL,fc,x2,y2,A2,n2,c2,e11,hMF⟩:=h11;obtain⟨a13,b13,e13a,e13⟩:=h13;rw[e11]at e13a;simp only[Value.tuple.injEq,Array.mk.injEq,List.cons.injEq,and_true]at e13a;obtain⟨ea1,ea2⟩:=e13a;subst ea1 ea2;obtain⟨ga,e15,hga,kA⟩:=h15;obtain⟨gb,e16,hgb,kB⟩:=h16;try
     obtain⟨a14,b14,e14a,e14⟩:=h14;rw[e11]at e14a;simp only[Value.tuple.injEq,Array.mk.injEq,List.cons.injEq,and_true]at e14a;obtain⟨eb1,eb2⟩:=e14a;subst eb1 eb2;rw[e14]
    rw[e13,h12,e11,e15,e16];have i11:=hiv 11 (by decide);have i15:=hiv 15 (by decide);have i16:=hiv 16 (by decide);have d1:=hdj 11 15 (by decide) (by decide) (by decide);have d2:=hdj 11 16 (by decide) (by decide) (by decide);have d3:=hdj 15 16 (by decide) (by decide) (by decide);have hab:ga≠gb:=by omega
    have fA:=kA.frozen;have fB:=kB.frozen;obtain⟨a0,a1,a2⟩:=c_3 kA;obtain⟨b0,b1,b2⟩:=c_3 kB;obtain⟨wA,hwA⟩:=e_ (set3 w ga 0 (.int .i64 K) (.int .i64 N) (.slice FA FL fc));have hcA:Chg ga (ga+1) w wA:=by rw[←hwA];exact q1_ _ _ _ _ _ _
    have kA3:Blk wA ga 41 #[.int .i64 K,.int .i64 N,.slice FA FL fc]:=by rw[←hwA];exact ((kA.set_ 0 _).set_ 1 _).set_ 2 _
    obtain⟨w5,hw5⟩:=e_ (set3 wA gb 0 (.int .i64 x2) (.int .i64 y2) (.slice A2 n2 c2));have hcB:Chg gb (gb+1) wA w5:=by rw[←hw5];exact q1_ _ _ _ _ _ _
    have hbs:=hb.size;have hsA:=hcA.size;have kf5:=kA3.chg hcB (by omega);have hb5:Below W4.heap.size W4 w5:=(hb.trans (hcA.below (by omega) (by omega))).trans (hcB.below (by omega) (by omega));have HK5:=h_ (((hMF.chg hcA (by omega)).chg hcB (by omega)).rd);rw[←hwA]at hw5;clear hMF kA kB hga hgb i11 i15 i16 d1 d2 d3 hcA hcB hwA kA3 hb hiv hdj e11 e13 e15 e16 h12 hbs hsA;go_wp2;go_meet
    case rel=>exact⟨ga,FA,FL,fc,rfl,kf5,HK5.out,hb5⟩
  case rest =>
   obtain⟨ga,FA,FL,fc,rfl,kf5,hk5,hb5⟩:=hcut;obtain⟨w5,hw5⟩:∃ z,z=wc:=⟨_,rfl⟩;subst hw5;have HK5:=h_ hk5;clear hk5;have G5:=h_ (G4.out.trans (hb5.mono G4.out.size));have HQ5:=h_ (QvR.next hb5 HQ4.out);have kq5:=kq.call hb5;have k15:=k1.call G5.out;obtain⟨X,hX,bX,kX⟩:=b_1 w5 #[] 3;have HDX:=h_ (SlI.next (a6_ G5.out bX) HDR.out);have c4:=(k15.call bX).cell' (i:=4) rfl;obtain⟨gx,hgx⟩:=e_ (w5.heap.size);rw[hgx]at kX
   (go_wp2_with (at_builtin;refine Hold.stop ?_));unfold Hold
   clear hX;refine c5_ (by rfl) (.tmp 49) (.tmp 51) (by rfl) gx gx X.heap.size #[] (by rfl) kX rfl (l_ _) E ec y.d (by rfl) HDX.out ?_;intro v6 w6 ho6 hb6;obtain⟨DA,dc,ev,hdc1,hdc2⟩:=ho6.form;subst ev;obtain⟨gd,hgd⟩:∃ gd,DA=some ⟨gd,0,none⟩:=by
    obtain⟨g,k,e,_⟩:=(a9_.of_own ho6).at_ (by omega);simp only[Value.slice.injEq,true_and]at e;exact⟨g,e.1⟩
   subst hgd;have dcell:=(ho6.cellG (j:=n) hnl).1;have dfr:=ho6.frozenG n;have dput:=(ho6.put (j:=n) (x:=(K:Int)) (by unfold I64;omega)).1;have hgdl:=ho6.lt gd rfl;obtain⟨W7,hW7⟩:=e_ (w6.setCell ⟨gd,n,none⟩ (.int .i64 K));rw[hW7]at dput;have hc7:Chg gd (gd+1) w6 W7:=by rw[←hW7];exact c6_ _ _ _ _
   have b57:Below w5.heap.size w5 W7:=(bX.trans (hb6.mono bX.size)).trans (hc7.below (by omega) (by have:=bX.size;have:=hb6.size;omega));have G7:=h_ (G5.out.trans (b57.mono G5.out.size));have kq7:=kq5.call b57;have HQ7:=h_ (QvR.next b57 HQ5.out);have HK7:=h_ (MxR.next b57 HK5.out);have kf7:=kf5.call b57;have f0:=((kf5.call bX).call hb6).cell' (i:=0) rfl;have hgaX:ga<w6.heap.size:=((kf5.call bX).call hb6).lt;have hgad:ga≠gd:=by have:=kf5.lt;omega
   have HD7:Hid (SlI W7 W7.heap.size (.slice (some ⟨gd,0,none⟩) y.d.length dc) (rsdD y n K)):=by
    have:=dput.rd;show SlI _ _ _ (y.d.set (n:Int).toNat K);rw[l5_];exact this
   clear ho6 dput hc7 b57 bX kX hb6 kq5 k15 c4 kf5;obtain⟨q0,q1,q2⟩:=c_3 kq7;go_wp2_with fail
   clear hW7 dcell dfr hgx f0;refine (k1_ _ _ (rvQ y.q n) (rsdD y n K) _ HQ7.out HD7.out).mono ?_;rintro e w8 ⟨rfl,hb8⟩;have G8:=h_ (G7.out.trans (hb8.mono G7.out.size));rcases hA:d4_ (rvQ y.q n) (rsdD y n K) with _ | _
   ·have HE2:=h_ (HE.out.trans (b1x (G:=gSrc y n K F) hA));have kz:=k2.call G8.out;have fr:=kz.frozen;have s0:=kz.cell' (i:=0) rfl;have s1':=kz.cell' (i:=1) rfl;have s2':=kz.cell' (i:=2) rfl;have s3':=kz.cell' (i:=3) rfl;have s4':=kz.cell' (i:=4) rfl;have s5':=kz.cell' (i:=5) rfl;have gf:=g0.trans (G8.out.mono g0.size);have GF:=h_ gf;clear kz gf hA hb8 q0 q1 q2;go_wp2;have gf:=GF.out;have hE:=HE2.out;exact bodyPost_ret (v:=.tuple #[.agg #[.int .i64 0,.int .i64 0,.slice none 0 0,.slice none 0 0,.slice none 0 0,.slice none 0 0],.bool false]) (by simp[results,go_sem,s0,s1',s2',s3',s4',s5']) rfl ⟨_,by rw[hE],by rw[hE];exact (RepO.zero _ 0 0).rd,(((((gf.setCell (by simp) _).setCell (by simp) _).setCell (by simp) _).setCell (by simp) _).setCell (by simp) _).setCell (by simp) _⟩
   ·have HE2:=h_ (HE.out.trans (Z1_ (G:=gSrc y n K F) hA));have HA:=h_ hA;have k18:=k1.call G8.out;have kq8:=kq7.call hb8;have HQ8:=h_ (QvR.next hb8 HQ7.out);have HD8:=h_ (SlI.next hb8 HD7.out);have HK8:=h_ (MxR.next hb8 HK7.out);have kf8:=kf7.call hb8;have hga8:=kf8.lt;clear hA q0 q1 q2 kq7 hb8;have c0:=k18.cell' (i:=0) rfl;obtain⟨q0,q1,q2⟩:=c_3 kq8;go_wp2_with fail
    refine (O2_ y.p _ _ (rvQ y.q n) (rsdD y n K) _ hIp HQ8.out HD8.out HA.out).mono ?_;rintro e w9 ⟨v9,rfl,hO9,hb9⟩;obtain⟨QA2,qa2,QB2,qb2,DA2,dc2,HM,hm,ev⟩:=hO9.rd.form;have e1:(zRep y.p (rvQ y.q n) (rsdD y n K)).q.f.length=y.q.f.length:=a1_ _ _;have e2:(zRep y.p (rvQ y.q n) (rsdD y n K)).q.t.length=y.q.f.length:=a1_ _ _;have e3:(zRep y.p (rvQ y.q n) (rsdD y n K)).d.length=y.d.length:=by simp[zRep,rsdD]
    have e4:(zRep y.p (rvQ y.q n) (rsdD y n K)).m.length=y.q.f.length:=by rw[zRep,c8Q,d0_];exact e1
    have e5:(zRep y.p (rvQ y.q n) (rsdD y n K)).q.v=y.q.v:=rfl;have e6:(zRep y.p (rvQ y.q n) (rsdD y n K)).p=y.p:=rfl;rw[e1,e2,e3,e4,e5,e6]at ev;subst ev;have hO9':RepI w9 w8.heap.size w9.heap.size (.agg #[.int .i64 y.p,.int .i64 y.q.v,.slice QA2 y.q.f.length qa2,.slice QB2 y.q.f.length qb2,.slice DA2 y.d.length dc2,.slice HM y.q.f.length hm]) ⟨y.p,rvQ y.q n,rsdD y n K,msF y.q.f.length (rsrM y n K F 0)⟩:=by
     have hz:zRep y.p (rvQ y.q n) (rsdD y n K)=⟨y.p,rvQ y.q n,rsdD y n K,msF y.q.f.length (rsrM y n K F 0)⟩:=by
      rw[zRep,c8Q,show (rvQ y.q (n:Int)).f.length=y.q.f.length from a1_ _ _];congr 1
     rw[←hz];exact hO9
    obtain⟨W10,hW10,ga,kO⟩:=b_1 w9 #[.int .i64 y.p,.int .i64 y.q.v,.slice QA2 y.q.f.length qa2,.slice QB2 y.q.f.length qb2,.slice DA2 y.d.length dc2,.slice HM y.q.f.length hm] 29;have lO:=kO.lt;have hO10:=(hO9'.below ga).wider (l_ _) ga.size;have hb810:=a6_ hb9 ga;have hHM:Hid (∀ (j:Nat) (m:Mx),j<y.q.f.length→∃ gH,HM=some ⟨gH,0,none⟩∧gH<w9.heap.size):=fun j m hj=>by
     obtain⟨g,c',s',e,h1,h2,_⟩:=hO9'.mxAt (j:=j) (l2_ (by rw[d0_];exact hj));simp only[Value.slice.injEq,true_and]at e;exact⟨g,e.1,h2⟩
    have s9:=hb9.size;clear e1 e2 e3 e4 e5 e6 hO9 hO9' hb9 ga c0 q0 q1 q2 k18 kq8;go_wp2;clear hW10;go_loopw [14,15] (fun av i wr=>∃ k:Nat,k≤y.q.f.length∧i = .int .i64 k∧av = .int .i64 (atN y n k)∧Below w8.heap.size w8 wr∧Blk wr w9.heap.size 29 #[.int .i64 y.p,.int .i64 y.q.v,.slice QA2 y.q.f.length qa2,.slice QB2 y.q.f.length qb2,.slice DA2 y.d.length dc2,.slice HM y.q.f.length hm]∧RepI wr w8.heap.size wr.heap.size (.agg #[.int .i64 y.p,.int .i64 y.q.v,.slice QA2 y.q.f.length qa2,.slice QB2 y.q.f.length qb2,.slice DA2 y.d.length dc2,.slice HM y.q.f.length hm]) ⟨y.p,rvQ y.q n,rsdD y n K,msF y.q.f.length (rsrM y n K F k)⟩∧w9.heap.size<wr.heap.size) (fun _ i _=>y.q.f.length-(intOf i).toNat)
    case atStart=>exact⟨0,l0_ _,rfl,rfl,hb810,kO,hO10,lO⟩
    case round =>
     clear hb810 kO hO10 lO;obtain⟨k,hk,rfl,rfl,hb,hB,hO,hlO⟩:=hrel;have gWr:=G8.out.trans (hb.mono G8.out.size);have gws:=gWr.size;have hbs:=hb.size;have kr:=k1.call gWr;have c5:=kr.cell' (i:=5) rfl;have hml:y.m.length≤y.q.f.length:=Nat.le_of_eq HML2.out;have hml2:y.q.f.length≤y.m.length:=Nat.le_of_eq HML2.out.symm;by_cases hkn:k<y.q.f.length
     ·obtain⟨m,nf,nt,yf,yt,em,ef,et,df,dt,eM,_,b1,b2,b3,b4,hfd,htd,b8,b9⟩:=g9_ HY.out hkn;have hlt:=(g4_.1 HQQ.out).2.1;obtain⟨bt,ot,xt,eC,hbt,HXT,t1,_⟩:=SlI.at_ (QvR.sl HQR.out).1 hkn;subst eC;have q2:=HXT.out;rw[ef]at q2;injection q2 with q2
      subst q2;obtain⟨bm,om,m',MB,mb,eH,hbm,HXM,x0,x1,x2,hsl,hr1,hr2,_⟩:=SlM.at_ HMR.out b9;subst eH;have q3:=HXM.out;rw[em]at q3;injection q3 with q3
      subst q3;have hMR:MxR W W.heap.size (.agg #[.int .i64 m.r,.int .i64 m.c,.slice MB m.a.length mb]) m:=⟨_,rfl,hsl,hr1,hr2⟩;have hmc:m.r=(yt:Int):=by rw[eM];rfl
      rw[hmc]at x0;have t1':=a7_ gWr hbt t1;have c3:=kr.cell' (i:=2) rfl;obtain⟨gH,eHM,hgHl⟩:=hHM.out k m hkn;subst eHM;have HTC:=h_ (p8_ (v:=(n:Int)) ef et);have hne:nt≠n:=by
       rintro rfl;exact (q2_ HS.out).1 (l4_ et)
      obtain⟨o1,o2⟩:=L5_ (v:=(n:Int)) ef et df dt;by_cases hnf:(nf:Int)=n
      ·have hd:((nf:Int) != (n:Int))=false:=by rw[bne_eq_false_iff_eq];exact hnf
       have htc:tch y.q n k=true:=by rw[HTC.out,hnf];simp
       have hoth:othN y n k=yt:=o2 hnf;have hzm:zmAt (rvQ y.q n) (rsdD y n K) k=mxF K (othN y n k) fun _ _=>0:=by
        rw[hoth];exact f5q hkn hlt (by rw[hnf]at ef;exact ef) et dt hne hnl
       have hA1:atN y n (k+1)=atN y n k+yt:=by rw[atN,if_pos htc,hoth]
       have hfit:=A4_ htc hkn;rw[HAT.out,hoth]at hfit;have hI0:=f1q (F:=F) hzm;have HEND:=h_ (c3X (K:=K) (F:=F) htc);have HOTH:=h_ hoth;have HA1:=h_ hA1;obtain⟨at_,hat_⟩:=e_ (atN y n k);rw[hat_]at hfit⊢;have HAT_:=h_ hat_;have X1:=h_ x0;rw[hI0]at hO;have GWr:=h_ gWr;obtain⟨wa,hwa⟩:∃ z,z=wr:=⟨_,rfl⟩;subst hwa;have HB:=h_ hB;have HO:=h_ hO;have HBB:=h_ hb;clear hat_ hA1 htc hnf hMR hsl hr1 hr2 x0 x1 x2 em ef et df dt eM hB hO hb kr HTC HXT HXM o1 o2 hne hmc t1 gWr hI0 hzm hoth hlt;go_wp2;clear c5 c3 t1';go_loopw [16] (fun i wr=>∃ ja:Nat,ja≤K∧i = .int .i64 ja∧Below w8.heap.size w8 wr∧Blk wr w9.heap.size 29 #[.int .i64 y.p,.int .i64 y.q.v,.slice QA2 y.q.f.length qa2,.slice QB2 y.q.f.length qb2,.slice DA2 y.d.length dc2,.slice (some ⟨gH,0,none⟩) y.q.f.length hm]∧RepI wr w8.heap.size wr.heap.size (.agg #[.int .i64 y.p,.int .i64 y.q.v,.slice QA2 y.q.f.length qa2,.slice QB2 y.q.f.length qb2,.slice DA2 y.d.length dc2,.slice (some ⟨gH,0,none⟩) y.q.f.length hm]) ⟨y.p,rvQ y.q n,rsdD y n K,msF y.q.f.length (rsrI y n K F k ja 0)⟩∧w9.heap.size<wr.heap.size) (fun i _=>K-(intOf i).toNat)
       case atStart=>exact⟨0,l0_ _,rfl,HBB.out,HB.out,HO.out,hlO⟩
       case round =>
        clear HBB HB HO;obtain⟨ja,hja,rfl,hb,hB,hO,hl2⟩:=hrel;have gWr:=G8.out.trans (hb.mono G8.out.size);have kr:=k1.call gWr;have kfr:=kf8.below hb hga8;have y0:=kfr.cell' (i:=0) rfl;have hbs2:=hb.size;by_cases hjl:ja<K
        ·have HB:=h_ hB;have HO:=h_ hO;have HBB:=h_ hb;have HJL:=h_ hjl;clear hB hO hb kr gWr kfr;obtain⟨wb,hwb⟩:∃ z,z=wr:=⟨_,rfl⟩;subst hwb;go_wp2;clear y0;go_loopw [17] (fun i wr=>∃ jb:Nat,jb≤yt∧i = .int .i64 jb∧Below w8.heap.size w8 wr∧Blk wr w9.heap.size 29 #[.int .i64 y.p,.int .i64 y.q.v,.slice QA2 y.q.f.length qa2,.slice QB2 y.q.f.length qb2,.slice DA2 y.d.length dc2,.slice (some ⟨gH,0,none⟩) y.q.f.length hm]∧RepI wr w8.heap.size wr.heap.size (.agg #[.int .i64 y.p,.int .i64 y.q.v,.slice QA2 y.q.f.length qa2,.slice QB2 y.q.f.length qb2,.slice DA2 y.d.length dc2,.slice (some ⟨gH,0,none⟩) y.q.f.length hm]) ⟨y.p,rvQ y.q n,rsdD y n K,msF y.q.f.length (rsrI y n K F k ja jb)⟩∧w9.heap.size<wr.heap.size) (fun i _=>yt-(intOf i).toNat)
         case atStart=>exact⟨0,l0_ _,rfl,HBB.out,HB.out,HO.out,hl2⟩
         case round =>
          clear HBB HB HO;obtain⟨jb,hjb,rfl,hb,hB,hO,hl3⟩:=hrel;have hbs3:=hb.size;have gWr:=G8.out.trans (hb.mono G8.out.size);have kr:=k1.call gWr;have c5:=kr.cell' (i:=5) rfl;have x1:=a7_ gWr hbm X1.out;have hbmw:bm<wr.heap.size:=Nat.lt_of_lt_of_le hbm gWr.size;by_cases hjk:jb<yt
          ·obtain⟨FM,eFM,hSM,_,_⟩:=HK8.out;simp only[mxF,Value.agg.injEq,Array.mk.injEq,List.cons.injEq,and_true,true_and]at eFM;subst eFM;simp only[mxF]at hSM;obtain⟨Q,hQ⟩:∃ Q,Q=ja*N:=⟨_,rfl⟩;have hQw:=h_ (ixP (i:=ja) (k:=at_+jb) (r:=K) (c:=N) hjl (by omega) (by omega) (by omega) hQ);obtain⟨f1,_,f3⟩:=rowP (i:=ja) (k:=at_+jb) (r:=K) (c:=N) hjl (by omega) (by omega) (by omega) hQ;have hFL:FL=K*N:=by obtain⟨_,_,e,_⟩:=hSM;injection e with _ e _;rw[e,a0_]
           obtain⟨bf,of_,xv,eR,hbr,HXV,v1,hx1,hx2⟩:=SlI.atM (k:=Q+(at_+jb)) hSM (by rw[a0_,hFL]) (by rw[hFL];exact f1);subst eR;have hxv:=HXV.out;rw[hQ,j0_ F hjl (show at_+jb<N by omega)]at hxv;injection hxv with hxv
           have hfl1:Q+(at_+jb)<FL:=by rw[hFL];exact f1
           have hfl3:FL≤1000000:=by rw[hFL];exact f3
           have hyl:=d6j y n K k F ja jb hkn;rw[HOTH.out]at hyl;obtain⟨P,hP⟩:∃ P,P=ja*yt:=⟨_,rfl⟩;obtain⟨p1,p2,p3⟩:=f3J hjl hjk b2 (by omega) hP;obtain⟨Lk,hLk⟩:=e_ (K*yt);rw[hLk]at p2 p3;have hput:=hO.putMx (i:=P+jb) (z:=xv) hyl (by simp only[mxF];rw[a0_,hLk];exact p2) ⟨hx1,hx2⟩;simp only[mxF]at hput;rw[a0_,hLk]at hput;obtain⟨g,cg,gr,cr,eg,z1,z2,⟨u0,z3⟩,z4,⟨cg1,cg2⟩,⟨cr1,cr2⟩,⟨hgr1,hgr2⟩,hapart,_⟩:=hput;simp only[Value.slice.injEq,Option.some.injEq,Addr.mk.injEq,and_true,true_and,d0_]at eg cg1;obtain⟨eg1,eg2⟩:=eg;subst eg1;subst eg2;have HPUT:=h_ (fun (w:World) (h:RepI w w8.heap.size w.heap.size (.agg #[.int .i64 y.p,.int .i64 y.q.v,.slice QA2 y.q.f.length qa2,.slice QB2 y.q.f.length qb2,.slice DA2 y.d.length dc2,.slice (some ⟨gH,0,none⟩) y.q.f.length hm]) ⟨y.p,rvQ y.q n,rsdD y n K,msF y.q.f.length (rsrI y n K F k ja jb)⟩)=>RepI.putMx (i:=P+jb) (z:=xv) h hyl (by simp only[mxF];rw[a0_,hLk];exact p2) ⟨hx1,hx2⟩);have hst:=c1Q (x:=y) (v:=(n:Int)) (K:=K) (k:=k) (F:=F) (a:=ja) (b:=jb) hjl (by rw[HOTH.out];exact hjk);have hxv2:F ja (atN y n k+jb)=xv:=by rw[HAT_.out];exact hxv
           rw[HOTH.out,hxv2,←hP]at hst;have HST:=h_ hst;have hgo:=hapart _ _ _ hB (by decide);have HP1:=h_ p1;have Z2:=h_ z2;have V1:=h_ v1;have XR:=h_ x1;have KR:=h_ kr;have KF:=h_ (kf8.below hb hga8);have HBr:=h_ hB;have HOr:=h_ hO;have HBBr:=h_ hb;have hgHw:gH<wr.heap.size:=by omega
           have hLKe:=h_ hLk;obtain⟨wc,hwc⟩:∃ z,z=wr:=⟨_,rfl⟩;subst hwc;clear hSM HXV hxv hxv2 hyl hLk hst hB hO hb z1 z2 z3 z4 v1 hapart p1 hP hQ hFL f1 f3 kr gWr;go_wp2;clear c5 x1;refine a8_ (by kernel_rfl) [.eq (.pointer (some ⟨w9.heap.size,5,none⟩)),.eq (.slice (some ⟨gH,0,none⟩) y.q.f.length hm),.eq (.int .i64 k),.eq (.pointer (some ⟨gH,k*3,none⟩)),.eq (.pointer (some ⟨gH,k*3+2,none⟩)),.eq (.slice (some ⟨gr,0,none⟩) Lk cr),.eq (.int .i64 ja),.eq (.pointer (some ⟨w0.heap.size,5,none⟩)),.eq (.slice (some ⟨bm,om,none⟩) y.m.length hc),.eq (.int .i64 k),.eq (.pointer (some ⟨bm,om+k*3,none⟩)),.eq (.pointer (some ⟨bm,om+k*3,none⟩)),.eq (.int .i64 yt),.eq (.int .i64 P),.eq (.int .i64 jb),.eq (.int .i64 ((P:Int)+jb)),.eq (.pointer (some ⟨ga,2,none⟩)),.eq (.slice (some ⟨bf,of_,none⟩) FL fc),.eq (.int .i64 ja),.eq (.pointer (some ⟨ga,1,none⟩)),.eq (.int .i64 N),.eq (.int .i64 Q),.eq (.int .i64 at_),.eq (.int .i64 ((Q:Int)+at_)),.eq (.int .i64 jb),.eq (.int .i64 ((Q:Int)+at_+jb)),.eq (.pointer (some ⟨bf,of_+(Q+(at_+jb)),none⟩)),.eq (.int .i64 xv)] [[],[0],[],[0,1,2],[0,1,2,3],[0,1,2,3,4],[],[],[7],[],[7,8,9],[7,8,9,10],[7,8,9,10,11],[6,7,8,9,10,11,12],[],[6,7,8,9,10,11,12,13,14],[],[16],[],[],[19],[18,19,20],[],[18,19,20,21,22],[],[18,19,20,21,22,23,24],[16,17,18,19,20,21,22,23,24,25],[16,17,18,19,20,21,22,23,24,25,26],[0,1,2,3,4,5,6,7,8,9,10,11,12,13,14,15,16,17,18,19,20,21,22,23,24,25,26,27],[0,1,2,3,4,5,6,7,8,9,10,11,12,13,14,15,16,17,18,19,20,21,22,23,24,25,26,27,28]] 28 (by kernel_rfl) ⟨trivial,trivial,trivial,trivial,trivial,trivial,trivial,trivial,trivial,trivial,trivial,trivial,trivial,trivial,trivial,trivial,trivial,trivial,trivial,trivial,trivial,trivial,trivial,trivial,trivial,trivial,trivial,trivial,trivial⟩ ⟨?_,?_,?_,?_,?_,?_,?_,?_,?_,?_,?_,?_,?_,?_,?_,?_,?_,?_,?_,?_,?_,?_,?_,?_,?_,?_,?_,?_,trivial⟩ ?_;iterate 28 (intro x w hb hk Q' hQ;have he:=k_e hk;simp only[k_s]at he;simp only[netE]at hQ⊢;(try simp only[he]at hQ⊢);(try clear he);rotate_left)
           rotate_left
           ·clear hk;go_wp2;exact hQ _ _ br_ rfl
           ·clear hk;have z:=(HBr.out.call hb).cell' (i:=5) rfl;go_wp2;exact hQ _ _ br_ rfl
           iterate 3 (· clear hk;go_wp2;exact hQ _ _ br_ rfl)
           ·clear hk;have z:=a7_ hb hgHw Z2.out;go_wp2;exact hQ _ _ br_ rfl
           iterate 2 (· clear hk;go_wp2;exact hQ _ _ br_ rfl)
           ·clear hk;have z:=(KR.out.call hb).cell' (i:=5) rfl;go_wp2;exact hQ _ _ br_ rfl
           iterate 3 (· clear hk;go_wp2;exact hQ _ _ br_ rfl)
           ·clear hk;have z:=a7_ hb hbmw XR.out;go_wp2;exact hQ _ _ br_ rfl
           ·clear hk;go_wp2;rw[HP1.out];exact hQ _ _ br_ rfl
           iterate 3 (· clear hk;go_wp2;exact hQ _ _ br_ rfl)
           ·clear hk;have z:=(KF.out.call hb).cell' (i:=2) rfl;go_wp2;exact hQ _ _ br_ rfl
           iterate 2 (· clear hk;go_wp2;exact hQ _ _ br_ rfl)
           ·clear hk;have z:=(KF.out.call hb).cell' (i:=1) rfl;go_wp2;exact hQ _ _ br_ rfl
           ·clear hk;go_wp2;rw[hQw.out];exact hQ _ _ br_ rfl
           iterate 4 (· clear hk;go_wp2;exact hQ _ _ br_ rfl)
           ·clear hk;go_wp2;rw[show Q+at_+jb=Q+(at_+jb) by omega];exact hQ (.pointer (some ⟨bf,of_+(Q+(at_+jb)),none⟩)) _ br_ rfl
           ·clear hk;have z:=a7_ (HBBr.out.trans (hb.mono hbs3)) hbr V1.out;go_wp2;exact hQ _ _ br_ rfl
           ·intro x w hb hk hiv hdj;have he:=k_g hk [0,1,2,3,4,5,6,7,8,9,10,11,12,13,14,15,16,17,18,19,20,21,22,23,24,25,26,27];simp only[k_s]at he;simp only[netE,he];clear he hk;have hOw:=(HOr.out.below hb).wider (l_ _) hb.size;have hput:=HPUT.out w hOw;simp only[mxF]at hput;rw[a0_,hLKe.out]at hput;obtain⟨g,cg,gr2,cr2,eg,z1,z2,⟨u0,z3⟩,z4,_,_,⟨hg1,hg2⟩,_,hnew⟩:=hput;simp only[Value.slice.injEq,Option.some.injEq,Addr.mk.injEq,and_true,true_and,d0_]at eg;obtain⟨eg1,eg2⟩:=eg;subst eg1;subst eg2;have hz:=a7_ hb hgHw Z2.out;rw[z2]at hz;simp only[Option.some.injEq,Value.slice.injEq,Addr.mk.injEq,and_true,true_and]at hz;obtain⟨hz1,hz2⟩:=hz;subst hz1;subst hz2;rw[HST.out]at hnew;obtain⟨W14,hW14⟩:=e_ (w.setCell ⟨gr2,P+jb,none⟩ (.int .i64 xv));rw[hW14]at hnew;have hch3:Chg gr2 (gr2+1) w W14:=by rw[←hW14];exact c6_ _ _ _ _
            have hs14:W14.heap.size=w.heap.size:=by rw[←hW14];simp
            have hbsw:=hb.size;have HREP:=h_ (hnew.wider (l_ _) (show w.heap.size≤W14.heap.size by omega));have hB14:=h_ ((HBr.out.call hb).chg hch3 (by omega));have hb14:=h_ ((HBBr.out.trans (hb.mono (by omega))).trans (hch3.below (B:=w8.heap.size) hg1 (by omega)));have hl14:w9.heap.size<W14.heap.size:=by omega
            clear hnew hch3 hs14 hOw hiv hdj z1 z2;go_wp2;clear hW14 z3 z4;refine⟨⟨jb+1,by omega,by go_num,hb14.out,hB14.out,HREP.out,hl14⟩,?_⟩;simp[intOf];omega
          ·obtain rfl:jb=yt:=by omega
           have hnx:=b2z y n K k F ja;rw[HOTH.out]at hnx;rw[hnx]at hO;have HB:=h_ hB;have HO:=h_ hO;have HBB:=h_ hb;have hjl:=HJL.out;clear hB hO hb hnx kr gWr;go_wp2;go_roundw
           case rel=>exact⟨ja+1,by omega,by go_num,HBB.out,HB.out,HO.out,hl3⟩
           case measure=>simp[intOf];omega
        ·obtain rfl:ja=K:=by omega
         rw[HEND.out]at hO;have c5:=kr.cell' (i:=5) rfl;have x1:=a7_ gWr hbm X1.out;have HB:=h_ hB;have HO:=h_ hO;have HBB:=h_ hb;have hatb:at_≤24:=by omega
         clear hB hO hb kr gWr kfr;go_wp2;refine⟨⟨k+1,by omega,by go_num,by rw[HA1.out,HAT_.out];go_num,HBB.out,HB.out,HO.out,hl2⟩,?_⟩;simp[intOf];omega
      ·have hd:((nf:Int) != (n:Int))=true:=by rw[bne_iff_ne];exact hnf
       have htc:tch y.q n k=false:=by rw[HTC.out];simp;exact⟨by omega,by omega⟩
       have hcp:=b0Q (K:=K) (F:=F) htc em;have hA1:atN y n (k+1)=atN y n k:=by rw[atN,if_neg (by rw[htc];decide)]
       have HCP:=h_ hcp;have HA1:=h_ hA1;have HMRr:=h_ (MxR.next gWr hMR);have X0:=h_ (a7_ gWr hbm x0);have X1:=h_ (a7_ gWr hbm x1);have X2:=h_ (a7_ gWr hbm x2);have HMC:=h_ hmc;have KR:=h_ kr;have HB:=h_ hB;have HO:=h_ hO;have HBB:=h_ hb;obtain⟨at_,hat_⟩:=e_ (atN y n k);rw[hat_]at HA1⊢;have hbmr:bm<wr.heap.size:=by omega
       obtain⟨wa,hwa⟩:∃ z,z=wr:=⟨_,rfl⟩;subst hwa;clear hat_ hcp hA1 htc hnf hlt hMR hsl hr1 hr2 x0 x1 x2 em ef et df dt eM hB hO hb kr HTC HXT HXM o1 o2 hne hmc t1;go_wp2;clear c5 c3 t1';refine a8_ (by kernel_rfl) [.eq (.pointer (some ⟨w9.heap.size,5,none⟩)),.eq (.slice (some ⟨gH,0,none⟩) y.q.f.length hm),.eq (.int .i64 k),.eq (.pointer (some ⟨w0.heap.size,5,none⟩)),.eq (.slice (some ⟨bm,om,none⟩) y.m.length hc),.eq (.int .i64 k),.eq (.pointer (some ⟨bm,om+k*3,none⟩)),.eq (.agg #[.int .i64 yt,.int .i64 m.c,.slice MB m.a.length mb]),rel 8 (fun u lo hi w=>MxO w lo hi u m),.eq (.pointer (some ⟨gH,k*3,none⟩))] [[],[0],[],[],[3],[],[3,4,5],[3,4,5,6],[3,4,5,6,7],[0,1,2,3,4,5,6,7,8],[0,1,2,3,4,5,6,7,8,9]] 10 (by kernel_rfl) ⟨trivial,trivial,trivial,trivial,trivial,trivial,trivial,trivial,a4_ (fun u lo hi w w' h hb=>h.below hb),trivial,trivial⟩ ⟨?_,?_,?_,?_,?_,?_,?_,?_,?_,?_,trivial⟩ ?_;iterate 10 (intro x w hb hk Q' hQ;have he:=k_e hk;simp only[k_s]at he;simp only[netE]at hQ⊢;(try simp only[he]at hQ⊢);(try clear he);rotate_left)
       rotate_left
       ·clear hk;go_wp2;exact hQ _ _ br_ rfl
       ·clear hk;have z:=(HB.out.call hb).cell' (i:=5) rfl;go_wp2;exact hQ _ _ br_ rfl
       iterate 2 (· clear hk;go_wp2;exact hQ _ _ br_ rfl)
       ·clear hk;have z:=(KR.out.call hb).cell' (i:=5) rfl;go_wp2;exact hQ _ _ br_ rfl
       iterate 2 (· clear hk;go_wp2;exact hQ _ _ br_ rfl)
       ·clear hk;have z0:=a7_ hb hbmr X0.out;have z1:=a7_ hb hbmr X1.out;have z2:=a7_ hb hbmr X2.out;go_wp2;exact hQ _ _ br_ rfl
       ·clear hk;go_wp2_with fail
        refine (D3_ _ m _ (by have:=MxR.next hb HMRr.out;rw[HMC.out]at this;exact this)).mono ?_;rintro e w6 ⟨v6,rfl,ho6,hb6⟩;go_wp2;exact hQ _ _ hb6 ho6
       ·clear hk;go_wp2;exact hQ _ _ br_ rfl
       ·intro x w hb hk hiv hdj;have h8:MxO w (x.lo 8) (x.hi 8) (x.v 8) m:=hk 8 (by decide);have he:=k_g hk [0,1,2,3,4,5,6,7,9];simp only[k_s]at he;simp only[netE,he];clear he hk;have i8:=hiv 8 (by decide);obtain⟨AM,am,e8⟩:=h8.form;rw[e8]at h8⊢;obtain⟨mr,hmr⟩:=e_ (m.r);obtain⟨mk,hmk⟩:=e_ (m.c);obtain⟨ml,hml3⟩:=e_ (m.a.length);rw[hmr,hmk,hml3]at h8⊢;have hOw:=HO.out.below hb;have hbs2:=hb.size;have o8:=h8.wider (lo':=wa.heap.size) (hi':=w.heap.size) i8.1 i8.2.2;have hset:=RepI.setMx hOw (j:=k) (by rw[d0_];exact hkn) o8 (l_ _) (by omega);obtain⟨W14,hW14⟩:=e_ (set3 w gH (k*3) (.int .i64 mr) (.int .i64 mk) (.slice AM ml am));rw[hW14]at hset;have hch3:Chg gH (gH+1) w W14:=by rw[←hW14];exact q1_ _ _ _ _ _ _
        have hs14:W14.heap.size=w.heap.size:=by rw[←hW14];simp
        have HREP:=h_ (show RepI W14 w8.heap.size W14.heap.size _ ⟨y.p,rvQ y.q n,rsdD y n K,msF y.q.f.length (rsrM y n K F (k+1))⟩ from by
         rw[←HCP.out];exact hset.1.wider (l_ _) (by omega))
        have hB14:=h_ ((HB.out.call hb).chg hch3 (.inr (by omega)));have hb14:=h_ ((HBB.out.trans (hb.mono (by omega))).trans (hch3.below (B:=w8.heap.size) hset.2.1 (by omega)));have hl14:w9.heap.size<W14.heap.size:=by omega
        obtain⟨g,c',s',e,_,_,z0,z1,z2,_,zf⟩:=hOw.mxAt (j:=k) (l2_ (by rw[d0_];exact hkn));simp only[Value.slice.injEq,Option.some.injEq,Addr.mk.injEq,and_true,true_and]at e;obtain⟨eg1,_,eg2⟩:=e;subst eg1;subst eg2;replace z0:∃ u,w.cell? ⟨gH,k*3,none⟩=some u:=⟨_,z0⟩;replace z1:∃ u,w.cell? ⟨gH,k*3+1,none⟩=some u:=⟨_,z1⟩;replace z2:∃ u,w.cell? ⟨gH,k*3+2,none⟩=some u:=⟨_,z2⟩;obtain⟨u0,z0⟩:=z0;obtain⟨u1,z1⟩:=z1;obtain⟨u2,z2⟩:=z2;clear hset hch3 hs14 hOw hmr hmk hml3 hiv hdj e8 o8 h8 i8;go_wp2;clear hW14 z0 z1 z2 zf;refine⟨⟨k+1,by omega,by go_num,by rw[HA1.out],hb14.out,hB14.out,HREP.out,hl14⟩,?_⟩;simp[intOf];omega
     ·obtain rfl:k=y.q.f.length:=by omega
      have kz:=k2.call gWr;have fr:=kz.frozen;obtain⟨s0,s1,s2,s3,s4,s5⟩:=c_6 kz;obtain⟨r0,r1,r2,r3,r4,r5⟩:=c_6 hB;have gf:=g0.trans (gWr.mono g0.size);have hc6:=chg6 wr (w0.heap.size+1) (.int .i64 y.p) (.int .i64 y.q.v) (.slice QA2 y.q.f.length qa2) (.slice QB2 y.q.f.length qb2) (.slice DA2 y.d.length dc2) (.slice HM y.q.f.length hm);have hw8:=G8.out.size;have OF:=h_ ((hO.chg hc6 (.inr (by have:=SZ.out;omega))).rd);have GF:=h_ (gf.trans (hc6.below (by omega) gf.size));have HRS:=h_ (c6z y n K F);clear hO hB kz gf hc6 hb kr gWr;go_wp2;have hE:=HE2.out;exact bodyPost_ret (v:=.tuple #[.agg #[.int .i64 y.p,.int .i64 y.q.v,.slice QA2 y.q.f.length qa2,.slice QB2 y.q.f.length qb2,.slice DA2 y.d.length dc2,.slice HM y.q.f.length hm],.bool true]) (by simp[results,go_sem,s0,s1,s2,s3,s4,s5]) rfl ⟨_,by rw[hE],by rw[hE,rfK,←HRS.out];exact OF.out,GF.out⟩
end Go.Proofs.YtnohdlkailpnoaaGreat

