/- FnBars: the law holds for every argument. Part 13 of 16 of the proof: Hom1, RvA, InOut, RfP, Hom2, Hom2b, Hom3, IsoP, SpP, RstP, IsoE, FncL, KvN, LnA, LnB, LnC. No condition. -/
import Derived.Test.YtbgccbmdiolhbaaGreatBBars12
set_option linter.unusedVariables false
set_option linter.unusedSimpArgs false
set_option maxHeartbeats 12800000
set_option maxRecDepth 100000
namespace Go.Proofs.YtbgccbmdiolhbaaGreat
open Go.RowKit
structure Fit2 (x y:Rp):Prop where
 hx:m9_ x=true
 hy:m9_ y=true
 hp:x.p=y.p
 hq:x.q=y.q
theorem Fit2.len {x y:Rp} (h:Fit2 x y):y.d.length=x.d.length∧x.d.length≤5:=by
 have h1:=(c3_.1 (j0_.1 h.hx).2.1);have h2:=(c3_.1 (j0_.1 h.hy).2.1);have h3:=j2_.1 h1.1;rw[←h.hq]at h2;omega
theorem Fit2.dim {x y:Rp} (h:Fit2 x y) {k:Nat} (hk:k<x.d.length):x.d[k]?=some (dmN x.d k:Int)∧y.d[k]?=some (dmN y.d k:Int)∧dmN x.d k≤4∧dmN y.d k≤4:=by
 have one:∀ (d:List Int),(∀ e∈d,0≤e∧e≤4)→k<d.length→d[k]?=some (dmN d k:Int)∧dmN d k≤4:=by
  intro d hd hl;have e:=l2_ hl;have:=hd _ (l4_ e);rw[dmN,l1_,e,Option.getD_some];exact⟨by congr 1;omega,by omega⟩
 have h1:=one x.d (c3_.1 (j0_.1 h.hx).2.1).2.2.1 hk;have h2:=one y.d (c3_.1 (j0_.1 h.hy).2.1).2.2.1 (by have:=h.len;omega);exact⟨h1.1,h2.1,h1.2,h2.2⟩
theorem Fit2.p2 {x y:Rp} (h:Fit2 x y):2≤x.p∧x.p≤5:=f9_ (j0_.1 h.hx).1
theorem Fit2.arr {x y:Rp} (h:Fit2 x y) {k:Nat} (hk:k<x.q.f.length):x.q.f[k]?=some (srN x.q k:Int)∧x.q.t[k]?=some (tgN x.q k:Int)∧srN x.q k<x.d.length∧tgN x.q k<x.d.length∧k<x.q.t.length ∧
  x.m[k]?=some (mxF (dmN x.d (tgN x.q k)) (dmN x.d (srN x.q k)) (arF x k))∧y.m[k]?=some (mxF (dmN y.d (tgN x.q k)) (dmN y.d (srN x.q k)) (arF y k)) ∧
  InF x.p (dmN x.d (tgN x.q k)) (dmN x.d (srN x.q k)) (arF x k)∧InF x.p (dmN y.d (tgN x.q k)) (dmN y.d (srN x.q k)) (arF y k):=by
 obtain⟨m,nf,nt,yf,yt,em,ef,et,df,dt,hm,hr,_,_,_,_,l1,l2,l3,_⟩:=T3_ h.hx hk;obtain⟨m',nf',nt',yf',yt',em',ef',et',df',dt',hm',hr',_⟩:=T3_ h.hy (k:=k) (by rw[←h.hq];exact hk);have s1:=f4j ef;have s2:=f4J et;have s3:=f4j ef';have s4:=f4J et';have e1:=a7J df;have e2:=a7J dt;have e3:=a7J df';have e4:=a7J dt';have q1:=h.hq;rw[←q1,s1]at s3;rw[←q1,s2]at s4;subst s3 s4;have A1:arF x k=B5_ m.a yf:=by rw[arF,l1_,em,Option.getD_some,s1,e1]
 have A2:arF y k=B5_ m'.a yf':=by rw[arF,l1_,em',Option.getD_some,←q1,s1,e3]
 rw[s1,s2,e1,e2,e3,e4,A1,A2];refine⟨ef,et,l1,l2,l3,by rw[em,←hm],by rw[em',←hm'],fun a b ha hb=>hr a b ha hb,fun a b ha hb=>?_⟩;have:=hr' a b ha hb;rwa[←h.hp]at this
theorem Fit2.arrs {x y:Rp} (h:Fit2 x y):x.q.f.length≤6∧x.m.length=x.q.f.length∧y.m.length=x.q.f.length∧x.q.t.length=x.q.f.length:=by
 have h1:=j2_.1 (c3_.1 (j0_.1 h.hx).2.1).1;have h2:=(j0_.1 h.hx).2.2.1;have h3:=(j0_.1 h.hy).2.2.1;rw[←h.hq]at h3;exact⟨h1.2.2.1,h2,h3,h1.2.1.symm⟩
theorem c0Q {x y:Rp} (h:Fit2 x y):∀ {v:Nat},v≤x.d.length→hOff x.d y.d v≤v*16
 | 0,_=>l0_ _
 | v+1,hv=>by
  have:=c0Q h (v:=v) (by omega);obtain⟨_,_,h1,h2⟩:=h.dim (k:=v) (by omega);have:dmN y.d v*dmN x.d v≤4*4:=Nat.mul_le_mul h2 h1;simp only[hOff];omega
theorem Q0_ {x y:Rp} (h:Fit2 x y):hmN x y≤80:=by
 have:=c0Q h (l_ _);have:=h.len.2;unfold hmN;omega
theorem Fit2.dims {x y:Rp} (h:Fit2 x y) (k:Nat):dmN x.d k≤4∧dmN y.d k≤4:=by
 by_cases hk:k<x.d.length
 ·exact (h.dim hk).2.2
 ·have h1:x.d.length≤k:=by omega
  have h2:y.d.length≤k:=by have:=h.len;omega
  simp[dmN,l1_,h1,h2]
theorem b9x {x y:Rp} (h:Fit2 x y):eqR x y≤96:=by
 have one:∀ K,(eqL x y (hmN x y) K).length≤K*16:=by
  intro K;induction K with
  | zero=>simp[eqL]
  | succ K ih =>
   rw[eqL,List.length_append,eqRw,b8_];have:dmN y.d (tgN x.q K)*dmN x.d (srN x.q K)≤4*4:=Nat.mul_le_mul (h.dims _).2 (h.dims _).1;omega
 have:=one x.q.f.length;have:=h.arrs.1;unfold eqR;omega
theorem S1_ (u:Value) (ms:List Mx) (w:World) (hu:SlM w w.heap.size u ms) (hn:ms.length≤1000) (ht:totA ms≤100000) :
  Calls Tryz.prog 128 #[u] w fun e w'=>∃ v,e = .returned v∧a8_ w' w.heap.size w'.heap.size v (flM ms)∧Below w.heap.size w w':=by
 obtain⟨A,c,rfl,_,_,_,hx⟩:=hu.open_;clear hu;have HX:=h_ hx;have HT:=h_ ht;obtain⟨n,hnl⟩:=e_ (ms.length);have HNL:=h_ hnl;rw[hnl]at hn⊢;clear hx ht hnl;go_enter Tryz.func128,Tryz.ntmps128
 go_wp2;go_loopw [3,8] (fun out i wr=>∃ k:Nat,k≤n∧i = .int .i64 k∧OwnI wr w.heap.size out (flM (ms.take k))∧Below w.heap.size w wr) (fun _ i _=>n-(intOf i).toNat)
 case atStart=>exact⟨0,l0_ _,rfl,by simpa [flM] using OwnI.nil _ _,Below.refl _ _⟩
 case round =>
  obtain⟨k,hk,rfl,hO,hbel⟩:=hrel;have hbs:=hbel.size;obtain⟨OA,oc,eo,_,_⟩:=hO.form;subst eo;by_cases hlt:k<n
  ·have hx:=HX.out;obtain⟨b,o,m,A',c',rfl,hb,HX2,x1,x2,x3,hsl,_,_,_⟩:=SlM.at_ hx (by rw[HNL.out];exact hlt);have d1:=a4_ hbel hb x1;have d2:=a4_ hbel hb x2;have d3:=a4_ hbel hb x3;have e1:flM (ms.take (k+1))=flM (ms.take k) ++ m.a:=by rw[c6_ HX2.out,b9X,c0j]
   have hle:(flM (ms.take (k+1))).length≤100000:=by
    have h1:ms=ms.take (k+1) ++ ms.drop (k+1):=(List.take_append_drop _ _).symm;have h2:=congrArg totA h1;rw[x9_]at h2;have:=HT.out;rw[x1_];omega
   rw[e1,List.length_append]at hle;have E1:=h_ e1;obtain⟨W1,hW1,ga,kW⟩:=b_1 wr #[.int .i64 m.r,.int .i64 m.c,.slice A' m.a.length c'] 65;have z2:=kW.cell' (i:=2) rfl;have GW:=h_ (hbel.trans (ga.mono hbs));have HS:=h_ (SlI.below GW.out hsl);have HO:=h_ (hO.below ga);have HLE:=h_ hle;have sa:=ga.size;obtain⟨fl,hfl⟩:=e_ ((flM (ms.take k)).length);rw[hfl]at hO⊢;have HFL:=h_ hfl;clear e1 hx hsl HX2 x1 x2 x3 hO hle hbel ga kW hfl
   (go_wp2_with (at_builtin;refine Hold.stop ?_));unfold Hold
   clear hW1;have hO1:=HO.out;rw[HFL.out]at hO1;have hlo2:=hO1.lt;refine d7_ rfl (.tmp 12) (.tmp 14) rfl w.heap.size w.heap.size _ _ rfl hO1 A' m.a.length c' m.a rfl rfl HS.out (by have:=HLE.out;omega) (by omega) ?_;intro v' w' h1 h2 h3;rw[←E1.out]at h1;have g2:=(GW.out).trans (c9_ h2 (fun k hk=>(hlo2 k hk).1) (by omega));have H1:=h_ h1;have G2:=h_ g2;clear h1 h2 h3 g2 hlo2 hO1;go_wp2;go_roundw
   case rel=>exact⟨k+1,by omega,by go_num,H1.out,G2.out⟩
   case measure=>simp[intOf];omega
  ·obtain rfl:k=n:=by omega
   have e0:ms.take k=ms:=l7_ (by have:=HNL.out;omega);rw[e0]at hO⊢;have HO:=h_ (a8_.of_own hO);have HB:=h_ hbel;obtain⟨fl,hfl⟩:=e_ ((flM ms).length);rw[hfl];have HFL:=h_ hfl;clear hO hbel e0 hfl;go_wp2;go_ret
   exact⟨_,rfl,by have:=HO.out;rw[HFL.out]at this;exact this,HB.out⟩
theorem N6_ (ua ub:Value) (X Y:Rp) (w0:World) (ha:RpR w0 w0.heap.size ua X) (hb:RpR w0 w0.heap.size ub Y) (hf:Fit2 X Y) :
  Calls Tryz.prog 99 #[ua,ub] w0 fun e w'=>∃ v,e = .returned v∧d8_ w' w0.heap.size w'.heap.size v (zrL X.d Y.d X.d.length)∧Below w0.heap.size w0 w':=by
 have ha':=ha;have hb':=hb;obtain⟨A,a,C,c,Ea,ea,Ha,ha_,rfl,hqa,hda,hma,hpa,lda,lma⟩:=ha.open_;obtain⟨A2,a2,C2,c2,Eb,eb,Hb,hb_,rfl,hqb,hdb,hmb,hpb,ldb,lmb⟩:=hb.open_;clear ha hb;obtain⟨W,hW,g0,k1,k2⟩:=b_4 w0 #[.int .i64 X.p,.int .i64 X.q.v,.slice A X.q.f.length a,.slice C X.q.t.length c,.slice Ea X.d.length ea,.slice Ha X.m.length ha_] 29 #[.int .i64 Y.p,.int .i64 Y.q.v,.slice A2 Y.q.f.length a2,.slice C2 Y.q.t.length c2,.slice Eb Y.d.length eb,.slice Hb Y.m.length hb_] 29;have HXA:=h_ (RpR.next g0 ha');have HXB:=h_ (RpR.next g0 hb');have HQA:=h_ (QvR.next g0 hqa);have HDA:=h_ (SlI.next g0 hda);have HDB:=h_ (SlI.next g0 hdb);have HMA:=h_ (SlM.next g0 hma);have HMB:=h_ (SlM.next g0 hmb);have G0:=h_ g0;clear ha' hb' hqa hqb hda hdb hma hmb hpa hpb g0;have HF:=h_ hf;have hl5:=hf.len.2;have HLY:=h_ hf.len.1;obtain⟨V,hV⟩:=e_ (X.d.length);obtain⟨VY,hVY⟩:=e_ (Y.d.length);rw[hV]at hl5 k1 hW⊢;rw[hVY]at k2 hW⊢;have hVV:VY=V:=by have:=HLY.out;omega
 subst hVV;have HV:=h_ hV;have HVY:=h_ hVY;have c4:=k1.cell' (i:=4) rfl;clear hf hV hVY;go_enter Tryz.func99,Tryz.ntmps99
 go_wp2;rw[←hW];clear hW;go_loopw [5,11] (fun out i wr=>∃ k:Nat,k≤VY∧i = .int .i64 k∧d8_ wr W.heap.size wr.heap.size out (zrL X.d Y.d k)∧Below W.heap.size W wr) (fun _ i _=>VY-(intOf i).toNat)
 case atStart=>exact⟨0,l0_ _,rfl,d8_.nil _ _ _,Below.refl _ _⟩
 case round =>
  obtain⟨k,hk,rfl,hO,hbel⟩:=hrel;have hbs:=hbel.size;obtain⟨OA,oc,eo,_,_⟩:=hO.form2;rw[o2_]at eo;subst eo;by_cases hlt:k<VY
  ·obtain⟨dx,dy,bx,by_⟩:=HF.out.dim (k:=k) (by rw[HV.out];exact hlt);obtain⟨b1,o1,x1,e1,hb1,HX1,z1,_,_⟩:=SlI.at_ HDA.out (k:=k) (by rw[HV.out];exact hlt);obtain⟨b2,o2,x2,e2,hb2,HX2,z2,_,_⟩:=SlI.at_ HDB.out (k:=k) (by rw[HVY.out];exact hlt);subst e1 e2;have q1:=HX1.out;rw[dx]at q1;injection q1 with q1
   subst q1;have q2:=HX2.out;rw[dy]at q2;injection q2 with q2
   subst q2;have HZS:=h_ (V7_ X.d Y.d k);obtain⟨DX,hDX⟩:=e_ (dmN X.d k);obtain⟨DY,hDY⟩:=e_ (dmN Y.d k);rw[hDX]at z1 bx HZS;rw[hDY]at z2 by_ HZS;clear HX1 HX2 dx dy hDX hDY;have z1r:=a4_ hbel hb1 z1;have z2r:=a4_ hbel hb2 z2;have kBr:=k2.call hbel;have z4r:=kBr.cell' (i:=4) rfl;have HO:=h_ hO;have HB:=h_ hbel;clear hO hbel z1 z2 kBr c4;go_wp2_with fail
   refine (r8_ (DY:Int) (DX:Int) _ (by omega) (by omega) (by omega) (by omega)).mono ?_;rintro e w5 ⟨v5,rfl,⟨s,rfl,hs,hI⟩,hb5⟩;rw[o6_]at hs hI⊢;obtain⟨sA,sc,es⟩:=hs.form;obtain⟨sn,hsn⟩:=e_ ((mxF DY DX fun _ _=>0).a.length);rw[hsn]at es;subst es;clear hsn;simp only[mxF]at hs hI⊢;obtain⟨Z,hZ⟩:=e_ (w5.alloc (.cells #[.int .i64 DY,.int .i64 DX,.slice sA sn sc] 65));obtain⟨gz,hgz⟩:=e_ (w5.heap.size);have bZ:Below w5.heap.size w5 Z:=by rw[←hZ];exact a0_ _ _
   have kZ:Blk Z gz 65 #[.int .i64 DY,.int .i64 DX,.slice sA sn sc]:=by rw[←hZ,←hgz];exact Blk.new _ _ _
   have s5:=hb5.size;have sZ:=bZ.size;have HOZ:=h_ ((HO.out.below hb5).below bZ);have HSZ:=h_ (hs.below bZ);have HKZ:=h_ kZ;have HBZ:=h_ ((HB.out.trans (hb5.mono hbs)).trans (bZ.mono (by omega)));have HI:=h_ hI;have hgz2:w5.heap.size≤gz:=Nat.le_of_eq hgz;clear hs hI hb5 bZ kZ z1r z2r z4r
   (go_wp2_with (at_builtin;refine Hold.stop ?_));unfold Hold
   clear hZ hgz;refine o5_ (by rfl) (.tmp 16) (.tmp 24) (by rfl) W.heap.size wr.heap.size _ (zrL X.d Y.d k) (by rfl) HOZ.out gz 1 wr.heap.size w5.heap.size (mxF DY DX fun _ _=>0) (.slice sA sn sc) (by rfl) HKZ.out HSZ.out HI.out (l_ _) hbs (by omega) (by omega) (by rw[o2_];omega) ?_;intro v' w' h1 h2;rw[←HZS.out]at h1;have H1:=h_ h1;have H2:=h_ (HBZ.out.trans (h2.below (l_ _) (by omega)));clear h1 h2;go_wp2;go_roundw
   case rel=>exact⟨k+1,by omega,by go_num,H1.out,H2.out⟩
   case measure=>simp[intOf];omega
  ·obtain rfl:k=VY:=by omega
   have HO:=h_ hO;have GF:=h_ (G0.out.trans (hbel.mono G0.out.size));have hgs:=G0.out.size;clear hO hbel;go_wp2;go_ret
   exact⟨_,rfl,HO.out.wider hgs (l_ _),GF.out⟩
def czL (X Y:Rp) (K:Nat):List Mx:=(List.range K).map fun k=>mxF (dmN Y.d (tgN X.q k)) (dmN X.d (srN X.q k)) fun _ _=>0
theorem a7z (X Y:Rp) (K:Nat):czL X Y (K+1)=czL X Y K ++ [mxF (dmN Y.d (tgN X.q K)) (dmN X.d (srN X.q K)) fun _ _=>0]:=by simp[czL,List.range_succ]
theorem w9_ (X Y:Rp) (K:Nat):(czL X Y K).length=K:=by simp[czL]
theorem a1X (X Y:Rp) (n:Nat):∀ K,totA (czL X Y K)=(eqL X Y n K).length
 | 0=>rfl
 | K+1=>by rw[a7z,x9_,a1X X Y n K,J8_,eqL,List.length_append,eqRw,b8_,mxF,a1_]
theorem G9_ (ua ub:Value) (X Y:Rp) (w0:World) (ha:RpR w0 w0.heap.size ua X) (hb:RpR w0 w0.heap.size ub Y) (hf:Fit2 X Y) :
  Calls Tryz.prog 131 #[ua,ub] w0 fun e w'=>∃ v,e = .returned v∧d8_ w' w0.heap.size w'.heap.size v (czL X Y X.q.f.length)∧Below w0.heap.size w0 w':=by
 have ha':=ha;have hb':=hb;obtain⟨A,a,C,c,Ea,ea,Ha,ha_,rfl,hqa,hda,hma,hpa,lda,lma⟩:=ha.open_;obtain⟨A2,a2,C2,c2,Eb,eb,Hb,hb_,rfl,hqb,hdb,hmb,hpb,ldb,lmb⟩:=hb.open_;clear ha hb;obtain⟨W,hW,g0,k1,k2⟩:=b_4 w0 #[.int .i64 X.p,.int .i64 X.q.v,.slice A X.q.f.length a,.slice C X.q.t.length c,.slice Ea X.d.length ea,.slice Ha X.m.length ha_] 29 #[.int .i64 Y.p,.int .i64 Y.q.v,.slice A2 Y.q.f.length a2,.slice C2 Y.q.t.length c2,.slice Eb Y.d.length eb,.slice Hb Y.m.length hb_] 29;have HXA:=h_ (RpR.next g0 ha');have HXB:=h_ (RpR.next g0 hb');have HQA:=h_ (QvR.next g0 hqa);have HDA:=h_ (SlI.next g0 hda);have HDB:=h_ (SlI.next g0 hdb);have HMA:=h_ (SlM.next g0 hma);have HMB:=h_ (SlM.next g0 hmb);have G0:=h_ g0;clear ha' hb' hqa hqb hda hdb hma hmb hpa hpb g0;have HF:=h_ hf;have hN6:=hf.arrs.1;have HLEN:=h_ hf.len;obtain⟨_,_,_,_,eqq,hfs,hts,_⟩:=HQA.out.open_;simp only[Value.agg.injEq,Array.mk.injEq,List.cons.injEq,and_true,Value.slice.injEq,true_and]at eqq;obtain⟨⟨rfl,rfl⟩,rfl,rfl⟩:=eqq;have HFS:=h_ hfs;have HTS:=h_ hts;have c2_:=k1.cell' (i:=2) rfl;clear hf hfs hts;go_enter Tryz.func131,Tryz.ntmps131
 go_wp2;rw[←hW];clear hW;go_loopw [5,12] (fun out i wr=>∃ k:Nat,k≤X.q.f.length∧i = .int .i64 k∧d8_ wr W.heap.size wr.heap.size out (czL X Y k)∧Below W.heap.size W wr) (fun _ i _=>X.q.f.length-(intOf i).toNat)
 case atStart=>exact⟨0,l0_ _,rfl,d8_.nil _ _ _,Below.refl _ _⟩
 case round =>
  obtain⟨k,hk,rfl,hO,hbel⟩:=hrel;have hbs:=hbel.size;obtain⟨OA,oc,eo,_,_⟩:=hO.form2;rw[w9_]at eo;subst eo;by_cases hlt:k<X.q.f.length
  ·obtain⟨ef,et,lf,lt,hkt,_⟩:=HF.out.arr hlt;obtain⟨dfx,_,bfx,_⟩:=HF.out.dim lf;obtain⟨_,dty,_,bty⟩:=HF.out.dim lt;have HZS:=h_ (a7z X Y k);obtain⟨nf,hnf⟩:=e_ (srN X.q k);obtain⟨nt,hnt⟩:=e_ (tgN X.q k);rw[hnf]at ef lf dfx bfx HZS;rw[hnt]at et lt dty bty HZS;obtain⟨YF,hYF⟩:=e_ (dmN X.d nf);obtain⟨YT,hYT⟩:=e_ (dmN Y.d nt);rw[hYF]at dfx bfx HZS;rw[hYT]at dty bty HZS;clear hnf hnt hYF hYT;obtain⟨bf,of_,x1,e1,hbf,HX1,z1,_,_⟩:=SlI.at_ HFS.out hlt;obtain⟨bt,ot,x2,e2,hbt,HX2,z2,_,_⟩:=SlI.at_ HTS.out hkt;obtain⟨bd,od,x3,e3,hbd,HX3,z3,_,_⟩:=SlI.at_ HDA.out lf;have lty:nt<Y.d.length:=by have:=HLEN.out;omega
   obtain⟨be,oe,x4,e4,hbe,HX4,z4,_,_⟩:=SlI.at_ HDB.out lty;subst e1 e2 e3 e4;have q1:=HX1.out;rw[ef]at q1;injection q1 with q1
   subst q1;have q2:=HX2.out;rw[et]at q2;injection q2 with q2
   subst q2;have q3:=HX3.out;rw[dfx]at q3;injection q3 with q3
   subst q3;have q4:=HX4.out;rw[dty]at q4;injection q4 with q4
   subst q4;clear HX1 HX2 HX3 HX4 ef et dfx dty;have K1:=h_ (k1.call hbel);have K2:=h_ (k2.call hbel);have y1:=a4_ hbel hbf z1;have y2:=a4_ hbel hbt z2;have y3:=a4_ hbel hbd z3;have y4:=a4_ hbel hbe z4;have Y2:=h_ y2;have Y3:=h_ y3;have Y4:=h_ y4;have HO:=h_ hO;have HB:=h_ hbel;clear hO hbel y2 y3 y4 z1 z2 z3 z4 c2_;have a1':(0:Int)≤(nt:Int):=by omega
   have a2':(nt:Int)<Y.d.length:=by omega
   have a3':(0:Int)≤(nf:Int):=by omega
   have a4':(nf:Int)<X.d.length:=by omega
   have a5':(k:Int)<X.q.t.length:=by omega
   go_wp2;clear y1;refine a9_ (by kernel_rfl) [.eq (.slice OA k oc),.eq (.pointer (some ⟨w0.heap.size+1,4,none⟩)),.eq (.slice (some ⟨be,oe,none⟩) Y.d.length eb),.eq (.pointer (some ⟨w0.heap.size,1,none⟩)),.eq (.pointer (some ⟨w0.heap.size,3,none⟩)),.eq (.slice (some ⟨bt,ot,none⟩) X.q.t.length c),.eq (.int .i64 k),.eq (.pointer (some ⟨bt,ot+k,none⟩)),.eq (.int .i64 nt),.eq (.pointer (some ⟨be,oe+nt,none⟩)),.eq (.int .i64 YT),.eq (.pointer (some ⟨w0.heap.size,4,none⟩)),.eq (.slice (some ⟨bd,od,none⟩) X.d.length ea),.eq (.int .i64 nf),.eq (.pointer (some ⟨bd,od+nf,none⟩)),.eq (.int .i64 YF),rel 16 (fun u lo hi w=>MxO w lo hi u (mxF YT YF fun _ _=>0)),.rel (fun x w=>∃ g s,x.v 17 = .slice (some ⟨g,0,none⟩) 1 1∧x.v 16 = .agg #[.int .i64 YT,.int .i64 YF,s]∧Blk w g 65 #[.int .i64 YT,.int .i64 YF,s])] [[],[],[1],[],[3],[3,4],[],[3,4,5,6],[3,4,5,6,7],[1,2,3,4,5,6,7,8],[1,2,3,4,5,6,7,8,9],[],[11],[],[11,12,13],[11,12,13,14],[1,2,3,4,5,6,7,8,9,10,11,12,13,14,15],[1,2,3,4,5,6,7,8,9,10,11,12,13,14,15,16],[0,1,2,3,4,5,6,7,8,9,10,11,12,13,14,15,16,17],[0,1,2,3,4,5,6,7,8,9,10,11,12,13,14,15,16,17,18]] 18 (by kernel_rfl) ⟨trivial,trivial,trivial,trivial,trivial,trivial,trivial,trivial,trivial,trivial,trivial,trivial,trivial,trivial,trivial,trivial,a7_ (fun u lo hi w w' h hb=>h.below hb),fun x w w' ⟨g,s,e1,e2,h⟩ hb=>⟨g,s,e1,e2,h.call hb⟩,trivial⟩ ⟨?_,?_,?_,?_,?_,?_,?_,?_,?_,?_,?_,?_,?_,?_,?_,?_,?_,?_,trivial⟩ ?_;iterate 18 (intro x w hb hk Q' hQ;have he:=k_e hk;simp only[k_s]at he;simp only[netE]at hQ⊢;(try simp only[he]at hQ⊢);(try clear he);rotate_left)
   rotate_left
   iterate 2 (· clear hk;go_wp2;exact hQ _ _ br_ rfl)
   ·clear hk;have z:=(K2.out.call hb).cell' (i:=4) rfl;go_wp2;exact hQ _ _ br_ rfl
   iterate 2 (· clear hk;go_wp2;exact hQ _ _ br_ rfl)
   ·clear hk;have z:=(K1.out.call hb).cell' (i:=3) rfl;go_wp2;exact hQ _ _ br_ rfl
   iterate 2 (· clear hk;go_wp2;exact hQ _ _ br_ rfl)
   ·clear hk;have z:=a4_ hb (by omega) Y2.out;go_wp2;exact hQ _ _ br_ rfl
   ·clear hk;go_wp2;exact hQ _ _ br_ rfl
   ·clear hk;have z:=a4_ hb (by omega) Y4.out;go_wp2;exact hQ _ _ br_ rfl
   ·clear hk;go_wp2;exact hQ _ _ br_ rfl
   ·clear hk;have z:=(K1.out.call hb).cell' (i:=4) rfl;go_wp2;exact hQ _ _ br_ rfl
   iterate 2 (· clear hk;go_wp2;exact hQ _ _ br_ rfl)
   ·clear hk;have z:=a4_ hb (by omega) Y3.out;go_wp2;exact hQ _ _ br_ rfl
   ·clear hk;go_wp2_with fail
    refine (r8_ (YT:Int) (YF:Int) _ (by omega) (by omega) (by omega) (by omega)).mono ?_;rintro e w3 ⟨v3,rfl,hZ,hb3⟩;rw[o6_]at hZ;go_wp2;exact hQ _ _ hb3 hZ
   ·have h16:MxO w (x.lo 16) (x.hi 16) (x.v 16) (mxF YT YF fun _ _=>0):=(hk 16 (by decide)).1;have s16:=(hk 16 (by decide)).2;clear hk;obtain⟨s,e16,hs⟩:=h16;obtain⟨sA,sc,es⟩:=hs.1.form;obtain⟨sn,hsn⟩:=e_ ((mxF YT YF fun _ _=>0).a.length);rw[hsn]at es;clear hsn hs;subst es;have hQ':=hQ (.slice (some ⟨w.heap.size,0,none⟩) 1 1) (w.alloc (.cells #[.int .i64 (mxF YT YF fun _ _=>0).r,.int .i64 (mxF YT YF fun _ _=>0).c,.slice sA sn sc] 65)) (a0_ _ _) ⟨_,_,rfl,e16,Blk.new _ _ _⟩;simp only[mxF]at e16 hQ';rw[e16]at hQ'⊢;go_wp2;exact hQ'
   ·intro x w hb hk hiv hdj;have h16:MxO w (x.lo 16) (x.hi 16) (x.v 16) (mxF YT YF fun _ _=>0):=hk 16 (by decide);have h17:∃ g s,x.v 17 = .slice (some ⟨g,0,none⟩) 1 1∧x.v 16 = .agg #[.int .i64 YT,.int .i64 YF,s]∧Blk w g 65 #[.int .i64 YT,.int .i64 YF,s]:=hk 17 (by decide);have he:=k_g hk [0,1,2,3,4,5,6,7,8,9,10,11,12,13,14,15];simp only[k_s]at he;simp only[netE,he];clear he hk;obtain⟨g,s,ej,ei,hg⟩:=h17;have li:=(hiv 16 (by decide)).1;have hi_:=(hiv 16 (by decide)).2.2;obtain⟨s',ei',hs,hI⟩:=h16;rw[ei]at ei';simp only[Value.agg.injEq,Array.mk.injEq,List.cons.injEq,and_true,mxF,true_and]at ei';subst ei';rw[ej];have hbs2:=hb.size;have HOZ:=h_ (HO.out.below hb);have HKZ:=h_ hg;have HSZ:=h_ (hs.wider li hi_);have HI:=h_ hI;have HBZ:=h_ (HB.out.trans (hb.mono hbs));clear hiv hdj hs hI ej ei hg hb;refine o5_ (by rfl) (.tmp 17) (.tmp 34) (by rfl) W.heap.size wr.heap.size _ (czL X Y k) (by rfl) HOZ.out g 1 wr.heap.size w.heap.size (mxF YT YF fun _ _=>0) s (by rfl) HKZ.out HSZ.out HI.out (l_ _) hbs (l_ _) (by omega) (by rw[w9_];omega) ?_;intro v' w' h1 h2;rw[←HZS.out]at h1;have H1:=h_ h1;have H2:=h_ (HBZ.out.trans (h2.below (l_ _) (by omega)));clear h1 h2;go_wp2;go_roundw
    case rel=>exact⟨k+1,by omega,by go_num,H1.out,H2.out⟩
    case measure=>simp[intOf];omega
  ·obtain rfl:k=X.q.f.length:=by omega
   have HO:=h_ hO;have GF:=h_ (G0.out.trans (hbel.mono G0.out.size));have hgs:=G0.out.size;clear hO hbel;go_wp2;go_ret
   exact⟨_,rfl,HO.out.wider hgs (l_ _),GF.out⟩
def tch (q:Qv) (v:Int) (i:Nat):Bool:=decide (q.f.getD i 0=v) || decide (q.t.getD i 0=v)
theorem c7j (l:List Int):rowF l.length (fun i=>l.getD i 0)=l:=by
 apply List.ext_getElem
 ·rw[a2_]
 ·intro i h1 h2;have:=c0_ (fun i=>l.getD i 0) h2;rw[l2_ h1]at this;injection this with this
  rw[this,l1_,l2_ h2];rfl
theorem i7_.addr {w:World} {lo hi n m c d:Nat} {v:Int} {A C:Option Addr} {q:Qv} (h:i7_ w lo hi (.agg #[.int .i64 v,.slice A n c,.slice C m d]) q) (hf:0<q.f.length) (ht:0<q.t.length) :
  ∃ g g',A=some ⟨g,0,none⟩∧C=some ⟨g',0,none⟩∧lo≤g∧g<hi∧lo≤g'∧g'<hi:=by
 obtain⟨a',b',e,hF,hr⟩:=h;simp only[Value.agg.injEq,Array.mk.injEq,List.cons.injEq,and_true,Value.int.injEq,true_and]at e;obtain⟨rfl,rfl,rfl⟩:=e;have h1:=hF.1 (.slice A n c,q.f) (by simp);have h2:=hF.1 (.slice C m d,q.t) (by simp);obtain⟨g,k,e1,l1,l2,_⟩:=h1.at_ hf;obtain⟨g',k',e2,l3,l4,_⟩:=h2.at_ ht;injection e1 with e1
 injection e2 with e2
 exact⟨g,g',e1,e2,l1,l2,l3,l4⟩
def inS (x:Rp) (v:Int) (R:Nat):Nat→Nat×(Nat→Nat→Int)
 | 0=>(0,fun _ _=>0)
 | k+1=>if x.q.t.getD k 0=v then ((inS x v R k).1+(x.m.getD k ⟨0,0,[]⟩).c.toNat,bsF (inS x v R k).1 (inS x v R k).2 (B5_ (x.m.getD k ⟨0,0,[]⟩).a (x.m.getD k ⟨0,0,[]⟩).c.toNat)) else inS x v R k
def inOk (x:Rp) (v:Int):Bool:=m9_ x && endV x.q.f x.q v
def inP (x:Rp) (v:Int):Mx×Bool:=if inOk x v then (mxF (dAt x.d v).toNat (inS x v (dAt x.d v).toNat x.q.f.length).1 (inS x v (dAt x.d v).toNat x.q.f.length).2,true) else (mx0,false)
def othN (x:Rp) (v:Int) (i:Nat):Nat:=(dAt x.d (x.q.f.getD i 0+x.q.t.getD i 0-v)).toNat
def atN (x:Rp) (v:Int):Nat→Nat
 | 0=>0
 | k+1=>if tch x.q v k=true then atN x v k+othN x v k else atN x v k
theorem SlG.cut {α:Type} {R:World→Nat→Nat→Nat→α→Prop} {w:World} {B c:Nat} {A:Option Addr} {xs:List α} {i k:Nat} (h:SlG 1 R w B (.slice A xs.length c) xs) (hik:i≤k) (hk:k≤xs.length) :
  ∃ A',(if c=i then A else A.map (·.add (i*1)))=A'∧SlG 1 R w B (.slice A' (k-i) (c-i)) ((xs.drop i).take (k-i)):=by
 obtain⟨A2,c2,e,h1,h2,h3,h4⟩:=h;injection e with e1 e2 e3
 subst e1 e3;refine⟨_,rfl,?_⟩;have hl:((xs.drop i).take (k-i)).length=k-i:=by simp;omega
 refine⟨_,c-i,by rw[hl],by rw[hl];omega,by omega,by rw[hl];omega,fun hp=>?_⟩;rw[hl]at hp;obtain⟨b,o,rfl,hb,hc⟩:=h4 (by omega);rw[if_neg (by omega)];refine⟨b,o+i,?_,hb,fun j x hx=>?_⟩
 ·have e:(⟨b,o,none⟩:Addr).add i=⟨b,o+i,none⟩:=by unfold Addr.add;split <;> simp_all
  simp[e]
 ·rw[List.getElem?_take]at hx;split at hx
  ·rw[List.getElem?_drop]at hx;have:=hc (i+j) x hx;rwa[show o+(i+j)*1=o+i+j*1 by omega]at this
  ·cases hx
theorem SlG.takeG {α:Type} {R:World→Nat→Nat→Nat→α→Prop} {w:World} {B c k:Nat} {A:Option Addr} {xs:List α} (h:SlG 1 R w B (.slice A xs.length c) xs) (hk:k≤xs.length):SlG 1 R w B (.slice A k c) (xs.take k):=by
 obtain⟨A2,c2,e,h1,h2,h3,h4⟩:=h;injection e with e1 e2 e3
 subst e1 e3;have hl:(xs.take k).length=k:=by simp;omega
 refine⟨_,c,by rw[hl],by rw[hl];omega,h2,by rw[hl];omega,fun hp=>?_⟩;rw[hl]at hp;obtain⟨b,o,rfl,hb,hc⟩:=h4 (by omega);refine⟨b,o,rfl,hb,fun j x hx=>?_⟩;rw[List.getElem?_take]at hx;split at hx
 ·exact hc j x hx
 ·cases hx
theorem SlM.atF {w:World} {B c n k R C:Nat} {A:Option Addr} {ms:List Mx} {f:Nat→Nat→Int} (h:SlM w B (.slice A n c) ms) (hn:ms.length=n) (hm:ms[k]?=some (mxF R C f)) :
  ∃ b o A' L c',A=some ⟨b,o,none⟩∧b<B∧w.cell? ⟨b,o+k*3,none⟩=some (.int .i64 R)∧w.cell? ⟨b,o+k*3+1,none⟩=some (.int .i64 C)∧w.cell? ⟨b,o+k*3+2,none⟩=some (.slice A' L c')∧MxR w B (.agg #[.int .i64 R,.int .i64 C,.slice A' L c']) (mxF R C f):=by
 subst hn;obtain⟨b,o,m,A',c',h1,h2,HX,h4,h5,h6,h7,h8,h9,_⟩:=SlM.at_ h (a6_ hm);have:=HX.out;rw[hm]at this;injection this with this
 subst this;exact⟨b,o,A',_,c',h1,h2,h4,h5,h6,_,rfl,h7,h8,h9⟩
def mvL (X Y:Rp) (F:Nat→Nat→Nat→Int) (V:Nat):List Mx:=(List.range V).map fun v=>mxF (dmN Y.d v) (dmN X.d v) (F v)
theorem g0_ (X Y:Rp) (F:Nat→Nat→Nat→Int) (V:Nat):(mvL X Y F V).length=V:=by simp[mvL]
theorem A0_ (X Y:Rp) (F:Nat→Nat→Nat→Int) {V k:Nat} (h:k<V):(mvL X Y F V)[k]?=some (mxF (dmN Y.d k) (dmN X.d k) (F k)):=by simp[mvL,h]
theorem Q9_ (u cv:Value) (ms:List Mx) (cs:List Int) (w0:World) (hu:SlM w0 w0.heap.size u ms) (hc:SlI w0 w0.heap.size cv cs) (hn:ms.length≤1000) (ht:totA ms≤cs.length) :
  Calls Tryz.prog 98 #[u,cv] w0 fun e w'=>∃ v,e = .returned v∧d8_ w' w0.heap.size w'.heap.size v (shL ms cs)∧Below w0.heap.size w0 w':=by
 obtain⟨A,c,rfl,_,_,_,hx⟩:=hu.open_;clear hu;obtain⟨CA,cc,rfl,hc1,hc2,hc3,hcx⟩:=hc.open_;have HX:=h_ hx;have HT:=h_ ht;obtain⟨n,hnl⟩:=e_ (ms.length);have HNL:=h_ hnl;rw[hnl]at hn⊢;have hst:∃ (L k0:Nat) (A':Option Addr) (c':Nat),(.slice CA cs.length cc:Value) = .slice A' L c'∧L+totA (ms.take 0)=cs.length∧SlI w0 w0.heap.size (.slice A' L c') (cs.drop (totA (ms.take 0)))∧k0=0:=⟨cs.length,0,CA,cc,rfl,by simp[totA,tot],by simpa [totA,tot] using hcx,rfl⟩;obtain⟨L0,_,A0,c0,e0,l0,s0,_⟩:=hst;have HL0:=h_ l0;have HS0:=h_ s0;rw[e0];clear hx ht hnl hc hcx hc1 hc2 hc3 e0 l0 s0;go_enter Tryz.func98,Tryz.ntmps98
 go_wp2;go_loopw [1,5,11] (fun cv out i wr=>∃ (k L c':Nat) (CB:Option Addr),k≤n∧i = .int .i64 k∧cv = .slice CB L c'∧Hid (L+totA (ms.take k)=cs.length)∧Hid (∀ w2,Below w0.heap.size w0 w2→SlI w2 w0.heap.size (.slice CB L c') (cs.drop (totA (ms.take k))))∧d8_ wr w0.heap.size wr.heap.size out (shL (ms.take k) cs)∧Below w0.heap.size w0 wr) (fun _ _ i _=>n-(intOf i).toNat)
 case atStart=>exact⟨0,L0,c0,A0,l0_ _,rfl,rfl,HL0.out,fun w2 hb=>SlI.below hb HS0.out,by simpa [shL] using d8_.nil _ _ _,Below.refl _ _⟩
 case round =>
  obtain⟨k,L,c',CB,hk,rfl,rfl,HL,HCB,hO,hbel⟩:=hrel;have hbs:=hbel.size;have hln:=Q8_ (ms.take k) cs;rw[List.length_take,show min k ms.length=k by have:=HNL.out;omega]at hln;have HLN:=h_ hln;obtain⟨OA,oc,eo,_,_⟩:=hO.form2;rw[hln]at eo;subst eo;clear hln;by_cases hlt:k<n
  ·have hx:=HX.out;obtain⟨b,o,m,A',c'',rfl,hb,HX2,x1,x2,x3,hsl,i1,i2,_⟩:=SlM.at_ hx (by rw[HNL.out];exact hlt);have d1:=a4_ hbel hb x1;have d2:=a4_ hbel hb x2;have d3:=a4_ hbel hb x3;have e1:ms.take (k+1)=ms.take k ++ [m]:=by rw[c6_ HX2.out]
   have hle:totA (ms.take k)+m.a.length≤cs.length:=by
    have h1:ms=ms.take (k+1) ++ ms.drop (k+1):=(List.take_append_drop _ _).symm;have h2:=congrArg totA h1;rw[x9_,e1,x9_,J8_]at h2;have:=HT.out;omega
   obtain⟨S,hS⟩:=e_ (m.a.length);obtain⟨T,hT⟩:=e_ (totA (ms.take k));have hL:=HL.out;rw[hT]at hL;rw[hS,hT]at hle;rw[hS]at d3;have HSH:=h_ (show shL (ms.take (k+1)) cs=shL (ms.take k) cs ++ [⟨m.r,m.c,(cs.drop T).take S⟩] by rw[e1,U9_,hS,hT]);have HTS:=h_ (show totA (ms.take (k+1))=T+S by rw[e1,x9_,J8_,hS,hT]);have HCT:=h_ (show ∀ w2,Below w0.heap.size w0 w2→SlI w2 w0.heap.size (.slice CB L c') (cs.drop T) by have:=HCB.out;rw[hT]at this;exact this);have hLc:L≤c'∧c'≤9223372036854775807:=by
    obtain⟨_,_,e,g1,g2,_⟩:=HCT.out wr hbel;injection e with _ e2 e3
    rw[e3];omega
   have HDL:=h_ (show (cs.drop T).length=L by rw[List.length_drop];omega);have hSL:S≤L:=by omega
   have hL44:L≤17592186044416:=by
    obtain⟨_,_,_,_,_,g3,_⟩:=(HCT.out wr hbel).open_;have:=HDL.out;omega
   obtain⟨W1,hW1,ga,kW⟩:=b_1 wr #[.int .i64 m.r,.int .i64 m.c,.slice A' S c''] 65;have z2:=kW.cell' (i:=2) rfl;have KW:=h_ kW;have HO:=h_ (hO.below ga);have HB:=h_ (hbel.trans (ga.mono hbs));have hsa:=ga.size;have hbs1:w0.heap.size≤W1.heap.size:=by omega
   have HI:=h_ (show I64 m.r∧I64 m.c from ⟨i1,i2⟩);clear hx hsl HX2 x1 x2 x3 hO hle hbel ga kW hS hT e1 i1 i2 HCB HL;go_wp2;clear hW1 d1 d2 d3 z2;refine a9_ (by kernel_rfl) [.eq (.slice OA k oc),.eq (.pointer (some ⟨wr.heap.size,0,none⟩)),.eq (.int .i64 m.r),.eq (.pointer (some ⟨wr.heap.size,1,none⟩)),.eq (.int .i64 m.c),.eq (.slice CB L c'),.eq (.int .i64 S),.eq (.slice CB S c'),rel 8 (fun u lo hi w=>a8_ w lo hi u ((cs.drop T).take S)),.rel (fun x w=>x.v 9 = .agg #[.int .i64 m.r,.int .i64 m.c,x.v 8]∧a8_ w (x.lo 8) (x.hi 8) (x.v 8) ((cs.drop T).take S)),.rel (fun x w=>∃ g s,x.v 10 = .slice (some ⟨g,0,none⟩) 1 1∧x.v 9 = .agg #[.int .i64 m.r,.int .i64 m.c,s]∧Blk w g 65 #[.int .i64 m.r,.int .i64 m.c,s])] [[],[],[1],[],[3],[],[],[5,6],[5,6,7],[1,2,3,4,5,6,7,8],[1,2,3,4,5,6,7,8,9],[0,1,2,3,4,5,6,7,8,9,10],[0,1,2,3,4,5,6,7,8,9,10,11]] 11 (by kernel_rfl) ⟨trivial,trivial,trivial,trivial,trivial,trivial,trivial,trivial,a7_ (fun u lo hi w w' h hb=>h.below hb),fun x w w' h hb=>⟨h.1,h.2.below hb⟩,fun x w w' ⟨g,s,e1,e2,h⟩ hb=>⟨g,s,e1,e2,h.call hb⟩,trivial⟩ ⟨?_,?_,?_,?_,?_,?_,?_,?_,?_,?_,?_,trivial⟩ ?_;iterate 11 (intro x w hb hk Q' hQ;have he:=k_e hk;simp only[k_s]at he;simp only[netE]at hQ⊢;(try simp only[he]at hQ⊢);(try clear he);rotate_left)
   rotate_left
   iterate 2 (· clear hk;go_wp2;exact hQ _ _ br_ rfl)
   ·clear hk;have z:=(KW.out.call hb).cell' (i:=0) rfl;go_wp2;exact hQ _ _ br_ rfl
   ·clear hk;go_wp2;exact hQ _ _ br_ rfl
   ·clear hk;have z:=(KW.out.call hb).cell' (i:=1) rfl;go_wp2;exact hQ _ _ br_ rfl
   iterate 3 (· clear hk;go_wp2;exact hQ _ _ br_ rfl)
   ·clear hk;have hcw:=HCT.out w (HB.out.trans (hb.mono hbs1));rw[←HDL.out]at hcw;have HCW:=h_ (SlI.more (show w0.heap.size≤w.heap.size by have:=hb.size;omega) (SlG.takeG (k:=S) hcw (by rw[HDL.out];exact hSL)));clear hcw;go_wp2_with fail
    refine (q2_ _ ((cs.drop T).take S) _ HCW.out).mono ?_;rintro e w6 ⟨v6,rfl,hR,hb6⟩;go_wp2;exact hQ _ _ hb6 hR
   ·have h8:a8_ w (x.lo 8) (x.hi 8) (x.v 8) ((cs.drop T).take S):=(hk 8 (by decide)).1;have s8:=(hk 8 (by decide)).2;clear hk;have hQ':=hQ (.agg #[.int .i64 m.r,.int .i64 m.c,x.v 8]) w br_ ⟨rfl,h8⟩;obtain⟨sA,sc,es⟩:=h8.form;obtain⟨sn,hsn⟩:=e_ (((cs.drop T).take S).length);rw[hsn]at es;rw[es]at hQ'⊢;clear hsn h8 es hQ;go_wp2;exact hQ'
   ·have h8:a8_ w (x.lo 8) (x.hi 8) (x.v 8) ((cs.drop T).take S):=(hk 8 (by decide)).1;have h9:x.v 9 = .agg #[.int .i64 m.r,.int .i64 m.c,x.v 8]∧a8_ w (x.lo 8) (x.hi 8) (x.v 8) ((cs.drop T).take S):=(hk 9 (by decide)).1;have s8:=(hk 8 (by decide)).2;have s9:=(hk 9 (by decide)).2;clear hk;obtain⟨e9,h9s⟩:=h9;obtain⟨sA,sc,es⟩:=h9s.form;obtain⟨sn,hsn⟩:=e_ (((cs.drop T).take S).length);rw[hsn]at es;rw[es]at e9;clear hsn h9s es;have hQ':=hQ (.slice (some ⟨w.heap.size,0,none⟩) 1 1) (w.alloc (.cells #[.int .i64 m.r,.int .i64 m.c,.slice sA sn sc] 65)) (a0_ _ _) ⟨_,_,rfl,e9,Blk.new _ _ _⟩;rw[e9]at hQ'⊢;go_wp2;exact hQ'
   ·intro x w hb hk hiv hdj;have h8:a8_ w (x.lo 8) (x.hi 8) (x.v 8) ((cs.drop T).take S):=hk 8 (by decide);have h9:x.v 9 = .agg #[.int .i64 m.r,.int .i64 m.c,x.v 8]∧a8_ w (x.lo 8) (x.hi 8) (x.v 8) ((cs.drop T).take S):=hk 9 (by decide);have h10:∃ g s,x.v 10 = .slice (some ⟨g,0,none⟩) 1 1∧x.v 9 = .agg #[.int .i64 m.r,.int .i64 m.c,s]∧Blk w g 65 #[.int .i64 m.r,.int .i64 m.c,s]:=hk 10 (by decide);have he:=k_g hk [0,1,2,3,4,5,6,7];simp only[k_s]at he;simp only[netE,he];clear he hk;obtain⟨g,s,ej,ei,hg⟩:=h10;have li:=(hiv 8 (by decide)).1;have hi_:=(hiv 8 (by decide)).2.2;obtain⟨e9,hs⟩:=h9;rw[e9]at ei;simp only[Value.agg.injEq,Array.mk.injEq,List.cons.injEq,and_true,true_and]at ei;rw[ei]at hs;rw[ej];have hbs2:=hb.size;have HOZ:=h_ (HO.out.below hb);have HKZ:=h_ hg;have HSZ:=h_ (hs.wider li hi_);have HBZ:=h_ (HB.out.trans (hb.mono hbs1));clear hiv hdj hs ej ei hg hb e9 h8;refine o5_ (by rfl) (.tmp 18) (.tmp 28) (by rfl) w0.heap.size wr.heap.size _ (shL (ms.take k) cs) (by rfl) HOZ.out g 1 W1.heap.size w.heap.size ⟨m.r,m.c,(cs.drop T).take S⟩ s (by rfl) HKZ.out HSZ.out HI.out hsa hbs (l_ _) (by omega) (by rw[HLN.out];omega) ?_;intro v' w' h1 h2;rw[←HSH.out]at h1;have H1:=h_ h1;have H2:=h_ (HBZ.out.trans (h2.below (l_ _) (by omega)));clear h1 h2;go_wp2;go_roundw
    case rel =>
     refine⟨k+1,L-S,c'-S,_,by omega,by go_num,rfl,by have:=HTS.out;show L-S+_=_;omega,fun w2 hb2=>?_,H1.out,H2.out⟩;have h2:=HCT.out w2 hb2;have hcl:=HDL.out;rw[←hcl]at h2;obtain⟨CB',eCB,h3⟩:=SlG.cut (i:=S) (k:=L) h2 hSL (Nat.le_of_eq hcl.symm);rw[l7_ (by rw[List.length_drop,hcl];exact l_ _),List.drop_drop,←HTS.out]at h3;rw[←eCB,Nat.mul_one]at h3;exact h3
    case measure=>simp[intOf];omega
  ·obtain rfl:k=n:=by omega
   have e0:ms.take k=ms:=l7_ (by have:=HNL.out;omega);rw[e0]at hO;have HO:=h_ hO;have HB:=h_ hbel;clear hO hbel e0;go_wp2;go_ret
   exact⟨_,rfl,HO.out,HB.out⟩
theorem O0_ (ua ub fv:Value) (X Y:Rp) (F:Nat→Nat→Nat→Int) (w0:World) (ha:RpR w0 w0.heap.size ua X) (hb:RpR w0 w0.heap.size ub Y) (hfv:SlM w0 w0.heap.size fv (mvL X Y F X.d.length)) (hf:Fit2 X Y) (hF:∀ v,v<X.d.length→InF X.p (dmN Y.d v) (dmN X.d v) (F v)) :
  Calls Tryz.prog 129 #[ua,ub,fv] w0 fun e w'=>∃ v,e = .returned v∧d8_ w' w0.heap.size w'.heap.size v (cbL X Y F X.q.f.length)∧Below w0.heap.size w0 w':=by
 obtain⟨FA,fc,rfl,_,_,_,hfx⟩:=hfv.open_;clear hfv;rw[g0_]at hfx⊢;have ha':=ha;have hb':=hb;obtain⟨A,a,C,c,Ea,ea,Ha,ha_,rfl,hqa,hda,hma,hpa,lda,lma⟩:=ha.open_;obtain⟨A2,a2,C2,c2,Eb,eb,Hb,hb_,rfl,hqb,hdb,hmb,hpb,ldb,lmb⟩:=hb.open_;clear ha hb;obtain⟨W,hW,g0,k1,k2⟩:=b_4 w0 #[.int .i64 X.p,.int .i64 X.q.v,.slice A X.q.f.length a,.slice C X.q.t.length c,.slice Ea X.d.length ea,.slice Ha X.m.length ha_] 29 #[.int .i64 Y.p,.int .i64 Y.q.v,.slice A2 Y.q.f.length a2,.slice C2 Y.q.t.length c2,.slice Eb Y.d.length eb,.slice Hb Y.m.length hb_] 29;have HXA:=h_ (RpR.next g0 ha');have HXB:=h_ (RpR.next g0 hb');have HQA:=h_ (QvR.next g0 hqa);have HDA:=h_ (SlI.next g0 hda);have HDB:=h_ (SlI.next g0 hdb);have HMA:=h_ (SlM.next g0 hma);have HMB:=h_ (SlM.next g0 hmb);have G0:=h_ g0;clear ha' hb' hqa hqb hda hdb hma hmb hpa hpb g0;have HFV:=h_ (SlM.next G0.out hfx);have HF:=h_ hf;have HFF:=h_ hF;have hp2:=hf.p2;obtain⟨hN6,hlm,hlmy,hTl⟩:=hf.arrs;have HLM:=h_ hlm;have HLMY:=h_ hlmy;obtain⟨_,_,_,_,eqq,hfs,hts,_⟩:=HQA.out.open_;simp only[Value.agg.injEq,Array.mk.injEq,List.cons.injEq,and_true,Value.slice.injEq,true_and]at eqq;obtain⟨⟨rfl,rfl⟩,rfl,rfl⟩:=eqq;have HFS:=h_ hfs;have HTS:=h_ hts;have c2_:=k1.cell' (i:=2) rfl;clear hf hfs hts hfx hF hlm hlmy hTl;go_enter Tryz.func129,Tryz.ntmps129
 go_wp2;rw[←hW];clear hW;go_loopw [7,15] (fun out i wr=>∃ k:Nat,k≤X.q.f.length∧i = .int .i64 k∧d8_ wr W.heap.size wr.heap.size out (cbL X Y F k)∧Below W.heap.size W wr) (fun _ i _=>X.q.f.length-(intOf i).toNat)
 case atStart=>exact⟨0,l0_ _,rfl,d8_.nil _ _ _,Below.refl _ _⟩
 case round =>
  obtain⟨k,hk,rfl,hO,hbel⟩:=hrel;have hbs:=hbel.size;obtain⟨OA,oc,eo,_,_⟩:=hO.form2;rw[D6_]at eo;subst eo;by_cases hlt:k<X.q.f.length
  ·obtain⟨ef,et,lf,lt,hkt,emx,emy,hIx,hIy⟩:=HF.out.arr hlt;have hIf:=HFF.out _ lf;have hIt:=HFF.out _ lt;have bf4:=HF.out.dims (srN X.q k);have bt4:=HF.out.dims (tgN X.q k);have gf:=A0_ X Y F lf;have gt_:=A0_ X Y F lt;have HZS:=h_ (a6Q X Y F k);have HCB:=h_ (show cbF X Y F k=plF X.p (X.p-1) (muP X.p (dmN Y.d (srN X.q k)) (arF Y k) (F (srN X.q k))) (muP X.p (dmN X.d (tgN X.q k)) (F (tgN X.q k)) (arF X k)) from rfl);obtain⟨nf,hnf⟩:=e_ (srN X.q k);obtain⟨nt,hnt⟩:=e_ (tgN X.q k);rw[hnf]at ef lf emx emy hIx hIy hIf bf4 gf HZS HCB;rw[hnt]at et lt emx emy hIx hIy hIt bt4 gt_ HZS HCB;obtain⟨DXF,e1⟩:=e_ (dmN X.d nf);obtain⟨DYF,e2⟩:=e_ (dmN Y.d nf);obtain⟨DXT,e3⟩:=e_ (dmN X.d nt);obtain⟨DYT,e4⟩:=e_ (dmN Y.d nt);simp only[e1,e2,e3,e4]at emx emy hIx hIy hIf hIt bf4 bt4 gf gt_ HZS HCB;obtain⟨CF,hCF⟩:=e_ (cbF X Y F k);rw[hCF]at HZS HCB;clear hnf hnt e1 e2 e3 e4 hCF;obtain⟨bf,of_,x1,e1,hbf,HX1,z1,_,_⟩:=SlI.at_ HFS.out hlt;obtain⟨bt,ot,x2,e2,hbt,HX2,z2,_,_⟩:=SlI.at_ HTS.out hkt;subst e1 e2;have q1:=HX1.out;rw[ef]at q1;injection q1 with q1
   subst q1;have q2:=HX2.out;rw[et]at q2;injection q2 with q2
   subst q2;obtain⟨bx,ox,AX,LX,cx,e1,hbx,mx0_,mx1,mx2,MX⟩:=SlM.atF HMA.out rfl emx;obtain⟨by_,oy,AY,LY,cy,e2,hby,my0,my1,my2,MY⟩:=SlM.atF HMB.out rfl emy;subst e1 e2;obtain⟨bg,og,AF,LF,cf,e1,hbg,mf0,mf1,mf2,MF⟩:=SlM.atF HFV.out (g0_ _ _ _ _) gf;obtain⟨bg',og',AG,LG,cg,e2,_,mg0,mg1,mg2,MG⟩:=SlM.atF HFV.out (g0_ _ _ _ _) gt_;rw[e1]at e2;injection e2 with e2
   injection e2 with e2 e3
   subst e2 e3;subst e1;clear HX1 HX2 ef et emx emy gf gt_;have K1:=h_ (k1.call hbel);have K2:=h_ (k2.call hbel);have y1:=a4_ hbel hbf z1;have Y2:=h_ (a4_ hbel hbt z2);have HO:=h_ hO;have HB:=h_ hbel;have MX0:=h_ (a4_ hbel hbx mx0_);have MX1:=h_ (a4_ hbel hbx mx1);have MX2:=h_ (a4_ hbel hbx mx2);have MY0:=h_ (a4_ hbel hby my0);have MY1:=h_ (a4_ hbel hby my1);have MY2:=h_ (a4_ hbel hby my2);have MF0:=h_ (a4_ hbel hbg mf0);have MF1:=h_ (a4_ hbel hbg mf1);have MF2:=h_ (a4_ hbel hbg mf2);have MG0:=h_ (a4_ hbel hbg mg0);have MG1:=h_ (a4_ hbel hbg mg1);have MG2:=h_ (a4_ hbel hbg mg2);have HMX:=h_ (MxR.more hbs (MxR.below hbel MX));have HMY:=h_ (MxR.more hbs (MxR.below hbel MY));have HMF:=h_ (MxR.more hbs (MxR.below hbel MF));have HMG:=h_ (MxR.more hbs (MxR.below hbel MG));have HIX:=h_ hIx;have HIY:=h_ hIy;have HIF:=h_ hIf;have HIT:=h_ hIt;clear hO hbel z1 z2 c2_ mx0_ mx1 mx2 my0 my1 my2 mf0 mf1 mf2 mg0 mg1 mg2 MX MY MF MG hIx hIy hIf hIt;have a1':(k:Int)<Y.m.length:=by have:=HLMY.out;omega
   have a2':(k:Int)<X.m.length:=by have:=HLM.out;omega
   have a3':(nf:Int)<X.d.length:=by omega
   have a4':(nt:Int)<X.d.length:=by omega
   have a5':(k:Int)<X.q.t.length:=by omega
   have a6':(0:Int)≤(nf:Int):=by omega
   have a7':(0:Int)≤(nt:Int):=by omega
   go_wp2;clear y1;refine a9_ (by kernel_rfl) [.eq (.pointer (some ⟨w0.heap.size,0,none⟩)),.eq (.int .i64 X.p),.eq (.pointer (some ⟨w0.heap.size+1,5,none⟩)),.eq (.slice (some ⟨by_,oy,none⟩) Y.m.length hb_),.eq (.int .i64 k),.eq (.pointer (some ⟨by_,oy+k*3,none⟩)),.eq (.agg #[.int .i64 DYT,.int .i64 DYF,.slice AY LY cy]),.eq (.slice (some ⟨bg,og,none⟩) X.d.length fc),.eq (.int .i64 nf),.eq (.pointer (some ⟨bg,og+nf*3,none⟩)),.eq (.agg #[.int .i64 DYF,.int .i64 DXF,.slice AF LF cf]),rel 11 (fun u lo hi w=>MxO w lo hi u (mxF DYT DXF (muP X.p DYF (arF Y k) (F nf)))),rel 12 (fun u lo hi w=>∃ g,u = .pointer (some ⟨g,0,none⟩)∧lo≤g∧Blk w g 65 #[.int .i64 0,.int .i64 0,.slice none 0 0])] [[],[0],[],[2],[],[2,3,4],[2,3,4,5],[],[],[7,8],[7,8,9],[0,1,2,3,4,5,6,7,8,9,10],[],[0,1,2,3,4,5,6,7,8,9,10,11,12]] 13 (by kernel_rfl) ⟨trivial,trivial,trivial,trivial,trivial,trivial,trivial,trivial,trivial,trivial,trivial,a7_ (fun u lo hi w w' h hb=>h.below hb),a7_ (fun u lo hi w w' ⟨g,e,h1,h⟩ hb=>⟨g,e,h1,h.call hb⟩),trivial⟩ ⟨?_,?_,?_,?_,?_,?_,?_,?_,?_,?_,?_,?_,?_,trivial⟩ ?_;iterate 13 (intro x w hb hk Q' hQ;have he:=k_e hk;simp only[k_s]at he;simp only[netE]at hQ⊢;(try simp only[he]at hQ⊢);(try clear he);rotate_left)
   rotate_left
   ·clear hk;go_wp2;exact hQ _ _ br_ rfl
   ·clear hk;have z:=(K1.out.call hb).cell' (i:=0) rfl;go_wp2;exact hQ _ _ br_ rfl
   ·clear hk;go_wp2;exact hQ _ _ br_ rfl
   ·clear hk;have z:=(K2.out.call hb).cell' (i:=5) rfl;go_wp2;exact hQ _ _ br_ rfl
   iterate 2 (· clear hk;go_wp2;exact hQ _ _ br_ rfl)
   ·clear hk;have q0:=a4_ hb (by omega) MY0.out;have q1:=a4_ hb (by omega) MY1.out;have q2:=a4_ hb (by omega) MY2.out;go_wp2;exact hQ _ _ br_ rfl
   iterate 3 (· clear hk;go_wp2;exact hQ _ _ br_ rfl)
   ·clear hk;have q0:=a4_ hb (by omega) MF0.out;have q1:=a4_ hb (by omega) MF1.out;have q2:=a4_ hb (by omega) MF2.out;go_wp2;exact hQ _ _ br_ rfl
   ·clear hk;have hA:=h_ (MxR.next hb HMY.out);have hB:=h_ (MxR.next hb HMF.out);go_wp2_with fail
    refine (N1_ X.p _ _ DYT DYF DXF (arF Y k) (F nf) _ hp2 (by omega) (by omega) (by omega) hA.out hB.out HIY.out HIF.out).mono ?_;rintro e w3 ⟨v3,rfl,hZ,hb3⟩;go_wp2;exact hQ _ _ hb3 hZ
   ·clear hk;go_wp2;exact hQ _ _ (a0_ _ _) ⟨_,rfl,l_ _,Blk.new _ _ _⟩
   ·intro x w hb hk hiv hdj;have h11:MxO w (x.lo 11) (x.hi 11) (x.v 11) (mxF DYT DXF (muP X.p DYF (arF Y k) (F nf))):=hk 11 (by decide);have h12:∃ g,(x.v 12) = .pointer (some ⟨g,0,none⟩)∧(x.lo 12)≤g∧Blk w g 65 #[.int .i64 0,.int .i64 0,.slice none 0 0]:=hk 12 (by decide);have he:=k_g hk [0,1,2,3,4,5,6,7,8,9,10];simp only[k_s]at he;simp only[netE,he];clear he hk;obtain⟨g5,e12,hg5,k5'⟩:=h12;have li12:=(hiv 12 (by decide)).1;rw[e12];have hM11:=((h11.setBlk (i:=0) k5' (by decide) (.int .i64 DYT)).setBlk (i:=1) (k5'.set_ 0 _) (by decide) (.int .i64 DXF));obtain⟨s1,e11,hs,hI1⟩:=h11;obtain⟨s1A,s1c,es⟩:=hs.form;obtain⟨s1n,hs1n⟩:=e_ ((mxF DYT DXF (muP X.p DYF (arF Y k) (F nf))).a.length);rw[hs1n]at es;subst es;simp only[mxF]at e11;rw[e11]at hM11⊢;have hM12:=hM11.setBlk (i:=2) ((k5'.set_ 0 (.int .i64 DYT)).set_ 1 (.int .i64 DXF)) (by decide) (.slice s1A s1n s1c);obtain⟨W5,hW5⟩:=e_ (((w.setCell ⟨g5,0,none⟩ (.int .i64 DYT)).setCell ⟨g5,1,none⟩ (.int .i64 DXF)).setCell ⟨g5,2,none⟩ (.slice s1A s1n s1c));have k5:Blk W5 g5 65 #[.int .i64 DYT,.int .i64 DXF,.slice s1A s1n s1c]:=by rw[←hW5];exact ((k5'.set_ 0 _).set_ 1 _).set_ 2 _
    have hcs:∀ (w:World) (i:Nat) (u:Value),Chg g5 (g5+1) w (w.setCell ⟨g5,i,none⟩ u):=fun w i u=>a5_ (l_ _) (m0_ _)
    have hc5:Chg g5 (g5+1) w W5:=by rw[←hW5];exact ((hcs _ _ _).trans (hcs _ _ _)).trans (hcs _ _ _)
    clear hcs;rw[hW5]at hM12;have hbs5:=hb.size;have hb5:Below wr.heap.size wr W5:=hb.trans (hc5.below (by omega) hbs5);have K5:=h_ k5;have HM5:=h_ (show MxR W5 W5.heap.size (.agg #[.int .i64 DYT,.int .i64 DXF,.slice s1A s1n s1c]) (mxF DYT DXF (muP X.p DYF (arF Y k) (F nf))) from hM12.rd);have HB5:=h_ hb5;have hsz5:=hb5.size;have HO5:=h_ (HO.out.below hb5);have fr5:=k5'.frozen;obtain⟨z0_,z1_,z2_⟩:=c_3 k5';clear hiv hdj hs e11 hs1n k5 hb5 hI1 hb hc5 hM11 hM12 k5' e12;go_wp2;clear hW5 fr5 z0_ z1_ z2_;have sW:=HB.out.size;have KK1:=h_ (K1.out.call HB5.out);have KK2:=h_ (K2.out.call HB5.out);have HMX5:=h_ (MxR.next HB5.out HMX.out);have HMG5:=h_ (MxR.next HB5.out HMG.out);refine a9_ (by kernel_rfl) [.eq (.slice OA k oc),.eq (.pointer (some ⟨w0.heap.size,0,none⟩)),.eq (.int .i64 X.p),.eq (.agg #[.int .i64 DYT,.int .i64 DXF,.slice s1A s1n s1c]),.eq (.pointer (some ⟨w0.heap.size,0,none⟩)),.eq (.int .i64 X.p),.eq (.int .i64 (X.p-1)),.eq (.pointer (some ⟨w0.heap.size,0,none⟩)),.eq (.int .i64 X.p),.eq (.slice (some ⟨bg,og,none⟩) X.d.length fc),.eq (.pointer (some ⟨w0.heap.size,1,none⟩)),.eq (.pointer (some ⟨w0.heap.size,3,none⟩)),.eq (.slice (some ⟨bt,ot,none⟩) X.q.t.length c),.eq (.int .i64 k),.eq (.pointer (some ⟨bt,ot+k,none⟩)),.eq (.int .i64 nt),.eq (.pointer (some ⟨bg,og+nt*3,none⟩)),.eq (.agg #[.int .i64 DYT,.int .i64 DXT,.slice AG LG cg]),.eq (.pointer (some ⟨w0.heap.size,5,none⟩)),.eq (.slice (some ⟨bx,ox,none⟩) X.m.length ha_),.eq (.int .i64 k),.eq (.pointer (some ⟨bx,ox+k*3,none⟩)),.eq (.agg #[.int .i64 DXT,.int .i64 DXF,.slice AX LX cx]),rel 23 (fun u lo hi w=>MxO w lo hi u (mxF DYT DXF (muP X.p DXT (F nt) (arF X k)))),rel 24 (fun u lo hi w=>MxO w lo hi u (mxF DYT DXF CF)),.rel (fun x w=>∃ g s,x.v 25 = .slice (some ⟨g,0,none⟩) 1 1∧x.v 24 = .agg #[.int .i64 DYT,.int .i64 DXF,s]∧Blk w g 65 #[.int .i64 DYT,.int .i64 DXF,s])] [[],[],[1],[],[],[4],[4,5],[],[7],[],[],[10],[10,11],[],[10,11,12,13],[10,11,12,13,14],[9,10,11,12,13,14,15],[9,10,11,12,13,14,15,16],[],[18],[],[18,19,20],[18,19,20,21],[7,8,9,10,11,12,13,14,15,16,17,18,19,20,21,22],[1,2,3,4,5,6,7,8,9,10,11,12,13,14,15,16,17,18,19,20,21,22,23],[1,2,3,4,5,6,7,8,9,10,11,12,13,14,15,16,17,18,19,20,21,22,23,24],[0,1,2,3,4,5,6,7,8,9,10,11,12,13,14,15,16,17,18,19,20,21,22,23,24,25],[0,1,2,3,4,5,6,7,8,9,10,11,12,13,14,15,16,17,18,19,20,21,22,23,24,25,26]] 26 (by kernel_rfl) ⟨trivial,trivial,trivial,trivial,trivial,trivial,trivial,trivial,trivial,trivial,trivial,trivial,trivial,trivial,trivial,trivial,trivial,trivial,trivial,trivial,trivial,trivial,trivial,a7_ (fun u lo hi w w' h hb=>h.below hb),a7_ (fun u lo hi w w' h hb=>h.below hb),fun x w w' ⟨g,s,e1,e2,h⟩ hb=>⟨g,s,e1,e2,h.call hb⟩,trivial⟩ ⟨?_,?_,?_,?_,?_,?_,?_,?_,?_,?_,?_,?_,?_,?_,?_,?_,?_,?_,?_,?_,?_,?_,?_,?_,?_,?_,trivial⟩ ?_;iterate 26 (intro x w hb hk Q' hQ;have he:=k_e hk;simp only[k_s]at he;simp only[netE]at hQ⊢;(try simp only[he]at hQ⊢);(try clear he);rotate_left)
    rotate_left
    iterate 2 (· clear hk;go_wp2;exact hQ _ _ br_ rfl)
    ·clear hk;have z:=(KK1.out.call hb).cell' (i:=0) rfl;go_wp2;exact hQ _ _ br_ rfl
    ·clear hk;obtain⟨q0,q1,q2⟩:=c_3 (K5.out.call hb);go_wp2;exact hQ _ _ br_ rfl
    ·clear hk;go_wp2;exact hQ _ _ br_ rfl
    ·clear hk;have z:=(KK1.out.call hb).cell' (i:=0) rfl;go_wp2;exact hQ _ _ br_ rfl
    iterate 2 (· clear hk;go_wp2;exact hQ _ _ br_ rfl)
    ·clear hk;have z:=(KK1.out.call hb).cell' (i:=0) rfl;go_wp2;exact hQ _ _ br_ rfl
    iterate 3 (· clear hk;go_wp2;exact hQ _ _ br_ rfl)
    ·clear hk;have z:=(KK1.out.call hb).cell' (i:=3) rfl;go_wp2;exact hQ _ _ br_ rfl
    iterate 2 (· clear hk;go_wp2;exact hQ _ _ br_ rfl)
    ·clear hk;have z:=a4_ (HB5.out.trans (hb.mono hsz5)) (by omega) Y2.out;go_wp2;exact hQ _ _ br_ rfl
    ·clear hk;go_wp2;exact hQ _ _ br_ rfl
    ·clear hk;have q0:=a4_ (HB5.out.trans (hb.mono hsz5)) (by omega) MG0.out;have q1:=a4_ (HB5.out.trans (hb.mono hsz5)) (by omega) MG1.out;have q2:=a4_ (HB5.out.trans (hb.mono hsz5)) (by omega) MG2.out;go_wp2;exact hQ _ _ br_ rfl
    ·clear hk;go_wp2;exact hQ _ _ br_ rfl
    ·clear hk;have z:=(KK1.out.call hb).cell' (i:=5) rfl;go_wp2;exact hQ _ _ br_ rfl
    iterate 2 (· clear hk;go_wp2;exact hQ _ _ br_ rfl)
    ·clear hk;have q0:=a4_ (HB5.out.trans (hb.mono hsz5)) (by omega) MX0.out;have q1:=a4_ (HB5.out.trans (hb.mono hsz5)) (by omega) MX1.out;have q2:=a4_ (HB5.out.trans (hb.mono hsz5)) (by omega) MX2.out;go_wp2;exact hQ _ _ br_ rfl
    ·clear hk;have hA:=h_ (MxR.next hb HMG5.out);have hB:=h_ (MxR.next hb HMX5.out);go_wp2_with fail
     refine (N1_ X.p _ _ DYT DXT DXF (F nt) (arF X k) _ hp2 (by omega) (by omega) (by omega) hA.out hB.out HIT.out HIX.out).mono ?_;rintro e w3 ⟨v3,rfl,hZ,hb3⟩;go_wp2;exact hQ _ _ hb3 hZ
    ·have h23:MxO w (x.lo 23) (x.hi 23) (x.v 23) (mxF DYT DXF (muP X.p DXT (F nt) (arF X k))):=(hk 23 (by decide)).1;have s23:=(hk 23 (by decide)).2;clear hk;have hA:=h_ (MxR.next hb HM5.out);have hB:=h_ h23.rd;obtain⟨s2,e23,_⟩:=h23;rw[e23]at hB hQ⊢;go_wp2_with fail
     refine (d7j X.p (X.p-1) _ _ DYT DXF (muP X.p DYF (arF Y k) (F nf)) (muP X.p DXT (F nt) (arF X k)) _ hp2 (by omega) hA.out hB.out (by omega) (by omega) (fun i j _ _=>by have:=L8_ hp2.1 DYF (arF Y k) (F nf) i j;omega) (fun i j _ _=>by have:=L8_ hp2.1 DXT (F nt) (arF X k) i j;omega)).mono ?_;rintro e w3 ⟨v3,rfl,hZ,hb3⟩;rw[←HCB.out]at hZ;go_wp2;exact hQ _ _ hb3 hZ
    ·have h23:MxO w (x.lo 23) (x.hi 23) (x.v 23) (mxF DYT DXF (muP X.p DXT (F nt) (arF X k))):=(hk 23 (by decide)).1;have h24:MxO w (x.lo 24) (x.hi 24) (x.v 24) (mxF DYT DXF CF):=(hk 24 (by decide)).1;have s23:=(hk 23 (by decide)).2;have s24:=(hk 24 (by decide)).2;clear hk;obtain⟨s,e24,hs⟩:=h24;obtain⟨sA,sc,es⟩:=hs.1.form;obtain⟨sn,hsn⟩:=e_ ((mxF DYT DXF CF).a.length);rw[hsn]at es;clear hsn hs;subst es;have hQ':=hQ (.slice (some ⟨w.heap.size,0,none⟩) 1 1) (w.alloc (.cells #[.int .i64 (mxF DYT DXF CF).r,.int .i64 (mxF DYT DXF CF).c,.slice sA sn sc] 65)) (a0_ _ _) ⟨_,_,rfl,e24,Blk.new _ _ _⟩;simp only[mxF]at e24 hQ';rw[e24]at hQ'⊢;go_wp2;exact hQ'
    ·intro x w hb hk hiv hdj;have h23:MxO w (x.lo 23) (x.hi 23) (x.v 23) (mxF DYT DXF (muP X.p DXT (F nt) (arF X k))):=hk 23 (by decide);have h24:MxO w (x.lo 24) (x.hi 24) (x.v 24) (mxF DYT DXF CF):=hk 24 (by decide);have h25:∃ g s,x.v 25 = .slice (some ⟨g,0,none⟩) 1 1∧x.v 24 = .agg #[.int .i64 DYT,.int .i64 DXF,s]∧Blk w g 65 #[.int .i64 DYT,.int .i64 DXF,s]:=hk 25 (by decide);have he:=k_g hk [0,1,2,3,4,5,6,7,8,9,10,11,12,13,14,15,16,17,18,19,20,21,22];simp only[k_s]at he;simp only[netE,he];clear he hk;obtain⟨g,s,ej,ei,hg⟩:=h25;have li2:=(hiv 24 (by decide)).1;have hi2:=(hiv 24 (by decide)).2.2;obtain⟨s',ei',hs,hI⟩:=h24;rw[ei]at ei';simp only[Value.agg.injEq,Array.mk.injEq,List.cons.injEq,and_true,mxF,true_and]at ei';subst ei';rw[ej];have hbs2:=hb.size;have HOZ:=h_ (HO5.out.below hb);have HKZ:=h_ hg;have HSZ:=h_ (hs.wider li2 hi2);have HI:=h_ hI;have HBZ:=h_ ((HB.out.trans (HB5.out.mono hbs)).trans (hb.mono (by omega)));clear hiv hdj hs hI ej ei hg hb;refine o5_ (by rfl) (.tmp 32) (.tmp 57) (by rfl) W.heap.size wr.heap.size _ (cbL X Y F k) (by rfl) HOZ.out g 1 W5.heap.size w.heap.size (mxF DYT DXF CF) s (by rfl) HKZ.out HSZ.out HI.out hsz5 hbs (l_ _) (by omega) (by rw[D6_];omega) ?_;intro v' w' h1 h2;rw[←HZS.out]at h1;have H1:=h_ h1;have H2:=h_ (HBZ.out.trans (h2.below (l_ _) (by omega)));clear h1 h2;go_wp2;go_roundw
     case rel=>exact⟨k+1,by omega,by go_num,H1.out,H2.out⟩
     case measure=>simp[intOf];omega
  ·obtain rfl:k=X.q.f.length:=by omega
   have HO:=h_ hO;have GF:=h_ (G0.out.trans (hbel.mono G0.out.size));have hgs:=G0.out.size;clear hO hbel;go_wp2;go_ret
   exact⟨_,rfl,HO.out.wider hgs (l_ _),GF.out⟩
def homN (X Y:Rp):Nat:=hmN X Y-rkF X.p (eqR X Y) (hmN X Y) (eqG X Y)
theorem g1Q (X Y:Rp) (j V:Nat):shF X.d Y.d (d9x j) V=mvL X Y (uF X Y j) V:=rfl
theorem i6Q {X Y:Rp} (hp:2≤X.p) (j v r c:Nat):InF X.p r c (uF X Y j v):=fun a b _ _=>by
 have:=d3Q (hOff X.d Y.d v+a*dmN X.d v+b) j;unfold uF;omega
theorem y3_ (ua ub:Value) (X Y:Rp) (w0:World) (ha:RpR w0 w0.heap.size ua X) (hb:RpR w0 w0.heap.size ub Y) (hf:Fit2 X Y) :
  Calls Tryz.prog 97 #[ua,ub] w0 fun e w'=>∃ v,e = .returned v∧MxO w' w0.heap.size w'.heap.size v (mxF (eqR X Y) (hmN X Y) (eqG X Y))∧Below w0.heap.size w0 w':=by
 have ha':=ha;have hb':=hb;obtain⟨A,a,C,c,Ea,ea,Ha,ha_,rfl,_⟩:=ha.open_;obtain⟨A2,a2,C2,c2,Eb,eb,Hb,hb_,rfl,_⟩:=hb.open_;clear ha hb;obtain⟨W,hW⟩:∃ W,W=((w0.alloc (.cells #[.int .i64 X.p,.int .i64 X.q.v,.slice A X.q.f.length a,.slice C X.q.t.length c,.slice Ea X.d.length ea,.slice Ha X.m.length ha_] 29)).alloc (.cells #[.int .i64 Y.p,.int .i64 Y.q.v,.slice A2 Y.q.f.length a2,.slice C2 Y.q.t.length c2,.slice Eb Y.d.length eb,.slice Hb Y.m.length hb_] 29)).alloc (.cells #[.int .i64 0,.int .i64 0,.slice none 0 0] 65):=⟨_,rfl⟩;have g0:Below w0.heap.size w0 W:=by rw[hW];exact (((Below.refl _ _).alloc (l_ _) _).alloc (by simp) _).alloc (by simp;omega) _
 have k1:Blk W w0.heap.size 29 #[.int .i64 X.p,.int .i64 X.q.v,.slice A X.q.f.length a,.slice C X.q.t.length c,.slice Ea X.d.length ea,.slice Ha X.m.length ha_]:=by rw[hW];exact ((Blk.new _ _ _).alloc _).alloc _
 have k2:Blk W (w0.heap.size+1) 29 #[.int .i64 Y.p,.int .i64 Y.q.v,.slice A2 Y.q.f.length a2,.slice C2 Y.q.t.length c2,.slice Eb Y.d.length eb,.slice Hb Y.m.length hb_]:=by
  rw[hW];have:=(Blk.new (w0.alloc (.cells #[.int .i64 X.p,.int .i64 X.q.v,.slice A X.q.f.length a,.slice C X.q.t.length c,.slice Ea X.d.length ea,.slice Ha X.m.length ha_] 29)) 29 #[.int .i64 Y.p,.int .i64 Y.q.v,.slice A2 Y.q.f.length a2,.slice C2 Y.q.t.length c2,.slice Eb Y.d.length eb,.slice Hb Y.m.length hb_]).alloc (.cells #[.int .i64 0,.int .i64 0,.slice none 0 0] 65);simpa only[l3_] using this
 have k3:Blk W (w0.heap.size+1+1) 65 #[.int .i64 0,.int .i64 0,.slice none 0 0]:=by
  rw[hW];have:=Blk.new ((w0.alloc (.cells #[.int .i64 X.p,.int .i64 X.q.v,.slice A X.q.f.length a,.slice C X.q.t.length c,.slice Ea X.d.length ea,.slice Ha X.m.length ha_] 29)).alloc (.cells #[.int .i64 Y.p,.int .i64 Y.q.v,.slice A2 Y.q.f.length a2,.slice C2 Y.q.t.length c2,.slice Eb Y.d.length eb,.slice Hb Y.m.length hb_] 29)) 65 #[.int .i64 0,.int .i64 0,.slice none 0 0];simpa only[l3_] using this
 have sz:W.heap.size=w0.heap.size+1+1+1:=by rw[hW];simp
 have SZ:=h_ sz;have HXA:=h_ (RpR.next g0 ha');have HXB:=h_ (RpR.next g0 hb');have G0:=h_ g0;have HF:=h_ hf;have hl5:=hf.len.2;have hN80:=Q0_ hf;have hR96:=b9x hf;have HN6:=h_ hf.arrs.1;obtain⟨c0,c1,c2_,c3,c4,c5⟩:=c_6 k1;obtain⟨d0,d1,d2,d3,d4,d5⟩:=c_6 k2;obtain⟨n,hn⟩:=e_ (hmN X Y);have HN':=h_ (show hOff X.d Y.d X.d.length=n from hn);obtain⟨R,hR⟩:=e_ (eqR X Y);obtain⟨g,hg⟩:=e_ (eqG X Y);have HCOL:=h_ (show ∀ j,j<n→rowF R (fun i=>g i j)=flM (cbL X Y (uF X Y j) X.q.f.length) from fun j hj=>by rw[←hR,←hg];exact f7j X Y j (by rw[hn];exact hj));have HR:=h_ hR;rw[hn]at hN80⊢;rw[hR]at hR96⊢;rw[hg];clear hn hR hg;clear ha' hb' g0 sz hf;go_enter Tryz.func97,Tryz.ntmps97
 go_wp2_with fail
 rw[←hW];clear hW;refine (N6_ _ _ X Y _ HXA.out HXB.out HF.out).mono ?_;rintro e w1 ⟨v1,rfl,hZ,hb1⟩;obtain⟨ZA,zc,ez,_,_⟩:=hZ.form2;rw[o2_]at ez;subst ez;have HZ:=h_ hZ;have s1:=hb1.size;have B1:=h_ hb1;clear hZ hb1;go_wp2_with fail
 refine (S1_ _ (zrL X.d Y.d X.d.length) _ HZ.out.rd (by rw[o2_];omega) (by rw[F7_,HN'.out];omega)).mono ?_;rintro e w2 ⟨v2,rfl,hFl,hb2⟩;obtain⟨FA,fc,ef⟩:=hFl.form;rw[x1_,F7_]at ef;subst ef;rw[HN'.out];have s2:=hb2.size;have B2:=h_ (B1.out.trans (hb2.mono s1));have HZ2:=h_ (HZ.out.below hb2);have HXA2:=h_ (RpR.next B2.out HXA.out);have HXB2:=h_ (RpR.next B2.out HXB.out);have K1:=h_ (k1.call B2.out);have K2:=h_ (k2.call B2.out);have K3:=h_ (k3.call B2.out);clear hFl hb2 c0 c1 c2_ c3 c4 c5 d0 d1 d2 d3 d4 d5 k1 k2 k3;go_wp2;go_loopw [7,17] (fun out i wr=>∃ k:Nat,k≤n∧i = .int .i64 k∧b4_ wr w2.heap.size wr.heap.size out (g9_ k R (fun a b=>g b a))∧Below w2.heap.size w2 wr) (fun _ i _=>n-(intOf i).toNat)
 case atStart=>exact⟨0,l0_ _,rfl,by simpa [g9_] using b4_.nil w2 w2.heap.size w2.heap.size,Below.refl _ _⟩
 case round =>
  obtain⟨k,hk,rfl,hO,hbel⟩:=hrel;have hbs:=hbel.size;obtain⟨OA,oc,eo,_,_,_⟩:=hO.form2;rw[b8_]at eo;subst eo;by_cases hlt:k<n
  ·have hmk:=A5_ wr (n:=n) (by omega);obtain⟨W4,hW4⟩:=e_ (wr.alloc (.cells (f4_ (.int .i64 0) n) 3));rw[hW4]at hmk;have g4:Below wr.heap.size wr W4:=by rw[←hW4];exact a0_ _ _
   have o4:OwnI W4 wr.heap.size (.slice (some ⟨wr.heap.size,0,none⟩) n n) (List.replicate n 0):=by
    rw[←hW4];exact OwnI.made0 (l_ _) (by omega)
   obtain⟨gr,hgr⟩:=e_ (wr.heap.size);have f4:=o4.frozenG k;have r4:=(o4.cellG (j:=k) (by simpa using hlt)).1;obtain⟨W5,hW5⟩:=e_ (W4.setCell ⟨wr.heap.size,k,none⟩ (.int .i64 1));have hp5:=o4.put (j:=k) (x:=1) (by simp[I64]);rw[d9J,hW5]at hp5;have g5:Below wr.heap.size wr W5:=by rw[←hW5];exact g4.setCell (l_ _) _
   have HE5:=h_ hp5.1.rd;have HO5:=h_ (hO.below g5);have G5:=h_ (hbel.trans (g5.mono hbs));have hs5:=g5.size;have HZ5:=h_ (HZ2.out.rd.next G5.out);have HXA5:=h_ (RpR.next G5.out HXA2.out);have HXB5:=h_ (RpR.next G5.out HXB2.out);have KK1:=h_ (K1.out.call G5.out);have KK2:=h_ (K2.out.call G5.out);have a1':(k:Int)<n:=by omega
   have a2':(0:Int)≤(n:Int):=by omega
   have hs52:w2.heap.size≤W5.heap.size:=by omega
   clear hO hbel o4 g4 hp5 g5;rw[hgr]at hmk f4 r4 hW5 HE5 ;clear hW4;go_wp2;clear hW5 hmk f4 r4;refine a9_ (by kernel_rfl) [.eq (.slice OA k oc),.eq (.agg #[.int .i64 X.p,.int .i64 X.q.v,.slice A X.q.f.length a,.slice C X.q.t.length c,.slice Ea X.d.length ea,.slice Ha X.m.length ha_]),.eq (.agg #[.int .i64 Y.p,.int .i64 Y.q.v,.slice A2 Y.q.f.length a2,.slice C2 Y.q.t.length c2,.slice Eb Y.d.length eb,.slice Hb Y.m.length hb_]),.eq (.slice ZA X.d.length zc),.eq (.slice (some ⟨gr,0,none⟩) n n),rel 5 (fun u lo hi w=>d8_ w lo hi u (mvL X Y (uF X Y k) X.d.length)),rel 6 (fun u lo hi w=>d8_ w lo hi u (cbL X Y (uF X Y k) X.q.f.length)),rel 7 (fun u lo hi w=>a8_ w lo hi u (rowF R fun i=>g i k)),.rel (fun x w=>∃ g',x.v 8 = .slice (some ⟨g',0,none⟩) 1 1∧Blk w g' 24 #[x.v 7])] [[],[],[],[],[],[3,4],[1,2,3,4,5],[1,2,3,4,5,6],[1,2,3,4,5,6,7],[0,1,2,3,4,5,6,7,8],[0,1,2,3,4,5,6,7,8,9]] 9 (by kernel_rfl) ⟨trivial,trivial,trivial,trivial,trivial,a7_ (fun u lo hi w w' h hb=>h.below hb),a7_ (fun u lo hi w w' h hb=>h.below hb),a7_ (fun u lo hi w w' h hb=>h.below hb),fun x w w' ⟨g,e1,h⟩ hb=>⟨g,e1,h.call hb⟩,trivial⟩ ⟨?_,?_,?_,?_,?_,?_,?_,?_,?_,trivial⟩ ?_;iterate 9 (intro x w hb hk Q' hQ;have he:=k_e hk;simp only[k_s]at he;simp only[netE]at hQ⊢;(try simp only[he]at hQ⊢);(try clear he);rotate_left)
   rotate_left
   ·clear hk;go_wp2;exact hQ _ _ br_ rfl
   ·clear hk;obtain⟨z0,z1,z2,z3,z4,z5⟩:=c_6 (KK1.out.call hb);go_wp2;exact hQ _ _ br_ rfl
   ·clear hk;obtain⟨z0,z1,z2,z3,z4,z5⟩:=c_6 (KK2.out.call hb);go_wp2;exact hQ _ _ br_ rfl
   iterate 2 (· clear hk;go_wp2;exact hQ _ _ br_ rfl)
   ·clear hk;have hA:=h_ (SlM.next hb HZ5.out);have hE:=h_ (SlI.next hb HE5.out);go_wp2_with fail
    refine (Q9_ _ _ (zrL X.d Y.d X.d.length) (rowF n (d9x k)) _ hA.out hE.out (by rw[o2_];omega) (by rw[F7_,HN'.out,a2_];exact l_ _)).mono ?_;rintro e w3 ⟨v3,rfl,hS,hb3⟩;rw[c8Z _ _ _ _ _ (by rw[HN'.out];exact l_ _),g1Q]at hS;go_wp2;exact hQ _ _ hb3 hS
   ·have h5:d8_ w (x.lo 5) (x.hi 5) (x.v 5) (mvL X Y (uF X Y k) X.d.length):=(hk 5 (by decide)).1;have s5:=(hk 5 (by decide)).2;clear hk;have hA:=h_ (RpR.next hb HXA5.out);have hB:=h_ (RpR.next hb HXB5.out);have H5:=h_ h5.rd;clear h5;go_wp2_with fail
    refine (O0_ _ _ _ X Y (uF X Y k) _ hA.out hB.out H5.out HF.out (fun v _=>i6Q HF.out.p2.1 _ _ _ _)).mono ?_;rintro e w3 ⟨v3,rfl,hS,hb3⟩;go_wp2;exact hQ _ _ hb3 hS
   ·have h5:d8_ w (x.lo 5) (x.hi 5) (x.v 5) (mvL X Y (uF X Y k) X.d.length):=(hk 5 (by decide)).1;have h6:d8_ w (x.lo 6) (x.hi 6) (x.v 6) (cbL X Y (uF X Y k) X.q.f.length):=(hk 6 (by decide)).1;have s5:=(hk 5 (by decide)).2;have s6:=(hk 6 (by decide)).2;clear hk;have H6:=h_ h6.rd;clear h6;have hcl:=HCOL.out k hlt;go_wp2_with fail
    refine (S1_ _ (cbL X Y (uF X Y k) X.q.f.length) _ H6.out (by rw[D6_];have:=HN6.out;omega) (by rw[←x1_,←hcl,a2_];omega)).mono ?_;rintro e w3 ⟨v3,rfl,hS,hb3⟩;rw[←hcl]at hS;clear hcl;go_wp2;exact hQ _ _ hb3 hS
   ·have h5:d8_ w (x.lo 5) (x.hi 5) (x.v 5) (mvL X Y (uF X Y k) X.d.length):=(hk 5 (by decide)).1;have h6:d8_ w (x.lo 6) (x.hi 6) (x.v 6) (cbL X Y (uF X Y k) X.q.f.length):=(hk 6 (by decide)).1;have h7:a8_ w (x.lo 7) (x.hi 7) (x.v 7) (rowF R fun i=>g i k):=(hk 7 (by decide)).1;have s5:=(hk 5 (by decide)).2;have s6:=(hk 6 (by decide)).2;have s7:=(hk 7 (by decide)).2;clear hk;obtain⟨sA,sc,es⟩:=h7.form;rw[a2_]at es;have hQ':=hQ (.slice (some ⟨w.heap.size,0,none⟩) 1 1) (w.alloc (.cells #[x.v 7] 24)) (a0_ _ _) ⟨_,rfl,Blk.new _ _ _⟩;rw[es]at hQ'⊢;clear h7 es;go_wp2;exact hQ'
   ·intro x w hb hk hiv hdj;have h5:d8_ w (x.lo 5) (x.hi 5) (x.v 5) (mvL X Y (uF X Y k) X.d.length):=hk 5 (by decide);have h6:d8_ w (x.lo 6) (x.hi 6) (x.v 6) (cbL X Y (uF X Y k) X.q.f.length):=hk 6 (by decide);have h7:a8_ w (x.lo 7) (x.hi 7) (x.v 7) (rowF R fun i=>g i k):=hk 7 (by decide);have h8:∃ g',x.v 8 = .slice (some ⟨g',0,none⟩) 1 1∧Blk w g' 24 #[x.v 7]:=hk 8 (by decide);have he:=k_g hk [0,1,2,3,4];simp only[k_s]at he;simp only[netE,he];clear he hk;obtain⟨g8,e8,kg⟩:=h8;have li:=(hiv 7 (by decide)).1;have hi_:=(hiv 7 (by decide)).2.2;rw[e8];obtain⟨v7,hv7⟩:=e_ (x.v 7);rw[hv7]at h7 kg;have hbs2:=hb.size;have HOZ:=h_ (HO5.out.below hb);have C0:=h_ (kg.cell' (i:=0) rfl);have HSZ:=h_ (h7.wider li hi_);have HBZ:=h_ (G5.out.trans (hb.mono hs52));clear hiv hdj h7 h6 h5 e8 kg hb hv7;refine A8_ (by rfl) (.tmp 25) (.tmp 33) (by rfl) w2.heap.size wr.heap.size W5.heap.size w.heap.size _ _ _ (by rfl) HOZ.out (some ⟨g8,0,none⟩) 1 _ (by rfl) ⟨_,_,rfl,C0.out⟩ HSZ.out (by omega) (by omega) (by omega) (by rw[b8_];omega) (by omega) (by omega) ?_;intro v' w' h1 h2 h3;have hsn:=x7_ k R (fun a b=>g b a);rw[←hsn]at h1;have H1:=h_ h1;have H2:=h_ (HBZ.out.trans h2);clear h1 h2 h3 hsn;go_wp2;go_roundw
    case rel=>exact⟨k+1,by omega,by go_num,H1.out,H2.out⟩
    case measure=>simp[intOf];omega
  ·obtain rfl:k=n:=by omega
   have KK1:=K1.out.call hbel;have KK2:=K2.out.call hbel;have K3r:=h_ (K3.out.call hbel);obtain⟨c0,c1,c2_,c3,c4,c5⟩:=c_6 KK1;obtain⟨d0,d1,d2,d3,d4,d5⟩:=c_6 KK2;have HXr:=h_ (RpR.next hbel HXA2.out);have HYr:=h_ (RpR.next hbel HXB2.out);have HO:=h_ hO.rd;have GR:=h_ (G0.out.trans ((B2.out.trans (hbel.mono (by omega))).mono G0.out.size));have hgr:=GR.out.size;clear hO hbel KK1 KK2;go_wp2_with fail
   refine (G9_ _ _ X Y _ HXr.out HYr.out HF.out).mono ?_;rintro e w6 ⟨v6,rfl,hC,hb6⟩;obtain⟨ZB,zd,ezb,_,_⟩:=hC.form2;rw[w9_]at ezb;subst ezb;have HC:=h_ hC;clear hC c0 c1 c2_ c3 c4 c5 d0 d1 d2 d3 d4 d5;go_wp2_with fail
   refine (S1_ _ (czL X Y X.q.f.length) _ HC.out.rd (by rw[w9_];have:=HN6.out;omega) (by rw[a1X X Y (hmN X Y)];have:=HR.out;unfold eqR at this;omega)).mono ?_;rintro e w7 ⟨v7,rfl,hFl,hb7⟩;obtain⟨FB,fd,ef⟩:=hFl.form;rw[x1_,a1X X Y (hmN X Y),show (eqL X Y (hmN X Y) X.q.f.length).length=R from HR.out]at ef;subst ef;have hb67:=b0_ hb6 hb7;have HO7:=h_ (SlII.next hb67 HO.out);have HB7:=h_ (GR.out.trans (hb67.mono hgr));have K37:=h_ (K3r.out.call hb67);have s67:=hb67.size;clear hFl hb6 hb7 hb67;go_wp2_with fail
   refine (v4_ _ R k g _ HO7.out (by omega) (by omega)).mono ?_;rintro e w8 ⟨v8,rfl,hM,hb8⟩;obtain⟨sM,e8,hs8,hI8⟩:=hM;obtain⟨MA,mc,em⟩:=hs8.form;obtain⟨ml,hml⟩:=e_ ((mxF R k g).a.length);rw[hml]at em;subst em;simp only[mxF]at e8;subst e8;have k8:=K37.out.call hb8;obtain⟨z0,z1,z2⟩:=c_3 k8;have fr:=k8.frozen;have GF:=h_ (HB7.out.trans (hb8.mono (HB7.out.size)));have HS8:=h_ hs8;have HI8:=h_ hI8;have s8:=hb8.size;have gs:=HB7.out.size;clear hs8 hI8 hb8 k8 hml;go_wp2;have gf:=GF.out;have sz:=SZ.out;have hc:Chg (w0.heap.size+1+1) (w0.heap.size+1+1+1) w8 _:=((a5_ (w:=w8) (p:=⟨w0.heap.size+1+1,0,none⟩) (u:=.int .i64 R) (by simp) (by simp)).trans (a5_ (p:=⟨w0.heap.size+1+1,1,none⟩) (u:=.int .i64 k) (by simp) (by simp))).trans (a5_ (p:=⟨w0.heap.size+1+1,2,none⟩) (u:=.slice MA ml mc) (by simp) (by simp));refine bodyPost_ret (v:=.agg #[.int .i64 R,.int .i64 k,.slice MA ml mc]) (by simp[results,go_sem,z0,z1,z2]) rfl ⟨_,rfl,⟨_,rfl,(HS8.out.chg hc (.inr (by omega))).wider (by omega) (by simp),HI8.out⟩,((gf.setCell (by simp;omega) _).setCell (by simp;omega) _).setCell (by simp;omega) _⟩
theorem t0_ (ua ub:Value) (X Y:Rp) (w0:World) (ha:RpR w0 w0.heap.size ua X) (hb:RpR w0 w0.heap.size ub Y) (hf:Fit2 X Y) :
  Calls Tryz.prog 69 #[ua,ub] w0 fun e w'=>e = .returned (.int .i64 (homN X Y:Int))∧Below w0.heap.size w0 w':=by
 have hp:=(j0_.1 hf.hx).1;have hN80:=Q0_ hf;have hR96:=b9x hf;have HIF:=h_ (S0_ (x:=X) Y hf.p2.1);have HP:=h_ hp;have ha':=ha;have hb':=hb;obtain⟨A,a,C,c,Ea,ea,Ha,ha_,rfl,hqa,hda,hma,hpa,lda,lma⟩:=ha.open_;obtain⟨A2,a2,C2,c2,Eb,eb,Hb,hb_,rfl,hqb,hdb,hmb,hpb,ldb,lmb⟩:=hb.open_;clear ha hb;obtain⟨W,hW,g0,k1,k2⟩:=b_4 w0 #[.int .i64 X.p,.int .i64 X.q.v,.slice A X.q.f.length a,.slice C X.q.t.length c,.slice Ea X.d.length ea,.slice Ha X.m.length ha_] 29 #[.int .i64 Y.p,.int .i64 Y.q.v,.slice A2 Y.q.f.length a2,.slice C2 Y.q.t.length c2,.slice Eb Y.d.length eb,.slice Hb Y.m.length hb_] 29;have HXA:=h_ (RpR.next g0 ha');have HXB:=h_ (RpR.next g0 hb');have HQA:=h_ (QvR.next g0 hqa);have HDA:=h_ (SlI.next g0 hda);have HDB:=h_ (SlI.next g0 hdb);have HMA:=h_ (SlM.next g0 hma);have HMB:=h_ (SlM.next g0 hmb);have G0:=h_ g0;clear ha' hb' hqa hqb hda hdb hma hmb hpa hpb g0;have HF:=h_ hf;obtain⟨c0,c1,c2_,c3,c4,c5⟩:=c_6 k1;obtain⟨d0,d1,d2,d3,d4,d5⟩:=c_6 k2;have hVV:(homN X Y:Int)=((hmN X Y:Nat):Int)-(rkF X.p (eqR X Y) (hmN X Y) (eqG X Y):Nat):=by
  have:=r5_ X.p (eqR X Y) (hmN X Y) (eqG X Y);unfold homN;omega
 rw[hVV];have hrk:=(r5_ X.p (eqR X Y) (hmN X Y) (eqG X Y)).2;obtain⟨R,hR⟩:=e_ (eqR X Y);obtain⟨n,hn⟩:=e_ (hmN X Y);obtain⟨g,hg⟩:=e_ (eqG X Y);have HRE:=h_ hR;have HNE:=h_ hn;have HGE:=h_ hg;rw[hR,hn,hg]at HIF hrk;rw[hR]at hR96;rw[hn]at hN80;rw[hR,hn,hg];obtain⟨rk,hrk2⟩:=e_ (rkF X.p R n g);have HRK:=h_ hrk2;rw[hrk2]at hrk⊢;clear hf hp hR hn hg hrk2 hVV;go_enter Tryz.func69,Tryz.ntmps69
 go_wp2_with fail
 rw[←hW];clear hW;refine (y3_ _ _ X Y _ HXA.out HXB.out HF.out).mono ?_;rintro e w1 ⟨v1,rfl,hM,hb1⟩;rw[HRE.out,HNE.out,HGE.out]at hM;obtain⟨MA,mc,em⟩:=hM.form;subst em;simp only[mxF]at hM⊢;obtain⟨ML,hML⟩:=e_ ((flat R n g).length);rw[hML]at hM⊢;obtain⟨W2,hW2,ga,g2,hg2,kM⟩:=b_2 w1 #[.int .i64 R,.int .i64 n,.slice MA ML mc] 65;have HM:=h_ (MxR.next ga hM.rd);have gW:=b0_ hb1 ga;have K1:=h_ (k1.call gW);have G2:=h_ (b0_ G0.out gW);clear hM hML hb1 ga gW c0 c1 c2_ c3 c4 c5 d0 d1 d2 d3 d4 d5 k1 k2;go_wp2;clear hW2;try clear hg2
 refine a9_ (by kernel_rfl) [.eq (.pointer (some ⟨g2,1,none⟩)),.eq (.int .i64 n),.eq (.pointer (some ⟨w0.heap.size,0,none⟩)),.eq (.int .i64 X.p),.eq (.agg #[.int .i64 R,.int .i64 n,.slice MA ML mc]),.eq (.int .i64 rk),.eq (.int .i64 ((n:Int)-rk))] [[],[0],[],[2],[],[2,3,4],[0,1,2,3,4,5],[0,1,2,3,4,5,6]] 7 (by kernel_rfl) ⟨trivial,trivial,trivial,trivial,trivial,trivial,trivial,trivial⟩ ⟨?_,?_,?_,?_,?_,?_,?_,trivial⟩ ?_;iterate 7 (intro x w hb hk Q' hQ;have he:=k_e hk;simp only[k_s]at he;simp only[netE]at hQ⊢;(try simp only[he]at hQ⊢);(try clear he);rotate_left)
 rotate_left
 ·clear hk;go_wp2;exact hQ _ _ br_ rfl
 ·clear hk;have z:=(kM.call hb).cell' (i:=1) rfl;go_wp2;exact hQ _ _ br_ rfl
 ·clear hk;go_wp2;exact hQ _ _ br_ rfl
 ·clear hk;have z:=(K1.out.call hb).cell' (i:=0) rfl;go_wp2;exact hQ _ _ br_ rfl
 ·clear hk;obtain⟨z0,z1,z2⟩:=c_3 (kM.call hb);go_wp2;exact hQ _ _ br_ rfl
 ·clear hk;have hA:=h_ (MxR.next hb HM.out);go_wp2_with fail
  refine (v5_ X.p _ R n g _ HP.out (by omega) (by omega) hA.out HIF.out).mono ?_;rintro e w3 ⟨rfl,hb3⟩;rw[HRK.out];go_wp2;exact hQ _ _ hb3 rfl
 ·clear hk;go_wp2;exact hQ _ _ br_ rfl
 ·intro x w hb hk hiv hdj;have he:=k_g hk [0,1,2,3,4,5,6];simp only[k_s]at he;simp only[netE,he];clear he hk;have GF:=h_ (b0_ G2.out hb);clear hb hiv hdj;go_wp2;go_ret
  exact⟨rfl,GF.out⟩
def HmF (X Y:Rp) (F:Nat→Nat→Nat→Int):Prop:=∀ k,k<X.q.f.length→∀ r c,r<dmN Y.d (tgN X.q k)→c<dmN X.d (srN X.q k) →
 X.p∣sgF (fun s=>arF Y k r s*F (srN X.q k) s c) (dmN Y.d (srN X.q k))-sgF (fun s=>F (tgN X.q k) r s*arF X k s c) (dmN X.d (tgN X.q k))
def vcF (X Y:Rp) (x:Nat→Int) (v r c:Nat):Int:=x (hOff X.d Y.d v+r*dmN X.d v+c)
def EqF (X Y:Rp) (F G:Nat→Nat→Nat→Int):Prop:=∀ v r c,v<X.d.length→r<dmN Y.d v→c<dmN X.d v→X.p∣F v r c-G v r c
def cpF (Y:Rp) (G F:Nat→Nat→Nat→Int) (v r c:Nat):Int:=sgF (fun s=>G v r s*F v s c) (dmN Y.d v)
theorem q7_ (s:Int) (a:Nat→Int) (n:Nat):sgF (fun t=>a t*s) n=sgF a n*s:=by
 rw[Int.mul_comm,←k5_];exact a3_ fun t _=>Int.mul_comm _ _
theorem b2Z {P:Nat→Nat} {a x:Nat→Int} {m n:Nat} (hP:∀ s,s<m→P s<n):sgF (fun t=>sgF (fun s=>a s*hInd (P s) t) m*x t) n=sgF (fun s=>a s*x (P s)) m:=by
 rw[a3_ (b:=fun t=>sgF (fun s=>a s*hInd (P s) t*x t) m) fun t _=>(q7_ _ _ _).symm,p0_];refine a3_ fun s hs=>?_
 rw[a3_ (b:=fun t=>if t=P s then a s*x t else 0) fun t _=>?_,r6_ (h:=fun t=>a s*x t) (hP s hs)];unfold hInd;by_cases e:P s=t
 ·rw[if_pos e,if_pos e.symm,Int.mul_one]
 ·rw[if_neg e,if_neg fun h=>e h.symm,Int.mul_zero,Int.zero_mul]
theorem L0_ {x y:List Int} {v i j n:Nat} (hv:v<n) (hi:i<dmN y v) (hj:j<dmN x v):hOff x y v+i*dmN x v+j<hOff x y n:=by
 have h1:=E4_ hi hj;have h2:=c0Z x y (show v+1≤n by omega);simp only[hOff]at h2;omega
theorem c0J {x y:List Int}:∀ {n t:Nat},t<hOff x y n→∃ v i j,v<n∧i<dmN y v∧j<dmN x v∧t=hOff x y v+i*dmN x v+j
 | 0,t,h=>by simp[hOff]at h
 | n+1,t,h=>by
  rcases Nat.lt_or_ge t (hOff x y n) with h1 | h1
  ·obtain⟨v,i,j,hv,r⟩:=c0J h1;exact⟨v,i,j,by omega,r⟩
  ·simp only[hOff]at h;obtain⟨i,j,hi,hj,e⟩:=T5_ (show t-hOff x y n<dmN y n*dmN x n by omega);exact⟨n,i,j,by omega,hi,hj,by omega⟩
theorem g9q {p:Int} {n:Nat} {L:List (List Int)} {x:Nat→Int}:Ker p L.length (lsF L) n x↔∀ l∈L,p∣sgF (fun t=>l.getD t 0*x t) n:=by
 constructor
 ·intro h l hl;obtain⟨i,hi⟩:=List.mem_iff_getElem?.1 hl;have:=h i (a6_ hi);have e:L.getD i []=l:=by rw[l1_,hi];rfl
  simpa only[lsF,e] using this
 ·intro h i hi;have:=h L[i] (List.getElem_mem hi);have e:L.getD i []=L[i]:=by rw[l1_,l2_ hi];rfl
  simpa only[lsF,e] using this
theorem a2j {x y:Rp} {n:Nat} {l:List Int}:∀ {K:Nat},l∈eqL x y n K↔∃ k r c,k<K∧r<dmN y.d (tgN x.q k)∧c<dmN x.d (srN x.q k)∧l=rowF n (eqE x y k r c)
 | 0=>by simp[eqL]
 | K+1=>by
  rw[eqL,List.mem_append,a2j (K:=K)];constructor
  ·rintro (⟨k,r,c,hk,h⟩ | h)
   ·exact⟨k,r,c,by omega,h⟩
   ·simp only[eqRw,g9_,List.mem_map,List.mem_range]at h;obtain⟨i,hi,rfl⟩:=h;obtain⟨r,c,hr,hc,rfl⟩:=T5_ hi;exact⟨K,r,c,by omega,hr,hc,by rw[u6_ hc,u7_ hc]⟩
  ·rintro⟨k,r,c,hk,hr,hc,rfl⟩;by_cases e:k<K
   ·exact .inl ⟨k,r,c,e,hr,hc,rfl⟩
   ·obtain rfl:k=K:=by omega
    refine .inr ?_;simp only[eqRw,g9_,List.mem_map,List.mem_range];exact⟨r*dmN x.d (srN x.q k)+c,E4_ hr hc,by rw[u6_ hc,u7_ hc]⟩
theorem f1j {X Y:Rp} (hf:Fit2 X Y) {k r c:Nat} (hk:k<X.q.f.length) (hr:r<dmN Y.d (tgN X.q k)) (hc:c<dmN X.d (srN X.q k)) (x:Nat→Int) :
  X.p∣sgF (fun t=>(rowF (hmN X Y) (eqE X Y k r c)).getD t 0*x t) (hmN X Y)-(sgF (fun s=>arF Y k r s*vcF X Y x (srN X.q k) s c) (dmN Y.d (srN X.q k))-sgF (fun s=>vcF X Y x (tgN X.q k) r s*arF X k s c) (dmN X.d (tgN X.q k))):=by
 obtain⟨_,_,lf,lt,_⟩:=hf.arr hk;have e1:sgF (fun t=>eqS X Y k r c t (dmN Y.d (srN X.q k))*x t) (hmN X Y)=sgF (fun s=>arF Y k r s*vcF X Y x (srN X.q k) s c) (dmN Y.d (srN X.q k)) :=
  b2Z (P:=fun s=>hOff X.d Y.d (srN X.q k)+s*dmN X.d (srN X.q k)+c) (a:=fun s=>arF Y k r s) fun s hs=>L0_ lf hs hc
 have e2:sgF (fun t=>eqT X Y k r c t (dmN X.d (tgN X.q k))*x t) (hmN X Y)=sgF (fun s=>vcF X Y x (tgN X.q k) r s*arF X k s c) (dmN X.d (tgN X.q k)):=by
  refine Eq.trans (b2Z (P:=fun s=>hOff X.d Y.d (tgN X.q k)+r*dmN X.d (tgN X.q k)+s) (a:=fun s=>arF X k s c) fun s hs=>L0_ lt hr hs) ?_;exact a3_ fun s _=>Int.mul_comm _ _
 rw[←e1,←e2,←t7_];refine i4_ fun t ht=>?_
 rw[i9_ _ ht,eqE,←Int.sub_mul];exact f8_ _ (n4_ _ _)
theorem f1Q {X Y:Rp} (hf:Fit2 X Y) (x:Nat→Int):Ker X.p (eqR X Y) (eqG X Y) (hmN X Y) x↔HmF X Y (vcF X Y x):=by
 rw[show Ker X.p (eqR X Y) (eqG X Y) (hmN X Y) x↔_ from g9q];constructor
 ·intro h k hk r c hr hc;exact (i2_ (f1j hf hk hr hc x)).1 (h _ (a2j.2 ⟨k,r,c,hk,hr,hc,rfl⟩))
 ·intro h l hl;obtain⟨k,r,c,hk,hr,hc,rfl⟩:=a2j.1 hl;exact (i2_ (f1j hf hk hr hc x)).2 (h k hk r c hr hc)
theorem HmF.congr {X Y:Rp} (hf:Fit2 X Y) {F G:Nat→Nat→Nat→Int} (h:HmF X Y F) (e:EqF X Y F G):HmF X Y G:=by
 intro k hk r c hr hc;obtain⟨_,_,lf,lt,_⟩:=hf.arr hk;have h1:=h k hk r c hr hc;have e1:X.p∣sgF (fun s=>arF Y k r s*F (srN X.q k) s c) (dmN Y.d (srN X.q k))-sgF (fun s=>arF Y k r s*G (srN X.q k) s c) (dmN Y.d (srN X.q k)):=i4_ fun s hs=>i3_ _ (e _ s c lf hs hc)
 have e2:X.p∣sgF (fun s=>F (tgN X.q k) r s*arF X k s c) (dmN X.d (tgN X.q k))-sgF (fun s=>G (tgN X.q k) r s*arF X k s c) (dmN X.d (tgN X.q k)):=i4_ fun s hs=>f8_ _ (e _ r s lt hr hs)
 have:=Int.dvd_sub (Int.dvd_add h1 e2) e1;refine (i2_ ?_).1 this;refine⟨0,by omega⟩
def flV (x y:List Int) (F:Nat→Nat→Nat→Int):Nat→Nat→Int
 | 0,_=>0
 | V+1,j=>if j<hOff x y V then flV x y F V j else F V ((j-hOff x y V) / dmN x V) ((j-hOff x y V) % dmN x V)
theorem f1q {x y:List Int} {F:Nat→Nat→Nat→Int} {v r c:Nat} (hr:r<dmN y v) (hc:c<dmN x v):∀ {V},v<V→flV x y F V (hOff x y v+r*dmN x v+c)=F v r c
 | V+1,h=>by
  rw[flV];by_cases e:v<V
  ·rw[if_pos (L0_ e hr hc)];exact f1q hr hc e
  ·obtain rfl:v=V:=by omega
   rw[if_neg (by omega),show hOff x y v+r*dmN x v+c-hOff x y v=r*dmN x v+c by omega,u6_ hc,u7_ hc]
def hmL (X Y:Rp):List (List Int):=kerL X.p.toNat (eqR X Y) (eqG X Y) (hmN X Y)
theorem Fit2.pN {X Y:Rp} (h:Fit2 X Y):((X.p.toNat:Nat):Int)=X.p:=by have:=h.p2;omega
theorem L1_ {X Y:Rp} (hf:Fit2 X Y) {x:List Int}:x∈hmL X Y↔IsV X.p.toNat (hmN X Y) x∧HmF X Y (vcF X Y (at0 x)):=by
 rw[hmL,c4_,hf.pN,f1Q hf]
theorem c1q {X Y:Rp} (hf:Fit2 X Y):(hmL X Y).length=X.p.toNat ^ homN X Y:=by
 have hp:=(j0_.1 hf.hx).1;have hp2:=hf.p2;have hI:=S0_ (x:=X) Y hp2.1;rw[←hf.pN]at hI hp;have h:=L7_ hp (by omega) hI (hmN X Y) (l_ _);have hrk:rkF X.p (eqR X Y) (hmN X Y) (eqG X Y)≤hmN X Y:=(r5_ _ _ _ _).2;have e:(rdTo ((X.p.toNat:Nat):Int) (eqR X Y) (eqG X Y) (hmN X Y)).2.length=rkF X.p (eqR X Y) (hmN X Y) (eqG X Y):=by rw[rkF,hf.pN]
 rw[e]at h;have h2:X.p.toNat ^ hmN X Y=X.p.toNat ^ homN X Y*X.p.toNat ^ rkF X.p (eqR X Y) (hmN X Y) (eqG X Y):=by
  rw[←Nat.pow_add,homN,Nat.sub_add_cancel hrk]
 rw[h2]at h;exact Nat.eq_of_mul_eq_mul_right (Nat.pow_pos (by omega)) h
theorem a6J {X Y:Rp} (hf:Fit2 X Y) {F:Nat→Nat→Nat→Int} (h:HmF X Y F):can X.p.toNat (hmN X Y) (flV X.d Y.d F X.d.length)∈hmL X Y∧EqF X Y (vcF X Y (at0 (can X.p.toNat (hmN X Y) (flV X.d Y.d F X.d.length)))) F:=by
 have hp2:=hf.p2;have e:EqF X Y (vcF X Y (at0 (can X.p.toNat (hmN X Y) (flV X.d Y.d F X.d.length)))) F:=fun v r c hv hr hc=>by
  have:=p1_ X.p.toNat (flV X.d Y.d F X.d.length) (k:=hmN X Y) (L0_ hv hr hc);rw[f1q hr hc hv,hf.pN]at this;exact this
 refine⟨(L1_ hf).2 ⟨b3X (by omega) _ _,h.congr hf fun v r c hv hr hc=>cg_symmP (e v r c hv hr hc)⟩,e⟩
where
 cg_symmP {p a b:Int} (h:p∣a-b):p∣b-a:=by
  have:=Int.dvd_neg.2 h;rwa[show -(a-b)=b-a by omega]at this
theorem i2X {X Y:Rp} (hf:Fit2 X Y) {x y:List Int} (hx:IsV X.p.toNat (hmN X Y) x) (hy:IsV X.p.toNat (hmN X Y) y) (h:EqF X Y (vcF X Y (at0 x)) (vcF X Y (at0 y))):x=y :=
 P1_ hx hy fun t ht=>by
  obtain⟨v,i,j,hv,hi,hj,rfl⟩:=c0J ht;rw[hf.pN];exact h v i j hv hi hj
theorem R9_ {X Y:Rp} {F G:Nat→Nat→Nat→Int} (h:EqF X Y F G):EqF X Y G F:=fun v r c hv hr hc=>by
 have:=Int.dvd_neg.2 (h v r c hv hr hc);rwa[show -(F v r c-G v r c)=G v r c-F v r c by omega]at this
theorem q3_ {X Y:Rp} {F G H:Nat→Nat→Nat→Int} (h:EqF X Y F G) (k:EqF X Y G H):EqF X Y F H:=fun v r c hv hr hc=>by
 have:=Int.dvd_add (h v r c hv hr hc) (k v r c hv hr hc);rwa[show F v r c-G v r c+(G v r c-H v r c)=F v r c-H v r c by omega]at this
theorem S8_ {X Y X' Y':Rp} (hf:Fit2 X Y) (hf':Fit2 X' Y') (hpp:X.p=X'.p) (Φ:(Nat→Nat→Nat→Int)→Nat→Nat→Nat→Int) (h1:∀ F,HmF X Y F→HmF X' Y' (Φ F))
  (h2:∀ F G,HmF X Y F→HmF X Y G→EqF X' Y' (Φ F) (Φ G)→EqF X Y F G):homN X Y≤homN X' Y':=by
 have hp2:=hf.p2;have hle:(hmL X Y).length≤(hmL X' Y').length:=by
  refine L4_ (φ:=fun x=>can X'.p.toNat (hmN X' Y') (flV X'.d Y'.d (Φ (vcF X Y (at0 x))) X'.d.length)) (j3_ _ _ _ _) (fun x hx y hy e=>?_) fun x hx=>?_
  ·obtain⟨vx,kx⟩:=(L1_ hf).1 hx;obtain⟨vy,ky⟩:=(L1_ hf).1 hy;refine i2X hf vx vy (h2 _ _ kx ky ?_);have e1:=(a6J hf' (h1 _ kx)).2;have e2:=(a6J hf' (h1 _ ky)).2;try simp only at e
   rw[e]at e1;exact q3_ (R9_ e1) e2
  ·obtain⟨_,kx⟩:=(L1_ hf).1 hx;exact (a6J hf' (h1 _ kx)).1
 rw[c1q hf,c1q hf',←hpp]at hle;rcases Nat.lt_or_ge (homN X' Y') (homN X Y) with h | h
 ·have:=Nat.pow_lt_pow_right (show 1<X.p.toNat by omega) h;omega
 ·exact h
theorem g6z {X Y Z:Rp} (hf:Fit2 X Y) (hg:Fit2 Y Z) {F G:Nat→Nat→Nat→Int} (h:HmF X Y F) (k:HmF Y Z G):HmF X Z (cpF Y G F):=by
 intro a ha r c hr hc;have hq:=hf.hq;have hp:=hf.hp;have ha':a<Y.q.f.length:=by rw[←hq];exact ha
 have s1:sgF (fun s=>arF Z a r s*cpF Y G F (srN X.q a) s c) (dmN Z.d (srN X.q a))=sgF (fun t=>sgF (fun s=>arF Z a r s*G (srN X.q a) s t) (dmN Z.d (srN X.q a))*F (srN X.q a) t c) (dmN Y.d (srN X.q a)):=by
  rw[a3_ (b:=fun s=>sgF (fun t=>arF Z a r s*G (srN X.q a) s t*F (srN X.q a) t c) (dmN Y.d (srN X.q a))) fun s _=>?_,p0_]
  ·exact a3_ fun t _=>q7_ _ _ _
  ·rw[cpF,←k5_];exact a3_ fun t _=>by rw[Int.mul_assoc]
 have s2:sgF (fun t=>sgF (fun u=>G (tgN X.q a) r u*arF Y a u t) (dmN Y.d (tgN X.q a))*F (srN X.q a) t c) (dmN Y.d (srN X.q a))=sgF (fun u=>G (tgN X.q a) r u*sgF (fun t=>arF Y a u t*F (srN X.q a) t c) (dmN Y.d (srN X.q a))) (dmN Y.d (tgN X.q a)):=by
  rw[a3_ (b:=fun t=>sgF (fun u=>G (tgN X.q a) r u*(arF Y a u t*F (srN X.q a) t c)) (dmN Y.d (tgN X.q a))) fun t _=>?_,p0_]
  ·exact a3_ fun u _=>k5_ _ _ _
  ·rw[←q7_];exact a3_ fun u _=>by rw[Int.mul_assoc]
 have s3:sgF (fun s=>cpF Y G F (tgN X.q a) r s*arF X a s c) (dmN X.d (tgN X.q a))=sgF (fun u=>G (tgN X.q a) r u*sgF (fun s=>F (tgN X.q a) u s*arF X a s c) (dmN X.d (tgN X.q a))) (dmN Y.d (tgN X.q a)):=by
  rw[a3_ (b:=fun s=>sgF (fun u=>G (tgN X.q a) r u*(F (tgN X.q a) u s*arF X a s c)) (dmN Y.d (tgN X.q a))) fun s _=>?_,p0_]
  ·exact a3_ fun u _=>k5_ _ _ _
  ·rw[cpF,←q7_];exact a3_ fun u _=>by rw[Int.mul_assoc]
 have c1:X.p∣sgF (fun t=>sgF (fun s=>arF Z a r s*G (srN X.q a) s t) (dmN Z.d (srN X.q a))*F (srN X.q a) t c) (dmN Y.d (srN X.q a))-sgF (fun t=>sgF (fun u=>G (tgN X.q a) r u*arF Y a u t) (dmN Y.d (tgN X.q a))*F (srN X.q a) t c) (dmN Y.d (srN X.q a)):=i4_ fun t ht=>f8_ _ (by
  have:=k a ha' r t (by rw[←hq];exact hr) (by rw[←hq];exact ht);rwa[←hq,←hp]at this)
 have c2:X.p∣sgF (fun u=>G (tgN X.q a) r u*sgF (fun t=>arF Y a u t*F (srN X.q a) t c) (dmN Y.d (srN X.q a))) (dmN Y.d (tgN X.q a))-sgF (fun u=>G (tgN X.q a) r u*sgF (fun s=>F (tgN X.q a) u s*arF X a s c) (dmN X.d (tgN X.q a))) (dmN Y.d (tgN X.q a)):=i4_ fun u hu=>i3_ _ (h a ha u c hu hc)
 rw[s1,s3];rw[s2]at c1;have:=Int.dvd_add c1 c2;refine (i2_ ?_).1 this;exact⟨0,by omega⟩
theorem a7q (X Y:Rp) (H G F:Nat→Nat→Nat→Int) (v r c:Nat):cpF Y H (cpF X G F) v r c=cpF X (cpF Y H G) F v r c:=by
 show sgF (fun s=>H v r s*sgF (fun t=>G v s t*F v t c) (dmN X.d v)) (dmN Y.d v)=sgF (fun t=>sgF (fun s=>H v r s*G v s t) (dmN Y.d v)*F v t c) (dmN X.d v);rw[a3_ (b:=fun s=>sgF (fun t=>H v r s*G v s t*F v t c) (dmN X.d v)) fun s _=>?_,p0_]
 ·exact a3_ fun t _=>q7_ _ _ _
 ·rw[←k5_];exact a3_ fun t _=>by rw[Int.mul_assoc]
theorem d2x {X Y Z:Rp} (hp:X.p=Y.p) (hl:X.d.length=Y.d.length) {F F' G G':Nat→Nat→Nat→Int} (h:EqF X Y F F') (k:EqF Y Z G G'):EqF X Z (cpF Y G F) (cpF Y G' F'):=fun v r c hv hr hc=>by
 refine i4_ fun s hs=>?_
 have h1:=i3_ (G v r s) (h v s c hv hs hc);have h2:=f8_ (F' v s c) (k v r s (by omega) hr hs);rw[←hp]at h2;have:=Int.dvd_add h1 h2;rwa[show G v r s*F v s c-G v r s*F' v s c+(G v r s*F' v s c-G' v r s*F' v s c)=G v r s*F v s c-G' v r s*F' v s c by omega]at this
def idM (_ r c:Nat):Int:=idF r c
theorem g6x {X Y:Rp} (F:Nat→Nat→Nat→Int):EqF X Y (cpF Y idM F) F:=fun v r c _ hr _=>by
 have:cpF Y idM F v r c=F v r c:=by
  rw[cpF,a3_ (b:=fun s=>if s=r then F v s c else 0) fun s _=>?_,r6_ (h:=fun s=>F v s c) hr];unfold idM idF;by_cases e:r=s
  ·rw[if_pos e,if_pos e.symm,Int.one_mul]
  ·rw[if_neg e,if_neg fun h=>e h.symm,Int.zero_mul]
 rw[this,Int.sub_self];exact Int.dvd_zero _
theorem g6J {X Y:Rp} (F:Nat→Nat→Nat→Int):EqF X Y (cpF X F idM) F:=fun v r c _ _ hc=>by
 have:cpF X F idM v r c=F v r c:=by
  rw[cpF,a3_ (b:=fun s=>if s=c then F v r s else 0) fun s _=>?_,r6_ (h:=fun s=>F v r s) hc];unfold idM idF;by_cases e:s=c
  ·rw[if_pos e,if_pos e,Int.mul_one]
  ·rw[if_neg e,if_neg e,Int.mul_zero]
 rw[this,Int.sub_self];exact Int.dvd_zero _
structure IsoF (X Y:Rp) (F G:Nat→Nat→Nat→Int):Prop where
 fit:Fit2 X Y
 fwd:HmF X Y F
 bwd:HmF Y X G
 gf:EqF X X (cpF Y G F) idM
 fg:EqF Y Y (cpF X F G) idM
theorem Fit2.symm {X Y:Rp} (h:Fit2 X Y):Fit2 Y X:=⟨h.hy,h.hx,h.hp.symm,h.hq.symm⟩
theorem Fit2.rfl1 {X Y:Rp} (h:Fit2 X Y):Fit2 X X:=⟨h.hx,h.hx,rfl,rfl⟩
theorem Fit2.trans {X Y Z:Rp} (h:Fit2 X Y) (k:Fit2 Y Z):Fit2 X Z:=⟨h.hx,k.hy,h.hp.trans k.hp,h.hq.trans k.hq⟩
theorem IsoF.symm {X Y:Rp} {F G:Nat→Nat→Nat→Int} (h:IsoF X Y F G):IsoF Y X G F:=⟨h.fit.symm,h.bwd,h.fwd,h.fg,h.gf⟩
theorem L6_ {X Y:Rp} {F G:Nat→Nat→Nat→Int} (h:IsoF X Y F G) {Z:Rp} (hz:Fit2 Z X):homN Z X≤homN Z Y:=by
 have hl:=h.fit.len.1;have hl2:=hz.len.1;refine S8_ hz (hz.trans h.fit) rfl (fun H=>cpF X F H) (fun H hH=>g6z hz h.fit hH h.fwd) fun H K _ _ e=>?_
 have key:∀ H,EqF Z X (cpF Y G (cpF X F H)) H:=fun H=>by
  have a:EqF Z X (cpF X (cpF Y G F) H) (cpF X idM H):=d2x hz.hp hl2.symm (fun v r c _ _ _=>by rw[Int.sub_self];exact Int.dvd_zero _) h.gf;refine q3_ (fun v r c hv hr hc=>?_) (g6x H);rw[a7q];exact a v r c hv hr hc
 have b:EqF Z X (cpF Y G (cpF X F H)) (cpF Y G (cpF X F K)):=d2x (hz.hp.trans h.fit.hp) (by omega) e fun v r c _ _ _=>by rw[Int.sub_self];exact Int.dvd_zero _
 exact q3_ (R9_ (key H)) (q3_ b (key K))
theorem x3_ {X Y:Rp} {F G:Nat→Nat→Nat→Int} (h:IsoF X Y F G) {Z:Rp} (hz:Fit2 Y Z):homN Y Z≤homN X Z:=by
 have hl:=h.fit.len.1;have hl2:=hz.len.1;refine S8_ hz (h.fit.trans hz) h.fit.hp.symm (fun H=>cpF Y H F) (fun H hH=>g6z h.fit hz h.fwd hH) fun H K _ _ e=>?_
 have key:∀ H,EqF Y Z (cpF X (cpF Y H F) G) H:=fun H=>by
  have a:EqF Y Z (cpF Y H (cpF X F G)) (cpF Y H idM):=d2x rfl rfl h.fg fun v r c _ _ _=>by rw[Int.sub_self];exact Int.dvd_zero _
  refine q3_ (fun v r c hv hr hc=>?_) (g6J H);rw[←a7q];exact a v r c hv hr hc
 have b:EqF Y Z (cpF X (cpF Y H F) G) (cpF X (cpF Y K F) G):=d2x h.fit.hp.symm hl (fun v r c _ _ _=>by rw[Int.sub_self];exact Int.dvd_zero _) e;exact q3_ (R9_ (key H)) (q3_ b (key K))
theorem d4z {X Y:Rp} {F G:Nat→Nat→Nat→Int} (h:IsoF X Y F G):homN X Y=homN X X∧homN Y X=homN X X∧homN Y Y=homN X X:=by
 have hxx:=h.fit.rfl1;have hyy:=h.fit.symm.rfl1;have a1:=L6_ h hxx;have a2:=L6_ h.symm h.fit;have b1:=x3_ h h.fit.symm;have b2:=x3_ h.symm hxx;have c1:=x3_ h hyy;have c2:=x3_ h.symm h.fit;omega
theorem d4x {X Y:Rp} {F G:Nat→Nat→Nat→Int} (h:IsoF X Y F G) {v:Nat} (hv:v<X.d.length) {f:Nat→Nat→Int} (hI:InF X.p (dmN Y.d v) (dmN X.d v) f) (hf:∀ r c,r<dmN Y.d v→c<dmN X.d v→X.p∣f r c-F v r c):rkF X.p (dmN Y.d v) (dmN X.d v) f=dmN X.d v:=by
 have hp:=(j0_.1 h.fit.hx).1;have hp2:=h.fit.p2;have hpN:=h.fit.pN;have hI':=hI;rw[←hpN]at hI' hp;have hc:=L7_ hp (by omega) hI' (dmN X.d v) (l_ _);have one:(kerL X.p.toNat (dmN Y.d v) f (dmN X.d v)).length≤1:=by
  refine Nat.le_trans (t3_ (m:=[List.replicate (dmN X.d v) 0]) (j3_ _ _ _ _) fun x hx=>?_) (l_ _);obtain⟨hv1,hK⟩:=c4_.1 hx;rw[List.mem_singleton];refine P1_ hv1 ⟨by simp,fun e he=>by rw[List.eq_of_mem_replicate he];omega⟩ fun t ht=>?_
  have e0:at0 (List.replicate (dmN X.d v) (0:Int)) t=0:=by simp[at0,l1_,List.getElem?_replicate,ht]
  rw[e0,Int.sub_zero,hpN];rw[hpN]at hK;have g1:=h.gf v t;have k1:X.p∣sgF (fun c=>cpF Y G F v t c*at0 x c) (dmN X.d v):=by
   have e1:sgF (fun c=>cpF Y G F v t c*at0 x c) (dmN X.d v)=sgF (fun s=>G v t s*sgF (fun c=>F v s c*at0 x c) (dmN X.d v)) (dmN Y.d v):=by
    rw[a3_ (b:=fun c=>sgF (fun s=>G v t s*(F v s c*at0 x c)) (dmN Y.d v)) fun c _=>?_,p0_]
    ·exact a3_ fun s _=>k5_ _ _ _
    ·rw[cpF,←q7_];exact a3_ fun s _=>by rw[Int.mul_assoc]
   rw[e1];refine n3_ fun s hs=>Int.dvd_mul_of_dvd_right ?_
   have h1:=hK s hs;refine (i2_ ?_).1 h1;exact i4_ fun c hcc=>f8_ _ (hf s c hs hcc)
  have k2:X.p∣sgF (fun c=>cpF Y G F v t c*at0 x c) (dmN X.d v)-sgF (fun c=>idM v t c*at0 x c) (dmN X.d v):=i4_ fun c hcc=>f8_ _ (g1 c hv ht hcc)
  have k3:sgF (fun c=>idM v t c*at0 x c) (dmN X.d v)=at0 x t:=by
   rw[a3_ (b:=fun c=>if c=t then at0 x c else 0) fun c _=>?_,r6_ (h:=fun c=>at0 x c) ht];unfold idM idF;by_cases e:t=c
   ·rw[if_pos e,if_pos e.symm,Int.one_mul]
   ·rw[if_neg e,if_neg fun h=>e h.symm,Int.zero_mul]
  rw[k3]at k2;exact (i2_ k2).1 k1
 have e:(rdTo ((X.p.toNat:Nat):Int) (dmN Y.d v) f (dmN X.d v)).2.length=rkF X.p (dmN Y.d v) (dmN X.d v) f:=by rw[rkF,hpN]
 rw[e]at hc;have hle:rkF X.p (dmN Y.d v) (dmN X.d v) f≤dmN X.d v:=(r5_ _ _ _ _).2;have hpos:0<X.p.toNat ^ dmN X.d v:=Nat.pow_pos (by omega);have h1:(kerL X.p.toNat (dmN Y.d v) f (dmN X.d v)).length=1:=by
  rcases Nat.eq_zero_or_pos (kerL X.p.toNat (dmN Y.d v) f (dmN X.d v)).length with h0 | h0
  ·rw[h0,Nat.zero_mul]at hc;omega
  ·omega
 rw[h1,Nat.one_mul]at hc;exact (Nat.pow_right_inj (by omega)).1 hc
theorem i1J {p:Int} {r c:Nat} {f:Nat→Nat→Int} (hp:c8_ p=true) (hp2:2≤p) (hf:InF p r c f) (i:Nat) (hi:i<(rdTo p r f c).2.length):∃ b:Nat,(rdTo p r f c).2.getD i 0=(b:Int)∧b<c∧∀ a,a<r→(rdTo p r f c).1 a b=if a=i then 1 else 0:=by
 obtain⟨b,h1,h2,h3⟩:=(c6J hp hp2 hf c (l_ _)).pos i hi;exact⟨b,by rw[l1_,h1];rfl,h2,h3⟩
structure Piv (r c:Nat) (g:Nat→Nat→Int) (ps:List Int):Prop where
 at_:∀ i,i<ps.length→∃ b:Nat,ps.getD i 0=(b:Int)∧b<c∧∀ a,a<r→g a b=if a=i then 1 else 0
 len:ps.length≤r
theorem Piv.inj {r c:Nat} {g:Nat→Nat→Int} {ps:List Int} (h:Piv r c g ps) {i i':Nat} (hi:i<ps.length) (hi':i'<ps.length) (e:ps.getD i 0=ps.getD i' 0):i=i':=by
 obtain⟨b,h1,_,h3⟩:=h.at_ i hi;obtain⟨b',h1',_,h3'⟩:=h.at_ i' hi';have eb:b=b':=by rw[h1,h1']at e;exact Int.natCast_inj.1 e
 subst eb;have hl:=h.len;have u1:=h3 i (by omega);have u2:=h3' i (by omega);rw[if_pos rfl]at u1;by_cases e2:i=i'
 ·exact e2
 ·rw[if_neg e2]at u2;omega
theorem c5X {p:Int} {r c:Nat} {f:Nat→Nat→Int} (hp:c8_ p=true) (hp2:2≤p) (hf:InF p r c f):Piv r c (rdTo p r f c).1 (rdTo p r f c).2:=⟨i1J hp hp2 hf,(n1_ p r f c).1⟩
theorem S7_ {ps:List Int} {h:Nat→Int}:∀ c,sgF (fun b=>if (b:Int)∈ps then 0 else h b) c=sgF (fun i=>h ((c7_ ps c).getD i 0).toNat) (c7_ ps c).length
 | 0=>rfl
 | c+1=>by
  have ih:=S7_ (ps:=ps) (h:=h) c;by_cases e:(c:Int)∈ps
  ·rw[S5_ (by simpa using e),sgF,if_pos e,ih];omega
  ·rw[K9_ (by simpa using e),List.length_append,List.length_singleton,sgF,sgF,if_neg e,ih];have e1:((c7_ ps c ++ [(c:Int)]).getD (c7_ ps c).length 0).toNat=c:=by simp
   rw[e1];congr 1
   refine a3_ fun i hi=>?_
   have e2:(c7_ ps c ++ [(c:Int)]).getD i 0=(c7_ ps c).getD i 0:=by rw[l1_,List.getElem?_append_left hi,l1_]
   rw[e2]
theorem T6_ {p:Int} {g:Nat→Nat→Int} {ps:List Int} {k t:Nat}:∀ n,(∀ i,i<n→ps.getD i 0≠(t:Int))→kvG p g ps k n t=if t=k then 1 else 0
 | 0,_=>rfl
 | n+1,h=>by
  rw[kvG,if_neg fun e=>h n (by omega) e.symm];exact T6_ n fun i hi=>h i (by omega)
theorem a2Z {p:Int} {g:Nat→Nat→Int} {ps:List Int} {k t j:Nat} (hj:ps.getD j 0=(t:Int)):∀ n,j<n→(∀ i,i<n→i≠j→ps.getD i 0≠(t:Int))→kvG p g ps k n t=(- g j k) % p
 | n+1,h1,h2=>by
  rw[kvG];by_cases e:j=n
  ·subst e;rw[if_pos hj.symm]
  ·rw[if_neg fun h=>h2 n (by omega) (fun h=>e h.symm) h.symm];exact a2Z hj n (by omega) fun i hi=>h2 i (by omega)
theorem c6j {r c:Nat} {g:Nat→Nat→Int} {ps:List Int} (h:Piv r c g ps) {t j:Nat} (hjl:j<ps.length) (ej:ps.getD j 0=(t:Int)) (ht:t<c) (x:Nat→Int) :
  sgF (fun b=>g j b*x b) c=x t+sgF (fun i=>g j ((c7_ ps c).getD i 0).toNat*x ((c7_ ps c).getD i 0).toNat) (c7_ ps c).length:=by
 rw[←S7_ (ps:=ps) (h:=fun b=>g j b*x b) c];have e3:sgF (fun b=>if b=t then x b else 0) c=x t:=r6_ (h:=x) ht;rw[←e3,←w4_];have hm:(t:Int)∈ps:=by
  rw[←ej,l1_,l2_ hjl];exact List.getElem_mem hjl
 refine a3_ fun b hb=>?_
 by_cases hbm:(b:Int)∈ps
 ·obtain⟨i,hi⟩:=List.mem_iff_getElem?.1 hbm;have hil:=a6_ hi;have ei:ps.getD i 0=(b:Int):=by rw[l1_,hi];rfl
  obtain⟨b',eb,_,hg⟩:=h.at_ i hil;rw[ei]at eb;have:b=b':=by omega
  subst this;rw[hg j (Nat.lt_of_lt_of_le hjl h.len),if_pos hbm];by_cases e:j=i
  ·subst e;rw[ej]at ei;have:t=b:=by omega
   rw[if_pos rfl,if_pos this.symm];omega
  ·rw[if_neg e,if_neg fun e4=>e (h.inj hjl hil (by rw[ej,ei,e4]))];omega
 ·have hne:¬ b=t:=fun e=>hbm (by rw[e];exact hm)
  rw[if_neg hbm,if_neg hne];omega
theorem a9z {p:Int} {r c:Nat} {g:Nat→Nat→Int} {ps:List Int} (h:Piv r c g ps) {x:Nat→Int} (hx:Ker p r g c x) {t:Nat} (ht:t<c) :
  p∣x t-sgF (fun i=>x ((c7_ ps c).getD i 0).toNat*kvG p g ps ((c7_ ps c).getD i 0).toNat ps.length t) (c7_ ps c).length:=by
 by_cases hm:(t:Int)∈ps
 ·obtain⟨j,hj⟩:=List.mem_iff_getElem?.1 hm;have hjl:=a6_ hj;have ej:ps.getD j 0=(t:Int):=by rw[l1_,hj];rfl
  have hkv:∀ k,kvG p g ps k ps.length t=(- g j k) % p:=fun k=>a2Z ej _ hjl fun i hi hne e=>hne (h.inj hi hjl (e.trans ej.symm))
  have h1:p∣sgF (fun i=>x ((c7_ ps c).getD i 0).toNat*kvG p g ps ((c7_ ps c).getD i 0).toNat ps.length t) (c7_ ps c).length-sgF (fun i => - (g j ((c7_ ps c).getD i 0).toNat*x ((c7_ ps c).getD i 0).toNat)) (c7_ ps c).length:=i4_ fun i _=>by
   rw[hkv];have:=i3_ (x ((c7_ ps c).getD i 0).toNat) (n4_ p (- g j ((c7_ ps c).getD i 0).toNat));rwa[show x ((c7_ ps c).getD i 0).toNat*- g j ((c7_ ps c).getD i 0).toNat =-(g j ((c7_ ps c).getD i 0).toNat*x ((c7_ ps c).getD i 0).toNat) by rw[Int.mul_neg,Int.mul_comm]]at this
  have h2:=hx j (Nat.lt_of_lt_of_le hjl h.len);have e2:=c6j h hjl ej ht x;rw[e2]at h2;have e4:sgF (fun i => - (g j ((c7_ ps c).getD i 0).toNat*x ((c7_ ps c).getD i 0).toNat)) (c7_ ps c).length =-sgF (fun i=>g j ((c7_ ps c).getD i 0).toNat*x ((c7_ ps c).getD i 0).toNat) (c7_ ps c).length:=by
   have:=k5_ (-1) (fun i=>g j ((c7_ ps c).getD i 0).toNat*x ((c7_ ps c).getD i 0).toNat) (c7_ ps c).length;rw[Int.neg_mul,Int.one_mul]at this;rw[←this];exact a3_ fun i _=>by rw[Int.neg_mul,Int.one_mul]
  rw[e4]at h1;have:=Int.dvd_sub h2 h1;refine (i2_ ?_).1 this;exact⟨0,by omega⟩
 ·have e1:sgF (fun i=>x ((c7_ ps c).getD i 0).toNat*kvG p g ps ((c7_ ps c).getD i 0).toNat ps.length t) (c7_ ps c).length=x t:=by
   rw[←S7_ (ps:=ps) (h:=fun b=>x b*kvG p g ps b ps.length t) c];rw[a3_ (b:=fun b=>if b=t then x b else 0) fun b hb=>?_]
   ·exact r6_ (h:=x) ht
   ·have hk:=T6_ (p:=p) (g:=g) (ps:=ps) (k:=b) (t:=t) ps.length fun i hi e=>hm (by rw[←e,l1_,l2_ hi];exact List.getElem_mem hi)
    by_cases e:b=t
    ·subst e;rw[if_neg hm,if_pos rfl,hk,if_pos rfl,Int.mul_one]
    ·have e':¬ t=b:=fun h=>e h.symm
     rw[if_neg e,hk,if_neg e',Int.mul_zero,ite_self]
  rw[e1,Int.sub_self];exact Int.dvd_zero _
def dgtN (p n code i:Nat):Nat:=code / p ^ (n-1-i) % p
theorem g6Q {p:Nat} (hp:2≤p):∀ (n:Nat) (d:Nat→Nat),(∀ i,i<n→d i<p)→∃ code,code<p ^ n∧∀ i,i<n→dgtN p n code i=d i
 | 0,_,_=>⟨0,by simp,fun i hi=>absurd hi (by omega)⟩
 | n+1,d,h=>by
  obtain⟨c,hc,hd⟩:=g6Q hp n d fun i hi=>h i (by omega)
  have hn:=h n (by omega);have hdiv:(c*p+d n) / p=c:=by
   rw[Nat.mul_comm,Nat.mul_add_div (by omega),Nat.div_eq_of_lt hn];rfl
  refine⟨c*p+d n,?_,fun i hi=>?_⟩
  ·rw[Nat.pow_succ];have:(c+1)*p≤p ^ n*p:=Nat.mul_le_mul_right _ hc;rw[Nat.add_mul]at this;omega
  ·unfold dgtN;by_cases e:i=n
   ·subst e;rw[show i+1-1-i=0 by omega,Nat.pow_zero,Nat.div_one,Nat.mul_comm,Nat.mul_add_mod,Nat.mod_eq_of_lt hn]
   ·have hin:i<n:=by omega
    have:=hd i hin;unfold dgtN at this;rw[show n+1-1-i=1+(n-1-i) by omega,Nat.pow_add,Nat.pow_one,←Nat.div_div_eq_div_mul,hdiv,this]
def nbF (p:Int) (B:List (List Int)) (d:Nat→Int):Nat→Nat→Int
 | 0,_=>0
 | i+1,j=>(nbF p B d i j+d i*(B.getD i []).getD j 0) % p
theorem f2J {p:Int} (B:List (List Int)) (d:Nat→Int) (j:Nat):∀ n,p∣nbF p B d n j-sgF (fun i=>d i*(B.getD i []).getD j 0) n
 | 0=>by simp[nbF,sgF]
 | n+1=>by
  have ih:=f2J (p:=p) B d j n;simp only[nbF,sgF];have h1:=n4_ p (nbF p B d n j+d n*(B.getD n []).getD j 0);have:=Int.dvd_add h1 ih;rwa[show (nbF p B d n j+d n*(B.getD n []).getD j 0) % p-(nbF p B d n j+d n*(B.getD n []).getD j 0)+(nbF p B d n j-sgF (fun i=>d i*(B.getD i []).getD j 0) n)=(nbF p B d n j+d n*(B.getD n []).getD j 0) % p-(sgF (fun i=>d i*(B.getD i []).getD j 0) n+d n*(B.getD n []).getD j 0) by omega]at this
theorem a3Z {p:Int} (hp:2≤p) (B:List (List Int)) (d:Nat→Int) (j:Nat):∀ n,0≤nbF p B d n j∧nbF p B d n j≤p-1
 | 0=>by simp only[nbF];omega
 | n+1=>i6_ hp
theorem S6_ (p:Int) (r:Nat) (f:Nat→Nat→Int):∀ k,(c7_ (rdTo p r f k).2 k).length+(rdTo p r f k).2.length=k
 | 0=>by simp[rdTo,c7_]
 | k+1=>by
  have ih:=S6_ p r f k;have hm:=U0_ p r f k;rw[M5_];split
  ·simp only;have e:c7_ ((rdTo p r f k).2 ++ [(k:Int)]) (k+1)=c7_ (rdTo p r f k).2 k:=by
    rw[S5_ (by simp)];unfold c7_;refine List.filter_congr fun u hu=>?_
    simp only[List.mem_map,List.mem_range]at hu;obtain⟨n,hn,rfl⟩:=hu;have:¬ (n:Int)=(k:Int):=by omega
    simp[this]
   rw[e,List.length_append,List.length_singleton];omega
  ·try simp only
   rw[K9_ (by simp only[decide_eq_false_iff_not];intro h;have:=hm _ h;omega),List.length_append,List.length_singleton];omega
def hbB (X Y:Rp):List (List Int):=kerR X.p (eqR X Y) (hmN X Y) (eqG X Y)
theorem c0X (X Y:Rp):(hbB X Y).length=homN X Y:=by
 have h:=S6_ X.p (eqR X Y) (eqG X Y) (hmN X Y);rw[hbB,kerR,u2_,homN,rkF];omega
def nbM (X Y:Rp) (code:Nat):Nat→Int:=nbF X.p (hbB X Y) (fun i=>(dgtN X.p.toNat (homN X Y) code i:Int)) (homN X Y)
theorem i0Z {X Y:Rp} (hf:Fit2 X Y) {F:Nat→Nat→Nat→Int} (h:HmF X Y F):∃ code,code<X.p.toNat ^ homN X Y∧EqF X Y (vcF X Y (nbM X Y code)) F:=by
 have hp:=(j0_.1 hf.hx).1;have hp2:=hf.p2;have hpN:=hf.pN;have hI:=S0_ (x:=X) Y hp2.1;obtain⟨hm,he⟩:=a6J hf h;obtain⟨x,hx⟩:=e_ (can X.p.toNat (hmN X Y) (flV X.d Y.d F X.d.length));rw[hx]at hm he;obtain⟨hv,hk⟩:=(L1_ hf).1 hm;have hK:Ker X.p (eqR X Y) (eqG X Y) (hmN X Y) (at0 x):=(f1Q hf _).2 hk;obtain⟨g,hg⟩:=e_ ((rdTo X.p (eqR X Y) (eqG X Y) (hmN X Y)).1);obtain⟨ps,hps⟩:=e_ ((rdTo X.p (eqR X Y) (eqG X Y) (hmN X Y)).2);have hP:=c5X hp hp2.1 hI;have hKg:=(Q2_ hp hp2.1 hI (hmN X Y) (l_ _) (hmN X Y) (at0 x)).2 hK;have hB:hbB X Y=kerM X.p (hmN X Y) g ps (c7_ ps (hmN X Y)):=by rw[hbB,kerR,hg,hps]
 have hN:(c7_ ps (hmN X Y)).length=homN X Y:=by rw[←c0X,hB,u2_]
 rw[hg,hps]at hP;rw[hg]at hKg;have hcb:∀ t,t<hmN X Y→X.p∣at0 x t-sgF (fun i=>at0 x ((c7_ ps (hmN X Y)).getD i 0).toNat*kvG X.p g ps ((c7_ ps (hmN X Y)).getD i 0).toNat ps.length t) (c7_ ps (hmN X Y)).length:=fun t ht=>a9z hP hKg ht
 rw[hN]at hcb;have hfl:∀ i,i<homN X Y→((c7_ ps (hmN X Y)).getD i 0).toNat<hmN X Y:=fun i hi=>by
  have hi':i<(c7_ ps (hmN X Y)).length:=by omega
  obtain⟨n,e,hn,_⟩:=S4_ (l2_ hi');rw[l1_,l2_ hi',Option.getD_some,e];simpa using hn
 obtain⟨code,hc,hd⟩:=g6Q (p:=X.p.toNat) (by omega) (homN X Y) (fun i=>(at0 x ((c7_ ps (hmN X Y)).getD i 0).toNat).toNat) fun i hi=>by
  have:=v_at hv (hfl i hi);omega
 refine⟨code,hc,fun v r c hvl hr hcc=>?_⟩;have ht:=L0_ (x:=X.d) (y:=Y.d) hvl hr hcc;have h1:=f2J (p:=X.p) (hbB X Y) (fun i=>(dgtN X.p.toNat (homN X Y) code i:Int)) (hOff X.d Y.d v+r*dmN X.d v+c) (homN X Y);have e1:sgF (fun i=>(dgtN X.p.toNat (homN X Y) code i:Int)*((hbB X Y).getD i []).getD (hOff X.d Y.d v+r*dmN X.d v+c) 0) (homN X Y)=sgF (fun i=>at0 x ((c7_ ps (hmN X Y)).getD i 0).toNat*kvG X.p g ps ((c7_ ps (hmN X Y)).getD i 0).toNat ps.length (hOff X.d Y.d v+r*dmN X.d v+c)) (homN X Y):=a3_ fun i hi=>by
  have hi':i<(c7_ ps (hmN X Y)).length:=by omega
  have a1:=v_at hv (hfl i hi);have a2:(dgtN X.p.toNat (homN X Y) code i:Int)=at0 x ((c7_ ps (hmN X Y)).getD i 0).toNat:=by rw[hd i hi];omega
  have a3:((hbB X Y).getD i []).getD (hOff X.d Y.d v+r*dmN X.d v+c) 0=kvG X.p g ps ((c7_ ps (hmN X Y)).getD i 0).toNat ps.length (hOff X.d Y.d v+r*dmN X.d v+c):=by
   have e5:(kerM X.p (hmN X Y) g ps (c7_ ps (hmN X Y))).getD i []=rowF (hmN X Y) (kvG X.p g ps ((c7_ ps (hmN X Y)).getD i 0).toNat ps.length):=by
    rw[kerM,l1_,List.getElem?_map,l1_,l2_ hi'];rfl
   rw[hB,e5];exact i9_ _ ht
  rw[a2,a3]
 rw[e1]at h1;have h2:=hcb _ ht;have h3:=he v r c hvl hr hcc;show X.p∣nbM X Y code (hOff X.d Y.d v+r*dmN X.d v+c)-F v r c;have h3':X.p∣at0 x (hOff X.d Y.d v+r*dmN X.d v+c)-F v r c:=h3;have k2:=Int.dvd_add (Int.dvd_sub h1 h2) h3';refine (i2_ ?_).1 k2;unfold nbM;exact⟨0,by omega⟩
theorem d4q {X Y:Rp} {F G:Nat→Nat→Nat→Int} (h:IsoF X Y F G):∃ code,code<X.p.toNat ^ homN X Y∧∀ v,v<X.d.length→rkF X.p (dmN Y.d v) (dmN X.d v) (fun r c=>nbM X Y code (hOff X.d Y.d v+r*dmN X.d v+c))=dmN X.d v:=by
 have hp2:=h.fit.p2;obtain⟨code,hc,he⟩:=i0Z h.fit h.fwd;exact⟨code,hc,fun v hv=>d4x h hv (fun r c _ _=>a3Z hp2.1 _ _ _ _) fun r c hr hcc=>he v r c hv hr hcc⟩
theorem g4_ (f:Nat→Int) (σ:Nat→Nat→Int) (u:Nat→Int) (c r:Nat):sgF (fun t=>f t*sgF (fun j=>σ t j*u j) r) c=sgF (fun j=>sgF (fun t=>f t*σ t j) c*u j) r:=by
 rw[a3_ (b:=fun t=>sgF (fun j=>f t*σ t j*u j) r) fun t _=>?_,p0_]
 ·exact a3_ fun j _=>q7_ _ _ _
 ·rw[←k5_];exact a3_ fun j _=>by rw[Int.mul_assoc]
theorem t6_ {h:Nat→Int} {r n:Nat} (hr:r<n):sgF (fun s=>idF r s*h s) n=h r:=by
 rw[a3_ (b:=fun s=>if s=r then h s else 0) fun s _=>?_,r6_ (h:=h) hr];unfold idF;by_cases e:r=s
 ·rw[if_pos e,if_pos e.symm,Int.one_mul]
 ·rw[if_neg e,if_neg fun h=>e h.symm,Int.zero_mul]
theorem G6_ {h:Nat→Int} {r n:Nat} (hr:r<n):sgF (fun s=>h s*idF s r) n=h r:=by
 rw[a3_ (b:=fun s=>if s=r then h s else 0) fun s _=>?_,r6_ (h:=h) hr];unfold idF;by_cases e:s=r
 ·rw[if_pos e,if_pos e,Int.mul_one]
 ·rw[if_neg e,if_neg e,Int.mul_zero]
theorem k0_ {p a b:Int} (h:p∣a-b):p∣b-a:=by
 have:=Int.dvd_neg.2 h;rwa[show -(a-b)=b-a by omega]at this
theorem b9_ {p a b c:Int} (h:p∣a-b) (k:p∣b-c):p∣a-c:=by
 have:=Int.dvd_add h k;rwa[show a-b+(b-c)=a-c by omega]at this
theorem f0_ (p a:Int):p∣a-a:=by rw[Int.sub_self];exact Int.dvd_zero _
theorem f3j {p r c:Nat} {f σ:Nat→Nat→Int} (hp:c8_ p=true) (hf:InF p r c f) (hs:∀ i j,i<r→j<r→(p:Int)∣sgF (fun t=>f i t*σ t j) c-idF i j):rkF p r c f=r:=by
 have hp2:=(f9_ hp).1;have hp2':2≤p:=by omega
 have hle:=(r5_ (p:Int) r c f).1;have hcnt:=L7_ hp hp2' hf c (l_ _);have key:∀ u z:Nat→Int,Ker p r f c z→∀ i,i<r→(p:Int)∣sgF (fun t=>f i t*(sgF (fun j=>σ t j*u j) r+z t)) c-u i:=by
  intro u z hz i hi;have e:sgF (fun t=>f i t*(sgF (fun j=>σ t j*u j) r+z t)) c=sgF (fun j=>sgF (fun t=>f i t*σ t j) c*u j) r+sgF (fun t=>f i t*z t) c:=by
   rw[←g4_,←w4_];exact a3_ fun t _=>by rw[Int.mul_add]
  rw[e];have h1:(p:Int)∣sgF (fun j=>sgF (fun t=>f i t*σ t j) c*u j) r-sgF (fun j=>idF i j*u j) r:=i4_ fun j hj=>f8_ _ (hs i j hi hj)
  rw[t6_ hi]at h1;have:=Int.dvd_add h1 (hz i hi);rwa[show sgF (fun j=>sgF (fun t=>f i t*σ t j) c*u j) r-u i+sgF (fun t=>f i t*z t) c=sgF (fun j=>sgF (fun t=>f i t*σ t j) c*u j) r+sgF (fun t=>f i t*z t) c-u i by omega]at this
 have hin:(prs (vecs p r) (kerL p r f c)).length≤(vecs p c).length:=by
  refine L4_ (φ:=fun y=>can p c fun t=>sgF (fun j=>σ t j*at0 y.1 j) r+at0 y.2 t) (w1_ (j3_ _ _ _ _) (F5_ p r)) ?_ fun y _=>y0_.2 (b3X (by omega) _ _)
  rintro⟨u,z⟩ hx ⟨u',z'⟩ hy e;try simp only at e
  obtain⟨a1,a2⟩:=n6_.1 hx;obtain⟨b1,b2⟩:=n6_.1 hy;have vu:=y0_.1 a1;have vu':=y0_.1 b1;obtain⟨vz,kz⟩:=c4_.1 a2;obtain⟨vz',kz'⟩:=c4_.1 b2;have hd:∀ t,t<c→(p:Int)∣(sgF (fun j=>σ t j*at0 u j) r+at0 z t)-(sgF (fun j=>σ t j*at0 u' j) r+at0 z' t):=fun t ht=>by
   have h1:=p1_ p (fun t=>sgF (fun j=>σ t j*at0 u j) r+at0 z t) ht;have h2:=p1_ p (fun t=>sgF (fun j=>σ t j*at0 u' j) r+at0 z' t) ht;rw[e]at h1;exact b9_ (k0_ h1) h2
  have hu:u=u':=P1_ vu vu' fun i hi=>by
   have h1:=key (at0 u) (at0 z) kz i hi;have h2:=key (at0 u') (at0 z') kz' i hi;have h3:(p:Int)∣sgF (fun t=>f i t*(sgF (fun j=>σ t j*at0 u j) r+at0 z t)) c-sgF (fun t=>f i t*(sgF (fun j=>σ t j*at0 u' j) r+at0 z' t)) c:=i4_ fun t ht=>i3_ _ (hd t ht)
   exact b9_ (k0_ h1) (b9_ h3 h2)
  subst hu;have hz:z=z':=P1_ vz vz' fun t ht=>by
   have:=hd t ht;rwa[show sgF (fun j=>σ t j*at0 u j) r+at0 z t-(sgF (fun j=>σ t j*at0 u j) r+at0 z' t)=at0 z t-at0 z' t by omega]at this
  rw[hz]
 rw[E8_,V3_,V3_,←hcnt,Nat.mul_comm (p ^ r)]at hin;have hpos:0<(kerL p r f c).length:=by
  rcases Nat.eq_zero_or_pos (kerL p r f c).length with h0 | h0
  ·rw[h0,Nat.zero_mul]at hcnt;have:=Nat.pow_pos (n:=c) (show 0<p by omega);omega
  ·exact h0
 have h1:p ^ r≤p ^ (rdTo (p:Int) r f c).2.length:=Nat.le_of_mul_le_mul_left hin hpos;have h2:r≤(rdTo (p:Int) r f c).2.length:=(Nat.pow_le_pow_iff_right (by omega)).1 h1;have:rkF p r c f=(rdTo (p:Int) r f c).2.length:=rfl;omega
def frN (p:Int) (r:Nat) (f:Nat→Nat→Int) (c a:Nat):Nat:=((c7_ (rdTo p r f c).2 c).getD a 0).toNat
def kvN (p:Int) (r:Nat) (f:Nat→Nat→Int) (c a t:Nat):Int:=kvG p (rdTo p r f c).1 (rdTo p r f c).2 (frN p r f c a) (rdTo p r f c).2.length t
def frL (p:Int) (r:Nat) (f:Nat→Nat→Int) (c:Nat):Nat:=(c7_ (rdTo p r f c).2 c).length
theorem a2z (l:List Int) (k:Nat):(c7_ l k).Nodup:=by
 unfold c7_;refine List.Pairwise.filter _ ?_;exact w0_ List.nodup_range fun x _ y _ e=>by have e':(x:Int)=(y:Int):=e;omega
theorem d3x {p:Int} {r c a:Nat} {f:Nat→Nat→Int} (ha:a<frL p r f c):(c7_ (rdTo p r f c).2 c)[a]?=some (frN p r f c a:Int)∧frN p r f c a<c∧(frN p r f c a:Int) ∉ (rdTo p r f c).2:=by
 have e:=l2_ ha;obtain⟨n,h1,h2,h3⟩:=S4_ e;have:frN p r f c a=n:=by rw[frN,l1_,e,Option.getD_some,h1,l5_]
 rw[this,e,h1];refine⟨rfl,h2,?_⟩;first | exact h3 | (rw[h1]at h3;exact h3)
theorem g7x {p:Int} {r c a b:Nat} {f:Nat→Nat→Int} (ha:a<frL p r f c) (hb:b<frL p r f c) (e:frN p r f c a=frN p r f c b):a=b:=by
 have h1:=(d3x ha).1;have h2:=(d3x hb).1;rw[e]at h1;have n:=a2z (rdTo p r f c).2 c;have ha':a<(c7_ (rdTo p r f c).2 c).length:=ha;have hb':b<(c7_ (rdTo p r f c).2 c).length:=hb;rw[l2_ ha']at h1;rw[l2_ hb']at h2;injection h1 with h1
 injection h2 with h2
 have h12:=h1.trans h2.symm;rcases Nat.lt_trichotomy a b with h | h | h
 ·exact absurd h12 (List.pairwise_iff_getElem.1 n a b ha' hb' h)
 ·exact h
 ·exact absurd h12.symm (List.pairwise_iff_getElem.1 n b a hb' ha' h)
theorem c3Z {p:Int} {r c a b:Nat} {f:Nat→Nat→Int} (ha:a<frL p r f c) (hb:b<frL p r f c):kvN p r f c b (frN p r f c a)=idF a b:=by
 obtain⟨_,_,h3⟩:=d3x ha;rw[kvN,T6_ _ fun i hi e=>h3 (by rw[←e,l1_,l2_ hi];exact List.getElem_mem hi),idF];by_cases e:a=b
 ·subst e;rw[if_pos rfl,if_pos rfl]
 ·rw[if_neg fun h=>e (g7x ha hb h),if_neg e]
theorem g9Q {p:Int} {r c b:Nat} {f:Nat→Nat→Int} (hp:c8_ p=true) (hf:InF p r c f) (hb:b<frL p r f c):Ker p r f c (kvN p r f c b):=by
 have hp2:=(f9_ hp).1;have hP:=c5X hp hp2 hf;have hR:=c6J hp hp2 hf c (l_ _);refine (Q2_ hp hp2 hf c (l_ _) c _).1 fun i hi=>?_
 rcases Nat.lt_or_ge i (rdTo p r f c).2.length with hlt | hge
 ·obtain⟨t,et,ht,_⟩:=hP.at_ i hlt;rw[c6j hP hlt et ht];have e1:kvN p r f c b t=(- (rdTo p r f c).1 i (frN p r f c b)) % p:=a2Z et _ hlt fun i' hi' hne e=>hne (hP.inj hi' hlt (e.trans et.symm))
  have e2:sgF (fun i_1=>(rdTo p r f c).1 i ((c7_ (rdTo p r f c).2 c).getD i_1 0).toNat*kvN p r f c b ((c7_ (rdTo p r f c).2 c).getD i_1 0).toNat) (c7_ (rdTo p r f c).2 c).length=(rdTo p r f c).1 i (frN p r f c b):=by
   rw[a3_ (b:=fun a=>(rdTo p r f c).1 i (frN p r f c a)*idF a b) fun a ha=>?_]
   ·exact G6_ (h:=fun a=>(rdTo p r f c).1 i (frN p r f c a)) hb
   ·show _*kvN p r f c b (frN p r f c a)=_;rw[c3Z ha hb];rfl
  rw[e1,e2];have:=n4_ p (- (rdTo p r f c).1 i (frN p r f c b));rwa[Int.sub_neg]at this
 ·exact n3_ fun t ht=>by rw[hR.low i t hge hi ht,Int.zero_mul];exact Int.dvd_zero _
theorem g0x {p:Int} {r c:Nat} {f:Nat→Nat→Int} (hp:c8_ p=true) (hf:InF p r c f) {x:Nat→Int} (hx:Ker p r f c x) {t:Nat} (ht:t<c):p∣x t-sgF (fun b=>kvN p r f c b t*x (frN p r f c b)) (frL p r f c):=by
 have hp2:=(f9_ hp).1;have h:=a9z (c5X hp hp2 hf) ((Q2_ hp hp2 hf c (l_ _) c x).2 hx) ht;have e:sgF (fun i=>x ((c7_ (rdTo p r f c).2 c).getD i 0).toNat*kvG p (rdTo p r f c).1 (rdTo p r f c).2 ((c7_ (rdTo p r f c).2 c).getD i 0).toNat (rdTo p r f c).2.length t) (c7_ (rdTo p r f c).2 c).length=sgF (fun b=>kvN p r f c b t*x (frN p r f c b)) (frL p r f c):=a3_ fun b _=>Int.mul_comm _ _
 rwa[e]at h
theorem i4J (p:Int) (r c:Nat) (f:Nat→Nat→Int):frL p r f c+rkF p r c f=c:=S6_ p r f c
theorem i2Q {p:Nat} (hp:c8_ p=true) {d:Nat} {φ x:Nat→Int} (h:(p:Int)∣sgF (fun c=>φ c*x c) d-1) :
  0<d∧∃ K P:Nat→Nat→Int,(∀ s t,s<d-1→t<d-1→(p:Int)∣sgF (fun c=>P s c*K c t) d-idF s t)∧(∀ t,t<d-1→(p:Int)∣sgF (fun c=>φ c*K c t) d) ∧
   (∀ s,s<d-1→(p:Int)∣sgF (fun c=>P s c*x c) d)∧∀ r c,r<d→c<d→(p:Int)∣sgF (fun t=>K r t*P t c) (d-1)+x r*φ c-idF r c:=by
 have hp2:=(f9_ hp).1;have hd:0<d:=by
  rcases Nat.eq_zero_or_pos d with h0 | h0
  ·subst h0;simp only[sgF]at h;have:=Int.le_of_dvd (by omega) (show (p:Int)∣1 by have:=Int.dvd_neg.2 h;simpa using this);omega
  ·exact h0
 refine⟨hd,?_⟩;obtain⟨f,hf⟩:∃ f:Nat→Nat→Int,f=fun _ c=>φ c % p:=⟨_,rfl⟩
 have hfr:InF p 1 d f:=fun a b _ _=>by rw[hf];exact i6_ hp2
 have hfc:∀ i (y:Nat→Int),(p:Int)∣sgF (fun t=>f i t*y t) d-sgF (fun t=>φ t*y t) d:=fun i y=>i4_ fun t _=>f8_ _ (by rw[hf];exact n4_ _ _)
 have hrk:rkF p 1 d f=1:=f3j (σ:=fun t _=>x t) hp hfr fun i j hi hj=>by
  obtain rfl:i=0:=by omega
  obtain rfl:j=0:=by omega
  refine b9_ (hfc 0 x) ?_;rw[idF,if_pos rfl];exact h
 have hfl:frL p 1 f d=d-1:=by have:=i4J p 1 d f;omega
 have hK:∀ t,t<d-1→(p:Int)∣sgF (fun c=>φ c*kvN p 1 f d t c) d:=fun t ht=>(i2_ (hfc 0 _)).1 (g9Q hp hfr (by rw[hfl];exact ht) 0 (by omega))
 have hfree:∀ a b,a<d-1→b<d-1→kvN p 1 f d b (frN p 1 f d a)=idF a b:=fun a b ha hb=>c3Z (by rw[hfl];exact ha) (by rw[hfl];exact hb)
 have hlt:∀ a,a<d-1→frN p 1 f d a<d:=fun a ha=>(d3x (by rw[hfl];exact ha)).2.1
 refine⟨fun c t=>kvN p 1 f d t c,fun s c=>idF (frN p 1 f d s) c-x (frN p 1 f d s)*φ c,fun s t hs ht=>?_,hK,fun s hs=>?_,fun r c hr hc=>?_⟩
 ·have e:sgF (fun c=>(idF (frN p 1 f d s) c-x (frN p 1 f d s)*φ c)*kvN p 1 f d t c) d=sgF (fun c=>idF (frN p 1 f d s) c*kvN p 1 f d t c) d-x (frN p 1 f d s)*sgF (fun c=>φ c*kvN p 1 f d t c) d:=by
   rw[←k5_,←t7_];exact a3_ fun c _=>by rw[Int.sub_mul,Int.mul_assoc]
  rw[e,t6_ (h:=fun c=>kvN p 1 f d t c) (hlt s hs),hfree s t hs ht];have:=Int.dvd_mul_of_dvd_right (b:=x (frN p 1 f d s)) (hK t ht);have:=Int.dvd_neg.2 this;rwa[show idF s t-x (frN p 1 f d s)*sgF (fun c=>φ c*kvN p 1 f d t c) d-idF s t = -(x (frN p 1 f d s)*sgF (fun c=>φ c*kvN p 1 f d t c) d) by omega]
 ·have e:sgF (fun c=>(idF (frN p 1 f d s) c-x (frN p 1 f d s)*φ c)*x c) d=sgF (fun c=>idF (frN p 1 f d s) c*x c) d-x (frN p 1 f d s)*sgF (fun c=>φ c*x c) d:=by
   rw[←k5_,←t7_];exact a3_ fun c _=>by rw[Int.sub_mul,Int.mul_assoc]
  rw[e,t6_ (h:=x) (hlt s hs)];have:=Int.dvd_neg.2 (Int.dvd_mul_of_dvd_right (b:=x (frN p 1 f d s)) h);rwa[show x (frN p 1 f d s)-x (frN p 1 f d s)*sgF (fun c=>φ c*x c) d = -(x (frN p 1 f d s)*(sgF (fun c=>φ c*x c) d-1)) by rw[Int.mul_sub];omega]
 · -- the columns of 1-x φ lie in the kernel
  obtain⟨y,hy⟩:∃ y:Nat→Int,y=fun t=>idF t c-x t*φ c:=⟨_,rfl⟩
  have hker:Ker p 1 f d y:=fun i hi=>by
   refine (i2_ (hfc i y)).2 ?_;have e:sgF (fun t=>φ t*y t) d=sgF (fun t=>φ t*idF t c) d-sgF (fun t=>φ t*x t) d*φ c:=by
    rw[←q7_,←t7_];exact a3_ fun t _=>by rw[hy,Int.mul_sub,Int.mul_assoc]
   rw[e,G6_ (h:=φ) hc];have:=Int.dvd_neg.2 (Int.dvd_mul_of_dvd_left (c:=φ c) h);rwa[show φ c-sgF (fun t=>φ t*x t) d*φ c = -((sgF (fun t=>φ t*x t) d-1)*φ c) by rw[Int.sub_mul];omega]
  have h1:=g0x hp hfr hker hr;rw[hfl]at h1;have e:sgF (fun t=>kvN p 1 f d t r*(idF (frN p 1 f d t) c-x (frN p 1 f d t)*φ c)) (d-1)=sgF (fun b=>kvN p 1 f d b r*y (frN p 1 f d b)) (d-1):=a3_ fun t _=>by rw[hy]
  have e2:y r=idF r c-x r*φ c:=by rw[hy]
  rw[e];have:=k0_ h1;rwa[e2,show sgF (fun b=>kvN p 1 f d b r*y (frN p 1 f d b)) (d-1)-(idF r c-x r*φ c)=sgF (fun b=>kvN p 1 f d b r*y (frN p 1 f d b)) (d-1)+x r*φ c-idF r c by omega]at this
def cMp (A:Nat→Nat→Nat→Int) (d:Nat→Nat) (v:Nat) (x:Nat→Int) (r:Nat):Int:=sgF (fun c=>A v r c*x c) (d v)
structure Ivl where
 a:Nat
 b:Nat
 e:Nat→Nat→Int
 f:Nat→Nat→Int
def Ivl.on (t:Ivl) (v:Nat):Bool:=decide (t.a≤v∧v≤t.b)
theorem Ivl.on_t {t:Ivl} {v:Nat}:t.on v=true↔t.a≤v∧v≤t.b:=by simp[Ivl.on]
structure Adp (p:Nat) (m:Nat) (d:Nat→Nat) (A:Nat→Nat→Nat→Int) (T:List Ivl):Prop where
 bd:∀ t∈T,t.a≤t.b∧t.b≤m
 st:∀ t∈T,∀ v r,t.a≤v→v<t.b→r<d (v+1)→(p:Int)∣cMp A d v (t.e v) r-t.e (v+1) r
 en:∀ t∈T,∀ r,t.b<m→r<d (t.b+1)→(p:Int)∣cMp A d t.b (t.e t.b) r
 un:∀ t∈T,∀ v,t.a≤v→v≤t.b→(p:Int)∣sgF (fun c=>t.f v c*t.e v c) (d v)-1
 pw:T.Pairwise fun s t=>∀ v,s.on v=true→t.on v=true→(p:Int)∣sgF (fun c=>s.f v c*t.e v c) (d v)∧(p:Int)∣sgF (fun c=>t.f v c*s.e v c) (d v)
 sp:∀ v r c,v≤m→r<d v→c<d v→(p:Int)∣(T.map fun t=>if t.on v=true then t.e v r*t.f v c else 0).sum-idF r c
theorem f7Q {p:Nat} (hp:c8_ p=true) {y:Int} (hy:¬ (p:Int)∣y):∃ i:Int,(p:Int)∣i*y-1:=by
 obtain⟨s,hs⟩:=e_ (y % p);have h1:(p:Int)∣y-s:=by rw[←hs];exact k0_ (n4_ _ _)
 have key:∀ i:Int,(p:Int)∣i*s-1→(p:Int)∣i*y-1:=fun i hi=>by
  have:=Int.dvd_add (Int.dvd_mul_of_dvd_right (b:=i) h1) hi;rwa[Int.mul_sub,show i*y-i*s+(i*s-1)=i*y-1 by omega]at this
 have hp':=E3_.1 hp;have h0:s≠0:=fun e=>hy (Int.dvd_of_emod_eq_zero (by rw[hs,e]))
 have hr:0≤s∧s<p:=by
  have hp2:=(f9_ hp).1;rw[←hs];exact⟨Int.emod_nonneg _ (by omega),Int.emod_lt_of_pos _ (by omega)⟩
 rcases hp' with e | e | e
 ·obtain rfl:p=2:=by omega
  obtain rfl:s=1:=by omega
  exact⟨1,key 1 (by decide)⟩
 ·obtain rfl:p=3:=by omega
  have:s=1∨s=2:=by omega
  rcases this with rfl | rfl
  ·exact⟨1,key 1 (by decide)⟩
  ·exact⟨2,key 2 (by decide)⟩
 ·obtain rfl:p=5:=by omega
  have:s=1∨s=2∨s=3∨s=4:=by omega
  rcases this with rfl | rfl | rfl | rfl
  ·exact⟨1,key 1 (by decide)⟩
  ·exact⟨3,key 3 (by decide)⟩
  ·exact⟨2,key 2 (by decide)⟩
  ·exact⟨4,key 4 (by decide)⟩
def xoV (A:Nat→Nat→Nat→Int) (d:Nat→Nat) (a:Nat):Nat→Nat→Int
 | 0=>fun r=>idF r 0
 | n+1=>cMp A d (a+n) (xoV A d a n)
def foV (A:Nat→Nat→Nat→Int) (d:Nat→Nat) (b:Nat) (f0:Nat→Int):Nat→Nat→Int
 | 0=>f0
 | t+1=>fun c=>sgF (fun r=>foV A d b f0 t r*A (b-(t+1)) r c) (d (b-t))
theorem i3j {p a:Nat} {d:Nat→Nat} {A:Nat→Nat→Nat→Int} (hp:2≤p) (ha:0<d a):∀ t,(∃ n,n<t∧(∃ r,r<d (a+n)∧¬ (p:Int)∣xoV A d a n r)∧∀ r,r<d (a+n+1)→(p:Int)∣xoV A d a (n+1) r)∨∃ r,r<d (a+t)∧¬ (p:Int)∣xoV A d a t r
 | 0 => .inr ⟨0,ha,fun h=>by
  have h1:xoV A d a 0 0=1:=by simp[xoV,idF]
  rw[h1]at h;have:=Int.le_of_dvd (by omega) h;omega⟩
 | t+1=>by
  rcases i3j (A:=A) hp ha t with ⟨n,hn,h1,h2⟩ | h1
  ·exact .inl ⟨n,by omega,h1,h2⟩
  ·by_cases hz:∀ r,r<d (a+t+1)→(p:Int)∣xoV A d a (t+1) r
   ·exact .inl ⟨t,by omega,h1,hz⟩
   ·refine .inr ?_;refine Classical.byContradiction fun hne=>hz fun r hr=>Classical.byContradiction fun hd=>hne ⟨r,hr,hd⟩
theorem b9Q {p m:Nat} (hp:c8_ p=true) {d:Nat→Nat} {A:Nat→Nat→Nat→Int} {a:Nat} (ha:a≤m) (hda:0<d a) :
  ∃ (b:Nat) (x f:Nat→Nat→Int),a≤b∧b≤m∧(∀ v r,a≤v→v<b→cMp A d v (x v) r=x (v+1) r)∧(b<m→∀ r,r<d (b+1)→(p:Int)∣cMp A d b (x b) r) ∧
   (∀ v c,a≤v→v<b→sgF (fun r=>f (v+1) r*A v r c) (d (v+1))=f v c)∧∀ v,a≤v→v≤b→(p:Int)∣sgF (fun c=>f v c*x v c) (d v)-1:=by
 have hp2:=(f9_ hp).1;obtain⟨n,hn,⟨j,hj,hxj⟩,hend⟩:∃ n,a+n≤m∧(∃ r,r<d (a+n)∧¬ (p:Int)∣xoV A d a n r)∧(a+n<m→∀ r,r<d (a+n+1)→(p:Int)∣xoV A d a (n+1) r):=by
  rcases i3j (p:=p) (d:=d) (A:=A) (a:=a) (by omega) hda (m-a) with ⟨n,h1,h2,h3⟩ | h1
  ·exact⟨n,by omega,h2,fun _=>h3⟩
  ·exact⟨m-a,by omega,h1,fun h=>by omega⟩
 obtain⟨i,hi⟩:=f7Q hp hxj;obtain⟨f0,hf0⟩:∃ f0:Nat→Int,f0=fun c=>i*idF j c:=⟨_,rfl⟩
 have hx:∀ v r,a≤v→cMp A d v (xoV A d a (v-a)) r=xoV A d a (v+1-a) r:=fun v r hv=>by
  rw[show v+1-a=(v-a)+1 by omega,xoV,show a+(v-a)=v by omega]
 have hf:∀ v c,v<a+n→sgF (fun r=>foV A d (a+n) f0 (a+n-(v+1)) r*A v r c) (d (v+1))=foV A d (a+n) f0 (a+n-v) c:=fun v c hv=>by
  rw[show a+n-v=(a+n-(v+1))+1 by omega,foV,show a+n-(a+n-(v+1)+1)=v by omega,show a+n-(a+n-(v+1))=v+1 by omega]
 refine⟨a+n,fun v=>xoV A d a (v-a),fun v=>foV A d (a+n) f0 (a+n-v),by omega,hn,fun v r h1 _=>hx v r h1,fun h r hr=>?_,fun v c _ h2=>hf v c h2,?_⟩
 ·show (p:Int)∣cMp A d (a+n) (xoV A d a (a+n-a)) r;rw[hx _ _ (by omega),show a+n+1-a=n+1 by omega];exact hend h r hr
 · -- from the end to the beginning
  have key:∀ t,t≤n→(p:Int)∣sgF (fun c=>foV A d (a+n) f0 t c*xoV A d a (n-t) c) (d (a+n-t))-1:=by
   intro t;induction t with
   | zero =>
    intro _;have e:sgF (fun c=>foV A d (a+n) f0 0 c*xoV A d a (n-0) c) (d (a+n-0))=i*xoV A d a n j:=by
     simp only[foV,Nat.sub_zero];rw[←t6_ (h:=fun c=>i*xoV A d a n c) hj];exact a3_ fun c _=>by rw[hf0];rw[Int.mul_assoc,Int.mul_comm,Int.mul_assoc,Int.mul_comm (xoV A d a n c)]
    rw[e];exact hi
   | succ t ih =>
    intro ht;have h1:=ih (by omega);have e:sgF (fun c=>foV A d (a+n) f0 (t+1) c*xoV A d a (n-(t+1)) c) (d (a+n-(t+1)))=sgF (fun c=>foV A d (a+n) f0 t c*xoV A d a (n-t) c) (d (a+n-t)):=by
     have e2:∀ r,xoV A d a (n-t) r=cMp A d (a+n-(t+1)) (xoV A d a (n-(t+1))) r:=fun r=>by
      have:=hx (a+n-(t+1)) r (by omega);rw[show a+n-(t+1)-a=n-(t+1) by omega,show a+n-(t+1)+1-a=n-t by omega]at this;exact this.symm
     rw[a3_ (b:=fun r=>foV A d (a+n) f0 t r*sgF (fun c=>A (a+n-(t+1)) r c*xoV A d a (n-(t+1)) c) (d (a+n-(t+1)))) (n:=d (a+n-t)) fun r _=>by rw[e2 r];rfl,g4_];rfl
    rw[e];exact h1
  intro v h1 h2;have:=key (a+n-v) (by omega);rw[show n-(a+n-v)=v-a by omega,show a+n-(a+n-v)=v by omega]at this;exact this
theorem i4X (T:List Ivl) (on:Ivl→Bool) (k q:Nat→Int) (E F:Ivl→Nat→Int) (n:Nat) :
  (T.map fun t=>if on t=true then sgF (fun i=>k i*E t i) n*sgF (fun j=>F t j*q j) n else 0).sum=sgF (fun i=>k i*sgF (fun j=>(T.map fun t=>if on t=true then E t i*F t j else 0).sum*q j) n) n:=by
 induction T with
 | nil =>
  simp only[List.map_nil,List.sum_nil,Int.zero_mul];rw[sg_0,a3_ (b:=fun _=>0) fun _ _=>Int.mul_zero _,sg_0]
 | cons t T ih =>
  simp only[List.map_cons,List.sum_cons];rw[ih];by_cases h:on t=true
  ·simp only[if_pos h];rw[←q7_,←w4_];refine a3_ fun i _=>?_
   rw[Int.mul_assoc,←Int.mul_add,←k5_,←w4_];exact congrArg _ (a3_ fun j _=>by rw[Int.add_mul,Int.mul_assoc])
  ·simp only[if_neg h,Int.zero_add]
theorem a0x {d:Nat→Nat}:∀ {m v:Nat},v≤m→d v≤((List.range (m+1)).map d).sum
 | 0,v,h=>by
  obtain rfl:v=0:=by omega
  simp
 | m+1,v,h=>by
  rw[List.range_succ,List.map_append,List.sum_append];by_cases e:v=m+1
  ·subst e;simp
  ·have:=a0x (d:=d) (m:=m) (v:=v) (by omega);omega
theorem a0Q {d d':Nat→Nat} (n:Nat) (h:∀ v,d' v≤d v):((List.range n).map d').sum≤((List.range n).map d).sum:=by
 induction n with
 | zero=>simp
 | succ n ih =>
  rw[List.range_succ,List.map_append,List.sum_append,List.map_append,List.sum_append];have:=h n;simp only[List.map_cons,List.map_nil,List.sum_cons,List.sum_nil];omega
theorem a0Z {d d':Nat→Nat} (n:Nat) (h:∀ v,d' v≤d v) {a:Nat} (ha:a<n) (hl:d' a<d a):((List.range n).map d').sum<((List.range n).map d).sum:=by
 induction n with
 | zero=>omega
 | succ n ih =>
  rw[List.range_succ,List.map_append,List.sum_append,List.map_append,List.sum_append];simp only[List.map_cons,List.map_nil,List.sum_cons,List.sum_nil];by_cases e:a=n
  ·subst e;have:=a0Q a h;omega
  ·have:=ih (by omega);have:=h n;omega
theorem i0q {P:Nat→Prop}:∀ n,P n→∃ a,a≤n∧P a∧∀ k,k<a→¬ P k:=by
 intro n;induction n using Nat.strongRecOn with
 | ind n ih =>
  intro h;by_cases hk:∃ k,k<n∧P k
  ·obtain⟨k,h1,h2⟩:=hk;obtain⟨a,h3,h4⟩:=ih k h1 h2;exact⟨a,by omega,h4⟩
  ·exact⟨n,l_ _,h,fun k h1 h2=>hk ⟨k,h1,h2⟩⟩
structure Off (p:Nat) (d d':Nat) (φ x:Nat→Int) (on:Prop) (K P:Nat→Nat→Int):Prop where
 pk:∀ s t,s<d'→t<d'→(p:Int)∣sgF (fun c=>P s c*K c t) d-idF s t
 fk:on→∀ t,t<d'→(p:Int)∣sgF (fun c=>φ c*K c t) d
 px:on→∀ s,s<d'→(p:Int)∣sgF (fun c=>P s c*x c) d
 kp:∀ r c,r<d→c<d→(on∧(p:Int)∣sgF (fun t=>K r t*P t c) d'+x r*φ c-idF r c)∨(¬ on∧(p:Int)∣sgF (fun t=>K r t*P t c) d'-idF r c)
theorem i1j {p:Nat} (hp:c8_ p=true) {d:Nat} {φ x:Nat→Int} {on:Prop} [Decidable on] (h:on→(p:Int)∣sgF (fun c=>φ c*x c) d-1):(on→0<d)∧∃ K P,Off p d (if on then d-1 else d) φ x on K P:=by
 by_cases ho:on
 ·obtain⟨h0,K,P,h1,h2,h3,h4⟩:=i2Q hp (h ho);refine⟨fun _=>h0,K,P,?_⟩;rw[if_pos ho];exact⟨h1,fun _=>h2,fun _=>h3,fun r c hr hc => .inl ⟨ho,h4 r c hr hc⟩⟩
 ·refine⟨fun k=>absurd k ho,idF,idF,?_⟩;rw[if_neg ho];exact⟨fun s t hs ht=>by rw[t6_ (h:=fun c=>idF c t) hs];exact f0_ _ _,fun k=>absurd k ho,fun k=>absurd k ho,fun r c hr hc => .inr ⟨ho,by rw[t6_ (h:=fun t=>idF t c) hr];exact f0_ _ _⟩⟩
def upV (K:Nat→Nat→Nat→Int) (d':Nat→Nat) (x:Nat→Nat→Int) (v r:Nat):Int:=sgF (fun t=>K v r t*x v t) (d' v)
def upF (P:Nat→Nat→Nat→Int) (d':Nat→Nat) (f:Nat→Nat→Int) (v c:Nat):Int:=sgF (fun t=>f v t*P v t c) (d' v)
def lift (K P:Nat→Nat→Nat→Int) (d':Nat→Nat) (t:Ivl):Ivl:=⟨t.a,t.b,upV K d' t.e,upF P d' t.f⟩
theorem c9X {p:Nat} {K P:Nat→Nat→Nat→Int} {d d':Nat→Nat} {v:Nat} (h:∀ s t,s<d' v→t<d' v→(p:Int)∣sgF (fun c=>P v s c*K v c t) (d v)-idF s t) (f e:Nat→Nat→Int) :
  (p:Int)∣sgF (fun c=>upF P d' f v c*upV K d' e v c) (d v)-sgF (fun t=>f v t*e v t) (d' v):=by
 have e1:sgF (fun c=>upF P d' f v c*upV K d' e v c) (d v)=sgF (fun s=>f v s*sgF (fun t=>sgF (fun c=>P v s c*K v c t) (d v)*e v t) (d' v)) (d' v):=by
  rw[a3_ (b:=fun c=>sgF (fun t=>upF P d' f v c*K v c t*e v t) (d' v)) fun c _=>by rw[upV,←k5_];exact a3_ fun t _=>by rw[Int.mul_assoc]];rw[p0_];rw[a3_ (b:=fun t=>sgF (fun s=>f v s*sgF (fun c=>P v s c*K v c t) (d v)) (d' v)*e v t) fun t _=>by
   rw[q7_];congr 1
   exact (g4_ (fun s=>f v s) (fun s c=>P v s c) (fun c=>K v c t) (d' v) (d v)).symm]
  exact (g4_ (fun s=>f v s) (fun s t=>sgF (fun c=>P v s c*K v c t) (d v)) (fun t=>e v t) (d' v) (d' v)).symm
 rw[e1];refine i4_ fun s hs=>i3_ _ ?_
 have:sgF (fun t=>idF s t*e v t) (d' v)=e v s:=t6_ (h:=fun t=>e v t) hs;rw[←this];exact i4_ fun t ht=>f8_ _ (h s t hs ht)
theorem d0Q {p m:Nat} {d d':Nat→Nat} {A A':Nat→Nat→Nat→Int} {T:List Ivl} {a b:Nat} {x f:Nat→Nat→Int} {K P:Nat→Nat→Nat→Int} (hab:a≤b) (hbm:b≤m)
  (hx:∀ v r,a≤v→v<b→cMp A d v (x v) r=x (v+1) r) (hxe:b<m→∀ r,r<d (b+1)→(p:Int)∣cMp A d b (x b) r) (hfx:∀ v,a≤v→v≤b→(p:Int)∣sgF (fun c=>f v c*x v c) (d v)-1)
  (hO:∀ v,v≤m→Off p (d v) (d' v) (f v) (x v) (a≤v∧v≤b) (K v) (P v))
  (hAK:∀ v r t,v<m→r<d (v+1)→t<d' v→(p:Int)∣sgF (fun c=>A v r c*K v c t) (d v)-sgF (fun s=>K (v+1) r s*A' v s t) (d' (v+1)))
  (h:Adp p m d' A' T):Adp p m d A (⟨a,b,x,f⟩ :: T.map (lift K P d')):=by
 have hup:∀ v (e:Nat→Nat→Int) r,v<m→r<d (v+1)→(p:Int)∣cMp A d v (upV K d' e v) r-sgF (fun s=>K (v+1) r s*cMp A' d' v (e v) s) (d' (v+1)):=fun v e r hv hr=>by
  have e1:cMp A d v (upV K d' e v) r=sgF (fun t=>sgF (fun c=>A v r c*K v c t) (d v)*e v t) (d' v):=g4_ (fun c=>A v r c) (fun c t=>K v c t) (fun t=>e v t) (d v) (d' v);have e2:sgF (fun s=>K (v+1) r s*cMp A' d' v (e v) s) (d' (v+1))=sgF (fun t=>sgF (fun s=>K (v+1) r s*A' v s t) (d' (v+1))*e v t) (d' v):=g4_ (fun s=>K (v+1) r s) (fun s t=>A' v s t) (fun t=>e v t) (d' (v+1)) (d' v);rw[e1,e2];exact i4_ fun t ht=>f8_ _ (hAK v r t hv hr ht)
 refine⟨?_,?_,?_,?_,?_,?_⟩
 ·intro t ht;rcases List.mem_cons.1 ht with rfl | ht
  ·exact⟨hab,hbm⟩
  ·obtain⟨s,hs,rfl⟩:=List.mem_map.1 ht;exact h.bd s hs
 ·intro t ht v r h1 h2 hr;rcases List.mem_cons.1 ht with rfl | ht
  ·rw[hx v r h1 h2];exact f0_ _ _
  ·obtain⟨s,hs,rfl⟩:=List.mem_map.1 ht;have hm:=h.bd s hs;have h2':v<s.b:=h2;refine b9_ (hup v s.e r (by omega) hr) ?_;show (p:Int)∣_-upV K d' s.e (v+1) r;exact i4_ fun i hi=>i3_ _ (h.st s hs v i h1 h2 hi)
 ·intro t ht r h1 hr;rcases List.mem_cons.1 ht with rfl | ht
  ·exact hxe h1 r hr
  ·obtain⟨s,hs,rfl⟩:=List.mem_map.1 ht;refine (i2_ (hup s.b s.e r h1 hr)).2 ?_;exact n3_ fun i hi=>Int.dvd_mul_of_dvd_right (h.en s hs i h1 hi)
 ·intro t ht v h1 h2;rcases List.mem_cons.1 ht with rfl | ht
  ·exact hfx v h1 h2
  ·obtain⟨s,hs,rfl⟩:=List.mem_map.1 ht;have hm:=h.bd s hs;have h2':v≤s.b:=h2;exact b9_ (c9X (hO v (by omega)).pk s.f s.e) (h.un s hs v h1 h2)
 ·refine List.pairwise_cons.2 ⟨fun t ht v h1 h2=>?_,?_⟩
  ·obtain⟨s,hs,rfl⟩:=List.mem_map.1 ht;have h1:=Ivl.on_t.1 h1;have o:=hO v (by have:v≤b:=h1.2;omega);constructor
   ·show (p:Int)∣sgF (fun c=>f v c*sgF (fun t=>K v c t*s.e v t) (d' v)) (d v);rw[g4_];exact n3_ fun t ht=>Int.dvd_mul_of_dvd_left (o.fk h1 t ht)
   ·show (p:Int)∣sgF (fun c=>sgF (fun t=>s.f v t*P v t c) (d' v)*x v c) (d v);rw[←g4_];exact n3_ fun t ht=>Int.dvd_mul_of_dvd_right (o.px h1 t ht)
  ·rw[List.pairwise_map];refine List.Pairwise.imp_of_mem ?_ h.pw;intro s t hs ht hst v h1 h2;have hv:v≤m:=by
    have:=(Ivl.on_t.1 h1).2;have:=(h.bd s hs).2;have e:(lift K P d' s).b=s.b:=rfl;omega
   obtain⟨k1,k2⟩:=hst v h1 h2;exact⟨(i2_ (c9X (hO v hv).pk s.f t.e)).2 k1,(i2_ (c9X (hO v hv).pk t.f s.e)).2 k2⟩
 ·intro v r c hv hr hc;have o:=hO v hv;rw[List.map_cons,List.sum_cons,List.map_map];have e1:(T.map ((fun t:Ivl=>if t.on v=true then t.e v r*t.f v c else 0) ∘ lift K P d')).sum=sgF (fun i=>K v r i*sgF (fun j=>(T.map fun t=>if t.on v=true then t.e v i*t.f v j else 0).sum*P v j c) (d' v)) (d' v):=i4X T (fun t=>t.on v) (fun i=>K v r i) (fun j=>P v j c) (fun t i=>t.e v i) (fun t j=>t.f v j) (d' v);have e2:(p:Int)∣(T.map ((fun t:Ivl=>if t.on v=true then t.e v r*t.f v c else 0) ∘ lift K P d')).sum-sgF (fun i=>K v r i*P v i c) (d' v):=by
   rw[e1];refine i4_ fun i hi=>i3_ _ ?_
   have:sgF (fun j=>idF i j*P v j c) (d' v)=P v i c:=t6_ (h:=fun j=>P v j c) hi;rw[←this];exact i4_ fun j hj=>f8_ _ (h.sp v i j hv hi hj)
  rcases o.kp r c hr hc with ⟨ho,hk⟩ | ⟨ho,hk⟩
  ·rw[if_pos (Ivl.on_t.2 ho)];have:=Int.dvd_add e2 hk;show (p:Int)∣x v r*f v c+(T.map ((fun t:Ivl=>if t.on v=true then t.e v r*t.f v c else 0) ∘ lift K P d')).sum-idF r c;rwa[show (T.map ((fun t:Ivl=>if t.on v=true then t.e v r*t.f v c else 0) ∘ lift K P d')).sum-sgF (fun i=>K v r i*P v i c) (d' v)+(sgF (fun t=>K v r t*P v t c) (d' v)+x v r*f v c-idF r c)=x v r*f v c+(T.map ((fun t:Ivl=>if t.on v=true then t.e v r*t.f v c else 0) ∘ lift K P d')).sum-idF r c by omega]at this
  ·rw[if_neg fun k=>ho (Ivl.on_t.1 k),Int.zero_add];exact b9_ e2 hk
theorem a1Q {p m:Nat} {d:Nat→Nat} {A:Nat→Nat→Nat→Int} (h:∀ v,v≤m→d v=0):Adp p m d A [] :=
 ⟨fun _ h=>absurd h (by simp),fun _ h=>absurd h (by simp),fun _ h=>absurd h (by simp),fun _ h=>absurd h (by simp),List.Pairwise.nil,fun v r c hv hr=>by rw[h v hv]at hr;omega⟩
theorem g5z {p m:Nat} (hp:c8_ p=true):∀ (n:Nat) (d:Nat→Nat) (A:Nat→Nat→Nat→Int),((List.range (m+1)).map d).sum≤n→∃ T,Adp p m d A T:=by
 intro n;induction n with
 | zero =>
  intro d A hn;exact⟨[],a1Q fun v hv=>by have:=a0x (d:=d) hv;omega⟩
 | succ n ih =>
  intro d A hn;by_cases hz:∃ v,v≤m∧0<d v
  ·obtain⟨v,hv⟩:=hz;obtain⟨a,hav,hh,hmin⟩:=i0q (P:=fun v=>v≤m∧0<d v) v hv;clear hv hav v;have ham:a≤m:=hh.1;have hda:0<d a:=hh.2;obtain⟨b,x,f,hab,hbm,hx,hxe,hfA,hfx⟩:=b9Q (A:=A) hp ham hda;have hex:∀ v,(a≤v∧v≤b→0<d v)∧∃ K P,Off p (d v) (if a≤v∧v≤b then d v-1 else d v) (f v) (x v) (a≤v∧v≤b) K P:=fun v=>i1j hp fun h=>hfx v h.1 h.2
   obtain⟨K,hK⟩:∃ K:Nat→Nat→Nat→Int,∀ v,∃ P,Off p (d v) (if a≤v∧v≤b then d v-1 else d v) (f v) (x v) (a≤v∧v≤b) (K v) P:=⟨fun v=>(hex v).2.choose,fun v=>(hex v).2.choose_spec⟩;obtain⟨P,hP⟩:∃ P:Nat→Nat→Nat→Int,∀ v,Off p (d v) (if a≤v∧v≤b then d v-1 else d v) (f v) (x v) (a≤v∧v≤b) (K v) (P v):=⟨fun v=>(hK v).choose,fun v=>(hK v).choose_spec⟩;clear hK;obtain⟨d',hd'⟩:∃ d':Nat→Nat,d'=fun v=>if a≤v∧v≤b then d v-1 else d v:=⟨_,rfl⟩
   have hP:∀ v,Off p (d v) (d' v) (f v) (x v) (a≤v∧v≤b) (K v) (P v):=fun v=>by rw[hd'];exact hP v
   obtain⟨A',hA'⟩:∃ A':Nat→Nat→Nat→Int,A'=fun v r c=>sgF (fun s=>P (v+1) r s*sgF (fun t=>A v s t*K v t c) (d v)) (d (v+1)):=⟨_,rfl⟩
   have hle:∀ v,d' v≤d v:=fun v=>by rw[hd'];show (if a≤v∧v≤b then d v-1 else d v)≤d v;split <;> omega
   have hlt:d' a<d a:=by
    rw[hd'];show (if a≤a∧a≤b then d a-1 else d a)<d a;rw[if_pos ⟨l_ _,hab⟩];omega
   obtain⟨T,hT⟩:=ih d' A' (by have:=a0Z (m+1) hle (a:=a) (by omega) hlt;omega);refine⟨_,d0Q hab hbm hx hxe hfx (fun v _=>hP v) (fun v r t hv hr ht=>?_) hT⟩;obtain⟨u,hu⟩:∃ u:Nat→Int,u=fun s=>sgF (fun c=>A v s c*K v c t) (d v):=⟨_,rfl⟩
   have e1:sgF (fun s=>K (v+1) r s*A' v s t) (d' (v+1))=sgF (fun i=>sgF (fun s=>K (v+1) r s*P (v+1) s i) (d' (v+1))*u i) (d (v+1)):=by
    rw[hA',hu];exact g4_ (fun s=>K (v+1) r s) (fun s i=>P (v+1) s i) _ _ _
   have e2:sgF (fun c=>A v r c*K v c t) (d v)=sgF (fun i=>idF r i*u i) (d (v+1)):=by rw[t6_ (h:=u) hr,hu]
   rw[e1,e2,←t7_];by_cases ho:a≤v+1∧v+1≤b
   · -- the functional vanishes on the rest
    have hz:(p:Int)∣sgF (fun i=>f (v+1) i*u i) (d (v+1)):=by
     by_cases hva:a≤v
     ·rw[hu];rw[g4_];have e3:sgF (fun c=>sgF (fun i=>f (v+1) i*A v i c) (d (v+1))*K v c t) (d v)=sgF (fun c=>f v c*K v c t) (d v):=a3_ fun c _=>by rw[hfA v c hva (by omega)]
      rw[e3];exact (hP v).fk ⟨hva,by omega⟩ t ht
     ·have h0:d v=0:=by
       rcases Nat.eq_zero_or_pos (d v) with h0 | h0
       ·exact h0
       ·exact absurd ⟨by omega,h0⟩ (hmin v (by omega))
      have:=hle v;omega
    have key:(p:Int)∣sgF (fun i=>idF r i*u i-sgF (fun s=>K (v+1) r s*P (v+1) s i) (d' (v+1))*u i) (d (v+1))-x (v+1) r*sgF (fun i=>f (v+1) i*u i) (d (v+1)):=by
     rw[←k5_,←t7_];refine n3_ fun i hi=>?_
     rcases (hP (v+1)).kp r i hr hi with ⟨_,hk⟩ | ⟨hk,_⟩
     ·have:=Int.dvd_neg.2 (Int.dvd_mul_of_dvd_left (c:=u i) hk);rwa[show -((sgF (fun t=>K (v+1) r t*P (v+1) t i) (d' (v+1))+x (v+1) r*f (v+1) i-idF r i)*u i)=idF r i*u i-sgF (fun s=>K (v+1) r s*P (v+1) s i) (d' (v+1))*u i-x (v+1) r*(f (v+1) i*u i) by
       rw[Int.sub_mul,Int.add_mul,Int.mul_assoc (x (v+1) r)];omega]at this
     ·exact absurd ho hk
    exact (i2_ key).2 (Int.dvd_mul_of_dvd_right hz)
   ·refine n3_ fun i hi=>?_
    rcases (hP (v+1)).kp r i hr hi with ⟨hk,_⟩ | ⟨_,hk⟩
    ·exact absurd hk ho
    ·have:=Int.dvd_neg.2 (Int.dvd_mul_of_dvd_left (c:=u i) hk);rwa[show -((sgF (fun t=>K (v+1) r t*P (v+1) t i) (d' (v+1))-idF r i)*u i)=idF r i*u i-sgF (fun s=>K (v+1) r s*P (v+1) s i) (d' (v+1))*u i by rw[Int.sub_mul];omega]at this
  ·exact⟨[],a1Q fun v hv=>by
    rcases Nat.eq_zero_or_pos (d v) with h0 | h0
    ·exact h0
    ·exact absurd ⟨v,hv,h0⟩ hz⟩
end Go.Proofs.YtbgccbmdiolhbaaGreat

