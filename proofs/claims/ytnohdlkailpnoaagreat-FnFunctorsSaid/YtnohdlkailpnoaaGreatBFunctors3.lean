/- FnFunctors: the law holds for every argument. Part 3 of 14 of the proof: Mat3, Zig, Line, RepSz, Pencil, Net2, NetDR, Order, NetC, MkI, NetU, DsF, AreB, Order2, Order3, Refl2, EqRp, BigI, Seat. No condition. -/
import Derived.Test.YtnohdlkailpnoaaGreatBFunctors2
set_option linter.unusedVariables false
set_option linter.unusedSimpArgs false
set_option maxHeartbeats 12800000
set_option maxRecDepth 100000
namespace Go.Proofs.YtnohdlkailpnoaaGreat
open Go.RowKit
theorem QvR.sl {w:World} {B n m a c:Nat} {v:Int} {A C:Option Addr} {q:Qv} (h:QvR w B (.agg #[.int .i64 v,.slice A n a,.slice C m c]) q):SlI w B (.slice A n a) q.f∧SlI w B (.slice C m c) q.t:=by
 obtain⟨s,t,e,h1,h2,_⟩:=h;simp only[Value.agg.injEq,Array.mk.injEq,List.cons.injEq,and_true]at e;obtain⟨_,rfl,rfl⟩:=e;exact⟨h1,h2⟩
theorem i4_ (u:Value) (x:Rp) (w:World) (hu:RpR w w.heap.size u x) :
  Calls Tryz.prog 59 #[u] w fun e w'=>e = .returned (.bool (f1_ x))∧Below w.heap.size w w':=by
 obtain⟨A,a,C,c,E,e,H,h,rfl,hq,hd,hm,hp,ld,lm⟩:=hu.open_;clear hu;obtain⟨W,hW,g0,kB⟩:=b_3 w #[.int .i64 x.p,.int .i64 x.q.v,.slice A x.q.f.length a,.slice C x.q.t.length c,.slice E x.d.length e,.slice H x.m.length h] 29;obtain⟨c0,c1,c2,c3,c4,c5⟩:=c_6 kB;replace hq:=QvR.next g0 hq;replace hd:=SlI.next g0 hd;replace hm:=SlM.next g0 hm;unfold f1_;rcases h1:f2_ x.p with _ | _
 ·go_enter Tryz.func59,Tryz.ntmps59
  go_wp2_with fail
  rw[←hW];clear hW;refine (d6_ _ _).mono ?_;rintro e w1 ⟨rfl,rfl⟩;rw[h1];go_wp2;go_ret
  exact⟨rfl,g0⟩
 rcases h2:d4_ x.q x.d with _ | _
 ·have H2:=h_ h2;clear h2;go_enter Tryz.func59,Tryz.ntmps59
  go_wp2_with fail
  rw[←hW];clear hW;refine (d6_ _ _).mono ?_;rintro e w1 ⟨rfl,rfl⟩;rw[h1];go_wp2_with fail
  refine (n9_ _ _ _ _ _ hq hd).mono ?_;rintro e w_1 ⟨rfl,hb_1⟩;replace g0:=a6_ g0 hb_1;replace hq:=QvR.next hb_1 hq;replace hd:=SlI.next hb_1 hd;replace hm:=SlM.next hb_1 hm;replace kB:=kB.call hb_1;replace c0:=kB.cell' (i:=0) rfl;replace c1:=kB.cell' (i:=1) rfl;replace c2:=kB.cell' (i:=2) rfl;replace c3:=kB.cell' (i:=3) rfl;replace c4:=kB.cell' (i:=4) rfl;replace c5:=kB.cell' (i:=5) rfl;rw[H2.out];go_wp2;go_ret
  exact⟨rfl,g0⟩
 obtain⟨lf,lt⟩:=hq.lens;rcases h3:decide (x.m.length=x.q.f.length) with _ | _
 ·have e3:((x.m.length:Int) != x.q.f.length)=true:=by rw[bne_iff_ne];have:=of_decide_eq_false h3;omega
  have H2:=h_ h2;clear h2 h3;go_enter Tryz.func59,Tryz.ntmps59
  go_wp2_with fail
  rw[←hW];clear hW;refine (d6_ _ _).mono ?_;rintro e w1 ⟨rfl,rfl⟩;rw[h1];go_wp2_with fail
  refine (n9_ _ _ _ _ _ hq hd).mono ?_;rintro e w_2 ⟨rfl,hb_2⟩;replace g0:=a6_ g0 hb_2;replace hq:=QvR.next hb_2 hq;replace hd:=SlI.next hb_2 hd;replace hm:=SlM.next hb_2 hm;replace kB:=kB.call hb_2;replace c0:=kB.cell' (i:=0) rfl;replace c1:=kB.cell' (i:=1) rfl;replace c2:=kB.cell' (i:=2) rfl;replace c3:=kB.cell' (i:=3) rfl;replace c4:=kB.cell' (i:=4) rfl;replace c5:=kB.cell' (i:=5) rfl;rw[H2.out];go_wp2;go_ret
  exact⟨rfl,g0⟩
 have e3:((x.m.length:Int) != x.q.f.length)=false:=by rw[bne_eq_false_iff_eq];have:=of_decide_eq_true h3;omega
 have H3:=h_ (of_decide_eq_true h3);have H2:=h_ h2;clear h2 h3;go_enter Tryz.func59,Tryz.ntmps59
 go_wp2_with fail
 rw[←hW];clear hW;refine (d6_ _ _).mono ?_;rintro e w1 ⟨rfl,rfl⟩;rw[h1];go_wp2_with fail
 refine (n9_ _ _ _ _ _ hq hd).mono ?_;rintro e W1 ⟨rfl,hb0⟩;replace g0:=a6_ g0 hb0;replace hq:=QvR.next hb0 hq;replace hd:=SlI.next hb0 hd;replace hm:=SlM.next hb0 hm;replace kB:=kB.call hb0;replace c0:=kB.cell' (i:=0) rfl;replace c1:=kB.cell' (i:=1) rfl;replace c2:=kB.cell' (i:=2) rfl;replace c3:=kB.cell' (i:=3) rfl;replace c4:=kB.cell' (i:=4) rfl;replace c5:=kB.cell' (i:=5) rfl;clear hb0;rw[H2.out];obtain⟨hf,ht⟩:=hq.sl;clear hq;go_wp2;go_loopw [30] (fun i wr=>∃ k:Nat,k≤x.m.length∧i = .int .i64 k∧Below W1.heap.size W1 wr∧Hid (okMs x k=true)) (fun i _=>x.m.length-(intOf i).toNat)
 case atStart=>exact⟨0,l0_ _,rfl,Below.refl _ _,rfl⟩
 case round =>
  obtain⟨k,hk,rfl,hbel,hok⟩:=hrel;clear c0 c1 c2 c3 c4 c5;have z5:=(kB.call hbel).cell' (i:=5) rfl;by_cases hlt:k<x.m.length
  ·have hkf:k<x.q.f.length:=by have:=H3.out;omega
   obtain⟨nf,nt,yf,yt,ef,et,df,dt,lnf,lnt,lnf5,lnt5,hkt⟩:=K0_ H2.out hkf;obtain⟨b,o,m,A',c',rfl,hb,HX,x1,x2,x3,hsl,i1,i2,lml⟩:=SlM.at_ hm hlt;obtain⟨bf,of_,xf,rfl,hbf,HXF,f1,_⟩:=SlI.at_ hf hkf;obtain⟨bt,ot,xt,rfl,hbt,HXT,t1,_⟩:=SlI.at_ ht hkt;obtain⟨bd,od,xdf,rfl,hbd,HXDF,d1,ddf⟩:=SlI.at_ hd lnf;obtain⟨bd',od',xdt,ebd,hbd',HXDT,d2,ddt⟩:=SlI.at_ hd lnt;injection ebd with ebd
   injection ebd with ebd1 ebd2
   subst ebd1 ebd2;have q1:=HXF.out;rw[ef]at q1;injection q1 with q1
   subst q1;have q2:=HXT.out;rw[et]at q2;injection q2 with q2
   subst q2;have hsucc:=U7_ HX.out ef et;rw[hok.out,Bool.true_and,okM,r4_ HXDF.out,r4_ HXDT.out]at hsucc;have HSU:=h_ hsucc;clear hsucc HXDF HXDT HXF HXT ef et df dt hf ht hd hm;obtain⟨Wx,hWx⟩:∃ W,W=wr.alloc (.cells #[.int .i64 m.r,.int .i64 m.c,.slice A' m.a.length c'] 41):=⟨_,rfl⟩;have gx:Below W1.heap.size W1 Wx:=by rw[hWx];exact hbel.trans ((a2_ _ _).mono hbel.size)
   have kM:Blk Wx wr.heap.size 41 #[.int .i64 m.r,.int .i64 m.c,.slice A' m.a.length c']:=by rw[hWx];exact Blk.new _ _ _
   have m0:=fun s:InB Wx=>(kM.call s.below).cell' (i:=0) rfl
   have m1:=fun s:InB Wx=>(kM.call s.below).cell' (i:=1) rfl
   have m2:=fun s:InB Wx=>(kM.call s.below).cell' (i:=2) rfl
   have hx1:=a7_ hbel hb x1;have hx2:=a7_ hbel hb x2;have hx3:=a7_ hbel hb x3;clear kM;have gx1:=gx.size;have hF:=InB.cell (w:=Wx) (by omega) (a7_ gx hbf f1);have hT:=InB.cell (w:=Wx) (by omega) (a7_ gx hbt t1);have hD1:=InB.cell (w:=Wx) (by omega) (a7_ gx hbd d1);have hD2:=InB.cell (w:=Wx) (by omega) (a7_ gx hbd d2);have kBx:=kB.call gx;have r0:=fun s:InB Wx=>(kBx.call s.below).cell' (i:=0) rfl
   have r2:=fun s:InB Wx=>(kBx.call s.below).cell' (i:=2) rfl
   have r3:=fun s:InB Wx=>(kBx.call s.below).cell' (i:=3) rfl
   have r4:=fun s:InB Wx=>(kBx.call s.below).cell' (i:=4) rfl
   have r5:=fun s:InB Wx=>(kBx.call s.below).cell' (i:=5) rfl
   have HM:Hid (∀ s:InB Wx,MxR s.val s.val.heap.size (.agg #[.int .i64 m.r,.int .i64 m.c,.slice A' m.a.length c']) m):=fun s=>⟨_,rfl,SlI.next s.below (SlI.next gx hsl),i1,i2⟩
   have g1:=a6_ g0 gx;have HGX:=h_ gx;have HG1:=h_ g1;clear x1 x2 x3 f1 t1 d1 d2 hsl i1 i2 kB kBx gx g1 g0;have a1:(0:Int)≤(k:Int):=by omega
   have a2:(k:Int)<x.q.f.length:=by omega
   have a3:(k:Int)<x.q.t.length:=by omega
   have a4:(0:Int)≤(nf:Int):=by omega
   have a5:(nf:Int)<x.d.length:=by omega
   have a6:(0:Int)≤(nt:Int):=by omega
   have a7:(nt:Int)<x.d.length:=by omega
   have a8:(k:Int)<x.m.length:=by omega
   rcases h4:M8_ x.p m with _ | _
   ·have HF:=h_ (u3_ (x:=x) (k:=k+1) (n:=x.m.length) (by rw[HSU.out,h4];rfl) (by omega));go_wp2;rw[←hWx];clear hWx
    (refine c7_ (by kernel_rfl) (by kernel_rfl) ?_;(repeat (go_big_quiet_step ((go_at_call 102;exact InB.call (m8_ _ _ m _ (HM.out _))))));refine wpQuiet_nil ?_;intro w1 hw';obtain⟨s1,hw1⟩:=hw';have hb1:=s1.below;rw[←hw1]at hb1;clear hw1 s1)
    go_wp2;go_ret
    exact⟨by rw[HF.out];rfl,a6_ HG1.out hb1⟩
   rcases h5:decide (m.c=xdf) with _ | _
   ·have HF:=h_ (u3_ (x:=x) (k:=k+1) (n:=x.m.length) (by rw[HSU.out,h5];simp) (by omega));have e5:(m.c != xdf)=true:=by rw[bne_iff_ne];exact of_decide_eq_false h5
    clear h5;go_wp2;rw[←hWx];clear hWx
    (refine c7_ (by kernel_rfl) (by kernel_rfl) ?_;(repeat (go_big_quiet_step ((go_at_call 102;exact InB.call (m8_ _ _ m _ (HM.out _))))));refine wpQuiet_nil ?_;intro w1 hw';obtain⟨s1,hw1⟩:=hw';have hb1:=s1.below;rw[←hw1]at hb1;clear hw1 s1)
    go_wp2;go_ret
    exact⟨by rw[HF.out];rfl,a6_ HG1.out hb1⟩
   have e5:(m.c != xdf)=false:=by rw[bne_eq_false_iff_eq];exact of_decide_eq_true h5
   rcases h6:decide (m.r=xdt) with _ | _
   ·have HF:=h_ (u3_ (x:=x) (k:=k+1) (n:=x.m.length) (by rw[HSU.out,h6];simp) (by omega));have e6:(m.r != xdt)=true:=by rw[bne_iff_ne];exact of_decide_eq_false h6
    clear h5 h6;go_wp2;rw[←hWx];clear hWx
    (refine c7_ (by kernel_rfl) (by kernel_rfl) ?_;(repeat (go_big_quiet_step ((go_at_call 102;exact InB.call (m8_ _ _ m _ (HM.out _))))));refine wpQuiet_nil ?_;intro w1 hw';obtain⟨s1,hw1⟩:=hw';have hb1:=s1.below;rw[←hw1]at hb1;clear hw1 s1)
    go_wp2;go_ret
    exact⟨by rw[HF.out];rfl,a6_ HG1.out hb1⟩
   have e6:(m.r != xdt)=false:=by rw[bne_eq_false_iff_eq];exact of_decide_eq_true h6
   have HF:=h_ (show okMs x (k+1)=true by rw[HSU.out,h4,h5,h6];rfl);clear h5 h6;go_wp2;rw[←hWx];clear hWx
   (refine c7_ (by kernel_rfl) (by kernel_rfl) ?_;(repeat (go_big_quiet_step ((go_at_call 102;exact InB.call (m8_ _ _ m _ (HM.out _))))));refine wpQuiet_nil ?_;intro w1 hw';obtain⟨s1,hw1⟩:=hw';have hb1:=s1.below;rw[←hw1]at hb1;clear hw1 s1)
   go_wp2;go_roundw
   case rel=>exact⟨k+1,by omega,by go_num,a6_ HGX.out hb1,HF.out⟩
   case measure=>simp[intOf];omega
  ·have HF:=h_ (show okMs x x.m.length=true by have:=hok.out;rwa[show k=x.m.length by omega]at this);have g1:=a6_ g0 hbel;go_wp2;go_ret
   exact⟨by rw[HF.out];rfl,g1⟩
theorem k6_ (u:Value) (x:Rp) (w:World) (hu:RpR w w.heap.size u x) :
  Calls Tryz.prog 63 #[u] w fun e w'=>e = .returned (.bool (f1_ x))∧Below w.heap.size w w':=by
 obtain⟨A,a,C,c,E,e,H,h,rfl,hq,hd,hm,hp,ld,lm⟩:=hu.open_;clear hu;obtain⟨W,hW,g0,kB⟩:=b_3 w #[.int .i64 x.p,.int .i64 x.q.v,.slice A x.q.f.length a,.slice C x.q.t.length c,.slice E x.d.length e,.slice H x.m.length h] 29;obtain⟨c0,c1,c2,c3,c4,c5⟩:=c_6 kB;replace hq:=QvR.next g0 hq;replace hd:=SlI.next g0 hd;replace hm:=SlM.next g0 hm;unfold f1_;rcases h1:f2_ x.p with _ | _
 ·go_enter Tryz.func63,Tryz.ntmps63
  go_wp2_with fail
  rw[←hW];clear hW;refine (f7_ _ _).mono ?_;rintro e w1 ⟨rfl,rfl⟩;rw[h1];go_wp2;go_ret
  exact⟨rfl,g0⟩
 rcases h2:d4_ x.q x.d with _ | _
 ·have H2:=h_ h2;clear h2;go_enter Tryz.func63,Tryz.ntmps63
  go_wp2_with fail
  rw[←hW];clear hW;refine (f7_ _ _).mono ?_;rintro e w1 ⟨rfl,rfl⟩;rw[h1];go_wp2_with fail
  refine (k1_ _ _ _ _ _ hq hd).mono ?_;rintro e w_3 ⟨rfl,hb_3⟩;replace g0:=a6_ g0 hb_3;replace hq:=QvR.next hb_3 hq;replace hd:=SlI.next hb_3 hd;replace hm:=SlM.next hb_3 hm;replace kB:=kB.call hb_3;replace c0:=kB.cell' (i:=0) rfl;replace c1:=kB.cell' (i:=1) rfl;replace c2:=kB.cell' (i:=2) rfl;replace c3:=kB.cell' (i:=3) rfl;replace c4:=kB.cell' (i:=4) rfl;replace c5:=kB.cell' (i:=5) rfl;rw[H2.out];go_wp2;go_ret
  exact⟨rfl,g0⟩
 obtain⟨lf,lt⟩:=hq.lens;rcases h3:decide (x.m.length=x.q.f.length) with _ | _
 ·have e3:((x.m.length:Int) != x.q.f.length)=true:=by rw[bne_iff_ne];have:=of_decide_eq_false h3;omega
  have H2:=h_ h2;clear h2 h3;go_enter Tryz.func63,Tryz.ntmps63
  go_wp2_with fail
  rw[←hW];clear hW;refine (f7_ _ _).mono ?_;rintro e w1 ⟨rfl,rfl⟩;rw[h1];go_wp2_with fail
  refine (k1_ _ _ _ _ _ hq hd).mono ?_;rintro e w_4 ⟨rfl,hb_4⟩;replace g0:=a6_ g0 hb_4;replace hq:=QvR.next hb_4 hq;replace hd:=SlI.next hb_4 hd;replace hm:=SlM.next hb_4 hm;replace kB:=kB.call hb_4;replace c0:=kB.cell' (i:=0) rfl;replace c1:=kB.cell' (i:=1) rfl;replace c2:=kB.cell' (i:=2) rfl;replace c3:=kB.cell' (i:=3) rfl;replace c4:=kB.cell' (i:=4) rfl;replace c5:=kB.cell' (i:=5) rfl;rw[H2.out];go_wp2;go_ret
  exact⟨rfl,g0⟩
 have e3:((x.m.length:Int) != x.q.f.length)=false:=by rw[bne_eq_false_iff_eq];have:=of_decide_eq_true h3;omega
 have H3:=h_ (of_decide_eq_true h3);have H2:=h_ h2;clear h2 h3;go_enter Tryz.func63,Tryz.ntmps63
 go_wp2_with fail
 rw[←hW];clear hW;refine (f7_ _ _).mono ?_;rintro e w1 ⟨rfl,rfl⟩;rw[h1];go_wp2_with fail
 refine (k1_ _ _ _ _ _ hq hd).mono ?_;rintro e W1 ⟨rfl,hb0⟩;replace g0:=a6_ g0 hb0;replace hq:=QvR.next hb0 hq;replace hd:=SlI.next hb0 hd;replace hm:=SlM.next hb0 hm;replace kB:=kB.call hb0;replace c0:=kB.cell' (i:=0) rfl;replace c1:=kB.cell' (i:=1) rfl;replace c2:=kB.cell' (i:=2) rfl;replace c3:=kB.cell' (i:=3) rfl;replace c4:=kB.cell' (i:=4) rfl;replace c5:=kB.cell' (i:=5) rfl;clear hb0;rw[H2.out];obtain⟨hf,ht⟩:=hq.sl;clear hq;go_wp2;go_loopw [3] (fun i wr=>∃ k:Nat,k≤x.m.length∧i = .int .i64 k∧Below W1.heap.size W1 wr∧Hid (okMs x k=true)) (fun i _=>x.m.length-(intOf i).toNat)
 case atStart=>exact⟨0,l0_ _,rfl,Below.refl _ _,rfl⟩
 case round =>
  obtain⟨k,hk,rfl,hbel,hok⟩:=hrel;clear c0 c1 c2 c3 c4 c5;have z5:=(kB.call hbel).cell' (i:=5) rfl;by_cases hlt:k<x.m.length
  ·have hkf:k<x.q.f.length:=by have:=H3.out;omega
   obtain⟨nf,nt,yf,yt,ef,et,df,dt,lnf,lnt,lnf5,lnt5,hkt⟩:=K0_ H2.out hkf;obtain⟨b,o,m,A',c',rfl,hb,HX,x1,x2,x3,hsl,i1,i2,lml⟩:=SlM.at_ hm hlt;obtain⟨bf,of_,xf,rfl,hbf,HXF,f1,_⟩:=SlI.at_ hf hkf;obtain⟨bt,ot,xt,rfl,hbt,HXT,t1,_⟩:=SlI.at_ ht hkt;obtain⟨bd,od,xdf,rfl,hbd,HXDF,d1,ddf⟩:=SlI.at_ hd lnf;obtain⟨bd',od',xdt,ebd,hbd',HXDT,d2,ddt⟩:=SlI.at_ hd lnt;injection ebd with ebd
   injection ebd with ebd1 ebd2
   subst ebd1 ebd2;have q1:=HXF.out;rw[ef]at q1;injection q1 with q1
   subst q1;have q2:=HXT.out;rw[et]at q2;injection q2 with q2
   subst q2;have hsucc:=U7_ HX.out ef et;rw[hok.out,Bool.true_and,okM,r4_ HXDF.out,r4_ HXDT.out]at hsucc;have HSU:=h_ hsucc;clear hsucc HXDF HXDT HXF HXT ef et df dt hf ht hd hm;have gx:=hbel;have hm0:=InB.cell (w:=wr) (by have:=hbel.size;omega) (a7_ hbel hb x1);have hm1:=InB.cell (w:=wr) (by have:=hbel.size;omega) (a7_ hbel hb x2);have hm2:=InB.cell (w:=wr) (by have:=hbel.size;omega) (a7_ hbel hb x3);have gx1:=gx.size;have hF:=InB.cell (w:=wr) (by omega) (a7_ gx hbf f1);have hT:=InB.cell (w:=wr) (by omega) (a7_ gx hbt t1);have hD1:=InB.cell (w:=wr) (by omega) (a7_ gx hbd d1);have hD2:=InB.cell (w:=wr) (by omega) (a7_ gx hbd d2);have kBx:=kB.call gx;have r0:=fun s:InB wr=>(kBx.call s.below).cell' (i:=0) rfl
   have r2:=fun s:InB wr=>(kBx.call s.below).cell' (i:=2) rfl
   have r3:=fun s:InB wr=>(kBx.call s.below).cell' (i:=3) rfl
   have r4:=fun s:InB wr=>(kBx.call s.below).cell' (i:=4) rfl
   have r5:=fun s:InB wr=>(kBx.call s.below).cell' (i:=5) rfl
   have HM:Hid (∀ s:InB wr,MxR s.val s.val.heap.size (.agg #[.int .i64 m.r,.int .i64 m.c,.slice A' m.a.length c']) m):=fun s=>⟨_,rfl,SlI.next s.below (SlI.next gx hsl),i1,i2⟩
   have g1:=a6_ g0 gx;have HGX:=h_ gx;have HG1:=h_ g1;clear x1 x2 x3 f1 t1 d1 d2 hsl i1 i2 kB kBx gx g1 g0;have a1:(0:Int)≤(k:Int):=by omega
   have a2:(k:Int)<x.q.f.length:=by omega
   have a3:(k:Int)<x.q.t.length:=by omega
   have a4:(0:Int)≤(nf:Int):=by omega
   have a5:(nf:Int)<x.d.length:=by omega
   have a6:(0:Int)≤(nt:Int):=by omega
   have a7:(nt:Int)<x.d.length:=by omega
   have a8:(k:Int)<x.m.length:=by omega
   rcases h4:M8_ x.p m with _ | _
   ·have HF:=h_ (u3_ (x:=x) (k:=k+1) (n:=x.m.length) (by rw[HSU.out,h4];rfl) (by omega));go_wp2
    (refine c7_ (by kernel_rfl) (by kernel_rfl) ?_;(repeat (go_big_quiet_step ((go_at_call 107;exact InB.call (m7_ _ _ m _ (HM.out _))))));refine wpQuiet_nil ?_;intro w1 hw';obtain⟨s1,hw1⟩:=hw';have hb1:=s1.below;rw[←hw1]at hb1;clear hw1 s1)
    go_wp2;go_ret
    exact⟨by rw[HF.out];rfl,a6_ HG1.out hb1⟩
   rcases h5:decide (m.c=xdf) with _ | _
   ·have HF:=h_ (u3_ (x:=x) (k:=k+1) (n:=x.m.length) (by rw[HSU.out,h5];simp) (by omega));have e5:(m.c != xdf)=true:=by rw[bne_iff_ne];exact of_decide_eq_false h5
    clear h5;go_wp2
    (refine c7_ (by kernel_rfl) (by kernel_rfl) ?_;(repeat (go_big_quiet_step ((go_at_call 107;exact InB.call (m7_ _ _ m _ (HM.out _))))));refine wpQuiet_nil ?_;intro w1 hw';obtain⟨s1,hw1⟩:=hw';have hb1:=s1.below;rw[←hw1]at hb1;clear hw1 s1)
    go_wp2;go_ret
    exact⟨by rw[HF.out];rfl,a6_ HG1.out hb1⟩
   have e5:(m.c != xdf)=false:=by rw[bne_eq_false_iff_eq];exact of_decide_eq_true h5
   rcases h6:decide (m.r=xdt) with _ | _
   ·have HF:=h_ (u3_ (x:=x) (k:=k+1) (n:=x.m.length) (by rw[HSU.out,h6];simp) (by omega));have e6:(m.r != xdt)=true:=by rw[bne_iff_ne];exact of_decide_eq_false h6
    clear h5 h6;go_wp2
    (refine c7_ (by kernel_rfl) (by kernel_rfl) ?_;(repeat (go_big_quiet_step ((go_at_call 107;exact InB.call (m7_ _ _ m _ (HM.out _))))));refine wpQuiet_nil ?_;intro w1 hw';obtain⟨s1,hw1⟩:=hw';have hb1:=s1.below;rw[←hw1]at hb1;clear hw1 s1)
    go_wp2;go_ret
    exact⟨by rw[HF.out];rfl,a6_ HG1.out hb1⟩
   have e6:(m.r != xdt)=false:=by rw[bne_eq_false_iff_eq];exact of_decide_eq_true h6
   have HF:=h_ (show okMs x (k+1)=true by rw[HSU.out,h4,h5,h6];rfl);clear h5 h6;go_wp2
   (refine c7_ (by kernel_rfl) (by kernel_rfl) ?_;(repeat (go_big_quiet_step ((go_at_call 107;exact InB.call (m7_ _ _ m _ (HM.out _))))));refine wpQuiet_nil ?_;intro w1 hw';obtain⟨s1,hw1⟩:=hw';have hb1:=s1.below;rw[←hw1]at hb1;clear hw1 s1)
   go_wp2;go_roundw
   case rel=>exact⟨k+1,by omega,by go_num,a6_ HGX.out hb1,HF.out⟩
   case measure=>simp[intOf];omega
  ·have HF:=h_ (show okMs x x.m.length=true by have:=hok.out;rwa[show k=x.m.length by omega]at this);have g1:=a6_ g0 hbel;go_wp2;go_ret
   exact⟨by rw[HF.out];rfl,g1⟩
theorem b8_ {x:Rp}:f1_ x=true↔f2_ x.p=true∧d4_ x.q x.d=true∧x.m.length=x.q.f.length∧okMs x x.m.length=true:=by
 simp only[f1_,l9_,decide_eq_true_eq,and_assoc]
theorem o3_ (u v:Value) (xs ys:List Int) (w:World) (hu:SlI w w.heap.size u xs) (hv:SlI w w.heap.size v ys) :
  Calls Tryz.prog 93 #[u,v] w fun e w'=>e = .returned (.bool (decide (xs=ys)))∧Below w.heap.size w w':=by
 obtain⟨A,c,rfl,_,_,hn,hx⟩:=hu.open_;obtain⟨C,d,rfl,_,_,hm,hy⟩:=hv.open_;clear hu hv;by_cases hnm:xs.length=ys.length
 ·have heq:((xs.length:Int) != ys.length)=false:=by rw[bne_eq_false_iff_eq];omega
  have HN:=h_ hnm;clear hnm;go_enter Tryz.func93,Tryz.ntmps93
  go_wp2;go_loopw [5,13] (fun _ i wr=>∃ k q:Nat,k≤xs.length∧i = .int .i64 k∧wr=w.drewN q∧Hid (xs.take k=ys.take k)) (fun _ i _=>xs.length-(intOf i).toNat)
  case atStart=>exact⟨0,0,l0_ _,rfl,rfl,rfl⟩
  case round =>
   obtain⟨k,q,hk,rfl,rfl,hxy⟩:=hrel;by_cases hlt:k<xs.length
   ·have hlt':k<ys.length:=by have:=HN.out;omega
    obtain⟨b,o,x,rfl,hb,HX,c1,_⟩:=SlI.at_ hx hlt;obtain⟨b',o',x',rfl,hb',HX',c1',_⟩:=SlI.at_ hy hlt';clear hx hy;by_cases hE:x=x'
    ·subst hE;go_wp2;go_quiet (fail)
     go_wp2;go_roundw
     case rel =>
      refine⟨k+1,q+nq,by omega,by go_num,rfl,?_⟩;show _=_;rw[c8_ HX.out,c8_ HX'.out,hxy.out]
     case measure=>simp[intOf];omega
    ·have hne:(x != x')=true:=by simpa using hE
     have hxy':Hid (xs≠ys):=by
      rintro rfl;have h2:=HX.out;rw[HX'.out]at h2;exact hE (by injection h2 with h2;exact h2.symm)
     clear hE;go_wp2;go_quiet (fail)
     go_wp2;go_ret
     exact⟨by rw[decide_eq_false hxy'.out];rfl,g7_ (f5_ _ _ _) _⟩
   ·go_wp2;go_ret
    refine⟨?_,f5_ _ _ _⟩;have h1:=hxy.out;rw[l7_ (by omega),l7_ (by have:=HN.out;omega)]at h1;simp[h1]
 ·have hne:((xs.length:Int) != ys.length)=true:=by rw[bne_iff_ne];omega
  go_enter Tryz.func93,Tryz.ntmps93
  go_wp2;go_ret
  refine⟨?_,Below.refl _ _⟩;rw[decide_eq_false (by rintro rfl;omega)];rfl
theorem y1_ (u v:Value) (xs ys:List Int) (w:World) (hu:SlI w w.heap.size u xs) (hv:SlI w w.heap.size v ys) :
  Calls Tryz.prog 39 #[u,v] w fun e w'=>e = .returned (.bool (decide (xs=ys)))∧Below w.heap.size w w':=by
 obtain⟨A,c,rfl,_,_,hn,hx⟩:=hu.open_;obtain⟨C,d,rfl,_,_,hm,hy⟩:=hv.open_;clear hu hv;by_cases hnm:xs.length=ys.length
 ·have heq:((xs.length:Int) != ys.length)=false:=by rw[bne_eq_false_iff_eq];omega
  have HN:=h_ hnm;clear hnm;go_enter Tryz.func39,Tryz.ntmps39
  go_wp2;go_loopw [5] (fun i wr=>∃ k q:Nat,k≤xs.length∧i = .int .i64 k∧wr=w.drewN q∧Hid (xs.take k=ys.take k)) (fun i _=>xs.length-(intOf i).toNat)
  case atStart=>exact⟨0,0,l0_ _,rfl,rfl,rfl⟩
  case round =>
   obtain⟨k,q,hk,rfl,rfl,hxy⟩:=hrel;by_cases hlt:k<xs.length
   ·have hlt':k<ys.length:=by have:=HN.out;omega
    obtain⟨b,o,x,rfl,hb,HX,c1,_⟩:=SlI.at_ hx hlt;obtain⟨b',o',x',rfl,hb',HX',c1',_⟩:=SlI.at_ hy hlt';clear hx hy;by_cases hE:x=x'
    ·subst hE;go_wp2;go_quiet (fail)
     go_wp2;go_roundw
     case rel =>
      refine⟨k+1,q+nq,by omega,by go_num,rfl,?_⟩;show _=_;rw[c8_ HX.out,c8_ HX'.out,hxy.out]
     case measure=>simp[intOf];omega
    ·have hne:(x != x')=true:=by simpa using hE
     have hxy':Hid (xs≠ys):=by
      rintro rfl;have h2:=HX.out;rw[HX'.out]at h2;exact hE (by injection h2 with h2;exact h2.symm)
     clear hE;go_wp2;go_quiet (fail)
     go_wp2;go_ret
     exact⟨by rw[decide_eq_false hxy'.out];rfl,g7_ (f5_ _ _ _) _⟩
   ·go_wp2;go_ret
    refine⟨?_,f5_ _ _ _⟩;have h1:=hxy.out;rw[l7_ (by omega),l7_ (by have:=HN.out;omega)]at h1;simp[h1]
 ·have hne:((xs.length:Int) != ys.length)=true:=by rw[bne_iff_ne];omega
  go_enter Tryz.func39,Tryz.ntmps39
  go_wp2;go_ret
  refine⟨?_,Below.refl _ _⟩;rw[decide_eq_false (by rintro rfl;omega)];rfl
theorem z4_ (u v:Value) (p q:Qv) (w:World) (hu:QvR w w.heap.size u p) (hv:QvR w w.heap.size v q) :
  Calls Tryz.prog 87 #[u,v] w fun e w'=>e = .returned (.bool (decide (p=q)))∧Below w.heap.size w w':=by
 obtain⟨A,c,C,d,rfl,hf,ht,_,_,_⟩:=hu.open_;obtain⟨A',c',C',d',rfl,hf',ht',_,_,_⟩:=hv.open_;clear hu hv;obtain⟨W,hW,g0,k1,k2⟩:=b_4 w #[.int .i64 p.v,.slice A p.f.length c,.slice C p.t.length d] 26 #[.int .i64 q.v,.slice A' q.f.length c',.slice C' q.t.length d'] 26;replace hf:=SlI.next g0 hf;replace hf':=SlI.next g0 hf';replace ht:=SlI.next g0 ht;replace ht':=SlI.next g0 ht';by_cases h1:p.v=q.v
 ·have e1:(p.v == q.v)=true:=by rw[h1];simp
  have H1:=h_ h1;clear h1;by_cases h2:p.f=q.f
  ·have e2:decide (p.f=q.f)=true:=by simpa using h2
   have H2:=h_ h2;clear h2;obtain⟨B,hB⟩:=e_ (decide (p.t=q.t));have HB:=h_ hB;have hfin:decide (p=q)=B:=by
    rw[←hB,decide_eq_decide,N7_];exact⟨fun h=>h.2.2,fun h=>⟨H1.out,H2.out,h⟩⟩
   rw[hfin];clear hfin hB;go_enter Tryz.func87,Tryz.ntmps87
   go_wp2_with fail
   rw[←hW];clear hW;refine (o3_ _ _ _ _ _ hf hf').mono ?_;rintro e w1 ⟨rfl,hb1⟩;clear hf hf';replace g0:=a6_ g0 hb1;replace ht:=SlI.next hb1 ht;replace ht':=SlI.next hb1 ht';replace k1:=k1.call hb1;replace c0:=k1.cell' (i:=0) rfl;replace c1:=k1.cell' (i:=1) rfl;replace c2:=k1.cell' (i:=2) rfl;replace k2:=k2.call hb1;replace d0:=k2.cell' (i:=0) rfl;replace d1:=k2.cell' (i:=1) rfl;replace d2:=k2.cell' (i:=2) rfl;clear hb1;go_wp2_with fail
   refine (o3_ _ _ _ _ _ ht ht').mono ?_;rintro e w_1 ⟨rfl,hb_1⟩;replace g0:=a6_ g0 hb_1;replace ht:=SlI.next hb_1 ht;replace ht':=SlI.next hb_1 ht';replace k1:=k1.call hb_1;replace c0:=k1.cell' (i:=0) rfl;replace c1:=k1.cell' (i:=1) rfl;replace c2:=k1.cell' (i:=2) rfl;replace k2:=k2.call hb_1;replace d0:=k2.cell' (i:=0) rfl;replace d1:=k2.cell' (i:=1) rfl;replace d2:=k2.cell' (i:=2) rfl;rw[HB.out];clear ht ht' k1 k2;go_wp2;go_ret
   exact⟨rfl,g0⟩
  ·have e2:decide (p.f=q.f)=false:=by simpa using h2
   have hfin:decide (p=q)=false:=by
    simp only[decide_eq_false_iff_not,N7_];exact fun h=>h2 h.2.1
   rw[hfin];clear hfin h2;go_enter Tryz.func87,Tryz.ntmps87
   go_wp2_with fail
   rw[←hW];clear hW;refine (o3_ _ _ _ _ _ hf hf').mono ?_;rintro e w1 ⟨rfl,hb1⟩;go_wp2;go_ret
   exact⟨rfl,a6_ g0 hb1⟩
 ·have e1:(p.v == q.v)=false:=by simpa using h1
  have hfin:decide (p=q)=false:=by
   simp only[decide_eq_false_iff_not,N7_];exact fun h=>h1 h.1
  rw[hfin];clear hfin h1;go_enter Tryz.func87,Tryz.ntmps87
  go_wp2;rw[←hW];go_ret
  exact⟨rfl,g0⟩
theorem z3_ (u v:Value) (p q:Qv) (w:World) (hu:QvR w w.heap.size u p) (hv:QvR w w.heap.size v q) :
  Calls Tryz.prog 38 #[u,v] w fun e w'=>e = .returned (.bool (decide (p=q)))∧Below w.heap.size w w':=by
 obtain⟨A,c,C,d,rfl,hf,ht,_,_,_⟩:=hu.open_;obtain⟨A',c',C',d',rfl,hf',ht',_,_,_⟩:=hv.open_;clear hu hv;obtain⟨W,hW,g0,k1,k2⟩:=b_4 w #[.int .i64 p.v,.slice A p.f.length c,.slice C p.t.length d] 26 #[.int .i64 q.v,.slice A' q.f.length c',.slice C' q.t.length d'] 26;replace hf:=SlI.next g0 hf;replace hf':=SlI.next g0 hf';replace ht:=SlI.next g0 ht;replace ht':=SlI.next g0 ht';by_cases h1:p.v=q.v
 ·have e1:(p.v == q.v)=true:=by rw[h1];simp
  have H1:=h_ h1;clear h1;by_cases h2:p.f=q.f
  ·have e2:decide (p.f=q.f)=true:=by simpa using h2
   have H2:=h_ h2;clear h2;obtain⟨B,hB⟩:=e_ (decide (p.t=q.t));have HB:=h_ hB;have hfin:decide (p=q)=B:=by
    rw[←hB,decide_eq_decide,N7_];exact⟨fun h=>h.2.2,fun h=>⟨H1.out,H2.out,h⟩⟩
   rw[hfin];clear hfin hB;go_enter Tryz.func38,Tryz.ntmps38
   go_wp2_with fail
   rw[←hW];clear hW;refine (y1_ _ _ _ _ _ hf hf').mono ?_;rintro e w1 ⟨rfl,hb1⟩;clear hf hf';replace g0:=a6_ g0 hb1;replace ht:=SlI.next hb1 ht;replace ht':=SlI.next hb1 ht';replace k1:=k1.call hb1;replace c0:=k1.cell' (i:=0) rfl;replace c1:=k1.cell' (i:=1) rfl;replace c2:=k1.cell' (i:=2) rfl;replace k2:=k2.call hb1;replace d0:=k2.cell' (i:=0) rfl;replace d1:=k2.cell' (i:=1) rfl;replace d2:=k2.cell' (i:=2) rfl;clear hb1;go_wp2_with fail
   refine (y1_ _ _ _ _ _ ht ht').mono ?_;rintro e w_2 ⟨rfl,hb_2⟩;replace g0:=a6_ g0 hb_2;replace ht:=SlI.next hb_2 ht;replace ht':=SlI.next hb_2 ht';replace k1:=k1.call hb_2;replace c0:=k1.cell' (i:=0) rfl;replace c1:=k1.cell' (i:=1) rfl;replace c2:=k1.cell' (i:=2) rfl;replace k2:=k2.call hb_2;replace d0:=k2.cell' (i:=0) rfl;replace d1:=k2.cell' (i:=1) rfl;replace d2:=k2.cell' (i:=2) rfl;rw[HB.out];clear ht ht' k1 k2;go_wp2;go_ret
   exact⟨rfl,g0⟩
  ·have e2:decide (p.f=q.f)=false:=by simpa using h2
   have hfin:decide (p=q)=false:=by
    simp only[decide_eq_false_iff_not,N7_];exact fun h=>h2 h.2.1
   rw[hfin];clear hfin h2;go_enter Tryz.func38,Tryz.ntmps38
   go_wp2_with fail
   rw[←hW];clear hW;refine (y1_ _ _ _ _ _ hf hf').mono ?_;rintro e w1 ⟨rfl,hb1⟩;go_wp2;go_ret
   exact⟨rfl,a6_ g0 hb1⟩
 ·have e1:(p.v == q.v)=false:=by simpa using h1
  have hfin:decide (p=q)=false:=by
   simp only[decide_eq_false_iff_not,N7_];exact fun h=>h1 h.1
  rw[hfin];clear hfin h1;go_enter Tryz.func38,Tryz.ntmps38
  go_wp2;rw[←hW];go_ret
  exact⟨rfl,g0⟩
section
variable {P:Program} {ops:Array Oper} {Q:Exit→Act→World→Prop} {sp:List NS} {D:List (List Nat)} {m s:Nat} {a0:Act} {w0:World}
theorem S1_ {listed:Array Bool} {i:Nat} (his:i<listed.size) (j:Nat):(listed.setIfInBounds i true).getD j false=(listed.getD j false || j == i):=by
 by_cases e:i=j
 ·subst e;simp[m2_,Array.getElem?_setIfInBounds,his]
 ·rw[getD_set_ne _ e];simp[Ne.symm e]
theorem J9_ {listed:Array Bool} {i:Nat} (his:i<ops.size) (hli:listed.getD i false=false) (hls:listed.size=ops.size) :
  ((List.range ops.size).filter fun j=>!(listed.setIfInBounds i true).getD j false).length+1=((List.range ops.size).filter fun j=>!listed.getD j false).length:=by
 have hmem:i∈(List.range ops.size).filter fun j=>!listed.getD j false:=by
  rw[List.mem_filter];exact⟨List.mem_range.2 his,by rw[hli];rfl⟩
 have e:(List.range ops.size).filter (fun j=>!(listed.setIfInBounds i true).getD j false)=((List.range ops.size).filter fun j=>!listed.getD j false).filter (fun j=>j != i):=by
  rw[List.filter_filter];congr 1
  funext j
  rw[S1_ (hls ▸ his)];simp[Bool.not_or,Bool.and_comm,bne]
 have hnd:((List.range ops.size).filter fun j=>!listed.getD j false).Nodup:=List.nodup_range.filter _;rw[e];have:=List.length_erase_of_mem hmem;rw[hnd.erase_eq_filter]at this;have h1:=List.length_pos_of_mem hmem;omega
theorem O1_ {listed:Array Bool} {k:Nat} (hl:∀ j,listed.getD j false=decide (j<k)) (hk:k≤ops.size):((List.range ops.size).filter fun j=>!listed.getD j false).length=ops.size-k:=by
 have e:(List.range ops.size).filter (fun j=>!listed.getD j false)=(List.range' k (ops.size-k)):=by
  have e1:(List.range ops.size)=List.range k ++ List.range' k (ops.size-k):=by
   have h:=List.range'_append_1 (s:=0) (m:=k) (n:=ops.size-k);rw[Nat.zero_add]at h;rw[List.range_eq_range',List.range_eq_range',h];congr 1
   omega
  rw[e1,List.filter_append];rw[List.filter_eq_nil_iff.2 (fun j hj=>by rw[hl];simp at hj⊢;exact hj),List.nil_append];rw[List.filter_eq_self.2 (fun j hj=>by rw[hl];simp[List.mem_range']at hj⊢;omega)]
 rw[e,List.length_range']
theorem T5_ (v:Nat→Value) (p:Nat→Bool):∀ k,actP ops a0 v p k=((List.range k).filter p).foldl (fun a k=>a.put (j4_ ops k) (v k)) a0
 | 0=>rfl
 | k+1=>by
  rw[List.range_succ,List.filter_append,List.foldl_append,←T5_ v p k];conv=>lhs;unfold actP
  rcases h:p k with _ | _ <;> simp[h]
theorem K5_ (hok:∀ i o,ops[i]?=some o→NetOk ops D (m+1) i o):∀ (fuel k:Nat) (listed:Array Bool) (a:Act) (w:World),fuel+k=ops.size→m≤k→listed.size=ops.size→(∀ j,listed.getD j false=decide (j<k)) →
  wpList P ops Q (ops.toList.drop k) a w→wpAny P .any ops Q fuel listed a w
 | fuel,k,listed,a,w,hf,hm,hls,hl,h=>by
  have hld:∀ j,j<ops.size→listed.getD j true=decide (j<k):=fun j hj=>by
   rw[←hl j];simp[m2_,l8_ (show j<listed.size by omega)]
  have hr:∀ i∈Region.ready .any ops listed,i=k∧k<ops.size:=fun i hi=>by
   obtain⟨h0,o,ho,hall⟩:=mem_ready.1 hi;have hin:=(Array.getElem?_eq_some_iff.1 ho).1;rw[hld i hin]at h0;have hik:k≤i:=by simpa using h0
   refine⟨?_,by omega⟩;have hcl:=(hok i o ho).danc (fun j=>j<k) (fun e he hb=>by have:=hall e he hb;rw[hl]at this;simpa using this) (fun j hj x hx=>by
    have hjs:j<ops.size:=by omega
    have:=(hok j _ (l8_ hjs)).dlt x hx;omega)
   rcases Nat.lt_or_ge k i with hlt | hge
   ·have:=hcl k ((hok i o ho).tail (by omega) k hlt);omega
   ·omega
  cases fuel with
  | zero =>
   refine⟨?_,?_⟩
   ·apply List.eq_nil_iff_forall_not_mem.2
    intro i hi;have:=hr i hi;omega
   ·rw[List.drop_of_length_le (by simp;omega)]at h;exact h
  | succ fuel =>
   have hks:k<ops.size:=by omega
   have hke:=l8_ hks;have hdrop:ops.toList.drop k=ops[k] :: ops.toList.drop (k+1):=by
    rw[List.drop_eq_getElem_cons (by simpa using hks)];simp
   rw[hdrop]at h;have hready:k∈Region.ready .any ops listed:=mem_ready.2 ⟨by rw[hld k hks];simp,_,hke,fun e he hb=>by rw[hl];simpa using (hok k _ hke).direct e he hb⟩;refine⟨fun h0=>(by rw[h0]at hready;cases hready),fun i hi=>?_⟩;obtain⟨rfl,_⟩:=hr i hi;unfold wpOp;simp only[hke];have hw:Region.wanted ops[i] (yielded ops a.tmps)=true:=by simp[Region.wanted,(hok i _ hke).guard]
   simp only[wpList,hw,if_true]at h⊢;have nxt:∀ a w,wpList P ops Q (ops.toList.drop (i+1)) a w→wpAny P .any ops Q fuel (listed.setIfInBounds i true) a w:=fun a w h =>
    K5_ hok fuel (i+1) _ a w (by omega) (by omega) (by simpa using hls) (fun j=>by
     by_cases e:i=j
     ·subst e;simp[m2_,Array.getElem?_setIfInBounds,hls,hks]
     ·rw[getD_set_ne _ e,hl];congr 1
      rw[eq_iff_iff];omega) h
   rcases h with h | h
   ·exact .inl (Oper.wp_mono nxt h)
   ·exact .inr h
theorem c4Q (hB:netB ops D (m+1)=true) (hms:m<ops.size) (hsm:s<m) (hD:∀ j,j<m→j≠s→j∈D.getD m []) (hst:∀ s∈sp,s.stable) (hdo:∀ i o,i<m→ops[i]?=some o→U2_ P ops sp D a0 w0 i o)
  (hend:∀ x w,Below w0.heap.size w0 w→(∀ i,i<m→k3_ sp D x i w)→(∀ i,i<m→w0.heap.size≤x.lo i∧x.lo i≤x.hi i∧x.hi i≤w.heap.size)→(∀ i j,i<m→j<m→i≠j→x.hi i≤x.lo j∨x.hi j≤x.lo i)→wpList P ops Q (ops.toList.drop m) (c4_ ops a0 x.v m) w)
  (hend2:∀ x w,Below w0.heap.size w0 w→(∀ i,i<m∧i≠s→k3_ sp D x i w)→(∀ i,i<m∧i≠s→w0.heap.size≤x.lo i∧x.lo i≤x.hi i∧x.hi i≤w.heap.size)→(∀ i j,i<m∧i≠s→j<m∧j≠s→i≠j→x.hi i≤x.lo j∨x.hi j≤x.lo i)→∀ om os,ops[m]?=some om→ops[s]?=some os→wpList P ops Q (om :: os :: ops.toList.drop (m+1)) (actP ops a0 x.v (fun j=>j != s) m) w) :
  ∀ (fuel:Nat) (listed:Array Bool) (x:Gh) (w:World),((List.range ops.size).filter fun j=>!listed.getD j false).length=fuel→listed.size=ops.size→(∀ j,m≤j→listed.getD j false=false) →
   (∀ i,listed.getD i false=true→∀ j∈D.getD i [],listed.getD j false=true)→Below w0.heap.size w0 w→(∀ i,listed.getD i false=true→k3_ sp D x i w)→(∀ i,listed.getD i false=true→w0.heap.size≤x.lo i∧x.lo i≤x.hi i∧x.hi i≤w.heap.size) →
   (∀ i j,listed.getD i false=true→listed.getD j false=true→i≠j→x.hi i≤x.lo j∨x.hi j≤x.lo i) →
   wpAny P .any ops Q fuel listed (actP ops a0 x.v (fun j=>listed.getD j false) ops.size) w:=by
 simp only[netB,l9_,decide_eq_true_eq]at hB;obtain⟨⟨hm,hns⟩,hnf⟩:=hB;have hok:∀ i o,ops[i]?=some o→NetOk ops D (m+1) i o:=fun i o ho=>t5_ (by
  have:=n5_ ops.toList 0 hnf i o (by simpa using ho);simpa using this)
 have hst':∀ i,(sp.getD i (.eq undef)).stable:=fun i=>by
  rw[l1_];rcases h:sp[i]? with _ | s
  ·trivial
  ·exact hst s (l4_ h)
 intro fuel;induction fuel with
 | zero =>
  intro listed x w hc hls hlm hcl hb hkn hiv hdj;exfalso
  rw[List.length_eq_zero_iff,List.filter_eq_nil_iff]at hc;have:=hc m (List.mem_range.2 hms);rw[hlm m (l_ _)]at this;simp at this
 | succ fuel ih =>
  intro listed x w hc hls hlm hcl hb hkn hiv hdj;by_cases hfull:∀ j,j<m→listed.getD j false=true
  · -- the tail
   have hl:∀ j,listed.getD j false=decide (j<m):=fun j=>by
    by_cases hj:j<m
    ·rw[hfull j hj];simp[hj]
    ·rw[hlm j (by omega)];simp[hj]
   have hcnt:=O1_ (ops:=ops) hl (by omega);refine K5_ hok (fuel+1) m listed _ w (by omega) (l_ _) hls hl ?_;have:=hend x w hb (fun i hi=>hkn i (hfull i hi)) (fun i hi=>hiv i (hfull i hi)) (fun i j hi hj=>hdj i j (hfull i hi) (hfull j hj));rw[←f0_ (p:=fun j=>listed.getD j false) m hfull]at this;rwa[d8_ (p:=fun j=>listed.getD j false) ops.size m (by omega) (fun j h1 _=>hlm j h1)]
  · -- one of the net
   have hne:Region.ready .any ops listed≠[]:=by
    intro h0;have:∀ n,∀ j,j<n→j<m→listed.getD j false=true:=by
     intro n;induction n with
     | zero=>intro j hj;omega
     | succ n ihn =>
      intro j hj hjm;by_cases e:j<n
      ·exact ihn j e hjm
      ·rcases hlj:listed.getD j false with _ | _
       ·exfalso
        have hjs:j<ops.size:=by omega
        have hje:=l8_ hjs;have:j∈Region.ready .any ops listed:=mem_ready.2 ⟨by
         rw[←hlj];simp[m2_,l8_ (show j<listed.size by omega)],_,hje,fun e he hb=>by
         have:=(hok j _ hje).direct e he hb;exact ihn e.on (by omega) (by omega)⟩
        rw[h0]at this;cases this
       ·rfl
    exact hfull fun j hj=>this (j+1) j (by omega) hj
   refine⟨fun h0=>absurd h0 hne,fun i hi=>?_⟩;obtain⟨h0,o,ho,hall⟩:=mem_ready.1 hi;have his:=(Array.getElem?_eq_some_iff.1 ho).1;have hO:=hok i o ho;have hDl:∀ j∈D.getD i [],listed.getD j false=true:=hO.danc (fun j=>listed.getD j false=true) hall (fun k hk j hj=>hcl k hk j hj);have hwant:∀ b:Act,Region.wanted o (yielded ops b.tmps)=true:=fun b=>by simp[Region.wanted,hO.guard]
   rcases Nat.lt_or_ge i m with him | hge
   case inr =>
    have him:i=m:=by
     rcases Nat.lt_or_ge m i with h | h
     ·exact absurd (fun j hj=>hDl j (hO.tail (by omega) j (by omega))) hfull
     ·omega
    subst him;have hls0:listed.getD s false=false:=by
     rcases h:listed.getD s false with _ | _
     ·rfl
     ·exfalso
      refine hfull fun j hj=>?_
      by_cases e:j=s
      ·rw[e,h]
      ·exact hDl j (hD j hj e)
    have hl:∀ j,listed.getD j false=decide (j<i∧j≠s):=fun j=>by
     by_cases hj:j<i
     ·by_cases e:j=s
      ·rw[e,hls0];simp
      ·rw[hDl j (hD j hj e)];simp[hj,e]
     ·rw[hlm j (by omega)];simp[hj]
    have hT:∀ k,k<i∧k≠s→listed.getD k false=true:=fun k hk=>by rw[hl];simpa using hk
    have hss:s<ops.size:=by omega
    have hse:=l8_ hss;have h2:=hend2 x w hb (fun k hk=>hkn k (hT k hk)) (fun k hk=>hiv k (hT k hk)) (fun k j hk hj=>hdj k j (hT k hk) (hT j hj)) o ops[s] ho hse;rw[C8_ (p:=fun j=>j != s) (q:=fun j=>listed.getD j false) (v':=x.v) i (fun j hj=>⟨by rw[hl];by_cases e:j=s <;> simp[e,hj],fun _=>rfl⟩)]at h2;rw[d8_ (p:=fun j=>listed.getD j false) ops.size i (by omega) (fun j h1 _=>hlm j h1)];have hli:=hlm i (l_ _);have c1:=J9_ (ops:=ops) his hli hls;have hsz1:(listed.setIfInBounds i true).size=ops.size:=by simpa using hls
    have hl1:∀ j,(listed.setIfInBounds i true).getD j false=decide (j<i+1∧j≠s):=fun j=>by
     rw[S1_ (hls ▸ his),hl];by_cases e:j=i
     ·subst e;simp;omega
     ·by_cases e2:j<i
      ·simp[e,e2,show j<i+1 by omega]
      ·simp[e,e2,show ¬ j<i+1 by omega]
    have hs1:(listed.setIfInBounds i true).getD s false=false:=by rw[hl1];simp
    have c2:=J9_ (ops:=ops) hss hs1 hsz1;have hl2:∀ j,((listed.setIfInBounds i true).setIfInBounds s true).getD j false=decide (j<i+1):=fun j=>by
     rw[S1_ (hsz1 ▸ hss),hl1];by_cases e:j=s
     ·subst e;simp;omega
     ·simp[e]
    have c3:=O1_ (ops:=ops) hl2 (by omega);have nxt:∀ a w,wpList P ops Q (ops[s] :: ops.toList.drop (i+1)) a w→wpAny P .any ops Q fuel (listed.setIfInBounds i true) a w:=fun a w h=>by
     obtain⟨f,rfl⟩:∃ f,fuel=f+1:=⟨fuel-1,by omega⟩;have hld:∀ j,j<ops.size→(listed.setIfInBounds i true).getD j true=(listed.setIfInBounds i true).getD j false:=fun j hj=>by
      simp only[m2_,l8_ (show j<(listed.setIfInBounds i true).size by omega),Option.getD_some]
     have hready:s∈Region.ready .any ops (listed.setIfInBounds i true):=mem_ready.2 ⟨by rw[hld s hss,hs1],_,hse,fun e he hb=>by
      have:=(hok s _ hse).direct e he hb;rw[hl1];simp;omega⟩
     refine⟨fun h0=>(by rw[h0]at hready;cases hready),fun k hk=>?_⟩;obtain⟨k0,ok,hok2,hall2⟩:=mem_ready.1 hk;have hks:=(Array.getElem?_eq_some_iff.1 hok2).1;rw[hld k hks,hl1]at k0;have hks2:k=s:=by
      by_cases e:k=s
      ·exact e
      ·exfalso
       have hkm:i+1≤k:=by simp at k0;omega
       have hcl2:=(hok k ok hok2).danc (fun j=>(listed.setIfInBounds i true).getD j false=true) hall2 (fun y hy j hj=>by
        rw[hl1]at hy⊢;simp at hy⊢;have hyd:=(hok y _ (l8_ (show y<ops.size by omega))).dlt j hj;refine⟨by omega,fun e2=>?_⟩;subst e2;rcases Nat.lt_or_ge y i with h3 | h3
        ·have:=hcl y (hT y ⟨h3,hy.2⟩) j hj;rw[hls0]at this;cases this
        ·have:y=i:=by omega
         subst this;have:=hDl j hj;rw[hls0]at this;cases this)
       have:=hcl2 s ((hok k ok hok2).tail hkm s (by omega));rw[hs1]at this;cases this
     subst hks2;unfold wpOp;simp only[hse];have hw:Region.wanted ops[k] (yielded ops a.tmps)=true:=by simp[Region.wanted,(hok k _ hse).guard]
     simp only[wpList,hw,if_true]at h⊢;have nxt2:∀ a w,wpList P ops Q (ops.toList.drop (i+1)) a w→wpAny P .any ops Q f ((listed.setIfInBounds i true).setIfInBounds k true) a w:=fun a w h =>
      K5_ hok f (i+1) _ a w (by omega) (by omega) (by simpa using hls) hl2 h
     rcases h with h | h
     ·exact .inl (Oper.wp_mono nxt2 h)
     ·exact .inr h
    unfold wpOp;simp only[ho];simp only[wpList,hwant,if_true]at h2⊢;rcases h2 with h | h
    ·exact .inl (Oper.wp_mono (fun a w h=>nxt a w (by simpa only[wpList] using h)) h)
    ·exact .inr h
   have hli:listed.getD i false=false:=by
    rw[←h0];simp[m2_,l8_ (show i<listed.size by omega)]
   have hpre:=hdo i o him ho x w hb (fun j hj=>⟨hkn j (hDl j hj),(hiv j (hDl j hj)).2.2⟩) (fun e b w'=>e = .normal∧∃ u,b=(c4_ ops a0 x.v i).put o.dst u∧(Below w.heap.size w w'∧(sp.getD i (.eq undef)).holds i (D.getD i []) (x.set i u w.heap.size w'.heap.size) w'))
    (fun u w' h1 h2=>⟨rfl,u,rfl,h1,h2⟩)
   have hnl:¬ LetsOut (fun (e:Exit) (b:Act) (w':World)=>e = .normal∧∃ u,b=(c4_ ops a0 x.v i).put o.dst u∧(Below w.heap.size w w'∧(sp.getD i (.eq undef)).holds i (D.getD i []) (x.set i u w.heap.size w'.heap.size) w')):=by
    rintro⟨b,w',h,_⟩;cases h
   simp only[wpList,hwant,if_true]at hpre;rcases hpre with hpre | hpre
   case inr=>exact absurd hpre.2 hnl
   simp only[true_and]at hpre;have hexec:execOp (actP ops a0 x.v (fun j=>listed.getD j false) ops.size).eval o=execOp (c4_ ops a0 x.v i).eval o:=by
    refine execOp_congr o (fun cs b=>Region.noSelect_spec hns i o cs b ho) fun y hx=>?_
    by_cases hxt:∃ t,y = .tmp t
    ·obtain⟨t,rfl⟩:=hxt;have hlook:t∈o.looksAt ops:=List.mem_append_left _ (List.mem_filterMap.2 ⟨.tmp t,by simpa using hx,rfl⟩);have e1:c4_ ops a0 x.v i=actP ops a0 x.v (fun j=>decide (j<i)) ops.size:=by
      rw[d8_ (p:=fun j=>decide (j<i)) ops.size i (by omega) (fun j h1 _=>by simp;omega)];exact (f0_ (p:=fun j=>decide (j<i)) i (fun j hj=>by simp[hj])).symm
     rw[e1];refine r5_ t ops.size fun j hj hd=>?_
     rcases hO.looks j t hd hlook with h | h
     ·rw[hDl j h];have:=hO.dlt j h;simp[this]
     ·have hlt:=(hok j _ (l8_ hj)).dlt i h;have:listed.getD j false=false:=by
       rcases hlj:listed.getD j false with _ | _
       ·rfl
       ·have:=hcl j hlj i h;rw[hli]at this;cases this
      rw[this];simp;omega
    ·exact r1_ y (fun t h=>hxt ⟨t,h⟩) _ _
   have hsz:(c4_ ops a0 x.v i).tmps.size=(actP ops a0 x.v (fun j=>listed.getD j false) ops.size).tmps.size:=by
    rw[g5_,←f0_ (p:=fun _=>true) i (fun _ _=>rfl),g5_]
   have hT:=o2_ (Q2:=Q) hexec hsz (fun c b w' h=>by cases h.1) hnl hpre;unfold wpOp;simp only[ho,hwant,if_true];refine .inl (Oper.wp_mono ?_ hT);rintro b w' ⟨u,rfl,hbw,hh⟩;have hdst:o.dst=j4_ ops i:=by simp[j4_,ho]
   have hlq:∀ j,(listed.setIfInBounds i true).getD j false=(listed.getD j false || j == i):=fun j=>by
    by_cases e:i=j
    ·subst e;simp[m2_,Array.getElem?_setIfInBounds,hls,his]
    ·rw[getD_set_ne _ e];simp[Ne.symm e]
   rw[hdst,u9_ (v':=(x.set i u w.heap.size w'.heap.size).v) (q:=fun j=>(listed.setIfInBounds i true).getD j false) (fun j hj _=>by simp[Gh.set,hj]) (by simp[Gh.set]) hli hlq (fun j d hij hlj hdj hdi=>by
    rcases hO.dsts j d (by omega) hdj hdi with h | h
    ·have:=hO.dlt j h;omega
    ·have:=hcl j hlj i h;rw[hli]at this;cases this) ops.size his]
   refine ih _ _ _ ?_ (by simpa using hls) (fun j hj=>by rw[hlq,hlm j hj];simp;omega) (fun k hk j hj=>?_) (hb.trans (hbw.mono hb.size)) (fun k hk=>?_) (fun k hk=>?_) (fun k j hk hj hkj=>?_)
   ·have:=J9_ (ops:=ops) his hli hls;omega
   ·rw[hlq]at hk⊢;simp only[Bool.or_eq_true,beq_iff_eq]at hk⊢;rcases hk with hk | rfl
    ·exact .inl (hcl k hk j hj)
    ·exact .inl (hDl j hj)
   ·rw[hlq]at hk;simp only[Bool.or_eq_true,beq_iff_eq]at hk;unfold k3_;by_cases e:k=i
    ·subst e;exact hh
    ·rcases hk with hk | hk
     ·refine NS.holds_congr (x:=x) (fun j hj=>?_) (NS.holds_stable (hst' k) (hkn k hk) hbw);have hji:j≠i:=by
       rcases hj with rfl | hj
       ·exact e
       ·rintro rfl;have:=hcl k hk j hj;rw[hli]at this;cases this
      simp[Gh.set,hji]
     ·exact absurd hk e
   ·rw[hlq]at hk;simp only[Bool.or_eq_true,beq_iff_eq]at hk;by_cases e:k=i
    ·subst e;simp only[Gh.set,if_true];exact⟨hb.size,hbw.size,l_ _⟩
    ·have:=hiv k (hk.resolve_right e);have:=hbw.size;simp only[Gh.set,if_neg e];omega
   ·rw[hlq]at hk hj;simp only[Bool.or_eq_true,beq_iff_eq]at hk hj;by_cases e:k=i
    ·subst e;have:=hiv j (hj.resolve_right (Ne.symm hkj));simp only[Gh.set,if_true,if_neg (Ne.symm hkj)];exact .inr (by omega)
    ·by_cases e':j=i
     ·subst e';have:=hiv k (hk.resolve_right e);simp only[Gh.set,if_true,if_neg e];exact .inl (by omega)
     ·simp only[Gh.set,if_neg e,if_neg e'];exact hdj k j (hk.resolve_right e) (hj.resolve_right e') hkj
def f4Q (ops:Array Oper) (D:List (List Nat)) (m s:Nat):Bool:=netB ops D (m+1) && (decide (m<ops.size) && decide (s<m) && (List.range m).all fun j=>j == s || (D.getD m []).contains j)
theorem k9_ {id:Nat} {l:List Oper} {w:World} (hmo:P.follows .mixedOrders=true) (sp:List NS) (D:List (List Nat)) (m s:Nat) (L:List Nat) (hB:f4Q l.toArray D m s=true) (hL:L=(List.range m).filter (fun j=>j != s)) (hst:t7_ sp)
  (hdo:U0_ P l.toArray sp D a0 w 0 (l.take m))
  (hend:∀ x w',Below w.heap.size w w'→(∀ i,i<m→k3_ sp D x i w')→(∀ i,i<m→w.heap.size≤x.lo i∧x.lo i≤x.hi i∧x.hi i≤w'.heap.size)→(∀ i j,i<m→j<m→i≠j→x.hi i≤x.lo j∨x.hi j≤x.lo i)→wpList P l.toArray Q (l.drop m) (c4_ l.toArray a0 x.v m) w')
  (hend2:∀ x w',Below w.heap.size w w'→(∀ i,i<m∧i≠s→k3_ sp D x i w')→(∀ i,i<m∧i≠s→w.heap.size≤x.lo i∧x.lo i≤x.hi i∧x.hi i≤w'.heap.size)→(∀ i j,i<m∧i≠s→j<m∧j≠s→i≠j→x.hi i≤x.lo j∨x.hi j≤x.lo i)→∀ om os,l[m]?=some om→l[s]?=some os→wpList P l.toArray Q (om :: os :: l.drop (m+1)) (L.foldl (fun a k=>a.put (j4_ l.toArray k) (x.v k)) a0) w'):(Code.region id l.toArray true).wp P Q a0 w:=by
 replace hst:=m4_ hst;subst hL;simp only[f4Q,l9_,decide_eq_true_eq,List.all_eq_true,List.mem_range,Bool.or_eq_true,beq_iff_eq,List.contains_iff_mem,List.contains_eq_mem]at hB;obtain⟨hB,⟨hms,hsm⟩,hDm⟩:=hB;have hdo:∀ i o,i<m→l[i]?=some o→U2_ P l.toArray sp D a0 w.drew i o:=fun i o hi ho=>by
  have:=u5_ (l.take m) 0 hdo i o (by rw[List.getElem?_take,if_pos hi];exact ho);rw[Nat.zero_add]at this;exact fun v w1 hb=>this v w1 ⟨hb.os,hb.tape,hb.output,hb.size,hb.block⟩
 refine wp_region_any hmo ?_;have h:=c4Q (w0:=w.drew) (a0:=a0) (Q:=Q) (P:=P) (sp:=sp) (s:=s) hB hms hsm (fun j hj hne=>(hDm j hj).resolve_left hne) hst (fun i o hi ho=>hdo i o hi (by simpa using ho)) (fun x w' hb hk hiv hdj=>by simpa using hend x w' (show Below w.heap.size w w' from ⟨hb.os,hb.tape,hb.output,hb.size,hb.block⟩) hk hiv hdj)
  (fun x w' hb hk hiv hdj om os hom hos=>by rw[T5_];simpa using hend2 x w' (show Below w.heap.size w w' from ⟨hb.os,hb.tape,hb.output,hb.size,hb.block⟩) hk hiv hdj om os (by simpa using hom) (by simpa using hos))
  l.toArray.size (Array.replicate l.toArray.size false) ⟨fun _=>undef,fun _=>0,fun _=>0⟩ w.drew
  (by rw[List.filter_eq_self.2 (fun j _=>by rw[b3_];rfl),List.length_range])
  (by simp) (fun j _=>b3_ _ _)
  (fun i hi=>by rw[b3_]at hi;cases hi)
  br_
  (fun i hi=>by rw[b3_]at hi;cases hi)
  (fun i hi=>by rw[b3_]at hi;cases hi)
  (fun i j hi=>by rw[b3_]at hi;cases hi)
 have e:actP l.toArray a0 (fun _=>undef) (fun j=>(Array.replicate l.toArray.size false).getD j false) l.toArray.size=a0 :=
  d8_ l.toArray.size 0 (by omega) (fun j _ _=>b3_ _ _)
 rw[e]at h;exact h
end
def QB (w:World) (d:Nat):Prop:=∃ (P V:Int) (A:Option Addr) (nf a:Nat) (C:Option Addr) (nt cc:Nat) (E:Option Addr) (nd ee:Nat) (H:Option Addr) (nm h:Nat),Blk w d 29 #[.int .i64 P,.int .i64 V,.slice A nf a,.slice C nt cc,.slice E nd ee,.slice H nm h]
structure Cd (c d:Nat) (fin:Array Value) (w w':World):Prop where
 os:w'.os=w.os
 tape:w'.tape=w.tape
 output:w'.output=w.output
 size:w.heap.size≤w'.heap.size
 block:∀ k,k<w.heap.size→k≠c∧k≠d→w'.heap[k]?=w.heap[k]?
 keep:Cur w c→Cur w' c
 keepD:Blk w d 29 fin→Blk w' d 29 fin
 keepE:QB w d→QB w' d
theorem Cd.refl (c d:Nat) (fin:Array Value) (w:World):Cd c d fin w w:=⟨rfl,rfl,rfl,l_ _,fun _ _ _=>rfl,id,id,id⟩
theorem Cd.trans {c d:Nat} {fin:Array Value} {w w' w'':World} (h:Cd c d fin w w') (k:Cd c d fin w' w''):Cd c d fin w w'' :=
 ⟨k.os.trans h.os,k.tape.trans h.tape,k.output.trans h.output,Nat.le_trans h.size k.size,fun i hi hne=>(k.block i (Nat.lt_of_lt_of_le hi h.size) hne).trans (h.block i hi hne),fun h0=>k.keep (h.keep h0),fun h0=>k.keepD (h.keepD h0),fun h0=>k.keepE (h.keepE h0)⟩
theorem Cd.of_ck {c d:Nat} {fin:Array Value} {w w':World} (h:Ck c w w') (hd:d≠c):Cd c d fin w w' :=
 ⟨h.os,h.tape,h.output,h.size,fun k hk hn=>h.block k hk hn.1,h.keep,fun hB=>hB.ck h hd,fun ⟨P,V,A,nf,a,C,nt,cc,E,nd,ee,H,nm,hh,hB⟩=>⟨P,V,A,nf,a,C,nt,cc,E,nd,ee,H,nm,hh,hB.ck h hd⟩⟩
theorem Blk.cd {c d g:Nat} {fin:Array Value} {w w':World} {t:TypeId} {cs:Array Value} (h:Blk w g t cs) (k:Cd c d fin w w') (hc:g≠c) (hd:g≠d):Blk w' g t cs:=(k.block g h.lt ⟨hc,hd⟩).trans h
theorem Cd.low {c d:Nat} {fin:Array Value} {w w':World} {B:Nat} (h:Cd c d fin w w') (h1:B≤c) (h2:B≤d) (hs:B≤w.heap.size):Below B w w':=⟨h.os,h.tape,h.output,h.size,fun k hk=>h.block k (by omega) ⟨by omega,by omega⟩⟩
theorem Cd.chg {c d:Nat} {fin:Array Value} {w w':World} (h:Cd c d fin w w') {hi:Nat} (h1:c<hi) (h2:d<hi):Chg 0 hi w w':=⟨h.os,h.tape,h.output,h.size,fun k hk hn=>h.block k hk (by omega)⟩
def NS.stableD (s:NS) (kc kd:Nat) (kf:Array Value):Prop :=
 match s with
 | .eq _=>True
 | .rel R=>∀ x w w',R x w→Cd kc kd kf w w'→R x w'
theorem NS.holds_stableD {kc kd:Nat} {kf:Array Value} {s:NS} (h:s.stableD kc kd kf) {i:Nat} {D:List Nat} {x:Gh} {w w':World} (hh:s.holds i D x w) (hb:Cd kc kd kf w w'):s.holds i D x w':=by
 cases s with
 | eq f=>exact hh
 | rel R=>exact h _ _ _ hh hb
section
variable {P:Program}
section
variable {ops:Array Oper} {Q:Exit→Act→World→Prop} {sp:List NS} {D:List (List Nat)} {m:Nat} {a0:Act} {w0:World}
def a0Q (kc kd:Nat) (kf:Array Value) (P:Program) (ops:Array Oper) (sp:List NS) (D:List (List Nat)) (a0:Act) (w0:World) (i:Nat) (o:Oper):Prop :=
 ∀ (x:Gh) (w:World),Cd kc kd kf w0 w→(∀ j∈D.getD i [],k3_ sp D x j w∧x.hi j≤w.heap.size)→∀ Q':Exit→Act→World→Prop,
  (∀ u w',Cd kc kd kf w w'→(sp.getD i (.eq undef)).holds i (D.getD i []) (x.set i u w.heap.size w'.heap.size) w'→Q' .normal ((c4_ ops a0 x.v i).put o.dst u) w')→wpList P ops Q' [o] (c4_ ops a0 x.v i) w
theorem c7Q {kc kd:Nat} {kf:Array Value} (hB:netB ops D m=true) (hst:∀ s∈sp,s.stableD kc kd kf) (hdo:∀ i o,i<m→ops[i]?=some o→a0Q kc kd kf P ops sp D a0 w0 i o)
  (hend:∀ x w,Cd kc kd kf w0 w→(∀ i,i<m→k3_ sp D x i w)→(∀ i,i<m→w0.heap.size≤x.lo i∧x.lo i≤x.hi i∧x.hi i≤w.heap.size)→(∀ i j,i<m→j<m→i≠j→x.hi i≤x.lo j∨x.hi j≤x.lo i)→wpList P ops Q (ops.toList.drop m) (c4_ ops a0 x.v m) w) :
  ∀ (fuel:Nat) (listed:Array Bool) (x:Gh) (w:World),((List.range ops.size).filter fun j=>!listed.getD j false).length=fuel→listed.size=ops.size→(∀ j,m≤j→listed.getD j false=false) →
   (∀ i,listed.getD i false=true→∀ j∈D.getD i [],listed.getD j false=true)→Cd kc kd kf w0 w→(∀ i,listed.getD i false=true→k3_ sp D x i w)→(∀ i,listed.getD i false=true→w0.heap.size≤x.lo i∧x.lo i≤x.hi i∧x.hi i≤w.heap.size) →
   (∀ i j,listed.getD i false=true→listed.getD j false=true→i≠j→x.hi i≤x.lo j∨x.hi j≤x.lo i) →
   wpAny P .any ops Q fuel listed (actP ops a0 x.v (fun j=>listed.getD j false) ops.size) w:=by
 simp only[netB,l9_,decide_eq_true_eq]at hB;obtain⟨⟨hm,hns⟩,hnf⟩:=hB;have hok:∀ i o,ops[i]?=some o→NetOk ops D m i o:=fun i o ho=>t5_ (by
  have:=n5_ ops.toList 0 hnf i o (by simpa using ho);simpa using this)
 have hst':∀ i,(sp.getD i (.eq undef)).stableD kc kd kf:=fun i=>by
  rw[l1_];rcases h:sp[i]? with _ | s
  ·trivial
  ·exact hst s (l4_ h)
 intro fuel;induction fuel with
 | zero =>
  intro listed x w hc hls hlm hcl hb hkn hiv hdj;have hall:∀ j,j<ops.size→listed.getD j false=true:=fun j hj=>by
   rw[List.length_eq_zero_iff,List.filter_eq_nil_iff]at hc;have:=hc j (List.mem_range.2 hj);simpa using this
  have hms:m=ops.size:=by
   rcases Nat.lt_or_ge m ops.size with h | h
   ·have:=hall m h;rw[hlm m (l_ _)]at this;cases this
   ·omega
  refine q3_ hok 0 ops.size listed _ w (by omega) (by omega) hls (fun j=>?_) ?_
  ·by_cases hj:j<ops.size
   ·rw[hall j hj];simp[hj]
   ·rw[hlm j (by omega)];simp[hj]
  ·have:=hend x w hb (fun i hi=>hkn i (hall i (by omega))) (fun i hi=>hiv i (hall i (by omega))) (fun i j hi hj=>hdj i j (hall i (by omega)) (hall j (by omega)));rw[←f0_ (p:=fun j=>listed.getD j false) m (fun j hj=>hall j (by omega))]at this;rwa[hms]at this
 | succ fuel ih =>
  intro listed x w hc hls hlm hcl hb hkn hiv hdj;by_cases hfull:∀ j,j<m→listed.getD j false=true
  · -- the tail
   have hl:∀ j,listed.getD j false=decide (j<m):=fun j=>by
    by_cases hj:j<m
    ·rw[hfull j hj];simp[hj]
    ·rw[hlm j (by omega)];simp[hj]
   have hcnt:fuel+1+m=ops.size:=by
    rw[←hc];have e:(List.range ops.size).filter (fun j=>!listed.getD j false)=(List.range' m (ops.size-m)):=by
     have e1:(List.range ops.size)=List.range m ++ List.range' m (ops.size-m):=by
      have h:=List.range'_append_1 (s:=0) (m:=m) (n:=ops.size-m);rw[Nat.zero_add]at h;rw[List.range_eq_range',List.range_eq_range',h];congr 1
      omega
     rw[e1,List.filter_append];rw[List.filter_eq_nil_iff.2 (fun j hj=>by rw[hl];simp at hj⊢;exact hj),List.nil_append];rw[List.filter_eq_self.2 (fun j hj=>by rw[hl];simp[List.mem_range']at hj⊢;omega)]
    rw[e,List.length_range'];omega
   refine q3_ hok (fuel+1) m listed _ w (by omega) (l_ _) hls hl ?_;have:=hend x w hb (fun i hi=>hkn i (hfull i hi)) (fun i hi=>hiv i (hfull i hi)) (fun i j hi hj=>hdj i j (hfull i hi) (hfull j hj));rw[←f0_ (p:=fun j=>listed.getD j false) m hfull]at this;rwa[d8_ (p:=fun j=>listed.getD j false) ops.size m hm (fun j h1 _=>hlm j h1)]
  · -- one of the net
   have hne:Region.ready .any ops listed≠[]:=by
    intro h0;have:∀ n,∀ j,j<n→j<m→listed.getD j false=true:=by
     intro n;induction n with
     | zero=>intro j hj;omega
     | succ n ihn =>
      intro j hj hjm;by_cases e:j<n
      ·exact ihn j e hjm
      ·rcases hlj:listed.getD j false with _ | _
       ·exfalso
        have hjs:j<ops.size:=by omega
        have hje:=l8_ hjs;have:j∈Region.ready .any ops listed:=mem_ready.2 ⟨by
         rw[←hlj];simp[m2_,l8_ (show j<listed.size by omega)],_,hje,fun e he hb=>by
         have:=(hok j _ hje).direct e he hb;exact ihn e.on (by omega) (by omega)⟩
        rw[h0]at this;cases this
       ·rfl
    exact hfull fun j hj=>this (j+1) j (by omega) hj
   refine⟨fun h0=>absurd h0 hne,fun i hi=>?_⟩;obtain⟨h0,o,ho,hall⟩:=mem_ready.1 hi;have his:=(Array.getElem?_eq_some_iff.1 ho).1;have hO:=hok i o ho;have hDl:∀ j∈D.getD i [],listed.getD j false=true:=hO.danc (fun j=>listed.getD j false=true) hall (fun k hk j hj=>hcl k hk j hj);have him:i<m:=by
    rcases Nat.lt_or_ge i m with h | h
    ·exact h
    ·exact absurd (fun j hj=>hDl j (hO.tail h j (by omega))) hfull
   have hli:listed.getD i false=false:=by
    rw[←h0];simp[m2_,l8_ (show i<listed.size by omega)]
   have hpre:=hdo i o him ho x w hb (fun j hj=>⟨hkn j (hDl j hj),(hiv j (hDl j hj)).2.2⟩) (fun e b w'=>e = .normal∧∃ u,b=(c4_ ops a0 x.v i).put o.dst u∧(Cd kc kd kf w w'∧(sp.getD i (.eq undef)).holds i (D.getD i []) (x.set i u w.heap.size w'.heap.size) w'))
    (fun u w' h1 h2=>⟨rfl,u,rfl,h1,h2⟩)
   have hwant:∀ b:Act,Region.wanted o (yielded ops b.tmps)=true:=fun b=>by simp[Region.wanted,hO.guard]
   have hnl:¬ LetsOut (fun (e:Exit) (b:Act) (w':World)=>e = .normal∧∃ u,b=(c4_ ops a0 x.v i).put o.dst u∧(Cd kc kd kf w w'∧(sp.getD i (.eq undef)).holds i (D.getD i []) (x.set i u w.heap.size w'.heap.size) w')):=by
    rintro⟨b,w',h,_⟩;cases h
   simp only[wpList,hwant,if_true]at hpre;rcases hpre with hpre | hpre
   case inr=>exact absurd hpre.2 hnl
   simp only[true_and]at hpre;have hexec:execOp (actP ops a0 x.v (fun j=>listed.getD j false) ops.size).eval o=execOp (c4_ ops a0 x.v i).eval o:=by
    refine execOp_congr o (fun cs b=>Region.noSelect_spec hns i o cs b ho) fun y hx=>?_
    by_cases hxt:∃ t,y = .tmp t
    ·obtain⟨t,rfl⟩:=hxt;have hlook:t∈o.looksAt ops:=List.mem_append_left _ (List.mem_filterMap.2 ⟨.tmp t,by simpa using hx,rfl⟩);have e1:c4_ ops a0 x.v i=actP ops a0 x.v (fun j=>decide (j<i)) ops.size:=by
      rw[d8_ (p:=fun j=>decide (j<i)) ops.size i (by omega) (fun j h1 _=>by simp;omega)];exact (f0_ (p:=fun j=>decide (j<i)) i (fun j hj=>by simp[hj])).symm
     rw[e1];refine r5_ t ops.size fun j hj hd=>?_
     rcases hO.looks j t hd hlook with h | h
     ·rw[hDl j h];have:=hO.dlt j h;simp[this]
     ·have hlt:=(hok j _ (l8_ hj)).dlt i h;have:listed.getD j false=false:=by
       rcases hlj:listed.getD j false with _ | _
       ·rfl
       ·have:=hcl j hlj i h;rw[hli]at this;cases this
      rw[this];simp;omega
    ·exact r1_ y (fun t h=>hxt ⟨t,h⟩) _ _
   have hsz:(c4_ ops a0 x.v i).tmps.size=(actP ops a0 x.v (fun j=>listed.getD j false) ops.size).tmps.size:=by
    rw[g5_,←f0_ (p:=fun _=>true) i (fun _ _=>rfl),g5_]
   have hT:=o2_ (Q2:=Q) hexec hsz (fun c b w' h=>by cases h.1) hnl hpre;unfold wpOp;simp only[ho,hwant,if_true];refine .inl (Oper.wp_mono ?_ hT);rintro b w' ⟨u,rfl,hbw,hh⟩;have hdst:o.dst=j4_ ops i:=by simp[j4_,ho]
   have hlq:∀ j,(listed.setIfInBounds i true).getD j false=(listed.getD j false || j == i):=fun j=>by
    by_cases e:i=j
    ·subst e;simp[m2_,Array.getElem?_setIfInBounds,hls,his]
    ·rw[getD_set_ne _ e];simp[Ne.symm e]
   rw[hdst,u9_ (v':=(x.set i u w.heap.size w'.heap.size).v) (q:=fun j=>(listed.setIfInBounds i true).getD j false) (fun j hj _=>by simp[Gh.set,hj]) (by simp[Gh.set]) hli hlq (fun j d hij hlj hdj hdi=>by
    rcases hO.dsts j d (by omega) hdj hdi with h | h
    ·have:=hO.dlt j h;omega
    ·have:=hcl j hlj i h;rw[hli]at this;cases this) ops.size his]
   refine ih _ _ _ ?_ (by simpa using hls) (fun j hj=>by rw[hlq,hlm j hj];simp;omega) (fun k hk j hj=>?_) (hb.trans hbw) (fun k hk=>?_) (fun k hk=>?_) (fun k j hk hj hkj=>?_)
   · -- the count
    have hmem:i∈(List.range ops.size).filter fun j=>!listed.getD j false:=by
     rw[List.mem_filter];exact⟨List.mem_range.2 his,by rw[hli];rfl⟩
    have e:(List.range ops.size).filter (fun j=>!(listed.setIfInBounds i true).getD j false)=((List.range ops.size).filter fun j=>!listed.getD j false).filter (fun j=>j != i):=by
     rw[List.filter_filter];congr 1
     funext j
     rw[hlq];simp[Bool.not_or,Bool.and_comm,bne]
    have hnd:((List.range ops.size).filter fun j=>!listed.getD j false).Nodup:=List.nodup_range.filter _;rw[e];have:=List.length_erase_of_mem hmem;rw[hnd.erase_eq_filter,hc]at this;simpa using this
   ·rw[hlq]at hk⊢;simp only[Bool.or_eq_true,beq_iff_eq]at hk⊢;rcases hk with hk | rfl
    ·exact .inl (hcl k hk j hj)
    ·exact .inl (hDl j hj)
   ·rw[hlq]at hk;simp only[Bool.or_eq_true,beq_iff_eq]at hk;unfold k3_;by_cases e:k=i
    ·subst e;exact hh
    ·rcases hk with hk | hk
     ·refine NS.holds_congr (x:=x) (fun j hj=>?_) (NS.holds_stableD (hst' k) (hkn k hk) hbw);have hji:j≠i:=by
       rcases hj with rfl | hj
       ·exact e
       ·rintro rfl;have:=hcl k hk j hj;rw[hli]at this;cases this
      simp[Gh.set,hji]
     ·exact absurd hk e
   ·rw[hlq]at hk;simp only[Bool.or_eq_true,beq_iff_eq]at hk;by_cases e:k=i
    ·subst e;simp only[Gh.set,if_true];exact⟨hb.size,hbw.size,l_ _⟩
    ·have:=hiv k (hk.resolve_right e);have:=hbw.size;simp only[Gh.set,if_neg e];omega
   ·rw[hlq]at hk hj;simp only[Bool.or_eq_true,beq_iff_eq]at hk hj;by_cases e:k=i
    ·subst e;have:=hiv j (hj.resolve_right (Ne.symm hkj));simp only[Gh.set,if_true,if_neg (Ne.symm hkj)];exact .inr (by omega)
    ·by_cases e':j=i
     ·subst e';have:=hiv k (hk.resolve_right e);simp only[Gh.set,if_true,if_neg e];exact .inl (by omega)
     ·simp only[Gh.set,if_neg e,if_neg e'];exact hdj k j (hk.resolve_right e) (hj.resolve_right e') hkj
def E8_ (kc kd:Nat) (kf:Array Value):List NS→Prop
 | []=>True
 | s :: l=>s.stableD kc kd kf∧E8_ kc kd kf l
theorem x7_ {kc kd:Nat} {kf:Array Value}:∀ {l:List NS},E8_ kc kd kf l→∀ s∈l,s.stableD kc kd kf
 | [],_,s,hs=>by simp at hs
 | a :: l,h,s,hs=>by
  rcases List.mem_cons.1 hs with rfl | hs
  ·exact h.1
  ·exact x7_ h.2 s hs
def Y2_ (kc kd:Nat) (kf:Array Value) (P:Program) (ops:Array Oper) (sp:List NS) (D:List (List Nat)) (a0:Act) (w0:World):Nat→List Oper→Prop
 | _,[]=>True
 | i,o :: l=>a0Q kc kd kf P ops sp D a0 w0 i o∧Y2_ kc kd kf P ops sp D a0 w0 (i+1) l
theorem F8_ {kc kd:Nat} {kf:Array Value} {ops:Array Oper} {sp:List NS} {D:List (List Nat)} {a0:Act} {w0:World}:∀ (l:List Oper) (k:Nat),Y2_ kc kd kf P ops sp D a0 w0 k l→∀ j o,l[j]?=some o→a0Q kc kd kf P ops sp D a0 w0 (k+j) o
 | [],_,_,_,_,h=>by simp at h
 | x :: l,k,h,0,o,hj=>by
  simp at hj;subst hj;exact h.1
 | x :: l,k,h,j+1,o,hj=>by
  have:=F8_ l (k+1) h.2 j o (by simpa using hj);rwa[show k+1+j=k+(j+1) by omega]at this
theorem m9_ {kc kd:Nat} {kf:Array Value} {i:Nat} {R:Value→Nat→Nat→World→Prop} (h:∀ u lo hi w w',R u lo hi w→Cd kc kd kf w w'→R u lo hi w'):(rel i R).stableD kc kd kf:=fun v w w' hr hb=>h _ _ _ _ _ hr hb
theorem t1_ (kc kd:Nat) (kf:Array Value) {id:Nat} {l:List Oper} {w:World} (hmo:P.follows .mixedOrders=true) (sp:List NS) (D:List (List Nat)) (m:Nat) (hB:netB l.toArray D m=true) (hst:E8_ kc kd kf sp)
  (hdo:Y2_ kc kd kf P l.toArray sp D a0 w 0 (l.take m))
  (hend:∀ x w',Cd kc kd kf w w'→(∀ i,i<m→k3_ sp D x i w')→(∀ i,i<m→w.heap.size≤x.lo i∧x.lo i≤x.hi i∧x.hi i≤w'.heap.size)→(∀ i j,i<m→j<m→i≠j→x.hi i≤x.lo j∨x.hi j≤x.lo i)→wpList P l.toArray Q (l.drop m) (c4_ l.toArray a0 x.v m) w'):(Code.region id l.toArray true).wp P Q a0 w:=by
 replace hst:=x7_ hst;have hdo:∀ i o,i<m→l[i]?=some o→a0Q kc kd kf P l.toArray sp D a0 w.drew i o:=fun i o hi ho=>by
  have:=F8_ (l.take m) 0 hdo i o (by rw[List.getElem?_take,if_pos hi];exact ho);rw[Nat.zero_add]at this;exact fun v w1 hb=>this v w1 ⟨hb.os,hb.tape,hb.output,hb.size,hb.block,hb.keep,hb.keepD,hb.keepE⟩
 refine wp_region_any hmo ?_;have h:=c7Q (w0:=w.drew) (a0:=a0) (Q:=Q) (P:=P) (sp:=sp) hB hst (fun i o hi ho=>hdo i o hi (by simpa using ho)) (fun x w' hb hk hiv hdj=>by simpa using hend x w' (show Cd kc kd kf w w' from ⟨hb.os,hb.tape,hb.output,hb.size,hb.block,hb.keep,hb.keepD,hb.keepE⟩) hk hiv hdj)
  l.toArray.size (Array.replicate l.toArray.size false) ⟨fun _=>undef,fun _=>0,fun _=>0⟩ w.drew
  (by rw[List.filter_eq_self.2 (fun j _=>by rw[b3_];rfl),List.length_range])
  (by simp) (fun j _=>b3_ _ _)
  (fun i hi=>by rw[b3_]at hi;cases hi)
  (Cd.refl _ _ _ _)
  (fun i hi=>by rw[b3_]at hi;cases hi)
  (fun i hi=>by rw[b3_]at hi;cases hi)
  (fun i j hi=>by rw[b3_]at hi;cases hi)
 have e:actP l.toArray a0 (fun _=>undef) (fun j=>(Array.replicate l.toArray.size false).getD j false) l.toArray.size=a0 :=
  d8_ l.toArray.size 0 (by omega) (fun j _ _=>b3_ _ _)
 rw[e]at h;exact h
end
end
theorem i6_ (u:Value) (xs:List Int) (v:Int) (w:World) (hu:SlI w w.heap.size u xs) :
  Calls Tryz.prog 64 #[u,.int .i64 v] w fun e w'=>e = .returned (.bool (decide (v∈xs)))∧Below w.heap.size w w':=by
 obtain⟨A,c,rfl,_,_,hn,hx⟩:=hu.open_;clear hu;go_enter Tryz.func64,Tryz.ntmps64
 go_wp2;go_loopw [5] (fun i wr=>∃ k m:Nat,k≤xs.length∧i = .int .i64 k∧wr=w.drewN m∧Hid (∀ y∈xs.take k,y≠v)) (fun i _=>xs.length-(intOf i).toNat)
 case atStart=>exact⟨0,0,l0_ _,rfl,rfl,by intro y hy;simp at hy⟩
 case round =>
  obtain⟨k,m,hk,rfl,rfl,hno⟩:=hrel;by_cases hlt:k<xs.length
  ·obtain⟨b,o,x,rfl,hb,HX,c1,_⟩:=SlI.at_ hx hlt;clear hx;rcases hvx:(x == v) with _ | _
   ·go_wp2;go_roundw
    case rel =>
     refine⟨k+1,m,by omega,by go_num,rfl,fun y hy=>?_⟩;rw[c8_ HX.out,List.mem_append,List.mem_singleton]at hy;rcases hy with hy | rfl
     ·exact hno.out y hy
     ·simpa using hvx
    case measure=>simp[intOf];omega
   ·have hfin:Hid (decide (v∈xs)=true):=by
     show _=_;rw[beq_iff_eq]at hvx;subst hvx;simpa using l4_ HX.out
    go_wp2;go_ret
    exact⟨by rw[hfin.out];rfl,f5_ _ _ _⟩
  ·go_wp2;go_ret
   have h1:=hno.out;rw[l7_ (by omega)]at h1;have:decide (v∈xs)=false:=by simp;exact fun h=>h1 v h rfl
   exact⟨by rw[this];rfl,f5_ _ _ _⟩
section
variable {P:Program}
section
variable {ops:Array Oper} {Q:Exit→Act→World→Prop} {sp:List NS} {D N:List (List Nat)} {m g:Nat} {a0:Act} {w0:World} {E:Nat→Bool}
def a2J (P:Program) (ops:Array Oper) (sp:List NS) (D N:List (List Nat)) (g:Nat) (a0:Act) (w0:World) (i:Nat) (o:Oper):Prop :=
 ∀ (x:Gh) (w:World),Below w0.heap.size w0 w→(∀ j∈N.getD i [],k3_ sp D x j w∧x.hi j≤w.heap.size)→∀ Q':Exit→Act→World→Prop,
  (∀ u w',Below (bif i == g then w0.heap.size else w.heap.size) w w'→(sp.getD i (.eq undef)).holds i (D.getD i []) (x.set i u w.heap.size w'.heap.size) w'→Q' .normal ((c4_ ops a0 x.v i).put o.dst u) w')→wpList P ops Q' [o] (c4_ ops a0 x.v i) w
theorem c6j (hB:netB ops D m=true) (hst:∀ s∈sp,s.stable) (hgm:g<m) (hE:∀ i,E i=true→i=g∨g∈D.getD i []∨∃ u,sp.getD i (.eq undef) = .eq u) (hN:∀ i,i<m→∀ j∈N.getD i [],j∈D.getD i []∧(i=g∨i∈D.getD g []∨E j=true)) (hdo:∀ i o,i<m→ops[i]?=some o→a2J P ops sp D N g a0 w0 i o)
  (hend:∀ x w,Below w0.heap.size w0 w→(∀ i,i<m→E i=true→k3_ sp D x i w)→(∀ i,i<m→w0.heap.size≤x.lo i∧x.lo i≤x.hi i∧x.hi i≤w.heap.size)→(∀ i j,i<m→j<m→i≠j→x.hi i≤x.lo j∨x.hi j≤x.lo i)→wpList P ops Q (ops.toList.drop m) (c4_ ops a0 x.v m) w) :
  ∀ (fuel:Nat) (listed:Array Bool) (x:Gh) (w:World),((List.range ops.size).filter fun j=>!listed.getD j false).length=fuel→listed.size=ops.size→(∀ j,m≤j→listed.getD j false=false) →
   (∀ i,listed.getD i false=true→∀ j∈D.getD i [],listed.getD j false=true)→Below w0.heap.size w0 w→(∀ i,listed.getD i false=true→listed.getD g false=false∨E i=true→k3_ sp D x i w)→(∀ i,listed.getD i false=true→w0.heap.size≤x.lo i∧x.lo i≤x.hi i∧x.hi i≤w.heap.size) →
   (∀ i j,listed.getD i false=true→listed.getD j false=true→i≠j→x.hi i≤x.lo j∨x.hi j≤x.lo i) →
   wpAny P .any ops Q fuel listed (actP ops a0 x.v (fun j=>listed.getD j false) ops.size) w:=by
 simp only[netB,l9_,decide_eq_true_eq]at hB;obtain⟨⟨hm,hns⟩,hnf⟩:=hB;have hok:∀ i o,ops[i]?=some o→NetOk ops D m i o:=fun i o ho=>t5_ (by
  have:=n5_ ops.toList 0 hnf i o (by simpa using ho);simpa using this)
 have hst':∀ i,(sp.getD i (.eq undef)).stable:=fun i=>by
  rw[l1_];rcases h:sp[i]? with _ | s
  ·trivial
  ·exact hst s (l4_ h)
 intro fuel;induction fuel with
 | zero =>
  intro listed x w hc hls hlm hcl hb hkn hiv hdj;have hall:∀ j,j<ops.size→listed.getD j false=true:=fun j hj=>by
   rw[List.length_eq_zero_iff,List.filter_eq_nil_iff]at hc;have:=hc j (List.mem_range.2 hj);simpa using this
  have hms:m=ops.size:=by
   rcases Nat.lt_or_ge m ops.size with h | h
   ·have:=hall m h;rw[hlm m (l_ _)]at this;cases this
   ·omega
  refine q3_ hok 0 ops.size listed _ w (by omega) (by omega) hls (fun j=>?_) ?_
  ·by_cases hj:j<ops.size
   ·rw[hall j hj];simp[hj]
   ·rw[hlm j (by omega)];simp[hj]
  ·have:=hend x w hb (fun i hi he=>hkn i (hall i (by omega)) (.inr he)) (fun i hi=>hiv i (hall i (by omega))) (fun i j hi hj=>hdj i j (hall i (by omega)) (hall j (by omega)));rw[←f0_ (p:=fun j=>listed.getD j false) m (fun j hj=>hall j (by omega))]at this;rwa[hms]at this
 | succ fuel ih =>
  intro listed x w hc hls hlm hcl hb hkn hiv hdj;by_cases hfull:∀ j,j<m→listed.getD j false=true
  · -- the tail
   have hl:∀ j,listed.getD j false=decide (j<m):=fun j=>by
    by_cases hj:j<m
    ·rw[hfull j hj];simp[hj]
    ·rw[hlm j (by omega)];simp[hj]
   have hcnt:fuel+1+m=ops.size:=by
    rw[←hc];have e:(List.range ops.size).filter (fun j=>!listed.getD j false)=(List.range' m (ops.size-m)):=by
     have e1:(List.range ops.size)=List.range m ++ List.range' m (ops.size-m):=by
      have h:=List.range'_append_1 (s:=0) (m:=m) (n:=ops.size-m);rw[Nat.zero_add]at h;rw[List.range_eq_range',List.range_eq_range',h];congr 1
      omega
     rw[e1,List.filter_append];rw[List.filter_eq_nil_iff.2 (fun j hj=>by rw[hl];simp at hj⊢;exact hj),List.nil_append];rw[List.filter_eq_self.2 (fun j hj=>by rw[hl];simp[List.mem_range']at hj⊢;omega)]
    rw[e,List.length_range'];omega
   refine q3_ hok (fuel+1) m listed _ w (by omega) (l_ _) hls hl ?_;have:=hend x w hb (fun i hi he=>hkn i (hfull i hi) (.inr he)) (fun i hi=>hiv i (hfull i hi)) (fun i j hi hj=>hdj i j (hfull i hi) (hfull j hj));rw[←f0_ (p:=fun j=>listed.getD j false) m hfull]at this;rwa[d8_ (p:=fun j=>listed.getD j false) ops.size m hm (fun j h1 _=>hlm j h1)]
  · -- one of the net
   have hne:Region.ready .any ops listed≠[]:=by
    intro h0;have:∀ n,∀ j,j<n→j<m→listed.getD j false=true:=by
     intro n;induction n with
     | zero=>intro j hj;omega
     | succ n ihn =>
      intro j hj hjm;by_cases e:j<n
      ·exact ihn j e hjm
      ·rcases hlj:listed.getD j false with _ | _
       ·exfalso
        have hjs:j<ops.size:=by omega
        have hje:=l8_ hjs;have:j∈Region.ready .any ops listed:=mem_ready.2 ⟨by
         rw[←hlj];simp[m2_,l8_ (show j<listed.size by omega)],_,hje,fun e he hb=>by
         have:=(hok j _ hje).direct e he hb;exact ihn e.on (by omega) (by omega)⟩
        rw[h0]at this;cases this
       ·rfl
    exact hfull fun j hj=>this (j+1) j (by omega) hj
   refine⟨fun h0=>absurd h0 hne,fun i hi=>?_⟩;obtain⟨h0,o,ho,hall⟩:=mem_ready.1 hi;have his:=(Array.getElem?_eq_some_iff.1 ho).1;have hO:=hok i o ho;have hDl:∀ j∈D.getD i [],listed.getD j false=true:=hO.danc (fun j=>listed.getD j false=true) hall (fun k hk j hj=>hcl k hk j hj);have him:i<m:=by
    rcases Nat.lt_or_ge i m with h | h
    ·exact h
    ·exact absurd (fun j hj=>hDl j (hO.tail h j (by omega))) hfull
   have hli:listed.getD i false=false:=by
    rw[←h0];simp[m2_,l8_ (show i<listed.size by omega)]
   have hgi:i≠g→listed.getD g false=true→i ∉ D.getD g []:=fun _ hg hD=>by
    have:=hcl g hg i hD;rw[hli]at this;cases this
   have hpre:=hdo i o him ho x w hb (fun j hj=>⟨hkn j (hDl j (hN i him j hj).1) (by
     rcases (hN i him j hj).2 with h | h | h
     ·subst h;exact .inl hli
     ·rcases hg:listed.getD g false with _ | _
      ·exact .inl rfl
      ·by_cases e:i=g
       ·subst e;rw[hli]at hg;cases hg
       ·exact absurd h (hgi e hg)
     ·exact .inr h),(hiv j (hDl j (hN i him j hj).1)).2.2⟩) (fun e b w'=>e = .normal∧∃ u,b=(c4_ ops a0 x.v i).put o.dst u∧(Below (bif i == g then w0.heap.size else w.heap.size) w w'∧(sp.getD i (.eq undef)).holds i (D.getD i []) (x.set i u w.heap.size w'.heap.size) w'))
    (fun u w' h1 h2=>⟨rfl,u,rfl,h1,h2⟩)
   have hwant:∀ b:Act,Region.wanted o (yielded ops b.tmps)=true:=fun b=>by simp[Region.wanted,hO.guard]
   have hnl:¬ LetsOut (fun (e:Exit) (b:Act) (w':World)=>e = .normal∧∃ u,b=(c4_ ops a0 x.v i).put o.dst u∧(Below (bif i == g then w0.heap.size else w.heap.size) w w'∧(sp.getD i (.eq undef)).holds i (D.getD i []) (x.set i u w.heap.size w'.heap.size) w')):=by
    rintro⟨b,w',h,_⟩;cases h
   simp only[wpList,hwant,if_true]at hpre;rcases hpre with hpre | hpre
   case inr=>exact absurd hpre.2 hnl
   simp only[true_and]at hpre;have hexec:execOp (actP ops a0 x.v (fun j=>listed.getD j false) ops.size).eval o=execOp (c4_ ops a0 x.v i).eval o:=by
    refine execOp_congr o (fun cs b=>Region.noSelect_spec hns i o cs b ho) fun y hx=>?_
    by_cases hxt:∃ t,y = .tmp t
    ·obtain⟨t,rfl⟩:=hxt;have hlook:t∈o.looksAt ops:=List.mem_append_left _ (List.mem_filterMap.2 ⟨.tmp t,by simpa using hx,rfl⟩);have e1:c4_ ops a0 x.v i=actP ops a0 x.v (fun j=>decide (j<i)) ops.size:=by
      rw[d8_ (p:=fun j=>decide (j<i)) ops.size i (by omega) (fun j h1 _=>by simp;omega)];exact (f0_ (p:=fun j=>decide (j<i)) i (fun j hj=>by simp[hj])).symm
     rw[e1];refine r5_ t ops.size fun j hj hd=>?_
     rcases hO.looks j t hd hlook with h | h
     ·rw[hDl j h];have:=hO.dlt j h;simp[this]
     ·have hlt:=(hok j _ (l8_ hj)).dlt i h;have:listed.getD j false=false:=by
       rcases hlj:listed.getD j false with _ | _
       ·rfl
       ·have:=hcl j hlj i h;rw[hli]at this;cases this
      rw[this];simp;omega
    ·exact r1_ y (fun t h=>hxt ⟨t,h⟩) _ _
   have hsz:(c4_ ops a0 x.v i).tmps.size=(actP ops a0 x.v (fun j=>listed.getD j false) ops.size).tmps.size:=by
    rw[g5_,←f0_ (p:=fun _=>true) i (fun _ _=>rfl),g5_]
   have hT:=o2_ (Q2:=Q) hexec hsz (fun c b w' h=>by cases h.1) hnl hpre;unfold wpOp;simp only[ho,hwant,if_true];refine .inl (Oper.wp_mono ?_ hT);rintro b w' ⟨u,rfl,hbw,hh⟩;have hbw0:Below w0.heap.size w w':=by
    rcases hig:(i == g) with _ | _
    ·rw[hig]at hbw;exact Below.mono hbw hb.size
    ·rw[hig]at hbw;exact hbw
   have hdst:o.dst=j4_ ops i:=by simp[j4_,ho]
   have hlq:∀ j,(listed.setIfInBounds i true).getD j false=(listed.getD j false || j == i):=fun j=>by
    by_cases e:i=j
    ·subst e;simp[m2_,Array.getElem?_setIfInBounds,hls,his]
    ·rw[getD_set_ne _ e];simp[Ne.symm e]
   rw[hdst,u9_ (v':=(x.set i u w.heap.size w'.heap.size).v) (q:=fun j=>(listed.setIfInBounds i true).getD j false) (fun j hj _=>by simp[Gh.set,hj]) (by simp[Gh.set]) hli hlq (fun j d hij hlj hdj hdi=>by
    rcases hO.dsts j d (by omega) hdj hdi with h | h
    ·have:=hO.dlt j h;omega
    ·have:=hcl j hlj i h;rw[hli]at this;cases this) ops.size his]
   refine ih _ _ _ ?_ (by simpa using hls) (fun j hj=>by rw[hlq,hlm j hj];simp;omega) (fun k hk j hj=>?_) (hb.trans hbw0) (fun k hk hal=>?_) (fun k hk=>?_) (fun k j hk hj hkj=>?_)
   · -- the count
    have hmem:i∈(List.range ops.size).filter fun j=>!listed.getD j false:=by
     rw[List.mem_filter];exact⟨List.mem_range.2 his,by rw[hli];rfl⟩
    have e:(List.range ops.size).filter (fun j=>!(listed.setIfInBounds i true).getD j false)=((List.range ops.size).filter fun j=>!listed.getD j false).filter (fun j=>j != i):=by
     rw[List.filter_filter];congr 1
     funext j
     rw[hlq];simp[Bool.not_or,Bool.and_comm,bne]
    have hnd:((List.range ops.size).filter fun j=>!listed.getD j false).Nodup:=List.nodup_range.filter _;rw[e];have:=List.length_erase_of_mem hmem;rw[hnd.erase_eq_filter,hc]at this;simpa using this
   ·rw[hlq]at hk⊢;simp only[Bool.or_eq_true,beq_iff_eq]at hk⊢;rcases hk with hk | rfl
    ·exact .inl (hcl k hk j hj)
    ·exact .inl (hDl j hj)
   ·rw[hlq]at hk;simp only[Bool.or_eq_true,beq_iff_eq]at hk;unfold k3_;by_cases e:k=i
    ·subst e;exact hh
    ·rcases hk with hk | hk
     ·have hst1:(sp.getD k (.eq undef)).holds k (D.getD k []) x w':=by
       by_cases eg:i=g
       ·subst eg;rw[hlq]at hal;simp only[beq_self_eq_true,Bool.or_true,Bool.true_eq_false,false_or]at hal;rcases hE k hal with h | h | ⟨u',h⟩
        ·exact absurd h e
        ·have:=hcl k hk i h;rw[hli]at this;cases this
        ·have hkk:=hkn k hk (.inr hal);unfold k3_ at hkk;rw[h]at hkk⊢;exact hkk
       ·have hig:(i == g)=false:=by simpa using eg
        rw[hig]at hbw;refine NS.holds_stable (hst' k) (hkn k hk ?_) hbw;rw[hlq]at hal;simpa [Ne.symm eg] using hal
      refine NS.holds_congr (x:=x) (fun j hj=>?_) hst1;have hji:j≠i:=by
       rcases hj with rfl | hj
       ·exact e
       ·rintro rfl;have:=hcl k hk j hj;rw[hli]at this;cases this
      simp[Gh.set,hji]
     ·exact absurd hk e
   ·rw[hlq]at hk;simp only[Bool.or_eq_true,beq_iff_eq]at hk;by_cases e:k=i
    ·subst e;simp only[Gh.set,if_true];exact⟨hb.size,hbw0.size,l_ _⟩
    ·have:=hiv k (hk.resolve_right e);have:=hbw0.size;simp only[Gh.set,if_neg e];omega
   ·rw[hlq]at hk hj;simp only[Bool.or_eq_true,beq_iff_eq]at hk hj;by_cases e:k=i
    ·subst e;have:=hiv j (hj.resolve_right (Ne.symm hkj));simp only[Gh.set,if_true,if_neg (Ne.symm hkj)];exact .inr (by omega)
    ·by_cases e':j=i
     ·subst e';have:=hiv k (hk.resolve_right e);simp only[Gh.set,if_true,if_neg e];exact .inl (by omega)
     ·simp only[Gh.set,if_neg e,if_neg e'];exact hdj k j (hk.resolve_right e) (hj.resolve_right e') hkj
def Z8_ (P:Program) (ops:Array Oper) (sp:List NS) (D N:List (List Nat)) (g:Nat) (a0:Act) (w0:World):Nat→List Oper→Prop
 | _,[]=>True
 | i,o :: l=>a2J P ops sp D N g a0 w0 i o∧Z8_ P ops sp D N g a0 w0 (i+1) l
theorem F7_ {ops:Array Oper} {sp:List NS} {D N:List (List Nat)} {g:Nat} {a0:Act} {w0:World}:∀ (l:List Oper) (k:Nat),Z8_ P ops sp D N g a0 w0 k l→∀ j o,l[j]?=some o→a2J P ops sp D N g a0 w0 (k+j) o
 | [],_,_,_,_,h=>by simp at h
 | x :: l,k,h,0,o,hj=>by
  simp at hj;subst hj;exact h.1
 | x :: l,k,h,j+1,o,hj=>by
  have:=F7_ l (k+1) h.2 j o (by simpa using hj);rwa[show k+1+j=k+(j+1) by omega]at this
def d9z (sp:List NS) (D:List (List Nat)) (g:Nat):List Nat→Prop
 | []=>True
 | i :: l=>(i=g∨(D.getD i []).contains g=true∨∃ u,sp.getD i (.eq undef) = .eq u)∧d9z sp D g l
theorem N9_ {sp:List NS} {D:List (List Nat)} {g:Nat}:∀ {l:List Nat},d9z sp D g l→∀ i,i∈l→i=g∨g∈D.getD i []∨∃ u,sp.getD i (.eq undef) = .eq u
 | [],_,i,hi=>by simp at hi
 | a :: l,h,i,hi=>by
  rcases List.mem_cons.1 hi with rfl | hi
  ·rcases h.1 with h | h | h
   ·exact .inl h
   ·exact .inr (.inl (by simpa using h))
   ·exact .inr (.inr h)
  ·exact N9_ h.2 i hi
theorem o5_ {id:Nat} {l:List Oper} {w:World} (hmo:P.follows .mixedOrders=true) (sp:List NS) (D N:List (List Nat)) (E:List Nat) (m g:Nat) (hB:netB l.toArray D m=true) (hgm:(decide (g<m) && (List.range m).all fun i=>(N.getD i []).all fun j=>(D.getD i []).contains j && (i == g || (D.getD g []).contains i || E.contains j))=true) (hE:d9z sp D g E) (hst:t7_ sp)
  (hdo:Z8_ P l.toArray sp D N g a0 w 0 (l.take m))
  (hend:∀ x w',Below w.heap.size w w'→(∀ i,i<m→E.contains i=true→k3_ sp D x i w')→(∀ i,i<m→w.heap.size≤x.lo i∧x.lo i≤x.hi i∧x.hi i≤w'.heap.size)→(∀ i j,i<m→j<m→i≠j→x.hi i≤x.lo j∨x.hi j≤x.lo i)→wpList P l.toArray Q (l.drop m) (c4_ l.toArray a0 x.v m) w'):(Code.region id l.toArray true).wp P Q a0 w:=by
 replace hst:=m4_ hst;have hdo:∀ i o,i<m→l[i]?=some o→a2J P l.toArray sp D N g a0 w.drew i o:=fun i o hi ho=>by
  have:=F7_ (l.take m) 0 hdo i o (by rw[List.getElem?_take,if_pos hi];exact ho);rw[Nat.zero_add]at this;exact fun v w1 hb=>this v w1 ⟨hb.os,hb.tape,hb.output,hb.size,hb.block⟩
 simp only[l9_,decide_eq_true_eq,List.all_eq_true,List.mem_range,Bool.or_eq_true,List.contains_iff_mem,beq_iff_eq]at hgm;refine wp_region_any hmo ?_;have h:=c6j (w0:=w.drew) (a0:=a0) (Q:=Q) (P:=P) (sp:=sp) (E:=fun i=>E.contains i) (N:=N) (g:=g) hB hst hgm.1 (fun i hi=>N9_ hE i (by simpa using hi)) (fun i hi j hj=>by obtain⟨h1,h2⟩:=hgm.2 i hi j hj;exact⟨h1,h2.elim (fun h2=>h2.elim .inl (fun h2 => .inr (.inl h2))) (fun h2 => .inr (.inr (by simpa using h2)))⟩) (fun i o hi ho=>hdo i o hi (by simpa using ho)) (fun x w' hb hk hiv hdj=>by simpa using hend x w' (show Below w.heap.size w w' from ⟨hb.os,hb.tape,hb.output,hb.size,hb.block⟩) hk hiv hdj)
  l.toArray.size (Array.replicate l.toArray.size false) ⟨fun _=>undef,fun _=>0,fun _=>0⟩ w.drew
  (by rw[List.filter_eq_self.2 (fun j _=>by rw[b3_];rfl),List.length_range])
  (by simp) (fun j _=>b3_ _ _)
  (fun i hi=>by rw[b3_]at hi;cases hi)
  br_
  (fun i hi=>by rw[b3_]at hi;cases hi)
  (fun i hi=>by rw[b3_]at hi;cases hi)
  (fun i j hi=>by rw[b3_]at hi;cases hi)
 have e:actP l.toArray a0 (fun _=>undef) (fun j=>(Array.replicate l.toArray.size false).getD j false) l.toArray.size=a0 :=
  d8_ l.toArray.size 0 (by omega) (fun j _ _=>b3_ _ _)
 rw[e]at h;exact h
end
end
theorem R9_ (w:World) {n:Nat} (hn:n≤1000000):(Instr.makeSlice 24 (.int .i64 (n:Int)) (.int .i64 (n:Int))).run Tryz.prog w = .ok (.slice (some ⟨w.heap.size,0,none⟩) n n) (w.alloc (.cells (g8_ (.int .i64 0) n) 3)):=by
 obtain⟨i0,hi,hz0,hz1,hz2⟩:=info_parts v5_;have hmk:=V8_ (P:=Tryz.prog) Tryz.underlying24 hi hz0 (n:=n) (by rw[hz2];omega) (by omega);rw[hz1,Nat.mul_one]at hmk;exact hmk w
section
variable {P:Program}
theorem c7x {a b:Act} {t:Tmp} (h:a.eval (.tmp t)=b.eval (.tmp t)) (hs:b.tmps.size=a.tmps.size):a.tmps[t]?=b.tmps[t]?:=by
 simp only[Act.eval,m2_]at h;by_cases hlt:t<b.tmps.size
 ·have hlt':t<a.tmps.size:=hs ▸ hlt;rw[l8_ hlt,l8_ hlt']at h⊢;simpa using h
 ·have hge:=Nat.le_of_not_lt hlt;rw[Array.getElem?_eq_none (hs ▸ hge:a.tmps.size≤t),Array.getElem?_eq_none hge]
def a3Z (ops:Array Oper) (D:List (List Nat)) (m i:Nat) (o:Oper):Bool :=
 (j7_ o).all (·<i) && (D.getD i []).all (fun j=>decide (j<i) && ((j7_ o).contains j || (j7_ o).any fun k=>(D.getD k []).contains j)) &&
 (List.range ops.size).all (fun k=>match j4_ ops k with
  | none=>true
  | some d=>(!(o.looksAt ops).contains d || (D.getD i []).contains k || (D.getD k []).contains i) && (k == i || j4_ ops i != some d || (D.getD i []).contains k || (D.getD k []).contains i)) &&
 (decide (i<m) || (List.range i).all fun j=>(D.getD i []).contains j)
def B9_ (ops:Array Oper) (D:List (List Nat)) (m:Nat):Nat→List Oper→Bool
 | _,[]=>true
 | i,o :: l=>a3Z ops D m i o && B9_ ops D m (i+1) l
def d8X (ops:Array Oper) (D:List (List Nat)) (m:Nat):Bool:=decide (m≤ops.size) && Region.noSelect ops && B9_ ops D m 0 ops.toList
theorem C4_ {ops:Array Oper} {D:List (List Nat)} {m:Nat}:∀ (l:List Oper) (k:Nat),B9_ ops D m k l=true→∀ j o,l[j]?=some o→a3Z ops D m (k+j) o=true
 | [],_,_,_,_,h=>by simp at h
 | x :: l,k,h,0,o,hj=>by
  simp only[B9_,l9_]at h;simp at hj;subst hj;exact h.1
 | x :: l,k,h,j+1,o,hj=>by
  simp only[B9_,l9_]at h;have:=C4_ l (k+1) h.2 j o (by simpa using hj);rwa[show k+1+j=k+(j+1) by omega]at this
structure NetOkU (ops:Array Oper) (D:List (List Nat)) (m i:Nat) (o:Oper):Prop where
 direct:∀ e∈o.after,Region.binds .any e=true→e.on<i
 dlt:∀ j∈D.getD i [],j<i
 danc:∀ (S:Nat→Prop),(∀ e∈o.after,Region.binds .any e=true→S e.on)→(∀ k,S k→∀ j∈D.getD k [],S j)→∀ j∈D.getD i [],S j
 looks:∀ k d,j4_ ops k=some d→d∈o.looksAt ops→k∈D.getD i []∨i∈D.getD k []
 dsts:∀ k d,k≠i→j4_ ops k=some d→j4_ ops i=some d→k∈D.getD i []∨i∈D.getD k []
 tail:m≤i→∀ j,j<i→j∈D.getD i []
theorem X7_ {ops:Array Oper} {D:List (List Nat)} {m i:Nat} {o:Oper} (h:a3Z ops D m i o=true):NetOkU ops D m i o:=by
 simp only[a3Z,l9_,List.all_eq_true,Bool.or_eq_true,decide_eq_true_eq,List.mem_range]at h;obtain⟨⟨⟨h2,h3⟩,h4⟩,h5⟩:=h;have hdir:∀ e∈o.after,Region.binds .any e=true→e.on∈j7_ o:=fun e he hb=>by
  unfold j7_;rw[List.mem_map];exact⟨e,by rw[List.mem_filter];exact⟨by simpa using he,hb⟩,rfl⟩
 have hk:∀ {k:Nat} {d:Tmp},j4_ ops k=some d→k<ops.size:=fun {k d} hd=>by
  rcases Nat.lt_or_ge k ops.size with h | h
  ·exact h
  ·simp[j4_,Array.getElem?_eq_none h]at hd
 refine⟨fun e he hb=>h2 _ (hdir e he hb),fun j hj=>(h3 j hj).1,fun S hS hc j hj=>?_,fun k d hd hl=>?_,fun k d hne hd hdi=>?_,fun hm j hj=>?_⟩
 ·have hD:∀ k∈j7_ o,S k:=fun k hk=>by
   unfold j7_ at hk;rw[List.mem_map]at hk;obtain⟨e,he,rfl⟩:=hk;rw[List.mem_filter]at he;exact hS e (by simpa using he.1) he.2
  rcases (h3 j hj).2 with h | h
  ·exact hD j (by simpa using h)
  ·rw[List.any_eq_true]at h;obtain⟨k,hk,hkj⟩:=h;exact hc k (hD k hk) j (by simpa using hkj)
 ·have:=h4 k (hk hd);rw[hd]at this;simp only[l9_,Bool.or_eq_true,Bool.not_eq_true',List.contains_iff_mem,List.contains_eq_mem,decide_eq_true_eq,decide_eq_false_iff_not]at this;rcases this.1 with (h | h) | h
  ·exact absurd hl h
  ·exact .inl h
  ·exact .inr h
 ·have:=h4 k (hk hd);rw[hd]at this;simp only[l9_,Bool.or_eq_true,List.contains_eq_mem,decide_eq_true_eq,beq_iff_eq,bne_iff_ne]at this;rcases this.2 with ((h | h) | h) | h
  ·exact absurd h hne
  ·exact absurd hdi h
  ·exact .inl h
  ·exact .inr h
 ·rcases h5 with h | h
  ·omega
  ·simpa using h j hj
section
variable {ops:Array Oper} {Q:Exit→Act→World→Prop} {sp:List NS} {D:List (List Nat)} {m:Nat} {a0:Act} {w0:World}
theorem J5_ (hok:∀ i o,ops[i]?=some o→NetOkU ops D m i o):∀ (fuel k:Nat) (listed:Array Bool) (a:Act) (w:World),fuel+k=ops.size→m≤k→listed.size=ops.size→(∀ j,listed.getD j false=decide (j<k)) →
  wpList P ops Q (ops.toList.drop k) a w→wpAny P .any ops Q fuel listed a w
 | fuel,k,listed,a,w,hf,hm,hls,hl,h=>by
  have hld:∀ j,j<ops.size→listed.getD j true=decide (j<k):=fun j hj=>by
   rw[←hl j];simp[m2_,l8_ (show j<listed.size by omega)]
  have hr:∀ i∈Region.ready .any ops listed,i=k∧k<ops.size:=fun i hi=>by
   obtain⟨h0,o,ho,hall⟩:=mem_ready.1 hi;have hin:=(Array.getElem?_eq_some_iff.1 ho).1;rw[hld i hin]at h0;have hik:k≤i:=by simpa using h0
   refine⟨?_,by omega⟩;have hcl:=(hok i o ho).danc (fun j=>j<k) (fun e he hb=>by have:=hall e he hb;rw[hl]at this;simpa using this) (fun j hj x hx=>by
    have hjs:j<ops.size:=by omega
    have:=(hok j _ (l8_ hjs)).dlt x hx;omega)
   rcases Nat.lt_or_ge k i with hlt | hge
   ·have:=hcl k ((hok i o ho).tail (by omega) k hlt);omega
   ·omega
  cases fuel with
  | zero =>
   refine⟨?_,?_⟩
   ·apply List.eq_nil_iff_forall_not_mem.2
    intro i hi;have:=hr i hi;omega
   ·rw[List.drop_of_length_le (by simp;omega)]at h;exact h
  | succ fuel =>
   have hks:k<ops.size:=by omega
   have hke:=l8_ hks;have hdrop:ops.toList.drop k=ops[k] :: ops.toList.drop (k+1):=by
    rw[List.drop_eq_getElem_cons (by simpa using hks)];simp
   rw[hdrop]at h;have hready:k∈Region.ready .any ops listed:=mem_ready.2 ⟨by rw[hld k hks];simp,_,hke,fun e he hb=>by rw[hl];simpa using (hok k _ hke).direct e he hb⟩;refine⟨fun h0=>(by rw[h0]at hready;cases hready),fun i hi=>?_⟩;obtain⟨rfl,_⟩:=hr i hi;unfold wpOp;simp only[hke];have nxt:∀ a w,wpList P ops Q (ops.toList.drop (i+1)) a w→wpAny P .any ops Q fuel (listed.setIfInBounds i true) a w:=fun a w h =>
    J5_ hok fuel (i+1) _ a w (by omega) (by omega) (by simpa using hls) (fun j=>by
     by_cases e:i=j
     ·subst e;simp[m2_,Array.getElem?_setIfInBounds,hls,hks]
     ·rw[getD_set_ne _ e,hl];congr 1
      rw[eq_iff_iff];omega) h
   by_cases hw:Region.wanted ops[i] (yielded ops a.tmps)=true
   ·simp only[wpList,hw,if_true]at h⊢;rcases h with h | h
    ·exact .inl (Oper.wp_mono nxt h)
    ·exact .inr h
   ·rw[Bool.not_eq_true]at hw;simp only[wpList,hw,Bool.false_eq_true,if_false]at h⊢;exact nxt _ _ h
theorem c2z (hB:d8X ops D m=true) (hst:∀ s∈sp,s.stable) (hdo:∀ i o,i<m→ops[i]?=some o→U2_ P ops sp D a0 w0 i o)
  (hend:∀ x w,Below w0.heap.size w0 w→(∀ i,i<m→k3_ sp D x i w)→(∀ i,i<m→w0.heap.size≤x.lo i∧x.lo i≤x.hi i∧x.hi i≤w.heap.size)→(∀ i j,i<m→j<m→i≠j→x.hi i≤x.lo j∨x.hi j≤x.lo i)→wpList P ops Q (ops.toList.drop m) (c4_ ops a0 x.v m) w) :
  ∀ (fuel:Nat) (listed:Array Bool) (x:Gh) (w:World),((List.range ops.size).filter fun j=>!listed.getD j false).length=fuel→listed.size=ops.size→(∀ j,m≤j→listed.getD j false=false) →
   (∀ i,listed.getD i false=true→∀ j∈D.getD i [],listed.getD j false=true)→Below w0.heap.size w0 w→(∀ i,listed.getD i false=true→k3_ sp D x i w)→(∀ i,listed.getD i false=true→w0.heap.size≤x.lo i∧x.lo i≤x.hi i∧x.hi i≤w.heap.size) →
   (∀ i j,listed.getD i false=true→listed.getD j false=true→i≠j→x.hi i≤x.lo j∨x.hi j≤x.lo i) →
   wpAny P .any ops Q fuel listed (actP ops a0 x.v (fun j=>listed.getD j false) ops.size) w:=by
 simp only[d8X,l9_,decide_eq_true_eq]at hB;obtain⟨⟨hm,hns⟩,hnf⟩:=hB;have hok:∀ i o,ops[i]?=some o→NetOkU ops D m i o:=fun i o ho=>X7_ (by
  have:=C4_ ops.toList 0 hnf i o (by simpa using ho);simpa using this)
 have hst':∀ i,(sp.getD i (.eq undef)).stable:=fun i=>by
  rw[l1_];rcases h:sp[i]? with _ | s
  ·trivial
  ·exact hst s (l4_ h)
 intro fuel;induction fuel with
 | zero =>
  intro listed x w hc hls hlm hcl hb hkn hiv hdj;have hall:∀ j,j<ops.size→listed.getD j false=true:=fun j hj=>by
   rw[List.length_eq_zero_iff,List.filter_eq_nil_iff]at hc;have:=hc j (List.mem_range.2 hj);simpa using this
  have hms:m=ops.size:=by
   rcases Nat.lt_or_ge m ops.size with h | h
   ·have:=hall m h;rw[hlm m (l_ _)]at this;cases this
   ·omega
  refine J5_ hok 0 ops.size listed _ w (by omega) (by omega) hls (fun j=>?_) ?_
  ·by_cases hj:j<ops.size
   ·rw[hall j hj];simp[hj]
   ·rw[hlm j (by omega)];simp[hj]
  ·have:=hend x w hb (fun i hi=>hkn i (hall i (by omega))) (fun i hi=>hiv i (hall i (by omega))) (fun i j hi hj=>hdj i j (hall i (by omega)) (hall j (by omega)));rw[←f0_ (p:=fun j=>listed.getD j false) m (fun j hj=>hall j (by omega))]at this;rwa[hms]at this
 | succ fuel ih =>
  intro listed x w hc hls hlm hcl hb hkn hiv hdj;by_cases hfull:∀ j,j<m→listed.getD j false=true
  · -- the tail
   have hl:∀ j,listed.getD j false=decide (j<m):=fun j=>by
    by_cases hj:j<m
    ·rw[hfull j hj];simp[hj]
    ·rw[hlm j (by omega)];simp[hj]
   have hcnt:fuel+1+m=ops.size:=by
    rw[←hc];have e:(List.range ops.size).filter (fun j=>!listed.getD j false)=(List.range' m (ops.size-m)):=by
     have e1:(List.range ops.size)=List.range m ++ List.range' m (ops.size-m):=by
      have h:=List.range'_append_1 (s:=0) (m:=m) (n:=ops.size-m);rw[Nat.zero_add]at h;rw[List.range_eq_range',List.range_eq_range',h];congr 1
      omega
     rw[e1,List.filter_append];rw[List.filter_eq_nil_iff.2 (fun j hj=>by rw[hl];simp at hj⊢;exact hj),List.nil_append];rw[List.filter_eq_self.2 (fun j hj=>by rw[hl];simp[List.mem_range']at hj⊢;omega)]
    rw[e,List.length_range'];omega
   refine J5_ hok (fuel+1) m listed _ w (by omega) (l_ _) hls hl ?_;have:=hend x w hb (fun i hi=>hkn i (hfull i hi)) (fun i hi=>hiv i (hfull i hi)) (fun i j hi hj=>hdj i j (hfull i hi) (hfull j hj));rw[←f0_ (p:=fun j=>listed.getD j false) m hfull]at this;rwa[d8_ (p:=fun j=>listed.getD j false) ops.size m hm (fun j h1 _=>hlm j h1)]
  · -- one of the net
   have hne:Region.ready .any ops listed≠[]:=by
    intro h0;have:∀ n,∀ j,j<n→j<m→listed.getD j false=true:=by
     intro n;induction n with
     | zero=>intro j hj;omega
     | succ n ihn =>
      intro j hj hjm;by_cases e:j<n
      ·exact ihn j e hjm
      ·rcases hlj:listed.getD j false with _ | _
       ·exfalso
        have hjs:j<ops.size:=by omega
        have hje:=l8_ hjs;have:j∈Region.ready .any ops listed:=mem_ready.2 ⟨by
         rw[←hlj];simp[m2_,l8_ (show j<listed.size by omega)],_,hje,fun e he hb=>by
         have:=(hok j _ hje).direct e he hb;exact ihn e.on (by omega) (by omega)⟩
        rw[h0]at this;cases this
       ·rfl
    exact hfull fun j hj=>this (j+1) j (by omega) hj
   refine⟨fun h0=>absurd h0 hne,fun i hi=>?_⟩;obtain⟨h0,o,ho,hall⟩:=mem_ready.1 hi;have his:=(Array.getElem?_eq_some_iff.1 ho).1;have hO:=hok i o ho;have hDl:∀ j∈D.getD i [],listed.getD j false=true:=hO.danc (fun j=>listed.getD j false=true) hall (fun k hk j hj=>hcl k hk j hj);have him:i<m:=by
    rcases Nat.lt_or_ge i m with h | h
    ·exact h
    ·exact absurd (fun j hj=>hDl j (hO.tail h j (by omega))) hfull
   have hli:listed.getD i false=false:=by
    rw[←h0];simp[m2_,l8_ (show i<listed.size by omega)]
   have hpre:=hdo i o him ho x w hb (fun j hj=>⟨hkn j (hDl j hj),(hiv j (hDl j hj)).2.2⟩) (fun e b w'=>e = .normal∧∃ u,b=(c4_ ops a0 x.v i).put o.dst u∧(Below w.heap.size w w'∧(sp.getD i (.eq undef)).holds i (D.getD i []) (x.set i u w.heap.size w'.heap.size) w'))
    (fun u w' h1 h2=>⟨rfl,u,rfl,h1,h2⟩)
   have heq:∀ t∈o.looksAt ops,(actP ops a0 x.v (fun j=>listed.getD j false) ops.size).eval (.tmp t)=(c4_ ops a0 x.v i).eval (.tmp t):=fun t hlook=>by
    have e1:c4_ ops a0 x.v i=actP ops a0 x.v (fun j=>decide (j<i)) ops.size:=by
     rw[d8_ (p:=fun j=>decide (j<i)) ops.size i (by omega) (fun j h1 _=>by simp;omega)];exact (f0_ (p:=fun j=>decide (j<i)) i (fun j hj=>by simp[hj])).symm
    rw[e1];refine r5_ t ops.size fun j hj hd=>?_
    rcases hO.looks j t hd hlook with h | h
    ·rw[hDl j h];have:=hO.dlt j h;simp[this]
    ·have hlt:=(hok j _ (l8_ hj)).dlt i h;have:listed.getD j false=false:=by
      rcases hlj:listed.getD j false with _ | _
      ·rfl
      ·have:=hcl j hlj i h;rw[hli]at this;cases this
     rw[this];simp;omega
   have hsz:(c4_ ops a0 x.v i).tmps.size=(actP ops a0 x.v (fun j=>listed.getD j false) ops.size).tmps.size:=by
    rw[g5_,←f0_ (p:=fun _=>true) i (fun _ _=>rfl),g5_]
   have hexec:execOp (actP ops a0 x.v (fun j=>listed.getD j false) ops.size).eval o=execOp (c4_ ops a0 x.v i).eval o:=by
    refine execOp_congr o (fun cs b=>Region.noSelect_spec hns i o cs b ho) fun y hx=>?_
    by_cases hxt:∃ t,y = .tmp t
    ·obtain⟨t,rfl⟩:=hxt;exact heq t (List.mem_append_left _ (List.mem_filterMap.2 ⟨.tmp t,by simpa using hx,rfl⟩))
    ·exact r1_ y (fun t h=>hxt ⟨t,h⟩) _ _
   have hwEq:Region.wanted o (yielded ops (actP ops a0 x.v (fun j=>listed.getD j false) ops.size).tmps)=Region.wanted o (yielded ops (c4_ ops a0 x.v i).tmps):=by
    unfold Region.wanted;cases hg:o.guard with
    | none=>rfl
    | some gw =>
     obtain⟨g,want⟩:=gw;have hy:yielded ops (actP ops a0 x.v (fun j=>listed.getD j false) ops.size).tmps g=yielded ops (c4_ ops a0 x.v i).tmps g:=by
      unfold yielded;cases ht:(ops[g]?).bind (·.dst) with
      | none=>rfl
      | some t =>
       have h1:=heq t (by simp[Oper.looksAt,hg,ht]);simp only[Option.bind_some,c7x h1 hsz]
     simp only[hy]
   have hnl:¬ LetsOut (fun (e:Exit) (b:Act) (w':World)=>e = .normal∧∃ u,b=(c4_ ops a0 x.v i).put o.dst u∧(Below w.heap.size w w'∧(sp.getD i (.eq undef)).holds i (D.getD i []) (x.set i u w.heap.size w'.heap.size) w')):=by
    rintro⟨b,w',h,_⟩;cases h
   suffices step:∀ u w',Below w.heap.size w w'→(sp.getD i (.eq undef)).holds i (D.getD i []) (x.set i u w.heap.size w'.heap.size) w' →
     wpAny P .any ops Q fuel (listed.setIfInBounds i true) ((actP ops a0 x.v (fun j=>listed.getD j false) ops.size).put o.dst u) w' by
    by_cases hwant:Region.wanted o (yielded ops (c4_ ops a0 x.v i).tmps)=true
    ·simp only[wpList,hwant,if_true]at hpre;rcases hpre with hpre | hpre
     case inr=>exact absurd hpre.2 hnl
     simp only[true_and]at hpre;have hT:=o2_ (Q2:=Q) hexec hsz (fun c b w' h=>by cases h.1) hnl hpre;unfold wpOp;simp only[ho,hwEq,hwant,if_true];refine .inl (Oper.wp_mono ?_ hT);rintro b w' ⟨u,rfl,hbw,hh⟩;exact step u w' hbw hh
    ·rw[Bool.not_eq_true]at hwant;simp only[wpList,hwant,Bool.false_eq_true,if_false,true_and]at hpre;obtain⟨u,he,hbw,hh⟩:=hpre;unfold wpOp;simp only[ho,hwEq,hwant,Bool.false_eq_true,if_false];rw[t4_ he hsz];exact step u w hbw hh
   intro u w' hbw hh;have hdst:o.dst=j4_ ops i:=by simp[j4_,ho]
   have hlq:∀ j,(listed.setIfInBounds i true).getD j false=(listed.getD j false || j == i):=fun j=>by
    by_cases e:i=j
    ·subst e;simp[m2_,Array.getElem?_setIfInBounds,hls,his]
    ·rw[getD_set_ne _ e];simp[Ne.symm e]
   rw[hdst,u9_ (v':=(x.set i u w.heap.size w'.heap.size).v) (q:=fun j=>(listed.setIfInBounds i true).getD j false) (fun j hj _=>by simp[Gh.set,hj]) (by simp[Gh.set]) hli hlq (fun j d hij hlj hdj hdi=>by
    rcases hO.dsts j d (by omega) hdj hdi with h | h
    ·have:=hO.dlt j h;omega
    ·have:=hcl j hlj i h;rw[hli]at this;cases this) ops.size his]
   refine ih _ _ _ ?_ (by simpa using hls) (fun j hj=>by rw[hlq,hlm j hj];simp;omega) (fun k hk j hj=>?_) (hb.trans (hbw.mono hb.size)) (fun k hk=>?_) (fun k hk=>?_) (fun k j hk hj hkj=>?_)
   · -- the count
    have hmem:i∈(List.range ops.size).filter fun j=>!listed.getD j false:=by
     rw[List.mem_filter];exact⟨List.mem_range.2 his,by rw[hli];rfl⟩
    have e:(List.range ops.size).filter (fun j=>!(listed.setIfInBounds i true).getD j false)=((List.range ops.size).filter fun j=>!listed.getD j false).filter (fun j=>j != i):=by
     rw[List.filter_filter];congr 1
     funext j
     rw[hlq];simp[Bool.not_or,Bool.and_comm,bne]
    have hnd:((List.range ops.size).filter fun j=>!listed.getD j false).Nodup:=List.nodup_range.filter _;rw[e];have:=List.length_erase_of_mem hmem;rw[hnd.erase_eq_filter,hc]at this;simpa using this
   ·rw[hlq]at hk⊢;simp only[Bool.or_eq_true,beq_iff_eq]at hk⊢;rcases hk with hk | rfl
    ·exact .inl (hcl k hk j hj)
    ·exact .inl (hDl j hj)
   ·rw[hlq]at hk;simp only[Bool.or_eq_true,beq_iff_eq]at hk;unfold k3_;by_cases e:k=i
    ·subst e;exact hh
    ·rcases hk with hk | hk
     ·refine NS.holds_congr (x:=x) (fun j hj=>?_) (NS.holds_stable (hst' k) (hkn k hk) hbw);have hji:j≠i:=by
       rcases hj with rfl | hj
       ·exact e
       ·rintro rfl;have:=hcl k hk j hj;rw[hli]at this;cases this
      simp[Gh.set,hji]
     ·exact absurd hk e
   ·rw[hlq]at hk;simp only[Bool.or_eq_true,beq_iff_eq]at hk;by_cases e:k=i
    ·subst e;simp only[Gh.set,if_true];exact⟨hb.size,hbw.size,l_ _⟩
    ·have:=hiv k (hk.resolve_right e);have:=hbw.size;simp only[Gh.set,if_neg e];omega
   ·rw[hlq]at hk hj;simp only[Bool.or_eq_true,beq_iff_eq]at hk hj;by_cases e:k=i
    ·subst e;have:=hiv j (hj.resolve_right (Ne.symm hkj));simp only[Gh.set,if_true,if_neg (Ne.symm hkj)];exact .inr (by omega)
    ·by_cases e':j=i
     ·subst e';have:=hiv k (hk.resolve_right e);simp only[Gh.set,if_true,if_neg e];exact .inl (by omega)
     ·simp only[Gh.set,if_neg e,if_neg e'];exact hdj k j (hk.resolve_right e) (hj.resolve_right e') hkj
theorem t2_ {id:Nat} {l:List Oper} {w:World} (hmo:P.follows .mixedOrders=true) (sp:List NS) (D:List (List Nat)) (m:Nat) (hB:d8X l.toArray D m=true) (hst:t7_ sp)
  (hdo:U0_ P l.toArray sp D a0 w 0 (l.take m))
  (hend:∀ x w',Below w.heap.size w w'→(∀ i,i<m→k3_ sp D x i w')→(∀ i,i<m→w.heap.size≤x.lo i∧x.lo i≤x.hi i∧x.hi i≤w'.heap.size)→(∀ i j,i<m→j<m→i≠j→x.hi i≤x.lo j∨x.hi j≤x.lo i)→wpList P l.toArray Q (l.drop m) (c4_ l.toArray a0 x.v m) w'):(Code.region id l.toArray true).wp P Q a0 w:=by
 replace hst:=m4_ hst;have hdo:∀ i o,i<m→l[i]?=some o→U2_ P l.toArray sp D a0 w.drew i o:=fun i o hi ho=>by
  have:=u5_ (l.take m) 0 hdo i o (by rw[List.getElem?_take,if_pos hi];exact ho);rw[Nat.zero_add]at this;exact fun v w1 hb=>this v w1 ⟨hb.os,hb.tape,hb.output,hb.size,hb.block⟩
 refine wp_region_any hmo ?_;have h:=c2z (w0:=w.drew) (a0:=a0) (Q:=Q) (P:=P) (sp:=sp) hB hst (fun i o hi ho=>hdo i o hi (by simpa using ho)) (fun x w' hb hk hiv hdj=>by simpa using hend x w' (show Below w.heap.size w w' from ⟨hb.os,hb.tape,hb.output,hb.size,hb.block⟩) hk hiv hdj)
  l.toArray.size (Array.replicate l.toArray.size false) ⟨fun _=>undef,fun _=>0,fun _=>0⟩ w.drew
  (by rw[List.filter_eq_self.2 (fun j _=>by rw[b3_];rfl),List.length_range])
  (by simp) (fun j _=>b3_ _ _)
  (fun i hi=>by rw[b3_]at hi;cases hi)
  br_
  (fun i hi=>by rw[b3_]at hi;cases hi)
  (fun i hi=>by rw[b3_]at hi;cases hi)
  (fun i j hi=>by rw[b3_]at hi;cases hi)
 have e:actP l.toArray a0 (fun _=>undef) (fun j=>(Array.replicate l.toArray.size false).getD j false) l.toArray.size=a0 :=
  d8_ l.toArray.size 0 (by omega) (fun j _ _=>b3_ _ _)
 rw[e]at h;exact h
end
end
def g0q:Value→Nat
 | .slice _ n _=>n
 | _=>0
theorem a9_.made_ (w:World) {lo:Nat} (h:lo≤w.heap.size):a9_ (w.alloc (.cells #[] 3)) lo (w.alloc (.cells #[] 3)).heap.size (.slice (some ⟨w.heap.size,0,none⟩) 0 0) [] :=
 ⟨OwnI.made _ rfl h,fun k hk=>by simp[Value.ownBlock]at hk;simp;omega⟩
theorem r8_ (u:Value) (q:Qv) (xv:Value) (x:List Int) (v:Int) (w:World) (hu:QvR w w.heap.size u q) (hx:SlI w w.heap.size xv x) (_:I64 v) :
  Calls Tryz.prog 11 #[u,xv,.int .i64 v] w fun e w'=>∃ r,e = .returned (.tuple #[r,.bool (w6_ q x v).2])∧a9_ w' w.heap.size w'.heap.size r (w6_ q x v).1∧Below w.heap.size w w':=by
 have hu':=hu;obtain⟨A,c,C,d,rfl,hf,hT,hr,lf,lt⟩:=hu.open_;have hx':=hx;obtain⟨XA,xc,rfl,_,_,lx,_⟩:=hx.open_;clear hu hx hf hT;obtain⟨W,hW,g0,kB⟩:=b_3 w #[.int .i64 q.v,.slice A q.f.length c,.slice C q.t.length d] 26;obtain⟨c0,c1,c2⟩:=c_3 kB;have h0:=QvR.next g0 hu';have hx0:=SlI.next g0 hx';clear hu' hx';rcases hq:C9_ q x with _ | _
 ·have hF:Hid (w6_ q x v=([],false)):=by show _=_;simp[w6_,hq]
  go_enter Tryz.func11,Tryz.ntmps11
  go_wp2_with fail
  rw[←hW];clear hW;refine (q0_ _ _ _ _ _ h0 hx0).mono ?_;rintro e w1 ⟨rfl,hb1⟩;rw[hq];have g1:=a6_ g0 hb1;go_wp2;exact bodyPost_ret (v:=.tuple #[.slice (some ⟨w1.heap.size,0,none⟩) 0 0,.bool false]) (by simp[results,go_sem]) rfl ⟨_,by rw[hF.out],by rw[hF.out];exact a9_.made_ _ g1.size,g1.alloc g1.size _⟩
 obtain⟨hq1,hq2,hq3⟩:=X3_.1 hq;obtain⟨⟨hv1,hv2⟩,hlen,_,_,_⟩:=g4_.1 hq1;have HQ1:=h_ hq1;have HLE:=h_ hlen;clear hq1 hq2 hq3 hlen;rcases hin:inR v 0 (q.v-1) with _ | _
 ·have hF:Hid (w6_ q x v=([],false)):=by show _=_;simp[w6_,hin]
  go_enter Tryz.func11,Tryz.ntmps11
  go_wp2_with fail
  rw[←hW];clear hW;refine (q0_ _ _ _ _ _ h0 hx0).mono ?_;rintro e w1 ⟨rfl,hb1⟩;rw[hq];have g1:=a6_ g0 hb1;have d0:=(kB.call hb1).cell' (i:=0) rfl;clear c0 c1 c2;go_wp2_with fail
  refine (f3_ _ _ _ _).mono ?_;rintro e w9 ⟨rfl,rfl⟩;rw[hin];go_wp2;exact bodyPost_ret (v:=.tuple #[.slice (some ⟨w9.heap.size,0,none⟩) 0 0,.bool false]) (by simp[results,go_sem]) rfl ⟨_,by rw[hF.out],by rw[hF.out];exact a9_.made_ _ g1.size,g1.alloc g1.size _⟩
 have hvr:=t0_.1 hin;rcases hlo:G3_ q v with _ | _
 ·obtain⟨n,rfl⟩:∃ n:Nat,v=n:=⟨v.toNat,by omega⟩;have hF:Hid (w6_ q x n=(a5z q x n,true)):=by show _=_;simp[w6_,hq,hin,hlo]
  have hnv:n<q.v.toNat:=by omega
  go_enter Tryz.func11,Tryz.ntmps11
  go_wp2_with fail
  rw[←hW];clear hW;refine (q0_ _ _ _ _ _ h0 hx0).mono ?_;rintro e w1 ⟨rfl,hb1⟩;rw[hq];have g1:=a6_ g0 hb1;have k1:=kB.call hb1;have h1:=QvR.next hb1 h0;have hx1:=SlI.next hb1 hx0;clear c0 c1 c2 h0 hx0 kB;obtain⟨d0,d1,d2⟩:=c_3 k1;go_wp2_with fail
  refine (f3_ _ _ _ _).mono ?_;rintro e w9 ⟨rfl,rfl⟩;rw[hin];go_wp2_with fail
  refine (L3_ _ _ _ _ h1 HLE.out).mono ?_;rintro e w2 ⟨rfl,hb2⟩;rw[hlo];have g2:=a6_ g1 hb2;have k2:=k1.call hb2;have h2:=QvR.next hb2 h1;have hx2:=SlI.next hb2 hx1;clear d0 d1 d2 h1 hx1 k1;obtain⟨d0,d1,d2⟩:=c_3 k2;go_wp2_with fail
  refine (E3_ _ _ _ h2 HQ1.out).mono ?_;rintro e w3 ⟨mv,rfl,hm,hb3⟩;have g3:=a6_ g2 hb3;have hx3:=SlI.next hb3 hx2;go_wp2_with fail
  refine (L9_ _ _ q x n _ hm.rd hx3 hq hnv).mono ?_;rintro e w4 ⟨r,rfl,hr4,hb4⟩;go_wp2;exact bodyPost_ret (v:=.tuple #[r,.bool true]) (by simp[results,go_sem]) rfl ⟨_,by rw[hF.out],by rw[hF.out];exact hr4.wider g3.size (l_ _),a6_ g3 hb4⟩
 ·have hF:Hid (w6_ q x v=([],false)):=by show _=_;simp[w6_,hlo]
  go_enter Tryz.func11,Tryz.ntmps11
  go_wp2_with fail
  rw[←hW];clear hW;refine (q0_ _ _ _ _ _ h0 hx0).mono ?_;rintro e w1 ⟨rfl,hb1⟩;rw[hq];have g1:=a6_ g0 hb1;have k1:=kB.call hb1;have h1:=QvR.next hb1 h0;clear c0 c1 c2 h0 hx0 kB;obtain⟨d0,d1,d2⟩:=c_3 k1;go_wp2_with fail
  refine (f3_ _ _ _ _).mono ?_;rintro e w9 ⟨rfl,rfl⟩;rw[hin];go_wp2_with fail
  refine (L3_ _ _ _ _ h1 HLE.out).mono ?_;rintro e w2 ⟨rfl,hb2⟩;rw[hlo];have g2:=a6_ g1 hb2;go_wp2;exact bodyPost_ret (v:=.tuple #[.slice (some ⟨w2.heap.size,0,none⟩) 0 0,.bool false]) (by simp[results,go_sem]) rfl ⟨_,by rw[hF.out],by rw[hF.out];exact a9_.made_ _ g2.size,g2.alloc g2.size _⟩
theorem j6_ (u v:Value) (m:Mx) (w:World) (hu:MxR w w.heap.size u m) (hv:MxR w w.heap.size v m) :
  Calls Tryz.prog 24 #[u,v] w fun e w'=>e = .returned (.bool true)∧Below w.heap.size w w':=by
 obtain⟨A,c,rfl,hx,hr,hc,hn⟩:=hu.open_;obtain⟨C,d,rfl,hy,_,_,_⟩:=hv.open_;clear hu hv;obtain⟨W,hW,g0,k1,k2⟩:=b_4 w #[.int .i64 m.r,.int .i64 m.c,.slice A m.a.length c] 41 #[.int .i64 m.r,.int .i64 m.c,.slice C m.a.length d] 41;replace hx:=SlI.next g0 hx;replace hy:=SlI.next g0 hy;have r1:(m.r != m.r)=false:=by simp
 have r2:(m.c != m.c)=false:=by simp
 have r3:((m.a.length:Int) != m.a.length)=false:=by simp
 obtain⟨c0,c1,c2⟩:=c_3 k1;obtain⟨d0,d1,d2⟩:=c_3 k2;have G0:=h_ g0;clear g0 hr hc;go_enter Tryz.func24,Tryz.ntmps24
 go_wp2;rw[←hW];clear hW;go_loopw [5] (fun i wr=>∃ k q:Nat,k≤m.a.length∧i = .int .i64 k∧wr=W.drewN q) (fun i _=>m.a.length-(intOf i).toNat)
 case atStart=>exact⟨0,0,l0_ _,rfl,rfl⟩
 case round =>
  obtain⟨k,q,hk,rfl,rfl⟩:=hrel;by_cases hlt:k<m.a.length
  ·obtain⟨b,o,x,rfl,hb,HX,x1,_⟩:=SlI.at_ hx hlt;obtain⟨b',o',y,rfl,hb',HY,y1,_⟩:=SlI.at_ hy hlt;have e:=HX.out;rw[HY.out]at e;injection e with e
   subst e;have e1:(y != y)=false:=by simp
   clear hx hy;go_wp2;go_quiet (fail)
   go_wp2;go_roundw
   case rel=>exact⟨k+1,q+nq,by omega,by go_num,rfl⟩
   case measure=>simp[intOf];omega
  ·go_wp2;go_ret
   exact⟨rfl,g7_ G0.out _⟩
theorem s6_ (u v:Value) (x:Rp) (w:World) (hu:RpR w w.heap.size u x) (hv:RpR w w.heap.size v x) :
  Calls Tryz.prog 9 #[u,v] w fun e w'=>e = .returned (.bool true)∧Below w.heap.size w w':=by
 obtain⟨A,a,C,c,E,e,H,h,rfl,hq,hd,hm,_⟩:=hu.open_;obtain⟨A',a',C',c',E',e',H',h',rfl,hq',hd',hm',_⟩:=hv.open_;clear hu hv;obtain⟨W,hW,g0,k1,k2⟩:=b_4 w #[.int .i64 x.p,.int .i64 x.q.v,.slice A x.q.f.length a,.slice C x.q.t.length c,.slice E x.d.length e,.slice H x.m.length h] 29 #[.int .i64 x.p,.int .i64 x.q.v,.slice A' x.q.f.length a',.slice C' x.q.t.length c',.slice E' x.d.length e',.slice H' x.m.length h'] 29;replace hq:=QvR.next g0 hq;replace hq':=QvR.next g0 hq';replace hd:=SlI.next g0 hd;replace hd':=SlI.next g0 hd';replace hm:=SlM.next g0 hm;replace hm':=SlM.next g0 hm';have r1:(x.p != x.p)=false:=by simp
 have r3:((x.m.length:Int) != x.m.length)=false:=by simp
 obtain⟨c0,c1,c2,c3,c4,c5⟩:=c_6 k1;obtain⟨d0,d1,d2,d3,d4,d5⟩:=c_6 k2;go_enter Tryz.func9,Tryz.ntmps9
 go_wp2_with fail
 rw[←hW];clear hW;refine (z3_ _ _ x.q x.q _ hq hq').mono ?_;rintro e w1 ⟨rfl,hb1⟩;rw[show decide (x.q=x.q)=true from decide_eq_true rfl];clear hq hq';replace g0:=a6_ g0 hb1;replace hd:=SlI.next hb1 hd;replace hd':=SlI.next hb1 hd';replace hm:=SlM.next hb1 hm;replace hm':=SlM.next hb1 hm';replace k1:=k1.call hb1;replace c0:=k1.cell' (i:=0) rfl;replace c1:=k1.cell' (i:=1) rfl;replace c2:=k1.cell' (i:=2) rfl;replace c3:=k1.cell' (i:=3) rfl;replace c4:=k1.cell' (i:=4) rfl;replace c5:=k1.cell' (i:=5) rfl;replace k2:=k2.call hb1;replace d0:=k2.cell' (i:=0) rfl;replace d1:=k2.cell' (i:=1) rfl;replace d2:=k2.cell' (i:=2) rfl;replace d3:=k2.cell' (i:=3) rfl;replace d4:=k2.cell' (i:=4) rfl;replace d5:=k2.cell' (i:=5) rfl;clear hb1;go_wp2_with fail
 refine (y1_ _ _ x.d x.d _ hd hd').mono ?_;rintro e W1 ⟨rfl,hb1⟩;rw[show decide (x.d=x.d)=true from decide_eq_true rfl];replace g0:=a6_ g0 hb1;replace hd:=SlI.next hb1 hd;replace hd':=SlI.next hb1 hd';replace hm:=SlM.next hb1 hm;replace hm':=SlM.next hb1 hm';replace k1:=k1.call hb1;replace c0:=k1.cell' (i:=0) rfl;replace c1:=k1.cell' (i:=1) rfl;replace c2:=k1.cell' (i:=2) rfl;replace c3:=k1.cell' (i:=3) rfl;replace c4:=k1.cell' (i:=4) rfl;replace c5:=k1.cell' (i:=5) rfl;replace k2:=k2.call hb1;replace d0:=k2.cell' (i:=0) rfl;replace d1:=k2.cell' (i:=1) rfl;replace d2:=k2.cell' (i:=2) rfl;replace d3:=k2.cell' (i:=3) rfl;replace d4:=k2.cell' (i:=4) rfl;replace d5:=k2.cell' (i:=5) rfl;clear hb1 hd hd';have G0:=h_ g0;clear g0;go_wp2;go_loopw [5] (fun i wr=>∃ k:Nat,k≤x.m.length∧i = .int .i64 k∧Below W1.heap.size W1 wr) (fun i _=>x.m.length-(intOf i).toNat)
 case atStart=>exact⟨0,l0_ _,rfl,Below.refl _ _⟩
 case round =>
  clear c0 c1 c2 c3 c4 c5 d0 d1 d2 d3 d4 d5;obtain⟨k,hk,rfl,hbel⟩:=hrel;have k1x:=k1.call hbel;have k2x:=k2.call hbel;have z5:=k1x.cell' (i:=5) rfl;by_cases hlt:k<x.m.length
  ·obtain⟨b,o,m,B1,b1,rfl,hb,HX,x1,x2,x3,hsl,i1,i2,_⟩:=SlM.at_ hm hlt;obtain⟨b',o',m',B2,b2,rfl,hb',HX',y1,y2,y3,hsl',_⟩:=SlM.at_ hm' hlt;have e1:=HX.out;rw[HX'.out]at e1;injection e1 with e1
   subst e1;have hbs:=hbel.size;have n1:=InB.cell (w:=wr) (by omega) (a7_ hbel hb x1);have n2:=InB.cell (w:=wr) (by omega) (a7_ hbel hb x2);have n3:=InB.cell (w:=wr) (by omega) (a7_ hbel hb x3);have n4:=InB.cell (w:=wr) (by omega) (a7_ hbel hb' y1);have n5:=InB.cell (w:=wr) (by omega) (a7_ hbel hb' y2);have n6:=InB.cell (w:=wr) (by omega) (a7_ hbel hb' y3);have n7:=fun s:InB wr=>(k1x.call s.below).cell' (i:=5) rfl
   have n8:=fun s:InB wr=>(k2x.call s.below).cell' (i:=5) rfl
   have HM:Hid (∀ s:InB wr,MxR s.val s.val.heap.size (.agg #[.int .i64 m'.r,.int .i64 m'.c,.slice B1 m'.a.length b1]) m'):=fun s=>⟨_,rfl,SlI.next s.below (SlI.next hbel hsl),i1,i2⟩
   have HM':Hid (∀ s:InB wr,MxR s.val s.val.heap.size (.agg #[.int .i64 m'.r,.int .i64 m'.c,.slice B2 m'.a.length b2]) m'):=fun s=>⟨_,rfl,SlI.next s.below (SlI.next hbel hsl'),i1,i2⟩
   have HB:=h_ hbel;clear x1 x2 x3 y1 y2 y3 hsl hsl' hm hm' k1 k2 k1x k2x i1 i2 hbel;have a1:(0:Int)≤(k:Int):=by omega
   have a2:(k:Int)<x.m.length:=by omega
   go_wp2
   (refine c7_ (by kernel_rfl) (by kernel_rfl) ?_;(repeat (go_big_quiet_step ((go_at_call 24;exact InB.call (j6_ _ _ m' _ (HM.out _) (HM'.out _))))));refine wpQuiet_nil ?_;intro w1 hw';obtain⟨s1,hw1⟩:=hw';have hb1:=s1.below;rw[←hw1]at hb1;clear hw1 s1)
   go_wp2;go_roundw
   case rel=>exact⟨k+1,by omega,by go_num,a6_ HB.out hb1⟩
   case measure=>simp[intOf];omega
  ·have g1:=a6_ G0.out hbel;go_wp2;go_ret
   exact⟨rfl,g1⟩
theorem U1_ (u v:Value) (xs ys:List Int) (w:World) (hu:SlI w w.heap.size u xs) (hv:SlI w w.heap.size v ys) :
  Calls Tryz.prog 12 #[u,v] w fun e w'=>e = .returned (.bool (decide (xs=ys)))∧Below w.heap.size w w':=by
 obtain⟨A,c,rfl,_,_,hn,hx⟩:=hu.open_;obtain⟨C,d,rfl,_,_,hm,hy⟩:=hv.open_;clear hu hv;by_cases hnm:xs.length=ys.length
 ·have heq:((xs.length:Int) != ys.length)=false:=by rw[bne_eq_false_iff_eq];omega
  have HN:=h_ hnm;clear hnm;go_enter Tryz.func12,Tryz.ntmps12
  go_wp2;go_loopw [5] (fun i wr=>∃ k q:Nat,k≤xs.length∧i = .int .i64 k∧wr=w.drewN q∧Hid (xs.take k=ys.take k)) (fun i _=>xs.length-(intOf i).toNat)
  case atStart=>exact⟨0,0,l0_ _,rfl,rfl,rfl⟩
  case round =>
   obtain⟨k,q,hk,rfl,rfl,hxy⟩:=hrel;by_cases hlt:k<xs.length
   ·have hlt':k<ys.length:=by have:=HN.out;omega
    obtain⟨b,o,x,rfl,hb,HX,c1,_⟩:=SlI.at_ hx hlt;obtain⟨b',o',x',rfl,hb',HX',c1',_⟩:=SlI.at_ hy hlt';clear hx hy;by_cases hE:x=x'
    ·subst hE;go_wp2;go_quiet (fail)
     go_wp2;go_roundw
     case rel =>
      refine⟨k+1,q+nq,by omega,by go_num,rfl,?_⟩;show _=_;rw[c8_ HX.out,c8_ HX'.out,hxy.out]
     case measure=>simp[intOf];omega
    ·have hne:(x != x')=true:=by simpa using hE
     have hxy':Hid (xs≠ys):=by
      rintro rfl;have h2:=HX.out;rw[HX'.out]at h2;exact hE (by injection h2 with h2;exact h2.symm)
     clear hE;go_wp2;go_quiet (fail)
     go_wp2;go_ret
     exact⟨by rw[decide_eq_false hxy'.out];rfl,g7_ (f5_ _ _ _) _⟩
   ·go_wp2;go_ret
    refine⟨?_,f5_ _ _ _⟩;have h1:=hxy.out;rw[l7_ (by omega),l7_ (by have:=HN.out;omega)]at h1;simp[h1]
 ·have hne:((xs.length:Int) != ys.length)=true:=by rw[bne_iff_ne];omega
  go_enter Tryz.func12,Tryz.ntmps12
  go_wp2;go_ret
  refine⟨?_,Below.refl _ _⟩;rw[decide_eq_false (by rintro rfl;omega)];rfl
theorem L0_ (u v:Value) (l:List Int) (w:World) (hu:SlI w w.heap.size u l) (hv:SlI w w.heap.size v l) :
  Calls Tryz.prog 12 #[u,v] w fun e w'=>e = .returned (.bool true)∧Below w.heap.size w w':=by
 refine (U1_ u v l l w hu hv).mono ?_;rintro e w1 ⟨rfl,hb⟩;exact⟨by simp,hb⟩
theorem d5z (u:Value) (l:List Int) (w:World) (hu:SlY w w.heap.size u l) :
  Calls Tryz.prog 4 #[u] w fun e w'=>e = .returned (.bool (decide ((l.length:Int) > 1048576)))∧Below w.heap.size w w':=by
 obtain⟨A,c,rfl,_,_,hn,hx⟩:=hu.open_;clear hu;go_enter Tryz.func4,Tryz.ntmps4
 go_wp2;go_ret
 exact⟨rfl,Below.refl _ _⟩
theorem b1q:Tryz.prog.mayEnter=true:=by kernel_rfl
theorem b0J:(false == Tryz.prog.liftsFinal)=true:=by kernel_rfl
theorem c1Z:(Tryz.prog.make == some .cut)=true:=by kernel_rfl
theorem band {a b:Bool} (h:a=true) (k:b=true):(a && b)=true:=by rw[h,k];rfl
end Go.Proofs.YtnohdlkailpnoaaGreat

