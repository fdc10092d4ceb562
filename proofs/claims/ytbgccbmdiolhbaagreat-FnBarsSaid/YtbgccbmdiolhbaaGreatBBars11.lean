/- FnBars: the law holds for every argument. Part 11 of 16 of the proof: FromC, Tran, Besd, Conc, DsP, DsQ, RzP, PenOf, RepCl, Blks, DsM, DsI, RpL, SmI, RptR, RzI. No condition. -/
import Derived.Test.YtbgccbmdiolhbaaGreatBBars10
import Derived.Shelf.Spec.SlicesGrow
import Derived.Shelf.Bits.Mul64
import Derived.Laws.CopyRow
import Derived.Laws.IdiomCopy
set_option linter.unusedVariables false
set_option linter.unusedSimpArgs false
set_option maxHeartbeats 12800000
set_option maxRecDepth 100000
namespace Go.Proofs.YtbgccbmdiolhbaaGreat
open Go.RowKit
def fcK (f:Nat→Nat→Int) (k i a b:Nat):Int:=if b<k∨(b=k∧a<i) then f a b else 0
theorem i4z (R K:Nat) (f:Nat→Nat→Int):flat R K (fun _ _=>0)=flat R K (fcK f 0 0):=c1_ fun a b _ _=>by simp[fcK]
theorem f7q {R K k i:Nat} (f:Nat→Nat→Int) (hi:i<R) (hk:k<K):(flat R K (fcK f k i)).set (i*K+k) (f i k)=flat R K (fcK f k (i+1)):=by
 rw[k8_ _ _ hi hk];refine c1_ fun a b _ _=>?_
 simp only[fcK]
 (repeat' split) <;> first | rfl | omega | (rename_i h _;rw[h.1,h.2])
theorem d3q (R K k:Nat) (f:Nat→Nat→Int):flat R K (fcK f k R)=flat R K (fcK f (k+1) 0):=by
 refine c1_ fun a b ha _=>?_
 simp only[fcK]
 (repeat' split) <;> first | rfl | omega
theorem i4x (R K:Nat) (f:Nat→Nat→Int):flat R K (fcK f K 0)=flat R K f:=c1_ fun a b _ hb=>by simp[fcK,hb]
theorem v4_ (u:Value) (R K:Nat) (f:Nat→Nat→Int) (w:World) (hu:SlII w w.heap.size u (g9_ K R (fun a b=>f b a))) (hR:R≤1000) (hK:K≤1000) :
  Calls Tryz.prog 130 #[.int .i64 R,u] w fun e w'=>∃ v,e = .returned v∧MxO w' w.heap.size w'.heap.size v (mxF R K f)∧Below w.heap.size w w':=by
 obtain⟨U,uc,rfl,_,_,hul,hx⟩:=hu.open_;clear hu;have HX:=h_ hx;rw[b8_]at hul⊢;obtain⟨W,hW,g0,k2⟩:=b_3 w #[.int .i64 0,.int .i64 0,.slice none 0 0] 65;have sz:W.heap.size=w.heap.size+1:=by rw[hW];simp
 have K2:=h_ k2;have SZ:=h_ sz;clear k2 sz hx;go_enter Tryz.func130,Tryz.ntmps130
 go_wp2_with fail
 rw[←hW];clear hW;refine (r8_ (R:Int) K W (by omega) (by omega) (by omega) (by omega)).mono ?_;rintro e w1 ⟨v1,rfl,⟨sA,rfl,oA,hr,hc⟩,hb1⟩;rw[o6_]at oA hr hc⊢;simp only[mxF]at oA hr hc⊢;rw[i4z R K f]at oA;obtain⟨A1,c1,e1⟩:=oA.form;obtain⟨N,hN⟩:=e_ (R*K);rw[a1_,hN]at e1;subst e1;have HN:=h_ hN;clear hN;have s1:=hb1.size;obtain⟨W4,hW4,b4,k4⟩:=b_3 w1 #[.int .i64 R,.int .i64 K,.slice A1 N c1] 65;have oA:=oA.below b4;have gW:=b0_ hb1 b4;clear b4 hb1;go_wp2;rw[←hW4];clear hW4;go_loopw [16] (fun i wr=>∃ k:Nat,k≤K∧i = .int .i64 k∧Blk wr w1.heap.size 65 #[.int .i64 R,.int .i64 K,.slice A1 N c1]∧a8_ wr W.heap.size w1.heap.size (.slice A1 N c1) (flat R K (fcK f k 0))∧Below W.heap.size W wr) (fun i _=>K-(intOf i).toNat)
 case atStart=>exact⟨0,l0_ _,rfl,k4,oA,gW⟩
 case round =>
  clear k4 oA gW;obtain⟨k,hk,rfl,k4,oA,gW⟩:=hrel;have s6:=gW.size;by_cases hlt:k<K
  ·have hx:=HX.out;rw[←b8_ K R (fun a b=>f b a)]at hlt;obtain⟨b,o,l,LA,lc,rfl,hb,HL,x1,hl⟩:=SlII.at_ hx hlt;rw[b8_]at hlt;have hl':=HL.out;rw[w2_ _ hlt]at hl';injection hl' with hl'
   subst hl';rw[a2_]at x1;have gww:Below w.heap.size w wr:=g0.trans (gW.mono g0.size);have x2:=a4_ gww hb x1;have HLC:=h_ hl;clear hx HL x1 hl;go_wp2;go_loopw [23] (fun i wr=>∃ j:Nat,j≤R∧i = .int .i64 j∧Blk wr w1.heap.size 65 #[.int .i64 R,.int .i64 K,.slice A1 N c1]∧a8_ wr W.heap.size w1.heap.size (.slice A1 N c1) (flat R K (fcK f k j))∧Below W.heap.size W wr) (fun i _=>R-(intOf i).toNat)
   case atStart=>exact⟨0,l0_ _,rfl,k4,oA,gW⟩
   case round =>
    clear k4 oA gW s6 x2 gww;obtain⟨j,hj,rfl,k4,oA,gW⟩:=hrel;have s6:=gW.size;by_cases hlj:j<R
    ·obtain⟨P,J,hP,hPJ,hJ,hJN,hJb⟩:=m3_ hlj hlt hR hK;rw[HN.out]at hJN;have hst:=f7q f hlj hlt;rw[←hJ]at hst;subst hPJ;have hl:=HLC.out;rw[←a2_ R (fun b=>f b k)]at hlj;obtain⟨b2,o2,x,rfl,hb2,HX2,x1,xr⟩:=SlI.at_ hl hlj;rw[a2_]at hlj;have hx2:=HX2.out;rw[c0_ _ hlj]at hx2;injection hx2 with hx2
     subst hx2;have gww:Below w.heap.size w wr:=g0.trans (gW.mono g0.size);have x2:=a4_ gww hb2 x1;obtain⟨gA,cA,eA,a1,a2,a3⟩:=oA.at_ (by rw[a1_,HN.out];omega);rw[a1_,HN.out]at eA;injection eA with eA1 eA2 eA3
     subst eA1 eA3;have r1:=k4.cell' (i:=1) rfl;have r2:=k4.cell' (i:=2) rfl;have fA:=oA.1.frozenG (P+k);have cA:=(oA.1.cellG (j:=P+k) (by rw[a1_,HN.out];omega)).1;have hc1:Chg W.heap.size w1.heap.size wr (wr.setCell ⟨gA,P+k,none⟩ (.int .i64 (f j k))):=a5_ a1 a2;have oA2:=oA.put (j:=P+k) (x:=f j k) xr;rw[hst]at oA2;have OA2:=h_ oA2;have K4:=h_ (k4.chg hc1 (by omega));have GW:=h_ (gW.trans (hc1.below (l_ _) s6));clear oA2 k4 oA gW hc1 hst hJ hl HX2 x1 gww hb2;go_wp2;go_roundw
     case rel=>exact⟨j+1,by omega,by go_num,K4.out,OA2.out,GW.out⟩
     case measure=>simp[intOf];omega
    ·obtain rfl:j=R:=by omega
     rw[d3q]at oA;have OA:=h_ oA;have K4:=h_ k4;have GW:=h_ gW;clear oA k4 gW;go_wp2;go_roundw
     case rel=>exact⟨k+1,by omega,by go_num,K4.out,OA.out,GW.out⟩
     case measure=>simp[intOf];omega
  ·obtain rfl:k=K:=by omega
   rw[i4x]at oA;have k2:=K2.out.below gW (by have:=SZ.out;omega);obtain⟨z0,z1,z2⟩:=c_3 k4;obtain⟨p0,p1,p2⟩:=c_3 k2;have f2:=k2.frozen;have h2:=chg3 wr w.heap.size (.int .i64 (R:Int)) (.int .i64 k) (.slice A1 N c1);have gw:Below w.heap.size w wr:=g0.trans (gW.mono g0.size);have gs:=gw.size;have oA2:=(oA.chg h2 (.inr (by have:=SZ.out;omega))).wider (lo':=w.heap.size) (hi':=wr.heap.size) (by have:=SZ.out;omega) (by have:=k4.lt;omega);have fg:=gw.trans (h2.below (l_ _) gs);have OA2:=h_ oA2;have FG:=h_ fg;clear oA oA2 fg gw h2 k2 k4 gW;go_wp2;exact bodyPost_ret (v:=.agg #[.int .i64 (R:Int),.int .i64 k,.slice A1 N c1]) (by simp[results,go_sem,p0,p1,p2]) rfl ⟨_,rfl,⟨_,rfl,by simpa [mxF] using OA2.out,by simp only[mxF,I64];omega,by simp only[mxF,I64];omega⟩,FG.out⟩
def bsF (c:Nat) (f g:Nat→Nat→Int) (a b:Nat):Int:=if b<c then f a b else g a (b-c)
def blF (r:Nat) (f g:Nat→Nat→Int) (a b:Nat):Int:=if a<r then f a b else g (a-r) b
theorem Z8_ (r s c:Nat) (f g:Nat→Nat→Int):g9_ r c f ++ g9_ s c g=g9_ (r+s) c (blF r f g):=by
 apply List.ext_getElem?
 intro i;by_cases h1:i<r
 ·rw[List.getElem?_append_left (by rw[b8_];exact h1),w2_ _ h1,w2_ _ (by omega)];congr 1
  exact d1_ fun b _=>by simp[blF,h1]
 ·rw[List.getElem?_append_right (by rw[b8_];omega),b8_];by_cases h2:i<r+s
  ·rw[w2_ _ (by omega),w2_ _ h2];congr 1
   exact d1_ fun b _=>by simp[blF,h1]
  ·rw[l6_ (by rw[b8_];omega),l6_ (by rw[b8_];omega)]
theorem b8X (r c d:Nat) (f g:Nat→Nat→Int):g9_ c r (fun a b=>f b a) ++ g9_ d r (fun a b=>g b a)=g9_ (c+d) r (fun a b=>bsF c f g b a):=Z8_ c d r _ _
theorem G8_ {w:World} {ops:Array Oper} {rest:List Oper} {o:Oper} {a:Act} {Q:Exit→Act→World→Prop} (hgd:o.guard=none) (s x:Operand)
  (ho:o.op = .call { callee:=.builtin .append,args:=#[s,x],argTypes:=#[34,34] })
  (lo hi lo' hi':Nat) (v v2:Value) (l1 l2:List (List Int)) (hs:a.eval s=v) (hown:b4_ w lo hi v l1) (hx:a.eval x=v2) (hown2:b4_ w lo' hi' v2 l2) (hd:hi≤lo'∨hi'≤lo)
  (hn:l1.length+l2.length≤1048576) (hlo:lo≤w.heap.size) (hhi:hi≤w.heap.size)
  (h:∀ v' w',SlII w' w'.heap.size v' (l1 ++ l2)→Below lo w w'→wpList Tryz.prog ops Q rest (a.put o.dst v') w'):wpList Tryz.prog ops Q (o :: rest) a w:=by
 obtain⟨vs1,o1,e1,F1⟩:=hown;obtain⟨vs2,o2,e2,F2⟩:=hown2;obtain⟨A2,c2,ev2,_,_⟩:=o2.form;subst ev2;obtain⟨i0,hi0,hz0,hz1,hz2⟩:=info_parts T0_;have hrd2:=o2;refine f1_ w hgd s x _ ho lo 24 i0 _ 1 24 Tryz.underlying34 hi0 hz0 hz1 hz2 rfl (by decide) v vs1.length _ hs o1.1 A2 vs2.length c2 vs2 hx ?_ ?_ (by simp only[maxLen];omega) (by omega) hlo fun v' w' h1 h2 h3=>?_
 ·refine⟨by simp,?_⟩;rcases Nat.eq_zero_or_pos vs2.length with h0 | h0
  ·exact .inl h0
  ·rcases o2.1.2 with ⟨e,h1⟩ | ⟨g,cap,cur,e,_,hg,hnc,hcm,hcs,htake⟩
   ·omega
   ·injection e with ea eb ec
    refine .inr ⟨g,0,ea,fun j u hj=>?_⟩;have hc:=o2.1;rw[ea]at hc;have:=hc.cellAt j (by have:=a6_ hj;omega);rw[Nat.zero_add,this,hj]
 ·intro u hu;obtain⟨j,hj⟩:=List.getElem?_of_mem hu;have hjl:=a6_ hj;have hm:=F2.1 (u,l2[j]'(by omega)) (by rw[List.mem_iff_getElem?];exact⟨j,by rw[List.getElem?_zip_eq_some];exact⟨hj,l2_ _⟩⟩);obtain⟨A,c,e⟩:=hm.form;rw[show u=_ from e];rfl
 ·have ho':OutO w' lo w'.heap.size v' (vs1 ++ vs2):=⟨by simpa using h1,fun k hk=>(h1.lt k hk).2,by simp;omega⟩;refine h v' w' (OutO.rd ho' (by simp[e1,e2]) fun p hp=>?_) (c9_ h2 (fun k hk=>(o1.1.lt k hk).1) hlo);rw[List.zip_append e1]at hp;rcases List.mem_append.1 hp with hp | hp
  ·exact ((Fam.grownO F1 o1.1 h2).1 p hp).rd
  ·exact ((Fam.grownO F2 o1.1 h2).1 p hp).rd
theorem P4_ (u v:Value) (r c d:Nat) (f g:Nat→Nat→Int) (w0:World) (hu:MxR w0 w0.heap.size u (mxF r c f)) (hv:MxR w0 w0.heap.size v (mxF r d g)) (hr:r≤500) (hc:c≤500) (hd:d≤500) :
  Calls Tryz.prog 160 #[u,v] w0 fun e w'=>∃ v,e = .returned v∧MxO w' w0.heap.size w'.heap.size v (mxF r (c+d) (bsF c f g))∧Below w0.heap.size w0 w':=by
 have hu':=hu;have hv':=hv;obtain⟨U,uc,rfl⟩:=hu.form;obtain⟨V,vc,rfl⟩:=hv.form;obtain⟨L,hL⟩:=e_ ((mxF r c f).a.length);obtain⟨L',hL'⟩:=e_ ((mxF r d g).a.length);have z1:(mxF r c f).r=(r:Int):=rfl;have z2:(mxF r c f).c=(c:Int):=rfl;have z3:(mxF r d g).r=(r:Int):=rfl;have z4:(mxF r d g).c=(d:Int):=rfl;rw[hL,z1,z2]at hu'⊢;rw[hL',z3,z4]at hv'⊢;clear hu hv hL hL' z1 z2 z3 z4;obtain⟨W,hW⟩:∃ W,W=((w0.alloc (.cells #[.int .i64 r,.int .i64 c,.slice U L uc] 65)).alloc (.cells #[.int .i64 r,.int .i64 d,.slice V L' vc] 65)).alloc (.cells #[.int .i64 0,.int .i64 0,.slice none 0 0] 65):=⟨_,rfl⟩;have g0:Below w0.heap.size w0 W:=by rw[hW];exact (((Below.refl _ _).alloc (l_ _) _).alloc (by simp) _).alloc (by simp;omega) _
 have k1:Blk W w0.heap.size 65 #[.int .i64 r,.int .i64 c,.slice U L uc]:=by rw[hW];exact ((Blk.new _ _ _).alloc _).alloc _
 have k2:Blk W (w0.heap.size+1) 65 #[.int .i64 r,.int .i64 d,.slice V L' vc]:=by
  rw[hW];have:=(Blk.new (w0.alloc (.cells #[.int .i64 r,.int .i64 c,.slice U L uc] 65)) 65 #[.int .i64 r,.int .i64 d,.slice V L' vc]).alloc (.cells #[.int .i64 0,.int .i64 0,.slice none 0 0] 65);simpa only[l3_] using this
 have k3:Blk W (w0.heap.size+1+1) 65 #[.int .i64 0,.int .i64 0,.slice none 0 0]:=by
  rw[hW];have:=Blk.new ((w0.alloc (.cells #[.int .i64 r,.int .i64 c,.slice U L uc] 65)).alloc (.cells #[.int .i64 r,.int .i64 d,.slice V L' vc] 65)) 65 #[.int .i64 0,.int .i64 0,.slice none 0 0];simpa only[l3_] using this
 have sz:W.heap.size=w0.heap.size+1+1+1:=by rw[hW];simp
 have HU:=h_ (MxR.next g0 hu');have HV:=h_ (MxR.next g0 hv');have SZ:=h_ sz;clear sz hu' hv';go_enter Tryz.func160,Tryz.ntmps160
 go_wp2;rw[←hW];clear hW;refine y8_ (by kernel_rfl) [.eq (.pointer (some ⟨w0.heap.size,0,none⟩)),.eq (.int .i64 r),.eq (.agg #[.int .i64 r,.int .i64 c,.slice U L uc]),rel 3 (fun u lo hi w=>b4_ w lo hi u (g9_ c r (fun a b=>f b a))∧W.heap.size≤lo∧lo≤hi),.eq (.agg #[.int .i64 r,.int .i64 d,.slice V L' vc]),.rel (fun x w=>b4_ w (x.lo 5) (x.hi 5) (x.v 5) (g9_ d r (fun a b=>g b a))∧x.hi 3≤x.lo 5),.rel (fun x w=>SlII w w.heap.size (x.v 6) (g9_ (c+d) r (fun a b=>bsF c f g b a))),rel 7 (fun u lo hi w=>MxO w lo hi u (mxF r (c+d) (bsF c f g)))] [[],[0],[],[2],[],[2,3,4],[2,3,4,5],[0,1,2,3,4,5,6],[0,1,2,3,4,5,6,7]] [[],[0],[],[2],[],[2,3,4],[2,3,4,5],[0,1,2,4,6]] [0,1,2,4,6,7] 8 6 (by kernel_rfl) (by kernel_rfl) ⟨.inr (.inr ⟨_,rfl⟩),.inr (.inr ⟨_,rfl⟩),.inr (.inr ⟨_,rfl⟩),.inr (.inr ⟨_,rfl⟩),.inl rfl,.inr (.inl rfl),trivial⟩ ⟨trivial,trivial,trivial,a7_ (fun u lo hi w w' h hb=>⟨h.1.below hb,h.2⟩),trivial,fun x w w' h hb=>⟨h.1.below hb,h.2⟩,fun x w w' h hb=>SlII.next hb h,a7_ (fun u lo hi w w' h hb=>h.below hb),trivial⟩ ⟨?_,?_,?_,?_,?_,?_,?_,?_,trivial⟩ ?_;iterate 8 (intro x w hb hk Q' hQ;have he:=k_e hk;simp only[k_s]at he;simp only[netE]at hQ⊢;(try simp only[he]at hQ⊢);(try clear he);rotate_left)
 rotate_left
 ·clear hk;go_wp2;exact hQ _ _ br_ rfl
 ·clear hk;have z2:=(k1.below hb k1.lt).cell' (i:=0) rfl;go_wp2;exact hQ _ _ br_ rfl
 ·clear hk;obtain⟨z0,z1,z2⟩:=c_3 (k1.below hb k1.lt);go_wp2;exact hQ _ _ br_ rfl
 ·clear hk;go_wp2_with fail
  refine (K1_ _ r c f _ (MxR.more hb.size (MxR.below hb HU.out)) (by omega) (by omega)).mono ?_;rintro e w5 ⟨v5,rfl,hO5,hb5⟩;go_wp2;exact hQ _ _ hb5 ⟨hO5,hb.size,hb5.size⟩
 ·clear hk;obtain⟨z0,z1,z2⟩:=c_3 (k2.below hb k2.lt);go_wp2;exact hQ _ _ br_ rfl
 ·have h3:b4_ w (x.lo 3) (x.hi 3) (x.v 3) (g9_ c r (fun a b=>f b a))∧W.heap.size≤(x.lo 3)∧(x.lo 3)≤(x.hi 3):=(hk 3 (by decide)).1;have s3:=(hk 3 (by decide)).2;clear hk;go_wp2_with fail
  refine (K1_ _ r d g _ (MxR.more hb.size (MxR.below hb HV.out)) (by omega) (by omega)).mono ?_;rintro e w5 ⟨v5,rfl,hO5,hb5⟩;go_wp2;exact hQ _ _ hb5 ⟨hO5,s3⟩
 ·have h3:b4_ w (x.lo 3) (x.hi 3) (x.v 3) (g9_ c r (fun a b=>f b a))∧W.heap.size≤(x.lo 3)∧(x.lo 3)≤(x.hi 3):=(hk 3 (by decide)).1;have h5:b4_ w (x.lo 5) (x.hi 5) (x.v 5) (g9_ d r (fun a b=>g b a))∧x.hi 3≤x.lo 5:=(hk 5 (by decide)).1;have s3:=(hk 3 (by decide)).2;have s5:=(hk 5 (by decide)).2;clear hk;obtain⟨h3,l3,l3'⟩:=h3;obtain⟨h5,l5⟩:=h5;have HA:=h_ h3;have HB:=h_ h5;clear h3 h5
  (go_wp2_with (at_builtin;refine Hold.stop ?_));unfold Hold
  refine G8_ rfl (.tmp 8) (.tmp 10) rfl _ _ _ _ _ _ _ _ rfl HA.out rfl HB.out (.inl l5) (by rw[b8_,b8_];omega) (by omega) s3 ?_;intro v' w' hv' hb';rw[b8X]at hv';go_wp2;exact hQ v' w' (hb'.mono l3) hv'
 ·have h6:SlII w w.heap.size (x.v 6) (g9_ (c+d) r (fun a b=>bsF c f g b a)):=(hk 6 (by decide)).1;have s6:=(hk 6 (by decide)).2;clear hk;have h6':=h_ h6;obtain⟨A6,c6,e6,_⟩:=h6;rw[e6]at h6' hQ⊢;go_wp2_with fail
  refine (v4_ _ r (c+d) (bsF c f g) _ h6'.out (by omega) (by omega)).mono ?_;rintro e w5 ⟨v5,rfl,hO5,hb5⟩;go_wp2;exact hQ _ _ hb5 hO5
 ·intro x w hb hk hiv hdj;have h6:SlII w w.heap.size (x.v 6) (g9_ (c+d) r (fun a b=>bsF c f g b a)):=hk 6 (by decide) (by decide);have h7:MxO w (x.lo 7) (x.hi 7) (x.v 7) (mxF r (c+d) (bsF c f g)):=hk 7 (by decide) (by decide);simp only[netE,n_e (hk 0 (by decide) (by decide)),n_e (hk 1 (by decide) (by decide)),n_e (hk 2 (by decide) (by decide)),n_e (hk 4 (by decide) (by decide))];clear hk;have sz:=SZ.out;have kR:=k3.below hb k3.lt;obtain⟨l7,_,l7h⟩:=hiv 7 (by decide);obtain⟨A7,c7,e7⟩:=h7.form;simp only[mxF]at e7;rw[e7]at h7⊢;clear hiv hdj e7 h6;obtain⟨N,hN⟩:=e_ ((flat r (c+d) (bsF c f g)).length);rw[hN]at h7⊢;obtain⟨p0,p1,p2⟩:=c_3 kR;have fr:=kR.frozen;have gX:=g0.trans (hb.mono g0.size);have gXs:=gX.size;have hbs:=hb.size;have h2:=chg3 w (w0.heap.size+1+1) (.int .i64 (r:Int)) (.int .i64 ((c+d:Nat):Int)) (.slice A7 N c7);have OF:=h_ ((h7.chg h2 (.inr (by omega))).wider (lo':=w0.heap.size) (hi':=w.heap.size) (by omega) (by omega));have GF:=h_ (gX.trans (h2.below (by omega) gXs));have e8:((c+d:Nat):Int)=(c:Int)+d:=by simp
  rw[e8]at OF GF;clear h7 h2 gX kR hN sz gXs hbs l7 l7h hb k1 k2 k3 e8;go_wp2;exact bodyPost_ret (v:=.agg #[.int .i64 (r:Int),.int .i64 ((c:Int)+d),.slice A7 N c7]) (by simp[results,go_sem,p0,p1,p2]) rfl ⟨_,rfl,OF.out.wider (l_ _) (by simp),GF.out⟩
end Go.Proofs.YtbgccbmdiolhbaaGreat
namespace Go.Proofs
open Go.Shelf
def Tryz.laysGrow_ren:Go.Shelf.Ren:=⟨fun | 4=>167 | n=>n,fun | 22=>24 | 25=>3 | 3=>3 | 4=>4 | 9=>9 | 20=>20 | 0=>0 | n=>n,fun | n=>n⟩
theorem Tryz.laysGrow:Go.Proofs.Lays8.n4 Tryz.prog Tryz.laysGrow_ren:={
 mixed:=by kernel_rfl
 f4:=⟨Tryz.f167.name,by decide,Tryz.func167.trans (congrArg some (by kernel_rfl))⟩
 t0:=Tryz.underlying0
 a0:=Tryz.isAgg0
 z0:=Tryz.sizeOf0
 v0:=Tryz.zeroValue0
 t3:=Tryz.underlying3
 a3:=Tryz.isAgg3
 z3:=Tryz.sizeOf3
 v3:=Tryz.zeroValue3
 t4:=Tryz.underlying4
 a4:=Tryz.isAgg4
 z4:=Tryz.sizeOf4
 v4:=Tryz.zeroValue4
 t9:=Tryz.underlying9
 a9:=Tryz.isAgg9
 z9:=Tryz.sizeOf9
 v9:=Tryz.zeroValue9
 t20:=Tryz.underlying20
 a20:=Tryz.isAgg20
 z20:=Tryz.sizeOf20
 v20:=Tryz.zeroValue20
 t22:=Tryz.underlying24
 a22:=Tryz.isAgg24
 z22:=Tryz.sizeOf24
 v22:=Tryz.zeroValue24 }
end Go.Proofs
namespace Go.Proofs.YtbgccbmdiolhbaaGreat
open Go.RowKit
theorem d3J (n:Nat) (w:World) (hn:n≤1000000) :
  Calls Tryz.prog 167 #[.slice none 0 0,.int .i64 n] w fun e w'=>∃ v,e = .returned v∧OwnI w' w.heap.size v []∧Below w.heap.size w w':=by
 rcases Nat.eq_zero_or_pos n with rfl | h0
 ·exact (Any8.slices_Grow_room Tryz.laysGrow none 0 0 0 w (by omega) (by omega) (by omega) (by omega)).mono fun e w' ⟨h1,h2⟩=>⟨_,h1,OwnI.nil _ _,by rw[h2];exact Below.refl _ _⟩
 ·obtain⟨i0,hi,hz0,hz1,hz2⟩:=info_parts u1_;have hG:Calls Tryz.prog 167 #[.slice none 0 0,.int .i64 n] w fun e w'=>e = .returned (.slice (some ⟨w.heap.size,0,none⟩) 0 (grownCap w (0+n) 0 3)) ∧
    w'=w.drew.alloc (.cells (([]:List Value).toArray ++ Builtin.zeroCells (Value.int .i64 0).cells (0+n-0) ++ Builtin.zeroCells (Value.int .i64 0).cells (grownCap w (0+n) 0 3-(0+n))) 3) :=
   Any8.slices_Grow_grow Tryz.laysGrow i0 _ hi hz0 (by omega) none 0 0 n [] w (by omega) (by omega) (by rw[hz2];omega) (by omega) (by simp) (fun _=>rfl) (fun a h=>by cases h)
  rw[Nat.zero_add,Nat.sub_zero]at hG;refine hG.mono fun e w' ⟨h1,h2⟩=>⟨_,h1,?_,?_⟩
  ·rw[h2];have hg:=grownCap_ge w n 0 3;have hm:=grownCap_le_maxLen w n 0 3 (by simp only[maxLen];omega);refine⟨⟨by simp,.inr ⟨w.heap.size,grownCap w n 0 3,_,rfl,l_ _,Blk.new _ _ _,l0_ _,hm,?_,by simp⟩⟩,by simp,by simp⟩;have hz:(Value.int .i64 0).cells.size=1:=rfl;simp only[Array.size_append,size_zeroCells,List.size_toArray,List.length_nil,hz,Nat.mul_one];omega
  ·rw[h2];exact b0_ (b4J w) (a0_ _ _)
theorem o9_ (ll:List (List Int)) (k:Nat):(ll.take k).flatten.length≤ll.flatten.length:=by
 have:ll=ll.take k ++ ll.drop k:=(List.take_append_drop k ll).symm;have h2:=congrArg (fun x=>(List.flatten x).length) this;simp only[List.flatten_append,List.length_append]at h2;omega
theorem b4q (u:Value) (ll:List (List Int)) (w:World) (hu:SlII w w.heap.size u ll) (hn:ll.length≤1000000) (ht:ll.flatten.length≤1000000) :
  Calls Tryz.prog 165 #[u] w fun e w'=>∃ v,e = .returned v∧a8_ w' w.heap.size w'.heap.size v ll.flatten∧Below w.heap.size w w':=by
 obtain⟨A,c,rfl,_,_,_,hx⟩:=hu.open_;clear hu;have HX:=h_ hx;have HT:=h_ ht;obtain⟨n,hnl⟩:=e_ (ll.length);have HNL:=h_ hnl;rw[hnl]at hn⊢;clear hx ht hnl;go_enter Tryz.func165,Tryz.ntmps165
 go_wp2;go_loopw [3,11] (fun s i wr=>∃ k:Nat,k≤n∧i = .int .i64 k∧s = .int .i64 ((ll.take k).flatten.length:Nat)∧w=wr) (fun _ i _=>n-(intOf i).toNat)
 case atStart=>exact⟨0,l0_ _,rfl,by simp,rfl⟩
 case round =>
  obtain⟨k,hk,rfl,rfl,rfl⟩:=hrel;have hle:=o9_ ll k;have hle2:=o9_ ll (k+1);have ht:=HT.out;obtain⟨s,hs⟩:=e_ ((ll.take k).flatten.length);by_cases hlt:k<n
  ·rw[hs]at hle⊢;have hx:=HX.out;rw[←HNL.out]at hlt;obtain⟨b,o,l,LA,lc,rfl,hb,HL,x1,hl⟩:=SlII.at_ hx hlt;rw[HNL.out]at hlt;have e1:(ll.take (k+1)).flatten.length=s+l.length:=by rw[c6_ HL.out,List.flatten_append,List.length_append,hs];simp
   rw[e1]at hle2;have hsl:s+l.length≤1000000:=by omega
   have E1:=h_ e1;clear hs e1 ht hle hle2 hx HL hl hb;go_wp2;go_roundw
   case rel=>exact⟨k+1,by omega,by go_num,by rw[E1.out];go_num,by first | rfl | trivial⟩
   case measure=>simp[intOf];omega
  ·obtain rfl:k=n:=by omega
   have e0:ll.take k=ll:=l7_ (by have:=HNL.out;omega);rw[e0]at hs⊢;rw[hs]at ht⊢;clear hle hle2 e0;have HS:=h_ hs;clear hs;go_wp2_with fail
   refine (d3J s _ (by omega)).mono ?_;rintro e w1 ⟨v,rfl,ho,hb1⟩;obtain⟨OA,oc,rfl,_,_⟩:=ho.form;have gw:=hb1;go_wp2;go_loopw [6,27] (fun out i wr=>∃ j:Nat,j≤k∧i = .int .i64 j∧OwnI wr w.heap.size out (ll.take j).flatten∧Below w.heap.size w wr) (fun _ i _=>k-(intOf i).toNat)
   case atStart=>exact⟨0,l0_ _,rfl,by simpa using ho,hb1⟩
   case round =>
    clear ho hb1 gw;obtain⟨j,hj,rfl,ho,hb1⟩:=hrel;have gs:=hb1.size;by_cases hlj:j<k
    ·have hx:=HX.out;rw[←HNL.out]at hlj;obtain⟨b,o,l,LA,lc,rfl,hb,HL,x1,hl⟩:=SlII.at_ hx hlj;rw[HNL.out]at hlj;have x2:=a4_ hb1 hb x1;have hl2:SlI wr w.heap.size (.slice LA l.length lc) l:=SlI.below hb1 hl;have e1:(ll.take (j+1)).flatten=(ll.take j).flatten ++ l:=by rw[c6_ HL.out,List.flatten_append];simp
     have hle2:=o9_ ll (j+1);rw[e1,List.length_append,HS.out]at hle2;have E1:=h_ e1;obtain⟨OB,ob,rfl,_,_⟩:=ho.form;have HO:=h_ ho;have HL2:=h_ hl2;have HLE:=h_ hle2;have GW:=h_ hb1;have hlo2:=HO.out.lt;clear e1 hx hl hl2 HL x1 ho hle2 hb1
     (go_wp2_with (at_builtin;refine Hold.stop ?_));unfold Hold
     refine d7_ rfl (.tmp 31) (.tmp 32) rfl w.heap.size w.heap.size _ _ rfl HO.out LA l.length lc l rfl rfl HL2.out (by have:=HLE.out;omega) gs ?_;intro v' w' h1 h2 h3;rw[←E1.out]at h1;have g2:=(GW.out).trans (c9_ h2 (fun k hk=>(hlo2 k hk).1) gs);have H1:=h_ h1;have G2:=h_ g2;clear h1 h2 h3 g2 hlo2;go_wp2;go_roundw
     case rel=>exact⟨j+1,by omega,by go_num,H1.out,G2.out⟩
     case measure=>simp[intOf];omega
    ·obtain rfl:j=k:=by omega
     have e0:ll.take j=ll:=l7_ (by have:=HNL.out;omega);rw[e0]at ho;have HO:=h_ ho;clear ho e0;go_wp2;go_ret
     exact⟨_,rfl,a8_.of_own HO.out,hb1⟩
theorem C1_ (r c:Nat) (f:Nat→Nat→Int):(g9_ r c f).flatten=flat r c f:=by
 induction r with
 | zero=>simp[g9_,flat]
 | succ r ih =>
  rw[x7_,List.flatten_append,ih];refine x2_ (by simp[a1_,a2_,Nat.add_mul]) fun i k hi hk=>?_
  rw[List.getElem?_append];by_cases h:i<r
  ·rw[if_pos (by rw[a1_];exact E4_ h hk),k3_ f h hk]
  ·obtain rfl:i=r:=by omega
   rw[if_neg (by rw[a1_];omega),a1_,show i*c+k-i*c=k by omega];simp[c0_ _ hk]
theorem X6_ (u:Value) (c r:Nat) (f:Nat→Nat→Int) (w0:World) (hu:SlII w0 w0.heap.size u (g9_ r c f)) (hr:r≤1000) (hc:c≤1000) :
  Calls Tryz.prog 162 #[.int .i64 c,u] w0 fun e w'=>∃ v,e = .returned v∧MxO w' w0.heap.size w'.heap.size v (mxF r c f)∧Below w0.heap.size w0 w':=by
 have hu':=hu;obtain⟨A,ac,rfl,_⟩:=hu;rw[b8_]at hu'⊢;obtain⟨W,hW,g0,k2⟩:=b_3 w0 #[.int .i64 0,.int .i64 0,.slice none 0 0] 65;have sz:W.heap.size=w0.heap.size+1:=by rw[hW];simp
 have hle:r*c≤1000*1000:=Nat.mul_le_mul hr hc;have HLE:Hid ((g9_ r c f).flatten.length≤1000000):=by show _≤_;rw[C1_,a1_];exact Nat.le_trans hle (by decide)
 have HU:=h_ (SlII.next g0 hu');have K2:=h_ k2;have SZ:=h_ sz;clear hu' k2 sz hle;go_enter Tryz.func162,Tryz.ntmps162
 go_wp2_with fail
 rw[←hW];clear hW;refine (b4q _ (g9_ r c f) W HU.out (by rw[b8_];omega) HLE.out).mono ?_;rintro e wr ⟨v1,rfl,oA,gW⟩;rw[C1_]at oA;obtain⟨A1,c1,rfl⟩:=oA.form;obtain⟨N,hN⟩:=e_ ((flat r c f).length);rw[hN]at oA⊢;clear hN;have k2:=K2.out.call gW;obtain⟨p0,p1,p2⟩:=c_3 k2;have f2:=k2.frozen;have h2:=chg3 wr w0.heap.size (.int .i64 (r:Int)) (.int .i64 c) (.slice A1 N c1);have gw:Below w0.heap.size w0 wr:=g0.trans (gW.mono g0.size);have gs:=gw.size;have oA2:=(oA.chg h2 (.inr (by have:=SZ.out;omega))).wider (lo':=w0.heap.size) (hi':=wr.heap.size) (by have:=SZ.out;omega) (l_ _);have fg:=gw.trans (h2.below (l_ _) gs);have OA2:=h_ oA2;have FG:=h_ fg;clear oA oA2 fg gw h2 k2 gW;go_wp2;exact bodyPost_ret (v:=.agg #[.int .i64 (r:Int),.int .i64 c,.slice A1 N c1]) (by simp[results,go_sem,p0,p1,p2]) rfl ⟨_,rfl,⟨_,rfl,by simpa [mxF] using OA2.out,by simp only[mxF,I64];omega,by simp only[mxF,I64];omega⟩,FG.out⟩
theorem b7J (u v:Value) (c r s:Nat) (f g:Nat→Nat→Int) (w0:World) (hu:MxR w0 w0.heap.size u (mxF r c f)) (hv:MxR w0 w0.heap.size v (mxF s c g)) (hr:r≤500) (hs:s≤500) (hc:c≤500) :
  Calls Tryz.prog 159 #[u,v] w0 fun e w'=>∃ v,e = .returned v∧MxO w' w0.heap.size w'.heap.size v (mxF (r+s) c (blF r f g))∧Below w0.heap.size w0 w':=by
 have hu':=hu;have hv':=hv;obtain⟨U,uc,rfl⟩:=hu.form;obtain⟨V,vc,rfl⟩:=hv.form;obtain⟨L,hL⟩:=e_ ((mxF r c f).a.length);obtain⟨L',hL'⟩:=e_ ((mxF s c g).a.length);have z1:(mxF r c f).r=(r:Int):=rfl;have z2:(mxF r c f).c=(c:Int):=rfl;have z3:(mxF s c g).r=(s:Int):=rfl;have z4:(mxF s c g).c=(c:Int):=rfl;rw[hL,z1,z2]at hu'⊢;rw[hL',z3,z4]at hv'⊢;clear hu hv hL hL' z1 z2 z3 z4;obtain⟨W,hW⟩:∃ W,W=((w0.alloc (.cells #[.int .i64 r,.int .i64 c,.slice U L uc] 65)).alloc (.cells #[.int .i64 s,.int .i64 c,.slice V L' vc] 65)).alloc (.cells #[.int .i64 0,.int .i64 0,.slice none 0 0] 65):=⟨_,rfl⟩;have g0:Below w0.heap.size w0 W:=by rw[hW];exact (((Below.refl _ _).alloc (l_ _) _).alloc (by simp) _).alloc (by simp;omega) _
 have k1:Blk W w0.heap.size 65 #[.int .i64 r,.int .i64 c,.slice U L uc]:=by rw[hW];exact ((Blk.new _ _ _).alloc _).alloc _
 have k2:Blk W (w0.heap.size+1) 65 #[.int .i64 s,.int .i64 c,.slice V L' vc]:=by
  rw[hW];have:=(Blk.new (w0.alloc (.cells #[.int .i64 r,.int .i64 c,.slice U L uc] 65)) 65 #[.int .i64 s,.int .i64 c,.slice V L' vc]).alloc (.cells #[.int .i64 0,.int .i64 0,.slice none 0 0] 65);simpa only[l3_] using this
 have k3:Blk W (w0.heap.size+1+1) 65 #[.int .i64 0,.int .i64 0,.slice none 0 0]:=by
  rw[hW];have:=Blk.new ((w0.alloc (.cells #[.int .i64 r,.int .i64 c,.slice U L uc] 65)).alloc (.cells #[.int .i64 s,.int .i64 c,.slice V L' vc] 65)) 65 #[.int .i64 0,.int .i64 0,.slice none 0 0];simpa only[l3_] using this
 have sz:W.heap.size=w0.heap.size+1+1+1:=by rw[hW];simp
 have HU:=h_ (MxR.next g0 hu');have HV:=h_ (MxR.next g0 hv');have SZ:=h_ sz;clear sz hu' hv';go_enter Tryz.func159,Tryz.ntmps159
 go_wp2;rw[←hW];clear hW;refine y8_ (by kernel_rfl) [.eq (.pointer (some ⟨w0.heap.size,1,none⟩)),.eq (.int .i64 c),.eq (.agg #[.int .i64 r,.int .i64 c,.slice U L uc]),rel 3 (fun u lo hi w=>b4_ w lo hi u (g9_ r c f)∧W.heap.size≤lo∧lo≤hi),.eq (.agg #[.int .i64 s,.int .i64 c,.slice V L' vc]),.rel (fun x w=>b4_ w (x.lo 5) (x.hi 5) (x.v 5) (g9_ s c g)∧x.hi 3≤x.lo 5),.rel (fun x w=>SlII w w.heap.size (x.v 6) (g9_ (r+s) c (blF r f g))),rel 7 (fun u lo hi w=>MxO w lo hi u (mxF (r+s) c (blF r f g)))] [[],[0],[],[2],[],[2,3,4],[2,3,4,5],[0,1,2,3,4,5,6],[0,1,2,3,4,5,6,7]] [[],[0],[],[2],[],[2,3,4],[2,3,4,5],[0,1,2,4,6]] [0,1,2,4,6,7] 8 6 (by kernel_rfl) (by kernel_rfl) ⟨.inr (.inr ⟨_,rfl⟩),.inr (.inr ⟨_,rfl⟩),.inr (.inr ⟨_,rfl⟩),.inr (.inr ⟨_,rfl⟩),.inl rfl,.inr (.inl rfl),trivial⟩ ⟨trivial,trivial,trivial,a7_ (fun u lo hi w w' h hb=>⟨h.1.below hb,h.2⟩),trivial,fun x w w' h hb=>⟨h.1.below hb,h.2⟩,fun x w w' h hb=>SlII.next hb h,a7_ (fun u lo hi w w' h hb=>h.below hb),trivial⟩ ⟨?_,?_,?_,?_,?_,?_,?_,?_,trivial⟩ ?_;iterate 8 (intro x w hb hk Q' hQ;have he:=k_e hk;simp only[k_s]at he;simp only[netE]at hQ⊢;(try simp only[he]at hQ⊢);(try clear he);rotate_left)
 rotate_left
 ·clear hk;go_wp2;exact hQ _ _ br_ rfl
 ·clear hk;have z2:=(k1.below hb k1.lt).cell' (i:=1) rfl;go_wp2;exact hQ _ _ br_ rfl
 ·clear hk;obtain⟨z0,z1,z2⟩:=c_3 (k1.below hb k1.lt);go_wp2;exact hQ _ _ br_ rfl
 ·clear hk;go_wp2_with fail
  refine (b1Z _ r c f _ (MxR.more hb.size (MxR.below hb HU.out)) (by omega) (by omega)).mono ?_;rintro e w5 ⟨v5,rfl,hO5,hb5⟩;go_wp2;exact hQ _ _ hb5 ⟨hO5,hb.size,hb5.size⟩
 ·clear hk;obtain⟨z0,z1,z2⟩:=c_3 (k2.below hb k2.lt);go_wp2;exact hQ _ _ br_ rfl
 ·have h3:b4_ w (x.lo 3) (x.hi 3) (x.v 3) (g9_ r c f)∧W.heap.size≤(x.lo 3)∧(x.lo 3)≤(x.hi 3):=(hk 3 (by decide)).1;have s3:=(hk 3 (by decide)).2;clear hk;go_wp2_with fail
  refine (b1Z _ s c g _ (MxR.more hb.size (MxR.below hb HV.out)) (by omega) (by omega)).mono ?_;rintro e w5 ⟨v5,rfl,hO5,hb5⟩;go_wp2;exact hQ _ _ hb5 ⟨hO5,s3⟩
 ·have h3:b4_ w (x.lo 3) (x.hi 3) (x.v 3) (g9_ r c f)∧W.heap.size≤(x.lo 3)∧(x.lo 3)≤(x.hi 3):=(hk 3 (by decide)).1;have h5:b4_ w (x.lo 5) (x.hi 5) (x.v 5) (g9_ s c g)∧x.hi 3≤x.lo 5:=(hk 5 (by decide)).1;have s3:=(hk 3 (by decide)).2;have s5:=(hk 5 (by decide)).2;clear hk;obtain⟨h3,l3,l3'⟩:=h3;obtain⟨h5,l5⟩:=h5;have HA:=h_ h3;have HB:=h_ h5;clear h3 h5
  (go_wp2_with (at_builtin;refine Hold.stop ?_));unfold Hold
  refine G8_ rfl (.tmp 8) (.tmp 10) rfl _ _ _ _ _ _ _ _ rfl HA.out rfl HB.out (.inl l5) (by rw[b8_,b8_];omega) (by omega) s3 ?_;intro v' w' hv' hb';rw[Z8_]at hv';go_wp2;exact hQ v' w' (hb'.mono l3) hv'
 ·have h6:SlII w w.heap.size (x.v 6) (g9_ (r+s) c (blF r f g)):=(hk 6 (by decide)).1;have s6:=(hk 6 (by decide)).2;clear hk;have h6':=h_ h6;obtain⟨A6,c6,e6,_⟩:=h6;rw[e6]at h6' hQ⊢;go_wp2_with fail
  refine (X6_ _ c (r+s) (blF r f g) _ h6'.out (by omega) (by omega)).mono ?_;rintro e w5 ⟨v5,rfl,hO5,hb5⟩;go_wp2;exact hQ _ _ hb5 hO5
 ·intro x w hb hk hiv hdj;have h6:SlII w w.heap.size (x.v 6) (g9_ (r+s) c (blF r f g)):=hk 6 (by decide) (by decide);have h7:MxO w (x.lo 7) (x.hi 7) (x.v 7) (mxF (r+s) c (blF r f g)):=hk 7 (by decide) (by decide);simp only[netE,n_e (hk 0 (by decide) (by decide)),n_e (hk 1 (by decide) (by decide)),n_e (hk 2 (by decide) (by decide)),n_e (hk 4 (by decide) (by decide))];clear hk;have sz:=SZ.out;have kR:=k3.below hb k3.lt;obtain⟨l7,_,l7h⟩:=hiv 7 (by decide);obtain⟨A7,c7,e7⟩:=h7.form;simp only[mxF]at e7;rw[e7]at h7⊢;clear hiv hdj e7 h6;obtain⟨N,hN⟩:=e_ ((flat (r+s) c (blF r f g)).length);rw[hN]at h7⊢;obtain⟨p0,p1,p2⟩:=c_3 kR;have fr:=kR.frozen;have gX:=g0.trans (hb.mono g0.size);have gXs:=gX.size;have hbs:=hb.size;have h2:=chg3 w (w0.heap.size+1+1) (.int .i64 ((r+s:Nat):Int)) (.int .i64 (c:Int)) (.slice A7 N c7);have OF:=h_ ((h7.chg h2 (.inr (by omega))).wider (lo':=w0.heap.size) (hi':=w.heap.size) (by omega) (by omega));have GF:=h_ (gX.trans (h2.below (by omega) gXs));have e8:((r+s:Nat):Int)=(r:Int)+s:=by simp
  rw[e8]at OF GF;clear h7 h2 gX kR hN sz gXs hbs l7 l7h hb k1 k2 k3 e8;go_wp2;exact bodyPost_ret (v:=.agg #[.int .i64 ((r:Int)+s),.int .i64 c,.slice A7 N c7]) (by simp[results,go_sem,p0,p1,p2]) rfl ⟨_,rfl,OF.out.wider (l_ _) (by simp),GF.out⟩
def tN (q:Qv) (i:Nat):Nat:=(q.t.getD i 0).toNat
def fN (q:Qv) (i:Nat):Nat:=(q.f.getD i 0).toNat
def rpF (p:Int) (q:Qv) (D:Nat→Nat) (E:Nat→Nat→Nat→Int):Rp :=
 ⟨p,q,rowF q.v.toNat fun v=>(D v:Int),msF q.f.length fun i=>mxF (D (tN q i)) (D (fN q i)) (E i)⟩
def dsE (r c:Nat) (e g:Nat→Nat→Int):Nat→Nat→Int:=blF r (bsF c e fun _ _=>0) (bsF c (fun _ _=>0) g)
def dsSF (q:Qv) (D:Nat→Nat) (E G:Nat→Nat→Nat→Int) (i:Nat):Nat→Nat→Int:=dsE (D (tN q i)) (D (fN q i)) (E i) (G i)
theorem f6Q {r c:Nat} {e g:Nat→Nat→Int} {p:Int} (hp:1≤p) (he:∀ j k,0≤e j k∧e j k≤p-1) (hg:∀ j k,0≤g j k∧g j k≤p-1) (j k:Nat):0≤dsE r c e g j k∧dsE r c e g j k≤p-1:=by
 unfold dsE blF bsF;split
 ·split
  ·exact he _ _
  ·show (0:Int)≤0∧(0:Int)≤p-1;omega
 ·split
  ·show (0:Int)≤0∧(0:Int)≤p-1;omega
  ·exact hg _ _
theorem Z4_ {q:Qv} (hq:isQ q=true) {i:Nat} (hi:i<q.f.length):q.f[i]?=some (fN q i:Int)∧q.t[i]?=some (tN q i:Int)∧fN q i<q.v.toNat∧tN q i<q.v.toNat:=by
 obtain⟨hv,hl,h6,hf,ht⟩:=j2_.1 hq;have e1:q.f[i]?=some (q.f[i]'hi):=l2_ hi;have e2:q.t[i]?=some (q.t[i]'(by omega)):=l2_ (by omega);have r1:=hf _ (l4_ e1);have r2:=ht _ (l4_ e2);have f1:fN q i=(q.f[i]'hi).toNat:=by rw[fN,l1_,e1];rfl
 have f2:tN q i=(q.t[i]'(by omega)).toNat:=by rw[tN,l1_,e2];rfl
 rw[e1,e2,f1,f2];exact⟨by congr 1;omega,by congr 1;omega,by omega,by omega⟩
theorem c7Z {p:Int} {q:Qv} {D:Nat→Nat} {E:Nat→Nat→Nat→Int} (hp:c8_ p=true) (hq:isQ q=true) (hE:∀ i j k,0≤E i j k∧E i j k≤p-1):m9_ (rpF p q D E)=i0_ q (rowF q.v.toNat fun v=>(D v:Int)):=by
 rw[m9_];show (c8_ p && i0_ q (rowF q.v.toNat fun v=>(D v:Int)) && decide ((msF q.f.length _).length=q.f.length) && okMs (rpF p q D E) (msF q.f.length _).length)=_;rw[b2_,hp];cases hd:i0_ q (rowF q.v.toNat fun v=>(D v:Int)) with
 | false=>simp
 | true =>
  have hok:okMs (rpF p q D E) q.f.length=true:=by
   rw[okMs,List.all_eq_true];intro i hi;rw[List.mem_range]at hi;obtain⟨e1,e2,l1,l2⟩:=Z4_ hq hi;have hr:=(c3_.1 hd).2.2.1;have d1:dAt (rpF p q D E).d (fN q i)=(D (fN q i):Int):=by
    show (rowF q.v.toNat fun v=>(D v:Int)).getD ((fN q i:Nat):Int).toNat 0=_;rw[l5_,i9_ _ l1]
   have d2:dAt (rpF p q D E).d (tN q i)=(D (tN q i):Int):=by
    show (rowF q.v.toNat fun v=>(D v:Int)).getD ((tN q i:Nat):Int).toNat 0=_;rw[l5_,i9_ _ l2]
   have b1:(D (fN q i):Int)≤4:=by
    have:=(hr _ (l4_ (c0_ (fun v=>(D v:Int)) l1))).2;exact this
   have b2:(D (tN q i):Int)≤4:=by
    have:=(hr _ (l4_ (c0_ (fun v=>(D v:Int)) l2))).2;exact this
   have hm:(rpF p q D E).m.getD i ⟨0,0,[]⟩=mxF (D (tN q i)) (D (fN q i)) (E i):=by
    show (msF q.f.length _).getD i ⟨0,0,[]⟩=_;rw[l1_,s3_ _ hi];rfl
   have hf:(rpF p q D E).q.f.getD i 0=(fN q i:Int):=by
    show q.f.getD i 0=_;rw[l1_,e1];rfl
   have ht:(rpF p q D E).q.t.getD i 0=(tN q i:Int):=by
    show q.t.getD i 0=_;rw[l1_,e2];rfl
   rw[hm,hf,ht,okM,d1,d2];have hmul:D (tN q i)*D (fN q i)≤4*4:=Nat.mul_le_mul (by omega) (by omega);have hmat:L5_ (rpF p q D E).p (mxF (D (tN q i)) (D (fN q i)) (E i))=true:=by
    refine a2Q.2 ⟨⟨by show (0:Int)≤(D (tN q i):Int);omega,by show (D (tN q i):Int)≤8;omega⟩,⟨by show (0:Int)≤(D (fN q i):Int);omega,by show (D (fN q i):Int)≤8;omega⟩,?_,?_⟩
    ·show (((flat _ _ _).length:Nat):Int)=(D (tN q i):Int)*(D (fN q i):Int);rw[a1_];push_cast;rfl
    ·show I7_ p (flat _ _ _)=true;rw[I7_,hp,a1_,decide_eq_true (by omega),Bool.true_and,Bool.true_and,W2_];intro y hy;simp only[flat,List.mem_map]at hy;obtain⟨j,_,rfl⟩:=hy;exact hE _ _ _
   rw[hmat];simp[mxF]
  rw[hok];simp
theorem i3q (p:Int) (q:Qv) (E:Nat→Nat→Nat→Int):zRep p q (rowF q.v.toNat fun _=>0)=rpF p q (fun _=>0) E:=by
 rw[zRep,rpF];congr 1
 rw[g5j];apply j7_
 intro i _;have h0:∀ v:Int,dAt (rowF q.v.toNat fun _=>0) v=0:=fun v=>by
  rw[dAt,l1_];by_cases h:v.toNat<q.v.toNat
  ·rw[c0_ _ h];rfl
  ·rw[l6_ (by rw[a2_];omega)];rfl
 rw[zmAt,h0,h0];rfl
def ivN (a b:Nat) (v:Nat):Nat:=if a≤v∧v<b+1 then 1 else 0
theorem d4Q (a b:Nat):(fun v=>((ivN a b v:Nat):Int))=ivF a (b+1):=by
 funext v
 rw[ivN,ivF];split <;> rfl
theorem g4Z {p:Int} {q:Qv} (hq:isQ q=true) (a b:Nat):r0_ p q a b=rpF p q (ivN a b) (fun _ _ _=>1):=by
 rw[r0_,rpF,d4Q];congr 1
 apply j7_
 intro i hi;obtain⟨e1,e2,l1,l2⟩:=Z4_ hq hi;have g1:q.f.getD i 0=(fN q i:Int):=by rw[l1_,e1];rfl
 have g2:q.t.getD i 0=(tN q i:Int):=by rw[l1_,e2];rfl
 have d1:dAt (rowF q.v.toNat (ivF a (b+1))) (fN q i)=((ivN a b (fN q i):Nat):Int):=by
  rw[dAt,l5_,i9_ _ l1,←d4Q]
 have d2:dAt (rowF q.v.toNat (ivF a (b+1))) (tN q i)=((ivN a b (tN q i):Nat):Int):=by
  rw[dAt,l5_,i9_ _ l2,←d4Q]
 rw[zmAt,g1,g2,d1,d2,b5X,zmx,mxF];congr 1
 simp only[List.length_replicate];have e3:(((ivN a b (tN q i):Nat):Int)*((ivN a b (fN q i):Nat):Int)).toNat=ivN a b (tN q i)*ivN a b (fN q i):=by rw[←Int.natCast_mul];rfl
 rw[e3];symm
 rw[List.eq_replicate_iff];refine⟨a1_ _ _ _,fun x hx=>?_⟩;simp only[flat,List.mem_map]at hx;obtain⟨_,_,rfl⟩:=hx;rfl
theorem C5_ {α:Type} {P:List α→Prop} (h0:P []) (h1:∀ l x,P l→P (l ++ [x])) (l:List α):P l:=by
 rw[←l.reverse_reverse];induction l.reverse with
 | nil=>exact h0
 | cons x r ih=>rw[List.reverse_cons];exact h1 _ _ ih
def smS (q:Qv) (L:List (Nat×Nat)):(Nat→Nat)×(Nat→Nat→Nat→Int) :=
 L.foldl (fun S x=>(fun v=>S.1 v+ivN x.1 x.2 v,dsSF q S.1 S.2 fun _ _ _=>1)) (fun _=>0,fun _ _ _=>0)
theorem x8_ (q:Qv) (L:List (Nat×Nat)) (x:Nat×Nat):smS q (L ++ [x])=(fun v=>(smS q L).1 v+ivN x.1 x.2 v,dsSF q (smS q L).1 (smS q L).2 fun _ _ _=>1):=by
 rw[smS,List.foldl_append];rfl
def smR (p:Int) (q:Qv) (L:List (Nat×Nat)):Rp:=rpF p q (smS q L).1 (smS q L).2
def smO (q:Qv) (L:List (Nat×Nat)):Bool:=i0_ q (rowF q.v.toNat fun v=>((smS q L).1 v:Int))
theorem c9q (p:Int) (q:Qv):smR p q []=zRep p q (rowF q.v.toNat fun _=>0):=(i3q p q _).symm
theorem b3q (p:Int) (q:Qv) (L:List (Nat×Nat)) (x:Nat×Nat):smR p q (L ++ [x])=rpF p q (fun v=>(smS q L).1 v+ivN x.1 x.2 v) (dsSF q (smS q L).1 (smS q L).2 fun _ _ _=>1):=by
 rw[smR,x8_]
theorem V0_ {q:Qv} (hq:isQ q=true):smO q []=true:=by
 have hv:=(j2_.1 hq).1;refine c3_.2 ⟨hq,?_,?_,?_⟩
 ·rw[a2_];omega
 ·intro x hx;simp only[rowF,List.mem_map]at hx;obtain⟨_,_,rfl⟩:=hx;show (0:Int)≤0∧(0:Int)≤4;omega
 ·have:(rowF q.v.toNat fun v=>(((smS q []).1 v:Nat):Int))=List.replicate q.v.toNat 0:=by
   rw[List.eq_replicate_iff];refine⟨a2_ _ _,fun x hx=>?_⟩;simp only[rowF,List.mem_map]at hx;obtain⟨_,_,rfl⟩:=hx;rfl
  rw[this];simp
theorem g4z {p:Int} (hp:2≤p) (q:Qv) (L:List (Nat×Nat)):∀ i j k,0≤(smS q L).2 i j k∧(smS q L).2 i j k≤p-1:=by
 refine C5_ (P:=fun L=>∀ i j k,0≤(smS q L).2 i j k∧(smS q L).2 i j k≤p-1) ?_ ?_ L
 ·intro i j k;show (0:Int)≤0∧(0:Int)≤p-1;omega
 ·intro L x ih i j k;rw[x8_];exact f6Q (by omega) (ih i) (fun _ _=>by show (0:Int)≤1∧(1:Int)≤p-1;omega) j k
theorem v6_ {p:Int} (h:c8_ p=true):2≤p∧p≤7:=by
 rcases E3_.1 h with h | h | h | h <;> omega
theorem F0_ {p:Int} {q:Qv} (hp:c8_ p=true) (hq:isQ q=true) (L:List (Nat×Nat)):m9_ (smR p q L)=smO q L:=c7Z hp hq (g4z (v6_ hp).1 q L)
theorem a4X (V:Nat) (g h:Nat→Int) (hgh:∀ v,v<V→g v≤h v):(rowF V g).sum≤(rowF V h).sum:=by
 induction V with
 | zero=>simp[rowF]
 | succ V ih =>
  simp only[rowF,List.range_succ,List.map_append,List.map_cons,List.map_nil,List.sum_append,List.sum_cons,List.sum_nil];have:=ih fun v hv=>hgh v (by omega)
  have:=hgh V (by omega);simp only[rowF]at *;omega
theorem g3Z {q:Qv} {L:List (Nat×Nat)} {x:Nat×Nat} (h:smO q (L ++ [x])=true):smO q L=true:=by
 obtain⟨h1,h2,h3,h4⟩:=c3_.1 h;have hle:∀ v,(((smS q L).1 v:Nat):Int)≤(((smS q (L ++ [x])).1 v:Nat):Int):=fun v=>by rw[x8_];push_cast;omega
 refine c3_.2 ⟨h1,by rw[a2_]at h2⊢;exact h2,?_,?_⟩
 ·intro y hy;simp only[rowF,List.mem_map,List.mem_range]at hy;obtain⟨v,hv,rfl⟩:=hy;have:=h3 _ (l4_ (c0_ (fun v=>(((smS q (L ++ [x])).1 v:Nat):Int)) hv));have:=hle v;omega
 ·have:=a4X q.v.toNat _ _ fun v _=>hle v
  omega
theorem b2X {q:Qv} {M:List (Nat×Nat)}:∀ L:List (Nat×Nat),smO q (L ++ M)=true→smO q L=true:=by
 refine C5_ (P:=fun M=>∀ L,smO q (L ++ M)=true→smO q L=true) ?_ ?_ M
 ·intro L h;rwa[List.append_nil]at h
 ·intro M x ih L h;exact ih L (g3Z (by rwa[←List.append_assoc]at h))
def d0_ (l:List Bar):List (Nat×Nat):=l.flatMap fun b=>List.replicate b.2.2.toNat (b.1.toNat,b.2.1.toNat)
theorem D3_ (l:List Bar) (b:Bar):d0_ (l ++ [b])=d0_ l ++ List.replicate b.2.2.toNat (b.1.toNat,b.2.1.toNat):=by simp[d0_]
theorem a1Z {l:List Bar} {k:Nat} {b:Bar} (h:l[k]?=some b) (j:Nat) (hj:j≤b.2.2.toNat):∃ M,d0_ l=d0_ (l.take k) ++ List.replicate j (b.1.toNat,b.2.1.toNat) ++ M:=by
 have hk:=a6_ h;have e:l=l.take k ++ b :: l.drop (k+1):=by
  have hd:l.drop k=b :: l.drop (k+1):=by
   rw[List.drop_eq_getElem_cons hk];congr 1
   rw[l2_ hk]at h;injection h
  rw[←hd,List.take_append_drop]
 refine⟨List.replicate (b.2.2.toNat-j) (b.1.toNat,b.2.1.toNat) ++ d0_ (l.drop (k+1)),?_⟩;conv=>lhs;rw[e]
 rw[d0_,List.flatMap_append,List.flatMap_cons,←d0_,←d0_,List.append_assoc,←List.append_assoc (List.replicate j _),List.replicate_append_replicate];congr 3;omega
def rzOk (p:Int) (q:Qv) (l:List Bar):Bool:=c8_ p && (isZ q && areB (m4_ q.v) l)
def rzP (p:Int) (q:Qv) (l:List Bar):Rp×Bool:=if rzOk p q l && smO q (d0_ l) then (smR p q (d0_ l),true) else (rp0,false)
theorem f3x {p:Int} {q:Qv} {l:List Bar} (h:rzOk p q l=false):rzP p q l=(rp0,false):=by simp[rzP,h]
theorem s1_ {v:Int} {l:List Bar} {k:Nat} {x y z:Int} (h:s7_ v l l.length) (hx:l[k]?=some (x,y,z)):(0≤x∧x≤v-1)∧(x≤y∧y≤v-1)∧(1≤z∧z≤8)∧(k=0∨cmpB (l.getD (k-1) (0,0,0)) (x,y,z)<0):=by
 have:=h k (a6_ hx);rw[J1_ hx]at this;simp only[l9_,Bool.or_eq_true,decide_eq_true_eq]at this;obtain⟨h1,h2,h3,h4⟩:=this;exact⟨j1_.1 h1,j1_.1 h2,j1_.1 h3,h4⟩
theorem d1z {v:Int} {l:List Bar} (h:s7_ v l l.length) (hv:v≤5):∀ (k:Nat) (x y z:Int),l[k]?=some (x,y,z)→(k:Int)≤x*5+y:=by
 intro k;induction k with
 | zero=>intro x y z hx;obtain⟨h1,h2,_⟩:=s1_ h hx;omega
 | succ k ih =>
  intro x y z hx;obtain⟨h1,h2,_,h4⟩:=s1_ h hx;have hk:k<l.length:=by have:=a6_ hx;omega
  obtain⟨x',y',z',e⟩:∃ x' y' z',l[k]?=some (x',y',z'):=⟨_,_,_,l2_ hk⟩;obtain⟨g1,g2,_⟩:=s1_ h e;have ih:=ih x' y' z' e;have e2:l.getD (k+1-1) (0,0,0)=(x',y',z'):=by rw[Nat.add_sub_cancel,l1_,e];rfl
  rw[e2]at h4;rcases h4 with h4 | h4
  ·omega
  ·have h5:=J3_.1 h4;simp only at h5;omega
theorem d1J {v:Int} {l:List Bar} (h:s7_ v l l.length) (hv:v≤5):l.length≤25:=by
 rcases Nat.eq_zero_or_pos l.length with h0 | h0
 ·omega
 ·obtain⟨x,y,z,e⟩:∃ x y z,l[l.length-1]?=some (x,y,z):=⟨_,_,_,l2_ (by omega)⟩;have:=d1z h hv _ x y z e;obtain⟨g1,g2,_⟩:=s1_ h e;omega
theorem J9_:∀ {l:List Bar},(∀ b∈l,b.2.2≤8)→(d0_ l).length≤8*l.length
 | [],_=>by simp[d0_]
 | b :: l,h=>by
  have:=J9_ (l:=l) fun x hx=>h x (by simp[hx])
  have h1:=h b (by simp);simp only[d0_,List.flatMap_cons,List.length_append,List.length_replicate,List.length_cons]at *;omega
theorem W5_ {q:Qv} {l:List Bar} (h:areB q l=true):isL q=true∧s7_ q.v l l.length:=by
 simp only[areB,l9_,List.all_eq_true,List.mem_range]at h;exact h
theorem c4J {n:Int} (h:inR n 1 5=true):(m4_ n).v=n:=by simp[m4_,h]
theorem rz_t {p:Int} {q:Qv} {l:List Bar} (h:rzOk p q l=true):c8_ p=true∧isZ q=true∧areB (m4_ q.v) l=true∧s7_ q.v l l.length:=by
 simp only[rzOk,l9_]at h;obtain⟨h1,h2,h3⟩:=h;have hv:=(j2_.1 (u9_ h2).1).1;have:=(W5_ h3).2;rw[c4J (j1_.2 hv)]at this;exact⟨h1,h2,h3,this⟩
theorem SlM.I64s {w:World} {B:Nat} {v:Value} {l:List Mx} (h:SlM w B v l):∀ m∈l,I64 m.r∧I64 m.c:=by
 obtain⟨A,c,rfl,_,_,_,h⟩:=h.open_;intro m hm;obtain⟨j,hj⟩:=List.getElem?_of_mem hm;obtain⟨_,_,m',_,_,_,_,HX,_,_,_,_,h1,h2,_⟩:=SlM.at_ h (a6_ hj);have:=HX.out;rw[hj]at this;injection this with this
 subst this;exact⟨h1,h2⟩
theorem I1_ (u:Value) (ms:List Mx) (w:World) (hu:SlM w w.heap.size u ms) (hn:ms.length≤1000000) :
  Calls Tryz.prog 158 #[u] w fun e w'=>∃ v,e = .returned v∧d8_ w' w.heap.size w'.heap.size v ms∧Below w.heap.size w w':=by
 have hI:=h_ (SlM.I64s hu);obtain⟨A,c,rfl,_,_,_,hx⟩:=hu.open_;clear hu;go_enter Tryz.func158,Tryz.ntmps158
 go_wp2;go_loopw [3,8] (fun mv i wr=>∃ (k:Nat) (vs:List Value),k≤ms.length∧i = .int .i64 k∧Below w.heap.size w wr∧RowO 65 3 wr w.heap.size wr.heap.size mv k (mxCs vs (ms.take k))∧vs.length=k∧Fam wr w.heap.size wr.heap.size (vs.zip ((ms.take k).map Mx.a))) (fun _ i _=>ms.length-(intOf i).toNat)
 case atStart=>exact⟨0,[],l0_ _,rfl,Below.refl _ _,RowO.nil _ _ _ _,rfl,⟨fun p hp=>by simp at hp,by simp⟩⟩
 case round =>
  obtain⟨k,vs,hk,rfl,hbel,hO,hvl,hF⟩:=hrel;have HVL:=h_ hvl;clear hvl;by_cases hlt:k<ms.length
  ·obtain⟨b,o,m,A',c',rfl,hb,HX,x1,x2,x3,hsl,i1,i2,_⟩:=SlM.at_ hx hlt;have d1:=a4_ hbel hb x1;have d2:=a4_ hbel hb x2;have d3:=a4_ hbel hb x3;have hbs:=hbel.size;obtain⟨W1,hW1⟩:∃ W,W=wr.alloc (.cells #[.int .i64 m.r,.int .i64 m.c,.slice A' m.a.length c'] 65):=⟨_,rfl⟩;have ga:Below wr.heap.size wr W1:=by rw[hW1];exact a0_ _ _
   have hmx:MxR W1 W1.heap.size (.agg #[.int .i64 m.r,.int .i64 m.c,.slice A' m.a.length c']) m:=⟨_,rfl,SlI.next ga (SlI.more hbs (SlI.below hbel hsl)),i1,i2⟩;have HTK:=h_ (show ms.take (k+1)=ms.take k ++ [m] by rw[c6_ HX.out]);have hTL:=h_ (show (ms.take k).length=k by simp;omega);replace hO:=hO.below ga;replace hF:=hF.below ga;have sa:=ga.size;obtain⟨mA,mc,emv,_,_⟩:=hO.form;subst emv;clear x1 x2 x3 hx hsl i1 i2;go_wp2_with fail
   rw[←hW1];clear hW1;refine (A1_ _ m _ hmx).mono ?_;rintro e w1 ⟨v1,rfl,⟨s,rfl,hs,_⟩,hb1⟩;have s1:=hb1.size;obtain⟨sA,sc,es⟩:=hs.form;obtain⟨sn,hsn⟩:=e_ (m.a.length);rw[hsn]at es;clear hsn;subst es;have gb1:Below w.heap.size w w1:=hbel.trans ((b0_ ga hb1).mono hbs);replace hO:=(hO.below hb1).below (a0_ w1 (.cells #[.int .i64 m.r,.int .i64 m.c,.slice sA sn sc] 65));have hF1:=(hF.below hb1).snoc (hs.wider sa (l_ _)) (by omega) (by omega);have hF2:=hF1.below (a0_ w1 (.cells #[.int .i64 m.r,.int .i64 m.c,.slice sA sn sc] 65));have HF2:=h_ hF2;clear hF hF1 hF2 hs hmx hb1 ga d1 d2 d3
   (go_wp2_with (at_builtin;refine Hold.stop ?_));unfold Hold
   have hO'':OutM (w1.alloc (.cells #[.int .i64 m.r,.int .i64 m.c,.slice sA sn sc] 65)) w.heap.size wr.heap.size (.slice mA k mc) vs (ms.take k):=by rw[OutM,hTL.out];exact hO
   refine o0_ (by rfl) (.tmp 12) (.tmp 15) (by rfl) w.heap.size wr.heap.size (.slice mA k mc) vs (ms.take k) (by rfl) hO'' (by rw[HVL.out,hTL.out]) w1.heap.size 1 m (.slice sA sn sc) (by rfl) (Blk.new _ _ _) (by rfl) (by rw[hTL.out];omega) (by simp;omega) ?_;intro v' w' hO3 hA;have gb3:Below w.heap.size w w':=(gb1.alloc (by omega) _).trans (hA.below (l_ _) (by simp;omega));have hF3:=HF2.out.appT (by decide) hA;have hs3:=hA.size;simp only[l3_]at hs3;have HF3:=h_ hF3;have HO3:=h_ hO3;clear hF3 hO3 HF2 hO'' hO hA gb1;go_wp2;go_roundw
   case rel =>
    refine⟨k+1,vs ++ [.slice sA sn sc],by omega,by go_num,gb3,?_,by simp[HVL.out],?_⟩
    ·have:=HO3.out;rw[OutM,List.length_append,hTL.out]at this;rw[HTK.out];exact this
    ·have e:(vs ++ [Value.slice sA sn sc]).zip ((ms.take (k+1)).map Mx.a)=vs.zip ((ms.take k).map Mx.a) ++ [(.slice sA sn sc,m.a)]:=by
      rw[HTK.out,List.map_append,List.zip_append (by rw[List.length_map,HVL.out,hTL.out])];rfl
     rw[e];exact HF3.out.mono (l_ _) (by omega)
   case measure=>simp[intOf];omega
  ·obtain rfl:k=ms.length:=by omega
   obtain⟨mA,mc,emv,_,_⟩:=hO.form;subst emv;rw[List.take_length]at hO hF;have hM:d8_ wr w.heap.size wr.heap.size (.slice mA ms.length mc) ms:=⟨vs,hO,HVL.out,hF,hI.out⟩;have HM:=h_ hM;clear hM hO hF;go_wp2;go_ret
   exact⟨_,rfl,HM.out,hbel⟩
theorem SlM.two {w:World} {B g:Nat} {a b:Mx} {u v:Value} (hB:B=w.heap.size) (hg:Blk w g 65 #[.int .i64 a.r,.int .i64 a.c,u,.int .i64 b.r,.int .i64 b.c,v]) (ha:SlI w B u a.a) (hb:SlI w B v b.a) (i1:I64 a.r∧I64 a.c) (i2:I64 b.r∧I64 b.c):SlM w B (.slice (some ⟨g,0,none⟩) 2 2) [a,b]:=by
 refine⟨_,2,rfl,by simp,by omega,by simp,fun _=>⟨g,0,rfl,by rw[hB];exact hg.lt,fun j x hj=>?_⟩⟩
 match j,hj with
 | 0,hj =>
  simp at hj;subst hj;exact⟨u,hg.cell' (i:=0) rfl,hg.cell' (i:=1) rfl,hg.cell' (i:=2) rfl,ha,i1⟩
 | 1,hj =>
  simp at hj;subst hj;exact⟨v,hg.cell' (i:=3) rfl,hg.cell' (i:=4) rfl,hg.cell' (i:=5) rfl,hb,i2⟩
 | j+2,hj=>simp at hj
theorem a8_.two (w:World) {lo:Nat} (x y:Int) (hx:I64 x) (hy:I64 y) (hlo:lo≤w.heap.size):a8_ (w.alloc (.cells #[.int .i64 x,.int .i64 y] 3)) lo (w.alloc (.cells #[.int .i64 x,.int .i64 y] 3)).heap.size (.slice (some ⟨w.heap.size,0,none⟩) 2 2) [x,y] :=
 a8_.of_own (OwnI.of_blk (xs:=[x,y]) (Blk.new _ _ _) hlo ⟨rfl,fun j z hj hz=>by
  match j,hz with
  | 0,hz=>simp at hz;subst hz;rfl
  | 1,hz=>simp at hz;subst hz;rfl
  | j+2,hz=>simp at hz⟩ (by simp) (by simp[hx,hy]))
theorem Fam.three {w:World} {lo hi l1 h1 l2 h2 l3 h3:Nat} {L1 L2 L3:List (Value×List Int)} (f1:Fam w l1 h1 L1) (f2:Fam w l2 h2 L2) (f3:Fam w l3 h3 L3) (d12:h1≤l2∨h2≤l1) (d13:h1≤l3∨h3≤l1) (d23:h2≤l3∨h3≤l2)
  (b1:lo≤l1∧h1≤hi) (b2:lo≤l2∧h2≤hi) (b3:lo≤l3∧h3≤hi):Fam w lo hi (L1 ++ (L2 ++ L3)):=by
 have ap:∀ {l1 h1 l2 h2:Nat} {L1 L2:List (Value×List Int)},Fam w l1 h1 L1→Fam w l2 h2 L2→(h1≤l2∨h2≤l1)→∀ a∈L1,∀ b∈L2,a.1.ownBlock=none∨a.1.ownBlock≠b.1.ownBlock:=by
  intro l1 h1 l2 h2 L1 L2 f g hd a ha b hb;rcases hA:a.1.ownBlock with _ | x
  ·exact .inl rfl
  ·right
   intro e;have q1:=(f.1 a ha).2 x hA;have q2:=((f.1 a ha).1.lt x hA).1;have q3:=(g.1 b hb).2 x e.symm;have q4:=((g.1 b hb).1.lt x e.symm).1;omega
 refine⟨fun p hp=>?_,?_⟩
 ·rcases List.mem_append.1 hp with hp | hp
  ·exact (f1.1 p hp).wider b1.1 b1.2
  ·rcases List.mem_append.1 hp with hp | hp
   ·exact (f2.1 p hp).wider b2.1 b2.2
   ·exact (f3.1 p hp).wider b3.1 b3.2
 ·rw[List.pairwise_append,List.pairwise_append];refine⟨f1.2,⟨f2.2,f3.2,ap f2 f3 d23⟩,fun a ha b hb=>?_⟩;rcases List.mem_append.1 hb with hb | hb
  ·exact ap f1 f2 d12 a ha b hb
  ·exact ap f1 f3 d13 a ha b hb
theorem Z6_ (u:Value) (y:Rp) (w0:World) (hu:RpR w0 w0.heap.size u y) (hn:y.m.length≤1000000) :
  Calls Tryz.prog 150 #[u] w0 fun e w'=>∃ v,e = .returned v∧RepO w' w0.heap.size w'.heap.size v y∧Below w0.heap.size w0 w':=by
 obtain⟨A,a,C,c,E,e,H,h,rfl,hq,hd,hm,hp,ld,lm⟩:=hu.open_;have hv:=hu;clear hu;obtain⟨W,hW,g0,k1,k2⟩:=b_4 w0 #[.int .i64 y.p,.int .i64 y.q.v,.slice A y.q.f.length a,.slice C y.q.t.length c,.slice E y.d.length e,.slice H y.m.length h] 29 #[.int .i64 0,.int .i64 0,.slice none 0 0,.slice none 0 0,.slice none 0 0,.slice none 0 0] 29;have sz:W.heap.size=w0.heap.size+1+1:=by rw[hW];simp
 have SZ:=h_ sz;clear sz;have HIm:=h_ (SlM.I64s hm);have HQ:=h_ (QvR.next g0 hq);have HD:=h_ (SlI.next g0 hd);have HM:=h_ (SlM.next g0 hm);have HI:=h_ (show I64 y.p∧I64 y.q.v from by obtain⟨_,_,_,_,_,_,_,_,_,h⟩:=hv;exact h);clear hq hd hm hv hp;go_enter Tryz.func150,Tryz.ntmps150
 go_wp2;rw[←hW];clear hW;refine a9_ (by kernel_rfl) [.eq (.pointer (some ⟨w0.heap.size,0,none⟩)),.eq (.int .i64 y.p),.eq (.pointer (some ⟨w0.heap.size,1,none⟩)),.eq (.agg #[.int .i64 y.q.v,.slice A y.q.f.length a,.slice C y.q.t.length c]),rel 4 (fun u lo hi w=>i7_ w lo hi u y.q),.eq (.pointer (some ⟨w0.heap.size,4,none⟩)),.eq (.slice E y.d.length e),rel 7 (fun u lo hi w=>a8_ w lo hi u y.d),.eq (.pointer (some ⟨w0.heap.size,5,none⟩)),.eq (.slice H y.m.length h),rel 10 (fun u lo hi w=>d8_ w lo hi u y.m),.rel (fun x w=>∃ qa qb,x.v 4 = .agg #[.int .i64 y.q.v,qa,qb]∧x.v 11 = .agg #[.int .i64 y.p,.int .i64 y.q.v,qa,qb,x.v 7,x.v 10])] [[],[0],[],[2],[2,3],[],[5],[2,3,4,5,6],[],[8],[2,3,4,5,6,7,8,9],[0,1,2,3,4,5,6,7,8,9,10],[0,1,2,3,4,5,6,7,8,9,10,11]] 12 (by kernel_rfl) ⟨trivial,trivial,trivial,trivial,a7_ (fun u lo hi w w' h hb=>h.below hb),trivial,trivial,a7_ (fun u lo hi w w' h hb=>h.below hb),trivial,trivial,a7_ (fun u lo hi w w' h hb=>h.below hb),fun x w w' h hb=>h,trivial⟩ ⟨?_,?_,?_,?_,?_,?_,?_,?_,?_,?_,?_,?_,trivial⟩ ?_;iterate 12 (intro x w hb hk Q' hQ;have he:=k_e hk;simp only[k_s]at he;simp only[netE]at hQ⊢;(try simp only[he]at hQ⊢);(try clear he);rotate_left)
 rotate_left
 ·clear hk;go_wp2;exact hQ _ _ br_ rfl
 ·clear hk;have z:=(k1.call hb).cell' (i:=0) rfl;go_wp2;exact hQ _ _ br_ rfl
 ·clear hk;go_wp2;exact hQ _ _ br_ rfl
 ·clear hk;have z1:=(k1.call hb).cell' (i:=1) rfl;have z2:=(k1.call hb).cell' (i:=2) rfl;have z3:=(k1.call hb).cell' (i:=3) rfl;go_wp2;exact hQ _ _ br_ rfl
 ·clear hk;go_wp2_with fail
  refine (M4_ _ y.q _ (QvR.next hb HQ.out)).mono ?_;rintro e w1 ⟨v1,rfl,ho,hb1⟩;go_wp2;exact hQ _ _ hb1 ho
 ·clear hk;go_wp2;exact hQ _ _ br_ rfl
 ·clear hk;have z:=(k1.call hb).cell' (i:=4) rfl;go_wp2;exact hQ _ _ br_ rfl
 ·have h4:i7_ w (x.lo 4) (x.hi 4) (x.v 4) y.q:=(hk 4 (by decide)).1;have s4:=(hk 4 (by decide)).2;clear hk;go_wp2_with fail
  refine (q2_ _ y.d _ (SlI.next hb HD.out)).mono ?_;rintro e w1 ⟨v1,rfl,ho,hb1⟩;go_wp2;exact hQ _ _ hb1 ho
 ·clear hk;go_wp2;exact hQ _ _ br_ rfl
 ·clear hk;have z:=(k1.call hb).cell' (i:=5) rfl;go_wp2;exact hQ _ _ br_ rfl
 ·have h4:i7_ w (x.lo 4) (x.hi 4) (x.v 4) y.q:=(hk 4 (by decide)).1;have h7:a8_ w (x.lo 7) (x.hi 7) (x.v 7) y.d:=(hk 7 (by decide)).1;have s4:=(hk 4 (by decide)).2;have s7:=(hk 7 (by decide)).2;clear hk;go_wp2_with fail
  refine (I1_ _ y.m _ (SlM.next hb HM.out) hn).mono ?_;rintro e w1 ⟨v1,rfl,ho,hb1⟩;go_wp2;exact hQ _ _ hb1 ho
 ·have h4:i7_ w (x.lo 4) (x.hi 4) (x.v 4) y.q:=(hk 4 (by decide)).1;have h7:a8_ w (x.lo 7) (x.hi 7) (x.v 7) y.d:=(hk 7 (by decide)).1;have h10:d8_ w (x.lo 10) (x.hi 10) (x.v 10) y.m:=(hk 10 (by decide)).1;have s4:=(hk 4 (by decide)).2;have s7:=(hk 7 (by decide)).2;have s10:=(hk 10 (by decide)).2;clear hk;obtain⟨qa,qb,e4,hqF,_⟩:=h4;have f1:a8_ w (x.lo 4) (x.hi 4) qa y.q.f:=hqF.1 (qa,y.q.f) (by simp);have f2:a8_ w (x.lo 4) (x.hi 4) qb y.q.t:=hqF.1 (qb,y.q.t) (by simp);obtain⟨qA,qc,rfl⟩:=f1.form;obtain⟨qB,qd,rfl⟩:=f2.form;obtain⟨dA,dc,e7⟩:=h7.form;obtain⟨vs,h10,_⟩:=h10;obtain⟨mA,mc,e10,_,_⟩:=RowO.form h10;have hQ':=hQ (.agg #[.int .i64 y.p,.int .i64 y.q.v,.slice qA y.q.f.length qc,.slice qB y.q.t.length qd,x.v 7,x.v 10]) w br_ ⟨_,_,e4,rfl⟩;rw[e4,e7,e10]at hQ'⊢;go_wp2;exact hQ'
 ·intro x w hb hk hiv hdj;have h4:i7_ w (x.lo 4) (x.hi 4) (x.v 4) y.q:=hk 4 (by decide);have h7:a8_ w (x.lo 7) (x.hi 7) (x.v 7) y.d:=hk 7 (by decide);have h10:d8_ w (x.lo 10) (x.hi 10) (x.v 10) y.m:=hk 10 (by decide);have h11:∃ qa qb,x.v 4 = .agg #[.int .i64 y.q.v,qa,qb]∧x.v 11 = .agg #[.int .i64 y.p,.int .i64 y.q.v,qa,qb,x.v 7,x.v 10]:=hk 11 (by decide);have he:=k_g hk [0,1,2,3,5,6,8,9];simp only[k_s]at he;simp only[netE,he];clear he hk;obtain⟨qa,qb,e4,hqF,_⟩:=h4;have f1:a8_ w (x.lo 4) (x.hi 4) qa y.q.f:=hqF.1 (qa,y.q.f) (by simp);have f2:a8_ w (x.lo 4) (x.hi 4) qb y.q.t:=hqF.1 (qb,y.q.t) (by simp);obtain⟨qA,qc,rfl⟩:=f1.form;obtain⟨qB,qd,rfl⟩:=f2.form;obtain⟨dA,dc,e7⟩:=h7.form;obtain⟨vs,ho,hvl,hFm,hIm⟩:=h10;obtain⟨mA,mc,e10,_,_⟩:=RowO.form ho;obtain⟨qa',qb',e4',e11⟩:=h11;rw[e4]at e4';simp only[Value.agg.injEq,Array.mk.injEq,List.cons.injEq,and_true,true_and]at e4';obtain⟨rfl,rfl⟩:=e4';rw[e7]at h7;rw[e10]at ho;rw[e7,e10]at e11;have i4:=hiv 4 (by decide);have i7:=hiv 7 (by decide);have i10:=hiv 10 (by decide);have hF3:Fam w W.heap.size w.heap.size ([(.slice qA y.q.f.length qc,y.q.f),(.slice qB y.q.t.length qd,y.q.t)] ++ ([(.slice dA y.d.length dc,y.d)] ++ vs.zip (y.m.map Mx.a))) :=
   Fam.three hqF (Fam.one h7) hFm (hdj 4 7 (by decide) (by decide) (by decide)) (hdj 4 10 (by decide) (by decide) (by decide)) (hdj 7 10 (by decide) (by decide) (by decide)) ⟨i4.1,i4.2.2⟩ ⟨i7.1,i7.2.2⟩ ⟨i10.1,i10.2.2⟩
  have hR:RepO w W.heap.size w.heap.size (.agg #[.int .i64 y.p,.int .i64 y.q.v,.slice qA y.q.f.length qc,.slice qB y.q.t.length qd,.slice dA y.d.length dc,.slice mA y.m.length mc]) y :=
   ⟨_,_,_,_,vs,rfl,ho.mono i10.1 i10.2.2,hvl,hF3,HI.out,hIm⟩
  rw[e11];have kz:=k2.call hb;have fr:=kz.frozen;obtain⟨s0,s1,s2,s3,s4,s5⟩:=c_6 kz;have gf:=g0.trans (hb.mono g0.size);have hc:=chg6 w (w0.heap.size+1) (.int .i64 y.p) (.int .i64 y.q.v) (.slice qA y.q.f.length qc) (.slice qB y.q.t.length qd) (.slice dA y.d.length dc) (.slice mA y.m.length mc);have sz:=SZ.out;have OF:=h_ ((hR.chg hc (.inr (by omega))).wider (lo':=w0.heap.size) (hi':=w.heap.size) (by omega) (l_ _));have GF:=h_ (gf.trans (hc.below (by omega) gf.size));clear hR hF3 hqF hFm hIm h7 ho e4 e7 e10 e11 f1 f2 hiv hdj i4 i7 i10 kz gf hc sz hb k1 k2;go_wp2;exact bodyPost_ret (v:=.agg #[.int .i64 y.p,.int .i64 y.q.v,.slice qA y.q.f.length qc,.slice qB y.q.t.length qd,.slice dA y.d.length dc,.slice mA y.m.length mc]) (by simp[results,go_sem,s0,s1,s2,s3,s4,s5]) rfl ⟨_,rfl,OF.out.wider (l_ _) (by simp),GF.out⟩
theorem b3Z (ua uc ub:Value) (r s c d:Nat) (f k g:Nat→Nat→Int) (w0:World) (ha:MxR w0 w0.heap.size ua (mxF r c f)) (hk:MxR w0 w0.heap.size uc (mxF r d k)) (hg:MxR w0 w0.heap.size ub (mxF s d g)) (hr:r≤100) (hs:s≤100) (hc:c≤100) (hd:d≤100) :
  Calls Tryz.prog 151 #[ua,uc,ub] w0 fun e w'=>∃ v,e = .returned v∧MxO w' w0.heap.size w'.heap.size v (mxF (r+s) (c+d) (blF r (bsF c f k) (bsF c (fun _ _=>0) g)))∧Below w0.heap.size w0 w':=by
 obtain⟨UA,ac,rfl⟩:=ha.form;obtain⟨UK,kc,rfl⟩:=hk.form;obtain⟨UG,gc,rfl⟩:=hg.form;obtain⟨LA,hLA⟩:=e_ ((mxF r c f).a.length);obtain⟨LK,hLK⟩:=e_ ((mxF r d k).a.length);obtain⟨LG,hLG⟩:=e_ ((mxF s d g).a.length);have z1:(mxF r c f).r=(r:Int):=rfl;have z2:(mxF r c f).c=(c:Int):=rfl;have z3:(mxF r d k).r=(r:Int):=rfl;have z4:(mxF r d k).c=(d:Int):=rfl;have z5:(mxF s d g).r=(s:Int):=rfl;have z6:(mxF s d g).c=(d:Int):=rfl;rw[hLA,z1,z2]at ha⊢;rw[hLK,z3,z4]at hk⊢;rw[hLG,z5,z6]at hg⊢;clear hLA hLK hLG z1 z2 z3 z4 z5 z6;obtain⟨W,hW⟩:∃ W,W=(((w0.alloc (.cells #[.int .i64 (r:Int),.int .i64 (c:Int),.slice UA LA ac] 65)).alloc (.cells #[.int .i64 (r:Int),.int .i64 (d:Int),.slice UK LK kc] 65)).alloc (.cells #[.int .i64 (s:Int),.int .i64 (d:Int),.slice UG LG gc] 65)).alloc (.cells #[.int .i64 0,.int .i64 0,.slice none 0 0] 65):=⟨_,rfl⟩;have g0:Below w0.heap.size w0 W:=by rw[hW];exact ((((Below.refl _ _).alloc (l_ _) _).alloc (by simp) _).alloc (by simp;omega) _).alloc (by simp;omega) _
 have k1:Blk W w0.heap.size 65 #[.int .i64 (r:Int),.int .i64 (c:Int),.slice UA LA ac]:=by rw[hW];exact (((Blk.new _ _ _).alloc _).alloc _).alloc _
 have k2:Blk W (w0.heap.size+1) 65 #[.int .i64 (r:Int),.int .i64 (d:Int),.slice UK LK kc]:=by
  rw[hW];have:=((Blk.new (w0.alloc (.cells #[.int .i64 (r:Int),.int .i64 (c:Int),.slice UA LA ac] 65)) 65 #[.int .i64 (r:Int),.int .i64 (d:Int),.slice UK LK kc]).alloc (.cells #[.int .i64 (s:Int),.int .i64 (d:Int),.slice UG LG gc] 65)).alloc (.cells #[.int .i64 0,.int .i64 0,.slice none 0 0] 65);simpa only[l3_] using this
 have k3:Blk W (w0.heap.size+1+1) 65 #[.int .i64 (s:Int),.int .i64 (d:Int),.slice UG LG gc]:=by
  rw[hW];have:=(Blk.new ((w0.alloc (.cells #[.int .i64 (r:Int),.int .i64 (c:Int),.slice UA LA ac] 65)).alloc (.cells #[.int .i64 (r:Int),.int .i64 (d:Int),.slice UK LK kc] 65)) 65 #[.int .i64 (s:Int),.int .i64 (d:Int),.slice UG LG gc]).alloc (.cells #[.int .i64 0,.int .i64 0,.slice none 0 0] 65);simpa only[l3_] using this
 have k4:Blk W (w0.heap.size+1+1+1) 65 #[.int .i64 0,.int .i64 0,.slice none 0 0]:=by
  rw[hW];have:=Blk.new (((w0.alloc (.cells #[.int .i64 (r:Int),.int .i64 (c:Int),.slice UA LA ac] 65)).alloc (.cells #[.int .i64 (r:Int),.int .i64 (d:Int),.slice UK LK kc] 65)).alloc (.cells #[.int .i64 (s:Int),.int .i64 (d:Int),.slice UG LG gc] 65)) 65 #[.int .i64 0,.int .i64 0,.slice none 0 0];simpa only[l3_] using this
 have sz:W.heap.size=w0.heap.size+1+1+1+1:=by rw[hW];simp
 have SZ:=h_ sz;clear sz;have HA:=h_ (MxR.next g0 ha);have HK:=h_ (MxR.next g0 hk);have HG:=h_ (MxR.next g0 hg);clear ha hk hg;go_enter Tryz.func151,Tryz.ntmps151
 go_wp2;rw[←hW];clear hW;refine a9_ (by kernel_rfl) [.eq (.agg #[.int .i64 (r:Int),.int .i64 (c:Int),.slice UA LA ac]),.eq (.agg #[.int .i64 (r:Int),.int .i64 (d:Int),.slice UK LK kc]),rel 2 (fun u lo hi w=>MxO w lo hi u (mxF r (c+d) (bsF c f k))),.eq (.pointer (some ⟨w0.heap.size+1+1,0,none⟩)),.eq (.int .i64 (s:Int)),.eq (.pointer (some ⟨w0.heap.size,1,none⟩)),.eq (.int .i64 (c:Int)),rel 7 (fun u lo hi w=>MxO w lo hi u (mxF s c (fun _ _=>0))),.eq (.agg #[.int .i64 (s:Int),.int .i64 (d:Int),.slice UG LG gc]),rel 9 (fun u lo hi w=>MxO w lo hi u (mxF s (c+d) (bsF c (fun _ _=>0) g))),rel 10 (fun u lo hi w=>MxO w lo hi u (mxF (r+s) (c+d) (blF r (bsF c f k) (bsF c (fun _ _=>0) g))))] [[],[],[0,1],[],[3],[],[5],[0,1,2,3,4,5,6],[],[0,1,2,3,4,5,6,7,8],[0,1,2,3,4,5,6,7,8,9],[0,1,2,3,4,5,6,7,8,9,10]] 11 (by kernel_rfl) ⟨trivial,trivial,a7_ (fun u lo hi w w' h hb=>h.below hb),trivial,trivial,trivial,trivial,a7_ (fun u lo hi w w' h hb=>h.below hb),trivial,a7_ (fun u lo hi w w' h hb=>h.below hb),a7_ (fun u lo hi w w' h hb=>h.below hb),trivial⟩ ⟨?_,?_,?_,?_,?_,?_,?_,?_,?_,?_,?_,trivial⟩ ?_;iterate 11 (intro x w hb hk Q' hQ;have he:=k_e hk;simp only[k_s]at he;simp only[netE]at hQ⊢;(try simp only[he]at hQ⊢);(try clear he);rotate_left)
 rotate_left
 ·clear hk;obtain⟨z0,z1,z2⟩:=c_3 (k1.call hb);go_wp2;exact hQ _ _ br_ rfl
 ·clear hk;obtain⟨z0,z1,z2⟩:=c_3 (k2.call hb);go_wp2;exact hQ _ _ br_ rfl
 ·clear hk;go_wp2_with fail
  refine (P4_ _ _ r c d f k _ (MxR.next hb HA.out) (MxR.next hb HK.out) (by omega) (by omega) (by omega)).mono ?_;rintro e w1 ⟨v1,rfl,ho,hb1⟩;go_wp2;exact hQ _ _ hb1 ho
 ·clear hk;go_wp2;exact hQ _ _ br_ rfl
 ·clear hk;have z:=(k3.call hb).cell' (i:=0) rfl;go_wp2;exact hQ _ _ br_ rfl
 ·clear hk;go_wp2;exact hQ _ _ br_ rfl
 ·clear hk;have z:=(k1.call hb).cell' (i:=1) rfl;go_wp2;exact hQ _ _ br_ rfl
 ·have h2:MxO w (x.lo 2) (x.hi 2) (x.v 2) (mxF r (c+d) (bsF c f k)):=(hk 2 (by decide)).1;have s2:=(hk 2 (by decide)).2;clear hk;go_wp2_with fail
  refine (r8_ s c _ (by omega) (by omega) (by omega) (by omega)).mono ?_;rintro e w1 ⟨v1,rfl,ho,hb1⟩;rw[o6_]at ho;go_wp2;exact hQ _ _ hb1 ho
 ·clear hk;obtain⟨z0,z1,z2⟩:=c_3 (k3.call hb);go_wp2;exact hQ _ _ br_ rfl
 ·have h2:MxO w (x.lo 2) (x.hi 2) (x.v 2) (mxF r (c+d) (bsF c f k)):=(hk 2 (by decide)).1;have h7:MxO w (x.lo 7) (x.hi 7) (x.v 7) (mxF s c (fun _ _=>0)):=(hk 7 (by decide)).1;have s2:=(hk 2 (by decide)).2;have s7:=(hk 7 (by decide)).2;clear hk;have H7:=h_ h7.rd;obtain⟨A7,c7,e7⟩:=h7.form;rw[e7]at H7 hQ⊢;go_wp2_with fail
  refine (P4_ _ _ s c d (fun _ _=>0) g _ H7.out (MxR.next hb HG.out) (by omega) (by omega) (by omega)).mono ?_;rintro e w1 ⟨v1,rfl,ho,hb1⟩;go_wp2;exact hQ _ _ hb1 ho
 ·have h2:MxO w (x.lo 2) (x.hi 2) (x.v 2) (mxF r (c+d) (bsF c f k)):=(hk 2 (by decide)).1;have h7:MxO w (x.lo 7) (x.hi 7) (x.v 7) (mxF s c (fun _ _=>0)):=(hk 7 (by decide)).1;have h9:MxO w (x.lo 9) (x.hi 9) (x.v 9) (mxF s (c+d) (bsF c (fun _ _=>0) g)):=(hk 9 (by decide)).1;have s2:=(hk 2 (by decide)).2;have s7:=(hk 7 (by decide)).2;have s9:=(hk 9 (by decide)).2;clear hk;have H2:=h_ h2.rd;have H9:=h_ h9.rd;obtain⟨A2,c2,e2⟩:=h2.form;obtain⟨A9,c9,e9⟩:=h9.form;rw[e2]at H2 hQ⊢;rw[e9]at H9 hQ⊢;go_wp2_with fail
  refine (b7J _ _ (c+d) r s _ _ _ H2.out H9.out (by omega) (by omega) (by omega)).mono ?_;rintro e w1 ⟨v1,rfl,ho,hb1⟩;go_wp2;exact hQ _ _ hb1 ho
 ·intro x w hb hk hiv hdj;have h2:MxO w (x.lo 2) (x.hi 2) (x.v 2) (mxF r (c+d) (bsF c f k)):=hk 2 (by decide);have h7:MxO w (x.lo 7) (x.hi 7) (x.v 7) (mxF s c (fun _ _=>0)):=hk 7 (by decide);have h9:MxO w (x.lo 9) (x.hi 9) (x.v 9) (mxF s (c+d) (bsF c (fun _ _=>0) g)):=hk 9 (by decide);have h10:MxO w (x.lo 10) (x.hi 10) (x.v 10) (mxF (r+s) (c+d) (blF r (bsF c f k) (bsF c (fun _ _=>0) g))):=hk 10 (by decide);have he:=k_g hk [0,1,3,4,5,6,8];simp only[k_s]at he;simp only[netE,he];clear he hk;have sz:=SZ.out;have kR:=k4.call hb;obtain⟨l7,_,l7h⟩:=hiv 10 (by decide);obtain⟨A7,c7,e7⟩:=h10.form;obtain⟨N,hN⟩:=e_ ((mxF (r+s) (c+d) (blF r (bsF c f k) (bsF c (fun _ _=>0) g))).a.length);rw[hN]at e7;simp only[mxF]at e7;rw[e7]at h10⊢;clear hiv hdj e7 h2 h7 h9 hN;obtain⟨p0,p1,p2⟩:=c_3 kR;have fr:=kR.frozen;have gX:=g0.trans (hb.mono g0.size);have gXs:=gX.size;have h2:=chg3 w (w0.heap.size+1+1+1) (.int .i64 ((r+s:Nat):Int)) (.int .i64 ((c+d:Nat):Int)) (.slice A7 N c7);have OF:=h_ ((h10.chg h2 (.inr (by omega))).wider (lo':=w0.heap.size) (hi':=w.heap.size) (by omega) (by omega));have GF:=h_ (gX.trans (h2.below (by omega) gXs));clear h10 h2 gX kR sz gXs l7 l7h hb k1 k2 k3 k4;go_wp2;exact bodyPost_ret (v:=.agg #[.int .i64 ((r+s:Nat):Int),.int .i64 ((c+d:Nat):Int),.slice A7 N c7]) (by simp[results,go_sem,p0,p1,p2]) rfl ⟨_,rfl,OF.out.wider (l_ _) (by simp),GF.out⟩
theorem Y5_:∀ {vs:List Value} {ms:List Mx} {j:Nat},j<ms.length→vs.length=ms.length→∀ (m:Mx) (u:Value),
  (((mxCs vs ms).set (j*3) (.int .i64 m.r)).set (j*3+1) (.int .i64 m.c)).set (j*3+2) u=mxCs (vs.set j u) (ms.set j m)
 | _,[],_,h,_,_,_=>by simp at h
 | [],_ :: _,_,_,h,_,_=>by simp at h
 | v :: vs,m :: ms,0,_,_,x,u=>by simp[mxCs]
 | v :: vs,m :: ms,j+1,h,h2,x,u=>by
  have:=Y5_ (vs:=vs) (ms:=ms) (j:=j) (by simpa using h) (by simpa using h2) x u;simp only[mxCs,show (j+1)*3=j*3+1+1+1 by omega,show j*3+1+1+1+1=(j*3+1)+1+1+1 by omega,show j*3+1+1+1+2=(j*3+2)+1+1+1 by omega,List.set_cons_succ,this]
abbrev set3 (w:World) (g i:Nat) (a b c:Value):World:=((w.setCell ⟨g,i,none⟩ a).setCell ⟨g,i+1,none⟩ b).setCell ⟨g,i+2,none⟩ c
theorem RowO.len {T:TypeId} {sz:Nat} {w:World} {lo hi g c n m:Nat} {cs:List Value} (h:RowO T sz w lo hi (.slice (some ⟨g,0,none⟩) n c) m cs):n=m:=by
 rcases h.1.2 with ⟨e,_⟩ | ⟨g',cap',cur,e,_⟩
 ·cases e
 ·injection e with _ e _
theorem R4_ (w:World) (g i:Nat) (u:Value):Chg g (g+1) w (w.setCell ⟨g,i,none⟩ u):=a5_ (l_ _) (m0_ _)
theorem R5_ (w:World) (g i:Nat) (a b c:Value):Chg g (g+1) w (set3 w g i a b c) :=
 ((R4_ w g i a).trans (R4_ _ g (i+1) b)).trans (R4_ _ g (i+2) c)
theorem OutM.setMx {w:World} {lo hi g n c j:Nat} {vs:List Value} {ms:List Mx} (h:OutM w lo hi (.slice (some ⟨g,0,none⟩) n c) vs ms) (hl:vs.length=ms.length) (hj:j<ms.length) (m:Mx) (u:Value) :
  OutM (set3 w g (j*3) (.int .i64 m.r) (.int .i64 m.c) u) lo hi (.slice (some ⟨g,0,none⟩) n c) (vs.set j u) (ms.set j m):=by
 have e:=RowO.len h;subst e;have h1:=(RowO.stored h (j*3) (.int .i64 m.r)).1;have h2:=(RowO.stored h1 (j*3+1) (.int .i64 m.c)).1;have h3:=(RowO.stored h2 (j*3+2) u).1;rw[Y5_ hj hl]at h3;unfold OutM;rw[List.length_set];exact h3
theorem Fam.swap {w:World} {lo hi mi hi' j:Nat} {L0:List (Value×List Int)} {vs:List Value} {ll:List (List Int)} {u:Value} {l:List Int} (h:Fam w lo hi (L0 ++ vs.zip ll)) (hj:j<ll.length) (hl:vs.length=ll.length) (hu:a8_ w mi hi' u l) (h1:hi≤mi) (h2:mi≤hi') (h3:lo≤mi) :
  Fam w lo hi' (L0 ++ (vs.set j u).zip (ll.set j l)):=by
 have hv:vs[j]?=some (vs[j]'(by omega)):=l2_ (by omega);have hl':ll[j]?=some (ll[j]'hj):=l2_ hj;have hsv:(vs.set j u)[j]?=some u:=by rw[List.getElem?_set,if_pos rfl,if_pos (by omega)]
 have hsl:(ll.set j l)[j]?=some l:=by rw[List.getElem?_set,if_pos rfl,if_pos hj]
 rw[k7_ hsv hsl,List.take_set_of_le (l_ j),List.drop_set_of_lt (by omega),List.take_set_of_le (l_ j),List.drop_set_of_lt (by omega)];rw[k7_ hv hl',←List.append_assoc]at h;rw[←List.append_assoc];generalize L0 ++ (vs.take j).zip (ll.take j)=M1 at h⊢;generalize (vs.drop (j+1)).zip (ll.drop (j+1))=M2 at h⊢;obtain⟨G1,G2⟩:=h;rw[List.pairwise_append]at G2;obtain⟨P1,P2,P3⟩:=G2;rw[List.pairwise_cons]at P2;refine⟨fun p hp=>?_,?_⟩
 ·rcases List.mem_append.1 hp with hp | hp
  ·exact (G1 p (by simp[hp])).wider (l_ _) (by omega)
  ·rcases List.mem_cons.1 hp with rfl | hp
   ·exact hu.wider h3 (l_ _)
   ·exact (G1 p (by simp[hp])).wider (l_ _) (by omega)
 ·rw[List.pairwise_append,List.pairwise_cons];refine⟨P1,⟨fun p hp=>?_,P2.2⟩,fun p hp q hq=>?_⟩
  ·rcases hA:u.ownBlock with _ | x
   ·exact .inl rfl
   ·refine .inr fun e2=>?_
    have h5:=(G1 p (by simp[hp])).2 x e2.symm;have h6:=(hu.1.lt x hA).1;omega
  ·rcases List.mem_cons.1 hq with rfl | hq
   ·rcases hA:p.1.ownBlock with _ | x
    ·exact .inl rfl
    ·refine .inr fun e=>?_
     have h5:=(G1 p (by simp[hp])).2 x hA;have h6:=(hu.1.lt x e.symm).1;omega
   ·exact P3 p hp q (by simp[hq])
theorem OutM.blk {w:World} {lo hi g n c:Nat} {vs:List Value} {ms:List Mx} (h:OutM w lo hi (.slice (some ⟨g,0,none⟩) n c) vs ms):∃ cs,Blk w g 65 cs∧lo≤g∧g<hi:=by
 have hg:=h.2.1 g rfl;rcases h.1.2 with ⟨e,_⟩ | ⟨g',cap',cur,e,k1,hh,_⟩
 ·cases e
 ·injection e with e1 e2 _
  injection e1 with e1
  injection e1 with e1
  subst e1;exact⟨cur,hh,k1,hg⟩
theorem Fam.set3 {w:World} {lo hi g i:Nat} {L:List (Value×List Int)} {t:TypeId} {cs:Array Value} (h:Fam w lo hi L) (hb:Blk w g t cs) (ht:3≠t) (a b c:Value):Fam (set3 w g i a b c) lo hi L :=
 ((h.setBlk hb ht a).setBlk (hb.set_ i a) ht b).setBlk ((hb.set_ i a).set_ (i+1) b) ht c
theorem RepO.setMx {w:World} {lo hi mi hi' g n c j:Nat} {p v r k:Int} {f t d u:Value} {x:Rp} {m:Mx} (h:RepO w lo hi (.agg #[.int .i64 p,.int .i64 v,f,t,d,.slice (some ⟨g,0,none⟩) n c]) x) (hj:j<x.m.length)
  (hu:MxO w mi hi' (.agg #[.int .i64 r,.int .i64 k,u]) m) (h1:hi≤mi) (h2:mi≤hi') (h3:lo≤mi) :
  RepO (set3 w g (j*3) (.int .i64 r) (.int .i64 k) u) lo hi' (.agg #[.int .i64 p,.int .i64 v,f,t,d,.slice (some ⟨g,0,none⟩) n c]) ⟨x.p,x.q,x.d,x.m.set j m⟩∧lo≤g∧g<hi:=by
 obtain⟨f',t',d',m',vs,e,hO,hvl,hF,hi1,hi2⟩:=h;simp only[Value.agg.injEq,Array.mk.injEq,List.cons.injEq,and_true]at e;obtain⟨rfl2,rfl3,rfl,rfl,rfl,rfl⟩:=e;obtain⟨s,e,hs,i1,i2⟩:=hu;simp only[Value.agg.injEq,Array.mk.injEq,List.cons.injEq,and_true,Value.int.injEq,true_and]at e;obtain⟨rfl,rfl,rfl⟩:=e;obtain⟨cs,hb,hg1,hg2⟩:=OutM.blk hO;refine⟨⟨f,t,d,_,vs.set j u,by rw[rfl2,rfl3],(OutM.setMx hO hvl hj m u).mono (l_ _) (by omega),by simp[hvl],?_,hi1,fun y hy=>?_⟩,hg1,hg2⟩
 ·have hF2:=hF.swap (j:=j) (by simpa using hj) (by simpa using hvl) hs h1 h2 h3;have hF3:=hF2.set3 (i:=j*3) hb (by decide) (.int .i64 m.r) (.int .i64 m.c) u;rw[List.map_set];exact hF3
 ·rcases List.mem_or_eq_of_mem_set hy with hy | rfl
  ·exact hi2 y hy
  ·exact⟨i1,i2⟩
theorem RepO.setDim {w:World} {lo hi g n c j:Nat} {p v y:Int} {f t m:Value} {x:Rp} (h:RepO w lo hi (.agg #[.int .i64 p,.int .i64 v,f,t,.slice (some ⟨g,0,none⟩) n c,m]) x) (hy:I64 y) :
  RepO (w.setCell ⟨g,j,none⟩ (.int .i64 y)) lo hi (.agg #[.int .i64 p,.int .i64 v,f,t,.slice (some ⟨g,0,none⟩) n c,m]) ⟨x.p,x.q,x.d.set j y,x.m⟩∧lo≤g∧g<hi:=by
 obtain⟨f',t',d',m',vs,e,hO,hvl,hF,hi1,hi2⟩:=h;simp only[Value.agg.injEq,Array.mk.injEq,List.cons.injEq,and_true]at e;obtain⟨rfl2,rfl3,rfl,rfl,rfl,rfl⟩:=e;have hd:a8_ w lo hi (.slice (some ⟨g,0,none⟩) n c) x.d:=hF.1 (.slice (some ⟨g,0,none⟩) n c,x.d) (by simp);have hp:=hd.1.put (j:=j) hy;have hgb:=hd.2 g rfl;have hgl:=(hd.1.lt g rfl).1;refine⟨⟨f,t,_,m,vs,by rw[rfl2,rfl3],?_,hvl,?_,hi1,hi2⟩,hgl,hgb⟩
 ·exact RowO.grown hO (by decide) hd.1 hp.2
 ·have:=Fam.turn (L1:=[(f,x.q.f),(t,x.q.t)]) (L2:=vs.zip (x.m.map Mx.a)) (v:=.slice (some ⟨g,0,none⟩) n c) (l:=x.d) (l':=x.d.set j y) (by simpa using hF) hp.1 hp.2;simpa using this
theorem RepO.dimAt {w:World} {lo hi j:Nat} {p v:Int} {f t d m:Value} {x:Rp} (h:RepO w lo hi (.agg #[.int .i64 p,.int .i64 v,f,t,d,m]) x) (hj:j<x.d.length) :
  ∃ g c,d = .slice (some ⟨g,0,none⟩) x.d.length c∧lo≤g∧g<hi∧w.cell? ⟨g,j,none⟩=some (.int .i64 (x.d.getD j 0))∧w.frozen? ⟨g,j,none⟩=false∧I64 (x.d.getD j 0):=by
 obtain⟨f',t',d',m',vs,e,hO,hvl,hF,hi1,hi2⟩:=h;simp only[Value.agg.injEq,Array.mk.injEq,List.cons.injEq,and_true]at e;obtain⟨_,_,rfl,rfl,rfl,rfl⟩:=e;have hd:a8_ w lo hi d x.d:=hF.1 (d,x.d) (by simp);rcases hd.1.1.2 with ⟨rfl,h0⟩ | ⟨g,cap,cur,rfl,k1,hh,_⟩
 ·omega
 ·have h1:=hd.1.cellG hj;exact⟨g,cap,rfl,k1,hd.2 g rfl,h1.1,hd.1.frozenG j,h1.2⟩
theorem RepO.mxAt {w:World} {lo hi j:Nat} {p v:Int} {f t d m:Value} {x:Rp} {y:Mx} (h:RepO w lo hi (.agg #[.int .i64 p,.int .i64 v,f,t,d,m]) x) (hj:x.m[j]?=some y) :
  ∃ g c s,m = .slice (some ⟨g,0,none⟩) x.m.length c∧lo≤g∧g<hi∧w.cell? ⟨g,j*3,none⟩=some (.int .i64 y.r)∧w.cell? ⟨g,j*3+1,none⟩=some (.int .i64 y.c)∧w.cell? ⟨g,j*3+2,none⟩=some s∧a8_ w lo hi s y.a∧(∀ i,w.frozen? ⟨g,i,none⟩=false)∧I64 y.r∧I64 y.c:=by
 obtain⟨f',t',d',m',vs,e,hO,hvl,hF,hi1,hi2⟩:=h;simp only[Value.agg.injEq,Array.mk.injEq,List.cons.injEq,and_true]at e;obtain⟨_,_,rfl,rfl,rfl,rfl⟩:=e;have hjl:=a6_ hj;have hv:vs[j]?=some (vs[j]'(by omega)):=l2_ (by omega);obtain⟨a,b,c⟩:=x6_ hv hj;rcases hO.1.2 with ⟨rfl,h0⟩ | ⟨g,cap,cur,rfl,k1,hh,_⟩
 ·omega
 ·have e:=fun i (hi:i<3)=>hO.1.cellAt (j*3+i) (by omega)
  have hs:=Fam.getAt (L0:=[(f,x.q.f),(t,x.q.t),(d,x.d)]) hF hv (l:=y.a) (by simp[hj]);exact⟨g,cap,_,rfl,k1,hO.2.1 g rfl,by rw[show j*3=j*3+0 by omega,e 0 (by omega)];exact a,by rw[e 1 (by omega)];exact b,by rw[e 2 (by omega)];exact c,hs,fun i=>hO.1.frozenAt i,hi2 y (l4_ hj)⟩
def addK (D D':Nat→Nat) (k v:Nat):Nat:=if v<k then D v+D' v else D v
theorem d0J {D D':Nat→Nat} {V k:Nat}:(rowF V fun v=>((addK D D' k v:Nat):Int)).set k ((D k:Int)+(D' k:Int))=rowF V fun v=>((addK D D' (k+1) v:Nat):Int):=by
 rw[o4_];apply d1_
 intro v _;by_cases e:v=k
 ·subst e;simp[addK]
 ·rw[if_neg e];have:(v<k+1)=(v<k):=by simp only[eq_iff_iff];omega
  simp only[addK,this]
theorem d0x (D D':Nat→Nat) (V:Nat):(rowF V fun v=>((addK D D' V v:Nat):Int))=rowF V fun v=>((D v+D' v:Nat):Int):=d1_ fun v hv=>by rw[addK,if_pos hv]
def dsMs (q:Qv) (D D':Nat→Nat) (E E':Nat→Nat→Nat→Int) (k i:Nat):Mx:=if i<k then mxF (D (tN q i)+D' (tN q i)) (D (fN q i)+D' (fN q i)) (dsSF q D E E' i) else mxF (D (tN q i)) (D (fN q i)) (E i)
theorem d2Z {q:Qv} {D D':Nat→Nat} {E E':Nat→Nat→Nat→Int} {n k:Nat}:(msF n (dsMs q D D' E E' k)).set k (mxF (D (tN q k)+D' (tN q k)) (D (fN q k)+D' (fN q k)) (dsE (D (tN q k)) (D (fN q k)) (E k) (E' k)))=msF n (dsMs q D D' E E' (k+1)):=by
 rw[a3Q];apply j7_
 intro i _;by_cases e:i=k
 ·subst e;simp[dsMs,dsSF]
 ·rw[if_neg e];have:(i<k+1)=(i<k):=by simp only[eq_iff_iff];omega
  simp only[dsMs,this]
theorem g6Z (q:Qv) (D D':Nat→Nat) (E E':Nat→Nat→Nat→Int) (n:Nat):msF n (dsMs q D D' E E' 0)=msF n fun i=>mxF (D (tN q i)) (D (fN q i)) (E i):=j7_ fun i _=>by rw[dsMs,if_neg (by omega)]
theorem d2Q (q:Qv) (D D':Nat→Nat) (E E':Nat→Nat→Nat→Int) (n:Nat):msF n (dsMs q D D' E E' n)=msF n fun i=>mxF (D (tN q i)+D' (tN q i)) (D (fN q i)+D' (fN q i)) (dsSF q D E E' i):=j7_ fun i hi=>by rw[dsMs,if_pos hi]
theorem Blk.apart {w:World} {g g':Nat} {t t':TypeId} {cs cs':Array Value} (h:Blk w g t cs) (k:Blk w g' t' cs') (ht:t≠t'):g≠g':=by
 rintro rfl;unfold Blk at h k;rw[h]at k;injection k with k
 injection k with _ k
 exact ht k
theorem RepO.mBlk {w:World} {lo hi g n c:Nat} {p v:Int} {f t d:Value} {x:Rp} (h:RepO w lo hi (.agg #[.int .i64 p,.int .i64 v,f,t,d,.slice (some ⟨g,0,none⟩) n c]) x):∃ cs,Blk w g 65 cs:=by
 obtain⟨f',t',d',m',vs,e,hO,_⟩:=h;simp only[Value.agg.injEq,Array.mk.injEq,List.cons.injEq,and_true]at e;obtain⟨_,_,rfl,rfl,rfl,rfl⟩:=e;obtain⟨cs,hb,_⟩:=OutM.blk hO;exact⟨cs,hb⟩
theorem b0z {w:World} {B n c k:Nat} {F:Nat→Mx} {A:Option Addr} {r s:Nat} {f:Nat→Nat→Int} (h:SlM w B (.slice A n c) (msF n F)) (hk:k<n) (hF:F k=mxF r s f) :
  ∃ b o MA mb L,A=some ⟨b,o,none⟩∧b<B∧w.cell? ⟨b,o+k*3,none⟩=some (.int .i64 (r:Int))∧w.cell? ⟨b,o+k*3+1,none⟩=some (.int .i64 (s:Int))∧w.cell? ⟨b,o+k*3+2,none⟩=some (.slice MA L mb)∧MxR w B (.agg #[.int .i64 (r:Int),.int .i64 (s:Int),.slice MA L mb]) (mxF r s f):=by
 obtain⟨b,o,m,MA,mb,e,hb,HX,x0,x1,x2,hsl,i1,i2,_⟩:=SlM.at_ (k:=k) (xs:=msF n F) (by rw[b2_];exact h) (by rw[b2_];exact hk);have hm:m=mxF r s f:=by
  have:=HX.out;rw[s3_ _ hk,hF]at this;injection this with this
  exact this.symm
 subst hm;exact⟨b,o,MA,mb,_,e,hb,x0,x1,x2,⟨_,rfl,hsl,i1,i2⟩⟩
theorem R7_ (ua ub:Value) (p:Int) (q:Qv) (D D':Nat→Nat) (E E':Nat→Nat→Nat→Int) (w0:World) (ha:RpR w0 w0.heap.size ua (rpF p q D E)) (hb:RpR w0 w0.heap.size ub (rpF p q D' E')) (hq:isQ q=true) (hD:∀ v,v<q.v.toNat→D v≤4) (hD':∀ v,v<q.v.toNat→D' v≤4) :
  Calls Tryz.prog 126 #[ua,ub] w0 fun e w'=>∃ v,e = .returned v∧RepO w' w0.heap.size w'.heap.size v (rpF p q (fun v=>D v+D' v) (dsSF q D E E'))∧Below w0.heap.size w0 w':=by
 have HQ:=h_ hq;have hn6:q.f.length≤6:=(j2_.1 hq).2.2.1;have hV5:q.v.toNat≤5:=by have:=(j2_.1 hq).1;omega
 clear hq;have ha':=ha;obtain⟨A,a,C,c,Ea,ea,Ha,ha_,rfl,hqa,hda,hma,hp,_,_⟩:=ha.open_;obtain⟨A2,a2,C2,c2,Eb,eb,Hb,hb_,rfl,hqb,hdb,hmb,hp2,_,_⟩:=hb.open_;clear ha hb hqa hqb hda;simp only[rpF,a2_,b2_]at hdb hma hmb ha'⊢;obtain⟨W,hW⟩:∃ W,W=((w0.alloc (.cells #[.int .i64 p,.int .i64 q.v,.slice A q.f.length a,.slice C q.t.length c,.slice Ea q.v.toNat ea,.slice Ha q.f.length ha_] 29)).alloc (.cells #[.int .i64 p,.int .i64 q.v,.slice A2 q.f.length a2,.slice C2 q.t.length c2,.slice Eb q.v.toNat eb,.slice Hb q.f.length hb_] 29)).alloc (.cells #[.int .i64 0,.int .i64 0,.slice none 0 0,.slice none 0 0,.slice none 0 0,.slice none 0 0] 29):=⟨_,rfl⟩;have g0:Below w0.heap.size w0 W:=by rw[hW];exact (((Below.refl _ _).alloc (l_ _) _).alloc (by simp) _).alloc (by simp;omega) _
 have k1:Blk W w0.heap.size 29 #[.int .i64 p,.int .i64 q.v,.slice A q.f.length a,.slice C q.t.length c,.slice Ea q.v.toNat ea,.slice Ha q.f.length ha_]:=by rw[hW];exact ((Blk.new _ _ _).alloc _).alloc _
 have k2:Blk W (w0.heap.size+1) 29 #[.int .i64 p,.int .i64 q.v,.slice A2 q.f.length a2,.slice C2 q.t.length c2,.slice Eb q.v.toNat eb,.slice Hb q.f.length hb_]:=by
  rw[hW];have:=(Blk.new (w0.alloc (.cells #[.int .i64 p,.int .i64 q.v,.slice A q.f.length a,.slice C q.t.length c,.slice Ea q.v.toNat ea,.slice Ha q.f.length ha_] 29)) 29 #[.int .i64 p,.int .i64 q.v,.slice A2 q.f.length a2,.slice C2 q.t.length c2,.slice Eb q.v.toNat eb,.slice Hb q.f.length hb_]).alloc (.cells #[.int .i64 0,.int .i64 0,.slice none 0 0,.slice none 0 0,.slice none 0 0,.slice none 0 0] 29);simpa only[l3_] using this
 have k3:Blk W (w0.heap.size+1+1) 29 #[.int .i64 0,.int .i64 0,.slice none 0 0,.slice none 0 0,.slice none 0 0,.slice none 0 0]:=by
  rw[hW];have:=Blk.new ((w0.alloc (.cells #[.int .i64 p,.int .i64 q.v,.slice A q.f.length a,.slice C q.t.length c,.slice Ea q.v.toNat ea,.slice Ha q.f.length ha_] 29)).alloc (.cells #[.int .i64 p,.int .i64 q.v,.slice A2 q.f.length a2,.slice C2 q.t.length c2,.slice Eb q.v.toNat eb,.slice Hb q.f.length hb_] 29)) 29 #[.int .i64 0,.int .i64 0,.slice none 0 0,.slice none 0 0,.slice none 0 0,.slice none 0 0];simpa only[l3_] using this
 have sz:W.heap.size=w0.heap.size+1+1+1:=by rw[hW];simp
 have SZ:=h_ sz;clear sz;have HA:=h_ (RpR.next g0 ha');have HDB:=h_ (SlI.next g0 hdb);have HMA:=h_ (SlM.next g0 hma);have HMB:=h_ (SlM.next g0 hmb);clear ha' hdb hma hmb;obtain⟨V,hV⟩:=e_ (q.v.toNat);rw[hV]at k1 k2 hD hD' hV5 HA HDB hW;have HV:=h_ hV;rw[hV];clear hV;obtain⟨z0,z1,z2,z3,z4,z5⟩:=c_6 k1;go_enter Tryz.func126,Tryz.ntmps126
 go_wp2_with fail
 rw[←hW];clear hW;refine (Z6_ _ (rpF p q D E) _ (by have:=HA.out;rwa[←HV.out]at this⊢) (by simp only[rpF,b2_];omega)).mono ?_;rintro e w1 ⟨v1,rfl,hO,hb1⟩;have s1:=hb1.size;obtain⟨A1,a1,C1,c1,E1,e1,H1,h1,rfl⟩:=hO.form;simp only[rpF,a2_,b2_]at hO⊢;rw[HV.out]at hO⊢;have k1':=k1.call hb1;have k2':=k2.call hb1;have k3':=k3.call hb1;have gR:=Blk.new w1 29 #[.int .i64 p,.int .i64 q.v,.slice A1 q.f.length a1,.slice C1 q.t.length c1,.slice E1 V e1,.slice H1 q.f.length h1];obtain⟨W2,hW2⟩:=e_ (w1.alloc (.cells #[.int .i64 p,.int .i64 q.v,.slice A1 q.f.length a1,.slice C1 q.t.length c1,.slice E1 V e1,.slice H1 q.f.length h1] 29));have ga:Below w1.heap.size w1 W2:=by rw[←hW2];exact a0_ _ _
 rw[hW2]at gR;have z24:=(k2'.call ga).cell' (i:=4) rfl;have gW2:Below W.heap.size W W2:=hb1.trans (ga.mono s1);have sW2:W2.heap.size=w1.heap.size+1:=by rw[←hW2];simp
 have hO2:=hO.below ga;have K1:=h_ k1;have K2:=h_ k2;have K3:=h_ k3;have G0:=h_ g0;clear k1 k2 k3 g0 k1' k2' k3' z0 z1 z2 z3 z4 z5 hO hb1 ga;go_wp2;go_loopw [6,7,15] (fun _ _ i wr=>∃ k:Nat,k≤V∧i = .int .i64 k∧Below W.heap.size W wr∧wr.heap.size=w1.heap.size+1∧Blk wr w1.heap.size 29 #[.int .i64 p,.int .i64 q.v,.slice A1 q.f.length a1,.slice C1 q.t.length c1,.slice E1 V e1,.slice H1 q.f.length h1] ∧
  RepO wr W.heap.size w1.heap.size (.agg #[.int .i64 p,.int .i64 q.v,.slice A1 q.f.length a1,.slice C1 q.t.length c1,.slice E1 V e1,.slice H1 q.f.length h1]) ⟨p,q,rowF V fun v=>((addK D D' k v:Nat):Int),msF q.f.length fun i=>mxF (D (tN q i)) (D (fN q i)) (E i)⟩) (fun _ _ i _=>V-(intOf i).toNat)
 case atStart=>exact⟨0,l0_ _,rfl,gW2,sW2,gR,hO2⟩
 case round =>
  clear gR gW2 hO2 z24;obtain⟨k,hk,rfl,gW,hsz,hB,hR⟩:=hrel;have HDk:=h_ hD;have HDk':=h_ hD';clear hD hD';have gws:=gW.size;by_cases hlt:k<V
  ·obtain⟨bd,od,y,eD,hbd,HY,y1,_⟩:=SlI.at_ (k:=k) (xs:=rowF V fun v=>((D' v:Nat):Int)) (by rw[a2_];exact HDB.out) (by rw[a2_];exact hlt);have hy:y=((D' k:Nat):Int):=by
    have:=HY.out;rw[c0_ _ hlt]at this;injection this with this
    exact this.symm
   subst hy eD;clear HY;have y2:=a4_ gW hbd y1;obtain⟨g,cE,eE,hg1,hg2,x1,x2,_⟩:=hR.dimAt (j:=k) (by simp only[a2_];exact hlt);simp only[a2_]at eE;injection eE with eE1 _ eE2
   subst eE1 eE2;have ex:(rowF V fun v=>((addK D D' k v:Nat):Int)).getD k 0=((D k:Nat):Int):=by rw[i9_ _ hlt,addK,if_neg (by omega)]
   simp only[ex]at x1;clear ex y1;have b1:=HDk.out k hlt;have b2:=HDk'.out k hlt;have c4:=hB.cell' (i:=4) rfl;have hg3:g<wr.heap.size:=by omega
   have HR:=h_ hR;have hBs:=h_ (hB.far (p:=⟨g,k,none⟩) (by simp;omega) (.int .i64 ((D k:Int)+(D' k:Int))));clear hR hB;go_wp2;go_roundw
   case rel =>
    have h1:=(HR.out.setDim (j:=k) (y:=(D k:Int)+(D' k:Int)) (by simp only[I64];omega)).1;simp only[d0J]at h1;exact⟨k+1,by omega,by go_num,gW.setCell (by simp;omega) _,by simp[hsz],hBs.out,h1⟩
   case measure=>simp[intOf];omega
  ·obtain rfl:k=V:=by omega
   rw[d0x]at hR;have z25:=(K2.out.call gW).cell' (i:=5) rfl;have gR2:=hB;have hR2:=hR.wider (l_ _) (show w1.heap.size≤wr.heap.size by omega);rw[←g6Z q D D' E E']at hR2;have hs2:w1.heap.size<wr.heap.size:=by omega
   obtain⟨W4,hW4⟩:∃ W4,W4=wr:=⟨_,rfl⟩;rw[←hW4]at gR2 hR2 hs2 gW z25⊢;clear hR hB hW4;go_wp2;go_loopw [8,32] (fun _ i wr=>∃ j:Nat,j≤q.f.length∧i = .int .i64 j∧Below W.heap.size W wr∧w1.heap.size<wr.heap.size∧Blk wr w1.heap.size 29 #[.int .i64 p,.int .i64 q.v,.slice A1 q.f.length a1,.slice C1 q.t.length c1,.slice E1 k e1,.slice H1 q.f.length h1] ∧
    RepO wr W.heap.size wr.heap.size (.agg #[.int .i64 p,.int .i64 q.v,.slice A1 q.f.length a1,.slice C1 q.t.length c1,.slice E1 k e1,.slice H1 q.f.length h1]) ⟨p,q,rowF k fun v=>((D v+D' v:Nat):Int),msF q.f.length (dsMs q D D' E E' j)⟩) (fun _ i _=>q.f.length-(intOf i).toNat)
   case atStart=>exact⟨0,l0_ _,rfl,gW,hs2,gR2,hR2⟩
   case round =>
    clear gR2 gW hR2 hs2 z25;obtain⟨j,hj,rfl,gW,hs2,hB,hR⟩:=hrel;have gws:=gW.size;by_cases hlt:j<q.f.length
    ·obtain⟨bA,oA,MA,ma,LA,eA,hbA,x0,x1,x2,hxa⟩:=b0z HMA.out hlt rfl;obtain⟨bB,oB,MB,mb,LB,eB,hbB,y0,y1,y2,hxb⟩:=b0z HMB.out hlt rfl;subst eA eB;obtain⟨_,_,lf,lt⟩:=Z4_ HQ.out hlt;rw[HV.out]at lf lt;have b1:=HDk.out _ lf;have b2:=HDk.out _ lt;have b3:=HDk'.out _ lf;have b4:=HDk'.out _ lt;clear lf lt;obtain⟨g,cM,sM,eM,hg1,hg2,v0,v1,v2,_,hfz,_⟩:=hR.mxAt (j:=j) (by simp only[];exact s3_ _ hlt);simp only[b2_]at eM;injection eM with eM1 _ eM2
     subst eM1 eM2;have y0':=a4_ gW hbB y0;have y1':=a4_ gW hbB y1;have y2':=a4_ gW hbB y2;have x0':=a4_ gW hbA x0;have x1':=a4_ gW hbA x1;have x2':=a4_ gW hbA x2;have kA:=K1.out.call gW;have kB:=K2.out.call gW;have z25:=kB.cell' (i:=5) rfl;have gwa:=a0_ wr (.cells #[.int .i64 ((D' (tN q j):Nat):Int),.int .i64 ((D' (fN q j):Nat):Int),.slice MB LB mb] 65);have kM:=Blk.new wr 65 #[.int .i64 ((D' (tN q j):Nat):Int),.int .i64 ((D' (fN q j):Nat):Int),.slice MB LB mb];obtain⟨W5,hW5⟩:=e_ (wr.alloc (.cells #[.int .i64 ((D' (tN q j):Nat):Int),.int .i64 ((D' (fN q j):Nat):Int),.slice MB LB mb] 65));have s5:W5.heap.size=wr.heap.size+1:=by rw[←hW5];simp
     rw[hW5]at gwa kM;have HXA:=h_ (show MxR W5 W5.heap.size _ _ from MxR.more (by omega) (MxR.below (gW.trans (gwa.mono gws)) hxa));have HXB:=h_ (show MxR W5 W5.heap.size _ _ from MxR.more (by omega) (MxR.below (gW.trans (gwa.mono gws)) hxb));replace kA:=kA.call gwa;have kO:=hB.call gwa;have HR:=h_ (hR.below gwa);have GW:=h_ (gW.trans (gwa.mono gws));have v0':=a4_ gwa (show g<wr.heap.size by omega) v0;have v1':=a4_ gwa (show g<wr.heap.size by omega) v1;have v2':=a4_ gwa (show g<wr.heap.size by omega) v2;have wa0:=a4_ gwa (show bA<wr.heap.size by omega) x0';have wa1:=a4_ gwa (show bA<wr.heap.size by omega) x1';have wa2:=a4_ gwa (show bA<wr.heap.size by omega) x2';have hbA5:bA<W5.heap.size:=by omega
     have hg5:g<W5.heap.size:=by omega
     have kA5:=kA.cell' (i:=5) rfl;clear x0 x1 x2 y0 y1 y2 v0 v1 v2 x0' x1' x2' hxa hxb hR hB gW kB;go_wp2;clear hW5;refine a9_ (by kernel_rfl) [.eq (.pointer (some ⟨w1.heap.size,5,none⟩)),.eq (.slice (some ⟨g,0,none⟩) q.f.length h1),.eq (.int .i64 j),.eq (.pointer (some ⟨w0.heap.size,5,none⟩)),.eq (.slice (some ⟨bA,oA,none⟩) q.f.length ha_),.eq (.int .i64 j),.eq (.pointer (some ⟨bA,oA+j*3,none⟩)),.eq (.agg #[.int .i64 ((D (tN q j):Nat):Int),.int .i64 ((D (fN q j):Nat):Int),.slice MA LA ma]),.eq (.pointer (some ⟨w0.heap.size,5,none⟩)),.eq (.slice (some ⟨bA,oA,none⟩) q.f.length ha_),.eq (.int .i64 j),.eq (.pointer (some ⟨bA,oA+j*3,none⟩)),.eq (.pointer (some ⟨bA,oA+j*3,none⟩)),.eq (.int .i64 ((D (tN q j):Nat):Int)),.eq (.pointer (some ⟨wr.heap.size,1,none⟩)),.eq (.int .i64 ((D' (fN q j):Nat):Int)),rel 16 (fun u lo hi w=>MxO w lo hi u (mxF (D (tN q j)) (D' (fN q j)) (fun _ _=>0))),.eq (.agg #[.int .i64 ((D' (tN q j):Nat):Int),.int .i64 ((D' (fN q j):Nat):Int),.slice MB LB mb]),rel 18 (fun u lo hi w=>MxO w lo hi u (mxF (D (tN q j)+D' (tN q j)) (D (fN q j)+D' (fN q j)) (dsE (D (tN q j)) (D (fN q j)) (E j) (E' j))))] [[],[0],[],[],[3],[],[3,4,5],[3,4,5,6],[],[8],[],[8,9,10],[8,9,10,11],[8,9,10,11,12],[],[14],[8,9,10,11,12,13,14,15],[],[3,4,5,6,7,8,9,10,11,12,13,14,15,16,17],[0,1,2,3,4,5,6,7,8,9,10,11,12,13,14,15,16,17,18],[0,1,2,3,4,5,6,7,8,9,10,11,12,13,14,15,16,17,18,19]] 19 (by kernel_rfl) ⟨trivial,trivial,trivial,trivial,trivial,trivial,trivial,trivial,trivial,trivial,trivial,trivial,trivial,trivial,trivial,trivial,a7_ (fun u lo hi w w' h hb=>h.below hb),trivial,a7_ (fun u lo hi w w' h hb=>h.below hb),trivial⟩ ⟨?_,?_,?_,?_,?_,?_,?_,?_,?_,?_,?_,?_,?_,?_,?_,?_,?_,?_,?_,trivial⟩ ?_;iterate 19 (intro x w hb hk Q' hQ;have he:=k_e hk;simp only[k_s]at he;simp only[netE]at hQ⊢;(try simp only[he]at hQ⊢);(try clear he);rotate_left)
     rotate_left
     ·clear hk;go_wp2;exact hQ _ _ br_ rfl
     ·clear hk;have z:=(kO.call hb).cell' (i:=5) rfl;go_wp2;exact hQ _ _ br_ rfl
     iterate 2 (· clear hk;go_wp2;exact hQ _ _ br_ rfl)
     ·clear hk;have z:=(kA.call hb).cell' (i:=5) rfl;go_wp2;exact hQ _ _ br_ rfl
     iterate 2 (· clear hk;go_wp2;exact hQ _ _ br_ rfl)
     ·clear hk;have y0:=a4_ hb hbA5 wa0;have y1:=a4_ hb hbA5 wa1;have y2:=a4_ hb hbA5 wa2;go_wp2;exact hQ (.agg #[.int .i64 ((D (tN q j):Nat):Int),.int .i64 ((D (fN q j):Nat):Int),.slice MA LA ma]) _ br_ rfl
     ·clear hk;go_wp2;exact hQ _ _ br_ rfl
     ·clear hk;have z:=(kA.call hb).cell' (i:=5) rfl;go_wp2;exact hQ _ _ br_ rfl
     iterate 3 (· clear hk;go_wp2;exact hQ _ _ br_ rfl)
     ·clear hk;have y0:=a4_ hb hbA5 wa0;go_wp2;exact hQ (.int .i64 ((D (tN q j):Nat):Int)) _ br_ rfl
     ·clear hk;go_wp2;exact hQ _ _ br_ rfl
     ·clear hk;have z:=(kM.call hb).cell' (i:=1) rfl;go_wp2;exact hQ (.int .i64 ((D' (fN q j):Nat):Int)) _ br_ rfl
     ·clear hk;go_wp2_with fail
      refine (r8_ (D (tN q j)) (D' (fN q j)) _ (by omega) (by omega) (by omega) (by omega)).mono ?_;rintro e w7 ⟨v7,rfl,ho,hb7⟩;rw[o6_]at ho;go_wp2;exact hQ _ _ hb7 ho
     ·clear hk;obtain⟨y0,y1,y2⟩:=c_3 (kM.call hb);go_wp2;exact hQ (.agg #[.int .i64 ((D' (tN q j):Nat):Int),.int .i64 ((D' (fN q j):Nat):Int),.slice MB LB mb]) _ br_ rfl
     ·have h16:MxO w (x.lo 16) (x.hi 16) (x.v 16) (mxF (D (tN q j)) (D' (fN q j)) (fun _ _=>0)):=(hk 16 (by decide)).1;have s16:=(hk 16 (by decide)).2;clear hk;have H16:=h_ h16.rd;obtain⟨A16,c16,e16⟩:=h16.form;rw[e16]at H16 hQ⊢;go_wp2_with fail
      refine (b3Z _ _ _ (D (tN q j)) (D' (tN q j)) (D (fN q j)) (D' (fN q j)) (E j) (fun _ _=>0) (E' j) _ (MxR.next hb HXA.out) H16.out (MxR.next hb HXB.out) (by omega) (by omega) (by omega) (by omega)).mono ?_;rintro e w7 ⟨v7,rfl,ho,hb7⟩;go_wp2;exact hQ _ _ hb7 ho
     ·intro x w hb hk hiv hdj;have h16:MxO w (x.lo 16) (x.hi 16) (x.v 16) (mxF (D (tN q j)) (D' (fN q j)) (fun _ _=>0)):=hk 16 (by decide);have h18:MxO w (x.lo 18) (x.hi 18) (x.v 18) (mxF (D (tN q j)+D' (tN q j)) (D (fN q j)+D' (fN q j)) (dsE (D (tN q j)) (D (fN q j)) (E j) (E' j))):=hk 18 (by decide);have he:=k_g hk [0,1,2,3,4,5,6,7,8,9,10,11,12,13,14,15,17];simp only[k_s]at he;simp only[netE,he];clear he hk;obtain⟨l18,l18m,l18h⟩:=hiv 18 (by decide);obtain⟨A18,c18,e18⟩:=h18.form;obtain⟨N,hN⟩:=e_ ((mxF (D (tN q j)+D' (tN q j)) (D (fN q j)+D' (fN q j)) (dsE (D (tN q j)) (D (fN q j)) (E j) (E' j))).a.length);rw[hN]at e18;simp only[mxF]at e18;rw[e18]at h18⊢;clear hiv hdj e18 hN h16;have hbs:=hb.size;have hRw:=(HR.out).below hb;obtain⟨cs,hbM⟩:=hRw.mBlk;have kOw:=kO.call hb;have hne:=hbM.apart kOw (by decide);have t0:=a4_ hb hg5 v0';have t1:=a4_ hb hg5 v1';have t2:=a4_ hb hg5 v2';have fr:=hbM.frozen;have h2:=(RepO.setMx (j:=j) hRw (by simp only[b2_];exact hlt) h18 (by omega) l18m (by omega)).1;have hch:=R5_ w g (j*3) (.int .i64 ((D (tN q j)+D' (tN q j):Nat):Int)) (.int .i64 ((D (fN q j)+D' (fN q j):Nat):Int)) (.slice A18 N c18);simp only[d2Z]at h2;have H2:=h_ (h2.wider (l_ _) l18h);have KO:=h_ (kOw.chg hch (by omega));have GF:=h_ ((GW.out.trans (hb.mono GW.out.size)).trans (hch.below (B:=W.heap.size) hg1 (by omega)));clear h2 hch kOw hRw h18 hbM kO kA kM hb HR;go_wp2;go_roundw
      case rel=>exact⟨j+1,by omega,by go_num,GF.out,by simp;omega,KO.out,by simpa using H2.out⟩
      case measure=>simp[intOf];omega
    ·obtain rfl:j=q.f.length:=by omega
     rw[d2Q]at hR;have kz:=K3.out.call gW;have fr:=kz.frozen;obtain⟨s0,s1,s2,s3,s4,s5⟩:=c_6 kz;obtain⟨r0,r1,r2,r3,r4,r5⟩:=c_6 hB;have z25:=(K2.out.call gW).cell' (i:=5) rfl;have sz:=SZ.out;have gf:=G0.out.trans (gW.mono G0.out.size);have hc:=chg6 wr (w0.heap.size+1+1) (.int .i64 p) (.int .i64 q.v) (.slice A1 q.f.length a1) (.slice C1 q.t.length c1) (.slice E1 k e1) (.slice H1 q.f.length h1);have OF:=h_ ((hR.chg hc (.inr (by omega))).wider (lo':=w0.heap.size) (hi':=wr.heap.size) (by omega) (l_ _));have GF:=h_ (gf.trans (hc.below (by omega) gf.size));have hneq:w1.heap.size≠w0.heap.size+1+1:=by omega
     clear hR hB kz gf hc;go_wp2;exact bodyPost_ret (v:=.agg #[.int .i64 p,.int .i64 q.v,.slice A1 q.f.length a1,.slice C1 q.t.length c1,.slice E1 k e1,.slice H1 q.f.length h1]) (by simp[results,go_sem,s0,s1,s2,s3,s4,s5]) rfl ⟨_,rfl,by have:=OF.out.wider (l_ _) (l_ _);simpa using this,GF.out⟩
theorem f1z:(Tryz.prog.info? 29).map (fun i=>(i.zero,i.size,i.bytes))=some (some (.agg #[.int .i64 0,.int .i64 0,.slice none 0 0,.slice none 0 0,.slice none 0 0,.slice none 0 0]),6,112):=by kernel_rfl
theorem RepO.appT {T:TypeId} {lo l1 h1:Nat} {w w':World} {v:Value} {x:Rp} (h:RepO w l1 h1 v x) (hT:3≠T) (hM:65≠T) (ha:AppT T lo w w'):RepO w' l1 h1 v x:=by
 obtain⟨f,t,d,m,vs,e,hO,hvl,hF,hi⟩:=h;refine⟨f,t,d,m,vs,e,⟨⟨hO.1.1,?_⟩,hO.2⟩,hvl,hF.appT hT ha,hi⟩;rcases hO.1.2 with h1 | ⟨g,cap,cur,e,hg,hh,rest⟩
 ·exact .inl h1
 ·exact .inr ⟨g,cap,cur,e,hg,ha.other g _ cur hM hh,rest⟩
theorem RepO.six {w:World} {lo hi:Nat} {u:List Value} {x:Rp} (h:RepO w lo hi (.agg u.toArray) x):∃ A a C c E e H h,u=[.int .i64 x.p,.int .i64 x.q.v,.slice A x.q.f.length a,.slice C x.q.t.length c,.slice E x.d.length e,.slice H x.m.length h]:=by
 obtain⟨A,a,C,c,E,e,H,k,hu⟩:=h.form;injection hu with hu
 refine⟨A,a,C,c,E,e,H,k,?_⟩;rw[←Array.toList_inj]at hu;simpa using hu
def RpsC (w:World) (us:List (List Value)) (rs:List Rp):Prop:=us.length=rs.length∧∀ (j:Nat) (u:List Value) (r:Rp),us[j]?=some u→rs[j]?=some r→RepO w 0 w.heap.size (.agg u.toArray) r
theorem RpsC.nil (w:World):RpsC w [] []:=⟨rfl,fun j u r h=>by simp at h⟩
theorem RpsC.below {w w':World} {us:List (List Value)} {rs:List Rp} (h:RpsC w us rs) (hb:Below w.heap.size w w'):RpsC w' us rs :=
 ⟨h.1,fun j u r h1 h2=>((h.2 j u r h1 h2).below hb).wider (l_ _) hb.size⟩
theorem RpsC.appT {T:TypeId} {lo:Nat} {w w':World} {us:List (List Value)} {rs:List Rp} (h:RpsC w us rs) (hT:3≠T) (hM:65≠T) (ha:AppT T lo w w'):RpsC w' us rs :=
 ⟨h.1,fun j u r h1 h2=>((h.2 j u r h1 h2).appT hT hM ha).wider (l_ _) ha.size⟩
theorem RpsC.app {w:World} {us us':List (List Value)} {rs rs':List Rp} (h:RpsC w us rs) (k:RpsC w us' rs'):RpsC w (us ++ us') (rs ++ rs'):=by
 refine⟨by simp[h.1,k.1],fun j u r h1 h2=>?_⟩;by_cases hj:j<us.length
 ·rw[List.getElem?_append_left hj]at h1;rw[List.getElem?_append_left (by rw[←h.1];exact hj)]at h2;exact h.2 j u r h1 h2
 ·rw[List.getElem?_append_right (by omega)]at h1;rw[List.getElem?_append_right (by rw[←h.1];omega),←h.1]at h2;exact k.2 _ u r h1 h2
theorem RpsC.rep {w:World} {u:List Value} {r:Rp} (N:Nat) (h:RepO w 0 w.heap.size (.agg u.toArray) r):RpsC w (List.replicate N u) (List.replicate N r) :=
 ⟨by simp,fun j u' r' h1 h2=>by
  have e1:=l4_ h1;have e2:=l4_ h2;obtain⟨_,rfl⟩:=List.mem_replicate.1 e1;obtain⟨_,rfl⟩:=List.mem_replicate.1 e2;exact h⟩
theorem RpsC.six {w:World} {us:List (List Value)} {rs:List Rp} (h:RpsC w us rs):∀ u∈us,u.length=6∧∀ y∈u,y.oneCell'=true:=fun u hu=>by
 obtain⟨j,hj⟩:=List.getElem?_of_mem hu;have hl:=a6_ hj;obtain⟨A,a,C,c,E,e,H,g,rfl⟩:=(h.2 j u _ hj (l2_ (show j<rs.length by rw[←h.1];exact hl))).six;exact⟨rfl,fun y hy=>by
  simp only[List.mem_cons,List.not_mem_nil,or_false]at hy;rcases hy with rfl | rfl | rfl | rfl | rfl | rfl <;> rfl⟩
theorem F9_:∀ {us:List (List Value)},(∀ u∈us,u.length=6)→us.flatten.length=us.length*6
 | [],_=>rfl
 | u :: us,h=>by
  rw[List.flatten_cons,List.length_append,F9_ fun x hx=>h x (by simp[hx]),h u (by simp),List.length_cons];omega
theorem K5_:∀ {us:List (List Value)} {j i:Nat} {u:List Value},(∀ u∈us,u.length=6)→us[j]?=some u→i<6→us.flatten[j*6+i]?=u[i]?
 | [],j,_,_,_,h,_=>by simp at h
 | x :: us,0,i,u,h,hu,hi=>by
  simp at hu;subst hu;rw[List.flatten_cons,List.getElem?_append_left (by rw[h x (by simp)];omega)];simp
 | x :: us,j+1,i,u,h,hu,hi=>by
  rw[List.flatten_cons,List.getElem?_append_right (by rw[h x (by simp)];omega),h x (by simp),show (j+1)*6+i-6=j*6+i by omega];exact K5_ (fun y hy=>h y (by simp[hy])) (by simpa using hu) hi
def RpsO (w:World) (lo hi:Nat) (v:Value) (us:List (List Value)):Prop:=RowO 29 6 w lo hi v us.length us.flatten
theorem RpsO.nil (w:World) (lo hi:Nat):RpsO w lo hi (.slice none 0 0) []:=RowO.nil _ w lo hi
theorem RpsO.at_ {w:World} {lo hi j:Nat} {v:Value} {us:List (List Value)} {u:List Value} (h:RpsO w lo hi v us) (h6:∀ u∈us,u.length=6) (hj:us[j]?=some u):∃ g c,v = .slice (some ⟨g,0,none⟩) us.length c∧lo≤g∧g<hi∧g<w.heap.size∧∀ i y,u[i]?=some y→w.cell? ⟨g,j*6+i,none⟩=some y:=by
 have hjl:=a6_ hj;obtain⟨g,c,cur,rfl,k1,k2,k3,_⟩:=RowO.at_ h (by omega);refine⟨g,c,rfl,k1,k2,k3,fun i y hy=>?_⟩;have hi:i<6:=by rw[←h6 u (l4_ hj)];exact a6_ hy
 rw[h.1.cellAt (j*6+i) (by omega),K5_ h6 hj hi,hy]
theorem a1q {w:World} {ops:Array Oper} {rest:List Oper} {o:Oper} {a:Act} {Q:Exit→Act→World→Prop} (hgd:o.guard=none) (s x:Operand)
  (ho:o.op = .call { callee:=.builtin .append,args:=#[s,x],argTypes:=#[106,106] })
  (lo hi:Nat) (v:Value) (us us':List (List Value)) (hs:a.eval s=v) (hown:RpsO w lo hi v us) (A:Option Addr) (m c:Nat) (hx:a.eval x = .slice A m c) (hm:us'.length=m) (hnews:r2_ w A m us'.flatten 6) (h1:∀ u∈us',∀ y∈u,y.oneCell'=true)
  (hn:us.length+m≤1000000) (hlo:lo≤w.heap.size)
  (h:∀ v' w',RpsO w' lo w'.heap.size v' (us ++ us')→AppT 29 lo w w'→wpList Tryz.prog ops Q rest (a.put o.dst v') w'):wpList Tryz.prog ops Q (o :: rest) a w:=by
 obtain⟨i0,hi',hz0,hz1,hz2⟩:=info_parts f1z;refine f1_ w hgd s x _ ho lo 29 i0 _ 6 112 Tryz.underlying106 hi' hz0 hz1 hz2 rfl (by decide) v us.length _ hs hown.1 A m c us'.flatten hx hnews ?_ (by simp only[maxLen];omega) (by omega) hlo fun v' w' h1 h2 h3=>?_
 ·intro y hy;obtain⟨u,hu,hy⟩:=List.mem_flatten.1 hy;exact h1 u hu y hy
 ·refine h v' w' ⟨?_,fun k hk=>?_,by simp;omega⟩ ⟨h2.os,h2.tape,h2.output,h2.size,fun k hk hks=>h2.block k hks (fun e=>?_),fun g' t cs ht hb=>hb.grown h2 (fun e=>?_)⟩
  ·rw[List.flatten_append,List.length_append,hm];exact h1
  ·exact (h1.lt k hk).2
  ·have:=(hown.1.lt k e.symm).1;omega
  ·rcases hown.1.2 with ⟨rfl,_⟩ | ⟨g2,cap,cur,rfl,_,hh,_⟩
   ·simp[Value.ownBlock]at e
   ·have:g'=g2:=by simpa [Value.ownBlock] using e
    subst this;unfold Blk at hb;rw[hh]at hb;injection hb with hb
    injection hb with _ hb
    exact ht hb.symm
theorem Z7_ (V:Nat):List.replicate V (0:Int)=rowF V fun _=>0:=by
 symm
 rw[List.eq_replicate_iff];refine⟨a2_ _ _,fun x hx=>?_⟩;simp only[rowF,List.mem_map]at hx;obtain⟨_,_,rfl⟩:=hx;rfl
def ivR (p:Int) (q:Qv) (x:Nat×Nat):Rp:=rpF p q (ivN x.1 x.2) fun _ _ _=>1
theorem i2z {q:Qv} {L:List (Nat×Nat)} (h:smO q L=true) (v:Nat) (hv:v<q.v.toNat):(smS q L).1 v≤4:=by
 have:=(c3_.1 h).2.2.1 _ (l4_ (c0_ (fun v=>(((smS q L).1 v:Nat):Int)) hv));omega
theorem g8x (a b v:Nat):ivN a b v≤4:=by unfold ivN;split <;> omega
def smP (p:Int) (q:Qv) (L:List (Nat×Nat)):Rp×Bool:=if smO q L then (smR p q L,true) else (rp0,false)
theorem g3X {p:Int} {q:Qv} {L:List (Nat×Nat)} {k:Nat} (h:smO q (L.take k)=false):smP p q L=(rp0,false):=by
 have:smO q L=false:=by
  rcases hh:smO q L with _ | _
  ·rfl
  ·rw[←List.take_append_drop k L]at hh;rw[b2X _ hh]at h;cases h
 simp[smP,this]
theorem b3j (p:Int) (q:Qv) (L:List (Nat×Nat)):(smR p q L).p=p∧(smR p q L).q=q∧(smR p q L).d.length=q.v.toNat∧(smR p q L).m.length=q.f.length:=⟨rfl,rfl,a2_ _ _,b2_ _ _⟩
theorem c9z {w:World} {lo hi:Nat} {v:Value} {p:Int} {q:Qv} {L:List (Nat×Nat)} (h:RepO w lo hi v (smR p q L)):∃ A a C c E e H k,v = .agg #[.int .i64 p,.int .i64 q.v,.slice A q.f.length a,.slice C q.t.length c,.slice E q.v.toNat e,.slice H q.f.length k]:=by
 obtain⟨A,a,C,c,E,e,H,k,rfl⟩:=h.form;obtain⟨e1,e2,e3,e4⟩:=b3j p q L;rw[e1,e2,e3,e4];exact⟨A,a,C,c,E,e,H,k,rfl⟩
theorem V1_ (p:Int) (u:Value) (q:Qv) (v:Value) (us:List (List Value)) (L:List (Nat×Nat)) (lo hi:Nat) (w0:World) (hp:c8_ p=true) (hq:isQ q=true) (hu:QvR w0 w0.heap.size u q) (hv:RpsO w0 lo hi v us) (hc:RpsC w0 us (L.map (ivR p q))) (hn:L.length≤1000000) :
  Calls Tryz.prog 93 #[.int .i64 p,u,v] w0 fun e w'=>∃ r,e = .returned (.tuple #[r,.bool (smP p q L).2])∧RepO w' w0.heap.size w'.heap.size r (smP p q L).1∧Below w0.heap.size w0 w':=by
 have hu':=hu;have hI:I64 p:=by have:=v6_ hp;simp only[I64];omega
 obtain⟨A,c,C,c',rfl,_,_,hr,lf,lt⟩:=hu.open_;obtain⟨LA,lc,rfl,_,_⟩:=RowO.form hv;obtain⟨W,hW,g0,k1,k2⟩:=b_4 w0 #[.int .i64 q.v,.slice A q.f.length c,.slice C q.t.length c'] 26 #[.int .i64 0,.int .i64 0,.slice none 0 0,.slice none 0 0,.slice none 0 0,.slice none 0 0] 29;have sz:W.heap.size=w0.heap.size+1+1:=by rw[hW];simp
 have hv5:=(j2_.1 hq).1;have hmk:∀ w:World,(Instr.makeSlice 24 (.int .i64 q.v) (.int .i64 q.v)).run Tryz.prog w = .ok (.slice (some ⟨w.heap.size,0,none⟩) q.v.toNat q.v.toNat) (w.alloc (.cells (f4_ (.int .i64 0) q.v.toNat) 3)):=fun w=>by
  have:=A5_ w (n:=q.v.toNat) (by omega);rwa[Int.toNat_of_nonneg (by omega)]at this
 have HUL:=h_ hc.1;have HS6:=h_ hc.six;have HV:=h_ (RowO.below hv g0);have HC:=h_ (hc.below g0);have HQV:=h_ (QvR.next g0 hu');have SZ:=h_ sz;have HQ:=h_ hq;have HP:=h_ hp;have G0:=h_ g0;have K2:=h_ k2;obtain⟨ul,hul⟩:=e_ (us.length);have HU:=h_ hul;have hulL:ul=L.length:=by rw[←hul,hc.1,List.length_map]
 rw[hul];subst hulL;clear hv hc hu' sz hq hp k2 g0 hul;go_enter Tryz.func93,Tryz.ntmps93
 go_wp2;rw[←hW];clear hW;refine a9_ (by kernel_rfl) [.eq (.int .i64 p),.eq (.agg #[.int .i64 q.v,.slice A q.f.length c,.slice C q.t.length c']),.eq (.pointer (some ⟨w0.heap.size,0,none⟩)),.eq (.int .i64 q.v),rel 4 (fun u lo hi w=>a8_ w lo hi u (List.replicate q.v.toNat 0)),rel 5 (fun u lo hi w=>RepO w lo hi u (smR p q [])),rel 6 (fun u lo hi w=>∃ g,u = .pointer (some ⟨g,0,none⟩)∧(lo≤g∧g<hi)∧Blk w g 29 #[.int .i64 0,.int .i64 0,.slice none 0 0,.slice none 0 0,.slice none 0 0,.slice none 0 0])] [[],[],[],[2],[2,3],[0,1,2,3,4],[],[0,1,2,3,4,5,6]] 7 (by kernel_rfl) ⟨trivial,trivial,trivial,trivial,a7_ (fun u lo hi w w' h hb=>h.below hb),a7_ (fun u lo hi w w' h hb=>h.below hb),a7_ (fun u lo hi w w' ⟨g,e,h1,h⟩ hb=>⟨g,e,h1,h.call hb⟩),trivial⟩ ⟨?_,?_,?_,?_,?_,?_,?_,trivial⟩ ?_;iterate 7 (intro x w hb hk Q' hQ;have he:=k_e hk;simp only[k_s]at he;simp only[netE]at hQ⊢;(try simp only[he]at hQ⊢);(try clear he);rotate_left)
 rotate_left
 ·clear hk;go_wp2;exact hQ _ _ br_ rfl
 ·clear hk;obtain⟨z0,z1,z2⟩:=c_3 (k1.call hb);go_wp2;exact hQ _ _ br_ rfl
 ·clear hk;go_wp2;exact hQ _ _ br_ rfl
 ·clear hk;have z0:=(k1.call hb).cell' (i:=0) rfl;go_wp2;exact hQ _ _ br_ rfl
 ·clear hk;have hm:=hmk w;go_wp2;exact hQ _ _ (a0_ _ _) (a8_.of_own (OwnI.made0 (l_ _) (by omega)))
 ·have h4:a8_ w (x.lo 4) (x.hi 4) (x.v 4) (List.replicate q.v.toNat 0):=(hk 4 (by decide)).1;have s4:=(hk 4 (by decide)).2;clear hk;have H4:=h_ h4.rd;rw[Z7_]at H4;obtain⟨A4,c4,e4⟩:=h4.form;rw[List.length_replicate]at e4;rw[e4]at H4 hQ⊢;go_wp2_with fail
  refine (N5_ p _ _ q (rowF q.v.toNat fun _=>0) _ hI (QvR.next hb HQV.out) H4.out (V0_ HQ.out)).mono ?_;rintro e w7 ⟨v7,rfl,ho,hb7⟩;rw[←c9q]at ho;go_wp2;exact hQ _ _ hb7 ho
 ·clear hk;go_wp2;exact hQ _ _ (a0_ _ _) ⟨_,rfl,⟨l_ _,by show w.heap.size<(w.alloc _).heap.size;simp⟩,Blk.new _ _ _⟩
 ·intro x w hb hk hiv hdj;have h4:a8_ w (x.lo 4) (x.hi 4) (x.v 4) (List.replicate q.v.toNat 0):=hk 4 (by decide);have h5:RepO w (x.lo 5) (x.hi 5) (x.v 5) (smR p q []):=hk 5 (by decide);have h6:∃ g,(x.v 6) = .pointer (some ⟨g,0,none⟩)∧((x.lo 6)≤g∧g<(x.hi 6))∧Blk w g 29 #[.int .i64 0,.int .i64 0,.slice none 0 0,.slice none 0 0,.slice none 0 0,.slice none 0 0]:=hk 6 (by decide);have he:=k_g hk [0,1,2,3];simp only[k_s]at he;simp only[netE,he];clear he hk;obtain⟨gO,e6,hgO,hBO⟩:=h6;have i5:=hiv 5 (by decide);have i6:=hiv 6 (by decide);have d56:=hdj 5 6 (by decide) (by decide) (by decide);obtain⟨A1,a1,C1,c1,E1,e1,H1,h1,e5⟩:=c9z h5;rw[e5]at h5⊢;rw[e6];have fr:=hBO.frozen;obtain⟨r0,r1,r2,r3,r4,r5⟩:=c_6 hBO;have hbs:=hb.size;have gOl:=hBO.lt;obtain⟨W3,hW3⟩:=e_ ((((((w.setCell ⟨gO,0,none⟩ (.int .i64 p)).setCell ⟨gO,1,none⟩ (.int .i64 q.v)).setCell ⟨gO,2,none⟩ (.slice A1 q.f.length a1)).setCell ⟨gO,3,none⟩ (.slice C1 q.t.length c1)).setCell ⟨gO,4,none⟩ (.slice E1 q.v.toNat e1)).setCell ⟨gO,5,none⟩ (.slice H1 q.f.length h1));have hB3:Blk W3 gO 29 #[.int .i64 p,.int .i64 q.v,.slice A1 q.f.length a1,.slice C1 q.t.length c1,.slice E1 q.v.toNat e1,.slice H1 q.f.length h1]:=by
   rw[←hW3];exact (((((hBO.set_ 0 _).set_ 1 _).set_ 2 _).set_ 3 _).set_ 4 _).set_ 5 _
  have hCh:Chg gO (gO+1) w W3:=by
   rw[←hW3];exact chg6 _ _ _ _ _ _ _ _
  have hs3:W3.heap.size=w.heap.size:=by rw[←hW3];simp
  have hR3:RepO W3 W.heap.size W3.heap.size (.agg #[.int .i64 p,.int .i64 q.v,.slice A1 q.f.length a1,.slice C1 q.t.length c1,.slice E1 q.v.toNat e1,.slice H1 q.f.length h1]) (smR p q (L.take 0)):=by
   rw[hs3,List.take_zero];exact (h5.chg hCh (by omega)).wider i5.1 i5.2.2
  have gW3:Below W.heap.size W W3:=hb.trans (hCh.below (by omega) (by omega));have sg3:gO<W3.heap.size:=by omega
  have hgO2:W.heap.size≤gO:=by omega
  clear hiv hdj h4 h5 e5 e6 i5 i6 d56 hBO hCh hs3 hb k1 hmk;go_wp2;clear hW3;go_loopw [19] (fun i wr=>∃ (k:Nat) (A1:Option Addr) (a1:Nat) (C1:Option Addr) (c1:Nat) (E1:Option Addr) (e1:Nat) (H1:Option Addr) (h1:Nat),k≤L.length∧i = .int .i64 k∧Below W.heap.size W wr∧gO<wr.heap.size ∧
   Blk wr gO 29 #[.int .i64 p,.int .i64 q.v,.slice A1 q.f.length a1,.slice C1 q.t.length c1,.slice E1 q.v.toNat e1,.slice H1 q.f.length h1] ∧
   RepO wr W.heap.size wr.heap.size (.agg #[.int .i64 p,.int .i64 q.v,.slice A1 q.f.length a1,.slice C1 q.t.length c1,.slice E1 q.v.toNat e1,.slice H1 q.f.length h1]) (smR p q (L.take k))∧smO q (L.take k)=true) (fun i _=>L.length-(intOf i).toNat)
  case atStart=>exact⟨0,A1,a1,C1,c1,E1,e1,H1,h1,l0_ _,rfl,gW3,sg3,hB3,hR3,V0_ HQ.out⟩
  case round =>
   clear gW3 sg3 hB3 hR3 r0 r1 r2 r3 r4 r5 fr;obtain⟨k,A1,a1,C1,c1,E1,e1,H1,h1,hk,rfl,gW,sg,hB,hR,hok⟩:=hrel;have gws:=gW.size;have HOK:=h_ hok;clear hok;by_cases hlt:k<L.length
   ·obtain⟨⟨xa,xb⟩,hx⟩:∃ x,L[k]?=some x:=⟨_,l2_ hlt⟩;have HX:=h_ hx;have hul:k<us.length:=by have:=HU.out;omega
    obtain⟨cu,hcu⟩:∃ cu,us[k]?=some cu:=⟨_,l2_ hul⟩;have hel:RepO W 0 W.heap.size (.agg cu.toArray) (ivR p q (xa,xb)):=HC.out.2 k cu _ hcu (by rw[List.getElem?_map,hx];rfl);obtain⟨gL,cL,eL,_,_,hgL,hcell⟩:=RpsO.at_ (w:=W) (lo:=lo) (hi:=hi) (us:=us) HV.out (fun u hu=>(HS6.out u hu).1) hcu;injection eL with eL1 _ eL2
    subst eL1 eL2;obtain⟨A2,a2,C2,c2,E2,e2,H2,h2,hcu6⟩:=hel.six;have q1:(ivR p q (xa,xb)).p=p:=rfl;have q2:(ivR p q (xa,xb)).q=q:=rfl;have q3:(ivR p q (xa,xb)).d.length=q.v.toNat:=a2_ _ _;have q4:(ivR p q (xa,xb)).m.length=q.f.length:=b2_ _ _;rw[q1,q2,q3,q4]at hcu6;clear q1 q2 q3 q4 hx hcu;subst hcu6;have u0:=a4_ gW hgL (hcell 0 _ rfl);have u1:=a4_ gW hgL (hcell 1 _ rfl);have u2:=a4_ gW hgL (hcell 2 _ rfl);have u3:=a4_ gW hgL (hcell 3 _ rfl);have u4:=a4_ gW hgL (hcell 4 _ rfl);have u5:=a4_ gW hgL (hcell 5 _ rfl);simp only[Nat.add_zero]at u0;have gwa:=a0_ wr (.cells #[.int .i64 p,.int .i64 q.v,.slice A2 q.f.length a2,.slice C2 q.t.length c2,.slice E2 q.v.toNat e2,.slice H2 q.f.length h2] 29);have kM:=Blk.new wr 29 #[.int .i64 p,.int .i64 q.v,.slice A2 q.f.length a2,.slice C2 q.t.length c2,.slice E2 q.v.toNat e2,.slice H2 q.f.length h2];obtain⟨W5,hW5⟩:=e_ (wr.alloc (.cells #[.int .i64 p,.int .i64 q.v,.slice A2 q.f.length a2,.slice C2 q.t.length c2,.slice E2 q.v.toNat e2,.slice H2 q.f.length h2] 29));have s5:W5.heap.size=wr.heap.size+1:=by rw[←hW5];simp
    rw[hW5]at gwa kM;have gW5:=gW.trans (gwa.mono gws);have kO5:=hB.call gwa;have HR5:=h_ ((hR.below gwa).rd);have HE5:=h_ ((hel.below gW5).rd);obtain⟨o0,o1,o2,o3,o4,o5⟩:=c_6 kO5;obtain⟨m0,m1,m2,m3,m4,m5⟩:=c_6 kM;clear hR hB hel hcell gwa gW kM;have KO5:=h_ kO5;have GW5:=h_ gW5;clear kO5 gW5;go_wp2_with fail
    clear hW5;refine (R7_ _ _ p q (smS q (L.take k)).1 (ivN xa xb) (smS q (L.take k)).2 (fun _ _ _=>1) _ HR5.out HE5.out HQ.out (i2z HOK.out) (fun v _=>g8x xa xb v)).mono ?_;rintro e w6 ⟨v6,rfl,ho,hb6⟩;have hsn:=b3q p q (L.take k) (xa,xb);rw[←c6_ HX.out]at hsn;simp only at hsn;rw[←hsn]at ho;clear hsn;obtain⟨A3,a3,C3,c3,E3,e3,H3,h3,rfl⟩:=c9z ho;have kO6:=KO5.out.call hb6;have fr:=kO6.frozen;obtain⟨o0,o1,o2,o3,o4,o5⟩:=c_6 kO6;have g6:=GW5.out.trans (hb6.mono GW5.out.size);have hb6s:=hb6.size;have g6s:=g6.size;obtain⟨W7,hW7⟩:=e_ ((((((w6.setCell ⟨gO,0,none⟩ (.int .i64 p)).setCell ⟨gO,1,none⟩ (.int .i64 q.v)).setCell ⟨gO,2,none⟩ (.slice A3 q.f.length a3)).setCell ⟨gO,3,none⟩ (.slice C3 q.t.length c3)).setCell ⟨gO,4,none⟩ (.slice E3 q.v.toNat e3)).setCell ⟨gO,5,none⟩ (.slice H3 q.f.length h3));have hB7:Blk W7 gO 29 #[.int .i64 p,.int .i64 q.v,.slice A3 q.f.length a3,.slice C3 q.t.length c3,.slice E3 q.v.toNat e3,.slice H3 q.f.length h3]:=by
     rw[←hW7];exact (((((kO6.set_ 0 _).set_ 1 _).set_ 2 _).set_ 3 _).set_ 4 _).set_ 5 _
    have hCh:Chg gO (gO+1) w6 W7:=by
     rw[←hW7];exact chg6 _ _ _ _ _ _ _ _
    have hs7:W7.heap.size=w6.heap.size:=by rw[←hW7];simp
    have hR7:RepO W7 W.heap.size W7.heap.size (.agg #[.int .i64 p,.int .i64 q.v,.slice A3 q.f.length a3,.slice C3 q.t.length c3,.slice E3 q.v.toNat e3,.slice H3 q.f.length h3]) (smR p q (L.take (k+1))):=by
     rw[hs7];exact (ho.chg hCh (.inr (by omega))).wider (by omega) (l_ _)
    have gW7:Below W.heap.size W W7:=g6.trans (hCh.below (by omega) (by omega));have sg7:gO<W7.heap.size:=by omega
    have HR7:=h_ hR7;have GW7:=h_ gW7;have HB7:=h_ hB7;obtain⟨t0,t1,t2,t3,t4,t5⟩:=c_6 hB7;clear hR7 gW7 hB7 hCh ho kO6 g6 hb6 m0 m1 m2 m3 m4 m5 u0 u1 u2 u3 u4 u5;go_wp2_with fail
    clear hW7 o0 o1 o2 o3 o4 o5 fr;have hir:=F0_ HP.out HQ.out (L.take (k+1));refine (j4_ _ (smR p q (L.take (k+1))) _ HR7.out.rd).mono ?_;rintro e w8 ⟨rfl,hb8⟩;rw[hir];clear hir t0 t1 t2 t3 t4 t5;have g8:=GW7.out.trans (hb8.mono GW7.out.size);have hb8s:=hb8.size;have HB8:=h_ (HB7.out.call hb8);have HR8:=h_ ((HR7.out.below hb8).wider (l_ _) hb8s);have GW8:=h_ g8;clear g8 hb8;rcases hk1:smO q (L.take (k+1)) with _ | _
    ·have HE:=h_ (g3X (p:=p) hk1);have kz:=K2.out.call GW8.out;have fr:=kz.frozen;obtain⟨s0,s1,s2,s3,s4,s5⟩:=c_6 kz;have sz:=SZ.out;have gf:=G0.out.trans (GW8.out.mono G0.out.size);clear hk1 kz;go_wp2;have hE:=HE.out;exact bodyPost_ret (v:=.tuple #[.agg #[.int .i64 0,.int .i64 0,.slice none 0 0,.slice none 0 0,.slice none 0 0,.slice none 0 0],.bool false]) (by simp[results,go_sem,s0,s1,s2,s3,s4,s5]) rfl ⟨_,by rw[hE],by rw[hE];exact RepO.zero _ _ _,(((((gf.setCell (by simp) _).setCell (by simp) _).setCell (by simp) _).setCell (by simp) _).setCell (by simp) _).setCell (by simp) _⟩
    ·have HK1:=h_ hk1;clear hk1;go_wp2;go_roundw
     case rel=>exact⟨k+1,A3,a3,C3,c3,E3,e3,H3,h3,by omega,by go_num,GW8.out,by omega,HB8.out,HR8.out,HK1.out⟩
     case measure=>simp[intOf];omega
   ·obtain rfl:k=L.length:=by omega
    rw[List.take_length]at hR;have hE:smP p q L=(smR p q L,true):=by have:=HOK.out;rw[List.take_length]at this;simp[smP,this]
    have HE:=h_ hE;have kz:=K2.out.call gW;have fr:=kz.frozen;obtain⟨s0,s1,s2,s3,s4,s5⟩:=c_6 kz;obtain⟨r0,r1,r2,r3,r4,r5⟩:=c_6 hB;have sz:=SZ.out;have gf:=G0.out.trans (gW.mono G0.out.size);have hc:=chg6 wr (w0.heap.size+1) (.int .i64 p) (.int .i64 q.v) (.slice A1 q.f.length a1) (.slice C1 q.t.length c1) (.slice E1 q.v.toNat e1) (.slice H1 q.f.length h1);have OF:=h_ ((hR.chg hc (.inr (by omega))).wider (lo':=w0.heap.size) (hi':=wr.heap.size) (by omega) (l_ _));have GF:=h_ (gf.trans (hc.below (by omega) gf.size));clear hR hB kz gf hc hE;go_wp2;have hE:=HE.out;exact bodyPost_ret (v:=.tuple #[.agg #[.int .i64 p,.int .i64 q.v,.slice A1 q.f.length a1,.slice C1 q.t.length c1,.slice E1 q.v.toNat e1,.slice H1 q.f.length h1],.bool true]) (by simp[results,go_sem,s0,s1,s2,s3,s4,s5]) rfl ⟨_,by rw[hE],by rw[hE];have:=OF.out.wider (l_ _) (l_ _);simpa using this,GF.out⟩
end Go.Proofs.YtbgccbmdiolhbaaGreat
namespace Go.Proofs
open Go.Shelf
def Tryz.laysMul_ren:Go.Shelf.Ren:=⟨fun | 212=>125 | 263=>148 | 264=>149 | n=>n,fun | 46=>134 | 51=>154 | 146=>155 | 53=>157 | 148=>158 | n=>n,fun | n=>n⟩
theorem Tryz.laysMul:Go.Proofs.Lays.n212 Tryz.prog Tryz.laysMul_ren:={
 mixed:=by kernel_rfl
 f212:=Tryz.func125.trans (congrArg some (by kernel_rfl))
 f263:=Tryz.func148.trans (congrArg some (by kernel_rfl))
 f264:=Tryz.func149.trans (congrArg some (by kernel_rfl))
 t46:=Tryz.underlying134
 a46:=Tryz.isAgg134
 z46:=Tryz.sizeOf134
 v46:=Tryz.zeroValue134
 t51:=Tryz.underlying154
 a51:=Tryz.isAgg154
 z51:=Tryz.sizeOf154
 v51:=Tryz.zeroValue154
 t53:=Tryz.underlying157
 a53:=Tryz.isAgg157
 z53:=Tryz.sizeOf157
 v53:=Tryz.zeroValue157
 t146:=Tryz.underlying155
 a146:=Tryz.isAgg155
 z146:=Tryz.sizeOf155
 v146:=Tryz.zeroValue155
 t148:=Tryz.underlying158
 a148:=Tryz.isAgg158
 z148:=Tryz.sizeOf158
 v148:=Tryz.zeroValue158 }
end Go.Proofs
namespace Go.Proofs.YtbgccbmdiolhbaaGreat
open Go.RowKit
theorem W8_ (N:Nat) (hN:N≤10) (w:World) :
  Calls Tryz.prog 125 #[.int .u64 1,.int .u64 N] w fun e w'=>e = .returned (.tuple #[.int .u64 0,.int .u64 N])∧w'=w:=by
 have h:=Any.bits_Mul Tryz.laysMul 1 N (by omega) (by omega) w;rw[Nat.one_mul,Nat.div_eq_of_lt (by omega),Nat.mod_eq_of_lt (by omega)]at h;exact h
theorem M9_ {w:World} {g:Nat} {t:TypeId} {cs cs':Array Value} (h:Blk w g t cs):Blk (w.setRow g cs') g t cs':=setRow_heap w g cs cs' t (0,0) h
theorem C4_ (w:World) (g:Nat) (cs:Array Value):w.grownBy (w.setRow g cs) (some g):=⟨rfl,rfl,rfl,by simp,fun k _ hk=>setRow_other w g k cs (fun e=>hk (by rw[e]))⟩
theorem C2_ {P:Program} (w:World) (dT sT ty elem:TypeId) (sz g o dLen dCap:Nat) (a:Addr) (sLen sCap:Nat) (cur:Array Value) (t:TypeId) (cs:List Value)
  (hu:P.underlying dT=some (.slice elem)) (hs:(P.info? elem).map (·.size)=some sz)
  (hg:w.heap[g]?=some (.cells cur t (0,0))) (hn:cs.length=Nat.min sLen dLen*sz)
  (hsrc:∀ j v,cs[j]?=some v→w.cell? (a.add j)=some v) (hfit:o+cs.length≤cur.size) (h1:∀ v∈cs,v.oneCell'=true) :
  (Builtin.copy_ #[dT,sT] ty #[.slice (some ⟨g,o,none⟩) dLen dCap,.slice (some a) sLen sCap]).run P w =
   .ok (goInt (Nat.min sLen dLen)) (w.setRow g (cur.toList.take o ++ cs ++ cur.toList.drop (o+cs.length)).toArray):=by
 have hl:=run_loadCells_list (P:=P) w a cs hsrc;have hst:=run_storeCells_at P g o t cs 0 cur w hg (by simpa using hfit) h1;cases hq:P.info? elem with
 | none=>simp[hq]at hs
 | some i =>
  have hi:i.size=sz:=by simpa [hq] using hs
  simp[Builtin.copy_,run_underlying hu,Builtin.lenOf,Builtin.firstCells,sizeOf,typeInfo,hq,hi,←hn,hl,hst]
def zRpC:List Value:=[.int .i64 0,.int .i64 0,.slice none 0 0,.slice none 0 0,.slice none 0 0,.slice none 0 0]
def rpK (cs:List Value) (N j:Nat):Array Value:=((List.replicate j cs).flatten ++ (List.replicate (N-j) zRpC).flatten).toArray
theorem f7_ {cs:List Value} (h:cs.length=6) (j:Nat):(List.replicate j cs).flatten.length=j*6:=by
 have:=F9_ (us:=List.replicate j cs) fun u hu=>by obtain⟨_,rfl⟩:=List.mem_replicate.1 hu;exact h
 rwa[List.length_replicate]at this
theorem d9Q:∀ k:Nat,k<6→zRpC[k]?=some ((#[Value.int .i64 0,.int .i64 0,.slice none 0 0,.slice none 0 0,.slice none 0 0,.slice none 0 0]:Array Value)[k]!)
 | 0,_=>rfl
 | 1,_=>rfl
 | 2,_=>rfl
 | 3,_=>rfl
 | 4,_=>rfl
 | 5,_=>rfl
 | k+6,h=>by omega
theorem i6q (cs:List Value) {N:Nat} (_:N≤8):rpK cs N 0=f4_ (.agg #[.int .i64 0,.int .i64 0,.slice none 0 0,.slice none 0 0,.slice none 0 0,.slice none 0 0]) (N*6):=by
 apply Array.toList_inj.1
 have hl:(f4_ (.agg #[.int .i64 0,.int .i64 0,.slice none 0 0,.slice none 0 0,.slice none 0 0,.slice none 0 0]) (N*6)).toList.length=N*6:=by rw[Array.length_toList,v9_]
 have hz:=f7_ (cs:=zRpC) rfl N;apply List.ext_getElem?
 intro i;simp only[rpK,List.replicate_zero,List.flatten_nil,List.nil_append,Nat.sub_zero];by_cases hi:i<N*6
 ·have e:i=i / 6*6+i % 6:=by omega
  have h1:=K5_ (us:=List.replicate N zRpC) (j:=i / 6) (i:=i % 6) (u:=zRpC) (fun u hu=>by obtain⟨_,rfl⟩:=List.mem_replicate.1 hu;rfl) (by rw[List.getElem?_replicate,if_pos (by omega)]) (by omega);rw[←e]at h1;rw[h1,d9Q _ (by omega)];simp only[f4_,madeCells,Value.cells,Array.toList_map,Array.toList_range,List.getElem?_map,List.getElem?_range hi,Option.map_some];rfl
 ·rw[l6_ (by omega),l6_ (by omega)]
theorem b2z {cs:List Value} (h:cs.length=6) {N j:Nat} (hj:j≤N):(rpK cs N j).size=N*6:=by
 simp only[rpK,List.size_toArray,List.length_append];rw[f7_ h,f7_ rfl];omega
theorem U2_ (cs:List Value) (j k:Nat):(List.replicate j cs).flatten ++ (List.replicate k cs).flatten=(List.replicate (j+k) cs).flatten:=by
 rw[←List.flatten_append,List.replicate_append_replicate]
theorem b2q {cs:List Value} (h:cs.length=6) {N j k:Nat} (hj:j+k≤N):((rpK cs N j).toList.take (j*6) ++ (List.replicate k cs).flatten ++ (rpK cs N j).toList.drop (j*6+k*6)).toArray=rpK cs N (j+k):=by
 apply Array.toList_inj.1
 simp only[rpK];rw[List.take_left' (f7_ h j),←List.drop_drop,List.drop_left' (f7_ h j),U2_,show N-j=k+(N-(j+k)) by omega,←U2_ zRpC,List.drop_left' (f7_ rfl k)]
theorem b2j {cs:List Value} (h:cs.length=6) {N j i:Nat} (hi:i<j*6):(rpK cs N j)[i]?=(List.replicate j cs).flatten[i]?:=by
 simp only[rpK,List.getElem?_toArray];rw[List.getElem?_append_left (by rw[f7_ h];exact hi)]
theorem d7x {cs:List Value} (h:cs.length=6) {j k i:Nat} (hk:k≤j) (hi:i<k*6):(List.replicate j cs).flatten[i]?=(List.replicate k cs).flatten[i]?:=by
 rw[show j=k+(j-k) by omega,←U2_,List.getElem?_append_left (by rw[f7_ h];exact hi)]
theorem d7z {cs:List Value} (h1:∀ v∈cs,v.oneCell'=true) (k:Nat):∀ v∈(List.replicate k cs).flatten,v.oneCell'=true:=fun v hv=>by
 obtain⟨u,hu,hv⟩:=List.mem_flatten.1 hv;rw[(List.mem_replicate.1 hu).2]at hv;exact h1 v hv
theorem a4x (b o c:Nat) (cs:List Value) (N:Nat) (w:World) (hb:b<w.heap.size) (hx:∀ i y,cs[i]?=some y→w.cell? ⟨b,o+i,none⟩=some y) (h6:cs.length=6) (h1:∀ y∈cs,y.oneCell'=true) (hc:1≤c) (hp:1≤N) (hN:N≤8) :
  Calls Tryz.prog 92 #[.slice (some ⟨b,o,none⟩) 1 c,.int .i64 N] w fun e w'=>∃ g,e = .returned (.slice (some ⟨g,0,none⟩) N N)∧Blk w' g 29 (rpK cs N N)∧w.heap.size≤g∧Below w.heap.size w w':=by
 obtain⟨i0,hi,hz0,hz1,hz2⟩:=info_parts f1z;have hsz:(Tryz.prog.info? 29).map (·.size)=some 6:=by rw[hi];simp[hz1]
 have hmk:=C3_ (P:=Tryz.prog) Tryz.underlying106 hi hz0 (n:=N) (by rw[hz2];omega) (by omega);rw[hz1,←i6q cs hN]at hmk;clear hi hz0 hz1 hz2;have hB0:Blk (w.alloc (.cells (rpK cs N 0) 29)) w.heap.size 29 (rpK cs N 0):=Blk.new _ _ _;have hw0:=a0_ w (.cells (rpK cs N 0) 29);obtain⟨W0,hW0⟩:=e_ (w.alloc (.cells (rpK cs N 0) 29));have hx0:∀ i y,cs[i]?=some y→W0.cell? ⟨b,o+i,none⟩=some y:=fun i y hy=>by rw[←hW0];exact a4_ hw0 hb (hx i y hy)
 rw[hW0]at hB0 hw0;have hcp:=C2_ (P:=Tryz.prog) W0 106 106 3 29 6 w.heap.size 0 N N ⟨b,o,none⟩ 1 c (rpK cs N 0) 29 cs Tryz.underlying106 hsz hB0 (by rw[h6,show Nat.min 1 N=1 from Nat.min_eq_left hp])
  (fun j v hj=>by
   have e:(⟨b,o,none⟩:Addr).add j=⟨b,o+j,none⟩:=by unfold Addr.add;split <;> simp_all
   rw[e];exact hx0 j v hj) (by rw[b2z h6 (l0_ _)];omega) h1
 have e1:=b2q h6 (N:=N) (j:=0) (k:=1) (by omega);simp only[List.replicate_succ,List.replicate_zero,List.flatten_cons,List.flatten_nil,List.append_nil,Nat.zero_add,Nat.one_mul,Nat.zero_mul]at e1;rw[h6,Nat.zero_add,e1,show Nat.min 1 N=1 from Nat.min_eq_left hp]at hcp;have hB1:Blk (W0.setRow w.heap.size (rpK cs N 1)) w.heap.size 29 (rpK cs N 1):=M9_ hB0;have hw1:Below w.heap.size w (W0.setRow w.heap.size (rpK cs N 1)):=hw0.grown (row:=some w.heap.size) (C4_ _ _ _) hw0.size (fun k e=>by injection e with e;omega);obtain⟨W1,hW1⟩:=e_ (W0.setRow w.heap.size (rpK cs N 1));rw[hW1]at hcp hB1 hw1;simp only[goInt,show ((1:Nat):Int)=1 from rfl]at hcp;clear hW1 e1 hx0 hB0 hx;have hcpa:∀ (wq:World) (j:Nat),1≤j→j<N→Blk wq w.heap.size 29 (rpK cs N j)→(Builtin.copy_ #[106,106] 3 #[.slice (some ⟨w.heap.size,j*6,none⟩) (N-j) (N-j),.slice (some ⟨w.heap.size,0,none⟩) j N]).run Tryz.prog wq = .ok (.int .i64 (min j (N-j):Nat)) (wq.setRow w.heap.size (rpK cs N (j+min j (N-j)))):=by
  intro wq j hj hjN hb;have h:=C2_ (P:=Tryz.prog) wq 106 106 3 29 6 w.heap.size (j*6) (N-j) (N-j) ⟨w.heap.size,0,none⟩ j N (rpK cs N j) 29 (List.replicate (min j (N-j)) cs).flatten Tryz.underlying106 hsz hb (f7_ h6 _)
   (fun i v hi=>by
    have hil:=a6_ hi;rw[f7_ h6]at hil;have hij:i<j*6:=by omega
    have e:(⟨w.heap.size,0,none⟩:Addr).add i=⟨w.heap.size,i,none⟩:=by unfold Addr.add;split <;> simp_all
    rw[e,hb.cell,b2j h6 hij,d7x h6 (k:=min j (N-j)) (by omega) hil];exact hi) (by rw[b2z h6 (by omega),f7_ h6];omega) (d7z h1 _)
  rw[f7_ h6,b2q h6 (by omega)]at h;exact h
 go_enter Tryz.func92,Tryz.ntmps92
 go_wp2_with fail
 refine (W8_ N (by omega) _).mono ?_;rintro e w1 ⟨rfl,rfl⟩;go_wp2;go_loopw [8] (fun v wr=>∃ j:Nat,1≤j∧j≤N∧v = .int .i64 j∧Blk wr w1.heap.size 29 (rpK cs N j)∧Below w1.heap.size w1 wr) (fun v _=>N-(intOf v).toNat)
 case atStart=>exact⟨1,by omega,by omega,rfl,hB1,hw1⟩
 case round =>
  obtain⟨j,hj1,hjN,rfl,hbj,hbel⟩:=hrel;by_cases hlt:j<N
  ·have hcj:=hcpa wr j hj1 hlt hbj;have hcj2:=hcpa wr.drew j hj1 hlt hbj;have hmo:Tryz.prog.follows .mixedOrders=true:=by kernel_rfl
   go_wp2_with fail
   go_region_o
   go_wp2;go_roundw
   case rel=>exact⟨j+min j (N-j),by omega,by omega,by rw[Int.natCast_add],M9_ (w:=wr.drew) hbj,(hbel.drew).grown (row:=some w1.heap.size) (C4_ _ _ _) hbel.size (fun k e=>by injection e with e;omega)⟩
   case measure=>simp only[intOf];omega
  ·obtain rfl:j=N:=by omega
   clear hcp hmk;go_wp2;go_ret
   exact⟨_,rfl,hbj,l_ _,hbel⟩
theorem g8Q {p:Int} {q:Qv} (hq:isQ q=true) (a b:Nat):r0_ p q a b=ivR p q (a,b):=g4Z hq a b
theorem f9X {w:World} {lo hi:Nat} {v:Value} {p:Int} {q:Qv} {x:Nat×Nat} (h:RepO w lo hi v (ivR p q x)):∃ A a C c E e H k,v = .agg #[.int .i64 p,.int .i64 q.v,.slice A q.f.length a,.slice C q.t.length c,.slice E q.v.toNat e,.slice H q.f.length k]:=by
 obtain⟨A,a,C,c,E,e,H,k,rfl⟩:=h.form;have q1:(ivR p q x).p=p:=rfl;have q2:(ivR p q x).q=q:=rfl;have q3:(ivR p q x).d.length=q.v.toNat:=a2_ _ _;have q4:(ivR p q x).m.length=q.f.length:=b2_ _ _;rw[q1,q2,q3,q4];exact⟨A,a,C,c,E,e,H,k,rfl⟩
theorem f4Q {p:Int} {q:Qv} {x y:Int} (h1:c8_ p=true) (h2:isZ q=true) (hx:0≤x∧x≤q.v-1) (hy:x≤y∧y≤q.v-1):ziP (isZ q) p q x y=(ivR p q (x.toNat,y.toNat),true):=by
 rw[V5_ (by simp only[ziOk,h1,h2,j1_.2 hx,j1_.2 hy];rfl),g8Q (u9_ h2).1]
theorem d7Z {w:World} {g N:Nat} {cs:List Value} (h:Blk w g 29 (rpK cs N N)) (h6:cs.length=6):r2_ w (some ⟨g,0,none⟩) N (List.replicate N cs).flatten 6 :=
 ⟨f7_ h6 N,.inr ⟨g,0,rfl,fun j u hu=>by
  have hj:=a6_ hu;rw[f7_ h6]at hj;rw[Nat.zero_add,h.cell,b2j h6 hj];exact hu⟩⟩
theorem I5_ (p:Int) (u:Value) (q:Qv) (v:Value) (l:List Bar) (w0:World) (hu:QvR w0 w0.heap.size u q) (hv:SlB w0 w0.heap.size v l) (hno:rzOk p q l=false) :
  Calls Tryz.prog 44 #[.int .i64 p,u,v] w0 fun e w'=>∃ r,e = .returned (.tuple #[r,.bool (rzP p q l).2])∧RepO w' w0.heap.size w'.heap.size r (rzP p q l).1∧Below w0.heap.size w0 w':=by
 have HE:=h_ (f3x hno);have hu':=hu;obtain⟨A,c,C,c',rfl,_,_,hr,lf,lt⟩:=hu.open_;obtain⟨BA,bc,rfl,_,_,_,hbx⟩:=hv.open_;clear hu hv;obtain⟨W,hW,g0,k1,k2⟩:=b_4 w0 #[.int .i64 q.v,.slice A q.f.length c,.slice C q.t.length c'] 26 #[.int .i64 0,.int .i64 0,.slice none 0 0,.slice none 0 0,.slice none 0 0,.slice none 0 0] 29;have sz:W.heap.size=w0.heap.size+1+1:=by rw[hW];simp
 have SZ:=h_ sz;have HQV:=h_ (QvR.next g0 hu');have HBX:=h_ (SlB.next g0 hbx);clear sz hu' hbx;rcases h1:c8_ p with _ | _
 ·have H1:=h_ h1;clear h1 hno;have c0:=k1.cell' (i:=0) rfl;go_enter Tryz.func44,Tryz.ntmps44
  go_wp2_with fail
  rw[←hW];clear hW;refine (o3_ q.v _ hr).mono ?_;rintro e w1 ⟨v1,rfl,hL,hb1⟩;obtain⟨A1,a1,C1,c1,rfl⟩:=hL.form;obtain⟨W2,hW2,ga,kL⟩:=b_1 w1 #[.int .i64 (m4_ q.v).v,.slice A1 (m4_ q.v).f.length a1,.slice C1 (m4_ q.v).t.length c1] 26;have gW2:Below W.heap.size W W2:=hb1.trans (ga.mono hb1.size);have HL:=h_ ((hL.below ga).rd);have k1':=k1.call gW2;have c0:=k1'.cell' (i:=0) rfl;have c1':=k1'.cell' (i:=1) rfl;have c2':=k1'.cell' (i:=2) rfl;have GW2:=h_ gW2;clear hL ga hb1 gW2;go_wp2_with fail
  clear hW2;refine (b5_ _ _).mono ?_;rintro e w3 ⟨rfl,hww⟩;replace hww:=hww.symm;subst hww;rw[H1.out];have kz:=k2.call GW2.out;have fr:=kz.frozen;obtain⟨s0,s1,s2,s3,s4,s5⟩:=c_6 kz;have gf:=g0.trans (GW2.out.mono g0.size);have GF:=h_ gf;clear kz gf g0 k1 k2;go_wp2;have gf:=GF.out;have hE:=HE.out;exact bodyPost_ret (v:=.tuple #[.agg #[.int .i64 0,.int .i64 0,.slice none 0 0,.slice none 0 0,.slice none 0 0,.slice none 0 0],.bool false]) (by simp[results,go_sem,s0,s1,s2,s3,s4,s5]) rfl ⟨_,by rw[hE],by rw[hE];exact RepO.zero _ _ _,(((((gf.setCell (by simp) _).setCell (by simp) _).setCell (by simp) _).setCell (by simp) _).setCell (by simp) _).setCell (by simp) _⟩
 rcases h2:isZ q with _ | _
 ·have H1:=h_ h1;have H2:=h_ h2;clear h1 h2 hno;have c0:=k1.cell' (i:=0) rfl;go_enter Tryz.func44,Tryz.ntmps44
  go_wp2_with fail
  rw[←hW];clear hW;refine (o3_ q.v _ hr).mono ?_;rintro e w1 ⟨v1,rfl,hL,hb1⟩;obtain⟨A1,a1,C1,c1,rfl⟩:=hL.form;obtain⟨W2,hW2,ga,kL⟩:=b_1 w1 #[.int .i64 (m4_ q.v).v,.slice A1 (m4_ q.v).f.length a1,.slice C1 (m4_ q.v).t.length c1] 26;have gW2:Below W.heap.size W W2:=hb1.trans (ga.mono hb1.size);have HL:=h_ ((hL.below ga).rd);have k1':=k1.call gW2;have c0:=k1'.cell' (i:=0) rfl;have c1':=k1'.cell' (i:=1) rfl;have c2':=k1'.cell' (i:=2) rfl;have GW2:=h_ gW2;clear hL ga hb1 gW2;go_wp2_with fail
  clear hW2;refine (b5_ _ _).mono ?_;rintro e w3 ⟨rfl,hww⟩;replace hww:=hww.symm;subst hww;rw[H1.out];go_wp2_with fail
  refine (f2_ _ q _ (QvR.next GW2.out HQV.out)).mono ?_;rintro e w3 ⟨rfl,hb3⟩;rw[H2.out];have kL3:=kL.call hb3;obtain⟨l0,l1,l2⟩:=c_3 kL3;have gW3:=GW2.out.trans (hb3.mono GW2.out.size);have HL3:=h_ (QvR.next hb3 HL.out);have GW3:=h_ gW3;clear kL3 hb3 gW3 kL k1';have kz:=k2.call GW3.out;have fr:=kz.frozen;obtain⟨s0,s1,s2,s3,s4,s5⟩:=c_6 kz;have gf:=g0.trans (GW3.out.mono g0.size);have GF:=h_ gf;clear kz gf g0 k1 k2;go_wp2;have gf:=GF.out;have hE:=HE.out;exact bodyPost_ret (v:=.tuple #[.agg #[.int .i64 0,.int .i64 0,.slice none 0 0,.slice none 0 0,.slice none 0 0,.slice none 0 0],.bool false]) (by simp[results,go_sem,s0,s1,s2,s3,s4,s5]) rfl ⟨_,by rw[hE],by rw[hE];exact RepO.zero _ _ _,(((((gf.setCell (by simp) _).setCell (by simp) _).setCell (by simp) _).setCell (by simp) _).setCell (by simp) _).setCell (by simp) _⟩
 rcases h3:areB (m4_ q.v) l with _ | _
 ·have H1:=h_ h1;have H2:=h_ h2;have H3:=h_ h3;clear h1 h2 h3 hno;have c0:=k1.cell' (i:=0) rfl;go_enter Tryz.func44,Tryz.ntmps44
  go_wp2_with fail
  rw[←hW];clear hW;refine (o3_ q.v _ hr).mono ?_;rintro e w1 ⟨v1,rfl,hL,hb1⟩;obtain⟨A1,a1,C1,c1,rfl⟩:=hL.form;obtain⟨W2,hW2,ga,kL⟩:=b_1 w1 #[.int .i64 (m4_ q.v).v,.slice A1 (m4_ q.v).f.length a1,.slice C1 (m4_ q.v).t.length c1] 26;have gW2:Below W.heap.size W W2:=hb1.trans (ga.mono hb1.size);have HL:=h_ ((hL.below ga).rd);have k1':=k1.call gW2;have c0:=k1'.cell' (i:=0) rfl;have c1':=k1'.cell' (i:=1) rfl;have c2':=k1'.cell' (i:=2) rfl;have GW2:=h_ gW2;clear hL ga hb1 gW2;go_wp2_with fail
  clear hW2;refine (b5_ _ _).mono ?_;rintro e w3 ⟨rfl,hww⟩;replace hww:=hww.symm;subst hww;rw[H1.out];go_wp2_with fail
  refine (f2_ _ q _ (QvR.next GW2.out HQV.out)).mono ?_;rintro e w3 ⟨rfl,hb3⟩;rw[H2.out];have kL3:=kL.call hb3;obtain⟨l0,l1,l2⟩:=c_3 kL3;have gW3:=GW2.out.trans (hb3.mono GW2.out.size);have HL3:=h_ (QvR.next hb3 HL.out);have GW3:=h_ gW3;clear kL3 hb3 gW3 kL k1';go_wp2_with fail
  refine (q4_ _ _ _ l _ HL3.out (SlB.next GW3.out HBX.out)).mono ?_;rintro e w4 ⟨rfl,hb4⟩;rw[H3.out];have gW4:=GW3.out.trans (hb4.mono GW3.out.size);have GW4:=h_ gW4;clear hb4 gW4;have kz:=k2.call GW4.out;have fr:=kz.frozen;obtain⟨s0,s1,s2,s3,s4,s5⟩:=c_6 kz;have gf:=g0.trans (GW4.out.mono g0.size);have GF:=h_ gf;clear kz gf g0 k1 k2;go_wp2;have gf:=GF.out;have hE:=HE.out;exact bodyPost_ret (v:=.tuple #[.agg #[.int .i64 0,.int .i64 0,.slice none 0 0,.slice none 0 0,.slice none 0 0,.slice none 0 0],.bool false]) (by simp[results,go_sem,s0,s1,s2,s3,s4,s5]) rfl ⟨_,by rw[hE],by rw[hE];exact RepO.zero _ _ _,(((((gf.setCell (by simp) _).setCell (by simp) _).setCell (by simp) _).setCell (by simp) _).setCell (by simp) _).setCell (by simp) _⟩
 rw[rzOk,h1,h2,h3]at hno;exact absurd hno (by decide)
end Go.Proofs.YtbgccbmdiolhbaaGreat

