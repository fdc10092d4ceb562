/- FnFunctors: the law holds for every argument. Part 11 of 14 of the proof: Red2, L16, InOut4, InOut5, Rank, RsI, LeaI, LeaJ, RstI, DsP, L3B, Blks, DsI, DsQ, DsS, PrjC, SpI. No condition. -/
import Derived.Test.YtnohdlkailpnoaaGreatBFunctors10
set_option linter.unusedVariables false
set_option linter.unusedSimpArgs false
set_option maxHeartbeats 12800000
set_option maxRecDepth 100000
namespace Go.Proofs.YtnohdlkailpnoaaGreat
open Go.RowKit
def RT (bm B:Nat) (w1:World) (A:Option Addr) (r c L cap:Nat) (w:World) (f:Nat→Nat→Int) (pv:Value) (ps:List Int):Prop :=
 RS B w1 A r c L cap w f pv ps∧Blk w bm 41 #[.int .i64 r,.int .i64 c,.slice A L cap]
section
variable {bm B:Nat} {w1 w w':World} {A:Option Addr} {r c L cap:Nat} {f:Nat→Nat→Int} {pv:Value} {ps:List Int}
theorem RT.call (h:RT bm B w1 A r c L cap w f pv ps) (hB:B≤w1.heap.size) (hb:Below w.heap.size w w'):RT bm B w1 A r c L cap w' f pv ps:=⟨h.1.call hB hb,h.2.call hb⟩
theorem RT.congr {f2:Nat→Nat→Int} (h:RT bm B w1 A r c L cap w f pv ps) (e:flat r c f=flat r c f2):RT bm B w1 A r c L cap w f2 pv ps:=⟨h.1.congr e,h.2⟩
theorem RT.put {g J:Nat} {x:Int} {f2:Nat→Nat→Int} (h:RT bm B w1 (some ⟨g,0,none⟩) r c L cap w f pv ps) (hg:B≤g) (hs:B≤w.heap.size) (hx:I64 x) (e:(flat r c f).set J x=flat r c f2) :
  RT bm B w1 (some ⟨g,0,none⟩) r c L cap (w.setCell ⟨g,J,none⟩ (.int .i64 x)) f2 pv ps:=by
 refine⟨h.1.put hg hs hx e,h.2.far ?_ _⟩;have:=h.1.own.blkne h.2 (by decide);intro e2;exact this (by simp[Value.ownBlock,e2])
theorem RT.app {pv':Value} {ps':List Int} (h:RT bm B w1 A r c L cap w f pv ps) (hs:B≤w.heap.size) (ho:OwnI w' B pv' ps') (hg:w.grownBy w' pv.ownBlock) (hv:pv'.ownBlock=pv.ownBlock∨pv'.ownBlock=some w.heap.size) :
  RT bm B w1 A r c L cap w' f pv' ps':=⟨h.1.app hs ho hg hv,h.2.grown hg (h.1.ownP.1.blkne h.2 (by decide))⟩
end
theorem ixP {i k r c P:Nat} (hi:i<r) (hk:k<c) (hr:r≤1000) (hc:c≤1000) (hP:P=i*c):wrap64 ((i:Int)*(c:Int))=(P:Int):=by
 obtain⟨P',J,h1,_⟩:=v8_ hi hk hr hc;have:=(Q6_ hi hr hc h1).1;rw[h1,this,hP]
theorem a1X {f:Nat→Nat→Int} {k m r:Nat} (h:m<r):nzF f k m r=if f m k=0 then nzF f k (m+1) r else m:=by
 unfold nzF;rw[show r-m=(r-(m+1))+1 by omega,nzGo]
theorem c8J (f:Nat→Nat→Int) (k r:Nat):nzF f k r r=r:=by unfold nzF;rw[Nat.sub_self,nzGo]
def atI (f:Nat→Nat→Int) (k m r:Nat):Int:=if nzF f k m r=r then -1 else (nzF f k m r:Int)
theorem c7J (f:Nat→Nat→Int) (k r:Nat):atI f k r r = -1:=by rw[atI,if_pos (c8J f k r)]
theorem c1J {f:Nat→Nat→Int} {k m r:Nat} (h:m<r) (h0:f m k=0):atI f k m r=atI f k (m+1) r:=by rw[atI,atI,a1X h,if_pos h0]
theorem f1j {f:Nat→Nat→Int} {k m r:Nat} (h:m<r) (h0:f m k≠0):atI f k m r=m:=by rw[atI,a1X h,if_neg h0,if_neg (by omega)]
theorem p2_ (p:Int) (u:Value) (r c:Nat) (f:Nat→Nat→Int) (w0:World) (hp:f2_ p=true) (hr:r≤1000) (hc:c≤1000) (hu:MxR w0 w0.heap.size u (mxF r c f)) (hf:InF p r c f) :
  Calls Tryz.prog 40 #[.int .i64 p,u] w0 fun e w'=>∃ m v,e = .returned (.tuple #[m,v])∧MxO w' w0.heap.size w'.heap.size m (mxF r c (rdTo p r f c).1)∧a9_ w' w0.heap.size w'.heap.size v (rdTo p r f c).2∧Below w0.heap.size w0 w':=by
 have hpr:=f4_ hp;have hu':=hu;obtain⟨UA,uc,rfl⟩:=hu.form;simp only[mxF]at hu hu'⊢;rw[a0_]at hu hu'⊢;obtain⟨UL,hUL⟩:=e_ (r*c);rw[hUL]at hu hu'⊢;have HUL:=h_ hUL;clear hUL hu;obtain⟨W,hW,g0,kB,kR⟩:=b_4 w0 #[.int .i64 r,.int .i64 c,.slice UA UL uc] 41 #[.int .i64 0,.int .i64 0,.slice none 0 0] 41;have sz:W.heap.size=w0.heap.size+1+1:=by rw[hW];simp
 have SZ:=h_ sz;have HU:=h_ (MxR.next g0 hu');have HF:=h_ hf;have HP:=h_ hp;obtain⟨c0,c1,c2⟩:=c_3 kB;clear hu' sz hf hp;go_enter Tryz.func40,Tryz.ntmps40
 go_wp2_with fail
 rw[←hW];clear hW;refine (D3_ _ _ _ HU.out).mono ?_;rintro e w1 ⟨v1,rfl,hM,hb1⟩;obtain⟨A,cap,ev⟩:=hM.form;subst ev;simp only[a0_]at hM⊢;obtain⟨L,hL⟩:=e_ (r*c);rw[hL]at hM⊢;have HL:=h_ hL;clear hL;have kR1:=kR.call hb1;have g1:=a6_ g0 hb1;clear c0 c1 c2;have s1:=hb1.size;have sz:=SZ.out;obtain⟨w2,hw2⟩:∃ w2,w2=(w1.alloc (.cells #[.int .i64 r,.int .i64 c,.slice A L cap] 41)).alloc (.cells #[] 3):=⟨_,rfl⟩;have b2:Below w1.heap.size w1 w2:=by rw[hw2];exact ((Below.refl _ _).alloc (l_ _) _).alloc (by simp) _
 have kA2:Blk w2 w1.heap.size 41 #[.int .i64 r,.int .i64 c,.slice A L cap]:=by rw[hw2];exact (Blk.new _ _ _).alloc _
 have kR2:=kR1.call b2;have g2:=a6_ g1 b2;have s2:w2.heap.size=w1.heap.size+1+1:=by rw[hw2];simp
 obtain⟨sA,esA,hIA,_,_⟩:=hM;simp only[Value.agg.injEq,Array.mk.injEq,List.cons.injEq,and_true,true_and]at esA;subst esA;have hI2:=hIA.below b2;have hPv:a9_ w2 w1.heap.size w2.heap.size (.slice (some ⟨w1.heap.size+1,0,none⟩) 0 0) []:=by
  have:=OwnI.made (w:=w1.alloc (.cells #[.int .i64 r,.int .i64 c,.slice A L cap] 41)) (base:=w1.heap.size) 3 rfl (by simp);rw[←hw2]at this;simp only[l3_]at this;exact a9_.of_own this
 have hS0:RT w1.heap.size W.heap.size w2 A r c L cap w2 (rdTo p r f 0).1 (.slice (some ⟨w1.heap.size+1,0,none⟩) 0 0) (rdTo p r f 0).2 :=
  ⟨⟨Below.refl _ _,b4Q hI2 hPv s1 (by omega)⟩,kA2⟩
 have KR:=h_ kR2;have G2:=h_ g2;have hWB:W.heap.size≤w2.heap.size:=by omega
 have HB0:Hid (w0.heap.size<W.heap.size):=by show _<_;omega
 have HWB:=h_ hWB;clear kB kR kR1 g0 g1 hIA hI2 kR2 kA2 g2 s1 s2 sz hb1 hWB b2 hPv;go_wp2;rw[←hw2];clear hw2;go_loopw [7,8,9] (fun pv nv i wr=>∃ k:Nat,k≤c∧i = .int .i64 k∧nv = .int .i64 ((rdTo p r f k).2.length:Int)∧RT w1.heap.size W.heap.size w2 A r c L cap wr (rdTo p r f k).1 pv (rdTo p r f k).2) (fun _ _ i _=>c-(intOf i).toNat)
 case atStart=>exact⟨0,l0_ _,rfl,rfl,hS0⟩
 case round =>
  clear hS0;obtain⟨k,hk,rfl,rfl,S⟩:=hrel;obtain⟨PA,pc,ev,_,_⟩:=S.1.ownP.1.form;subst ev;have hln:=f6_ p r f k;have hin:=p6_ hpr.1 HF.out k;have hrs:=C0_ p r f k;have hrest:=h_ (fun h=>S2_ (p:=p) (r:=r) (f:=f) (k:=k) h (c-k));obtain⟨F,hFF⟩:=e_ ((rdTo p r f k).1);obtain⟨ps,hps⟩:=e_ ((rdTo p r f k).2);rw[hFF,hps]at S hrs;rw[hps]at hln;rw[hFF]at hin;rw[hps];obtain⟨n,hn⟩:=e_ (ps.length);rw[hn]at hln hrs S⊢;have HRS:=h_ hrs;have HN:=h_ hn;have HIN:=h_ hin;have HFF:=h_ hFF;have HPS:=h_ hps;clear hFF hps hn hin hrs;by_cases hgo:k<c∧n<r
  ·obtain⟨hlt,hnr⟩:=hgo;have kb:=(S).2;obtain⟨c0,c1,c2⟩:=c_3 kb;go_wp2;clear kb c0 c1 c2;have ha0:=c7J F k r;go_loopw [10,11] (fun a i wr=>∃ m:Nat,n≤m∧m≤r∧i = .int .i64 ((m:Int)-1)∧a = .int .i64 (atI F k m r)∧RT w1.heap.size W.heap.size w2 A r c L cap wr F (.slice PA n pc) ps) (fun _ i _=>(intOf i+1).toNat)
   case atStart=>exact⟨r,by omega,l_ _,rfl,by rw[ha0],S⟩
   case round =>
    clear S ha0;obtain⟨m,hnm,hmr,rfl,rfl,S⟩:=hrel;obtain⟨g,eA,eL,hLc,hcb,hBg,hgw⟩:=S.1.addr (Nat.mul_pos (by omega) (by omega));subst eA;have EL:=h_ eL;clear eL;by_cases hlm:n<m
    ·obtain⟨m',rfl⟩:∃ m',m=m'+1:=⟨m-1,by omega⟩;have em:((m'+1:Nat):Int)-1=(m':Int):=by omega
     rw[em];clear em;have hlr:m'<r:=by omega
     obtain⟨Q,hQ⟩:∃ Q,Q=m'*c:=⟨_,rfl⟩;have hQw:∀ [Inhabited Unit],wrap64 ((m':Int)*(c:Int))=(Q:Int):=fun {_}=>ixP hlr hlt hr hc hQ
     obtain⟨a1,a2,a3⟩:=rowP hlr hlt hr hc hQ;rw[←EL.out]at a1 a2 a3;obtain⟨z1,_,_⟩:=S.1.cellP hlr hlt hQ;clear hQ;have kb:=(S).2;obtain⟨c0,c1,c2⟩:=c_3 kb;by_cases hz0:F m' k=0
     ·rw[hz0]at z1;have HA:=h_ (c1J hlr hz0);clear hz0;go_wp2;go_roundw
      case rel=>exact⟨m',by omega,by omega,by go_num,by rw[HA.out],S⟩
      case measure=>simp[intOf]
     ·have hzb:(F m' k != 0)=true:=by simpa using hz0
      have HA:=h_ (f1j hlr hz0);clear hz0;go_wp2;go_roundw
      case rel=>exact⟨m',by omega,by omega,by go_num,by rw[HA.out],S⟩
      case measure=>simp[intOf]
    ·have hmn:m=n:=by omega
     subst hmn;by_cases hfull:nzF F k m r=r
     ·have HRS2:=h_ (HRS.out.trans (if_neg (by rw[hfull];omega)));have hat:atI F k m r = -1:=by rw[atI,if_pos hfull]
      rw[hat];clear hat hfull;go_wp2;go_roundw
      case rel=>exact⟨k+1,by omega,by go_num,by rw[HRS2.out,HN.out],by rw[HRS2.out];exact S⟩
      case measure=>simp[intOf];omega
     ·have hle:=w2_ (f:=F) (k:=k) hmr;have hlr0:nzF F k m r<r:=by omega
      have HRS2:=h_ (HRS.out.trans (if_pos hlr0));have hne:=I5_ hmr hlr0;have hat:atI F k m r=(nzF F k m r:Int):=by rw[atI,if_neg hfull]
      rw[hat];clear hat hfull;obtain⟨n,hnn⟩:∃ n,n=m:=⟨_,rfl⟩;subst hnn;obtain⟨a,ha⟩:=e_ (nzF F k n r);rw[ha]at hle hlr0 hne⊢;have HZA:=h_ ha;have HNE:=h_ hne;clear ha hne;obtain⟨P,hP⟩:∃ P,P=n*c:=⟨_,rfl⟩;obtain⟨Q,hQ⟩:∃ Q,Q=a*c:=⟨_,rfl⟩;have hPw:=h_ (ixP hnr hlt hr hc hP);have hQw:=h_ (ixP hlr0 hlt hr hc hQ);have hrp:=rowP hnr hlt hr hc hP;rw[←EL.out]at hrp;have HPP:=h_ hP;have HQQ:=h_ hQ;clear hP hQ;rw[←sw_0 n a F]at S;have hdn:decide ((n:Int)≤(n:Int)-1)=false:=decide_eq_false (by omega);go_wp2;clear hdn;go_loopw [12] (fun i wr=>∃ j:Nat,j≤c∧i = .int .i64 j∧RT w1.heap.size W.heap.size w2 (some ⟨g,0,none⟩) r c L cap wr (swJ n a j F) (.slice PA n pc) ps) (fun i _=>c-(intOf i).toNat)
      case atStart=>exact⟨0,l0_ _,rfl,S⟩
      case round =>
       as_aux_lemma =>
        clear S;obtain⟨j,hj,rfl,S⟩:=hrel;have kb:=(S).2;obtain⟨c0,c1,c2⟩:=c_3 kb;by_cases hljc:j<c
        ·obtain⟨a1,a2,a3⟩:=rowP hlr0 hljc hr hc HQQ.out;obtain⟨b1,b2,b3⟩:=rowP hnr hljc hr hc HPP.out;rw[←EL.out]at a1 a2 a3 b1 b2 b3;have hst:=b8Q F hnr hlr0 hljc;rw[←HQQ.out,←HPP.out]at hst;have HST:=h_ hst;obtain⟨z1,_,z2⟩:=S.1.cellP hnr hljc HPP.out;rw[A7_]at z1;have hSS:=h_ S;have hpw:∀ [Inhabited Unit],wrap64 ((n:Int)*(c:Int))=(P:Int):=fun {_}=>hPw.out
         clear hst S kb;go_wp2;rw[hPw.out];clear c0 c1 c2 z1 z2 hpw;refine a8_ (by kernel_rfl) [.eq (.pointer (some ⟨w1.heap.size,2,none⟩)),.eq (.slice (some ⟨g,0,none⟩) L cap),.eq (.int .i64 n),.eq (.pointer (some ⟨w1.heap.size,1,none⟩)),.eq (.int .i64 c),.eq (.int .i64 P),.eq (.int .i64 j),.eq (.int .i64 ((P:Int)+j)),.eq (.pointer (some ⟨w1.heap.size,2,none⟩)),.eq (.slice (some ⟨g,0,none⟩) L cap),.eq (.int .i64 a),.eq (.pointer (some ⟨w1.heap.size,1,none⟩)),.eq (.int .i64 c),.eq (.int .i64 Q),.eq (.int .i64 j),.eq (.int .i64 ((Q:Int)+j)),.eq (.pointer (some ⟨g,Q+j,none⟩)),.eq (.int .i64 (F a j)),.eq (.pointer (some ⟨g,P+j,none⟩))] [[],[0],[],[],[3],[2,3,4],[],[2,3,4,5,6],[],[8],[],[],[11],[10,11,12],[],[10,11,12,13,14],[8,9,10,11,12,13,14,15],[8,9,10,11,12,13,14,15,16],[0,1,2,3,4,5,6,7,8,9,10,11,12,13,14,15,16,17],[0,1,2,3,4,5,6,7,8,9,10,11,12,13,14,15,16,17,18]] 19 (by kernel_rfl) ⟨trivial,trivial,trivial,trivial,trivial,trivial,trivial,trivial,trivial,trivial,trivial,trivial,trivial,trivial,trivial,trivial,trivial,trivial,trivial,trivial⟩ ⟨?_,?_,?_,?_,?_,?_,?_,?_,?_,?_,?_,?_,?_,?_,?_,?_,?_,?_,?_,trivial⟩ ?_;iterate 19 (intro x w hb hk Q' hQ;have he:=k_e hk;simp only[k_s]at he;simp only[netE]at hQ⊢;(try simp only[he]at hQ⊢);(try clear he);rotate_left)
         rotate_left
         ·clear hk;go_wp2;exact hQ _ _ br_ rfl
         ·clear hk;have q:=(hSS.out.call HWB.out hb).2.cell' (i:=2) rfl;go_wp2;exact hQ _ _ br_ rfl
         iterate 2 (· clear hk;go_wp2;exact hQ _ _ br_ rfl)
         ·clear hk;have q:=(hSS.out.call HWB.out hb).2.cell' (i:=1) rfl;go_wp2;exact hQ _ _ br_ rfl
         ·clear hk;go_wp2;rw[hPw.out];exact hQ _ _ br_ rfl
         iterate 3 (· clear hk;go_wp2;exact hQ _ _ br_ rfl)
         ·clear hk;have q:=(hSS.out.call HWB.out hb).2.cell' (i:=2) rfl;go_wp2;exact hQ _ _ br_ rfl
         iterate 2 (· clear hk;go_wp2;exact hQ _ _ br_ rfl)
         ·clear hk;have q:=(hSS.out.call HWB.out hb).2.cell' (i:=1) rfl;go_wp2;exact hQ _ _ br_ rfl
         ·clear hk;go_wp2;rw[hQw.out];exact hQ _ _ br_ rfl
         iterate 3 (· clear hk;go_wp2;exact hQ _ _ br_ rfl)
         ·clear hk;have z:=((hSS.out.call HWB.out hb).1.cellP hlr0 hljc HQQ.out).1;rw[A7_]at z;go_wp2;exact hQ _ _ br_ rfl
         ·clear hk;go_wp2;exact hQ _ _ br_ rfl
         ·intro x w hb hk hiv hdj;have he:=k_g hk [0,1,2,3,4,5,6,7,8,9,10,11,12,13,14,15,16,17,18];simp only[k_s]at he;simp only[netE,he];clear he hk;have S:=hSS.out.call HWB.out hb;have ia:=(S.1.cellP hlr0 hljc HQQ.out);have ib:=(S.1.cellP hnr hljc HPP.out);rw[A7_]at ia ib;have hst1:(flat r c (swJ n a j F)).set (P+j) (F a j)=flat r c (fun x b=>if x=n∧b=j then F a j else swJ n a j F x b):=by rw[HPP.out];exact j8_ _ _ hnr hljc
          have hst2:=HST.out;rw[hst1]at hst2;have S1:=S.put (J:=P+j) (x:=F a j) hBg (S.1.size HWB.out) ia.2.1 hst1;have S2:=S1.put (J:=Q+j) (x:=F n j) hBg (S1.1.size HWB.out) ib.2.1 hst2;obtain⟨q1,_,q2⟩:=S1.1.cellP hlr0 hljc HQQ.out;obtain⟨p1,_,p2⟩:=ib;have kb:=S1.2;obtain⟨c0,c1,c2⟩:=c_3 kb;have HS2:=h_ S2;have hqw:∀ [Inhabited Unit],wrap64 ((a:Int)*(c:Int))=(Q:Int):=fun {_}=>hQw.out
          clear ia S S1 S2 hiv hdj hst1 hst2 kb;go_wp2;go_roundw
          case rel=>exact⟨j+1,by omega,by go_num,HS2.out⟩
          case measure=>simp[intOf];omega
        ·have hjc:j=c:=by omega
         subst hjc;have S:=S.congr (d0Q n a r j F);have hin1:=b1j HIN.out hnr hlr0;have hx0:swA n a F n k=F a k:=by rw[swA,if_pos rfl]
         obtain⟨F1,hF1⟩:=e_ (swA n a F);rw[hF1]at S hin1 hx0;obtain⟨x,hx⟩:=e_ (F1 n k);obtain⟨z1,hxI,_⟩:=S.1.cellP hnr hlt HPP.out;have hxr:=hin1 n k hnr hlt;rw[hx]at z1 hxr hx0;have hxn:1≤x:=by
          have:=HNE.out;rw[←hx0]at this;omega
         obtain⟨s,hs⟩:=e_ (invP p x);have hsr:=d0x (x:=x) hpr;rw[hs]at hsr;have HS:=h_ hs;have HX:=h_ hx;have HF1:=h_ hF1;have HIN1:=h_ hin1;have hSS:=h_ S;have hpw:∀ [Inhabited Unit],wrap64 ((n:Int)*(j:Int))=(P:Int):=fun {_}=>hPw.out
         clear hs hx hxI hF1 hin1 hx0 S kb c0 c1 c2;obtain⟨c0,c1,c2⟩:=c_3 hSS.out.2;obtain⟨b1,b2,b3⟩:=hrp;go_wp2_with fail
         refine (C2_ p x _ HP.out hxn hxr.2).mono ?_;rintro e w5 ⟨rfl,hww⟩;replace hww:=hww.symm;subst hww;rw[HS.out];have S:=hSS.out;rw[←sc_0 p n s F1]at S;clear c0 c1 c2 z1;go_wp2;try rw[hPw.out]
         clear hpw;go_loopw [15] (fun i wr=>∃ j':Nat,j'≤j∧i = .int .i64 j'∧RT w1.heap.size W.heap.size w2 (some ⟨g,0,none⟩) r j L cap wr (scJ p n s j' F1) (.slice PA n pc) ps) (fun i _=>j-(intOf i).toNat)
         case atStart=>exact⟨0,l0_ _,rfl,S⟩
         case round =>
          as_aux_lemma =>
           clear S hSS;obtain⟨j',hj',rfl,S⟩:=hrel;have kb:=(S).2;obtain⟨c0,c1,c2⟩:=c_3 kb;by_cases hl4:j'<j
           ·obtain⟨b1,b2,b3⟩:=rowP hnr hl4 hr hc HPP.out;rw[←EL.out]at b1 b2 b3;have hi1:=HIN1.out n j' hnr hl4;have hst:=a8Q (p:=p) (s:=s) F1 hnr hl4;obtain⟨a4,ha4⟩:=e_ (F1 n j');rw[ha4]at hi1 hst;rw[←HPP.out]at hst;have k0:0≤a4*s:=Int.mul_nonneg hi1.1 hsr.1;have k1:a4*s≤4*4:=Int.mul_le_mul (by omega) hsr.2 hsr.1 (by omega);obtain⟨K,hK⟩:=e_ (a4*s);rw[hK]at k0 k1 hst;have hKw:=h_ (show wrap64 (s*a4)=K by rw[Int.mul_comm,hK];exact IntWalk.wrap64_in _ ⟨by omega,by omega⟩);have hr1:=g6_ (x:=K) hpr.1;have HST:=h_ hst;have HA4:=h_ ha4;have hSS:=h_ S;have hKI:Hid (I64 K):=by show _∧_;omega
            have hRI:Hid (I64 (K % p)):=by show _∧_;omega
            clear ha4 hK hst S kb hi1 k0 k1;go_wp2;clear c0 c1 c2;refine a8_ (by kernel_rfl) [.eq (.pointer (some ⟨w1.heap.size,2,none⟩)),.eq (.slice (some ⟨g,0,none⟩) L cap),.eq (.int .i64 n),.eq (.pointer (some ⟨w1.heap.size,1,none⟩)),.eq (.int .i64 j),.eq (.int .i64 P),.eq (.int .i64 j'),.eq (.int .i64 ((P:Int)+j')),.eq (.int .i64 p),.eq (.int .i64 s),.eq (.pointer (some ⟨w1.heap.size,2,none⟩)),.eq (.slice (some ⟨g,0,none⟩) L cap),.eq (.int .i64 n),.eq (.pointer (some ⟨w1.heap.size,1,none⟩)),.eq (.int .i64 j),.eq (.int .i64 P),.eq (.int .i64 j'),.eq (.int .i64 ((P:Int)+j')),.eq (.pointer (some ⟨g,P+j',none⟩)),.eq (.int .i64 a4),.eq (.int .i64 K),.eq (.int .i64 (K % p)),.eq (.pointer (some ⟨g,P+j',none⟩))] [[],[0],[],[],[3],[2,3,4],[],[2,3,4,5,6],[],[],[],[10],[],[],[13],[12,13,14],[],[12,13,14,15,16],[10,11,12,13,14,15,16,17],[10,11,12,13,14,15,16,17,18],[9,10,11,12,13,14,15,16,17,18,19],[8,9,10,11,12,13,14,15,16,17,18,19,20],[0,1,2,3,4,5,6,7,8,9,10,11,12,13,14,15,16,17,18,19,20,21],[0,1,2,3,4,5,6,7,8,9,10,11,12,13,14,15,16,17,18,19,20,21,22]] 23 (by kernel_rfl) ⟨trivial,trivial,trivial,trivial,trivial,trivial,trivial,trivial,trivial,trivial,trivial,trivial,trivial,trivial,trivial,trivial,trivial,trivial,trivial,trivial,trivial,trivial,trivial,trivial⟩ ⟨?_,?_,?_,?_,?_,?_,?_,?_,?_,?_,?_,?_,?_,?_,?_,?_,?_,?_,?_,?_,?_,?_,?_,trivial⟩ ?_;iterate 23 (intro x w hb hk Q' hQ;have he:=k_e hk;simp only[k_s]at he;simp only[netE]at hQ⊢;(try simp only[he]at hQ⊢);(try clear he);rotate_left)
            rotate_left
            ·clear hk;go_wp2;exact hQ _ _ br_ rfl
            ·clear hk;have q:=(hSS.out.call HWB.out hb).2.cell' (i:=2) rfl;go_wp2;exact hQ _ _ br_ rfl
            iterate 2 (· clear hk;go_wp2;exact hQ _ _ br_ rfl)
            ·clear hk;have q:=(hSS.out.call HWB.out hb).2.cell' (i:=1) rfl;go_wp2;exact hQ _ _ br_ rfl
            ·clear hk;go_wp2;rw[hPw.out];exact hQ _ _ br_ rfl
            iterate 5 (· clear hk;go_wp2;exact hQ _ _ br_ rfl)
            ·clear hk;have q:=(hSS.out.call HWB.out hb).2.cell' (i:=2) rfl;go_wp2;exact hQ _ _ br_ rfl
            iterate 2 (· clear hk;go_wp2;exact hQ _ _ br_ rfl)
            ·clear hk;have q:=(hSS.out.call HWB.out hb).2.cell' (i:=1) rfl;go_wp2;exact hQ _ _ br_ rfl
            ·clear hk;go_wp2;rw[hPw.out];exact hQ _ _ br_ rfl
            iterate 3 (· clear hk;go_wp2;exact hQ _ _ br_ rfl)
            ·clear hk;have z:=((hSS.out.call HWB.out hb).1.cellP hnr hl4 HPP.out).1;rw[b2Z,HA4.out]at z;go_wp2;exact hQ _ _ br_ rfl
            ·clear hk;go_wp2;rw[hKw.out];exact hQ _ _ br_ rfl
            ·clear hk;go_wp2_with fail
             refine (p1_ p K _ hpr hKI.out).mono ?_;rintro e w5 ⟨rfl,hww⟩;replace hww:=hww.symm;subst hww;go_wp2;exact hQ _ _ br_ rfl
            ·clear hk;go_wp2;exact hQ _ _ br_ rfl
            ·intro x w hb hk hiv hdj;have he:=k_g hk [0,1,2,3,4,5,6,7,8,9,10,11,12,13,14,15,16,17,18,19,20,21,22];simp only[k_s]at he;simp only[netE,he];clear he hk;have S:=hSS.out.call HWB.out hb;obtain⟨p1,_,p2⟩:=S.1.cellP hnr hl4 HPP.out;have S2:=S.put (J:=P+j') (x:=K % p) hBg (S.1.size HWB.out) hRI.out HST.out;have HS2:=h_ S2;clear S S2 hiv hdj;go_wp2;go_roundw
             case rel=>exact⟨j'+1,by omega,by go_num,HS2.out⟩
             case measure=>simp[intOf];omega
           ·have hje:j'=j:=by omega
            subst hje;have S:=S.congr (d1z p n r j' s F1);have hin2:=b8z (s:=s) (n:=n) hpr.1 HIN1.out;obtain⟨F2,hF2⟩:=e_ (scA p n s F1);rw[hF2]at S hin2;have hfin:Hid (rdF p r F n k=elA p n k F2):=by
             show _=_;rw[rdF,HZA.out,HF1.out,HX.out,HS.out,hF2]
            have HIN2:=h_ hin2;clear hF2 hin2 kb;rw[←el_0 p n k F2]at S;go_wp2;clear c0 c1 c2;go_loopw [16] (fun i wr=>∃ i':Nat,i'≤r∧i = .int .i64 i'∧RT w1.heap.size W.heap.size w2 (some ⟨g,0,none⟩) r j' L cap wr (elI p n k i' F2) (.slice PA n pc) ps) (fun i _=>r-(intOf i).toNat)
            case atStart=>exact⟨0,l0_ _,rfl,S⟩
            case round =>
             as_aux_lemma =>
              clear S;obtain⟨i,hi,rfl,S⟩:=hrel;have kb:=(S).2;obtain⟨c0,c1,c2⟩:=c_3 kb;by_cases hl5:i<r
              ·obtain⟨R,hR⟩:∃ R,R=i*j':=⟨_,rfl⟩;have hRw:=h_ (ixP hl5 hlt hr hc hR);obtain⟨a1,a2,a3⟩:=rowP hl5 hlt hr hc hR;rw[←EL.out]at a1 a2 a3;obtain⟨z1,_,_⟩:=S.1.cellP hl5 hlt hR;rw[P6_]at z1;have hr5:=HIN2.out i k hl5 hlt;obtain⟨q,hq⟩:=e_ (F2 i k);rw[hq]at hr5 z1;have HR:=h_ hR;have HQ5:=h_ hq;have hrw:∀ [Inhabited Unit],wrap64 ((i:Int)*(j':Int))=(R:Int):=fun {_}=>hRw.out
               clear hR hq;rw[←f0Z]at S;go_wp2;try rw[hRw.out]
               clear z1 c0 c1 c2 kb hrw;go_loopw [18] (fun x wr=>∃ y:Nat,y≤j'∧x = .int .i64 y∧RT w1.heap.size W.heap.size w2 (some ⟨g,0,none⟩) r j' L cap wr (elJ p n k i y F2) (.slice PA n pc) ps∧(i=n→y=0)) (fun x _=>j'-(intOf x).toNat)
               case atStart=>exact⟨0,l0_ _,rfl,S,fun _=>rfl⟩
               case round =>
                as_aux_lemma =>
                 clear S;obtain⟨y,hy,rfl,S,hyn⟩:=hrel;have kb:=(S).2;obtain⟨c0,c1,c2⟩:=c_3 kb;by_cases hin:i=n
                 ·have hy0:=hyn hin;subst hy0;have hne:((i:Int) != n)=false:=by rw[bne_eq_false_iff_eq];omega
                  have S:=S.congr (show flat r j' (elJ p n k i 0 F2)=flat r j' (elI p n k (i+1) F2) by rw[f0Z,hin,b3q]);have hS2:=h_ S;have hk0:0<j':=by omega
                  clear hin hyn S;go_wp2;go_roundw
                  case rel=>exact⟨i+1,by omega,by go_num,hS2.out⟩
                  case measure=>simp[intOf];omega
                 ·have hne:((i:Int) != n)=true:=by rw[bne_iff_ne];omega
                  clear hyn;by_cases hl6:y<j'
                  ·obtain⟨d1,d2,d3⟩:=rowP hl5 hl6 hr hc HR.out;obtain⟨b1,b2,b3⟩:=rowP hnr hl6 hr hc HPP.out;rw[←EL.out]at d1 d2 d3 b1 b2 b3;have hiy:=HIN2.out i y hl5 hl6;have hny:=HIN2.out n y hnr hl6;have hst:=c9j (p:=p) (n:=n) (k:=k) (i:=i) (j:=y) F2 hl5 hl6;rw[←f5Q]at hst;obtain⟨v,hv⟩:=e_ (F2 i y);obtain⟨t,ht⟩:=e_ (F2 n y);rw[hv,ht,HQ5.out,←HR.out]at hst;rw[hv]at hiy;rw[ht]at hny;have k0:0≤q*t:=Int.mul_nonneg hr5.1 hny.1;have k1:q*t≤4*4:=Int.mul_le_mul (by omega) (by omega) hny.1 (by omega);obtain⟨K,hK⟩:=e_ (q*t);rw[hK]at k0 k1 hst;have hKw:=h_ (show wrap64 (q*t)=K by rw[hK];exact IntWalk.wrap64_in _ ⟨by omega,by omega⟩);have hr1:=g6_ (x:=v-K) hpr.1;have HST:=h_ hst;have HV:=h_ hv;have HT:=h_ ht;have HNI:=h_ hin;have hSS:=h_ S;have hKI:Hid (I64 (v-K)):=by show _∧_;omega
                   have hRI:Hid (I64 ((v-K) % p)):=by show _∧_;omega
                   clear hv ht hK hst S kb hin;go_wp2;clear c0 c1 c2;refine a8_ (by kernel_rfl) (.eq (.pointer (some ⟨w1.heap.size,2,none⟩)) :: .eq (.slice (some ⟨g,0,none⟩) L cap) :: .eq (.int .i64 i) :: .eq (.pointer (some ⟨w1.heap.size,1,none⟩)) :: .eq (.int .i64 j') :: .eq (.int .i64 R) :: .eq (.int .i64 y) :: .eq (.int .i64 ((R:Int)+y)) :: .eq (.int .i64 p) :: .eq (.pointer (some ⟨w1.heap.size,2,none⟩)) :: .eq (.slice (some ⟨g,0,none⟩) L cap) :: .eq (.int .i64 i) :: .eq (.pointer (some ⟨w1.heap.size,1,none⟩)) :: .eq (.int .i64 j') :: .eq (.int .i64 R) :: .eq (.int .i64 y) :: .eq (.int .i64 ((R:Int)+y)) :: .eq (.pointer (some ⟨g,R+y,none⟩)) :: .eq (.int .i64 v) :: .eq (.int .i64 q) :: .eq (.pointer (some ⟨w1.heap.size,2,none⟩)) :: .eq (.slice (some ⟨g,0,none⟩) L cap) :: .eq (.int .i64 n) :: .eq (.pointer (some ⟨w1.heap.size,1,none⟩)) :: .eq (.int .i64 j') :: .eq (.int .i64 P) :: .eq (.int .i64 y) :: .eq (.int .i64 ((P:Int)+y)) :: .eq (.pointer (some ⟨g,P+y,none⟩)) :: .eq (.int .i64 t) :: .eq (.int .i64 K) :: .eq (.int .i64 (v-K)) :: .eq (.int .i64 ((v-K) % p)) :: .eq (.pointer (some ⟨g,R+y,none⟩)) :: []) [[],[0],[],[],[3],[2,3,4],[],[2,3,4,5,6],[],[],[9],[],[],[12],[11,12,13],[],[11,12,13,14,15],[9,10,11,12,13,14,15,16],[9,10,11,12,13,14,15,16,17],[],[],[20],[],[],[23],[22,23,24],[],[22,23,24,25,26],[20,21,22,23,24,25,26,27],[20,21,22,23,24,25,26,27,28],[19,20,21,22,23,24,25,26,27,28,29],[9,10,11,12,13,14,15,16,17,18,19,20,21,22,23,24,25,26,27,28,29,30],[8,9,10,11,12,13,14,15,16,17,18,19,20,21,22,23,24,25,26,27,28,29,30,31],[0,1,2,3,4,5,6,7,8,9,10,11,12,13,14,15,16,17,18,19,20,21,22,23,24,25,26,27,28,29,30,31,32],[0,1,2,3,4,5,6,7,8,9,10,11,12,13,14,15,16,17,18,19,20,21,22,23,24,25,26,27,28,29,30,31,32,33]] 34 (by kernel_rfl) ⟨trivial,trivial,trivial,trivial,trivial,trivial,trivial,trivial,trivial,trivial,trivial,trivial,trivial,trivial,trivial,trivial,trivial,trivial,trivial,trivial,trivial,trivial,trivial,trivial,trivial,trivial,trivial,trivial,trivial,trivial,trivial,trivial,trivial,trivial,trivial⟩ ⟨?_,?_,?_,?_,?_,?_,?_,?_,?_,?_,?_,?_,?_,?_,?_,?_,?_,?_,?_,?_,?_,?_,?_,?_,?_,?_,?_,?_,?_,?_,?_,?_,?_,?_,trivial⟩ ?_;iterate 34 (intro x w hb hk Q' hQ;have he:=k_e hk;simp only[k_s]at he;simp only[netE]at hQ⊢;(try simp only[he]at hQ⊢);(try clear he);rotate_left)
                   rotate_left
                   ·clear hk;go_wp2;exact hQ _ _ br_ rfl
                   ·clear hk;have q9:=(hSS.out.call HWB.out hb).2.cell' (i:=2) rfl;go_wp2;exact hQ _ _ br_ rfl
                   iterate 2 (· clear hk;go_wp2;exact hQ _ _ br_ rfl)
                   ·clear hk;have q9:=(hSS.out.call HWB.out hb).2.cell' (i:=1) rfl;go_wp2;exact hQ _ _ br_ rfl
                   ·clear hk;go_wp2;rw[hRw.out];exact hQ _ _ br_ rfl
                   iterate 4 (· clear hk;go_wp2;exact hQ _ _ br_ rfl)
                   ·clear hk;have q9:=(hSS.out.call HWB.out hb).2.cell' (i:=2) rfl;go_wp2;exact hQ _ _ br_ rfl
                   iterate 2 (· clear hk;go_wp2;exact hQ _ _ br_ rfl)
                   ·clear hk;have q9:=(hSS.out.call HWB.out hb).2.cell' (i:=1) rfl;go_wp2;exact hQ _ _ br_ rfl
                   ·clear hk;go_wp2;rw[hRw.out];exact hQ _ _ br_ rfl
                   iterate 3 (· clear hk;go_wp2;exact hQ _ _ br_ rfl)
                   ·clear hk;have z:=((hSS.out.call HWB.out hb).1.cellP hl5 hl6 HR.out).1;rw[c6X,HV.out]at z;go_wp2;exact hQ _ _ br_ rfl
                   iterate 2 (· clear hk;go_wp2;exact hQ _ _ br_ rfl)
                   ·clear hk;have q9:=(hSS.out.call HWB.out hb).2.cell' (i:=2) rfl;go_wp2;exact hQ _ _ br_ rfl
                   iterate 2 (· clear hk;go_wp2;exact hQ _ _ br_ rfl)
                   ·clear hk;have q9:=(hSS.out.call HWB.out hb).2.cell' (i:=1) rfl;go_wp2;exact hQ _ _ br_ rfl
                   ·clear hk;go_wp2;rw[hPw.out];exact hQ _ _ br_ rfl
                   iterate 3 (· clear hk;go_wp2;exact hQ _ _ br_ rfl)
                   ·clear hk;have z:=((hSS.out.call HWB.out hb).1.cellP hnr hl6 HPP.out).1;rw[f9x _ HNI.out,HT.out]at z;go_wp2;exact hQ _ _ br_ rfl
                   ·clear hk;go_wp2;rw[hKw.out];exact hQ _ _ br_ rfl
                   ·clear hk;go_wp2;exact hQ _ _ br_ rfl
                   ·clear hk;go_wp2_with fail
                    refine (p1_ p (v-K) _ hpr hKI.out).mono ?_;rintro e w5 ⟨rfl,hww⟩;replace hww:=hww.symm;subst hww;go_wp2;exact hQ (.int .i64 ((v-K) % p)) _ br_ rfl
                   ·clear hk;go_wp2;exact hQ _ _ br_ rfl
                   ·intro x w hb hk hiv hdj;have he:=k_g hk [0,1,2,3,4,5,6,7,8,9,10,11,12,13,14,15,16,17,18,19,20,21,22,23,24,25,26,27,28,29,30,31,32,33];simp only[k_s]at he;simp only[netE,he];clear he hk;have S:=hSS.out.call HWB.out hb;obtain⟨p1,_,p2⟩:=S.1.cellP hl5 hl6 HR.out;have S2:=S.put (J:=R+y) (x:=(v-K) % p) hBg (S.1.size HWB.out) hRI.out HST.out;have HS2:=h_ S2;have hni:=HNI.out;clear S S2 hiv hdj;go_wp2;go_roundw
                    case rel=>exact⟨y+1,by omega,by go_num,HS2.out,fun h=>absurd h hni⟩
                    case measure=>simp[intOf];omega
                  ·have hyj:y=j':=by omega
                   have S:=S.congr (show flat r j' (elJ p n k i y F2)=flat r j' (elI p n k (i+1) F2) by rw[hyj,d6x F2 hin]);have hS2:=h_ S;clear hin S hyj;go_wp2;go_roundw
                   case rel=>exact⟨i+1,by omega,by go_num,hS2.out⟩
                   case measure=>simp[intOf];omega
              ·have hir:i=r:=by omega
               subst hir;have S:=S.congr (d2X p n k i j' F2);rw[←hfin.out]at S;have hS8:=S.call HWB.out (a2_ wr (.cells #[.int .i64 k] 3));have hsz8:=hS8.1.size HWB.out;have HS8:=h_ hS8;clear S hS8 kb
               (go_wp2_with (at_builtin;refine Hold.stop ?_));unfold Hold
               refine c3_ rfl (.tmp 203) (.tmp 205) rfl W.heap.size _ (.slice PA n pc) ps rfl HS8.out.1.ownP.1 _ _ _ [(k:Int)] rfl rfl (SlI.one wr _ k ⟨by omega,by omega⟩) (by rw[HN.out];simp;omega) hsz8 ?_;intro v9 w9 ho9 hg9 hv9;have S9:=HS8.out.app hsz8 ho9 hg9 hv9;clear ho9 hg9 hv9;go_wp2;go_roundw
               case rel=>exact⟨k+1,by omega,by go_num,by rw[HRS2.out,List.length_append,HN.out];go_num,by rw[HRS2.out];exact S9⟩
               case measure=>simp[intOf];omega
  ·have hend:Hid (rdTo p r f c=(F,ps)):=by
    show _=_;by_cases hkc:k<c
    ·have hnr:n=r:=by omega
     have h1:=hrest.out (by rw[HPS.out,HN.out,hnr]);rw[show k+(c-k)=c by omega]at h1;rw[h1,←HFF.out,←HPS.out]
    ·rw[show c=k by omega,←HFF.out,←HPS.out]
   have sz:=SZ.out;have sB:=S.1.size HWB.out;have k4:=S.2;have k3':=KR.out.below S.1.bel (by omega);obtain⟨z0,z1,z2⟩:=c_3 k4;obtain⟨p0,p1,p2⟩:=c_3 k3';have f2:=k3'.frozen;have h2:=chg3 wr (w0.heap.size+1) (.int .i64 (r:Int)) (.int .i64 c) (.slice A L cap);have gw:Below w0.heap.size w0 wr:=(G2.out).trans (S.1.bel.mono (by omega));have gs:=gw.size;have oA:a9_ wr W.heap.size wr.heap.size (.slice A L cap) (flat r c F):=S.1.fam.1 (_,flat r c F) (by simp);have oA2:=(oA.chg h2 (.inr (by omega))).wider (lo':=w0.heap.size) (hi':=wr.heap.size) (by omega) (l_ _);have oP2:=(S.1.ownP.chg h2 (.inr (by omega))).wider (lo':=w0.heap.size) (hi':=wr.heap.size) (by omega) (l_ _);have fg:=gw.trans (h2.below (by omega) gs);have OA2:=h_ oA2;have OP2:=h_ oP2;have FG:=h_ fg;clear oA oA2 oP2 fg gw h2 k3' k4 S;by_cases hkc:k<c
   ·have hnr:¬ n<r:=by omega
    clear hgo;go_wp2;refine bodyPost_ret (v:=.tuple #[.agg #[.int .i64 (r:Int),.int .i64 c,.slice A L cap],.slice PA n pc]) (by simp[results,go_sem,p0,p1,p2]) rfl ⟨_,_,rfl,?_,?_,FG.out⟩
    ·refine⟨_,rfl,?_,by simp only[I64];omega,by simp only[I64];omega⟩;rw[hend.out];exact (OA2.out).wider (l_ _) (by simp)
    ·rw[hend.out];exact (OP2.out).wider (l_ _) (by simp)
   ·clear hgo;go_wp2;refine bodyPost_ret (v:=.tuple #[.agg #[.int .i64 (r:Int),.int .i64 c,.slice A L cap],.slice PA n pc]) (by simp[results,go_sem,p0,p1,p2]) rfl ⟨_,_,rfl,?_,?_,FG.out⟩
    ·refine⟨_,rfl,?_,by simp only[I64];omega,by simp only[I64];omega⟩;rw[hend.out];exact (OA2.out).wider (l_ _) (by simp)
    ·rw[hend.out];exact (OP2.out).wider (l_ _) (by simp)
theorem a4J (r s c:Nat) (f g:Nat→Nat→Int):flat r c f ++ flat s c g=flat (r+s) c (blF r f g):=by
 rw[←n6_,←n6_,←n6_,←I7_,List.flatten_append]
theorem I9_ (a b s:Value) (w:World):(Instr.field 41 (.agg #[a,b,s]) 2).run Tryz.prog w = .ok s w:=by
 have h1:=Tryz.underlying41;have h2:=Tryz.underlying24;simp[Instr.field,part,isAgg,run_underlying h1,run_underlying h2,asAgg]
theorem SlI.app_len {w:World} {B:Nat} {v:Value} {l:List Int} (h:SlI w B v l):∃ A c,v = .slice A l.length c:=by
 obtain⟨A,c,e,_⟩:=h;exact⟨A,c,e⟩
theorem R4_ (u v:Value) (r c d:Nat) (f g:Nat→Nat→Int) (w0:World) (hu:MxR w0 w0.heap.size u (mxF r c f)) (hv:MxR w0 w0.heap.size v (mxF r d g)) (hr:r≤500) (hc:c≤500) (hd:d≤500) :
  Calls Tryz.prog 67 #[u,v] w0 fun e w'=>∃ v,e = .returned v∧MxO w' w0.heap.size w'.heap.size v (mxF r (c+d) (bsF c f g))∧Below w0.heap.size w0 w':=by
 have hu':=hu;have hv':=hv;obtain⟨U,uc,rfl⟩:=hu.form;obtain⟨V,vc,rfl⟩:=hv.form;obtain⟨L,hL⟩:=e_ ((mxF r c f).a.length);obtain⟨L',hL'⟩:=e_ ((mxF r d g).a.length);have z1:(mxF r c f).r=(r:Int):=rfl;have z2:(mxF r c f).c=(c:Int):=rfl;have z3:(mxF r d g).r=(r:Int):=rfl;have z4:(mxF r d g).c=(d:Int):=rfl;rw[hL,z1,z2]at hu'⊢;rw[hL',z3,z4]at hv'⊢;clear hu hv hL hL' z1 z2 z3 z4;obtain⟨W,hW⟩:∃ W,W=((w0.alloc (.cells #[.int .i64 r,.int .i64 c,.slice U L uc] 41)).alloc (.cells #[.int .i64 r,.int .i64 d,.slice V L' vc] 41)).alloc (.cells #[.int .i64 0,.int .i64 0,.slice none 0 0] 41):=⟨_,rfl⟩;have g0:Below w0.heap.size w0 W:=by rw[hW];exact (((Below.refl _ _).alloc (l_ _) _).alloc (by simp) _).alloc (by simp;omega) _
 have k1:Blk W w0.heap.size 41 #[.int .i64 r,.int .i64 c,.slice U L uc]:=by rw[hW];exact ((Blk.new _ _ _).alloc _).alloc _
 have k2:Blk W (w0.heap.size+1) 41 #[.int .i64 r,.int .i64 d,.slice V L' vc]:=by
  rw[hW];have:=(Blk.new (w0.alloc (.cells #[.int .i64 r,.int .i64 c,.slice U L uc] 41)) 41 #[.int .i64 r,.int .i64 d,.slice V L' vc]).alloc (.cells #[.int .i64 0,.int .i64 0,.slice none 0 0] 41);simpa only[l3_] using this
 have k3:Blk W (w0.heap.size+1+1) 41 #[.int .i64 0,.int .i64 0,.slice none 0 0]:=by
  rw[hW];have:=Blk.new ((w0.alloc (.cells #[.int .i64 r,.int .i64 c,.slice U L uc] 41)).alloc (.cells #[.int .i64 r,.int .i64 d,.slice V L' vc] 41)) 41 #[.int .i64 0,.int .i64 0,.slice none 0 0];simpa only[l3_] using this
 have sz:W.heap.size=w0.heap.size+1+1+1:=by rw[hW];simp
 have HU:=h_ (MxR.next g0 hu');have HV:=h_ (MxR.next g0 hv');have SZ:=h_ sz;have hle1:c*r≤500*500:=Nat.mul_le_mul hc hr;have hle2:d*r≤500*500:=Nat.mul_le_mul hd hr;have HL1:Hid ((flat c r (fun a b=>f b a)).length+(flat d r (fun a b=>g b a)).length≤1000000):=by show _≤_;rw[a0_,a0_];omega
 clear sz hu' hv' hle1 hle2;go_enter Tryz.func67,Tryz.ntmps67
 go_wp2;rw[←hW];clear hW;refine o5_ (by kernel_rfl) [.eq (.pointer (some ⟨w0.heap.size,1,none⟩)),.eq (.int .i64 c),.eq (.pointer (some ⟨w0.heap.size+1,1,none⟩)),.eq (.int .i64 d),.eq (.int .i64 ((c:Int)+d)),.eq (.pointer (some ⟨w0.heap.size,0,none⟩)),.eq (.int .i64 r),rel 7 (fun u lo hi w=>n0_ w W.heap.size u),.eq (.agg #[.int .i64 r,.int .i64 c,.slice U L uc]),rel 9 (fun u lo hi w=>MxO w lo hi u (mxF c r (fun a b=>f b a))),rel 10 (fun u lo hi w=>SlI w w.heap.size u (flat c r (fun a b=>f b a))),rel 11 (fun u lo hi w=>OwnI w W.heap.size u (flat c r (fun a b=>f b a))),.eq (.agg #[.int .i64 r,.int .i64 d,.slice V L' vc]),rel 13 (fun u lo hi w=>MxO w lo hi u (mxF d r (fun a b=>g b a))),rel 14 (fun u lo hi w=>SlI w w.heap.size u (flat d r (fun a b=>g b a))),rel 15 (fun u lo hi w=>SlI w w.heap.size u (flat (c+d) r (blF c (fun a b=>f b a) (fun a b=>g b a)))),rel 16 (fun u lo hi w=>∃ s,u = .agg #[.int .i64 ((c+d:Nat):Int),.int .i64 r,s]∧SlI w w.heap.size s (flat (c+d) r (blF c (fun a b=>f b a) (fun a b=>g b a)))),rel 17 (fun u lo hi w=>MxO w lo hi u (mxF r (c+d) (bsF c f g)))] [[],[0],[],[2],[0,1,2,3],[],[5],[],[],[8],[8,9],[7,8,9,10],[],[7,8,9,10,11,12],[7,8,9,10,11,12,13],[7,8,9,10,11,12,13,14],[0,1,2,3,4,5,6,7,8,9,10,11,12,13,14,15],[0,1,2,3,4,5,6,7,8,9,10,11,12,13,14,15,16],[0,1,2,3,4,5,6,7,8,9,10,11,12,13,14,15,16,17]] [[],[0],[],[2],[0,1,2,3],[],[5],[],[],[8],[8,9],[7,8,9,10],[],[7,8,9,10,11,12],[7,8,9,10,11,12,13],[7,8,9,10,11,12,13,14],[0,1,2,3,4,5,6,8,12,15],[0,1,2,3,4,5,6,8,12,15,16]] [0,1,2,3,4,5,6,8,12,15,16,17] 18 15 (by kernel_rfl) (by kernel_rfl) ⟨.inr (.inr ⟨_,rfl⟩),.inr (.inr ⟨_,rfl⟩),.inr (.inr ⟨_,rfl⟩),.inr (.inr ⟨_,rfl⟩),.inr (.inr ⟨_,rfl⟩),.inr (.inr ⟨_,rfl⟩),.inr (.inr ⟨_,rfl⟩),.inr (.inr ⟨_,rfl⟩),.inr (.inr ⟨_,rfl⟩),.inl rfl,.inr (.inl rfl),.inr (.inl rfl),trivial⟩ ⟨trivial,trivial,trivial,trivial,trivial,trivial,trivial,a4_ (fun u lo hi w w' h hb=>h.below hb),trivial,a4_ (fun u lo hi w w' h hb=>h.below hb),a4_ (fun u lo hi w w' h hb=>SlI.next hb h),a4_ (fun u lo hi w w' h hb=>h.below hb),trivial,a4_ (fun u lo hi w w' h hb=>h.below hb),a4_ (fun u lo hi w w' h hb=>SlI.next hb h),a4_ (fun u lo hi w w' h hb=>SlI.next hb h),a4_ (fun u lo hi w w' ⟨s,e,h⟩ hb=>⟨s,e,SlI.next hb h⟩),a4_ (fun u lo hi w w' h hb=>h.below hb),trivial⟩ ⟨?_,?_,?_,?_,?_,?_,?_,?_,?_,?_,?_,?_,?_,?_,?_,?_,?_,?_,trivial⟩ ?_;iterate 18 (intro x w hb hk Q' hQ;have he:=k_e hk;simp only[k_s]at he;simp only[netE]at hQ⊢;(try simp only[he]at hQ⊢);(try clear he);rotate_left)
 rotate_left
 ·clear hk;go_wp2;exact hQ _ _ br_ rfl
 ·clear hk;have z2:=(k1.below hb k1.lt).cell' (i:=1) rfl;go_wp2;exact hQ _ _ br_ rfl
 ·clear hk;go_wp2;exact hQ _ _ br_ rfl
 ·clear hk;have z2:=(k2.below hb k2.lt).cell' (i:=1) rfl;go_wp2;exact hQ _ _ br_ rfl
 iterate 2 (· clear hk;go_wp2;exact hQ _ _ br_ rfl)
 ·clear hk;have z2:=(k1.below hb k1.lt).cell' (i:=0) rfl;go_wp2;exact hQ _ _ br_ rfl
 ·clear hk;go_wp2;exact hQ _ _ (a2_ _ _) (n0_.new _ hb.size)
 ·clear hk;obtain⟨z0,z1,z2⟩:=c_3 (k1.below hb k1.lt);go_wp2;exact hQ _ _ br_ rfl
 ·clear hk;go_wp2_with fail
  refine (r7_ _ r c f _ (MxR.more hb.size (MxR.below hb HU.out)) (by omega) (by omega)).mono ?_;rintro e w5 ⟨v5,rfl,hO5,hb5⟩;go_wp2;exact hQ _ _ hb5 hO5
 ·have h9:MxO w (x.lo 9) (x.hi 9) (x.v 9) (mxF c r (fun a b=>f b a)):=(hk 9 (by decide)).1;have s9:=(hk 9 (by decide)).2;clear hk;have hrd:=h9.rd;obtain⟨A9,c9,e9,hs9,_⟩:=hrd.open_;simp only[mxF]at e9 hs9;rw[e9]at hQ⊢;have HS9:=h_ hs9;clear hs9 h9 hrd;have hfm:=I9_ (.int .i64 c) (.int .i64 r) (.slice A9 (flat c r (fun a b=>f b a)).length c9) w;go_wp2;exact hQ _ _ br_ HS9.out
 ·have h7:n0_ w W.heap.size (x.v 7):=(hk 7 (by decide)).1;have h9:MxO w (x.lo 9) (x.hi 9) (x.v 9) (mxF c r (fun a b=>f b a)):=(hk 9 (by decide)).1;have h10:SlI w w.heap.size (x.v 10) (flat c r (fun a b=>f b a)):=(hk 10 (by decide)).1;have s7:=(hk 7 (by decide)).2;have s9:=(hk 9 (by decide)).2;have s10:=(hk 10 (by decide)).2;clear hk;obtain⟨g7,e7,hg7,hB7⟩:=h7;obtain⟨A10,c10,e10⟩:=h10.app_len;rw[e10]at h10;rw[e7,e10]at hQ⊢;refine c5_ (by rfl) (.tmp 12) (.tmp 15) (by rfl) g7 W.heap.size w.heap.size #[] (by rfl) hB7 rfl hg7 A10 c10 (flat c r (fun a b=>f b a)) (by rfl) h10 ?_;intro v' w' ho hb';exact hQ _ _ hb' ho
 ·clear hk;obtain⟨z0,z1,z2⟩:=c_3 (k2.below hb k2.lt);go_wp2;exact hQ _ _ br_ rfl
 ·have h7:n0_ w W.heap.size (x.v 7):=(hk 7 (by decide)).1;have h9:MxO w (x.lo 9) (x.hi 9) (x.v 9) (mxF c r (fun a b=>f b a)):=(hk 9 (by decide)).1;have h10:SlI w w.heap.size (x.v 10) (flat c r (fun a b=>f b a)):=(hk 10 (by decide)).1;have h11:OwnI w W.heap.size (x.v 11) (flat c r (fun a b=>f b a)):=(hk 11 (by decide)).1;have s7:=(hk 7 (by decide)).2;have s9:=(hk 9 (by decide)).2;have s10:=(hk 10 (by decide)).2;have s11:=(hk 11 (by decide)).2;clear hk;go_wp2_with fail
  refine (r7_ _ r d g _ (MxR.more hb.size (MxR.below hb HV.out)) (by omega) (by omega)).mono ?_;rintro e w5 ⟨v5,rfl,hO5,hb5⟩;go_wp2;exact hQ _ _ hb5 hO5
 ·have h7:n0_ w W.heap.size (x.v 7):=(hk 7 (by decide)).1;have h9:MxO w (x.lo 9) (x.hi 9) (x.v 9) (mxF c r (fun a b=>f b a)):=(hk 9 (by decide)).1;have h10:SlI w w.heap.size (x.v 10) (flat c r (fun a b=>f b a)):=(hk 10 (by decide)).1;have h11:OwnI w W.heap.size (x.v 11) (flat c r (fun a b=>f b a)):=(hk 11 (by decide)).1;have h13:MxO w (x.lo 13) (x.hi 13) (x.v 13) (mxF d r (fun a b=>g b a)):=(hk 13 (by decide)).1;have s7:=(hk 7 (by decide)).2;have s9:=(hk 9 (by decide)).2;have s10:=(hk 10 (by decide)).2;have s11:=(hk 11 (by decide)).2;have s13:=(hk 13 (by decide)).2;clear hk;have hrd:=h13.rd;obtain⟨A9,c9,e9,hs9,_⟩:=hrd.open_;simp only[mxF]at e9 hs9;rw[e9]at hQ⊢;have HS9:=h_ hs9;clear hs9 h13 h9 hrd h10 h11 h7;have hfm:=I9_ (.int .i64 d) (.int .i64 r) (.slice A9 (flat d r (fun a b=>g b a)).length c9) w;go_wp2;exact hQ _ _ br_ HS9.out
 ·have h7:n0_ w W.heap.size (x.v 7):=(hk 7 (by decide)).1;have h9:MxO w (x.lo 9) (x.hi 9) (x.v 9) (mxF c r (fun a b=>f b a)):=(hk 9 (by decide)).1;have h10:SlI w w.heap.size (x.v 10) (flat c r (fun a b=>f b a)):=(hk 10 (by decide)).1;have h11:OwnI w W.heap.size (x.v 11) (flat c r (fun a b=>f b a)):=(hk 11 (by decide)).1;have h13:MxO w (x.lo 13) (x.hi 13) (x.v 13) (mxF d r (fun a b=>g b a)):=(hk 13 (by decide)).1;have h14:SlI w w.heap.size (x.v 14) (flat d r (fun a b=>g b a)):=(hk 14 (by decide)).1;have s7:=(hk 7 (by decide)).2;have s9:=(hk 9 (by decide)).2;have s10:=(hk 10 (by decide)).2;have s11:=(hk 11 (by decide)).2;have s13:=(hk 13 (by decide)).2;have s14:=(hk 14 (by decide)).2;clear hk;obtain⟨A14,c14,e14⟩:=h14.app_len;rw[e14]at h14;have hlo:=h11.lt;rw[e14]at hQ⊢;refine c3_ (by rfl) (.tmp 16) (.tmp 19) (by rfl) W.heap.size w.heap.size _ _ (by rfl) h11 A14 _ c14 (flat d r (fun a b=>g b a)) (by rfl) rfl h14 (by have:=HL1.out;omega) hb.size ?_;intro v' w' h1 h2 h3;rw[a4J]at h1;exact hQ v' w' (b9_ h2 (fun k hk=>(hlo k hk).1) hb.size) h1.rd
 ·have h15:SlI w w.heap.size (x.v 15) (flat (c+d) r (blF c (fun a b=>f b a) (fun a b=>g b a))):=(hk 15 (by decide)).1;have s15:=(hk 15 (by decide)).2;clear hk;have H15:=h_ h15;obtain⟨A15,c15,e15⟩:=h15.app_len;rw[e15]at H15 hQ⊢;clear h15 e15;go_wp2;have he:(Value.agg #[.int .i64 ((c:Int)+d),.int .i64 r,.slice A15 (flat (c+d) r (blF c (fun a b=>f b a) (fun a b=>g b a))).length c15]) = .agg #[.int .i64 ((c+d:Nat):Int),.int .i64 r,.slice A15 (flat (c+d) r (blF c (fun a b=>f b a) (fun a b=>g b a))).length c15]:=by rw[show ((c+d:Nat):Int)=(c:Int)+d from by simp]
  exact hQ _ w br_ ⟨_,he,H15.out⟩
 ·have h15:SlI w w.heap.size (x.v 15) (flat (c+d) r (blF c (fun a b=>f b a) (fun a b=>g b a))):=(hk 15 (by decide)).1;have h16:∃ s,(x.v 16) = .agg #[.int .i64 ((c+d:Nat):Int),.int .i64 r,s]∧SlI w w.heap.size s (flat (c+d) r (blF c (fun a b=>f b a) (fun a b=>g b a))):=(hk 16 (by decide)).1;have s15:=(hk 15 (by decide)).2;have s16:=(hk 16 (by decide)).2;clear hk;obtain⟨s,e16,hs⟩:=h16;have HMR:Hid (MxR w w.heap.size (.agg #[.int .i64 ((c+d:Nat):Int),.int .i64 r,s]) (mxF (c+d) r (blF c (fun a b=>f b a) (fun a b=>g b a)))):=⟨s,rfl,hs,by simp only[mxF,I64];omega,by simp only[mxF,I64];omega⟩;obtain⟨A15,c15,e15⟩:=hs.app_len;subst e15;rw[e16]at hQ⊢;clear hs e16 h15;go_wp2_with fail
  refine (r7_ _ (c+d) r (blF c (fun a b=>f b a) (fun a b=>g b a)) _ HMR.out (by omega) (by omega)).mono ?_;rintro e w5 ⟨v5,rfl,hO5,hb5⟩;have hO6:MxO w5 w.heap.size w5.heap.size v5 (mxF r (c+d) (bsF c f g)):=hO5;go_wp2;exact hQ _ _ hb5 hO6
 ·intro x w hb hk hiv hdj;have h15:SlI w w.heap.size (x.v 15) (flat (c+d) r (blF c (fun a b=>f b a) (fun a b=>g b a))):=hk 15 (by decide) (by decide);have h16:∃ s,(x.v 16) = .agg #[.int .i64 ((c+d:Nat):Int),.int .i64 r,s]∧SlI w w.heap.size s (flat (c+d) r (blF c (fun a b=>f b a) (fun a b=>g b a))):=hk 16 (by decide) (by decide);have h17:MxO w (x.lo 17) (x.hi 17) (x.v 17) (mxF r (c+d) (bsF c f g)):=hk 17 (by decide) (by decide);simp only[netE,n_e (hk 0 (by decide) (by decide)),n_e (hk 1 (by decide) (by decide)),n_e (hk 2 (by decide) (by decide)),n_e (hk 3 (by decide) (by decide)),n_e (hk 4 (by decide) (by decide)),n_e (hk 5 (by decide) (by decide)),n_e (hk 6 (by decide) (by decide)),n_e (hk 8 (by decide) (by decide)),n_e (hk 12 (by decide) (by decide))];clear hk;have sz:=SZ.out;have kR:=k3.below hb k3.lt;obtain⟨l7,_,l7h⟩:=hiv 17 (by decide);obtain⟨A7,c7,e7⟩:=h17.form;simp only[mxF]at e7;rw[e7]at h17⊢;clear hiv hdj e7 h16 h15;obtain⟨N,hN⟩:=e_ ((flat r (c+d) (bsF c f g)).length);rw[hN]at h17⊢;obtain⟨p0,p1,p2⟩:=c_3 kR;have fr:=kR.frozen;have gX:=g0.trans (hb.mono g0.size);have gXs:=gX.size;have hbs:=hb.size;have h2:=chg3 w (w0.heap.size+1+1) (.int .i64 (r:Int)) (.int .i64 ((c+d:Nat):Int)) (.slice A7 N c7);have OF:=h_ ((h17.chg h2 (.inr (by omega))).wider (lo':=w0.heap.size) (hi':=w.heap.size) (by omega) (by omega));have GF:=h_ (gX.trans (h2.below (by omega) gXs));have e8:((c+d:Nat):Int)=(c:Int)+d:=by simp
  rw[e8]at OF GF;clear h17 h2 gX kR hN sz gXs hbs l7 l7h hb k1 k2 k3 e8;go_wp2;exact bodyPost_ret (v:=.agg #[.int .i64 (r:Int),.int .i64 ((c:Int)+d),.slice A7 N c7]) (by simp[results,go_sem,p0,p1,p2]) rfl ⟨_,rfl,OF.out.wider (l_ _) (by simp),GF.out⟩
theorem a7J (u:Value) (x:Rp) (v:Int) (w0:World) (hu:RpR w0 w0.heap.size u x) (hyes:inOk x v=true) :
  Calls Tryz.prog 21 #[u,.int .i64 v] w0 fun e w'=>∃ r,e = .returned (.tuple #[r,.bool (inP x v).2])∧MxO w' w0.heap.size w'.heap.size r (inP x v).1∧Below w0.heap.size w0 w':=by
 have hu':=hu;obtain⟨A,a,C,c,E,e,H,h,rfl,hq,hd,hm,hp,ld,lm⟩:=hu.open_;clear hu;obtain⟨W,hW,g0,kB,kR⟩:=b_4 w0 #[.int .i64 x.p,.int .i64 x.q.v,.slice A x.q.f.length a,.slice C x.q.t.length c,.slice E x.d.length e,.slice H x.m.length h] 29 #[.int .i64 0,.int .i64 0,.slice none 0 0] 41;have sz:W.heap.size=w0.heap.size+1+1:=by rw[hW];simp
 replace hq:=QvR.next g0 hq;replace hd:=SlI.next g0 hd;replace hm:=SlM.next g0 hm;have h1:f1_ x=true:=by simp only[inOk,l9_]at hyes;exact hyes.1
 have h2:endV x.q.f x.q v=true:=by simp only[inOk,l9_]at hyes;exact hyes.2
 have hq1:isQ x.q=true:=(b7_.1 (b8_.1 h1).2.1).1;obtain⟨n,D,rfl,hn,dn,hD,hD4,hn5⟩:=k5_ h1 h2;have HF:=h_ (E2_ hyes hD);have DN:=h_ dn;have H1:=h_ h1;have H2:=h_ h2;have HQ1:=h_ hq1;have SZ:=h_ sz;have hl6:x.q.f.length≤6:=(g4_.1 hq1).2.2.1;have HXR:=h_ (show RpR W W.heap.size (.agg #[.int .i64 x.p,.int .i64 x.q.v,.slice A x.q.f.length a,.slice C x.q.t.length c,.slice E x.d.length e,.slice H x.m.length h]) x from RpR.next g0 hu');have HQ:=h_ hq;have HD:=h_ hd;have HM:=h_ hm;have KB:=h_ kB;have KR:=h_ kR;have G0:=h_ g0;clear h1 h2 hq1 sz hD hyes hu' hm;obtain⟨c0,c1,c2,c3,c4,c5⟩:=c_6 kB;go_enter Tryz.func21,Tryz.ntmps21
 go_wp2_with fail
 rw[←hW];clear hW;refine (k6_ _ x _ HXR.out).mono ?_;rintro e w1 ⟨rfl,hb1⟩;rw[H1.out];replace kB:=kB.call hb1;replace hq:=QvR.next hb1 hq;have gW:=hb1;clear c0 c1 c2 c3 c4 c5 hb1;obtain⟨c0,c1,c2,c3,c4,c5⟩:=c_6 kB;go_wp2_with fail
 refine (B1_ _ x.q _ hq HQ1.out).mono ?_;rintro e w2a ⟨sv,rfl,hsv,hb1⟩;have H3:=h_ (show decide ((n:Int)∈b2_ x.q.f x.q.v.toNat)=true by rw[u2_ _ _ x.q _ (by have:=(g4_.1 HQ1.out).1;omega)];exact H2.out);replace kB:=kB.call hb1;replace gW:=a6_ gW hb1;clear c0 c1 c2 c3 c4 c5 hb1;obtain⟨c0,c1,c2,c3,c4,c5⟩:=c_6 kB;go_wp2_with fail
 refine (i6_ _ _ n _ hsv).mono ?_;rintro e w2 ⟨rfl,hb1⟩;rw[H3.out];clear hsv;replace kB:=kB.call hb1;replace gW:=a6_ gW hb1;clear c0 c1 c2 c3 c4 c5 hb1 hq;obtain⟨c0,c1,c2,c3,c4,c5⟩:=c_6 kB;have hd2:=SlI.more gW.size (SlI.below gW hd);obtain⟨be,oe,xe,rfl,hbe,HXE,xc,_⟩:=SlI.at_ hd2 hn;have ex:=HXE.out;rw[dn]at ex;injection ex with ex
 subst ex;clear hd hd2 HXE hbe;go_wp2_with fail
 refine (n4_ (D:Int) 0 _ (by omega) (by omega) (by omega) (by omega)).mono ?_;rintro e w3 ⟨v3,rfl,hZ,hb3⟩;rw[f2Q x n D]at hZ;obtain⟨MA,mc,e3⟩:=hZ.form;subst e3;have gW3:=a6_ gW hb3;have hs3:=hb3.size;have hs2:=gW.size;obtain⟨N3,hN3⟩:=e_ ((inM x n D 0).a.length);rw[hN3]at hZ⊢;obtain⟨W4,hW4,b4,k4⟩:=b_3 w3 #[.int .i64 (inM x n D 0).r,.int .i64 (inM x n D 0).c,.slice MA N3 mc] 41;have l4:w3.heap.size<W4.heap.size:=k4.lt;have kB4:=(kB.call hb3).call b4;have gW4:=a6_ gW3 b4;have hO:=(hZ.below b4).wider (lo':=W.heap.size) (hi':=W4.heap.size) (by omega) (by omega);clear c0 c1 c2 c3 c4 c5 xc hZ hb3 b4 gW gW3 kB hN3;obtain⟨c0,c1,c2,c3,c4,c5⟩:=c_6 kB4;rw[hW4]at c0 c1 c2 c3 c4 c5;go_wp2;rw[←hW4];clear hW4 c0 c1 c2 c3 c4 c5 kB4;go_loopw [7] (fun i wr=>∃ (k N mc:Nat) (MA:Option Addr),k≤x.q.f.length∧i = .int .i64 k∧Below W.heap.size W wr∧Blk wr w3.heap.size 41 #[.int .i64 (inM x n D k).r,.int .i64 (inM x n D k).c,.slice MA N mc]∧MxO wr W.heap.size wr.heap.size (.agg #[.int .i64 (inM x n D k).r,.int .i64 (inM x n D k).c,.slice MA N mc]) (inM x n D k)) (fun i _=>x.q.f.length-(intOf i).toNat)
 case atStart=>exact⟨0,_,_,_,l0_ _,rfl,gW4,k4,hO⟩
 case round =>
  clear k4 hO gW4;have hlen:x.q.t.length≤x.q.f.length:=by have:=(g4_.1 HQ1.out).2.1;omega
  obtain⟨k,N,mc,MA,hk,rfl,gW,k4,hO⟩:=hrel;have s6:=gW.size;have hml:x.m.length≤x.q.f.length:=by have:=(b8_.1 H1.out).2.2.1;omega
  have kBr:=(KB.out).below gW (KB.out).lt;obtain⟨c0,c1,c2,c3,c4,c5⟩:=c_6 kBr;by_cases hlt:k<x.q.f.length
  ·obtain⟨m,nf,nt,yf,yt,em,ef,et,df,dt,eM,_,b1,b2,b3,b4,b5,b6,b7,b8⟩:=g9_ H1.out hlt;obtain⟨hsf,hst⟩:=QvR.sl HQ.out;obtain⟨bf,of_,xf,rfl,hbf,HXF,f1,_⟩:=SlI.at_ hst b7;have q1:=HXF.out;rw[et]at q1;injection q1 with q1
   subst q1;have f2:=a7_ gW hbf f1;have hm:=HM.out;obtain⟨bm,om,m',MB,mb,rfl,hbm,HXM,x0,x1,x2,hsl,hr1,hr2,_⟩:=SlM.at_ hm b8;have q2:=HXM.out;rw[em]at q2;injection q2 with q2
   subst q2;have HMR:Hid (MxR W W.heap.size (.agg #[.int .i64 m.r,.int .i64 m.c,.slice MB m.a.length mb]) m):=⟨_,rfl,hsl,hr1,hr2⟩;have EF:=h_ et;have DF:=h_ dt;have EM:=h_ em;have EMX:=h_ eM;clear HXF HXM hsf hst hm hsl hr1 hr2 f1 em ef et df dt eM;by_cases hv:nt=n
   ·subst hv;have hR:=L6_ (v:=(nt:Int)) (C:=D) H1.out k hk;have hyD:yt=D:=by have:=DN.out;rw[DF.out]at this;injection this with this;omega
    subst hyD;have e1:=E0_ (R:=yt) EF.out EM.out (yf:=yf) (by rw[EMX.out];rfl);have e2:inM x nt yt (k+1)=mxF yt ((inS x nt yt k).1+yf) (bsF (inS x nt yt k).1 (inS x nt yt k).2 (q6_ m.a yf)):=by unfold inM;rw[e1]
    have E2:=h_ e2;have HR:=h_ hR;have gws:=gW.size;have hHO:=h_ hO;have x0':=a7_ gW hbm x0;have x1':=a7_ gW hbm x1;have x2':=a7_ gW hbm x2;have hbmw:bm<wr.heap.size:=by omega
    clear e1 e2 hR x0 x1 x2 hO;go_wp2;obtain⟨y,hy⟩:∃ y,y=x:=⟨_,rfl⟩;subst hy;refine a8_ (by kernel_rfl) [.eq (.agg #[.int .i64 (inM y nt yt k).r,.int .i64 (inM y nt yt k).c,.slice MA N mc]),.eq (.pointer (some ⟨w0.heap.size,5,none⟩)),.eq (.slice (some ⟨bm,om,none⟩) y.m.length h),.eq (.int .i64 k),.eq (.pointer (some ⟨bm,om+k*3,none⟩)),.eq (.agg #[.int .i64 m.r,.int .i64 m.c,.slice MB m.a.length mb]),rel 6 (fun u lo hi w=>MxO w lo hi u (inM y nt yt (k+1)))] [[],[],[1],[],[1,2,3],[1,2,3,4],[0,1,2,3,4,5],[0,1,2,3,4,5,6]] 7 (by kernel_rfl) ⟨trivial,trivial,trivial,trivial,trivial,trivial,a4_ (fun u lo hi w w' h hb=>h.below hb),trivial⟩ ⟨?_,?_,?_,?_,?_,?_,?_,trivial⟩ ?_;iterate 7 (intro x w hb hk Q' hQ;have he:=k_e hk;simp only[k_s]at he;simp only[netE]at hQ⊢;(try simp only[he]at hQ⊢);(try clear he);rotate_left)
    rotate_left
    ·clear hk;obtain⟨z0,z1,z2⟩:=c_3 (k4.call hb);go_wp2;exact hQ _ _ br_ rfl
    ·clear hk;go_wp2;exact hQ _ _ br_ rfl
    ·clear hk;have z5:=(kBr.call hb).cell' (i:=5) rfl;go_wp2;exact hQ _ _ br_ rfl
    iterate 2 (· clear hk;go_wp2;exact hQ _ _ br_ rfl)
    ·clear hk;have z0:=a7_ hb hbmw x0';have z1:=a7_ hb hbmw x1';have z2:=a7_ hb hbmw x2';go_wp2;exact hQ _ _ br_ rfl
    ·clear hk;have hmr:MxR w w.heap.size (.agg #[.int .i64 m.r,.int .i64 m.c,.slice MB m.a.length mb]) (mxF yt yf (q6_ m.a yf)):=by rw[←EMX.out];exact MxR.more (by have:=hb.size;omega) (MxR.below (gW.trans (hb.mono gws)) HMR.out)
     have HMRw:=h_ hmr;have HOw:=h_ ((hHO.out).below hb).rd;clear hmr;go_wp2_with fail
     refine (R4_ _ _ yt (inS y nt yt k).1 yf (inS y nt yt k).2 (q6_ m.a yf) _ HOw.out HMRw.out (by omega) (by have:=HR.out;omega) (by omega)).mono ?_;rintro e w5 ⟨v5,rfl,hO5,hb5⟩;rw[←E2.out]at hO5;go_wp2;exact hQ _ _ hb5 hO5
    ·intro x w hb hk hiv hdj;have h6:MxO w (x.lo 6) (x.hi 6) (x.v 6) (inM y nt yt (k+1)):=hk 6 (by decide);have he:=k_g hk [0,1,2,3,4,5];simp only[k_s]at he;simp only[netE,he];clear he hk;obtain⟨l6,_,l6h⟩:=hiv 6 (by decide);obtain⟨MA',mc',e6⟩:=h6.form;rw[e6]at h6⊢;obtain⟨N',hN'⟩:=e_ ((inM y nt yt (k+1)).a.length);rw[hN']at h6⊢;have k4w:=k4.call hb;obtain⟨p0,p1,p2⟩:=c_3 k4w;have fr:=k4w.frozen;have hbs:=hb.size;have K5:=h_ (((k4w.set_ 0 (.int .i64 (inM y nt yt (k+1)).r)).set_ 1 (.int .i64 (inM y nt yt (k+1)).c)).set_ 2 (.slice MA' N' mc'));have O5:=h_ ((((h6.setBlk (i:=0) k4w (by decide) (.int .i64 (inM y nt yt (k+1)).r)).setBlk (i:=1) (k4w.set_ 0 _) (by decide) (.int .i64 (inM y nt yt (k+1)).c)).setBlk (i:=2) ((k4w.set_ 0 _).set_ 1 _) (by decide) (.slice MA' N' mc')).wider (lo':=W.heap.size) (hi':=w.heap.size) (by omega) (by omega));have hc3:=chg3 w w3.heap.size (.int .i64 (inM y nt yt (k+1)).r) (.int .i64 (inM y nt yt (k+1)).c) (.slice MA' N' mc');have GW:=h_ ((gW.trans (hb.mono gws)).trans (hc3.below (B:=W.heap.size) (by omega) (by omega)));clear hiv hdj e6 h6 hc3 k4w hb gW kBr k4 hN';go_wp2;go_roundw
     case rel=>exact⟨k+1,N',mc',MA',by omega,by go_num,GW.out,K5.out,O5.out.wider (l_ _) (by simp)⟩
     case measure=>simp[intOf];omega
   ·have hne:((nt:Int) == n)=false:=by rw[beq_eq_false_iff_ne];omega
    have e1:=N6_ (C:=D) EF.out (show (nt:Int)≠n by omega);have e2:inM x n D (k+1)=inM x n D k:=by unfold inM;rw[e1]
    have E2:=h_ e2;have K4:=h_ k4;have HO:=h_ hO;have GW:=h_ gW;clear e1 e2 k4 hO gW kBr;go_wp2;go_roundw
    case rel=>exact⟨k+1,N,mc,MA,by omega,by go_num,GW.out,by rw[E2.out];exact K4.out,by rw[E2.out];exact HO.out⟩
    case measure=>simp[intOf];omega
  ·obtain rfl:k=x.q.f.length:=by omega
   have HF':=HF.out;have k2:=(KR.out).below gW (by have:=SZ.out;omega);obtain⟨z0,z1,z2⟩:=c_3 k4;obtain⟨p0,p1,p2⟩:=c_3 k2;have f2:=k2.frozen;have h2:=chg3 wr (w0.heap.size+1) (.int .i64 (inM x n D x.q.f.length).r) (.int .i64 (inM x n D x.q.f.length).c) (.slice MA N mc);have gw:Below w0.heap.size w0 wr:=(G0.out).trans (gW.mono (G0.out).size);have gs:=gw.size;have gws:=gW.size;have sz:=SZ.out;have oA2:=(hO.chg h2 (.inr (by omega))).wider (lo':=w0.heap.size) (hi':=wr.heap.size) (by omega) (l_ _);have fg:=gw.trans (h2.below (by omega) gs);have OA2:=h_ oA2;have FG:=h_ fg;have HFF:=h_ HF';clear hO oA2 fg gw h2 k2 k4 gW sz gws HF';go_wp2;exact bodyPost_ret (v:=.tuple #[.agg #[.int .i64 (inM x n D x.q.f.length).r,.int .i64 (inM x n D x.q.f.length).c,.slice MA N mc],.bool true]) (by simp[results,go_sem,p0,p1,p2]) rfl ⟨_,by rw[(HFF.out:_)],by rw[(HFF.out:_)];exact OA2.out.wider (l_ _) (by simp),FG.out⟩
theorem i2_ (u:Value) (x:Rp) (v:Int) (w0:World) (hu:RpR w0 w0.heap.size u x) (hv:I64 v) :
  Calls Tryz.prog 21 #[u,.int .i64 v] w0 fun e w'=>∃ r,e = .returned (.tuple #[r,.bool (inP x v).2])∧MxO w' w0.heap.size w'.heap.size r (inP x v).1∧Below w0.heap.size w0 w':=by
 rcases h:inOk x v with _ | _
 ·exact b7j u x v w0 hu h
 ·exact a7J u x v w0 hu h
theorem a0x (u:Value) (x:Rp) (v:Int) (w0:World) (hu:RpR w0 w0.heap.size u x) (hyes:k0_ x v=true) :
  Calls Tryz.prog 23 #[u,.int .i64 v] w0 fun e w'=>∃ r,e = .returned (.tuple #[r,.bool (outP x v).2])∧MxO w' w0.heap.size w'.heap.size r (outP x v).1∧Below w0.heap.size w0 w':=by
 have hu':=hu;obtain⟨A,a,C,c,E,e,H,h,rfl,hq,hd,hm,hp,ld,lm⟩:=hu.open_;clear hu;obtain⟨W,hW,g0,kB,kR⟩:=b_4 w0 #[.int .i64 x.p,.int .i64 x.q.v,.slice A x.q.f.length a,.slice C x.q.t.length c,.slice E x.d.length e,.slice H x.m.length h] 29 #[.int .i64 0,.int .i64 0,.slice none 0 0] 41;have sz:W.heap.size=w0.heap.size+1+1:=by rw[hW];simp
 replace hq:=QvR.next g0 hq;replace hd:=SlI.next g0 hd;replace hm:=SlM.next g0 hm;have h1:f1_ x=true:=by simp only[k0_,l9_]at hyes;exact hyes.1
 have h2:endV x.q.t x.q v=true:=by simp only[k0_,l9_]at hyes;exact hyes.2
 have hq1:isQ x.q=true:=(b7_.1 (b8_.1 h1).2.1).1;obtain⟨n,D,rfl,hn,dn,hD,hD4,hn5⟩:=k5_ h1 h2;have HF:=h_ (y5_ hyes hD);have DN:=h_ dn;have H1:=h_ h1;have H2:=h_ h2;have HQ1:=h_ hq1;have SZ:=h_ sz;have hl6:x.q.f.length≤6:=(g4_.1 hq1).2.2.1;have HXR:=h_ (show RpR W W.heap.size (.agg #[.int .i64 x.p,.int .i64 x.q.v,.slice A x.q.f.length a,.slice C x.q.t.length c,.slice E x.d.length e,.slice H x.m.length h]) x from RpR.next g0 hu');have HQ:=h_ hq;have HD:=h_ hd;have HM:=h_ hm;have KB:=h_ kB;have KR:=h_ kR;have G0:=h_ g0;clear h1 h2 hq1 sz hD hyes hu' hm;obtain⟨c0,c1,c2,c3,c4,c5⟩:=c_6 kB;go_enter Tryz.func23,Tryz.ntmps23
 go_wp2_with fail
 rw[←hW];clear hW;refine (k6_ _ x _ HXR.out).mono ?_;rintro e w1 ⟨rfl,hb1⟩;rw[H1.out];replace kB:=kB.call hb1;replace hq:=QvR.next hb1 hq;have gW:=hb1;clear c0 c1 c2 c3 c4 c5 hb1;obtain⟨c0,c1,c2,c3,c4,c5⟩:=c_6 kB;go_wp2_with fail
 refine (q8_ _ x.q _ hq HQ1.out).mono ?_;rintro e w2a ⟨sv,rfl,hsv,hb1⟩;have H3:=h_ (show decide ((n:Int)∈b2_ x.q.t x.q.v.toNat)=true by rw[u2_ _ _ x.q _ (by have:=(g4_.1 HQ1.out).1;omega)];exact H2.out);replace kB:=kB.call hb1;replace gW:=a6_ gW hb1;clear c0 c1 c2 c3 c4 c5 hb1;obtain⟨c0,c1,c2,c3,c4,c5⟩:=c_6 kB;go_wp2_with fail
 refine (i6_ _ _ n _ hsv).mono ?_;rintro e w2 ⟨rfl,hb1⟩;rw[H3.out];clear hsv;replace kB:=kB.call hb1;replace gW:=a6_ gW hb1;clear c0 c1 c2 c3 c4 c5 hb1 hq;obtain⟨c0,c1,c2,c3,c4,c5⟩:=c_6 kB;have hd2:=SlI.more gW.size (SlI.below gW hd);obtain⟨be,oe,xe,rfl,hbe,HXE,xc,_⟩:=SlI.at_ hd2 hn;have ex:=HXE.out;rw[dn]at ex;injection ex with ex
 subst ex;clear hd hd2 HXE hbe;go_wp2_with fail
 refine (n4_ 0 (D:Int) _ (by omega) (by omega) (by omega) (by omega)).mono ?_;rintro e w3 ⟨v3,rfl,hZ,hb3⟩;rw[d2Z x n D]at hZ;obtain⟨MA,mc,e3⟩:=hZ.form;subst e3;have gW3:=a6_ gW hb3;have hs3:=hb3.size;have hs2:=gW.size;obtain⟨N3,hN3⟩:=e_ ((outM x n D 0).a.length);rw[hN3]at hZ⊢;obtain⟨W4,hW4,b4,k4⟩:=b_3 w3 #[.int .i64 (outM x n D 0).r,.int .i64 (outM x n D 0).c,.slice MA N3 mc] 41;have l4:w3.heap.size<W4.heap.size:=k4.lt;have kB4:=(kB.call hb3).call b4;have gW4:=a6_ gW3 b4;have hO:=(hZ.below b4).wider (lo':=W.heap.size) (hi':=W4.heap.size) (by omega) (by omega);clear c0 c1 c2 c3 c4 c5 xc hZ hb3 b4 gW gW3 kB hN3;obtain⟨c0,c1,c2,c3,c4,c5⟩:=c_6 kB4;rw[hW4]at c0 c1 c2 c3 c4 c5;go_wp2;rw[←hW4];clear hW4 c0 c1 c2 c3 c4 c5 kB4;go_loopw [7] (fun i wr=>∃ (k N mc:Nat) (MA:Option Addr),k≤x.q.f.length∧i = .int .i64 k∧Below W.heap.size W wr∧Blk wr w3.heap.size 41 #[.int .i64 (outM x n D k).r,.int .i64 (outM x n D k).c,.slice MA N mc]∧MxO wr W.heap.size wr.heap.size (.agg #[.int .i64 (outM x n D k).r,.int .i64 (outM x n D k).c,.slice MA N mc]) (outM x n D k)) (fun i _=>x.q.f.length-(intOf i).toNat)
 case atStart=>exact⟨0,_,_,_,l0_ _,rfl,gW4,k4,hO⟩
 case round =>
  clear k4 hO gW4;obtain⟨k,N,mc,MA,hk,rfl,gW,k4,hO⟩:=hrel;have s6:=gW.size;have hml:x.m.length≤x.q.f.length:=by have:=(b8_.1 H1.out).2.2.1;omega
  have kBr:=(KB.out).below gW (KB.out).lt;obtain⟨c0,c1,c2,c3,c4,c5⟩:=c_6 kBr;by_cases hlt:k<x.q.f.length
  ·obtain⟨m,nf,nt,yf,yt,em,ef,et,df,dt,eM,_,b1,b2,b3,b4,b5,b6,b7,b8⟩:=g9_ H1.out hlt;obtain⟨hsf,hst⟩:=QvR.sl HQ.out;obtain⟨bf,of_,xf,rfl,hbf,HXF,f1,_⟩:=SlI.at_ hsf hlt;have q1:=HXF.out;rw[ef]at q1;injection q1 with q1
   subst q1;have f2:=a7_ gW hbf f1;have hm:=HM.out;obtain⟨bm,om,m',MB,mb,rfl,hbm,HXM,x0,x1,x2,hsl,hr1,hr2,_⟩:=SlM.at_ hm b8;have q2:=HXM.out;rw[em]at q2;injection q2 with q2
   subst q2;have HMR:Hid (MxR W W.heap.size (.agg #[.int .i64 m.r,.int .i64 m.c,.slice MB m.a.length mb]) m):=⟨_,rfl,hsl,hr1,hr2⟩;have EF:=h_ ef;have DF:=h_ df;have EM:=h_ em;have EMX:=h_ eM;clear HXF HXM hsf hst hm hsl hr1 hr2 f1 em ef et df dt eM;by_cases hv:nf=n
   ·subst hv;have hR:=B0_ (v:=(nf:Int)) (C:=D) H1.out k hk;have hyD:yf=D:=by have:=DN.out;rw[DF.out]at this;injection this with this;omega
    subst hyD;have e1:=y6_ (C:=yf) EF.out EM.out (yt:=yt) (by rw[EMX.out];rfl);have e2:outM x nf yf (k+1)=mxF ((outS x nf yf k).1+yt) yf (blF (outS x nf yf k).1 (outS x nf yf k).2 (q6_ m.a yf)):=by unfold outM;rw[e1]
    have E2:=h_ e2;have HR:=h_ hR;have gws:=gW.size;have hHO:=h_ hO;have x0':=a7_ gW hbm x0;have x1':=a7_ gW hbm x1;have x2':=a7_ gW hbm x2;have hbmw:bm<wr.heap.size:=by omega
    clear e1 e2 hR x0 x1 x2 hO;have hMr:(outM x nf yf k).r=((outS x nf yf k).1:Nat):=rfl;have hMc:(outM x nf yf k).c=(yf:Int):=rfl;rw[hMr,hMc]at k4 hHO;obtain⟨R0,hR0⟩:=e_ ((outS x nf yf k).1);rw[hR0]at k4 hHO;have hR24:R0≤24:=by have:=HR.out;omega
    have hmr:m.r=(yt:Int):=by rw[EMX.out];rfl
    rw[hmr]at x0';have HR0:=h_ hR0;have E3:=h_ (show (outM x nf yf k).a ++ m.a=(outM x nf yf (k+1)).a by
     rw[E2.out];have e5:m.a=flat yt yf (q6_ m.a yf):=congrArg Mx.a EMX.out;show flat _ _ _ ++ m.a=flat _ _ _;rw[←a4J,←e5])
    have E4:Hid ((outM x nf yf (k+1)).r=(R0:Int)+yt∧(outM x nf yf (k+1)).c=(yf:Int)):=by
     show _∧_;rw[E2.out,←hR0];exact⟨by simp[mxF],rfl⟩
    have HLN:Hid ((outM x nf yf k).a.length+m.a.length≤1000):=by
     show _≤_;rw[←List.length_append,E3.out,E2.out];simp only[mxF,a0_];exact Nat.le_trans (Nat.mul_le_mul (show _≤100 by omega) (show _≤4 by omega)) (by decide)
    clear hMr hMc hR0 hmr;go_wp2;obtain⟨y,hy⟩:∃ y,y=x:=⟨_,rfl⟩;subst hy;refine o5_ (by kernel_rfl) [.eq (.pointer (some ⟨w3.heap.size,0,none⟩)),.eq (.int .i64 R0),.eq (.pointer (some ⟨w0.heap.size,5,none⟩)),.eq (.slice (some ⟨bm,om,none⟩) y.m.length h),.eq (.int .i64 k),.eq (.pointer (some ⟨bm,om+k*3,none⟩)),.eq (.pointer (some ⟨bm,om+k*3,none⟩)),.eq (.int .i64 yt),.eq (.int .i64 ((R0:Int)+yt)),.eq (.pointer (some ⟨w3.heap.size,1,none⟩)),.eq (.int .i64 yf),rel 11 (fun u lo hi w=>n0_ w wr.heap.size u),.eq (.pointer (some ⟨w3.heap.size,2,none⟩)),.eq (.slice MA N mc),rel 14 (fun u lo hi w=>OwnI w wr.heap.size u (outM y nf yf k).a),.eq (.pointer (some ⟨w0.heap.size,5,none⟩)),.eq (.slice (some ⟨bm,om,none⟩) y.m.length h),.eq (.int .i64 k),.eq (.pointer (some ⟨bm,om+k*3,none⟩)),.eq (.pointer (some ⟨bm,om+k*3+2,none⟩)),.eq (.slice MB m.a.length mb),rel 21 (fun u lo hi w=>OwnI w wr.heap.size u ((outM y nf yf k).a ++ m.a)),rel 22 (fun u lo hi w=>∃ s,u = .agg #[.int .i64 (outM y nf yf (k+1)).r,.int .i64 (outM y nf yf (k+1)).c,s]∧OwnI w wr.heap.size s (outM y nf yf (k+1)).a)] [[],[0],[],[2],[],[2,3,4],[2,3,4,5],[2,3,4,5,6],[0,1,2,3,4,5,6,7],[],[9],[],[],[12],[11,12,13],[],[15],[],[15,16,17],[15,16,17,18],[15,16,17,18,19],[11,12,13,14,15,16,17,18,19,20],[0,1,2,3,4,5,6,7,8,9,10,11,12,13,14,15,16,17,18,19,20,21],[0,1,2,3,4,5,6,7,8,9,10,11,12,13,14,15,16,17,18,19,20,21,22]] [[],[0],[],[2],[],[2,3,4],[2,3,4,5],[2,3,4,5,6],[0,1,2,3,4,5,6,7],[],[9],[],[],[12],[11,12,13],[],[15],[],[15,16,17],[15,16,17,18],[15,16,17,18,19],[11,12,13,14,15,16,17,18,19,20],[0,1,2,3,4,5,6,7,8,9,10,12,13,15,16,17,18,19,20,21]] [0,1,2,3,4,5,6,7,8,9,10,12,13,15,16,17,18,19,20,21,22] 23 21 (by kernel_rfl) (by kernel_rfl) ⟨.inr (.inr ⟨_,rfl⟩),.inr (.inr ⟨_,rfl⟩),.inr (.inr ⟨_,rfl⟩),.inr (.inr ⟨_,rfl⟩),.inr (.inr ⟨_,rfl⟩),.inr (.inr ⟨_,rfl⟩),.inr (.inr ⟨_,rfl⟩),.inr (.inr ⟨_,rfl⟩),.inr (.inr ⟨_,rfl⟩),.inr (.inr ⟨_,rfl⟩),.inr (.inr ⟨_,rfl⟩),.inr (.inr ⟨_,rfl⟩),.inr (.inr ⟨_,rfl⟩),.inr (.inr ⟨_,rfl⟩),.inr (.inr ⟨_,rfl⟩),.inr (.inr ⟨_,rfl⟩),.inr (.inr ⟨_,rfl⟩),.inr (.inr ⟨_,rfl⟩),.inr (.inr ⟨_,rfl⟩),.inl rfl,.inr (.inl rfl),trivial⟩ ⟨trivial,trivial,trivial,trivial,trivial,trivial,trivial,trivial,trivial,trivial,trivial,a4_ (fun u lo hi w w' h hb=>h.below hb),trivial,trivial,a4_ (fun u lo hi w w' h hb=>h.below hb),trivial,trivial,trivial,trivial,trivial,trivial,a4_ (fun u lo hi w w' h hb=>h.below hb),a4_ (fun u lo hi w w' ⟨s,e,h⟩ hb=>⟨s,e,h.below hb⟩),trivial⟩ ⟨?_,?_,?_,?_,?_,?_,?_,?_,?_,?_,?_,?_,?_,?_,?_,?_,?_,?_,?_,?_,?_,?_,?_,trivial⟩ ?_;iterate 23 (intro x w hb hk Q' hQ;have he:=k_e hk;simp only[k_s]at he;simp only[netE]at hQ⊢;(try simp only[he]at hQ⊢);(try clear he);rotate_left)
    rotate_left
    ·clear hk;go_wp2;exact hQ _ _ br_ rfl
    ·clear hk;have z0:=(k4.below hb k4.lt).cell' (i:=0) rfl;go_wp2;exact hQ _ _ br_ rfl
    ·clear hk;go_wp2;exact hQ _ _ br_ rfl
    ·clear hk;have z5:=(kBr.below hb kBr.lt).cell' (i:=5) rfl;go_wp2;exact hQ _ _ br_ rfl
    iterate 3 (· clear hk;go_wp2;exact hQ _ _ br_ rfl)
    ·clear hk;have z0:=a7_ hb hbmw x0';go_wp2;exact hQ _ _ br_ rfl
    iterate 2 (· clear hk;go_wp2;exact hQ _ _ br_ rfl)
    ·clear hk;have z0:=(k4.below hb k4.lt).cell' (i:=1) rfl;go_wp2;exact hQ _ _ br_ rfl
    ·clear hk;go_wp2;exact hQ _ _ (a2_ _ _) (n0_.new _ hb.size)
    ·clear hk;go_wp2;exact hQ _ _ br_ rfl
    ·clear hk;have z0:=(k4.below hb k4.lt).cell' (i:=2) rfl;go_wp2;exact hQ _ _ br_ rfl
    ·have h11:n0_ w wr.heap.size (x.v 11):=(hk 11 (by decide)).1;have s11:=(hk 11 (by decide)).2;clear hk;obtain⟨g7,e7,hg7,hB7⟩:=h11;obtain⟨s0,e0,hs0,_⟩:=((hHO.out).below hb).rd;simp only[Value.agg.injEq,Array.mk.injEq,List.cons.injEq,and_true]at e0;obtain⟨_,_,rfl⟩:=e0;obtain⟨A1,c1,e1⟩:=hs0.app_len;injection e1 with q1 q2 q3
     subst q1 q3;rw[q2]at hs0;rw[e7,q2]at hQ⊢;refine c5_ (by rfl) (.tmp 52) (.tmp 54) (by rfl) g7 wr.heap.size w.heap.size #[] (by rfl) hB7 rfl hg7 _ _ (outM y nf yf k).a (by rfl) hs0 ?_;intro v' w' ho hb';exact hQ _ _ hb' ho
    ·clear hk;go_wp2;exact hQ _ _ br_ rfl
    ·clear hk;have z5:=(kBr.below hb kBr.lt).cell' (i:=5) rfl;go_wp2;exact hQ _ _ br_ rfl
    iterate 3 (· clear hk;go_wp2;exact hQ _ _ br_ rfl)
    ·clear hk;have z2:=a7_ hb hbmw x2';go_wp2;exact hQ _ _ br_ rfl
    ·have h11:n0_ w wr.heap.size (x.v 11):=(hk 11 (by decide)).1;have h14:OwnI w wr.heap.size (x.v 14) (outM y nf yf k).a:=(hk 14 (by decide)).1;have s11:=(hk 11 (by decide)).2;have s14:=(hk 14 (by decide)).2;clear hk;obtain⟨s0,e0,hs0,_⟩:=HMR.out;simp only[Value.agg.injEq,Array.mk.injEq,List.cons.injEq,and_true,true_and]at e0;subst e0;have hs1:=SlI.more (show W.heap.size≤w.heap.size by have:=hb.size;omega) (SlI.below (gW.trans (hb.mono gws)) hs0);have hlo:=h14.lt;refine c3_ (by rfl) (.tmp 55) (.tmp 61) (by rfl) wr.heap.size w.heap.size _ _ (by rfl) h14 MB _ mb m.a (by rfl) rfl hs1 (by have:=HLN.out;omega) hb.size ?_;intro v' w' h1 h2 h3;exact hQ v' w' (b9_ h2 (fun k hk=>(hlo k hk).1) hb.size) h1
    ·have h21:OwnI w wr.heap.size (x.v 21) ((outM y nf yf k).a ++ m.a):=(hk 21 (by decide)).1;have s21:=(hk 21 (by decide)).2;clear hk;rw[E3.out]at h21;have H21:=h_ h21;obtain⟨A21,c21,e21,_,_⟩:=h21.form;rw[e21]at H21 hQ⊢;clear h21 e21;go_wp2;have he:(Value.agg #[.int .i64 ((R0:Int)+yt),.int .i64 yf,.slice A21 (outM y nf yf (k+1)).a.length c21]) = .agg #[.int .i64 (outM y nf yf (k+1)).r,.int .i64 (outM y nf yf (k+1)).c,.slice A21 (outM y nf yf (k+1)).a.length c21]:=by rw[E4.out.1,E4.out.2]
     exact hQ _ w br_ ⟨_,he,H21.out⟩
    ·intro x w hb hk hiv hdj;have h21:OwnI w wr.heap.size (x.v 21) ((outM y nf yf k).a ++ m.a):=hk 21 (by decide) (by decide);have h22:∃ s,(x.v 22) = .agg #[.int .i64 (outM y nf yf (k+1)).r,.int .i64 (outM y nf yf (k+1)).c,s]∧OwnI w wr.heap.size s (outM y nf yf (k+1)).a:=hk 22 (by decide) (by decide);simp only[netE,n_e (hk 0 (by decide) (by decide)),n_e (hk 1 (by decide) (by decide)),n_e (hk 2 (by decide) (by decide)),n_e (hk 3 (by decide) (by decide)),n_e (hk 4 (by decide) (by decide)),n_e (hk 5 (by decide) (by decide)),n_e (hk 6 (by decide) (by decide)),n_e (hk 7 (by decide) (by decide)),n_e (hk 8 (by decide) (by decide)),n_e (hk 9 (by decide) (by decide)),n_e (hk 10 (by decide) (by decide)),n_e (hk 12 (by decide) (by decide)),n_e (hk 13 (by decide) (by decide)),n_e (hk 15 (by decide) (by decide)),n_e (hk 16 (by decide) (by decide)),n_e (hk 17 (by decide) (by decide)),n_e (hk 18 (by decide) (by decide)),n_e (hk 19 (by decide) (by decide)),n_e (hk 20 (by decide) (by decide))];clear hk;obtain⟨s22,e6,hs22⟩:=h22;obtain⟨MA',mc',es22,_,_⟩:=hs22.form;subst es22;have hI1:I64 (outM y nf yf (k+1)).r:=by rw[E4.out.1];simp only[I64];omega
     have hI2:I64 (outM y nf yf (k+1)).c:=by rw[E4.out.2];simp only[I64];omega
     have h6:MxO w wr.heap.size w.heap.size (.agg #[.int .i64 (outM y nf yf (k+1)).r,.int .i64 (outM y nf yf (k+1)).c,.slice MA' (outM y nf yf (k+1)).a.length mc']) (outM y nf yf (k+1)):=⟨_,rfl,a9_.of_own hs22,hI1,hI2⟩;rw[e6];clear hs22 hI1 hI2 h21;obtain⟨N',hN'⟩:=e_ ((outM y nf yf (k+1)).a.length);rw[hN']at h6⊢;have k4w:=k4.below hb k4.lt;obtain⟨p0,p1,p2⟩:=c_3 k4w;have fr:=k4w.frozen;have hbs:=hb.size;have K5:=h_ (((k4w.set_ 0 (.int .i64 (outM y nf yf (k+1)).r)).set_ 1 (.int .i64 (outM y nf yf (k+1)).c)).set_ 2 (.slice MA' N' mc'));have O5:=h_ ((((h6.setBlk (i:=0) k4w (by decide) (.int .i64 (outM y nf yf (k+1)).r)).setBlk (i:=1) (k4w.set_ 0 _) (by decide) (.int .i64 (outM y nf yf (k+1)).c)).setBlk (i:=2) ((k4w.set_ 0 _).set_ 1 _) (by decide) (.slice MA' N' mc')).wider (lo':=W.heap.size) (hi':=w.heap.size) (by omega) (by omega));have hc3:=chg3 w w3.heap.size (.int .i64 (outM y nf yf (k+1)).r) (.int .i64 (outM y nf yf (k+1)).c) (.slice MA' N' mc');have GW:=h_ ((gW.trans (hb.mono gws)).trans (hc3.below (B:=W.heap.size) (by omega) (by omega)));clear hiv hdj e6 h6 hc3 k4w hb gW kBr k4 hN';go_wp2;go_roundw
     case rel=>exact⟨k+1,N',mc',MA',by omega,by go_num,GW.out,K5.out,O5.out.wider (l_ _) (by simp)⟩
     case measure=>simp[intOf];omega
   ·have hne:((nf:Int) == n)=false:=by rw[beq_eq_false_iff_ne];omega
    have e1:=D0_ (C:=D) EF.out (show (nf:Int)≠n by omega);have e2:outM x n D (k+1)=outM x n D k:=by unfold outM;rw[e1]
    have E2:=h_ e2;have K4:=h_ k4;have HO:=h_ hO;have GW:=h_ gW;clear e1 e2 k4 hO gW kBr;go_wp2;go_roundw
    case rel=>exact⟨k+1,N,mc,MA,by omega,by go_num,GW.out,by rw[E2.out];exact K4.out,by rw[E2.out];exact HO.out⟩
    case measure=>simp[intOf];omega
  ·obtain rfl:k=x.q.f.length:=by omega
   have HF':=HF.out;have k2:=(KR.out).below gW (by have:=SZ.out;omega);obtain⟨z0,z1,z2⟩:=c_3 k4;obtain⟨p0,p1,p2⟩:=c_3 k2;have f2:=k2.frozen;have h2:=chg3 wr (w0.heap.size+1) (.int .i64 (outM x n D x.q.f.length).r) (.int .i64 (outM x n D x.q.f.length).c) (.slice MA N mc);have gw:Below w0.heap.size w0 wr:=(G0.out).trans (gW.mono (G0.out).size);have gs:=gw.size;have gws:=gW.size;have sz:=SZ.out;have oA2:=(hO.chg h2 (.inr (by omega))).wider (lo':=w0.heap.size) (hi':=wr.heap.size) (by omega) (l_ _);have fg:=gw.trans (h2.below (by omega) gs);have OA2:=h_ oA2;have FG:=h_ fg;have HFF:=h_ HF';clear hO oA2 fg gw h2 k2 k4 gW sz gws HF';go_wp2;exact bodyPost_ret (v:=.tuple #[.agg #[.int .i64 (outM x n D x.q.f.length).r,.int .i64 (outM x n D x.q.f.length).c,.slice MA N mc],.bool true]) (by simp[results,go_sem,p0,p1,p2]) rfl ⟨_,by rw[(HFF.out:_)],by rw[(HFF.out:_)];exact OA2.out.wider (l_ _) (by simp),FG.out⟩
theorem i3_ (u:Value) (x:Rp) (v:Int) (w0:World) (hu:RpR w0 w0.heap.size u x) (hv:I64 v) :
  Calls Tryz.prog 23 #[u,.int .i64 v] w0 fun e w'=>∃ r,e = .returned (.tuple #[r,.bool (outP x v).2])∧MxO w' w0.heap.size w'.heap.size r (outP x v).1∧Below w0.heap.size w0 w':=by
 rcases h:k0_ x v with _ | _
 ·exact a6x u x v w0 hu h
 ·exact a0x u x v w0 hu h
theorem D8_ {x:Rp} {v:Int} {n C:Nat} (hx:f1_ x=true) (hv:v=n) (hC:x.d[n]?=some (C:Int)):∀ k,k≤x.q.f.length→InF x.p C (inS x v C k).1 (inS x v C k).2
 | 0,_=>fun a b _ hb=>by simp[inS]at hb
 | k+1,hk=>by
  have ih:=D8_ hx hv hC k (by omega);obtain⟨m,nf,nt,yf,yt,em,ef,et,df,dt,eM,hr,b1,b2,_⟩:=g9_ hx (show k<x.q.f.length by omega);by_cases h:(nt:Int)=v
  ·have hnt:nt=n:=by omega
   rw[hnt,hC]at dt;injection dt with dt
   rw[h]at et;rw[E0_ et em (yf:=yf) (by rw[eM];rfl)];intro a b ha hb;simp only[bsF]at hb⊢;split
   ·exact ih a b ha (by assumption)
   ·exact hr a _ (by omega) (by omega)
  ·rw[N6_ et h];exact ih
theorem v0_ {x:Rp} {v:Int} {n C:Nat} (hx:f1_ x=true) (hv:v=n) (hC:x.d[n]?=some (C:Int)):∀ k,k≤x.q.f.length→InF x.p (outS x v C k).1 C (outS x v C k).2
 | 0,_=>fun a b ha _=>by simp[outS]at ha
 | k+1,hk=>by
  have ih:=v0_ hx hv hC k (by omega);obtain⟨m,nf,nt,yf,yt,em,ef,et,df,dt,eM,hr,b1,b2,_⟩:=g9_ hx (show k<x.q.f.length by omega);by_cases h:(nf:Int)=v
  ·have hnf:nf=n:=by omega
   rw[hnf,hC]at df;injection df with df
   rw[h]at ef;rw[y6_ ef em (yt:=yt) (by rw[eM];rfl)];obtain rfl:yf=C:=by omega
   intro a b ha hb;simp only[blF]at ha⊢;split
   ·exact ih a b (by assumption) hb
   ·exact hr _ b (by omega) (by omega)
  ·rw[D0_ ef h];exact ih
def hsIn (x:Rp) (v:Int):Bool:=inOk x v && decide ((rkF x.p (dAt x.d v).toNat (inS x v (dAt x.d v).toNat x.q.f.length).1 (inS x v (dAt x.d v).toNat x.q.f.length).2:Int)<dAt x.d v)
def s9_ (x:Rp) (v:Int):Bool:=k0_ x v && decide ((rkF x.p (outS x v (dAt x.d v).toNat x.q.f.length).1 (dAt x.d v).toNat (outS x v (dAt x.d v).toNat x.q.f.length).2:Int)<dAt x.d v)
theorem v2_ (u:Value) (x:Rp) (v:Int) (w0:World) (hu:RpR w0 w0.heap.size u x) (hv:I64 v) :
  Calls Tryz.prog 8 #[u,.int .i64 v] w0 fun e w'=>e = .returned (.bool (hsIn x v))∧Below w0.heap.size w0 w':=by
 have hu':=hu;obtain⟨A,a,C,c,E,e,H,h,rfl,hq,hd,hm,hp,ld,lm⟩:=hu.open_;clear hu hq hm lm;obtain⟨W,hW,g0,kB⟩:=b_3 w0 #[.int .i64 x.p,.int .i64 x.q.v,.slice A x.q.f.length a,.slice C x.q.t.length c,.slice E x.d.length e,.slice H x.m.length h] 29;have HXR:=h_ (RpR.next g0 hu');replace hd:=SlI.next g0 hd;obtain⟨c0,c1,c2,c3,c4,c5⟩:=c_6 kB;rcases hok:inOk x v with _ | _
 ·have HF:=h_ (show hsIn x v=false by simp[hsIn,hok]);have hP:inP x v=(mx0,false):=by simp[inP,hok]
  have HPP:=h_ hP;have HV:=h_ hv;clear hok hP hv hd kB;go_enter Tryz.func8,Tryz.ntmps8
  go_wp2_with fail
  rw[←hW];clear hW;refine (i1_ _ x v _ HXR.out HV.out).mono ?_;rintro e w1 ⟨r1,rfl,hM,hb1⟩;rw[HPP.out]at hM⊢;obtain⟨MA,mc,em⟩:=hM.form;subst em;have g1:=a6_ g0 hb1;simp only[mx0];clear hM hb1 g0 c0 c1 c2 c3 c4 c5;go_wp2
  (refine c7_ (by kernel_rfl) (by kernel_rfl) ?_;(repeat (go_big_quiet_step (fail)));refine wpQuiet_nil ?_;intro w1 hw';obtain⟨s1,hw1⟩:=hw';have hb1:=s1.below;rw[←hw1]at hb1;clear hw1 s1)
  go_wp2;go_ret
  exact⟨by rw[HF.out];rfl,(g1.alloc g1.size _).trans (hb1.mono (by have:=g1.size;simp;omega))⟩
 ·have hx1:f1_ x=true:=by simp only[inOk,l9_]at hok;exact hok.1
  have hx2:endV x.q.f x.q v=true:=by simp only[inOk,l9_]at hok;exact hok.2
  obtain⟨n,D,hvn,hn,dn,hD,hD4,hn5⟩:=k5_ hx1 hx2;have hin:=D8_ (C:=D) hx1 hvn dn x.q.f.length (l_ _);have hcl:=L6_ (v:=v) (C:=D) hx1 x.q.f.length (l_ _);have hlf:x.q.f.length≤6:=(g4_.1 (b7_.1 (b8_.1 hx1).2.1).1).2.2.1;have hfld:=(b8_.1 hx1).1;have hPY:=E2_ hok hD;have hF:hsIn x v=decide ((rkF x.p (D) ((inS x v D x.q.f.length).1) ((inS x v D x.q.f.length).2):Int)<(D:Int)):=by simp only[hsIn,hok,Bool.true_and,hD,l5_]
  obtain⟨rk,hrk⟩:=e_ (rkF x.p (D) ((inS x v D x.q.f.length).1) ((inS x v D x.q.f.length).2));rw[hrk]at hF;obtain⟨Mm,hMm⟩:=e_ (inM x v D x.q.f.length);have hMm2:Mm=mxF (D) ((inS x v D x.q.f.length).1) ((inS x v D x.q.f.length).2):=hMm.symm;rw[hMm]at hPY;obtain⟨R0,hR0⟩:=e_ ((D));obtain⟨C0,hC0⟩:=e_ (((inS x v D x.q.f.length).1));obtain⟨F0,hF0⟩:=e_ (((inS x v D x.q.f.length).2));rw[hF0]at hrk hMm2;first | rw[hC0,hR0]at hrk hMm2 | rw[hR0,hC0]at hrk hMm2
  have hin2:InF x.p R0 C0 F0:=by rw[←hR0,←hC0,←hF0];exact hin
  have hR1:R0≤1000:=by rw[←hR0];omega
  have hC1:C0≤1000:=by rw[←hC0];omega
  have hrb:=s3_ x.p R0 C0 F0;rw[hrk]at hrb;subst hvn;have HF:=h_ hF;have hF2:hsIn x n=decide (rk<D):=hF.trans (decide_eq_decide.2 (by omega));have HF2:=h_ hF2;clear hF2;have HRK:=h_ hrk;have HIN:=h_ hin2;have HFL:=h_ hfld;have HPY:=h_ hPY;have HMM:=h_ hMm2;have HV:=h_ hv;obtain⟨be,oe,xe,eE,hbe,HXE,xc,_⟩:=SlI.at_ hd hn;subst eE;have ex:=HXE.out;rw[dn]at ex;injection ex with ex
  subst ex;clear hF hrk hin hin2 hPY hMm hMm2 hR0 hC0 hF0 hok hx1 hx2 dn hD hv hcl hfld HXE hd;go_enter Tryz.func8,Tryz.ntmps8
  go_wp2_with fail
  rw[←hW];clear hW;refine (i1_ _ x n _ HXR.out HV.out).mono ?_;rintro e w1 ⟨r1,rfl,hM,hb1⟩;rw[HPY.out]at hM⊢;simp only at hM⊢;rw[HMM.out]at hM;obtain⟨MA,mc,em⟩:=hM.form;subst em;simp only[mxF,a0_]at hM⊢;obtain⟨ML,hML⟩:=e_ (R0*C0);rw[hML]at hM⊢;clear hML;have kB1:=kB.call hb1;have g1:=a6_ g0 hb1;have xc1:=a7_ hb1 hbe xc;have s1:=hb1.size;have HM1:=h_ hM.rd;clear hM hb1 g0 kB xc c0 c1 c2 c3 c4 c5;obtain⟨X,hX,bX,kX⟩:=b_3 w1 #[.int .i64 R0,.int .i64 C0,.slice MA ML mc] 41;have kBX:=kB1.call bX;have gX:=a6_ g1 bX;have xcX:=a7_ bX (by omega) xc1;have sX:=bX.size;have HMX:=h_ (MxR.next bX HM1.out);clear kB1 g1 xc1 bX;have hw0:=kBX.lt;have c0:=fun s:InB X=>(kBX.call s.below).cell' (i:=0) rfl
  have c4:=fun s:InB X=>(kBX.call s.below).cell' (i:=4) rfl
  have d0:=fun s:InB X=>(kX.call s.below).cell' (i:=0) rfl
  have d1:=fun s:InB X=>(kX.call s.below).cell' (i:=1) rfl
  have d2:=fun s:InB X=>(kX.call s.below).cell' (i:=2) rfl
  have z5:=InB.cell (w:=X) (by omega) xcX;have HC:Hid (∀ s:InB X,MxR s.val s.val.heap.size (.agg #[.int .i64 R0,.int .i64 C0,.slice MA ML mc]) (mxF R0 C0 F0)):=fun s=>MxR.next s.below HMX.out
  have HCR:Hid (∀ s:InB X,Calls Tryz.prog 37 #[.int .i64 x.p,.agg #[.int .i64 R0,.int .i64 C0,.slice MA ML mc]] s.val fun e w'=>e = .returned (.int .i64 (rk:Int))∧Below s.val.heap.size s.val w'):=fun s=>by
   have h:=s4_ x.p _ R0 C0 F0 s.val HFL.out hR1 hC1 (HC.out s) HIN.out;rw[HRK.out]at h;exact h
  have hnn:(0:Int)≤(n:Int):=by omega
  have hnl:(n:Int)<x.d.length:=by omega
  go_wp2;rw[←hX];clear hX
  (refine c7_ (by kernel_rfl) (by kernel_rfl) ?_;(repeat (go_big_quiet_step ((go_at_call 37;exact InB.call (HCR.out _)))));refine wpQuiet_nil ?_;intro w1 hw';obtain⟨s1,hw1⟩:=hw';have hb1:=s1.below;rw[←hw1]at hb1;clear hw1 s1)
  go_wp2;go_ret
  exact⟨by rw[HF2.out];rfl,gX.trans (hb1.mono gX.size)⟩
theorem u7_ (u:Value) (x:Rp) (v:Int) (w0:World) (hu:RpR w0 w0.heap.size u x) (hv:I64 v) :
  Calls Tryz.prog 10 #[u,.int .i64 v] w0 fun e w'=>e = .returned (.bool (hsIn x v))∧Below w0.heap.size w0 w':=by
 have hu':=hu;obtain⟨A,a,C,c,E,e,H,h,rfl,hq,hd,hm,hp,ld,lm⟩:=hu.open_;clear hu hq hm lm;obtain⟨W,hW,g0,kB⟩:=b_3 w0 #[.int .i64 x.p,.int .i64 x.q.v,.slice A x.q.f.length a,.slice C x.q.t.length c,.slice E x.d.length e,.slice H x.m.length h] 29;have HXR:=h_ (RpR.next g0 hu');replace hd:=SlI.next g0 hd;obtain⟨c0,c1,c2,c3,c4,c5⟩:=c_6 kB;rcases hok:inOk x v with _ | _
 ·have HF:=h_ (show hsIn x v=false by simp[hsIn,hok]);have hP:inP x v=(mx0,false):=by simp[inP,hok]
  have HPP:=h_ hP;have HV:=h_ hv;clear hok hP hv hd kB;go_enter Tryz.func10,Tryz.ntmps10
  go_wp2_with fail
  rw[←hW];clear hW;refine (i2_ _ x v _ HXR.out HV.out).mono ?_;rintro e w1 ⟨r1,rfl,hM,hb1⟩;rw[HPP.out]at hM⊢;obtain⟨MA,mc,em⟩:=hM.form;subst em;have g1:=a6_ g0 hb1;simp only[mx0];clear hM hb1 g0 c0 c1 c2 c3 c4 c5;go_wp2;go_ret
  exact⟨by rw[HF.out];rfl,g1.alloc g1.size _⟩
 ·have hx1:f1_ x=true:=by simp only[inOk,l9_]at hok;exact hok.1
  have hx2:endV x.q.f x.q v=true:=by simp only[inOk,l9_]at hok;exact hok.2
  obtain⟨n,D,hvn,hn,dn,hD,hD4,hn5⟩:=k5_ hx1 hx2;have hin:=D8_ (C:=D) hx1 hvn dn x.q.f.length (l_ _);have hcl:=L6_ (v:=v) (C:=D) hx1 x.q.f.length (l_ _);have hlf:x.q.f.length≤6:=(g4_.1 (b7_.1 (b8_.1 hx1).2.1).1).2.2.1;have hfld:=(b8_.1 hx1).1;have hPY:=E2_ hok hD;have hF:hsIn x v=decide ((rkF x.p (D) ((inS x v D x.q.f.length).1) ((inS x v D x.q.f.length).2):Int)<(D:Int)):=by simp only[hsIn,hok,Bool.true_and,hD,l5_]
  obtain⟨rk,hrk⟩:=e_ (rkF x.p (D) ((inS x v D x.q.f.length).1) ((inS x v D x.q.f.length).2));rw[hrk]at hF;obtain⟨Mm,hMm⟩:=e_ (inM x v D x.q.f.length);have hMm2:Mm=mxF (D) ((inS x v D x.q.f.length).1) ((inS x v D x.q.f.length).2):=hMm.symm;rw[hMm]at hPY;obtain⟨R0,hR0⟩:=e_ ((D));obtain⟨C0,hC0⟩:=e_ (((inS x v D x.q.f.length).1));obtain⟨F0,hF0⟩:=e_ (((inS x v D x.q.f.length).2));rw[hF0]at hrk hMm2;first | rw[hC0,hR0]at hrk hMm2 | rw[hR0,hC0]at hrk hMm2
  have hin2:InF x.p R0 C0 F0:=by rw[←hR0,←hC0,←hF0];exact hin
  have hR1:R0≤1000:=by rw[←hR0];omega
  have hC1:C0≤1000:=by rw[←hC0];omega
  have hrb:=s3_ x.p R0 C0 F0;rw[hrk]at hrb;subst hvn;have HF:=h_ hF;have hF2:hsIn x n=decide (rk<D):=hF.trans (decide_eq_decide.2 (by omega));have HF2:=h_ hF2;clear hF2;have HRK:=h_ hrk;have HIN:=h_ hin2;have HFL:=h_ hfld;have HPY:=h_ hPY;have HMM:=h_ hMm2;have HV:=h_ hv;obtain⟨be,oe,xe,eE,hbe,HXE,xc,_⟩:=SlI.at_ hd hn;subst eE;have ex:=HXE.out;rw[dn]at ex;injection ex with ex
  subst ex;clear hF hrk hin hin2 hPY hMm hMm2 hR0 hC0 hF0 hok hx1 hx2 dn hD hv hcl hfld HXE hd;go_enter Tryz.func10,Tryz.ntmps10
  go_wp2_with fail
  rw[←hW];clear hW;refine (i2_ _ x n _ HXR.out HV.out).mono ?_;rintro e w1 ⟨r1,rfl,hM,hb1⟩;rw[HPY.out]at hM⊢;simp only at hM⊢;rw[HMM.out]at hM;obtain⟨MA,mc,em⟩:=hM.form;subst em;simp only[mxF,a0_]at hM⊢;obtain⟨ML,hML⟩:=e_ (R0*C0);rw[hML]at hM⊢;clear hML;have kB1:=kB.call hb1;have g1:=a6_ g0 hb1;have xc1:=a7_ hb1 hbe xc;have s1:=hb1.size;have HM1:=h_ hM.rd;clear hM hb1 g0 kB xc c0 c1 c2 c3 c4 c5;obtain⟨X,hX,bX,kX⟩:=b_3 w1 #[.int .i64 R0,.int .i64 C0,.slice MA ML mc] 41;have kBX:=kB1.call bX;have gX:=a6_ g1 bX;have xcX:=a7_ bX (by omega) xc1;have sX:=bX.size;have HMX:=h_ (MxR.next bX HM1.out);clear kB1 g1 xc1 bX;have hw0:=kBX.lt;obtain⟨c0,c1,c2,c3,c4,c5⟩:=c_6 kBX;obtain⟨d0,d1,d2⟩:=c_3 kX;rw[hX]at c0 c1 c2 c3 c4 c5 d0 d1 d2;go_wp2_with fail
  rw[←hX];clear hX;refine (p2_ x.p _ R0 C0 F0 _ HFL.out hR1 hC1 HMX.out HIN.out).mono ?_;rintro e w2 ⟨m2,v2,rfl,hM2,hI2,hb2⟩;obtain⟨NA,nc,em⟩:=hM2.form;obtain⟨PA,pc,ev⟩:=hI2.form;subst em ev;have hrk:=HRK.out;unfold rkF at hrk;rw[hrk];have g2:=a6_ gX hb2;have kB2:=kBX.call hb2;have z4:=kB2.cell' (i:=4) rfl;have z5:=a7_ hb2 (by omega) xcX;simp only[mxF];clear c0 c1 c2 c3 c4 c5 d0 d1 d2 hM2 hI2 hrk;obtain⟨Y,hY⟩:∃ Y,Y=w2.alloc (.cells #[.int .i64 R0,.int .i64 C0,.slice NA (flat R0 C0 (rdTo x.p R0 F0 C0).1).length nc] 41):=⟨_,rfl⟩;have bY:Below w2.heap.size w2 Y:=by rw[hY];exact a2_ _ _
  have s2:=hb2.size;have y4:=a7_ bY (by omega) z4;have y5:=a7_ bY (by omega) z5;rw[hY]at y4 y5;clear z4 z5;go_wp2;go_ret
  exact⟨by first | (rw[HF.out];rfl) | (rw[HF2.out];rfl),g2.trans ((a2_ _ _).mono g2.size)⟩
theorem s8_ (u:Value) (x:Rp) (v:Int) (w0:World) (hu:RpR w0 w0.heap.size u x) (hv:I64 v) :
  Calls Tryz.prog 19 #[u,.int .i64 v] w0 fun e w'=>e = .returned (.bool (s9_ x v))∧Below w0.heap.size w0 w':=by
 have hu':=hu;obtain⟨A,a,C,c,E,e,H,h,rfl,hq,hd,hm,hp,ld,lm⟩:=hu.open_;clear hu hq hm lm;obtain⟨W,hW,g0,kB⟩:=b_3 w0 #[.int .i64 x.p,.int .i64 x.q.v,.slice A x.q.f.length a,.slice C x.q.t.length c,.slice E x.d.length e,.slice H x.m.length h] 29;have HXR:=h_ (RpR.next g0 hu');replace hd:=SlI.next g0 hd;obtain⟨c0,c1,c2,c3,c4,c5⟩:=c_6 kB;rcases hok:k0_ x v with _ | _
 ·have HF:=h_ (show s9_ x v=false by simp[s9_,hok]);have hP:outP x v=(mx0,false):=by simp[outP,hok]
  have HPP:=h_ hP;have HV:=h_ hv;clear hok hP hv hd kB;go_enter Tryz.func19,Tryz.ntmps19
  go_wp2_with fail
  rw[←hW];clear hW;refine (i3_ _ x v _ HXR.out HV.out).mono ?_;rintro e w1 ⟨r1,rfl,hM,hb1⟩;rw[HPP.out]at hM⊢;obtain⟨MA,mc,em⟩:=hM.form;subst em;have g1:=a6_ g0 hb1;simp only[mx0];clear hM hb1 g0 c0 c1 c2 c3 c4 c5;go_wp2;go_ret
  exact⟨by rw[HF.out];rfl,g1.alloc g1.size _⟩
 ·have hx1:f1_ x=true:=by simp only[k0_,l9_]at hok;exact hok.1
  have hx2:endV x.q.t x.q v=true:=by simp only[k0_,l9_]at hok;exact hok.2
  obtain⟨n,D,hvn,hn,dn,hD,hD4,hn5⟩:=k5_ hx1 hx2;have hin:=v0_ (C:=D) hx1 hvn dn x.q.f.length (l_ _);have hcl:=B0_ (v:=v) (C:=D) hx1 x.q.f.length (l_ _);have hlf:x.q.f.length≤6:=(g4_.1 (b7_.1 (b8_.1 hx1).2.1).1).2.2.1;have hfld:=(b8_.1 hx1).1;have hPY:=y5_ hok hD;have hF:s9_ x v=decide ((rkF x.p ((outS x v D x.q.f.length).1) (D) ((outS x v D x.q.f.length).2):Int)<(D:Int)):=by simp only[s9_,hok,Bool.true_and,hD,l5_]
  obtain⟨rk,hrk⟩:=e_ (rkF x.p ((outS x v D x.q.f.length).1) (D) ((outS x v D x.q.f.length).2));rw[hrk]at hF;obtain⟨Mm,hMm⟩:=e_ (outM x v D x.q.f.length);have hMm2:Mm=mxF ((outS x v D x.q.f.length).1) (D) ((outS x v D x.q.f.length).2):=hMm.symm;rw[hMm]at hPY;obtain⟨R0,hR0⟩:=e_ (((outS x v D x.q.f.length).1));obtain⟨C0,hC0⟩:=e_ ((D));obtain⟨F0,hF0⟩:=e_ (((outS x v D x.q.f.length).2));rw[hF0]at hrk hMm2;first | rw[hC0,hR0]at hrk hMm2 | rw[hR0,hC0]at hrk hMm2
  have hin2:InF x.p R0 C0 F0:=by rw[←hR0,←hC0,←hF0];exact hin
  have hR1:R0≤1000:=by rw[←hR0];omega
  have hC1:C0≤1000:=by rw[←hC0];omega
  have hrb:=s3_ x.p R0 C0 F0;rw[hrk]at hrb;subst hvn;have HF:=h_ hF;have hF2:s9_ x n=decide (rk<D):=hF.trans (decide_eq_decide.2 (by omega));have HF2:=h_ hF2;clear hF2;have HRK:=h_ hrk;have HIN:=h_ hin2;have HFL:=h_ hfld;have HPY:=h_ hPY;have HMM:=h_ hMm2;have HV:=h_ hv;obtain⟨be,oe,xe,eE,hbe,HXE,xc,_⟩:=SlI.at_ hd hn;subst eE;have ex:=HXE.out;rw[dn]at ex;injection ex with ex
  subst ex;clear hF hrk hin hin2 hPY hMm hMm2 hR0 hC0 hF0 hok hx1 hx2 dn hD hv hcl hfld HXE hd;go_enter Tryz.func19,Tryz.ntmps19
  go_wp2_with fail
  rw[←hW];clear hW;refine (i3_ _ x n _ HXR.out HV.out).mono ?_;rintro e w1 ⟨r1,rfl,hM,hb1⟩;rw[HPY.out]at hM⊢;simp only at hM⊢;rw[HMM.out]at hM;obtain⟨MA,mc,em⟩:=hM.form;subst em;simp only[mxF,a0_]at hM⊢;obtain⟨ML,hML⟩:=e_ (R0*C0);rw[hML]at hM⊢;clear hML;have kB1:=kB.call hb1;have g1:=a6_ g0 hb1;have xc1:=a7_ hb1 hbe xc;have s1:=hb1.size;have HM1:=h_ hM.rd;clear hM hb1 g0 kB xc c0 c1 c2 c3 c4 c5;obtain⟨X,hX,bX,kX⟩:=b_3 w1 #[.int .i64 R0,.int .i64 C0,.slice MA ML mc] 41;have kBX:=kB1.call bX;have gX:=a6_ g1 bX;have xcX:=a7_ bX (by omega) xc1;have sX:=bX.size;have HMX:=h_ (MxR.next bX HM1.out);clear kB1 g1 xc1 bX;have hw0:=kBX.lt;obtain⟨c0,c1,c2,c3,c4,c5⟩:=c_6 kBX;obtain⟨d0,d1,d2⟩:=c_3 kX;rw[hX]at c0 c1 c2 c3 c4 c5 d0 d1 d2;go_wp2_with fail
  rw[←hX];clear hX;refine (p2_ x.p _ R0 C0 F0 _ HFL.out hR1 hC1 HMX.out HIN.out).mono ?_;rintro e w2 ⟨m2,v2,rfl,hM2,hI2,hb2⟩;obtain⟨NA,nc,em⟩:=hM2.form;obtain⟨PA,pc,ev⟩:=hI2.form;subst em ev;have hrk:=HRK.out;unfold rkF at hrk;rw[hrk];have g2:=a6_ gX hb2;have kB2:=kBX.call hb2;have z4:=kB2.cell' (i:=4) rfl;have z5:=a7_ hb2 (by omega) xcX;simp only[mxF];clear c0 c1 c2 c3 c4 c5 d0 d1 d2 hM2 hI2 hrk;obtain⟨Y,hY⟩:∃ Y,Y=w2.alloc (.cells #[.int .i64 R0,.int .i64 C0,.slice NA (flat R0 C0 (rdTo x.p R0 F0 C0).1).length nc] 41):=⟨_,rfl⟩;have bY:Below w2.heap.size w2 Y:=by rw[hY];exact a2_ _ _
  have s2:=hb2.size;have y4:=a7_ bY (by omega) z4;have y5:=a7_ bY (by omega) z5;rw[hY]at y4 y5;clear z4 z5;go_wp2;go_ret
  exact⟨by first | (rw[HF.out];rfl) | (rw[HF2.out];rfl),g2.trans ((a2_ _ _).mono g2.size)⟩
theorem m3_ (u:Value) (x:Rp) (v:Int) (w0:World) (hu:RpR w0 w0.heap.size u x) (hv:I64 v) :
  Calls Tryz.prog 14 #[u,.int .i64 v] w0 fun e w'=>e = .returned (.bool (s9_ x v))∧Below w0.heap.size w0 w':=by
 have hu':=hu;obtain⟨A,a,C,c,E,e,H,h,rfl,hq,hd,hm,hp,ld,lm⟩:=hu.open_;clear hu hq hm lm;obtain⟨W,hW,g0,kB⟩:=b_3 w0 #[.int .i64 x.p,.int .i64 x.q.v,.slice A x.q.f.length a,.slice C x.q.t.length c,.slice E x.d.length e,.slice H x.m.length h] 29;have HXR:=h_ (RpR.next g0 hu');replace hd:=SlI.next g0 hd;obtain⟨c0,c1,c2,c3,c4,c5⟩:=c_6 kB;rcases hok:k0_ x v with _ | _
 ·have HF:=h_ (show s9_ x v=false by simp[s9_,hok]);have hP:outP x v=(mx0,false):=by simp[outP,hok]
  have HPP:=h_ hP;have HV:=h_ hv;clear hok hP hv hd kB;go_enter Tryz.func14,Tryz.ntmps14
  go_wp2_with fail
  rw[←hW];clear hW;refine (i0_ _ x v _ HXR.out HV.out).mono ?_;rintro e w1 ⟨r1,rfl,hM,hb1⟩;rw[HPP.out]at hM⊢;obtain⟨MA,mc,em⟩:=hM.form;subst em;have g1:=a6_ g0 hb1;simp only[mx0];clear hM hb1 g0 c0 c1 c2 c3 c4 c5;go_wp2
  (refine c7_ (by kernel_rfl) (by kernel_rfl) ?_;(repeat (go_big_quiet_step (fail)));refine wpQuiet_nil ?_;intro w1 hw';obtain⟨s1,hw1⟩:=hw';have hb1:=s1.below;rw[←hw1]at hb1;clear hw1 s1)
  go_wp2;go_ret
  exact⟨by rw[HF.out];rfl,(g1.alloc g1.size _).trans (hb1.mono (by have:=g1.size;simp;omega))⟩
 ·have hx1:f1_ x=true:=by simp only[k0_,l9_]at hok;exact hok.1
  have hx2:endV x.q.t x.q v=true:=by simp only[k0_,l9_]at hok;exact hok.2
  obtain⟨n,D,hvn,hn,dn,hD,hD4,hn5⟩:=k5_ hx1 hx2;have hin:=v0_ (C:=D) hx1 hvn dn x.q.f.length (l_ _);have hcl:=B0_ (v:=v) (C:=D) hx1 x.q.f.length (l_ _);have hlf:x.q.f.length≤6:=(g4_.1 (b7_.1 (b8_.1 hx1).2.1).1).2.2.1;have hfld:=(b8_.1 hx1).1;have hPY:=y5_ hok hD;have hF:s9_ x v=decide ((rkF x.p ((outS x v D x.q.f.length).1) (D) ((outS x v D x.q.f.length).2):Int)<(D:Int)):=by simp only[s9_,hok,Bool.true_and,hD,l5_]
  obtain⟨rk,hrk⟩:=e_ (rkF x.p ((outS x v D x.q.f.length).1) (D) ((outS x v D x.q.f.length).2));rw[hrk]at hF;obtain⟨Mm,hMm⟩:=e_ (outM x v D x.q.f.length);have hMm2:Mm=mxF ((outS x v D x.q.f.length).1) (D) ((outS x v D x.q.f.length).2):=hMm.symm;rw[hMm]at hPY;obtain⟨R0,hR0⟩:=e_ (((outS x v D x.q.f.length).1));obtain⟨C0,hC0⟩:=e_ ((D));obtain⟨F0,hF0⟩:=e_ (((outS x v D x.q.f.length).2));rw[hF0]at hrk hMm2;first | rw[hC0,hR0]at hrk hMm2 | rw[hR0,hC0]at hrk hMm2
  have hin2:InF x.p R0 C0 F0:=by rw[←hR0,←hC0,←hF0];exact hin
  have hR1:R0≤1000:=by rw[←hR0];omega
  have hC1:C0≤1000:=by rw[←hC0];omega
  have hrb:=s3_ x.p R0 C0 F0;rw[hrk]at hrb;subst hvn;have HF:=h_ hF;have hF2:s9_ x n=decide (rk<D):=hF.trans (decide_eq_decide.2 (by omega));have HF2:=h_ hF2;clear hF2;have HRK:=h_ hrk;have HIN:=h_ hin2;have HFL:=h_ hfld;have HPY:=h_ hPY;have HMM:=h_ hMm2;have HV:=h_ hv;obtain⟨be,oe,xe,eE,hbe,HXE,xc,_⟩:=SlI.at_ hd hn;subst eE;have ex:=HXE.out;rw[dn]at ex;injection ex with ex
  subst ex;clear hF hrk hin hin2 hPY hMm hMm2 hR0 hC0 hF0 hok hx1 hx2 dn hD hv hcl hfld HXE hd;go_enter Tryz.func14,Tryz.ntmps14
  go_wp2_with fail
  rw[←hW];clear hW;refine (i0_ _ x n _ HXR.out HV.out).mono ?_;rintro e w1 ⟨r1,rfl,hM,hb1⟩;rw[HPY.out]at hM⊢;simp only at hM⊢;rw[HMM.out]at hM;obtain⟨MA,mc,em⟩:=hM.form;subst em;simp only[mxF,a0_]at hM⊢;obtain⟨ML,hML⟩:=e_ (R0*C0);rw[hML]at hM⊢;clear hML;have kB1:=kB.call hb1;have g1:=a6_ g0 hb1;have xc1:=a7_ hb1 hbe xc;have s1:=hb1.size;have HM1:=h_ hM.rd;clear hM hb1 g0 kB xc c0 c1 c2 c3 c4 c5;obtain⟨X,hX,bX,kX⟩:=b_3 w1 #[.int .i64 R0,.int .i64 C0,.slice MA ML mc] 41;have kBX:=kB1.call bX;have gX:=a6_ g1 bX;have xcX:=a7_ bX (by omega) xc1;have sX:=bX.size;have HMX:=h_ (MxR.next bX HM1.out);clear kB1 g1 xc1 bX;have hw0:=kBX.lt;have c0:=fun s:InB X=>(kBX.call s.below).cell' (i:=0) rfl
  have c4:=fun s:InB X=>(kBX.call s.below).cell' (i:=4) rfl
  have d0:=fun s:InB X=>(kX.call s.below).cell' (i:=0) rfl
  have d1:=fun s:InB X=>(kX.call s.below).cell' (i:=1) rfl
  have d2:=fun s:InB X=>(kX.call s.below).cell' (i:=2) rfl
  have z5:=InB.cell (w:=X) (by omega) xcX;have HC:Hid (∀ s:InB X,MxR s.val s.val.heap.size (.agg #[.int .i64 R0,.int .i64 C0,.slice MA ML mc]) (mxF R0 C0 F0)):=fun s=>MxR.next s.below HMX.out
  have HCR:Hid (∀ s:InB X,Calls Tryz.prog 37 #[.int .i64 x.p,.agg #[.int .i64 R0,.int .i64 C0,.slice MA ML mc]] s.val fun e w'=>e = .returned (.int .i64 (rk:Int))∧Below s.val.heap.size s.val w'):=fun s=>by
   have h:=s4_ x.p _ R0 C0 F0 s.val HFL.out hR1 hC1 (HC.out s) HIN.out;rw[HRK.out]at h;exact h
  have hnn:(0:Int)≤(n:Int):=by omega
  have hnl:(n:Int)<x.d.length:=by omega
  go_wp2;rw[←hX];clear hX
  (refine c7_ (by kernel_rfl) (by kernel_rfl) ?_;(repeat (go_big_quiet_step ((go_at_call 37;exact InB.call (HCR.out _)))));refine wpQuiet_nil ?_;intro w1 hw';obtain⟨s1,hw1⟩:=hw';have hb1:=s1.below;rw[←hw1]at hb1;clear hw1 s1)
  go_wp2;go_ret
  exact⟨by rw[HF2.out];rfl,gX.trans (hb1.mono gX.size)⟩
theorem b7Q (p:Int) (c:Nat) (g:Nat→Nat→Int) (ps L:List Int):kerM p c g ps L=b5_ L.length c fun a b=>((kerM p c g ps L).getD a []).getD b 0:=by
 apply List.ext_getElem?
 intro i;by_cases h:i<L.length
 ·have e:(kerM p c g ps L)[i]?=some (rowF c (kvG p g ps (L[i]'h).toNat ps.length)):=by simp[kerM,h]
  rw[g2_ _ h,e,l1_,e];congr 1
  simp only[Option.getD_some];exact b6_ fun a ha=>(c9_ _ ha).symm
 ·rw[l6_ (by rw[j1_];omega),l6_ (by rw[a3_];omega)]
theorem a2z (p:Int) (r c:Nat) (f:Nat→Nat→Int):(kerR p r c f).length≤c:=by
 rw[kerR,j1_];exact d7_ _ _
theorem S7_ (p:Int) (r c:Nat) (f:Nat→Nat→Int):kerR p r c f=b5_ (kerR p r c f).length c fun a b=>((kerR p r c f).getD a []).getD b 0:=by
 have:=b7Q p c (rdTo p r f c).1 (rdTo p r f c).2 (b2_ (rdTo p r f c).2 c);rw[kerR,j1_];exact this
def ksL (x:Rp) (v:Int):List (List Int):=kerR x.p (dAt x.d v).toNat (inS x v (dAt x.d v).toNat x.q.f.length).1 (inS x v (dAt x.d v).toNat x.q.f.length).2
def ksF (x:Rp) (v:Int) (a b:Nat):Int:=((ksL x v).getD a []).getD b 0
def rsP (x:Rp) (v:Int):Rp×Bool:=if inOk x v then rfP x v (ksL x v).length (s0_ x v (ksL x v).length (ksF x v)) else (rp0,false)
theorem A3_ (u:Value) (y:Rp) (v:Int) (w0:World) (hu:RpR w0 w0.heap.size u y) (hv:I64 v) :
  Calls Tryz.prog 6 #[u,.int .i64 v] w0 fun e w'=>∃ r,e = .returned (.tuple #[r,.bool (rsP y v).2])∧RepO w' w0.heap.size w'.heap.size r (rsP y v).1∧Below w0.heap.size w0 w':=by
 have hu':=hu;obtain⟨A,a,C,c,E,ec,H,hc,rfl⟩:=hu.form;clear hu;obtain⟨W,hW,g0,k1,k2⟩:=b_4 w0 #[.int .i64 y.p,.int .i64 y.q.v,.slice A y.q.f.length a,.slice C y.q.t.length c,.slice E y.d.length ec,.slice H y.m.length hc] 29 #[.int .i64 0,.int .i64 0,.slice none 0 0,.slice none 0 0,.slice none 0 0,.slice none 0 0] 29;have sz:W.heap.size=w0.heap.size+1+1:=by rw[hW];simp
 have SZ:=h_ sz;have HR:=h_ (RpR.next g0 hu');obtain⟨c0,c1,c2,c3,c4,c5⟩:=c_6 k1;clear hu' sz;go_enter Tryz.func6,Tryz.ntmps6
 go_wp2_with fail
 rw[←hW];clear hW;refine (i1_ _ y v _ HR.out hv).mono ?_;rintro e w1 ⟨r1,rfl,hM,hb1⟩;clear c0 c1 c2 c3 c4 c5;rcases hok:inOk y v with _ | _
 ·have hP:inP y v=(mx0,false):=by rw[inP,if_neg (by rw[hok];decide)]
  have HE:=h_ (show rsP y v=(rp0,false) by rw[rsP,if_neg (by rw[hok];decide)]);rw[hP]at hM⊢;obtain⟨MA,mc,em⟩:=hM.form;simp only[mx0,List.length_nil]at em⊢;subst em;obtain⟨W2,hW2⟩:=e_ (w1.alloc (.cells #[.int .i64 0,.int .i64 0,.slice MA 0 mc] 41));have ga:Below w1.heap.size w1 W2:=by rw[←hW2];exact a2_ _ _
  have gW:=a6_ hb1 ga;have kz:=k2.call gW;have fr:=kz.frozen;obtain⟨s0,s1,s2,s3,s4,s5⟩:=c_6 kz;have gf:=g0.trans (gW.mono g0.size);have GF:=h_ gf;clear kz gf gW hM hP hok hb1 ga k1 k2 g0;go_wp2;have gf:=GF.out;have hE:=HE.out;exact bodyPost_ret (v:=.tuple #[.agg #[.int .i64 0,.int .i64 0,.slice none 0 0,.slice none 0 0,.slice none 0 0,.slice none 0 0],.bool false]) (by simp[results,go_sem,s0,s1,s2,s3,s4,s5]) rfl ⟨_,by rw[hE],by rw[hE];exact RepO.zero _ _ _,(((((gf.setCell (by simp) _).setCell (by simp) _).setCell (by simp) _).setCell (by simp) _).setCell (by simp) _).setCell (by simp) _⟩
 ·obtain⟨hy,hs⟩:f1_ y=true∧endV y.q.f y.q v=true:=by simpa [inOk] using hok
  obtain⟨n,D,env,hnl,hdn,hdA,hD4,hn5⟩:=k5_ hy hs;have hP:=E2_ hok hdA;have hN:=L6_ (v:=v) (C:=D) hy _ (l_ _);have hn6:y.q.f.length≤6:=(g4_.1 (b7_.1 (b8_.1 hy).2.1).1).2.2.1;have hat:=U8_ (C:=D) hy hs _ (l_ _);have hinF:=D8_ hy env hdn _ (l_ _);have hfld:=(b8_.1 hy).1;have HE:=h_ (show rsP y v=rfP y v (ksL y v).length (s0_ y v (ksL y v).length (ksF y v)) by rw[rsP,if_pos hok]);have hks:ksL y v=kerR y.p D (inS y v D y.q.f.length).1 (inS y v D y.q.f.length).2:=by rw[ksL,hdA,l5_]
  rw[hP]at hM⊢;simp only[inM]at hM;obtain⟨N,hNN⟩:=e_ ((inS y v D y.q.f.length).1);obtain⟨F0,hF0⟩:=e_ ((inS y v D y.q.f.length).2);rw[hNN,hF0]at hM hks hinF;rw[hNN]at hat hN;have hkr:=S7_ y.p D N F0;have hkl:=a2z y.p D N F0;rw[←hks]at hkr hkl;obtain⟨K,hK⟩:=e_ ((ksL y v).length);obtain⟨R,hR⟩:=e_ (rfP y v (ksL y v).length (s0_ y v (ksL y v).length (ksF y v)));rw[hR]at HE;rw[hK]at hkr hkl hR;have HRR:=h_ hR;have HKR:=h_ (show ksL y v=b5_ K N (ksF y v) from hkr);have HKS:=h_ hks;have HY:=h_ hy;have HS:=h_ hs;have HIN:=h_ hinF;have HFL:=h_ hfld;have HAT:=h_ hat
  have HK:=h_ hK;clear hok hP hNN hF0 hkr hR hks hy hs hinF hfld hat hK hdA hdn env;obtain⟨MA,mc,em⟩:=hM.form;simp only[mxF]at em hM;rw[a0_]at em;subst em;obtain⟨ML,hML⟩:=e_ (D*N);rw[hML]at hM⊢;have HML:=h_ hML;clear hML;obtain⟨W2,hW2,ga,kM⟩:=b_1 w1 #[.int .i64 D,.int .i64 N,.slice MA ML mc] 41;have gW:=a6_ hb1 ga;have k12:=k1.call gW;have c0:=k12.cell' (i:=0) rfl;obtain⟨m0,m1,m2⟩:=c_3 kM;have HM:=h_ (hM.below ga).rd;have GW:=h_ gW;clear hM hb1 ga gW k12;go_wp2_with fail
  clear hW2;refine (N8_ y.p _ D N F0 _ HFL.out (by omega) (by omega) HM.out HIN.out).mono ?_;rintro e w3 ⟨v3,rfl,hK3,hb3⟩;rw[←HKS.out,HKR.out]at hK3;obtain⟨KA,kc,ev,_⟩:=hK3.form2;rw[a3_]at ev;subst ev;have G3:=h_ (GW.out.trans (hb3.mono GW.out.size));have kM3:=kM.call hb3;have k13:=k1.call G3.out;have HK3:=h_ hK3.rd;have HR3:=h_ (RpR.next G3.out HR.out);clear c0 m0 m1 m2 hK3 hb3 kM;go_wp2;refine k9_ (by kernel_rfl) [.eq (.agg #[.int .i64 y.p,.int .i64 y.q.v,.slice A y.q.f.length a,.slice C y.q.t.length c,.slice E y.d.length ec,.slice H y.m.length hc]),.eq (.int .i64 v),.eq (.pointer (some ⟨w1.heap.size,1,none⟩)),.eq (.int .i64 N),.eq (.slice KA K kc),rel 5 (fun u lo hi w=>MxO w lo hi u (mxF K N (ksF y v))),.rel (fun x w=>∃ Ar ar Cr cr Er er Hr hr',x.v 6 = .tuple #[.agg #[.int .i64 R.1.p,.int .i64 R.1.q.v,.slice Ar R.1.q.f.length ar,.slice Cr R.1.q.t.length cr,.slice Er R.1.d.length er,.slice Hr R.1.m.length hr'],.bool R.2]∧RepO w (x.lo 6) (x.hi 6) (.agg #[.int .i64 R.1.p,.int .i64 R.1.q.v,.slice Ar R.1.q.f.length ar,.slice Cr R.1.q.t.length cr,.slice Er R.1.d.length er,.slice Hr R.1.m.length hr']) R.1),.rel (fun x w=>∃ Ar ar Cr cr Er er Hr hr',x.v 7 = .agg #[.int .i64 R.1.p,.int .i64 R.1.q.v,.slice Ar R.1.q.f.length ar,.slice Cr R.1.q.t.length cr,.slice Er R.1.d.length er,.slice Hr R.1.m.length hr']∧RepO w (x.lo 6) (x.hi 6) (.agg #[.int .i64 R.1.p,.int .i64 R.1.q.v,.slice Ar R.1.q.f.length ar,.slice Cr R.1.q.t.length cr,.slice Er R.1.d.length er,.slice Hr R.1.m.length hr']) R.1),.eq (.bool R.2)] [[],[],[],[2],[],[2,3,4],[0,1,2,3,4,5],[0,1,2,3,4,5,6],[0,1,2,3,4,5,6],[0,1,2,3,4,5,6,7,8],[0,1,2,3,4,5,6,7,8,9]] 9 8 [0,1,2,3,4,5,6,7] (by kernel_rfl) rfl ⟨trivial,trivial,trivial,trivial,trivial,a4_ (fun u lo hi w w' h hb=>h.below hb),fun x w w' ⟨Ar,ar,Cr,cr,Er,er,Hr,hr',e1,h1⟩ hb=>⟨Ar,ar,Cr,cr,Er,er,Hr,hr',e1,h1.below hb⟩,fun x w w' ⟨Ar,ar,Cr,cr,Er,er,Hr,hr',e1,h1⟩ hb=>⟨Ar,ar,Cr,cr,Er,er,Hr,hr',e1,h1.below hb⟩,trivial,trivial⟩ ⟨?_,?_,?_,?_,?_,?_,?_,?_,?_,trivial⟩ ?_ ?_;iterate 9 (intro x w hb hk Q' hQ;have he:=k_e hk;simp only[k_s]at he;simp only[netE]at hQ⊢;(try simp only[he]at hQ⊢);(try clear he);rotate_left)
  rotate_left 2
  ·clear hk;obtain⟨z0,z1,z2,z3,z4,z5⟩:=c_6 (k13.call hb);go_wp2;exact hQ _ _ br_ rfl
  iterate 2 (· clear hk;go_wp2;exact hQ _ _ br_ rfl)
  ·clear hk;have z1:=(kM3.call hb).cell' (i:=1) rfl;go_wp2;exact hQ _ _ br_ rfl
  ·clear hk;go_wp2;exact hQ _ _ br_ rfl
  ·clear hk;go_wp2_with fail
   refine (w8_ _ N K (ksF y v) _ (SlII.next hb HK3.out) (by omega) (by omega)).mono ?_;rintro e w6 ⟨v6,rfl,ho6,hb6⟩;go_wp2;exact hQ _ _ hb6 ho6
  ·have h5:MxO w (x.lo 5) (x.hi 5) (x.v 5) (mxF K N (ksF y v)):=(hk 5 (by decide)).1;have s5:=(hk 5 (by decide)).2;clear hk;obtain⟨A5,c5,e5⟩:=h5.form;simp only[mxF]at e5;have H5:=h_ h5.rd;rw[e5]at H5 hQ⊢;go_wp2_with fail
   refine (U5_ _ _ y v K (ksF y v) _ (RpR.next hb HR3.out) (by rw[HAT.out];exact H5.out) HY.out (.inr HS.out) (by omega)).mono ?_;rintro e w6 ⟨v6,rfl,hO6,hb6⟩;rw[HRR.out]at hO6⊢;have HO6:=h_ hO6;obtain⟨Ar,ar,Cr,cr,Er,er,Hr,hr',e6⟩:=hO6.form;subst e6;clear hO6;go_wp2;exact hQ _ _ hb6 ⟨Ar,ar,Cr,cr,Er,er,Hr,hr',rfl,HO6.out⟩
  ·have h5:MxO w (x.lo 5) (x.hi 5) (x.v 5) (mxF K N (ksF y v)):=(hk 5 (by decide)).1;have h6:∃ Ar ar Cr cr Er er Hr hr',x.v 6 = .tuple #[.agg #[.int .i64 R.1.p,.int .i64 R.1.q.v,.slice Ar R.1.q.f.length ar,.slice Cr R.1.q.t.length cr,.slice Er R.1.d.length er,.slice Hr R.1.m.length hr'],.bool R.2]∧RepO w (x.lo 6) (x.hi 6) (.agg #[.int .i64 R.1.p,.int .i64 R.1.q.v,.slice Ar R.1.q.f.length ar,.slice Cr R.1.q.t.length cr,.slice Er R.1.d.length er,.slice Hr R.1.m.length hr']) R.1:=(hk 6 (by decide)).1;have s5:=(hk 5 (by decide)).2;have s6:=(hk 6 (by decide)).2;clear hk;obtain⟨Ar,ar,Cr,cr,Er,er,Hr,hr',e4,ho⟩:=h6;have hQ':=hQ (.agg #[.int .i64 R.1.p,.int .i64 R.1.q.v,.slice Ar R.1.q.f.length ar,.slice Cr R.1.q.t.length cr,.slice Er R.1.d.length er,.slice Hr R.1.m.length hr']) w br_ ⟨Ar,ar,Cr,cr,Er,er,Hr,hr',rfl,ho⟩;rw[e4]at hQ'⊢;go_wp2;exact hQ'
  ·have h6:∃ Ar ar Cr cr Er er Hr hr',x.v 6 = .tuple #[.agg #[.int .i64 R.1.p,.int .i64 R.1.q.v,.slice Ar R.1.q.f.length ar,.slice Cr R.1.q.t.length cr,.slice Er R.1.d.length er,.slice Hr R.1.m.length hr'],.bool R.2]∧RepO w (x.lo 6) (x.hi 6) (.agg #[.int .i64 R.1.p,.int .i64 R.1.q.v,.slice Ar R.1.q.f.length ar,.slice Cr R.1.q.t.length cr,.slice Er R.1.d.length er,.slice Hr R.1.m.length hr']) R.1:=(hk 6 (by decide)).1;clear hk;obtain⟨Ar,ar,Cr,cr,Er,er,Hr,hr',e4,ho⟩:=h6;rw[e4]at hQ⊢;go_wp2;exact hQ _ _ br_ rfl
  ·intro x w hb hk hiv hdj;have h5:MxO w (x.lo 5) (x.hi 5) (x.v 5) (mxF K N (ksF y v)):=hk 5 (by decide);have h6:∃ Ar ar Cr cr Er er Hr hr',x.v 6 = .tuple #[.agg #[.int .i64 R.1.p,.int .i64 R.1.q.v,.slice Ar R.1.q.f.length ar,.slice Cr R.1.q.t.length cr,.slice Er R.1.d.length er,.slice Hr R.1.m.length hr'],.bool R.2]∧RepO w (x.lo 6) (x.hi 6) (.agg #[.int .i64 R.1.p,.int .i64 R.1.q.v,.slice Ar R.1.q.f.length ar,.slice Cr R.1.q.t.length cr,.slice Er R.1.d.length er,.slice Hr R.1.m.length hr']) R.1:=hk 6 (by decide);have h7:∃ Ar ar Cr cr Er er Hr hr',x.v 7 = .agg #[.int .i64 R.1.p,.int .i64 R.1.q.v,.slice Ar R.1.q.f.length ar,.slice Cr R.1.q.t.length cr,.slice Er R.1.d.length er,.slice Hr R.1.m.length hr']∧RepO w (x.lo 6) (x.hi 6) (.agg #[.int .i64 R.1.p,.int .i64 R.1.q.v,.slice Ar R.1.q.f.length ar,.slice Cr R.1.q.t.length cr,.slice Er R.1.d.length er,.slice Hr R.1.m.length hr']) R.1:=hk 7 (by decide);have he:=k_g hk [0,1,2,3,4,8];simp only[k_s]at he;simp only[netE,he];clear he hk;obtain⟨Ar,ar,Cr,cr,Er,er,Hr,hr',e7,ho⟩:=h7;obtain⟨A6,a6,C6,c6,E6,ec6,H6,h6',e6,_⟩:=h6;have i6:=hiv 6 (by decide);rw[e7,e6];have gf3:=G3.out.trans (hb.mono G3.out.size);have kz:=k2.call gf3;have fr:=kz.frozen;obtain⟨s0,s1,s2,s3,s4,s5⟩:=c_6 kz;have gf:=g0.trans (gf3.mono g0.size);have hc6:=chg6 w (w0.heap.size+1) (.int .i64 R.1.p) (.int .i64 R.1.q.v) (.slice Ar R.1.q.f.length ar) (.slice Cr R.1.q.t.length cr) (.slice Er R.1.d.length er) (.slice Hr R.1.m.length hr');have g3s:=G3.out.size;have sz:=SZ.out;have OF:=h_ ((ho.chg hc6 (.inr (by omega))).wider (lo':=w0.heap.size) (hi':=w.heap.size) (by omega) (by omega));have GF:=h_ (gf.trans (hc6.below (by omega) gf.size));clear h5 ho e7 e6 kz gf gf3 hc6 hiv hdj i6 hb g3s sz kM3 k13;go_wp2;have hE:=HE.out;exact bodyPost_ret (v:=.tuple #[.agg #[.int .i64 R.1.p,.int .i64 R.1.q.v,.slice Ar R.1.q.f.length ar,.slice Cr R.1.q.t.length cr,.slice Er R.1.d.length er,.slice Hr R.1.m.length hr'],.bool R.2]) (by simp[results,go_sem,s0,s1,s2,s3,s4,s5]) rfl ⟨_,by rw[hE],by rw[hE];have:=OF.out.wider (l_ _) (l_ _);simpa using this,GF.out⟩
  ·intro x w hb hk hiv hdj om os hom hos;simp only[List.getElem?_cons_zero,List.getElem?_cons_succ,Option.some.injEq]at hom hos;subst hom hos;have h5:MxO w (x.lo 5) (x.hi 5) (x.v 5) (mxF K N (ksF y v)):=hk 5 (by decide);have h6:∃ Ar ar Cr cr Er er Hr hr',x.v 6 = .tuple #[.agg #[.int .i64 R.1.p,.int .i64 R.1.q.v,.slice Ar R.1.q.f.length ar,.slice Cr R.1.q.t.length cr,.slice Er R.1.d.length er,.slice Hr R.1.m.length hr'],.bool R.2]∧RepO w (x.lo 6) (x.hi 6) (.agg #[.int .i64 R.1.p,.int .i64 R.1.q.v,.slice Ar R.1.q.f.length ar,.slice Cr R.1.q.t.length cr,.slice Er R.1.d.length er,.slice Hr R.1.m.length hr']) R.1:=hk 6 (by decide);have h7:∃ Ar ar Cr cr Er er Hr hr',x.v 7 = .agg #[.int .i64 R.1.p,.int .i64 R.1.q.v,.slice Ar R.1.q.f.length ar,.slice Cr R.1.q.t.length cr,.slice Er R.1.d.length er,.slice Hr R.1.m.length hr']∧RepO w (x.lo 6) (x.hi 6) (.agg #[.int .i64 R.1.p,.int .i64 R.1.q.v,.slice Ar R.1.q.f.length ar,.slice Cr R.1.q.t.length cr,.slice Er R.1.d.length er,.slice Hr R.1.m.length hr']) R.1:=hk 7 (by decide);have he:=k_g hk [0,1,2,3,4];simp only[k_s]at he;simp only[List.foldl_cons,List.foldl_nil,netE,he];clear he hk;obtain⟨Ar,ar,Cr,cr,Er,er,Hr,hr',e7,ho⟩:=h7;obtain⟨A6,a6,C6,c6,E6,ec6,H6,h6',e6,_⟩:=h6;have i6:=hiv 6 (by decide);rw[e7,e6];have gf3:=G3.out.trans (hb.mono G3.out.size);have kz:=k2.call gf3;have fr:=kz.frozen;obtain⟨s0,s1,s2,s3,s4,s5⟩:=c_6 kz;have gf:=g0.trans (gf3.mono g0.size);have hc6:=chg6 w (w0.heap.size+1) (.int .i64 R.1.p) (.int .i64 R.1.q.v) (.slice Ar R.1.q.f.length ar) (.slice Cr R.1.q.t.length cr) (.slice Er R.1.d.length er) (.slice Hr R.1.m.length hr');have g3s:=G3.out.size;have sz:=SZ.out;have OF:=h_ ((ho.chg hc6 (.inr (by omega))).wider (lo':=w0.heap.size) (hi':=w.heap.size) (by omega) (by omega));have GF:=h_ (gf.trans (hc6.below (by omega) gf.size));clear h5 ho e7 e6 kz gf gf3 hc6 hiv hdj i6 hb g3s sz kM3 k13;go_wp2;have hE:=HE.out;exact bodyPost_ret (v:=.tuple #[.agg #[.int .i64 R.1.p,.int .i64 R.1.q.v,.slice Ar R.1.q.f.length ar,.slice Cr R.1.q.t.length cr,.slice Er R.1.d.length er,.slice Hr R.1.m.length hr'],.bool R.2]) (by simp[results,go_sem,s0,s1,s2,s3,s4,s5]) rfl ⟨_,by rw[hE],by rw[hE];have:=OF.out.wider (l_ _) (l_ _);simpa using this,GF.out⟩
theorem b9j (x:Int) (w:World):Calls Tryz.prog 143 #[.int .i64 x] w fun e w'=>e = .returned (.bool (x != 0))∧w'=w:=by
 go_enter Tryz.func143,Tryz.ntmps143
 go_wp2;go_ret
 exact⟨rfl,rfl⟩
theorem M5_ (u:Value) (xs:List Int) (w:World) (hu:SlI w w.heap.size u xs) :
  Calls Tryz.prog 142 #[u,.func (Fn.func 143) #[] #[]] w fun e w'=>e = .returned (.int .i64 (fidx (fun x=>x != 0) xs))∧Below w.heap.size w w':=by
 obtain⟨A,c,rfl,_,_,hn,hx⟩:=hu.open_;clear hu;go_enter Tryz.func142,Tryz.ntmps142
 go_wp2;go_loopw [8] (fun i wr=>∃ k:Nat,k≤xs.length∧i = .int .i64 k∧Below w.heap.size w wr∧Hid (∀ y∈xs.take k,(y != 0)=false)) (fun i _=>xs.length-(intOf i).toNat)
 case atStart=>exact⟨0,l0_ _,rfl,Below.refl _ _,by intro y hy;simp at hy⟩
 case round =>
  obtain⟨k,hk,rfl,hbel,hno⟩:=hrel;by_cases hlt:k<xs.length
  ·obtain⟨b,o,x,rfl,hb,HX,c1,_⟩:=SlI.at_ hx hlt;have d1:=a7_ hbel hb c1;clear hx c1;have HC:=b9j x wr;obtain⟨B,hB⟩:=e_ ((x != 0));rw[hB]at HC;have HC:=h_ HC;have HB:=h_ hB;clear hB;cases B
   ·go_wp2_with fail
    refine (B6_ HC).mono ?_;rintro e w1 ⟨rfl,hww⟩;replace hww:=hww.symm;subst hww;go_wp2;go_roundw
    case rel =>
     refine⟨k+1,by omega,by go_num,hbel,fun y hy=>?_⟩;rw[c8_ HX.out,List.mem_append,List.mem_singleton]at hy;rcases hy with hy | rfl
     ·exact hno.out y hy
     ·exact HB.out
    case measure=>simp[intOf];omega
   ·have hfin:=h_ (C3_ (p:=fun x=>x != 0) HX.out HB.out hno.out);go_wp2_with fail
    refine (B6_ HC).mono ?_;rintro e w1 ⟨rfl,hww⟩;replace hww:=hww.symm;subst hww;go_wp2;go_ret
    exact⟨by rw[hfin.out];rfl,hbel⟩
  ·go_wp2;go_ret
   have h1:=hno.out;rw[l7_ (by omega)]at h1;exact⟨by rw[L7_ h1];rfl,hbel⟩
theorem K1_ (u:Value) (xs:List Int) (w:World) (hu:SlI w w.heap.size u xs) :
  Calls Tryz.prog 124 #[u] w fun e w'=>e = .returned (.int .i64 (fidx (fun x=>x != 0) xs))∧Below w.heap.size w w':=by
 have hu1:=hu;obtain⟨A,c,rfl,_⟩:=hu1;have HC:=h_ (M5_ _ xs w hu);obtain⟨z,hz⟩:=e_ (fidx (fun x=>x != 0) xs);rw[hz]at HC⊢;clear hu hz;go_enter Tryz.func124,Tryz.ntmps124
 go_wp2_with fail
 refine HC.out.mono ?_;rintro e w1 ⟨rfl,hb1⟩;go_wp2;go_ret
 exact⟨rfl,hb1⟩
theorem c6q {c b:Nat} {g:Nat→Int} (hb:b<c) (h0:∀ t,t<b→g t=0) (h1:g b≠0):fidx (fun x=>x != 0) (rowF c g)=(b:Int):=by
 refine C3_ (d1_ g hb) (by simpa using h1) fun y hy=>?_
 obtain⟨i,hi⟩:=List.mem_iff_getElem?.1 hy;rw[List.getElem?_take]at hi;split at hi
 ·rename_i hib
  rw[d1_ g (by omega)]at hi;injection hi with hi
  rw[←hi,h0 i hib];rfl
 ·cases hi
def a9J (n c:Nat) (g:Nat→Nat→Int) (ps:List Int):Prop:=ps.length=n∧∀ k,k<n→∃ b:Nat,ps[k]?=some (b:Int)∧b<c∧fidx (fun x=>x != 0) (rowF c (g k))=(b:Int)
theorem c8X {p:Int} {r c:Nat} {f:Nat→Nat→Int} (hp:f2_ p=true) (hp2:2≤p) (hf:InF p r c f):a9J (rdTo p r f c).2.length c (rdTo p r f c).1 (rdTo p r f c).2:=by
 refine⟨rfl,fun k hk=>?_⟩;obtain⟨b,h1,h2,h3⟩:=(G2_ hp hp2 hf c (l_ _)).pos k hk;have hl:=(f6_ p r f c).1;exact⟨b,h1,h2,c6q h2 (B8_ hp hp2 hf c (l_ _) k b h1) (by rw[h3 k (by omega),if_pos rfl];decide)⟩
theorem S4_ (n c:Nat) (g:Nat→Nat→Int) (ps:List Int) (z:Int) (u:Value) (w0:World) (hn:n≤1000) (hc:c≤1000) (hu:SlII w0 w0.heap.size u (b5_ n c g)) (hps:a9J n c g ps) :
  Calls Tryz.prog 90 #[.agg #[.int .i64 z,u]] w0 fun e w'=>∃ v,e = .returned v∧a9_ w' w0.heap.size w'.heap.size v ps∧Below w0.heap.size w0 w':=by
 have hu1:=hu;obtain⟨UA,uc,rfl,_⟩:=hu1;rw[a3_]at hu⊢;obtain⟨W,hW,g0,kB⟩:=b_3 w0 #[.int .i64 z,.slice UA n uc] 65;have HU:=h_ (SlII.next g0 hu);have HL:=h_ hps.1;have HP:=h_ hps.2;have c1:=kB.cell' (i:=1) rfl;clear hu hps;go_enter Tryz.func90,Tryz.ntmps90
 go_wp2;rw[←hW];clear hW;go_wp2;go_loopw [3,9] (fun out i wr=>∃ k:Nat,k≤n∧i = .int .i64 k∧OwnI wr W.heap.size out (ps.take k)∧Below W.heap.size W wr) (fun _ i _=>n-(intOf i).toNat)
 case atStart=>exact⟨0,l0_ _,rfl,OwnI.nil _ _,Below.refl _ _⟩
 case round =>
  clear c1;obtain⟨k,hk,rfl,ho,hb⟩:=hrel;have sb:=hb.size;by_cases hlt:k<n
  ·obtain⟨bb,oo,lr,A',c',eK,hbb,HXL,r1,hrow⟩:=SlII.at_ (k:=k) (xs:=b5_ n c g) (by rw[a3_];exact HU.out) (by rw[a3_];exact hlt);subst eK;have hlr:=HXL.out;rw[g2_ _ hlt]at hlr;injection hlr with hlr
   subst hlr;rw[a1_]at r1 hrow;obtain⟨b,hb1,hb2,hb3⟩:=HP.out k hlt;have r1':=a7_ hb hbb r1;have HRW:=h_ (SlI.next hb hrow);have HB3:=h_ hb3;have HTK:=h_ (c8_ hb1);obtain⟨OA,oc,eo,_,_⟩:=ho.form;have hlen:(ps.take k).length=k:=by rw[List.length_take,HL.out];omega
   rw[hlen]at eo;subst eo;have HO:=h_ ho;have HB:=h_ hb;clear hrow r1 hb1 hb3 ho hb HXL;go_wp2_with fail
   refine (K1_ _ (rowF c (g k)) _ HRW.out).mono ?_;rintro e w1 ⟨rfl,hb1⟩;rw[HB3.out];have ho1:=HO.out.below hb1;have hB1:=HB.out.trans (hb1.mono sb);have s1:=hb1.size;have HO1:=h_ ho1;have HB1:=h_ hB1;have hlo:=ho1.lt;clear r1' ho1 hB1 hb1
   (go_wp2_with (at_builtin;refine Hold.stop ?_));unfold Hold
   obtain⟨X,hX⟩:∃ X,X=w1.alloc (.cells #[.int .i64 (b:Int)] 3):=⟨_,rfl⟩;have gn:Below w1.heap.size w1 X:=by rw[hX];exact a2_ _ _
   have h1x:SlI X X.heap.size (.slice (some ⟨w1.heap.size,0,none⟩) 1 1) [(b:Int)]:=by rw[hX];exact SlI.one _ _ _ (by simp only[I64];omega)
   have ho3:=(HO1.out).below gn;have gns:=gn.size;rw[←hX];clear hX;refine c3_ rfl (.tmp 13) (.tmp 16) rfl W.heap.size X.heap.size _ _ rfl ho3 _ 1 1 [(b:Int)] rfl rfl h1x (by simp;omega) (by omega) ?_;intro v' w' h1 h2 h3;rw[←HTK.out]at h1;have hbX:=b9_ h2 (B:=W.heap.size) (fun k hk=>(hlo k hk).1) (by omega);have H1:=h_ h1;have G1:=h_ ((HB1.out).trans ((gn.mono (by omega)).trans hbX));clear h1 h2 h3 hbX gn ho3 h1x hlo;go_wp2;go_roundw
   case rel=>exact⟨k+1,by omega,by go_num,H1.out,G1.out⟩
   case measure=>simp[intOf];omega
  ·obtain rfl:k=n:=by omega
   rw[l7_ (by have:=HL.out;omega)]at ho;have HO:=h_ (a9_.of_own ho);have GF:=h_ (a6_ g0 hb);have s0:=g0.size;clear ho hb;go_wp2;go_ret
   exact⟨_,rfl,HO.out.wider s0 (l_ _),GF.out⟩
theorem W7_ {p:Int} (hp2:2≤p) (g:Nat→Nat→Int) (ps:List Int) (j:Nat):∀ n t,0≤rsO p g ps j n t∧rsO p g ps j n t≤p-1
 | 0,t=>by simp only[rsO];split <;> omega
 | n+1,t=>by simp only[rsO];exact g6_ hp2
theorem c5z (p:Int) (n c:Nat) (g:Nat→Nat→Int) (ps:List Int) (z:Int) (u v:Value) (j:Nat) (w0:World) (hp:2≤p∧p≤5) (hn:n≤1000) (hc:c≤1000) (hu:SlII w0 w0.heap.size u (b5_ n c g)) (hg:InF p n c g) (hps:a9J n c g ps)
  (hv:SlI w0 w0.heap.size v (rowF c fun t=>if t=j then 1 else 0)) :
  Calls Tryz.prog 92 #[.agg #[.int .i64 z,u],.int .i64 p,v] w0 fun e w'=>∃ v,e = .returned v∧a9_ w' w0.heap.size w'.heap.size v (rowF c (rsO p g ps j n))∧Below w0.heap.size w0 w':=by
 have hu1:=hu;obtain⟨UA,uc,rfl,_⟩:=hu1;have hv1:=hv;obtain⟨VA,vc,rfl,_⟩:=hv1;rw[a3_]at hu⊢;rw[a1_]at hv⊢;obtain⟨W,hW,g0,kB⟩:=b_3 w0 #[.int .i64 z,.slice UA n uc] 65;have HU:=h_ (SlII.next g0 hu);have HV:=h_ (SlI.next g0 hv);have HP:=h_ hps.2;have HG:=h_ hg;clear hu hps hv hg;go_enter Tryz.func92,Tryz.ntmps92
 go_wp2_with fail
 rw[←hW];clear hW;refine (o9_ _ (rowF c fun t=>if t=j then 1 else 0) _ HV.out).mono ?_;rintro e w1 ⟨v1,rfl,hO1,hb1⟩;obtain⟨OA,oc,eo⟩:=hO1.form;rw[a1_]at eo;subst eo;have k1:=kB.call hb1;have c1:=k1.cell' (i:=1) rfl;have s1:=hb1.size;have hO1':a9_ w1 W.heap.size w1.heap.size (.slice OA c oc) (rowF c (rsO p g ps j 0)):=hO1;have s0:=g0.size;clear hO1;go_wp2;clear c1;go_loopw [15] (fun i wr=>∃ k:Nat,k≤n∧i = .int .i64 k∧a9_ wr W.heap.size w1.heap.size (.slice OA c oc) (rowF c (rsO p g ps j k))∧Below W.heap.size W wr∧w1.heap.size≤wr.heap.size) (fun i _=>n-(intOf i).toNat)
 case atStart=>exact⟨0,l0_ _,rfl,hO1',hb1,l_ _⟩
 case round =>
  clear hO1' hb1;obtain⟨k,hk,rfl,ho,hb,hs⟩:=hrel;have sb:=hb.size;by_cases hlt:k<n
  ·obtain⟨bb,oo,lr,A',c',eK,hbb,HXL,r1,hrow⟩:=SlII.at_ (k:=k) (xs:=b5_ n c g) (by rw[a3_];exact HU.out) (by rw[a3_];exact hlt);subst eK;have hlr:=HXL.out;rw[g2_ _ hlt]at hlr;injection hlr with hlr
   subst hlr;rw[a1_]at r1 hrow;obtain⟨b,hb1,hb2,hb3⟩:=HP.out k hlt;have r1':=a7_ hb hbb r1;have HROW:=h_ hrow;have HRW:=h_ (SlI.next hb hrow);have HB3:=h_ hb3;have HB1:=h_ hb1;have HO:=h_ ho;have HB:=h_ hb;clear hrow r1 hb1 hb3 ho hb HXL;go_wp2_with fail
   refine (K1_ _ (rowF c (g k)) _ HRW.out).mono ?_;rintro e w2 ⟨rfl,hb2'⟩;rw[HB3.out];have ho2:=HO.out.below hb2';have hB2:=HB.out.trans (hb2'.mono sb);have s2:=hb2'.size;obtain⟨go,co,eo,hg1,hg2,_⟩:=ho2.at_ (by rw[a1_];omega);simp only[Value.slice.injEq]at eo;obtain⟨eo,eo2,eo3⟩:=eo;clear eo2 eo3;subst eo;have oc1:=(ho2.1.cellG (j:=b) (by rw[a1_];exact hb2)).1;rw[c9_ _ hb2]at oc1;obtain⟨x,hx⟩:=e_ (rsO p g ps j k b);have hxr:=W7_ hp.1 g ps j k b;rw[hx]at oc1 hxr;have HX:=h_ hx;have hcap:c≤oc∧oc≤9223372036854775807:=by
    obtain⟨_,_,e,h1,h2⟩:=ho2.1.form;rw[a1_]at e h1;injection e with _ _ e3
    subst e3;exact⟨h1,h2⟩
   have HO2:=h_ ho2;have HB2:=h_ hB2;clear r1' ho2 hB2 hb2' hx;go_wp2_with fail
   refine (o0_ p (p-x) go 0 c c oc oc W.heap.size w1.heap.size (rsO p g ps j k) (g k) _ _ hp (by omega) HO2.out ⟨hg1,hg2⟩ (by omega) (by omega) hcap (by omega) (SlI.more (l_ _) (SlI.below HB2.out HROW.out)) (fun i hi=>by have:=W7_ hp.1 g ps j k i;omega) (fun i hi=>by have:=HG.out k i hlt hi;omega)).mono ?_;rintro e w3 ⟨rfl,ho3,hch,hsz⟩;have hst:rowF c (amF p (p-x) 0 c (rsO p g ps j k) (g k))=rowF c (rsO p g ps j (k+1)):=b6_ fun t ht=>by
    have hb1:=HB1.out;rw[rsO,l1_,hb1,Option.getD_some,l5_,HX.out];simp[amF,ht]
   rw[hst]at ho3;have HO3:=h_ ho3;have HB3':=h_ (HB2.out.trans (hch.below (l_ _) (by omega)));have hs3:w1.heap.size≤w3.heap.size:=by omega
   clear oc1 ho3 hch hst hsz;go_wp2;go_roundw
   case rel=>exact⟨k+1,by omega,by go_num,HO3.out,HB3'.out,hs3⟩
   case measure=>simp[intOf];omega
  ·obtain rfl:k=n:=by omega
   have HO:=h_ ho;have GF:=h_ (a6_ g0 hb);clear ho hb;go_wp2;go_ret
   exact⟨_,rfl,HO.out.wider s0 hs,GF.out⟩
theorem Blk.apart {w:World} {g g':Nat} {t t':TypeId} {cs cs':Array Value} (h:Blk w g t cs) (k:Blk w g' t' cs') (ht:t≠t'):g≠g':=by
 rintro rfl;unfold Blk at h k;rw[h]at k;injection k with k
 injection k with _ k
 exact ht k
theorem S9_ (n:Nat) (g:Nat→Int):rowF (n+1) g=rowF n g ++ [g n]:=by simp[rowF,List.range_succ]
theorem OwnI.fresh {w:World} {base g:Nat} (h:Blk w g 3 #[]) (hb:base≤g):OwnI w base (.slice (some ⟨g,0,none⟩) 0 0) []:=by
 have h1:=h.own (base:=base) (n:=0) (cap:=0) (size:=1) hb (l_ _) (by simp only[maxLen];omega) (by simp);exact⟨by simpa using h1,by simp,fun x hx=>by simp at hx⟩
theorem RowO.fresh {w:World} {base g:Nat} {T:TypeId} {sz:Nat} (h:Blk w g T #[]) (hb:base≤g):RowO T sz w base w.heap.size (.slice (some ⟨g,0,none⟩) 0 0) 0 []:=by
 have h1:=h.own (base:=base) (n:=0) (cap:=0) (size:=sz) hb (l_ _) (by simp only[maxLen];omega) (by simp);exact⟨by simpa using h1,fun k hk=>by simp[Value.ownBlock]at hk;subst hk;exact h.lt,by omega⟩
def pjF (p:Int) (g:Nat→Nat→Int) (ps L:List Int) (n j a:Nat):Int:=rsO p g ps j n (L.getD a 0).toNat
theorem a6J (p:Int) (n c:Nat) (g:Nat→Nat→Int) (ps:List Int) (u:Value) (w0:World) (hp:2≤p∧p≤5) (hn:n≤1000) (hc:c≤100) (hu:SlII w0 w0.heap.size u (b5_ n c g)) (hg:InF p n c g) (hps:a9J n c g ps) :
  Calls Tryz.prog 50 #[.int .i64 p,.agg #[.int .i64 c,u]] w0 fun e w'=>∃ v,e = .returned v∧MxO w' w0.heap.size w'.heap.size v (mxF (b2_ ps c).length c (fun a j=>pjF p g ps (b2_ ps c) n j a))∧Below w0.heap.size w0 w':=by
 have hu1:=hu;obtain⟨UA,uc,rfl,_⟩:=hu1;rw[a3_]at hu⊢;obtain⟨V,hV⟩:=e_ (w0.alloc (.cells #[.int .i64 c,.slice UA n uc] 65));obtain⟨W,hW⟩:=e_ (V.alloc (.cells #[.int .i64 0,.int .i64 0,.slice none 0 0] 41));have gV:Below w0.heap.size w0 V:=by rw[←hV];exact a2_ _ _
 have sV:V.heap.size=w0.heap.size+1:=by rw[←hV];simp
 have kV:Blk V w0.heap.size 65 #[.int .i64 c,.slice UA n uc]:=by rw[←hV];exact Blk.new _ _ _
 have gW:Below V.heap.size V W:=by rw[←hW];exact a2_ _ _
 have sW:W.heap.size=V.heap.size+1:=by rw[←hW];simp
 have kM:Blk W V.heap.size 41 #[.int .i64 0,.int .i64 0,.slice none 0 0]:=by rw[←hW];exact Blk.new _ _ _
 rw[sV]at kM;have kB:=kV.call gW;have g0:=gV.trans (gW.mono (by omega));have HU:=h_ (SlII.next g0 hu);have HP:=h_ hps;have HG:=h_ hg;have sW2:Hid (W.heap.size=w0.heap.size+2):=by show _=_;omega
 clear hu hps hg gV gW kV;go_enter Tryz.func50,Tryz.ntmps50
 go_wp2_with fail
 clear hV hW sV sW;refine a8_ (by kernel_rfl) [.eq (.pointer (some ⟨w0.heap.size,0,none⟩)),.eq (.int .i64 c),.eq (.agg #[.int .i64 c,.slice UA n uc]),rel 3 (fun u lo hi w=>a9_ w lo hi u ps),rel 4 (fun u lo hi w=>a9_ w lo hi u (b2_ ps c)),.rel (fun x w=>a9_ w (x.lo 4) (x.hi 4) (x.v 5) (b2_ ps c))] [[],[0],[],[2],[0,1,2,3],[0,1,2,3,4]] 6 (by kernel_rfl) ⟨trivial,trivial,trivial,a4_ (fun u lo hi w w' h hb=>h.below hb),a4_ (fun u lo hi w w' h hb=>h.below hb),fun x w w' h hb=>h.below hb,trivial⟩ ⟨?_,?_,?_,?_,?_,?_,trivial⟩ ?_;iterate 6 (intro x w hb hk Q' hQ;have he:=k_e hk;simp only[k_s]at he;simp only[netE]at hQ⊢;(try simp only[he]at hQ⊢);(try clear he);rotate_left)
 rotate_left
 ·clear hk;go_wp2;exact hQ _ _ br_ rfl
 ·clear hk;have z0:=(kB.call hb).cell' (i:=0) rfl;go_wp2;exact hQ _ _ br_ rfl
 ·clear hk;have z0:=(kB.call hb).cell' (i:=0) rfl;have z1:=(kB.call hb).cell' (i:=1) rfl;go_wp2;exact hQ _ _ br_ rfl
 ·clear hk;have HX:=h_ (SlII.next hb HU.out);go_wp2_with fail
  have hq:=S4_ n c g ps c (.slice UA n uc) w hn (by omega) (by have:=HX.out;exact this) HP.out;refine hq.mono ?_;rintro e w5 ⟨v5,rfl,hO5,hb5⟩;go_wp2;exact hQ _ _ hb5 hO5
 ·have h3:a9_ w (x.lo 3) (x.hi 3) (x.v 3) ps:=(hk 3 (by decide)).1;have s3:=(hk 3 (by decide)).2;clear hk;have H3:=h_ h3.rd;go_wp2_with fail
  refine (x4_ c _ ps _ (by omega) H3.out).mono ?_;rintro e w5 ⟨v5,rfl,hO5,hb5⟩;go_wp2;exact hQ _ _ hb5 hO5
 ·have h3:a9_ w (x.lo 3) (x.hi 3) (x.v 3) ps:=(hk 3 (by decide)).1;have h4:a9_ w (x.lo 4) (x.hi 4) (x.v 4) (b2_ ps c):=(hk 4 (by decide)).1;have s3:=(hk 3 (by decide)).2;have s4:=(hk 4 (by decide)).2;clear hk;have H4:=h_ h4;go_wp2;exact hQ _ _ br_ H4.out
 ·intro x w hb hk hiv hdj;have h3:a9_ w (x.lo 3) (x.hi 3) (x.v 3) ps:=hk 3 (by decide);have h4:a9_ w (x.lo 4) (x.hi 4) (x.v 4) (b2_ ps c):=hk 4 (by decide);have h5:a9_ w (x.lo 4) (x.hi 4) (x.v 5) (b2_ ps c):=hk 5 (by decide);have he:=k_g hk [0,1,2];simp only[k_s]at he;simp only[netE,he];clear he hk;obtain⟨FA,fc,ev⟩:=h5.form;rw[ev]at h5⊢;have HLF0:=h5.rd;have gf0:=g0.trans (hb.mono g0.size);have kB1:=kB.call hb;have kM1:=kM.call hb;have HU1:=h_ (SlII.next hb HU.out);have hsb:=hb.size;clear h5 h4 h3 ev kB kM hb hiv;have hfl:=d7_ ps c;have HFV0:=fun (j:Nat) (x:Int) (hx:(b2_ ps c)[j]?=some x)=>y4_ hx
  obtain⟨L,hL⟩:=e_ (b2_ ps c);rw[hL]at HLF0 HFV0 hfl⊢;obtain⟨K,hK⟩:=e_ (L.length);rw[hK]at HLF0 hfl⊢;have HK:=h_ hK;have HLF:=h_ HLF0;have HFV:=h_ HFV0;have HLL:=h_ hL;clear hL hK HLF0 HFV0;have GF0:=h_ gf0;have c0:=kB1.cell' (i:=0) rfl;clear gf0;go_wp2_with fail
  refine (T0_ c _ (by omega)).mono ?_;rintro e w2 ⟨v2,rfl,hI,hb2⟩;obtain⟨MA,mc,em⟩:=hI.form;subst em;have HI:=h_ hI.rd;have hw2:=hb2.size;clear hI c0;go_wp2_with fail
  refine (I3_ _ c c idF _ HI.out (by omega) (by omega)).mono ?_;rintro e w3 ⟨v3,rfl,hR,hb3⟩;obtain⟨RA,rc,er,_⟩:=hR.form2;rw[a3_]at er;subst er;have g13:=a6_ hb2 hb3;have s13:=g13.size;have HR:=h_ hR.rd;have HLF3:=h_ (SlI.next g13 HLF.out);have HU3:=h_ (SlII.next g13 HU1.out);have kB3:=kB1.call g13;have kM3:=kM1.call g13;have lB:=kB3.lt;have lM:=kM3.lt;have G3:=h_ (GF0.out.trans (g13.mono GF0.out.size));clear hb2 hb3 hR g13 kB1 kM1;go_wp2;go_loopw [6,23] (fun out i wr=>∃ k:Nat,k≤c∧i = .int .i64 k∧b1_ wr w3.heap.size wr.heap.size out (b5_ k K (pjF p g ps L n))∧Below w3.heap.size w3 wr) (fun _ i _=>c-(intOf i).toNat)
  case atStart=>exact⟨0,l0_ _,rfl,by simpa [b5_] using b1_.nil w3 w3.heap.size w3.heap.size,Below.refl _ _⟩
  case round =>
   obtain⟨k,hk,rfl,hO,hbr⟩:=hrel;have sr:=hbr.size;obtain⟨OA,oc,eo,_,_,_⟩:=hO.form2;rw[a3_]at eo;subst eo;by_cases hlt:k<c
   ·obtain⟨bb,oo,lr,A',c',eK,hbb,HXL,r1,hrow⟩:=SlII.at_ (k:=k) (xs:=b5_ c c idF) (by rw[a3_];exact HR.out) (by rw[a3_];exact hlt);subst eK;have hlr:=HXL.out;rw[g2_ _ hlt]at hlr;injection hlr with hlr
    subst hlr;rw[a1_]at r1 hrow;have r1':=a7_ hbr hbb r1;have HROW:=h_ (SlI.next hbr hrow);have kBr:=kB3.call hbr;have z0:=kBr.cell' (i:=0) rfl;have z1:=kBr.cell' (i:=1) rfl;have HUr:=h_ (SlII.next hbr HU3.out);have HO:=h_ hO;have HB:=h_ hbr;obtain⟨H4,hH4⟩:=e_ (wr.heap.size);clear hO hbr r1 hrow HXL kBr;go_wp2_with fail
    refine (c5z p n c g ps c (.slice UA n uc) _ k wr hp hn (by omega) (by have:=HUr.out;exact this) HG.out HP.out (by have:=HROW.out;rw[show rowF c (idF k)=rowF c (fun t=>if t=k then 1 else 0) from b6_ fun t _=>by simp[idF,eq_comm]]at this;exact this)).mono ?_;rintro e w5 ⟨v5,rfl,hO5,hb5⟩;obtain⟨VA,vc,ev⟩:=hO5.form;rw[a1_]at ev;subst ev;have HV5:=h_ hO5.rd;have s5:=hb5.size;have hB5:=HB.out.trans (hb5.mono sr);have hO5':=HO.out.below hb5;rw[hH4]at hO5';have hH4l:H4≤wr.heap.size:=Nat.le_of_eq hH4.symm;have hH4g:wr.heap.size≤H4:=Nat.le_of_eq hH4;have HO5:=h_ hO5';have HB5:=h_ hB5;clear hO5 hb5 hB5 hO5' r1' z0 z1 HO HB hH4;go_wp2;go_loopw [10,33] (fun out i wr=>∃ t:Nat,t≤K∧i = .int .i64 t∧OwnI wr w5.heap.size out (rowF t (pjF p g ps L n k))∧Below w3.heap.size w3 wr∧Below w5.heap.size w5 wr∧b1_ wr w3.heap.size H4 (.slice OA k oc) (b5_ k K (pjF p g ps L n))) (fun _ i _=>K-(intOf i).toNat)
    case atStart=>exact⟨0,l0_ _,rfl,OwnI.nil _ _,HB5.out,Below.refl _ _,HO5.out⟩
    case round =>
     clear HO5 HB5;obtain⟨t,ht,rfl,ho,hb,hb5,hO⟩:=hrel;have ss:=hb5.size;by_cases htl:t<K
     ·obtain⟨QA,qc,eq,_,_⟩:=ho.form;rw[a1_]at eq;subst eq;obtain⟨bf,of_,x,ef,hbf,HX,f1,_⟩:=SlI.atM (k:=t) HLF3.out HK.out htl;subst ef;obtain⟨fk,rfl,hfk,_⟩:=HFV.out t x HX.out;obtain⟨bv,ov,x,ev,hbv,HXV,v1,_⟩:=SlI.atM (k:=fk) HV5.out (a1_ _ _) hfk;subst ev;have hxv:=HXV.out;rw[d1_ _ hfk]at hxv;injection hxv with hxv
      have hxr:=W7_ hp.1 g ps k n fk;rw[hxv]at hxr;have HXE:Hid (x=pjF p g ps L n k t):=by
       show _=_;have:=HX.out;rw[pjF,l1_,this,Option.getD_some,l5_,hxv]
      have z1:=a7_ hb hbf f1;have z2:=a7_ hb5 hbv v1;have HO:=h_ ho;have HB:=h_ hb;have HB5:=h_ hb5;have HOO:=h_ hO;have hlo2:=ho.lt;clear ho hb hb5 hO f1 v1 HXV hxv HX
      (go_wp2_with (at_builtin;refine Hold.stop ?_));unfold Hold
      obtain⟨X,hX⟩:∃ X,X=wr.alloc (.cells #[.int .i64 x] 3):=⟨_,rfl⟩;have gn:Below wr.heap.size wr X:=by rw[hX];exact a2_ _ _
      have h1x:SlI X X.heap.size (.slice (some ⟨wr.heap.size,0,none⟩) 1 1) [x]:=by rw[hX];exact SlI.one _ _ _ (by simp only[I64];omega)
      have ho3:=(HO.out).below gn;have gns:=gn.size;rw[←hX];clear hX;refine c3_ rfl (.tmp 37) (.tmp 42) rfl w5.heap.size X.heap.size _ _ rfl ho3 _ 1 1 [x] rfl rfl h1x (by simp[a1_];omega) (by omega) ?_;intro v' w' h1 h2 h3;rw[HXE.out,←S9_]at h1;have hbX:=b9_ h2 (B:=w5.heap.size) (fun k hk=>(hlo2 k hk).1) (by omega);have H1:=h_ h1;have hg:=(gn.mono ss).trans hbX;have G1:=h_ (HB.out.trans (hg.mono (by omega)));have G5:=h_ (HB5.out.trans hg);have O1:=h_ (HOO.out.chg (a7z hg) (.inl (by omega)));clear h1 h2 h3 hbX hg gn ho3 h1x z1 z2;go_wp2;go_roundw
      case rel=>exact⟨t+1,by omega,by go_num,H1.out,G1.out,G5.out,O1.out⟩
      case measure=>simp[intOf];omega
     ·obtain rfl:t=K:=by omega
      obtain⟨QA,qc,eq,_,_⟩:=ho.form;rw[a1_]at eq;subst eq;obtain⟨Z,hZ⟩:=e_ (wr.alloc (.cells #[.slice QA t qc] 24));obtain⟨gz,hgz⟩:=e_ (wr.heap.size);have bZ:Below wr.heap.size wr Z:=by rw[←hZ];exact a2_ _ _
      have kZ:Blk Z gz 24 #[.slice QA t qc]:=by rw[←hZ,←hgz];exact Blk.new _ _ _
      have HOZ:=h_ (hO.below bZ);have HRZ:=h_ ((a9_.of_own ho).below bZ);have HBZ:=h_ (hb.trans (bZ.mono (by omega)));have sZ:=bZ.size;have C0:=h_ (kZ.cell' (i:=0) rfl);have hgz2:wr.heap.size≤gz:=Nat.le_of_eq hgz;have hgz3:gz≤wr.heap.size:=Nat.le_of_eq hgz.symm;clear ho hb hb5 hO bZ kZ
      (go_wp2_with (at_builtin;refine Hold.stop ?_));unfold Hold
      clear hZ hgz;refine n1_ (by rfl) (.tmp 45) (.tmp 47) (by rfl) w3.heap.size H4 w5.heap.size wr.heap.size _ _ _ (by rfl) HOZ.out (some ⟨gz,0,none⟩) 1 _ (by rfl) ⟨_,_,rfl,C0.out⟩ HRZ.out (by omega) (by omega) (by omega) (by rw[a3_];omega) (by omega) (by omega) ?_;intro v' w' h1 h2 h3;have hsn:=n2_ k t (pjF p g ps L n);rw[←hsn]at h1;have H1:=h_ h1;have H2:=h_ (HBZ.out.trans h2);clear h1 h2 h3 hsn;go_wp2;go_roundw
      case rel=>exact⟨k+1,by omega,by go_num,H1.out,H2.out⟩
      case measure=>simp[intOf];omega
   ·obtain rfl:k=c:=by omega
    have HO:=h_ hO.rd;have kMr:=kM3.call hbr;have G4:=h_ (a6_ G3.out hbr);clear hO hbr;go_wp2_with fail
    refine (i7_ _ K k (fun a j=>pjF p g ps L n j a) wr (by have:=HO.out;exact this) (by omega) (by omega)).mono ?_;rintro e w7 ⟨v7,rfl,hM,hb7⟩;have k7:=kMr.call hb7;have gf:=a6_ G4.out hb7;obtain⟨A7,a7,e7⟩:=hM.form;subst e7;simp only[mxF,a0_]at hM⊢;obtain⟨ML,hML⟩:=e_ (K*k);rw[hML]at hM⊢;have HML:=h_ hML;obtain⟨p0,p1,p2⟩:=c_3 k7;have fr:=k7.frozen;have h2:=chg3 w7 (w0.heap.size+1) (.int .i64 (K:Int)) (.int .i64 k) (.slice A7 ML a7);have gs:=gf.size;have sz:=sW2.out;have OF:=h_ ((hM.chg h2 (.inr (by omega))).wider (lo':=w0.heap.size) (hi':=w7.heap.size) (by omega) (l_ _));have GF:=h_ (gf.trans (h2.below (by omega) gs));clear hM gf h2 hb7 k7 kMr hML sz;go_wp2;exact bodyPost_ret (v:=.agg #[.int .i64 (K:Int),.int .i64 k,.slice A7 ML a7]) (by simp[results,go_sem,p0,p1,p2]) rfl ⟨_,rfl,by rw[HLL.out,HK.out];have:=OF.out;simpa [mxF] using this,by have:=GF.out;simpa using this⟩
theorem c5j (p:Int) (u:Value) (r c:Nat) (f:Nat→Nat→Int) (w0:World) (hp:f2_ p=true) (hr:r≤1000) (hc:c≤1000) (hu:SlII w0 w0.heap.size u (b5_ r c f)) (hf:InF p r c f) :
  Calls Tryz.prog 48 #[.int .i64 p,.int .i64 c,u] w0 fun e w'=>∃ v,e = .returned (.agg #[.int .i64 c,v])∧b1_ w' w0.heap.size w'.heap.size v (b5_ (rdTo p r f c).2.length c (rdTo p r f c).1)∧Below w0.heap.size w0 w':=by
 have hpr:=f4_ hp;have hu1:=hu;obtain⟨UA,uc,rfl,_⟩:=hu1;rw[a3_]at hu⊢;obtain⟨W,hW,g0,kR⟩:=b_3 w0 #[.int .i64 0,.slice none 0 0] 65;have sW:W.heap.size=w0.heap.size+1:=by rw[hW];simp
 have SW:=h_ sW;have HU:=h_ (SlII.next g0 hu);have HF:=h_ hf;have HP:=h_ hp;clear hu hf hp sW;go_enter Tryz.func48,Tryz.ntmps48
 go_wp2_with fail
 rw[←hW];clear hW;refine (w8_ _ c r f _ HU.out hr hc).mono ?_;rintro e w1 ⟨v1,rfl,hM,hb1⟩;obtain⟨A1,a1,e1⟩:=hM.form;simp only[mxF]at e1;have HM:=h_ hM.rd;rw[e1]at HM⊢;have g1:=a6_ g0 hb1;have kR1:=kR.call hb1;clear hM e1 hb1;go_wp2_with fail
 refine (t3_ p _ r c f _ HP.out hr hc HM.out HF.out).mono ?_;rintro e w2 ⟨m,v,rfl,hM2,hI,hb2⟩;have hpl:=f6_ p r f c;obtain⟨g,hg⟩:=e_ ((rdTo p r f c).1);obtain⟨ps,hps⟩:=e_ ((rdTo p r f c).2);rw[hg]at hM2;rw[hps]at hI hpl;have HG:=h_ hg;have HPS:=h_ hps;clear hg hps;obtain⟨MA,mc,em⟩:=hM2.form;obtain⟨PA,pc,ev⟩:=hI.form;subst em ev;simp only[mxF,a0_]at hM2⊢;obtain⟨ML,hML⟩:=e_ (r*c);rw[hML]at hM2⊢;have HML:=h_ hML;obtain⟨pn,hpn⟩:=e_ (ps.length);rw[hpn]at hI hpl⊢;have HPN:=h_ hpn;clear hML hpn;obtain⟨W3,hW3,ga,kM⟩:=b_1 w2 #[.int .i64 r,.int .i64 c,.slice MA ML mc] 41;have HM3:=h_ (hM2.below ga).rd;have g23:=a6_ hb2 ga;have G3:=h_ (a6_ g1 g23);have kR3:=kR1.call g23;have lR:=kR3.lt;have s3:=g23.size;have s1:=g1.size;clear hM2 hI ga hb2 g23 g1 kR1 kR;go_wp2;clear hW3;go_loopw [9,21] (fun out i wr=>∃ k:Nat,k≤pn∧i = .int .i64 k∧b1_ wr W3.heap.size wr.heap.size out (b5_ k c g)∧Below W3.heap.size W3 wr) (fun _ i _=>pn-(intOf i).toNat)
 case atStart=>exact⟨0,l0_ _,rfl,by simpa [b5_] using b1_.nil W3 W3.heap.size W3.heap.size,Below.refl _ _⟩
 case round =>
  obtain⟨k,hk,rfl,hO,hb⟩:=hrel;have sb:=hb.size;obtain⟨OA,oc,eo,_,_,_⟩:=hO.form2;rw[a3_]at eo;subst eo;by_cases hlt:k<pn
  ·have kMr:=kM.call hb;obtain⟨m0,m1,m2⟩:=c_3 kMr;have HMr:=h_ (MxR.next hb HM3.out);have HO:=h_ hO;have HB:=h_ hb;clear hO hb kMr;go_wp2_with fail
   refine (W9_ _ r c k g _ HMr.out hr hc (by omega)).mono ?_;rintro e w5 ⟨v5,rfl,hS,hb5⟩;have hS1:=hS;obtain⟨VA,vc,ev,_⟩:=hS1;rw[a1_]at ev;subst ev;have HS:=h_ hS;have hO5:=HO.out.below hb5;have hB5:=HB.out.trans (hb5.mono sb);have s5:=hb5.size;clear hS m0 m1 m2 hb5;go_wp2_with fail
   refine (o9_ _ (rowF c (g k)) _ HS.out).mono ?_;rintro e w6 ⟨v6,rfl,hR,hb6⟩;obtain⟨RA,rc,ev⟩:=hR.form;rw[a1_]at ev;subst ev;obtain⟨Z,hZ⟩:=e_ (w6.alloc (.cells #[.slice RA c rc] 24));obtain⟨gz,hgz⟩:=e_ (w6.heap.size);have bZ:Below w6.heap.size w6 Z:=by rw[←hZ];exact a2_ _ _
   have kZ:Blk Z gz 24 #[.slice RA c rc]:=by rw[←hZ,←hgz];exact Blk.new _ _ _
   have s6:=hb6.size;have sZ:=bZ.size;have HOZ:=h_ ((hO5.below hb6).below bZ);have HRZ:=h_ (hR.below bZ);have HBZ:=h_ ((hB5.trans (hb6.mono (by omega))).trans (bZ.mono (by omega)));have C0:=h_ (kZ.cell' (i:=0) rfl);have hgz2:w6.heap.size≤gz:=Nat.le_of_eq hgz;have hgz3:gz≤w6.heap.size:=Nat.le_of_eq hgz.symm;clear hR hO5 hB5 hb6 bZ kZ
   (go_wp2_with (at_builtin;refine Hold.stop ?_));unfold Hold
   clear hZ hgz;refine n1_ (by rfl) (.tmp 24) (.tmp 29) (by rfl) W3.heap.size _ w5.heap.size w6.heap.size _ _ _ (by rfl) HOZ.out (some ⟨gz,0,none⟩) 1 _ (by rfl) ⟨_,_,rfl,C0.out⟩ HRZ.out (by omega) (by omega) (by omega) (by rw[a3_];omega) (by omega) (by omega) ?_;intro v' w' h1 h2 h3;have hsn:=n2_ k c g;rw[←hsn]at h1;have H1:=h_ h1;have H2:=h_ (HBZ.out.trans h2);clear h1 h2 h3 hsn;go_wp2;go_roundw
   case rel=>exact⟨k+1,by omega,by go_num,H1.out,H2.out⟩
   case measure=>simp[intOf];omega
  ·obtain rfl:k=pn:=by omega
   have kz:=kR3.call hb;have fr:=kz.frozen;have z0:=kz.cell' (i:=0) rfl;have z1:=kz.cell' (i:=1) rfl;have gf:=a6_ G3.out hb;have sz:=SW.out;have hc2:Chg w0.heap.size (w0.heap.size+1) wr ((wr.setCell ⟨w0.heap.size,0,none⟩ (.int .i64 c)).setCell ⟨w0.heap.size,1,none⟩ (.slice OA k oc)):=(b4_ (w:=wr) (p:=⟨w0.heap.size,0,none⟩) (u:=.int .i64 c) (l_ _) (m0_ _)).trans (b4_ (p:=⟨w0.heap.size,1,none⟩) (u:=.slice OA k oc) (l_ _) (m0_ _));have OF:=h_ ((hO.chg hc2 (.inr (by omega))).wider (lo':=w0.heap.size) (hi':=wr.heap.size) (by omega) (l_ _));have GF:=h_ (gf.trans (hc2.below (l_ _) gf.size));clear hO hb kz gf hc2;go_wp2;exact bodyPost_ret (v:=.agg #[.int .i64 c,.slice OA k oc]) (by simp[results,go_sem,z0,z1]) rfl ⟨_,rfl,by have:=OF.out;rw[HPS.out,HG.out,HPN.out];simpa using this,GF.out⟩
end Go.Proofs.YtnohdlkailpnoaaGreat

