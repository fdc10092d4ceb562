/- FnFunctors: the law holds for every argument. Part 7 of 14 of the proof: Tran, Prep2, Prei, Src, RepAt, AddM, Plus, Elim, Mul, Besd, Conc, ElimS, Red1, Rank0. No condition. -/
import Derived.Test.YtnohdlkailpnoaaGreatBFunctors6
import Derived.Shelf.Spec.SlicesGrow
set_option linter.unusedVariables false
set_option linter.unusedSimpArgs false
set_option maxHeartbeats 12800000
set_option maxRecDepth 100000
namespace Go.Proofs.YtnohdlkailpnoaaGreat
open Go.RowKit
def trK (f:Nat→Nat→Int) (i k a b:Nat):Int:=if b<i∨(b=i∧a<k) then f b a else 0
theorem f7Z (r c:Nat) (f:Nat→Nat→Int):flat c r (fun _ _=>0)=flat c r (trK f 0 0):=c1_ fun a b _ _=>by simp[trK]
theorem d6q {r c i k:Nat} (f:Nat→Nat→Int) (hi:i<r) (hk:k<c):(flat c r (trK f i k)).set (k*r+i) (f i k)=flat c r (trK f i (k+1)):=by
 rw[j8_ _ _ hk hi];refine c1_ fun a b _ _=>?_
 simp only[trK]
 (repeat' split) <;> first | rfl | omega | (rename_i h _;rw[h.1,h.2])
theorem c8j (r c i:Nat) (f:Nat→Nat→Int):flat c r (trK f i c)=flat c r (trK f (i+1) 0):=by
 refine c1_ fun a b ha _=>?_
 simp only[trK]
 (repeat' split) <;> first | rfl | omega
theorem f6X (r c:Nat) (f:Nat→Nat→Int):flat c r (trK f r 0)=flat c r (fun a b=>f b a):=c1_ fun a b _ hb=>by simp[trK,hb]
theorem r7_ (u:Value) (r c:Nat) (f:Nat→Nat→Int) (w0:World) (hu:MxR w0 w0.heap.size u (mxF r c f)) (hr:r≤1000) (hc:c≤1000) :
  Calls Tryz.prog 108 #[u] w0 fun e w'=>∃ v,e = .returned v∧MxO w' w0.heap.size w'.heap.size v (mxF c r (fun a b=>f b a))∧Below w0.heap.size w0 w':=by
 obtain⟨U,uc,rfl,hs,i1,i2,hl⟩:=hu.open_;clear hu;simp only[mxF]at hs hl i1 i2⊢;have HS:=h_ hs;obtain⟨L,hL⟩:=e_ ((flat r c f).length);have HL:=h_ hL;rw[hL]at hl⊢;obtain⟨W,hW,g0,k1,k2⟩:=b_4 w0 #[.int .i64 r,.int .i64 c,.slice U L uc] 41 #[.int .i64 0,.int .i64 0,.slice none 0 0] 41;have sz:W.heap.size=w0.heap.size+1+1:=by rw[hW];simp
 have K1:=h_ k1;have K2:=h_ k2;have SZ:=h_ sz;have q0:=k1.cell' (i:=0) rfl;have q1:=k1.cell' (i:=1) rfl;clear k1 k2 sz hs hL;go_enter Tryz.func108,Tryz.ntmps108
 go_wp2_with fail
 rw[←hW];clear hW;refine (n4_ (c:Int) r W (by omega) (by omega) (by omega) (by omega)).mono ?_;rintro e w1 ⟨v1,rfl,⟨sA,rfl,oA,hr2,hc2⟩,hb1⟩;rw[m6_]at oA hr2 hc2⊢;simp only[mxF]at oA hr2 hc2⊢;rw[f7Z r c f]at oA;obtain⟨A1,c1,e1⟩:=oA.form;obtain⟨N,hN⟩:=e_ (c*r);rw[a0_,hN]at e1;subst e1;have HN:=h_ hN;clear hN q0 q1;have s1:=hb1.size;obtain⟨W4,hW4,b4,k4⟩:=b_3 w1 #[.int .i64 c,.int .i64 r,.slice A1 N c1] 41;have oA:=oA.below b4;have gW:=a6_ hb1 b4;clear b4 hb1;go_wp2;rw[←hW4];clear hW4;go_loopw [4] (fun i wr=>∃ j:Nat,j≤r∧i = .int .i64 j∧Blk wr w1.heap.size 41 #[.int .i64 c,.int .i64 r,.slice A1 N c1]∧a9_ wr W.heap.size w1.heap.size (.slice A1 N c1) (flat c r (trK f j 0))∧Below W.heap.size W wr) (fun i _=>r-(intOf i).toNat)
 case atStart=>exact⟨0,l0_ _,rfl,k4,oA,gW⟩
 case round =>
  clear k4 oA gW;obtain⟨j,hj,rfl,k4,oA,gW⟩:=hrel;have s6:=gW.size;have k1:=(K1.out).below gW (by have:=SZ.out;omega);have q0:=k1.cell' (i:=0) rfl;by_cases hlt:j<r
  ·go_wp2;clear k1 q0;go_loopw [5] (fun i wr=>∃ k:Nat,k≤c∧i = .int .i64 k∧Blk wr w1.heap.size 41 #[.int .i64 c,.int .i64 r,.slice A1 N c1]∧a9_ wr W.heap.size w1.heap.size (.slice A1 N c1) (flat c r (trK f j k))∧Below W.heap.size W wr) (fun i _=>c-(intOf i).toNat)
   case atStart=>exact⟨0,l0_ _,rfl,k4,oA,gW⟩
   case round =>
    clear k4 oA gW s6;obtain⟨k,hk,rfl,k4,oA,gW⟩:=hrel;have s6:=gW.size;have k1:=(K1.out).below gW (by have:=SZ.out;omega);have q1:=k1.cell' (i:=1) rfl;by_cases hlk:k<c
    ·obtain⟨P,J,hP,hPJ,hJ,hJN,hJb⟩:=v8_ hlk hlt hc hr;rw[HN.out]at hJN;have hst:=d6q f hlt hlk;rw[←hJ]at hst;subst hPJ;obtain⟨P2,J2,hP2,hPJ2,hJ2,hJN2,hJb2⟩:=v8_ hlt hlk hr hc;have hs:=HS.out;obtain⟨b,o,x,rfl,hb,HX,x1,xr⟩:=SlI.at_ (k:=P2+k) hs (by rw[a0_];omega);have hx:=HX.out;rw[hPJ2,hJ2,j0_ f hlt hlk]at hx;injection hx with hx
     subst hx;have hJL:P2+k<L:=by rw[←HL.out,a0_];omega
     have gww:Below w0.heap.size w0 wr:=g0.trans (gW.mono g0.size);have gwws:=gww.size;have x2:=a7_ gww hb x1;obtain⟨gA,cA,eA,a1,a2,a3⟩:=oA.at_ (by rw[a0_,HN.out];omega);rw[a0_,HN.out]at eA;injection eA with eA1 eA2 eA3
     subst eA1 eA3;have hP':=h_ hP;have hP2':=h_ hP2;clear hs HX x1 hJ hJ2 hPJ2 hJN2;go_wp2;refine a8_ (by kernel_rfl) [.eq (.pointer (some ⟨w1.heap.size,2,none⟩)),.eq (.slice (some ⟨gA,0,none⟩) N c1),.eq (.int .i64 k),.eq (.pointer (some ⟨w0.heap.size,0,none⟩)),.eq (.int .i64 r),.eq (.int .i64 P),.eq (.int .i64 j),.eq (.int .i64 ((P:Int)+j)),.eq (.pointer (some ⟨w0.heap.size,2,none⟩)),.eq (.slice (some ⟨b,o,none⟩) L uc),.eq (.int .i64 j),.eq (.pointer (some ⟨w0.heap.size,1,none⟩)),.eq (.int .i64 c),.eq (.int .i64 P2),.eq (.int .i64 k),.eq (.int .i64 ((P2:Int)+k)),.eq (.pointer (some ⟨b,o+(P2+k),none⟩)),.eq (.int .i64 (f j k)),.eq (.pointer (some ⟨gA,P+j,none⟩))] [[],[0],[],[],[3],[2,3,4],[],[2,3,4,5,6],[],[8],[],[],[11],[10,11,12],[],[10,11,12,13,14],[8,9,10,11,12,13,14,15],[8,9,10,11,12,13,14,15,16],[0,1,2,3,4,5,6,7,8,9,10,11,12,13,14,15,16,17],[0,1,2,3,4,5,6,7,8,9,10,11,12,13,14,15,16,17,18]] 19 (by kernel_rfl) ⟨trivial,trivial,trivial,trivial,trivial,trivial,trivial,trivial,trivial,trivial,trivial,trivial,trivial,trivial,trivial,trivial,trivial,trivial,trivial,trivial⟩ ⟨?_,?_,?_,?_,?_,?_,?_,?_,?_,?_,?_,?_,?_,?_,?_,?_,?_,?_,?_,trivial⟩ ?_;iterate 19 (intro x w hb hk Q' hQ;have he:=k_e hk;simp only[k_s]at he;simp only[netE]at hQ⊢;(try simp only[he]at hQ⊢);(try clear he);rotate_left)
     rotate_left
     ·clear hk;go_wp2;exact hQ _ _ br_ rfl
     ·clear hk;have z2:=(k4.call hb).cell' (i:=2) rfl;go_wp2;exact hQ _ _ br_ rfl
     iterate 2 (· clear hk;go_wp2;exact hQ _ _ br_ rfl)
     ·clear hk;have z2:=(k1.call hb).cell' (i:=0) rfl;go_wp2;exact hQ _ _ br_ rfl
     ·clear hk;go_wp2;rw[hP'.out];exact hQ _ _ br_ rfl
     iterate 3 (· clear hk;go_wp2;exact hQ _ _ br_ rfl)
     ·clear hk;have z2:=(k1.call hb).cell' (i:=2) rfl;go_wp2;exact hQ _ _ br_ rfl
     iterate 2 (· clear hk;go_wp2;exact hQ _ _ br_ rfl)
     ·clear hk;have z2:=(k1.call hb).cell' (i:=1) rfl;go_wp2;exact hQ _ _ br_ rfl
     ·clear hk;go_wp2;rw[hP2'.out];exact hQ _ _ br_ rfl
     iterate 3 (· clear hk;go_wp2;exact hQ _ _ br_ rfl)
     ·clear hk;have z2:=a7_ hb (by omega) x2;go_wp2;exact hQ _ _ br_ rfl
     ·clear hk;go_wp2;exact hQ _ _ br_ rfl
     ·intro x w hb hk hiv hdj;have he:=k_g hk [0,1,2,3,4,5,6,7,8,9,10,11,12,13,14,15,16,17,18];simp only[k_s]at he;simp only[netE,he];clear he hk;have oB:=oA.below hb;have k4b:=k4.call hb;have fA:=oB.1.frozenG (P+j);have cA:=(oB.1.cellG (j:=P+j) (by rw[a0_,HN.out];omega)).1;have hws:=hb.size;have hc1:Chg W.heap.size w1.heap.size w (w.setCell ⟨gA,P+j,none⟩ (.int .i64 (f j k))):=b4_ a1 a2;have oA2:=oB.put (j:=P+j) (x:=f j k) xr;rw[hst]at oA2;have OA2:=h_ oA2;have K4:=h_ (k4b.chg hc1 (by omega));have GW:=h_ ((gW.trans (hb.mono s6)).trans (hc1.below (l_ _) (by omega)));clear oA2 k4 oA gW hc1 hst oB k4b hiv hdj hb k1 q1;go_wp2;go_roundw
      case rel=>exact⟨k+1,by omega,by go_num,K4.out,OA2.out,GW.out⟩
      case measure=>simp[intOf];omega
    ·obtain rfl:k=c:=by omega
     rw[c8j]at oA;have OA:=h_ oA;have K4:=h_ k4;have GW:=h_ gW;clear oA k4 gW k1;go_wp2;go_roundw
     case rel=>exact⟨j+1,by omega,by go_num,K4.out,OA.out,GW.out⟩
     case measure=>simp[intOf];omega
  ·obtain rfl:j=r:=by omega
   rw[f6X]at oA;have k2:=K2.out.below gW (by have:=SZ.out;omega);obtain⟨z0,z1,z2⟩:=c_3 k4;obtain⟨p0,p1,p2⟩:=c_3 k2;have f2:=k2.frozen;have h2:=chg3 wr (w0.heap.size+1) (.int .i64 (c:Int)) (.int .i64 j) (.slice A1 N c1);have gw:Below w0.heap.size w0 wr:=g0.trans (gW.mono g0.size);have gs:=gw.size;have oA2:=(oA.chg h2 (.inr (by have:=SZ.out;omega))).wider (lo':=w0.heap.size) (hi':=wr.heap.size) (by have:=SZ.out;omega) (by have:=k4.lt;omega);have fg:=gw.trans (h2.below (by omega) gs);have OA2:=h_ oA2;have FG:=h_ fg;clear oA oA2 fg gw h2 k2 k4 gW k1;go_wp2;exact bodyPost_ret (v:=.agg #[.int .i64 (c:Int),.int .i64 j,.slice A1 N c1]) (by simp[results,go_sem,p0,p1,p2]) rfl ⟨_,rfl,⟨_,rfl,by simpa using OA2.out,hr2,hc2⟩,FG.out⟩
def endV (l:List Int) (q:Qv) (v:Int):Bool:=inR v 0 (q.v-1) && !decide (v∈l)
def b2_ (l:List Int) (k:Nat):List Int:=((List.range k).map fun i:Nat=>(i:Int)).filter fun u=>!decide (u∈l)
theorem n7_ {l:List Int} {k:Nat} (h:decide ((k:Int)∈l)=false):b2_ l (k+1)=b2_ l k ++ [(k:Int)]:=by
 simp only[b2_,List.range_succ,List.map_append,List.filter_append,List.map_cons,List.map_nil,List.filter_cons,h,Bool.not_false,if_true,List.filter_nil]
theorem q5_ {l:List Int} {k:Nat} (h:decide ((k:Int)∈l)=true):b2_ l (k+1)=b2_ l k:=by
 simp only[b2_,List.range_succ,List.map_append,List.filter_append,List.map_cons,List.map_nil,List.filter_cons,h,Bool.not_true,List.filter_nil,List.append_nil];simp
theorem d7_ (l:List Int) (k:Nat):(b2_ l k).length≤k:=by
 unfold b2_;refine Nat.le_trans (List.length_filter_le _ _) ?_;simp
theorem u2_ (l:List Int) (V:Nat) (q:Qv) (v:Int) (h:q.v=(V:Int)):decide (v∈b2_ l V)=endV l q v:=by
 rw[Bool.eq_iff_iff];simp only[b2_,endV,decide_eq_true_eq,List.mem_filter,List.mem_map,List.mem_range,l9_,t0_,h];constructor
 ·rintro⟨⟨i,hi,rfl⟩,h2⟩;exact⟨by omega,h2⟩
 ·rintro⟨h1,h2⟩;exact⟨⟨v.toNat,by omega,by omega⟩,h2⟩
theorem s5_ (u:Value) (q:Qv) (v:Int) (w:World) (hu:QvR w w.heap.size u q) (hq:isQ q=true) :
  Calls Tryz.prog 68 #[u,.int .i64 v] w fun e w'=>e = .returned (.bool (endV q.t q v))∧Below w.heap.size w w':=by
 have hu':=hu;obtain⟨A,c,C,d,rfl,hf,hT,hr,lf,lt⟩:=hu.open_;clear hu;have hv:=(g4_.1 hq).1;have HQ:=h_ hq;obtain⟨W,hW,g0,kB⟩:=b_3 w #[.int .i64 q.v,.slice A q.f.length c,.slice C q.t.length d] 26;have h0:=QvR.next g0 hu';obtain⟨c0,c1,c2⟩:=c_3 kB;clear hu' hq;rcases h1:inR v 0 (q.v-1) with _ | _
 ·have HF:=h_ (show endV q.t q v=false by simp[endV,h1]);have H1:=h_ h1;clear h1;go_enter Tryz.func68,Tryz.ntmps68
  go_wp2_with fail
  rw[←hW];clear hW;refine (f9_ _ _ _ h0).mono ?_;rintro e w1 ⟨rfl,hb1⟩;rw[HQ.out];have k1:=kB.call hb1;obtain⟨c0,c1,c2⟩:=c_3 k1;go_wp2_with fail
  refine (q7_ _ q _ _ (QvR.next hb1 h0) hv).mono ?_;rintro e w2 ⟨rfl,hb2⟩;rw[H1.out];go_wp2;go_ret
  exact⟨by rw[HF.out];rfl,a6_ (a6_ g0 hb1) hb2⟩
 ·have HF:=h_ (show endV q.t q v = !decide (v∈q.t) by simp[endV,h1]);have H1:=h_ h1;clear h1;go_enter Tryz.func68,Tryz.ntmps68
  go_wp2_with fail
  rw[←hW];clear hW;refine (f9_ _ _ _ h0).mono ?_;rintro e w1 ⟨rfl,hb1⟩;rw[HQ.out];have k1:=kB.call hb1;obtain⟨c0,c1,c2⟩:=c_3 k1;go_wp2_with fail
  refine (q7_ _ q _ _ (QvR.next hb1 h0) hv).mono ?_;rintro e w2 ⟨rfl,hb2⟩;rw[H1.out];have k2:=k1.call hb2;obtain⟨c0,c1,c2⟩:=c_3 k2;go_wp2_with fail
  refine (x6_ _ _ _ _ (SlI.next hb2 (SlI.next hb1 (SlI.next g0 hT)))).mono ?_;rintro e w3 ⟨rfl,rfl⟩;rcases hd:decide (v∈q.t) with _ | _
  ·have HD:=h_ hd;clear hd;go_wp2;go_ret
   exact⟨by rw[HF.out,HD.out];rfl,a6_ (a6_ g0 hb1) hb2⟩
  ·have HD:=h_ hd;clear hd;go_wp2;go_ret
   exact⟨by rw[HF.out,HD.out];rfl,a6_ (a6_ g0 hb1) hb2⟩
theorem D4_ (u:Value) (q:Qv) (v:Int) (w:World) (hu:QvR w w.heap.size u q) (hq:isQ q=true) :
  Calls Tryz.prog 60 #[u,.int .i64 v] w fun e w'=>e = .returned (.bool (endV q.f q v))∧Below w.heap.size w w':=by
 have hu':=hu;obtain⟨A,c,C,d,rfl,hf,hT,hr,lf,lt⟩:=hu.open_;clear hu;have hv:=(g4_.1 hq).1;have HQ:=h_ hq;obtain⟨W,hW,g0,kB⟩:=b_3 w #[.int .i64 q.v,.slice A q.f.length c,.slice C q.t.length d] 26;have h0:=QvR.next g0 hu';obtain⟨c0,c1,c2⟩:=c_3 kB;clear hu' hq;rcases h1:inR v 0 (q.v-1) with _ | _
 ·have HF:=h_ (show endV q.f q v=false by simp[endV,h1]);have H1:=h_ h1;clear h1;go_enter Tryz.func60,Tryz.ntmps60
  go_wp2_with fail
  rw[←hW];clear hW;refine (f9_ _ _ _ h0).mono ?_;rintro e w1 ⟨rfl,hb1⟩;rw[HQ.out];have k1:=kB.call hb1;obtain⟨c0,c1,c2⟩:=c_3 k1;go_wp2_with fail
  refine (q7_ _ q _ _ (QvR.next hb1 h0) hv).mono ?_;rintro e w2 ⟨rfl,hb2⟩;rw[H1.out];go_wp2;go_ret
  exact⟨by rw[HF.out];rfl,a6_ (a6_ g0 hb1) hb2⟩
 ·have HF:=h_ (show endV q.f q v = !decide (v∈q.f) by simp[endV,h1]);have H1:=h_ h1;clear h1;go_enter Tryz.func60,Tryz.ntmps60
  go_wp2_with fail
  rw[←hW];clear hW;refine (f9_ _ _ _ h0).mono ?_;rintro e w1 ⟨rfl,hb1⟩;rw[HQ.out];have k1:=kB.call hb1;obtain⟨c0,c1,c2⟩:=c_3 k1;go_wp2_with fail
  refine (q7_ _ q _ _ (QvR.next hb1 h0) hv).mono ?_;rintro e w2 ⟨rfl,hb2⟩;rw[H1.out];have k2:=k1.call hb2;obtain⟨c0,c1,c2⟩:=c_3 k2;go_wp2_with fail
  refine (x6_ _ _ _ _ (SlI.next hb2 (SlI.next hb1 (SlI.next g0 hf)))).mono ?_;rintro e w3 ⟨rfl,rfl⟩;rcases hd:decide (v∈q.f) with _ | _
  ·have HD:=h_ hd;clear hd;go_wp2;go_ret
   exact⟨by rw[HF.out,HD.out];rfl,a6_ (a6_ g0 hb1) hb2⟩
  ·have HD:=h_ hd;clear hd;go_wp2;go_ret
   exact⟨by rw[HF.out,HD.out];rfl,a6_ (a6_ g0 hb1) hb2⟩
theorem q8_ (u:Value) (q:Qv) (w:World) (hu:QvR w w.heap.size u q) (hq:isQ q=true) :
  Calls Tryz.prog 70 #[u] w fun e w'=>∃ v,e = .returned v∧SlI w' w'.heap.size v (b2_ q.t q.v.toNat)∧Below w.heap.size w w':=by
 have hu':=hu;obtain⟨A,c,C,d,rfl,hf,hT,hr,lf,lt⟩:=hu.open_;clear hu;obtain⟨hv1,hv2⟩:=(g4_.1 hq).1;have HQ:=h_ hq;obtain⟨V,hV⟩:∃ V:Nat,q.v=(V:Int):=⟨q.v.toNat,by omega⟩;have HV:=h_ hV;rw[show q.v.toNat=V by omega];have hV5:V≤5:=by omega
 obtain⟨W,hW⟩:∃ W,W=(w.alloc (.cells #[.int .i64 q.v,.slice A q.f.length c,.slice C q.t.length d] 26)).alloc (.cells #[] 3):=⟨_,rfl⟩;have g0:Below w.heap.size w W:=by rw[hW];exact ((Below.refl _ _).alloc (l_ _) _).alloc (by simp) _
 have kB:Blk W w.heap.size 26 #[.int .i64 q.v,.slice A q.f.length c,.slice C q.t.length d]:=by rw[hW];exact (Blk.new _ _ _).alloc _
 have ho:OwnI W (w.heap.size+1) (.slice (some ⟨w.heap.size+1,0,none⟩) 0 0) []:=by
  rw[hW];have:=OwnI.made (w:=w.alloc (.cells #[.int .i64 q.v,.slice A q.f.length c,.slice C q.t.length d] 26)) (base:=w.heap.size+1) 3 rfl (by simp);simpa only[l3_] using this
 have sz:W.heap.size=w.heap.size+1+1:=by rw[hW];simp
 have HU:=h_ hu';have HX:=h_ hT;have SZ:=h_ sz;clear hu' hq sz hV;go_enter Tryz.func70,Tryz.ntmps70
 go_wp2;rw[←hW];clear hW;go_loopw [3,4] (fun out i wr=>∃ k:Nat,k≤V∧i = .int .i64 k∧OwnI wr (w.heap.size+1) out (b2_ q.t k)∧Below w.heap.size w wr∧Below (w.heap.size+1) W wr∧W.heap.size≤wr.heap.size) (fun _ i _=>V-(intOf i).toNat)
 case atStart=>exact⟨0,l0_ _,rfl,ho,g0,Below.refl _ _,l_ _⟩
 case round =>
  clear ho;obtain⟨k,hk,rfl,ho,hb,hbW,hs⟩:=hrel;have sz:=SZ.out;have kR:=kB.below hbW (by omega);obtain⟨c0,c1,c2⟩:=c_3 kR;clear sz;by_cases hlt:(k:Int)<q.v
  ·have HL:=h_ hlt;obtain⟨OA,oc,rfl,_,_⟩:=ho.form;go_wp2_with fail
   refine (c0_ _ q _ (QvR.more hb.size (QvR.below hb HU.out))).mono ?_;rintro e w1 ⟨rfl,hb1⟩;rw[HQ.out];have ho1:=ho.below hb1;have kR1:=kR.call hb1;have hbA:=hb.trans (hb1.mono hb.size);have s1:=hb1.size;have hx1:=SlI.more hbA.size (SlI.below hbA HX.out);obtain⟨c0,c1,c2⟩:=c_3 kR1;clear ho kR;go_wp2_with fail
   refine (i6_ _ _ _ _ hx1).mono ?_;rintro e w2 ⟨rfl,hb2⟩;have ho2:=ho1.below hb2;have hbB:=hbA.trans (hb2.mono hbA.size);have hbW2:=hbW.trans ((hb1.mono (by have:=SZ.out;omega)).trans (hb2.mono (by have:=SZ.out;omega)));have s2:=hb2.size;have sB:=hbB.size;rcases hd:decide ((k:Int)∈q.t) with _ | _
   ·have HN:=h_ (n7_ hd);clear hd ho1 hx1 c0 c1 c2 kR1 hbA hb1 hb2;have HO2:=h_ ho2;have HW2:=h_ hbW2;have HB:=h_ hbB;have hlo2:=ho2.lt;clear ho2 hbW2 hbB
    (go_wp2_with (at_builtin;refine Hold.stop ?_));unfold Hold
    obtain⟨X,hX⟩:∃ X,X=w2.alloc (.cells #[.int .i64 (k:Int)] 3):=⟨_,rfl⟩;have gn:Below w2.heap.size w2 X:=by rw[hX];exact a2_ _ _
    have h1x:SlI X X.heap.size (.slice (some ⟨w2.heap.size,0,none⟩) 1 1) [(k:Int)]:=by rw[hX];exact SlI.one _ _ _ (by simp only[I64];omega)
    have ho3:=(HO2.out).below gn;have gns:=gn.size;rw[←hX];clear hX;have hfl:=d7_ q.t k;refine c3_ rfl (.tmp 21) (.tmp 23) rfl (w.heap.size+1) X.heap.size _ _ rfl ho3 _ 1 1 [(k:Int)] rfl rfl h1x (by simp;omega) (by have:=SZ.out;omega) ?_;intro v' w' h1 h2 h3;rw[←HN.out]at h1;have hbX:=b9_ h2 (B:=w.heap.size+1) (fun k hk=>(hlo2 k hk).1) (by have:=SZ.out;omega);have H1:=h_ h1;have G1:=h_ ((HB.out).trans ((gn.mono sB).trans (hbX.mono (by omega))));have G2:=h_ ((HW2.out).trans ((gn.mono (by have:=SZ.out;omega)).trans hbX));have s4:=hbX.size;clear h1 h2 h3 hbX hlo2 h1x ho3 gn;go_wp2;go_roundw
    case rel=>exact⟨k+1,by have:=HV.out;have:=HL.out;omega,by go_num,H1.out,G1.out,G2.out,by omega⟩
    case measure=>simp[intOf];have:=HV.out;have:=HL.out;omega
   ·have HN:=h_ (q5_ hd);have HO2:=h_ (show OwnI w2 (w.heap.size+1) _ (b2_ q.t (k+1)) by rw[HN.out];exact ho2);have HW2:=h_ hbW2;have HB:=h_ hbB;clear hd ho1 hx1 c0 c1 c2 kR1 hbA hb1 hb2 ho2 hbW2 hbB;go_wp2;go_roundw
    case rel=>exact⟨k+1,by have:=HV.out;have:=HL.out;omega,by go_num,HO2.out,HB.out,HW2.out,by omega⟩
    case measure=>simp[intOf];have:=HV.out;have:=HL.out;omega
  ·have hkV:k=V:=by have:=HV.out;omega
   subst hkV;have HO:=h_ ho;have HB:=h_ hb;clear ho hb;go_wp2;go_ret
   exact⟨_,rfl,(HO.out).rd,HB.out⟩
theorem B1_ (u:Value) (q:Qv) (w:World) (hu:QvR w w.heap.size u q) (hq:isQ q=true) :
  Calls Tryz.prog 65 #[u] w fun e w'=>∃ v,e = .returned v∧SlI w' w'.heap.size v (b2_ q.f q.v.toNat)∧Below w.heap.size w w':=by
 have hu':=hu;obtain⟨A,c,C,d,rfl,hf,hT,hr,lf,lt⟩:=hu.open_;clear hu;obtain⟨hv1,hv2⟩:=(g4_.1 hq).1;have HQ:=h_ hq;obtain⟨V,hV⟩:∃ V:Nat,q.v=(V:Int):=⟨q.v.toNat,by omega⟩;have HV:=h_ hV;rw[show q.v.toNat=V by omega];have hV5:V≤5:=by omega
 obtain⟨W,hW⟩:∃ W,W=(w.alloc (.cells #[.int .i64 q.v,.slice A q.f.length c,.slice C q.t.length d] 26)).alloc (.cells #[] 3):=⟨_,rfl⟩;have g0:Below w.heap.size w W:=by rw[hW];exact ((Below.refl _ _).alloc (l_ _) _).alloc (by simp) _
 have kB:Blk W w.heap.size 26 #[.int .i64 q.v,.slice A q.f.length c,.slice C q.t.length d]:=by rw[hW];exact (Blk.new _ _ _).alloc _
 have ho:OwnI W (w.heap.size+1) (.slice (some ⟨w.heap.size+1,0,none⟩) 0 0) []:=by
  rw[hW];have:=OwnI.made (w:=w.alloc (.cells #[.int .i64 q.v,.slice A q.f.length c,.slice C q.t.length d] 26)) (base:=w.heap.size+1) 3 rfl (by simp);simpa only[l3_] using this
 have sz:W.heap.size=w.heap.size+1+1:=by rw[hW];simp
 have HU:=h_ hu';have HX:=h_ hf;have SZ:=h_ sz;clear hu' hq sz hV;go_enter Tryz.func65,Tryz.ntmps65
 go_wp2;rw[←hW];clear hW;go_loopw [3,4] (fun out i wr=>∃ k:Nat,k≤V∧i = .int .i64 k∧OwnI wr (w.heap.size+1) out (b2_ q.f k)∧Below w.heap.size w wr∧Below (w.heap.size+1) W wr∧W.heap.size≤wr.heap.size) (fun _ i _=>V-(intOf i).toNat)
 case atStart=>exact⟨0,l0_ _,rfl,ho,g0,Below.refl _ _,l_ _⟩
 case round =>
  clear ho;obtain⟨k,hk,rfl,ho,hb,hbW,hs⟩:=hrel;have sz:=SZ.out;have kR:=kB.below hbW (by omega);obtain⟨c0,c1,c2⟩:=c_3 kR;clear sz;by_cases hlt:(k:Int)<q.v
  ·have HL:=h_ hlt;obtain⟨OA,oc,rfl,_,_⟩:=ho.form;go_wp2_with fail
   refine (c0_ _ q _ (QvR.more hb.size (QvR.below hb HU.out))).mono ?_;rintro e w1 ⟨rfl,hb1⟩;rw[HQ.out];have ho1:=ho.below hb1;have kR1:=kR.call hb1;have hbA:=hb.trans (hb1.mono hb.size);have s1:=hb1.size;have hx1:=SlI.more hbA.size (SlI.below hbA HX.out);obtain⟨c0,c1,c2⟩:=c_3 kR1;clear ho kR;go_wp2_with fail
   refine (i6_ _ _ _ _ hx1).mono ?_;rintro e w2 ⟨rfl,hb2⟩;have ho2:=ho1.below hb2;have hbB:=hbA.trans (hb2.mono hbA.size);have hbW2:=hbW.trans ((hb1.mono (by have:=SZ.out;omega)).trans (hb2.mono (by have:=SZ.out;omega)));have s2:=hb2.size;have sB:=hbB.size;rcases hd:decide ((k:Int)∈q.f) with _ | _
   ·have HN:=h_ (n7_ hd);clear hd ho1 hx1 c0 c1 c2 kR1 hbA hb1 hb2;have HO2:=h_ ho2;have HW2:=h_ hbW2;have HB:=h_ hbB;have hlo2:=ho2.lt;clear ho2 hbW2 hbB
    (go_wp2_with (at_builtin;refine Hold.stop ?_));unfold Hold
    obtain⟨X,hX⟩:∃ X,X=w2.alloc (.cells #[.int .i64 (k:Int)] 3):=⟨_,rfl⟩;have gn:Below w2.heap.size w2 X:=by rw[hX];exact a2_ _ _
    have h1x:SlI X X.heap.size (.slice (some ⟨w2.heap.size,0,none⟩) 1 1) [(k:Int)]:=by rw[hX];exact SlI.one _ _ _ (by simp only[I64];omega)
    have ho3:=(HO2.out).below gn;have gns:=gn.size;rw[←hX];clear hX;have hfl:=d7_ q.f k;refine c3_ rfl (.tmp 21) (.tmp 23) rfl (w.heap.size+1) X.heap.size _ _ rfl ho3 _ 1 1 [(k:Int)] rfl rfl h1x (by simp;omega) (by have:=SZ.out;omega) ?_;intro v' w' h1 h2 h3;rw[←HN.out]at h1;have hbX:=b9_ h2 (B:=w.heap.size+1) (fun k hk=>(hlo2 k hk).1) (by have:=SZ.out;omega);have H1:=h_ h1;have G1:=h_ ((HB.out).trans ((gn.mono sB).trans (hbX.mono (by omega))));have G2:=h_ ((HW2.out).trans ((gn.mono (by have:=SZ.out;omega)).trans hbX));have s4:=hbX.size;clear h1 h2 h3 hbX hlo2 h1x ho3 gn;go_wp2;go_roundw
    case rel=>exact⟨k+1,by have:=HV.out;have:=HL.out;omega,by go_num,H1.out,G1.out,G2.out,by omega⟩
    case measure=>simp[intOf];have:=HV.out;have:=HL.out;omega
   ·have HN:=h_ (q5_ hd);have HO2:=h_ (show OwnI w2 (w.heap.size+1) _ (b2_ q.f (k+1)) by rw[HN.out];exact ho2);have HW2:=h_ hbW2;have HB:=h_ hbB;clear hd ho1 hx1 c0 c1 c2 kR1 hbA hb1 hb2 ho2 hbW2 hbB;go_wp2;go_roundw
    case rel=>exact⟨k+1,by have:=HV.out;have:=HL.out;omega,by go_num,HO2.out,HB.out,HW2.out,by omega⟩
    case measure=>simp[intOf];have:=HV.out;have:=HL.out;omega
  ·have hkV:k=V:=by have:=HV.out;omega
   subst hkV;have HO:=h_ ho;have HB:=h_ hb;clear ho hb;go_wp2;go_ret
   exact⟨_,rfl,(HO.out).rd,HB.out⟩
theorem g9_ {x:Rp} (hx:f1_ x=true) {k:Nat} (hk:k<x.q.f.length):∃ (m:Mx) (nf nt yf yt:Nat),x.m[k]?=some m∧x.q.f[k]?=some (nf:Int)∧x.q.t[k]?=some (nt:Int)∧x.d[nf]?=some (yf:Int)∧x.d[nt]?=some (yt:Int) ∧
  m=mxF yt yf (q6_ m.a yf)∧(∀ i j,i<yt→j<yf→0≤q6_ m.a yf i j∧q6_ m.a yf i j≤x.p-1)∧yf≤4∧yt≤4∧nf≤5∧nt≤5∧nf<x.d.length∧nt<x.d.length∧k<x.q.t.length∧k<x.m.length:=by
 obtain⟨h1,h2,h3,h4⟩:=b8_.1 hx;obtain⟨nf,nt,yf,yt,ef,et,df,dt,lf,lt,l5,l6,l7⟩:=K0_ h2 hk;have hd:=(b7_.1 h2).2.2.1;have bf:=hd _ (l4_ df);have bt:=hd _ (l4_ dt);have hkm:k<x.m.length:=by omega
 have em:=l2_ hkm;obtain⟨m,hm⟩:=e_ (x.m[k]);rw[hm]at em;have h5:=h4;simp only[okMs,List.all_eq_true,List.mem_range]at h5;have h6:=h5 k hkm;simp only[l1_,em,ef,et,Option.getD_some]at h6;simp only[okM,l9_,decide_eq_true_eq]at h6;obtain⟨⟨hM,hc⟩,hr⟩:=h6;rw[r4_ df]at hc;rw[r4_ dt]at hr;obtain⟨_,_,hl,hv⟩:=b8q.1 hM;obtain⟨YF,rfl⟩:=Int.eq_ofNat_of_zero_le bf.1;obtain⟨YT,rfl⟩:=Int.eq_ofNat_of_zero_le bt.1;have hl':m.a.length=YT*YF:=by
  rw[hr,hc]at hl
  exact_mod_cast hl
 have hrange:=(b9q.1 hv).2.2;refine⟨m,nf,nt,YF,YT,em,ef,et,df,dt,?_,fun i j hi hj=>?_,by omega,by omega,l5,l6,lf,lt,l7,hkm⟩
 ·rw[f5j];exact⟨hr,hc,d7q hl'⟩
 ·refine hrange _ ?_;have:=E7_ hi hj;rw[q6_,l1_,l2_ (by omega)];exact List.getElem_mem _
def mx0:Mx:=⟨0,0,[]⟩
theorem MxO.zero (w:World) (lo hi:Nat):MxO w lo hi (.agg #[.int .i64 0,.int .i64 0,.slice none 0 0]) mx0:=⟨_,rfl,⟨OwnI.nil _ _,by simp[Value.ownBlock]⟩,by simp[mx0,I64],by simp[mx0,I64]⟩
theorem MxO.setBlk {w:World} {lo hi g i:Nat} {v:Value} {m:Mx} {t:TypeId} {cs:Array Value} (h:MxO w lo hi v m) (hb:Blk w g t cs) (ht:3≠t) (u:Value):MxO (w.setCell ⟨g,i,none⟩ u) lo hi v m:=by
 obtain⟨s,e,h1,h2⟩:=h;exact⟨s,e,⟨h1.1.setCell (p:=⟨g,i,none⟩) (fun e=>h1.1.blkne hb ht e.symm) u,h1.2⟩,h2⟩
theorem C6_ {p x:Int} (hp:2≤p):(if x.tmod p<0 then x.tmod p+p else x.tmod p)=x % p∧-p<x.tmod p∧x.tmod p<p:=by
 have h1:=Int.tmod_lt_of_pos x (show 0<p by omega);have h2:-p<x.tmod p:=by
  have:=Int.tmod_lt_of_pos (-x) (show 0<p by omega);rw[Int.neg_tmod]at this;omega
 refine⟨?_,h2,h1⟩;rw[Int.tmod_eq_emod];have h3:=Int.emod_nonneg x (show p≠0 by omega);have h4:=Int.emod_lt_of_pos x (show 0<p by omega);have h5:p.natAbs=p:=by omega
 split
 ·split <;> omega
 ·rename_i h
  split <;> omega
theorem a7X {p x:Int} (hp:2≤p):(x.tmod p+p) % p=x % p:=by
 rw[Int.add_emod_right,Int.emod_def,Int.emod_def x p];have h:=(C6_ (x:=x) hp).1;have h4:=Int.emod_lt_of_pos x (show 0<p by omega);have h3:=Int.emod_nonneg x (show p≠0 by omega);rw[←Int.emod_def,←Int.emod_def];rw[←h];split
 ·rename_i hn
  rw[←Int.add_emod_right,Int.emod_eq_of_lt]
  ·have:=(C6_ (x:=x) hp).2.1;omega
  ·omega
 ·rename_i hn
  exact Int.emod_eq_of_lt (by omega) (C6_ (x:=x) hp).2.2
def amF (p k:Int) (off n:Nat) (f y:Nat→Int) (i:Nat):Int:=if off≤i∧i<off+n then (f i+k*y (i-off)) % p else f i
theorem f1Q (p k:Int) (off N:Nat) (f y:Nat→Int):rowF N f=rowF N (amF p k off 0 f y):=b6_ fun i _=>by rw[amF,if_neg (by omega)]
theorem a2Z {p k:Int} {off j N:Nat} (f y:Nat→Int):(rowF N (amF p k off j f y)).set (off+j) ((f (off+j)+k*y j) % p)=rowF N (amF p k off (j+1) f y):=by
 rw[q4_];refine b6_ fun i _=>?_
 simp only[amF];by_cases h:i=off+j
 ·subst h;rw[if_pos rfl,if_pos (by omega),show off+j-off=j by omega]
 ·rw[if_neg h]
  (repeat' split) <;> first | rfl | omega
theorem a1j {p k:Int} {off j:Nat} (f y:Nat→Int):amF p k off j f y (off+j)=f (off+j):=by rw[amF,if_neg (by omega)]
theorem o0_ (p k:Int) (g off n N cap ca:Nat) (lo hi:Nat) (f y:Nat→Int) (vb:Value) (w:World) (hp:2≤p∧p≤5) (hk:0≤k∧k≤5)
  (hown:a9_ w lo hi (.slice (some ⟨g,0,none⟩) N cap) (rowF N f)) (hg:lo≤g∧g<hi) (hoff:off+n≤N) (hN:N≤1000000) (hca:n≤ca∧ca≤9223372036854775807)
  (hlo:lo≤w.heap.size) (hb:SlI w lo vb (rowF n y)) (hf:∀ i,i<N→0≤f i∧f i≤4) (hy:∀ i,i<n→0≤y i∧y i≤4) :
  Calls Tryz.prog 115 #[.int .i64 p,.slice (some ⟨g,off,none⟩) n ca,.int .i64 k,vb] w fun e w'=>e = .returned (.slice (some ⟨g,off,none⟩) n ca)∧a9_ w' lo hi (.slice (some ⟨g,0,none⟩) N cap) (rowF N (amF p k off n f y))∧Chg lo hi w w'∧w.heap.size=w'.heap.size:=by
 obtain⟨A,c,rfl,_,_,hln,hx⟩:=hb.open_;clear hb;have HX:=h_ hx;have HF:=h_ hf;have HY:=h_ hy;rw[a1_]at hln⊢;rw[f1Q p k off N f y]at hown;clear hx hf hy;go_enter Tryz.func115,Tryz.ntmps115
 go_wp2;go_loopw [13] (fun i wr=>∃ j:Nat,j≤n∧i = .int .i64 j∧a9_ wr lo hi (.slice (some ⟨g,0,none⟩) N cap) (rowF N (amF p k off j f y))∧Chg lo hi w wr∧Hid (w.heap.size=wr.heap.size)) (fun i _=>n-(intOf i).toNat)
 case atStart=>exact⟨0,l0_ _,rfl,hown,Chg.refl _ _ _,rfl⟩
 case round =>
  clear hown;obtain⟨j,hj,rfl,ho,hc,hsz⟩:=hrel;by_cases hlt:j<n
  ·have hx:=HX.out;rw[←a1_ n y]at hlt;obtain⟨b,o,x,rfl,hbl,HXX,x1,_⟩:=SlI.at_ hx hlt;rw[a1_]at hlt;have hxx:=HXX.out;rw[d1_ _ hlt]at hxx;injection hxx with hxx
   subst hxx;have x2:=a7_ (hc.below (l_ _) hlo) hbl x1;have cA:=(ho.1.cellG (j:=off+j) (by rw[a1_];omega)).1;rw[c9_ _ (by omega),a1j]at cA;have fA:=ho.1.frozenG (off+j);have hf1:=HF.out (off+j) (by omega);have hy1:=HY.out j hlt;have hst:=a2Z (p:=p) (k:=k) (off:=off) (j:=j) (N:=N) f y;obtain⟨a,ha⟩:=e_ (f (off+j));obtain⟨z,hz⟩:=e_ (y j);rw[ha]at cA hf1 hst;rw[hz]at x2 hy1 hst;have hkz0:0≤k*z:=Int.mul_nonneg hk.1 hy1.1;have hkz1:k*z≤5*4:=Int.mul_le_mul hk.2 hy1.2 hy1.1 (by omega);obtain⟨K,hK⟩:=e_ (k*z);rw[hK]at hkz0 hkz1 hst;have hKw:wrap64 (k*z)=K:=by rw[hK];exact IntWalk.wrap64_in _ ⟨by omega,by omega⟩
   have hr0:=Int.emod_nonneg (a+K) (show p≠0 by omega);have hr1:=Int.emod_lt_of_pos (a+K) (show 0<p by omega);have hc1:Chg lo hi wr (wr.setCell ⟨g,off+j,none⟩ (.int .i64 ((a+K) % p))):=b4_ hg.1 hg.2;have ho2:=ho.put (j:=off+j) (x:=(a+K) % p) (by simp only[I64];omega);rw[hst]at ho2;have HO2:=h_ ho2;have HC2:=h_ (hc.trans hc1);have HS2:Hid (w.heap.size=(wr.setCell ⟨g,off+j,none⟩ (.int .i64 ((a+K) % p))).heap.size):=by show _=_;rw[hsz.out];simp
   have htm:(wrap64 (a+K)).tmod p=(a+K) % p:=by
    rw[IntWalk.wrap64_in _ ⟨by omega,by omega⟩];exact Int.tmod_eq_emod_of_nonneg (by omega)
   have htm2:(a+K).tmod p=(a+K) % p:=Int.tmod_eq_emod_of_nonneg (by omega);clear hst ho2 hc1 ho hc hr0 hr1 hx HXX x1 ha hz hK hkz0 hkz1;go_wp2;go_roundw
   case rel=>exact⟨j+1,by omega,by go_num,HO2.out,HC2.out,HS2⟩
   case measure=>simp[intOf];omega
  ·go_wp2;go_ret
   obtain rfl:j=n:=by omega
   exact⟨rfl,ho,hc,hsz⟩
theorem P3_ (p x:Int) (w:World) (hp:f2_ p=true) (hx:I64 x) :
  Calls Tryz.prog 145 #[.int .i64 p,.int .i64 x] w fun e w'=>e = .returned (.int .i64 (x % p))∧w'=w:=by
 have hp':=f4_ hp;obtain⟨h1,h2,h3⟩:=C6_ (x:=x) hp'.1;have htm:(x.tmod p+p).tmod p=x % p:=by rw[Int.tmod_eq_emod_of_nonneg (by omega)];exact a7X hp'.1
 have H1:=h_ hp;clear hp h1;go_enter Tryz.func145,Tryz.ntmps145
 go_wp2_with fail
 refine (d6_ _ _).mono ?_;rintro e w1 ⟨rfl,rfl⟩;rw[H1.out];go_wp2;go_ret
 exact⟨rfl,rfl⟩
theorem p1_ (p x:Int) (w:World) (hp:2≤p∧p≤5) (hx:I64 x) :
  Calls Tryz.prog 84 #[.int .i64 p,.int .i64 x] w fun e w'=>e = .returned (.int .i64 (x % p))∧w'=w:=by
 obtain⟨h1,h2,h3⟩:=C6_ (x:=x) hp.1;by_cases hn:x.tmod p<0
 ·rw[if_pos hn]at h1;have HE:=h_ h1;clear h1;go_enter Tryz.func84,Tryz.ntmps84
  go_wp2;go_ret
  exact⟨by rw[←HE.out];rfl,rfl⟩
 ·rw[if_neg hn]at h1;have HE:=h_ h1;clear h1;go_enter Tryz.func84,Tryz.ntmps84
  go_wp2;go_ret
  exact⟨by rw[←HE.out];rfl,rfl⟩
theorem w4_ (p k:Int) (va:Value) (B:Option Addr) (c:Nat) (w:World) (hv:∃ A n m,va = .slice A n m) (hc:c≤9223372036854775807) :
  Calls Tryz.prog 115 #[.int .i64 p,va,.int .i64 k,.slice B 0 c] w fun e w'=>e = .returned va∧w'=w:=by
 obtain⟨A,n,m,rfl⟩:=hv;go_enter Tryz.func115,Tryz.ntmps115
 go_wp2;refine wp_loop_rounds 1 ?_;rw[rounds_succ];go_wp2;go_ret
 exact⟨rfl,rfl⟩
def plF (p k:Int) (f g:Nat→Nat→Int) (a b:Nat):Int:=(f a b+k*g a b) % p
theorem c5J (p k:Int) (r c:Nat) (f g:Nat→Nat→Int):rowF (r*c) (amF p k 0 (r*c) (fun j=>f (j / c) (j % c)) (fun j=>g (j / c) (j % c)))=flat r c (plF p k f g):=by
 refine b6_ fun i hi=>?_
 rw[amF,if_pos (by omega)];rfl
theorem c2j (p k:Int) (u v:Value) (r c:Nat) (f g:Nat→Nat→Int) (w0:World) (hp:2≤p∧p≤5) (hk:0≤k∧k≤5) (hu:MxR w0 w0.heap.size u (mxF r c f)) (hv:MxR w0 w0.heap.size v (mxF r c g)) (hr:r≤1000) (hc:c≤1000)
  (hf:∀ i j,i<r→j<c→0≤f i j∧f i j≤4) (hg:∀ i j,i<r→j<c→0≤g i j∧g i j≤4) :
  Calls Tryz.prog 141 #[.int .i64 p,u,.int .i64 k,v] w0 fun e w'=>∃ v,e = .returned v∧MxO w' w0.heap.size w'.heap.size v (mxF r c (plF p k f g))∧Below w0.heap.size w0 w':=by
 have hu':=hu;obtain⟨U,uc,rfl⟩:=hu.form;obtain⟨V,vc,rfl,hsv,j1,j2,_⟩:=hv.open_;have z1:(mxF r c f).r=(r:Int):=rfl;have z2:(mxF r c f).c=(c:Int):=rfl;have z3:(mxF r c g).r=(r:Int):=rfl;have z4:(mxF r c g).c=(c:Int):=rfl;have z5:(mxF r c f).a.length=r*c:=a0_ _ _ _;have z6:(mxF r c g).a.length=r*c:=a0_ _ _ _;obtain⟨N,hN⟩:=e_ (r*c);have hN6:N≤1000000:=by rw[←hN];exact Nat.mul_le_mul hr hc
 rw[z5,z1,z2,hN]at hu'⊢;rw[z6,z3,z4,hN];rw[z6,hN]at hsv;clear hu hv z1 z2 z3 z4 z5 z6;obtain⟨W,hW⟩:∃ W,W=((w0.alloc (.cells #[.int .i64 r,.int .i64 c,.slice U N uc] 41)).alloc (.cells #[.int .i64 r,.int .i64 c,.slice V N vc] 41)).alloc (.cells #[.int .i64 0,.int .i64 0,.slice none 0 0] 41):=⟨_,rfl⟩;have g0:Below w0.heap.size w0 W:=by rw[hW];exact (((Below.refl _ _).alloc (l_ _) _).alloc (by simp) _).alloc (by simp;omega) _
 have k2:Blk W (w0.heap.size+1) 41 #[.int .i64 r,.int .i64 c,.slice V N vc]:=by
  rw[hW];have:=(Blk.new (w0.alloc (.cells #[.int .i64 r,.int .i64 c,.slice U N uc] 41)) 41 #[.int .i64 r,.int .i64 c,.slice V N vc]).alloc (.cells #[.int .i64 0,.int .i64 0,.slice none 0 0] 41);simpa only[l3_] using this
 have k3:Blk W (w0.heap.size+1+1) 41 #[.int .i64 0,.int .i64 0,.slice none 0 0]:=by
  rw[hW];have:=Blk.new ((w0.alloc (.cells #[.int .i64 r,.int .i64 c,.slice U N uc] 41)).alloc (.cells #[.int .i64 r,.int .i64 c,.slice V N vc] 41)) 41 #[.int .i64 0,.int .i64 0,.slice none 0 0];simpa only[l3_] using this
 have sz:W.heap.size=w0.heap.size+1+1+1:=by rw[hW];simp
 have HU:=h_ (MxR.next g0 hu');have HV:=h_ (SlI.next g0 hsv);have SZ:=h_ sz;have HN:=h_ hN;have G0:=h_ g0;have HFF:=h_ hf;have HGG:=h_ hg;clear sz hu' hsv hN g0 hf hg;go_enter Tryz.func141,Tryz.ntmps141
 go_wp2_with fail
 rw[←hW];clear hW;refine (B4_ _ (mxF r c f) W HU.out).mono ?_;rintro e w1 ⟨v1,rfl,⟨s1,rfl,hO,i1,i2⟩,hb1⟩;obtain⟨A1,c1,rfl⟩:=hO.form;have z5:(mxF r c f).a.length=N:=by rw[←HN.out];exact a0_ _ _ _
 have z1:(mxF r c f).r=(r:Int):=rfl;have z2:(mxF r c f).c=(c:Int):=rfl;rw[z5]at hO⊢;rw[z1,z2];rw[z1]at i1;rw[z2]at i2;clear z5 z1 z2;obtain⟨W4,hW4,b4,k4⟩:=b_3 w1 #[.int .i64 r,.int .i64 c,.slice A1 N c1] 41;have s1:=hb1.size;have gW:=a6_ hb1 b4;have k2':=(k2.call hb1).call b4;have k3':=(k3.call hb1).call b4;have hO4:=hO.below b4;have l4:=k4.lt;have HV4:=h_ (SlI.below gW HV.out);have y2:=k2'.cell' (i:=2) rfl;rw[hW4]at y2;have HO4:=h_ hO4;clear hO hb1 b4 k2 k3 k2' hO4;have hvc:vc≤9223372036854775807:=by
  obtain⟨VA,vca,ev,_,hvc,_⟩:=HV4.out;injection ev with _ _ ev3
  omega
 rcases Nat.eq_zero_or_pos N with h0 | h0
 ·subst h0;go_wp2_with fail
  rw[←hW4];rw[←hW4]at y2;clear hW4;refine (w4_ p k _ V vc _ ⟨_,_,_,rfl⟩ hvc).mono ?_;rintro e w5 ⟨rfl,rfl⟩;have hE:(mxF r c f).a=flat r c (plF p k f g):=by
   have h1:(mxF r c f).a.length=0:=by rw[←HN.out];exact a0_ _ _ _
   have h2:(flat r c (plF p k f g)).length=0:=by rw[←HN.out];exact a0_ _ _ _
   rw[m1_ h1,m1_ h2]
  have oA:=HO4.out;rw[hE]at oA;clear hE;obtain⟨z0,z1,z2⟩:=c_3 k4;obtain⟨p0,p1,p2⟩:=c_3 k3';have f2:=k3'.frozen;have h2:=chg3 w5 (w0.heap.size+1+1) (.int .i64 (r:Int)) (.int .i64 c) (.slice A1 0 c1);have gw:Below w0.heap.size w0 w5:=(G0.out).trans (gW.mono (G0.out).size);have gs:=gw.size;have oA2:=(oA.chg h2 (.inr (by have:=SZ.out;omega))).wider (lo':=w0.heap.size) (hi':=w5.heap.size) (by have:=SZ.out;omega) (by omega);have fg:=gw.trans (h2.below (by omega) gs);have OA2:=h_ oA2;have FG:=h_ fg;clear oA oA2 fg gw h2 k3' k4 gW;go_wp2;exact bodyPost_ret (v:=.agg #[.int .i64 (r:Int),.int .i64 c,.slice A1 0 c1]) (by simp[results,go_sem,p0,p1,p2]) rfl ⟨_,rfl,⟨_,rfl,(OA2.out).wider (l_ _) (by simp),i1,i2⟩,FG.out⟩
 ·obtain⟨gA,cA,eA,a1,a2,a3⟩:=(HO4.out).at_ (by rw[show (mxF r c f).a.length=N by rw[←HN.out];exact a0_ _ _ _];exact h0);rw[show (mxF r c f).a.length=N by rw[←HN.out];exact a0_ _ _ _]at eA;injection eA with eA1 eA2 eA3
  subst eA1 eA3;obtain⟨_,c2,e2,q1,q2⟩:=(HO4.out).1.form;injection e2 with e21 e22 e23
  subst e23;clear e21 e22;have q1':N≤c1:=by rw[show (mxF r c f).a.length=N by rw[←HN.out];exact a0_ _ _ _]at q1;exact q1
  have hrow:rowF N (fun j=>f (j / c) (j % c))=(mxF r c f).a:=by rw[←HN.out];rfl
  have hrow2:rowF N (fun j=>g (j / c) (j % c))=(mxF r c g).a:=by rw[←HN.out];rfl
  have hx:∀ (h:Nat→Nat→Int),(∀ i j,i<r→j<c→0≤h i j∧h i j≤4)→∀ i,i<N→0≤h (i / c) (i % c)∧h (i / c) (i % c)≤4:=fun h hh i hi=>by
   rw[←HN.out]at hi;obtain⟨i1,j1,h1,h2,rfl⟩:=R5_ hi;rw[w1_ h2,w5_ h2];exact hh i1 j1 h1 h2
  have HX1:=h_ (hx f HFF.out);have HX2:=h_ (hx g HGG.out);have HR1:=h_ hrow;have HR2:=h_ hrow2;clear q1 hrow hrow2 hx;go_wp2_with fail
  rw[←hW4];rw[←hW4]at y2;clear hW4;refine (o0_ p k gA 0 N N c1 c1 W.heap.size w1.heap.size (fun j=>f (j / c) (j % c)) (fun j=>g (j / c) (j % c)) _ W4 hp hk (by rw[HR1.out];exact HO4.out) ⟨a1,a2⟩ (by omega) hN6 ⟨q1',q2⟩ (by omega) (by rw[HR2.out];exact HV4.out) HX1.out HX2.out).mono ?_;rintro e w5 ⟨rfl,hO5,hc5,hs5⟩;have hE:rowF N (amF p k 0 N (fun j=>f (j / c) (j % c)) (fun j=>g (j / c) (j % c)))=flat r c (plF p k f g):=by rw[←HN.out];exact c5J p k r c f g
  rw[hE]at hO5;have oA:=hO5;replace k4:=k4.chg hc5 (.inr (l_ _));replace k3':=k3'.chg hc5 (.inl (by have:=SZ.out;omega));replace gW:=gW.trans (hc5.below (l_ _) (by omega));have l4':=k4.lt;clear hE hO5 hc5 hs5 y2;obtain⟨A1,hA1⟩:∃ A1,A1=some (⟨gA,0,none⟩:Addr):=⟨_,rfl⟩;rw[←hA1]at oA k4;clear hA1;obtain⟨z0,z1,z2⟩:=c_3 k4;obtain⟨p0,p1,p2⟩:=c_3 k3';have f2:=k3'.frozen;have h2:=chg3 w5 (w0.heap.size+1+1) (.int .i64 (r:Int)) (.int .i64 c) (.slice A1 N c1);have gw:Below w0.heap.size w0 w5:=(G0.out).trans (gW.mono (G0.out).size);have gs:=gw.size;have oA2:=(oA.chg h2 (.inr (by have:=SZ.out;omega))).wider (lo':=w0.heap.size) (hi':=w5.heap.size) (by have:=SZ.out;omega) (by omega);have fg:=gw.trans (h2.below (by omega) gs);have OA2:=h_ oA2;have FG:=h_ fg;clear oA oA2 fg gw h2 k3' k4 gW;go_wp2;exact bodyPost_ret (v:=.agg #[.int .i64 (r:Int),.int .i64 c,.slice A1 N c1]) (by simp[results,go_sem,p0,p1,p2]) rfl ⟨_,rfl,⟨_,rfl,(OA2.out).wider (l_ _) (by simp),i1,i2⟩,FG.out⟩
def nzGo (f:Nat→Nat→Int) (k:Nat):Nat→Nat→Nat
 | a,0=>a
 | a,m+1=>if f a k=0 then nzGo f k (a+1) m else a
def nzF (f:Nat→Nat→Int) (k n r:Nat):Nat:=nzGo f k n (r-n)
theorem b8X (f:Nat→Nat→Int) (k:Nat):∀ m a,a≤nzGo f k a m∧nzGo f k a m≤a+m
 | 0,a=>by simp[nzGo]
 | m+1,a=>by
  have h:=b8X f k m (a+1);simp only[nzGo];split <;> omega
theorem w2_ {f:Nat→Nat→Int} {k n r:Nat} (h:n≤r):n≤nzF f k n r∧nzF f k n r≤r:=by
 have:=b8X f k (r-n) n;unfold nzF;omega
theorem c0z {f:Nat→Nat→Int} {k:Nat}:∀ {m a b},a≤b→b≤a+m→(∀ i,a≤i→i<b→f i k=0)→(b<a+m→f b k≠0)→nzGo f k a m=b
 | 0,a,b,h1,h2,_,_=>by simp only[nzGo];omega
 | m+1,a,b,h1,h2,h3,h4=>by
  simp only[nzGo];by_cases e:a=b
  ·subst e;rw[if_neg (h4 (by omega))]
  ·rw[if_pos (h3 a (l_ _) (by omega))];exact c0z (by omega) (by omega) (fun i hi hb=>h3 i (by omega) hb) (fun h=>h4 (by omega))
theorem d2Q {f:Nat→Nat→Int} {k n r b:Nat} (h1:n≤b) (h2:b≤r) (h3:∀ i,n≤i→i<b→f i k=0) (h4:b<r→f b k≠0):nzF f k n r=b :=
 c0z h1 (by omega) h3 (fun h=>h4 (by omega))
theorem b4X {f:Nat→Nat→Int} {k:Nat}:∀ {m a},nzGo f k a m<a+m→f (nzGo f k a m) k≠0
 | 0,a,h=>by simp only[nzGo]at h;omega
 | m+1,a,h=>by
  simp only[nzGo]at h⊢;split
  ·rename_i h0
   rw[if_pos h0]at h;exact b4X (by omega)
  ·rename_i h0;exact h0
theorem I5_ {f:Nat→Nat→Int} {k n r:Nat} (hn:n≤r) (h:nzF f k n r<r):f (nzF f k n r) k≠0:=b4X (by unfold nzF at h;omega)
def invP (p x:Int):Int:=if p=5 then (x % p*(x % p) % p)*(x % p) % p else x % p
def swJ (n t j:Nat) (f:Nat→Nat→Int) (a b:Nat):Int:=if b<j then (if a=n then f t b else if a=t then f n b else f a b) else f a b
def swA (n t:Nat) (f:Nat→Nat→Int) (a b:Nat):Int:=if a=n then f t b else if a=t then f n b else f a b
def scJ (p:Int) (n:Nat) (s:Int) (j:Nat) (f:Nat→Nat→Int) (a b:Nat):Int:=if a=n∧b<j then f a b*s % p else f a b
def scA (p:Int) (n:Nat) (s:Int) (f:Nat→Nat→Int) (a b:Nat):Int:=if a=n then f a b*s % p else f a b
def elI (p:Int) (n k i:Nat) (f:Nat→Nat→Int) (a b:Nat):Int:=if a<i∧a≠n then (f a b+(p-f a k)*f n b) % p else f a b
def elA (p:Int) (n k:Nat) (f:Nat→Nat→Int) (a b:Nat):Int:=if a≠n then (f a b+(p-f a k)*f n b) % p else f a b
def rdF (p:Int) (r:Nat) (f:Nat→Nat→Int) (n k:Nat):Nat→Nat→Int :=
 elA p n k (scA p n (invP p (swA n (nzF f k n r) f n k)) (swA n (nzF f k n r) f))
def rdTo (p:Int) (r:Nat) (f:Nat→Nat→Int):Nat→(Nat→Nat→Int)×List Int
 | 0=>(f,[])
 | k+1=>if nzF (rdTo p r f k).1 k (rdTo p r f k).2.length r<r then (rdF p r (rdTo p r f k).1 (rdTo p r f k).2.length k,(rdTo p r f k).2 ++ [(k:Int)]) else rdTo p r f k
theorem C0_ (p:Int) (r:Nat) (f:Nat→Nat→Int) (k:Nat):rdTo p r f (k+1) =
  if nzF (rdTo p r f k).1 k (rdTo p r f k).2.length r<r then (rdF p r (rdTo p r f k).1 (rdTo p r f k).2.length k,(rdTo p r f k).2 ++ [(k:Int)]) else ((rdTo p r f k).1,(rdTo p r f k).2):=rfl
theorem f6_ (p:Int) (r:Nat) (f:Nat→Nat→Int):∀ k,(rdTo p r f k).2.length≤r∧(rdTo p r f k).2.length≤k
 | 0=>by simp[rdTo]
 | k+1=>by
  have h:=f6_ p r f k;simp only[rdTo];split
  ·rename_i h1
   have:=(w2_ (f:=(rdTo p r f k).1) (k:=k) h.1).1;simp;omega
  ·omega
theorem G8_ (p:Int) (r:Nat) (f:Nat→Nat→Int):∀ k,∀ x∈(rdTo p r f k).2,0≤x∧x<k
 | 0,x,h=>by simp[rdTo]at h
 | k+1,x,h=>by
  have ih:=G8_ p r f k;simp only[rdTo]at h;split at h
  ·simp only[List.mem_append,List.mem_singleton]at h;rcases h with h | rfl
   ·have:=ih x h;omega
   ·omega
  ·have:=ih x h;omega
def InF (p:Int) (r c:Nat) (f:Nat→Nat→Int):Prop:=∀ a b,a<r→b<c→0≤f a b∧f a b≤p-1
theorem b1j {p:Int} {r c n t:Nat} {f:Nat→Nat→Int} (h:InF p r c f) (hn:n<r) (ht:t<r):InF p r c (swA n t f):=fun a b ha hb=>by
 unfold swA;split
 ·exact h _ _ ht hb
 ·split
  ·exact h _ _ hn hb
  ·exact h _ _ ha hb
theorem g6_ {p x:Int} (hp:2≤p):0≤x % p∧x % p≤p-1:=by
 have h1:=Int.emod_nonneg x (show p≠0 by omega);have h2:=Int.emod_lt_of_pos x (show 0<p by omega);omega
theorem b8z {p s:Int} {r c n:Nat} {f:Nat→Nat→Int} (hp:2≤p) (h:InF p r c f):InF p r c (scA p n s f):=fun a b ha hb=>by
 unfold scA;split
 ·exact g6_ hp
 ·exact h _ _ ha hb
theorem f2J {p:Int} {r c n k:Nat} {f:Nat→Nat→Int} (hp:2≤p) (h:InF p r c f):InF p r c (elA p n k f):=fun a b ha hb=>by
 unfold elA;split
 ·exact g6_ hp
 ·exact h _ _ ha hb
theorem f0Q {p:Int} {r c n k:Nat} {f:Nat→Nat→Int} (hp:2≤p) (h:InF p r c f) (hn:n<r) (ht:nzF f k n r<r):InF p r c (rdF p r f n k):=f2J hp (b8z hp (b1j h hn ht))
theorem p6_ {p:Int} {r c:Nat} {f:Nat→Nat→Int} (hp:2≤p) (h:InF p r c f):∀ k,InF p r c (rdTo p r f k).1
 | 0=>h
 | k+1=>by
  have ih:=p6_ hp h k;simp only[rdTo];split
  ·rename_i h1
   have hl:=(f6_ p r f k).1;exact f0Q hp ih (by have:=(w2_ (f:=(rdTo p r f k).1) (k:=k) hl).1;omega) h1
  ·exact ih
theorem b3x {p:Int} {r:Nat} {f:Nat→Nat→Int} {k:Nat} (h:(rdTo p r f k).2.length=r):rdTo p r f (k+1)=rdTo p r f k:=by
 simp only[rdTo];rw[if_neg];rw[h];have:=(w2_ (f:=(rdTo p r f k).1) (k:=k) (l_ r)).1;omega
theorem S2_ {p:Int} {r:Nat} {f:Nat→Nat→Int} {k:Nat} (h:(rdTo p r f k).2.length=r):∀ m,rdTo p r f (k+m)=rdTo p r f k
 | 0=>rfl
 | m+1=>by
  have ih:=S2_ h m;rw[show k+(m+1)=(k+m)+1 by omega,b3x (by rw[ih];exact h),ih]
theorem sw_0 (n t:Nat) (f:Nat→Nat→Int):swJ n t 0 f=f:=by funext a b;simp[swJ]
theorem d0Q (n t r c:Nat) (f:Nat→Nat→Int):flat r c (swJ n t c f)=flat r c (swA n t f):=c1_ fun a b _ hb=>by rw[swJ,if_pos hb];rfl
theorem b8Q {n t r c j:Nat} (f:Nat→Nat→Int) (hn:n<r) (ht:t<r) (hj:j<c) :
  ((flat r c (swJ n t j f)).set (n*c+j) (f t j)).set (t*c+j) (f n j)=flat r c (swJ n t (j+1) f):=by
 rw[j8_ _ _ hn hj,j8_ _ _ ht hj];refine c1_ fun a b _ _=>?_
 simp only[swJ];by_cases e1:a=t∧b=j
 ·obtain⟨rfl,rfl⟩:=e1;rw[if_pos ⟨rfl,rfl⟩,if_pos (by omega)];by_cases e2:a=n
  ·subst e2;rw[if_pos rfl]
  ·rw[if_neg e2,if_pos rfl]
 ·rw[if_neg e1];by_cases e2:a=n∧b=j
  ·obtain⟨rfl,rfl⟩:=e2;rw[if_pos ⟨rfl,rfl⟩,if_pos (by omega),if_pos rfl]
  ·rw[if_neg e2];by_cases e3:b<j
   ·rw[if_pos e3,if_pos (show b<j+1 by omega)]
   ·rw[if_neg e3];by_cases e4:b<j+1
    ·rw[if_pos e4,if_neg (by omega),if_neg (by omega)]
    ·rw[if_neg e4]
theorem A7_ {n t j a:Nat} (f:Nat→Nat→Int):swJ n t j f a j=f a j:=by rw[swJ,if_neg (by omega)]
theorem sc_0 (p:Int) (n:Nat) (s:Int) (f:Nat→Nat→Int):scJ p n s 0 f=f:=by funext a b;simp[scJ]
theorem d1z (p:Int) (n r c:Nat) (s:Int) (f:Nat→Nat→Int):flat r c (scJ p n s c f)=flat r c (scA p n s f):=c1_ fun a b _ hb=>by simp only[scJ,scA,hb,and_true]
theorem a8Q {p s:Int} {n r c j:Nat} (f:Nat→Nat→Int) (hn:n<r) (hj:j<c) :
  (flat r c (scJ p n s j f)).set (n*c+j) (f n j*s % p)=flat r c (scJ p n s (j+1) f):=by
 rw[j8_ _ _ hn hj];refine c1_ fun a b _ _=>?_
 simp only[scJ];by_cases e1:a=n∧b=j
 ·obtain⟨rfl,rfl⟩:=e1;rw[if_pos ⟨rfl,rfl⟩,if_pos (by omega)]
 ·rw[if_neg e1];by_cases e2:a=n∧b<j
  ·rw[if_pos e2,if_pos (by omega)]
  ·rw[if_neg e2,if_neg (by omega)]
theorem b2Z {p s:Int} {n j a:Nat} (f:Nat→Nat→Int):scJ p n s j f a j=f a j:=by rw[scJ,if_neg (by omega)]
theorem el_0 (p:Int) (n k:Nat) (f:Nat→Nat→Int):elI p n k 0 f=f:=by funext a b;simp[elI]
theorem d2X (p:Int) (n k r c:Nat) (f:Nat→Nat→Int):flat r c (elI p n k r f)=flat r c (elA p n k f):=c1_ fun a b ha _=>by simp only[elI,elA,ha,true_and]
theorem b3q (p:Int) (n k:Nat) (f:Nat→Nat→Int):elI p n k n f=elI p n k (n+1) f:=by
 funext a b
 simp only[elI];by_cases e:a<n∧a≠n
 ·rw[if_pos e,if_pos (by omega)]
 ·rw[if_neg e,if_neg (by omega)]
theorem P6_ {p:Int} {n k i b:Nat} (f:Nat→Nat→Int):elI p n k i f i b=f i b:=by rw[elI,if_neg (by omega)]
theorem el_n {p:Int} {n k i b:Nat} (f:Nat→Nat→Int):elI p n k i f n b=f n b:=by rw[elI,if_neg (by omega)]
def elJ (p:Int) (n k i j:Nat) (f:Nat→Nat→Int) (a b:Nat):Int:=if a=i∧b<j then (f a b+(p-f a k)*f n b) % p else elI p n k i f a b
theorem f0Z (p:Int) (n k i:Nat) (f:Nat→Nat→Int):elJ p n k i 0 f=elI p n k i f:=by funext a b;simp[elJ]
theorem d6x {p:Int} {n k i r c:Nat} (f:Nat→Nat→Int) (hi:i≠n):flat r c (elJ p n k i c f)=flat r c (elI p n k (i+1) f):=c1_ fun a b _ hb=>by
 simp only[elJ,elI];by_cases e:a=i
 ·subst e;rw[if_pos ⟨rfl,hb⟩,if_pos (by omega)]
 ·rw[if_neg (by omega)];by_cases e2:a<i∧a≠n
  ·rw[if_pos e2,if_pos (by omega)]
  ·rw[if_neg e2,if_neg (by omega)]
theorem c9j {p:Int} {n k i j r c:Nat} (f:Nat→Nat→Int) (hi:i<r) (hj:j<c) :
  (flat r c (elJ p n k i j f)).set (i*c+j) ((f i j+(p-f i k)*f n j) % p)=flat r c (elJ p n k i (j+1) f):=by
 rw[j8_ _ _ hi hj];refine c1_ fun a b _ _=>?_
 simp only[elJ];by_cases e1:a=i∧b=j
 ·obtain⟨rfl,rfl⟩:=e1;rw[if_pos ⟨rfl,rfl⟩,if_pos (by omega)]
 ·rw[if_neg e1];by_cases e2:a=i∧b<j
  ·rw[if_pos e2,if_pos (by omega)]
  ·rw[if_neg e2,if_neg (by omega)]
theorem c6X {p:Int} {n k i j:Nat} (f:Nat→Nat→Int):elJ p n k i j f i j=f i j:=by rw[elJ,if_neg (by omega),P6_]
theorem f9x {p:Int} {n k i j b:Nat} (f:Nat→Nat→Int) (hi:i≠n):elJ p n k i j f n b=f n b:=by rw[elJ,if_neg (by omega),el_n]
theorem f5Q {p a x y:Int}:(a-x*y) % p=(a+(p-x)*y) % p:=by
 rw[show a+(p-x)*y=(a-x*y)+p*y by rw[Int.sub_mul];omega];rw[Int.add_mul_emod_self_left]
def sgF (h:Nat→Int):Nat→Int
 | 0=>0
 | n+1=>sgF h n+h n
def muP (p:Int) (k:Nat) (f g:Nat→Nat→Int) (a b:Nat):Int:=sgF (fun t=>f a t*g t b) k % p
def muS (p:Int) (c i k:Nat) (f g:Nat→Nat→Int) (a b:Nat):Int:=if a<i then muP p c f g a b else if a=i then muP p k f g a b else 0
theorem f1Z (p:Int) (f g:Nat→Nat→Int) (a b:Nat):muP p 0 f g a b=0:=by simp[muP,sgF]
theorem f6Q (p:Int) (c r d:Nat) (f g:Nat→Nat→Int):flat r d (fun _ _=>0)=flat r d (muS p c 0 0 f g):=c1_ fun a b _ _=>by
 simp only[muS,f1Z];rw[if_neg (by omega)];split <;> rfl
theorem c4q (p:Int) (c i:Nat) (f g:Nat→Nat→Int):muS p c i c f g=muS p c (i+1) 0 f g:=by
 funext a b
 simp only[muS,f1Z];by_cases h1:a<i
 ·rw[if_pos h1,if_pos (by omega)]
 ·rw[if_neg h1];by_cases h2:a=i
  ·rw[if_pos h2,if_pos (by omega)]
  ·rw[if_neg h2,if_neg (by omega)];split <;> rfl
theorem d4X (p:Int) (c r d:Nat) (f g:Nat→Nat→Int):flat r d (muS p c r 0 f g)=flat r d (muP p c f g):=c1_ fun a b ha _=>by
 simp only[muS];rw[if_pos ha]
theorem c7Z {p:Int} (k:Nat) (f g:Nat→Nat→Int) (a b:Nat):(muP p k f g a b+f a k*g k b) % p=muP p (k+1) f g a b:=by
 simp only[muP,sgF];rw[Int.emod_add_emod]
theorem P7_ {p:Int} (hp:2≤p) (k:Nat) (f g:Nat→Nat→Int) (a b:Nat):0≤muP p k f g a b∧muP p k f g a b≤p-1:=g6_ hp
theorem d6z {p:Int} (hp:2≤p) (c i k:Nat) (f g:Nat→Nat→Int) (a b:Nat):0≤muS p c i k f g a b∧muS p c i k f g a b≤p-1:=by
 unfold muS;split
 ·exact P7_ hp _ _ _ _ _
 ·split
  ·exact P7_ hp _ _ _ _ _
  ·omega
theorem d9q {p:Int} {c i k r d:Nat} (f g:Nat→Nat→Int) :
  rowF (r*d) (amF p (f i k) (i*d) d (fun j=>muS p c i k f g (j / d) (j % d)) (g k))=flat r d (muS p c i (k+1) f g):=by
 refine b6_ fun x hx=>?_
 obtain⟨a,b,ha,hb,rfl⟩:=R5_ hx;simp only[amF,w1_ hb,w5_ hb];by_cases e:a=i
 ·subst e;rw[if_pos (by omega),show a*d+b-a*d=b by omega];simp only[muS];rw[if_neg (by omega),if_pos trivial,if_neg (by omega),if_pos trivial];exact c7Z k f g a b
 ·have h1:¬ (i*d≤a*d+b∧a*d+b<i*d+d):=by
   rintro⟨h1,h2⟩;rcases Nat.lt_or_gt_of_ne e with h | h
   ·have:(a+1)*d≤i*d:=Nat.mul_le_mul_right _ h;rw[Nat.add_mul,Nat.one_mul]at this;omega
   ·have:(i+1)*d≤a*d:=Nat.mul_le_mul_right _ h;rw[Nat.add_mul,Nat.one_mul]at this;omega
  rw[if_neg h1];simp only[muS];by_cases e2:a<i
  ·rw[if_pos e2,if_pos e2]
  ·rw[if_neg e2,if_neg e2,if_neg e,if_neg e]
theorem SlI.up {w:World} {B B':Nat} {v:Value} {xs:List Int} (hB:B≤B') (h:SlI w B v xs):SlI w B' v xs:=by
 obtain⟨A,c,e,h1,h2,h3,h4⟩:=h;exact⟨A,c,e,h1,h2,h3,fun hl=>by obtain⟨b,o,e2,hb,hx⟩:=h4 hl;exact⟨b,o,e2,Nat.lt_of_lt_of_le hb hB,hx⟩⟩
theorem b5J (u:Value) (r c i B:Nat) (f:Nat→Nat→Int) (w:World) (hu:MxR w B u (mxF r c f)) (hB:B≤w.heap.size) (hr:r≤1000) (hc:c≤1000) (hi:i<r) :
  Calls Tryz.prog 77 #[u,.int .i64 i] w fun e w'=>∃ v,e = .returned v∧SlI w' B v (rowF c (f i))∧Below w.heap.size w w':=by
 have hi1:i≤1000:=by omega
 obtain⟨A,cap,rfl,hs,_,_,hl⟩:=hu.open_;simp only[mxF]at hs hl⊢;rcases Nat.eq_zero_or_pos c with rfl | h0
 ·obtain⟨_,_,e,h1,h2,_⟩:=hs;injection e with e1 e2 e3
  subst e1 e3;have e:(flat r 0 f).length=0:=by rw[a0_];rfl
  rw[e];refine (R8_ r i cap A w h2 hi1).mono fun e w' ⟨A',h3,h4⟩=>⟨_,h3,?_,h4⟩
  exact⟨A',cap,by simp[rowF],by simp[rowF],h2,by simp[rowF],fun h=>by simp[rowF]at h⟩
 ·obtain⟨P,J,hP,_,_,_,_⟩:=v8_ hi h0 hr hc;obtain⟨hPi,hP2,hPL,_⟩:=Q6_ hi hr hc hP;have hlt:=E7_ hi h0;have hs':=hs;obtain⟨_,_,e,h1,h2,h3,h4⟩:=hs;injection e with e1 e2 e3
  subst e1 e3;obtain⟨b,o,rfl,hb,hx⟩:=h4 (by rw[a0_];exact Nat.lt_of_le_of_lt (l0_ _) hlt);refine (b0X r c i P _ cap b o w hP hP2 (by rw[a0_];exact hPL) h1 h2 h0 hi1).mono fun e w' ⟨h5,h6⟩=>⟨_,h5,?_,h6⟩
  have:=SlI.part (P:=P) (l':=rowF c (f i)) (SlI.below (h6.mono hB) hs') rfl (by rw[a1_,a0_];exact hPL) (fun j x hj=>?_) rfl
  ·rwa[a1_]at this
  ·have hjc:=b0_ hj;rw[a1_]at hjc;rw[d1_ _ hjc]at hj;rw[hPi,j0_ f hi hjc];exact hj
def bsF (c:Nat) (f g:Nat→Nat→Int) (a b:Nat):Int:=if b<c then f a b else g a (b-c)
def blF (r:Nat) (f g:Nat→Nat→Int) (a b:Nat):Int:=if a<r then f a b else g (a-r) b
theorem I7_ (r s c:Nat) (f g:Nat→Nat→Int):b5_ r c f ++ b5_ s c g=b5_ (r+s) c (blF r f g):=by
 apply List.ext_getElem?
 intro i;by_cases h1:i<r
 ·rw[List.getElem?_append_left (by rw[a3_];exact h1),g2_ _ h1,g2_ _ (by omega)];congr 1
  exact b6_ fun b _=>by simp[blF,h1]
 ·rw[List.getElem?_append_right (by rw[a3_];omega),a3_];by_cases h2:i<r+s
  ·rw[g2_ _ (by omega),g2_ _ h2];congr 1
   exact b6_ fun b _=>by simp[blF,h1]
  ·rw[l6_ (by rw[a3_];omega),l6_ (by rw[a3_];omega)]
theorem a8Z (r c d:Nat) (f g:Nat→Nat→Int):b5_ c r (fun a b=>f b a) ++ b5_ d r (fun a b=>g b a)=b5_ (c+d) r (fun a b=>bsF c f g b a):=I7_ c d r _ _
theorem F3_ {w:World} {ops:Array Oper} {rest:List Oper} {o:Oper} {a:Act} {Q:Exit→Act→World→Prop} (hgd:o.guard=none) (s x:Operand)
  (ho:o.op = .call { callee:=.builtin .append,args:=#[s,x],argTypes:=#[46,46] })
  (lo hi lo' hi':Nat) (v v2:Value) (l1 l2:List (List Int)) (hs:a.eval s=v) (hown:b1_ w lo hi v l1) (hx:a.eval x=v2) (hown2:b1_ w lo' hi' v2 l2) (hd:hi≤lo'∨hi'≤lo)
  (hn:l1.length+l2.length≤1048576) (hlo:lo≤w.heap.size) (hhi:hi≤w.heap.size)
  (h:∀ v' w',SlII w' w'.heap.size v' (l1 ++ l2)→Below lo w w'→wpList Tryz.prog ops Q rest (a.put o.dst v') w'):wpList Tryz.prog ops Q (o :: rest) a w:=by
 obtain⟨vs1,o1,e1,F1⟩:=hown;obtain⟨vs2,o2,e2,F2⟩:=hown2;obtain⟨A2,c2,ev2,_,_⟩:=o2.form;subst ev2;obtain⟨i0,hi0,hz0,hz1,hz2⟩:=info_parts a2j;have hrd2:=o2;refine i8_ w hgd s x _ ho lo 24 i0 _ 1 24 Tryz.underlying46 hi0 hz0 hz1 hz2 rfl (by decide) v vs1.length _ hs o1.1 A2 vs2.length c2 vs2 hx ?_ ?_ (by simp only[maxLen];omega) (by omega) hlo fun v' w' h1 h2 h3=>?_
 ·refine⟨by simp,?_⟩;rcases Nat.eq_zero_or_pos vs2.length with h0 | h0
  ·exact .inl h0
  ·rcases o2.1.2 with ⟨e,h1⟩ | ⟨g,cap,cur,e,_,hg,hnc,hcm,hcs,htake⟩
   ·omega
   ·injection e with ea eb ec
    refine .inr ⟨g,0,ea,fun j u hj=>?_⟩;have hc:=o2.1;rw[ea]at hc;have:=hc.cellAt j (by have:=b0_ hj;omega);rw[Nat.zero_add,this,hj]
 ·intro u hu;obtain⟨j,hj⟩:=List.getElem?_of_mem hu;have hjl:=b0_ hj;have hm:=F2.1 (u,l2[j]'(by omega)) (by rw[List.mem_iff_getElem?];exact⟨j,by rw[List.getElem?_zip_eq_some];exact⟨hj,l2_ _⟩⟩);obtain⟨A,c,e⟩:=hm.form;rw[show u=_ from e];rfl
 ·have ho':OutO w' lo w'.heap.size v' (vs1 ++ vs2):=⟨by simpa using h1,fun k hk=>(h1.lt k hk).2,by simp;omega⟩;refine h v' w' (OutO.rd ho' (by simp[e1,e2]) fun p hp=>?_) (b9_ h2 (fun k hk=>(o1.1.lt k hk).1) hlo);rw[List.zip_append e1]at hp;rcases List.mem_append.1 hp with hp | hp
  ·exact ((Fam.grownO F1 o1.1 h2).1 p hp).rd
  ·exact ((Fam.grownO F2 o1.1 h2).1 p hp).rd
theorem a7x (u v:Value) (r c d:Nat) (f g:Nat→Nat→Int) (w0:World) (hu:MxR w0 w0.heap.size u (mxF r c f)) (hv:MxR w0 w0.heap.size v (mxF r d g)) (hr:r≤500) (hc:c≤500) (hd:d≤500) :
  Calls Tryz.prog 62 #[u,v] w0 fun e w'=>∃ v,e = .returned v∧MxO w' w0.heap.size w'.heap.size v (mxF r (c+d) (bsF c f g))∧Below w0.heap.size w0 w':=by
 have hu':=hu;have hv':=hv;obtain⟨U,uc,rfl⟩:=hu.form;obtain⟨V,vc,rfl⟩:=hv.form;obtain⟨L,hL⟩:=e_ ((mxF r c f).a.length);obtain⟨L',hL'⟩:=e_ ((mxF r d g).a.length);have z1:(mxF r c f).r=(r:Int):=rfl;have z2:(mxF r c f).c=(c:Int):=rfl;have z3:(mxF r d g).r=(r:Int):=rfl;have z4:(mxF r d g).c=(d:Int):=rfl;rw[hL,z1,z2]at hu'⊢;rw[hL',z3,z4]at hv'⊢;clear hu hv hL hL' z1 z2 z3 z4;obtain⟨W,hW⟩:∃ W,W=((w0.alloc (.cells #[.int .i64 r,.int .i64 c,.slice U L uc] 41)).alloc (.cells #[.int .i64 r,.int .i64 d,.slice V L' vc] 41)).alloc (.cells #[.int .i64 0,.int .i64 0,.slice none 0 0] 41):=⟨_,rfl⟩;have g0:Below w0.heap.size w0 W:=by rw[hW];exact (((Below.refl _ _).alloc (l_ _) _).alloc (by simp) _).alloc (by simp;omega) _
 have k1:Blk W w0.heap.size 41 #[.int .i64 r,.int .i64 c,.slice U L uc]:=by rw[hW];exact ((Blk.new _ _ _).alloc _).alloc _
 have k2:Blk W (w0.heap.size+1) 41 #[.int .i64 r,.int .i64 d,.slice V L' vc]:=by
  rw[hW];have:=(Blk.new (w0.alloc (.cells #[.int .i64 r,.int .i64 c,.slice U L uc] 41)) 41 #[.int .i64 r,.int .i64 d,.slice V L' vc]).alloc (.cells #[.int .i64 0,.int .i64 0,.slice none 0 0] 41);simpa only[l3_] using this
 have k3:Blk W (w0.heap.size+1+1) 41 #[.int .i64 0,.int .i64 0,.slice none 0 0]:=by
  rw[hW];have:=Blk.new ((w0.alloc (.cells #[.int .i64 r,.int .i64 c,.slice U L uc] 41)).alloc (.cells #[.int .i64 r,.int .i64 d,.slice V L' vc] 41)) 41 #[.int .i64 0,.int .i64 0,.slice none 0 0];simpa only[l3_] using this
 have sz:W.heap.size=w0.heap.size+1+1+1:=by rw[hW];simp
 have HU:=h_ (MxR.next g0 hu');have HV:=h_ (MxR.next g0 hv');have SZ:=h_ sz;clear sz hu' hv';go_enter Tryz.func62,Tryz.ntmps62
 go_wp2;rw[←hW];clear hW;refine o5_ (by kernel_rfl) [.eq (.pointer (some ⟨w0.heap.size,0,none⟩)),.eq (.int .i64 r),.eq (.agg #[.int .i64 r,.int .i64 c,.slice U L uc]),rel 3 (fun u lo hi w=>b1_ w lo hi u (b5_ c r (fun a b=>f b a))∧W.heap.size≤lo∧lo≤hi),.eq (.agg #[.int .i64 r,.int .i64 d,.slice V L' vc]),.rel (fun x w=>b1_ w (x.lo 5) (x.hi 5) (x.v 5) (b5_ d r (fun a b=>g b a))∧x.hi 3≤x.lo 5),.rel (fun x w=>SlII w w.heap.size (x.v 6) (b5_ (c+d) r (fun a b=>bsF c f g b a))),rel 7 (fun u lo hi w=>MxO w lo hi u (mxF r (c+d) (bsF c f g)))] [[],[0],[],[2],[],[2,3,4],[2,3,4,5],[0,1,2,3,4,5,6],[0,1,2,3,4,5,6,7]] [[],[0],[],[2],[],[2,3,4],[2,3,4,5],[0,1,2,4,6]] [0,1,2,4,6,7] 8 6 (by kernel_rfl) (by kernel_rfl) ⟨.inr (.inr ⟨_,rfl⟩),.inr (.inr ⟨_,rfl⟩),.inr (.inr ⟨_,rfl⟩),.inr (.inr ⟨_,rfl⟩),.inl rfl,.inr (.inl rfl),trivial⟩ ⟨trivial,trivial,trivial,a4_ (fun u lo hi w w' h hb=>⟨h.1.below hb,h.2⟩),trivial,fun x w w' h hb=>⟨h.1.below hb,h.2⟩,fun x w w' h hb=>SlII.next hb h,a4_ (fun u lo hi w w' h hb=>h.below hb),trivial⟩ ⟨?_,?_,?_,?_,?_,?_,?_,?_,trivial⟩ ?_;iterate 8 (intro x w hb hk Q' hQ;have he:=k_e hk;simp only[k_s]at he;simp only[netE]at hQ⊢;(try simp only[he]at hQ⊢);(try clear he);rotate_left)
 rotate_left
 ·clear hk;go_wp2;exact hQ _ _ br_ rfl
 ·clear hk;have z2:=(k1.below hb k1.lt).cell' (i:=0) rfl;go_wp2;exact hQ _ _ br_ rfl
 ·clear hk;obtain⟨z0,z1,z2⟩:=c_3 (k1.below hb k1.lt);go_wp2;exact hQ _ _ br_ rfl
 ·clear hk;go_wp2_with fail
  refine (v7_ _ r c f _ (MxR.more hb.size (MxR.below hb HU.out)) (by omega) (by omega)).mono ?_;rintro e w5 ⟨v5,rfl,hO5,hb5⟩;go_wp2;exact hQ _ _ hb5 ⟨hO5,hb.size,hb5.size⟩
 ·clear hk;obtain⟨z0,z1,z2⟩:=c_3 (k2.below hb k2.lt);go_wp2;exact hQ _ _ br_ rfl
 ·have h3:b1_ w (x.lo 3) (x.hi 3) (x.v 3) (b5_ c r (fun a b=>f b a))∧W.heap.size≤(x.lo 3)∧(x.lo 3)≤(x.hi 3):=(hk 3 (by decide)).1;have s3:=(hk 3 (by decide)).2;clear hk;go_wp2_with fail
  refine (v7_ _ r d g _ (MxR.more hb.size (MxR.below hb HV.out)) (by omega) (by omega)).mono ?_;rintro e w5 ⟨v5,rfl,hO5,hb5⟩;go_wp2;exact hQ _ _ hb5 ⟨hO5,s3⟩
 ·have h3:b1_ w (x.lo 3) (x.hi 3) (x.v 3) (b5_ c r (fun a b=>f b a))∧W.heap.size≤(x.lo 3)∧(x.lo 3)≤(x.hi 3):=(hk 3 (by decide)).1;have h5:b1_ w (x.lo 5) (x.hi 5) (x.v 5) (b5_ d r (fun a b=>g b a))∧x.hi 3≤x.lo 5:=(hk 5 (by decide)).1;have s3:=(hk 3 (by decide)).2;have s5:=(hk 5 (by decide)).2;clear hk;obtain⟨h3,l3,l3'⟩:=h3;obtain⟨h5,l5⟩:=h5;have HA:=h_ h3;have HB:=h_ h5;clear h3 h5
  (go_wp2_with (at_builtin;refine Hold.stop ?_));unfold Hold
  refine F3_ rfl (.tmp 8) (.tmp 10) rfl _ _ _ _ _ _ _ _ rfl HA.out rfl HB.out (.inl l5) (by rw[a3_,a3_];omega) (by omega) s3 ?_;intro v' w' hv' hb';rw[a8Z]at hv';go_wp2;exact hQ v' w' (hb'.mono l3) hv'
 ·have h6:SlII w w.heap.size (x.v 6) (b5_ (c+d) r (fun a b=>bsF c f g b a)):=(hk 6 (by decide)).1;have s6:=(hk 6 (by decide)).2;clear hk;have h6':=h_ h6;obtain⟨A6,c6,e6,_⟩:=h6;rw[e6]at h6' hQ⊢;go_wp2_with fail
  refine (i7_ _ r (c+d) (bsF c f g) _ h6'.out (by omega) (by omega)).mono ?_;rintro e w5 ⟨v5,rfl,hO5,hb5⟩;go_wp2;exact hQ _ _ hb5 hO5
 ·intro x w hb hk hiv hdj;have h6:SlII w w.heap.size (x.v 6) (b5_ (c+d) r (fun a b=>bsF c f g b a)):=hk 6 (by decide) (by decide);have h7:MxO w (x.lo 7) (x.hi 7) (x.v 7) (mxF r (c+d) (bsF c f g)):=hk 7 (by decide) (by decide);simp only[netE,n_e (hk 0 (by decide) (by decide)),n_e (hk 1 (by decide) (by decide)),n_e (hk 2 (by decide) (by decide)),n_e (hk 4 (by decide) (by decide))];clear hk;have sz:=SZ.out;have kR:=k3.below hb k3.lt;obtain⟨l7,_,l7h⟩:=hiv 7 (by decide);obtain⟨A7,c7,e7⟩:=h7.form;simp only[mxF]at e7;rw[e7]at h7⊢;clear hiv hdj e7 h6;obtain⟨N,hN⟩:=e_ ((flat r (c+d) (bsF c f g)).length);rw[hN]at h7⊢;obtain⟨p0,p1,p2⟩:=c_3 kR;have fr:=kR.frozen;have gX:=g0.trans (hb.mono g0.size);have gXs:=gX.size;have hbs:=hb.size;have h2:=chg3 w (w0.heap.size+1+1) (.int .i64 (r:Int)) (.int .i64 ((c+d:Nat):Int)) (.slice A7 N c7);have OF:=h_ ((h7.chg h2 (.inr (by omega))).wider (lo':=w0.heap.size) (hi':=w.heap.size) (by omega) (by omega));have GF:=h_ (gX.trans (h2.below (by omega) gXs));have e8:((c+d:Nat):Int)=(c:Int)+d:=by simp
  rw[e8]at OF GF;clear h7 h2 gX kR hN sz gXs hbs l7 l7h hb k1 k2 k3 e8;go_wp2;exact bodyPost_ret (v:=.agg #[.int .i64 (r:Int),.int .i64 ((c:Int)+d),.slice A7 N c7]) (by simp[results,go_sem,p0,p1,p2]) rfl ⟨_,rfl,OF.out.wider (l_ _) (by simp),GF.out⟩
end Go.Proofs.YtnohdlkailpnoaaGreat
namespace Go.Proofs
open Go.Shelf
def Tryz.laysGrow_ren:Go.Shelf.Ren:=⟨fun | 4=>120 | n=>n,fun | 22=>24 | 25=>3 | 3=>3 | 4=>4 | 9=>9 | 20=>20 | 0=>0 | n=>n,fun | n=>n⟩
theorem Tryz.laysGrow:Go.Proofs.Lays8.n4 Tryz.prog Tryz.laysGrow_ren:={
 mixed:=by kernel_rfl
 f4:=⟨Tryz.f120.name,by decide,Tryz.func120.trans (congrArg some (by kernel_rfl))⟩
 t0:=Tryz.underlying0
 a0:=Tryz.isAgg0
 z0:=Tryz.sizeOf0
 v0:=Tryz.zeroValue0
 t3:=Tryz.underlying3
 a3:=Tryz.isAgg3
 z3:=Tryz.sizeOf3
 v3:=Tryz.zeroValue3
 t4:=Tryz.underlying4
 a4:=Tryz.isAgg4
 z4:=Tryz.sizeOf4
 v4:=Tryz.zeroValue4
 t9:=Tryz.underlying9
 a9:=Tryz.isAgg9
 z9:=Tryz.sizeOf9
 v9:=Tryz.zeroValue9
 t20:=Tryz.underlying20
 a20:=Tryz.isAgg20
 z20:=Tryz.sizeOf20
 v20:=Tryz.zeroValue20
 t22:=Tryz.underlying24
 a22:=Tryz.isAgg24
 z22:=Tryz.sizeOf24
 v22:=Tryz.zeroValue24 }
end Go.Proofs
namespace Go.Proofs.YtnohdlkailpnoaaGreat
open Go.RowKit
theorem c0x (n:Nat) (w:World) (hn:n≤1000000) :
  Calls Tryz.prog 120 #[.slice none 0 0,.int .i64 n] w fun e w'=>∃ v,e = .returned v∧OwnI w' w.heap.size v []∧Below w.heap.size w w':=by
 rcases Nat.eq_zero_or_pos n with rfl | h0
 ·exact (Any8.slices_Grow_room Tryz.laysGrow none 0 0 0 w (by omega) (by omega) (by omega) (by omega)).mono fun e w' ⟨h1,h2⟩=>⟨_,h1,OwnI.nil _ _,by rw[h2];exact Below.refl _ _⟩
 ·obtain⟨i0,hi,hz0,hz1,hz2⟩:=info_parts v5_;have hG:Calls Tryz.prog 120 #[.slice none 0 0,.int .i64 n] w fun e w'=>e = .returned (.slice (some ⟨w.heap.size,0,none⟩) 0 (grownCap w (0+n) 0 3)) ∧
    w'=w.drew.alloc (.cells (([]:List Value).toArray ++ Builtin.zeroCells (Value.int .i64 0).cells (0+n-0) ++ Builtin.zeroCells (Value.int .i64 0).cells (grownCap w (0+n) 0 3-(0+n))) 3) :=
   Any8.slices_Grow_grow Tryz.laysGrow i0 _ hi hz0 (by omega) none 0 0 n [] w (by omega) (by omega) (by rw[hz2];omega) (by omega) (by simp) (fun _=>rfl) (fun a h=>by cases h)
  rw[Nat.zero_add,Nat.sub_zero]at hG;refine hG.mono fun e w' ⟨h1,h2⟩=>⟨_,h1,?_,?_⟩
  ·rw[h2];have hg:=grownCap_ge w n 0 3;have hm:=grownCap_le_maxLen w n 0 3 (by simp only[maxLen];omega);refine⟨⟨by simp,.inr ⟨w.heap.size,grownCap w n 0 3,_,rfl,l_ _,Blk.new _ _ _,l0_ _,hm,?_,by simp⟩⟩,by simp,by simp⟩;have hz:(Value.int .i64 0).cells.size=1:=rfl;simp only[Array.size_append,size_zeroCells,List.size_toArray,List.length_nil,hz,Nat.mul_one];omega
  ·rw[h2];exact a6_ (d9_ w) (a2_ _ _)
theorem p5_ (ll:List (List Int)) (k:Nat):(ll.take k).flatten.length≤ll.flatten.length:=by
 have:ll=ll.take k ++ ll.drop k:=(List.take_append_drop k ll).symm;have h2:=congrArg (fun x=>(List.flatten x).length) this;simp only[List.flatten_append,List.length_append]at h2;omega
theorem a6Q (u:Value) (ll:List (List Int)) (w:World) (hu:SlII w w.heap.size u ll) (hn:ll.length≤1000000) (ht:ll.flatten.length≤1000000) :
  Calls Tryz.prog 81 #[u] w fun e w'=>∃ v,e = .returned v∧a9_ w' w.heap.size w'.heap.size v ll.flatten∧Below w.heap.size w w':=by
 obtain⟨A,c,rfl,_,_,_,hx⟩:=hu.open_;clear hu;have HX:=h_ hx;have HT:=h_ ht;obtain⟨n,hnl⟩:=e_ (ll.length);have HNL:=h_ hnl;rw[hnl]at hn⊢;clear hx ht hnl;go_enter Tryz.func81,Tryz.ntmps81
 go_wp2;go_loopw [3,11] (fun s i wr=>∃ k:Nat,k≤n∧i = .int .i64 k∧s = .int .i64 ((ll.take k).flatten.length:Nat)∧w=wr) (fun _ i _=>n-(intOf i).toNat)
 case atStart=>exact⟨0,l0_ _,rfl,by simp,rfl⟩
 case round =>
  obtain⟨k,hk,rfl,rfl,rfl⟩:=hrel;have hle:=p5_ ll k;have hle2:=p5_ ll (k+1);have ht:=HT.out;obtain⟨s,hs⟩:=e_ ((ll.take k).flatten.length);by_cases hlt:k<n
  ·rw[hs]at hle⊢;have hx:=HX.out;rw[←HNL.out]at hlt;obtain⟨b,o,l,LA,lc,rfl,hb,HL,x1,hl⟩:=SlII.at_ hx hlt;rw[HNL.out]at hlt;have e1:(ll.take (k+1)).flatten.length=s+l.length:=by rw[c8_ HL.out,List.flatten_append,List.length_append,hs];simp
   rw[e1]at hle2;have hsl:s+l.length≤1000000:=by omega
   have E1:=h_ e1;clear hs e1 ht hle hle2 hx HL hl hb;go_wp2;go_roundw
   case rel=>exact⟨k+1,by omega,by go_num,by rw[E1.out];go_num,by first | rfl | trivial⟩
   case measure=>simp[intOf];omega
  ·obtain rfl:k=n:=by omega
   have e0:ll.take k=ll:=l7_ (by have:=HNL.out;omega);rw[e0]at hs⊢;rw[hs]at ht⊢;clear hle hle2 e0;have HS:=h_ hs;clear hs;go_wp2_with fail
   refine (c0x s _ (by omega)).mono ?_;rintro e w1 ⟨v,rfl,ho,hb1⟩;obtain⟨OA,oc,rfl,_,_⟩:=ho.form;have gw:=hb1;go_wp2;go_loopw [6,27] (fun out i wr=>∃ j:Nat,j≤k∧i = .int .i64 j∧OwnI wr w.heap.size out (ll.take j).flatten∧Below w.heap.size w wr) (fun _ i _=>k-(intOf i).toNat)
   case atStart=>exact⟨0,l0_ _,rfl,by simpa using ho,hb1⟩
   case round =>
    clear ho hb1 gw;obtain⟨j,hj,rfl,ho,hb1⟩:=hrel;have gs:=hb1.size;by_cases hlj:j<k
    ·have hx:=HX.out;rw[←HNL.out]at hlj;obtain⟨b,o,l,LA,lc,rfl,hb,HL,x1,hl⟩:=SlII.at_ hx hlj;rw[HNL.out]at hlj;have x2:=a7_ hb1 hb x1;have hl2:SlI wr w.heap.size (.slice LA l.length lc) l:=SlI.below hb1 hl;have e1:(ll.take (j+1)).flatten=(ll.take j).flatten ++ l:=by rw[c8_ HL.out,List.flatten_append];simp
     have hle2:=p5_ ll (j+1);rw[e1,List.length_append,HS.out]at hle2;have E1:=h_ e1;obtain⟨OB,ob,rfl,_,_⟩:=ho.form;have HO:=h_ ho;have HL2:=h_ hl2;have HLE:=h_ hle2;have GW:=h_ hb1;have hlo2:=HO.out.lt;clear e1 hx hl hl2 HL x1 ho hle2 hb1
     (go_wp2_with (at_builtin;refine Hold.stop ?_));unfold Hold
     refine c3_ rfl (.tmp 31) (.tmp 32) rfl w.heap.size w.heap.size _ _ rfl HO.out LA l.length lc l rfl rfl HL2.out (by have:=HLE.out;omega) gs ?_;intro v' w' h1 h2 h3;rw[←E1.out]at h1;have g2:=(GW.out).trans (b9_ h2 (fun k hk=>(hlo2 k hk).1) gs);have H1:=h_ h1;have G2:=h_ g2;clear h1 h2 h3 g2 hlo2;go_wp2;go_roundw
     case rel=>exact⟨j+1,by omega,by go_num,H1.out,G2.out⟩
     case measure=>simp[intOf];omega
    ·obtain rfl:j=k:=by omega
     have e0:ll.take j=ll:=l7_ (by have:=HNL.out;omega);rw[e0]at ho;have HO:=h_ ho;clear ho e0;go_wp2;go_ret
     exact⟨_,rfl,a9_.of_own HO.out,hb1⟩
theorem n6_ (r c:Nat) (f:Nat→Nat→Int):(b5_ r c f).flatten=flat r c f:=by
 induction r with
 | zero=>simp[b5_,flat]
 | succ r ih =>
  rw[n2_,List.flatten_append,ih];refine v4_ (by simp[a0_,a1_,Nat.add_mul]) fun i k hi hk=>?_
  rw[List.getElem?_append];by_cases h:i<r
  ·rw[if_pos (by rw[a0_];exact E7_ h hk),j0_ f h hk]
  ·obtain rfl:i=r:=by omega
   rw[if_neg (by rw[a0_];omega),a0_,show i*c+k-i*c=k by omega];simp[d1_ _ hk]
theorem w8_ (u:Value) (c r:Nat) (f:Nat→Nat→Int) (w0:World) (hu:SlII w0 w0.heap.size u (b5_ r c f)) (hr:r≤1000) (hc:c≤1000) :
  Calls Tryz.prog 28 #[.int .i64 c,u] w0 fun e w'=>∃ v,e = .returned v∧MxO w' w0.heap.size w'.heap.size v (mxF r c f)∧Below w0.heap.size w0 w':=by
 have hu':=hu;obtain⟨A,ac,rfl,_⟩:=hu;rw[a3_]at hu'⊢;obtain⟨W,hW,g0,k2⟩:=b_3 w0 #[.int .i64 0,.int .i64 0,.slice none 0 0] 41;have sz:W.heap.size=w0.heap.size+1:=by rw[hW];simp
 have hle:r*c≤1000*1000:=Nat.mul_le_mul hr hc;have HLE:Hid ((b5_ r c f).flatten.length≤1000000):=by show _≤_;rw[n6_,a0_];exact Nat.le_trans hle (by decide)
 have HU:=h_ (SlII.next g0 hu');have K2:=h_ k2;have SZ:=h_ sz;clear hu' k2 sz hle;go_enter Tryz.func28,Tryz.ntmps28
 go_wp2_with fail
 rw[←hW];clear hW;refine (a6Q _ (b5_ r c f) W HU.out (by rw[a3_];omega) HLE.out).mono ?_;rintro e wr ⟨v1,rfl,oA,gW⟩;rw[n6_]at oA;obtain⟨A1,c1,rfl⟩:=oA.form;obtain⟨N,hN⟩:=e_ ((flat r c f).length);rw[hN]at oA⊢;clear hN;have k2:=K2.out.call gW;obtain⟨p0,p1,p2⟩:=c_3 k2;have f2:=k2.frozen;have h2:=chg3 wr w0.heap.size (.int .i64 (r:Int)) (.int .i64 c) (.slice A1 N c1);have gw:Below w0.heap.size w0 wr:=g0.trans (gW.mono g0.size);have gs:=gw.size;have oA2:=(oA.chg h2 (.inr (by have:=SZ.out;omega))).wider (lo':=w0.heap.size) (hi':=wr.heap.size) (by have:=SZ.out;omega) (l_ _);have fg:=gw.trans (h2.below (l_ _) gs);have OA2:=h_ oA2;have FG:=h_ fg;clear oA oA2 fg gw h2 k2 gW;go_wp2;exact bodyPost_ret (v:=.agg #[.int .i64 (r:Int),.int .i64 c,.slice A1 N c1]) (by simp[results,go_sem,p0,p1,p2]) rfl ⟨_,rfl,⟨_,rfl,by simpa [mxF] using OA2.out,by simp only[mxF,I64];omega,by simp only[mxF,I64];omega⟩,FG.out⟩
theorem b0z (u v:Value) (c r s:Nat) (f g:Nat→Nat→Int) (w0:World) (hu:MxR w0 w0.heap.size u (mxF r c f)) (hv:MxR w0 w0.heap.size v (mxF s c g)) (hr:r≤500) (hs:s≤500) (hc:c≤500) :
  Calls Tryz.prog 69 #[u,v] w0 fun e w'=>∃ v,e = .returned v∧MxO w' w0.heap.size w'.heap.size v (mxF (r+s) c (blF r f g))∧Below w0.heap.size w0 w':=by
 have hu':=hu;have hv':=hv;obtain⟨U,uc,rfl⟩:=hu.form;obtain⟨V,vc,rfl⟩:=hv.form;obtain⟨L,hL⟩:=e_ ((mxF r c f).a.length);obtain⟨L',hL'⟩:=e_ ((mxF s c g).a.length);have z1:(mxF r c f).r=(r:Int):=rfl;have z2:(mxF r c f).c=(c:Int):=rfl;have z3:(mxF s c g).r=(s:Int):=rfl;have z4:(mxF s c g).c=(c:Int):=rfl;rw[hL,z1,z2]at hu'⊢;rw[hL',z3,z4]at hv'⊢;clear hu hv hL hL' z1 z2 z3 z4;obtain⟨W,hW⟩:∃ W,W=((w0.alloc (.cells #[.int .i64 r,.int .i64 c,.slice U L uc] 41)).alloc (.cells #[.int .i64 s,.int .i64 c,.slice V L' vc] 41)).alloc (.cells #[.int .i64 0,.int .i64 0,.slice none 0 0] 41):=⟨_,rfl⟩;have g0:Below w0.heap.size w0 W:=by rw[hW];exact (((Below.refl _ _).alloc (l_ _) _).alloc (by simp) _).alloc (by simp;omega) _
 have k1:Blk W w0.heap.size 41 #[.int .i64 r,.int .i64 c,.slice U L uc]:=by rw[hW];exact ((Blk.new _ _ _).alloc _).alloc _
 have k2:Blk W (w0.heap.size+1) 41 #[.int .i64 s,.int .i64 c,.slice V L' vc]:=by
  rw[hW];have:=(Blk.new (w0.alloc (.cells #[.int .i64 r,.int .i64 c,.slice U L uc] 41)) 41 #[.int .i64 s,.int .i64 c,.slice V L' vc]).alloc (.cells #[.int .i64 0,.int .i64 0,.slice none 0 0] 41);simpa only[l3_] using this
 have k3:Blk W (w0.heap.size+1+1) 41 #[.int .i64 0,.int .i64 0,.slice none 0 0]:=by
  rw[hW];have:=Blk.new ((w0.alloc (.cells #[.int .i64 r,.int .i64 c,.slice U L uc] 41)).alloc (.cells #[.int .i64 s,.int .i64 c,.slice V L' vc] 41)) 41 #[.int .i64 0,.int .i64 0,.slice none 0 0];simpa only[l3_] using this
 have sz:W.heap.size=w0.heap.size+1+1+1:=by rw[hW];simp
 have HU:=h_ (MxR.next g0 hu');have HV:=h_ (MxR.next g0 hv');have SZ:=h_ sz;clear sz hu' hv';go_enter Tryz.func69,Tryz.ntmps69
 go_wp2;rw[←hW];clear hW;refine o5_ (by kernel_rfl) [.eq (.pointer (some ⟨w0.heap.size,1,none⟩)),.eq (.int .i64 c),.eq (.agg #[.int .i64 r,.int .i64 c,.slice U L uc]),rel 3 (fun u lo hi w=>b1_ w lo hi u (b5_ r c f)∧W.heap.size≤lo∧lo≤hi),.eq (.agg #[.int .i64 s,.int .i64 c,.slice V L' vc]),.rel (fun x w=>b1_ w (x.lo 5) (x.hi 5) (x.v 5) (b5_ s c g)∧x.hi 3≤x.lo 5),.rel (fun x w=>SlII w w.heap.size (x.v 6) (b5_ (r+s) c (blF r f g))),rel 7 (fun u lo hi w=>MxO w lo hi u (mxF (r+s) c (blF r f g)))] [[],[0],[],[2],[],[2,3,4],[2,3,4,5],[0,1,2,3,4,5,6],[0,1,2,3,4,5,6,7]] [[],[0],[],[2],[],[2,3,4],[2,3,4,5],[0,1,2,4,6]] [0,1,2,4,6,7] 8 6 (by kernel_rfl) (by kernel_rfl) ⟨.inr (.inr ⟨_,rfl⟩),.inr (.inr ⟨_,rfl⟩),.inr (.inr ⟨_,rfl⟩),.inr (.inr ⟨_,rfl⟩),.inl rfl,.inr (.inl rfl),trivial⟩ ⟨trivial,trivial,trivial,a4_ (fun u lo hi w w' h hb=>⟨h.1.below hb,h.2⟩),trivial,fun x w w' h hb=>⟨h.1.below hb,h.2⟩,fun x w w' h hb=>SlII.next hb h,a4_ (fun u lo hi w w' h hb=>h.below hb),trivial⟩ ⟨?_,?_,?_,?_,?_,?_,?_,?_,trivial⟩ ?_;iterate 8 (intro x w hb hk Q' hQ;have he:=k_e hk;simp only[k_s]at he;simp only[netE]at hQ⊢;(try simp only[he]at hQ⊢);(try clear he);rotate_left)
 rotate_left
 ·clear hk;go_wp2;exact hQ _ _ br_ rfl
 ·clear hk;have z2:=(k1.below hb k1.lt).cell' (i:=1) rfl;go_wp2;exact hQ _ _ br_ rfl
 ·clear hk;obtain⟨z0,z1,z2⟩:=c_3 (k1.below hb k1.lt);go_wp2;exact hQ _ _ br_ rfl
 ·clear hk;go_wp2_with fail
  refine (I3_ _ r c f _ (MxR.more hb.size (MxR.below hb HU.out)) (by omega) (by omega)).mono ?_;rintro e w5 ⟨v5,rfl,hO5,hb5⟩;go_wp2;exact hQ _ _ hb5 ⟨hO5,hb.size,hb5.size⟩
 ·clear hk;obtain⟨z0,z1,z2⟩:=c_3 (k2.below hb k2.lt);go_wp2;exact hQ _ _ br_ rfl
 ·have h3:b1_ w (x.lo 3) (x.hi 3) (x.v 3) (b5_ r c f)∧W.heap.size≤(x.lo 3)∧(x.lo 3)≤(x.hi 3):=(hk 3 (by decide)).1;have s3:=(hk 3 (by decide)).2;clear hk;go_wp2_with fail
  refine (I3_ _ s c g _ (MxR.more hb.size (MxR.below hb HV.out)) (by omega) (by omega)).mono ?_;rintro e w5 ⟨v5,rfl,hO5,hb5⟩;go_wp2;exact hQ _ _ hb5 ⟨hO5,s3⟩
 ·have h3:b1_ w (x.lo 3) (x.hi 3) (x.v 3) (b5_ r c f)∧W.heap.size≤(x.lo 3)∧(x.lo 3)≤(x.hi 3):=(hk 3 (by decide)).1;have h5:b1_ w (x.lo 5) (x.hi 5) (x.v 5) (b5_ s c g)∧x.hi 3≤x.lo 5:=(hk 5 (by decide)).1;have s3:=(hk 3 (by decide)).2;have s5:=(hk 5 (by decide)).2;clear hk;obtain⟨h3,l3,l3'⟩:=h3;obtain⟨h5,l5⟩:=h5;have HA:=h_ h3;have HB:=h_ h5;clear h3 h5
  (go_wp2_with (at_builtin;refine Hold.stop ?_));unfold Hold
  refine F3_ rfl (.tmp 8) (.tmp 10) rfl _ _ _ _ _ _ _ _ rfl HA.out rfl HB.out (.inl l5) (by rw[a3_,a3_];omega) (by omega) s3 ?_;intro v' w' hv' hb';rw[I7_]at hv';go_wp2;exact hQ v' w' (hb'.mono l3) hv'
 ·have h6:SlII w w.heap.size (x.v 6) (b5_ (r+s) c (blF r f g)):=(hk 6 (by decide)).1;have s6:=(hk 6 (by decide)).2;clear hk;have h6':=h_ h6;obtain⟨A6,c6,e6,_⟩:=h6;rw[e6]at h6' hQ⊢;go_wp2_with fail
  refine (w8_ _ c (r+s) (blF r f g) _ h6'.out (by omega) (by omega)).mono ?_;rintro e w5 ⟨v5,rfl,hO5,hb5⟩;go_wp2;exact hQ _ _ hb5 hO5
 ·intro x w hb hk hiv hdj;have h6:SlII w w.heap.size (x.v 6) (b5_ (r+s) c (blF r f g)):=hk 6 (by decide) (by decide);have h7:MxO w (x.lo 7) (x.hi 7) (x.v 7) (mxF (r+s) c (blF r f g)):=hk 7 (by decide) (by decide);simp only[netE,n_e (hk 0 (by decide) (by decide)),n_e (hk 1 (by decide) (by decide)),n_e (hk 2 (by decide) (by decide)),n_e (hk 4 (by decide) (by decide))];clear hk;have sz:=SZ.out;have kR:=k3.below hb k3.lt;obtain⟨l7,_,l7h⟩:=hiv 7 (by decide);obtain⟨A7,c7,e7⟩:=h7.form;simp only[mxF]at e7;rw[e7]at h7⊢;clear hiv hdj e7 h6;obtain⟨N,hN⟩:=e_ ((flat (r+s) c (blF r f g)).length);rw[hN]at h7⊢;obtain⟨p0,p1,p2⟩:=c_3 kR;have fr:=kR.frozen;have gX:=g0.trans (hb.mono g0.size);have gXs:=gX.size;have hbs:=hb.size;have h2:=chg3 w (w0.heap.size+1+1) (.int .i64 ((r+s:Nat):Int)) (.int .i64 (c:Int)) (.slice A7 N c7);have OF:=h_ ((h7.chg h2 (.inr (by omega))).wider (lo':=w0.heap.size) (hi':=w.heap.size) (by omega) (by omega));have GF:=h_ (gX.trans (h2.below (by omega) gXs));have e8:((r+s:Nat):Int)=(r:Int)+s:=by simp
  rw[e8]at OF GF;clear h7 h2 gX kR hN sz gXs hbs l7 l7h hb k1 k2 k3 e8;go_wp2;exact bodyPost_ret (v:=.agg #[.int .i64 ((r:Int)+s),.int .i64 c,.slice A7 N c7]) (by simp[results,go_sem,p0,p1,p2]) rfl ⟨_,rfl,OF.out.wider (l_ _) (by simp),GF.out⟩
theorem O6_ {a b c:World} {row:Option Nat} (h:a.grownBy b row) (k:b.grownBy c row):a.grownBy c row :=
 ⟨k.os.trans h.os,k.tape.trans h.tape,k.output.trans h.output,Nat.le_trans h.size k.size,fun i hi hne=>(k.block i (Nat.lt_of_lt_of_le hi h.size) hne).trans (h.block i hi hne)⟩
structure RS (B:Nat) (w1:World) (A:Option Addr) (r c L cap:Nat) (w:World) (f:Nat→Nat→Int) (pv:Value) (ps:List Int):Prop where
 bel:Below B w1 w
 fam:Fam w B w.heap.size [(.slice A L cap,flat r c f),(pv,ps)]
section
variable {B:Nat} {w1 w w':World} {A:Option Addr} {r c L cap:Nat} {f:Nat→Nat→Int} {pv:Value} {ps:List Int}
theorem RS.own (h:RS B w1 A r c L cap w f pv ps):OwnI w B (.slice A L cap) (flat r c f):=(h.fam.1 (_,flat r c f) (by simp)).1
theorem RS.ownP (h:RS B w1 A r c L cap w f pv ps):a9_ w B w.heap.size pv ps:=h.fam.1 (pv,ps) (by simp)
theorem RS.size (h:RS B w1 A r c L cap w f pv ps) (hB:B≤w1.heap.size):B≤w.heap.size:=Nat.le_trans hB h.bel.size
theorem RS.call (h:RS B w1 A r c L cap w f pv ps) (hB:B≤w1.heap.size) (hb:Below w.heap.size w w'):RS B w1 A r c L cap w' f pv ps :=
 ⟨h.bel.trans (hb.mono (h.size hB)),(h.fam.below hb).mono (l_ _) hb.size⟩
theorem RS.addr (h:RS B w1 A r c L cap w f pv ps) (hL:0<r*c):∃ g,A=some ⟨g,0,none⟩∧L=r*c∧L≤cap∧cap≤9223372036854775807∧B≤g∧g<w.heap.size:=by
 have ho:=h.own;rcases ho.1.2 with ⟨e,h0⟩ | ⟨g,cap',cur,e,hg,hh,hnc,hcm,_⟩
 ·rw[a0_]at h0;omega
 ·injection e with e1 e2 e3
  subst e1 e3;rw[a0_]at e2 hnc;subst e2;exact⟨g,rfl,rfl,hnc,by simp only[maxLen]at hcm;omega,hg,(Array.getElem?_eq_some_iff.1 hh).1⟩
theorem RS.len (h:RS B w1 A r c L cap w f pv ps):L=r*c:=by
 rcases h.own.form with ⟨A',c',e,_⟩
 injection e with _ e _
 rw[a0_]at e;exact e
theorem RS.cell {g i k:Nat} (h:RS B w1 (some ⟨g,0,none⟩) r c L cap w f pv ps) (hi:i<r) (hk:k<c):w.cell? ⟨g,i*c+k,none⟩=some (.int .i64 (f i k))∧I64 (f i k)∧w.frozen? ⟨g,i*c+k,none⟩=false:=by
 have h1:=h.own.cellG (j:=i*c+k) (by rw[a0_];exact E7_ hi hk);rw[x2_ f hi hk]at h1;exact⟨h1.1,h1.2,h.own.frozenG _⟩
theorem RS.put {g J:Nat} {x:Int} {f2:Nat→Nat→Int} (h:RS B w1 (some ⟨g,0,none⟩) r c L cap w f pv ps) (hg:B≤g) (hs:B≤w.heap.size) (hx:I64 x) (e:(flat r c f).set J x=flat r c f2) :
  RS B w1 (some ⟨g,0,none⟩) r c L cap (w.setCell ⟨g,J,none⟩ (.int .i64 x)) f2 pv ps:=by
 have hp:=h.own.put (j:=J) hx;rw[e]at hp;refine⟨h.bel.setCell hg _,?_⟩;have:=h.fam.turn (L1:=[]) hp.1 hp.2;simpa using this
theorem RS.turn {g:Nat} {f2:Nat→Nat→Int} (h:RS B w1 (some ⟨g,0,none⟩) r c L cap w f pv ps) (hg:B≤g) (hs:B≤w.heap.size) (ho:OwnI w' B (.slice (some ⟨g,0,none⟩) L cap) (flat r c f2)) (hgr:w.grownBy w' (some g)) :
  RS B w1 (some ⟨g,0,none⟩) r c L cap w' f2 pv ps:=by
 refine⟨h.bel.trans (b9_ hgr (fun k hk=>by injection hk with hk;omega) hs),?_⟩;have:=h.fam.turn (L1:=[]) ho hgr;exact this.mono (l_ _) hgr.size
theorem RS.app {pv':Value} {ps':List Int} (h:RS B w1 A r c L cap w f pv ps) (hs:B≤w.heap.size) (ho:OwnI w' B pv' ps') (hg:w.grownBy w' pv.ownBlock) (hv:pv'.ownBlock=pv.ownBlock∨pv'.ownBlock=some w.heap.size) :
  RS B w1 A r c L cap w' f pv' ps':=by
 refine⟨h.bel.trans (b9_ hg (fun k hk=>(h.ownP.1.lt k hk).1) hs),?_⟩;have h1:Fam w B w.heap.size ([(.slice A L cap,flat r c f)] ++ (pv,ps) :: []):=h.fam;have hw:=hg.size;exact h1.app hw ho hg hv
end
section
variable {B:Nat} {w1 w w':World} {A:Option Addr} {r c L cap:Nat} {f:Nat→Nat→Int} {pv:Value} {ps:List Int}
theorem RS.cellP {g i k P:Nat} (h:RS B w1 (some ⟨g,0,none⟩) r c L cap w f pv ps) (hi:i<r) (hk:k<c) (hP:P=i*c):w.cell? ⟨g,P+k,none⟩=some (.int .i64 (f i k))∧I64 (f i k)∧w.frozen? ⟨g,P+k,none⟩=false:=by
 subst hP;exact h.cell hi hk
theorem RS.put2 {g J J':Nat} {x y:Int} {f2:Nat→Nat→Int} (h:RS B w1 (some ⟨g,0,none⟩) r c L cap w f pv ps) (hg:B≤g) (hs:B≤w.heap.size) (hx:I64 x) (hy:I64 y) (e:((flat r c f).set J x).set J' y=flat r c f2) :
  RS B w1 (some ⟨g,0,none⟩) r c L cap ((w.setCell ⟨g,J,none⟩ (.int .i64 x)).setCell ⟨g,J',none⟩ (.int .i64 y)) f2 pv ps:=by
 have hp:=h.own.put (j:=J) hx;have hp2:=hp.1.put (j:=J') hy;rw[e]at hp2;exact h.turn hg hs hp2.1 (O6_ hp.2 hp2.2)
end
theorem RS.congr {B:Nat} {w1 w:World} {A:Option Addr} {r c L cap:Nat} {f f2:Nat→Nat→Int} {pv:Value} {ps:List Int} (h:RS B w1 A r c L cap w f pv ps) (e:flat r c f=flat r c f2):RS B w1 A r c L cap w f2 pv ps :=
 ⟨h.bel,by rw[←e];exact h.fam⟩
theorem d0x {p x:Int} (hp:2≤p∧p≤5):0≤invP p x∧invP p x≤4:=by
 unfold invP;split
 ·have:=g6_ (x:=x % p*(x % p) % p*(x % p)) hp.1;omega
 ·have:=g6_ (x:=x) hp.1;omega
theorem d7Z {p:Int} {r c n k i:Nat} {f:Nat→Nat→Int} (hp:2≤p) (h:InF p r c f):InF p r c (elI p n k i f):=fun a b ha hb=>by
 unfold elI;split
 ·exact g6_ hp
 ·exact h _ _ ha hb
theorem a6Z {i n c P Q:Nat} (h:i≠n) (hQ:Q=i*c) (hP:P=n*c):Q+c≤P∨P+c≤Q:=by
 rcases Nat.lt_or_gt_of_ne h with h | h
 ·have:(i+1)*c≤n*c:=Nat.mul_le_mul_right _ h;rw[Nat.add_mul,Nat.one_mul]at this;omega
 ·have:(n+1)*c≤i*c:=Nat.mul_le_mul_right _ h;rw[Nat.add_mul,Nat.one_mul]at this;omega
theorem K4_ {r c i P L cap g:Nat} (w:World) (hi:i<r) (h0:0<c) (hr:r≤1000) (hc:c≤1000) (hL:L=r*c) (hcap:L≤cap) (hb:cap≤9223372036854775807) (hP:P=i*c) :
  Calls Tryz.prog 77 #[.agg #[.int .i64 (r:Int),.int .i64 (c:Int),.slice (some ⟨g,0,none⟩) L cap],.int .i64 (i:Int)] w fun e w'=>e = .returned (.slice (some ⟨g,P,none⟩) c (cap-P))∧Below w.heap.size w w':=by
 obtain⟨P',J,h1,h2,h3,h4,h5⟩:=v8_ (k:=0) hi h0 hr hc;obtain⟨h5',h6,h7,h8⟩:=Q6_ hi hr hc h1;have e:P'=P:=h5'.trans hP.symm;have h9:P'+c≤L:=by rw[hL];exact h7
 have h10:i≤1000:=Nat.le_trans (Nat.le_of_lt hi) hr;have:=f3Z (r:Int) c i P' L cap g w h1 h6 h9 hcap hb h0 h10;rw[e]at this;exact this
theorem rowP {r c i k P:Nat} (hi:i<r) (hk:k<c) (hr:r≤1000) (hc:c≤1000) (hP:P=i*c):P+k<r*c∧P+c≤r*c∧r*c≤1000000:=by
 have h1:(i+1)*c≤r*c:=Nat.mul_le_mul_right _ hi;have h2:r*c≤1000*1000:=Nat.mul_le_mul hr hc;rw[Nat.add_mul,Nat.one_mul]at h1;omega
theorem f9q {p:Int} {n k i r c:Nat} (F:Nat→Nat→Int) (hn:n<r) (hi:i≠n) :
  rowF (r*c) (amF p (p-F i k) (i*c) c (fun j=>elI p n k i F (j / c) (j % c)) fun j=>(fun x=>elI p n k i F (x / c) (x % c)) (n*c+j))=flat r c (elI p n k (i+1) F):=by
 refine b6_ fun x hx=>?_
 obtain⟨a,b,ha,hb,rfl⟩:=R5_ hx;simp only[amF,w1_ hb,w5_ hb];by_cases e:a=i
 ·subst e;rw[if_pos (by omega),show a*c+b-a*c=b by omega,w1_ hb,w5_ hb,P6_,el_n];simp only[elI];rw[if_pos (by omega)]
 ·have h1:¬ (i*c≤a*c+b∧a*c+b<i*c+c):=by
   rintro⟨h1,h2⟩;rcases Nat.lt_or_gt_of_ne e with h | h
   ·have:(a+1)*c≤i*c:=Nat.mul_le_mul_right _ h;rw[Nat.add_mul,Nat.one_mul]at this;omega
   ·have:(i+1)*c≤a*c:=Nat.mul_le_mul_right _ h;rw[Nat.add_mul,Nat.one_mul]at this;omega
  rw[if_neg h1];simp only[elI];by_cases e2:a<i∧a≠n
  ·rw[if_pos e2,if_pos (by omega)]
  ·rw[if_neg e2,if_neg (by omega)]
theorem a9j (r c:Nat) (f:Nat→Nat→Int):flat r c f=rowF (r*c) fun j=>f (j / c) (j % c):=rfl
theorem Y6_ {p x:Int} (hp:f2_ p=true) (h1:1≤x) (h2:x≤p-1):1≤invP p x∧invP p x≤p-1∧x*invP p x % p=1∧∀ y,1≤y→y<invP p x→x*y % p≠1:=by
 rcases X4_.1 hp with rfl | rfl | rfl
 ·obtain rfl:x=1:=by omega
  refine⟨by decide,by decide,by decide,fun y hy hy2=>?_⟩;have:invP 2 1=1:=by decide
  omega
 ·have:x=1∨x=2:=by omega
  rcases this with rfl | rfl
  ·refine⟨by decide,by decide,by decide,fun y hy hy2=>?_⟩;have:invP 3 1=1:=by decide
   omega
  ·refine⟨by decide,by decide,by decide,fun y hy hy2=>?_⟩;have:invP 3 2=2:=by decide
   obtain rfl:y=1:=by omega
   decide
 ·have:x=1∨x=2∨x=3∨x=4:=by omega
  rcases this with rfl | rfl | rfl | rfl
  ·refine⟨by decide,by decide,by decide,fun y hy hy2=>?_⟩;have:invP 5 1=1:=by decide
   omega
  ·refine⟨by decide,by decide,by decide,fun y hy hy2=>?_⟩;have:invP 5 2=3:=by decide
   have:y=1∨y=2:=by omega
   rcases this with rfl | rfl <;> decide
  ·refine⟨by decide,by decide,by decide,fun y hy hy2=>?_⟩;have:invP 5 3=2:=by decide
   obtain rfl:y=1:=by omega
   decide
  ·refine⟨by decide,by decide,by decide,fun y hy hy2=>?_⟩;have:invP 5 4=4:=by decide
   have:y=1∨y=2∨y=3:=by omega
   rcases this with rfl | rfl | rfl <;> decide
def pwF (p x:Int):Nat→Int
 | 0=>1
 | n+1=>pwF p x n*(x % p) % p
theorem f9J {p x:Int} (hp:2≤p∧p≤5):∀ n,0≤pwF p x n∧pwF p x n≤4
 | 0=>by simp[pwF]
 | n+1=>by
  have:=g6_ (x:=pwF p x n*(x % p)) hp.1;simp only[pwF];omega
theorem d9J {p x:Int} (hp:f2_ p=true):pwF p x (max (p-2) 1).toNat=invP p x:=by
 have e:=Int.emod_emod_of_dvd x (Int.dvd_refl p);rcases X4_.1 hp with rfl | rfl | rfl
 ·show 1*(x % 2) % 2=_;rw[Int.one_mul,e];rfl
 ·show 1*(x % 3) % 3=_;rw[Int.one_mul,e];rfl
 ·show 1*(x % 5) % 5*(x % 5) % 5*(x % 5) % 5=_;rw[Int.one_mul,e];rfl
theorem T9_ (p x:Int) (n:Nat) (w:World) (hp:f2_ p=true) (hx:I64 x) (hn:n≤1000) :
  Calls Tryz.prog 137 #[.int .i64 p,.int .i64 x,.int .i64 n] w fun e w'=>e = .returned (.int .i64 (pwF p x n))∧w'=w:=by
 have hpr:=f4_ hp;have h2:inR (n:Int) 0 1000=true:=t0_.2 (by omega);have H1:=h_ hp;have H2:=h_ h2;have HX:=h_ hx;clear hp h2;go_enter Tryz.func137,Tryz.ntmps137
 go_wp2_with fail
 refine (d6_ _ _).mono ?_;rintro e w1 ⟨rfl,hww⟩;replace hww:=hww.symm;subst hww;rw[H1.out];go_wp2_with fail
 refine (g0_ _ _ _ _).mono ?_;rintro e w1 ⟨rfl,hww⟩;replace hww:=hww.symm;subst hww;rw[H2.out];go_wp2
 go_loop [7,17] (fun o i=>∃ k:Nat,k≤n∧i = .int .i64 k∧o = .int .i64 (pwF p x k)) (fun _ i=>n-(intOf i).toNat)
 case atStart=>exact⟨0,l0_ _,rfl,rfl⟩
 case round =>
  obtain⟨k,hk,rfl,rfl⟩:=hrel;by_cases hlt:k<n
  ·have hr:=f9J (x:=x) hpr k;have hm:=g6_ (x:=x) hpr.1;have hs:Hid (pwF p x (k+1)=pwF p x k*(x % p) % p):=rfl;obtain⟨a,ha⟩:=e_ (pwF p x k);obtain⟨m,hmm⟩:=e_ (x % p);rw[ha,hmm]at hs;rw[ha]at hr⊢;rw[hmm]at hm;have k0:0≤a*m:=Int.mul_nonneg hr.1 hm.1;have k1:a*m≤4*4:=Int.mul_le_mul hr.2 (by omega) hm.1 (by omega);obtain⟨K,hK⟩:=e_ (a*m);rw[hK]at k0 k1 hs;have hKw:wrap64 (a*m)=K:=by rw[hK];exact IntWalk.wrap64_in _ ⟨by omega,by omega⟩
   have ht:K.tmod p=K % p:=Int.tmod_eq_emod_of_nonneg k0;have HMM:=h_ hmm;clear ha hmm hK;go_wp2_with fail
   refine (P3_ p x _ H1.out HX.out).mono ?_;rintro e w1 ⟨rfl,hww⟩;replace hww:=hww.symm;subst hww;rw[HMM.out];go_wp2;go_round
   case rel=>exact⟨k+1,by omega,by go_num,by rw[hs.out]⟩
   case measure=>simp[intOf];omega
  ·obtain rfl:k=n:=by omega
   go_wp2;go_ret
   exact⟨rfl,rfl⟩
theorem M7_ (p x:Int) (w:World) (hp:f2_ p=true) (hx:I64 x) :
  Calls Tryz.prog 114 #[.int .i64 p,.int .i64 x] w fun e w'=>e = .returned (.int .i64 (invP p x))∧w'=w:=by
 have hpr:=f4_ hp;obtain⟨n,hn⟩:∃ n:Nat,max (p-2) 1=n:=⟨(max (p-2) 1).toNat,by omega⟩;have hi:=d9J (x:=x) hp;rw[hn,l5_]at hi;rw[←hi];have hnb:n≤1000:=by omega
 have H1:=h_ hp;have HX:=h_ hx;clear hp hi;go_enter Tryz.func114,Tryz.ntmps114
 go_wp2_with fail
 refine (d6_ _ _).mono ?_;rintro e w1 ⟨rfl,hww⟩;replace hww:=hww.symm;subst hww;rw[H1.out];go_wp2_with fail
 refine (T9_ p x n _ H1.out HX.out hnb).mono ?_;rintro e w1 ⟨rfl,hww⟩;replace hww:=hww.symm;subst hww;go_wp2;go_ret
 exact⟨rfl,rfl⟩
theorem C2_ (p x:Int) (w:World) (hp:f2_ p=true) (h1:1≤x) (h2:x≤p-1) :
  Calls Tryz.prog 86 #[.int .i64 p,.int .i64 x] w fun e w'=>e = .returned (.int .i64 (invP p x))∧w'=w:=by
 have hpr:=f4_ hp;obtain⟨i1,i2,i3,i4⟩:=Y6_ hp h1 h2;obtain⟨v,hv⟩:=e_ (invP p x);rw[hv]at i1 i2 i3 i4⊢;have H1:=h_ hp;have I3:=h_ i3;have I4:=h_ i4;have hxm:x % p=x:=Int.emod_eq_of_lt (by omega) (by omega);have HXM:=h_ hxm;clear hp hv i3 i4 hxm;go_enter Tryz.func86,Tryz.ntmps86
 go_wp2
 go_loop [5] (fun i=>∃ y:Int,1≤y∧y≤v∧i = .int .i64 y) (fun i=>(p-intOf i).toNat)
 case atStart=>exact⟨1,by omega,by omega,rfl⟩
 case round =>
  obtain⟨y,hy1,hy2,rfl⟩:=hrel;have hyp:y<p:=by omega
  have k0:0≤x*y:=Int.mul_nonneg (by omega) (by omega);have k1:x*y≤4*4:=Int.mul_le_mul (by omega) (by omega) (by omega) (by omega);obtain⟨K,hK⟩:=e_ (x*y);have hKw:wrap64 (x*y)=K:=by rw[hK];exact IntWalk.wrap64_in _ ⟨by omega,by omega⟩
  rw[hK]at k0 k1;have hKI:Hid (I64 K):=by show _∧_;omega
  have hxI:Hid (I64 x):=by show _∧_;omega
  by_cases hlt:y<v
  ·have hne:=I4.out y hy1 hlt;rw[hK]at hne;have hb:(K % p == 1)=false:=by simpa using hne
   clear hK hne;go_wp2_with fail
   refine (f7_ _ _).mono ?_;rintro e w1 ⟨rfl,hww⟩;replace hww:=hww.symm;subst hww;rw[H1.out];go_wp2_with fail
   refine (p1_ p x _ hpr hxI.out).mono ?_;rintro e w1 ⟨rfl,hww⟩;replace hww:=hww.symm;subst hww;rw[HXM.out];go_wp2_with fail
   refine (p1_ p K _ hpr hKI.out).mono ?_;rintro e w1 ⟨rfl,hww⟩;replace hww:=hww.symm;subst hww;go_wp2;go_round
   case rel=>exact⟨y+1,by omega,by omega,rfl⟩
   case measure=>simp[intOf];omega
  ·obtain rfl:y=v:=by omega
   have he:=I3.out;rw[hK]at he;have HE:=h_ he;clear hK he;go_wp2_with fail
   refine (f7_ _ _).mono ?_;rintro e w1 ⟨rfl,hww⟩;replace hww:=hww.symm;subst hww;rw[H1.out];go_wp2_with fail
   refine (p1_ p x _ hpr hxI.out).mono ?_;rintro e w1 ⟨rfl,hww⟩;replace hww:=hww.symm;subst hww;rw[HXM.out];go_wp2_with fail
   refine (p1_ p K _ hpr hKI.out).mono ?_;rintro e w1 ⟨rfl,hww⟩;replace hww:=hww.symm;subst hww;rw[HE.out];go_wp2;go_ret
   exact⟨rfl,rfl⟩
theorem M0_ (p k:Int) (g off top n N cap ca cb:Nat) (lo:Nat) (f:Nat→Int) (w:World) (hp:2≤p∧p≤5) (hk:0≤k∧k≤5)
  (hown:OwnI w lo (.slice (some ⟨g,0,none⟩) N cap) (rowF N f)) (hoff:off+n≤N) (htop:top+n≤N) (hd:off+n≤top∨top+n≤off) (hN:N≤1000000) (hca:n≤ca∧ca≤9223372036854775807) (hcb:n≤cb∧cb≤9223372036854775807)
  (hf:∀ i,i<N→0≤f i∧f i≤4) :
  Calls Tryz.prog 115 #[.int .i64 p,.slice (some ⟨g,off,none⟩) n ca,.int .i64 k,.slice (some ⟨g,top,none⟩) n cb] w fun e w'=>e = .returned (.slice (some ⟨g,off,none⟩) n ca)∧OwnI w' lo (.slice (some ⟨g,0,none⟩) N cap) (rowF N (amF p k off n f fun j=>f (top+j)))∧w.grownBy w' (some g):=by
 have HF:=h_ hf;obtain⟨y,hy⟩:∃ y:Nat→Int,y=fun j=>f (top+j):=⟨_,rfl⟩
 rw[←hy];have HY:Hid (∀ j,y j=f (top+j)):=by subst hy;exact fun _=>rfl
 rw[f1Q p k off N f y]at hown;clear hf hy;go_enter Tryz.func115,Tryz.ntmps115
 go_wp2;go_loopw [13] (fun i wr=>∃ j:Nat,j≤n∧i = .int .i64 j∧OwnI wr lo (.slice (some ⟨g,0,none⟩) N cap) (rowF N (amF p k off j f y))∧w.grownBy wr (some g)) (fun i _=>n-(intOf i).toNat)
 case atStart=>exact⟨0,l0_ _,rfl,hown,World.grownBy.refl _ _⟩
 case round =>
  clear hown;obtain⟨j,hj,rfl,ho,hgr⟩:=hrel;by_cases hlt:j<n
  ·have cA:=(ho.cellG (j:=off+j) (by rw[a1_];omega)).1;rw[c9_ _ (by omega),a1j]at cA;have cS:=(ho.cellG (j:=top+j) (by rw[a1_];omega)).1;rw[c9_ _ (by omega),amF,if_neg (by omega),←HY.out]at cS;have fA:=ho.frozenG (off+j);have hf1:=HF.out (off+j) (by omega);have hy1:=HF.out (top+j) (by omega);rw[←HY.out]at hy1;have hst:=a2Z (p:=p) (k:=k) (off:=off) (j:=j) (N:=N) f y;obtain⟨a,ha⟩:=e_ (f (off+j));obtain⟨z,hz⟩:=e_ (y j);rw[ha]at cA hf1 hst;rw[hz]at cS hy1 hst;have hkz0:0≤k*z:=Int.mul_nonneg hk.1 hy1.1;have hkz1:k*z≤5*4:=Int.mul_le_mul hk.2 hy1.2 hy1.1 (by omega);obtain⟨K,hK⟩:=e_ (k*z);rw[hK]at hkz0 hkz1 hst;have hKw:wrap64 (k*z)=K:=by rw[hK];exact IntWalk.wrap64_in _ ⟨by omega,by omega⟩
   have hr0:=Int.emod_nonneg (a+K) (show p≠0 by omega);have hr1:=Int.emod_lt_of_pos (a+K) (show 0<p by omega);have ho2:=ho.put (j:=off+j) (x:=(a+K) % p) (by simp only[I64];omega);rw[hst]at ho2;have HO2:=h_ ho2;have HG2:=h_ (O6_ hgr ho2.2);have htm:(wrap64 (a+K)).tmod p=(a+K) % p:=by
    rw[IntWalk.wrap64_in _ ⟨by omega,by omega⟩];exact Int.tmod_eq_emod_of_nonneg (by omega)
   have htm2:(a+K).tmod p=(a+K) % p:=Int.tmod_eq_emod_of_nonneg (by omega);clear hst ho2 ho hgr hr0 hr1 ha hz hK hkz0 hkz1;go_wp2;go_roundw
   case rel=>exact⟨j+1,by omega,by go_num,HO2.out.1,HG2.out⟩
   case measure=>simp[intOf];omega
  ·go_wp2;go_ret
   obtain rfl:j=n:=by omega
   exact⟨rfl,ho,hgr⟩
theorem t3_ (p:Int) (u:Value) (r c:Nat) (f:Nat→Nat→Int) (w0:World) (hp:f2_ p=true) (hr:r≤1000) (hc:c≤1000) (hu:MxR w0 w0.heap.size u (mxF r c f)) (hf:InF p r c f) :
  Calls Tryz.prog 75 #[.int .i64 p,u] w0 fun e w'=>∃ m v,e = .returned (.tuple #[m,v])∧MxO w' w0.heap.size w'.heap.size m (mxF r c (rdTo p r f c).1)∧a9_ w' w0.heap.size w'.heap.size v (rdTo p r f c).2∧Below w0.heap.size w0 w':=by
 have hpr:=f4_ hp;have hu':=hu;obtain⟨UA,uc,rfl⟩:=hu.form;simp only[mxF]at hu hu'⊢;rw[a0_]at hu hu'⊢;obtain⟨UL,hUL⟩:=e_ (r*c);rw[hUL]at hu hu'⊢;have HUL:=h_ hUL;clear hUL hu;obtain⟨W,hW,g0,kB,kR⟩:=b_4 w0 #[.int .i64 r,.int .i64 c,.slice UA UL uc] 41 #[.int .i64 0,.int .i64 0,.slice none 0 0] 41;have sz:W.heap.size=w0.heap.size+1+1:=by rw[hW];simp
 have SZ:=h_ sz;have HU:=h_ (MxR.next g0 hu');have HF:=h_ hf;have HP:=h_ hp;obtain⟨c0,c1,c2⟩:=c_3 kB;clear hu' sz hf hp;go_enter Tryz.func75,Tryz.ntmps75
 go_wp2_with fail
 rw[←hW];clear hW;refine (B4_ _ _ _ HU.out).mono ?_;rintro e w1 ⟨v1,rfl,hM,hb1⟩;obtain⟨A,cap,ev⟩:=hM.form;subst ev;simp only[a0_]at hM⊢;obtain⟨L,hL⟩:=e_ (r*c);rw[hL]at hM⊢;have HL:=h_ hL;clear hL;have kB1:=kB.call hb1;have kR1:=kR.call hb1;have g1:=a6_ g0 hb1;clear c0 c1 c2;obtain⟨c0,c1,c2⟩:=c_3 kB1;have fr:=kB1.frozen;have s1:=hb1.size;have sz:=SZ.out;obtain⟨w2,hw2⟩:∃ w2,w2=((w1.setCell ⟨w0.heap.size,0,none⟩ (.int .i64 r)).setCell ⟨w0.heap.size,1,none⟩ (.int .i64 c)).setCell ⟨w0.heap.size,2,none⟩ (.slice A L cap):=⟨_,rfl⟩;have hch:Chg w0.heap.size (w0.heap.size+1) w1 w2:=by rw[hw2];exact chg3 w1 _ _ _ _
 have kB2:Blk w2 w0.heap.size 41 #[.int .i64 r,.int .i64 c,.slice A L cap]:=by rw[hw2];exact ((kB1.set_ 0 _).set_ 1 _).set_ 2 _
 have kR2:=kR1.chg hch (.inr (by omega));have g2:Below w0.heap.size w0 w2:=g1.trans (hch.below (l_ _) (by omega));have s2:=hch.size;obtain⟨sA,esA,hIA,_,_⟩:=hM;simp only[Value.agg.injEq,Array.mk.injEq,List.cons.injEq,and_true,true_and]at esA;subst esA;have hI2:=hIA.chg hch (.inr (by omega));have hS0:RS W.heap.size w2 A r c L cap w2 (rdTo p r f 0).1 (.slice none 0 0) (rdTo p r f 0).2:=by
  refine⟨Below.refl _ _,?_⟩;refine⟨fun q hq=>?_,List.pairwise_pair.2 (Classical.em _)⟩;simp only[List.mem_cons,List.not_mem_nil,or_false]at hq;rcases hq with rfl | rfl
  ·exact hI2.wider (l_ _) s2
  ·exact⟨OwnI.nil _ _,by simp[Value.ownBlock]⟩
 have KB:=h_ kB2;have KR:=h_ kR2;have G2:=h_ g2;have hWB:W.heap.size≤w2.heap.size:=by omega
 have HB0:Hid (w0.heap.size<W.heap.size):=by show _<_;omega
 have HWB:=h_ hWB;clear kB kB1 kR kR1 g0 g1 hIA hI2 hch kB2 kR2 g2 s1 s2 sz hb1 hWB;go_wp2;rw[←hw2];clear hw2 c0 c1 c2 fr;go_loopw [6,18] (fun pv i wr=>∃ k:Nat,k≤c∧i = .int .i64 k∧RS W.heap.size w2 A r c L cap wr (rdTo p r f k).1 pv (rdTo p r f k).2) (fun _ i _=>c-(intOf i).toNat)
 case atStart=>exact⟨0,l0_ _,rfl,hS0⟩
 case round =>
  clear hS0;obtain⟨k,hk,rfl,S⟩:=hrel;obtain⟨PA,pc,ev,_,_⟩:=S.ownP.1.form;subst ev;have hln:=f6_ p r f k;have hin:=p6_ hpr.1 HF.out k;have hrs:=C0_ p r f k;obtain⟨F,hFF⟩:=e_ ((rdTo p r f k).1);obtain⟨ps,hps⟩:=e_ ((rdTo p r f k).2);have hpm:=G8_ p r f k;rw[hps]at hpm;rw[hFF,hps]at S hrs;rw[hps]at hln;rw[hFF]at hin;rw[hps];obtain⟨n,hn⟩:=e_ (ps.length);rw[hn]at hln hrs S⊢;have HRS:=h_ hrs;clear hrs;have HPM:=h_ hpm;have HN:=h_ hn;have HIN:=h_ hin;have HFF:=h_ hFF;have HPS:=h_ hps;clear hFF hps hn hin hpm;by_cases hlt:k<c
  ·have kb:=KB.out.below (S).bel HB0.out;obtain⟨c0,c1,c2⟩:=c_3 kb;have hSS:=h_ S;clear kb;go_wp2;go_loopw [8] (fun i wr=>∃ a:Nat,n≤a∧a≤r∧i = .int .i64 a∧RS W.heap.size w2 A r c L cap wr F (.slice PA n pc) ps∧Hid (∀ i,n≤i→i<a→F i k=0)) (fun i _=>r-(intOf i).toNat)
   case atStart=>exact⟨n,l_ _,hln.1,rfl,S,fun i h1 h2=>by omega⟩
   case round =>
    clear c0 c1 c2 S;obtain⟨a,hna,har,rfl,S,hz⟩:=hrel;have kb:=KB.out.below (S).bel HB0.out;obtain⟨c0,c1,c2⟩:=c_3 kb;by_cases hlr:a<r
    ·obtain⟨P1,_,P3⟩:=rowP hlr hlt hr hc rfl;obtain⟨g,eA,eL,hLc,hcb,hBg,hgw⟩:=S.addr (by omega);subst eA;obtain⟨Q,hQ⟩:∃ Q,Q=a*c:=⟨_,rfl⟩;have HQ:=h_ hQ;have EL:=h_ eL;rw[←hQ]at P1;rw[←eL]at P1 P3;clear hQ eL;go_wp2_with fail
     refine (K4_ _ hlr (by omega) hr hc EL.out hLc hcb HQ.out).mono ?_;rintro e w3 ⟨rfl,hb3⟩;have S3:=S.call HWB.out hb3;obtain⟨z1,_,_⟩:=S3.cellP hlr hlt HQ.out;clear kb c0 c1 c2 S hb3;have kb:=KB.out.below (S3).bel HB0.out;obtain⟨c0,c1,c2⟩:=c_3 kb;by_cases hz0:F a k=0
     ·rw[hz0]at z1;have HZ:Hid (∀ i,n≤i→i<a+1→F i k=0):=fun i h1 h2=>by
       by_cases e:i=a
       ·subst e;exact hz0
       ·exact hz.out i h1 (by omega)
      clear hz0;go_wp2;go_roundw
      case rel=>exact⟨a+1,by omega,by omega,by go_num,S3,HZ.out⟩
      case measure=>simp[intOf];omega
     ·have hzb:(F a k == 0)=false:=by simpa using hz0
      have hza:=d2Q (f:=F) (k:=k) hna har hz.out (fun _=>hz0);have hnr:n<r:=by omega
      have hane:(a:Int)≠r:=by omega
      have HRS2:=h_ (HRS.out.trans (if_pos (by rw[hza];exact hlr)));have HZA:=h_ hza;clear hz0 hza hz;obtain⟨P,hP⟩:∃ P,P=n*c:=⟨_,rfl⟩;have hrp:=rowP hnr hlt hr hc hP;rw[←EL.out]at hrp;have HPP:=h_ hP;clear hP;go_wp2_with fail
      refine (K4_ _ hnr (by omega) hr hc EL.out hLc hcb HPP.out).mono ?_;rintro e w4 ⟨rfl,hb4⟩;have S4:=S3.call HWB.out hb4;rw[←sw_0 n a F]at S4;clear kb c0 c1 c2 S3 hb4 hgw z1;have kb:=KB.out.below (S4).bel HB0.out;obtain⟨c0,c1,c2⟩:=c_3 kb;go_wp2;clear kb c0 c1 c2;go_loopw [48] (fun i wr=>∃ j:Nat,j≤c∧i = .int .i64 j∧RS W.heap.size w2 (some ⟨g,0,none⟩) r c L cap wr (swJ n a j F) (.slice PA n pc) ps) (fun i _=>c-(intOf i).toNat)
      case atStart=>exact⟨0,l0_ _,rfl,S4⟩
      case round =>
       clear S4;obtain⟨j,hj,rfl,S⟩:=hrel;by_cases hljc:j<c
       ·obtain⟨a1,a2,a3⟩:=rowP hlr hljc hr hc HQ.out;obtain⟨b1,b2,b3⟩:=rowP hnr hljc hr hc HPP.out;rw[←EL.out]at a1 a2 a3 b1 b2 b3;have hst:=b8Q F hnr hlr hljc;rw[←HQ.out,←HPP.out]at hst;have HST:=h_ hst;have hsr:=S.size HWB.out;have hSS:=h_ S;clear hst S;go_wp2;obtain⟨y,hy⟩:∃ y,y=F:=⟨_,rfl⟩;refine k9_ (by kernel_rfl) [.eq (.slice (some ⟨g,P,none⟩) c (cap-P)),.eq (.int .i64 j),.eq (.agg #[.int .i64 r,.int .i64 c,.slice (some ⟨g,0,none⟩) L cap]),.eq (.int .i64 a),.eq (.slice (some ⟨g,Q,none⟩) c (cap-Q)),.eq (.int .i64 j),.eq (.agg #[.int .i64 r,.int .i64 c,.slice (some ⟨g,0,none⟩) L cap]),.eq (.int .i64 a),.eq (.slice (some ⟨g,Q,none⟩) c (cap-Q)),.eq (.int .i64 j),.eq (.pointer (some ⟨g,Q+j,none⟩)),.eq (.int .i64 (F a j)),.eq (.slice (some ⟨g,P,none⟩) c (cap-P)),.eq (.int .i64 j),.eq (.pointer (some ⟨g,P+j,none⟩)),.eq (.int .i64 (F n j)),.eq (.pointer (some ⟨g,P+j,none⟩))] [[],[],[],[],[2,3],[],[],[],[2,3,4,6,7],[],[2,3,4,6,7,8,9],[2,3,4,6,7,8,9,10],[],[],[12,13],[12,13,14],[0,1,2,3,4,6,7,8,9,10,11,12,13,14,15],[0,1,2,3,4,6,7,8,9,10,11,12,13,14,15,16],[0,1,2,3,4,5,6,7,8,9,10,11,12,13,14,15,16,17],[0,1,2,3,4,5,6,7,8,9,10,11,12,13,14,15,16,17,18]] 17 5 [0,1,2,3,4,6,7,8,9,10,11,12,13,14,15,16] (by kernel_rfl) rfl ⟨trivial,trivial,trivial,trivial,trivial,trivial,trivial,trivial,trivial,trivial,trivial,trivial,trivial,trivial,trivial,trivial,trivial,trivial⟩ ⟨?_,?_,?_,?_,?_,?_,?_,?_,?_,?_,?_,?_,?_,?_,?_,?_,?_,trivial⟩ ?_ ?_;iterate 17 (intro x w hb hk Q' hQ;have he:=k_e hk;simp only[k_s]at he;simp only[netE]at hQ⊢;(try simp only[he]at hQ⊢);(try clear he);rotate_left)
        rotate_left 2
        iterate 2 (· clear hk;go_wp2;exact hQ _ _ br_ rfl)
        ·clear hk;have S:=hSS.out.call HWB.out hb;have kb:=KB.out.below (S).bel HB0.out;obtain⟨c0,c1,c2⟩:=c_3 kb;go_wp2;exact hQ _ _ br_ rfl
        ·clear hk;go_wp2;exact hQ _ _ br_ rfl
        ·clear hk;go_wp2_with fail
         refine (K4_ _ hlr (by omega) hr hc EL.out hLc hcb HQ.out).mono ?_;rintro e w5 ⟨rfl,hb5⟩;go_wp2;exact hQ _ _ hb5 rfl
        ·clear hk;go_wp2;exact hQ _ _ br_ rfl
        ·clear hk;have S:=hSS.out.call HWB.out hb;have kb:=KB.out.below (S).bel HB0.out;obtain⟨c0,c1,c2⟩:=c_3 kb;go_wp2;exact hQ _ _ br_ rfl
        ·clear hk;go_wp2;exact hQ _ _ br_ rfl
        ·clear hk;go_wp2_with fail
         refine (K4_ _ hlr (by omega) hr hc EL.out hLc hcb HQ.out).mono ?_;rintro e w5 ⟨rfl,hb5⟩;go_wp2;exact hQ _ _ hb5 rfl
        iterate 2 (· clear hk;go_wp2;exact hQ _ _ br_ rfl)
        ·clear hk;have S:=hSS.out.call HWB.out hb;have z:=(S.cellP hlr hljc HQ.out).1;rw[A7_]at z;go_wp2;exact hQ _ _ br_ rfl
        iterate 3 (· clear hk;go_wp2;exact hQ _ _ br_ rfl)
        ·clear hk;have S:=hSS.out.call HWB.out hb;have z:=(S.cellP hnr hljc HPP.out).1;rw[A7_]at z;go_wp2;exact hQ _ _ br_ rfl
        ·clear hk;go_wp2;exact hQ _ _ br_ rfl
        ·intro x w hb hk hiv hdj;have he:=k_g hk [0,1,2,3,4,5,6,7,8,9,10,11,12,13,14,15,16];simp only[k_s]at he;simp only[netE,he];clear he hk;have S:=hSS.out.call HWB.out hb;have ia:=(S.cellP hlr hljc HQ.out);have ib:=(S.cellP hnr hljc HPP.out);rw[A7_]at ia ib;have S2:=S.put2 hBg (S.size HWB.out) ia.2.1 ib.2.1 HST.out;have S1:=S.put (J:=P+j) (x:=F a j) hBg (S.size HWB.out) ia.2.1 (by rw[HPP.out];exact j8_ _ _ hnr hljc);obtain⟨q1,_,q2⟩:=S1.cellP hlr hljc HQ.out;obtain⟨p1,_,p2⟩:=ib;have HS2:=h_ S2;clear ia S S1 S2 hiv hdj;go_wp2;go_roundw
         case rel=>exact⟨j+1,by omega,by go_num,HS2.out⟩
         case measure=>simp[intOf];omega
        ·intro x w hb hk hiv hdj om os hom hos;simp only[List.getElem?_cons_zero,List.getElem?_cons_succ,Option.some.injEq]at hom hos;subst hom hos;have he:=k_g hk [0,1,2,3,4,6,7,8,9,10,11,12,13,14,15,16];simp only[k_s]at he;simp only[List.foldl_cons,List.foldl_nil,netE,he];clear he hk;have S:=hSS.out.call HWB.out hb;have ia:=(S.cellP hlr hljc HQ.out);have ib:=(S.cellP hnr hljc HPP.out);rw[A7_]at ia ib;have S2:=S.put2 hBg (S.size HWB.out) ia.2.1 ib.2.1 HST.out;have S1:=S.put (J:=P+j) (x:=F a j) hBg (S.size HWB.out) ia.2.1 (by rw[HPP.out];exact j8_ _ _ hnr hljc);obtain⟨q1,_,q2⟩:=S1.cellP hlr hljc HQ.out;obtain⟨p1,_,p2⟩:=ib;have HS2:=h_ S2;clear ia S S1 S2 hiv hdj;go_wp2;go_roundw
         case rel=>exact⟨j+1,by omega,by go_num,HS2.out⟩
         case measure=>simp[intOf];omega
       ·have hjc:j=c:=by omega
        subst hjc;have S:=S.congr (d0Q n a r j F);have hin1:=b1j HIN.out hnr hlr;obtain⟨F1,hF1⟩:=e_ (swA n a F);rw[hF1]at S hin1;obtain⟨x,hx⟩:=e_ (F1 n k);obtain⟨z1,hxI,_⟩:=S.cellP hnr hlt HPP.out;rw[hx]at z1 hxI;obtain⟨s,hs⟩:=e_ (invP p x);have hsr:=d0x (x:=x) hpr;rw[hs]at hsr;have HS:=h_ hs;have HX:=h_ hx;have HXI:=h_ hxI;have HF1:=h_ hF1;have HIN1:=h_ hin1;have hSS:=h_ S;clear hs hx hxI hF1 hin1 S;go_wp2_with fail
        refine (M7_ p x _ HP.out HXI.out).mono ?_;rintro e w5 ⟨rfl,hww⟩;replace hww:=hww.symm;subst hww;rw[HS.out];have S:=hSS.out;rw[←sc_0 p n s F1]at S;go_wp2;clear z1;go_loopw [78] (fun i wr=>∃ j':Nat,j'≤j∧i = .int .i64 j'∧RS W.heap.size w2 (some ⟨g,0,none⟩) r j L cap wr (scJ p n s j' F1) (.slice PA n pc) ps) (fun i _=>j-(intOf i).toNat)
        case atStart=>exact⟨0,l0_ _,rfl,S⟩
        case round =>
         clear S hSS;obtain⟨j',hj',rfl,S⟩:=hrel;by_cases hl4:j'<j
         ·obtain⟨b1,b2,b3⟩:=rowP hnr hl4 hr hc HPP.out;rw[←EL.out]at b1 b2 b3;obtain⟨z1,_,z2⟩:=S.cellP hnr hl4 HPP.out;rw[b2Z]at z1;have hi1:=HIN1.out n j' hnr hl4;have hst:=a8Q (p:=p) (s:=s) F1 hnr hl4;obtain⟨a4,ha4⟩:=e_ (F1 n j');rw[ha4]at z1 hi1 hst;rw[←HPP.out]at hst;have k0:0≤a4*s:=Int.mul_nonneg hi1.1 hsr.1;have k1:a4*s≤4*4:=Int.mul_le_mul (by omega) hsr.2 hsr.1 (by omega);obtain⟨K,hK⟩:=e_ (a4*s);rw[hK]at k0 k1 hst;have hKw:wrap64 (a4*s)=K:=by rw[hK];exact IntWalk.wrap64_in _ ⟨by omega,by omega⟩
          have ht:K.tmod p=K % p:=Int.tmod_eq_emod_of_nonneg k0;have hr1:=g6_ (x:=K) hpr.1;have S2:=S.put (J:=P+j') (x:=K % p) hBg (S.size HWB.out) (by unfold I64;omega) hst;have HS2:=h_ S2;clear ha4 hK hst S2 S k0 k1 hr1 hi1;go_wp2;go_roundw
          case rel=>exact⟨j'+1,by omega,by go_num,HS2.out⟩
          case measure=>simp[intOf];omega
         ·have hje:j'=j:=by omega
          subst hje;have S:=S.congr (d1z p n r j' s F1);have hin2:=b8z (s:=s) (n:=n) hpr.1 HIN1.out;obtain⟨F2,hF2⟩:=e_ (scA p n s F1);rw[hF2]at S hin2;have hfin:Hid (rdF p r F n k=elA p n k F2):=by
           show _=_;rw[rdF,HZA.out,HF1.out,HX.out,HS.out,hF2]
          have HIN2:=h_ hin2;clear hF2 hin2;rw[←el_0 p n k F2]at S;have kb:=KB.out.below (S).bel HB0.out;obtain⟨c0,c1,c2⟩:=c_3 kb;go_wp2;clear kb c0 c1 c2;go_loopw [95] (fun i wr=>∃ i':Nat,i'≤r∧i = .int .i64 i'∧RS W.heap.size w2 (some ⟨g,0,none⟩) r j' L cap wr (elI p n k i' F2) (.slice PA n pc) ps) (fun i _=>r-(intOf i).toNat)
          case atStart=>exact⟨0,l0_ _,rfl,S⟩
          case round =>
           clear S;obtain⟨i,hi,rfl,S⟩:=hrel;by_cases hl5:i<r
           ·by_cases hin:i=n
            ·subst hin;rw[b3q]at S;go_wp2;go_roundw
             case rel=>exact⟨i+1,by omega,by go_num,S⟩
             case measure=>simp[intOf];omega
            ·have hne:((i:Int) != n)=true:=by rw[bne_iff_ne];omega
             have hine:¬ ((i:Int)=n):=by omega
             obtain⟨R,hR⟩:∃ R,R=i*j':=⟨_,rfl⟩;obtain⟨a1,a2,a3⟩:=rowP hl5 hlt hr hc hR;have hap:=a6Z hin hR HPP.out;have HR:=h_ hR;rw[←EL.out]at a1 a2 a3;have hSS:=h_ S;have hr5:=HIN2.out i k hl5 hlt;obtain⟨q,hq⟩:=e_ (F2 i k);rw[hq]at hr5;have HQQ:=h_ hq;have hamel:=f9q (p:=p) (n:=n) (k:=k) (i:=i) (r:=r) (c:=j') F2 hnr hin;rw[hq,←EL.out,←HR.out,←HPP.out]at hamel;have HAM:=h_ hamel;have HNE:=h_ hin;clear hR hq hamel hin S;go_wp2;refine a8_ (by kernel_rfl) [.eq (.int .i64 p),.eq (.agg #[.int .i64 r,.int .i64 j',.slice (some ⟨g,0,none⟩) L cap]),.eq (.int .i64 i),.eq (.slice (some ⟨g,R,none⟩) j' (cap-R)),.eq (.int .i64 p),.eq (.agg #[.int .i64 r,.int .i64 j',.slice (some ⟨g,0,none⟩) L cap]),.eq (.int .i64 i),.eq (.slice (some ⟨g,R,none⟩) j' (cap-R)),.eq (.int .i64 k),.eq (.pointer (some ⟨g,R+k,none⟩)),.eq (.int .i64 q),.eq (.int .i64 (p-q)),.eq (.slice (some ⟨g,P,none⟩) j' (cap-P))] [[],[],[],[1,2],[],[],[],[1,2,3,5,6],[],[1,2,3,5,6,7,8],[1,2,3,5,6,7,8,9],[1,2,3,4,5,6,7,8,9,10],[],[0,1,2,3,4,5,6,7,8,9,10,11,12]] 13 (by kernel_rfl) ⟨trivial,trivial,trivial,trivial,trivial,trivial,trivial,trivial,trivial,trivial,trivial,trivial,trivial,trivial⟩ ⟨?_,?_,?_,?_,?_,?_,?_,?_,?_,?_,?_,?_,?_,trivial⟩ ?_;iterate 13 (intro x w hb hk Q' hQ;have he:=k_e hk;simp only[k_s]at he;simp only[netE]at hQ⊢;(try simp only[he]at hQ⊢);(try clear he);rotate_left)
             rotate_left
             ·clear hk;go_wp2;exact hQ _ _ br_ rfl
             ·clear hk;have S:=hSS.out.call HWB.out hb;have kb:=KB.out.below (S).bel HB0.out;obtain⟨c0,c1,c2⟩:=c_3 kb;go_wp2;exact hQ _ _ br_ rfl
             ·clear hk;go_wp2;exact hQ _ _ br_ rfl
             ·clear hk;go_wp2_with fail
              refine (K4_ _ hl5 (by omega) hr hc EL.out hLc hcb HR.out).mono ?_;rintro e w5 ⟨rfl,hb5⟩;go_wp2;exact hQ _ _ hb5 rfl
             ·clear hk;go_wp2;exact hQ _ _ br_ rfl
             ·clear hk;have S:=hSS.out.call HWB.out hb;have kb:=KB.out.below (S).bel HB0.out;obtain⟨c0,c1,c2⟩:=c_3 kb;go_wp2;exact hQ _ _ br_ rfl
             ·clear hk;go_wp2;exact hQ _ _ br_ rfl
             ·clear hk;go_wp2_with fail
              refine (K4_ _ hl5 (by omega) hr hc EL.out hLc hcb HR.out).mono ?_;rintro e w5 ⟨rfl,hb5⟩;go_wp2;exact hQ _ _ hb5 rfl
             iterate 2 (· clear hk;go_wp2;exact hQ _ _ br_ rfl)
             ·clear hk;have S:=hSS.out.call HWB.out hb;have z:=(S.cellP hl5 hlt HR.out).1;rw[P6_,HQQ.out]at z;go_wp2;exact hQ _ _ br_ rfl
             iterate 2 (· clear hk;go_wp2;exact hQ _ _ br_ rfl)
             ·intro x w hb hk hiv hdj;have he:=k_g hk [0,1,2,3,4,5,6,7,8,9,10,11,12];simp only[k_s]at he;simp only[netE,he];clear he hk;have S:=hSS.out.call HWB.out hb;have hown:=S.own;rw[a9j,←EL.out]at hown;have hfr:∀ z,z<L→0≤(fun j=>elI p n k i F2 (j / j') (j % j')) z∧(fun j=>elI p n k i F2 (j / j') (j % j')) z≤4:=by
               intro z hz;rw[EL.out]at hz;obtain⟨a,b,ha,hb',rfl⟩:=R5_ hz;simp only[w1_ hb',w5_ hb'];have:=d7Z (n:=n) (k:=k) (i:=i) hpr.1 HIN2.out a b ha hb';omega
              have HOW:=h_ hown;have HFR:=h_ hfr;have HS6:=h_ S;clear hown hfr S hiv hdj;go_wp2_with fail
              refine (M0_ p (p-q) g R P j' L cap (cap-R) (cap-P) W.heap.size (fun j=>elI p n k i F2 (j / j') (j % j')) _ hpr (by omega) HOW.out a2 hrp.2.1 hap (by omega) (by omega) (by omega) HFR.out).mono ?_;rintro e w6 ⟨rfl,ho6,hg6⟩;rw[HAM.out]at ho6;have S7:=HS6.out.turn hBg (HS6.out.size HWB.out) ho6 hg6;clear ho6 hg6;go_wp2;go_roundw
              case rel=>exact⟨i+1,by omega,by go_num,S7⟩
              case measure=>simp[intOf];omega
           ·have hir:i=r:=by omega
            subst hir;have S:=S.congr (d2X p n k i j' F2);rw[←hfin.out]at S;have hS8:=S.call HWB.out (a2_ wr (.cells #[.int .i64 k] 3));have hsz8:=hS8.size HWB.out;have HS8:=h_ hS8;clear S hS8
            (go_wp2_with (at_builtin;refine Hold.stop ?_));unfold Hold
            refine c3_ rfl (.tmp 117) (.tmp 119) rfl W.heap.size _ (.slice PA n pc) ps rfl HS8.out.ownP.1 _ _ _ [(k:Int)] rfl rfl (SlI.one wr _ k ⟨by omega,by omega⟩) (by rw[HN.out];simp;omega) hsz8 ?_;intro v9 w9 ho9 hg9 hv9;have S9:=HS8.out.app hsz8 ho9 hg9 hv9;clear ho9 hg9 hv9;go_wp2;go_roundw
            case rel=>exact⟨k+1,by omega,by go_num,by rw[HRS2.out];exact S9⟩
            case measure=>simp[intOf];omega
    ·have hae:a=r:=by omega
     have HRS2:=h_ (HRS.out.trans (if_neg (by rw[d2Q (f:=F) (k:=k) hna har hz.out (fun h=>absurd h hlr)];exact hlr)));subst hae;clear hz;go_wp2;go_roundw
     case rel=>exact⟨k+1,by omega,by go_num,by rw[HRS2.out];exact S⟩
     case measure=>simp[intOf];omega
  ·have hkc:k=c:=by omega
   have HKC:=h_ hkc;have sz:=SZ.out;have sB:=S.size HWB.out;have k4:=KB.out.below S.bel HB0.out;have k3':=KR.out.below S.bel (by omega);obtain⟨z0,z1,z2⟩:=c_3 k4;obtain⟨p0,p1,p2⟩:=c_3 k3';have f2:=k3'.frozen;have h2:=chg3 wr (w0.heap.size+1) (.int .i64 (r:Int)) (.int .i64 c) (.slice A L cap);have gw:Below w0.heap.size w0 wr:=(G2.out).trans (S.bel.mono (by omega));have gs:=gw.size;have hfl:=HL.out;have oA:a9_ wr W.heap.size wr.heap.size (.slice A L cap) (flat r c F):=S.fam.1 (_,flat r c F) (by simp);have oA2:=(oA.chg h2 (.inr (by omega))).wider (lo':=w0.heap.size) (hi':=wr.heap.size) (by omega) (l_ _);have oP2:=(S.ownP.chg h2 (.inr (by omega))).wider (lo':=w0.heap.size) (hi':=wr.heap.size) (by omega) (l_ _);have fg:=gw.trans (h2.below (by omega) gs);have OA2:=h_ oA2;have OP2:=h_ oP2;have FG:=h_ fg;clear oA oA2 oP2 fg gw h2 k3' k4 S hkc hfl;go_wp2;refine bodyPost_ret (v:=.tuple #[.agg #[.int .i64 (r:Int),.int .i64 c,.slice A L cap],.slice PA n pc]) (by simp[results,go_sem,p0,p1,p2]) rfl ⟨_,_,rfl,?_,?_,FG.out⟩
   ·refine⟨_,rfl,?_,by simp only[I64];omega,by simp only[I64];omega⟩;have e:flat r c (rdTo p r f c).1=flat r c F:=by rw[←HFF.out,HKC.out]
    rw[e];exact (OA2.out).wider (l_ _) (by simp)
   ·have e:(rdTo p r f c).2=ps:=by rw[←HPS.out,HKC.out]
    rw[e];exact (OP2.out).wider (l_ _) (by simp)
def rkF (p:Int) (r c:Nat) (f:Nat→Nat→Int):Nat:=(rdTo p r f c).2.length
theorem s3_ (p:Int) (r c:Nat) (f:Nat→Nat→Int):rkF p r c f≤r∧rkF p r c f≤c:=f6_ p r f c
theorem s4_ (p:Int) (u:Value) (r c:Nat) (f:Nat→Nat→Int) (w0:World) (hp:f2_ p=true) (hr:r≤1000) (hc:c≤1000) (hu:MxR w0 w0.heap.size u (mxF r c f)) (hf:InF p r c f) :
  Calls Tryz.prog 37 #[.int .i64 p,u] w0 fun e w'=>e = .returned (.int .i64 (rkF p r c f:Int))∧Below w0.heap.size w0 w':=by
 have hu':=hu;obtain⟨UA,uc,rfl⟩:=hu.form;simp only[mxF]at hu hu'⊢;rw[a0_]at hu hu'⊢;obtain⟨UL,hUL⟩:=e_ (r*c);rw[hUL]at hu hu'⊢;clear hUL hu;obtain⟨W,hW,g0,kB⟩:=b_3 w0 #[.int .i64 r,.int .i64 c,.slice UA UL uc] 41;have HU:=h_ (MxR.next g0 hu');have HF:=h_ hf;have HP:=h_ hp;obtain⟨c0,c1,c2⟩:=c_3 kB;clear hu' hf hp kB;go_enter Tryz.func37,Tryz.ntmps37
 go_wp2_with fail
 rw[←hW];clear hW;refine (t3_ p _ r c f _ HP.out hr hc HU.out HF.out).mono ?_;rintro e w1 ⟨m,v,rfl,hM,hI,hb1⟩;obtain⟨MA,mc,em⟩:=hM.form;obtain⟨PA,pc,ev⟩:=hI.form;subst em ev;have g1:=a6_ g0 hb1;simp only[mxF];obtain⟨rk,hrk⟩:=e_ (rkF p r c f);have hrk2:=hrk;unfold rkF at hrk2;rw[hrk2];have HRK:=h_ hrk;clear hM hI hb1 g0 c0 c1 c2 hrk hrk2;go_wp2;go_ret
 exact⟨by rw[HRK.out];rfl,g1.alloc g1.size _⟩
end Go.Proofs.YtnohdlkailpnoaaGreat

