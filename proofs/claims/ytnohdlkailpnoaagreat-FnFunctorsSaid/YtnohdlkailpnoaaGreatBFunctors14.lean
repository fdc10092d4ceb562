/- FnFunctors: the law holds for every argument. Part 14 of 14 of the proof: DrwF, DrwM, DrwM2, DrwQ, DrwP, DrwV, DrwW, DrwY, DrY2, DrY3, DrY4, DrwS, DrwS2, LwFn, LawFunctorsRow. No condition. -/
import Derived.Test.YtnohdlkailpnoaaGreatBFunctors13
import Derived.Deep.CutRange
import Derived.Deep.LoopGhost
import Derived.Deep.CutBlock
set_option linter.unusedVariables false
set_option linter.unusedSimpArgs false
set_option maxHeartbeats 12800000
set_option maxRecDepth 100000
namespace Go.Proofs.YtnohdlkailpnoaaGreat
open Go.RowKit
theorem Cur.ltF {w:World} {c:Nat} (h:Cur w c):c<w.heap.size:=by obtain⟨_,_,_,_,_,hB,_⟩:=h;exact hB.lt
theorem Cur.belowF {w w':World} {c lo:Nat} (h:Cur w c) (k:Below lo w w') (hc:c<lo):Cur w' c:=by
 obtain⟨A,cc,i,hh,l,hB,h1,h2,h3⟩:=h;exact⟨A,cc,i,hh,l,hB.below k hc,h1,h2,SlY.below (k.mono (Nat.le_of_lt hc)) h3⟩
theorem Ck.lowF {w0 w w':World} {c lo:Nat} (h:Ck c w0 w) (k:Below lo w w') (h1:w0.heap.size≤lo) (h2:c<lo):Ck c w0 w' :=
 ⟨k.os.trans h.os,k.tape.trans h.tape,k.output.trans h.output,Nat.le_trans h.size k.size,fun i hi hn=>(k.block i (by omega)).trans (h.block i hi hn),fun h0=>(h.keep h0).belowF k h2⟩
theorem a9_.ckF {w w':World} {lo hi c:Nat} {v:Value} {l:List Int} (h:a9_ w lo hi v l) (k:Ck c w w') (hc:c<lo):a9_ w' lo hi v l:=h.chg k.chg (.inr (by omega))
theorem OwnI.ckF {w w':World} {lo c:Nat} {v:Value} {l:List Int} (h:OwnI w lo v l) (k:Ck c w w') (hc:c<lo):OwnI w' lo v l:=((a9_.of_own h).ckF k hc).1
theorem d6Z {w:World} {g:Nat} {x:Int} (hk:Blk w g 3 #[.int .i64 x]) (hx:I64 x):SlI w w.heap.size (.slice (some ⟨g,0,none⟩) 1 1) [x]:=by
 refine⟨_,1,rfl,by simp,by omega,by simp,fun _=>⟨g,0,rfl,hk.lt,fun j y hj=>?_⟩⟩
 match j,hj with
 | 0,hj =>
  simp at hj;subst hj;exact⟨by rw[hk.cell];rfl,hx⟩
 | j+1,hj=>simp at hj
theorem OwnI.adrF {w:World} {lo n c:Nat} {A:Option Addr} {l:List Int} (h:OwnI w lo (.slice A n c) l) (h0:0<l.length):∃ g,A=some ⟨g,0,none⟩∧lo≤g∧g<w.heap.size:=by
 rcases h.1.2 with ⟨_,h1⟩ | ⟨g,cap,cur,e,hg,_⟩
 ·omega
 ·injection e with e1 _ _
  subst e1;exact⟨g,rfl,hg,(h.lt g rfl).2⟩
def FiX (w:World) (lo:Nat) (v:Value) (F:Filt):Prop:=∃ a b mid,v = .agg #[.int .i64 F.stages,a,b]∧a9_ w lo mid a F.birth∧b1_ w mid w.heap.size b F.ends∧lo≤mid∧I64 F.stages
theorem FiX.chg {w w':World} {lo g:Nat} {v:Value} {F:Filt} (h:FiX w lo v F) (hc:Chg g (g+1) w w') (hg:g<lo):FiX w' lo v F:=by
 obtain⟨a,b,mid,e,h1,h2,h3,h4⟩:=h;exact⟨a,b,mid,e,h1.chg hc (.inr (by omega)),(h2.chg hc (.inr (by omega))).wider (l_ _) hc.size,h3,h4⟩
theorem FiX.below {w w':World} {lo:Nat} {v:Value} {F:Filt} (h:FiX w lo v F) (hb:Below w.heap.size w w'):FiX w' lo v F:=by
 obtain⟨a,b,mid,e,h1,h2,h3,h4⟩:=h;exact⟨a,b,mid,e,h1.below hb,(h2.below hb).wider (l_ _) hb.size,h3,h4⟩
theorem FiX.rd {w:World} {lo:Nat} {v:Value} {F:Filt} (h:FiX w lo v F):FiR w w.heap.size v F:=by
 obtain⟨a,b,mid,e,h1,h2,_,h4⟩:=h;exact⟨a,b,e,h1.rd,h2.rd,h4⟩
theorem FiX.ck {w w':World} {lo c:Nat} {v:Value} {F:Filt} (h:FiX w lo v F) (k:Ck c w w') (hc:c<lo):FiX w' lo v F:=h.chg k.chg hc
section
variable {w w':World} {lo mid gf a d c:Nat} {S:Int} {A C:Option Addr} {B:List Int} {E:List (List Int)}
end
theorem U6_ (c:Nat) (p:Int) (r k:Nat) (w0:World) (hc:Cur w0 c) (hp:I64 p) (hr:r≤8) (hk:k≤8) :
  Calls Tryz.prog 136 #[.pointer (some ⟨c,0,none⟩),.int .i64 p,.int .i64 r,.int .i64 k] w0 fun e w'=>∃ v l,e = .returned v∧MxO w' (w0.heap.size+1) w'.heap.size v ⟨(r:Int),(k:Int),l⟩∧l.length=r*k∧(∀ x∈l,0≤x∧x≤4)∧Ck c w0 w':=by
 obtain⟨hp1,hp2⟩:=hp;have hcl:=hc.ltF;obtain⟨W,hW⟩:∃ W,W=w0.alloc (.cells #[.int .i64 0,.int .i64 0,.slice none 0 0] 41):=⟨_,rfl⟩;have g0:Ck c w0 W:=by rw[hW];exact Ck.of_below (a2_ _ _)
 have kR:Blk W w0.heap.size 41 #[.int .i64 0,.int .i64 0,.slice none 0 0]:=by rw[hW];exact Blk.new _ _ _
 have sW:W.heap.size=w0.heap.size+1:=by rw[hW];simp
 have hcw:w0.heap.size≠c:=by omega
 have KR:=h_ kR;have G0:=h_ g0;have HC:=h_ (g0.keep hc);clear kR hc g0;go_enter Tryz.func136,Tryz.ntmps136
 go_wp2_with fail
 rw[←hW];clear hW;refine (n4_ (r:Int) (k:Int) W (by omega) (by omega) (by omega) (by omega)).mono ?_;rintro e w1 ⟨v1,rfl,⟨s,rfl,hs,_⟩,hb1⟩;obtain⟨n,hn⟩:=e_ (r*k);have hn64:n≤64:=by
  have:r*k≤8*8:=Nat.mul_le_mul hr hk;omega
 have hl:(zmx (r:Int) (k:Int)).a=List.replicate n 0:=by
  simp only[zmx];rw[←Int.natCast_mul,l5_,hn]
 rw[hl]at hs;obtain⟨A,cp,rfl,_⟩:=hs.1.form;rw[List.length_replicate]at hs⊢;simp only[zmx];have hs1:=hb1.size;obtain⟨W2,hW2,gb,gm,hgm,kM⟩:=b_2 w1 #[.int .i64 (r:Int),.int .i64 (k:Int),.slice A n cp] 41;have hs2:W2.heap.size=gm+1:=by rw[←hW2,←hgm];simp
 have hR2:=hs.below gb;rw[hgm]at hR2;have hB2:=(Ck.of_below (c:=c) hb1).trans (Ck.of_below gb);have hC2:=hB2.keep HC.out;have hgmc:gm≠c:=by omega
 have hgW:W.heap.size≤gm:=by omega
 clear hb1 gb hs hl;go_wp2_with fail
 try rw[hW2]
 try rw[hgm]
 clear hW2 hgm;go_loopw [10] (fun iv wr=>∃ (i:Nat) (l:List Int),i≤n∧iv = .int .i64 i∧l.length=n∧(∀ x∈l,0≤x∧x≤4)∧gm<wr.heap.size∧Cur wr c∧Ck c W wr∧Blk wr gm 41 #[.int .i64 (r:Int),.int .i64 (k:Int),.slice A n cp]∧a9_ wr W.heap.size gm (.slice A n cp) l) (fun iv _=>n-(intOf iv).toNat)
 case atStart=>exact⟨0,_,l0_ _,rfl,List.length_replicate,fun x hx=>by rw[List.eq_of_mem_replicate hx];omega,by omega,hC2,hB2,kM,hR2⟩
 case round =>
  clear hC2 hB2 kM hR2;obtain⟨i,l,hi,rfl,hll,hlx,hgs,hC,hB,hM,hR⟩:=hrel;have HCr:=h_ hC;have HB:=h_ hB;have HM:=h_ hM;have HR:=h_ hR;have HL:=h_ hll;have HX:=h_ hlx;have q2:=hM.cell' (i:=2) rfl;clear hC hB hM hR hll hlx;by_cases hlt:i<n
  ·obtain⟨gA,rfl,hgA1,hgA2⟩:=HR.out.1.adrF (by have:=HL.out;omega);have hgAg:gA<gm:=HR.out.2 gA rfl;have hgAc:gA≠c:=by omega
   go_wp2;refine o6_ (c) (by kernel_rfl) [.eq (.pointer (some ⟨gm,2,none⟩)),.eq (.slice (some ⟨gA,0,none⟩) n cp),.eq (.int .i64 i),.eq (.pointer (some ⟨c,0,none⟩)),.eq (.int .i64 p),.eq (.int .i64 (min 5 p)),.eq (.int .i64 (max 1 (min 5 p))),rel 7 (fun u lo hi w=>∃ j:Nat,u = .int .i64 j∧j≤4),.eq (.pointer (some ⟨gA,i,none⟩))] [[],[0],[],[],[],[4],[4,5],[3,4,5,6],[0,1,2,3,4,5,6,7],[0,1,2,3,4,5,6,7,8]] 9 (by kernel_rfl) ⟨trivial,trivial,trivial,trivial,trivial,trivial,trivial,k4_ (fun u lo hi w w' h hb=>h),trivial,trivial⟩ ⟨?_,?_,?_,?_,?_,?_,?_,?_,?_,trivial⟩ ?_;iterate 9 (intro x w hb hk Q' hQ;have he:=k_e hk;simp only[k_s]at he;simp only[netE]at hQ⊢;(try simp only[he]at hQ⊢);(try clear he);rotate_left)
   rotate_left
   ·clear hk;go_wp2;exact hQ _ _ (Ck.refl _ _) rfl
   ·clear hk;have z:=(HM.out.ck hb hgmc).cell' (i:=2) rfl;go_wp2;exact hQ (.slice (some ⟨gA,0,none⟩) n cp) _ (Ck.refl _ _) rfl
   iterate 5 (· clear hk;go_wp2;exact hQ _ _ (Ck.refl _ _) rfl)
   ·clear hk;go_wp2_with fail
    refine (g3_ c _ _ (hb.keep HCr.out) ⟨by omega,by omega⟩).mono ?_;rintro e w7 ⟨j,hj,_,rfl,hb7⟩;go_wp2;exact hQ _ _ hb7 ⟨j,rfl,by omega⟩
   ·clear hk;go_wp2;exact hQ _ _ (Ck.refl _ _) rfl
   ·intro x w hb hk hiv hdj;have h7:∃ j:Nat,(x.v 7) = .int .i64 j∧j≤4:=hk 7 (by decide);have he:=k_g hk [0,1,2,3,4,5,6,8];simp only[k_s]at he;simp only[netE,he];clear he hk;obtain⟨j,e7,hj⟩:=h7;rw[e7];have hOw:=HR.out.ckF hb (by omega);have cX:=(hOw.1.cellG (j:=i) (by have:=HL.out;omega)).1;have fX:=hOw.1.frozenG i;have hput:=hOw.put (j:=i) (x:=(j:Int)) ⟨by omega,by omega⟩;obtain⟨W3,hW3⟩:=e_ (w.setCell ⟨gA,i,none⟩ (.int .i64 (j:Int)));rw[hW3]at hput;have hch:Chg gA (gA+1) w W3:=by rw[←hW3];exact b4_ (l_ _) (m0_ _)
    have hsb:=hb.size;have hwr:=HB.out.size;have hs3:=hch.size;have hlow:Below W.heap.size w W3:=hch.below hgA1 (by omega);have HB3:=h_ ((HB.out.trans hb).lowF hlow (l_ _) (by omega));have HC3:=h_ ((hb.keep HCr.out).belowF hlow (by omega));have HM3:=h_ ((HM.out.ck hb hgmc).chg hch (.inr (by omega)));have HR3:=h_ hput;have HL3:=h_ (show (l.set i (j:Int)).length=n by rw[List.length_set];exact HL.out);have HX3:=h_ (show ∀ x∈l.set i (j:Int),0≤x∧x≤4 from fun x hx=>by
     rcases List.mem_or_eq_of_mem_set hx with h | rfl
     ·exact HX.out x h
     ·omega)
    have hgs3:gm<W3.heap.size:=by omega
    clear hput hch hlow hOw hb hiv hdj e7 hsb hwr;go_wp2;clear hW3 cX fX;go_roundw
    case rel=>exact⟨i+1,_,by omega,by go_num,HL3.out,HX3.out,hgs3,HC3.out,HB3.out,HM3.out,HR3.out⟩
    case measure=>simp[intOf];omega
  ·obtain rfl:i=n:=by omega
   have q0:=HM.out.cell' (i:=0) rfl;have q1:=HM.out.cell' (i:=1) rfl;have kz:=KR.out.ck HB.out hcw;have fr:=kz.frozen;obtain⟨r0,r1,r2⟩:=c_3 kz;have hc3:=((b4_ (lo:=w0.heap.size) (hi:=w0.heap.size+1) (w:=wr) (p:=⟨w0.heap.size,0,none⟩) (u:=.int .i64 (r:Int)) (l_ _) (m0_ _)).trans (b4_ (p:=⟨w0.heap.size,1,none⟩) (u:=.int .i64 (k:Int)) (l_ _) (m0_ _))).trans (b4_ (p:=⟨w0.heap.size,2,none⟩) (u:=.slice A i cp) (l_ _) (m0_ _));have hsz:=HB.out.size;have OF:=h_ ((HR.out.chg hc3 (.inr (by omega))).wider (by omega:w0.heap.size+1≤W.heap.size) (Nat.le_trans (Nat.le_of_lt hgs) hc3.size));have GS:=h_ ((G0.out.trans HB.out).lowF (lo:=w0.heap.size) (hc3.below (l_ _) (by omega)) (l_ _) hcl);clear hc3 kz;go_wp2;exact bodyPost_ret (v:=.agg #[.int .i64 (r:Int),.int .i64 (k:Int),.slice A i cp]) (by simp[results,go_sem,r0,r1,r2]) rfl ⟨_,l,rfl,⟨_,rfl,OF.out,⟨by show (-9223372036854775808:Int)≤(r:Int);omega,by show (r:Int)≤9223372036854775807;omega⟩,⟨by show (-9223372036854775808:Int)≤(k:Int);omega,by show (k:Int)≤9223372036854775807;omega⟩⟩,by rw[hn];exact HL.out,HX.out,GS.out⟩
theorem Z2_ (c:Nat) (w0:World) (hc:Cur w0 c) :
  Calls Tryz.prog 109 #[.pointer (some ⟨c,0,none⟩)] w0 fun e w'=>∃ p:Int,e = .returned (.int .i64 p)∧(p=2∨p=3)∧Ck c w0 w':=by
 go_enter Tryz.func109,Tryz.ntmps109
 go_wp2_with fail
 obtain⟨W8,hW8,gb,kS⟩:=b_1 w0 #[.int .i64 2,.int .i64 3,.int .i64 2] 3;have hcl:=hc.ltF;rw[hW8];refine (Q0_ (fun v=>∃ k:Int,v = .int .i64 k∧(k=2∨k=3)) c w0.heap.size 3 3 _ _ ((Ck.of_below (c:=c) gb).keep hc) kS (by omega) (by omega) (by omega) (fun i hi=>?_) fun v h=>⟨_,h.choose_spec.1⟩).mono ?_
 ·match i,hi with
  | 0,_=>exact⟨_,rfl,_,rfl,by decide⟩
  | 1,_=>exact⟨_,rfl,_,rfl,by decide⟩
  | 2,_=>exact⟨_,rfl,_,rfl,by decide⟩
  | i+3,h=>omega
 rintro e w9 ⟨v,⟨x,rfl,hx⟩,rfl,hb9⟩;have hB9:=(Ck.of_below gb).trans hb9;clear hW8;go_wp2;go_ret
 exact⟨x,rfl,hx,hB9⟩
theorem a9_.widF {w:World} {lo hi lo' hi':Nat} {v:Value} {l:List Int} (h:a9_ w lo hi v l) (h1:lo'≤lo) (h2:hi≤hi'):a9_ w lo' hi' v l:=⟨h.1.lower h1,fun k hk=>Nat.lt_of_lt_of_le (h.2 k hk) h2⟩
structure DmsP (V:Int) (l:List Int):Prop where
 len:0≤V→V≤5→(l.length:Int)=V
 l5:l.length≤5
 rng:∀ x∈l,0≤x∧x≤4
 sum:l.sum≤8
theorem DmsP.dims {q:Qv} {l:List Int} (h:DmsP q.v l) (hq:isQ q=true) (h1:0≤q.v) (h2:q.v≤5):d4_ q l=true:=b7_.2 ⟨hq,h.len h1 h2,h.rng,h.sum⟩
theorem a6j (c:Nat) (V:Int) (A C:Option Addr) (n1 c1 n2 c2:Nat) (most:Nat) (w0:World) (hc:Cur w0 c) (hV:I64 V) (hm:most≤3) :
  Calls Tryz.prog 135 #[.pointer (some ⟨c,0,none⟩),.agg #[.int .i64 V,.slice A n1 c1,.slice C n2 c2],.int .i64 most] w0 fun e w'=>∃ v l,e = .returned v∧a9_ w' w0.heap.size w'.heap.size v l∧DmsP V l∧Ck c w0 w':=by
 have hcl:=hc.ltF;obtain⟨hV1,hV2⟩:=hV;obtain⟨W,hW⟩:=e_ ((w0.alloc (.cells #[.int .i64 V,.slice A n1 c1,.slice C n2 c2] 26)).alloc (.cells #[] 3));have gb:Below w0.heap.size w0 W:=by rw[←hW];exact ((Below.refl _ _).alloc (l_ _) _).alloc (by simp) _
 have kB:Blk W w0.heap.size 26 #[.int .i64 V,.slice A n1 c1,.slice C n2 c2]:=by rw[←hW];exact (Blk.new _ _ _).alloc _
 have hO:OwnI W (w0.heap.size+1) (.slice (some ⟨w0.heap.size+1,0,none⟩) 0 0) []:=by
  rw[←hW];have:=OwnI.made (w:=w0.alloc (.cells #[.int .i64 V,.slice A n1 c1,.slice C n2 c2] 26)) (base:=w0.heap.size+1) 3 rfl (by simp);simpa only[l3_] using this
 have g0:Ck c w0 W:=Ck.of_below gb;have sW:W.heap.size=w0.heap.size+1+1:=by rw[←hW];simp
 have hcw:w0.heap.size≠c:=by omega
 have KB:=h_ kB;have hC0:=g0.keep hc;clear kB gb hc;go_enter Tryz.func135,Tryz.ntmps135
 go_wp2;clear hW;go_loopw [7,8,9] (fun xv lv i wr=>∃ (k:Nat) (l:List Int) (S:Int) (X:Option Addr) (cx:Nat),k≤5∧((k:Int)≤V∨k=0)∧i = .int .i64 k∧lv = .int .i64 (8-S)∧l.sum=S∧0≤S∧S≤8∧(∀ x∈l,0≤x∧x≤4)∧xv = .slice X k cx∧l.length=k∧OwnI wr (w0.heap.size+1) (.slice X k cx) l∧Cur wr c∧Ck c w0 wr∧Blk wr w0.heap.size 26 #[.int .i64 V,.slice A n1 c1,.slice C n2 c2]) (fun _ _ i _=>5-(intOf i).toNat)
 case atStart=>exact⟨0,[],0,_,0,l0_ _,.inr rfl,rfl,rfl,rfl,by omega,by omega,by simp,rfl,rfl,hO,hC0,g0,KB.out⟩
 case round =>
  clear hO hC0 g0;obtain⟨k,l,S,X,cx,hk,hkV,rfl,rfl,hS,hS0,hS8,hX,rfl,hl,hO,hC,hB,kr⟩:=hrel;have c0:=kr.cell' (i:=0) rfl;have hsz:=hB.size;have HL:=h_ hl;have HS:=h_ hS;have HX:=h_ hX;have HO:=h_ hO;have HC:=h_ hC;have HB:=h_ hB;have HK:=h_ kr;have hszK:=kr.lt;clear hl hO hC hB kr hS hX;by_cases hlt:(k:Int)<V∧k<5
  ·obtain⟨h1,h2⟩:=hlt;go_wp2_with fail
   refine (g3_ c _ _ HC.out ⟨by omega,by omega⟩).mono ?_;rintro e w5 ⟨a,ha,ha2,rfl,hb5⟩;have ha4:a≤3:=by omega
   have hO5:=HO.out.ckF hb5 (by omega);obtain⟨y,hy⟩:=e_ (min (8-S) (a:Int));have hy1:0≤y∧y≤3∧S+y≤8:=by omega
   have gX:=a2_ w5 (.cells #[.int .i64 y] 3);have kX:=Blk.new w5 3 #[.int .i64 y];have HOX:=h_ (hO5.below gX);have HKX:=h_ kX;have hs5:=hb5.size;have HCX:=h_ ((Ck.of_below (c:=c) gX).keep (hb5.keep HC.out));have HBX:=h_ ((HB.out.trans hb5).trans (Ck.of_below gX));have HKK:=h_ ((HK.out.ck hb5 hcw).call gX);clear hb5 hO5 gX kX c0
   (go_wp2_with (at_builtin;refine Hold.stop ?_));unfold Hold
   refine c3_ (by rfl) (.tmp 28) (.tmp 30) (by rfl) (w0.heap.size+1) (w5.alloc (.cells #[.int .i64 y] 3)).heap.size _ l (by rfl) HOX.out (some ⟨w5.heap.size,0,none⟩) 1 1 [y] (by rfl) rfl (d6Z HKX.out ⟨by omega,by omega⟩) (by have:=HL.out;simp;omega) (by simp;omega) ?_;intro v3 w3 ho3 hg3 hv3;have hlow:Below (w0.heap.size+1) (w5.alloc (.cells #[.int .i64 y] 3)) w3:=b9_ hg3 (fun j hj=>(HOX.out.lt j hj).1) (by simp;omega);obtain⟨A3,c3,rfl,_⟩:=ho3.form;have hl3:(l ++ [y]).length=k+1:=by rw[List.length_append,HL.out];rfl
   rw[hl3]at ho3⊢;have HL3:=h_ hl3;have HS3:=h_ (show (l ++ [y]).sum=S+y by rw[List.sum_append,HS.out];simp);have HX3:=h_ (show ∀ x∈l ++ [y],0≤x∧x≤4 from fun x hx=>by
    rcases List.mem_append.1 hx with h | h
    ·exact HX.out x h
    ·obtain rfl:=List.mem_singleton.1 h;omega)
   have HO3:=h_ ho3;have HC3:=h_ (HCX.out.belowF hlow (by omega));have HB3:=h_ (HBX.out.lowF hlow (by omega) (by omega));have HK3:=h_ (HKK.out.below hlow (by omega));clear ho3 hg3 hv3 hlow hl3;go_wp2;go_roundw
   case rel=>exact⟨k+1,_,S+y,A3,c3,by omega,.inl (by omega),by go_num,by congr 1;omega,HS3.out,by omega,by omega,HX3.out,rfl,HL3.out,HO3.out,HC3.out,HB3.out,HK3.out⟩
   case measure=>simp[intOf];omega
  ·have hP:DmsP V l:=⟨fun h1 h2=>by have:=HL.out;omega,by have:=HL.out;omega,HX.out,by rw[HS.out];exact hS8⟩;have HP:=h_ hP;clear hP;by_cases hv:(k:Int)<V
   ·have hk5:¬ k<5:=fun h=>hlt ⟨hv,h⟩
    clear hlt;go_wp2;go_ret
    have h1:=(a9_.of_own HO.out).widF (lo':=w0.heap.size) (hi':=wr.heap.size) (by omega) (l_ _);first | exact⟨_,l,rfl,h1,HP.out,HB.out⟩ | exact⟨_,rfl,l,h1,HP.out,HB.out⟩ | exact⟨_,rfl,⟨l,h1,HP.out⟩,HB.out⟩
   ·clear hlt;go_wp2;go_ret
    have h1:=(a9_.of_own HO.out).widF (lo':=w0.heap.size) (hi':=wr.heap.size) (by omega) (l_ _);first | exact⟨_,l,rfl,h1,HP.out,HB.out⟩ | exact⟨_,rfl,l,h1,HP.out,HB.out⟩ | exact⟨_,rfl,⟨l,h1,HP.out⟩,HB.out⟩
theorem a8x {w:World} {g g':Nat} {t t':TypeId} {cs cs':Array Value} (h:Blk w g t cs) (k:Blk w g' t' cs') (ht:t≠t'):g≠g':=by
 rintro rfl;unfold Blk at h k;rw[h]at k;injection k with k
 injection k with _ k
 exact ht k
def MsOk (ms:List Mx):Prop:=∀ y∈ms,∃ R C:Nat,y.r=R∧y.c=C∧R≤4∧C≤4
theorem f1J {q:Qv} {d:List Int} (h:d4_ q d=true):MsOk (zms q d q.f.length):=by
 intro m hm;simp only[zms,List.mem_map,List.mem_range]at hm;obtain⟨i,hi,rfl⟩:=hm;obtain⟨nf,nt,yf,yt,ef,et,df,dt,_⟩:=K0_ (x:=⟨0,q,d,[]⟩) h hi;obtain⟨_,_,hd,_⟩:=b7_.1 h;have b1:=hd _ (l4_ df);have b2:=hd _ (l4_ dt);refine⟨yt.toNat,yf.toNat,?_,?_,by omega,by omega⟩
 ·simp only[zmx,l1_,ef,et,Option.getD_some,r4_ df,r4_ dt];omega
 ·simp only[zmx,l1_,ef,et,Option.getD_some,r4_ df,r4_ dt];omega
theorem MsOk.set {ms:List Mx} (h:MsOk ms) (i:Nat) {R C:Nat} (l:List Int) (hR:R≤4) (hC:C≤4):MsOk (ms.set i ⟨R,C,l⟩):=fun y hy=>by
 rcases List.mem_or_eq_of_mem_set hy with hy | rfl
 ·exact h y hy
 ·exact⟨R,C,rfl,rfl,hR,hC⟩
def OfP (c lo:Nat) (w0:World) (e:Ending) (w':World):Prop:=∃ (v:Value) (x:Rp) (lo':Nat),e = .returned v∧RepI w' lo' w'.heap.size v x∧Sep3 v∧x.d.length≤5∧lo≤lo'∧Ck c w0 w'
theorem c2X (c:Nat) (p:Int) (v:Value) (q:Qv) (most lo hi:Nat) (w0:World) (hc:Cur w0 c) (hp:I64 p) (hq:x1_ w0 lo hi v q) (hclo:c<lo) (hhi:hi≤w0.heap.size) (hlh:lo≤hi) (hm:most≤3) :
  Calls Tryz.prog 111 #[.pointer (some ⟨c,0,none⟩),.int .i64 p,v,.int .i64 most] w0 fun e w'=>OfP c lo w0 e w':=by
 have hcl:=hc.ltF;have hrd:=hq.rd;obtain⟨a,b,rfl,ha,hb,hV⟩:=hq;obtain⟨A,ca,rfl⟩:=ha.form;obtain⟨C,cb,rfl⟩:=hb.form;obtain⟨W,hW,g0,k1,k2⟩:=b_4 w0 #[.int .i64 q.v,.slice A q.f.length ca,.slice C q.t.length cb] 26 #[.int .i64 0,.int .i64 0,.slice none 0 0,.slice none 0 0,.slice none 0 0,.slice none 0 0] 29;have sW:W.heap.size=w0.heap.size+1+1:=by rw[hW];simp
 have HQW:=h_ (QvR.next g0 hrd);have HA:=h_ (ha.below g0);have HB:=h_ (hb.below g0);have HCW:=h_ ((Ck.of_below (c:=c) g0).keep hc);have G0:=h_ (Ck.of_below (c:=c) g0);have K1:=h_ k1;have K2:=h_ k2;have hcw:w0.heap.size≠c:=by omega
 have hcw1:w0.heap.size+1≠c:=by omega
 clear ha hb g0 hc hrd;go_enter Tryz.func111,Tryz.ntmps111
 obtain⟨c0,c1,c2⟩:=c_3 k1;clear k1 k2;go_wp2_with fail
 rw[←hW];clear hW;refine (c0_ _ q _ HQW.out).mono ?_;rintro e w1 ⟨rfl,hb1⟩;have hs1:=hb1.size;have HK1:=h_ (K1.out.call hb1);have HK2:=h_ (K2.out.call hb1);have HC1:=h_ ((Ck.of_below (c:=c) hb1).keep HCW.out);have HB1:=h_ (G0.out.trans (Ck.of_below hb1));have HA1:=h_ (HA.out.below hb1);have HT1:=h_ (HB.out.below hb1);have HQ1:=h_ (QvR.next hb1 HQW.out);clear hb1 c0 c1 c2;obtain⟨c0,c1,c2⟩:=c_3 HK1.out;rcases hiq:isQ q with _ | _
 ·have kz:=HK2.out;have fr:=kz.frozen;obtain⟨r0,r1,r2,r3,r4,r5⟩:=c_6 kz;have hc6:=chg6 w1 (w0.heap.size+1) (.int .i64 p) (.int .i64 q.v) (.slice A q.f.length ca) (.slice C q.t.length cb) (.slice none 0 0) (.slice none 0 0);have hR:RepI w1 lo hi (.agg #[.int .i64 p,.int .i64 q.v,.slice A q.f.length ca,.slice C q.t.length cb,.slice none 0 0,.slice none 0 0]) ⟨p,q,[],[]⟩ :=
   ⟨_,_,_,_,[],hi,rfl,HA1.out,HT1.out,⟨OwnI.nil _ _,by simp[Value.ownBlock]⟩,RowO.nil _ w1 lo hi,rfl,⟨fun p hp=>by simp at hp,by simp⟩,⟨hlh,l_ _⟩,⟨hp,hV⟩,fun m hm=>by simp at hm⟩
  have OF:=h_ ((hR.chg hc6 (.inl (by omega))).wider (l_ _) (by simp;omega:hi≤((((((w1.setCell ⟨w0.heap.size+1,0,none⟩ (.int .i64 p)).setCell ⟨w0.heap.size+1,1,none⟩ (.int .i64 q.v)).setCell ⟨w0.heap.size+1,2,none⟩ (.slice A q.f.length ca)).setCell ⟨w0.heap.size+1,3,none⟩ (.slice C q.t.length cb)).setCell ⟨w0.heap.size+1,4,none⟩ (.slice none 0 0)).setCell ⟨w0.heap.size+1,5,none⟩ (.slice none 0 0)).heap.size));have HS:=h_ (show Sep3 (.agg #[.int .i64 p,.int .i64 q.v,.slice A q.f.length ca,.slice C q.t.length cb,.slice none 0 0,.slice none 0 0]) from ⟨_,_,_,_,_,_,hi,rfl,fun k h=>HA1.out.2 k h,fun k h=>HT1.out.2 k h,fun k h=>by simp[Value.ownBlock]at h⟩);have GS:=h_ (HB1.out.lowF (lo:=w0.heap.size) (hc6.below (by omega) (by omega)) (l_ _) (by omega));clear hc6 kz hR;go_wp2;refine bodyPost_ret (v:=.agg #[.int .i64 p,.int .i64 q.v,.slice A q.f.length ca,.slice C q.t.length cb,.slice none 0 0,.slice none 0 0]) (by simp[results,go_sem,r0,r1,r2,r3,r4,r5]) rfl ?_;unfold OfP;exact⟨_,⟨p,q,[],[]⟩,lo,rfl,OF.out,HS.out,l0_ _,l_ _,GS.out⟩
 ·go_wp2_with fail
  clear c0 c1 c2;have hqt:=(g4_.1 hiq).1;have hq6:q.f.length≤6:=(g4_.1 hiq).2.2.1;have HIQ:=h_ hiq;clear hiq;obtain⟨wx,hwx⟩:∃ z,z=w1:=⟨_,rfl⟩;subst hwx;refine o6_ (c) (by kernel_rfl) [.eq (.int .i64 p),.eq (.agg #[.int .i64 q.v,.slice A q.f.length ca,.slice C q.t.length cb]),.eq (.pointer (some ⟨c,0,none⟩)),.eq (.agg #[.int .i64 q.v,.slice A q.f.length ca,.slice C q.t.length cb]),.eq (.int .i64 most),rel 5 (fun u lo hi w=>∃ l,a9_ w lo hi u l∧DmsP q.v l∧c<lo),rel 6 (fun u lo hi w=>∃ l,RepI w lo hi u (zRep p q l)∧Sep3 u∧d4_ q l=true∧c<lo),rel 7 (fun u lo hi w=>∃ g,u = .pointer (some ⟨g,0,none⟩)∧Blk w g 29 #[.int .i64 0,.int .i64 0,.slice none 0 0,.slice none 0 0,.slice none 0 0,.slice none 0 0]∧lo≤g∧g<hi∧c<g)] [[],[],[],[],[],[2,3,4],[0,1,2,3,4,5],[],[0,1,2,3,4,5,6,7]] 8 (by kernel_rfl) ⟨trivial,trivial,trivial,trivial,trivial,k4_ (fun u lo hi w w' ⟨l,h1,h2,h3⟩ hb=>⟨l,h1.ckF hb h3,h2,h3⟩),k4_ (fun u lo hi w w' ⟨l,h1,h2,h3,h4⟩ hb=>⟨l,h1.chg hb.chg (.inr (by omega)),h2,h3,h4⟩),k4_ (fun u lo hi w w' ⟨g,h1,h2,h3,h4,h5⟩ hb=>⟨g,h1,h2.ck hb (by omega),h3,h4,h5⟩),trivial⟩ ⟨?_,?_,?_,?_,?_,?_,?_,?_,trivial⟩ ?_;iterate 8 (intro x w hb hk Q' hQ;have he:=k_e hk;simp only[k_s]at he;simp only[netE]at hQ⊢;(try simp only[he]at hQ⊢);(try clear he);rotate_left)
  rotate_left
  ·clear hk;go_wp2;exact hQ _ _ (Ck.refl _ _) rfl
  ·clear hk;obtain⟨z0,z1,z2⟩:=c_3 (HK1.out.ck hb hcw);go_wp2;exact hQ (.agg #[.int .i64 q.v,.slice A q.f.length ca,.slice C q.t.length cb]) _ (Ck.refl _ _) rfl
  ·clear hk;go_wp2;exact hQ _ _ (Ck.refl _ _) rfl
  ·clear hk;obtain⟨z0,z1,z2⟩:=c_3 (HK1.out.ck hb hcw);go_wp2;exact hQ (.agg #[.int .i64 q.v,.slice A q.f.length ca,.slice C q.t.length cb]) _ (Ck.refl _ _) rfl
  ·clear hk;go_wp2;exact hQ _ _ (Ck.refl _ _) rfl
  ·clear hk;have hcw9:=(hb.keep HC1.out).ltF;go_wp2_with fail
   refine (a6j c q.v A C _ ca _ cb most _ (hb.keep HC1.out) hV hm).mono ?_;rintro e w7 ⟨v7,l7,rfl,hI7,hP7,hb7⟩;go_wp2;exact hQ _ _ hb7 ⟨l7,hI7,hP7,hcw9⟩
  ·have h5:∃ l,a9_ w (x.lo 5) (x.hi 5) (x.v 5) l∧DmsP q.v l∧c<(x.lo 5):=(hk 5 (by decide)).1;have s5:=(hk 5 (by decide)).2;clear hk;obtain⟨l,hl,hP,_⟩:=h5;obtain⟨z5,hz5⟩:=e_ (x.v 5);rw[hz5]at hl hQ⊢;clear hz5;have hcw9:=(hb.keep HC1.out).ltF;have hd:=hP.dims HIQ.out (by omega) hqt.2;have hqw:x1_ w lo hi (.agg #[.int .i64 q.v,.slice A q.f.length ca,.slice C q.t.length cb]) q:=⟨_,_,rfl,HA1.out.ckF hb hclo,HT1.out.ckF hb hclo,hV⟩;go_wp2_with fail
   refine (Y8_ p _ _ q l _ hp hqw.rd hl.rd hd).mono ?_;rintro e w7 ⟨v7,rfl,hR7,hS7,hb7⟩;go_wp2;exact hQ _ _ (Ck.of_below hb7) ⟨l,hR7,hS7,hd,hcw9⟩
  ·clear hk;have hcw9:=(hb.keep HC1.out).ltF;go_wp2;exact hQ _ _ (Ck.of_below (a2_ _ _)) ⟨_,rfl,Blk.new _ _ _,l_ _,(show w.heap.size<(w.alloc (.cells #[.int .i64 0,.int .i64 0,.slice none 0 0,.slice none 0 0,.slice none 0 0,.slice none 0 0] 29)).heap.size by simp),hcw9⟩
  ·intro x w hb hk hiv hdj;have h5:∃ l,a9_ w (x.lo 5) (x.hi 5) (x.v 5) l∧DmsP q.v l∧c<(x.lo 5):=hk 5 (by decide);have h6:∃ l,RepI w (x.lo 6) (x.hi 6) (x.v 6) (zRep p q l)∧Sep3 (x.v 6)∧d4_ q l=true∧c<(x.lo 6):=hk 6 (by decide);have h7:∃ g,(x.v 7) = .pointer (some ⟨g,0,none⟩)∧Blk w g 29 #[.int .i64 0,.int .i64 0,.slice none 0 0,.slice none 0 0,.slice none 0 0,.slice none 0 0]∧(x.lo 7)≤g∧g<(x.hi 7)∧c<g:=hk 7 (by decide);have he:=k_g hk [0,1,2,3,4];simp only[k_s]at he;simp only[netE,he];clear he hk;obtain⟨g,e7,hG,hg1,hg2,hgc⟩:=h7;obtain⟨l,hR,hS,hd,hcl6⟩:=h6;obtain⟨F1,f1,T1,t1,D1,d1,H1,m1,e6⟩:=hR.rd.form;obtain⟨z6,hz6⟩:=e_ (x.v 6);rw[hz6]at hR hS e6⊢;clear hz6;subst e6;simp only[zRep,r0_]at hR hS⊢;rw[e7];have i6:=hiv 6 (by omega);have i7:=hiv 7 (by omega);have d67:=hdj 6 7 (by omega) (by omega) (by omega);obtain⟨lo6,hlo6⟩:=e_ (x.lo 6);obtain⟨hi6,hhi6⟩:=e_ (x.hi 6);rw[hlo6]at hR i6 d67 hcl6;rw[hhi6]at hR i6 d67;have hsb:=hb.size;have hgx:g<lo6∨hi6≤g:=by omega
   have hlo1:wx.heap.size≤lo6:=i6.1;have hgs:g<w.heap.size:=by omega
   have hms:=f1J hd;obtain⟨ms,hmse⟩:=e_ (zms q l q.f.length);have hml:ms.length=q.f.length:=by rw[←hmse,r0_]
   rw[hmse]at hR hms;obtain⟨M,hM⟩:=e_ (q.f.length);rw[hM]at hml hq6;have hch:=chg6 w g (.int .i64 p) (.int .i64 q.v) (.slice F1 q.f.length f1) (.slice T1 q.t.length t1) (.slice D1 l.length d1) (.slice H1 q.f.length m1);have fr:=hG.frozen;obtain⟨r0,r1,r2,r3,r4,r5⟩:=c_6 hG;have HDL:=h_ (show l.length≤5 by have:=(b7_.1 hd).2.1;omega);rw[hM]at hch⊢;obtain⟨W4,hW4⟩:=e_ ((((((w.setCell ⟨g,0,none⟩ (.int .i64 p)).setCell ⟨g,1,none⟩ (.int .i64 q.v)).setCell ⟨g,2,none⟩ (.slice F1 M f1)).setCell ⟨g,3,none⟩ (.slice T1 q.t.length t1)).setCell ⟨g,4,none⟩ (.slice D1 l.length d1)).setCell ⟨g,5,none⟩ (.slice H1 M m1));rw[hW4]at hch;have hG4:Blk W4 g 29 #[.int .i64 p,.int .i64 q.v,.slice F1 M f1,.slice T1 q.t.length t1,.slice D1 l.length d1,.slice H1 M m1]:=by
    rw[←hW4];exact ((((((hG.set_ 0 _).set_ 1 _).set_ 2 _).set_ 3 _).set_ 4 _).set_ 5 _)
   have hs4:=hch.size;rw[hM]at hR;have hR4:=(hR.chg hch (by omega)).wider (l_ _) (by omega:hi6≤W4.heap.size);have hB4:=((HB1.out.trans hb).lowF (lo:=w0.heap.size) (hch.below (by omega) (by omega)) (l_ _) (by omega));have hC4:=(hb.keep HC1.out).belowF (hch.below (l_ g) (Nat.le_of_lt hgs)) hgc;have hK4:=(HK2.out.ck hb hcw1).chg hch (.inl (by omega));have HG4:=h_ hG4;have HR4:=h_ hR4;have HB4:=h_ hB4;have HC4:=h_ hC4;have HK4:=h_ hK4;have HMS:=h_ (And.intro hml hms);have HSS:=h_ hS;have hg4:g<W4.heap.size:=by omega
   have hlo60:w0.heap.size+1<lo6:=by omega
   clear hG4 hR4 hB4 hC4 hK4 hch hR hS hd hiv hdj i6 i7 d67 hb hG hmse hml hms hlo6 hhi6 e7;obtain⟨tn,htn⟩:=e_ (q.t.length);obtain⟨dn,hdn⟩:=e_ (l.length);rw[htn,hdn]at hW4 HG4 HR4 HSS⊢;rw[hM]at HSS;clear hM htn hdn;go_wp2;clear hW4 r0 r1 r2 r3 r4 r5 fr;go_loopw [10] (fun iv wr=>∃ (i:Nat) (ms:List Mx),i≤M∧iv = .int .i64 i∧ms.length=M∧MsOk ms∧g<wr.heap.size∧RepI wr lo6 wr.heap.size (.agg #[.int .i64 p,.int .i64 q.v,.slice F1 M f1,.slice T1 tn t1,.slice D1 dn d1,.slice H1 M m1]) ⟨p,q,l,ms⟩∧Blk wr g 29 #[.int .i64 p,.int .i64 q.v,.slice F1 M f1,.slice T1 tn t1,.slice D1 dn d1,.slice H1 M m1]∧Blk wr (w0.heap.size+1) 29 #[.int .i64 0,.int .i64 0,.slice none 0 0,.slice none 0 0,.slice none 0 0,.slice none 0 0]∧Cur wr c∧Ck c w0 wr) (fun iv _=>M-(intOf iv).toNat)
   case atStart=>exact⟨0,ms,l0_ _,rfl,HMS.out.1,HMS.out.2,hg4,HR4.out,HG4.out,HK4.out,HC4.out,HB4.out⟩
   case round =>
    clear HR4 HG4 HK4 HC4 HB4 HMS hg4;obtain⟨i,ms2,hi2,rfl,hml,hms,hgr,hR,hG,hK,hC,hB⟩:=hrel;have HR:=h_ hR;have HG:=h_ hG;have HK:=h_ hK;have HC:=h_ hC;have HB:=h_ hB;have HML:=h_ hml;have HMS:=h_ hms;have q5:=hG.cell' (i:=5) rfl;have hgc2:g≠c:=by omega
    clear hR hG hK hC hB;by_cases hlt:i<M
    ·obtain⟨y,hy⟩:∃ y,ms2[i]?=some y:=⟨_,l2_ (by omega)⟩;obtain⟨R,Q,hyr,hyc,hR4,hQ4⟩:=hms y (l4_ hy);obtain⟨gH,cH,sH,eH,hgH1,hgH2,z0,z1,z2,_,hfz⟩:=HR.out.mxAt hy;simp only[Value.slice.injEq]at eH;obtain⟨rfl,hMM,rfl⟩:=eH;clear hMM;rw[hyr]at z0;rw[hyc]at z1;have HY:=h_ hy;have Z0:=h_ z0;have Z1:=h_ z1;have hgHc:gH≠c:=by omega
     clear hy hyr hyc z0 z1 z2 hfz hms hml;go_wp2;clear q5;refine o6_ (c) (by kernel_rfl) [.eq (.pointer (some ⟨g,5,none⟩)),.eq (.slice (some ⟨gH,0,none⟩) M m1),.eq (.int .i64 i),.eq (.pointer (some ⟨c,0,none⟩)),.eq (.int .i64 p),.eq (.pointer (some ⟨g,5,none⟩)),.eq (.slice (some ⟨gH,0,none⟩) M m1),.eq (.int .i64 i),.eq (.pointer (some ⟨gH,i*3,none⟩)),.eq (.pointer (some ⟨gH,i*3,none⟩)),.eq (.int .i64 (R:Int)),.eq (.pointer (some ⟨g,5,none⟩)),.eq (.slice (some ⟨gH,0,none⟩) M m1),.eq (.int .i64 i),.eq (.pointer (some ⟨gH,i*3,none⟩)),.eq (.pointer (some ⟨gH,i*3+1,none⟩)),.eq (.int .i64 (Q:Int)),rel 17 (fun u lo hi w=>∃ l7,MxO w lo hi u ⟨(R:Int),(Q:Int),l7⟩∧c<lo),.eq (.pointer (some ⟨gH,i*3,none⟩))] [[],[0],[],[],[],[],[5],[],[5,6,7],[5,6,7,8],[5,6,7,8,9],[],[11],[],[11,12,13],[11,12,13,14],[11,12,13,14,15],[3,4,5,6,7,8,9,10,11,12,13,14,15,16],[0,1,2,3,4,5,6,7,8,9,10,11,12,13,14,15,16,17],[0,1,2,3,4,5,6,7,8,9,10,11,12,13,14,15,16,17,18]] 19 (by kernel_rfl) ⟨trivial,trivial,trivial,trivial,trivial,trivial,trivial,trivial,trivial,trivial,trivial,trivial,trivial,trivial,trivial,trivial,trivial,k4_ (fun u lo hi w w' ⟨l7,h1,h2⟩ hb=>⟨l7,h1.chg hb.chg (.inr (by omega)),h2⟩),trivial,trivial⟩ ⟨?_,?_,?_,?_,?_,?_,?_,?_,?_,?_,?_,?_,?_,?_,?_,?_,?_,?_,?_,trivial⟩ ?_;iterate 19 (intro x w hb hk Q' hQ;have he:=k_e hk;simp only[k_s]at he;simp only[netE]at hQ⊢;(try simp only[he]at hQ⊢);(try clear he);rotate_left)
     rotate_left
     ·clear hk;go_wp2;exact hQ _ _ (Ck.refl _ _) rfl
     ·clear hk;have z:=(HG.out.ck hb hgc2).cell' (i:=5) rfl;go_wp2;exact hQ (.slice (some ⟨gH,0,none⟩) M m1) _ (Ck.refl _ _) rfl
     iterate 4 (· clear hk;go_wp2;exact hQ _ _ (Ck.refl _ _) rfl)
     ·clear hk;have z:=(HG.out.ck hb hgc2).cell' (i:=5) rfl;go_wp2;exact hQ (.slice (some ⟨gH,0,none⟩) M m1) _ (Ck.refl _ _) rfl
     iterate 3 (· clear hk;go_wp2;exact hQ _ _ (Ck.refl _ _) rfl)
     ·clear hk;have z:=hb.cell hgH2 hgHc Z0.out;go_wp2;exact hQ (.int .i64 (R:Int)) _ (Ck.refl _ _) rfl
     ·clear hk;go_wp2;exact hQ _ _ (Ck.refl _ _) rfl
     ·clear hk;have z:=(HG.out.ck hb hgc2).cell' (i:=5) rfl;go_wp2;exact hQ (.slice (some ⟨gH,0,none⟩) M m1) _ (Ck.refl _ _) rfl
     iterate 3 (· clear hk;go_wp2;exact hQ _ _ (Ck.refl _ _) rfl)
     ·clear hk;have z:=hb.cell hgH2 hgHc Z1.out;go_wp2;exact hQ (.int .i64 (Q:Int)) _ (Ck.refl _ _) rfl
     ·clear hk;have hcw9:=(hb.keep HC.out).ltF;go_wp2_with fail
      refine (U6_ c p R Q _ (hb.keep HC.out) hp (by omega) (by omega)).mono ?_;rintro e w7 ⟨v7,l7,rfl,hM7,_,_,hb7⟩;go_wp2;exact hQ _ _ hb7 ⟨l7,hM7.wider (Nat.le_succ _) (l_ _),hcw9⟩
     ·clear hk;go_wp2;exact hQ _ _ (Ck.refl _ _) rfl
     ·intro x w hb hk hiv hdj;have h17:∃ l7,MxO w (x.lo 17) (x.hi 17) (x.v 17) ⟨(R:Int),(Q:Int),l7⟩∧c<(x.lo 17):=hk 17 (by decide);have he:=k_g hk [0,1,2,3,4,5,6,7,8,9,10,11,12,13,14,15,16,18];simp only[k_s]at he;simp only[netE,he];clear he hk;obtain⟨l7,hM7,_⟩:=h17;obtain⟨AM,am,e17⟩:=hM7.form;simp only at e17;obtain⟨ml,hml7⟩:=e_ (l7.length);rw[hml7]at e17;rw[e17]at hM7⊢;have i17:=hiv 17 (by omega);have hOw:=HR.out.chg hb.chg (.inr (by omega));have hml2:=HML.out;have hsb:=hb.size;have hset:=RepI.setMx hOw (j:=i) (by show i<ms2.length;omega) hM7 i17.1 i17.2.1;obtain⟨W14,hW14⟩:=e_ (set3 w gH (i*3) (.int .i64 (R:Int)) (.int .i64 (Q:Int)) (.slice AM ml am));rw[hW14]at hset;have hch3:Chg gH (gH+1) w W14:=by rw[←hW14];exact q1_ _ _ _ _ _ _
      have hs14:W14.heap.size=w.heap.size:=by rw[←hW14];simp
      have hgHg:gH≠g:=by
       obtain⟨cs,hbk,_⟩:=HR.out.blk;exact a8x hbk HG.out (by decide)
      have HREP:=h_ (hset.1.wider (l_ _) (by omega:x.hi 17≤W14.heap.size));have hlow:=hch3.below (B:=lo6) hgH1 (by omega);have HG14:=h_ ((HG.out.ck hb hgc2).chg hch3 (by omega));have HK14:=h_ ((HK.out.ck hb hcw1).chg hch3 (.inl (by omega)));have HC14:=h_ ((hb.keep HC.out).belowF hlow hcl6);have HB14:=h_ ((HB.out.trans hb).lowF hlow (by omega) hcl6);have hg14:g<W14.heap.size:=by omega
      have HMS2:=h_ (show (ms2.set i ⟨(R:Int),(Q:Int),l7⟩).length=M by rw[List.length_set];exact hml2);have HMO:=h_ (HMS.out.set i l7 hR4 hQ4);obtain⟨g0',c0',s0',e0',_,_,z0,z1,z2,_,zf⟩:=hOw.mxAt HY.out;simp only[Value.slice.injEq,Option.some.injEq,Addr.mk.injEq,and_true,true_and]at e0';obtain⟨eg1,eg3,eg2⟩:=e0';clear eg3;subst eg1;subst eg2;replace z0:∃ u,w.cell? ⟨gH,i*3,none⟩=some u:=⟨_,z0⟩;replace z1:∃ u,w.cell? ⟨gH,i*3+1,none⟩=some u:=⟨_,z1⟩;replace z2:∃ u,w.cell? ⟨gH,i*3+2,none⟩=some u:=⟨_,z2⟩;obtain⟨u0,z0⟩:=z0;obtain⟨u1,z1⟩:=z1;obtain⟨u2,z2⟩:=z2;clear hset hch3 hs14 hOw hiv hdj e17 i17 hM7 hml7 hml2 hlow;go_wp2;clear hW14 z0 z1 z2 zf;go_roundw
      case rel=>exact⟨i+1,_,by omega,by go_num,HMS2.out,HMO.out,hg14,HREP.out,HG14.out,HK14.out,HC14.out,HB14.out⟩
      case measure=>simp[intOf];omega
    ·obtain rfl:i=M:=by omega
     clear q5;have kz:=HK.out;have fr:=kz.frozen;obtain⟨s0,s1,s2,s3,s4,s5⟩:=c_6 kz;obtain⟨r0,r1,r2,r3,r4,r5⟩:=c_6 HG.out;have hc6:=chg6 wr (w0.heap.size+1) (.int .i64 p) (.int .i64 q.v) (.slice F1 i f1) (.slice T1 tn t1) (.slice D1 dn d1) (.slice H1 i m1);have OF:=h_ (HR.out.chg hc6 (.inr (by omega)));have hsr:=HB.out.size;have GS:=h_ (HB.out.lowF (lo:=w0.heap.size) (hc6.below (by omega) (by omega)) (l_ _) (by omega));have hll:lo≤lo6:=by omega
     clear kz hc6 hms hml;go_wp2;refine bodyPost_ret (v:=.agg #[.int .i64 p,.int .i64 q.v,.slice F1 i f1,.slice T1 tn t1,.slice D1 dn d1,.slice H1 i m1]) (by simp[results,go_sem,s0,s1,s2,s3,s4,s5]) rfl ?_;unfold OfP;try simp only[World.size_setCell]
     have OF':=OF.out;try simp only[World.size_setCell]at OF'
     exact⟨_,⟨p,q,l,ms2⟩,lo6,rfl,OF',HSS.out,HDL.out,hll,GS.out⟩
def RepL (w:World) (lo hi:Nat) (v:Value) (x:Rp):Prop:=∃ f t d m vs,v = .agg #[.int .i64 x.p,.int .i64 x.q.v,f,t,d,m]∧a9_ w lo hi f x.q.f∧a9_ w lo hi t x.q.t∧a9_ w lo hi d x.d∧OutM w lo hi m vs x.m∧vs.length=x.m.length∧(∀ p∈vs.zip (x.m.map Mx.a),a9_ w lo hi p.1 p.2)∧(I64 x.p∧I64 x.q.v)∧∀ m∈x.m,I64 m.r∧I64 m.c
theorem RepL.rd {w:World} {lo hi:Nat} {v:Value} {x:Rp} (h:RepL w lo hi v x):RpR w w.heap.size v x:=by
 obtain⟨f,t,d,m,vs,e,h1,h2,h3,h4,h5,h6,h7,h8⟩:=h;exact⟨f,t,d,m,e,h1.rd,h2.rd,h3.rd,OutM.rd h4 h5 (fun p hp=>(h6 p hp).rd) h8,h7⟩
theorem RepL.chg {w w':World} {lo hi lo' hi':Nat} {v:Value} {x:Rp} (h:RepL w lo hi v x) (hc:Chg lo' hi' w w') (hd:hi≤lo'∨hi'≤lo):RepL w' lo hi v x:=by
 obtain⟨f,t,d,m,vs,e,h1,h2,h3,h4,h5,h6,h7,h8⟩:=h;exact⟨f,t,d,m,vs,e,h1.chg hc hd,h2.chg hc hd,h3.chg hc hd,h4.chg hc hd,h5,fun p hp=>(h6 p hp).chg hc hd,h7,h8⟩
theorem RepL.wider {w:World} {lo hi lo' hi':Nat} {v:Value} {x:Rp} (h:RepL w lo hi v x) (k1:lo'≤lo) (k2:hi≤hi'):RepL w lo' hi' v x:=by
 obtain⟨f,t,d,m,vs,e,h1,h2,h3,h4,h5,h6,h7,h8⟩:=h;exact⟨f,t,d,m,vs,e,h1.wider k1 k2,h2.wider k1 k2,h3.wider k1 k2,h4.mono k1 k2,h5,fun p hp=>(h6 p hp).wider k1 k2,h7,h8⟩
theorem RepI.toL {w:World} {lo hi:Nat} {v:Value} {x:Rp} (h:RepI w lo hi v x):RepL w lo hi v x:=by
 obtain⟨f,t,d,m,vs,mi,e,h1,h2,h3,h4,h5,h6,h9,h7,h8⟩:=h;exact⟨f,t,d,m,vs,e,h1.wider (l_ _) h9.2,h2.wider (l_ _) h9.2,h3.wider (l_ _) h9.2,h4,h5,fun p hp=>(h6.1 p hp).wider h9.1 (l_ _),h7,h8⟩
theorem RepI.dim {w:World} {lo hi:Nat} {p v f t d m:Value} {x:Rp} (h:RepI w lo hi (.agg #[p,v,f,t,d,m]) x):a9_ w lo hi d x.d:=by
 obtain⟨f',t',d',m',vs,mi,e,h1,h2,h3,h4,h5,h6,h9,h7,h8⟩:=h;simp only[Value.agg.injEq,Array.mk.injEq,List.cons.injEq,and_true]at e;obtain⟨_,_,rfl,rfl,rfl,rfl⟩:=e;exact h3.wider (l_ _) h9.2
def AnyP (c:Nat) (w0:World) (e:Ending) (w':World):Prop:=∃ (v:Value) (x:Rp),e = .returned v∧RepL w' (w0.heap.size+1) w'.heap.size v x∧Ck c w0 w'
theorem RepO.toL {w:World} {lo hi:Nat} {v:Value} {x:Rp} (h:RepO w lo hi v x):RepL w lo hi v x:=by
 obtain⟨f,t,d,m,vs,e,h1,h2,h3,h4,h5⟩:=h;exact⟨f,t,d,m,vs,e,h3.1 (f,x.q.f) (by simp),h3.1 (t,x.q.t) (by simp),h3.1 (d,x.d) (by simp),h1,h2,fun p hp=>h3.1 p (by simp only[List.cons_append,List.nil_append,List.mem_cons];exact .inr (.inr (.inr hp))),h4,h5⟩
theorem RepL.below {w w':World} {lo hi:Nat} {v:Value} {x:Rp} (h:RepL w lo hi v x) (hb:Below w.heap.size w w'):RepL w' lo hi v x:=by
 obtain⟨f,t,d,m,vs,e,h1,h2,h3,h4,h5,h6,h7,h8⟩:=h;exact⟨f,t,d,m,vs,e,h1.below hb,h2.below hb,h3.below hb,h4.below hb,h5,fun p hp=>(h6 p hp).below hb,h7,h8⟩
theorem QB.noYR {w:World} {d o:Nat} {x:Int} (h:QB w d) (hc:w.cell? ⟨d,o,none⟩=some (.int .u8 x)):False:=by
 obtain⟨P,V,A,nf,a,C,nt,cc,E,nd,ee,H,nm,h,hB⟩:=h
 match o,hc with
 | 0,hc=>rw[hB.cell' (i:=0) rfl]at hc;simp at hc
 | 1,hc=>rw[hB.cell' (i:=1) rfl]at hc;simp at hc
 | 2,hc=>rw[hB.cell' (i:=2) rfl]at hc;simp at hc
 | 3,hc=>rw[hB.cell' (i:=3) rfl]at hc;simp at hc
 | 4,hc=>rw[hB.cell' (i:=4) rfl]at hc;simp at hc
 | 5,hc=>rw[hB.cell' (i:=5) rfl]at hc;simp at hc
 | o+6,hc =>
  unfold Blk at hB;simp[World.cell?,hB]at hc
theorem Cd.storeR {c d:Nat} {w:World} {P V:Int} {A C E H:Option Addr} {nf a nt cc nd ee nm h:Nat} (hdc:d≠c) (hE:QB w d) :
  Cd c d #[.int .i64 P,.int .i64 V,.slice A nf a,.slice C nt cc,.slice E nd ee,.slice H nm h] w ((((((w.setCell ⟨d,0,none⟩ (.int .i64 P)).setCell ⟨d,1,none⟩ (.int .i64 V)).setCell ⟨d,2,none⟩ (.slice A nf a)).setCell ⟨d,3,none⟩ (.slice C nt cc)).setCell ⟨d,4,none⟩ (.slice E nd ee)).setCell ⟨d,5,none⟩ (.slice H nm h))∧Blk ((((((w.setCell ⟨d,0,none⟩ (.int .i64 P)).setCell ⟨d,1,none⟩ (.int .i64 V)).setCell ⟨d,2,none⟩ (.slice A nf a)).setCell ⟨d,3,none⟩ (.slice C nt cc)).setCell ⟨d,4,none⟩ (.slice E nd ee)).setCell ⟨d,5,none⟩ (.slice H nm h)) d 29 #[.int .i64 P,.int .i64 V,.slice A nf a,.slice C nt cc,.slice E nd ee,.slice H nm h]:=by
 obtain⟨W',hW'⟩:=e_ ((((((w.setCell ⟨d,0,none⟩ (.int .i64 P)).setCell ⟨d,1,none⟩ (.int .i64 V)).setCell ⟨d,2,none⟩ (.slice A nf a)).setCell ⟨d,3,none⟩ (.slice C nt cc)).setCell ⟨d,4,none⟩ (.slice E nd ee)).setCell ⟨d,5,none⟩ (.slice H nm h));rw[hW'];have h3:Blk W' d 29 #[.int .i64 P,.int .i64 V,.slice A nf a,.slice C nt cc,.slice E nd ee,.slice H nm h]:=by
  obtain⟨P',V',A',nf',a',C',nt',cc',E',nd',ee',H',nm',h',hB⟩:=hE;rw[←hW'];exact ((((((hB.set_ 0 _).set_ 1 _).set_ 2 _).set_ 3 _).set_ 4 _).set_ 5 _)
 have hc:Chg d (d+1) w W':=by rw[←hW'];exact chg6 w d _ _ _ _ _ _
 clear hW';refine⟨⟨hc.os,hc.tape,hc.output,hc.size,fun k hk hn=>hc.block k hk (by omega),?_,fun _=>h3,fun _=>⟨P,V,A,nf,a,C,nt,cc,E,nd,ee,H,nm,h,h3⟩⟩,h3⟩;rintro⟨X,cc',i,h',l,hB',h1,h2,hy⟩;refine⟨X,cc',i,h',l,(hc.block c hB'.lt (by omega)).trans hB',h1,h2,?_⟩;refine SlG.mono (B:=c) (B':=c) (fun b o x hlt hx=>?_) (l_ _) hy;have hbd:b≠d:=fun hbd=>by
  subst hbd;exact hE.noYR hx.1
 exact⟨(World.cell?_of_block (w:=w) (hc.block b (by have:=hB'.lt;omega) (by omega))).trans hx.1,hx.2⟩
theorem Z0_ (c:Nat) (w0:World) (hc:Cur w0 c) :
  Calls Tryz.prog 72 #[.pointer (some ⟨c,0,none⟩)] w0 fun e w'=>AnyP c w0 e w':=by
 have hcl:=hc.ltF;obtain⟨W,hW⟩:∃ W,W=w0.alloc (.cells #[.int .i64 0,.int .i64 0,.slice none 0 0,.slice none 0 0,.slice none 0 0,.slice none 0 0] 29):=⟨_,rfl⟩;have g0:Ck c w0 W:=by rw[hW];exact Ck.of_below (a2_ _ _)
 have kR:Blk W w0.heap.size 29 #[.int .i64 0,.int .i64 0,.slice none 0 0,.slice none 0 0,.slice none 0 0,.slice none 0 0]:=by rw[hW];exact Blk.new _ _ _
 have sW:W.heap.size=w0.heap.size+1:=by rw[hW];simp
 have hcw:w0.heap.size≠c:=by omega
 have KR:=h_ kR;have G0:=h_ g0;have HC:=h_ (g0.keep hc);clear kR hc g0;go_enter Tryz.func72,Tryz.ntmps72
 go_wp2_with fail
 rw[←hW];clear hW;refine (Z2_ c _ HC.out).mono ?_;rintro e w1 ⟨p,rfl,hp0,hb1⟩;have hp:I64 p:=by rcases hp0 with rfl | rfl <;> exact⟨by omega,by omega⟩
 have HC1:=h_ (hb1.keep HC.out);have HB1:=h_ hb1;have hs1:=hb1.size;clear hb1 HC hp0;go_wp2_with fail
 refine (P9_ c _ HC1.out).mono ?_;rintro e w2 ⟨v2,q,rfl,hq,_,_,hb2⟩;have hcl1:=HC1.out.ltF;have hs2:=hb2.size;have HC2:=h_ (hb2.keep HC1.out);have HB2:=h_ (HB1.out.trans hb2);obtain⟨av,bv,rfl,hF,hV⟩:=hq;have ha:=hF.1 (av,q.f) (by simp);have hb:=hF.1 (bv,q.t) (by simp);simp only at ha hb;obtain⟨A,ca,rfl⟩:=ha.form;obtain⟨C,cb,rfl⟩:=hb.form;clear hF hb2 HC1 HB1;obtain⟨W3,hW3,ga,gq,hgq,kq⟩:=b_2 w2 #[.int .i64 q.v,.slice A q.f.length ca,.slice C q.t.length cb] 26;have hs3:W3.heap.size=gq+1:=by rw[←hW3,←hgq];simp
 have HQI:=h_ (show x1_ W3 w1.heap.size w2.heap.size (.agg #[.int .i64 q.v,.slice A q.f.length ca,.slice C q.t.length cb]) q from ⟨_,_,rfl,ha.below ga,hb.below ga,hV⟩);have HC3:=h_ ((Ck.of_below (c:=c) ga).keep HC2.out);have HB3:=h_ (HB2.out.trans (Ck.of_below ga));obtain⟨z0,z1,z2⟩:=c_3 kq;clear ha hb ga kq HC2 HB2;go_wp2_with fail
 try rw[hW3]
 try rw[hgq]
 clear hW3 z0 z1 z2;refine (c2X c p _ q 2 w1.heap.size w2.heap.size W3 HC3.out hp HQI.out hcl1 (by omega) hs2 (by omega)).mono ?_;intro e w4 hOf;unfold OfP at hOf;obtain⟨v4,⟨P,⟨V,F,T⟩,D,M⟩,lo1,rfl,hR,hS,hD5,hlo1,hb4⟩:=hOf;obtain⟨A,a,C,cc,E,ee,H,h,rfl⟩:=hR.rd.form;simp only at hR hS hD5⊢;obtain⟨nf,hnf⟩:=e_ (F.length);obtain⟨nt,hnt⟩:=e_ (T.length);obtain⟨nd,hnd⟩:=e_ (D.length);obtain⟨nm,hnm⟩:=e_ (M.length);rw[hnf,hnt,hnd,hnm]at hR hS⊢;clear hnf hnt hnd hnm;have hs4:=hb4.size;have HBF:=h_ (HB3.out.trans hb4);have HRF:=h_ (hR.toL);have hlo2:lo1≤w4.heap.size:=by
  obtain⟨_,_,_,_,_,mi,_,_,_,_,_,_,_,hmi,_⟩:=hR;omega
 clear hR hS hb4 HB3 HC3 HQI;have kz:=KR.out.ck HBF.out hcw;have fr:=kz.frozen;obtain⟨s0,s1,s2,s3,s4,s5⟩:=c_6 kz;have hc6:=chg6 w4 w0.heap.size (.int .i64 P) (.int .i64 V) (.slice A nf a) (.slice C nt cc) (.slice E nd ee) (.slice H nm h);have hsr:=HBF.out.size;have OF:=h_ ((HRF.out.chg hc6 (.inr (by omega))).wider (by omega:w0.heap.size+1≤lo1) hc6.size);have GS:=h_ ((G0.out.trans HBF.out).lowF (lo:=w0.heap.size) (hc6.below (l_ _) (by omega)) (l_ _) hcl);clear kz hc6;go_wp2;refine bodyPost_ret (v:=.agg #[.int .i64 P,.int .i64 V,.slice A nf a,.slice C nt cc,.slice E nd ee,.slice H nm h]) (by simp[results,go_sem,s0,s1,s2,s3,s4,s5]) rfl ?_;unfold AnyP;exact⟨_,⟨P,⟨V,F,T⟩,D,M⟩,rfl,OF.out,GS.out⟩
def PatV (w0:World) (e:Ending) (w':World):Prop:=∃ (v:Value) (x:Rp) (i:Int),e = .returned (.tuple #[v,.int .i64 i])∧RepL w' w0.heap.size w'.heap.size v x∧I64 i∧Below w0.heap.size w0 w'
theorem M2_ (u:Value) (q:Qv) (w:World) (hu:QvR w w.heap.size u q) (hq:isQ q=true) :
  Calls Tryz.prog 70 #[u] w fun e w'=>∃ v,e = .returned v∧OwnI w' (w.heap.size+1) v (b2_ q.t q.v.toNat)∧Below w.heap.size w w':=by
 have hu':=hu;obtain⟨A,c,C,d,rfl,hf,hT,hr,lf,lt⟩:=hu.open_;clear hu;obtain⟨hv1,hv2⟩:=(g4_.1 hq).1;have HQ:=h_ hq;obtain⟨V,hV⟩:∃ V:Nat,q.v=(V:Int):=⟨q.v.toNat,by omega⟩;have HV:=h_ hV;rw[show q.v.toNat=V by omega];have hV5:V≤5:=by omega
 obtain⟨W,hW⟩:∃ W,W=(w.alloc (.cells #[.int .i64 q.v,.slice A q.f.length c,.slice C q.t.length d] 26)).alloc (.cells #[] 3):=⟨_,rfl⟩;have g0:Below w.heap.size w W:=by rw[hW];exact ((Below.refl _ _).alloc (l_ _) _).alloc (by simp) _
 have kB:Blk W w.heap.size 26 #[.int .i64 q.v,.slice A q.f.length c,.slice C q.t.length d]:=by rw[hW];exact (Blk.new _ _ _).alloc _
 have ho:OwnI W (w.heap.size+1) (.slice (some ⟨w.heap.size+1,0,none⟩) 0 0) []:=by
  rw[hW];have:=OwnI.made (w:=w.alloc (.cells #[.int .i64 q.v,.slice A q.f.length c,.slice C q.t.length d] 26)) (base:=w.heap.size+1) 3 rfl (by simp);simpa only[l3_] using this
 have sz:W.heap.size=w.heap.size+1+1:=by rw[hW];simp
 have HU:=h_ hu';have HX:=h_ hT;have SZ:=h_ sz;clear hu' hq sz hV;go_enter Tryz.func70,Tryz.ntmps70
 go_wp2;rw[←hW];clear hW;go_loopw [3,4] (fun out i wr=>∃ k:Nat,k≤V∧i = .int .i64 k∧OwnI wr (w.heap.size+1) out (b2_ q.t k)∧Below w.heap.size w wr∧Below (w.heap.size+1) W wr∧W.heap.size≤wr.heap.size) (fun _ i _=>V-(intOf i).toNat)
 case atStart=>exact⟨0,l0_ _,rfl,ho,g0,Below.refl _ _,l_ _⟩
 case round =>
  clear ho;obtain⟨k,hk,rfl,ho,hb,hbW,hs⟩:=hrel;have sz:=SZ.out;have kR:=kB.below hbW (by omega);obtain⟨c0,c1,c2⟩:=c_3 kR;clear sz;by_cases hlt:(k:Int)<q.v
  ·have HL:=h_ hlt;obtain⟨OA,oc,rfl,_,_⟩:=ho.form;go_wp2_with fail
   refine (c0_ _ q _ (QvR.more hb.size (QvR.below hb HU.out))).mono ?_;rintro e w1 ⟨rfl,hb1⟩;rw[HQ.out];have ho1:=ho.below hb1;have kR1:=kR.call hb1;have hbA:=hb.trans (hb1.mono hb.size);have s1:=hb1.size;have hx1:=SlI.more hbA.size (SlI.below hbA HX.out);obtain⟨c0,c1,c2⟩:=c_3 kR1;clear ho kR;go_wp2_with fail
   refine (i6_ _ _ _ _ hx1).mono ?_;rintro e w2 ⟨rfl,hb2⟩;have ho2:=ho1.below hb2;have hbB:=hbA.trans (hb2.mono hbA.size);have hbW2:=hbW.trans ((hb1.mono (by have:=SZ.out;omega)).trans (hb2.mono (by have:=SZ.out;omega)));have s2:=hb2.size;have sB:=hbB.size;rcases hd:decide ((k:Int)∈q.t) with _ | _
   ·have HN:=h_ (n7_ hd);clear hd ho1 hx1 c0 c1 c2 kR1 hbA hb1 hb2;have HO2:=h_ ho2;have HW2:=h_ hbW2;have HB:=h_ hbB;have hlo2:=ho2.lt;clear ho2 hbW2 hbB
    (go_wp2_with (at_builtin;refine Hold.stop ?_));unfold Hold
    obtain⟨X,hX⟩:∃ X,X=w2.alloc (.cells #[.int .i64 (k:Int)] 3):=⟨_,rfl⟩;have gn:Below w2.heap.size w2 X:=by rw[hX];exact a2_ _ _
    have h1x:SlI X X.heap.size (.slice (some ⟨w2.heap.size,0,none⟩) 1 1) [(k:Int)]:=by rw[hX];exact SlI.one _ _ _ (by simp only[I64];omega)
    have ho3:=(HO2.out).below gn;have gns:=gn.size;rw[←hX];clear hX;have hfl:=d7_ q.t k;refine c3_ rfl (.tmp 21) (.tmp 23) rfl (w.heap.size+1) X.heap.size _ _ rfl ho3 _ 1 1 [(k:Int)] rfl rfl h1x (by simp;omega) (by have:=SZ.out;omega) ?_;intro v' w' h1 h2 h3;rw[←HN.out]at h1;have hbX:=b9_ h2 (B:=w.heap.size+1) (fun k hk=>(hlo2 k hk).1) (by have:=SZ.out;omega);have H1:=h_ h1;have G1:=h_ ((HB.out).trans ((gn.mono sB).trans (hbX.mono (by omega))));have G2:=h_ ((HW2.out).trans ((gn.mono (by have:=SZ.out;omega)).trans hbX));have s4:=hbX.size;clear h1 h2 h3 hbX hlo2 h1x ho3 gn;go_wp2;go_roundw
    case rel=>exact⟨k+1,by have:=HV.out;have:=HL.out;omega,by go_num,H1.out,G1.out,G2.out,by omega⟩
    case measure=>simp[intOf];have:=HV.out;have:=HL.out;omega
   ·have HN:=h_ (q5_ hd);have HO2:=h_ (show OwnI w2 (w.heap.size+1) _ (b2_ q.t (k+1)) by rw[HN.out];exact ho2);have HW2:=h_ hbW2;have HB:=h_ hbB;clear hd ho1 hx1 c0 c1 c2 kR1 hbA hb1 hb2 ho2 hbW2 hbB;go_wp2;go_roundw
    case rel=>exact⟨k+1,by have:=HV.out;have:=HL.out;omega,by go_num,HO2.out,HB.out,HW2.out,by omega⟩
    case measure=>simp[intOf];have:=HV.out;have:=HL.out;omega
  ·have hkV:k=V:=by have:=HV.out;omega
   subst hkV;have HO:=h_ ho;have HB:=h_ hb;clear ho hb;go_wp2;go_ret
   exact⟨_,rfl,HO.out,HB.out⟩
theorem V9_ (u:Value) (q:Qv) (w:World) (hu:QvR w w.heap.size u q) (hq:isQ q=true) :
  Calls Tryz.prog 65 #[u] w fun e w'=>∃ v,e = .returned v∧OwnI w' (w.heap.size+1) v (b2_ q.f q.v.toNat)∧Below w.heap.size w w':=by
 have hu':=hu;obtain⟨A,c,C,d,rfl,hf,hT,hr,lf,lt⟩:=hu.open_;clear hu;obtain⟨hv1,hv2⟩:=(g4_.1 hq).1;have HQ:=h_ hq;obtain⟨V,hV⟩:∃ V:Nat,q.v=(V:Int):=⟨q.v.toNat,by omega⟩;have HV:=h_ hV;rw[show q.v.toNat=V by omega];have hV5:V≤5:=by omega
 obtain⟨W,hW⟩:∃ W,W=(w.alloc (.cells #[.int .i64 q.v,.slice A q.f.length c,.slice C q.t.length d] 26)).alloc (.cells #[] 3):=⟨_,rfl⟩;have g0:Below w.heap.size w W:=by rw[hW];exact ((Below.refl _ _).alloc (l_ _) _).alloc (by simp) _
 have kB:Blk W w.heap.size 26 #[.int .i64 q.v,.slice A q.f.length c,.slice C q.t.length d]:=by rw[hW];exact (Blk.new _ _ _).alloc _
 have ho:OwnI W (w.heap.size+1) (.slice (some ⟨w.heap.size+1,0,none⟩) 0 0) []:=by
  rw[hW];have:=OwnI.made (w:=w.alloc (.cells #[.int .i64 q.v,.slice A q.f.length c,.slice C q.t.length d] 26)) (base:=w.heap.size+1) 3 rfl (by simp);simpa only[l3_] using this
 have sz:W.heap.size=w.heap.size+1+1:=by rw[hW];simp
 have HU:=h_ hu';have HX:=h_ hf;have SZ:=h_ sz;clear hu' hq sz hV;go_enter Tryz.func65,Tryz.ntmps65
 go_wp2;rw[←hW];clear hW;go_loopw [3,4] (fun out i wr=>∃ k:Nat,k≤V∧i = .int .i64 k∧OwnI wr (w.heap.size+1) out (b2_ q.f k)∧Below w.heap.size w wr∧Below (w.heap.size+1) W wr∧W.heap.size≤wr.heap.size) (fun _ i _=>V-(intOf i).toNat)
 case atStart=>exact⟨0,l0_ _,rfl,ho,g0,Below.refl _ _,l_ _⟩
 case round =>
  clear ho;obtain⟨k,hk,rfl,ho,hb,hbW,hs⟩:=hrel;have sz:=SZ.out;have kR:=kB.below hbW (by omega);obtain⟨c0,c1,c2⟩:=c_3 kR;clear sz;by_cases hlt:(k:Int)<q.v
  ·have HL:=h_ hlt;obtain⟨OA,oc,rfl,_,_⟩:=ho.form;go_wp2_with fail
   refine (c0_ _ q _ (QvR.more hb.size (QvR.below hb HU.out))).mono ?_;rintro e w1 ⟨rfl,hb1⟩;rw[HQ.out];have ho1:=ho.below hb1;have kR1:=kR.call hb1;have hbA:=hb.trans (hb1.mono hb.size);have s1:=hb1.size;have hx1:=SlI.more hbA.size (SlI.below hbA HX.out);obtain⟨c0,c1,c2⟩:=c_3 kR1;clear ho kR;go_wp2_with fail
   refine (i6_ _ _ _ _ hx1).mono ?_;rintro e w2 ⟨rfl,hb2⟩;have ho2:=ho1.below hb2;have hbB:=hbA.trans (hb2.mono hbA.size);have hbW2:=hbW.trans ((hb1.mono (by have:=SZ.out;omega)).trans (hb2.mono (by have:=SZ.out;omega)));have s2:=hb2.size;have sB:=hbB.size;rcases hd:decide ((k:Int)∈q.f) with _ | _
   ·have HN:=h_ (n7_ hd);clear hd ho1 hx1 c0 c1 c2 kR1 hbA hb1 hb2;have HO2:=h_ ho2;have HW2:=h_ hbW2;have HB:=h_ hbB;have hlo2:=ho2.lt;clear ho2 hbW2 hbB
    (go_wp2_with (at_builtin;refine Hold.stop ?_));unfold Hold
    obtain⟨X,hX⟩:∃ X,X=w2.alloc (.cells #[.int .i64 (k:Int)] 3):=⟨_,rfl⟩;have gn:Below w2.heap.size w2 X:=by rw[hX];exact a2_ _ _
    have h1x:SlI X X.heap.size (.slice (some ⟨w2.heap.size,0,none⟩) 1 1) [(k:Int)]:=by rw[hX];exact SlI.one _ _ _ (by simp only[I64];omega)
    have ho3:=(HO2.out).below gn;have gns:=gn.size;rw[←hX];clear hX;have hfl:=d7_ q.f k;refine c3_ rfl (.tmp 21) (.tmp 23) rfl (w.heap.size+1) X.heap.size _ _ rfl ho3 _ 1 1 [(k:Int)] rfl rfl h1x (by simp;omega) (by have:=SZ.out;omega) ?_;intro v' w' h1 h2 h3;rw[←HN.out]at h1;have hbX:=b9_ h2 (B:=w.heap.size+1) (fun k hk=>(hlo2 k hk).1) (by have:=SZ.out;omega);have H1:=h_ h1;have G1:=h_ ((HB.out).trans ((gn.mono sB).trans (hbX.mono (by omega))));have G2:=h_ ((HW2.out).trans ((gn.mono (by have:=SZ.out;omega)).trans hbX));have s4:=hbX.size;clear h1 h2 h3 hbX hlo2 h1x ho3 gn;go_wp2;go_roundw
    case rel=>exact⟨k+1,by have:=HV.out;have:=HL.out;omega,by go_num,H1.out,G1.out,G2.out,by omega⟩
    case measure=>simp[intOf];have:=HV.out;have:=HL.out;omega
   ·have HN:=h_ (q5_ hd);have HO2:=h_ (show OwnI w2 (w.heap.size+1) _ (b2_ q.f (k+1)) by rw[HN.out];exact ho2);have HW2:=h_ hbW2;have HB:=h_ hbB;clear hd ho1 hx1 c0 c1 c2 kR1 hbA hb1 hb2 ho2 hbW2 hbB;go_wp2;go_roundw
    case rel=>exact⟨k+1,by have:=HV.out;have:=HL.out;omega,by go_num,HO2.out,HB.out,HW2.out,by omega⟩
    case measure=>simp[intOf];have:=HV.out;have:=HL.out;omega
  ·have hkV:k=V:=by have:=HV.out;omega
   subst hkV;have HO:=h_ ho;have HB:=h_ hb;clear ho hb;go_wp2;go_ret
   exact⟨_,rfl,HO.out,HB.out⟩
theorem R2_ (u:Value) (q:Qv) (w:World) (hu:QvR w w.heap.size u q) (hq:isQ q=false) :
  Calls Tryz.prog 70 #[u] w fun e w'=>∃ v,e = .returned v∧OwnI w' (w.heap.size+1) v []∧Below w.heap.size w w':=by
 have hu':=hu;obtain⟨A,c,C,d,rfl,hf,hT,hr,lf,lt⟩:=hu.open_;clear hu;have HQ:=h_ hq;obtain⟨W,hW⟩:∃ W,W=(w.alloc (.cells #[.int .i64 q.v,.slice A q.f.length c,.slice C q.t.length d] 26)).alloc (.cells #[] 3):=⟨_,rfl⟩;have g0:Below w.heap.size w W:=by rw[hW];exact ((Below.refl _ _).alloc (l_ _) _).alloc (by simp) _
 have kB:Blk W w.heap.size 26 #[.int .i64 q.v,.slice A q.f.length c,.slice C q.t.length d]:=by rw[hW];exact (Blk.new _ _ _).alloc _
 have ho:OwnI W (w.heap.size+1) (.slice (some ⟨w.heap.size+1,0,none⟩) 0 0) []:=by
  rw[hW];have:=OwnI.made (w:=w.alloc (.cells #[.int .i64 q.v,.slice A q.f.length c,.slice C q.t.length d] 26)) (base:=w.heap.size+1) 3 rfl (by simp);simpa only[l3_] using this
 have HU:=h_ (QvR.next g0 hu');have HO:=h_ ho;have G0:=h_ g0;obtain⟨c0,c1,c2⟩:=c_3 kB;clear hu' hq ho g0 kB;go_enter Tryz.func70,Tryz.ntmps70
 go_wp2;rw[←hW];clear hW;go_loopw [3,4] (fun out i wr=>i = .int .i64 0∧out = .slice (some ⟨w.heap.size+1,0,none⟩) 0 0∧wr=W) (fun _ _ _=>0)
 case atStart=>exact⟨rfl,rfl,rfl⟩
 case round =>
  obtain⟨rfl,rfl,hww⟩:=hrel;replace hww:=hww.symm;subst hww;by_cases hlt:0<q.v
  ·go_wp2_with fail
   refine (c0_ _ q _ HU.out).mono ?_;rintro e w1 ⟨rfl,hb1⟩;rw[HQ.out];have HO1:=h_ (HO.out.below hb1);have G1:=h_ (a6_ G0.out hb1);clear hb1;go_wp2;go_ret
   exact⟨_,rfl,HO1.out,G1.out⟩
  ·go_wp2;go_ret
   exact⟨_,rfl,HO.out,G0.out⟩
theorem X2_ (u:Value) (q:Qv) (w:World) (hu:QvR w w.heap.size u q) (hq:isQ q=false) :
  Calls Tryz.prog 65 #[u] w fun e w'=>∃ v,e = .returned v∧OwnI w' (w.heap.size+1) v []∧Below w.heap.size w w':=by
 have hu':=hu;obtain⟨A,c,C,d,rfl,hf,hT,hr,lf,lt⟩:=hu.open_;clear hu;have HQ:=h_ hq;obtain⟨W,hW⟩:∃ W,W=(w.alloc (.cells #[.int .i64 q.v,.slice A q.f.length c,.slice C q.t.length d] 26)).alloc (.cells #[] 3):=⟨_,rfl⟩;have g0:Below w.heap.size w W:=by rw[hW];exact ((Below.refl _ _).alloc (l_ _) _).alloc (by simp) _
 have kB:Blk W w.heap.size 26 #[.int .i64 q.v,.slice A q.f.length c,.slice C q.t.length d]:=by rw[hW];exact (Blk.new _ _ _).alloc _
 have ho:OwnI W (w.heap.size+1) (.slice (some ⟨w.heap.size+1,0,none⟩) 0 0) []:=by
  rw[hW];have:=OwnI.made (w:=w.alloc (.cells #[.int .i64 q.v,.slice A q.f.length c,.slice C q.t.length d] 26)) (base:=w.heap.size+1) 3 rfl (by simp);simpa only[l3_] using this
 have HU:=h_ (QvR.next g0 hu');have HO:=h_ ho;have G0:=h_ g0;obtain⟨c0,c1,c2⟩:=c_3 kB;clear hu' hq ho g0 kB;go_enter Tryz.func65,Tryz.ntmps65
 go_wp2;rw[←hW];clear hW;go_loopw [3,4] (fun out i wr=>i = .int .i64 0∧out = .slice (some ⟨w.heap.size+1,0,none⟩) 0 0∧wr=W) (fun _ _ _=>0)
 case atStart=>exact⟨rfl,rfl,rfl⟩
 case round =>
  obtain⟨rfl,rfl,hww⟩:=hrel;replace hww:=hww.symm;subst hww;by_cases hlt:0<q.v
  ·go_wp2_with fail
   refine (c0_ _ q _ HU.out).mono ?_;rintro e w1 ⟨rfl,hb1⟩;rw[HQ.out];have HO1:=h_ (HO.out.below hb1);have G1:=h_ (a6_ G0.out hb1);clear hb1;go_wp2;go_ret
   exact⟨_,rfl,HO1.out,G1.out⟩
  ·go_wp2;go_ret
   exact⟨_,rfl,HO.out,G0.out⟩
theorem V3_ (u:Value) (q:Qv) (w:World) (hu:QvR w w.heap.size u q) :
  Calls Tryz.prog 70 #[u] w fun e w'=>∃ v l,e = .returned v∧OwnI w' (w.heap.size+1) v l∧Below w.heap.size w w':=by
 rcases h:isQ q with _ | _
 ·exact (R2_ u q w hu h).mono fun e w' ⟨v,a,b,c⟩=>⟨v,_,a,b,c⟩
 ·exact (M2_ u q w hu h).mono fun e w' ⟨v,a,b,c⟩=>⟨v,_,a,b,c⟩
theorem a6X (u:Value) (q:Qv) (w:World) (hu:QvR w w.heap.size u q) :
  Calls Tryz.prog 65 #[u] w fun e w'=>∃ v l,e = .returned v∧OwnI w' (w.heap.size+1) v l∧Below w.heap.size w w':=by
 rcases h:isQ q with _ | _
 ·exact (X2_ u q w hu h).mono fun e w' ⟨v,a,b,c⟩=>⟨v,_,a,b,c⟩
 ·exact (V9_ u q w hu h).mono fun e w' ⟨v,a,b,c⟩=>⟨v,_,a,b,c⟩
theorem OwnI.blkRead {w:World} {base:Nat} {v:Value} {l:List Int} (h:OwnI w base v l) (hp:0<l.length):∃ g c cur,v = .slice (some ⟨g,0,none⟩) l.length c∧base≤g∧l.length≤c∧c≤9223372036854775807∧Blk w g 3 cur∧∀ k,k<l.length→∃ y:Int,cur[k]?=some (.int .i64 y)∧I64 y:=by
 have h0:=h;obtain⟨h1,h2,h3⟩:=h;rcases h1.2 with ⟨_,e⟩ | ⟨g,cap,cur,rfl,hg,hh,hnc,hcm,hcs,htake⟩
 ·omega
 ·refine⟨g,cap,cur,rfl,hg,hnc,by simp only[maxLen]at hcm;omega,hh,fun k hk=>?_⟩;have hc:=(h0.cellG hk).1;have hl:l[k]?=some l[k]:=l2_ hk;refine⟨l[k],?_,h3 _ (List.getElem_mem _)⟩;have e2:w.cell? ⟨g,k,none⟩=cur[k]?:=by
   unfold World.cell?;simp[hh]
  rw[←e2,hc];simp[hl]
theorem b2X (flag:Bool) (u:Value) (l:List Int) (w0:World) (hu:SlY w0 w0.heap.size u l) :
  Calls Tryz.prog 25 #[u,.bool flag] w0 fun e w'=>PatV w0 e w':=by
 obtain⟨W,hW,g0,kR⟩:=b_3 w0 #[.int .i64 0,.int .i64 0,.slice none 0 0,.slice none 0 0,.slice none 0 0,.slice none 0 0] 29;have sW:W.heap.size=w0.heap.size+1:=by rw[hW];simp
 have hu':=SlY.next g0 hu;clear hu;have KR:=h_ kR;have G0:=h_ g0;clear kR g0;go_enter Tryz.func25,Tryz.ntmps25
 go_wp2_with fail
 rw[←hW];clear hW;refine (b4q u l _ hu').mono ?_;rintro e w1 ⟨c,rfl,hcs,hC1,hb1⟩;have hs1:=hb1.size;have HR1:=h_ (KR.out.call hb1);have HW1:=h_ (G0.out.trans (hb1.mono (by omega)));clear hu' hb1;have hdc:w0.heap.size≠c:=by omega
 go_wp2_with fail
 refine (Z0_ c _ hC1).mono ?_;intro e w2 hAny;unfold AnyP at hAny;obtain⟨v,⟨P,⟨V,F,T⟩,D,M⟩,rfl,hL,hb2⟩:=hAny;have hcl1:=hC1.ltF;have hs2:=hb2.size;have hC2:=hb2.keep hC1;have HR2:=h_ (HR1.out.ck hb2 hdc);have HW2:=h_ (HW1.out.trans (hb2.below (B:=w0.heap.size) (by omega) (by omega)));obtain⟨A,a,C,cc,E,ee,H,h,rfl⟩:=hL.rd.form;simp only at hL⊢;obtain⟨nf,hnf⟩:=e_ (F.length);obtain⟨nt,hnt⟩:=e_ (T.length);obtain⟨nd,hnd⟩:=e_ (D.length);obtain⟨nm,hnm⟩:=e_ (M.length);rw[hnf,hnt,hnd,hnm]at hL⊢;have hqr:QvR w2 w2.heap.size (.agg #[.int .i64 V,.slice A nf a,.slice C nt cc]) ⟨V,F,T⟩:=by
  obtain⟨A',a',C',c',E',e',H',h',e9,hq,_⟩:=hL.rd.open_;simp only[Value.agg.injEq,Array.mk.injEq,List.cons.injEq,Value.slice.injEq,and_true,true_and]at e9;obtain⟨⟨rfl,_,rfl⟩,⟨rfl,_,rfl⟩,_⟩:=e9;simp only at hq;rw[hnf,hnt]at hq;exact hq
 clear hnf hnt hnd hnm hb2 hC1 HR1 HW1;obtain⟨W3,hW3,gb,g5,hg5,k5⟩:=b_2 w2 #[.int .i64 P,.int .i64 V,.slice A nf a,.slice C nt cc,.slice E nd ee,.slice H nm h] 29;have hs3:W3.heap.size=g5+1:=by rw[←hW3,←hg5];simp
 have hcl2:=hC2.ltF;have HC3:=h_ ((Ck.of_below (c:=c) gb).keep hC2);have HR3:=h_ (HR2.out.call gb);have HW3:=h_ (HW2.out.trans (gb.mono (by omega)));have HL3:=h_ (hL.below gb);have HQ3:=h_ (QvR.next gb hqr);have HG3:=h_ k5;have hg5c:g5≠c:=by omega
 have hg5d:g5≠w0.heap.size:=by omega
 have z1:=k5.cell' (i:=1) rfl;have z2:=k5.cell' (i:=2) rfl;have z3:=k5.cell' (i:=3) rfl;clear hL gb k5 hC2 HR2 HW2 hqr;go_wp2_with fail
 try rw[hW3]
 clear hW3;refine (V3_ _ ⟨V,F,T⟩ _ HQ3.out).mono ?_;rintro e w3 ⟨lv,ll0,rfl,hll0,hb3⟩;have hs3':=hb3.size;have HC4:=h_ ((Ck.of_below (c:=c) hb3).keep HC3.out);have HR4:=h_ (HR3.out.call hb3);have HG4:=h_ (HG3.out.call hb3);have HW4:=h_ (HW3.out.trans (hb3.mono (by omega)));have HL4:=h_ (HL3.out.below hb3);have HQ4:=h_ (QvR.next hb3 HQ3.out);have HLL:=h_ hll0;have hlf:=hll0.form;obtain⟨LA0,lc0,rfl,_,_⟩:=hlf;clear hb3 HC3 HR3 HG3 HW3 HL3 HQ3 z1 z2 z3 hll0;go_upto_if 16 with fail
 go_cut [8] from 17 to 19 (fun s wx=>∃ ll:List Int,OwnI wx (W3.heap.size+1) s ll∧Cur wx c∧Blk wx w0.heap.size 29 #[.int .i64 0,.int .i64 0,.slice none 0 0,.slice none 0 0,.slice none 0 0,.slice none 0 0]∧Blk wx g5 29 #[.int .i64 P,.int .i64 V,.slice A nf a,.slice C nt cc,.slice E nd ee,.slice H nm h]∧Below w0.heap.size w0 wx∧RepL wx (w1.heap.size+1) w2.heap.size (.agg #[.int .i64 P,.int .i64 V,.slice A nf a,.slice C nt cc,.slice E nd ee,.slice H nm h]) ⟨P,⟨V,F,T⟩,D,M⟩∧W3.heap.size≤wx.heap.size)
 case first =>
  cases flag
  ·go_wp2;go_meet
   case rel=>exact⟨ll0,HLL.out,HC4.out,HR4.out,HG4.out,HW4.out,HL4.out,hs3'⟩
  ·have z1:=HG4.out.cell' (i:=1) rfl;have z2:=HG4.out.cell' (i:=2) rfl;have z3:=HG4.out.cell' (i:=3) rfl;go_wp2_with fail
   refine (a6X _ ⟨V,F,T⟩ _ HQ4.out).mono ?_;rintro e w3' ⟨lv',ll',rfl,hll',hb3⟩;have hs3'':=hb3.size;have HC5:=h_ ((Ck.of_below (c:=c) hb3).keep HC4.out);have HR5:=h_ (HR4.out.call hb3);have HG5:=h_ (HG4.out.call hb3);have HW5:=h_ (HW4.out.trans (hb3.mono (by omega)));have HL5:=h_ (HL4.out.below hb3);have HLL5:=h_ (hll'.lower (by omega:W3.heap.size+1≤w3.heap.size+1));have hs5:W3.heap.size≤w3'.heap.size:=by omega
   obtain⟨LA5,lc5,rfl,_,_⟩:=hll'.form;clear hb3 HC4 HR4 HG4 HW4 HL4 HQ4 z1 z2 z3 HLL hll';go_wp2;go_meet
   case rel=>exact⟨ll',HLL5.out,HC5.out,HR5.out,HG5.out,HW5.out,HL5.out,hs5⟩
 case rest =>
  clear HC4 HR4 HG4 HW4 HL4 HQ4 HLL;obtain⟨ll,hll,hc4,hr4,hg4,hw4,hl4,hsc⟩:=hcut;obtain⟨wq,hwq⟩:∃ z,z=wc:=⟨_,rfl⟩;subst hwq;have HC4:=h_ hc4;have HR4:=h_ hr4;have HG4:=h_ hg4;have HW4:=h_ hw4;have HL4:=h_ hl4;clear hc4 hr4 hg4 hw4 hl4;rcases Nat.eq_zero_or_pos ll.length with hn0 | hnp
  ·obtain⟨LA,lc,rfl,lc1,lc2⟩:=hll.form;rw[hn0]at lc1⊢;clear hn0 hll;go_wp2;go_upto_region 8 with fail
   refine t1_ (c) (w0.heap.size) (#[.int .i64 P,.int .i64 V,.slice A nf a,.slice C nt cc,.slice E nd ee,.slice H nm h]) (by kernel_rfl) [.eq (.agg #[.int .i64 P,.int .i64 V,.slice A nf a,.slice C nt cc,.slice E nd ee,.slice H nm h]),.eq (.pointer (some ⟨c,0,none⟩)),rel 2 (fun u lo hi w=>∃ r:Nat,u = .int .i64 (r:Int)∧r<6),rel 3 (fun u lo hi w=>∃ k:Int,u = .int .i64 k∧I64 k),.rel (fun x w=>Blk w w0.heap.size 29 #[.int .i64 P,.int .i64 V,.slice A nf a,.slice C nt cc,.slice E nd ee,.slice H nm h])] [[],[],[1],[1,2],[0,1,2],[0,1,2,3,4]] 5 (by kernel_rfl) ⟨trivial,trivial,m9_ (fun u lo hi w w' h hb=>h),m9_ (fun u lo hi w w' h hb=>h),fun x w w' h hb=>hb.keepD h,trivial⟩ ⟨?_,?_,?_,?_,?_,trivial⟩ ?_;iterate 5 (intro x w hb hk Q' hQ;have he:=k_e hk;simp only[k_s]at he;simp only[netE]at hQ⊢;(try simp only[he]at hQ⊢);(try clear he);rotate_left)
   rotate_left
   ·clear hk;obtain⟨z0,z1,z2,z3,z4,z5⟩:=c_6 (HG4.out.cd hb hg5c hg5d);go_wp2;exact hQ (.agg #[.int .i64 P,.int .i64 V,.slice A nf a,.slice C nt cc,.slice E nd ee,.slice H nm h]) _ (Cd.refl _ _ _ _) rfl
   ·clear hk;go_wp2;exact hQ _ _ (Cd.refl _ _ _ _) rfl
   ·clear hk;go_wp2_with fail
    refine (g3_ c 6 _ (hb.keep HC4.out) ⟨by omega,by omega⟩).mono ?_;rintro e w7 ⟨k,hk,_,rfl,hb7⟩;go_wp2;exact hQ _ _ (Cd.of_ck hb7 hdc) ⟨k,rfl,by omega⟩
   ·have h2:∃ r:Nat,(x.v 2) = .int .i64 (r:Int)∧r<6:=(hk 2 (by decide)).1;have s2:=(hk 2 (by decide)).2;clear hk;obtain⟨r,e2,hr⟩:=h2;have hQ':=hQ (.int .i64 ((r:Int)-1)) w (Cd.refl _ _ _ _) ⟨_,rfl,⟨by omega,by omega⟩⟩;rw[e2]at hQ'⊢;go_wp2;exact hQ'
   ·have h2:∃ r:Nat,(x.v 2) = .int .i64 (r:Int)∧r<6:=(hk 2 (by decide)).1;have s2:=(hk 2 (by decide)).2;clear hk;have hE:=hb.keepE ⟨_,_,_,_,_,_,_,_,_,_,_,_,_,_,HR4.out⟩;have hS:=Cd.storeR (P:=P) (V:=V) (A:=A) (nf:=nf) (a:=a) (C:=C) (nt:=nt) (cc:=cc) (E:=E) (nd:=nd) (ee:=ee) (H:=H) (nm:=nm) (h:=h) hdc hE;obtain⟨P',V',A',nf',a',C',nt',cc',E',nd',ee',H',nm',h',hB⟩:=hE;obtain⟨y0,y1,y2,y3,y4,y5⟩:=c_6 hB;have fr:=hB.frozen;have HS:=h_ hS;clear hS hB;go_wp2;exact hQ undef _ HS.out.1 HS.out.2
   ·intro x w hb hk hiv hdj;have h2:∃ r:Nat,(x.v 2) = .int .i64 (r:Int)∧r<6:=hk 2 (by decide);have h3:∃ k:Int,(x.v 3) = .int .i64 k∧I64 k:=hk 3 (by decide);have h4:Blk w w0.heap.size 29 #[.int .i64 P,.int .i64 V,.slice A nf a,.slice C nt cc,.slice E nd ee,.slice H nm h]:=hk 4 (by decide);have he:=k_g hk [0,1];simp only[k_s]at he;simp only[netE,he];clear he hk;obtain⟨k,e3,hk⟩:=h3;rw[e3];obtain⟨r0,r1,r2,r3,r4,r5⟩:=c_6 h4;have hch:=hb.chg (hi:=w1.heap.size+1) (by omega) (by omega);have HLF:=h_ ((HL4.out.chg hch (.inr (by omega))).wider (lo':=w0.heap.size) (hi':=w.heap.size) (by omega) (by have:=hch.size;omega));have GF:=h_ (HW4.out.trans (hb.low (B:=w0.heap.size) (by omega) (l_ _) (by omega)));clear hb hiv hdj hch;go_wp2;refine bodyPost_ret (v:=.tuple #[.agg #[.int .i64 P,.int .i64 V,.slice A nf a,.slice C nt cc,.slice E nd ee,.slice H nm h],.int .i64 k]) (by simp[results,go_sem,r0,r1,r2,r3,r4,r5]) rfl ?_;unfold PatV;exact⟨_,⟨P,⟨V,F,T⟩,D,M⟩,k,rfl,HLF.out,hk,GF.out⟩
  ·obtain⟨gl,lc,cur,rfl,hgl,lc1,lc2,hBk,hRd⟩:=hll.blkRead hnp;have hlb:=hBk.lt;have hl44:=hll.2.1;obtain⟨n,hn⟩:=e_ (ll.length);rw[hn]at lc1 hnp hRd hl44⊢;have HBK:=h_ hBk;have HRD:=h_ hRd;have hglc:gl≠c:=by omega
   have hgld:gl≠w0.heap.size:=by omega
   clear hn hll hBk hRd;go_wp2_with fail
   refine (O5_ c 6 _ HC4.out ⟨by omega,by omega⟩).mono ?_;rintro e w6 ⟨b,rfl,hb6⟩;have hs6:=hb6.size;have HC6:=h_ (hb6.keep HC4.out);have HR6:=h_ (HR4.out.ck hb6 hdc);have HG6:=h_ (HG4.out.ck hb6 hg5c);have HW6:=h_ (HW4.out.trans (hb6.below (B:=w0.heap.size) (by omega) (by omega)));have HL6:=h_ (HL4.out.chg hb6.chg (.inr (by omega)));have HB6:=h_ (HBK.out.ck hb6 hglc);clear hb6 HC4 HR4 HG4 HW4 HL4 HBK;have HC4:=HC6;have HR4:=HR6;have HG4:=HG6;have HW4:=HW6;have HL4:=HL6;clear HC6 HR6 HG6 HW6 HL6;cases b
   ·go_upto_region 7 with fail
    refine t1_ (c) (w0.heap.size) (#[.int .i64 P,.int .i64 V,.slice A nf a,.slice C nt cc,.slice E nd ee,.slice H nm h]) (by kernel_rfl) [.eq (.agg #[.int .i64 P,.int .i64 V,.slice A nf a,.slice C nt cc,.slice E nd ee,.slice H nm h]),.eq (.slice (some ⟨gl,0,none⟩) n lc),.eq (.pointer (some ⟨c,0,none⟩)),.eq (.slice (some ⟨gl,0,none⟩) n lc),.eq (.int .i64 n),rel 5 (fun u lo hi w=>∃ r:Nat,u = .int .i64 (r:Int)∧r<n),rel 6 (fun u lo hi w=>∃ r:Nat,u = .pointer (some ⟨gl,r,none⟩)∧r<n),rel 7 (fun u lo hi w=>∃ k:Int,u = .int .i64 k∧I64 k),.rel (fun x w=>Blk w w0.heap.size 29 #[.int .i64 P,.int .i64 V,.slice A nf a,.slice C nt cc,.slice E nd ee,.slice H nm h])] [[],[],[],[],[3],[2,3,4],[1,2,3,4,5],[1,2,3,4,5,6],[0,2,3,4,5],[0,1,2,3,4,5,6,7,8]] 9 (by kernel_rfl) ⟨trivial,trivial,trivial,trivial,trivial,m9_ (fun u lo hi w w' h hb=>h),m9_ (fun u lo hi w w' h hb=>h),m9_ (fun u lo hi w w' h hb=>h),fun x w w' h hb=>hb.keepD h,trivial⟩ ⟨?_,?_,?_,?_,?_,?_,?_,?_,?_,trivial⟩ ?_;iterate 9 (intro x w hb hk Q' hQ;have he:=k_e hk;simp only[k_s]at he;simp only[netE]at hQ⊢;(try simp only[he]at hQ⊢);(try clear he);rotate_left)
    rotate_left
    ·clear hk;obtain⟨z0,z1,z2,z3,z4,z5⟩:=c_6 (HG4.out.cd hb hg5c hg5d);go_wp2;exact hQ (.agg #[.int .i64 P,.int .i64 V,.slice A nf a,.slice C nt cc,.slice E nd ee,.slice H nm h]) _ (Cd.refl _ _ _ _) rfl
    iterate 4 (· clear hk;go_wp2;exact hQ _ _ (Cd.refl _ _ _ _) rfl)
    ·clear hk;go_wp2_with fail
     refine (g3_ c n _ (hb.keep HC4.out) ⟨by omega,by omega⟩).mono ?_;rintro e w7 ⟨k,hk,_,rfl,hb7⟩;go_wp2;exact hQ _ _ (Cd.of_ck hb7 hdc) ⟨k,rfl,by omega⟩
    ·have h5:∃ r:Nat,(x.v 5) = .int .i64 (r:Int)∧r<n:=(hk 5 (by decide)).1;have s5:=(hk 5 (by decide)).2;clear hk;obtain⟨r,e5,hr⟩:=h5;have hQ':=hQ (.pointer (some ⟨gl,r,none⟩)) w (Cd.refl _ _ _ _) ⟨r,rfl,hr⟩;rw[e5]at hQ'⊢;go_wp2;exact hQ'
    ·have h5:∃ r:Nat,(x.v 5) = .int .i64 (r:Int)∧r<n:=(hk 5 (by decide)).1;have h6:∃ r:Nat,(x.v 6) = .pointer (some ⟨gl,r,none⟩)∧r<n:=(hk 6 (by decide)).1;have s5:=(hk 5 (by decide)).2;have s6:=(hk 6 (by decide)).2;clear hk;obtain⟨r,e6,hr⟩:=h6;obtain⟨y,hy,hyI⟩:=HRD.out r hr;have z:=(HB6.out.cd hb hglc hgld).cell' hy;have hQ':=hQ (.int .i64 y) w (Cd.refl _ _ _ _) ⟨y,rfl,hyI⟩;rw[e6]at hQ'⊢;clear hy;go_wp2;exact hQ'
    ·have h5:∃ r:Nat,(x.v 5) = .int .i64 (r:Int)∧r<n:=(hk 5 (by decide)).1;have s5:=(hk 5 (by decide)).2;clear hk;have hE:=hb.keepE ⟨_,_,_,_,_,_,_,_,_,_,_,_,_,_,HR4.out⟩;have hS:=Cd.storeR (P:=P) (V:=V) (A:=A) (nf:=nf) (a:=a) (C:=C) (nt:=nt) (cc:=cc) (E:=E) (nd:=nd) (ee:=ee) (H:=H) (nm:=nm) (h:=h) hdc hE;obtain⟨P',V',A',nf',a',C',nt',cc',E',nd',ee',H',nm',h',hB⟩:=hE;obtain⟨y0,y1,y2,y3,y4,y5⟩:=c_6 hB;have fr:=hB.frozen;have HS:=h_ hS;clear hS hB;go_wp2;exact hQ undef _ HS.out.1 HS.out.2
    ·intro x w hb hk hiv hdj;have h5:∃ r:Nat,(x.v 5) = .int .i64 (r:Int)∧r<n:=hk 5 (by decide);have h6:∃ r:Nat,(x.v 6) = .pointer (some ⟨gl,r,none⟩)∧r<n:=hk 6 (by decide);have h7:∃ k:Int,(x.v 7) = .int .i64 k∧I64 k:=hk 7 (by decide);have h8:Blk w w0.heap.size 29 #[.int .i64 P,.int .i64 V,.slice A nf a,.slice C nt cc,.slice E nd ee,.slice H nm h]:=hk 8 (by decide);have he:=k_g hk [0,1,2,3,4];simp only[k_s]at he;simp only[netE,he];clear he hk;obtain⟨k,e7,hk⟩:=h7;rw[e7];obtain⟨r0,r1,r2,r3,r4,r5⟩:=c_6 h8;have hch:=hb.chg (hi:=w1.heap.size+1) (by omega) (by omega);have HLF:=h_ ((HL4.out.chg hch (.inr (by omega))).wider (lo':=w0.heap.size) (hi':=w.heap.size) (by omega) (by have:=hch.size;omega));have GF:=h_ (HW4.out.trans (hb.low (B:=w0.heap.size) (by omega) (l_ _) (by omega)));clear hb hiv hdj hch;go_wp2;refine bodyPost_ret (v:=.tuple #[.agg #[.int .i64 P,.int .i64 V,.slice A nf a,.slice C nt cc,.slice E nd ee,.slice H nm h],.int .i64 k]) (by simp[results,go_sem,r0,r1,r2,r3,r4,r5]) rfl ?_;unfold PatV;exact⟨_,⟨P,⟨V,F,T⟩,D,M⟩,k,rfl,HLF.out,hk,GF.out⟩
   ·go_wp2;go_upto_region 8 with fail
    refine t1_ (c) (w0.heap.size) (#[.int .i64 P,.int .i64 V,.slice A nf a,.slice C nt cc,.slice E nd ee,.slice H nm h]) (by kernel_rfl) [.eq (.agg #[.int .i64 P,.int .i64 V,.slice A nf a,.slice C nt cc,.slice E nd ee,.slice H nm h]),.eq (.pointer (some ⟨c,0,none⟩)),rel 2 (fun u lo hi w=>∃ r:Nat,u = .int .i64 (r:Int)∧r<6),rel 3 (fun u lo hi w=>∃ k:Int,u = .int .i64 k∧I64 k),.rel (fun x w=>Blk w w0.heap.size 29 #[.int .i64 P,.int .i64 V,.slice A nf a,.slice C nt cc,.slice E nd ee,.slice H nm h])] [[],[],[1],[1,2],[0,1,2],[0,1,2,3,4]] 5 (by kernel_rfl) ⟨trivial,trivial,m9_ (fun u lo hi w w' h hb=>h),m9_ (fun u lo hi w w' h hb=>h),fun x w w' h hb=>hb.keepD h,trivial⟩ ⟨?_,?_,?_,?_,?_,trivial⟩ ?_;iterate 5 (intro x w hb hk Q' hQ;have he:=k_e hk;simp only[k_s]at he;simp only[netE]at hQ⊢;(try simp only[he]at hQ⊢);(try clear he);rotate_left)
    rotate_left
    ·clear hk;obtain⟨z0,z1,z2,z3,z4,z5⟩:=c_6 (HG4.out.cd hb hg5c hg5d);go_wp2;exact hQ (.agg #[.int .i64 P,.int .i64 V,.slice A nf a,.slice C nt cc,.slice E nd ee,.slice H nm h]) _ (Cd.refl _ _ _ _) rfl
    ·clear hk;go_wp2;exact hQ _ _ (Cd.refl _ _ _ _) rfl
    ·clear hk;go_wp2_with fail
     refine (g3_ c 6 _ (hb.keep HC4.out) ⟨by omega,by omega⟩).mono ?_;rintro e w7 ⟨k,hk,_,rfl,hb7⟩;go_wp2;exact hQ _ _ (Cd.of_ck hb7 hdc) ⟨k,rfl,by omega⟩
    ·have h2:∃ r:Nat,(x.v 2) = .int .i64 (r:Int)∧r<6:=(hk 2 (by decide)).1;have s2:=(hk 2 (by decide)).2;clear hk;obtain⟨r,e2,hr⟩:=h2;have hQ':=hQ (.int .i64 ((r:Int)-1)) w (Cd.refl _ _ _ _) ⟨_,rfl,⟨by omega,by omega⟩⟩;rw[e2]at hQ'⊢;go_wp2;exact hQ'
    ·have h2:∃ r:Nat,(x.v 2) = .int .i64 (r:Int)∧r<6:=(hk 2 (by decide)).1;have s2:=(hk 2 (by decide)).2;clear hk;have hE:=hb.keepE ⟨_,_,_,_,_,_,_,_,_,_,_,_,_,_,HR4.out⟩;have hS:=Cd.storeR (P:=P) (V:=V) (A:=A) (nf:=nf) (a:=a) (C:=C) (nt:=nt) (cc:=cc) (E:=E) (nd:=nd) (ee:=ee) (H:=H) (nm:=nm) (h:=h) hdc hE;obtain⟨P',V',A',nf',a',C',nt',cc',E',nd',ee',H',nm',h',hB⟩:=hE;obtain⟨y0,y1,y2,y3,y4,y5⟩:=c_6 hB;have fr:=hB.frozen;have HS:=h_ hS;clear hS hB;go_wp2;exact hQ undef _ HS.out.1 HS.out.2
    ·intro x w hb hk hiv hdj;have h2:∃ r:Nat,(x.v 2) = .int .i64 (r:Int)∧r<6:=hk 2 (by decide);have h3:∃ k:Int,(x.v 3) = .int .i64 k∧I64 k:=hk 3 (by decide);have h4:Blk w w0.heap.size 29 #[.int .i64 P,.int .i64 V,.slice A nf a,.slice C nt cc,.slice E nd ee,.slice H nm h]:=hk 4 (by decide);have he:=k_g hk [0,1];simp only[k_s]at he;simp only[netE,he];clear he hk;obtain⟨k,e3,hk⟩:=h3;rw[e3];obtain⟨r0,r1,r2,r3,r4,r5⟩:=c_6 h4;have hch:=hb.chg (hi:=w1.heap.size+1) (by omega) (by omega);have HLF:=h_ ((HL4.out.chg hch (.inr (by omega))).wider (lo':=w0.heap.size) (hi':=w.heap.size) (by omega) (by have:=hch.size;omega));have GF:=h_ (HW4.out.trans (hb.low (B:=w0.heap.size) (by omega) (l_ _) (by omega)));clear hb hiv hdj hch;go_wp2;refine bodyPost_ret (v:=.tuple #[.agg #[.int .i64 P,.int .i64 V,.slice A nf a,.slice C nt cc,.slice E nd ee,.slice H nm h],.int .i64 k]) (by simp[results,go_sem,r0,r1,r2,r3,r4,r5]) rfl ?_;unfold PatV;exact⟨_,⟨P,⟨V,F,T⟩,D,M⟩,k,rfl,HLF.out,hk,GF.out⟩
theorem a5Z (u:Value) (l:List Int) (w0:World) (hu:SlY w0 w0.heap.size u l) :
  Calls Tryz.prog 25 #[u,.bool false] w0 fun e w'=>PatV w0 e w':=b2X false u l w0 hu
theorem a5X (u:Value) (l:List Int) (w0:World) (hu:SlY w0 w0.heap.size u l) :
  Calls Tryz.prog 25 #[u,.bool true] w0 fun e w'=>PatV w0 e w':=b2X true u l w0 hu
theorem A5_ (u:Value) (l:List Int) (w0:World) (hu:SlY w0 w0.heap.size u l) :
  Calls Tryz.prog 5 #[u] w0 fun e w'=>∃ (v:Value) (x:Rp) (i:Int),e = .returned (.tuple #[v,.int .i64 i])∧RpR w' w'.heap.size v x∧I64 i∧Below w0.heap.size w0 w':=by
 obtain⟨W,hW,g0,kR⟩:=b_3 w0 #[.int .i64 0,.int .i64 0,.slice none 0 0,.slice none 0 0,.slice none 0 0,.slice none 0 0] 29;have HSW:=h_ (show W.heap.size=w0.heap.size+1 by rw[hW];simp);have hu':=SlY.next g0 hu;clear hu;have KR:=h_ kR;have G0:=h_ g0;clear kR g0;go_enter Tryz.func5,Tryz.ntmps5
 go_wp2_with fail
 rw[←hW];clear hW;refine (a5X u l _ hu').mono ?_;intro e w1 hP;unfold PatV at hP;obtain⟨v,x,i,rfl,hx,hi,hb⟩:=hP;obtain⟨A,a,C,c,E,ee,H,h,rfl⟩:=hx.rd.form;obtain⟨W2,hW2⟩:=e_ (w1.alloc (.cells #[.int .i64 x.p,.int .i64 x.q.v,.slice A x.q.f.length a,.slice C x.q.t.length c,.slice E x.d.length ee,.slice H x.m.length h] 29));have ga:Below w1.heap.size w1 W2:=by rw[←hW2];exact a2_ _ _
 have hx2:=hx.below ga;have kX:Blk W2 w1.heap.size 29 #[.int .i64 x.p,.int .i64 x.q.v,.slice A x.q.f.length a,.slice C x.q.t.length c,.slice E x.d.length ee,.slice H x.m.length h]:=by rw[←hW2];exact Blk.new _ _ _
 have kR:=(KR.out.call hb).call ga;have gg:=a6_ (a6_ G0.out hb) ga;have hs0:=G0.out.size;have hs1:=hb.size;obtain⟨x0,x1,x2,x3,x4,x5⟩:=c_6 kX;have fr:=kR.frozen;obtain⟨z0,z1,z2,z3,z4,z5⟩:=c_6 kR;obtain⟨W3,hW3⟩:=e_ ((((((W2.setCell ⟨w0.heap.size,0,none⟩ (.int .i64 x.p)).setCell ⟨w0.heap.size,1,none⟩ (.int .i64 x.q.v)).setCell ⟨w0.heap.size,2,none⟩ (.slice A x.q.f.length a)).setCell ⟨w0.heap.size,3,none⟩ (.slice C x.q.t.length c)).setCell ⟨w0.heap.size,4,none⟩ (.slice E x.d.length ee)).setCell ⟨w0.heap.size,5,none⟩ (.slice H x.m.length h));have hch:Chg w0.heap.size (w0.heap.size+1) W2 W3:=by rw[←hW3];exact chg6 W2 w0.heap.size _ _ _ _ _ _
 have k3:Blk W3 w0.heap.size 29 #[.int .i64 x.p,.int .i64 x.q.v,.slice A x.q.f.length a,.slice C x.q.t.length c,.slice E x.d.length ee,.slice H x.m.length h]:=by rw[←hW3];exact (((((kR.set_ 0 _).set_ 1 _).set_ 2 _).set_ 3 _).set_ 4 _).set_ 5 _
 obtain⟨r0,r1,r2,r3,r4,r5⟩:=c_6 k3;have hsa:=ga.size;have hsw:W.heap.size=w0.heap.size+1:=HSW.out;have HX3:=h_ (hx2.chg hch (.inr (by omega))).rd;have GF:=h_ (gg.trans (hch.below (l_ _) (by omega)));clear hx hx2 kX kR gg hch k3 ga hb KR G0;go_wp2;refine bodyPost_ret (v:=.tuple #[.agg #[.int .i64 x.p,.int .i64 x.q.v,.slice A x.q.f.length a,.slice C x.q.t.length c,.slice E x.d.length ee,.slice H x.m.length h],.int .i64 i]) (by simp[results,go_sem,r0,r1,r2,r3,r4,r5]) rfl ?_;exact⟨_,x,i,rfl,HX3.out,hi,GF.out⟩
theorem x3_ (u:Value) (l:List Int) (w0:World) (hu:SlY w0 w0.heap.size u l) :
  Calls Tryz.prog 17 #[u] w0 fun e w'=>∃ (v:Value) (x:Rp) (i:Int),e = .returned (.tuple #[v,.int .i64 i])∧RpR w' w'.heap.size v x∧I64 i∧Below w0.heap.size w0 w':=by
 obtain⟨W,hW,g0,kR⟩:=b_3 w0 #[.int .i64 0,.int .i64 0,.slice none 0 0,.slice none 0 0,.slice none 0 0,.slice none 0 0] 29;have HSW:=h_ (show W.heap.size=w0.heap.size+1 by rw[hW];simp);have hu':=SlY.next g0 hu;clear hu;have KR:=h_ kR;have G0:=h_ g0;clear kR g0;go_enter Tryz.func17,Tryz.ntmps17
 go_wp2_with fail
 rw[←hW];clear hW;refine (a5Z u l _ hu').mono ?_;intro e w1 hP;unfold PatV at hP;obtain⟨v,x,i,rfl,hx,hi,hb⟩:=hP;obtain⟨A,a,C,c,E,ee,H,h,rfl⟩:=hx.rd.form;obtain⟨W2,hW2⟩:=e_ (w1.alloc (.cells #[.int .i64 x.p,.int .i64 x.q.v,.slice A x.q.f.length a,.slice C x.q.t.length c,.slice E x.d.length ee,.slice H x.m.length h] 29));have ga:Below w1.heap.size w1 W2:=by rw[←hW2];exact a2_ _ _
 have hx2:=hx.below ga;have kX:Blk W2 w1.heap.size 29 #[.int .i64 x.p,.int .i64 x.q.v,.slice A x.q.f.length a,.slice C x.q.t.length c,.slice E x.d.length ee,.slice H x.m.length h]:=by rw[←hW2];exact Blk.new _ _ _
 have kR:=(KR.out.call hb).call ga;have gg:=a6_ (a6_ G0.out hb) ga;have hs0:=G0.out.size;have hs1:=hb.size;obtain⟨x0,x1,x2,x3,x4,x5⟩:=c_6 kX;have fr:=kR.frozen;obtain⟨z0,z1,z2,z3,z4,z5⟩:=c_6 kR;obtain⟨W3,hW3⟩:=e_ ((((((W2.setCell ⟨w0.heap.size,0,none⟩ (.int .i64 x.p)).setCell ⟨w0.heap.size,1,none⟩ (.int .i64 x.q.v)).setCell ⟨w0.heap.size,2,none⟩ (.slice A x.q.f.length a)).setCell ⟨w0.heap.size,3,none⟩ (.slice C x.q.t.length c)).setCell ⟨w0.heap.size,4,none⟩ (.slice E x.d.length ee)).setCell ⟨w0.heap.size,5,none⟩ (.slice H x.m.length h));have hch:Chg w0.heap.size (w0.heap.size+1) W2 W3:=by rw[←hW3];exact chg6 W2 w0.heap.size _ _ _ _ _ _
 have k3:Blk W3 w0.heap.size 29 #[.int .i64 x.p,.int .i64 x.q.v,.slice A x.q.f.length a,.slice C x.q.t.length c,.slice E x.d.length ee,.slice H x.m.length h]:=by rw[←hW3];exact (((((kR.set_ 0 _).set_ 1 _).set_ 2 _).set_ 3 _).set_ 4 _).set_ 5 _
 obtain⟨r0,r1,r2,r3,r4,r5⟩:=c_6 k3;have hsa:=ga.size;have hsw:W.heap.size=w0.heap.size+1:=HSW.out;have HX3:=h_ (hx2.chg hch (.inr (by omega))).rd;have GF:=h_ (gg.trans (hch.below (l_ _) (by omega)));clear hx hx2 kX kR gg hch k3 ga hb KR G0;go_wp2;refine bodyPost_ret (v:=.tuple #[.agg #[.int .i64 x.p,.int .i64 x.q.v,.slice A x.q.f.length a,.slice C x.q.t.length c,.slice E x.d.length ee,.slice H x.m.length h],.int .i64 i]) (by simp[results,go_sem,r0,r1,r2,r3,r4,r5]) rfl ?_;exact⟨_,x,i,rfl,HX3.out,hi,GF.out⟩
theorem f4J (R:Rp) (v:Int):∃ X B H,rsP R v=(X,B)∧hsIn R v=H∧(B=true→H=false→(w6_ R.q R.d v).1=X.d∧Fit2 X X∧Fit2 R R∧homN X X=homN R R∧s9_ X v=false∧(rsrP X v).2=true∧(rsrP X v).1.d=R.d∧∃ F G,IsoF (rsrP X v).1 R F G):=by
 obtain⟨⟨X,B⟩,hX⟩:∃ z,rsP R v=z:=⟨_,rfl⟩;refine⟨X,B,_,hX,rfl,fun hB hH=>?_⟩;have h:=c7z (x:=R) (v:=v) (by rw[hX];exact hB) hH;rw[hX]at h;exact h
theorem d8J (R:Rp) (v:Int):∃ X B H,rsrP R v=(X,B)∧s9_ R v=H∧(B=true→H=false→(w6_ R.q R.d v).1=X.d∧Fit2 X X∧Fit2 R R∧homN X X=homN R R):=by
 obtain⟨⟨X,B⟩,hX⟩:∃ z,rsrP R v=z:=⟨_,rfl⟩;refine⟨X,B,_,hX,rfl,fun hB hH=>?_⟩;have h:=d9Q (x:=R) (v:=v) (by rw[hX];exact hB) hH;rw[hX]at h;exact h
theorem M6_ (u:Value) (l:List Int) (w0:World) (hu:SlY w0 w0.heap.size u l) :
  Calls Tryz.prog 3 #[u] w0 fun e w'=>e = .returned (.bool true)∧Below w0.heap.size w0 w':=by
 have HU:=h_ hu;clear hu;go_enter Tryz.func3,Tryz.ntmps3
 go_wp2_with fail
 refine (d5z u l _ HU.out).mono ?_;rintro e w1 ⟨rfl,hb1⟩;obtain⟨B0,hB0⟩:=e_ (decide ((l.length:Int) > 1048576));rw[hB0];clear hB0;have HY1:=h_ (SlY.next hb1 HU.out);have G1:=h_ hb1;have hs1:=hb1.size;clear HU hb1;cases B0;rotate_left
 ·go_wp2;go_ret
  exact⟨rfl,G1.out⟩
 go_wp2_with fail
 refine (A5_ u l _ HY1.out).mono ?_;rintro e w2 ⟨ur,R,v,rfl,hxr,hv,hb2⟩;have hY:=SlY.next hb2 HY1.out;have g:=G1.out.trans (hb2.mono hs1);clear HY1 hb2 G1;obtain⟨Ar,ar,Cr,cr,Er,er,Hr,qr,rfl⟩:=hxr.form;obtain⟨W3,hW3,ga,bkr,hbkr,kr⟩:=b_2 w2 #[.int .i64 R.p,.int .i64 R.q.v,.slice Ar R.q.f.length ar,.slice Cr R.q.t.length cr,.slice Er R.d.length er,.slice Hr R.m.length qr] 29;replace g:=a6_ g ga;replace hY:=SlY.next ga hY;replace hxr:=RpR.next ga hxr;clear ga;obtain⟨yr0,yr1,yr2,yr3,yr4,yr5⟩:=c_6 kr;obtain⟨X,B,T,hX,hT,hlaw⟩:=f4J R v;have HX:=h_ hX;have HT:=h_ hT;have HLAW:=h_ hlaw;clear hX hT hlaw;go_wp2_with fail
 clear hW3 hbkr;refine (A3_ _ R v _ hxr hv).mono ?_;rintro e w4 ⟨rx,rfl,hrx,hb⟩;rw[HX.out]at hrx⊢;simp only at hrx⊢;replace g:=a6_ g hb;replace hY:=SlY.next hb hY;replace hxr:=RpR.next hb hxr;replace kr:=kr.call hb;replace yr0:=kr.cell' (i:=0) rfl;replace yr1:=kr.cell' (i:=1) rfl;replace yr2:=kr.cell' (i:=2) rfl;replace yr3:=kr.cell' (i:=3) rfl;replace yr4:=kr.cell' (i:=4) rfl;replace yr5:=kr.cell' (i:=5) rfl;clear hb;have hxx:=hrx.rd;clear hrx;obtain⟨Ax,ax,Cx,cx,Ex,ex,Hx,qx,rfl⟩:=hxx.form;obtain⟨W5,hW5,ga,bkx,hbkx,kx⟩:=b_2 w4 #[.int .i64 X.p,.int .i64 X.q.v,.slice Ax X.q.f.length ax,.slice Cx X.q.t.length cx,.slice Ex X.d.length ex,.slice Hx X.m.length qx] 29;replace g:=a6_ g ga;replace hY:=SlY.next ga hY;replace hxr:=RpR.next ga hxr;replace kr:=kr.call ga;replace yr0:=kr.cell' (i:=0) rfl;replace yr1:=kr.cell' (i:=1) rfl;replace yr2:=kr.cell' (i:=2) rfl;replace yr3:=kr.cell' (i:=3) rfl;replace yr4:=kr.cell' (i:=4) rfl;replace yr5:=kr.cell' (i:=5) rfl;replace hxx:=RpR.next ga hxx;clear ga;obtain⟨yx0,yx1,yx2,yx3,yx4,yx5⟩:=c_6 kx;go_wp2_with fail
 clear hW5 hbkx;refine (A2_ _ R v _ hxr hv).mono ?_;rintro e w6 ⟨ry,rfl,hry,hb⟩;rw[HX.out]at hry⊢;simp only at hry⊢;replace g:=a6_ g hb;replace hY:=SlY.next hb hY;replace hxr:=RpR.next hb hxr;replace kr:=kr.call hb;replace yr0:=kr.cell' (i:=0) rfl;replace yr1:=kr.cell' (i:=1) rfl;replace yr2:=kr.cell' (i:=2) rfl;replace yr3:=kr.cell' (i:=3) rfl;replace yr4:=kr.cell' (i:=4) rfl;replace yr5:=kr.cell' (i:=5) rfl;replace hxx:=RpR.next hb hxx;replace kx:=kx.call hb;replace yx0:=kx.cell' (i:=0) rfl;replace yx1:=kx.cell' (i:=1) rfl;replace yx2:=kx.cell' (i:=2) rfl;replace yx3:=kx.cell' (i:=3) rfl;replace yx4:=kx.cell' (i:=4) rfl;replace yx5:=kx.cell' (i:=5) rfl;clear hb;have hxy:=hry;clear hry;obtain⟨Ay,ay,Cy,cy,Ey,ey,Hy,qy,rfl⟩:=hxy.form;obtain⟨W7,hW7,ga,bky,hbky,ky⟩:=b_2 w6 #[.int .i64 X.p,.int .i64 X.q.v,.slice Ay X.q.f.length ay,.slice Cy X.q.t.length cy,.slice Ey X.d.length ey,.slice Hy X.m.length qy] 29;replace g:=a6_ g ga;replace hY:=SlY.next ga hY;replace hxr:=RpR.next ga hxr;replace kr:=kr.call ga;replace yr0:=kr.cell' (i:=0) rfl;replace yr1:=kr.cell' (i:=1) rfl;replace yr2:=kr.cell' (i:=2) rfl;replace yr3:=kr.cell' (i:=3) rfl;replace yr4:=kr.cell' (i:=4) rfl;replace yr5:=kr.cell' (i:=5) rfl;replace hxx:=RpR.next ga hxx;replace kx:=kx.call ga;replace yx0:=kx.cell' (i:=0) rfl;replace yx1:=kx.cell' (i:=1) rfl;replace yx2:=kx.cell' (i:=2) rfl;replace yx3:=kx.cell' (i:=3) rfl;replace yx4:=kx.cell' (i:=4) rfl;replace yx5:=kx.cell' (i:=5) rfl;replace hxy:=RpR.next ga hxy;clear ga;obtain⟨yy0,yy1,yy2,yy3,yy4,yy5⟩:=c_6 ky;go_wp2_with fail
 clear hW7 hbky;refine (v2_ _ R v _ hxr hv).mono ?_;rintro e w8 ⟨rfl,hb⟩;rw[HT.out];replace g:=a6_ g hb;replace hY:=SlY.next hb hY;replace hxr:=RpR.next hb hxr;replace kr:=kr.call hb;replace yr0:=kr.cell' (i:=0) rfl;replace yr1:=kr.cell' (i:=1) rfl;replace yr2:=kr.cell' (i:=2) rfl;replace yr3:=kr.cell' (i:=3) rfl;replace yr4:=kr.cell' (i:=4) rfl;replace yr5:=kr.cell' (i:=5) rfl;replace hxx:=RpR.next hb hxx;replace kx:=kx.call hb;replace yx0:=kx.cell' (i:=0) rfl;replace yx1:=kx.cell' (i:=1) rfl;replace yx2:=kx.cell' (i:=2) rfl;replace yx3:=kx.cell' (i:=3) rfl;replace yx4:=kx.cell' (i:=4) rfl;replace yx5:=kx.cell' (i:=5) rfl;replace hxy:=RpR.next hb hxy;replace ky:=ky.call hb;replace yy0:=ky.cell' (i:=0) rfl;replace yy1:=ky.cell' (i:=1) rfl;replace yy2:=ky.cell' (i:=2) rfl;replace yy3:=ky.cell' (i:=3) rfl;replace yy4:=ky.cell' (i:=4) rfl;replace yy5:=ky.cell' (i:=5) rfl;clear hb;have nb:(B != B)=false:=by simp
 have nt:(T != T)=false:=by simp
 go_wp2_with fail
 refine (s6_ _ _ X _ hxx hxy).mono ?_;rintro e w9 ⟨rfl,hb⟩;replace g:=a6_ g hb;replace hY:=SlY.next hb hY;replace hxr:=RpR.next hb hxr;replace kr:=kr.call hb;replace yr0:=kr.cell' (i:=0) rfl;replace yr1:=kr.cell' (i:=1) rfl;replace yr2:=kr.cell' (i:=2) rfl;replace yr3:=kr.cell' (i:=3) rfl;replace yr4:=kr.cell' (i:=4) rfl;replace yr5:=kr.cell' (i:=5) rfl;replace hxx:=RpR.next hb hxx;replace kx:=kx.call hb;replace yx0:=kx.cell' (i:=0) rfl;replace yx1:=kx.cell' (i:=1) rfl;replace yx2:=kx.cell' (i:=2) rfl;replace yx3:=kx.cell' (i:=3) rfl;replace yx4:=kx.cell' (i:=4) rfl;replace yx5:=kx.cell' (i:=5) rfl;replace hxy:=RpR.next hb hxy;replace ky:=ky.call hb;replace yy0:=ky.cell' (i:=0) rfl;replace yy1:=ky.cell' (i:=1) rfl;replace yy2:=ky.cell' (i:=2) rfl;replace yy3:=ky.cell' (i:=3) rfl;replace yy4:=ky.cell' (i:=4) rfl;replace yy5:=ky.cell' (i:=5) rfl;clear hb hxx kx yx0 yx1 yx2 yx3 yx4 yx5;go_wp2_with fail
 refine (u7_ _ R v _ hxr hv).mono ?_;rintro e w10 ⟨rfl,hb⟩;rw[HT.out];replace g:=a6_ g hb;replace hY:=SlY.next hb hY;replace hxr:=RpR.next hb hxr;replace kr:=kr.call hb;replace yr0:=kr.cell' (i:=0) rfl;replace yr1:=kr.cell' (i:=1) rfl;replace yr2:=kr.cell' (i:=2) rfl;replace yr3:=kr.cell' (i:=3) rfl;replace yr4:=kr.cell' (i:=4) rfl;replace yr5:=kr.cell' (i:=5) rfl;replace hxy:=RpR.next hb hxy;replace ky:=ky.call hb;replace yy0:=ky.cell' (i:=0) rfl;replace yy1:=ky.cell' (i:=1) rfl;replace yy2:=ky.cell' (i:=2) rfl;replace yy3:=ky.cell' (i:=3) rfl;replace yy4:=ky.cell' (i:=4) rfl;replace yy5:=ky.cell' (i:=5) rfl;clear hb;have HY:=h_ hY;have HG:=h_ g;have HXR:=h_ hxr;have HXY:=h_ hxy;have HKR:=h_ kr;have HKY:=h_ ky;have HV:=h_ hv;clear hY g hxr hxy kr ky hv;go_upto_region 9 with fail
 go_cut [73] from 69 to 73 (fun s wx=>s = .bool (B && !T)∧wx=w10)
 case first=>cases B <;> cases T <;> (go_wp2;go_meet;exact⟨rfl,rfl⟩)
 case rest =>
  obtain⟨rfl,hwc⟩:=hcut;replace hwc:=hwc.symm;subst hwc;obtain⟨cc,hcc⟩:=e_ ((B && !T));rw[hcc];have HCC:=h_ hcc;clear hcc;go_upto_if 73 with fail
  go_cut [10,11,12,13] from 74 to 123 (fun _ _ _ _ wx=>SlY wx wx.heap.size u l∧Below w0.heap.size w0 wx∧RpR wx wx.heap.size (.agg #[.int .i64 R.p,.int .i64 R.q.v,.slice Ar R.q.f.length ar,.slice Cr R.q.t.length cr,.slice Er R.d.length er,.slice Hr R.m.length qr]) R∧Blk wx bkr 29 #[.int .i64 R.p,.int .i64 R.q.v,.slice Ar R.q.f.length ar,.slice Cr R.q.t.length cr,.slice Er R.d.length er,.slice Hr R.m.length qr])
  case first =>
   cases cc
   ·go_wp2;go_meet
    case rel=>exact⟨HY.out,HG.out,HXR.out,HKR.out⟩
   ··have hcc:=HCC.out;simp only[l9_,Bool.not_eq_true']at hcc;obtain⟨f1,f2,f3,f4,f5,f6,f7,FF,GG,f8⟩:=HLAW.out hcc.1 hcc.2;clear hcc HCC;have F1:=h_ f1;have F2:=h_ f2;have F3:=h_ f3;have F4:=h_ (show ((homN X X:Nat):Int)=((homN R R:Nat):Int) from by rw[f4]);have F5:=h_ f5;have F6:=h_ f6;have F7:=h_ f7;have F8:=h_ f8;clear f1 f2 f3 f4 f5 f6 f7 f8 HLAW HX HT;have hrq:=HXR.out;obtain⟨Ar',ar',Cr',cr',Er',er',Hr',hr',e9,hq,hd,_,_⟩:=hrq.open_;simp only[Value.agg.injEq,Array.mk.injEq,List.cons.injEq,Value.slice.injEq,and_true,true_and]at e9;obtain⟨⟨rfl,rfl⟩,⟨rfl,rfl⟩,⟨rfl,rfl⟩,⟨rfl,rfl⟩⟩:=e9;clear hrq;go_wp2_with fail
     refine (r8_ _ R.q _ R.d v _ hq hd HV.out).mono ?_;rintro e w11 ⟨dv,rfl,hdv,hb⟩;rw[F1.out]at hdv;obtain⟨Dd,dd,edv⟩:=hdv.form;subst edv;obtain⟨B2,hB2⟩:=e_ ((w6_ R.q R.d v).2);rw[hB2];clear hB2 hq hd;have HDV:=h_ hdv.rd;clear hdv;have hY:=HY.out;have g:=HG.out;have hxr:=HXR.out;have hxy:=HXY.out;have kr:=HKR.out;have ky:=HKY.out;clear HY HG HXR HXY HKR HKY;replace g:=a6_ g hb;replace hY:=SlY.next hb hY;replace hxr:=RpR.next hb hxr;replace hxy:=RpR.next hb hxy;replace kr:=kr.call hb;replace yr0:=kr.cell' (i:=0) rfl;replace yr1:=kr.cell' (i:=1) rfl;replace yr2:=kr.cell' (i:=2) rfl;replace yr3:=kr.cell' (i:=3) rfl;replace yr4:=kr.cell' (i:=4) rfl;replace yr5:=kr.cell' (i:=5) rfl;replace ky:=ky.call hb;replace yy0:=ky.cell' (i:=0) rfl;replace yy1:=ky.cell' (i:=1) rfl;replace yy2:=ky.cell' (i:=2) rfl;replace yy3:=ky.cell' (i:=3) rfl;replace yy4:=ky.cell' (i:=4) rfl;replace yy5:=ky.cell' (i:=5) rfl;clear hb;have HY:=h_ hY;have HG:=h_ g;have HXR:=h_ hxr;have HXY:=h_ hxy;have HKR:=h_ kr;have HKY:=h_ ky;clear hY g hxr hxy kr ky;have hdy:SlI w11 w11.heap.size (.slice Ey X.d.length ey) X.d:=by
      obtain⟨Ar',ar',Cr',cr',Er',er',Hr',hr',e9,_,hd,_,_⟩:=HXY.out.open_;simp only[Value.agg.injEq,Array.mk.injEq,List.cons.injEq,Value.slice.injEq,and_true,true_and]at e9;obtain⟨⟨rfl,rfl⟩,⟨rfl,rfl⟩,⟨rfl,rfl⟩,⟨rfl,rfl⟩⟩:=e9;exact hd
     have HDY:=h_ hdy;clear hdy;obtain⟨hm,hhm⟩:=e_ (((homN R R:Nat):Int));have HHM:=h_ hhm;clear hhm;clear yr0 yr1 yr2 yr3 yr4 yr5 yy0 yy1 yy2 yy3 yy4 yy5;go_upto_region 11 with fail
     refine t2_ (by kernel_rfl) [.eq (.slice Dd X.d.length dd),.eq (.pointer (some ⟨bky,4,none⟩)),.eq (.slice Ey X.d.length ey),.eq (.bool true),.eq (.bool false),.eq (.bool false),.eq (.agg #[.int .i64 X.p,.int .i64 X.q.v,.slice Ay X.q.f.length ay,.slice Cy X.q.t.length cy,.slice Ey X.d.length ey,.slice Hy X.m.length qy]),.eq (.agg #[.int .i64 X.p,.int .i64 X.q.v,.slice Ay X.q.f.length ay,.slice Cy X.q.t.length cy,.slice Ey X.d.length ey,.slice Hy X.m.length qy]),.eq (.int .i64 hm),.eq (.agg #[.int .i64 R.p,.int .i64 R.q.v,.slice Ar R.q.f.length ar,.slice Cr R.q.t.length cr,.slice Er R.d.length er,.slice Hr R.m.length qr]),.eq (.agg #[.int .i64 R.p,.int .i64 R.q.v,.slice Ar R.q.f.length ar,.slice Cr R.q.t.length cr,.slice Er R.d.length er,.slice Hr R.m.length qr]),.eq (.int .i64 hm),.eq (.bool false),.eq (.bool false),.eq (.bool false),.eq (.agg #[.int .i64 X.p,.int .i64 X.q.v,.slice Ay X.q.f.length ay,.slice Cy X.q.t.length cy,.slice Ey X.d.length ey,.slice Hy X.m.length qy]),.eq (.int .i64 v),.eq (.bool false),.eq (.bool false)] [[],[],[1],[0,1,2],[0,1,2,3],[0,1,2,3,4],[0,1,2,3,4,5],[0,1,2,3,4,5],[0,1,2,3,4,5,6,7],[0,1,2,3,4,5],[0,1,2,3,4,5],[0,1,2,3,4,5,6,7,8,9,10],[0,1,2,3,4,5,6,7,8,9,10,11],[0,1,2,3,4,5,6,7,8,9,10,11,12],[0,1,2,3,4,5,6,7,8,9,10,11,12,13],[0,1,2,3,4,5,6,7,8,9,10,11,12,13,14],[0,1,2,3,4,5,6,7,8,9,10,11,12,13,14],[0,1,2,3,4,5,6,7,8,9,10,11,12,13,14,15,16],[0,1,2,3,4,5,6,7,8,9,10,11,12,13,14,15,16,17]] 19 (by kernel_rfl) ⟨trivial,trivial,trivial,trivial,trivial,trivial,trivial,trivial,trivial,trivial,trivial,trivial,trivial,trivial,trivial,trivial,trivial,trivial,trivial,trivial⟩ ⟨?_,?_,?_,?_,?_,?_,?_,?_,?_,?_,?_,?_,?_,?_,?_,?_,?_,?_,?_,trivial⟩ ?_;iterate 19 (intro x w hb hk Q' hQ;have he:=k_e hk;simp only[k_s]at he;simp only[netE]at hQ⊢;(try simp only[he]at hQ⊢);(try clear he);rotate_left)
     rotate_left
     iterate 2 (· clear hk;go_wp2;exact hQ _ _ br_ rfl)
     ·clear hk;have z:=(HKY.out.call hb).cell' (i:=4) rfl;go_wp2;exact hQ _ _ br_ rfl
     ·clear hk;go_wp2_with fail
      refine (L0_ _ _ X.d _ (SlI.next hb HDV.out) (SlI.next hb HDY.out)).mono ?_;rintro e w8 ⟨rfl,hb8⟩;go_wp2;exact hQ _ _ hb8 rfl
     iterate 2 (· clear hk;go_wp2;exact hQ _ _ br_ rfl)
     ·clear hk;have e0:=(HKY.out.call hb);obtain⟨z0,z1,z2,z3,z4,z5⟩:=c_6 e0;clear e0;go_wp2;exact hQ _ _ br_ rfl
     ·clear hk;have e0:=(HKY.out.call hb);obtain⟨z0,z1,z2,z3,z4,z5⟩:=c_6 e0;clear e0;go_wp2;exact hQ _ _ br_ rfl
     ·clear hk;go_wp2_with fail
      refine (o8_ _ _ X X _ (RpR.next hb HXY.out) (RpR.next hb HXY.out) F2.out).mono ?_;rintro e w8 ⟨rfl,hb8⟩;rw[F4.out,HHM.out];go_wp2;exact hQ _ _ hb8 rfl
     ·clear hk;have e0:=(HKR.out.call hb);obtain⟨z0,z1,z2,z3,z4,z5⟩:=c_6 e0;clear e0;go_wp2;exact hQ _ _ br_ rfl
     ·clear hk;have e0:=(HKR.out.call hb);obtain⟨z0,z1,z2,z3,z4,z5⟩:=c_6 e0;clear e0;go_wp2;exact hQ _ _ br_ rfl
     ·clear hk;go_wp2_with fail
      refine (o8_ _ _ R R _ (RpR.next hb HXR.out) (RpR.next hb HXR.out) F3.out).mono ?_;rintro e w8 ⟨rfl,hb8⟩;rw[HHM.out];go_wp2;exact hQ _ _ hb8 rfl
     ·clear hk;have e1:(hm != hm)=false:=by simp
      go_wp2;exact hQ _ _ br_ rfl
     iterate 2 (· clear hk;go_wp2;exact hQ _ _ br_ rfl)
     ·clear hk;have e0:=(HKY.out.call hb);obtain⟨z0,z1,z2,z3,z4,z5⟩:=c_6 e0;clear e0;go_wp2;exact hQ _ _ br_ rfl
     ·clear hk;go_wp2;exact hQ _ _ br_ rfl
     ·clear hk;go_wp2_with fail
      refine (m3_ _ X v _ (RpR.next hb HXY.out) HV.out).mono ?_;rintro e w8 ⟨rfl,hb8⟩;rw[F5.out];go_wp2;exact hQ _ _ hb8 rfl
     ·clear hk;go_wp2;exact hQ _ _ br_ rfl
     ·intro x w hb hk hiv hdj;have he:=k_g hk [0,1,2,3,4,5,6,7,8,9,10,11,12,13,14,15,16,17,18];simp only[k_s]at he;simp only[netE,he];clear he hk;have g:=HG.out.trans (hb.mono HG.out.size);have hY:=SlY.next hb HY.out;have hxr:=RpR.next hb HXR.out;have hxy:=RpR.next hb HXY.out;have kr:=HKR.out.call hb;have ky:=HKY.out.call hb;clear hiv hdj hb HY HG HXR HXY HKR HKY HDV HDY HHM F1 F2 F4 F5;obtain⟨yr0,yr1,yr2,yr3,yr4,yr5⟩:=c_6 kr;obtain⟨yy0,yy1,yy2,yy3,yy4,yy5⟩:=c_6 ky;obtain⟨⟨Z,B3⟩,hZ⟩:∃ z,rsrP X v=z:=⟨_,rfl⟩;rw[hZ]at F6 F7 F8;have HZ:=h_ hZ;clear hZ;have hB3:B3=true:=F6.out;subst hB3;clear F6;go_wp2_with fail
      refine (p4_ _ X v _ hxy HV.out).mono ?_;rintro e w12 ⟨rz,rfl,hrz,hb⟩;rw[HZ.out]at hrz⊢;simp only at hrz⊢;replace g:=a6_ g hb;replace hY:=SlY.next hb hY;replace hxr:=RpR.next hb hxr;replace hxy:=RpR.next hb hxy;replace kr:=kr.call hb;replace yr0:=kr.cell' (i:=0) rfl;replace yr1:=kr.cell' (i:=1) rfl;replace yr2:=kr.cell' (i:=2) rfl;replace yr3:=kr.cell' (i:=3) rfl;replace yr4:=kr.cell' (i:=4) rfl;replace yr5:=kr.cell' (i:=5) rfl;replace ky:=ky.call hb;replace yy0:=ky.cell' (i:=0) rfl;replace yy1:=ky.cell' (i:=1) rfl;replace yy2:=ky.cell' (i:=2) rfl;replace yy3:=ky.cell' (i:=3) rfl;replace yy4:=ky.cell' (i:=4) rfl;replace yy5:=ky.cell' (i:=5) rfl;clear hb;have hxz:=hrz.rd;clear hrz;obtain⟨Az,az,Cz,cz,Ez,ez,Hz,qz,rfl⟩:=hxz.form;obtain⟨W13,hW13,ga,bkz,hbkz,kz⟩:=b_2 w12 #[.int .i64 Z.p,.int .i64 Z.q.v,.slice Az Z.q.f.length az,.slice Cz Z.q.t.length cz,.slice Ez Z.d.length ez,.slice Hz Z.m.length qz] 29;replace g:=a6_ g ga;replace hY:=SlY.next ga hY;replace hxr:=RpR.next ga hxr;replace hxy:=RpR.next ga hxy;replace kr:=kr.call ga;replace yr0:=kr.cell' (i:=0) rfl;replace yr1:=kr.cell' (i:=1) rfl;replace yr2:=kr.cell' (i:=2) rfl;replace yr3:=kr.cell' (i:=3) rfl;replace yr4:=kr.cell' (i:=4) rfl;replace yr5:=kr.cell' (i:=5) rfl;replace ky:=ky.call ga;replace yy0:=ky.cell' (i:=0) rfl;replace yy1:=ky.cell' (i:=1) rfl;replace yy2:=ky.cell' (i:=2) rfl;replace yy3:=ky.cell' (i:=3) rfl;replace yy4:=ky.cell' (i:=4) rfl;replace yy5:=ky.cell' (i:=5) rfl;replace hxz:=RpR.next ga hxz;clear ga;obtain⟨yz0,yz1,yz2,yz3,yz4,yz5⟩:=c_6 kz;have hdz:SlI W13 W13.heap.size (.slice Ez Z.d.length ez) R.d:=by
       obtain⟨Ar',ar',Cr',cr',Er',er',Hr',hr',e9,_,hd,_,_⟩:=hxz.open_;simp only[Value.agg.injEq,Array.mk.injEq,List.cons.injEq,Value.slice.injEq,and_true,true_and]at e9;obtain⟨⟨rfl,rfl⟩,⟨rfl,rfl⟩,⟨rfl,rfl⟩,⟨rfl,rfl⟩⟩:=e9;have h:=F7.out;rw[h]at hd;rw[h];exact hd
      have hdr:SlI W13 W13.heap.size (.slice Er R.d.length er) R.d:=by
       obtain⟨Ar',ar',Cr',cr',Er',er',Hr',hr',e9,_,hd,_,_⟩:=hxr.open_;simp only[Value.agg.injEq,Array.mk.injEq,List.cons.injEq,Value.slice.injEq,and_true,true_and]at e9;obtain⟨⟨rfl,rfl⟩,⟨rfl,rfl⟩,⟨rfl,rfl⟩,⟨rfl,rfl⟩⟩:=e9;exact hd
      go_wp2_with fail
      clear hW13 hbkz;refine (L0_ _ _ R.d _ hdz hdr).mono ?_;rintro e w14 ⟨rfl,hb⟩;replace g:=a6_ g hb;replace hY:=SlY.next hb hY;replace hxr:=RpR.next hb hxr;replace hxy:=RpR.next hb hxy;replace kr:=kr.call hb;replace yr0:=kr.cell' (i:=0) rfl;replace yr1:=kr.cell' (i:=1) rfl;replace yr2:=kr.cell' (i:=2) rfl;replace yr3:=kr.cell' (i:=3) rfl;replace yr4:=kr.cell' (i:=4) rfl;replace yr5:=kr.cell' (i:=5) rfl;replace ky:=ky.call hb;replace yy0:=ky.cell' (i:=0) rfl;replace yy1:=ky.cell' (i:=1) rfl;replace yy2:=ky.cell' (i:=2) rfl;replace yy3:=ky.cell' (i:=3) rfl;replace yy4:=ky.cell' (i:=4) rfl;replace yy5:=ky.cell' (i:=5) rfl;replace hxz:=RpR.next hb hxz;replace kz:=kz.call hb;replace yz0:=kz.cell' (i:=0) rfl;replace yz1:=kz.cell' (i:=1) rfl;replace yz2:=kz.cell' (i:=2) rfl;replace yz3:=kz.cell' (i:=3) rfl;replace yz4:=kz.cell' (i:=4) rfl;replace yz5:=kz.cell' (i:=5) rfl;clear hb hdz hdr;go_wp2_with fail
      refine (a6q _ _ Z R FF GG _ hxz hxr F8.out F7.out).mono ?_;rintro e w15 ⟨⟨ri,rfl,hri⟩,hb⟩;have HYF:=h_ (SlY.next hb hY);have HGF:=h_ (a6_ g hb);have HXF:=h_ (RpR.next hb hxr);have HKF:=h_ (kr.call hb);clear hb hY g hxr hxy hxz kr ky kz yr0 yr1 yr2 yr3 yr4 yr5 yy0 yy1 yy2 yy3 yy4 yy5 yz0 yz1 yz2 yz3 yz4 yz5 HZ F3 F7 F8;have hr0:(ri == 0)=false:=by rcases hri with rfl | rfl <;> rfl
      clear hri;go_wp2;go_meet
      case rel=>exact⟨HYF.out,HGF.out,HXF.out,HKF.out⟩
  case rest =>
   clear HY HG HXR HXY HKR HKY HLAW HX HT HCC;obtain⟨hY,g,hxr,kr⟩:=hcut;obtain⟨v0,hv0⟩:∃ z,z=wc:=⟨_,rfl⟩;subst hv0;obtain⟨yr0,yr1,yr2,yr3,yr4,yr5⟩:=c_6 kr;go_wp2_with fail
   refine (x3_ u l _ hY).mono ?_;rintro e w20 ⟨ua,Q,vw,rfl,hxa,hvw,hb⟩;replace g:=a6_ g hb;replace hY:=SlY.next hb hY;replace hxr:=RpR.next hb hxr;replace kr:=kr.call hb;replace yr0:=kr.cell' (i:=0) rfl;replace yr1:=kr.cell' (i:=1) rfl;replace yr2:=kr.cell' (i:=2) rfl;replace yr3:=kr.cell' (i:=3) rfl;replace yr4:=kr.cell' (i:=4) rfl;replace yr5:=kr.cell' (i:=5) rfl;clear hb hY;obtain⟨Aa,aa,Ca,ca,Ea,ea,Ha,qa,rfl⟩:=hxa.form;obtain⟨W21,hW21,ga,bka,hbka,ka⟩:=b_2 w20 #[.int .i64 Q.p,.int .i64 Q.q.v,.slice Aa Q.q.f.length aa,.slice Ca Q.q.t.length ca,.slice Ea Q.d.length ea,.slice Ha Q.m.length qa] 29;replace g:=a6_ g ga;replace hxr:=RpR.next ga hxr;replace kr:=kr.call ga;replace yr0:=kr.cell' (i:=0) rfl;replace yr1:=kr.cell' (i:=1) rfl;replace yr2:=kr.cell' (i:=2) rfl;replace yr3:=kr.cell' (i:=3) rfl;replace yr4:=kr.cell' (i:=4) rfl;replace yr5:=kr.cell' (i:=5) rfl;replace hxa:=RpR.next ga hxa;clear ga;obtain⟨ya0,ya1,ya2,ya3,ya4,ya5⟩:=c_6 ka;obtain⟨P,B5,T5,hP,hT5,hlaw⟩:=d8J Q vw;have HP:=h_ hP;have HT5:=h_ hT5;have HLAW:=h_ hlaw;clear hP hT5 hlaw;go_wp2_with fail
   clear hW21 hbka;refine (p4_ _ Q vw _ hxa hvw).mono ?_;rintro e w22 ⟨rb,rfl,hrb,hb⟩;rw[HP.out]at hrb⊢;simp only at hrb⊢;replace g:=a6_ g hb;replace hxr:=RpR.next hb hxr;replace kr:=kr.call hb;replace yr0:=kr.cell' (i:=0) rfl;replace yr1:=kr.cell' (i:=1) rfl;replace yr2:=kr.cell' (i:=2) rfl;replace yr3:=kr.cell' (i:=3) rfl;replace yr4:=kr.cell' (i:=4) rfl;replace yr5:=kr.cell' (i:=5) rfl;replace hxa:=RpR.next hb hxa;replace ka:=ka.call hb;replace ya0:=ka.cell' (i:=0) rfl;replace ya1:=ka.cell' (i:=1) rfl;replace ya2:=ka.cell' (i:=2) rfl;replace ya3:=ka.cell' (i:=3) rfl;replace ya4:=ka.cell' (i:=4) rfl;replace ya5:=ka.cell' (i:=5) rfl;clear hb;have hxb:=hrb.rd;clear hrb;obtain⟨Ab,ab,Cb,cb,Eb,eb,Hb,qb,rfl⟩:=hxb.form;obtain⟨W23,hW23,ga,bkb,hbkb,kb⟩:=b_2 w22 #[.int .i64 P.p,.int .i64 P.q.v,.slice Ab P.q.f.length ab,.slice Cb P.q.t.length cb,.slice Eb P.d.length eb,.slice Hb P.m.length qb] 29;replace g:=a6_ g ga;replace hxr:=RpR.next ga hxr;replace kr:=kr.call ga;replace yr0:=kr.cell' (i:=0) rfl;replace yr1:=kr.cell' (i:=1) rfl;replace yr2:=kr.cell' (i:=2) rfl;replace yr3:=kr.cell' (i:=3) rfl;replace yr4:=kr.cell' (i:=4) rfl;replace yr5:=kr.cell' (i:=5) rfl;replace hxa:=RpR.next ga hxa;replace ka:=ka.call ga;replace ya0:=ka.cell' (i:=0) rfl;replace ya1:=ka.cell' (i:=1) rfl;replace ya2:=ka.cell' (i:=2) rfl;replace ya3:=ka.cell' (i:=3) rfl;replace ya4:=ka.cell' (i:=4) rfl;replace ya5:=ka.cell' (i:=5) rfl;replace hxb:=RpR.next ga hxb;clear ga;obtain⟨yb0,yb1,yb2,yb3,yb4,yb5⟩:=c_6 kb;go_wp2_with fail
   clear hW23 hbkb;refine (w7_ _ Q vw _ hxa hvw).mono ?_;rintro e w24 ⟨rc,rfl,hrc,hb⟩;rw[HP.out]at hrc⊢;simp only at hrc⊢;replace g:=a6_ g hb;replace hxr:=RpR.next hb hxr;replace kr:=kr.call hb;replace yr0:=kr.cell' (i:=0) rfl;replace yr1:=kr.cell' (i:=1) rfl;replace yr2:=kr.cell' (i:=2) rfl;replace yr3:=kr.cell' (i:=3) rfl;replace yr4:=kr.cell' (i:=4) rfl;replace yr5:=kr.cell' (i:=5) rfl;replace hxa:=RpR.next hb hxa;replace ka:=ka.call hb;replace ya0:=ka.cell' (i:=0) rfl;replace ya1:=ka.cell' (i:=1) rfl;replace ya2:=ka.cell' (i:=2) rfl;replace ya3:=ka.cell' (i:=3) rfl;replace ya4:=ka.cell' (i:=4) rfl;replace ya5:=ka.cell' (i:=5) rfl;replace hxb:=RpR.next hb hxb;replace kb:=kb.call hb;replace yb0:=kb.cell' (i:=0) rfl;replace yb1:=kb.cell' (i:=1) rfl;replace yb2:=kb.cell' (i:=2) rfl;replace yb3:=kb.cell' (i:=3) rfl;replace yb4:=kb.cell' (i:=4) rfl;replace yb5:=kb.cell' (i:=5) rfl;clear hb;have hxc:=hrc;clear hrc;obtain⟨Ac,ac,Cc,cc,Ec,ec,Hc,qc,rfl⟩:=hxc.form;obtain⟨W25,hW25,ga,bkc,hbkc,kc⟩:=b_2 w24 #[.int .i64 P.p,.int .i64 P.q.v,.slice Ac P.q.f.length ac,.slice Cc P.q.t.length cc,.slice Ec P.d.length ec,.slice Hc P.m.length qc] 29;replace g:=a6_ g ga;replace hxr:=RpR.next ga hxr;replace kr:=kr.call ga;replace yr0:=kr.cell' (i:=0) rfl;replace yr1:=kr.cell' (i:=1) rfl;replace yr2:=kr.cell' (i:=2) rfl;replace yr3:=kr.cell' (i:=3) rfl;replace yr4:=kr.cell' (i:=4) rfl;replace yr5:=kr.cell' (i:=5) rfl;replace hxa:=RpR.next ga hxa;replace ka:=ka.call ga;replace ya0:=ka.cell' (i:=0) rfl;replace ya1:=ka.cell' (i:=1) rfl;replace ya2:=ka.cell' (i:=2) rfl;replace ya3:=ka.cell' (i:=3) rfl;replace ya4:=ka.cell' (i:=4) rfl;replace ya5:=ka.cell' (i:=5) rfl;replace hxb:=RpR.next ga hxb;replace kb:=kb.call ga;replace yb0:=kb.cell' (i:=0) rfl;replace yb1:=kb.cell' (i:=1) rfl;replace yb2:=kb.cell' (i:=2) rfl;replace yb3:=kb.cell' (i:=3) rfl;replace yb4:=kb.cell' (i:=4) rfl;replace yb5:=kb.cell' (i:=5) rfl;replace hxc:=RpR.next ga hxc;clear ga;obtain⟨yc0,yc1,yc2,yc3,yc4,yc5⟩:=c_6 kc;go_wp2_with fail
   clear hW25 hbkc;refine (m3_ _ Q vw _ hxa hvw).mono ?_;rintro e w26 ⟨rfl,hb⟩;rw[HT5.out];replace g:=a6_ g hb;replace hxr:=RpR.next hb hxr;replace kr:=kr.call hb;replace yr0:=kr.cell' (i:=0) rfl;replace yr1:=kr.cell' (i:=1) rfl;replace yr2:=kr.cell' (i:=2) rfl;replace yr3:=kr.cell' (i:=3) rfl;replace yr4:=kr.cell' (i:=4) rfl;replace yr5:=kr.cell' (i:=5) rfl;replace hxa:=RpR.next hb hxa;replace ka:=ka.call hb;replace ya0:=ka.cell' (i:=0) rfl;replace ya1:=ka.cell' (i:=1) rfl;replace ya2:=ka.cell' (i:=2) rfl;replace ya3:=ka.cell' (i:=3) rfl;replace ya4:=ka.cell' (i:=4) rfl;replace ya5:=ka.cell' (i:=5) rfl;replace hxb:=RpR.next hb hxb;replace kb:=kb.call hb;replace yb0:=kb.cell' (i:=0) rfl;replace yb1:=kb.cell' (i:=1) rfl;replace yb2:=kb.cell' (i:=2) rfl;replace yb3:=kb.cell' (i:=3) rfl;replace yb4:=kb.cell' (i:=4) rfl;replace yb5:=kb.cell' (i:=5) rfl;replace hxc:=RpR.next hb hxc;replace kc:=kc.call hb;replace yc0:=kc.cell' (i:=0) rfl;replace yc1:=kc.cell' (i:=1) rfl;replace yc2:=kc.cell' (i:=2) rfl;replace yc3:=kc.cell' (i:=3) rfl;replace yc4:=kc.cell' (i:=4) rfl;replace yc5:=kc.cell' (i:=5) rfl;clear hb;have nb5:(B5 != B5)=false:=by simp
   have nt5:(T5 != T5)=false:=by simp
   go_wp2_with fail
   refine (s6_ _ _ P _ hxb hxc).mono ?_;rintro e w27 ⟨rfl,hb⟩;replace g:=a6_ g hb;replace hxr:=RpR.next hb hxr;replace kr:=kr.call hb;replace yr0:=kr.cell' (i:=0) rfl;replace yr1:=kr.cell' (i:=1) rfl;replace yr2:=kr.cell' (i:=2) rfl;replace yr3:=kr.cell' (i:=3) rfl;replace yr4:=kr.cell' (i:=4) rfl;replace yr5:=kr.cell' (i:=5) rfl;replace hxa:=RpR.next hb hxa;replace ka:=ka.call hb;replace ya0:=ka.cell' (i:=0) rfl;replace ya1:=ka.cell' (i:=1) rfl;replace ya2:=ka.cell' (i:=2) rfl;replace ya3:=ka.cell' (i:=3) rfl;replace ya4:=ka.cell' (i:=4) rfl;replace ya5:=ka.cell' (i:=5) rfl;replace hxb:=RpR.next hb hxb;replace kb:=kb.call hb;replace yb0:=kb.cell' (i:=0) rfl;replace yb1:=kb.cell' (i:=1) rfl;replace yb2:=kb.cell' (i:=2) rfl;replace yb3:=kb.cell' (i:=3) rfl;replace yb4:=kb.cell' (i:=4) rfl;replace yb5:=kb.cell' (i:=5) rfl;replace hxc:=RpR.next hb hxc;replace kc:=kc.call hb;replace yc0:=kc.cell' (i:=0) rfl;replace yc1:=kc.cell' (i:=1) rfl;replace yc2:=kc.cell' (i:=2) rfl;replace yc3:=kc.cell' (i:=3) rfl;replace yc4:=kc.cell' (i:=4) rfl;replace yc5:=kc.cell' (i:=5) rfl;clear hb hxb kb yb0 yb1 yb2 yb3 yb4 yb5;go_wp2_with fail
   refine (s8_ _ Q vw _ hxa hvw).mono ?_;rintro e w28 ⟨rfl,hb⟩;rw[HT5.out];replace g:=a6_ g hb;replace hxr:=RpR.next hb hxr;replace kr:=kr.call hb;replace yr0:=kr.cell' (i:=0) rfl;replace yr1:=kr.cell' (i:=1) rfl;replace yr2:=kr.cell' (i:=2) rfl;replace yr3:=kr.cell' (i:=3) rfl;replace yr4:=kr.cell' (i:=4) rfl;replace yr5:=kr.cell' (i:=5) rfl;replace hxa:=RpR.next hb hxa;replace ka:=ka.call hb;replace ya0:=ka.cell' (i:=0) rfl;replace ya1:=ka.cell' (i:=1) rfl;replace ya2:=ka.cell' (i:=2) rfl;replace ya3:=ka.cell' (i:=3) rfl;replace ya4:=ka.cell' (i:=4) rfl;replace ya5:=ka.cell' (i:=5) rfl;replace hxc:=RpR.next hb hxc;replace kc:=kc.call hb;replace yc0:=kc.cell' (i:=0) rfl;replace yc1:=kc.cell' (i:=1) rfl;replace yc2:=kc.cell' (i:=2) rfl;replace yc3:=kc.cell' (i:=3) rfl;replace yc4:=kc.cell' (i:=4) rfl;replace yc5:=kc.cell' (i:=5) rfl;clear hb;have HG:=h_ g;have HXR:=h_ hxr;have HKR:=h_ kr;have HXA:=h_ hxa;have HKA:=h_ ka;have HXC:=h_ hxc;have HKC:=h_ kc;have HVW:=h_ hvw;clear g hxr kr hxa ka hxc kc hvw;go_upto_region 22 with fail
   go_cut [164] from 160 to 164 (fun s wx=>s = .bool (B5 && !T5)∧wx=w28)
   case first=>cases B5 <;> cases T5 <;> (go_wp2;go_meet;exact⟨rfl,rfl⟩)
   case rest =>
    obtain⟨rfl,hwc⟩:=hcut;replace hwc:=hwc.symm;subst hwc;obtain⟨cc,hcc⟩:=e_ ((B5 && !T5));rw[hcc];have HCC:=h_ hcc;clear hcc;go_upto_if 164 with fail
    go_cut [21,22] from 165 to 187 (fun _ _ wx=>Below w0.heap.size w0 wx∧RpR wx wx.heap.size (.agg #[.int .i64 R.p,.int .i64 R.q.v,.slice Ar R.q.f.length ar,.slice Cr R.q.t.length cr,.slice Er R.d.length er,.slice Hr R.m.length qr]) R∧Blk wx bkr 29 #[.int .i64 R.p,.int .i64 R.q.v,.slice Ar R.q.f.length ar,.slice Cr R.q.t.length cr,.slice Er R.d.length er,.slice Hr R.m.length qr]∧RpR wx wx.heap.size (.agg #[.int .i64 Q.p,.int .i64 Q.q.v,.slice Aa Q.q.f.length aa,.slice Ca Q.q.t.length ca,.slice Ea Q.d.length ea,.slice Ha Q.m.length qa]) Q∧Blk wx bka 29 #[.int .i64 Q.p,.int .i64 Q.q.v,.slice Aa Q.q.f.length aa,.slice Ca Q.q.t.length ca,.slice Ea Q.d.length ea,.slice Ha Q.m.length qa])
    case first =>
     cases cc
     ·go_wp2;go_meet
      case rel=>exact⟨HG.out,HXR.out,HKR.out,HXA.out,HKA.out⟩
     ·have hcc:=HCC.out;simp only[l9_,Bool.not_eq_true']at hcc;obtain⟨f1,f2,f3,f4⟩:=HLAW.out hcc.1 hcc.2;clear hcc HCC;have F1:=h_ f1;have F2:=h_ f2;have F3:=h_ f3;have F4:=h_ (show ((homN P P:Nat):Int)=((homN Q Q:Nat):Int) from by rw[f4]);clear f1 f2 f3 f4 HLAW HP HT5;obtain⟨Ar',ar',Cr',cr',Er',er',Hr',hr',e9,hq,hd,_,_⟩:=HXA.out.open_;simp only[Value.agg.injEq,Array.mk.injEq,List.cons.injEq,Value.slice.injEq,and_true,true_and]at e9;obtain⟨⟨rfl,rfl⟩,⟨rfl,rfl⟩,⟨rfl,rfl⟩,⟨rfl,rfl⟩⟩:=e9;go_wp2_with fail
      refine (r8_ _ Q.q _ Q.d vw _ hq hd HVW.out).mono ?_;rintro e w29 ⟨dv,rfl,hdv,hb⟩;rw[F1.out]at hdv;obtain⟨Dd,dd,edv⟩:=hdv.form;subst edv;obtain⟨B2,hB2⟩:=e_ ((w6_ Q.q Q.d vw).2);rw[hB2];clear hB2 hq hd;have HDV:=h_ hdv.rd;have HG2:=h_ (a6_ HG.out hb);have HXR2:=h_ (RpR.next hb HXR.out);have HKR2:=h_ (HKR.out.call hb);have HXA2:=h_ (RpR.next hb HXA.out);have HKA2:=h_ (HKA.out.call hb);have HXC2:=h_ (RpR.next hb HXC.out);have HKC2:=h_ (HKC.out.call hb);clear hdv hb HG HXR HKR HXA HKA HXC HKC yr0 yr1 yr2 yr3 yr4 yr5 ya0 ya1 ya2 ya3 ya4 ya5 yc0 yc1 yc2 yc3 yc4 yc5;have hdy:SlI w29 w29.heap.size (.slice Ec P.d.length ec) P.d:=by
       obtain⟨Ar',ar',Cr',cr',Er',er',Hr',hr',e9,_,hd,_,_⟩:=HXC2.out.open_;simp only[Value.agg.injEq,Array.mk.injEq,List.cons.injEq,Value.slice.injEq,and_true,true_and]at e9;obtain⟨⟨rfl,rfl⟩,⟨rfl,rfl⟩,⟨rfl,rfl⟩,⟨rfl,rfl⟩⟩:=e9;exact hd
      have HDY:=h_ hdy;clear hdy;obtain⟨hm,hhm⟩:=e_ (((homN Q Q:Nat):Int));have HHM:=h_ hhm;clear hhm;go_upto_region 24 with fail
      refine t2_ (by kernel_rfl) [.eq (.slice Dd P.d.length dd),.eq (.pointer (some ⟨bkc,4,none⟩)),.eq (.slice Ec P.d.length ec),.eq (.bool true),.eq (.bool false),.eq (.bool false),.eq (.agg #[.int .i64 P.p,.int .i64 P.q.v,.slice Ac P.q.f.length ac,.slice Cc P.q.t.length cc,.slice Ec P.d.length ec,.slice Hc P.m.length qc]),.eq (.agg #[.int .i64 P.p,.int .i64 P.q.v,.slice Ac P.q.f.length ac,.slice Cc P.q.t.length cc,.slice Ec P.d.length ec,.slice Hc P.m.length qc]),.eq (.int .i64 hm),.eq (.agg #[.int .i64 Q.p,.int .i64 Q.q.v,.slice Aa Q.q.f.length aa,.slice Ca Q.q.t.length ca,.slice Ea Q.d.length ea,.slice Ha Q.m.length qa]),.eq (.agg #[.int .i64 Q.p,.int .i64 Q.q.v,.slice Aa Q.q.f.length aa,.slice Ca Q.q.t.length ca,.slice Ea Q.d.length ea,.slice Ha Q.m.length qa]),.eq (.int .i64 hm),.eq (.bool false),.eq (.bool false)] [[],[],[1],[0,1,2],[0,1,2,3],[0,1,2,3,4],[0,1,2,3,4,5],[0,1,2,3,4,5],[0,1,2,3,4,5,6,7],[0,1,2,3,4,5],[0,1,2,3,4,5],[0,1,2,3,4,5,6,7,8,9,10],[0,1,2,3,4,5,6,7,8,9,10,11],[0,1,2,3,4,5,6,7,8,9,10,11,12]] 14 (by kernel_rfl) ⟨trivial,trivial,trivial,trivial,trivial,trivial,trivial,trivial,trivial,trivial,trivial,trivial,trivial,trivial,trivial⟩ ⟨?_,?_,?_,?_,?_,?_,?_,?_,?_,?_,?_,?_,?_,?_,trivial⟩ ?_;iterate 14 (intro x w hb hk Q' hQ;have he:=k_e hk;simp only[k_s]at he;simp only[netE]at hQ⊢;(try simp only[he]at hQ⊢);(try clear he);rotate_left)
      rotate_left
      iterate 2 (· clear hk;go_wp2;exact hQ _ _ br_ rfl)
      ·clear hk;have z:=(HKC2.out.call hb).cell' (i:=4) rfl;go_wp2;exact hQ _ _ br_ rfl
      ·clear hk;go_wp2_with fail
       refine (L0_ _ _ P.d _ (SlI.next hb HDV.out) (SlI.next hb HDY.out)).mono ?_;rintro e w8 ⟨rfl,hb8⟩;go_wp2;exact hQ _ _ hb8 rfl
      iterate 2 (· clear hk;go_wp2;exact hQ _ _ br_ rfl)
      ·clear hk;have e0:=(HKC2.out.call hb);obtain⟨z0,z1,z2,z3,z4,z5⟩:=c_6 e0;clear e0;go_wp2;exact hQ _ _ br_ rfl
      ·clear hk;have e0:=(HKC2.out.call hb);obtain⟨z0,z1,z2,z3,z4,z5⟩:=c_6 e0;clear e0;go_wp2;exact hQ _ _ br_ rfl
      ·clear hk;go_wp2_with fail
       refine (o8_ _ _ P P _ (RpR.next hb HXC2.out) (RpR.next hb HXC2.out) F2.out).mono ?_;rintro e w8 ⟨rfl,hb8⟩;rw[F4.out,HHM.out];go_wp2;exact hQ _ _ hb8 rfl
      ·clear hk;have e0:=(HKA2.out.call hb);obtain⟨z0,z1,z2,z3,z4,z5⟩:=c_6 e0;clear e0;go_wp2;exact hQ _ _ br_ rfl
      ·clear hk;have e0:=(HKA2.out.call hb);obtain⟨z0,z1,z2,z3,z4,z5⟩:=c_6 e0;clear e0;go_wp2;exact hQ _ _ br_ rfl
      ·clear hk;go_wp2_with fail
       refine (o8_ _ _ Q Q _ (RpR.next hb HXA2.out) (RpR.next hb HXA2.out) F3.out).mono ?_;rintro e w8 ⟨rfl,hb8⟩;rw[HHM.out];go_wp2;exact hQ _ _ hb8 rfl
      ·clear hk;have e1:(hm != hm)=false:=by simp
       go_wp2;exact hQ _ _ br_ rfl
      ·clear hk;go_wp2;exact hQ _ _ br_ rfl
      ·intro x w hb hk hiv hdj;have he:=k_g hk [0,1,2,3,4,5,6,7,8,9,10,11,12,13];simp only[k_s]at he;simp only[netE,he];clear he hk;have HGF:=h_ (HG2.out.trans (hb.mono HG2.out.size));have HXRF:=h_ (RpR.next hb HXR2.out);have HKRF:=h_ (HKR2.out.call hb);have HXAF:=h_ (RpR.next hb HXA2.out);have HKAF:=h_ (HKA2.out.call hb);clear hiv hdj hb HG2 HXR2 HKR2 HXA2 HKA2 HXC2 HKC2 HDV HDY HHM F1 F2 F3 F4;go_wp2;go_meet
       case rel=>exact⟨HGF.out,HXRF.out,HKRF.out,HXAF.out,HKAF.out⟩
    case rest =>
     clear HG HXR HKR HXA HKA HXC HKC HLAW HP HT5 HCC;obtain⟨g,hxr,kr,hxa,ka⟩:=hcut;obtain⟨v1,hv1⟩:∃ z,z=wc:=⟨_,rfl⟩;subst hv1;obtain⟨yr0,yr1,yr2,yr3,yr4,yr5⟩:=c_6 kr;obtain⟨ya0,ya1,ya2,ya3,ya4,ya5⟩:=c_6 ka;obtain⟨⟨M,b1⟩,hM⟩:∃ z,inP R v=z:=⟨_,rfl⟩;obtain⟨⟨O,b2⟩,hO⟩:∃ z,outP Q vw=z:=⟨_,rfl⟩;have HM:=h_ hM;have HO:=h_ hO;clear hM hO;go_wp2_with fail
     refine (i1_ _ R v _ hxr HV.out).mono ?_;rintro e w40 ⟨rm,rfl,hrm,hb⟩;rw[HM.out]at hrm⊢;simp only at hrm⊢;replace g:=a6_ g hb;replace hxr:=RpR.next hb hxr;replace kr:=kr.call hb;replace yr0:=kr.cell' (i:=0) rfl;replace yr1:=kr.cell' (i:=1) rfl;replace yr2:=kr.cell' (i:=2) rfl;replace yr3:=kr.cell' (i:=3) rfl;replace yr4:=kr.cell' (i:=4) rfl;replace yr5:=kr.cell' (i:=5) rfl;replace hxa:=RpR.next hb hxa;replace ka:=ka.call hb;replace ya0:=ka.cell' (i:=0) rfl;replace ya1:=ka.cell' (i:=1) rfl;replace ya2:=ka.cell' (i:=2) rfl;replace ya3:=ka.cell' (i:=3) rfl;replace ya4:=ka.cell' (i:=4) rfl;replace ya5:=ka.cell' (i:=5) rfl;clear hb;have hxm:=hrm.rd;clear hrm;obtain⟨Am,am,rfl⟩:=hxm.form;obtain⟨W41,hW41,ga,bkm,hbkm,km⟩:=b_2 w40 #[.int .i64 M.r,.int .i64 M.c,.slice Am M.a.length am] 41;replace g:=a6_ g ga;replace hxr:=RpR.next ga hxr;replace kr:=kr.call ga;replace yr0:=kr.cell' (i:=0) rfl;replace yr1:=kr.cell' (i:=1) rfl;replace yr2:=kr.cell' (i:=2) rfl;replace yr3:=kr.cell' (i:=3) rfl;replace yr4:=kr.cell' (i:=4) rfl;replace yr5:=kr.cell' (i:=5) rfl;replace hxa:=RpR.next ga hxa;replace ka:=ka.call ga;replace ya0:=ka.cell' (i:=0) rfl;replace ya1:=ka.cell' (i:=1) rfl;replace ya2:=ka.cell' (i:=2) rfl;replace ya3:=ka.cell' (i:=3) rfl;replace ya4:=ka.cell' (i:=4) rfl;replace ya5:=ka.cell' (i:=5) rfl;replace hxm:=MxR.next ga hxm;clear ga;obtain⟨ym0,ym1,ym2⟩:=c_3 km;go_wp2_with fail
     clear hW41 hbkm;refine (i2_ _ R v _ hxr HV.out).mono ?_;rintro e w42 ⟨rn,rfl,hrn,hb⟩;rw[HM.out]at hrn⊢;simp only at hrn⊢;replace g:=a6_ g hb;replace hxr:=RpR.next hb hxr;replace kr:=kr.call hb;replace yr0:=kr.cell' (i:=0) rfl;replace yr1:=kr.cell' (i:=1) rfl;replace yr2:=kr.cell' (i:=2) rfl;replace yr3:=kr.cell' (i:=3) rfl;replace yr4:=kr.cell' (i:=4) rfl;replace yr5:=kr.cell' (i:=5) rfl;replace hxa:=RpR.next hb hxa;replace ka:=ka.call hb;replace ya0:=ka.cell' (i:=0) rfl;replace ya1:=ka.cell' (i:=1) rfl;replace ya2:=ka.cell' (i:=2) rfl;replace ya3:=ka.cell' (i:=3) rfl;replace ya4:=ka.cell' (i:=4) rfl;replace ya5:=ka.cell' (i:=5) rfl;replace hxm:=MxR.next hb hxm;replace km:=km.call hb;replace ym0:=km.cell' (i:=0) rfl;replace ym1:=km.cell' (i:=1) rfl;replace ym2:=km.cell' (i:=2) rfl;clear hb;have hxn:=hrn.rd;clear hrn;obtain⟨An,an,rfl⟩:=hxn.form;obtain⟨W43,hW43,ga,bkn,hbkn,kn⟩:=b_2 w42 #[.int .i64 M.r,.int .i64 M.c,.slice An M.a.length an] 41;replace g:=a6_ g ga;replace hxr:=RpR.next ga hxr;replace kr:=kr.call ga;replace yr0:=kr.cell' (i:=0) rfl;replace yr1:=kr.cell' (i:=1) rfl;replace yr2:=kr.cell' (i:=2) rfl;replace yr3:=kr.cell' (i:=3) rfl;replace yr4:=kr.cell' (i:=4) rfl;replace yr5:=kr.cell' (i:=5) rfl;replace hxa:=RpR.next ga hxa;replace ka:=ka.call ga;replace ya0:=ka.cell' (i:=0) rfl;replace ya1:=ka.cell' (i:=1) rfl;replace ya2:=ka.cell' (i:=2) rfl;replace ya3:=ka.cell' (i:=3) rfl;replace ya4:=ka.cell' (i:=4) rfl;replace ya5:=ka.cell' (i:=5) rfl;replace hxm:=MxR.next ga hxm;replace km:=km.call ga;replace ym0:=km.cell' (i:=0) rfl;replace ym1:=km.cell' (i:=1) rfl;replace ym2:=km.cell' (i:=2) rfl;replace hxn:=MxR.next ga hxn;clear ga;obtain⟨yn0,yn1,yn2⟩:=c_3 kn;go_wp2_with fail
     clear hW43 hbkn;refine (i0_ _ Q vw _ hxa HVW.out).mono ?_;rintro e w44 ⟨ro,rfl,hro,hb⟩;rw[HO.out]at hro⊢;simp only at hro⊢;replace g:=a6_ g hb;replace hxr:=RpR.next hb hxr;replace kr:=kr.call hb;replace yr0:=kr.cell' (i:=0) rfl;replace yr1:=kr.cell' (i:=1) rfl;replace yr2:=kr.cell' (i:=2) rfl;replace yr3:=kr.cell' (i:=3) rfl;replace yr4:=kr.cell' (i:=4) rfl;replace yr5:=kr.cell' (i:=5) rfl;replace hxa:=RpR.next hb hxa;replace ka:=ka.call hb;replace ya0:=ka.cell' (i:=0) rfl;replace ya1:=ka.cell' (i:=1) rfl;replace ya2:=ka.cell' (i:=2) rfl;replace ya3:=ka.cell' (i:=3) rfl;replace ya4:=ka.cell' (i:=4) rfl;replace ya5:=ka.cell' (i:=5) rfl;replace hxm:=MxR.next hb hxm;replace km:=km.call hb;replace ym0:=km.cell' (i:=0) rfl;replace ym1:=km.cell' (i:=1) rfl;replace ym2:=km.cell' (i:=2) rfl;replace hxn:=MxR.next hb hxn;replace kn:=kn.call hb;replace yn0:=kn.cell' (i:=0) rfl;replace yn1:=kn.cell' (i:=1) rfl;replace yn2:=kn.cell' (i:=2) rfl;clear hb;have hxo:=hro.rd;clear hro;obtain⟨Ao,ao,rfl⟩:=hxo.form;obtain⟨W45,hW45,ga,bko,hbko,ko⟩:=b_2 w44 #[.int .i64 O.r,.int .i64 O.c,.slice Ao O.a.length ao] 41;replace g:=a6_ g ga;replace hxr:=RpR.next ga hxr;replace kr:=kr.call ga;replace yr0:=kr.cell' (i:=0) rfl;replace yr1:=kr.cell' (i:=1) rfl;replace yr2:=kr.cell' (i:=2) rfl;replace yr3:=kr.cell' (i:=3) rfl;replace yr4:=kr.cell' (i:=4) rfl;replace yr5:=kr.cell' (i:=5) rfl;replace hxa:=RpR.next ga hxa;replace ka:=ka.call ga;replace ya0:=ka.cell' (i:=0) rfl;replace ya1:=ka.cell' (i:=1) rfl;replace ya2:=ka.cell' (i:=2) rfl;replace ya3:=ka.cell' (i:=3) rfl;replace ya4:=ka.cell' (i:=4) rfl;replace ya5:=ka.cell' (i:=5) rfl;replace hxm:=MxR.next ga hxm;replace km:=km.call ga;replace ym0:=km.cell' (i:=0) rfl;replace ym1:=km.cell' (i:=1) rfl;replace ym2:=km.cell' (i:=2) rfl;replace hxn:=MxR.next ga hxn;replace kn:=kn.call ga;replace yn0:=kn.cell' (i:=0) rfl;replace yn1:=kn.cell' (i:=1) rfl;replace yn2:=kn.cell' (i:=2) rfl;replace hxo:=MxR.next ga hxo;clear ga;obtain⟨yo0,yo1,yo2⟩:=c_3 ko;go_wp2_with fail
     clear hW45 hbko;refine (i3_ _ Q vw _ hxa HVW.out).mono ?_;rintro e w46 ⟨rp,rfl,hrp,hb⟩;rw[HO.out]at hrp⊢;simp only at hrp⊢;replace g:=a6_ g hb;replace hxr:=RpR.next hb hxr;replace kr:=kr.call hb;replace yr0:=kr.cell' (i:=0) rfl;replace yr1:=kr.cell' (i:=1) rfl;replace yr2:=kr.cell' (i:=2) rfl;replace yr3:=kr.cell' (i:=3) rfl;replace yr4:=kr.cell' (i:=4) rfl;replace yr5:=kr.cell' (i:=5) rfl;replace hxa:=RpR.next hb hxa;replace ka:=ka.call hb;replace ya0:=ka.cell' (i:=0) rfl;replace ya1:=ka.cell' (i:=1) rfl;replace ya2:=ka.cell' (i:=2) rfl;replace ya3:=ka.cell' (i:=3) rfl;replace ya4:=ka.cell' (i:=4) rfl;replace ya5:=ka.cell' (i:=5) rfl;replace hxm:=MxR.next hb hxm;replace km:=km.call hb;replace ym0:=km.cell' (i:=0) rfl;replace ym1:=km.cell' (i:=1) rfl;replace ym2:=km.cell' (i:=2) rfl;replace hxn:=MxR.next hb hxn;replace kn:=kn.call hb;replace yn0:=kn.cell' (i:=0) rfl;replace yn1:=kn.cell' (i:=1) rfl;replace yn2:=kn.cell' (i:=2) rfl;replace hxo:=MxR.next hb hxo;replace ko:=ko.call hb;replace yo0:=ko.cell' (i:=0) rfl;replace yo1:=ko.cell' (i:=1) rfl;replace yo2:=ko.cell' (i:=2) rfl;clear hb;have hxp:=hrp.rd;clear hrp;obtain⟨Ap,ap,rfl⟩:=hxp.form;obtain⟨W47,hW47,ga,bkp,hbkp,kp⟩:=b_2 w46 #[.int .i64 O.r,.int .i64 O.c,.slice Ap O.a.length ap] 41;replace g:=a6_ g ga;replace hxr:=RpR.next ga hxr;replace kr:=kr.call ga;replace yr0:=kr.cell' (i:=0) rfl;replace yr1:=kr.cell' (i:=1) rfl;replace yr2:=kr.cell' (i:=2) rfl;replace yr3:=kr.cell' (i:=3) rfl;replace yr4:=kr.cell' (i:=4) rfl;replace yr5:=kr.cell' (i:=5) rfl;replace hxa:=RpR.next ga hxa;replace ka:=ka.call ga;replace ya0:=ka.cell' (i:=0) rfl;replace ya1:=ka.cell' (i:=1) rfl;replace ya2:=ka.cell' (i:=2) rfl;replace ya3:=ka.cell' (i:=3) rfl;replace ya4:=ka.cell' (i:=4) rfl;replace ya5:=ka.cell' (i:=5) rfl;replace hxm:=MxR.next ga hxm;replace km:=km.call ga;replace ym0:=km.cell' (i:=0) rfl;replace ym1:=km.cell' (i:=1) rfl;replace ym2:=km.cell' (i:=2) rfl;replace hxn:=MxR.next ga hxn;replace kn:=kn.call ga;replace yn0:=kn.cell' (i:=0) rfl;replace yn1:=kn.cell' (i:=1) rfl;replace yn2:=kn.cell' (i:=2) rfl;replace hxo:=MxR.next ga hxo;replace ko:=ko.call ga;replace yo0:=ko.cell' (i:=0) rfl;replace yo1:=ko.cell' (i:=1) rfl;replace yo2:=ko.cell' (i:=2) rfl;replace hxp:=MxR.next ga hxp;clear ga;obtain⟨yp0,yp1,yp2⟩:=c_3 kp;have e1:(b1 == b1)=true:=by simp
     have e2:(b2 == b2)=true:=by simp
     go_wp2_with fail
     clear hW47 hbkp;refine (j6_ _ _ M _ hxm hxn).mono ?_;rintro e w48 ⟨rfl,hb⟩;replace g:=a6_ g hb;replace hxr:=RpR.next hb hxr;replace kr:=kr.call hb;replace yr0:=kr.cell' (i:=0) rfl;replace yr1:=kr.cell' (i:=1) rfl;replace yr2:=kr.cell' (i:=2) rfl;replace yr3:=kr.cell' (i:=3) rfl;replace yr4:=kr.cell' (i:=4) rfl;replace yr5:=kr.cell' (i:=5) rfl;replace hxa:=RpR.next hb hxa;replace ka:=ka.call hb;replace ya0:=ka.cell' (i:=0) rfl;replace ya1:=ka.cell' (i:=1) rfl;replace ya2:=ka.cell' (i:=2) rfl;replace ya3:=ka.cell' (i:=3) rfl;replace ya4:=ka.cell' (i:=4) rfl;replace ya5:=ka.cell' (i:=5) rfl;replace hxm:=MxR.next hb hxm;replace km:=km.call hb;replace ym0:=km.cell' (i:=0) rfl;replace ym1:=km.cell' (i:=1) rfl;replace ym2:=km.cell' (i:=2) rfl;replace hxn:=MxR.next hb hxn;replace kn:=kn.call hb;replace yn0:=kn.cell' (i:=0) rfl;replace yn1:=kn.cell' (i:=1) rfl;replace yn2:=kn.cell' (i:=2) rfl;replace hxo:=MxR.next hb hxo;replace ko:=ko.call hb;replace yo0:=ko.cell' (i:=0) rfl;replace yo1:=ko.cell' (i:=1) rfl;replace yo2:=ko.cell' (i:=2) rfl;replace hxp:=MxR.next hb hxp;replace kp:=kp.call hb;replace yp0:=kp.cell' (i:=0) rfl;replace yp1:=kp.cell' (i:=1) rfl;replace yp2:=kp.cell' (i:=2) rfl;clear hb;go_wp2_with fail
     refine (j6_ _ _ O _ hxo hxp).mono ?_;rintro e w49 ⟨rfl,hb⟩;have GF:=h_ (a6_ g hb);clear hb g hxr kr hxa ka hxm hxn hxo hxp km kn ko kp;go_wp2;go_ret
     exact⟨rfl,GF.out⟩
end Go.Proofs.YtnohdlkailpnoaaGreat
namespace Go.Proofs.YtnohdlkailpnoaaGreat
open Go.RowKit Go.ChangeShapes Go.WideShapes Go.ChangeAt Go.Deep
theorem N1_ (A:Option Addr) (n c:Nat) (w:World) (hn:1048576<n) (hn2:n≤9223372036854775807) :
  Calls Tryz.prog 3 #[.slice A n c] w fun e w'=>e = .returned (.bool true)∧Below w.heap.size w w':=by
 have hB:Calls Tryz.prog 4 #[.slice A n c] w fun e w'=>e = .returned (.bool true)∧Below w.heap.size w w':=by
  have hd:decide ((n:Int) > 1048576)=true:=decide_eq_true (by omega);go_enter Tryz.func4,Tryz.ntmps4
  go_wp2;go_ret
  exact⟨by first | rfl | (rw[show (true:Bool)=decide ((n:Int) > 1048576) from hd.symm];rfl),Below.refl _ _⟩
 go_enter Tryz.func3,Tryz.ntmps3
 go_wp2_with fail
 refine hB.mono ?_;rintro e w1 ⟨rfl,hb1⟩;go_wp2;go_ret
 exact⟨rfl,hb1⟩
theorem E5_ (os:Os) (started:os.Started) (H:Type) (enc:TypeId×Value→H) :
  ReturnsInHanded {} Tryz.checked os 3 .any (Rows.fnFunctorsSpec.pre6 enc Tryz.prog Tryz.f3 Rows.fnFunctorsRow.domain false) (Rows.fnFunctorsSpec.post enc Tryz.prog Tryz.f3 false true false false):=by
 refine c2q started (by kernel_rfl) Tryz.func3 (ChangeSpec.witness6 (enc:=enc) (C:=Tryz.checked) false ⟨#[],#[.slice none 0 0],[]⟩ 8 (by kernel_rfl) (by kernel_rfl) (by kernel_rfl) (by kernel_rfl))
  rfl rfl (by rw[Tryz.params3];intro t ht;simp only[List.mem_cons,List.not_mem_nil,or_false]at ht;rcases ht with rfl <;> exact⟨by kernel_rfl,of_decide_eq_true (by kernel_rfl)⟩) (fun ds hl=>by rw[Tryz.params3]at hl;match ds,hl with | [_],_=>rfl) ?_
 intro W args ds ps base hval hA hwt;rw[Tryz.params3]at hA hval hwt;obtain⟨v0,d0,hargs,rfl,h0⟩:=trodAll_one hA;obtain rfl:args=#[v0]:=by cases args;simp_all
 obtain⟨f,h0'⟩:=f8J Tryz.underlying22 (hval 0 _ _ rfl rfl) h0;obtain⟨v,e,hx⟩:=f6J h0';injection e with e
 subst e;rcases hx with ⟨A,n,c,rfl,h1,h2⟩ | ⟨xs,hx⟩
 ·exact N1_ A n c W h1 h2
 ·exact M6_ _ xs W hx
theorem E1_:joinedFacts Tryz.prog 3 Tryz.f3 Rows.fnFunctorsSpec Rows.fnFunctorsRow=true:=by
 unfold joinedFacts;refine band (band (band (band (band (band (band ?_ b1q) b0J) c1Z) ?_) ?_) ?_) ?_ <;> kernel_rfl
theorem fnFunctors_holds:Rows.FnFunctorsSaid :=
 OpenClaim.holds_of_wide 3 Tryz.f3 rfl rfl rfl rfl rfl rfl rfl ⟨rfl,rfl,rfl,rfl,rfl⟩ rfl rfl rfl rfl rfl (by kernel_rfl) Tryz.func3 E1_
  (of_decide_eq_true (by kernel_rfl)) (by unfold Func.isWrapper;first | (rw[if_pos (by decide +kernel)];kernel_rfl) | (rw[if_neg (by decide +kernel)];exact⟨rfl,rfl⟩))
  (fun os started H enc _=>E5_ os started H enc)
#print axioms fnFunctors_holds
end Go.Proofs.YtnohdlkailpnoaaGreat

