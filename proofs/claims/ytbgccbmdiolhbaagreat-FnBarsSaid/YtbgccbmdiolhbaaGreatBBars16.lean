/- FnBars: the law holds for every argument. Part 16 of 16 of the proof: DrwF, DrwM, DrwM2, DrwQ, DrwP, DrwV, DrwW, DrwY, DrY2, DrwC, DrwD, DrwE, LwB, LawBarsRow. No condition. -/
import Derived.Test.YtbgccbmdiolhbaaGreatBBars15
import Derived.Deep.CutRange
import Derived.Deep.LoopGhost
import Derived.Deep.CutBlock
set_option linter.unusedVariables false
set_option linter.unusedSimpArgs false
set_option maxHeartbeats 12800000
set_option maxRecDepth 100000
namespace Go.Proofs.YtbgccbmdiolhbaaGreat
open Go.RowKit
theorem Cur.ltF {w:World} {c:Nat} (h:Cur w c):c<w.heap.size:=by obtain⟨_,_,_,_,_,hB,_⟩:=h;exact hB.lt
theorem Cur.belowF {w w':World} {c lo:Nat} (h:Cur w c) (k:Below lo w w') (hc:c<lo):Cur w' c:=by
 obtain⟨A,cc,i,hh,l,hB,h1,h2,h3⟩:=h;exact⟨A,cc,i,hh,l,hB.below k hc,h1,h2,SlY.below (k.mono (Nat.le_of_lt hc)) h3⟩
theorem Ck.lowF {w0 w w':World} {c lo:Nat} (h:Ck c w0 w) (k:Below lo w w') (h1:w0.heap.size≤lo) (h2:c<lo):Ck c w0 w' :=
 ⟨k.os.trans h.os,k.tape.trans h.tape,k.output.trans h.output,Nat.le_trans h.size k.size,fun i hi hn=>(k.block i (by omega)).trans (h.block i hi hn),fun h0=>(h.keep h0).belowF k h2⟩
theorem a8_.ckF {w w':World} {lo hi c:Nat} {v:Value} {l:List Int} (h:a8_ w lo hi v l) (k:Ck c w w') (hc:c<lo):a8_ w' lo hi v l:=h.chg k.chg (.inr (by omega))
theorem OwnI.ckF {w w':World} {lo c:Nat} {v:Value} {l:List Int} (h:OwnI w lo v l) (k:Ck c w w') (hc:c<lo):OwnI w' lo v l:=((a8_.of_own h).ckF k hc).1
theorem g3Q {w:World} {g:Nat} {x:Int} (hk:Blk w g 3 #[.int .i64 x]) (hx:I64 x):SlI w w.heap.size (.slice (some ⟨g,0,none⟩) 1 1) [x]:=by
 refine⟨_,1,rfl,by simp,by omega,by simp,fun _=>⟨g,0,rfl,hk.lt,fun j y hj=>?_⟩⟩
 match j,hj with
 | 0,hj =>
  simp at hj;subst hj;exact⟨by rw[hk.cell];rfl,hx⟩
 | j+1,hj=>simp at hj
theorem OwnI.adrF {w:World} {lo n c:Nat} {A:Option Addr} {l:List Int} (h:OwnI w lo (.slice A n c) l) (h0:0<l.length):∃ g,A=some ⟨g,0,none⟩∧lo≤g∧g<w.heap.size:=by
 rcases h.1.2 with ⟨_,h1⟩ | ⟨g,cap,cur,e,hg,_⟩
 ·omega
 ·injection e with e1 _ _
  subst e1;exact⟨g,rfl,hg,(h.lt g rfl).2⟩
def FiX (w:World) (lo:Nat) (v:Value) (F:Filt):Prop:=∃ a b mid,v = .agg #[.int .i64 F.stages,a,b]∧a8_ w lo mid a F.birth∧b4_ w mid w.heap.size b F.ends∧lo≤mid∧I64 F.stages
theorem FiX.chg {w w':World} {lo g:Nat} {v:Value} {F:Filt} (h:FiX w lo v F) (hc:Chg g (g+1) w w') (hg:g<lo):FiX w' lo v F:=by
 obtain⟨a,b,mid,e,h1,h2,h3,h4⟩:=h;exact⟨a,b,mid,e,h1.chg hc (.inr (by omega)),(h2.chg hc (.inr (by omega))).wider (l_ _) hc.size,h3,h4⟩
theorem FiX.below {w w':World} {lo:Nat} {v:Value} {F:Filt} (h:FiX w lo v F) (hb:Below w.heap.size w w'):FiX w' lo v F:=by
 obtain⟨a,b,mid,e,h1,h2,h3,h4⟩:=h;exact⟨a,b,mid,e,h1.below hb,(h2.below hb).wider (l_ _) hb.size,h3,h4⟩
theorem FiX.rd {w:World} {lo:Nat} {v:Value} {F:Filt} (h:FiX w lo v F):FiR w w.heap.size v F:=by
 obtain⟨a,b,mid,e,h1,h2,_,h4⟩:=h;exact⟨a,b,e,h1.rd,h2.rd,h4⟩
theorem FiX.ck {w w':World} {lo c:Nat} {v:Value} {F:Filt} (h:FiX w lo v F) (k:Ck c w w') (hc:c<lo):FiX w' lo v F:=h.chg k.chg hc
section
variable {w w':World} {lo mid gf a d c:Nat} {S:Int} {A C:Option Addr} {B:List Int} {E:List (List Int)}
end
def b6J (v:Value):Prop:=∃ x,v = .int .i64 x∧I64 x
theorem G1_ (c:Nat) (p:Int) (r k:Nat) (w0:World) (hc:Cur w0 c) (hp:I64 p) (hr:r≤8) (hk:k≤8) :
  Calls Tryz.prog 118 #[.pointer (some ⟨c,0,none⟩),.int .i64 p,.int .i64 r,.int .i64 k] w0 fun e w'=>∃ v l,e = .returned v∧MxO w' (w0.heap.size+1) w'.heap.size v ⟨(r:Int),(k:Int),l⟩∧l.length=r*k∧(∀ x∈l,0≤x∧x≤4)∧Ck c w0 w':=by
 obtain⟨hp1,hp2⟩:=hp;have hcl:=hc.ltF;obtain⟨W,hW⟩:∃ W,W=w0.alloc (.cells #[.int .i64 0,.int .i64 0,.slice none 0 0] 65):=⟨_,rfl⟩;have g0:Ck c w0 W:=by rw[hW];exact Ck.of_below (a0_ _ _)
 have kR:Blk W w0.heap.size 65 #[.int .i64 0,.int .i64 0,.slice none 0 0]:=by rw[hW];exact Blk.new _ _ _
 have sW:W.heap.size=w0.heap.size+1:=by rw[hW];simp
 have hcw:w0.heap.size≠c:=by omega
 have KR:=h_ kR;have G0:=h_ g0;have HC:=h_ (g0.keep hc);clear kR hc g0;go_enter Tryz.func118,Tryz.ntmps118
 go_wp2_with fail
 rw[←hW];clear hW;refine (p7_ (r:Int) (k:Int) W (by omega) (by omega) (by omega) (by omega)).mono ?_;rintro e w1 ⟨v1,rfl,⟨s,rfl,hs,_⟩,hb1⟩;obtain⟨n,hn⟩:=e_ (r*k);have hn64:n≤64:=by
  have:r*k≤8*8:=Nat.mul_le_mul hr hk;omega
 have hl:(zmx (r:Int) (k:Int)).a=List.replicate n 0:=by
  simp only[zmx];rw[←Int.natCast_mul,l5_,hn]
 rw[hl]at hs;obtain⟨A,cp,rfl,_⟩:=hs.1.form;rw[List.length_replicate]at hs⊢;simp only[zmx];have hs1:=hb1.size;obtain⟨W2,hW2,gb,gm,hgm,kM⟩:=b_2 w1 #[.int .i64 (r:Int),.int .i64 (k:Int),.slice A n cp] 65;have hs2:W2.heap.size=gm+1:=by rw[←hW2,←hgm];simp
 have hR2:=hs.below gb;rw[hgm]at hR2;have hB2:=(Ck.of_below (c:=c) hb1).trans (Ck.of_below gb);have hC2:=hB2.keep HC.out;have hgmc:gm≠c:=by omega
 have hgW:W.heap.size≤gm:=by omega
 clear hb1 gb hs hl;go_wp2_with fail
 try rw[hW2]
 try rw[hgm]
 clear hW2 hgm;go_loopw [10] (fun iv wr=>∃ (i:Nat) (l:List Int),i≤n∧iv = .int .i64 i∧l.length=n∧(∀ x∈l,0≤x∧x≤4)∧gm<wr.heap.size∧Cur wr c∧Ck c W wr∧Blk wr gm 65 #[.int .i64 (r:Int),.int .i64 (k:Int),.slice A n cp]∧a8_ wr W.heap.size gm (.slice A n cp) l) (fun iv _=>n-(intOf iv).toNat)
 case atStart=>exact⟨0,_,l0_ _,rfl,List.length_replicate,fun x hx=>by rw[List.eq_of_mem_replicate hx];omega,by omega,hC2,hB2,kM,hR2⟩
 case round =>
  clear hC2 hB2 kM hR2;obtain⟨i,l,hi,rfl,hll,hlx,hgs,hC,hB,hM,hR⟩:=hrel;have HCr:=h_ hC;have HB:=h_ hB;have HM:=h_ hM;have HR:=h_ hR;have HL:=h_ hll;have HX:=h_ hlx;have q2:=hM.cell' (i:=2) rfl;clear hC hB hM hR hll hlx;by_cases hlt:i<n
  ·obtain⟨gA,rfl,hgA1,hgA2⟩:=HR.out.1.adrF (by have:=HL.out;omega);have hgAg:gA<gm:=HR.out.2 gA rfl;have hgAc:gA≠c:=by omega
   go_wp2;refine g3_ (c) (by kernel_rfl) [.eq (.pointer (some ⟨gm,2,none⟩)),.eq (.slice (some ⟨gA,0,none⟩) n cp),.eq (.int .i64 i),.eq (.pointer (some ⟨c,0,none⟩)),.eq (.int .i64 p),.eq (.int .i64 (min 5 p)),.eq (.int .i64 (max 1 (min 5 p))),rel 7 (fun u lo hi w=>∃ j:Nat,u = .int .i64 j∧j≤4),.eq (.pointer (some ⟨gA,i,none⟩))] [[],[0],[],[],[],[4],[4,5],[3,4,5,6],[0,1,2,3,4,5,6,7],[0,1,2,3,4,5,6,7,8]] 9 (by kernel_rfl) ⟨trivial,trivial,trivial,trivial,trivial,trivial,trivial,d6_ (fun u lo hi w w' h hb=>h),trivial,trivial⟩ ⟨?_,?_,?_,?_,?_,?_,?_,?_,?_,trivial⟩ ?_;iterate 9 (intro x w hb hk Q' hQ;have he:=k_e hk;simp only[k_s]at he;simp only[netE]at hQ⊢;(try simp only[he]at hQ⊢);(try clear he);rotate_left)
   rotate_left
   ·clear hk;go_wp2;exact hQ _ _ (Ck.refl _ _) rfl
   ·clear hk;have z:=(HM.out.ck hb hgmc).cell' (i:=2) rfl;go_wp2;exact hQ (.slice (some ⟨gA,0,none⟩) n cp) _ (Ck.refl _ _) rfl
   iterate 5 (· clear hk;go_wp2;exact hQ _ _ (Ck.refl _ _) rfl)
   ·clear hk;go_wp2_with fail
    refine (d3_ c _ _ (hb.keep HCr.out) ⟨by omega,by omega⟩).mono ?_;rintro e w7 ⟨j,hj,_,rfl,hb7⟩;go_wp2;exact hQ _ _ hb7 ⟨j,rfl,by omega⟩
   ·clear hk;go_wp2;exact hQ _ _ (Ck.refl _ _) rfl
   ·intro x w hb hk hiv hdj;have h7:∃ j:Nat,(x.v 7) = .int .i64 j∧j≤4:=hk 7 (by decide);have he:=k_g hk [0,1,2,3,4,5,6,8];simp only[k_s]at he;simp only[netE,he];clear he hk;obtain⟨j,e7,hj⟩:=h7;rw[e7];have hOw:=HR.out.ckF hb (by omega);have cX:=(hOw.1.cellG (j:=i) (by have:=HL.out;omega)).1;have fX:=hOw.1.frozenG i;have hput:=hOw.put (j:=i) (x:=(j:Int)) ⟨by omega,by omega⟩;obtain⟨W3,hW3⟩:=e_ (w.setCell ⟨gA,i,none⟩ (.int .i64 (j:Int)));rw[hW3]at hput;have hch:Chg gA (gA+1) w W3:=by rw[←hW3];exact a5_ (l_ _) (m0_ _)
    have hsb:=hb.size;have hwr:=HB.out.size;have hs3:=hch.size;have hlow:Below W.heap.size w W3:=hch.below hgA1 (by omega);have HB3:=h_ ((HB.out.trans hb).lowF hlow (l_ _) (by omega));have HC3:=h_ ((hb.keep HCr.out).belowF hlow (by omega));have HM3:=h_ ((HM.out.ck hb hgmc).chg hch (.inr (by omega)));have HR3:=h_ hput;have HL3:=h_ (show (l.set i (j:Int)).length=n by rw[List.length_set];exact HL.out);have HX3:=h_ (show ∀ x∈l.set i (j:Int),0≤x∧x≤4 from fun x hx=>by
     rcases List.mem_or_eq_of_mem_set hx with h | rfl
     ·exact HX.out x h
     ·omega)
    have hgs3:gm<W3.heap.size:=by omega
    clear hput hch hlow hOw hb hiv hdj e7 hsb hwr;go_wp2;clear hW3 cX fX;go_roundw
    case rel=>exact⟨i+1,_,by omega,by go_num,HL3.out,HX3.out,hgs3,HC3.out,HB3.out,HM3.out,HR3.out⟩
    case measure=>simp[intOf];omega
  ·obtain rfl:i=n:=by omega
   have q0:=HM.out.cell' (i:=0) rfl;have q1:=HM.out.cell' (i:=1) rfl;have kz:=KR.out.ck HB.out hcw;have fr:=kz.frozen;obtain⟨r0,r1,r2⟩:=c_3 kz;have hc3:=((a5_ (lo:=w0.heap.size) (hi:=w0.heap.size+1) (w:=wr) (p:=⟨w0.heap.size,0,none⟩) (u:=.int .i64 (r:Int)) (l_ _) (m0_ _)).trans (a5_ (p:=⟨w0.heap.size,1,none⟩) (u:=.int .i64 (k:Int)) (l_ _) (m0_ _))).trans (a5_ (p:=⟨w0.heap.size,2,none⟩) (u:=.slice A i cp) (l_ _) (m0_ _));have hsz:=HB.out.size;have OF:=h_ ((HR.out.chg hc3 (.inr (by omega))).wider (by omega:w0.heap.size+1≤W.heap.size) (Nat.le_trans (Nat.le_of_lt hgs) hc3.size));have GS:=h_ ((G0.out.trans HB.out).lowF (lo:=w0.heap.size) (hc3.below (l_ _) (by omega)) (l_ _) hcl);clear hc3 kz;go_wp2;exact bodyPost_ret (v:=.agg #[.int .i64 (r:Int),.int .i64 (k:Int),.slice A i cp]) (by simp[results,go_sem,r0,r1,r2]) rfl ⟨_,l,rfl,⟨_,rfl,OF.out,⟨by show (-9223372036854775808:Int)≤(r:Int);omega,by show (r:Int)≤9223372036854775807;omega⟩,⟨by show (-9223372036854775808:Int)≤(k:Int);omega,by show (k:Int)≤9223372036854775807;omega⟩⟩,by rw[hn];exact HL.out,HX.out,GS.out⟩
theorem c3X (c:Nat) (p:Int) (w0:World) (hc:Cur w0 c) (hp:I64 p) :
  Calls Tryz.prog 116 #[.pointer (some ⟨c,0,none⟩),.int .i64 p] w0 fun e w'=>∃ v m,e = .returned v∧MxO w' (w0.heap.size+1) w'.heap.size v m∧m.a.length≤10∧Ck c w0 w':=by
 have hp':=hp;obtain⟨hp1,hp2⟩:=hp';have hcl:=hc.ltF;obtain⟨W,hW⟩:∃ W,W=w0.alloc (.cells #[.int .i64 0,.int .i64 0,.slice none 0 0] 65):=⟨_,rfl⟩;have g0:Ck c w0 W:=by rw[hW];exact Ck.of_below (a0_ _ _)
 have kR:Blk W w0.heap.size 65 #[.int .i64 0,.int .i64 0,.slice none 0 0]:=by rw[hW];exact Blk.new _ _ _
 have sW:W.heap.size=w0.heap.size+1:=by rw[hW];simp
 have hcw:w0.heap.size≠c:=by omega
 have KR:=h_ kR;have G0:=h_ g0;have HC:=h_ (g0.keep hc);clear kR hc g0;go_enter Tryz.func116,Tryz.ntmps116
 go_wp2_with fail
 rw[←hW];clear hW;refine (d3_ c 4 _ HC.out ⟨by omega,by omega⟩).mono ?_;rintro e w1 ⟨r,hr,_,rfl,hb1⟩;have hr3:r≤3:=by omega
 have HC1:=h_ (hb1.keep HC.out);go_wp2_with fail
 refine (d3_ c 4 _ HC1.out ⟨by omega,by omega⟩).mono ?_;rintro e w2 ⟨k,hk,_,rfl,hb2⟩;have hk3:k≤3:=by omega
 have HC2:=h_ (hb2.keep HC1.out);have HB2:=h_ (hb1.trans hb2);clear hb1 hb2 hr hk HC1;go_wp2_with fail
 refine (G1_ c p r k _ HC2.out hp (by omega) (by omega)).mono ?_;rintro e w3 ⟨v,l,rfl,hM,hl,hx,hb3⟩;have hs2:=HB2.out.size;have hB3:=HB2.out.trans hb3;have hC3:=hb3.keep HC2.out;have hs3:=hb3.size;obtain⟨s,rfl,hs,_⟩:=hM;obtain⟨A,cp,rfl,_⟩:=hs.1.form;simp only at hs⊢;have hl9:l.length≤9:=by
  rw[hl];have:r*k≤3*3:=Nat.mul_le_mul hr3 hk3;omega
 obtain⟨n,hn⟩:=e_ (l.length);rw[hn]at hs hl9⊢;obtain⟨W4,hW4,gb,gm,hgm,kM⟩:=b_2 w3 #[.int .i64 (r:Int),.int .i64 (k:Int),.slice A n cp] 65;have hs4:W4.heap.size=gm+1:=by rw[←hW4,←hgm];simp
 have hR4:=(hs.below gb).wider (by omega:W.heap.size≤w2.heap.size+1) (Nat.le_of_eq hgm);have hB4:=hB3.trans (Ck.of_below gb);have hC4:=(Ck.of_below (c:=c) gb).keep hC3;have hcl3:=hC3.ltF;have hgmc:gm≠c:=by omega
 have hgW:W.heap.size≤gm:=by omega
 have HM4:=h_ kM;have HR4:=h_ hR4;have HB4:=h_ hB4;have HC4:=h_ hC4;clear kM hR4 hB4 hC4 hB3 hC3 hb3 gb hs HC2 HB2;go_wp2_with fail
 try rw[hW4]
 try rw[hgm]
 clear hW4 hgm;refine (d3_ c 18 _ HC4.out ⟨by omega,by omega⟩).mono ?_;rintro e w5 ⟨t,ht,_,rfl,hb5⟩;have HC5:=h_ (hb5.keep HC4.out);have HB5:=h_ (HB4.out.trans hb5);have HM5:=h_ (HM4.out.ck hb5 hgmc);have HR5:=h_ (HR4.out.ckF hb5 (by omega));have hs5:=hb5.size;clear hb5 HC4 HB4 HM4 HR4;have hgm5:gm<w5.heap.size:=by omega
 have HI:=h_ (show I64 (r:Int)∧I64 (k:Int) from ⟨⟨by omega,by omega⟩,⟨by omega,by omega⟩⟩);have HLN:=h_ (show l.length≤9 by omega);by_cases e0:t=0
 ·subst e0;go_wp2_with fail
  obtain⟨W6,hW6,gb,kS⟩:=b_1 w5 #[.int .i64 (-1),.int .i64 9,.int .i64 2,.int .i64 9223372036854775807] 3;have hcl5:=HC5.out.ltF;rw[hW6];refine (i8_ b6J c w5.heap.size 4 4 _ _ ((Ck.of_below (c:=c) gb).keep HC5.out) kS (by omega) (by omega) (by omega) (fun i hi=>?_) fun v h=>⟨_,h.choose_spec.1⟩).mono ?_
  ·match i,hi with
   | 0,_=>exact⟨_,rfl,_,rfl,by decide,by decide⟩
   | 1,_=>exact⟨_,rfl,_,rfl,by decide,by decide⟩
   | 2,_=>exact⟨_,rfl,_,rfl,by decide,by decide⟩
   | 3,_=>exact⟨_,rfl,_,rfl,by decide,by decide⟩
   | i+4,h=>omega
  rintro e w7 ⟨v,⟨x,rfl,hx⟩,rfl,hb7⟩;have hs6:=gb.size;have hs7:=hb7.size;have hM7:=(HM5.out.below gb hgm5).ck hb7 hgmc;have hR7:=(HR5.out.below gb).ckF hb7 (by omega);have hB7:=(HB5.out.trans (Ck.of_below gb)).trans hb7;have cX:=hM7.cell' (i:=0) rfl;have fX:=hM7.frozen;obtain⟨W8,hW8⟩:=e_ (w7.setCell ⟨gm,0,none⟩ (.int .i64 x));have hch:Chg gm (gm+1) w7 W8:=by rw[←hW8];exact a5_ (l_ _) (m0_ _)
  have hM8:Blk W8 gm 65 #[.int .i64 x,.int .i64 (k:Int),.slice A n cp]:=by rw[←hW8];exact hM7.set_ 0 _
  have hs8:=hch.size;have hR8:=(hR7.chg hch (.inl (l_ _))).wider (l_ W.heap.size) (by omega:gm≤W8.heap.size);have hB8:=hB7.lowF (hch.below (by omega:W.heap.size≤gm) (by omega)) (l_ _) (by omega);have HM8:=h_ hM8;have HR8:=h_ hR8;have HB8:=h_ hB8;have HX:=h_ hx;clear hW6 gb kS hb7 hM7 hR7 hB7 hch hM8 hR8 hB8 hx HC5 HB5 HM5 HR5;obtain⟨q0,q1,q2⟩:=c_3 (HM8.out);have kz:=KR.out.ck HB8.out hcw;have fr:=kz.frozen;obtain⟨r0,r1,r2⟩:=c_3 kz;have hc3:=((a5_ (lo:=w0.heap.size) (hi:=w0.heap.size+1) (w:=W8) (p:=⟨w0.heap.size,0,none⟩) (u:=.int .i64 x) (l_ _) (m0_ _)).trans (a5_ (p:=⟨w0.heap.size,1,none⟩) (u:=.int .i64 (k:Int)) (l_ _) (m0_ _))).trans (a5_ (p:=⟨w0.heap.size,2,none⟩) (u:=.slice A n cp) (l_ _) (m0_ _));have hsz:=(HB8.out).size;have OF:=h_ (((HR8.out).chg hc3 (.inr (by omega))).wider (by omega:w0.heap.size+1≤W.heap.size) hc3.size);have GS:=h_ ((G0.out.trans HB8.out).lowF (lo:=w0.heap.size) (hc3.below (l_ _) (by omega)) (l_ _) hcl);clear hc3 kz;go_wp2;exact bodyPost_ret (v:=.agg #[.int .i64 x,.int .i64 (k:Int),.slice A n cp]) (by simp[results,go_sem,r0,r1,r2]) rfl ⟨_,⟨x,k,l⟩,rfl,⟨_,rfl,OF.out,HX.out,HI.out.2⟩,Nat.le_succ_of_le HLN.out,GS.out⟩
 ·by_cases e1:t=1
  ·subst e1;have q2:=HM5.out.cell' (i:=2) rfl;obtain⟨W6,hW6⟩:=e_ (w5.alloc (.cells #[.int .i64 0] 3));have gb:Below w5.heap.size w5 W6:=by rw[←hW6];exact a0_ _ _
   have hko:=(HR5.out.below gb).1;have hka:=HM5.out.below gb hgm5;have hs6:=gb.size;have hcl5:=HC5.out.ltF;have hB6:=HB5.out.trans (Ck.of_below gb);have hone:SlI W6 W6.heap.size (.slice (some ⟨w5.heap.size,0,none⟩) 1 1) [(0:Int)]:=by rw[←hW6];exact SlI.one w5 _ 0 ⟨by omega,by omega⟩
   (go_wp2_with (at_builtin;refine Hold.stop ?_));unfold Hold
   try rw[hW6]
   refine d7_ rfl (.tmp 26) (.tmp 27) rfl W.heap.size _ (.slice A n cp) l rfl hko _ _ _ [(0:Int)] rfl rfl hone (by simp only[List.length_singleton];omega) (by omega) ?_;intro v1 w8 ho1 hg1 hv1;clear hv1;have hk8:=hka.grown hg1 (hko.blkne hka (by decide));have hs8:=hg1.size;have hB8:=hB6.lowF (c9_ hg1 (fun j hj=>(hko.lt j hj).1) (by omega:W.heap.size≤W6.heap.size)) (l_ _) (by omega);obtain⟨A1,c1,rfl,_⟩:=ho1.form;have hln:(l ++ [(0:Int)]).length≤10:=by simp;omega
   have HLO:=h_ hln;obtain⟨l1,hl1⟩:=e_ (l ++ [(0:Int)]);rw[hl1]at ho1 hln HLO⊢;obtain⟨n1,hn1⟩:=e_ (l1.length);rw[hn1]at ho1⊢;have fX:=hk8.frozen;have cX:=hk8.cell' (i:=2) rfl;obtain⟨W9,hW9⟩:=e_ (w8.setCell ⟨gm,2,none⟩ (.slice A1 n1 c1));have hM9:Blk W9 gm 65 #[.int .i64 (r:Int),.int .i64 (k:Int),.slice A1 n1 c1]:=by rw[←hW9];exact hk8.set_ 2 _
   have hO9:OwnI W9 W.heap.size (.slice A1 n1 c1) l1:=by rw[←hW9];exact ho1.setCell (fun e=>ho1.blkne hk8 (by decide) e.symm) _
   have hch:Chg gm (gm+1) w8 W9:=by rw[←hW9];exact a5_ (l_ _) (m0_ _)
   have hs9:=hch.size;have hB9:=hB8.lowF (hch.below (by omega:W.heap.size≤gm) (by omega)) (l_ _) (by omega);have HM9:=h_ hM9;have HR9:=h_ (a8_.of_own hO9);have HB9:=h_ hB9;clear q2 hW6 gb hko hka hone hB6 ho1 hg1 hk8 hB8 hch hM9 hO9 hB9 HC5 HB5 HM5 HR5 hl1;obtain⟨q0,q1,q2⟩:=c_3 (HM9.out);have kz:=KR.out.ck HB9.out hcw;have fr:=kz.frozen;obtain⟨r0,r1,r2⟩:=c_3 kz;have hc3:=((a5_ (lo:=w0.heap.size) (hi:=w0.heap.size+1) (w:=W9) (p:=⟨w0.heap.size,0,none⟩) (u:=.int .i64 (r:Int)) (l_ _) (m0_ _)).trans (a5_ (p:=⟨w0.heap.size,1,none⟩) (u:=.int .i64 (k:Int)) (l_ _) (m0_ _))).trans (a5_ (p:=⟨w0.heap.size,2,none⟩) (u:=.slice A1 n1 c1) (l_ _) (m0_ _));have hsz:=(HB9.out).size;have OF:=h_ (((HR9.out).chg hc3 (.inr (by omega))).wider (by omega:w0.heap.size+1≤W.heap.size) hc3.size);have GS:=h_ ((G0.out.trans HB9.out).lowF (lo:=w0.heap.size) (hc3.below (l_ _) (by omega)) (l_ _) hcl);clear hc3 kz;go_wp2;exact bodyPost_ret (v:=.agg #[.int .i64 (r:Int),.int .i64 (k:Int),.slice A1 n1 c1]) (by simp[results,go_sem,r0,r1,r2]) rfl ⟨_,⟨(r:Int),(k:Int),l1⟩,rfl,⟨_,rfl,OF.out,HI.out⟩,HLO.out,GS.out⟩
  ·have q2:=HM5.out.cell' (i:=2) rfl;by_cases e2:t=2
   ·subst e2;by_cases hz:n=0
    ·subst hz;have HR9:=h_ (HR5.out.wider (l_ _) (Nat.le_of_lt hgm5));obtain⟨q0,q1,q2⟩:=c_3 (HM5.out);have kz:=KR.out.ck HB5.out hcw;have fr:=kz.frozen;obtain⟨r0,r1,r2⟩:=c_3 kz;have hc3:=((a5_ (lo:=w0.heap.size) (hi:=w0.heap.size+1) (w:=w5) (p:=⟨w0.heap.size,0,none⟩) (u:=.int .i64 (r:Int)) (l_ _) (m0_ _)).trans (a5_ (p:=⟨w0.heap.size,1,none⟩) (u:=.int .i64 (k:Int)) (l_ _) (m0_ _))).trans (a5_ (p:=⟨w0.heap.size,2,none⟩) (u:=.slice A 0 cp) (l_ _) (m0_ _));have hsz:=(HB5.out).size;have OF:=h_ (((HR9.out).chg hc3 (.inr (by omega))).wider (by omega:w0.heap.size+1≤W.heap.size) hc3.size);have GS:=h_ ((G0.out.trans HB5.out).lowF (lo:=w0.heap.size) (hc3.below (l_ _) (by omega)) (l_ _) hcl);clear hc3 kz;go_wp2;exact bodyPost_ret (v:=.agg #[.int .i64 (r:Int),.int .i64 (k:Int),.slice A 0 cp]) (by simp[results,go_sem,r0,r1,r2]) rfl ⟨_,⟨(r:Int),(k:Int),l⟩,rfl,⟨_,rfl,OF.out,HI.out⟩,Nat.le_succ_of_le HLN.out,GS.out⟩
    ·obtain⟨gA,rfl,hgA1,hgA2⟩:=HR5.out.1.adrF (by omega);have hgAg:gA<gm:=HR5.out.2 gA rfl;have hgAc:gA≠c:=by omega
     have hpos:0<n:=Nat.pos_of_ne_zero hz;go_wp2;refine g3_ (c) (by kernel_rfl) [.eq (.pointer (some ⟨gm,2,none⟩)),.eq (.slice (some ⟨gA,0,none⟩) n cp),.eq (.pointer (some ⟨c,0,none⟩)),rel 3 (fun u lo hi w=>∃ g,u = .slice (some ⟨g,0,none⟩) 3 3∧Blk w g 3 #[.int .i64 (-1),.int .i64 5,.int .i64 2]∧c<g),rel 4 (fun u lo hi w=>∃ y:Int,u = .int .i64 y∧I64 y),.eq (.pointer (some ⟨gA,0,none⟩))] [[],[0],[],[],[2,3],[0,1,2,3,4],[0,1,2,3,4,5]] 6 (by kernel_rfl) ⟨trivial,trivial,trivial,d6_ (fun u lo hi w w' ⟨g,h1,h2,h3⟩ hb=>⟨g,h1,h2.ck hb (by omega),h3⟩),d6_ (fun u lo hi w w' h hb=>h),trivial,trivial⟩ ⟨?_,?_,?_,?_,?_,?_,trivial⟩ ?_;iterate 6 (intro x w hb hk Q' hQ;have he:=k_e hk;simp only[k_s]at he;simp only[netE]at hQ⊢;(try simp only[he]at hQ⊢);(try clear he);rotate_left)
     rotate_left
     ·clear hk;go_wp2;exact hQ _ _ (Ck.refl _ _) rfl
     ·clear hk;have z:=(HM5.out.ck hb hgmc).cell' (i:=2) rfl;go_wp2;exact hQ (.slice (some ⟨gA,0,none⟩) n cp) _ (Ck.refl _ _) rfl
     ·clear hk;go_wp2;exact hQ _ _ (Ck.refl _ _) rfl
     ·clear hk;have hcw:=(hb.keep HC5.out).ltF;go_wp2;exact hQ _ _ (Ck.of_below (a0_ _ _)) ⟨_,rfl,Blk.new _ _ _,hcw⟩
     ·have h3:∃ g,(x.v 3) = .slice (some ⟨g,0,none⟩) 3 3∧Blk w g 3 #[.int .i64 (-1),.int .i64 5,.int .i64 2]∧c<g:=(hk 3 (by decide)).1;have s3:=(hk 3 (by decide)).2;clear hk;obtain⟨g,e3,hB3,hcg⟩:=h3;obtain⟨z3,hz3⟩:=e_ (x.v 3);rw[hz3]at e3 hQ⊢;clear hz3;subst e3;go_wp2_with fail
      refine (i8_ b6J c g 3 3 _ _ (hb.keep HC5.out) hB3 (by omega) (by omega) (by omega) (fun i hi=>?_) fun v h=>⟨_,h.choose_spec.1⟩).mono ?_
      ·match i,hi with
       | 0,_=>exact⟨_,rfl,_,rfl,by decide,by decide⟩
       | 1,_=>exact⟨_,rfl,_,rfl,by decide,by decide⟩
       | 2,_=>exact⟨_,rfl,_,rfl,by decide,by decide⟩
       | i+3,h=>omega
      rintro e w7 ⟨v,⟨k7,rfl,hk7⟩,rfl,hb7⟩;go_wp2;exact hQ _ _ hb7 ⟨k7,rfl,hk7⟩
     ·clear hk;go_wp2;exact hQ _ _ (Ck.refl _ _) rfl
     ·intro x w hb hk hiv hdj;have h3:∃ g,(x.v 3) = .slice (some ⟨g,0,none⟩) 3 3∧Blk w g 3 #[.int .i64 (-1),.int .i64 5,.int .i64 2]∧c<g:=hk 3 (by decide);have h4:∃ y:Int,(x.v 4) = .int .i64 y∧I64 y:=hk 4 (by decide);have he:=k_g hk [0,1,2,5];simp only[k_s]at he;simp only[netE,he];clear he hk;obtain⟨j,e4,hj⟩:=h4;rw[e4];have hOw:=HR5.out.ckF hb (by omega);have cX:=(hOw.1.cellG (j:=0) (by omega)).1;have fX:=hOw.1.frozenG 0;have hput:=hOw.put (j:=0) (x:=j) hj;obtain⟨W3,hW3⟩:=e_ (w.setCell ⟨gA,0,none⟩ (.int .i64 j));rw[hW3]at hput;have hch:Chg gA (gA+1) w W3:=by rw[←hW3];exact a5_ (l_ _) (m0_ _)
      have hsb:=hb.size;have hsc:=hch.size;have hlow:Below W.heap.size w W3:=hch.below hgA1 (by omega);have HB3:=h_ ((HB5.out.trans hb).lowF hlow (l_ _) (by omega));have HM3:=h_ ((HM5.out.ck hb hgmc).chg hch (.inr (by omega)));have HR3:=h_ (hput.wider (l_ _) (by omega:gm≤W3.heap.size));have HLS:=h_ (show (l.set 0 j).length≤9 by rw[List.length_set];exact HLN.out);have hls:(l.set 0 j).length=n:=by rw[List.length_set];exact hn
      have HLT:=h_ hls;clear hput hch hlow hOw hb hiv hdj e4 hsb HC5 HB5 HM5 HR5 hls;obtain⟨q0,q1,q2⟩:=c_3 (HM3.out);have kz:=KR.out.ck HB3.out hcw;have fr:=kz.frozen;obtain⟨r0,r1,r2⟩:=c_3 kz;have hc3:=((a5_ (lo:=w0.heap.size) (hi:=w0.heap.size+1) (w:=W3) (p:=⟨w0.heap.size,0,none⟩) (u:=.int .i64 (r:Int)) (l_ _) (m0_ _)).trans (a5_ (p:=⟨w0.heap.size,1,none⟩) (u:=.int .i64 (k:Int)) (l_ _) (m0_ _))).trans (a5_ (p:=⟨w0.heap.size,2,none⟩) (u:=.slice (some ⟨gA,0,none⟩) n cp) (l_ _) (m0_ _));have hsz:=(HB3.out).size;have OF:=h_ (((HR3.out).chg hc3 (.inr (by omega))).wider (by omega:w0.heap.size+1≤W.heap.size) hc3.size);have GS:=h_ ((G0.out.trans HB3.out).lowF (lo:=w0.heap.size) (hc3.below (l_ _) (by omega)) (l_ _) hcl);clear hc3 kz;go_wp2;exact bodyPost_ret (v:=.agg #[.int .i64 (r:Int),.int .i64 (k:Int),.slice (some ⟨gA,0,none⟩) n cp]) (by simp[results,go_sem,r0,r1,r2]) rfl ⟨_,⟨(r:Int),(k:Int),l.set 0 j⟩,rfl,⟨_,rfl,OF.out,HI.out⟩,Nat.le_succ_of_le HLS.out,GS.out⟩
   ·have HR9:=h_ (HR5.out.wider (l_ _) (Nat.le_of_lt hgm5));obtain⟨q0,q1,q2⟩:=c_3 (HM5.out);have kz:=KR.out.ck HB5.out hcw;have fr:=kz.frozen;obtain⟨r0,r1,r2⟩:=c_3 kz;have hc3:=((a5_ (lo:=w0.heap.size) (hi:=w0.heap.size+1) (w:=w5) (p:=⟨w0.heap.size,0,none⟩) (u:=.int .i64 (r:Int)) (l_ _) (m0_ _)).trans (a5_ (p:=⟨w0.heap.size,1,none⟩) (u:=.int .i64 (k:Int)) (l_ _) (m0_ _))).trans (a5_ (p:=⟨w0.heap.size,2,none⟩) (u:=.slice A n cp) (l_ _) (m0_ _));have hsz:=(HB5.out).size;have OF:=h_ (((HR9.out).chg hc3 (.inr (by omega))).wider (by omega:w0.heap.size+1≤W.heap.size) hc3.size);have GS:=h_ ((G0.out.trans HB5.out).lowF (lo:=w0.heap.size) (hc3.below (l_ _) (by omega)) (l_ _) hcl);clear hc3 kz;go_wp2;exact bodyPost_ret (v:=.agg #[.int .i64 (r:Int),.int .i64 (k:Int),.slice A n cp]) (by simp[results,go_sem,r0,r1,r2]) rfl ⟨_,⟨(r:Int),(k:Int),l⟩,rfl,⟨_,rfl,OF.out,HI.out⟩,Nat.le_succ_of_le HLN.out,GS.out⟩
theorem z9_ (c:Nat) (w0:World) (hc:Cur w0 c) :
  Calls Tryz.prog 51 #[.pointer (some ⟨c,0,none⟩)] w0 fun e w'=>∃ p:Int,e = .returned (.int .i64 p)∧I64 p∧Ck c w0 w':=by
 go_enter Tryz.func51,Tryz.ntmps51
 go_wp2_with fail
 refine (p6_ c 16 _ hc ⟨by omega,by omega⟩).mono ?_;rintro e w1 ⟨b,rfl,hb1⟩;have HC1:=h_ (hb1.keep hc);have HB1:=h_ hb1;clear hb1 hc;rcases b with _ | _
 ·go_wp2_with fail
  obtain⟨W8,hW8,gb,kS⟩:=b_1 w1 #[.int .i64 2,.int .i64 3,.int .i64 5,.int .i64 2,.int .i64 3] 3;have hcl:=HC1.out.ltF;rw[hW8];refine (i8_ b6J c w1.heap.size 5 5 _ _ ((Ck.of_below (c:=c) gb).keep HC1.out) kS (by omega) (by omega) (by omega) (fun i hi=>?_) fun v h=>⟨_,h.choose_spec.1⟩).mono ?_
  ·match i,hi with
   | 0,_=>exact⟨_,rfl,_,rfl,by decide,by decide⟩
   | 1,_=>exact⟨_,rfl,_,rfl,by decide,by decide⟩
   | 2,_=>exact⟨_,rfl,_,rfl,by decide,by decide⟩
   | 3,_=>exact⟨_,rfl,_,rfl,by decide,by decide⟩
   | 4,_=>exact⟨_,rfl,_,rfl,by decide,by decide⟩
   | i+5,h=>omega
  rintro e w9 ⟨v,⟨x,rfl,hx⟩,rfl,hb9⟩;have hB9:=(HB1.out.trans (Ck.of_below gb)).trans hb9;clear hW8;go_wp2;go_ret
  exact⟨x,rfl,hx,hB9⟩
 ·go_wp2_with fail
  obtain⟨W8,hW8,gb,kS⟩:=b_1 w1 #[.int .i64 (-1),.int .i64 0,.int .i64 1,.int .i64 4,.int .i64 7] 3;have hcl:=HC1.out.ltF;rw[hW8];refine (i8_ b6J c w1.heap.size 5 5 _ _ ((Ck.of_below (c:=c) gb).keep HC1.out) kS (by omega) (by omega) (by omega) (fun i hi=>?_) fun v h=>⟨_,h.choose_spec.1⟩).mono ?_
  ·match i,hi with
   | 0,_=>exact⟨_,rfl,_,rfl,by decide,by decide⟩
   | 1,_=>exact⟨_,rfl,_,rfl,by decide,by decide⟩
   | 2,_=>exact⟨_,rfl,_,rfl,by decide,by decide⟩
   | 3,_=>exact⟨_,rfl,_,rfl,by decide,by decide⟩
   | 4,_=>exact⟨_,rfl,_,rfl,by decide,by decide⟩
   | i+5,h=>omega
  rintro e w9 ⟨v,⟨x,rfl,hx⟩,rfl,hb9⟩;have hB9:=(HB1.out.trans (Ck.of_below gb)).trans hb9;clear hW8;go_wp2;go_ret
  exact⟨x,rfl,hx,hB9⟩
theorem a3q (c:Nat) (w0:World) (hc:Cur w0 c) :
  Calls Tryz.prog 77 #[.pointer (some ⟨c,0,none⟩)] w0 fun e w'=>∃ p:Int,e = .returned (.int .i64 p)∧(p=2∨p=3)∧Ck c w0 w':=by
 go_enter Tryz.func77,Tryz.ntmps77
 go_wp2_with fail
 obtain⟨W8,hW8,gb,kS⟩:=b_1 w0 #[.int .i64 2,.int .i64 3,.int .i64 2] 3;have hcl:=hc.ltF;rw[hW8];refine (i8_ (fun v=>∃ k:Int,v = .int .i64 k∧(k=2∨k=3)) c w0.heap.size 3 3 _ _ ((Ck.of_below (c:=c) gb).keep hc) kS (by omega) (by omega) (by omega) (fun i hi=>?_) fun v h=>⟨_,h.choose_spec.1⟩).mono ?_
 ·match i,hi with
  | 0,_=>exact⟨_,rfl,_,rfl,by decide⟩
  | 1,_=>exact⟨_,rfl,_,rfl,by decide⟩
  | 2,_=>exact⟨_,rfl,_,rfl,by decide⟩
  | i+3,h=>omega
 rintro e w9 ⟨v,⟨x,rfl,hx⟩,rfl,hb9⟩;have hB9:=(Ck.of_below gb).trans hb9;clear hW8;go_wp2;go_ret
 exact⟨x,rfl,hx,hB9⟩
theorem a8_.widF {w:World} {lo hi lo' hi':Nat} {v:Value} {l:List Int} (h:a8_ w lo hi v l) (h1:lo'≤lo) (h2:hi≤hi'):a8_ w lo' hi' v l:=⟨h.1.lower h1,fun k hk=>Nat.lt_of_lt_of_le (h.2 k hk) h2⟩
structure DmsP (V:Int) (l:List Int):Prop where
 len:0≤V→V≤5→(l.length:Int)=V
 l5:l.length≤5
 rng:∀ x∈l,0≤x∧x≤4
 sum:l.sum≤8
theorem DmsP.dims {q:Qv} {l:List Int} (h:DmsP q.v l) (hq:isQ q=true) (h1:0≤q.v) (h2:q.v≤5):i0_ q l=true:=c3_.2 ⟨hq,h.len h1 h2,h.rng,h.sum⟩
theorem b5x (c:Nat) (V:Int) (A C:Option Addr) (n1 c1 n2 c2:Nat) (most:Nat) (w0:World) (hc:Cur w0 c) (hV:I64 V) (hm:most≤3) :
  Calls Tryz.prog 117 #[.pointer (some ⟨c,0,none⟩),.agg #[.int .i64 V,.slice A n1 c1,.slice C n2 c2],.int .i64 most] w0 fun e w'=>∃ v l,e = .returned v∧a8_ w' w0.heap.size w'.heap.size v l∧DmsP V l∧Ck c w0 w':=by
 have hcl:=hc.ltF;obtain⟨hV1,hV2⟩:=hV;obtain⟨W,hW⟩:=e_ ((w0.alloc (.cells #[.int .i64 V,.slice A n1 c1,.slice C n2 c2] 26)).alloc (.cells #[] 3));have gb:Below w0.heap.size w0 W:=by rw[←hW];exact ((Below.refl _ _).alloc (l_ _) _).alloc (by simp) _
 have kB:Blk W w0.heap.size 26 #[.int .i64 V,.slice A n1 c1,.slice C n2 c2]:=by rw[←hW];exact (Blk.new _ _ _).alloc _
 have hO:OwnI W (w0.heap.size+1) (.slice (some ⟨w0.heap.size+1,0,none⟩) 0 0) []:=by
  rw[←hW];have:=OwnI.made (w:=w0.alloc (.cells #[.int .i64 V,.slice A n1 c1,.slice C n2 c2] 26)) (base:=w0.heap.size+1) 3 rfl (by simp);simpa only[l3_] using this
 have g0:Ck c w0 W:=Ck.of_below gb;have sW:W.heap.size=w0.heap.size+1+1:=by rw[←hW];simp
 have hcw:w0.heap.size≠c:=by omega
 have KB:=h_ kB;have hC0:=g0.keep hc;clear kB gb hc;go_enter Tryz.func117,Tryz.ntmps117
 go_wp2;clear hW;go_loopw [7,8,9] (fun xv lv i wr=>∃ (k:Nat) (l:List Int) (S:Int) (X:Option Addr) (cx:Nat),k≤5∧((k:Int)≤V∨k=0)∧i = .int .i64 k∧lv = .int .i64 (8-S)∧l.sum=S∧0≤S∧S≤8∧(∀ x∈l,0≤x∧x≤4)∧xv = .slice X k cx∧l.length=k∧OwnI wr (w0.heap.size+1) (.slice X k cx) l∧Cur wr c∧Ck c w0 wr∧Blk wr w0.heap.size 26 #[.int .i64 V,.slice A n1 c1,.slice C n2 c2]) (fun _ _ i _=>5-(intOf i).toNat)
 case atStart=>exact⟨0,[],0,_,0,l0_ _,.inr rfl,rfl,rfl,rfl,by omega,by omega,by simp,rfl,rfl,hO,hC0,g0,KB.out⟩
 case round =>
  clear hO hC0 g0;obtain⟨k,l,S,X,cx,hk,hkV,rfl,rfl,hS,hS0,hS8,hX,rfl,hl,hO,hC,hB,kr⟩:=hrel;have c0:=kr.cell' (i:=0) rfl;have hsz:=hB.size;have HL:=h_ hl;have HS:=h_ hS;have HX:=h_ hX;have HO:=h_ hO;have HC:=h_ hC;have HB:=h_ hB;have HK:=h_ kr;have hszK:=kr.lt;clear hl hO hC hB kr hS hX;by_cases hlt:(k:Int)<V∧k<5
  ·obtain⟨h1,h2⟩:=hlt;go_wp2_with fail
   refine (d3_ c _ _ HC.out ⟨by omega,by omega⟩).mono ?_;rintro e w5 ⟨a,ha,ha2,rfl,hb5⟩;have ha4:a≤3:=by omega
   have hO5:=HO.out.ckF hb5 (by omega);obtain⟨y,hy⟩:=e_ (min (8-S) (a:Int));have hy1:0≤y∧y≤3∧S+y≤8:=by omega
   have gX:=a0_ w5 (.cells #[.int .i64 y] 3);have kX:=Blk.new w5 3 #[.int .i64 y];have HOX:=h_ (hO5.below gX);have HKX:=h_ kX;have hs5:=hb5.size;have HCX:=h_ ((Ck.of_below (c:=c) gX).keep (hb5.keep HC.out));have HBX:=h_ ((HB.out.trans hb5).trans (Ck.of_below gX));have HKK:=h_ ((HK.out.ck hb5 hcw).call gX);clear hb5 hO5 gX kX c0
   (go_wp2_with (at_builtin;refine Hold.stop ?_));unfold Hold
   refine d7_ (by rfl) (.tmp 28) (.tmp 30) (by rfl) (w0.heap.size+1) (w5.alloc (.cells #[.int .i64 y] 3)).heap.size _ l (by rfl) HOX.out (some ⟨w5.heap.size,0,none⟩) 1 1 [y] (by rfl) rfl (g3Q HKX.out ⟨by omega,by omega⟩) (by have:=HL.out;simp;omega) (by simp;omega) ?_;intro v3 w3 ho3 hg3 hv3;have hlow:Below (w0.heap.size+1) (w5.alloc (.cells #[.int .i64 y] 3)) w3:=c9_ hg3 (fun j hj=>(HOX.out.lt j hj).1) (by simp;omega);obtain⟨A3,c3,rfl,_⟩:=ho3.form;have hl3:(l ++ [y]).length=k+1:=by rw[List.length_append,HL.out];rfl
   rw[hl3]at ho3⊢;have HL3:=h_ hl3;have HS3:=h_ (show (l ++ [y]).sum=S+y by rw[List.sum_append,HS.out];simp);have HX3:=h_ (show ∀ x∈l ++ [y],0≤x∧x≤4 from fun x hx=>by
    rcases List.mem_append.1 hx with h | h
    ·exact HX.out x h
    ·obtain rfl:=List.mem_singleton.1 h;omega)
   have HO3:=h_ ho3;have HC3:=h_ (HCX.out.belowF hlow (by omega));have HB3:=h_ (HBX.out.lowF hlow (by omega) (by omega));have HK3:=h_ (HKK.out.below hlow (by omega));clear ho3 hg3 hv3 hlow hl3;go_wp2;go_roundw
   case rel=>exact⟨k+1,_,S+y,A3,c3,by omega,.inl (by omega),by go_num,by congr 1;omega,HS3.out,by omega,by omega,HX3.out,rfl,HL3.out,HO3.out,HC3.out,HB3.out,HK3.out⟩
   case measure=>simp[intOf];omega
  ·have hP:DmsP V l:=⟨fun h1 h2=>by have:=HL.out;omega,by have:=HL.out;omega,HX.out,by rw[HS.out];exact hS8⟩;have HP:=h_ hP;clear hP;by_cases hv:(k:Int)<V
   ·have hk5:¬ k<5:=fun h=>hlt ⟨hv,h⟩
    clear hlt;go_wp2;go_ret
    have h1:=(a8_.of_own HO.out).widF (lo':=w0.heap.size) (hi':=wr.heap.size) (by omega) (l_ _);first | exact⟨_,l,rfl,h1,HP.out,HB.out⟩ | exact⟨_,rfl,l,h1,HP.out,HB.out⟩ | exact⟨_,rfl,⟨l,h1,HP.out⟩,HB.out⟩
   ·clear hlt;go_wp2;go_ret
    have h1:=(a8_.of_own HO.out).widF (lo':=w0.heap.size) (hi':=wr.heap.size) (by omega) (l_ _);first | exact⟨_,l,rfl,h1,HP.out,HB.out⟩ | exact⟨_,rfl,l,h1,HP.out,HB.out⟩ | exact⟨_,rfl,⟨l,h1,HP.out⟩,HB.out⟩
theorem b3Q {w:World} {g g':Nat} {t t':TypeId} {cs cs':Array Value} (h:Blk w g t cs) (k:Blk w g' t' cs') (ht:t≠t'):g≠g':=by
 rintro rfl;unfold Blk at h k;rw[h]at k;injection k with k
 injection k with _ k
 exact ht k
def MsOk (ms:List Mx):Prop:=∀ y∈ms,∃ R C:Nat,y.r=R∧y.c=C∧R≤4∧C≤4
theorem i3x {q:Qv} {d:List Int} (h:i0_ q d=true):MsOk (zms q d q.f.length):=by
 intro m hm;simp only[zms,List.mem_map,List.mem_range]at hm;obtain⟨i,hi,rfl⟩:=hm;obtain⟨nf,nt,yf,yt,ef,et,df,dt,_⟩:=C0_ (x:=⟨0,q,d,[]⟩) h hi;obtain⟨_,_,hd,_⟩:=c3_.1 h;have b1:=hd _ (l4_ df);have b2:=hd _ (l4_ dt);refine⟨yt.toNat,yf.toNat,?_,?_,by omega,by omega⟩
 ·simp only[zmx,l1_,ef,et,Option.getD_some,r4_ df,r4_ dt];omega
 ·simp only[zmx,l1_,ef,et,Option.getD_some,r4_ df,r4_ dt];omega
theorem MsOk.set {ms:List Mx} (h:MsOk ms) (i:Nat) {R C:Nat} (l:List Int) (hR:R≤4) (hC:C≤4):MsOk (ms.set i ⟨R,C,l⟩):=fun y hy=>by
 rcases List.mem_or_eq_of_mem_set hy with hy | rfl
 ·exact h y hy
 ·exact⟨R,C,rfl,rfl,hR,hC⟩
def OfP (c lo:Nat) (w0:World) (e:Ending) (w':World):Prop:=∃ (v:Value) (x:Rp) (lo':Nat),e = .returned v∧RepI w' lo' w'.heap.size v x∧Sep3 v∧x.d.length≤5∧lo≤lo'∧Ck c w0 w'
theorem a9x (c:Nat) (p:Int) (v:Value) (q:Qv) (most lo hi:Nat) (w0:World) (hc:Cur w0 c) (hp:I64 p) (hq:s0_ w0 lo hi v q) (hclo:c<lo) (hhi:hi≤w0.heap.size) (hlh:lo≤hi) (hm:most≤3) :
  Calls Tryz.prog 78 #[.pointer (some ⟨c,0,none⟩),.int .i64 p,v,.int .i64 most] w0 fun e w'=>OfP c lo w0 e w':=by
 have hcl:=hc.ltF;have hrd:=hq.rd;obtain⟨a,b,rfl,ha,hb,hV⟩:=hq;obtain⟨A,ca,rfl⟩:=ha.form;obtain⟨C,cb,rfl⟩:=hb.form;obtain⟨W,hW,g0,k1,k2⟩:=b_4 w0 #[.int .i64 q.v,.slice A q.f.length ca,.slice C q.t.length cb] 26 #[.int .i64 0,.int .i64 0,.slice none 0 0,.slice none 0 0,.slice none 0 0,.slice none 0 0] 29;have sW:W.heap.size=w0.heap.size+1+1:=by rw[hW];simp
 have HQW:=h_ (QvR.next g0 hrd);have HA:=h_ (ha.below g0);have HB:=h_ (hb.below g0);have HCW:=h_ ((Ck.of_below (c:=c) g0).keep hc);have G0:=h_ (Ck.of_below (c:=c) g0);have K1:=h_ k1;have K2:=h_ k2;have hcw:w0.heap.size≠c:=by omega
 have hcw1:w0.heap.size+1≠c:=by omega
 clear ha hb g0 hc hrd;go_enter Tryz.func78,Tryz.ntmps78
 obtain⟨c0,c1,c2⟩:=c_3 k1;clear k1 k2;go_wp2_with fail
 rw[←hW];clear hW;refine (f3_ _ q _ HQW.out).mono ?_;rintro e w1 ⟨rfl,hb1⟩;have hs1:=hb1.size;have HK1:=h_ (K1.out.call hb1);have HK2:=h_ (K2.out.call hb1);have HC1:=h_ ((Ck.of_below (c:=c) hb1).keep HCW.out);have HB1:=h_ (G0.out.trans (Ck.of_below hb1));have HA1:=h_ (HA.out.below hb1);have HT1:=h_ (HB.out.below hb1);have HQ1:=h_ (QvR.next hb1 HQW.out);clear hb1 c0 c1 c2;obtain⟨c0,c1,c2⟩:=c_3 HK1.out;rcases hiq:isQ q with _ | _
 ·have kz:=HK2.out;have fr:=kz.frozen;obtain⟨r0,r1,r2,r3,r4,r5⟩:=c_6 kz;have hc6:=chg6 w1 (w0.heap.size+1) (.int .i64 p) (.int .i64 q.v) (.slice A q.f.length ca) (.slice C q.t.length cb) (.slice none 0 0) (.slice none 0 0);have hR:RepI w1 lo hi (.agg #[.int .i64 p,.int .i64 q.v,.slice A q.f.length ca,.slice C q.t.length cb,.slice none 0 0,.slice none 0 0]) ⟨p,q,[],[]⟩ :=
   ⟨_,_,_,_,[],hi,rfl,HA1.out,HT1.out,⟨OwnI.nil _ _,by simp[Value.ownBlock]⟩,RowO.nil _ w1 lo hi,rfl,⟨fun p hp=>by simp at hp,by simp⟩,⟨hlh,l_ _⟩,⟨hp,hV⟩,fun m hm=>by simp at hm⟩
  have OF:=h_ ((hR.chg hc6 (.inl (by omega))).wider (l_ _) (by simp;omega:hi≤((((((w1.setCell ⟨w0.heap.size+1,0,none⟩ (.int .i64 p)).setCell ⟨w0.heap.size+1,1,none⟩ (.int .i64 q.v)).setCell ⟨w0.heap.size+1,2,none⟩ (.slice A q.f.length ca)).setCell ⟨w0.heap.size+1,3,none⟩ (.slice C q.t.length cb)).setCell ⟨w0.heap.size+1,4,none⟩ (.slice none 0 0)).setCell ⟨w0.heap.size+1,5,none⟩ (.slice none 0 0)).heap.size));have HS:=h_ (show Sep3 (.agg #[.int .i64 p,.int .i64 q.v,.slice A q.f.length ca,.slice C q.t.length cb,.slice none 0 0,.slice none 0 0]) from ⟨_,_,_,_,_,_,hi,rfl,fun k h=>HA1.out.2 k h,fun k h=>HT1.out.2 k h,fun k h=>by simp[Value.ownBlock]at h⟩);have GS:=h_ (HB1.out.lowF (lo:=w0.heap.size) (hc6.below (by omega) (by omega)) (l_ _) (by omega));clear hc6 kz hR;go_wp2;refine bodyPost_ret (v:=.agg #[.int .i64 p,.int .i64 q.v,.slice A q.f.length ca,.slice C q.t.length cb,.slice none 0 0,.slice none 0 0]) (by simp[results,go_sem,r0,r1,r2,r3,r4,r5]) rfl ?_;unfold OfP;exact⟨_,⟨p,q,[],[]⟩,lo,rfl,OF.out,HS.out,l0_ _,l_ _,GS.out⟩
 ·go_wp2_with fail
  clear c0 c1 c2;have hqt:=(j2_.1 hiq).1;have hq6:q.f.length≤6:=(j2_.1 hiq).2.2.1;have HIQ:=h_ hiq;clear hiq;obtain⟨wx,hwx⟩:∃ z,z=w1:=⟨_,rfl⟩;subst hwx;refine g3_ (c) (by kernel_rfl) [.eq (.int .i64 p),.eq (.agg #[.int .i64 q.v,.slice A q.f.length ca,.slice C q.t.length cb]),.eq (.pointer (some ⟨c,0,none⟩)),.eq (.agg #[.int .i64 q.v,.slice A q.f.length ca,.slice C q.t.length cb]),.eq (.int .i64 most),rel 5 (fun u lo hi w=>∃ l,a8_ w lo hi u l∧DmsP q.v l∧c<lo),rel 6 (fun u lo hi w=>∃ l,RepI w lo hi u (zRep p q l)∧Sep3 u∧i0_ q l=true∧c<lo),rel 7 (fun u lo hi w=>∃ g,u = .pointer (some ⟨g,0,none⟩)∧Blk w g 29 #[.int .i64 0,.int .i64 0,.slice none 0 0,.slice none 0 0,.slice none 0 0,.slice none 0 0]∧lo≤g∧g<hi∧c<g)] [[],[],[],[],[],[2,3,4],[0,1,2,3,4,5],[],[0,1,2,3,4,5,6,7]] 8 (by kernel_rfl) ⟨trivial,trivial,trivial,trivial,trivial,d6_ (fun u lo hi w w' ⟨l,h1,h2,h3⟩ hb=>⟨l,h1.ckF hb h3,h2,h3⟩),d6_ (fun u lo hi w w' ⟨l,h1,h2,h3,h4⟩ hb=>⟨l,h1.chg hb.chg (.inr (by omega)),h2,h3,h4⟩),d6_ (fun u lo hi w w' ⟨g,h1,h2,h3,h4,h5⟩ hb=>⟨g,h1,h2.ck hb (by omega),h3,h4,h5⟩),trivial⟩ ⟨?_,?_,?_,?_,?_,?_,?_,?_,trivial⟩ ?_;iterate 8 (intro x w hb hk Q' hQ;have he:=k_e hk;simp only[k_s]at he;simp only[netE]at hQ⊢;(try simp only[he]at hQ⊢);(try clear he);rotate_left)
  rotate_left
  ·clear hk;go_wp2;exact hQ _ _ (Ck.refl _ _) rfl
  ·clear hk;obtain⟨z0,z1,z2⟩:=c_3 (HK1.out.ck hb hcw);go_wp2;exact hQ (.agg #[.int .i64 q.v,.slice A q.f.length ca,.slice C q.t.length cb]) _ (Ck.refl _ _) rfl
  ·clear hk;go_wp2;exact hQ _ _ (Ck.refl _ _) rfl
  ·clear hk;obtain⟨z0,z1,z2⟩:=c_3 (HK1.out.ck hb hcw);go_wp2;exact hQ (.agg #[.int .i64 q.v,.slice A q.f.length ca,.slice C q.t.length cb]) _ (Ck.refl _ _) rfl
  ·clear hk;go_wp2;exact hQ _ _ (Ck.refl _ _) rfl
  ·clear hk;have hcw9:=(hb.keep HC1.out).ltF;go_wp2_with fail
   refine (b5x c q.v A C _ ca _ cb most _ (hb.keep HC1.out) hV hm).mono ?_;rintro e w7 ⟨v7,l7,rfl,hI7,hP7,hb7⟩;go_wp2;exact hQ _ _ hb7 ⟨l7,hI7,hP7,hcw9⟩
  ·have h5:∃ l,a8_ w (x.lo 5) (x.hi 5) (x.v 5) l∧DmsP q.v l∧c<(x.lo 5):=(hk 5 (by decide)).1;have s5:=(hk 5 (by decide)).2;clear hk;obtain⟨l,hl,hP,_⟩:=h5;obtain⟨z5,hz5⟩:=e_ (x.v 5);rw[hz5]at hl hQ⊢;clear hz5;have hcw9:=(hb.keep HC1.out).ltF;have hd:=hP.dims HIQ.out (by omega) hqt.2;have hqw:s0_ w lo hi (.agg #[.int .i64 q.v,.slice A q.f.length ca,.slice C q.t.length cb]) q:=⟨_,_,rfl,HA1.out.ckF hb hclo,HT1.out.ckF hb hclo,hV⟩;go_wp2_with fail
   refine (a3z p _ _ q l _ hp hqw.rd hl.rd hd).mono ?_;rintro e w7 ⟨v7,rfl,hR7,hS7,hb7⟩;go_wp2;exact hQ _ _ (Ck.of_below hb7) ⟨l,hR7,hS7,hd,hcw9⟩
  ·clear hk;have hcw9:=(hb.keep HC1.out).ltF;go_wp2;exact hQ _ _ (Ck.of_below (a0_ _ _)) ⟨_,rfl,Blk.new _ _ _,l_ _,(show w.heap.size<(w.alloc (.cells #[.int .i64 0,.int .i64 0,.slice none 0 0,.slice none 0 0,.slice none 0 0,.slice none 0 0] 29)).heap.size by simp),hcw9⟩
  ·intro x w hb hk hiv hdj;have h5:∃ l,a8_ w (x.lo 5) (x.hi 5) (x.v 5) l∧DmsP q.v l∧c<(x.lo 5):=hk 5 (by decide);have h6:∃ l,RepI w (x.lo 6) (x.hi 6) (x.v 6) (zRep p q l)∧Sep3 (x.v 6)∧i0_ q l=true∧c<(x.lo 6):=hk 6 (by decide);have h7:∃ g,(x.v 7) = .pointer (some ⟨g,0,none⟩)∧Blk w g 29 #[.int .i64 0,.int .i64 0,.slice none 0 0,.slice none 0 0,.slice none 0 0,.slice none 0 0]∧(x.lo 7)≤g∧g<(x.hi 7)∧c<g:=hk 7 (by decide);have he:=k_g hk [0,1,2,3,4];simp only[k_s]at he;simp only[netE,he];clear he hk;obtain⟨g,e7,hG,hg1,hg2,hgc⟩:=h7;obtain⟨l,hR,hS,hd,hcl6⟩:=h6;obtain⟨F1,f1,T1,t1,D1,d1,H1,m1,e6⟩:=hR.rd.form;obtain⟨z6,hz6⟩:=e_ (x.v 6);rw[hz6]at hR hS e6⊢;clear hz6;subst e6;simp only[zRep,m8_]at hR hS⊢;rw[e7];have i6:=hiv 6 (by omega);have i7:=hiv 7 (by omega);have d67:=hdj 6 7 (by omega) (by omega) (by omega);obtain⟨lo6,hlo6⟩:=e_ (x.lo 6);obtain⟨hi6,hhi6⟩:=e_ (x.hi 6);rw[hlo6]at hR i6 d67 hcl6;rw[hhi6]at hR i6 d67;have hsb:=hb.size;have hgx:g<lo6∨hi6≤g:=by omega
   have hlo1:wx.heap.size≤lo6:=i6.1;have hgs:g<w.heap.size:=by omega
   have hms:=i3x hd;obtain⟨ms,hmse⟩:=e_ (zms q l q.f.length);have hml:ms.length=q.f.length:=by rw[←hmse,m8_]
   rw[hmse]at hR hms;obtain⟨M,hM⟩:=e_ (q.f.length);rw[hM]at hml hq6;have hch:=chg6 w g (.int .i64 p) (.int .i64 q.v) (.slice F1 q.f.length f1) (.slice T1 q.t.length t1) (.slice D1 l.length d1) (.slice H1 q.f.length m1);have fr:=hG.frozen;obtain⟨r0,r1,r2,r3,r4,r5⟩:=c_6 hG;have HDL:=h_ (show l.length≤5 by have:=(c3_.1 hd).2.1;omega);rw[hM]at hch⊢;obtain⟨W4,hW4⟩:=e_ ((((((w.setCell ⟨g,0,none⟩ (.int .i64 p)).setCell ⟨g,1,none⟩ (.int .i64 q.v)).setCell ⟨g,2,none⟩ (.slice F1 M f1)).setCell ⟨g,3,none⟩ (.slice T1 q.t.length t1)).setCell ⟨g,4,none⟩ (.slice D1 l.length d1)).setCell ⟨g,5,none⟩ (.slice H1 M m1));rw[hW4]at hch;have hG4:Blk W4 g 29 #[.int .i64 p,.int .i64 q.v,.slice F1 M f1,.slice T1 q.t.length t1,.slice D1 l.length d1,.slice H1 M m1]:=by
    rw[←hW4];exact ((((((hG.set_ 0 _).set_ 1 _).set_ 2 _).set_ 3 _).set_ 4 _).set_ 5 _)
   have hs4:=hch.size;rw[hM]at hR;have hR4:=(hR.chg hch (by omega)).wider (l_ _) (by omega:hi6≤W4.heap.size);have hB4:=((HB1.out.trans hb).lowF (lo:=w0.heap.size) (hch.below (by omega) (by omega)) (l_ _) (by omega));have hC4:=(hb.keep HC1.out).belowF (hch.below (l_ g) (Nat.le_of_lt hgs)) hgc;have hK4:=(HK2.out.ck hb hcw1).chg hch (.inl (by omega));have HG4:=h_ hG4;have HR4:=h_ hR4;have HB4:=h_ hB4;have HC4:=h_ hC4;have HK4:=h_ hK4;have HMS:=h_ (And.intro hml hms);have HSS:=h_ hS;have hg4:g<W4.heap.size:=by omega
   have hlo60:w0.heap.size+1<lo6:=by omega
   clear hG4 hR4 hB4 hC4 hK4 hch hR hS hd hiv hdj i6 i7 d67 hb hG hmse hml hms hlo6 hhi6 e7;obtain⟨tn,htn⟩:=e_ (q.t.length);obtain⟨dn,hdn⟩:=e_ (l.length);rw[htn,hdn]at hW4 HG4 HR4 HSS⊢;rw[hM]at HSS;clear hM htn hdn;go_wp2;clear hW4 r0 r1 r2 r3 r4 r5 fr;go_loopw [10] (fun iv wr=>∃ (i:Nat) (ms:List Mx),i≤M∧iv = .int .i64 i∧ms.length=M∧MsOk ms∧g<wr.heap.size∧RepI wr lo6 wr.heap.size (.agg #[.int .i64 p,.int .i64 q.v,.slice F1 M f1,.slice T1 tn t1,.slice D1 dn d1,.slice H1 M m1]) ⟨p,q,l,ms⟩∧Blk wr g 29 #[.int .i64 p,.int .i64 q.v,.slice F1 M f1,.slice T1 tn t1,.slice D1 dn d1,.slice H1 M m1]∧Blk wr (w0.heap.size+1) 29 #[.int .i64 0,.int .i64 0,.slice none 0 0,.slice none 0 0,.slice none 0 0,.slice none 0 0]∧Cur wr c∧Ck c w0 wr) (fun iv _=>M-(intOf iv).toNat)
   case atStart=>exact⟨0,ms,l0_ _,rfl,HMS.out.1,HMS.out.2,hg4,HR4.out,HG4.out,HK4.out,HC4.out,HB4.out⟩
   case round =>
    clear HR4 HG4 HK4 HC4 HB4 HMS hg4;obtain⟨i,ms2,hi2,rfl,hml,hms,hgr,hR,hG,hK,hC,hB⟩:=hrel;have HR:=h_ hR;have HG:=h_ hG;have HK:=h_ hK;have HC:=h_ hC;have HB:=h_ hB;have HML:=h_ hml;have HMS:=h_ hms;have q5:=hG.cell' (i:=5) rfl;have hgc2:g≠c:=by omega
    clear hR hG hK hC hB;by_cases hlt:i<M
    ·obtain⟨y,hy⟩:∃ y,ms2[i]?=some y:=⟨_,l2_ (by omega)⟩;obtain⟨R,Q,hyr,hyc,hR4,hQ4⟩:=hms y (l4_ hy);obtain⟨gH,cH,sH,eH,hgH1,hgH2,z0,z1,z2,_,hfz⟩:=HR.out.mxAt hy;simp only[Value.slice.injEq]at eH;obtain⟨rfl,hMM,rfl⟩:=eH;clear hMM;rw[hyr]at z0;rw[hyc]at z1;have HY:=h_ hy;have Z0:=h_ z0;have Z1:=h_ z1;have hgHc:gH≠c:=by omega
     clear hy hyr hyc z0 z1 z2 hfz hms hml;go_wp2;clear q5;refine g3_ (c) (by kernel_rfl) [.eq (.pointer (some ⟨g,5,none⟩)),.eq (.slice (some ⟨gH,0,none⟩) M m1),.eq (.int .i64 i),.eq (.pointer (some ⟨c,0,none⟩)),.eq (.int .i64 p),.eq (.pointer (some ⟨g,5,none⟩)),.eq (.slice (some ⟨gH,0,none⟩) M m1),.eq (.int .i64 i),.eq (.pointer (some ⟨gH,i*3,none⟩)),.eq (.pointer (some ⟨gH,i*3,none⟩)),.eq (.int .i64 (R:Int)),.eq (.pointer (some ⟨g,5,none⟩)),.eq (.slice (some ⟨gH,0,none⟩) M m1),.eq (.int .i64 i),.eq (.pointer (some ⟨gH,i*3,none⟩)),.eq (.pointer (some ⟨gH,i*3+1,none⟩)),.eq (.int .i64 (Q:Int)),rel 17 (fun u lo hi w=>∃ l7,MxO w lo hi u ⟨(R:Int),(Q:Int),l7⟩∧c<lo),.eq (.pointer (some ⟨gH,i*3,none⟩))] [[],[0],[],[],[],[],[5],[],[5,6,7],[5,6,7,8],[5,6,7,8,9],[],[11],[],[11,12,13],[11,12,13,14],[11,12,13,14,15],[3,4,5,6,7,8,9,10,11,12,13,14,15,16],[0,1,2,3,4,5,6,7,8,9,10,11,12,13,14,15,16,17],[0,1,2,3,4,5,6,7,8,9,10,11,12,13,14,15,16,17,18]] 19 (by kernel_rfl) ⟨trivial,trivial,trivial,trivial,trivial,trivial,trivial,trivial,trivial,trivial,trivial,trivial,trivial,trivial,trivial,trivial,trivial,d6_ (fun u lo hi w w' ⟨l7,h1,h2⟩ hb=>⟨l7,h1.chg hb.chg (.inr (by omega)),h2⟩),trivial,trivial⟩ ⟨?_,?_,?_,?_,?_,?_,?_,?_,?_,?_,?_,?_,?_,?_,?_,?_,?_,?_,?_,trivial⟩ ?_;iterate 19 (intro x w hb hk Q' hQ;have he:=k_e hk;simp only[k_s]at he;simp only[netE]at hQ⊢;(try simp only[he]at hQ⊢);(try clear he);rotate_left)
     rotate_left
     ·clear hk;go_wp2;exact hQ _ _ (Ck.refl _ _) rfl
     ·clear hk;have z:=(HG.out.ck hb hgc2).cell' (i:=5) rfl;go_wp2;exact hQ (.slice (some ⟨gH,0,none⟩) M m1) _ (Ck.refl _ _) rfl
     iterate 4 (· clear hk;go_wp2;exact hQ _ _ (Ck.refl _ _) rfl)
     ·clear hk;have z:=(HG.out.ck hb hgc2).cell' (i:=5) rfl;go_wp2;exact hQ (.slice (some ⟨gH,0,none⟩) M m1) _ (Ck.refl _ _) rfl
     iterate 3 (· clear hk;go_wp2;exact hQ _ _ (Ck.refl _ _) rfl)
     ·clear hk;have z:=hb.cell hgH2 hgHc Z0.out;go_wp2;exact hQ (.int .i64 (R:Int)) _ (Ck.refl _ _) rfl
     ·clear hk;go_wp2;exact hQ _ _ (Ck.refl _ _) rfl
     ·clear hk;have z:=(HG.out.ck hb hgc2).cell' (i:=5) rfl;go_wp2;exact hQ (.slice (some ⟨gH,0,none⟩) M m1) _ (Ck.refl _ _) rfl
     iterate 3 (· clear hk;go_wp2;exact hQ _ _ (Ck.refl _ _) rfl)
     ·clear hk;have z:=hb.cell hgH2 hgHc Z1.out;go_wp2;exact hQ (.int .i64 (Q:Int)) _ (Ck.refl _ _) rfl
     ·clear hk;have hcw9:=(hb.keep HC.out).ltF;go_wp2_with fail
      refine (G1_ c p R Q _ (hb.keep HC.out) hp (by omega) (by omega)).mono ?_;rintro e w7 ⟨v7,l7,rfl,hM7,_,_,hb7⟩;go_wp2;exact hQ _ _ hb7 ⟨l7,hM7.wider (Nat.le_succ _) (l_ _),hcw9⟩
     ·clear hk;go_wp2;exact hQ _ _ (Ck.refl _ _) rfl
     ·intro x w hb hk hiv hdj;have h17:∃ l7,MxO w (x.lo 17) (x.hi 17) (x.v 17) ⟨(R:Int),(Q:Int),l7⟩∧c<(x.lo 17):=hk 17 (by decide);have he:=k_g hk [0,1,2,3,4,5,6,7,8,9,10,11,12,13,14,15,16,18];simp only[k_s]at he;simp only[netE,he];clear he hk;obtain⟨l7,hM7,_⟩:=h17;obtain⟨AM,am,e17⟩:=hM7.form;simp only at e17;obtain⟨ml,hml7⟩:=e_ (l7.length);rw[hml7]at e17;rw[e17]at hM7⊢;have i17:=hiv 17 (by omega);have hOw:=HR.out.chg hb.chg (.inr (by omega));have hml2:=HML.out;have hsb:=hb.size;have hset:=RepI.setMx hOw (j:=i) (by show i<ms2.length;omega) hM7 i17.1 i17.2.1;obtain⟨W14,hW14⟩:=e_ (set3 w gH (i*3) (.int .i64 (R:Int)) (.int .i64 (Q:Int)) (.slice AM ml am));rw[hW14]at hset;have hch3:Chg gH (gH+1) w W14:=by rw[←hW14];exact R5_ _ _ _ _ _ _
      have hs14:W14.heap.size=w.heap.size:=by rw[←hW14];simp
      have hgHg:gH≠g:=by
       obtain⟨cs,hbk,_⟩:=HR.out.blk;exact b3Q hbk HG.out (by decide)
      have HREP:=h_ (hset.1.wider (l_ _) (by omega:x.hi 17≤W14.heap.size));have hlow:=hch3.below (B:=lo6) hgH1 (by omega);have HG14:=h_ ((HG.out.ck hb hgc2).chg hch3 (by omega));have HK14:=h_ ((HK.out.ck hb hcw1).chg hch3 (.inl (by omega)));have HC14:=h_ ((hb.keep HC.out).belowF hlow hcl6);have HB14:=h_ ((HB.out.trans hb).lowF hlow (by omega) hcl6);have hg14:g<W14.heap.size:=by omega
      have HMS2:=h_ (show (ms2.set i ⟨(R:Int),(Q:Int),l7⟩).length=M by rw[List.length_set];exact hml2);have HMO:=h_ (HMS.out.set i l7 hR4 hQ4);obtain⟨g0',c0',s0',e0',_,_,z0,z1,z2,_,zf⟩:=hOw.mxAt HY.out;simp only[Value.slice.injEq,Option.some.injEq,Addr.mk.injEq,and_true,true_and]at e0';obtain⟨eg1,eg3,eg2⟩:=e0';clear eg3;subst eg1;subst eg2;replace z0:∃ u,w.cell? ⟨gH,i*3,none⟩=some u:=⟨_,z0⟩;replace z1:∃ u,w.cell? ⟨gH,i*3+1,none⟩=some u:=⟨_,z1⟩;replace z2:∃ u,w.cell? ⟨gH,i*3+2,none⟩=some u:=⟨_,z2⟩;obtain⟨u0,z0⟩:=z0;obtain⟨u1,z1⟩:=z1;obtain⟨u2,z2⟩:=z2;clear hset hch3 hs14 hOw hiv hdj e17 i17 hM7 hml7 hml2 hlow;go_wp2;clear hW14 z0 z1 z2 zf;go_roundw
      case rel=>exact⟨i+1,_,by omega,by go_num,HMS2.out,HMO.out,hg14,HREP.out,HG14.out,HK14.out,HC14.out,HB14.out⟩
      case measure=>simp[intOf];omega
    ·obtain rfl:i=M:=by omega
     clear q5;have kz:=HK.out;have fr:=kz.frozen;obtain⟨s0,s1,s2,s3,s4,s5⟩:=c_6 kz;obtain⟨r0,r1,r2,r3,r4,r5⟩:=c_6 HG.out;have hc6:=chg6 wr (w0.heap.size+1) (.int .i64 p) (.int .i64 q.v) (.slice F1 i f1) (.slice T1 tn t1) (.slice D1 dn d1) (.slice H1 i m1);have OF:=h_ (HR.out.chg hc6 (.inr (by omega)));have hsr:=HB.out.size;have GS:=h_ (HB.out.lowF (lo:=w0.heap.size) (hc6.below (by omega) (by omega)) (l_ _) (by omega));have hll:lo≤lo6:=by omega
     clear kz hc6 hms hml;go_wp2;refine bodyPost_ret (v:=.agg #[.int .i64 p,.int .i64 q.v,.slice F1 i f1,.slice T1 tn t1,.slice D1 dn d1,.slice H1 i m1]) (by simp[results,go_sem,s0,s1,s2,s3,s4,s5]) rfl ?_;unfold OfP;try simp only[World.size_setCell]
     have OF':=OF.out;try simp only[World.size_setCell]at OF'
     exact⟨_,⟨p,q,l,ms2⟩,lo6,rfl,OF',HSS.out,HDL.out,hll,GS.out⟩
def RepL (w:World) (lo hi:Nat) (v:Value) (x:Rp):Prop:=∃ f t d m vs,v = .agg #[.int .i64 x.p,.int .i64 x.q.v,f,t,d,m]∧a8_ w lo hi f x.q.f∧a8_ w lo hi t x.q.t∧a8_ w lo hi d x.d∧OutM w lo hi m vs x.m∧vs.length=x.m.length∧(∀ p∈vs.zip (x.m.map Mx.a),a8_ w lo hi p.1 p.2)∧(I64 x.p∧I64 x.q.v)∧∀ m∈x.m,I64 m.r∧I64 m.c
theorem RepL.rd {w:World} {lo hi:Nat} {v:Value} {x:Rp} (h:RepL w lo hi v x):RpR w w.heap.size v x:=by
 obtain⟨f,t,d,m,vs,e,h1,h2,h3,h4,h5,h6,h7,h8⟩:=h;exact⟨f,t,d,m,e,h1.rd,h2.rd,h3.rd,OutM.rd h4 h5 (fun p hp=>(h6 p hp).rd) h8,h7⟩
theorem RepL.chg {w w':World} {lo hi lo' hi':Nat} {v:Value} {x:Rp} (h:RepL w lo hi v x) (hc:Chg lo' hi' w w') (hd:hi≤lo'∨hi'≤lo):RepL w' lo hi v x:=by
 obtain⟨f,t,d,m,vs,e,h1,h2,h3,h4,h5,h6,h7,h8⟩:=h;exact⟨f,t,d,m,vs,e,h1.chg hc hd,h2.chg hc hd,h3.chg hc hd,h4.chg hc hd,h5,fun p hp=>(h6 p hp).chg hc hd,h7,h8⟩
theorem RepL.wider {w:World} {lo hi lo' hi':Nat} {v:Value} {x:Rp} (h:RepL w lo hi v x) (k1:lo'≤lo) (k2:hi≤hi'):RepL w lo' hi' v x:=by
 obtain⟨f,t,d,m,vs,e,h1,h2,h3,h4,h5,h6,h7,h8⟩:=h;exact⟨f,t,d,m,vs,e,h1.wider k1 k2,h2.wider k1 k2,h3.wider k1 k2,h4.mono k1 k2,h5,fun p hp=>(h6 p hp).wider k1 k2,h7,h8⟩
theorem RepI.toL {w:World} {lo hi:Nat} {v:Value} {x:Rp} (h:RepI w lo hi v x):RepL w lo hi v x:=by
 obtain⟨f,t,d,m,vs,mi,e,h1,h2,h3,h4,h5,h6,h9,h7,h8⟩:=h;exact⟨f,t,d,m,vs,e,h1.wider (l_ _) h9.2,h2.wider (l_ _) h9.2,h3.wider (l_ _) h9.2,h4,h5,fun p hp=>(h6.1 p hp).wider h9.1 (l_ _),h7,h8⟩
theorem RepI.dim {w:World} {lo hi:Nat} {p v f t d m:Value} {x:Rp} (h:RepI w lo hi (.agg #[p,v,f,t,d,m]) x):a8_ w lo hi d x.d:=by
 obtain⟨f',t',d',m',vs,mi,e,h1,h2,h3,h4,h5,h6,h9,h7,h8⟩:=h;simp only[Value.agg.injEq,Array.mk.injEq,List.cons.injEq,and_true]at e;obtain⟨_,_,rfl,rfl,rfl,rfl⟩:=e;exact h3.wider (l_ _) h9.2
theorem RepI.newD {w w':World} {lo hi:Nat} {p v f t d m d':Value} {x:Rp} {l':List Int} (h:RepI w lo hi (.agg #[p,v,f,t,d,m]) x) (hs:Sep3 (.agg #[p,v,f,t,d,m])) (hg:w.grownBy w' d.ownBlock) (ho:OwnI w' lo d' l') (hlo:hi≤w.heap.size) :
  RepL w' lo w'.heap.size (.agg #[p,v,f,t,d',m]) ⟨x.p,x.q,l',x.m⟩:=by
 obtain⟨f',t',d0,m',vs,mi,e,h1,h2,h3,h4,h5,h6,h9,h7,h8⟩:=h;simp only[Value.agg.injEq,Array.mk.injEq,List.cons.injEq,and_true]at e;obtain⟨rfl,rfl,rfl,rfl,rfl,rfl⟩:=e;obtain⟨_,_,f',t',d0,m',m1,e,s1,s2,s3⟩:=hs;simp only[Value.agg.injEq,Array.mk.injEq,List.cons.injEq,and_true]at e;obtain⟨_,_,rfl,rfl,rfl,rfl⟩:=e;have hsz:=hg.size;have far:∀ {u:Value},(∀ k,u.ownBlock=some k→k<m1)→u.ownBlock=none∨u.ownBlock≠d.ownBlock:=fun {u} hu=>by
  rcases hk:u.ownBlock with _ | k
  ·exact .inl rfl
  ·refine .inr fun e=>?_
   have:=s3 k e.symm;have:=hu k hk;omega
 refine⟨f,t,d',m,vs,rfl,((a8_.of_own (h1.1.kept hg (far s1)))).wider (l_ _) (l_ _),((a8_.of_own (h2.1.kept hg (far s2)))).wider (l_ _) (l_ _),a8_.of_own ho,?_,h5,fun p hp=>?_,h7,h8⟩
 ·exact (RowO.grown h4 (by decide) h3.1 hg).mono (l_ _) (by omega)
 ·have hI:=h6.1 p hp;refine (a8_.of_own (hI.1.kept hg ?_)).wider h9.1 (l_ _);rcases hk:p.1.ownBlock with _ | k
  ·exact .inl rfl
  ·refine .inr fun e=>?_
   have a1:=h3.2 k e.symm;have a2:=(hI.1.lt k hk).1;omega
theorem RepL.setR {w:World} {lo hi g:Nat} {t:TypeId} {bs:Array Value} {v:Value} {x:Rp} (h:RepL w lo hi v x) (hb:Blk w g t bs) (h1:3≠t) (h2:65≠t) (i:Nat) (u:Value):RepL (w.setCell ⟨g,i,none⟩ u) lo hi v x:=by
 obtain⟨f,t',d,m,vs,e,k1,k2,k3,k4,k5,k6,k7,k8⟩:=h;have st:∀ {y:Value} {l:List Int},a8_ w lo hi y l→a8_ (w.setCell ⟨g,i,none⟩ u) lo hi y l:=fun h=>⟨h.1.setCell (fun e=>h.1.blkne hb h1 e.symm) _,h.2⟩
 exact⟨f,t',d,m,vs,e,st k1,st k2,st k3,RowO.set k4 hb h2 i u,k5,fun p hp=>st (k6 p hp),k7,k8⟩
def AnyP (c:Nat) (w0:World) (e:Ending) (w':World):Prop:=∃ (v:Value) (x:Rp),e = .returned v∧RepL w' (w0.heap.size+1) w'.heap.size v x∧Ck c w0 w'
theorem c4q (c:Nat) (w0:World) (hc:Cur w0 c) :
  Calls Tryz.prog 76 #[.pointer (some ⟨c,0,none⟩)] w0 fun e w'=>AnyP c w0 e w':=by
 have hcl:=hc.ltF;obtain⟨W,hW⟩:∃ W,W=w0.alloc (.cells #[.int .i64 0,.int .i64 0,.slice none 0 0,.slice none 0 0,.slice none 0 0,.slice none 0 0] 29):=⟨_,rfl⟩;have g0:Ck c w0 W:=by rw[hW];exact Ck.of_below (a0_ _ _)
 have kR:Blk W w0.heap.size 29 #[.int .i64 0,.int .i64 0,.slice none 0 0,.slice none 0 0,.slice none 0 0,.slice none 0 0]:=by rw[hW];exact Blk.new _ _ _
 have sW:W.heap.size=w0.heap.size+1:=by rw[hW];simp
 have hcw:w0.heap.size≠c:=by omega
 have KR:=h_ kR;have G0:=h_ g0;have HC:=h_ (g0.keep hc);clear kR hc g0;go_enter Tryz.func76,Tryz.ntmps76
 go_wp2_with fail
 rw[←hW];clear hW;refine (z9_ c _ HC.out).mono ?_;rintro e w1 ⟨p,rfl,hp,hb1⟩;have HC1:=h_ (hb1.keep HC.out);have hs1:=hb1.size;have HB1:=h_ hb1;clear hb1 HC;go_wp2_with fail
 refine (Y2_ c _ HC1.out).mono ?_;rintro e w2 ⟨v2,q,rfl,hq,_,_,hb2⟩;have hcl1:=HC1.out.ltF;have hs2:=hb2.size;have HC2:=h_ (hb2.keep HC1.out);have HB2:=h_ (HB1.out.trans hb2);obtain⟨av,bv,rfl,hF,hV⟩:=hq;have ha:=hF.1 (av,q.f) (by simp);have hb:=hF.1 (bv,q.t) (by simp);simp only at ha hb;obtain⟨A,ca,rfl⟩:=ha.form;obtain⟨C,cb,rfl⟩:=hb.form;clear hF hb2 HC1 HB1;obtain⟨W3,hW3,ga,gq,hgq,kq⟩:=b_2 w2 #[.int .i64 q.v,.slice A q.f.length ca,.slice C q.t.length cb] 26;have hs3:W3.heap.size=gq+1:=by rw[←hW3,←hgq];simp
 have HQI:=h_ (show s0_ W3 w1.heap.size w2.heap.size (.agg #[.int .i64 q.v,.slice A q.f.length ca,.slice C q.t.length cb]) q from ⟨_,_,rfl,ha.below ga,hb.below ga,hV⟩);have HC3:=h_ ((Ck.of_below (c:=c) ga).keep HC2.out);have HB3:=h_ (HB2.out.trans (Ck.of_below ga));obtain⟨z0,z1,z2⟩:=c_3 kq;clear ha hb ga kq HC2 HB2;go_wp2_with fail
 try rw[hW3]
 try rw[hgq]
 clear hW3 z0 z1 z2;refine (a9x c p _ q 2 w1.heap.size w2.heap.size W3 HC3.out hp HQI.out hcl1 (by omega) hs2 (by omega)).mono ?_;intro e w4 hOf;unfold OfP at hOf;obtain⟨v4,⟨P,⟨V,F,T⟩,D,M⟩,lo1,rfl,hR,hS,hD5,hlo1,hb4⟩:=hOf;obtain⟨A,a,C,cc,E,ee,H,h,rfl⟩:=hR.rd.form;simp only at hR hS hD5⊢;obtain⟨nf,hnf⟩:=e_ (F.length);obtain⟨nt,hnt⟩:=e_ (T.length);obtain⟨nd,hnd⟩:=e_ (D.length);obtain⟨nm,hnm⟩:=e_ (M.length);rw[hnf,hnt,hnd,hnm]at hR hS⊢;rw[hnd]at hD5;have HLD:=h_ hnd;have HLM:=h_ hnm;clear hnf hnt hnd hnm;have hs4:=hb4.size;have hC4:=hb4.keep HC3.out;obtain⟨W5,hW5,gb,g5,hg5,k5⟩:=b_2 w4 #[.int .i64 P,.int .i64 V,.slice A nf a,.slice C nt cc,.slice E nd ee,.slice H nm h] 29;have hs5:W5.heap.size=g5+1:=by rw[←hW5,←hg5];simp
 have hR5:=hR.below gb;rw[hg5]at hR5;have hcl4:=hC4.ltF;have HC5:=h_ ((Ck.of_below (c:=c) gb).keep hC4);have HB5:=h_ ((HB3.out.trans hb4).trans (Ck.of_below gb));have HG5:=h_ k5;have HR5:=h_ hR5;have HS:=h_ hS;have hg5c:g5≠c:=by omega
 have hl15:lo1≤g5:=by
  obtain⟨_,_,_,_,_,mi,_,_,_,_,_,_,_,hmi,_⟩:=hR5;omega
 have hw1:w0.heap.size+1≤lo1:=by omega
 have hcl1':c<lo1:=by omega
 clear hR hS hb4 hC4 gb k5 hR5 HC3 HB3 HQI;go_wp2_with fail
 try rw[hW5]
 try rw[hg5]
 clear hW5 hg5;refine (d3_ c 14 _ HC5.out ⟨by omega,by omega⟩).mono ?_;rintro e w6 ⟨t,ht,_,rfl,hb6⟩;have HC6:=h_ (hb6.keep HC5.out);have HB6:=h_ (HB5.out.trans hb6);have HG6:=h_ (HG5.out.ck hb6 hg5c);have HR6:=h_ (HR5.out.chg hb6.chg (.inr (by omega)));have hs6:=hb6.size;have hg6:g5<w6.heap.size:=by omega
 clear hb6 HC5 HB5 HG5 HR5;by_cases e0:t=0
 ·subst e0;have q4:=HG6.out.cell' (i:=4) rfl;obtain⟨W7,hW7⟩:=e_ (w6.alloc (.cells #[.int .i64 1] 3));have gb:Below w6.heap.size w6 W7:=by rw[←hW7];exact a0_ _ _
  have hRb:=HR6.out.below gb;have hko:=hRb.dim.1;have hka:=HG6.out.below gb hg6;have hs7:=gb.size;have hcl6:=HC6.out.ltF;have hB7:=HB6.out.trans (Ck.of_below gb);have hone:SlI W7 W7.heap.size (.slice (some ⟨w6.heap.size,0,none⟩) 1 1) [(1:Int)]:=by rw[←hW7];exact SlI.one w6 _ 1 ⟨by omega,by omega⟩
  have hnd5:=HLD.out
  (go_wp2_with (at_builtin;refine Hold.stop ?_));unfold Hold
  try rw[hW7]
  refine d7_ rfl (.tmp 19) (.tmp 20) rfl lo1 _ (.slice E nd ee) D rfl hko _ _ _ [(1:Int)] rfl rfl hone (by simp only[List.length_singleton];omega) (by omega) ?_;intro v1 w8 ho1 hg1 hv1;clear hv1 hnd5;have hk8:=hka.grown hg1 (hko.blkne hka (by decide));have hs8:=hg1.size;have hB8:=hB7.lowF (c9_ hg1 (fun j hj=>(hko.lt j hj).1) (by omega:lo1≤W7.heap.size)) (by omega) hcl1';have hL8:=hRb.newD HS.out hg1 ho1 (by omega);obtain⟨E1,e1,rfl,_⟩:=ho1.form;obtain⟨l1,hl1⟩:=e_ (D ++ [(1:Int)]);rw[hl1]at ho1 hL8⊢;obtain⟨n1,hn1⟩:=e_ (l1.length);rw[hn1]at ho1 hL8⊢;have fX:=hk8.frozen;have cX:=hk8.cell' (i:=4) rfl;obtain⟨W9,hW9⟩:=e_ (w8.setCell ⟨g5,4,none⟩ (.slice E1 n1 e1));have hM9:Blk W9 g5 29 #[.int .i64 P,.int .i64 V,.slice A nf a,.slice C nt cc,.slice E1 n1 e1,.slice H nm h]:=by rw[←hW9];exact hk8.set_ 4 _
  have hch:Chg g5 (g5+1) w8 W9:=by rw[←hW9];exact a5_ (l_ _) (m0_ _)
  have hL9:=hL8.setR hk8 (by decide) (by decide) 4 (.slice E1 n1 e1);rw[hW9]at hL9;have hs9:=hch.size;have HBF:=h_ (hB8.lowF (hch.below (B:=lo1) hl15 (by omega)) (by omega) hcl1');have HGF:=h_ hM9;have HRF:=h_ (hL9.wider (l_ _) hs9);clear q4 hW7 gb hRb hko hka hone hB7 ho1 hg1 hk8 hB8 hL8 hL9 hch hM9 HC6 HB6 HG6 HR6 hl1 hn1;have kz:=KR.out.ck HBF.out hcw;have fr:=kz.frozen;obtain⟨s0,s1,s2,s3,s4,s5⟩:=c_6 kz;obtain⟨r0,r1,r2,r3,r4,r5⟩:=c_6 HGF.out;have hc6:=chg6 W9 w0.heap.size (.int .i64 P) (.int .i64 V) (.slice A nf a) (.slice C nt cc) (.slice E1 n1 e1) (.slice H nm h);have hsr:=HBF.out.size;have OF:=h_ ((HRF.out.chg hc6 (.inr (by omega))).wider (by omega:w0.heap.size+1≤lo1) hc6.size);have GS:=h_ ((G0.out.trans HBF.out).lowF (lo:=w0.heap.size) (hc6.below (l_ _) (by omega)) (l_ _) hcl);clear kz hc6;go_wp2;refine bodyPost_ret (v:=.agg #[.int .i64 P,.int .i64 V,.slice A nf a,.slice C nt cc,.slice E1 n1 e1,.slice H nm h]) (by simp[results,go_sem,s0,s1,s2,s3,s4,s5]) rfl ?_;unfold AnyP;exact⟨_,⟨P,⟨V,F,T⟩,l1,M⟩,rfl,OF.out,GS.out⟩
 ·by_cases e1:t=1
  ·subst e1;have q5:=HG6.out.cell' (i:=5) rfl;by_cases hz:nm=0
   ·subst hz;have HBF:=h_ HB6.out;have HGF:=h_ HG6.out;have HRF:=h_ (HR6.out.toL.wider (l_ _) (Nat.le_of_lt hg6));clear q5;have kz:=KR.out.ck HBF.out hcw;have fr:=kz.frozen;obtain⟨s0,s1,s2,s3,s4,s5⟩:=c_6 kz;obtain⟨r0,r1,r2,r3,r4,r5⟩:=c_6 HGF.out;have hc6:=chg6 w6 w0.heap.size (.int .i64 P) (.int .i64 V) (.slice A nf a) (.slice C nt cc) (.slice E nd ee) (.slice H 0 h);have hsr:=HBF.out.size;have OF:=h_ ((HRF.out.chg hc6 (.inr (by omega))).wider (by omega:w0.heap.size+1≤lo1) hc6.size);have GS:=h_ ((G0.out.trans HBF.out).lowF (lo:=w0.heap.size) (hc6.below (l_ _) (by omega)) (l_ _) hcl);clear kz hc6;go_wp2;refine bodyPost_ret (v:=.agg #[.int .i64 P,.int .i64 V,.slice A nf a,.slice C nt cc,.slice E nd ee,.slice H 0 h]) (by simp[results,go_sem,s0,s1,s2,s3,s4,s5]) rfl ?_;unfold AnyP;exact⟨_,⟨P,⟨V,F,T⟩,D,M⟩,rfl,OF.out,GS.out⟩
   ·have hml:=HLM.out;have hpos:0<nm:=Nat.pos_of_ne_zero hz;obtain⟨y,hy⟩:∃ y,M[0]?=some y:=⟨_,l2_ (by omega)⟩;obtain⟨gH,cH,sH,eH,hgH1,hgH2,_⟩:=HR6.out.mxAt (j:=0) hy;simp only[Value.slice.injEq]at eH;obtain⟨rfl,hMM,rfl⟩:=eH;clear hMM hml;have hgHc:gH≠c:=by omega
    have HY:=h_ hy;clear hy;go_wp2;refine g3_ (c) (by kernel_rfl) [.eq (.pointer (some ⟨g5,5,none⟩)),.eq (.slice (some ⟨gH,0,none⟩) nm h),.eq (.pointer (some ⟨c,0,none⟩)),.eq (.int .i64 p),rel 4 (fun u lo hi w=>∃ m2,MxO w lo hi u m2∧c<lo),.eq (.pointer (some ⟨gH,0,none⟩))] [[],[0],[],[],[2,3],[0,1,2,3,4],[0,1,2,3,4,5]] 6 (by kernel_rfl) ⟨trivial,trivial,trivial,trivial,d6_ (fun u lo hi w w' ⟨m2,h1,h3⟩ hb=>⟨m2,h1.chg hb.chg (.inr (by omega)),h3⟩),trivial,trivial⟩ ⟨?_,?_,?_,?_,?_,?_,trivial⟩ ?_;iterate 6 (intro x w hb hk Q' hQ;have he:=k_e hk;simp only[k_s]at he;simp only[netE]at hQ⊢;(try simp only[he]at hQ⊢);(try clear he);rotate_left)
    rotate_left
    ·clear hk;go_wp2;exact hQ _ _ (Ck.refl _ _) rfl
    ·clear hk;have z:=(HG6.out.ck hb hg5c).cell' (i:=5) rfl;go_wp2;exact hQ (.slice (some ⟨gH,0,none⟩) nm h) _ (Ck.refl _ _) rfl
    iterate 2 (· clear hk;go_wp2;exact hQ _ _ (Ck.refl _ _) rfl)
    ·clear hk;have hcw9:=(hb.keep HC6.out).ltF;go_wp2_with fail
     refine (c3X c p _ (hb.keep HC6.out) hp).mono ?_;rintro e w7 ⟨v7,m7,rfl,hM7,hl7,hb7⟩;go_wp2;exact hQ _ _ hb7 ⟨m7,hM7.wider (Nat.le_succ _) (l_ _),hcw9⟩
    ·clear hk;go_wp2;exact hQ _ _ (Ck.refl _ _) rfl
    ·intro x w hb hk hiv hdj;have h4:∃ m2,MxO w (x.lo 4) (x.hi 4) (x.v 4) m2∧c<(x.lo 4):=hk 4 (by decide);have he:=k_g hk [0,1,2,3,5];simp only[k_s]at he;simp only[netE,he];clear he hk;obtain⟨⟨r9,k9,l9⟩,hM9,_⟩:=h4;obtain⟨A9,c9,e9⟩:=hM9.form;simp only at e9;obtain⟨n9,hn9⟩:=e_ (l9.length);rw[hn9]at e9;rw[e9]at hM9⊢;have i4:=hiv 4 (by omega);have hOw:=HR6.out.chg hb.chg (.inr (by omega));have hml2:=HLM.out;have hsb:=hb.size;have hset:=RepI.setMx (hOw.wider (l_ _) (Nat.le_of_lt hg6)) (j:=0) (show 0<M.length by omega) hM9 i4.1 i4.2.1;rw[Nat.zero_mul]at hset;obtain⟨W14,hW14⟩:=e_ (set3 w gH 0 (.int .i64 r9) (.int .i64 k9) (.slice A9 n9 c9));rw[hW14]at hset;have hch3:Chg gH (gH+1) w W14:=by rw[←hW14];exact R5_ _ _ _ _ _ _
     have hs14:W14.heap.size=w.heap.size:=by rw[←hW14];simp
     have hlow:=hch3.below (B:=lo1) hgH1 (by omega);obtain⟨g0',c0',s0',e0',_,_,z0,z1,z2,_,zf⟩:=hOw.mxAt (j:=0) HY.out;simp only[Value.slice.injEq,Option.some.injEq,Addr.mk.injEq,and_true,true_and]at e0';obtain⟨eg1,eg3,eg2⟩:=e0';clear eg3;subst eg1;subst eg2;rw[Nat.zero_mul]at z0 z1 z2;replace z0:∃ u,w.cell? ⟨gH,0,none⟩=some u:=⟨_,z0⟩;replace z1:∃ u,w.cell? ⟨gH,1,none⟩=some u:=⟨_,z1⟩;replace z2:∃ u,w.cell? ⟨gH,2,none⟩=some u:=⟨_,z2⟩;obtain⟨u0,z0⟩:=z0;obtain⟨u1,z1⟩:=z1;obtain⟨u2,z2⟩:=z2;have HBF:=h_ ((HB6.out.trans hb).lowF hlow (by omega) hcl1');have HGF:=h_ ((HG6.out.ck hb hg5c).chg hch3 (by omega));have HRF:=h_ (hset.1.toL.wider (l_ _) (by omega:x.hi 4≤W14.heap.size));clear hset hch3 hs14 hOw hiv hdj e9 i4 hM9 hn9 hml2 hlow q5 HC6 HB6 HG6 HR6 hb hsb;have kz:=KR.out.ck HBF.out hcw;have fr:=kz.frozen;obtain⟨s0,s1,s2,s3,s4,s5⟩:=c_6 kz;obtain⟨r0,r1,r2,r3,r4,r5⟩:=c_6 HGF.out;have hc6:=chg6 W14 w0.heap.size (.int .i64 P) (.int .i64 V) (.slice A nf a) (.slice C nt cc) (.slice E nd ee) (.slice (some ⟨gH,0,none⟩) nm h);have hsr:=HBF.out.size;have OF:=h_ ((HRF.out.chg hc6 (.inr (by omega))).wider (by omega:w0.heap.size+1≤lo1) hc6.size);have GS:=h_ ((G0.out.trans HBF.out).lowF (lo:=w0.heap.size) (hc6.below (l_ _) (by omega)) (l_ _) hcl);clear kz hc6;go_wp2;refine bodyPost_ret (v:=.agg #[.int .i64 P,.int .i64 V,.slice A nf a,.slice C nt cc,.slice E nd ee,.slice (some ⟨gH,0,none⟩) nm h]) (by simp[results,go_sem,s0,s1,s2,s3,s4,s5]) rfl ?_;unfold AnyP;exact⟨_,⟨P,⟨V,F,T⟩,D,M.set 0 ⟨r9,k9,l9⟩⟩,rfl,OF.out,GS.out⟩
  ·by_cases e2:t=2
   ·subst e2;have q4:=HG6.out.cell' (i:=4) rfl;by_cases hz:nd=0
    ·subst hz;have HBF:=h_ HB6.out;have HGF:=h_ HG6.out;have HRF:=h_ (HR6.out.toL.wider (l_ _) (Nat.le_of_lt hg6));clear q4;have kz:=KR.out.ck HBF.out hcw;have fr:=kz.frozen;obtain⟨s0,s1,s2,s3,s4,s5⟩:=c_6 kz;obtain⟨r0,r1,r2,r3,r4,r5⟩:=c_6 HGF.out;have hc6:=chg6 w6 w0.heap.size (.int .i64 P) (.int .i64 V) (.slice A nf a) (.slice C nt cc) (.slice E 0 ee) (.slice H nm h);have hsr:=HBF.out.size;have OF:=h_ ((HRF.out.chg hc6 (.inr (by omega))).wider (by omega:w0.heap.size+1≤lo1) hc6.size);have GS:=h_ ((G0.out.trans HBF.out).lowF (lo:=w0.heap.size) (hc6.below (l_ _) (by omega)) (l_ _) hcl);clear kz hc6;go_wp2;refine bodyPost_ret (v:=.agg #[.int .i64 P,.int .i64 V,.slice A nf a,.slice C nt cc,.slice E 0 ee,.slice H nm h]) (by simp[results,go_sem,s0,s1,s2,s3,s4,s5]) rfl ?_;unfold AnyP;exact⟨_,⟨P,⟨V,F,T⟩,D,M⟩,rfl,OF.out,GS.out⟩
    ·have hdl:=HLD.out;obtain⟨gA,rfl,hgA1,hgA2⟩:=HR6.out.dim.1.adrF (show 0<D.length by omega);have hgAg:gA<g5:=HR6.out.dim.2 gA rfl;have hgAc:gA≠c:=by omega
     have hpos:0<nd:=Nat.pos_of_ne_zero hz;clear hdl;go_wp2;refine g3_ (c) (by kernel_rfl) [.eq (.pointer (some ⟨g5,4,none⟩)),.eq (.slice (some ⟨gA,0,none⟩) nd ee),.eq (.pointer (some ⟨c,0,none⟩)),rel 3 (fun u lo hi w=>∃ g,u = .slice (some ⟨g,0,none⟩) 3 3∧Blk w g 3 #[.int .i64 (-1),.int .i64 5,.int .i64 0]∧c<g),rel 4 (fun u lo hi w=>∃ y:Int,u = .int .i64 y∧I64 y),.eq (.pointer (some ⟨gA,0,none⟩))] [[],[0],[],[],[2,3],[0,1,2,3,4],[0,1,2,3,4,5]] 6 (by kernel_rfl) ⟨trivial,trivial,trivial,d6_ (fun u lo hi w w' ⟨g,h1,h2,h3⟩ hb=>⟨g,h1,h2.ck hb (by omega),h3⟩),d6_ (fun u lo hi w w' h hb=>h),trivial,trivial⟩ ⟨?_,?_,?_,?_,?_,?_,trivial⟩ ?_;iterate 6 (intro x w hb hk Q' hQ;have he:=k_e hk;simp only[k_s]at he;simp only[netE]at hQ⊢;(try simp only[he]at hQ⊢);(try clear he);rotate_left)
     rotate_left
     ·clear hk;go_wp2;exact hQ _ _ (Ck.refl _ _) rfl
     ·clear hk;have z:=(HG6.out.ck hb hg5c).cell' (i:=4) rfl;go_wp2;exact hQ (.slice (some ⟨gA,0,none⟩) nd ee) _ (Ck.refl _ _) rfl
     ·clear hk;go_wp2;exact hQ _ _ (Ck.refl _ _) rfl
     ·clear hk;have hcw9:=(hb.keep HC6.out).ltF;go_wp2;exact hQ _ _ (Ck.of_below (a0_ _ _)) ⟨_,rfl,Blk.new _ _ _,hcw9⟩
     ·have h3:∃ g,(x.v 3) = .slice (some ⟨g,0,none⟩) 3 3∧Blk w g 3 #[.int .i64 (-1),.int .i64 5,.int .i64 0]∧c<g:=(hk 3 (by decide)).1;have s3:=(hk 3 (by decide)).2;clear hk;obtain⟨g,e3,hB3,hcg⟩:=h3;obtain⟨z3,hz3⟩:=e_ (x.v 3);rw[hz3]at e3 hQ⊢;clear hz3;subst e3;go_wp2_with fail
      refine (i8_ b6J c g 3 3 _ _ (hb.keep HC6.out) hB3 (by omega) (by omega) (by omega) (fun i hi=>?_) fun v h=>⟨_,h.choose_spec.1⟩).mono ?_
      ·match i,hi with
       | 0,_=>exact⟨_,rfl,_,rfl,by decide,by decide⟩
       | 1,_=>exact⟨_,rfl,_,rfl,by decide,by decide⟩
       | 2,_=>exact⟨_,rfl,_,rfl,by decide,by decide⟩
       | i+3,h=>omega
      rintro e w7 ⟨v,⟨k7,rfl,hk7⟩,rfl,hb7⟩;go_wp2;exact hQ _ _ hb7 ⟨k7,rfl,hk7⟩
     ·clear hk;go_wp2;exact hQ _ _ (Ck.refl _ _) rfl
     ·intro x w hb hk hiv hdj;have h3:∃ g,(x.v 3) = .slice (some ⟨g,0,none⟩) 3 3∧Blk w g 3 #[.int .i64 (-1),.int .i64 5,.int .i64 0]∧c<g:=hk 3 (by decide);have h4:∃ y:Int,(x.v 4) = .int .i64 y∧I64 y:=hk 4 (by decide);have he:=k_g hk [0,1,2,5];simp only[k_s]at he;simp only[netE,he];clear he hk;obtain⟨j,e4,hj⟩:=h4;rw[e4];have hRw:=HR6.out.chg hb.chg (.inr (by omega));have hOw:=hRw.dim;have hdl:=HLD.out;have cX:=(hOw.1.cellG (j:=0) (show 0<D.length by omega)).1;have fX:=hOw.1.frozenG 0;have hput:=hOw.1.put (j:=0) (x:=j) hj;have hsb:=hb.size;have hL9:=hRw.newD HS.out hput.2 hput.1 (by omega);obtain⟨W3,hW3⟩:=e_ (w.setCell ⟨gA,0,none⟩ (.int .i64 j));rw[hW3]at hL9;have hch:Chg gA (gA+1) w W3:=by rw[←hW3];exact a5_ (l_ _) (m0_ _)
      have hsc:=hch.size;have hlow:=hch.below (B:=lo1) hgA1 (by omega);have HBF:=h_ ((HB6.out.trans hb).lowF hlow (by omega) hcl1');have HGF:=h_ ((HG6.out.ck hb hg5c).chg hch (.inr (by omega)));have HRF:=h_ hL9;clear hput hch hlow hOw hRw hb hiv hdj e4 hsb HC6 HB6 HG6 HR6 hdl hL9 hsc;have kz:=KR.out.ck HBF.out hcw;have fr:=kz.frozen;obtain⟨s0,s1,s2,s3,s4,s5⟩:=c_6 kz;obtain⟨r0,r1,r2,r3,r4,r5⟩:=c_6 HGF.out;have hc6:=chg6 W3 w0.heap.size (.int .i64 P) (.int .i64 V) (.slice A nf a) (.slice C nt cc) (.slice (some ⟨gA,0,none⟩) nd ee) (.slice H nm h);have hsr:=HBF.out.size;have OF:=h_ ((HRF.out.chg hc6 (.inr (by omega))).wider (by omega:w0.heap.size+1≤lo1) hc6.size);have GS:=h_ ((G0.out.trans HBF.out).lowF (lo:=w0.heap.size) (hc6.below (l_ _) (by omega)) (l_ _) hcl);clear kz hc6;go_wp2;refine bodyPost_ret (v:=.agg #[.int .i64 P,.int .i64 V,.slice A nf a,.slice C nt cc,.slice (some ⟨gA,0,none⟩) nd ee,.slice H nm h]) (by simp[results,go_sem,s0,s1,s2,s3,s4,s5]) rfl ?_;unfold AnyP;exact⟨_,⟨P,⟨V,F,T⟩,D.set 0 j,M⟩,rfl,OF.out,GS.out⟩
   ·have HBF:=h_ HB6.out;have HGF:=h_ HG6.out;have HRF:=h_ (HR6.out.toL.wider (l_ _) (Nat.le_of_lt hg6));have kz:=KR.out.ck HBF.out hcw;have fr:=kz.frozen;obtain⟨s0,s1,s2,s3,s4,s5⟩:=c_6 kz;obtain⟨r0,r1,r2,r3,r4,r5⟩:=c_6 HGF.out;have hc6:=chg6 w6 w0.heap.size (.int .i64 P) (.int .i64 V) (.slice A nf a) (.slice C nt cc) (.slice E nd ee) (.slice H nm h);have hsr:=HBF.out.size;have OF:=h_ ((HRF.out.chg hc6 (.inr (by omega))).wider (by omega:w0.heap.size+1≤lo1) hc6.size);have GS:=h_ ((G0.out.trans HBF.out).lowF (lo:=w0.heap.size) (hc6.below (l_ _) (by omega)) (l_ _) hcl);clear kz hc6;go_wp2;refine bodyPost_ret (v:=.agg #[.int .i64 P,.int .i64 V,.slice A nf a,.slice C nt cc,.slice E nd ee,.slice H nm h]) (by simp[results,go_sem,s0,s1,s2,s3,s4,s5]) rfl ?_;unfold AnyP;exact⟨_,⟨P,⟨V,F,T⟩,D,M⟩,rfl,OF.out,GS.out⟩
theorem Q3_ (c:Nat) (w0:World) (hc:Cur w0 c) :
  Calls Tryz.prog 32 #[.pointer (some ⟨c,0,none⟩)] w0 fun e w'=>AnyP c w0 e w':=by
 have hcl:=hc.ltF;obtain⟨W,hW⟩:∃ W,W=w0.alloc (.cells #[.int .i64 0,.int .i64 0,.slice none 0 0,.slice none 0 0,.slice none 0 0,.slice none 0 0] 29):=⟨_,rfl⟩;have g0:Ck c w0 W:=by rw[hW];exact Ck.of_below (a0_ _ _)
 have kR:Blk W w0.heap.size 29 #[.int .i64 0,.int .i64 0,.slice none 0 0,.slice none 0 0,.slice none 0 0,.slice none 0 0]:=by rw[hW];exact Blk.new _ _ _
 have sW:W.heap.size=w0.heap.size+1:=by rw[hW];simp
 have hcw:w0.heap.size≠c:=by omega
 have KR:=h_ kR;have G0:=h_ g0;have HC:=h_ (g0.keep hc);clear kR hc g0;go_enter Tryz.func32,Tryz.ntmps32
 go_wp2_with fail
 rw[←hW];clear hW;refine (p6_ c 8 _ HC.out ⟨by omega,by omega⟩).mono ?_;rintro e w1 ⟨b,rfl,hb1⟩;have HC1:=h_ (hb1.keep HC.out);have HB1:=h_ hb1;have hs1:=hb1.size;clear hb1 HC;rcases b with _ | _
 ·go_wp2_with fail
  refine (a3q c _ HC1.out).mono ?_;rintro e w2 ⟨p,rfl,hp,hb2⟩;have HC2:=h_ (hb2.keep HC1.out);have HB2:=h_ (HB1.out.trans hb2);have hs2:=hb2.size;clear hb2 HC1 HB1;go_wp2_with fail
  refine (z8_ c _ HC2.out).mono ?_;rintro e w3 ⟨v3,⟨V3,F3,T3⟩,rfl,hQ3,hf3,ht3,hb3⟩;have hcl2:=HC2.out.ltF;have hs3:=hb3.size;obtain⟨A3,a3,C3,c3,rfl⟩:=hQ3.form;obtain⟨av,bv,e,hF,hV⟩:=hQ3;simp only[Value.agg.injEq,Array.mk.injEq,List.cons.injEq,and_true,true_and]at e;obtain⟨rfl,rfl⟩:=e;have ha:a8_ w3 w2.heap.size w3.heap.size (.slice A3 F3.length a3) F3:=hF.1 (_,F3) (by simp);have hb:a8_ w3 w2.heap.size w3.heap.size (.slice C3 T3.length c3) T3:=hF.1 (_,T3) (by simp);simp only at hV⊢;obtain⟨n3,hn3⟩:=e_ (F3.length);obtain⟨m3,hm3⟩:=e_ (T3.length);rw[hn3]at ha;rw[hm3]at hb;rw[hn3,hm3];obtain⟨W4,hW4,ga,g4,hg4,k4⟩:=b_2 w3 #[.int .i64 V3,.slice A3 n3 a3,.slice C3 m3 c3] 26;have hs4:=ga.size;have HQI:=h_ (show s0_ W4 w2.heap.size w3.heap.size (.agg #[.int .i64 V3,.slice A3 n3 a3,.slice C3 m3 c3]) ⟨V3,F3,T3⟩ from ⟨_,_,rfl,ha.below ga,hb.below ga,hV⟩);have HC4:=h_ ((Ck.of_below (c:=c) ga).keep (hb3.keep HC2.out));have HB4:=h_ ((HB2.out.trans hb3).trans (Ck.of_below ga));obtain⟨y0,y1,y2⟩:=c_3 k4;have hpI:I64 p:=by simp only[I64];omega
  clear hb3 HC2 HB2 hF ha hb hn3 hm3 hf3 ht3 ga k4;go_wp2_with fail
  clear hW4 hg4;refine (a9x c p _ ⟨V3,F3,T3⟩ 3 w2.heap.size w3.heap.size W4 HC4.out hpI HQI.out hcl2 hs4 hs3 (by omega)).mono ?_;intro e w4 hOf;unfold OfP at hOf;obtain⟨v4,⟨P,⟨V,F,T⟩,D,M⟩,lo1,rfl,hR,hS,_,hlo1,hb4⟩:=hOf;have hL:=hR.toL;clear hS hR;obtain⟨A,a,C,cc,E,ee,H,h,rfl⟩:=hL.rd.form;simp only at hL⊢;obtain⟨nf,hnf⟩:=e_ (F.length);obtain⟨nt,hnt⟩:=e_ (T.length);obtain⟨nd,hnd⟩:=e_ (D.length);obtain⟨nm,hnm⟩:=e_ (M.length);rw[hnf,hnt,hnd,hnm]at hL⊢;clear hnf hnt hnd hnm;have HBF:=h_ (HB4.out.trans hb4);have HRF:=h_ hL;clear hL hb4 HB4 HC4 HQI;have kz:=KR.out.ck HBF.out hcw;have fr:=kz.frozen;obtain⟨s0,s1,s2,s3,s4,s5⟩:=c_6 kz;have hc6:=chg6 w4 w0.heap.size (.int .i64 P) (.int .i64 V) (.slice A nf a) (.slice C nt cc) (.slice E nd ee) (.slice H nm h);have hsr:=HBF.out.size;have OF:=h_ ((HRF.out.chg hc6 (.inr (by omega))).wider (by omega:w0.heap.size+1≤lo1) hc6.size);have GS:=h_ ((G0.out.trans HBF.out).lowF (lo:=w0.heap.size) (hc6.below (l_ _) (by omega)) (l_ _) hcl);clear kz hc6;go_wp2;refine bodyPost_ret (v:=.agg #[.int .i64 P,.int .i64 V,.slice A nf a,.slice C nt cc,.slice E nd ee,.slice H nm h]) (by simp[results,go_sem,s0,s1,s2,s3,s4,s5]) rfl ?_;unfold AnyP;exact⟨_,⟨P,⟨V,F,T⟩,D,M⟩,rfl,OF.out,GS.out⟩
 ·go_wp2_with fail
  refine (c4q c _ HC1.out).mono ?_;intro e w3 hAny;unfold AnyP at hAny;obtain⟨v,⟨P,⟨V,F,T⟩,D,M⟩,rfl,hL,hb3⟩:=hAny;obtain⟨lo1,hlo1⟩:∃ z,z=w1.heap.size+1:=⟨_,rfl⟩;rw[←hlo1]at hL;obtain⟨A,a,C,cc,E,ee,H,h,rfl⟩:=hL.rd.form;simp only at hL⊢;obtain⟨nf,hnf⟩:=e_ (F.length);obtain⟨nt,hnt⟩:=e_ (T.length);obtain⟨nd,hnd⟩:=e_ (D.length);obtain⟨nm,hnm⟩:=e_ (M.length);rw[hnf,hnt,hnd,hnm]at hL⊢;clear hnf hnt hnd hnm;have HBF:=h_ (HB1.out.trans hb3);have HRF:=h_ hL;clear hL hb3 HB1 HC1;have kz:=KR.out.ck HBF.out hcw;have fr:=kz.frozen;obtain⟨s0,s1,s2,s3,s4,s5⟩:=c_6 kz;have hc6:=chg6 w3 w0.heap.size (.int .i64 P) (.int .i64 V) (.slice A nf a) (.slice C nt cc) (.slice E nd ee) (.slice H nm h);have hsr:=HBF.out.size;have OF:=h_ ((HRF.out.chg hc6 (.inr (by omega))).wider (by omega:w0.heap.size+1≤lo1) hc6.size);have GS:=h_ ((G0.out.trans HBF.out).lowF (lo:=w0.heap.size) (hc6.below (l_ _) (by omega)) (l_ _) hcl);clear kz hc6;go_wp2;refine bodyPost_ret (v:=.agg #[.int .i64 P,.int .i64 V,.slice A nf a,.slice C nt cc,.slice E nd ee,.slice H nm h]) (by simp[results,go_sem,s0,s1,s2,s3,s4,s5]) rfl ?_;unfold AnyP;exact⟨_,⟨P,⟨V,F,T⟩,D,M⟩,rfl,OF.out,GS.out⟩
def BarP (c:Nat) (w0:World) (e:Ending) (w':World):Prop:=∃ (v:Value) (l:List Bar),e = .returned v∧g5_ w' w0.heap.size w'.heap.size v l∧l.length≤1000∧Ck c w0 w'
theorem z7_ (c:Nat) (w0:World) (hc:Cur w0 c) :
  Calls Tryz.prog 54 #[.pointer (some ⟨c,0,none⟩)] w0 fun e w'=>BarP c w0 e w':=by
 have hcl:=hc.ltF;have HC:=h_ hc;clear hc;go_enter Tryz.func54,Tryz.ntmps54
 go_wp2_with fail
 refine (Q3_ c _ HC.out).mono ?_;intro e w1 hAny;unfold AnyP at hAny;obtain⟨v,x,rfl,hL,hb1⟩:=hAny;have HC1:=h_ (hb1.keep HC.out);have hs1:=hb1.size;have HB1:=h_ hb1;clear hb1 HC;go_wp2_with fail
 refine (y6_ _ x _ hL.rd).mono ?_;rintro e w2 ⟨v2,rfl,hO,hb2⟩;have hs2:=hb2.size;have HB2:=h_ (HB1.out.trans (Ck.of_below hb2));have HC2:=h_ ((Ck.of_below (c:=c) hb2).keep HC1.out);have hl:=b7Z x;obtain⟨l,hl2⟩:=e_ ((bfQ x).1);obtain⟨bb,hbb⟩:=e_ ((bfQ x).2);rw[hl2]at hO hl;rw[hbb];clear hl2 hbb hb2 hL HB1 HC1;obtain⟨A,a,rfl,_,_⟩:=hO.form;have HO:=h_ (hO.wider (lo':=w0.heap.size) (hi':=w2.heap.size) (by omega) (l_ _));by_cases h0:l.length=0
 ·obtain rfl:l=[]:=m1_ h0;have HO':=h_ (show g5_ w2 w0.heap.size w2.heap.size (.slice A 0 a) [] from HO.out);clear hO hl HO h0;go_wp2;go_ret
  unfold BarP;exact⟨_,[],rfl,HO'.out,by simp,HB2.out⟩
 ·obtain⟨y,hy⟩:∃ y,l[0]?=some y:=⟨_,l2_ (by omega)⟩;obtain⟨g,a',e,hg,hcell,hfr,hla⟩:=hO.cell2 hy;simp only[Value.slice.injEq,true_and]at e;obtain⟨rfl,rfl⟩:=e;obtain⟨n,hn⟩:=e_ (l.length);have hd:decide ((0:Int)<(n:Int))=true:=by rw[decide_eq_true_eq];omega
  have HY:=h_ hy;have HL:=h_ hl;have HN:=h_ hn;have hn1:0<n:=by omega
  rw[hn]at HO⊢;clear hO hl hy hn h0;go_wp2_with fail
  refine (p6_ c 8 _ HC2.out ⟨by omega,by omega⟩).mono ?_;rintro e w3 ⟨b,rfl,hb3⟩;have HC3:=h_ (hb3.keep HC2.out);have HB3:=h_ (HB2.out.trans hb3);have hs3:=hb3.size;have HO3:=h_ ((HO.out.chg hb3.chg (.inr (by omega))).wider (lo':=w0.heap.size) (hi':=w3.heap.size) (l_ _) hs3);clear hb3 HC2 HB2 HO hcell hfr;rcases b with _ | _
  ·go_wp2;go_ret
   unfold BarP;exact⟨_,l,rfl,HO3.out,HL.out,HB3.out⟩
  ·go_wp2_with fail
   obtain⟨W4,hW4,gb,kS⟩:=b_1 w3 #[.int .i64 0,.int .i64 9,.int .i64 (-1)] 3;have hcl3:=HC3.out.ltF;rw[hW4];refine (i8_ (fun v=>∃ k:Int,v = .int .i64 k∧I64 k) c w3.heap.size 3 3 _ _ ((Ck.of_below (c:=c) gb).keep HC3.out) kS (by omega) (by omega) (by omega) (fun i hi=>?_) fun v h=>⟨_,h.choose_spec.1⟩).mono ?_
   ·match i,hi with
    | 0,_=>exact⟨_,rfl,_,rfl,by unfold I64;omega⟩
    | 1,_=>exact⟨_,rfl,_,rfl,by unfold I64;omega⟩
    | 2,_=>exact⟨_,rfl,_,rfl,by unfold I64;omega⟩
    | i+3,h=>omega
   rintro e w5 ⟨v5,⟨k,rfl,hk⟩,rfl,hb5⟩;have hs5:=hb5.size;have hs4:=gb.size;have hO5:=((HO3.out.below gb).chg hb5.chg (.inr (by omega))).wider (lo':=w0.heap.size) (hi':=w5.heap.size) (l_ _) (by omega);have HB5:=h_ ((HB3.out.trans (Ck.of_below gb)).trans hb5);rw[←HN.out]at hO5;obtain⟨g',a',e,hg',hcell,hfr,hla'⟩:=hO5.cell2 HY.out;simp only[Value.slice.injEq,Option.some.injEq,Addr.mk.injEq,true_and,and_true]at e;obtain⟨rfl,rfl⟩:=e;have hset:=hO5.setN rfl HY.out hk;have hchg:=d2q (w:=w5) (p:=⟨g,0*3+2,none⟩) (u:=.int .i64 k) (lo:=w0.heap.size) (hi:=w5.heap.size) hg' (hO5.1.2.1 g (by simp[Value.ownBlock]));rw[HN.out]at hset;rw[show 0*3+2=2 from rfl]at hset hchg;have HS:=h_ (hset.wider (lo':=w0.heap.size) (hi':=(w5.setCell ⟨g,2,none⟩ (.int .i64 k)).heap.size) (l_ _) (by simp));have HG:=h_ hchg;have c2:w5.cell? ⟨g,2,none⟩=some (.int .i64 y.2.2):=hcell;have fr:=hfr;clear hW4 gb kS hb5 hO5 hset hchg hcell HO3 HB3 HC3;go_wp2;go_ret
   unfold BarP;exact⟨_,l.set 0 (y.1,y.2.1,k),rfl,HS.out,by rw[List.length_set];exact HL.out,HB5.out.lowF (lo:=w0.heap.size) (HG.out.below (l_ _) (by omega)) (l_ _) hcl⟩
theorem g5_.ck {w w':World} {lo hi c:Nat} {v:Value} {l:List Bar} (h:g5_ w lo hi v l) (k:Ck c w w') (hc:c<lo):g5_ w' lo hi v l:=h.chg k.chg (.inr (by omega))
def BoP (w0:World) (e:Ending) (w':World):Prop:=∃ v x,e = .returned v∧RpR w' w'.heap.size v x∧Below w0.heap.size w0 w'
def IvP (w0:World) (e:Ending) (w':World):Prop:=∃ p v q a b,e = .returned (.tuple #[.int .i64 p,v,.int .i64 a,.int .i64 b])∧QvR w' w'.heap.size v q∧I64 p∧I64 a∧I64 b∧Below w0.heap.size w0 w'
def RbP (w0:World) (e:Ending) (w':World):Prop:=∃ p v q u l,e = .returned (.tuple #[.int .i64 p,v,u])∧QvR w' w'.heap.size v q∧SlB w' w'.heap.size u l∧l.length≤1000∧I64 p∧Below w0.heap.size w0 w'
def EbP (w0:World) (e:Ending) (w':World):Prop:=∃ v a u b,e = .returned (.tuple #[v,u])∧SlB w' w'.heap.size v a∧SlB w' w'.heap.size u b∧a.length≤1000∧b.length≤1000∧Below w0.heap.size w0 w'
theorem O1_ (u:Value) (l:List Int) (w0:World) (hu:SlY w0 w0.heap.size u l) :
  Calls Tryz.prog 5 #[u] w0 fun e w'=>BoP w0 e w':=by
 obtain⟨W,hW,g0,kR⟩:=b_3 w0 #[.int .i64 0,.int .i64 0,.slice none 0 0,.slice none 0 0,.slice none 0 0,.slice none 0 0] 29;have sW:W.heap.size=w0.heap.size+1:=by rw[hW];simp
 have hu':=SlY.next g0 hu;clear hu;go_enter Tryz.func5,Tryz.ntmps5
 go_wp2_with fail
 rw[←hW];clear hW;refine (v8_ u l _ hu').mono ?_;rintro e w1 ⟨c,rfl,hcs,hC1,hb1⟩;have hs1:=hb1.size;have KR1:=h_ (kR.call hb1);have HW0:=h_ (g0.trans (hb1.mono (by omega)));have HC1:=h_ hC1;have hcw:w0.heap.size≠c:=by omega
 have hcl:=hC1.ltF;clear hu' hb1 kR g0 hC1;go_wp2_with fail
 refine (Q3_ c _ HC1.out).mono ?_;intro e w2 hAny;unfold AnyP at hAny;obtain⟨v,⟨P,⟨V,F,T⟩,D,M⟩,rfl,hL,hb2⟩:=hAny;obtain⟨lo1,hlo1⟩:∃ z,z=w1.heap.size+1:=⟨_,rfl⟩;rw[←hlo1]at hL;obtain⟨A,a,C,cc,E,ee,H,h,rfl⟩:=hL.rd.form;simp only at hL⊢;obtain⟨nf,hnf⟩:=e_ (F.length);obtain⟨nt,hnt⟩:=e_ (T.length);obtain⟨nd,hnd⟩:=e_ (D.length);obtain⟨nm,hnm⟩:=e_ (M.length);rw[hnf,hnt,hnd,hnm]at hL⊢;clear hnf hnt hnd hnm;have hsr:=hb2.size;have kz:=KR1.out.ck hb2 hcw;have fr:=kz.frozen;obtain⟨s0,s1,s2,s3,s4,s5⟩:=c_6 kz;have hc6:=chg6 w2 w0.heap.size (.int .i64 P) (.int .i64 V) (.slice A nf a) (.slice C nt cc) (.slice E nd ee) (.slice H nm h);have OF:=h_ (hL.chg hc6 (.inr (by omega))).rd;have GS:=h_ ((HW0.out.trans (hb2.below (B:=w0.heap.size) (by omega) (by omega))).trans (hc6.below (l_ _) (by omega)));clear kz hc6 hL hb2;go_wp2;refine bodyPost_ret (v:=.agg #[.int .i64 P,.int .i64 V,.slice A nf a,.slice C nt cc,.slice E nd ee,.slice H nm h]) (by simp[results,go_sem,s0,s1,s2,s3,s4,s5]) rfl ?_;unfold BoP;exact⟨_,⟨P,⟨V,F,T⟩,D,M⟩,rfl,OF.out,GS.out⟩
theorem y9_ (u:Value) (l:List Int) (w0:World) (hu:SlY w0 w0.heap.size u l) :
  Calls Tryz.prog 21 #[u] w0 fun e w'=>IvP w0 e w':=by
 obtain⟨W,hW,g0,kR⟩:=b_3 w0 #[.int .i64 0,.slice none 0 0,.slice none 0 0] 26;have sW:W.heap.size=w0.heap.size+1:=by rw[hW];simp
 have hu':=SlY.next g0 hu;clear hu;go_enter Tryz.func21,Tryz.ntmps21
 go_wp2_with fail
 rw[←hW];clear hW;refine (v8_ u l _ hu').mono ?_;rintro e w1 ⟨c,rfl,hcs,hC1,hb1⟩;have kR1:=kR.call hb1;have g1:=g0.trans (hb1.mono (by omega));have hs1:=hb1.size;clear kR g0 hb1 hu';have hcw:w0.heap.size≠c:=by omega
 have hcl:=hC1.lt;go_wp2_with fail
 refine (z9_ c _ hC1).mono ?_;rintro e w2 ⟨p,rfl,hp,hb2⟩;have hs2:=hb2.size;have kR2:=kR1.ck hb2 hcw;have g2:=g1.trans (hb2.below (B:=w0.heap.size) (by omega) (by omega));have hC2:=hb2.keep hC1;clear kR1 g1 hC1 hb2;go_wp2_with fail
 refine (z8_ c _ hC2).mono ?_;rintro e w3 ⟨v,⟨V,F,T⟩,rfl,hQ3,hf3,ht3,hb3⟩;have hC3:=hb3.keep hC2;have kR3:=kR2.ck hb3 hcw;have g3:=g2.trans (hb3.below (B:=w0.heap.size) (by omega) (by omega));have hs3:=hb3.size;clear hC2 kR2 g2 hb3 hf3 ht3;obtain⟨A,a2,C,d2,rfl⟩:=hQ3.form;simp only at hQ3⊢;have hV:I64 V:=by obtain⟨_,_,_,_,hV⟩:=hQ3;exact hV
 obtain⟨W4,hW4⟩:=e_ (w3.alloc (.cells #[.int .i64 V,.slice A F.length a2,.slice C T.length d2] 26));have ga:Below w3.heap.size w3 W4:=by rw[←hW4];exact a0_ _ _
 obtain⟨gq,hgq⟩:=e_ (w3.heap.size);have hgq2:w3.heap.size≤gq∧gq≤w3.heap.size:=by omega
 have kq4:Blk W4 gq 26 #[.int .i64 V,.slice A F.length a2,.slice C T.length d2]:=by rw[←hW4,←hgq];exact Blk.new _ _ _
 have hs4:W4.heap.size=gq+1:=by rw[←hW4,←hgq];simp
 have hC4:=(Ck.of_below (c:=c) ga).keep hC3;have kR4:=kR3.call ga;have hQ4:=hQ3.below ga;have g4:=g3.trans (ga.mono (by omega));clear hC3 kR3 hQ3 g3 ga;obtain⟨z0,z1,z2⟩:=c_3 kq4;go_wp2_with fail
 clear hW4 hgq;refine (d3_ c 5 _ hC4 ⟨by omega,by omega⟩).mono ?_;rintro e w5 ⟨i,hi,_,rfl,hb5⟩;have HC:=h_ (hb5.keep hC4);have HR:=h_ (kR4.ck hb5 hcw);have hgqc:gq≠c:=by omega
 have HK:=h_ (kq4.ck hb5 hgqc);have HQ:=h_ (hQ4.ck hb5 (by omega));have G5:=h_ (g4.trans (hb5.below (B:=w0.heap.size) (by omega) (by omega)));have hs5:=hb5.size;have hdc:w0.heap.size≠c:=hcw;have hgqd:gq≠w0.heap.size:=by omega
 clear hC4 kR4 kq4 hQ4 g4 hb5 z0 z1 z2;go_wp2_with fail
 refine P2_ (c) (w0.heap.size) (#[.int .i64 V,.slice A F.length a2,.slice C T.length d2]) (by kernel_rfl) [.eq (.int .i64 p),.eq (.agg #[.int .i64 V,.slice A F.length a2,.slice C T.length d2]),.eq (.int .i64 ((i:Int)-1)),.eq (.int .i64 ((i:Int)-1)),.eq (.pointer (some ⟨c,0,none⟩)),rel 5 (fun u lo hi w=>∃ j:Nat,u = .int .i64 j∧j≤6),rel 6 (fun u lo hi w=>∃ k:Int,u = .int .i64 k∧-1≤k∧k≤12),.eq (.pointer (some ⟨c,0,none⟩)),rel 8 (fun u lo hi w=>∃ j:Nat,u = .int .i64 j∧j≤6),rel 9 (fun u lo hi w=>∃ k:Int,u = .int .i64 k∧I64 k),.eq (.int .i64 p),.rel (fun x w=>Blk w w0.heap.size 26 #[.int .i64 V,.slice A F.length a2,.slice C T.length d2]),.eq (.int .i64 ((i:Int)-1))] [[],[],[],[],[],[4],[3,4,5],[],[4,5,7],[3,4,5,6,7,8],[0,4,5,7,8],[0,1,4,5,7,8,10],[0,1,2,4,5,7,8,10,11],[0,1,2,3,4,5,6,7,8,9,10,11,12]] 13 (by kernel_rfl) ⟨trivial,trivial,trivial,trivial,trivial,u4_ (fun u lo hi w w' h hb=>h),u4_ (fun u lo hi w w' h hb=>h),trivial,u4_ (fun u lo hi w w' h hb=>h),u4_ (fun u lo hi w w' h hb=>h),trivial,fun x w w' h hb=>hb.keepD h,trivial,trivial⟩ ⟨?_,?_,?_,?_,?_,?_,?_,?_,?_,?_,?_,?_,?_,trivial⟩ ?_;iterate 13 (intro x w hb hk Q' hQ;have he:=k_e hk;simp only[k_s]at he;simp only[netE]at hQ⊢;(try simp only[he]at hQ⊢);(try clear he);rotate_left)
 rotate_left
 ·clear hk;go_wp2;exact hQ _ _ (Cd.refl _ _ _ _) rfl
 ·clear hk;obtain⟨z0,z1,z2⟩:=c_3 (HK.out.cd hb hgqc hgqd);go_wp2;exact hQ (.agg #[.int .i64 V,.slice A F.length a2,.slice C T.length d2]) _ (Cd.refl _ _ _ _) rfl
 iterate 3 (· clear hk;go_wp2;exact hQ _ _ (Cd.refl _ _ _ _) rfl)
 ·clear hk;go_wp2_with fail
  refine (d3_ c 4 _ (hb.keep HC.out) ⟨by omega,by omega⟩).mono ?_;rintro e w7 ⟨j,hj,_,rfl,hb7⟩;go_wp2;exact hQ _ _ (Cd.of_ck hb7 hdc) ⟨j,rfl,by omega⟩
 ·have h5:∃ j:Nat,(x.v 5) = .int .i64 j∧j≤6:=(hk 5 (by decide)).1;have s5:=(hk 5 (by decide)).2;clear hk;obtain⟨j,e,hj⟩:=h5;have hQ':=hQ (.int .i64 ((i:Int)-1+(j:Int))) w (Cd.refl _ _ _ _) ⟨_,rfl,by omega,by omega⟩;rw[e]at hQ'⊢;go_wp2;exact hQ'
 ·clear hk;go_wp2;exact hQ _ _ (Cd.refl _ _ _ _) rfl
 ·have h5:∃ j:Nat,(x.v 5) = .int .i64 j∧j≤6:=(hk 5 (by decide)).1;have s5:=(hk 5 (by decide)).2;clear hk;go_wp2_with fail
  refine (d3_ c 2 _ (hb.keep HC.out) ⟨by omega,by omega⟩).mono ?_;rintro e w7 ⟨j,hj,_,rfl,hb7⟩;go_wp2;exact hQ _ _ (Cd.of_ck hb7 hdc) ⟨j,rfl,by omega⟩
 ·have h5:∃ j:Nat,(x.v 5) = .int .i64 j∧j≤6:=(hk 5 (by decide)).1;have h6:∃ k:Int,(x.v 6) = .int .i64 k∧-1≤k∧k≤12:=(hk 6 (by decide)).1;have h8:∃ j:Nat,(x.v 8) = .int .i64 j∧j≤6:=(hk 8 (by decide)).1;have s5:=(hk 5 (by decide)).2;have s6:=(hk 6 (by decide)).2;have s8:=(hk 8 (by decide)).2;clear hk;obtain⟨k,e6,hk⟩:=h6;obtain⟨j,e8,hj⟩:=h8;have hQ':=hQ (.int .i64 (k-(j:Int))) w (Cd.refl _ _ _ _) ⟨_,rfl,by simp only[I64];omega⟩;rw[e6,e8]at hQ'⊢;go_wp2;exact hQ'
 ·clear hk;go_wp2;exact hQ _ _ (Cd.refl _ _ _ _) rfl
 ·have h5:∃ j:Nat,(x.v 5) = .int .i64 j∧j≤6:=(hk 5 (by decide)).1;have h8:∃ j:Nat,(x.v 8) = .int .i64 j∧j≤6:=(hk 8 (by decide)).1;have s5:=(hk 5 (by decide)).2;have s8:=(hk 8 (by decide)).2;clear hk;have hE:=hb.keepE ⟨_,_,_,_,_,_,_,HR.out⟩;have hS:=Cd.store (V:=V) (A:=A) (n:=F.length) (e:=a2) (C:=C) (m:=T.length) (f:=d2) hdc hE;obtain⟨V',A',n',e',C',m',f',hB⟩:=hE;obtain⟨y0,y1,y2⟩:=c_3 hB;have fr:=hB.frozen;have HS:=h_ hS;clear hS hB;go_wp2;exact hQ undef _ HS.out.1 HS.out.2
 ·clear hk;go_wp2;exact hQ _ _ (Cd.refl _ _ _ _) rfl
 ·intro x w hb hk hiv hdj;have h5:∃ j:Nat,(x.v 5) = .int .i64 j∧j≤6:=hk 5 (by decide);have h6:∃ k:Int,(x.v 6) = .int .i64 k∧-1≤k∧k≤12:=hk 6 (by decide);have h8:∃ j:Nat,(x.v 8) = .int .i64 j∧j≤6:=hk 8 (by decide);have h9:∃ k:Int,(x.v 9) = .int .i64 k∧I64 k:=hk 9 (by decide);have h11:Blk w w0.heap.size 26 #[.int .i64 V,.slice A F.length a2,.slice C T.length d2]:=hk 11 (by decide);have he:=k_g hk [0,1,2,3,4,7,10,12];simp only[k_s]at he;simp only[netE,he];clear he hk;obtain⟨k,e9,hk⟩:=h9;rw[e9];obtain⟨r0,r1,r2⟩:=c_3 h11;have HQF:=h_ (HQ.out.cd hb (by omega) (by omega));have GF:=h_ (G5.out.trans (hb.low (B:=w0.heap.size) (by omega) (l_ _) (by omega)));clear hb hiv hdj;go_wp2;refine bodyPost_ret (v:=.tuple #[.int .i64 p,.agg #[.int .i64 V,.slice A F.length a2,.slice C T.length d2],.int .i64 ((i:Int)-1),.int .i64 k]) (by simp[results,go_sem,r0,r1,r2]) rfl ?_;unfold IvP;exact⟨_,_,_,_,_,rfl,HQF.out.rd,hp,by simp only[I64];omega,hk,GF.out⟩
theorem D9_ (u:Value) (l:List Int) (w0:World) (hu:SlY w0 w0.heap.size u l) :
  Calls Tryz.prog 16 #[u] w0 fun e w'=>RbP w0 e w':=by
 obtain⟨W,hW,g0,kR⟩:=b_3 w0 #[.int .i64 0,.slice none 0 0,.slice none 0 0] 26;have sW:W.heap.size=w0.heap.size+1:=by rw[hW];simp
 have hu':=SlY.next g0 hu;clear hu;go_enter Tryz.func16,Tryz.ntmps16
 go_wp2_with fail
 rw[←hW];clear hW;refine (v8_ u l _ hu').mono ?_;rintro e w1 ⟨c,rfl,hcs,hC1,hb1⟩;have kR1:=kR.call hb1;have g1:=g0.trans (hb1.mono (by omega));have hs1:=hb1.size;clear kR g0 hb1 hu';have hcw:w0.heap.size≠c:=by omega
 have hcl:=hC1.lt;go_wp2_with fail
 refine (z9_ c _ hC1).mono ?_;rintro e w2 ⟨p,rfl,hp,hb2⟩;have hs2:=hb2.size;have kR2:=kR1.ck hb2 hcw;have g2:=g1.trans (hb2.below (B:=w0.heap.size) (by omega) (by omega));have hC2:=hb2.keep hC1;clear kR1 g1 hC1 hb2;go_wp2_with fail
 obtain⟨W3,hW3,gb,kS⟩:=b_1 w2 #[.string ⟨#[65,52]⟩,.string ⟨#[65,52]⟩,.string ⟨#[65,51]⟩,.string ⟨#[65,51,105,110]⟩] 9;rw[hW3];refine (E5_ StrP c w2.heap.size 4 4 _ _ ((Ck.of_below (c:=c) gb).keep hC2) kS (by have:=hC2.lt;omega) (by omega) (by omega) (fun i hi=>?_) fun v h=>h).mono ?_
 ·match i,hi with
  | 0,_=>exact⟨_,rfl,_,rfl⟩
  | 1,_=>exact⟨_,rfl,_,rfl⟩
  | 2,_=>exact⟨_,rfl,_,rfl⟩
  | 3,_=>exact⟨_,rfl,_,rfl⟩
  | i+4,h=>omega
 rintro e w5 ⟨v,⟨s,rfl⟩,rfl,hb5⟩;have hC5:=hb5.keep ((Ck.of_below (c:=c) gb).keep hC2);have hs5:=hb5.size;have hs4:=gb.size;have kR5:=(kR2.call gb).ck hb5 hcw;have g5:=(g2.trans (gb.mono (by omega))).trans (hb5.below (B:=w0.heap.size) (by omega) (by omega));clear hW3 gb kS hb5 hC2 kR2 g2;go_wp2_with fail
 refine (n0_ s _).mono ?_;rintro e w3 ⟨v2,b2,⟨V,F,T⟩,rfl,hQ3,hf2,ht2,hb2⟩;have hC3:=(Ck.of_below (c:=c) hb2).keep hC5;have kR3:=kR5.call hb2;have g3:=g5.trans (hb2.mono (by omega));have hs3:=hb2.size;clear hC5 hb2 kR5 g5 hf2 ht2;obtain⟨A,a2,C,d2,rfl⟩:=hQ3.form;simp only at hQ3⊢;have hV:I64 V:=by obtain⟨_,_,_,_,hV⟩:=hQ3;exact hV
 obtain⟨W4,hW4⟩:=e_ (w3.alloc (.cells #[.int .i64 V,.slice A F.length a2,.slice C T.length d2] 26));have ga:Below w3.heap.size w3 W4:=by rw[←hW4];exact a0_ _ _
 obtain⟨gq,hgq⟩:=e_ (w3.heap.size);have hgq2:w3.heap.size≤gq∧gq≤w3.heap.size:=by omega
 have kq4:Blk W4 gq 26 #[.int .i64 V,.slice A F.length a2,.slice C T.length d2]:=by rw[←hW4,←hgq];exact Blk.new _ _ _
 have hs4:W4.heap.size=gq+1:=by rw[←hW4,←hgq];simp
 have hC4:=(Ck.of_below (c:=c) ga).keep hC3;have kR4:=kR3.call ga;have hQ4:=hQ3.below ga;have g4:=g3.trans (ga.mono (by omega));clear hC3 kR3 hQ3 g3 ga;obtain⟨z0,z1,z2⟩:=c_3 kq4;go_wp2_with fail
 clear hW4 hgq;have HC:=h_ hC4;have HR:=h_ kR4;have hgqc:gq≠c:=by omega
 have HK:=h_ kq4;have HQ:=h_ hQ4;have G5:=h_ g4;have hdc:w0.heap.size≠c:=hcw;have hgqd:gq≠w0.heap.size:=by omega
 clear hC4 kR4 kq4 hQ4 g4 z0 z1 z2;refine g3_ (c) (by kernel_rfl) [.eq (.int .i64 p),.eq (.agg #[.int .i64 V,.slice A F.length a2,.slice C T.length d2]),.eq (.pointer (some ⟨c,0,none⟩)),rel 3 (fun u lo hi w=>∃ y,g5_ w lo hi u y∧y.length≤1000∧c<lo∧w0.heap.size<lo),.eq (.int .i64 p)] [[],[],[],[2],[0,2,3],[0,1,2,3,4],[0,1,2,3,4,5]] 5 (by kernel_rfl) ⟨trivial,trivial,trivial,d6_ (fun u lo hi w w' ⟨y,h1,h2,h3,h4⟩ hb=>⟨y,h1.ck hb h3,h2,h3,h4⟩),trivial,trivial⟩ ⟨?_,?_,?_,?_,?_,trivial⟩ ?_;iterate 5 (intro x w hb hk Q' hQ;have he:=k_e hk;simp only[k_s]at he;simp only[netE]at hQ⊢;(try simp only[he]at hQ⊢);(try clear he);rotate_left)
 rotate_left
 ·clear hk;go_wp2;exact hQ _ _ (Ck.refl _ _) rfl
 ·clear hk;obtain⟨z0,z1,z2⟩:=c_3 (HK.out.ck hb hgqc);go_wp2;exact hQ (.agg #[.int .i64 V,.slice A F.length a2,.slice C T.length d2]) _ (Ck.refl _ _) rfl
 ·clear hk;go_wp2;exact hQ _ _ (Ck.refl _ _) rfl
 ·clear hk;have hcw:=(hb.keep HC.out).lt;have hsb:=hb.size;have hdw:w0.heap.size<w.heap.size:=by omega
  go_wp2_with fail
  refine (z7_ c _ (hb.keep HC.out)).mono ?_;intro e w7 hBP;unfold BarP at hBP;obtain⟨Y,y,rfl,hy,hyl,hb7⟩:=hBP;go_wp2;exact hQ _ _ hb7 ⟨y,hy,hyl,hcw,hdw⟩
 ·clear hk;go_wp2;exact hQ _ _ (Ck.refl _ _) rfl
 ·intro x w hb hk hiv hdj;have h3:∃ y,g5_ w (x.lo 3) (x.hi 3) (x.v 3) y∧y.length≤1000∧c<(x.lo 3)∧w0.heap.size<(x.lo 3):=hk 3 (by decide);have he:=k_g hk [0,1,2,4];simp only[k_s]at he;simp only[netE,he];clear he hk;obtain⟨y,hy,hyl,_,hdl⟩:=h3;have hsb:=hb.size;have kR2:=HR.out.ck hb hdc;have fr:=kR2.frozen;obtain⟨r0,r1,r2⟩:=c_3 kR2;have hc3:=((a5_ (lo:=w0.heap.size) (hi:=w0.heap.size+1) (w:=w) (p:=⟨w0.heap.size,0,none⟩) (u:=.int .i64 V) (l_ _) (m0_ _)).trans (a5_ (p:=⟨w0.heap.size,1,none⟩) (u:=.slice A (F).length a2) (l_ _) (m0_ _))).trans (a5_ (p:=⟨w0.heap.size,2,none⟩) (u:=.slice C (T).length d2) (l_ _) (m0_ _));have OF:=h_ ((HQ.out.ck hb (by omega)).chg hc3 (.inr (by omega))).rd;have HYF:=h_ (hy.chg hc3 (.inr (by omega))).rd;have GS:=h_ ((G5.out.trans (hb.below (B:=w0.heap.size) (by omega) (by omega))).trans (hc3.below (B:=w0.heap.size) (l_ _) (by omega)));have HB:=h_ (Cd.store (c:=c) (V:=V) (A:=A) (n:=F.length) (e:=a2) (C:=C) (m:=T.length) (f:=d2) (w:=w) (d:=w0.heap.size) hdc ⟨_,_,_,_,_,_,_,kR2⟩).2;obtain⟨Y,hY⟩:=e_ (x.v 3);rw[hY]at HYF⊢;clear hY hb hiv hdj hy hc3 kR2;go_wp2;obtain⟨y0,y1,y2⟩:=c_3 HB.out;refine bodyPost_ret (v:=.tuple #[.int .i64 p,.agg #[.int .i64 V,.slice A F.length a2,.slice C T.length d2],Y]) (by simp[results,go_sem,y0,y1,y2]) rfl ?_;unfold RbP;exact⟨_,_,_,_,_,rfl,OF.out,HYF.out,hyl,hp,GS.out⟩
theorem r2_.of_bars {w:World} {lo hi c:Nat} {A:Option Addr} {l:List Bar} (h:g5_ w lo hi (.slice A l.length c) l):r2_ w A l.length (r1_ l) 3:=by
 refine⟨m5_ l,?_⟩;rcases h.1.1.2 with ⟨e,hl⟩ | ⟨g,cap,cur,e,_⟩
 ·exact .inl hl
 ·have ho:=h.1.1;simp only[Value.slice.injEq,true_and]at e;obtain⟨rfl,rfl⟩:=e;refine .inr ⟨g,0,rfl,fun j u hj=>?_⟩;have hlt:=a6_ hj;rw[m5_]at hlt;have:=ho.cellAt j hlt;rw[Nat.zero_add,this,hj]
theorem D8_ (u:Value) (l:List Int) (w0:World) (hu:SlY w0 w0.heap.size u l) :
  Calls Tryz.prog 25 #[u] w0 fun e w'=>EbP w0 e w':=by
 go_enter Tryz.func25,Tryz.ntmps25
 go_wp2_with fail
 refine (v8_ u l _ hu).mono ?_;rintro e w1 ⟨c,rfl,hcs,hC1,hb1⟩;have hs1:=hb1.size;clear hu;go_wp2_with fail
 refine (z7_ c _ hC1).mono ?_;intro e w2 hBP;unfold BarP at hBP;obtain⟨v,y,rfl,hy,hyl,hb2⟩:=hBP;have hs2:=hb2.size;have hcl:=hC1.lt;have hC2:=hb2.keep hC1;have g2:=hb1.trans (hb2.below hcs (by omega));clear hC1 hb1 hb2;go_wp2_with fail
 refine (p6_ c 2 _ hC2 ⟨by omega,by omega⟩).mono ?_;rintro e w3 ⟨b,rfl,hb3⟩;have HC:=h_ (hb3.keep hC2);have hs3:=hb3.size;have G3:=h_ (g2.trans (hb3.below hcs (by omega)));have HY:=h_ ((hy.ck hb3 hcl).wider (lo':=w1.heap.size) (hi':=w3.heap.size) (l_ _) hs3);obtain⟨A,a,rfl,_,_⟩:=hy.form;have HL:=h_ hyl;obtain⟨n,hn⟩:=e_ (y.length);have HN:=h_ hn;rw[hn]at HY⊢;clear hC2 hb3 hy hn hyl;rcases b with _ | _
 ·go_wp2_with fail
  refine (z7_ c _ HC.out).mono ?_;intro e w7 hBP;unfold BarP at hBP;obtain⟨Z,z,rfl,hz,hzl,hb7⟩:=hBP;have HYF:=h_ (HY.out.ck hb7 hcl).rd;have HZF:=h_ hz.rd;have GF:=h_ (G3.out.trans (hb7.below hcs (by omega)));clear hb7 hz;go_wp2;refine bodyPost_ret (v:=.tuple #[.slice A n a,Z]) (by simp[results,go_sem]) rfl ?_;unfold EbP;exact⟨_,y,_,_,rfl,HYF.out,HZF.out,HL.out,hzl,GF.out⟩
 ·(go_wp2_with (at_builtin;refine Hold.stop ?_));unfold Hold
  obtain⟨W4,hW4⟩:=e_ (w3.alloc (.cells #[] 44));have ga:Below w3.heap.size w3 W4:=by rw[←hW4];exact a0_ _ _
  have h1:g5_ W4 w3.heap.size W4.heap.size (.slice (some ⟨w3.heap.size,0,none⟩) 0 0) []:=by rw[←hW4];exact g5_.made0 w3 (l_ _)
  obtain⟨gz,hgz⟩:=e_ (w3.heap.size);have HGZ:=h_ hgz;have hsb:=ga.size;have HYW:=h_ (HY.out.below ga);rw[hgz]at h1 hsb;rw[hW4,hgz];have G4:=h_ (G3.out.trans (ga.mono (by omega)));clear hW4 hgz ga;obtain⟨i0,hi',hz0,hz1,hz2⟩:=info_parts c1X;have hNA:=r2_.of_bars (c:=a) (A:=A) (l:=y) (lo:=w1.heap.size) (hi:=w3.heap.size) (w:=W4) (by rw[HN.out];exact HYW.out);rw[HN.out]at hNA;refine f1_ W4 rfl (.tmp 13) (.tmp 14) 31 rfl gz 44 i0 _ 3 24 Tryz.underlying31 hi' hz0 hz1 hz2 rfl (by decide) (.slice (some ⟨gz,0,none⟩) 0 0) 0 [] rfl h1.1.1 A n a (r1_ y) rfl hNA (B1_ y) (by have:=HN.out;have:=HL.out;simp only[maxLen];omega) (by have:=HN.out;have:=HL.out;omega) hsb fun v' w' h1' h2' _=>?_
  have hb5:=c9_ h2' (fun k hk=>(h1.1.1.lt k hk).1) hsb;have hs5:=hb5.size;have HZF:=h_ (g5_.rd (lo:=gz) (hi:=w'.heap.size) (xs:=y) ⟨⟨by rw[HN.out];simpa using h1',fun k hk=>(h1'.lt k hk).2,by have:=HN.out;have:=HL.out;omega⟩,fun b hb=>HYW.out.2 b hb⟩);have HYF:=h_ ((HYW.out.chg (lo':=gz) (hi':=W4.heap.size) ⟨hb5.os,hb5.tape,hb5.output,hb5.size,fun k hk hn=>hb5.block k (by omega)⟩ (.inl (by have:=HGZ.out;omega))).rd);have GF:=h_ (G4.out.trans (hb5.mono (by have:=HGZ.out;omega)));clear h1 h1' h2' hb5 hi' hz0 hz1 hz2 hNA;go_wp2;refine bodyPost_ret (v:=.tuple #[.slice A n a,v']) (by simp[results,go_sem]) rfl ?_;unfold EbP;exact⟨_,y,_,y,rfl,HYF.out,HZF.out,HL.out,HL.out,GF.out⟩
theorem b4Z (u:Value) (l:List Int) (w0:World) (hu:SlY w0 w0.heap.size u l) :
  Calls Tryz.prog 3 #[u] w0 fun e w'=>e = .returned (.bool true)∧Below w0.heap.size w0 w':=by
 have HU:=h_ hu;clear hu;go_enter Tryz.func3,Tryz.ntmps3
 go_wp2_with fail
 refine (f5q u l _ HU.out).mono ?_;rintro e w1 ⟨rfl,hb1⟩;obtain⟨B0,hB0⟩:=e_ (decide ((l.length:Int) > 1048576));rw[hB0];clear hB0;have HY1:=h_ (SlY.next hb1 HU.out);have G1:=h_ hb1;have hs1:=hb1.size;clear HU hb1;cases B0;rotate_left
 ·go_wp2;go_ret
  exact⟨rfl,G1.out⟩
 go_wp2_with fail
 refine (O1_ u l _ HY1.out).mono ?_;intro e w2 hP;unfold BoP at hP;obtain⟨ur,R,rfl,hxr,hb2⟩:=hP;have hY:=SlY.next hb2 HY1.out;have g:=G1.out.trans (hb2.mono hs1);clear HY1 hb2 G1;obtain⟨Ar,ar,Cr,cr,Er,er,Hr,qr,rfl⟩:=hxr.form;obtain⟨W3,hW3,ga,bkr,hbkr,kr⟩:=b_2 w2 #[.int .i64 R.p,.int .i64 R.q.v,.slice Ar R.q.f.length ar,.slice Cr R.q.t.length cr,.slice Er R.d.length er,.slice Hr R.m.length qr] 29;replace g:=b0_ g ga;replace hY:=SlY.next ga hY;replace hxr:=RpR.next ga hxr;clear ga;obtain⟨yr0,yr1,yr2,yr3,yr4,yr5⟩:=c_6 kr;obtain⟨L,T,B,hL,hT,hLl,hlaw⟩:=d1x R;have HL:=h_ hL;have HT:=h_ hT;have HLL:=h_ hLl;have HLAW:=h_ hlaw;clear hL hT hlaw hLl;go_wp2_with fail
 clear hW3 hbkr;refine (y4_ _ R _ hxr).mono ?_;rintro e w4 ⟨va,rfl,hra,hb⟩;rw[HL.out]at hra⊢;simp only at hra⊢;replace g:=b0_ g hb;replace hY:=SlY.next hb hY;replace hxr:=RpR.next hb hxr;replace kr:=kr.call hb;replace yr0:=kr.cell' (i:=0) rfl;replace yr1:=kr.cell' (i:=1) rfl;replace yr2:=kr.cell' (i:=2) rfl;replace yr3:=kr.cell' (i:=3) rfl;replace yr4:=kr.cell' (i:=4) rfl;replace yr5:=kr.cell' (i:=5) rfl;clear hb;have hsa:=hra.rd;clear hra;go_wp2_with fail
 refine (y6_ _ R _ hxr).mono ?_;rintro e w5 ⟨vb,rfl,hrb,hb⟩;rw[HL.out]at hrb⊢;simp only at hrb⊢;replace g:=b0_ g hb;replace hY:=SlY.next hb hY;replace hxr:=RpR.next hb hxr;replace kr:=kr.call hb;replace yr0:=kr.cell' (i:=0) rfl;replace yr1:=kr.cell' (i:=1) rfl;replace yr2:=kr.cell' (i:=2) rfl;replace yr3:=kr.cell' (i:=3) rfl;replace yr4:=kr.cell' (i:=4) rfl;replace yr5:=kr.cell' (i:=5) rfl;replace hsa:=SlB.next hb hsa;clear hb;have hsb:=hrb.rd;clear hrb;go_wp2_with fail
 refine (n5_ _ R _ hxr).mono ?_;rintro e w6 ⟨vt,rfl,hrt,hb⟩;rw[HT.out]at hrt⊢;simp only at hrt⊢;replace g:=b0_ g hb;replace hY:=SlY.next hb hY;replace hxr:=RpR.next hb hxr;replace kr:=kr.call hb;replace yr0:=kr.cell' (i:=0) rfl;replace yr1:=kr.cell' (i:=1) rfl;replace yr2:=kr.cell' (i:=2) rfl;replace yr3:=kr.cell' (i:=3) rfl;replace yr4:=kr.cell' (i:=4) rfl;replace yr5:=kr.cell' (i:=5) rfl;replace hsa:=SlB.next hb hsa;replace hsb:=SlB.next hb hsb;clear hb;have hst:=hrt.rd;clear hrt;go_wp2_with fail
 refine (n9_ _ R _ hxr).mono ?_;rintro e w7 ⟨vu,rfl,hru,hb⟩;rw[HT.out]at hru⊢;simp only at hru⊢;replace g:=b0_ g hb;replace hY:=SlY.next hb hY;replace hxr:=RpR.next hb hxr;replace kr:=kr.call hb;replace yr0:=kr.cell' (i:=0) rfl;replace yr1:=kr.cell' (i:=1) rfl;replace yr2:=kr.cell' (i:=2) rfl;replace yr3:=kr.cell' (i:=3) rfl;replace yr4:=kr.cell' (i:=4) rfl;replace yr5:=kr.cell' (i:=5) rfl;replace hsa:=SlB.next hb hsa;replace hsb:=SlB.next hb hsb;replace hst:=SlII.next hb hst;clear hb;have hsu:=hru.rd;clear hru;have nb:(B != B)=false:=by simp
 go_wp2_with fail
 refine (n8_ _ _ L L _ hsa hsb).mono ?_;rintro e w8 ⟨rfl,hb⟩;rw[show decide (L=L)=true from decide_eq_true rfl];clear hsa;replace g:=b0_ g hb;replace hY:=SlY.next hb hY;replace hxr:=RpR.next hb hxr;replace kr:=kr.call hb;replace yr0:=kr.cell' (i:=0) rfl;replace yr1:=kr.cell' (i:=1) rfl;replace yr2:=kr.cell' (i:=2) rfl;replace yr3:=kr.cell' (i:=3) rfl;replace yr4:=kr.cell' (i:=4) rfl;replace yr5:=kr.cell' (i:=5) rfl;replace hsb:=SlB.next hb hsb;replace hst:=SlII.next hb hst;replace hsu:=SlII.next hb hsu;clear hb;go_wp2_with fail
 refine (U6_ _ _ T _ hst hsu).mono ?_;rintro e w9 ⟨rfl,hb⟩;clear hst hsu;replace g:=b0_ g hb;replace hY:=SlY.next hb hY;replace hxr:=RpR.next hb hxr;replace kr:=kr.call hb;replace yr0:=kr.cell' (i:=0) rfl;replace yr1:=kr.cell' (i:=1) rfl;replace yr2:=kr.cell' (i:=2) rfl;replace yr3:=kr.cell' (i:=3) rfl;replace yr4:=kr.cell' (i:=4) rfl;replace yr5:=kr.cell' (i:=5) rfl;replace hsb:=SlB.next hb hsb;clear hb;obtain⟨Ab,cb,rfl,_,_,_,_⟩:=hsb.open_;have HY:=h_ hY;have HG:=h_ g;have HXR:=h_ hxr;have HKR:=h_ kr;have HSB:=h_ hsb;clear hY g hxr kr hsb;go_upto_if 85 with fail
 go_cut [12,13,14,15] from 86 to 140 (fun _ _ _ _ wx=>SlY wx wx.heap.size u l∧Below w0.heap.size w0 wx)
 case first=>as_aux_lemma =>
  cases B
  ·go_wp2;go_meet
   case rel=>exact⟨HY.out,HG.out⟩
  ·obtain⟨Z,hZ,hrep,hZd,⟨FF,GG,hiso⟩,hsum,hbs⟩:=HLAW.out rfl;have HZ:=h_ hZ;have HREP:=h_ hrep;have HZD:=h_ hZd;have HISO:=h_ hiso;have HSUM:=h_ hsum;have HBS:=h_ hbs;clear hZ hrep hZd hiso hsum hbs HLAW HL HT nb;obtain⟨Ar',ar',Cr',cr',Er',er',Hr',hr',e9,hq,hd,_,hp,_,_⟩:=HXR.out.open_;simp only[Value.agg.injEq,Array.mk.injEq,List.cons.injEq,Value.slice.injEq,and_true,true_and]at e9;obtain⟨⟨rfl,rfl⟩,⟨rfl,rfl⟩,⟨rfl,rfl⟩,⟨rfl,rfl⟩⟩:=e9;clear hd;go_wp2_with fail
   refine (t1_ R.p _ R.q _ L _ hp hq HSB.out).mono ?_;rintro e w10 ⟨rz,rfl,hrz,hb⟩;rw[HZ.out]at hrz⊢;simp only at hrz⊢;clear hq;have hxz:=hrz.rd;have hY:=HY.out;have g:=HG.out;have hxr:=HXR.out;have kr:=HKR.out;have hsb:=HSB.out;clear hrz HY HG HXR HKR HSB HZ;replace g:=b0_ g hb;replace hY:=SlY.next hb hY;replace hxr:=RpR.next hb hxr;replace kr:=kr.call hb;replace yr0:=kr.cell' (i:=0) rfl;replace yr1:=kr.cell' (i:=1) rfl;replace yr2:=kr.cell' (i:=2) rfl;replace yr3:=kr.cell' (i:=3) rfl;replace yr4:=kr.cell' (i:=4) rfl;replace yr5:=kr.cell' (i:=5) rfl;replace hsb:=SlB.next hb hsb;clear hb;obtain⟨Az,az,Cz,cz,Ez,ez,Hz,qz,rfl⟩:=hxz.form;obtain⟨W11,hW11,ga,bkz,hbkz,kz⟩:=b_2 w10 #[.int .i64 Z.p,.int .i64 Z.q.v,.slice Az Z.q.f.length az,.slice Cz Z.q.t.length cz,.slice Ez Z.d.length ez,.slice Hz Z.m.length qz] 29;replace g:=b0_ g ga;replace hY:=SlY.next ga hY;replace hxr:=RpR.next ga hxr;replace kr:=kr.call ga;replace yr0:=kr.cell' (i:=0) rfl;replace yr1:=kr.cell' (i:=1) rfl;replace yr2:=kr.cell' (i:=2) rfl;replace yr3:=kr.cell' (i:=3) rfl;replace yr4:=kr.cell' (i:=4) rfl;replace yr5:=kr.cell' (i:=5) rfl;replace hsb:=SlB.next ga hsb;replace hxz:=RpR.next ga hxz;clear ga;obtain⟨yz0,yz1,yz2,yz3,yz4,yz5⟩:=c_6 kz;have hdz:SlI W11 W11.heap.size (.slice Ez Z.d.length ez) R.d:=by
    obtain⟨Ar',ar',Cr',cr',Er',er',Hr',hr',e9,_,hd,_,_⟩:=hxz.open_;simp only[Value.agg.injEq,Array.mk.injEq,List.cons.injEq,Value.slice.injEq,and_true,true_and]at e9;obtain⟨⟨rfl,rfl⟩,⟨rfl,rfl⟩,⟨rfl,rfl⟩,⟨rfl,rfl⟩⟩:=e9;have h:=HZD.out;rw[h]at hd;rw[h];exact hd
   have hdr:SlI W11 W11.heap.size (.slice Er R.d.length er) R.d:=by
    obtain⟨Ar',ar',Cr',cr',Er',er',Hr',hr',e9,_,hd,_,_⟩:=hxr.open_;simp only[Value.agg.injEq,Array.mk.injEq,List.cons.injEq,Value.slice.injEq,and_true,true_and]at e9;obtain⟨⟨rfl,rfl⟩,⟨rfl,rfl⟩,⟨rfl,rfl⟩,⟨rfl,rfl⟩⟩:=e9;exact hd
   go_wp2_with fail
   clear hW11 hbkz;refine (a0j _ _ R.d _ hdz hdr).mono ?_;rintro e w12 ⟨rfl,hb⟩;replace g:=b0_ g hb;replace hY:=SlY.next hb hY;replace hxr:=RpR.next hb hxr;replace kr:=kr.call hb;replace yr0:=kr.cell' (i:=0) rfl;replace yr1:=kr.cell' (i:=1) rfl;replace yr2:=kr.cell' (i:=2) rfl;replace yr3:=kr.cell' (i:=3) rfl;replace yr4:=kr.cell' (i:=4) rfl;replace yr5:=kr.cell' (i:=5) rfl;replace hsb:=SlB.next hb hsb;replace hxz:=RpR.next hb hxz;replace kz:=kz.call hb;replace yz0:=kz.cell' (i:=0) rfl;replace yz1:=kz.cell' (i:=1) rfl;replace yz2:=kz.cell' (i:=2) rfl;replace yz3:=kz.cell' (i:=3) rfl;replace yz4:=kz.cell' (i:=4) rfl;replace yz5:=kz.cell' (i:=5) rfl;clear hb hdz hdr;go_wp2_with fail
   refine (b3J _ _ Z R FF GG _ hxz hxr HISO.out HZD.out).mono ?_;rintro e w13 ⟨⟨ri,rfl,hri⟩,hb⟩;clear hxz kz yz0 yz1 yz2 yz3 yz4 yz5;replace g:=b0_ g hb;replace hY:=SlY.next hb hY;replace hxr:=RpR.next hb hxr;replace kr:=kr.call hb;replace yr0:=kr.cell' (i:=0) rfl;replace yr1:=kr.cell' (i:=1) rfl;replace yr2:=kr.cell' (i:=2) rfl;replace yr3:=kr.cell' (i:=3) rfl;replace yr4:=kr.cell' (i:=4) rfl;replace yr5:=kr.cell' (i:=5) rfl;replace hsb:=SlB.next hb hsb;clear hb HISO HZD;have HY:=h_ hY;have HG:=h_ g;have HXR:=h_ hxr;have HKR:=h_ kr;have hl:=hsb;have hr0:(ri == 0)=false:=by rcases hri with rfl | rfl <;> rfl
   clear hri hY g hxr kr hsb yr0 yr1 yr2 yr3 yr4 yr5;go_wp2;go_loopw [14,15] (fun n iv wr=>∃ k q:Nat,k≤L.length∧iv = .int .i64 k∧n = .int .i64 (lenB (L.take k))∧wr=w13.drewN q) (fun _ iv _=>L.length-(intOf iv).toNat)
   case atStart=>exact⟨0,0,l0_ _,rfl,rfl,rfl⟩
   case round =>
    obtain⟨k,q,hk,rfl,rfl,hww⟩:=hrel;replace hww:=hww.symm;subst hww;have hLn:=HLL.out;by_cases hlt:k<L.length
    ·obtain⟨b,o,x1,y1,z1,rfl,hb,HXx,c0,c1,c2,i0,i1,i2⟩:=SlB.at_ hl hlt;have hbd:=HBS.out k _ HXx.out;simp only at hbd;have hs:=Y3_ HXx.out;simp only at hs;have hle:=c4x HBS.out k hk;have hPb:=b7j (z:=z1) (d:=y1-x1+1) (by omega) (by omega);obtain⟨S,hS⟩:=e_ (lenB (L.take k));rw[hS]at hle hs⊢;obtain⟨P,hP⟩:=e_ (z1*(y1-x1+1));rw[hP]at hs hPb;have hwP:wrap64 (z1*(y1-x1+1))=P:=by rw[hP];unfold wrap64;omega
     have HS:=h_ hs;clear hl hP hS hs HXx;obtain⟨p1,p2,p3,p4,p5⟩:=hbd;obtain⟨hP1,hP2⟩:=hPb;obtain⟨hS1,hS2⟩:=hle;have hS3:S≤80000:=by omega
     clear hS2;go_wp2;go_quiet (fail)
     go_wp2;go_roundw
     case rel=>exact⟨k+1,q+nq,by omega,by go_num,by rw[HS.out],rfl⟩
     case measure=>simp[intOf];omega
    ·have hn:lenB (L.take k)=lenB L:=by rw[show k=L.length by omega,List.take_length]
     rw[hn];have hb:Below w13.heap.size w13 (w13.drewN q):=d5_ _ _ _;have hY:=HY.out;have g:=HG.out;have hxr:=HXR.out;have kr:=HKR.out;clear hn hl HY HG HXR HKR;replace g:=b0_ g hb;replace hY:=SlY.next hb hY;replace hxr:=RpR.next hb hxr;replace kr:=kr.call hb;replace yr0:=kr.cell' (i:=0) rfl;replace yr1:=kr.cell' (i:=1) rfl;replace yr2:=kr.cell' (i:=2) rfl;replace yr3:=kr.cell' (i:=3) rfl;replace yr4:=kr.cell' (i:=4) rfl;replace yr5:=kr.cell' (i:=5) rfl;clear hb;go_wp2_with fail
     refine (L2_ _ R _ hxr HREP.out).mono ?_;rintro e w14 ⟨rfl,hb⟩;rw[HSUM.out];have HYF:=h_ (SlY.next hb hY);have HGF:=h_ (b0_ g hb);clear hb hY g hxr kr yr0 yr1 yr2 yr3 yr4 yr5 HSUM HBS HREP;obtain⟨S,hS⟩:=e_ (lenB L);rw[hS];clear hS;have e1:(S != S)=false:=by simp
     go_wp2;go_meet
     case rel=>exact⟨HYF.out,HGF.out⟩
 case rest=>as_aux_lemma =>
  clear HY HG HXR HKR HLAW HL HT HSB nb;obtain⟨hY,g⟩:=hcut;obtain⟨v0,hv0⟩:∃ z,z=wc:=⟨_,rfl⟩;subst hv0;go_wp2_with fail
  refine (D9_ u l _ hY).mono ?_;intro e w20 hP;unfold RbP at hP;obtain⟨p,uq,q,ub,lb,rfl,hxq,hlb,hlbl,hp,hb⟩:=hP;replace g:=b0_ g hb;replace hY:=SlY.next hb hY;clear hb hlbl;obtain⟨Aq,aq,Cq,cq,rfl⟩:=hxq.form;obtain⟨W21,hW21,ga,bkq,hbkq,kq⟩:=b_2 w20 #[.int .i64 q.v,.slice Aq q.f.length aq,.slice Cq q.t.length cq] 26;replace g:=b0_ g ga;replace hY:=SlY.next ga hY;replace hlb:=SlB.next ga hlb;replace hxq:=QvR.next ga hxq;clear ga;obtain⟨yq0,yq1,yq2⟩:=c_3 kq;obtain⟨X,D,hX,hback⟩:=g2Z p q lb;have HX:=h_ hX;have HBACK:=h_ hback;clear hX hback;go_wp2_with fail
  clear hW21 hbkq;refine (t1_ p _ q _ lb _ hp hxq hlb).mono ?_;rintro e w22 ⟨rc,rfl,hrc,hb⟩;rw[HX.out]at hrc⊢;simp only at hrc⊢;replace g:=b0_ g hb;replace hY:=SlY.next hb hY;replace hlb:=SlB.next hb hlb;replace hxq:=QvR.next hb hxq;replace kq:=kq.call hb;replace yq0:=kq.cell' (i:=0) rfl;replace yq1:=kq.cell' (i:=1) rfl;replace yq2:=kq.cell' (i:=2) rfl;clear hb;have hxc:=hrc.rd;clear hrc;obtain⟨Ac,ac,Cc,cc,Ec,ec,Hc,qc,rfl⟩:=hxc.form;obtain⟨W23,hW23,ga,bkc,hbkc,kc⟩:=b_2 w22 #[.int .i64 X.p,.int .i64 X.q.v,.slice Ac X.q.f.length ac,.slice Cc X.q.t.length cc,.slice Ec X.d.length ec,.slice Hc X.m.length qc] 29;replace g:=b0_ g ga;replace hY:=SlY.next ga hY;replace hlb:=SlB.next ga hlb;replace hxq:=QvR.next ga hxq;replace kq:=kq.call ga;replace yq0:=kq.cell' (i:=0) rfl;replace yq1:=kq.cell' (i:=1) rfl;replace yq2:=kq.cell' (i:=2) rfl;replace hxc:=RpR.next ga hxc;clear ga;obtain⟨yc0,yc1,yc2,yc3,yc4,yc5⟩:=c_6 kc;go_wp2_with fail
  clear hW23 hbkc;refine (F2_ p _ q _ lb _ hp hxq hlb).mono ?_;rintro e w24 ⟨rd,rfl,hrd,hb⟩;rw[HX.out]at hrd⊢;simp only at hrd⊢;replace g:=b0_ g hb;replace hY:=SlY.next hb hY;replace hlb:=SlB.next hb hlb;replace hxq:=QvR.next hb hxq;replace kq:=kq.call hb;replace yq0:=kq.cell' (i:=0) rfl;replace yq1:=kq.cell' (i:=1) rfl;replace yq2:=kq.cell' (i:=2) rfl;replace hxc:=RpR.next hb hxc;replace kc:=kc.call hb;replace yc0:=kc.cell' (i:=0) rfl;replace yc1:=kc.cell' (i:=1) rfl;replace yc2:=kc.cell' (i:=2) rfl;replace yc3:=kc.cell' (i:=3) rfl;replace yc4:=kc.cell' (i:=4) rfl;replace yc5:=kc.cell' (i:=5) rfl;clear hb;have hxd:=hrd;clear hrd;obtain⟨Ad,ad,Cd,cd,Ed,ed,Hd,qd,rfl⟩:=hxd.form;obtain⟨W25,hW25,ga,bkd,hbkd,kd⟩:=b_2 w24 #[.int .i64 X.p,.int .i64 X.q.v,.slice Ad X.q.f.length ad,.slice Cd X.q.t.length cd,.slice Ed X.d.length ed,.slice Hd X.m.length qd] 29;replace g:=b0_ g ga;replace hY:=SlY.next ga hY;replace hlb:=SlB.next ga hlb;replace hxq:=QvR.next ga hxq;replace kq:=kq.call ga;replace yq0:=kq.cell' (i:=0) rfl;replace yq1:=kq.cell' (i:=1) rfl;replace yq2:=kq.cell' (i:=2) rfl;replace hxc:=RpR.next ga hxc;replace kc:=kc.call ga;replace yc0:=kc.cell' (i:=0) rfl;replace yc1:=kc.cell' (i:=1) rfl;replace yc2:=kc.cell' (i:=2) rfl;replace yc3:=kc.cell' (i:=3) rfl;replace yc4:=kc.cell' (i:=4) rfl;replace yc5:=kc.cell' (i:=5) rfl;replace hxd:=RpR.next ga hxd;clear ga;obtain⟨yd0,yd1,yd2,yd3,yd4,yd5⟩:=c_6 kd;have HY:=h_ hY;have HG:=h_ g;have HXQ:=h_ hxq;have HKQ:=h_ kq;have HLB:=h_ hlb;have HXC:=h_ hxc;have HKC:=h_ kc;have HXD:=h_ hxd;have HKD:=h_ kd;obtain⟨K,hK⟩:=e_ (areB q lb);have HK:=h_ hK;clear hY g hxq kq hlb hxc kc hxd kd hK yq0 yq1 yq2 yc0 yc1 yc2 yc3 yc4 yc5 yd0 yd1 yd2 yd3 yd4 yd5;go_wp2_with fail
  clear hW25 hbkd;refine s5_ (by kernel_rfl) [.eq (.bool D),.eq (.bool D),.eq (.bool false),.eq (.bool false),.eq (.agg #[.int .i64 X.p,.int .i64 X.q.v,.slice Ac X.q.f.length ac,.slice Cc X.q.t.length cc,.slice Ec X.d.length ec,.slice Hc X.m.length qc]),.eq (.agg #[.int .i64 X.p,.int .i64 X.q.v,.slice Ad X.q.f.length ad,.slice Cd X.q.t.length cd,.slice Ed X.d.length ed,.slice Hd X.m.length qd]),.eq (.bool true),.eq (.bool false),.eq (.bool false),.eq (.bool false),.eq (.agg #[.int .i64 q.v,.slice Aq q.f.length aq,.slice Cq q.t.length cq]),.eq (ub),.eq (.bool K),.eq (.agg #[.int .i64 q.v,.slice Aq q.f.length aq,.slice Cq q.t.length cq]),.eq (ub),.eq (.bool K),.eq (.bool false)] [[],[],[0,1],[0,1,2],[0,1,2,3],[0,1,2,3],[0,1,2,3,4,5],[0,1,2,3,4,5,6],[0,1,2,3,4,5,6,7],[0,1,2,3,4,5,6,7,8],[0,1,2,3,4,5,6,7,8,9],[0,1,2,3,4,5,6,7,8,9],[0,1,2,3,4,5,6,7,8,9,10,11],[0,1,2,3,4,5,6,7,8,9],[0,1,2,3,4,5,6,7,8,9],[0,1,2,3,4,5,6,7,8,9,10,11,12,13,14],[0,1,2,3,4,5,6,7,8,9,10,11,12,13,14,15],[0,1,2,3,4,5,6,7,8,9,10,11,12,13,14,15,16]] 17 (by kernel_rfl) ⟨trivial,trivial,trivial,trivial,trivial,trivial,trivial,trivial,trivial,trivial,trivial,trivial,trivial,trivial,trivial,trivial,trivial,trivial⟩ ⟨?_,?_,?_,?_,?_,?_,?_,?_,?_,?_,?_,?_,?_,?_,?_,?_,?_,trivial⟩ ?_;iterate 17 (intro x w hb hk Q' hQ;have he:=k_e hk;simp only[k_s]at he;simp only[netE]at hQ⊢;(try simp only[he]at hQ⊢);(try clear he);rotate_left)
  rotate_left
  iterate 2 (· clear hk;go_wp2;exact hQ _ _ br_ rfl)
  ·clear hk;have e1:(D != D)=false:=by simp
   go_wp2;exact hQ _ _ br_ rfl
  ·clear hk;go_wp2;exact hQ _ _ br_ rfl
  ·clear hk;have e0:=(HKC.out.call hb);obtain⟨z0,z1,z2,z3,z4,z5⟩:=c_6 e0;clear e0;go_wp2;exact hQ _ _ br_ rfl
  ·clear hk;have e0:=(HKD.out.call hb);obtain⟨z0,z1,z2,z3,z4,z5⟩:=c_6 e0;clear e0;go_wp2;exact hQ _ _ br_ rfl
  ·clear hk;go_wp2_with fail
   refine (r7_ _ _ X _ (RpR.next hb HXC.out) (RpR.next hb HXD.out)).mono ?_;rintro e w8 ⟨rfl,hb8⟩;go_wp2;exact hQ _ _ hb8 rfl
  iterate 3 (· clear hk;go_wp2;exact hQ _ _ br_ rfl)
  ·clear hk;have e0:=(HKQ.out.call hb);obtain⟨z0,z1,z2⟩:=c_3 e0;clear e0;go_wp2;exact hQ _ _ br_ rfl
  ·clear hk;go_wp2;exact hQ _ _ br_ rfl
  ·clear hk;go_wp2_with fail
   refine (q4_ _ q _ lb _ (QvR.next hb HXQ.out) (SlB.next hb HLB.out)).mono ?_;rintro e w8 ⟨rfl,hb8⟩;rw[HK.out];go_wp2;exact hQ _ _ hb8 rfl
  ·clear hk;have e0:=(HKQ.out.call hb);obtain⟨z0,z1,z2⟩:=c_3 e0;clear e0;go_wp2;exact hQ _ _ br_ rfl
  ·clear hk;go_wp2;exact hQ _ _ br_ rfl
  ·clear hk;go_wp2_with fail
   refine (q8_ _ q _ lb _ (QvR.next hb HXQ.out) (SlB.next hb HLB.out)).mono ?_;rintro e w8 ⟨rfl,hb8⟩;rw[HK.out];go_wp2;exact hQ _ _ hb8 rfl
  ·clear hk;have e1:(K != K)=false:=by simp
   go_wp2;exact hQ _ _ br_ rfl
  ·intro x w hb hk hiv hdj;have he:=k_g hk [0,1,2,3,4,5,6,7,8,9,10,11,12,13,14,15,16];simp only[k_s]at he;simp only[netE,he];clear he hk;have hY:=SlY.next hb HY.out;have g:=HG.out.trans (hb.mono HG.out.size);have hlb:=SlB.next hb HLB.out;have hxd:=RpR.next hb HXD.out;have kd:=HKD.out.call hb;clear hiv hdj hb HY HG HXQ HKQ HLB HXC HKC HXD HKD HK HX;have HY:=h_ hY;have HG:=h_ g;have HLB:=h_ hlb;have HXD:=h_ hxd;have HKD:=h_ kd;obtain⟨yd0,yd1,yd2,yd3,yd4,yd5⟩:=c_6 kd;clear hY g hlb hxd kd;go_upto_if 179 with fail
   go_cut [23,24] from 180 to 188 (fun _ _ wx=>SlY wx wx.heap.size u l∧Below w0.heap.size w0 wx∧SlB wx wx.heap.size ub lb)
   case first=>as_aux_lemma =>
    cases D
    ·go_wp2;go_meet
     case rel=>exact⟨HY.out,HG.out,HLB.out⟩
    ·have hback:=HBACK.out rfl;go_wp2_with fail
     refine (y4_ _ X _ HXD.out).mono ?_;rintro e w30 ⟨vc,rfl,hlc,hb⟩;rw[hback]at hlc;obtain⟨B6,hB6⟩:=e_ ((bfQ X).2);rw[hB6];have HLC:=h_ hlc.rd;have HY2:=h_ (SlY.next hb HY.out);have HG2:=h_ (b0_ HG.out hb);have HLB2:=h_ (SlB.next hb HLB.out);clear hB6 hlc hb hback HBACK HY HG HLB HXD HKD yd0 yd1 yd2 yd3 yd4 yd5;go_wp2_with fail
     refine (n8_ _ _ lb lb _ HLC.out HLB2.out).mono ?_;rintro e w31 ⟨rfl,hb⟩;rw[show decide (lb=lb)=true from decide_eq_true rfl];have HYF:=h_ (SlY.next hb HY2.out);have HGF:=h_ (b0_ HG2.out hb);have HLF:=h_ (SlB.next hb HLB2.out);clear hb HLC HY2 HG2 HLB2;go_wp2;go_meet
     case rel=>exact⟨HYF.out,HGF.out,HLF.out⟩
   case rest=>as_aux_lemma =>
    clear HY HG HLB HXD HKD HBACK yd0 yd1 yd2 yd3 yd4 yd5;obtain⟨hY,g,hlb⟩:=hcut;obtain⟨v1,hv1⟩:∃ z,z=wc:=⟨_,rfl⟩;subst hv1;go_wp2_with fail
    refine (y9_ u l _ hY).mono ?_;intro e w40 hP;unfold IvP at hP;obtain⟨p2,uv,q2,a2,b2,rfl,hxv,hp2,ha2,hb2,hb⟩:=hP;replace g:=b0_ g hb;replace hY:=SlY.next hb hY;replace hlb:=SlB.next hb hlb;clear hb;obtain⟨Av,av,Cv,cv,rfl⟩:=hxv.form;obtain⟨W41,hW41,ga,bkv,hbkv,kv⟩:=b_2 w40 #[.int .i64 q2.v,.slice Av q2.f.length av,.slice Cv q2.t.length cv] 26;replace g:=b0_ g ga;replace hY:=SlY.next ga hY;replace hlb:=SlB.next ga hlb;replace hxv:=QvR.next ga hxv;clear ga;obtain⟨yv0,yv1,yv2⟩:=c_3 kv;obtain⟨Z,D2,hZ,hzl⟩:=g8Z p2 q2 a2 b2;have HZ:=h_ hZ;have HZL:=h_ hzl;clear hZ hzl;go_wp2_with fail
    clear hW41 hbkv;refine (z3_ p2 _ q2 a2 b2 _ hp2 hxv ha2 hb2).mono ?_;rintro e w42 ⟨re,rfl,hre,hb⟩;rw[HZ.out]at hre⊢;simp only at hre⊢;replace g:=b0_ g hb;replace hY:=SlY.next hb hY;replace hlb:=SlB.next hb hlb;replace hxv:=QvR.next hb hxv;replace kv:=kv.call hb;replace yv0:=kv.cell' (i:=0) rfl;replace yv1:=kv.cell' (i:=1) rfl;replace yv2:=kv.cell' (i:=2) rfl;clear hb;have hxe:=hre.rd;clear hre;obtain⟨Ae,ae,Ce,ce,Ee,ee,He,qe,rfl⟩:=hxe.form;obtain⟨W43,hW43,ga,bke,hbke,ke⟩:=b_2 w42 #[.int .i64 Z.p,.int .i64 Z.q.v,.slice Ae Z.q.f.length ae,.slice Ce Z.q.t.length ce,.slice Ee Z.d.length ee,.slice He Z.m.length qe] 29;replace g:=b0_ g ga;replace hY:=SlY.next ga hY;replace hlb:=SlB.next ga hlb;replace hxv:=QvR.next ga hxv;replace kv:=kv.call ga;replace yv0:=kv.cell' (i:=0) rfl;replace yv1:=kv.cell' (i:=1) rfl;replace yv2:=kv.cell' (i:=2) rfl;replace hxe:=RpR.next ga hxe;clear ga;obtain⟨ye0,ye1,ye2,ye3,ye4,ye5⟩:=c_6 ke;go_wp2_with fail
    clear hW43 hbke;refine (A6_ p2 _ q2 a2 b2 _ hp2 hxv ha2 hb2).mono ?_;rintro e w44 ⟨rf,rfl,hrf,hb⟩;rw[HZ.out]at hrf⊢;simp only at hrf⊢;replace g:=b0_ g hb;replace hY:=SlY.next hb hY;replace hlb:=SlB.next hb hlb;replace hxv:=QvR.next hb hxv;replace kv:=kv.call hb;replace yv0:=kv.cell' (i:=0) rfl;replace yv1:=kv.cell' (i:=1) rfl;replace yv2:=kv.cell' (i:=2) rfl;replace hxe:=RpR.next hb hxe;replace ke:=ke.call hb;replace ye0:=ke.cell' (i:=0) rfl;replace ye1:=ke.cell' (i:=1) rfl;replace ye2:=ke.cell' (i:=2) rfl;replace ye3:=ke.cell' (i:=3) rfl;replace ye4:=ke.cell' (i:=4) rfl;replace ye5:=ke.cell' (i:=5) rfl;clear hb;have hxf:=hrf;clear hrf;obtain⟨Af,af,Cf,cf,Ef,ef,Hf,qf,rfl⟩:=hxf.form;obtain⟨W45,hW45,ga,bkf,hbkf,kf⟩:=b_2 w44 #[.int .i64 Z.p,.int .i64 Z.q.v,.slice Af Z.q.f.length af,.slice Cf Z.q.t.length cf,.slice Ef Z.d.length ef,.slice Hf Z.m.length qf] 29;replace g:=b0_ g ga;replace hY:=SlY.next ga hY;replace hlb:=SlB.next ga hlb;replace hxv:=QvR.next ga hxv;replace kv:=kv.call ga;replace yv0:=kv.cell' (i:=0) rfl;replace yv1:=kv.cell' (i:=1) rfl;replace yv2:=kv.cell' (i:=2) rfl;replace hxe:=RpR.next ga hxe;replace ke:=ke.call ga;replace ye0:=ke.cell' (i:=0) rfl;replace ye1:=ke.cell' (i:=1) rfl;replace ye2:=ke.cell' (i:=2) rfl;replace ye3:=ke.cell' (i:=3) rfl;replace ye4:=ke.cell' (i:=4) rfl;replace ye5:=ke.cell' (i:=5) rfl;replace hxf:=RpR.next ga hxf;clear ga;obtain⟨yf0,yf1,yf2,yf3,yf4,yf5⟩:=c_6 kf;clear hxv kv yv0 yv1 yv2;go_wp2_with fail
    clear hW45 hbkf;refine (O2_ u l _ hY).mono ?_;intro e w46 hP;unfold LnP at hP;obtain⟨ui,q3,rfl,hxi,hb⟩:=hP;replace g:=b0_ g hb;replace hY:=SlY.next hb hY;replace hlb:=SlB.next hb hlb;replace hxe:=RpR.next hb hxe;replace ke:=ke.call hb;replace ye0:=ke.cell' (i:=0) rfl;replace ye1:=ke.cell' (i:=1) rfl;replace ye2:=ke.cell' (i:=2) rfl;replace ye3:=ke.cell' (i:=3) rfl;replace ye4:=ke.cell' (i:=4) rfl;replace ye5:=ke.cell' (i:=5) rfl;replace hxf:=RpR.next hb hxf;replace kf:=kf.call hb;replace yf0:=kf.cell' (i:=0) rfl;replace yf1:=kf.cell' (i:=1) rfl;replace yf2:=kf.cell' (i:=2) rfl;replace yf3:=kf.cell' (i:=3) rfl;replace yf4:=kf.cell' (i:=4) rfl;replace yf5:=kf.cell' (i:=5) rfl;clear hb;obtain⟨Ai,ai,Ci,ci,rfl⟩:=hxi.form;obtain⟨W47,hW47,ga,bki,hbki,ki⟩:=b_2 w46 #[.int .i64 q3.v,.slice Ai q3.f.length ai,.slice Ci q3.t.length ci] 26;replace g:=b0_ g ga;replace hY:=SlY.next ga hY;replace hlb:=SlB.next ga hlb;replace hxe:=RpR.next ga hxe;replace ke:=ke.call ga;replace ye0:=ke.cell' (i:=0) rfl;replace ye1:=ke.cell' (i:=1) rfl;replace ye2:=ke.cell' (i:=2) rfl;replace ye3:=ke.cell' (i:=3) rfl;replace ye4:=ke.cell' (i:=4) rfl;replace ye5:=ke.cell' (i:=5) rfl;replace hxf:=RpR.next ga hxf;replace kf:=kf.call ga;replace yf0:=kf.cell' (i:=0) rfl;replace yf1:=kf.cell' (i:=1) rfl;replace yf2:=kf.cell' (i:=2) rfl;replace yf3:=kf.cell' (i:=3) rfl;replace yf4:=kf.cell' (i:=4) rfl;replace yf5:=kf.cell' (i:=5) rfl;replace hxi:=QvR.next ga hxi;clear ga;obtain⟨yi0,yi1,yi2⟩:=c_3 ki;go_wp2_with fail
    clear hW47 hbki;refine (D8_ u l _ hY).mono ?_;intro e w48 hP;unfold EbP at hP;obtain⟨v1,l1,v2,l2,rfl,hl1,hl2,_,_,hb⟩:=hP;replace g:=b0_ g hb;replace hY:=SlY.next hb hY;replace hlb:=SlB.next hb hlb;replace hxe:=RpR.next hb hxe;replace ke:=ke.call hb;replace ye0:=ke.cell' (i:=0) rfl;replace ye1:=ke.cell' (i:=1) rfl;replace ye2:=ke.cell' (i:=2) rfl;replace ye3:=ke.cell' (i:=3) rfl;replace ye4:=ke.cell' (i:=4) rfl;replace ye5:=ke.cell' (i:=5) rfl;replace hxf:=RpR.next hb hxf;replace kf:=kf.call hb;replace yf0:=kf.cell' (i:=0) rfl;replace yf1:=kf.cell' (i:=1) rfl;replace yf2:=kf.cell' (i:=2) rfl;replace yf3:=kf.cell' (i:=3) rfl;replace yf4:=kf.cell' (i:=4) rfl;replace yf5:=kf.cell' (i:=5) rfl;replace hxi:=QvR.next hb hxi;replace ki:=ki.call hb;replace yi0:=ki.cell' (i:=0) rfl;replace yi1:=ki.cell' (i:=1) rfl;replace yi2:=ki.cell' (i:=2) rfl;clear hb;have HG:=h_ g;have HLB:=h_ hlb;have HXE:=h_ hxe;have HKE:=h_ ke;have HXF:=h_ hxf;have HKF:=h_ kf;have HXI:=h_ hxi;have HKI:=h_ ki;have HL1:=h_ hl1;have HL2:=h_ hl2;obtain⟨K2,hK2⟩:=e_ (isL q3);have HK2:=h_ hK2;obtain⟨K3,hK3⟩:=e_ (decide (l1=l2));have HK3:=h_ hK3;obtain⟨K4,hK4⟩:=e_ (fmtB lb);have HK4:=h_ hK4;clear hY g hlb hxe ke hxf kf hxi ki hl1 hl2 hK2 hK3 hK4 ye0 ye1 ye2 ye3 ye4 ye5 yf0 yf1 yf2 yf3 yf4 yf5 yi0 yi1 yi2;go_wp2_with fail
    refine s5_ (by kernel_rfl) (.eq (.bool D2) :: .eq (.bool D2) :: .eq (.bool true) :: .eq (.bool true) :: .eq (.agg #[.int .i64 Z.p,.int .i64 Z.q.v,.slice Ae Z.q.f.length ae,.slice Ce Z.q.t.length ce,.slice Ee Z.d.length ee,.slice He Z.m.length qe]) :: .eq (.agg #[.int .i64 Z.p,.int .i64 Z.q.v,.slice Af Z.q.f.length af,.slice Cf Z.q.t.length cf,.slice Ef Z.d.length ef,.slice Hf Z.m.length qf]) :: .eq (.bool true) :: .eq (.bool true) :: .eq (.bool true) :: .eq (.bool D2) :: .eq (.bool (!D2)) :: .eq (.bool (!D2)) :: .eq ((bif D2 then .agg #[.int .i64 Z.p,.int .i64 Z.q.v,.slice Af Z.q.f.length af,.slice Cf Z.q.t.length cf,.slice Ef Z.d.length ef,.slice Hf Z.m.length qf] else undef)) :: .eq ((bif D2 then .agg #[.int .i64 Z.p,.int .i64 Z.q.v,.slice Af Z.q.f.length af,.slice Cf Z.q.t.length cf,.slice Ef Z.d.length ef,.slice Hf Z.m.length qf] else undef)) :: .eq ((bif D2 then .int .i64 1 else undef)) :: .eq ((bif D2 then .bool true else undef)) :: .eq (.bool true) :: .eq (.bool true) :: .eq (.bool true) :: .eq (.agg #[.int .i64 q3.v,.slice Ai q3.f.length ai,.slice Ci q3.t.length ci]) :: .eq (.bool K2) :: .eq (.agg #[.int .i64 q3.v,.slice Ai q3.f.length ai,.slice Ci q3.t.length ci]) :: .eq (.bool K2) :: .eq (.bool true) :: .eq (.bool true) :: .eq (.bool true) :: .eq (v1) :: .eq (v2) :: .eq (.bool K3) :: .eq (v1) :: .eq (v2) :: .eq (.bool K3) :: .eq (.bool true) :: .eq (.bool true) :: .eq (.bool true) :: .eq (ub) :: .eq (.string K4) :: .eq (ub) :: .eq (.string K4) :: .eq (.bool true) :: .eq (.bool true) :: []) [[],[],[0,1],[0,1,2],[0,1,2,3],[0,1,2,3],[0,1,2,3,4,5],[0,1,2,3,4,5,6],[0,1,2,3,4,5,6,7],[0,1,2,3,4,5,6,7,8],[0,1,2,3,4,5,6,7,8,9],[0,1,2,3,4,5,6,7,8,9,10],[0,1,2,3,4,5,6,7,8,9,10,11],[0,1,2,3,4,5,6,7,8,9,10,11],[0,1,2,3,4,5,6,7,8,9,10,11,12,13],[0,1,2,3,4,5,6,7,8,9,10,11,12,13,14],[0,1,2,3,4,5,6,7,8,9,10,11,12,13,14,15],[0,1,2,3,4,5,6,7,8,9,10,11,12,13,14,15,16],[0,1,2,3,4,5,6,7,8,9,10,11,12,13,14,15,16,17],[0,1,2,3,4,5,6,7,8,9,10,11,12,13,14,15,16,17,18],[0,1,2,3,4,5,6,7,8,9,10,11,12,13,14,15,16,17,18,19],[0,1,2,3,4,5,6,7,8,9,10,11,12,13,14,15,16,17,18],[0,1,2,3,4,5,6,7,8,9,10,11,12,13,14,15,16,17,18,19,20,21],[0,1,2,3,4,5,6,7,8,9,10,11,12,13,14,15,16,17,18,19,20,21,22],[0,1,2,3,4,5,6,7,8,9,10,11,12,13,14,15,16,17,18,19,20,21,22,23],[0,1,2,3,4,5,6,7,8,9,10,11,12,13,14,15,16,17,18,19,20,21,22,23,24],[0,1,2,3,4,5,6,7,8,9,10,11,12,13,14,15,16,17,18,19,20,21,22,23,24,25],[0,1,2,3,4,5,6,7,8,9,10,11,12,13,14,15,16,17,18,19,20,21,22,23,24,25],[0,1,2,3,4,5,6,7,8,9,10,11,12,13,14,15,16,17,18,19,20,21,22,23,24,25,26,27],[0,1,2,3,4,5,6,7,8,9,10,11,12,13,14,15,16,17,18,19,20,21,22,23,24,25],[0,1,2,3,4,5,6,7,8,9,10,11,12,13,14,15,16,17,18,19,20,21,22,23,24,25],[0,1,2,3,4,5,6,7,8,9,10,11,12,13,14,15,16,17,18,19,20,21,22,23,24,25,26,27,28,29,30],[0,1,2,3,4,5,6,7,8,9,10,11,12,13,14,15,16,17,18,19,20,21,22,23,24,25,26,27,28,29,30,31],[0,1,2,3,4,5,6,7,8,9,10,11,12,13,14,15,16,17,18,19,20,21,22,23,24,25,26,27,28,29,30,31,32],[0,1,2,3,4,5,6,7,8,9,10,11,12,13,14,15,16,17,18,19,20,21,22,23,24,25,26,27,28,29,30,31,32,33],[0,1,2,3,4,5,6,7,8,9,10,11,12,13,14,15,16,17,18,19,20,21,22,23,24,25,26,27,28,29,30,31,32,33,34],[0,1,2,3,4,5,6,7,8,9,10,11,12,13,14,15,16,17,18,19,20,21,22,23,24,25,26,27,28,29,30,31,32,33,34,35],[0,1,2,3,4,5,6,7,8,9,10,11,12,13,14,15,16,17,18,19,20,21,22,23,24,25,26,27,28,29,30,31,32,33,34],[0,1,2,3,4,5,6,7,8,9,10,11,12,13,14,15,16,17,18,19,20,21,22,23,24,25,26,27,28,29,30,31,32,33,34,35,36,37],[0,1,2,3,4,5,6,7,8,9,10,11,12,13,14,15,16,17,18,19,20,21,22,23,24,25,26,27,28,29,30,31,32,33,34,35,36,37,38],[0,1,2,3,4,5,6,7,8,9,10,11,12,13,14,15,16,17,18,19,20,21,22,23,24,25,26,27,28,29,30,31,32,33,34,35,36,37,38,39],[0,1,2,3,4,5,6,7,8,9,10,11,12,13,14,15,16,17,18,19,20,21,22,23,24,25,26,27,28,29,30,31,32,33,34,35,36,37,38,39,40]] 41 (by kernel_rfl) ⟨trivial,trivial,trivial,trivial,trivial,trivial,trivial,trivial,trivial,trivial,trivial,trivial,trivial,trivial,trivial,trivial,trivial,trivial,trivial,trivial,trivial,trivial,trivial,trivial,trivial,trivial,trivial,trivial,trivial,trivial,trivial,trivial,trivial,trivial,trivial,trivial,trivial,trivial,trivial,trivial,trivial,trivial⟩ ⟨?_,?_,?_,?_,?_,?_,?_,?_,?_,?_,?_,?_,?_,?_,?_,?_,?_,?_,?_,?_,?_,?_,?_,?_,?_,?_,?_,?_,?_,?_,?_,?_,?_,?_,?_,?_,?_,?_,?_,?_,?_,trivial⟩ ?_;iterate 41 (intro x w hb hk Q' hQ;have he:=k_e hk;simp only[k_s]at he;simp only[netE]at hQ⊢;(try simp only[he]at hQ⊢);(try clear he);rotate_left)
    rotate_left
    iterate 2 (· clear hk;go_wp2;exact hQ _ _ br_ rfl)
    ·clear hk;have e1:(D2 == D2)=true:=by simp
     go_wp2;exact hQ _ _ br_ rfl
    ·clear hk;go_wp2;exact hQ _ _ br_ rfl
    ·clear hk;have e0:=(HKE.out.call hb);obtain⟨z0,z1,z2,z3,z4,z5⟩:=c_6 e0;clear e0;go_wp2;exact hQ _ _ br_ rfl
    ·clear hk;have e0:=(HKF.out.call hb);obtain⟨z0,z1,z2,z3,z4,z5⟩:=c_6 e0;clear e0;go_wp2;exact hQ _ _ br_ rfl
    ·clear hk;go_wp2_with fail
     refine (r7_ _ _ Z _ (RpR.next hb HXE.out) (RpR.next hb HXF.out)).mono ?_;rintro e w8 ⟨rfl,hb8⟩;go_wp2;exact hQ _ _ hb8 rfl
    iterate 5 (· clear hk;go_wp2;exact hQ _ _ br_ rfl)
    ·clear hk;cases D2
     ·(try simp only[cond_false,Bool.not_false]at hQ⊢)
      go_wp2;exact hQ _ _ br_ rfl
     ·(try simp only[cond_true,Bool.not_true]at hQ⊢)
      have e0:=(HKF.out.call hb);obtain⟨z0,z1,z2,z3,z4,z5⟩:=c_6 e0;clear e0;go_wp2;exact hQ _ _ br_ rfl
    ·clear hk;cases D2
     ·(try simp only[cond_false,Bool.not_false]at hQ⊢)
      go_wp2;exact hQ _ _ br_ rfl
     ·(try simp only[cond_true,Bool.not_true]at hQ⊢)
      have e0:=(HKF.out.call hb);obtain⟨z0,z1,z2,z3,z4,z5⟩:=c_6 e0;clear e0;go_wp2;exact hQ _ _ br_ rfl
    ·clear hk;cases D2
     ·(try simp only[cond_false,Bool.not_false]at hQ⊢)
      go_wp2;exact hQ _ _ br_ rfl
     ·(try simp only[cond_true,Bool.not_true]at hQ⊢)
      obtain⟨hf1,hf2⟩:=HZL.out rfl;have HF2:=h_ (show ((homN Z Z:Nat):Int)=1 from by rw[hf2];rfl);go_wp2_with fail
      refine (O3_ _ _ Z Z _ (RpR.next hb HXF.out) (RpR.next hb HXF.out) hf1).mono ?_;rintro e w8 ⟨rfl,hb8⟩;rw[HF2.out];go_wp2;exact hQ _ _ hb8 rfl
    ·clear hk;cases D2
     ·(try simp only[cond_false,Bool.not_false]at hQ⊢)
      go_wp2;exact hQ _ _ br_ rfl
     ·(try simp only[cond_true,Bool.not_true]at hQ⊢)
      go_wp2;exact hQ _ _ br_ rfl
    ·clear hk;cases D2
     ·(try simp only[cond_false,Bool.not_false]at hQ⊢)
      go_wp2;exact hQ _ _ br_ rfl
     ·(try simp only[cond_true,Bool.not_true]at hQ⊢)
      go_wp2;exact hQ _ _ br_ rfl
    iterate 2 (· clear hk;go_wp2;exact hQ _ _ br_ rfl)
    ·clear hk;have e0:=(HKI.out.call hb);obtain⟨z0,z1,z2⟩:=c_3 e0;clear e0;go_wp2;exact hQ _ _ br_ rfl
    ·clear hk;go_wp2_with fail
     refine (g1_ _ q3 _ (QvR.next hb HXI.out)).mono ?_;rintro e w8 ⟨rfl,hb8⟩;rw[HK2.out];go_wp2;exact hQ _ _ hb8 rfl
    ·clear hk;have e0:=(HKI.out.call hb);obtain⟨z0,z1,z2⟩:=c_3 e0;clear e0;go_wp2;exact hQ _ _ br_ rfl
    ·clear hk;go_wp2_with fail
     refine (g2_ _ q3 _ (QvR.next hb HXI.out)).mono ?_;rintro e w8 ⟨rfl,hb8⟩;rw[HK2.out];go_wp2;exact hQ _ _ hb8 rfl
    ·clear hk;have e1:(K2 == K2)=true:=by simp
     go_wp2;exact hQ _ _ br_ rfl
    iterate 4 (· clear hk;go_wp2;exact hQ _ _ br_ rfl)
    ·clear hk;go_wp2_with fail
     refine (E1_ _ _ l1 l2 _ (SlB.next hb HL1.out) (SlB.next hb HL2.out)).mono ?_;rintro e w8 ⟨rfl,hb8⟩;rw[HK3.out];go_wp2;exact hQ _ _ hb8 rfl
    iterate 2 (· clear hk;go_wp2;exact hQ _ _ br_ rfl)
    ·clear hk;go_wp2_with fail
     refine (n8_ _ _ l1 l2 _ (SlB.next hb HL1.out) (SlB.next hb HL2.out)).mono ?_;rintro e w8 ⟨rfl,hb8⟩;rw[HK3.out];go_wp2;exact hQ _ _ hb8 rfl
    ·clear hk;have e1:(K3 == K3)=true:=by simp
     go_wp2;exact hQ _ _ br_ rfl
    iterate 3 (· clear hk;go_wp2;exact hQ _ _ br_ rfl)
    ·clear hk;go_wp2_with fail
     refine (B6_ _ lb _ (SlB.next hb HLB.out)).mono ?_;rintro e w8 ⟨rfl,hb8⟩;rw[HK4.out];go_wp2;exact hQ _ _ hb8 rfl
    ·clear hk;go_wp2;exact hQ _ _ br_ rfl
    ·clear hk;go_wp2_with fail
     refine (C6_ _ lb _ (SlB.next hb HLB.out)).mono ?_;rintro e w8 ⟨rfl,hb8⟩;rw[HK4.out];go_wp2;exact hQ _ _ hb8 rfl
    ·clear hk;have e1:(K4 == K4)=true:=by cases K4;rename_i d;exact beq_self_eq_true d
     have e2:(K4.toList == K4.toList)=true:=by simp
     go_wp2;exact hQ _ _ br_ rfl
    ·clear hk;go_wp2;exact hQ _ _ br_ rfl
    ·intro x w hb hk hiv hdj;have he:=k_g hk [0,1,2,3,4,5,6,7,8,9,10,11,12,13,14,15,16,17,18,19,20,21,22,23,24,25,26,27,28,29,30,31,32,33,34,35,36,37,38,39,40];simp only[k_s]at he;simp only[netE,he];clear he hk;have GF:=h_ (HG.out.trans (hb.mono HG.out.size));clear hiv hdj hb;go_wp2;go_ret
     exact⟨rfl,GF.out⟩
end Go.Proofs.YtbgccbmdiolhbaaGreat
namespace Go.Proofs.YtbgccbmdiolhbaaGreat
open Go.RowKit Go.ChangeShapes Go.WideShapes Go.ChangeAt Go.Deep
theorem b4X (A:Option Addr) (n c:Nat) (w:World) (hn:1048576<n) (hn2:n≤9223372036854775807) :
  Calls Tryz.prog 3 #[.slice A n c] w fun e w'=>e = .returned (.bool true)∧Below w.heap.size w w':=by
 have hB:Calls Tryz.prog 4 #[.slice A n c] w fun e w'=>e = .returned (.bool true)∧Below w.heap.size w w':=by
  have hd:decide ((n:Int) > 1048576)=true:=decide_eq_true (by omega);go_enter Tryz.func4,Tryz.ntmps4
  go_wp2;go_ret
  exact⟨by first | rfl | (rw[show (true:Bool)=decide ((n:Int) > 1048576) from hd.symm];rfl),Below.refl _ _⟩
 go_enter Tryz.func3,Tryz.ntmps3
 go_wp2_with fail
 refine hB.mono ?_;rintro e w1 ⟨rfl,hb1⟩;go_wp2;go_ret
 exact⟨rfl,hb1⟩
theorem S3_ (os:Os) (started:os.Started) (H:Type) (enc:TypeId×Value→H) :
  ReturnsInHanded {} Tryz.checked os 3 .any (Rows.fnBarsSpec.pre6 enc Tryz.prog Tryz.f3 Rows.fnBarsRow.domain false) (Rows.fnBarsSpec.post enc Tryz.prog Tryz.f3 false true false false):=by
 refine d5j started (by kernel_rfl) Tryz.func3 (ChangeSpec.witness6 (enc:=enc) (C:=Tryz.checked) false ⟨#[],#[.slice none 0 0],[]⟩ 8 (by kernel_rfl) (by kernel_rfl) (by kernel_rfl) (by kernel_rfl))
  rfl rfl (by rw[Tryz.params3];intro t ht;simp only[List.mem_cons,List.not_mem_nil,or_false]at ht;rcases ht with rfl <;> exact⟨by kernel_rfl,of_decide_eq_true (by kernel_rfl)⟩) (fun ds hl=>by rw[Tryz.params3]at hl;match ds,hl with | [_],_=>rfl) ?_
 intro W args ds ps base hval hA hwt;rw[Tryz.params3]at hA hval hwt;obtain⟨v0,d0,hargs,rfl,h0⟩:=trodAll_one hA;obtain rfl:args=#[v0]:=by cases args;simp_all
 obtain⟨f,h0'⟩:=i3Z Tryz.underlying22 (hval 0 _ _ rfl rfl) h0;obtain⟨v,e,hx⟩:=i5x h0';injection e with e
 subst e;rcases hx with ⟨A,n,c,rfl,h1,h2⟩ | ⟨xs,hx⟩
 ·exact b4X A n c W h1 h2
 ·exact b4Z _ xs W hx
theorem S2_:joinedFacts Tryz.prog 3 Tryz.f3 Rows.fnBarsSpec Rows.fnBarsRow=true:=by
 unfold joinedFacts;refine band (band (band (band (band (band (band ?_ c8x) c8J) d8x) ?_) ?_) ?_) ?_ <;> kernel_rfl
theorem fnBars_holds:Rows.FnBarsSaid :=
 OpenClaim.holds_of_wide 3 Tryz.f3 rfl rfl rfl rfl rfl rfl rfl ⟨rfl,rfl,rfl,rfl,rfl⟩ rfl rfl rfl rfl rfl (by kernel_rfl) Tryz.func3 S2_
  (of_decide_eq_true (by kernel_rfl)) (by unfold Func.isWrapper;first | (rw[if_pos (by decide +kernel)];kernel_rfl) | (rw[if_neg (by decide +kernel)];exact⟨rfl,rfl⟩))
  (fun os started H enc _=>S3_ os started H enc)
#print axioms fnBars_holds
end Go.Proofs.YtbgccbmdiolhbaaGreat

