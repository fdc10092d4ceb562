/- FnFunctors: the law holds for every argument. Part 12 of 14 of the proof: RsrI, SVec, AVec, SMat, FncQ, FncR, FncS, Det0, Kind0, FinA, FinB, EntR, FncT, RsP, CpQ, RvB, KerS. No condition. -/
import Derived.Test.YtnohdlkailpnoaaGreatBFunctors11
import Derived.Laws.Bits128
set_option linter.unusedVariables false
set_option linter.unusedSimpArgs false
set_option maxHeartbeats 12800000
set_option maxRecDepth 100000
namespace Go.Proofs.YtnohdlkailpnoaaGreat
open Go.RowKit
def srRN (x:Rp) (v:Int):Nat:=(outS x v (dAt x.d v).toNat x.q.f.length).1
def srR (x:Rp) (v:Int):(Nat→Nat→Int)×List Int:=rdTo x.p (dAt x.d v).toNat (trF (outS x v (dAt x.d v).toNat x.q.f.length).2) (srRN x v)
def srK (x:Rp) (v:Int):Nat:=(b2_ (srR x v).2 (srRN x v)).length
def srF (x:Rp) (v:Int) (a j:Nat):Int:=pjF x.p (srR x v).1 (srR x v).2 (b2_ (srR x v).2 (srRN x v)) (srR x v).2.length j a
def rsrP (x:Rp) (v:Int):Rp×Bool:=if k0_ x v then rfP x v (srK x v) (gSrc x v (srK x v) (srF x v)) else (rp0,false)
theorem p4_ (u:Value) (y:Rp) (v:Int) (w0:World) (hu:RpR w0 w0.heap.size u y) (hv:I64 v) :
  Calls Tryz.prog 15 #[u,.int .i64 v] w0 fun e w'=>∃ r,e = .returned (.tuple #[r,.bool (rsrP y v).2])∧RepO w' w0.heap.size w'.heap.size r (rsrP y v).1∧Below w0.heap.size w0 w':=by
 have hu':=hu;obtain⟨A,a,C,c,E,ec,H,hc,rfl⟩:=hu.form;clear hu;obtain⟨W,hW,g0,k1,k2⟩:=b_4 w0 #[.int .i64 y.p,.int .i64 y.q.v,.slice A y.q.f.length a,.slice C y.q.t.length c,.slice E y.d.length ec,.slice H y.m.length hc] 29 #[.int .i64 0,.int .i64 0,.slice none 0 0,.slice none 0 0,.slice none 0 0,.slice none 0 0] 29;have sz:W.heap.size=w0.heap.size+1+1:=by rw[hW];simp
 have SZ:=h_ sz;have HR:=h_ (RpR.next g0 hu');obtain⟨c0,c1,c2,c3,c4,c5⟩:=c_6 k1;clear hu' sz;go_enter Tryz.func15,Tryz.ntmps15
 go_wp2_with fail
 rw[←hW];clear hW;refine (i0_ _ y v _ HR.out hv).mono ?_;rintro e w1 ⟨r1,rfl,hM,hb1⟩;clear c0 c1 c2 c3 c4 c5;rcases hok:k0_ y v with _ | _
 ·have hP:outP y v=(mx0,false):=by rw[outP,if_neg (by rw[hok];decide)]
  have HE:=h_ (show rsrP y v=(rp0,false) by rw[rsrP,if_neg (by rw[hok];decide)]);rw[hP]at hM⊢;obtain⟨MA,mc,em⟩:=hM.form;simp only[mx0,List.length_nil]at em⊢;subst em;obtain⟨W2,hW2⟩:=e_ (w1.alloc (.cells #[.int .i64 0,.int .i64 0,.slice MA 0 mc] 41));have ga:Below w1.heap.size w1 W2:=by rw[←hW2];exact a2_ _ _
  have gW:=a6_ hb1 ga;have kz:=k2.call gW;have fr:=kz.frozen;obtain⟨s0,s1,s2,s3,s4,s5⟩:=c_6 kz;have gf:=g0.trans (gW.mono g0.size);have GF:=h_ gf;clear kz gf gW hM hP hok hb1 ga k1 k2 g0;go_wp2;have gf:=GF.out;have hE:=HE.out;exact bodyPost_ret (v:=.tuple #[.agg #[.int .i64 0,.int .i64 0,.slice none 0 0,.slice none 0 0,.slice none 0 0,.slice none 0 0],.bool false]) (by simp[results,go_sem,s0,s1,s2,s3,s4,s5]) rfl ⟨_,by rw[hE],by rw[hE];exact RepO.zero _ _ _,(((((gf.setCell (by simp) _).setCell (by simp) _).setCell (by simp) _).setCell (by simp) _).setCell (by simp) _).setCell (by simp) _⟩
 ·obtain⟨hy,hs⟩:f1_ y=true∧endV y.q.t y.q v=true:=by simpa [k0_] using hok
  obtain⟨n,D,env,hnl,hdn,hdA,hD4,hn5⟩:=k5_ hy hs;have hP:=y5_ hok hdA;have hN:=B0_ (v:=v) (C:=D) hy _ (l_ _);have hn6:y.q.f.length≤6:=(g4_.1 (b7_.1 (b8_.1 hy).2.1).1).2.2.1;have hat:=E6_ (C:=D) hy hs _ (l_ _);have houF:=v0_ hy env hdn _ (l_ _);have hfld:=(b8_.1 hy).1;have hpr:=f4_ hfld;have HE:=h_ (show rsrP y v=rfP y v (srK y v) (gSrc y v (srK y v) (srF y v)) by rw[rsrP,if_pos hok]);have hsn:srRN y v=(outS y v D y.q.f.length).1:=by rw[srRN,hdA,l5_]
  have hsr:srR y v=rdTo y.p D (trF (outS y v D y.q.f.length).2) (outS y v D y.q.f.length).1:=by rw[srR,hsn,hdA,l5_]
  rw[hP]at hM⊢;simp only[outM]at hM;obtain⟨N,hNN⟩:=e_ ((outS y v D y.q.f.length).1);obtain⟨F0,hF0⟩:=e_ ((outS y v D y.q.f.length).2);rw[hNN,hF0]at hM hsr houF;rw[hNN]at hat hN hsn;obtain⟨g,hg⟩:=e_ ((rdTo y.p D (trF F0) N).1);obtain⟨ps,hps⟩:=e_ ((rdTo y.p D (trF F0) N).2);have hgp:rdTo y.p D (trF F0) N=(g,ps):=by rw[←hg,←hps]
  rw[hgp]at hsr;have hgF:InF y.p ps.length N g:=fun i j hi hj=>by
   have h2:=(f6_ y.p D (trF F0) N).1;rw[hps]at h2;rw[←hg];exact p6_ hpr.1 (O3_ houF) N i j (by omega) hj
  have hlead:a9J ps.length N g ps:=by
   have:=c8X hfld hpr.1 (O3_ houF);rwa[hg,hps]at this
  have hpl:ps.length≤D:=by
   have h2:=(f6_ y.p D (trF F0) N).1;rwa[hps]at h2
  obtain⟨K,hK⟩:=e_ (srK y v);have hKf:(b2_ ps N).length=K:=by rw[←hK,srK,hsr,hsn]
  have hKN:K≤N:=by rw[←hKf];exact d7_ _ _
  have hF:srF y v=fun a j=>pjF y.p g ps (b2_ ps N) ps.length j a:=by funext a j;rw[srF,hsr,hsn]
  obtain⟨R,hR⟩:=e_ (rfP y v K (gSrc y v K (srF y v)));rw[hK,hR]at HE;have HRR:=h_ hR;have HFF:=h_ hF;have HKF:=h_ hKf;have HY:=h_ hy;have HS:=h_ hs;have HOU:=h_ houF;have HFL:=h_ hfld;have HPR:=h_ hpr;have HAT:=h_ hat
  have HGF:=h_ hgF;have HLE:=h_ hlead;have HGP:=h_ hgp;clear hok hP hNN hF0 hR hF hKf hsr hsn hy hs houF hfld hat hK hdA hdn env hgF hlead hgp hg hps hpr;obtain⟨MA,mc,em⟩:=hM.form;simp only[mxF]at em hM;rw[a0_]at em;subst em;obtain⟨ML,hML⟩:=e_ (N*D);rw[hML]at hM⊢;have HML:=h_ hML;clear hML;obtain⟨W2,hW2,ga,kM⟩:=b_1 w1 #[.int .i64 N,.int .i64 D,.slice MA ML mc] 41;have gW:=a6_ hb1 ga;have k12:=k1.call gW;have HM:=h_ (hM.below ga).rd;have GW:=h_ gW;have HR2:=h_ (RpR.next gW HR.out);have hw1lt:w1.heap.size<W2.heap.size:=kM.lt;clear hM hb1 ga gW;go_wp2;clear hW2;refine a8_ (by kernel_rfl) [.eq (.pointer (some ⟨w0.heap.size,0,none⟩)),.eq (.int .i64 y.p),.eq (.pointer (some ⟨w1.heap.size,0,none⟩)),.eq (.int .i64 N),.eq (.agg #[.int .i64 N,.int .i64 D,.slice MA ML mc]),rel 5 (fun u lo hi w=>b1_ w lo hi u (b5_ D N (trF F0))),rel 6 (fun u lo hi w=>∃ GA gc,u = .agg #[.int .i64 N,.slice GA ps.length gc]∧b1_ w lo hi (.slice GA ps.length gc) (b5_ ps.length N g)),rel 7 (fun u lo hi w=>∃ gp,u = .pointer (some ⟨gp,0,none⟩)∧(lo≤gp∧gp<hi)∧Blk w gp 65 #[.int .i64 0,.slice none 0 0])] [[],[0],[],[2],[],[4],[0,1,2,3,4,5],[],[0,1,2,3,4,5,6,7]] 8 (by kernel_rfl) ⟨trivial,trivial,trivial,trivial,trivial,a4_ (fun u lo hi w w' h hb=>h.below hb),a4_ (fun u lo hi w w' ⟨GA,gc,e,h⟩ hb=>⟨GA,gc,e,h.below hb⟩),a4_ (fun u lo hi w w' ⟨gp,e,h1,h⟩ hb=>⟨gp,e,h1,h.call hb⟩),trivial⟩ ⟨?_,?_,?_,?_,?_,?_,?_,?_,trivial⟩ ?_;iterate 8 (intro x w hb hk Q' hQ;have he:=k_e hk;simp only[k_s]at he;simp only[netE]at hQ⊢;(try simp only[he]at hQ⊢);(try clear he);rotate_left)
  rotate_left
  ·clear hk;go_wp2;exact hQ _ _ br_ rfl
  ·clear hk;have z:=(k12.call hb).cell' (i:=0) rfl;go_wp2;exact hQ _ _ br_ rfl
  ·clear hk;go_wp2;exact hQ _ _ br_ rfl
  ·clear hk;have z:=(kM.call hb).cell' (i:=0) rfl;go_wp2;exact hQ _ _ br_ rfl
  ·clear hk;obtain⟨z0,z1,z2⟩:=c_3 (kM.call hb);go_wp2;exact hQ _ _ br_ rfl
  ·clear hk;go_wp2_with fail
   refine (v7_ _ N D F0 _ (MxR.next hb HM.out) (by omega) (by omega)).mono ?_;rintro e w6 ⟨v6,rfl,ho6,hb6⟩;go_wp2;exact hQ _ _ hb6 ho6
  ·have h5:b1_ w (x.lo 5) (x.hi 5) (x.v 5) (b5_ D N (trF F0)):=(hk 5 (by decide)).1;have s5:=(hk 5 (by decide)).2;clear hk;obtain⟨CA,cc,e5,_⟩:=h5.form2;rw[e5]at h5 hQ⊢;rw[a3_]at h5 hQ⊢;go_wp2_with fail
   refine (c5j y.p _ D N (trF F0) _ HFL.out (by omega) (by omega) h5.rd (O3_ HOU.out)).mono ?_;rintro e w6 ⟨v6,rfl,ho6,hb6⟩;rw[HGP.out]at ho6;obtain⟨GA,gc,e6,_⟩:=ho6.form2;rw[a3_]at e6;subst e6;go_wp2;exact hQ _ _ hb6 ⟨GA,gc,rfl,ho6⟩
  ·clear hk;go_wp2;exact hQ _ _ (a2_ _ _) ⟨_,rfl,⟨l_ _,by show w.heap.size<(w.alloc _).heap.size;simp⟩,Blk.new _ _ _⟩
  ·intro x w hb hk hiv hdj;have h5:b1_ w (x.lo 5) (x.hi 5) (x.v 5) (b5_ D N (trF F0)):=hk 5 (by decide);have h6:∃ GA gc,(x.v 6) = .agg #[.int .i64 N,.slice GA ps.length gc]∧b1_ w (x.lo 6) (x.hi 6) (.slice GA ps.length gc) (b5_ ps.length N g):=hk 6 (by decide);have h7:∃ gp,(x.v 7) = .pointer (some ⟨gp,0,none⟩)∧((x.lo 7)≤gp∧gp<(x.hi 7))∧Blk w gp 65 #[.int .i64 0,.slice none 0 0]:=hk 7 (by decide);have he:=k_g hk [0,1,2,3,4];simp only[k_s]at he;simp only[netE,he];clear he hk;obtain⟨GA,gc,e6,ho6⟩:=h6;obtain⟨gp,e7,hgp1,kP⟩:=h7;rw[e6,e7];have i6:=hiv 6 (by decide);have i7:=hiv 7 (by decide);have d67:=hdj 6 7 (by decide) (by decide) (by decide);have G3:=GW.out.trans (hb.mono GW.out.size);have hsb:=hb.size;have fr:=kP.frozen;have p0:=kP.cell' (i:=0) rfl;have p1:=kP.cell' (i:=1) rfl;obtain⟨W3,hW3⟩:=e_ ((w.setCell ⟨gp,0,none⟩ (.int .i64 N)).setCell ⟨gp,1,none⟩ (.slice GA ps.length gc));have hch:Chg gp (gp+1) w W3:=by rw[←hW3];exact (c6_ _ _ _ _).trans (c6_ _ _ _ _)
   have kP3:Blk W3 gp 65 #[.int .i64 N,.slice GA ps.length gc]:=by rw[←hW3];exact (kP.set_ 0 _).set_ 1 _
   have hb3:Below W2.heap.size W2 W3:=hb.trans (hch.below (by omega) hb.size);have HG3:=h_ ((ho6.chg hch (by omega)).rd);have k13:=k12.call hb3;have HR3:=h_ (RpR.next hb3 HR2.out);have G33:=h_ (GW.out.trans (hb3.mono GW.out.size));clear ho6 e6 e7 h5 kP hgp1 i6 i7 d67 hiv hdj hch hb G3 hsb k12 kM;go_wp2;clear hW3 p0 p1 fr;refine k9_ (by kernel_rfl) [.eq (.agg #[.int .i64 y.p,.int .i64 y.q.v,.slice A y.q.f.length a,.slice C y.q.t.length c,.slice E y.d.length ec,.slice H y.m.length hc]),.eq (.int .i64 v),.eq (.pointer (some ⟨w0.heap.size,0,none⟩)),.eq (.int .i64 y.p),.eq (.agg #[.int .i64 N,.slice GA ps.length gc]),rel 5 (fun u lo hi w=>MxO w lo hi u (mxF K N (srF y v))),.rel (fun x w=>∃ Ar ar Cr cr Er er Hr hr',x.v 6 = .tuple #[.agg #[.int .i64 R.1.p,.int .i64 R.1.q.v,.slice Ar R.1.q.f.length ar,.slice Cr R.1.q.t.length cr,.slice Er R.1.d.length er,.slice Hr R.1.m.length hr'],.bool R.2]∧RepO w (x.lo 6) (x.hi 6) (.agg #[.int .i64 R.1.p,.int .i64 R.1.q.v,.slice Ar R.1.q.f.length ar,.slice Cr R.1.q.t.length cr,.slice Er R.1.d.length er,.slice Hr R.1.m.length hr']) R.1),.rel (fun x w=>∃ Ar ar Cr cr Er er Hr hr',x.v 7 = .agg #[.int .i64 R.1.p,.int .i64 R.1.q.v,.slice Ar R.1.q.f.length ar,.slice Cr R.1.q.t.length cr,.slice Er R.1.d.length er,.slice Hr R.1.m.length hr']∧RepO w (x.lo 6) (x.hi 6) (.agg #[.int .i64 R.1.p,.int .i64 R.1.q.v,.slice Ar R.1.q.f.length ar,.slice Cr R.1.q.t.length cr,.slice Er R.1.d.length er,.slice Hr R.1.m.length hr']) R.1),.eq (.bool R.2)] [[],[],[],[2],[],[2,3,4],[0,1,2,3,4,5],[0,1,2,3,4,5,6],[0,1,2,3,4,5,6],[0,1,2,3,4,5,6,7,8],[0,1,2,3,4,5,6,7,8,9]] 9 8 [0,1,2,3,4,5,6,7] (by kernel_rfl) rfl ⟨trivial,trivial,trivial,trivial,trivial,a4_ (fun u lo hi w w' h hb=>h.below hb),fun x w w' ⟨Ar,ar,Cr,cr,Er,er,Hr,hr',e1,h1⟩ hb=>⟨Ar,ar,Cr,cr,Er,er,Hr,hr',e1,h1.below hb⟩,fun x w w' ⟨Ar,ar,Cr,cr,Er,er,Hr,hr',e1,h1⟩ hb=>⟨Ar,ar,Cr,cr,Er,er,Hr,hr',e1,h1.below hb⟩,trivial,trivial⟩ ⟨?_,?_,?_,?_,?_,?_,?_,?_,?_,trivial⟩ ?_ ?_;iterate 9 (intro x w hb hk Q' hQ;have he:=k_e hk;simp only[k_s]at he;simp only[netE]at hQ⊢;(try simp only[he]at hQ⊢);(try clear he);rotate_left)
   rotate_left 2
   ·clear hk;obtain⟨z0,z1,z2,z3,z4,z5⟩:=c_6 (k13.call hb);go_wp2;exact hQ _ _ br_ rfl
   iterate 2 (· clear hk;go_wp2;exact hQ _ _ br_ rfl)
   ·clear hk;have z:=(k13.call hb).cell' (i:=0) rfl;go_wp2;exact hQ _ _ br_ rfl
   ·clear hk;have z0:=(kP3.call hb).cell' (i:=0) rfl;have z1:=(kP3.call hb).cell' (i:=1) rfl;go_wp2;exact hQ _ _ br_ rfl
   ·clear hk;go_wp2_with fail
    refine (a6J y.p ps.length N g ps _ _ HPR.out (by omega) (by omega) (SlII.next hb HG3.out) HGF.out HLE.out).mono ?_;rintro e w6 ⟨v6,rfl,ho6,hb6⟩;rw[HKF.out,←HFF.out]at ho6;go_wp2;exact hQ _ _ hb6 ho6
   ·have h5:MxO w (x.lo 5) (x.hi 5) (x.v 5) (mxF K N (srF y v)):=(hk 5 (by decide)).1;have s5:=(hk 5 (by decide)).2;clear hk;obtain⟨A5,c5,e5⟩:=h5.form;simp only[mxF]at e5;have H5:=h_ h5.rd;rw[e5]at H5 hQ⊢;go_wp2_with fail
    refine (W5_ _ _ y v K (srF y v) _ (RpR.next hb HR3.out) (by rw[HAT.out];exact H5.out) HY.out (.inl HS.out) (by omega)).mono ?_;rintro e w6 ⟨v6,rfl,hO6,hb6⟩;rw[HRR.out]at hO6⊢;have HO6:=h_ hO6;obtain⟨Ar,ar,Cr,cr,Er,er,Hr,hr',e6⟩:=hO6.form;subst e6;clear hO6;go_wp2;exact hQ _ _ hb6 ⟨Ar,ar,Cr,cr,Er,er,Hr,hr',rfl,HO6.out⟩
   ·have h5:MxO w (x.lo 5) (x.hi 5) (x.v 5) (mxF K N (srF y v)):=(hk 5 (by decide)).1;have h6:∃ Ar ar Cr cr Er er Hr hr',x.v 6 = .tuple #[.agg #[.int .i64 R.1.p,.int .i64 R.1.q.v,.slice Ar R.1.q.f.length ar,.slice Cr R.1.q.t.length cr,.slice Er R.1.d.length er,.slice Hr R.1.m.length hr'],.bool R.2]∧RepO w (x.lo 6) (x.hi 6) (.agg #[.int .i64 R.1.p,.int .i64 R.1.q.v,.slice Ar R.1.q.f.length ar,.slice Cr R.1.q.t.length cr,.slice Er R.1.d.length er,.slice Hr R.1.m.length hr']) R.1:=(hk 6 (by decide)).1;have s5:=(hk 5 (by decide)).2;have s6:=(hk 6 (by decide)).2;clear hk;obtain⟨Ar,ar,Cr,cr,Er,er,Hr,hr',e4,ho⟩:=h6;have hQ':=hQ (.agg #[.int .i64 R.1.p,.int .i64 R.1.q.v,.slice Ar R.1.q.f.length ar,.slice Cr R.1.q.t.length cr,.slice Er R.1.d.length er,.slice Hr R.1.m.length hr']) w br_ ⟨Ar,ar,Cr,cr,Er,er,Hr,hr',rfl,ho⟩;rw[e4]at hQ'⊢;go_wp2;exact hQ'
   ·have h6:∃ Ar ar Cr cr Er er Hr hr',x.v 6 = .tuple #[.agg #[.int .i64 R.1.p,.int .i64 R.1.q.v,.slice Ar R.1.q.f.length ar,.slice Cr R.1.q.t.length cr,.slice Er R.1.d.length er,.slice Hr R.1.m.length hr'],.bool R.2]∧RepO w (x.lo 6) (x.hi 6) (.agg #[.int .i64 R.1.p,.int .i64 R.1.q.v,.slice Ar R.1.q.f.length ar,.slice Cr R.1.q.t.length cr,.slice Er R.1.d.length er,.slice Hr R.1.m.length hr']) R.1:=(hk 6 (by decide)).1;clear hk;obtain⟨Ar,ar,Cr,cr,Er,er,Hr,hr',e4,ho⟩:=h6;rw[e4]at hQ⊢;go_wp2;exact hQ _ _ br_ rfl
   ·intro x w hb hk hiv hdj;have h5:MxO w (x.lo 5) (x.hi 5) (x.v 5) (mxF K N (srF y v)):=hk 5 (by decide);have h6:∃ Ar ar Cr cr Er er Hr hr',x.v 6 = .tuple #[.agg #[.int .i64 R.1.p,.int .i64 R.1.q.v,.slice Ar R.1.q.f.length ar,.slice Cr R.1.q.t.length cr,.slice Er R.1.d.length er,.slice Hr R.1.m.length hr'],.bool R.2]∧RepO w (x.lo 6) (x.hi 6) (.agg #[.int .i64 R.1.p,.int .i64 R.1.q.v,.slice Ar R.1.q.f.length ar,.slice Cr R.1.q.t.length cr,.slice Er R.1.d.length er,.slice Hr R.1.m.length hr']) R.1:=hk 6 (by decide);have h7:∃ Ar ar Cr cr Er er Hr hr',x.v 7 = .agg #[.int .i64 R.1.p,.int .i64 R.1.q.v,.slice Ar R.1.q.f.length ar,.slice Cr R.1.q.t.length cr,.slice Er R.1.d.length er,.slice Hr R.1.m.length hr']∧RepO w (x.lo 6) (x.hi 6) (.agg #[.int .i64 R.1.p,.int .i64 R.1.q.v,.slice Ar R.1.q.f.length ar,.slice Cr R.1.q.t.length cr,.slice Er R.1.d.length er,.slice Hr R.1.m.length hr']) R.1:=hk 7 (by decide);have he:=k_g hk [0,1,2,3,4,8];simp only[k_s]at he;simp only[netE,he];clear he hk;obtain⟨Ar,ar,Cr,cr,Er,er,Hr,hr',e7,ho⟩:=h7;obtain⟨A6,a6,C6,c6,E6,ec6,H6,h6',e6,_⟩:=h6;have i6:=hiv 6 (by decide);rw[e7,e6];have gf3:=G33.out.trans (hb.mono G33.out.size);have kz:=k2.call gf3;have fr:=kz.frozen;obtain⟨s0,s1,s2,s3,s4,s5⟩:=c_6 kz;have gf:=g0.trans (gf3.mono g0.size);have hc6:=chg6 w (w0.heap.size+1) (.int .i64 R.1.p) (.int .i64 R.1.q.v) (.slice Ar R.1.q.f.length ar) (.slice Cr R.1.q.t.length cr) (.slice Er R.1.d.length er) (.slice Hr R.1.m.length hr');have g3s:=G33.out.size;have sz:=SZ.out;have OF:=h_ ((ho.chg hc6 (.inr (by omega))).wider (lo':=w0.heap.size) (hi':=w.heap.size) (by omega) (by omega));have GF:=h_ (gf.trans (hc6.below (by omega) gf.size));clear h5 ho e7 e6 kz gf gf3 hc6 hiv hdj i6 hb g3s sz k13 kP3;go_wp2;have hE:=HE.out;exact bodyPost_ret (v:=.tuple #[.agg #[.int .i64 R.1.p,.int .i64 R.1.q.v,.slice Ar R.1.q.f.length ar,.slice Cr R.1.q.t.length cr,.slice Er R.1.d.length er,.slice Hr R.1.m.length hr'],.bool R.2]) (by simp[results,go_sem,s0,s1,s2,s3,s4,s5]) rfl ⟨_,by rw[hE],by rw[hE];have:=OF.out.wider (l_ _) (l_ _);simpa using this,GF.out⟩
   ·intro x w hb hk hiv hdj om os hom hos;simp only[List.getElem?_cons_zero,List.getElem?_cons_succ,Option.some.injEq]at hom hos;subst hom hos;have h5:MxO w (x.lo 5) (x.hi 5) (x.v 5) (mxF K N (srF y v)):=hk 5 (by decide);have h6:∃ Ar ar Cr cr Er er Hr hr',x.v 6 = .tuple #[.agg #[.int .i64 R.1.p,.int .i64 R.1.q.v,.slice Ar R.1.q.f.length ar,.slice Cr R.1.q.t.length cr,.slice Er R.1.d.length er,.slice Hr R.1.m.length hr'],.bool R.2]∧RepO w (x.lo 6) (x.hi 6) (.agg #[.int .i64 R.1.p,.int .i64 R.1.q.v,.slice Ar R.1.q.f.length ar,.slice Cr R.1.q.t.length cr,.slice Er R.1.d.length er,.slice Hr R.1.m.length hr']) R.1:=hk 6 (by decide);have h7:∃ Ar ar Cr cr Er er Hr hr',x.v 7 = .agg #[.int .i64 R.1.p,.int .i64 R.1.q.v,.slice Ar R.1.q.f.length ar,.slice Cr R.1.q.t.length cr,.slice Er R.1.d.length er,.slice Hr R.1.m.length hr']∧RepO w (x.lo 6) (x.hi 6) (.agg #[.int .i64 R.1.p,.int .i64 R.1.q.v,.slice Ar R.1.q.f.length ar,.slice Cr R.1.q.t.length cr,.slice Er R.1.d.length er,.slice Hr R.1.m.length hr']) R.1:=hk 7 (by decide);have he:=k_g hk [0,1,2,3,4];simp only[k_s]at he;simp only[List.foldl_cons,List.foldl_nil,netE,he];clear he hk;obtain⟨Ar,ar,Cr,cr,Er,er,Hr,hr',e7,ho⟩:=h7;obtain⟨A6,a6,C6,c6,E6,ec6,H6,h6',e6,_⟩:=h6;have i6:=hiv 6 (by decide);rw[e7,e6];have gf3:=G33.out.trans (hb.mono G33.out.size);have kz:=k2.call gf3;have fr:=kz.frozen;obtain⟨s0,s1,s2,s3,s4,s5⟩:=c_6 kz;have gf:=g0.trans (gf3.mono g0.size);have hc6:=chg6 w (w0.heap.size+1) (.int .i64 R.1.p) (.int .i64 R.1.q.v) (.slice Ar R.1.q.f.length ar) (.slice Cr R.1.q.t.length cr) (.slice Er R.1.d.length er) (.slice Hr R.1.m.length hr');have g3s:=G33.out.size;have sz:=SZ.out;have OF:=h_ ((ho.chg hc6 (.inr (by omega))).wider (lo':=w0.heap.size) (hi':=w.heap.size) (by omega) (by omega));have GF:=h_ (gf.trans (hc6.below (by omega) gf.size));clear h5 ho e7 e6 kz gf gf3 hc6 hiv hdj i6 hb g3s sz k13 kP3;go_wp2;have hE:=HE.out;exact bodyPost_ret (v:=.tuple #[.agg #[.int .i64 R.1.p,.int .i64 R.1.q.v,.slice Ar R.1.q.f.length ar,.slice Cr R.1.q.t.length cr,.slice Er R.1.d.length er,.slice Hr R.1.m.length hr'],.bool R.2]) (by simp[results,go_sem,s0,s1,s2,s3,s4,s5]) rfl ⟨_,by rw[hE],by rw[hE];have:=OF.out.wider (l_ _) (l_ _);simpa using this,GF.out⟩
theorem W2_ {p:Int} {r c:Nat} {f:Nat→Nat→Int} (hp:f2_ p=true) (hr:r≤8) (hc:c≤8) (hf:∀ i j,i<r→j<c→0≤f i j∧f i j≤p-1):M8_ p (mxF r c f)=true:=by
 rw[b8q];refine⟨by simp only[mxF];omega,by simp only[mxF];omega,by simp[mxF,a0_],b9q.2 ⟨hp,?_,fun x hx=>?_⟩⟩
 ·simp only[mxF,a0_];exact Nat.mul_le_mul hr hc
 ·obtain⟨i,j,hi,hj,rfl⟩:=c5Z hx;exact hf i j hi hj
def frN (p:Int) (r:Nat) (f:Nat→Nat→Int) (c a:Nat):Nat:=((b2_ (rdTo p r f c).2 c).getD a 0).toNat
def kvN (p:Int) (r:Nat) (f:Nat→Nat→Int) (c a t:Nat):Int:=kvG p (rdTo p r f c).1 (rdTo p r f c).2 (frN p r f c a) (rdTo p r f c).2.length t
def frL (p:Int) (r:Nat) (f:Nat→Nat→Int) (c:Nat):Nat:=(b2_ (rdTo p r f c).2 c).length
theorem a0j (l:List Int) (k:Nat):(b2_ l k).Nodup:=by
 unfold b2_;refine List.Pairwise.filter _ ?_;exact u1_ List.nodup_range fun x _ y _ e=>by have e':(x:Int)=(y:Int):=e;omega
theorem J4_ {p:Int} {r c a:Nat} {f:Nat→Nat→Int} (ha:a<frL p r f c):(b2_ (rdTo p r f c).2 c)[a]?=some (frN p r f c a:Int)∧frN p r f c a<c∧(frN p r f c a:Int) ∉ (rdTo p r f c).2:=by
 have e:=l2_ ha;obtain⟨n,h1,h2,h3⟩:=y4_ e;have:frN p r f c a=n:=by rw[frN,l1_,e,Option.getD_some,h1,l5_]
 rw[this,e,h1];refine⟨rfl,h2,?_⟩;first | exact h3 | (rw[h1]at h3;exact h3)
theorem f5X {p:Int} {r c a b:Nat} {f:Nat→Nat→Int} (ha:a<frL p r f c) (hb:b<frL p r f c) (e:frN p r f c a=frN p r f c b):a=b:=by
 have h1:=(J4_ ha).1;have h2:=(J4_ hb).1;rw[e]at h1;have n:=a0j (rdTo p r f c).2 c;have ha':a<(b2_ (rdTo p r f c).2 c).length:=ha;have hb':b<(b2_ (rdTo p r f c).2 c).length:=hb;rw[l2_ ha']at h1;rw[l2_ hb']at h2;injection h1 with h1
 injection h2 with h2
 have h12:=h1.trans h2.symm;rcases Nat.lt_trichotomy a b with h | h | h
 ·exact absurd h12 (List.pairwise_iff_getElem.1 n a b ha' hb' h)
 ·exact h
 ·exact absurd h12.symm (List.pairwise_iff_getElem.1 n b a hb' ha' h)
theorem J1_ {p:Int} {r c a b:Nat} {f:Nat→Nat→Int} (ha:a<frL p r f c) (hb:b<frL p r f c):kvN p r f c b (frN p r f c a)=idF a b:=by
 obtain⟨_,_,h3⟩:=J4_ ha;rw[kvN,Q8_ _ fun i hi e=>h3 (by rw[←e,l1_,l2_ hi];exact List.getElem_mem hi),idF];by_cases e:a=b
 ·subst e;rw[if_pos rfl,if_pos rfl]
 ·rw[if_neg fun h=>e (f5X ha hb h),if_neg e]
theorem a9Z {p:Int} (hp2:2≤p) (r c a:Nat) (f:Nat→Nat→Int) (t:Nat):0≤kvN p r f c a t∧kvN p r f c a t≤p-1:=X8_ hp2 _ _ _ _ _
theorem b9x {p:Int} {r c b:Nat} {f:Nat→Nat→Int} (hp:f2_ p=true) (hf:InF p r c f) (hb:b<frL p r f c):Ker p r f c (kvN p r f c b):=by
 have hp2:=(f4_ hp).1;have hP:=S6_ hp hp2 hf;have hR:=G2_ hp hp2 hf c (l_ _);refine (z7_ hp hp2 hf c (l_ _) c _).1 fun i hi=>?_
 rcases Nat.lt_or_ge i (rdTo p r f c).2.length with hlt | hge
 ·obtain⟨t,et,ht,_⟩:=hP.at_ i hlt;rw[b3j hP hlt et ht];have e1:kvN p r f c b t=(- (rdTo p r f c).1 i (frN p r f c b)) % p:=Y4_ et _ hlt fun i' hi' hne e=>hne (hP.inj hi' hlt (e.trans et.symm))
  have e2:sgF (fun i_1=>(rdTo p r f c).1 i ((b2_ (rdTo p r f c).2 c).getD i_1 0).toNat*kvN p r f c b ((b2_ (rdTo p r f c).2 c).getD i_1 0).toNat) (b2_ (rdTo p r f c).2 c).length=(rdTo p r f c).1 i (frN p r f c b):=by
   rw[a5_ (b:=fun a=>(rdTo p r f c).1 i (frN p r f c a)*idF a b) fun a ha=>?_]
   ·exact t9_ (h:=fun a=>(rdTo p r f c).1 i (frN p r f c a)) hb
   ·show _*kvN p r f c b (frN p r f c a)=_;rw[J1_ ha hb];rfl
  rw[e1,e2];have:=v3_ p (- (rdTo p r f c).1 i (frN p r f c b));rwa[Int.sub_neg]at this
 ·exact w9_ fun t ht=>by rw[hR.low i t hge hi ht,Int.zero_mul];exact Int.dvd_zero _
theorem b4Z {p:Int} {r c:Nat} {f:Nat→Nat→Int} (hp:f2_ p=true) (hf:InF p r c f) {x:Nat→Int} (hx:Ker p r f c x) {t:Nat} (ht:t<c):p∣x t-sgF (fun b=>kvN p r f c b t*x (frN p r f c b)) (frL p r f c):=by
 have hp2:=(f4_ hp).1;have h:=a4j (S6_ hp hp2 hf) ((z7_ hp hp2 hf c (l_ _) c x).2 hx) ht;have e:sgF (fun i=>x ((b2_ (rdTo p r f c).2 c).getD i 0).toNat*kvG p (rdTo p r f c).1 (rdTo p r f c).2 ((b2_ (rdTo p r f c).2 c).getD i 0).toNat (rdTo p r f c).2.length t) (b2_ (rdTo p r f c).2 c).length=sgF (fun b=>kvN p r f c b t*x (frN p r f c b)) (frL p r f c):=a5_ fun b _=>Int.mul_comm _ _
 rwa[e]at h
theorem c3Q (p:Int) (r c:Nat) (f:Nat→Nat→Int):frL p r f c+rkF p r c f=c:=S0_ p r f c
theorem f0q {p:Int} {r c a t:Nat} {f:Nat→Nat→Int} (ha:a<frL p r f c) (ht:t<c):((kerR p r c f).getD a []).getD t 0=kvN p r f c a t:=by
 have e:=(J4_ ha).1;have e5:(kerR p r c f).getD a []=rowF c (kvG p (rdTo p r f c).1 (rdTo p r f c).2 (frN p r f c a) (rdTo p r f c).2.length):=by
  rw[kerR,kerM,l1_,List.getElem?_map,e];rfl
 rw[e5];exact c9_ _ ht
theorem c8z (p:Int) (r c:Nat) (f:Nat→Nat→Int):(kerR p r c f).length=frL p r f c:=by rw[kerR,j1_];rfl
theorem R3_ {x:Rp} (hx:f1_ x=true) (v:Int) {k:Nat} (hk:k<x.q.f.length):srN (rvQ x.q v) k=(if tch x.q v k=true then tgN x.q k else srN x.q k)∧tgN (rvQ x.q v) k=if tch x.q v k=true then srN x.q k else tgN x.q k:=by
 have e1:(rvQ x.q v).f.getD k 0=rvF x.q v x.q.f.length k:=by rw[rvQ,rvK,c9_ _ hk]
 have e2:(rvQ x.q v).t.getD k 0=rvT x.q v x.q.f.length k:=by rw[rvQ,rvK,c9_ _ hk]
 have s1:srN (rvQ x.q v) k=(rvF x.q v x.q.f.length k).toNat:=by rw[srN,e1]
 have s2:tgN (rvQ x.q v) k=(rvT x.q v x.q.f.length k).toNat:=by rw[tgN,e2]
 rw[s1,s2,rvF,rvT];by_cases h:tch x.q v k=true
 ·have h2:k<x.q.f.length∧tch x.q v k=true:=⟨hk,h⟩;simp only[if_pos h,if_pos h2];exact⟨rfl,rfl⟩
 ·have h2:¬ (k<x.q.f.length∧tch x.q v k=true):=fun e=>h e.2
  simp only[if_neg h,if_neg h2];exact⟨rfl,rfl⟩
theorem O4_ (x:Rp) (v:Int):(rvQ x.q v).f.length=x.q.f.length:=a1_ _ _
def owN (x:Rp) (n k:Nat):Nat:=if srN x.q k=n then tgN x.q k else srN x.q k
theorem o4_ {x:Rp} (hx:f1_ x=true) {n k:Nat} (hk:k<x.q.f.length):tch x.q (n:Int) k=true↔srN x.q k=n∨tgN x.q k=n:=by
 obtain⟨ef,et,_⟩:=(Fit2.rfl1 (X:=x) (Y:=x) ⟨hx,hx,rfl,rfl⟩).arr hk;rw[p8_ ef et];simp only[Bool.or_eq_true,decide_eq_true_eq,Int.natCast_inj]
theorem C1_ {x:Rp} (hx:f1_ x=true) {n k:Nat} (hk:k<x.q.f.length) (hT:tch x.q (n:Int) k=true):othN x (n:Int) k=dmN x.d (owN x n k):=by
 obtain⟨ef,et,lf,lt,_⟩:=(Fit2.rfl1 (X:=x) (Y:=x) ⟨hx,hx,rfl,rfl⟩).arr hk;have df:=((Fit2.rfl1 (X:=x) (Y:=x) ⟨hx,hx,rfl,rfl⟩).dim lf).1;have dt:=((Fit2.rfl1 (X:=x) (Y:=x) ⟨hx,hx,rfl,rfl⟩).dim lt).1;obtain⟨o1,o2⟩:=L5_ (v:=(n:Int)) ef et df dt;unfold owN;by_cases h:srN x.q k=n
 ·rw[if_pos h,o2 (by rw[h])]
 ·rw[if_neg h];have:=((o4_ hx hk).1 hT).resolve_left h;rw[o1 (by rw[this])]
theorem a7j {x:Rp} (hx:f1_ x=true) {n:Nat}:∀ k,k≤x.q.f.length→atN x (n:Int) k=boN (tch x.q (n:Int)) (fun k=>dmN x.d (owN x n k)) k
 | 0,_=>rfl
 | k+1,hk=>by
  rw[atN,boN,a7j hx k (by omega)];split
  ·rename_i h
   rw[C1_ hx (by omega) h]
  ·rfl
theorem b7X {x:Rp} {v:Int} {K:Nat} {G:Nat→Mx} {k:Nat} (hk:k<x.q.f.length):(rfK x v K G x.q.f.length).m.getD k mx0=if tch x.q v k=true then G k else x.m.getD k mx0:=by
 have:(rfK x v K G x.q.f.length).m[k]?=some (rfM x v G x.q.f.length k):=x8_ _ hk;rw[l1_,this,Option.getD_some,rfM];by_cases h:tch x.q v k=true
 ·rw[if_pos ⟨hk,h⟩,if_pos h]
 ·rw[if_neg fun e=>h e.2,if_neg h]
theorem m5_ {d:List Int} {n K:Nat} (hn:n<d.length) (w:Nat):dmN (d.set n (K:Int)) w=if w=n then K else dmN d w:=by
 unfold dmN;rw[l1_,List.getElem?_set,l1_];by_cases h:n=w
 ·subst h;rw[if_pos rfl,if_pos hn,if_pos rfl];simp
 ·rw[if_neg h,if_neg fun e=>h e.symm]
theorem a0z {x:Rp} (hx:f1_ x=true) {n K:Nat} (hn:n<x.d.length) {G:Nat→Mx} (hd:d4_ (rvQ x.q (n:Int)) (x.d.set n (K:Int))=true)
  (hG:∀ k,k<x.q.f.length→tch x.q (n:Int) k=true→∃ f,G k=mxF (dmN (x.d.set n (K:Int)) (srN x.q k)) (dmN (x.d.set n (K:Int)) (tgN x.q k)) f∧InF x.p (dmN (x.d.set n (K:Int)) (srN x.q k)) (dmN (x.d.set n (K:Int)) (tgN x.q k)) f)
  (hl:∀ k,k<x.q.f.length→srN x.q k≠n∨tgN x.q k≠n):f1_ (rfK x (n:Int) K G x.q.f.length)=true:=by
 have hf:=(b8_.1 hx).1;have hxx:Fit2 x x:=⟨hx,hx,rfl,rfl⟩;have hlm:(rfK x (n:Int) K G x.q.f.length).m.length=x.q.f.length:=d0_ _ _;have hdd:(rfK x (n:Int) K G x.q.f.length).d=x.d.set n (K:Int):=by show x.d.set (n:Int).toNat _=_;rw[l5_]
 have hD:=b7_.1 hd;refine b8_.2 ⟨hf,by rw[hdd];exact hd,by rw[hlm];exact (O4_ x _).symm,?_⟩;simp only[okMs,List.all_eq_true,List.mem_range];intro k hk;rw[hlm]at hk;obtain⟨ef,et,lf,lt,hkt,em,_,hIn,_⟩:=hxx.arr hk;obtain⟨r1,r2⟩:=R3_ hx (n:Int) hk;have hmm:=b7X (v:=(n:Int)) (K:=K) (G:=G) hk;have hmx0:(mx0:Mx)=⟨0,0,[]⟩:=rfl;have hq:(rfK x (n:Int) K G x.q.f.length).q=rvQ x.q (n:Int):=rfl;have hp:(rfK x (n:Int) K G x.q.f.length).p=x.p:=rfl;rw[←hmx0,hmm,hq];have f1:(rvQ x.q (n:Int)).f.getD k 0=(srN (rvQ x.q (n:Int)) k:Int):=by
  have:(rvQ x.q (n:Int)).f.getD k 0=rvF x.q (n:Int) x.q.f.length k:=by rw[rvQ,rvK,c9_ _ hk]
  rw[r1,this,rvF];have a1:x.q.f.getD k 0=(srN x.q k:Int):=by rw[l1_,ef];rfl
  have a2:x.q.t.getD k 0=(tgN x.q k:Int):=by rw[l1_,et];rfl
  by_cases h:tch x.q (n:Int) k=true
  ·rw[if_pos ⟨hk,h⟩,if_pos h,a2]
  ·rw[if_neg fun e=>h e.2,if_neg h,a1]
 have f2:(rvQ x.q (n:Int)).t.getD k 0=(tgN (rvQ x.q (n:Int)) k:Int):=by
  have:(rvQ x.q (n:Int)).t.getD k 0=rvT x.q (n:Int) x.q.f.length k:=by rw[rvQ,rvK,c9_ _ hk]
  rw[r2,this,rvT];have a1:x.q.f.getD k 0=(srN x.q k:Int):=by rw[l1_,ef];rfl
  have a2:x.q.t.getD k 0=(tgN x.q k:Int):=by rw[l1_,et];rfl
  by_cases h:tch x.q (n:Int) k=true
  ·rw[if_pos ⟨hk,h⟩,if_pos h,a1]
  ·rw[if_neg fun e=>h e.2,if_neg h,a2]
 have hdAt:∀ w,w<x.d.length→dAt (rfK x (n:Int) K G x.q.f.length).d (w:Int)=(dmN (x.d.set n (K:Int)) w:Int)∧dmN (x.d.set n (K:Int)) w≤4:=fun w hw=>by
  rw[hdd,dAt,l5_,dmN];have hw':w<(x.d.set n (K:Int)).length:=by rw[List.length_set];exact hw
  have:=hD.2.2.1 _ (List.getElem_mem hw');rw[l1_,l2_ hw',Option.getD_some];omega
 rw[f1,f2,r1,r2];by_cases h:tch x.q (n:Int) k=true
 ·rw[if_pos h,if_pos h,if_pos h];obtain⟨f,e,hI⟩:=hG k hk h;obtain⟨d1,b1⟩:=hdAt _ lt;obtain⟨d2,b2⟩:=hdAt _ lf;rw[e];simp only[okM,l9_,decide_eq_true_eq];exact⟨⟨W2_ hf (by omega) (by omega) hI,d1.symm⟩,d2.symm⟩
 ·rw[if_neg h,if_neg h,if_neg h];have hne:srN x.q k≠n∧tgN x.q k≠n:=by
   have:=fun e=>h ((o4_ hx hk).2 e)
   exact⟨fun e=>this (.inl e),fun e=>this (.inr e)⟩
  obtain⟨d1,b1⟩:=hdAt _ lf;obtain⟨d2,b2⟩:=hdAt _ lt;rw[m5_ hn,if_neg hne.1]at d1 b1;rw[m5_ hn,if_neg hne.2]at d2 b2;rw[l1_,em,Option.getD_some];simp only[okM,l9_,decide_eq_true_eq];exact⟨⟨W2_ hf (by omega) (by omega) hIn,d1.symm⟩,d2.symm⟩
theorem a0X {T:Nat→Bool} {dm dm':Nat→Nat}:∀ n,(∀ k,k<n→T k=true→dm k=dm' k)→boN T dm n=boN T dm' n
 | 0,_=>rfl
 | n+1,h=>by
  rw[boN,boN,a0X n fun k hk=>h k (by omega)];split
  ·rename_i hT;rw[h n (by omega) hT]
  ·rfl
theorem b5j {x:Rp} (hx:f1_ x=true) {n:Nat} (hv:endV x.q.f x.q (n:Int)=true) {k:Nat} (hk:k<x.q.f.length):srN x.q k≠n:=fun e=>by
 obtain⟨ef,_⟩:=(Fit2.rfl1 (X:=x) (Y:=x) ⟨hx,hx,rfl,rfl⟩).arr hk;exact (q2_ hv).1 (e ▸ l4_ ef)
theorem b6Z {x:Rp} (hx:f1_ x=true) {n:Nat} (hv:endV x.q.t x.q (n:Int)=true) {k:Nat} (hk:k<x.q.f.length):tgN x.q k≠n:=fun e=>by
 obtain⟨_,et,_⟩:=(Fit2.rfl1 (X:=x) (Y:=x) ⟨hx,hx,rfl,rfl⟩).arr hk;exact (q2_ hv).1 (e ▸ l4_ et)
theorem c9Z {x:Rp} (hx:f1_ x=true) {n C:Nat} (hv:endV x.q.f x.q (n:Int)=true):∀ m,m≤x.q.f.length→∀ k,k<m→tch x.q (n:Int) k=true→∀ i c,c<othN x (n:Int) k→(inS x (n:Int) C m).2 i (atN x (n:Int) k+c)=arF x k i c
 | 0,_,k,hk,_,_,_,_=>absurd hk (by omega)
 | m+1,hm,k,hk,hT,i,c,hc=>by
  have ih:=c9Z (C:=C) hx hv m (by omega) k;obtain⟨mm,nf,nt,yf,yt,em,ef,et,df,dt,eM,_⟩:=g9_ hx (show m<x.q.f.length by omega);have hnf:(nf:Int)≠(n:Int):=fun e=>(q2_ hv).1 (e ▸ l4_ ef)
  by_cases h:(nt:Int)=(n:Int)
  ·rw[h]at et;rw[E0_ et em (yf:=yf) (by rw[eM];rfl)];simp only[bsF];rw[←U8_ hx hv m (by omega)];by_cases e:k<m
   ·have:=A4_ hT e;rw[if_pos (by omega)];exact ih e hT i c hc
   ·obtain rfl:k=m:=by omega
    rw[if_neg (by omega),show atN x (n:Int) k+c-atN x (n:Int) k=c by omega,arF,l1_,em,Option.getD_some,a5j ef,F5_ df]
  ·rw[N6_ et h];refine ih ?_ hT i c hc;have:k≠m:=by
    rintro rfl;rw[p8_ ef et]at hT;simp[hnf,h]at hT
   omega
theorem a0q {x:Rp} (hx:f1_ x=true) {n C:Nat} (hC:x.d[n]?=some (C:Int)) (hv:endV x.q.t x.q (n:Int)=true):∀ m,m≤x.q.f.length→∀ k,k<m→tch x.q (n:Int) k=true→∀ a c,a<othN x (n:Int) k→(outS x (n:Int) C m).2 (atN x (n:Int) k+a) c=arF x k a c
 | 0,_,k,hk,_,_,_,_=>absurd hk (by omega)
 | m+1,hm,k,hk,hT,i,c,hc=>by
  have ih:=a0q (C:=C) hx hC hv m (by omega) k;obtain⟨mm,nf,nt,yf,yt,em,ef,et,df,dt,eM,_⟩:=g9_ hx (show m<x.q.f.length by omega);have hnt:(nt:Int)≠(n:Int):=fun e=>(q2_ hv).1 (e ▸ l4_ et)
  by_cases h:(nf:Int)=(n:Int)
  ·have hnn:nf=n:=by omega
   have hyf:yf=C:=by
    rw[hnn,hC]at df;injection df with df
    omega
   have ef':=ef;rw[h]at ef;rw[y6_ ef em (yt:=yt) (by rw[eM];rfl)];simp only[blF];rw[←E6_ hx hv m (by omega)];by_cases e:k<m
   ·have:=A4_ hT e;rw[if_pos (by omega)];exact ih e hT i c hc
   ·obtain rfl:k=m:=by omega
    rw[if_neg (by omega),show atN x (n:Int) k+i-atN x (n:Int) k=i by omega,arF,l1_,em,Option.getD_some,a5j ef',F5_ df,hyf]
  ·rw[D0_ ef h];refine ih ?_ hT i c hc;have:k≠m:=by
    rintro rfl;rw[p8_ ef et]at hT;simp[hnt,h]at hT
   omega
theorem d4x {x:Rp} (hx:f1_ x=true) {n K:Nat} (hn:n<x.d.length) {G:Nat→Mx} {k:Nat} (hk:k<x.q.f.length) (hT:¬ tch x.q (n:Int) k=true):arF (rfK x (n:Int) K G x.q.f.length) k=arF x k:=by
 have hne:=fun e=>hT ((o4_ hx hk).2 e)
 have r1:=(R3_ hx (n:Int) hk).1;rw[if_neg hT]at r1;have hq:(rfK x (n:Int) K G x.q.f.length).q=rvQ x.q (n:Int):=rfl;have hdd:(rfK x (n:Int) K G x.q.f.length).d=x.d.set n (K:Int):=by show x.d.set (n:Int).toNat _=_;rw[l5_]
 rw[arF,b7X hk,if_neg hT,hq,r1,hdd,m5_ hn,if_neg fun e=>hne (.inl e),arF]
theorem d3J {x:Rp} (hx:f1_ x=true) {n K:Nat} (hn:n<x.d.length) {G:Nat→Mx} {k R Q:Nat} {f:Nat→Nat→Int} (hk:k<x.q.f.length) (hT:tch x.q (n:Int) k=true) (hG:G k=mxF R Q f) (hQ:(if tgN x.q k=n then K else dmN x.d (tgN x.q k))=Q) {a b:Nat} (ha:a<R) (hb:b<Q):arF (rfK x (n:Int) K G x.q.f.length) k a b=f a b:=by
 have r1:=(R3_ hx (n:Int) hk).1;rw[if_pos hT]at r1;have hq:(rfK x (n:Int) K G x.q.f.length).q=rvQ x.q (n:Int):=rfl;have hdd:(rfK x (n:Int) K G x.q.f.length).d=x.d.set n (K:Int):=by show x.d.set (n:Int).toNat _=_;rw[l5_]
 rw[arF,b7X hk,if_pos hT,hq,r1,hdd,m5_ hn,hQ,hG];exact x2_ f ha hb
theorem W0_ {x:Rp} {n:Nat} (hok:inOk x (n:Int)=true) (hb:hsIn x (n:Int)=false) (hd:d4_ (rvQ x.q (n:Int)) (x.d.set n (((ksL x (n:Int)).length:Nat):Int))=true) :
  ∃ (C N K:Nat) (M B S L:Nat→Nat→Int),x.d[n]?=some (C:Int)∧n<x.d.length∧K=(ksL x (n:Int)).length∧K+C=N∧N=atN x (n:Int) x.q.f.length∧(∀ t b,B t b=ksF x (n:Int) b t)∧(∀ a,a<K→∃ t,t<N∧∀ b,b<K→B t b=idF a b) ∧
   Star x (rfK x (n:Int) K (s0_ x (n:Int) K (ksF x (n:Int))) x.q.f.length) n x.q.f.length C N K (tch x.q (n:Int)) (owN x n) M B S L:=by
 have hok':=hok;simp only[inOk,l9_]at hok';obtain⟨hx,hv⟩:=hok';obtain⟨n',C,en,hn,hC,hdA,hC4,_⟩:=k5_ hx hv;obtain rfl:n=n':=by omega
 have hfl:=(b8_.1 hx).1;have hp2:=f4_ hfl;have hxx:Fit2 x x:=⟨hx,hx,rfl,rfl⟩;obtain⟨N,hN⟩:=e_ ((inS x (n:Int) C x.q.f.length).1);obtain⟨M,hM⟩:=e_ ((inS x (n:Int) C x.q.f.length).2);have hI:=D8_ hx (v:=(n:Int)) rfl hC x.q.f.length (l_ _);rw[hN,hM]at hI;have hkl:ksL x (n:Int)=kerR x.p C N M:=by rw[ksL,hdA,l5_,hN,hM]
 have hrk:rkF x.p C N M=C:=by
  have h:=hb;rw[hsIn,hok,Bool.true_and,decide_eq_false_iff_not,hdA,l5_,hN,hM]at h;have:=(s3_ x.p C N M).1;omega
 obtain⟨p,hp⟩:∃ p:Nat,x.p=(p:Int):=⟨x.p.toNat,by omega⟩;have hrk':=hrk;have hfl':=hfl;have hI':=hI;rw[hp]at hrk' hfl' hI';obtain⟨S,hS⟩:=a0Z hfl' hI' hrk';obtain⟨K,hK⟩:=e_ ((ksL x (n:Int)).length);have hKf:K=frL x.p C M N:=by rw[←hK,hkl,c8z]
 have hKN:K+C=N:=by have:=c3Q x.p C N M;omega
 have hNat:N=atN x (n:Int) x.q.f.length:=by rw[U8_ (C:=C) hx hv _ (l_ _),hN]
 rw[hK]at hd;have hB:∀ t b,t<N→b<K→ksF x (n:Int) b t=kvN x.p C M N b t:=fun t b ht hb=>by
  rw[ksF,hkl];exact f0q (by rw[←hKf];exact hb) ht
 have ns:=fun {k} hk=>b5j hx hv (k:=k) hk
 have own:∀ k,k<x.q.f.length→owN x n k=srN x.q k:=fun k hk=>by rw[owN,if_neg (ns hk)]
 have hdd:(rfK x (n:Int) K (s0_ x (n:Int) K (ksF x (n:Int))) x.q.f.length).d=x.d.set n (K:Int):=by show x.d.set (n:Int).toNat _=_;rw[l5_]
 have hfit:∀ k,k<x.q.f.length→tch x.q (n:Int) k=true→atN x (n:Int) k+othN x (n:Int) k≤N:=fun k hk hT=>by rw[hNat];exact A4_ hT hk
 have hy:f1_ (rfK x (n:Int) K (s0_ x (n:Int) K (ksF x (n:Int))) x.q.f.length)=true:=by
  refine a0z hx hn hd (fun k hk hT=>?_) fun k hk => .inl (ns hk)
  have ht:=((o4_ hx hk).1 hT).resolve_left (ns hk);have ho:=C1_ hx hk hT;rw[own k hk]at ho;refine⟨fun a b=>ksF x (n:Int) b (atN x (n:Int) k+a),?_,?_⟩
  ·rw[m5_ hn,m5_ hn,if_neg (ns hk),if_pos ht,s0_,ho]
  ·rw[m5_ hn,m5_ hn,if_neg (ns hk),if_pos ht];intro a b ha hb;have:=hfit k hk hT;show 0≤ksF x (n:Int) b (atN x (n:Int) k+a)∧ksF x (n:Int) b (atN x (n:Int) k+a)≤x.p-1;rw[hB _ _ (by omega) hb];exact a9Z hp2.1 _ _ _ _ _
 refine⟨C,N,K,M,fun t b=>ksF x (n:Int) b t,S,fun a t=>idF (frN x.p C M N a) t,hC,hn,hK.symm,hKN,hNat,fun _ _=>rfl,fun a ha=>?_,?_⟩
 ·rw[hKf]at ha;refine⟨frN x.p C M N a,(J4_ ha).2.1,fun b hb=>?_⟩;show ksF x (n:Int) b (frN x.p C M N a)=idF a b;rw[hB _ _ (J4_ ha).2.1 hb,J1_ ha (by rw[←hKf];exact hb)]
 ·refine { rr:=hxx,yy:=⟨hy,hy,rfl,rfl⟩,p:=rfl,len:=by rw[hdd,List.length_set],arrR:=rfl,arrY:=O4_ x _,N_:=?_,dv:=F5_ hC,dvy:=by rw[hdd,m5_ hn,if_pos rfl],dw:=fun w hw=>by rw[hdd,m5_ hn,if_neg hw],yes:=fun k hk hT=>?_,no:=fun k hk hT=>?_,aR:=fun k i c hk hT _ hc=>?_,aY:=fun k a b hk hT ha hb=>?_,aN:=fun k a c hk hT _ _=>by rw[d4x hx hn hk hT],MB:=fun i b hi hb=>?_,MS:=fun i j hi hj=>by rw[hp];exact hS i j hi hj,LB:=fun a b ha hb=>?_,ex:=fun z hz t ht=>?_ }
  ·rw[←a7j hx _ (l_ _),hNat]
  ·have ht:=((o4_ hx hk).1 hT).resolve_left (ns hk);obtain⟨r1,r2⟩:=R3_ hx (n:Int) hk;rw[if_pos hT]at r1 r2;exact⟨(own k hk).symm,ht,r1.trans ht,r2.trans (own k hk).symm,by rw[own k hk];exact ns hk⟩
  ·obtain⟨r1,r2⟩:=R3_ hx (n:Int) hk;rw[if_neg hT]at r1 r2;exact⟨r1,r2,ns hk,fun e=>hT ((o4_ hx hk).2 (.inr e))⟩
  ·have ho:=C1_ hx hk hT;rw[←a7j hx k (Nat.le_of_lt hk),←hM];exact (c9Z hx hv _ (l_ _) k hk hT i c (by rw[ho];exact hc)).symm
  ·have ht:=((o4_ hx hk).1 hT).resolve_left (ns hk);have ho:=C1_ hx hk hT;rw[d3J hx hn hk hT (s0_ x (n:Int) K (ksF x (n:Int)) k |> fun _=>rfl) (by rw[if_pos ht]) (by rw[ho];exact ha) hb,←a7j hx k (Nat.le_of_lt hk)]
  ·have h:=b9x hfl hI (b:=b) (by rw[←hKf];exact hb) i hi;have e:sgF (fun t=>M i t*ksF x (n:Int) b t) N=sgF (fun t=>M i t*kvN x.p C M N b t) N:=a5_ fun t ht=>by rw[hB t b ht hb]
   rw[e];exact h
  ·have hl:=(J4_ (p:=x.p) (r:=C) (f:=M) (c:=N) (a:=a) (by rw[←hKf];exact ha)).2.1;rw[z9_ (h:=fun t=>ksF x (n:Int) b t) hl,hB _ _ hl hb,J1_ (by rw[←hKf];exact ha) (by rw[←hKf];exact hb)];exact n8_ _ _
  ·have h:=b4Z hfl hI hz ht;have e:sgF (fun b=>kvN x.p C M N b t*z (frN x.p C M N b)) (frL x.p C M N)=sgF (fun b=>ksF x (n:Int) b t*sgF (fun u=>idF (frN x.p C M N b) u*z u) N) K:=by
    rw[←hKf];refine a5_ fun b hb=>?_
    have hl:=(J4_ (p:=x.p) (r:=C) (f:=M) (c:=N) (a:=b) (by rw[←hKf];exact hb)).2.1;rw[z9_ (h:=z) hl,hB t b ht hb]
   rw[←e];exact h
theorem I0_ (a b:Nat):idF a b=idF b a:=by
 unfold idF;by_cases e:a=b
 ·rw[if_pos e,if_pos e.symm]
 ·rw[if_neg e,if_neg fun h=>e h.symm]
theorem f2x {α:Type} {l:List α} (h:l.length=1) {x y:α} (hx:x∈l) (hy:y∈l):x=y:=by
 match l,h with
 | [a],_ =>
  rw[List.mem_singleton]at hx hy;rw[hx,hy]
theorem d9X {p K N C:Nat} {O P:Nat→Nat→Int} (hp:f2_ p=true) (hO:InF p N K O) (hr:rkF p N K O=K) (hP:InF p C N P) (hrP:rkF p C N P=C) (hMB:∀ i b,i<C→b<K→(p:Int)∣sgF (fun t=>P i t*O t b) N) (hle:N≤K+C) :
  K+C=N∧∀ z:Nat→Int,Ker p C P N z→∃ u:Nat→Int,∀ t,t<N→(p:Int)∣z t-sgF (fun b=>O t b*u b) K:=by
 have hp2:=(f4_ hp).1;have hp2':2≤p:=by omega
 have c1:=v6_ hp hp2' hO K (l_ _);have c2:=v6_ hp hp2' hP N (l_ _);have e1:(rdTo (p:Int) N O K).2.length=K:=hr;have e2:(rdTo (p:Int) C P N).2.length=C:=hrP;rw[e1]at c1;rw[e2]at c2;have hpos:=Nat.pow_pos (n:=K) (show 0<p by omega);have l1:(kerL p N O K).length=1:=Nat.eq_of_mul_eq_mul_right hpos (by rw[c1,Nat.one_mul]);have img:∀ u:Nat→Int,can p N (fun t=>sgF (fun b=>O t b*u b) K)∈kerL p C P N:=fun u=>by
  refine d2_.2 ⟨V4_ (by omega) _ _,fun i hi=>?_⟩;have h1:(p:Int)∣sgF (fun t=>P i t*at0 (can p N fun t=>sgF (fun b=>O t b*u b) K) t) N-sgF (fun t=>P i t*sgF (fun b=>O t b*u b) K) N:=j9_ fun t ht=>j2_ _ (p3_ p (fun t=>sgF (fun b=>O t b*u b) K) ht)
  refine (k2_ h1).2 ?_;rw[k8_];exact w9_ fun b hb=>Int.dvd_mul_of_dvd_left (hMB i b hi hb)
 have inj:∀ x∈vecs p K,∀ y∈vecs p K,can p N (fun t=>sgF (fun b=>O t b*at0 x b) K)=can p N (fun t=>sgF (fun b=>O t b*at0 y b) K)→x=y:=by
  intro x hx y hy e;have vx:=s1_.1 hx;have vy:=s1_.1 hy;have hd:∀ t,t<N→(p:Int)∣sgF (fun b=>O t b*at0 x b) K-sgF (fun b=>O t b*at0 y b) K:=fun t ht=>by
   have h1:=p3_ p (fun t=>sgF (fun b=>O t b*at0 x b) K) ht;have h2:=p3_ p (fun t=>sgF (fun b=>O t b*at0 y b) K) ht;rw[e]at h1;exact f8_ (j3_ h1) h2
  have m1:can p K (fun b=>at0 x b-at0 y b)∈kerL p N O K:=d2_.2 ⟨V4_ (by omega) _ _,fun t ht=>by
   have h1:(p:Int)∣sgF (fun b=>O t b*at0 (can p K fun b=>at0 x b-at0 y b) b) K-sgF (fun b=>O t b*(at0 x b-at0 y b)) K:=j9_ fun b hb=>j2_ _ (p3_ p (fun b=>at0 x b-at0 y b) hb)
   refine (k2_ h1).2 ?_;rw[a5_ (b:=fun b=>O t b*at0 x b-O t b*at0 y b) fun b _=>Int.mul_sub _ _ _,A0_];exact hd t ht⟩
  have m2:can p K (fun _=>0)∈kerL p N O K:=d2_.2 ⟨V4_ (by omega) _ _,fun t ht=>by
   refine w9_ fun b hb=>?_
   rw[b6z _ hb,Int.zero_emod,Int.mul_zero];exact Int.dvd_zero _⟩
  have e3:=f2x l1 m1 m2;refine P4_ vx vy fun b hb=>?_
  have h1:=p3_ p (fun b=>at0 x b-at0 y b) hb;rw[e3,b6z _ hb,Int.zero_emod]at h1;have:=Int.dvd_neg.2 h1;rwa[show -(0-(at0 x b-at0 y b))=at0 x b-at0 y b by omega]at this
 have hcard:=J8_ (t6_ p K) inj fun x _=>img (at0 x)
 rw[C5_]at hcard;have hNK:K+C=N:=by
  have:p ^ K*p ^ C≤p ^ N:=by rw[←c2];exact Nat.mul_le_mul_right _ hcard
  rw[←Nat.pow_add]at this;have:=(Nat.pow_le_pow_iff_right (show 1<p by omega)).1 this;omega
 refine⟨hNK,fun z hz=>?_⟩;have hl:(kerL p C P N).length=p ^ K:=by
  have:(kerL p C P N).length*p ^ C=p ^ K*p ^ C:=by rw[c2,←Nat.pow_add,hNK]
  exact Nat.eq_of_mul_eq_mul_right (Nat.pow_pos (by omega)) this
 have hzm:can p N z∈kerL p C P N:=d2_.2 ⟨V4_ (by omega) _ _,(K9_ fun t ht=>p3_ p z ht).2 hz⟩;have hmem:=a6z (l:=(vecs p K).map fun x=>can p N fun t=>sgF (fun b=>O t b*at0 x b) K) (m:=kerL p C P N) (u1_ (t6_ p K) inj) (fun x hx=>by
  obtain⟨y,_,rfl⟩:=List.mem_map.1 hx;exact img (at0 y)) (by rw[List.length_map,C5_,hl];exact l_ _) (j5_ _ _ _ _) hzm
 obtain⟨u,_,e⟩:=List.mem_map.1 hmem;refine⟨at0 u,fun t ht=>?_⟩;have h1:=p3_ p z ht;have h2:=p3_ p (fun t=>sgF (fun b=>O t b*at0 u b) K) ht;try simp only at e
 rw[e]at h2;exact f8_ (j3_ h1) h2
theorem f1X {p:Int} {K N:Nat} {f:Nat→Nat→Int} (hp:f2_ p=true) (hf:InF p K N f) {i:Nat} (hi:i<frL p K f N) (j:Nat):pjF p (rdTo p K f N).1 (rdTo p K f N).2 (b2_ (rdTo p K f N).2 N) (rdTo p K f N).2.length j i=kvN p K f N i j:=by
 have hp2:=(f4_ hp).1;obtain⟨_,h2,h3⟩:=J4_ hi;exact d0j hp2 (p6_ hp2 hf N) (S6_ hp hp2 hf) h2 h3
theorem c6Z {x:Rp} {n:Nat} (hok:k0_ x (n:Int)=true) (hb:s9_ x (n:Int)=false) (hd:d4_ (rvQ x.q (n:Int)) (x.d.set n ((srK x (n:Int):Nat):Int))=true) :
  ∃ (C N K:Nat) (M B S L:Nat→Nat→Int),x.d[n]?=some (K:Int)∧n<x.d.length∧C=srK x (n:Int)∧K+C=N∧N=atN x (n:Int) x.q.f.length ∧
   Star (rfK x (n:Int) C (gSrc x (n:Int) C (srF x (n:Int))) x.q.f.length) x n x.q.f.length C N K (tch x.q (n:Int)) (owN x n) M B S L:=by
 have hok':=hok;simp only[k0_,l9_]at hok';obtain⟨hx,hv⟩:=hok';obtain⟨n',K,en,hn,hC,hdA,hC4,_⟩:=k5_ hx hv;obtain rfl:n=n':=by omega
 have hfl:=(b8_.1 hx).1;have hp2:=f4_ hfl;have hxx:Fit2 x x:=⟨hx,hx,rfl,rfl⟩;obtain⟨N,hN⟩:=e_ ((outS x (n:Int) K x.q.f.length).1);obtain⟨O,hO⟩:=e_ ((outS x (n:Int) K x.q.f.length).2);have hI:=v0_ hx (v:=(n:Int)) rfl hC x.q.f.length (l_ _);rw[hN,hO]at hI;have hIt:InF x.p K N (trF O):=fun a b ha hb=>hI b a hb ha
 have hrk:rkF x.p N K O=K:=by
  have h:=hb;rw[s9_,hok,Bool.true_and,decide_eq_false_iff_not,hdA,l5_,hN,hO]at h;have:=(s3_ x.p N K O).2;omega
 have hsr:srR x (n:Int)=rdTo x.p K (trF O) N:=by rw[srR,srRN,hdA,l5_,hN,hO]
 have hsN:srRN x (n:Int)=N:=by rw[srRN,hdA,l5_,hN]
 obtain⟨C,hCC⟩:=e_ (srK x (n:Int));have hCf:C=frL x.p K (trF O) N:=by rw[←hCC,srK,hsr,hsN];rfl
 have hNat:N=atN x (n:Int) x.q.f.length:=by rw[E6_ (C:=K) hx hv _ (l_ _),hN]
 rw[hCC]at hd;have hP:∀ i t,i<C→srF x (n:Int) i t=kvN x.p K (trF O) N i t:=fun i t hi=>by
  rw[srF,hsr,hsN];exact f1X hfl hIt (by rw[←hCf];exact hi) t
 obtain⟨P,hPP⟩:=e_ (srF x (n:Int));rw[hPP]at hP;have hIP:InF x.p C N P:=fun a b ha _=>by rw[hP a b ha];exact a9Z hp2.1 _ _ _ _ _
 have hMB:∀ i b,i<C→b<K→x.p∣sgF (fun t=>P i t*O t b) N:=fun i b hi hb=>by
  have h:=b9x hfl hIt (b:=i) (by rw[←hCf];exact hi) b hb;have e:sgF (fun t=>trF O b t*kvN x.p K (trF O) N i t) N=sgF (fun t=>P i t*O t b) N:=a5_ fun t _=>by rw[hP i t hi,trF,Int.mul_comm]
  rw[←e];exact h
 have hMS:∀ i j,i<C→j<C→x.p∣sgF (fun t=>P i t*idF t (frN x.p K (trF O) N j)) N-idF i j:=fun i j hi hj=>by
  have hl:=(J4_ (p:=x.p) (r:=K) (f:=trF O) (c:=N) (a:=j) (by rw[←hCf];exact hj)).2.1;rw[t9_ (h:=fun t=>P i t) hl,hP i _ hi,J1_ (by rw[←hCf];exact hj) (by rw[←hCf];exact hi),I0_];exact n8_ _ _
 obtain⟨p,hp⟩:∃ p:Nat,x.p=(p:Int):=⟨x.p.toNat,by omega⟩;have hle:N≤K+C:=by
  have h1:=c3Q x.p K N (trF O);have h2:=(s3_ x.p K N (trF O)).1;omega
 have hrkP:rkF x.p C N P=C:=by
  have a:=hIP;have b:=hMS;have c:=hfl;rw[hp]at a b c⊢;exact d3j c a b
 have hall:=(show (K+C=N∧∀ z:Nat→Int,Ker x.p C P N z→∃ u:Nat→Int,∀ t,t<N→x.p∣z t-sgF (fun b=>O t b*u b) K) by
  have a:=hI;have b:=hIP;have c:=hfl;have d:=hMB;have e:=hrk;have f:=hrkP;rw[hp]at a b c d e f⊢;exact d9X c a e b f d hle)
 obtain⟨hKN,hall⟩:=hall;have hrkT:rkF x.p K N (trF O)=K:=by
  have h1:=c3Q x.p K N (trF O);omega
 obtain⟨τ,hτ⟩:∃ σ:Nat→Nat→Int,∀ i j,i<K→j<K→x.p∣sgF (fun t=>trF O i t*σ t j) N-idF i j:=by
  have a:=hIt;have b:=hrkT;have c:=hfl;rw[hp]at a b c⊢;exact a0Z c a b
 have hLB:∀ a b,a<K→b<K→x.p∣sgF (fun t=>τ t a*O t b) N-idF a b:=fun a b ha hb=>by
  have h:=hτ b a hb ha;have e:sgF (fun t=>trF O b t*τ t a) N=sgF (fun t=>τ t a*O t b) N:=a5_ fun t _=>Int.mul_comm _ _
  rw[e,I0_]at h;exact h
 have ns:=fun {k} hk=>b6Z hx hv (k:=k) hk
 have src:∀ k,k<x.q.f.length→tch x.q (n:Int) k=true→srN x.q k=n:=fun k hk hT=>((o4_ hx hk).1 hT).resolve_right (ns hk)
 have own:∀ k,k<x.q.f.length→tch x.q (n:Int) k=true→owN x n k=tgN x.q k:=fun k hk hT=>by rw[owN,if_pos (src k hk hT)]
 have hdd:(rfK x (n:Int) C (gSrc x (n:Int) C P) x.q.f.length).d=x.d.set n (C:Int):=by show x.d.set (n:Int).toNat _=_;rw[l5_]
 have hfit:∀ k,k<x.q.f.length→tch x.q (n:Int) k=true→atN x (n:Int) k+othN x (n:Int) k≤N:=fun k hk hT=>by rw[hNat];exact A4_ hT hk
 have hy:f1_ (rfK x (n:Int) C (gSrc x (n:Int) C P) x.q.f.length)=true:=by
  refine a0z hx hn hd (fun k hk hT=>?_) fun k hk => .inr (ns hk)
  have ho:=C1_ hx hk hT;rw[own k hk hT]at ho;refine⟨fun b a=>P b (atN x (n:Int) k+a),?_,?_⟩
  ·rw[m5_ hn,m5_ hn,if_pos (src k hk hT),if_neg (ns hk),gSrc,ho]
  ·rw[m5_ hn,m5_ hn,if_pos (src k hk hT),if_neg (ns hk)];intro a b ha hb;have:=hfit k hk hT;exact hIP a _ ha (by omega)
 have dmo:∀ k,k<x.q.f.length→tch x.q (n:Int) k=true→dmN (rfK x (n:Int) C (gSrc x (n:Int) C P) x.q.f.length).d (owN x n k)=dmN x.d (owN x n k):=fun k hk hT=>by
  rw[hdd,m5_ hn,if_neg (by rw[own k hk hT];exact ns hk)]
 have boE:∀ k,k≤x.q.f.length→boN (tch x.q (n:Int)) (fun k=>dmN (rfK x (n:Int) C (gSrc x (n:Int) C P) x.q.f.length).d (owN x n k)) k=atN x (n:Int) k:=fun k hk=>by
  rw[a7j hx k hk];exact a0X k fun k' hk' hT=>dmo k' (by omega) hT
 refine⟨C,N,K,P,O,fun t j=>idF t (frN x.p K (trF O) N j),fun a t=>τ t a,hC,hn,hCC.symm,hKN,hNat,?_⟩;rw[hPP];refine { rr:=⟨hy,hy,rfl,rfl⟩,yy:=hxx,p:=rfl,len:=by rw[hdd,List.length_set],arrR:=O4_ x _,arrY:=rfl,N_:=?_,dv:=by rw[hdd,m5_ hn,if_pos rfl],dvy:=F5_ hC,dw:=fun w hw=>by rw[hdd,m5_ hn,if_neg hw],yes:=fun k hk hT=>?_,no:=fun k hk hT=>?_,aR:=fun k i c hk hT hi hc=>?_,aY:=fun k a b hk hT ha hb=>?_,aN:=fun k a c hk hT _ _=>by rw[d4x hx hn hk hT],MB:=hMB,MS:=hMS,LB:=hLB,ex:=fun z hz t ht=>?_ }
 ·rw[boE _ (l_ _),hNat]
 ·obtain⟨r1,r2⟩:=R3_ hx (n:Int) hk;rw[if_pos hT]at r1 r2;exact⟨r1.trans (own k hk hT).symm,r2.trans (src k hk hT),src k hk hT,(own k hk hT).symm,by rw[own k hk hT];exact ns hk⟩
 ·obtain⟨r1,r2⟩:=R3_ hx (n:Int) hk;rw[if_neg hT]at r1 r2;have hq:(rfK x (n:Int) C (gSrc x (n:Int) C P) x.q.f.length).q=rvQ x.q (n:Int):=rfl;rw[hq,r1,r2];exact⟨rfl,rfl,fun e=>hT ((o4_ hx hk).2 (.inl e)),ns hk⟩
 ·have ho:=C1_ hx hk hT;rw[dmo k hk hT]at hc;have hG:gSrc x (n:Int) C P k=mxF C (othN x (n:Int) k) fun b a=>P b (atN x (n:Int) k+a):=rfl
  rw[d3J hx hn hk hT hG (by rw[if_neg (ns hk),ho,own k hk hT]) hi (by rw[ho];exact hc),boE k (Nat.le_of_lt hk)]
 ·have ho:=C1_ hx hk hT;rw[dmo k hk hT]at ha;rw[boE k (Nat.le_of_lt hk),←hO];exact (a0q hx hC hv _ (l_ _) k hk hT a b (by rw[ho];exact ha)).symm
 ·obtain⟨u,hu⟩:=hall z hz;have h1:∀ b,b<K→x.p∣sgF (fun t=>τ t b*z t) N-u b:=fun b hb=>by
   have a1:x.p∣sgF (fun t=>τ t b*z t) N-sgF (fun t=>τ t b*sgF (fun b=>O t b*u b) K) N:=j9_ fun t ht=>j2_ _ (hu t ht)
   rw[k8_]at a1;have a2:x.p∣sgF (fun j=>sgF (fun t=>τ t b*O t j) N*u j) K-sgF (fun j=>idF b j*u j) K:=j9_ fun j hj=>i9_ _ (hLB b j hb hj)
   rw[z9_ (h:=u) hb]at a2;exact f8_ a1 a2
  refine f8_ (hu t ht) (j9_ fun b hb=>j2_ _ (j3_ (h1 b hb)))
theorem d1Q {x:Rp} (hx:f1_ x=true) {n K:Nat} {G:Nat→Mx} (hy:f1_ (rfK x (n:Int) K G x.q.f.length)=true) {k:Nat} (hk:k<x.q.f.length):tch (rvQ x.q (n:Int)) (n:Int) k=tch x.q (n:Int) k:=by
 have hk':k<(rfK x (n:Int) K G x.q.f.length).q.f.length:=by show k<(rvQ x.q (n:Int)).f.length;rw[O4_];exact hk
 have h1:=o4_ hy (n:=n) hk';have h2:=o4_ hx (n:=n) hk;have hq:(rfK x (n:Int) K G x.q.f.length).q=rvQ x.q (n:Int):=rfl;rw[hq]at h1;obtain⟨r1,r2⟩:=R3_ hx (n:Int) hk;rw[r1,r2]at h1;rw[Bool.eq_iff_iff,h1];by_cases h:tch x.q (n:Int) k=true
 ·simp only[if_pos h];exact⟨fun _=>h,fun _=>(h2.1 h).symm⟩
 ·simp only[if_neg h];exact⟨fun e=>absurd (h2.2 e) h,fun e=>absurd e h⟩
theorem f9Q {x:Rp} (hx:f1_ x=true) {n K:Nat} {G:Nat→Mx} (hy:f1_ (rfK x (n:Int) K G x.q.f.length)=true):rvQ (rvQ x.q (n:Int)) (n:Int)=x.q:=by
 have hqx:=(g4_.1 (b7_.1 (b8_.1 hx).2.1).1);have hlt:x.q.t.length=x.q.f.length:=((Fit2.rfl1 (X:=x) (Y:=x) ⟨hx,hx,rfl,rfl⟩).arrs).2.2.2;have hl:=O4_ x (n:Int);have key:∀ k,k<x.q.f.length→rvF (rvQ x.q (n:Int)) (n:Int) x.q.f.length k=x.q.f.getD k 0∧rvT (rvQ x.q (n:Int)) (n:Int) x.q.f.length k=x.q.t.getD k 0:=fun k hk=>by
  have e1:(rvQ x.q (n:Int)).f.getD k 0=rvF x.q (n:Int) x.q.f.length k:=by rw[rvQ,rvK,c9_ _ hk]
  have e2:(rvQ x.q (n:Int)).t.getD k 0=rvT x.q (n:Int) x.q.f.length k:=by rw[rvQ,rvK,c9_ _ hk]
  have ht:=d1Q hx hy hk;rw[rvF,rvT,ht,e1,e2,rvF,rvT];by_cases h:tch x.q (n:Int) k=true
  ·simp only[if_pos (show k<x.q.f.length∧tch x.q (n:Int) k=true from ⟨hk,h⟩)];exact⟨trivial,trivial⟩
  ·simp only[if_neg (show ¬ (k<x.q.f.length∧tch x.q (n:Int) k=true) from fun e=>h e.2)];exact⟨trivial,trivial⟩
 have hf:rowF x.q.f.length (rvF (rvQ x.q (n:Int)) (n:Int) x.q.f.length)=x.q.f:=by
  rw[b6_ fun k hk=>(key k hk).1];exact E4_ x.q.f
 have htt:rowF x.q.f.length (rvT (rvQ x.q (n:Int)) (n:Int) x.q.f.length)=x.q.t:=by
  rw[b6_ fun k hk=>(key k hk).2,←hlt];exact E4_ x.q.t
 have:rvQ (rvQ x.q (n:Int)) (n:Int)=⟨x.q.v,rowF (rvQ x.q (n:Int)).f.length (rvF (rvQ x.q (n:Int)) (n:Int) (rvQ x.q (n:Int)).f.length),rowF (rvQ x.q (n:Int)).f.length (rvT (rvQ x.q (n:Int)) (n:Int) (rvQ x.q (n:Int)).f.length)⟩:=rfl;rw[this,hl,hf,htt]
theorem f2X {p r c:Nat} {f L:Nat→Nat→Int} (hp:f2_ p=true) (hf:InF p r c f) (hs:∀ a b,a<c→b<c→(p:Int)∣sgF (fun t=>L a t*f t b) r-idF a b):rkF p r c f=c:=by
 have hp2:=(f4_ hp).1;have hp2':2≤p:=by omega
 have hcnt:=v6_ hp hp2' hf c (l_ _);have one:(kerL p r f c).length≤1:=by
  refine Nat.le_trans (q9_ (m:=[List.replicate c 0]) (j5_ _ _ _ _) fun x hx=>?_) (l_ _);obtain⟨hv1,hK⟩:=d2_.1 hx;rw[List.mem_singleton];refine P4_ hv1 ⟨by simp,fun e he=>by rw[List.eq_of_mem_replicate he];omega⟩ fun t ht=>?_
  have e0:at0 (List.replicate c (0:Int)) t=0:=by simp[at0,l1_,List.getElem?_replicate,ht]
  rw[e0,Int.sub_zero];have h1:(p:Int)∣sgF (fun s=>L t s*sgF (fun b=>f s b*at0 x b) c) r:=w9_ fun s hs=>Int.dvd_mul_of_dvd_right (hK s hs)
  rw[k8_]at h1;have h2:(p:Int)∣sgF (fun j=>sgF (fun t_1=>L t t_1*f t_1 j) r*at0 x j) c-sgF (fun j=>idF t j*at0 x j) c:=j9_ fun j hj=>i9_ _ (hs t j ht hj)
  rw[z9_ (h:=fun j=>at0 x j) ht]at h2;exact (k2_ h2).1 h1
 have hle:(rdTo (p:Int) r f c).2.length≤c:=(s3_ _ _ _ _).2;have hpos:0<p ^ c:=Nat.pow_pos (by omega);have h1:(kerL p r f c).length=1:=by
  rcases Nat.eq_zero_or_pos (kerL p r f c).length with h0 | h0
  ·rw[h0,Nat.zero_mul]at hcnt;omega
  ·omega
 rw[h1,Nat.one_mul]at hcnt;exact (Nat.pow_right_inj (by omega)).1 hcnt
def isA (n:Nat) (A:Nat→Nat→Int) (w:Nat):Nat→Nat→Int:=if w=n then A else idF
theorem d1J {Y:Rp} {n:Nat} {A A':Nat→Nat→Int} {w r c:Nat} (hw:w≠n) (hc:c<dmN Y.d w):cpF Y (isA n A') (isA n A) w r c=idF r c:=by
 rw[cpF];simp only[isA,if_neg hw];exact t9_ (h:=fun s=>idF r s) hc
theorem b1X {x:Rp} {n:Nat} (hok:inOk x (n:Int)=true) (hb:hsIn x (n:Int)=false) (hd:d4_ (rvQ x.q (n:Int)) (x.d.set n (((ksL x (n:Int)).length:Nat):Int))=true) :
  ∃ y,rsP x (n:Int)=(y,true)∧s9_ y (n:Int)=false∧homN y y=homN x x∧Fit2 y y∧∃ z,rsrP y (n:Int)=(z,true)∧z.d=x.d∧∃ F G,IsoF z x F G:=by
 obtain⟨C,N,K,M,B,S,L,hC,hn,hKe,hKN,hNat,hB,hfr,st⟩:=W0_ hok hb hd;have hok':=hok;simp only[inOk,l9_]at hok';obtain⟨hx,hv⟩:=hok';have hfl:=(b8_.1 hx).1;have hp2:=f4_ hfl;rw[←hKe]at hd;obtain⟨y,hy⟩:=e_ (rfK x (n:Int) K (s0_ x (n:Int) K (ksF x (n:Int))) x.q.f.length);have hyq:y.q=rvQ x.q (n:Int):=by rw[←hy];rfl
 have hyp:y.p=x.p:=by rw[←hy];rfl
 have hyd:y.d=x.d.set n (K:Int):=by rw[←hy];show x.d.set (n:Int).toNat _=_;rw[l5_]
 have hyl:y.q.f.length=x.q.f.length:=by rw[hyq];exact O4_ x _
 have hyR:f1_ y=true:=by rw[←hy];exact st.yy.hx
 have htch:∀ k,k<x.q.f.length→tch y.q (n:Int) k=tch x.q (n:Int) k:=fun k hk=>by rw[hyq];exact d1Q hx (by rw[hy];exact hyR) hk
 have hback:rvQ y.q (n:Int)=x.q:=by rw[hyq];exact f9Q hx (by rw[hy];exact hyR)
 rw[hy]at st;have hnY:n<y.d.length:=by rw[hyd,List.length_set];exact hn
 have hKd:y.d[n]?=some (K:Int):=by rw[hyd,List.getElem?_set,if_pos rfl,if_pos hn]
 have ns:=fun {k} hk=>b5j hx hv (k:=k) hk
 have hvY:endV y.q.t y.q (n:Int)=true:=by
  simp only[endV,l9_,t0_,Bool.not_eq_true',decide_eq_false_iff_not];have hr:=(q2_ hv).2;have hyv:y.q.v=x.q.v:=by rw[hyq];rfl
  refine⟨by rw[hyv];exact hr,fun hm=>?_⟩;obtain⟨k,hk⟩:=List.mem_iff_getElem?.1 hm;have hlt:y.q.t.length=y.q.f.length:=((Fit2.rfl1 (X:=y) (Y:=y) ⟨hyR,hyR,rfl,rfl⟩).arrs).2.2.2;have hkl:k<x.q.f.length:=by have:=b0_ hk;omega
  have h1:=b3z hk;rw[hyq,(R3_ hx (n:Int) hkl).2]at h1;by_cases h:tch x.q (n:Int) k=true
  ·rw[if_pos h]at h1;exact ns hkl h1
  ·rw[if_neg h]at h1;exact h ((o4_ hx hkl).2 (.inr h1))
 have hoY:k0_ y (n:Int)=true:=by rw[k0_,hyR,hvY];rfl
 have hdAt:(dAt y.d (n:Int)).toNat=K:=by rw[r4_ hKd,l5_]
 have hatY:∀ k,k≤x.q.f.length→atN y (n:Int) k=boN (tch x.q (n:Int)) (fun k=>dmN x.d (owN x n k)) k:=by
  intro k;induction k with
  | zero=>intro _;rfl
  | succ k ih =>
   intro hk;rw[atN,boN,ih (by omega),htch k (by omega)];split
   ·rename_i hT
    have hT':tch y.q (n:Int) k=true:=by rw[htch k (by omega)];exact hT
    have h1:=C1_ hyR (n:=n) (k:=k) (by omega) hT';obtain⟨a1,a2,a3,a4,a5⟩:=st.yes k (by omega) hT;have h2:owN y n k=owN x n k:=by rw[owN,if_pos a3,a4]
    rw[h1,h2,st.dw _ a5]
   ·rfl
 have hothY:∀ k,k<x.q.f.length→tch x.q (n:Int) k=true→othN y (n:Int) k=dmN x.d (owN x n k):=fun k hk hT=>by
  have h1:=C1_ hyR (n:=n) (k:=k) (by omega) (by rw[htch k hk];exact hT);obtain⟨a1,a2,a3,a4,a5⟩:=st.yes k hk hT;have h2:owN y n k=owN x n k:=by rw[owN,if_pos a3,a4]
  rw[h1,h2,st.dw _ a5]
 have hN1:(outS y (n:Int) K y.q.f.length).1=N:=by
  rw[←E6_ hyR hvY _ (l_ _),hyl,hatY _ (l_ _)];exact st.N_
 obtain⟨O,hO⟩:=e_ ((outS y (n:Int) K y.q.f.length).2);have hOB:∀ t b,t<N→b<K→O t b=B t b:=fun t b ht hb=>by
  rw[←st.N_]at ht;obtain⟨k,a,hk,hT,ha,rfl⟩:=a8q _ _ ht;have h1:=a0q hyR hKd hvY _ (l_ _) k (by omega) (by rw[htch k hk];exact hT) a b (by rw[hothY k hk hT];exact ha);rw[hO,hatY k (Nat.le_of_lt hk)]at h1;rw[h1,st.aY k a b hk hT ha hb]
 have hI:=v0_ hyR (v:=(n:Int)) rfl hKd y.q.f.length (l_ _);rw[hN1,hO,hyp]at hI;have hIt:InF x.p K N (trF O):=fun a b ha hb=>hI b a hb ha
 have hsr:srR y (n:Int)=rdTo x.p K (trF O) N:=by rw[srR,srRN,hdAt,hN1,hO,hyp]
 have hsN:srRN y (n:Int)=N:=by rw[srRN,hdAt,hN1]
 obtain⟨p,hp⟩:∃ p:Nat,x.p=(p:Int):=⟨x.p.toNat,by omega⟩;have hrkT:rkF x.p K N (trF O)=K:=by
  have a:=hIt;have c:=hfl;have s:=st.LB;obtain⟨φ,hφ⟩:∃ φ:Nat→Nat,∀ a,a<K→φ a<N∧∀ b,b<K→B (φ a) b=idF a b:=⟨fun a=>if h:a<K then Classical.choose (hfr a h) else 0,fun a ha=>by
   simp only[dif_pos ha];exact Classical.choose_spec (hfr a ha)⟩
  rw[hp]at a c⊢;refine d3j (σ:=fun t j=>idF t (φ j)) c a fun i j hi hj=>?_
  obtain⟨f1,f2⟩:=hφ j hj;rw[t9_ (h:=fun t=>trF O i t) f1,trF,hOB _ _ f1 hi,f2 i hi,I0_];exact n8_ _ _
 have hCf:C=frL x.p K (trF O) N:=by
  have h1:=c3Q x.p K N (trF O);omega
 have hCC:srK y (n:Int)=C:=by rw[srK,hsr,hsN,hCf];rfl
 have hdims:y.d.set n (C:Int)=x.d:=by
  rw[hyd,List.set_set];apply List.ext_getElem?
  intro i;rw[List.getElem?_set];by_cases e:n=i
  ·subst e;rw[if_pos rfl,if_pos hn,hC]
  ·rw[if_neg e]
 have hdz:d4_ (rvQ y.q (n:Int)) (y.d.set n (C:Int))=true:=by rw[hback,hdims];exact (b8_.1 hx).2.1
 obtain⟨P,hPP⟩:=e_ (srF y (n:Int));have hP:∀ i t,i<C→P i t=kvN x.p K (trF O) N i t:=fun i t hi=>by
  rw[←hPP,srF,hsr,hsN,hyp];exact f1X hfl hIt (by rw[←hCf];exact hi) t
 obtain⟨z,hz⟩:=e_ (rfK y (n:Int) C (gSrc y (n:Int) C P) y.q.f.length);have hzq:z.q=x.q:=by rw[←hz];exact hback
 have hzp:z.p=x.p:=by rw[←hz];exact hyp
 have hzd:z.d=x.d:=by rw[←hz];show y.d.set (n:Int).toNat _=_;rw[l5_];exact hdims
 have nt:=fun {k} hk=>b6Z hyR hvY (k:=k) hk
 have hzR:f1_ z=true:=by
  rw[←hz];refine a0z hyR hnY hdz (fun k hk hT=>?_) fun k hk => .inr (nt hk)
  have hk':k<x.q.f.length:=by omega
  have hT':tch x.q (n:Int) k=true:=by rw[←htch k hk'];exact hT
  obtain⟨a1,a2,a3,a4,a5⟩:=st.yes k hk' hT';refine⟨fun b a=>P b (atN y (n:Int) k+a),?_,?_⟩
  ·rw[m5_ hnY,m5_ hnY,if_pos a3,if_neg (nt hk),gSrc,hothY k hk' hT',a4,st.dw _ a5]
  ·rw[m5_ hnY,m5_ hnY,if_pos a3,if_neg (nt hk),hyp];intro a b ha _;show 0≤P a (atN y (n:Int) k+b)∧P a (atN y (n:Int) k+b)≤x.p-1;rw[hP a _ ha];exact a9Z hp2.1 _ _ _ _ _
 have hrsP:rsP x (n:Int)=(y,true):=by
  rw[rsP,if_pos hok,←hKe,rfP,l5_,if_pos hd,hy]
 have hrsr:rsrP y (n:Int)=(z,true):=by
  rw[rsrP,if_pos hoY,hCC,hPP,rfP,l5_,if_pos hdz,hz]
 have hs:s9_ y (n:Int)=false:=by
  have hr:rkF x.p N K O=K:=by
   have a:=hI;have c:=hfl;have l:=st.LB;rw[hp]at a c l⊢;refine f2X (L:=L) c a fun i j hi hj=>?_
   have e:sgF (fun t=>L i t*O t j) N=sgF (fun t=>L i t*B t j) N:=a5_ fun t ht=>by rw[hOB t j ht hj]
   rw[e];exact l i j hi hj
  rw[s9_,hoY,Bool.true_and,decide_eq_false_iff_not,r4_ hKd,l5_,hN1,hO,hyp,hr];omega
 refine⟨y,hrsP,hs,st.eq.symm,⟨hyR,hyR,rfl,rfl⟩,z,hrsr,hzd,?_⟩;have hMO:∀ i b,i<C→b<K→x.p∣sgF (fun t=>trF O b t*M i t) N:=fun i b hi hb=>by
  have e:sgF (fun t=>trF O b t*M i t) N=sgF (fun t=>M i t*B t b) N:=a5_ fun t ht=>by rw[trF,hOB t b ht hb,Int.mul_comm]
  rw[e];exact st.MB i b hi hb
 have hPB:∀ i b,i<C→b<K→x.p∣sgF (fun t=>P i t*B t b) N:=fun i b hi hb=>by
  have h:=b9x hfl hIt (b:=i) (by rw[←hCf];exact hi) b hb;have e:sgF (fun t=>trF O b t*kvN x.p K (trF O) N i t) N=sgF (fun t=>P i t*B t b) N:=a5_ fun t ht=>by rw[hP i t hi,trF,hOB t b ht hb,Int.mul_comm]
  rw[←e];exact h
 have hfl2:∀ a,a<C→frN x.p K (trF O) N a<N:=fun a ha=>(J4_ (p:=x.p) (r:=K) (f:=trF O) (c:=N) (a:=a) (by rw[←hCf];exact ha)).2.1
 obtain⟨A,hA⟩:∃ A:Nat→Nat→Int,A=fun i a=>M i (frN x.p K (trF O) N a):=⟨_,rfl⟩
 obtain⟨A',hA'⟩:∃ A:Nat→Nat→Int,A=fun a i=>sgF (fun t=>P a t*S t i) N:=⟨_,rfl⟩
 have hAP:∀ i j,i<C→j<N→x.p∣M i j-sgF (fun a=>A i a*P a j) C:=fun i j hi hj=>by
  have h:=b4Z hfl hIt (x:=M i) (fun b hb=>hMO i b hi hb) hj;have e:sgF (fun b=>kvN x.p K (trF O) N b j*M i (frN x.p K (trF O) N b)) (frL x.p K (trF O) N)=sgF (fun a=>A i a*P a j) C:=by
   rw[←hCf];exact a5_ fun a ha=>by rw[hA,hP a j ha,Int.mul_comm]
  rw[←e];exact h
 have hA'M:∀ a j,a<C→j<N→x.p∣P a j-sgF (fun i=>A' a i*M i j) C:=fun a j ha hj=>by
  have hx1:∀ i,i<C→x.p∣sgF (fun t=>M i t*(idF t j-sgF (fun s=>S t s*M s j) C)) N:=fun i hi=>by
   have e1:sgF (fun t=>M i t*(idF t j-sgF (fun s=>S t s*M s j) C)) N=M i j-sgF (fun s=>sgF (fun t=>M i t*S t s) N*M s j) C:=by
    rw[←k8_,←t9_ (h:=fun t=>M i t) hj,←A0_];exact a5_ fun t _=>by rw[Int.mul_sub]
   have h2:x.p∣sgF (fun s=>sgF (fun t=>M i t*S t s) N*M s j) C-sgF (fun s=>idF i s*M s j) C:=j9_ fun s hs=>i9_ _ (st.MS i s hi hs)
   rw[z9_ (h:=fun s=>M s j) hi]at h2;rw[e1];exact j3_ h2
  have h3:=st.ex _ hx1;have h4:x.p∣sgF (fun t=>P a t*(idF t j-sgF (fun s=>S t s*M s j) C)) N-sgF (fun t=>P a t*sgF (fun b=>B t b*sgF (fun u=>L b u*(idF u j-sgF (fun s=>S u s*M s j) C)) N) K) N:=j9_ fun t ht=>j2_ _ (h3 t ht)
  rw[k8_ (fun t=>P a t) B]at h4;have h5:x.p∣sgF (fun b=>sgF (fun t=>P a t*B t b) N*sgF (fun u=>L b u*(idF u j-sgF (fun s=>S u s*M s j) C)) N) K:=w9_ fun b hb=>Int.dvd_mul_of_dvd_left (hPB a b ha hb)
  have h6:=(k2_ h4).2 h5;have e1:sgF (fun t=>P a t*(idF t j-sgF (fun s=>S t s*M s j) C)) N=P a j-sgF (fun i=>A' a i*M i j) C:=by
   rw[hA',←k8_,←t9_ (h:=fun t=>P a t) hj,←A0_];exact a5_ fun t _=>by rw[Int.mul_sub]
  rw[←e1];exact h6
 have hAA:∀ i j,i<C→j<C→x.p∣sgF (fun a=>A i a*A' a j) C-idF i j:=fun i j hi hj=>by
  have e:sgF (fun a=>A i a*A' a j) C=sgF (fun t=>sgF (fun a=>A i a*P a t) C*S t j) N:=by
   rw[hA',←k8_]
  have h1:x.p∣sgF (fun t=>M i t*S t j) N-sgF (fun t=>sgF (fun a=>A i a*P a t) C*S t j) N:=j9_ fun t ht=>i9_ _ (hAP i t hi ht)
  rw[e];exact f8_ (j3_ h1) (st.MS i j hi hj)
 have hA'A:∀ a c,a<C→c<C→x.p∣sgF (fun i=>A' a i*A i c) C-idF a c:=fun a c ha hc=>by
  have h1:=hA'M a (frN x.p K (trF O) N c) ha (hfl2 c hc);have e:sgF (fun i=>A' a i*A i c) C=sgF (fun i=>A' a i*M i (frN x.p K (trF O) N c)) C:=by rw[hA]
  have e2:P a (frN x.p K (trF O) N c)=idF a c:=by rw[hP a _ ha,J1_ (by rw[←hCf];exact hc) (by rw[←hCf];exact ha),I0_]
  rw[e2]at h1;rw[e];exact j3_ h1
 have hzl:∀ k,k<x.q.f.length→tch x.q (n:Int) k=true→∀ a c,a<C→c<dmN x.d (owN x n k)→arF z k a c=P a (boN (tch x.q (n:Int)) (fun k=>dmN x.d (owN x n k)) k+c):=fun k hk hT a c ha hc=>by
  obtain⟨a1,a2,a3,a4,a5⟩:=st.yes k hk hT;have hk':k<y.q.f.length:=by omega
  have hG:gSrc y (n:Int) C P k=mxF C (othN y (n:Int) k) fun b a=>P b (atN y (n:Int) k+a):=rfl
  rw[←hz,d3J hyR hnY hk' (by rw[htch k hk];exact hT) hG (by rw[if_neg (nt hk'),hothY k hk hT,a4,st.dw _ a5]) ha (by rw[hothY k hk hT];exact hc),hatY k (Nat.le_of_lt hk)]
 have hzn:∀ k,k<x.q.f.length→¬ tch x.q (n:Int) k=true→∀ a c,a<dmN x.d (tgN x.q k)→c<dmN x.d (srN x.q k)→arF z k a c=arF x k a c:=fun k hk hT a c ha hc=>by
  rw[←hz,d4x hyR hnY (by omega) (by rw[htch k hk];exact hT)];exact st.aN k a c hk hT ha hc
 have hfitN:∀ k c,k<x.q.f.length→tch x.q (n:Int) k=true→c<dmN x.d (owN x n k)→boN (tch x.q (n:Int)) (fun k=>dmN x.d (owN x n k)) k+c<N:=fun k c hk hT hc=>by
  have:=L4_ (tch x.q (n:Int)) (fun k=>dmN x.d (owN x n k)) hk hT;rw[st.N_]at this;omega
 have hdn:=st.dv;refine⟨isA n A,isA n A',⟨⟨hzR,hx,hzp,hzq⟩,fun k hk i c hi hc=>?_,fun k hk i c hi hc=>?_,fun w r c hw hr hc=>?_,fun w r c hw hr hc=>?_⟩⟩
 ·rw[hzq]at hk hi hc⊢;rw[hzd]at hc⊢;rw[hzp];by_cases hT:tch x.q (n:Int) k=true
  ·obtain⟨a1,a2,a3,a4,a5⟩:=st.yes k hk hT;rw[a2,hdn]at hi;rw[a1]at hc;rw[a1,a2,hdn];have e1:sgF (fun s=>arF x k i s*isA n A (owN x n k) s c) (dmN x.d (owN x n k))=M i (boN (tch x.q (n:Int)) (fun k=>dmN x.d (owN x n k)) k+c):=by
    simp only[isA,if_neg a5];rw[t9_ (h:=fun s=>arF x k i s) hc];exact st.aR k i c hk hT hi hc
   have e2:sgF (fun s=>isA n A n i s*arF z k s c) C=sgF (fun a=>A i a*P a (boN (tch x.q (n:Int)) (fun k=>dmN x.d (owN x n k)) k+c)) C:=a5_ fun s hs=>by
    simp only[isA,if_true];rw[hzl k hk hT s c hs hc]
   rw[e1,e2];exact hAP i _ hi (hfitN k c hk hT hc)
  ·obtain⟨b1,b2,b3,b4⟩:=st.no k hk hT;have e1:sgF (fun s=>arF x k i s*isA n A (srN x.q k) s c) (dmN x.d (srN x.q k))=arF x k i c:=by
    simp only[isA,if_neg b3];exact t9_ (h:=fun s=>arF x k i s) hc
   have e2:sgF (fun s=>isA n A (tgN x.q k) i s*arF z k s c) (dmN x.d (tgN x.q k))=arF z k i c:=by
    simp only[isA,if_neg b4];exact z9_ (h:=fun s=>arF z k s c) hi
   rw[e1,e2,hzn k hk hT i c hi hc];exact n8_ _ _
 ·rw[hzd]at hi⊢;by_cases hT:tch x.q (n:Int) k=true
  ·obtain⟨a1,a2,a3,a4,a5⟩:=st.yes k hk hT;rw[a2,hdn]at hi;rw[a1]at hc;rw[a1,a2,hdn];have e1:sgF (fun s=>arF z k i s*isA n A' (owN x n k) s c) (dmN x.d (owN x n k))=P i (boN (tch x.q (n:Int)) (fun k=>dmN x.d (owN x n k)) k+c):=by
    simp only[isA,if_neg a5];rw[t9_ (h:=fun s=>arF z k i s) hc];exact hzl k hk hT i c hi hc
   have e2:sgF (fun s=>isA n A' n i s*arF x k s c) C=sgF (fun a=>A' i a*M a (boN (tch x.q (n:Int)) (fun k=>dmN x.d (owN x n k)) k+c)) C:=a5_ fun s hs=>by
    simp only[isA,if_true];rw[st.aR k s c hk hT hs hc]
   rw[e1,e2];exact hA'M i _ hi (hfitN k c hk hT hc)
  ·obtain⟨b1,b2,b3,b4⟩:=st.no k hk hT;have e1:sgF (fun s=>arF z k i s*isA n A' (srN x.q k) s c) (dmN x.d (srN x.q k))=arF z k i c:=by
    simp only[isA,if_neg b3];exact t9_ (h:=fun s=>arF z k i s) hc
   have e2:sgF (fun s=>isA n A' (tgN x.q k) i s*arF x k s c) (dmN x.d (tgN x.q k))=arF x k i c:=by
    simp only[isA,if_neg b4];exact z9_ (h:=fun s=>arF x k s c) hi
   rw[e1,e2,hzn k hk hT i c hi hc];exact n8_ _ _
 ·rw[hzd]at hr hc;rw[hzp];by_cases hwn:w=n
  ·subst hwn;rw[hdn]at hr hc;have e:cpF x (isA w A') (isA w A) w r c=sgF (fun i=>A' r i*A i c) C:=by
    rw[cpF,hdn];simp only[isA,if_true]
   rw[e];exact hA'A r c hr hc
  ·rw[d1J hwn hc];exact n8_ _ _
 ·by_cases hwn:w=n
  ·subst hwn;rw[hdn]at hr hc;have e:cpF z (isA w A) (isA w A') w r c=sgF (fun a=>A r a*A' a c) C:=by
    rw[cpF,hzd,hdn];simp only[isA,if_true]
   rw[e];exact hAA r c hr hc
  ·rw[d1J hwn (by rw[hzd];exact hc)];exact n8_ _ _
def dsF (h:Nat→Int):Nat→Int
 | 0=>0
 | n+1=>dsF h n+h n
def cutR (k:Nat) (r:List Int):List Int:=r.take k ++ r.drop (k+1)
def mnr (k:Nat) (m:List (List Int)):List (List Int):=m.tail.map (cutR k)
def sgK (k:Nat):Int:=if k % 2=0 then 1 else -1
def fst0 (m:List (List Int)) (k:Nat):Int:=(m.getD 0 []).getD k 0
def detL:Nat→List (List Int)→Int
 | 0,_=>1
 | n+1,m=>dsF (fun k=>sgK k*fst0 m k*detL n (mnr k m)) (n+1)
structure Sq (n:Nat) (m:List (List Int)):Prop where
 len:m.length=n
 row:∀ r∈m,r.length=n
 rng:∀ r∈m,∀ x∈r,-12≤x∧x≤12
theorem Z7_ {k:Nat} {r:List Int} {n:Nat} (h:r.length=n+1) (hk:k≤n):(cutR k r).length=n:=by simp[cutR];omega
theorem c5Q {k:Nat} {r:List Int} {x:Int} (h:x∈cutR k r):x∈r:=by
 rcases List.mem_append.1 h with h | h
 ·exact List.mem_of_mem_take h
 ·exact List.mem_of_mem_drop h
theorem Sq.mnr {n k:Nat} {m:List (List Int)} (h:Sq (n+1) m) (hk:k≤n):Sq n (mnr k m):=by
 refine⟨by simp[Go.Proofs.YtnohdlkailpnoaaGreat.mnr,h.len],fun r hr=>?_,fun r hr x hx=>?_⟩
 ·obtain⟨s,hs,rfl⟩:=List.mem_map.1 hr;exact Z7_ (h.row s (List.mem_of_mem_tail hs)) hk
 ·obtain⟨s,hs,rfl⟩:=List.mem_map.1 hr;exact h.rng s (List.mem_of_mem_tail hs) x (c5Q hx)
theorem SlII.two {w:World} {t:TypeId} {a b:Value} {l m:List Int} (ha:SlI w w.heap.size a l) (hb:SlI w w.heap.size b m) :
  SlII (w.alloc (.cells #[a,b] t)) (w.alloc (.cells #[a,b] t)).heap.size (.slice (some ⟨w.heap.size,0,none⟩) 2 2) [l,m]:=by
 have hbel:=a2_ w (.cells #[a,b] t);have hk:=Blk.new w t #[a,b];refine⟨some ⟨w.heap.size,0,none⟩,2,rfl,by simp,by omega,by simp,fun _=>⟨w.heap.size,0,rfl,hk.lt,fun j x hj=>?_⟩⟩
 match j,hj with
 | 0,hj=>injection hj with hj;subst hj;exact⟨a,hk.cell' rfl,SlI.next hbel ha⟩
 | 1,hj=>injection hj with hj;subst hj;exact⟨b,hk.cell' rfl,SlI.next hbel hb⟩
theorem SlI.addr {w:World} {B c:Nat} {A:Option Addr} {xs:List Int} (h:SlI w B (.slice A xs.length c) xs) (h0:0<xs.length):∃ b o,A=some ⟨b,o,none⟩∧b<B:=by
 obtain⟨b,o,_,e,h1,_⟩:=SlI.at_ (k:=0) h h0;exact⟨b,o,e,h1⟩
theorem SlII.addr {w:World} {B c:Nat} {A:Option Addr} {xs:List (List Int)} (h:SlII w B (.slice A xs.length c) xs) (h0:0<xs.length):∃ b o,A=some ⟨b,o,none⟩∧b<B:=by
 obtain⟨b,o,_,_,_,e,h1,_⟩:=SlII.at_ (k:=0) h h0;exact⟨b,o,e,h1⟩
theorem SlI.form2 {w:World} {B:Nat} {v:Value} {l:List Int} (h:SlI w B v l):∃ A c,v = .slice A l.length c:=by
 obtain⟨A,c,e,_⟩:=h;exact⟨A,c,e⟩
def bitT (s v:Nat):Bool:=s / 2 ^ v % 2 == 1
def bitL (s n:Nat):List Nat:=(List.range n).filter (bitT s)
def f7X (s n:Nat) (g:Nat→Int):List Int:=(bitL s n).map g
def mnTo (s n:Nat) (g:Nat→Nat→Int) (k:Nat):List (List Int):=(bitL s k).map fun v=>f7X s n (g v)
def mnL (s n:Nat) (g:Nat→Nat→Int):List (List Int):=mnTo s n g n
def dtS (s n:Nat) (g:Nat→Nat→Int):Int:=detL (bitL s n).length (mnL s n g)
def kdGo (n:Nat) (g:Nat→Nat→Int):Nat→Nat→Int→Int
 | 0,_,k=>k
 | m+1,s,k=>if dtS s n g<0 then 3 else kdGo n g m (s+1) (if dtS s n g=0 then 2 else k)
def g0z (q:Qv):Int:=if isQ q then kdGo q.v.toNat (ent q q.f.length) (2 ^ q.v.toNat-1) 1 1 else 0
def sm:Nat→(Nat→Int)→Int
 | 0,_=>0
 | n+1,f=>sm n f+f n
theorem Q7_ {f g:Nat→Int}:∀ n,(∀ i,i<n→f i=g i)→sm n f=sm n g
 | 0,_=>rfl
 | n+1,h=>by rw[sm,sm,Q7_ n fun i hi=>h i (by omega),h n (by omega)]
theorem b8x (f g:Nat→Int):∀ n,sm n (fun i=>f i-g i)=sm n f-sm n g
 | 0=>rfl
 | n+1=>by rw[sm,sm,sm,b8x f g n];omega
theorem b2J:∀ n,sm n (fun _=>0)=0
 | 0=>rfl
 | n+1=>by rw[sm,b2J n];rfl
theorem a1q {f:Nat→Int} {k:Nat}:∀ n,k<n→(∀ i,i<n→i≠k→f i=0)→sm n f=f k
 | 0,h,_=>by omega
 | n+1,h,h0=>by
  rw[sm];by_cases e:k=n
  ·subst e;rw[Q7_ (g:=fun _=>0) k fun i hi=>h0 i (by omega) (by omega),b2J];omega
  ·rw[a1q n (by omega) fun i hi hn=>h0 i (by omega) hn,h0 n (by omega) (by omega)];omega
def bil (n:Nat) (g:Nat→Nat→Int) (x y:Nat→Int):Int:=sm n fun a=>sm n fun b=>g a b*x a*y b
def pvF:Nat→(Nat→Nat→Int)→Bool
 | 0,_=>true
 | n+1,A=>decide (0<A 0 0) && pvF n fun a b=>A 0 0*A (a+1) (b+1)-A (a+1) 0*A 0 (b+1)
def pIdx (a b:Nat):Nat:=b*(b-1) / 2+a
def gL (l:List Bool) (a b:Nat):Int:=if a=b then 2 else if (if a<b then l.getD (pIdx a b) false else l.getD (pIdx b a) false) then -1 else 0
def f3x:Nat→List Bool→List (List Bool)
 | 0,_=>[]
 | b+1,l=>f3x b l ++ [((List.range b).map fun a=>l.getD (pIdx a b) false).reverse]
def dotB:List Bool→List Nat→Nat
 | true :: r,x :: s=>x+dotB r s
 | false :: r,_ :: s=>dotB r s
 | _,_=>0
def cntR:List (List Bool)→List Nat→Nat→Nat→Nat
 | [],_,p,m=>if p == m+1 then 1 else 0
 | row :: rs,xs,p,m=>cntR rs (0 :: xs) p m+cntR rs (1 :: xs) (p+1) (m+dotB row xs)+cntR rs (2 :: xs) (p+4) (m+2*dotB row xs)
def f7q (n:Nat) (l:List Bool):Bool:=(List.range n).all (fun v=>pvF n fun a b=>4*gL l a b-if a=v∧b=v then 1 else 0) && Nat.ble (cntR (f3x n l) [] 0 0) 20
def wits:List (List Nat×Nat):=[([0,1,2],7),([0,3,4],11),([0,6,7],19),([1,3,5],13),([1,6,8],21),([3,6,9],25),([2,4,5],14),([2,7,8],22),([4,7,9],26),([5,8,9],28),([0,2,3,5],15),([0,1,4,5],15),([1,2,3,4],15),([0,2,6,8],23),([0,1,7,8],23),([1,2,6,7],23),([0,4,6,9],27),([0,3,7,9],27),([3,4,6,7],27),([1,5,6,9],29),([1,3,8,9],29),([3,5,6,8],29),([2,5,7,9],30),([2,4,8,9],30),([4,5,7,8],30),([0,2,5,6,9],31),([0,2,3,8,9],31),([0,4,5,6,8],31),([0,1,4,8,9],31),([0,3,5,7,8],31),([0,1,5,7,9],31),([1,2,4,6,9],31),([1,2,3,7,9],31),([1,4,5,6,7],31),([1,3,4,7,8],31),([2,3,4,6,8],31),([2,3,5,6,7],31),([0,1,3,6],31),([0,2,4,7],31),([1,2,5,8],31),([3,4,5,9],31),([6,7,8,9],31)]
def f4X (l:List Bool):List (List Nat×Nat)→Nat
 | []=>0
 | (e,s) :: r=>if e.all fun i=>l.getD i false then s else f4X l r
def g0j (n:Nat) (l:List Bool):Bool:=match f4X l wits with
 | 0=>f7q n l
 | s+1=>decide (dtS (s+1) n (gL l)≤0)
def f3z:Nat→List Bool→(List Bool→Bool)→Bool
 | 0,acc,f=>f acc
 | m+1,acc,f=>f3z m (true :: acc) f && f3z m (false :: acc) f
def prsF:List (Nat×Nat):=[(0,1),(0,2),(1,2),(0,3),(1,3),(2,3),(0,4),(1,4),(2,4),(3,4)]
def patG (n:Nat) (g:Nat→Nat→Int):List Bool:=(prsF.take (n*(n-1) / 2)).map fun p=>decide (g p.1 p.2 = -1)
structure FinG (n:Nat) (g:Nat→Nat→Int):Prop where
 symm:∀ a b,g a b=g b a
 diag:∀ a,g a a=2
 off:∀ a b,a≠b→g a b≤0
 pos:∀ x:Nat→Int,(∃ i,i<n∧x i≠0)→∀ v,v<n→x v*x v<4*bil n g x x
namespace FinG
variable {n:Nat} {g:Nat→Nat→Int} (G:FinG n g)
include G
end FinG
def mvF (x:Nat→Int) (v:Nat) (c:Int) (i:Nat):Int:=if i=v then x i-c else x i
def vx (x:List Int) (i:Nat):Int:=x.getD i 0
def eulV (x y:List Int) (n:Nat):Int:=sm n fun v=>vx x v*vx y v
def eulA (q:Qv) (x y:List Int) (k:Nat):Int:=sm k fun i=>vx x (vx q.f i).toNat*vx y (vx q.t i).toNat
def eul (q:Qv) (x y:List Int):Int:=eulV x y q.v.toNat-eulA q x y q.f.length
theorem b7Z (g:Nat→Int) (x:List Int):∀ k,dotS g x k=sm k fun b=>g b*vx x b
 | 0=>rfl
 | k+1=>by rw[dotS,sm,b7Z g x k];rfl
structure isRt (q:Qv) (x:List Int):Prop where
 len:x.length=q.v.toNat
 nn:∀ i,i<x.length→0≤vx x i
 one:eul q x x=1
theorem A8_ {l:List Int} {k:Nat} {x:Int} (h:l[k]?=some x):vx l k=x:=by rw[vx,l1_,h];rfl
theorem b7z {q:Qv} (hq:isQ q=true) {v:Nat} (hv:v<q.v.toNat) (x:Nat→Int):∀ k,k≤q.f.length →
  (sm q.v.toNat fun b=>ent q k v b*x b)=2*x v-(sm k fun i=>if vx q.f i=v then x (vx q.t i).toNat else 0)-sm k fun i=>if vx q.t i=v then x (vx q.f i).toNat else 0
 | 0,_=>by
  rw[a1q (k:=v) _ hv fun i hi hn=>by rw[R1_,if_neg (fun e=>hn e.symm)];simp,R1_,if_pos rfl];simp[sm]
 | k+1,hk=>by
  obtain⟨_,hl,_,hf,ht⟩:=g4_.1 hq;have h1:q.f[k]?=some q.f[k]:=l2_ (by omega);have h2:q.t[k]?=some q.t[k]:=l2_ (by omega);have r1:=hf _ (l4_ h1);have r2:=ht _ (l4_ h2);obtain⟨u,hu⟩:∃ u:Nat,q.f[k]=(u:Int):=⟨q.f[k].toNat,by omega⟩;obtain⟨w,hw⟩:∃ w:Nat,q.t[k]=(w:Int):=⟨q.t[k].toNat,by omega⟩;rw[hu]at h1 r1;rw[hw]at h2 r2;have e1:vx q.f k=u:=A8_ h1;have e2:vx q.t k=w:=A8_ h2;have e3:(sm q.v.toNat fun b=>ent q (k+1) v b*x b)=(sm q.v.toNat fun b=>ent q k v b*x b)-(sm q.v.toNat fun b=>if v=u∧b=w then x b else 0)-sm q.v.toNat fun b=>if v=w∧b=u then x b else 0:=by
   rw[←b8x,←b8x];apply Q7_;intro b _
   rw[C7_ h1 h2];by_cases c1:v=u∧b=w <;> by_cases c2:v=w∧b=u <;> simp only[if_pos,if_neg,c1,c2] <;> simp <;> grind
  have e4:(sm q.v.toNat fun b=>if v=u∧b=w then x b else 0)=if (u:Int)=v then x w else 0:=by
   rw[a1q (k:=w) _ (by omega) fun i _ hn=>by rw[if_neg (fun e=>hn e.2)]];by_cases c:v=u
   ·rw[if_pos ⟨c,rfl⟩,if_pos (by omega)]
   ·rw[if_neg (fun e=>c e.1),if_neg (by omega)]
  have e5:(sm q.v.toNat fun b=>if v=w∧b=u then x b else 0)=if (w:Int)=v then x u else 0:=by
   rw[a1q (k:=u) _ (by omega) fun i _ hn=>by rw[if_neg (fun e=>hn e.2)]];by_cases c:v=w
   ·rw[if_pos ⟨c,rfl⟩,if_pos (by omega)]
   ·rw[if_neg (fun e=>c e.1),if_neg (by omega)]
  rw[e3,b7z hq hv x k (by omega),e4,e5];simp only[sm,e1,e2,l5_];omega
theorem d1q {x:Rp} (hx:f1_ x=true) {n:Nat} (hl:∀ k,k<x.q.f.length→¬ (srN x.q k=n∧tgN x.q k=n)):∀ m,m≤x.q.f.length →
  (sm m fun i=>if vx x.q.f i=n then vx x.d (vx x.q.t i).toNat else 0)+(sm m fun i=>if vx x.q.t i=n then vx x.d (vx x.q.f i).toNat else 0)=(boN (tch x.q (n:Int)) (fun k=>dmN x.d (owN x n k)) m:Int)
 | 0,_=>rfl
 | m+1,hm=>by
  have ih:=d1q hx hl m (by omega);have hlm:=hl m (by omega);obtain⟨ef,et,lf,lt,_⟩:=(Fit2.rfl1 (X:=x) (Y:=x) ⟨hx,hx,rfl,rfl⟩).arr (show m<x.q.f.length by omega);have df:=((Fit2.rfl1 (X:=x) (Y:=x) ⟨hx,hx,rfl,rfl⟩).dim lf).1;have dt:=((Fit2.rfl1 (X:=x) (Y:=x) ⟨hx,hx,rfl,rfl⟩).dim lt).1;have vf:vx x.q.f m=(srN x.q m:Int):=A8_ ef;have vt:vx x.q.t m=(tgN x.q m:Int):=A8_ et;have wf:vx x.d (srN x.q m)=(dmN x.d (srN x.q m):Int):=A8_ df;have wt:vx x.d (tgN x.q m)=(dmN x.d (tgN x.q m):Int):=A8_ dt;have hti:=o4_ hx (n:=n) (show m<x.q.f.length by omega);rw[sm,sm,boN,vf,vt,l5_,l5_,wf,wt];by_cases h:tch x.q (n:Int) m=true
  ·rw[if_pos h];rcases hti.1 h with h1 | h1
   ·have h2:tgN x.q m≠n:=fun e=>hlm ⟨h1,e⟩
    rw[if_pos (by omega),if_neg (by omega),owN,if_pos h1];push_cast;omega
   ·have h2:srN x.q m≠n:=fun e=>hlm ⟨e,h1⟩
    rw[if_neg (by omega),if_pos (by omega),owN,if_neg h2];push_cast;omega
  ·rw[if_neg h,if_neg (fun e=>h (hti.2 (.inl (by omega)))),if_neg (fun e=>h (hti.2 (.inr (by omega))))];omega
theorem T2_ {x:Rp} (hx:f1_ x=true) {n C:Nat} (hn:n<x.d.length) (hC:x.d[n]?=some (C:Int)) (hl:∀ k,k<x.q.f.length→¬ (srN x.q k=n∧tgN x.q k=n)) :
  w6_ x.q x.d (n:Int)=(x.d.set n ((atN x (n:Int) x.q.f.length:Int)-C),true):=by
 have hr:=b8_.1 hx;have had:=b7_.1 hr.2.1;have hq:=had.1;have hlen:(x.d.length:Int)=x.q.v:=by have:=had.2;omega
 have hxx:Fit2 x x:=⟨hx,hx,rfl,rfl⟩;have hnum:C9_ x.q x.d=true:=X3_.2 ⟨hq,hlen,fun y hy=>by
  obtain⟨k,hk⟩:=List.mem_iff_getElem?.1 hy;have hkl:=b0_ hk;obtain⟨h1,_,h2,_⟩:=hxx.dim hkl;rw[h1]at hk;injection hk with hk
  omega⟩
 have hr0:inR (n:Int) 0 (x.q.v-1)=true:=t0_.2 ⟨by omega,by omega⟩;have hloop:G3_ x.q (n:Int)=false:=by
  rcases h:G3_ x.q (n:Int) with _ | _
  ·rfl
  ·rw[G3_,List.any_eq_true]at h;obtain⟨⟨a,b⟩,hm,h2⟩:=h;simp only[l9_,beq_iff_eq]at h2;obtain⟨k,hk⟩:=List.mem_iff_getElem?.1 hm;rw[List.getElem?_zip_eq_some]at hk;have hkl:=b0_ hk.1;obtain⟨ef,et,_⟩:=hxx.arr hkl;have e1:=hk.1;have e2:=hk.2;simp only at e1 e2;rw[ef]at e1;rw[et]at e2;injection e1 with e1
   injection e2 with e2
   exact absurd ⟨by omega,by omega⟩ (hl k hkl)
 have hV:x.q.v.toNat=x.d.length:=by omega
 have hrow:=b7z hq (v:=n) (by omega) (vx x.d) x.q.f.length (l_ _);have hbo:=d1q hx hl x.q.f.length (l_ _);rw[←a7j hx x.q.f.length (l_ _)]at hbo;have hvn:vx x.d n=(C:Int):=A8_ hC;rw[w6_,hnum,hr0,hloop];simp only[Bool.not_false,Bool.and_true,if_true,l5_];rw[a5z,b7Z,←hV,hrow,←vx,hvn];congr 2
 omega
theorem c0Z {x:Rp} {v:Int} (h:(rsP x v).2=true):∃ n:Nat,v=(n:Int)∧inOk x (n:Int)=true∧d4_ (rvQ x.q (n:Int)) (x.d.set n (((ksL x (n:Int)).length:Nat):Int))=true:=by
 by_cases hok:inOk x v=true
 ·have hok':=hok;simp only[inOk,l9_]at hok';obtain⟨n,_,en,_⟩:=k5_ hok'.1 hok'.2;subst en;refine⟨n,rfl,hok,?_⟩;rw[rsP,if_pos hok,rfP,l5_]at h;by_cases hd:d4_ (rvQ x.q (n:Int)) (x.d.set n (((ksL x (n:Int)).length:Nat):Int))=true
  ·exact hd
  ·rw[if_neg hd]at h;cases h
 ·rw[rsP,if_neg hok]at h;cases h
theorem c7z {x:Rp} {v:Int} (h:(rsP x v).2=true) (hb:hsIn x v=false) :
  (w6_ x.q x.d v).1=(rsP x v).1.d∧Fit2 (rsP x v).1 (rsP x v).1∧Fit2 x x∧homN (rsP x v).1 (rsP x v).1=homN x x∧s9_ (rsP x v).1 v=false ∧
   (rsrP (rsP x v).1 v).2=true∧(rsrP (rsP x v).1 v).1.d=x.d∧∃ F G,IsoF (rsrP (rsP x v).1 v).1 x F G:=by
 obtain⟨n,rfl,hok,hd⟩:=c0Z h;obtain⟨y,e1,e2,e3,e4,z,e5,e6,F,G,e7⟩:=b1X hok hb hd;obtain⟨C,N,K,M,B,S,L,hC,hn,hK,hKN,hN,_⟩:=W0_ hok hb hd;have hok':=hok;simp only[inOk,l9_]at hok';obtain⟨hx,hv⟩:=hok';have hrd:=T2_ hx hn hC fun k hk e=>b5j hx hv hk e.1
 have hyd:y.d=x.d.set n (K:Int):=by
  rw[rsP,if_pos hok,rfP,l5_,if_pos hd]at e1;injection e1 with e1
  rw[←e1,hK];show x.d.set (n:Int).toNat _=_;rw[l5_]
 rw[e1];refine⟨?_,e4,⟨hx,hx,rfl,rfl⟩,e3,e2,?_,?_,F,G,?_⟩
 ·rw[hrd];show x.d.set n _=y.d;rw[hyd];congr 1
  omega
 ·simp only;rw[e5]
 ·simp only;rw[e5];exact e6
 ·simp only;rw[e5];exact e7
theorem b7J {x:Rp} {v:Int} (h:(rsrP x v).2=true):∃ n:Nat,v=(n:Int)∧k0_ x (n:Int)=true∧d4_ (rvQ x.q (n:Int)) (x.d.set n ((srK x (n:Int):Nat):Int))=true:=by
 by_cases hok:k0_ x v=true
 ·have hok':=hok;simp only[k0_,l9_]at hok';obtain⟨n,_,en,_⟩:=k5_ hok'.1 hok'.2;subst en;refine⟨n,rfl,hok,?_⟩;rw[rsrP,if_pos hok,rfP,l5_]at h;by_cases hd:d4_ (rvQ x.q (n:Int)) (x.d.set n ((srK x (n:Int):Nat):Int))=true
  ·exact hd
  ·rw[if_neg hd]at h;cases h
 ·rw[rsrP,if_neg hok]at h;cases h
theorem d9Q {x:Rp} {v:Int} (h:(rsrP x v).2=true) (hb:s9_ x v=false) :
  (w6_ x.q x.d v).1=(rsrP x v).1.d∧Fit2 (rsrP x v).1 (rsrP x v).1∧Fit2 x x∧homN (rsrP x v).1 (rsrP x v).1=homN x x:=by
 obtain⟨n,rfl,hok,hd⟩:=b7J h;obtain⟨C,N,K,M,B,S,L,hK,hn,hC,hKC,hN,st⟩:=c6Z hok hb hd;have hok':=hok;simp only[k0_,l9_]at hok';obtain⟨hx,hv⟩:=hok';have hrd:=T2_ hx hn hK fun k hk e=>b6Z hx hv hk e.2
 have e1:rsrP x (n:Int)=(rfK x (n:Int) C (gSrc x (n:Int) C (srF x (n:Int))) x.q.f.length,true):=by
  rw[rsrP,if_pos hok,rfP,l5_,if_pos hd,hC]
 rw[e1];refine⟨?_,st.rr,st.yy,st.eq⟩;rw[hrd];show x.d.set n _=x.d.set (n:Int).toNat _;rw[l5_];congr 1
 omega
def pkF (F:Nat→Nat→Int) (o a b i j:Nat):Int:=if i<a∨(i=a∧j<b) then F j (o+i) else 0
theorem f8z (F:Nat→Nat→Int) (o r c:Nat):mxF r c (fun _ _=>0)=mxF r c (pkF F o 0 0):=r2_ fun i j _ _=>by simp[pkF]
theorem d5x {F:Nat→Nat→Int} {o r c a b:Nat} (ha:a<r) (hb:b<c):(flat r c (pkF F o a b)).set (a*c+b) (F b (o+a))=flat r c (pkF F o a (b+1)):=by
 rw[j8_ _ _ ha hb];refine c1_ fun i j _ _=>?_
 by_cases h:i=a∧j=b
 ·obtain⟨rfl,rfl⟩:=h;rw[if_pos ⟨rfl,rfl⟩,pkF,if_pos (by omega)]
 ·rw[if_neg h];unfold pkF;by_cases h2:i<a∨(i=a∧j<b)
  ·rw[if_pos h2,if_pos (by omega)]
  ·rw[if_neg h2,if_neg (by omega)]
theorem c2J (F:Nat→Nat→Int) (o r c a:Nat):mxF r c (pkF F o a c)=mxF r c (pkF F o (a+1) 0):=r2_ fun i j _ hj=>by
 unfold pkF;by_cases h2:i<a∨(i=a∧j<c)
 ·rw[if_pos h2,if_pos (by omega)]
 ·rw[if_neg h2,if_neg (by omega)]
theorem d3z (F:Nat→Nat→Int) (o r c:Nat):mxF r c (pkF F o r 0)=mxF r c fun a b=>F b (o+a):=r2_ fun i j hi _=>by
 rw[pkF,if_pos (.inl hi)]
def rsD (x:Rp) (v:Int) (K:Nat):List Int:=x.d.set v.toNat K
def rsM (x:Rp) (v:Int) (K:Nat) (F:Nat→Nat→Int) (k i:Nat):Mx:=if i<k then (if tch x.q v i=true then s0_ x v K F i else x.m.getD i mx0) else zmAt (rvQ x.q v) (rsD x v K) i
def rsI (x:Rp) (v:Int) (K:Nat) (F:Nat→Nat→Int) (k a b i:Nat):Mx:=if i=k then mxF (othN x v k) K (pkF F (atN x v k) a b) else rsM x v K F k i
theorem d7X (x:Rp) (v:Int) (K:Nat) (F:Nat→Nat→Int):msF x.q.f.length (rsM x v K F x.q.f.length)=msF x.q.f.length (rfM x v (s0_ x v K F) x.q.f.length):=i5_ fun i hi=>by
 rw[rsM,if_pos hi,rfM];by_cases h:tch x.q v i=true
 ·rw[if_pos h,if_pos ⟨hi,h⟩]
 ·rw[if_neg h,if_neg fun e=>h e.2]
theorem c4Z {x:Rp} {v:Int} {K k:Nat} {F:Nat→Nat→Int} {m:Mx} (h:tch x.q v k=false) (hm:x.m[k]?=some m):(msF x.q.f.length (rsM x v K F k)).set k m=msF x.q.f.length (rsM x v K F (k+1)):=by
 rw[I8_];refine i5_ fun i _=>?_
 by_cases e:i=k
 ·subst e;rw[if_pos rfl,rsM,if_pos (by omega),if_neg (by rw[h];decide),l1_,hm];rfl
 ·rw[if_neg e];unfold rsM;by_cases e2:i<k
  ·rw[if_pos e2,if_pos (show i<k+1 by omega)]
  ·rw[if_neg e2,if_neg (show ¬ i<k+1 by omega)]
theorem f8X {x:Rp} {v:Int} {K k:Nat} {F:Nat→Nat→Int} (hz:zmAt (rvQ x.q v) (rsD x v K) k=mxF (othN x v k) K fun _ _=>0):msF x.q.f.length (rsM x v K F k)=msF x.q.f.length (rsI x v K F k 0 0):=i5_ fun i _=>by
 unfold rsI;by_cases e:i=k
 ·subst e;rw[if_pos rfl,rsM,if_neg (by omega),hz,f8z]
 ·rw[if_neg e]
theorem f4j (x:Rp) (v:Int) (K k:Nat) (F:Nat→Nat→Int) (a b:Nat) (hk:k<x.q.f.length):(msF x.q.f.length (rsI x v K F k a b))[k]?=some (mxF (othN x v k) K (pkF F (atN x v k) a b)):=by
 rw[x8_ _ hk,rsI,if_pos rfl]
theorem d4q {x:Rp} {v:Int} {K k:Nat} {F:Nat→Nat→Int} {a b:Nat} (ha:a<othN x v k) (hb:b<K) :
  (msF x.q.f.length (rsI x v K F k a b)).set k ⟨(othN x v k:Int),(K:Int),(flat (othN x v k) K (pkF F (atN x v k) a b)).set (a*K+b) (F b (atN x v k+a))⟩=msF x.q.f.length (rsI x v K F k a (b+1)):=by
 rw[I8_];refine i5_ fun i _=>?_
 unfold rsI;by_cases e:i=k
 ·rw[if_pos e,if_pos e,d5x ha hb];rfl
 ·rw[if_neg e,if_neg e,if_neg e]
theorem c3q (x:Rp) (v:Int) (K k:Nat) (F:Nat→Nat→Int) (a:Nat):msF x.q.f.length (rsI x v K F k a K)=msF x.q.f.length (rsI x v K F k (a+1) 0):=i5_ fun i _=>by
 unfold rsI;by_cases e:i=k
 ·rw[if_pos e,if_pos e,c2J]
 ·rw[if_neg e,if_neg e]
theorem f0z {x:Rp} {v:Int} {K k:Nat} {F:Nat→Nat→Int} (h:tch x.q v k=true):msF x.q.f.length (rsI x v K F k (othN x v k) 0)=msF x.q.f.length (rsM x v K F (k+1)):=i5_ fun i _=>by
 unfold rsI;by_cases e:i=k
 ·subst e;rw[if_pos rfl,rsM,if_pos (by omega),if_pos h,d3z,s0_]
 ·rw[if_neg e];unfold rsM;by_cases e2:i<k
  ·rw[if_pos e2,if_pos (show i<k+1 by omega)]
  ·rw[if_neg e2,if_neg (show ¬ i<k+1 by omega)]
theorem d4z {x:Rp} {n k nf yf K:Nat} (hk:k<x.q.f.length) (ef:x.q.f[k]?=some (nf:Int)) (et:x.q.t[k]?=some (n:Int)) (df:x.d[nf]?=some (yf:Int)) (hne:nf≠n) (hn:n<x.d.length):zmAt (rvQ x.q (n:Int)) (rsD x (n:Int) K) k=mxF yf K fun _ _=>0:=by
 have ht:tch x.q (n:Int) k=true:=by rw[p8_ ef et];simp
 have e1:(rvQ x.q (n:Int)).t.getD k 0=(nf:Int):=by
  rw[rvQ,rvK,c9_ _ hk,rvT,if_pos ⟨hk,ht⟩,l1_,ef];rfl
 have e2:(rvQ x.q (n:Int)).f.getD k 0=(n:Int):=by
  rw[rvQ,rvK,c9_ _ hk,rvF,if_pos ⟨hk,ht⟩,l1_,et];rfl
 have e3:dAt (rsD x (n:Int) K) (nf:Int)=(yf:Int):=by
  rw[dAt,rsD,l5_,l5_,l1_,List.getElem?_set,if_neg (by omega),df];rfl
 have e4:dAt (rsD x (n:Int) K) (n:Int)=(K:Int):=by
  rw[dAt,rsD,l5_,l1_,List.getElem?_set,if_pos rfl,if_pos hn];rfl
 rw[zmAt,e1,e2,e3,e4,m6_]
theorem p7_ {w:World} {ops:Array Oper} {rest:List Oper} {o:Oper} {a:Act} {Q:Exit→Act→World→Prop} (hgd:o.guard=none) (s x:Operand)
  (ho:o.op = .call { callee:=.builtin .append,args:=#[s,x],argTypes:=#[24,24] })
  (g lo B:Nat) (cs:Array Value) (hs:a.eval s = .slice (some ⟨g,0,none⟩) 0 0) (hg:Blk w g 3 cs) (hcs:cs.size=0) (hlo:lo≤g) (A:Option Addr) (c:Nat) (news:List Int) (hx:a.eval x = .slice A news.length c) (hr:SlI w B (.slice A news.length c) news)
  (h:∀ v' w',OwnI w' lo v' news→(v'.ownBlock=some g∨∀ k,v'.ownBlock=some k→w.heap.size≤k)→Below w.heap.size w w'→wpList Tryz.prog ops Q rest (a.put o.dst v') w'):wpList Tryz.prog ops Q (o :: rest) a w:=by
 obtain⟨i0,hi,hz0,hz1,hz2⟩:=info_parts v5_;have hn:=hr;obtain⟨_,_,_,_,_,hn,hcell⟩:=hn;have hI:=SlI.i64 hr;refine wpList_plain hgd fun K hK=>?_
 by_cases hp:0<news.length
 ·obtain⟨b,of,eA,hb,hc⟩:=hcell hp;have hA:=z8_.of_sl hr;obtain⟨hl,hnews⟩:=hA;obtain⟨b',of',eA',hc'⟩:=hnews.resolve_left (by omega);subst eA';have hadd:∀ j,(⟨b',of',none⟩:Addr).add j=⟨b',of'+j,none⟩:=by intro j;unfold Addr.add;split <;> simp_all
  obtain⟨v',w',hrun,hown,hgr⟩:=run_append_arg_grows (P:=Tryz.prog) w 24 o.type 3 i0 _ 1 8 Tryz.underlying24 hi hz0 hz1 hz2 rfl (by decide) ⟨g,0,none⟩ 0 0 [] (by simp) (by intro j u hj;simp at hj) ⟨b',of',none⟩ news.length c (news.map (Value.int .i64)) hl (fun j u hj=>by rw[hadd];exact hc' j u hj) (by omega) (by simp only[maxLen];omega) (by omega);unfold Oper.wp execOp;simp only[ho,resolve,invoke,builtin,Sem.run_bind,Sem.run_pure,Result.andThen_ok,List.map_toArray,List.map_cons,List.map_nil,hs,hx,hrun];have hgl:=hg.lt;have hOw:OwnI w' w.heap.size v' news:=⟨by simpa using hown,hn,hI⟩;refine hK _ _ (h v' w' (hOw.lower (by omega)) (.inr fun k hk=>(hOw.lt k hk).1) ⟨hgr.os,hgr.tape,hgr.output,hgr.size,fun k hk=>hgr.block k hk (by simp)⟩)
 ·have h0:news=[]:=m1_ (by omega);subst h0;have hrun:(Builtin.append_ #[24,24] o.type #[.slice (some ⟨g,0,none⟩) 0 0,.slice A 0 c]).run Tryz.prog w = .ok (.slice (some ⟨g,0,none⟩) 0 0) w:=by
   cases A <;> simp[Builtin.append_,run_underlying (P:=Tryz.prog) Tryz.underlying24,sizeOf,typeInfo,hi,Builtin.lenOf,Builtin.firstCells,storeCells,loadCells,loadCellsFrom]
  simp only[List.length_nil]at hx;unfold Oper.wp execOp;simp only[ho,resolve,invoke,builtin,Sem.run_bind,Sem.run_pure,Result.andThen_ok,List.map_toArray,List.map_cons,List.map_nil,hs,hx,hrun];refine hK _ _ (h _ w ?_ (.inl (by simp[Value.ownBlock])) br_);have:=hg.own (base:=lo) (n:=0) (cap:=0) (size:=1) hlo (l_ _) (by simp only[maxLen];omega) (by omega);exact⟨by simpa using this,by simp,by simp⟩
theorem c1z {w:World} {lo:Nat} {a b:Value} {l m:List Int} (ha:OwnI w lo a l) (hb:OwnI w lo b m) (h:∀ k,a.ownBlock=some k→b.ownBlock≠some k):Fam w lo w.heap.size [(a,l),(b,m)]:=by
 refine⟨fun p hp=>?_,?_⟩
 ·simp only[List.mem_cons,List.not_mem_nil,or_false]at hp;rcases hp with rfl | rfl
  ·exact a9_.of_own ha
  ·exact a9_.of_own hb
 ·simp only[List.pairwise_cons,List.mem_cons,List.not_mem_nil,or_false,forall_eq,false_implies,implies_true,List.Pairwise.nil,and_true];rcases hA:a.ownBlock with _ | x
  ·exact .inl rfl
  ·exact .inr fun e=>h x hA e.symm
theorem N4_ (u:Value) (q:Qv) (w0:World) (hu:QvR w0 w0.heap.size u q) :
  Calls Tryz.prog 83 #[u] w0 fun e w'=>∃ v,e = .returned v∧d5_ w' w0.heap.size w'.heap.size v q∧Below w0.heap.size w0 w':=by
 obtain⟨A,c,C,d,rfl,hf,ht,hr,lf,lt⟩:=hu.open_;clear hu;obtain⟨W,hW,g0,k1,k2⟩:=b_4 w0 #[.int .i64 q.v,.slice A q.f.length c,.slice C q.t.length d] 26 #[.int .i64 0,.slice none 0 0,.slice none 0 0] 26;have sz:W.heap.size=w0.heap.size+1+1:=by rw[hW];simp
 have SZ:=h_ sz;clear sz;replace hf:=SlI.next g0 hf;replace ht:=SlI.next g0 ht;go_enter Tryz.func83,Tryz.ntmps83
 go_wp2;rw[←hW];clear hW;refine a8_ (by kernel_rfl) [.eq (.pointer (some ⟨w0.heap.size,0,none⟩)),.eq (.int .i64 q.v),rel 2 (fun u lo hi w=>∃ g,u = .slice (some ⟨g,0,none⟩) 0 0∧(lo≤g∧g<hi)∧W.heap.size≤g∧Blk w g 3 #[]),.eq (.pointer (some ⟨w0.heap.size,1,none⟩)),.eq (.slice A q.f.length c),.rel (fun x w=>OwnI w W.heap.size (x.v 5) q.f∧∀ k,(x.v 5).ownBlock=some k→(x.lo 2≤k∧k<x.hi 2)∨(x.lo 5≤k∧k<x.hi 5)),rel 6 (fun u lo hi w=>∃ g,u = .slice (some ⟨g,0,none⟩) 0 0∧(lo≤g∧g<hi)∧W.heap.size≤g∧Blk w g 3 #[]),.eq (.pointer (some ⟨w0.heap.size,2,none⟩)),.eq (.slice C q.t.length d),.rel (fun x w=>OwnI w W.heap.size (x.v 9) q.t∧∀ k,(x.v 9).ownBlock=some k→(x.lo 6≤k∧k<x.hi 6)∨(x.lo 9≤k∧k<x.hi 9)),.rel (fun x w=>x.v 10 = .agg #[.int .i64 q.v,x.v 5,x.v 9])] [[],[0],[],[],[3],[2,3,4],[],[],[7],[2,3,4,5,6,7,8],[0,1,2,3,4,5,6,7,8,9],[0,1,2,3,4,5,6,7,8,9,10]] 11 (by kernel_rfl) ⟨trivial,trivial,a4_ (fun u lo hi w w' ⟨g,e,h1,h2,h3⟩ hb=>⟨g,e,h1,h2,h3.call hb⟩),trivial,trivial,fun x w w' ⟨h1,h2⟩ hb=>⟨h1.below hb,h2⟩,a4_ (fun u lo hi w w' ⟨g,e,h1,h2,h3⟩ hb=>⟨g,e,h1,h2,h3.call hb⟩),trivial,trivial,fun x w w' ⟨h1,h2⟩ hb=>⟨h1.below hb,h2⟩,fun x w w' h hb=>h,trivial⟩ ⟨?_,?_,?_,?_,?_,?_,?_,?_,?_,?_,?_,trivial⟩ ?_;iterate 11 (intro x w hb hk Q' hQ;have he:=k_e hk;simp only[k_s]at he;simp only[netE]at hQ⊢;(try simp only[he]at hQ⊢);(try clear he);rotate_left)
 rotate_left
 ·clear hk;go_wp2;exact hQ _ _ br_ rfl
 ·clear hk;have c0:=(k1.call hb).cell' (i:=0) rfl;go_wp2;exact hQ _ _ br_ rfl
 ·clear hk;have hbs:=hb.size;go_wp2;exact hQ _ _ (a2_ _ _) ⟨_,rfl,⟨l_ _,by show w.heap.size<(w.alloc _).heap.size;simp⟩,hbs,Blk.new _ _ _⟩
 ·clear hk;go_wp2;exact hQ _ _ br_ rfl
 ·clear hk;have c1:=(k1.call hb).cell' (i:=1) rfl;go_wp2;exact hQ _ _ br_ rfl
 ·have h2:∃ g,(x.v 2) = .slice (some ⟨g,0,none⟩) 0 0∧((x.lo 2)≤g∧g<(x.hi 2))∧W.heap.size≤g∧Blk w g 3 #[]:=(hk 2 (by decide)).1;have s2:=(hk 2 (by decide)).2;clear hk;obtain⟨g,e2,hg1,hg,hB⟩:=h2;rw[e2]at hQ⊢;refine p7_ (by rfl) (.tmp 5) (.tmp 7) (by rfl) g W.heap.size w.heap.size #[] (by rfl) hB rfl hg A c q.f (by rfl) (SlI.next hb hf) ?_;intro v' w' ho ho2 hb';refine hQ v' w' hb' ⟨ho,fun k hk=>?_⟩;replace hk:v'.ownBlock=some k:=hk;rcases ho2 with ho2 | ho2
  ·rw[ho2]at hk;injection hk with hk;subst hk;exact .inl hg1
  ·exact .inr ⟨ho2 k hk,(ho.lt k hk).2⟩
 ·clear hk;have hbs:=hb.size;go_wp2;exact hQ _ _ (a2_ _ _) ⟨_,rfl,⟨l_ _,by show w.heap.size<(w.alloc _).heap.size;simp⟩,hbs,Blk.new _ _ _⟩
 ·clear hk;go_wp2;exact hQ _ _ br_ rfl
 ·clear hk;have c2:=(k1.call hb).cell' (i:=2) rfl;go_wp2;exact hQ _ _ br_ rfl
 ·have h2:∃ g,(x.v 2) = .slice (some ⟨g,0,none⟩) 0 0∧((x.lo 2)≤g∧g<(x.hi 2))∧W.heap.size≤g∧Blk w g 3 #[]:=(hk 2 (by decide)).1;have h5:OwnI w W.heap.size (x.v 5) q.f∧∀ k,(x.v 5).ownBlock=some k→(x.lo 2≤k∧k<x.hi 2)∨(x.lo 5≤k∧k<x.hi 5):=(hk 5 (by decide)).1;have h6:∃ g,(x.v 6) = .slice (some ⟨g,0,none⟩) 0 0∧((x.lo 6)≤g∧g<(x.hi 6))∧W.heap.size≤g∧Blk w g 3 #[]:=(hk 6 (by decide)).1;have s2:=(hk 2 (by decide)).2;have s5:=(hk 5 (by decide)).2;have s6:=(hk 6 (by decide)).2;clear hk;obtain⟨g,e6,hg1,hg,hB⟩:=h6;rw[e6]at hQ⊢;refine p7_ (by rfl) (.tmp 9) (.tmp 11) (by rfl) g W.heap.size w.heap.size #[] (by rfl) hB rfl hg C d q.t (by rfl) (SlI.next hb ht) ?_;intro v' w' ho ho2 hb';refine hQ v' w' hb' ⟨ho,fun k hk=>?_⟩;replace hk:v'.ownBlock=some k:=hk;rcases ho2 with ho2 | ho2
  ·rw[ho2]at hk;injection hk with hk;subst hk;exact .inl hg1
  ·exact .inr ⟨ho2 k hk,(ho.lt k hk).2⟩
 ·have h2:∃ g,(x.v 2) = .slice (some ⟨g,0,none⟩) 0 0∧((x.lo 2)≤g∧g<(x.hi 2))∧W.heap.size≤g∧Blk w g 3 #[]:=(hk 2 (by decide)).1;have h5:OwnI w W.heap.size (x.v 5) q.f∧∀ k,(x.v 5).ownBlock=some k→(x.lo 2≤k∧k<x.hi 2)∨(x.lo 5≤k∧k<x.hi 5):=(hk 5 (by decide)).1;have h6:∃ g,(x.v 6) = .slice (some ⟨g,0,none⟩) 0 0∧((x.lo 6)≤g∧g<(x.hi 6))∧W.heap.size≤g∧Blk w g 3 #[]:=(hk 6 (by decide)).1;have h9:OwnI w W.heap.size (x.v 9) q.t∧∀ k,(x.v 9).ownBlock=some k→(x.lo 6≤k∧k<x.hi 6)∨(x.lo 9≤k∧k<x.hi 9):=(hk 9 (by decide)).1;have s2:=(hk 2 (by decide)).2;have s5:=(hk 5 (by decide)).2;have s6:=(hk 6 (by decide)).2;have s9:=(hk 9 (by decide)).2;clear hk;obtain⟨s4A,s4c,e4,_,_⟩:=h5.1.form;obtain⟨s7A,s7c,e7,_,_⟩:=h9.1.form;have hQ':=hQ (.agg #[.int .i64 q.v,x.v 5,x.v 9]) w br_ rfl;rw[e4,e7]at hQ'⊢;go_wp2;exact hQ'
 ·intro x w hb hk hiv hdj;have h2:∃ g,(x.v 2) = .slice (some ⟨g,0,none⟩) 0 0∧((x.lo 2)≤g∧g<(x.hi 2))∧W.heap.size≤g∧Blk w g 3 #[]:=hk 2 (by decide);have h5:OwnI w W.heap.size (x.v 5) q.f∧∀ k,(x.v 5).ownBlock=some k→(x.lo 2≤k∧k<x.hi 2)∨(x.lo 5≤k∧k<x.hi 5):=hk 5 (by decide);have h6:∃ g,(x.v 6) = .slice (some ⟨g,0,none⟩) 0 0∧((x.lo 6)≤g∧g<(x.hi 6))∧W.heap.size≤g∧Blk w g 3 #[]:=hk 6 (by decide);have h9:OwnI w W.heap.size (x.v 9) q.t∧∀ k,(x.v 9).ownBlock=some k→(x.lo 6≤k∧k<x.hi 6)∨(x.lo 9≤k∧k<x.hi 9):=hk 9 (by decide);have h10:x.v 10 = .agg #[.int .i64 q.v,x.v 5,x.v 9]:=hk 10 (by decide);have he:=k_g hk [0,1,3,4,7,8];simp only[k_s]at he;simp only[netE,he];clear he hk;have d1:=hdj 2 6 (by decide) (by decide) (by decide);have d2:=hdj 2 9 (by decide) (by decide) (by decide);have d3:=hdj 5 6 (by decide) (by decide) (by decide);have d4:=hdj 5 9 (by decide) (by decide) (by decide);have hQ:d5_ w W.heap.size w.heap.size (.agg #[.int .i64 q.v,x.v 5,x.v 9]) q:=⟨_,_,rfl,c1z h5.1 h9.1 (fun k hk e=>by
   have a1:=h5.2 k hk;have a2:=h9.2 k e;omega),hr⟩
  obtain⟨s4A,s4c,e4,_,_⟩:=h5.1.form;obtain⟨s7A,s7c,e7,_,_⟩:=h9.1.form;rw[e4,e7]at hQ h10;rw[h10];have k2':=k2.call hb;have f2:=k2'.frozen;obtain⟨r0,r1,r2⟩:=c_3 k2';have gf:=g0.trans (hb.mono g0.size);have HBS:=h_ hb.size;have HQ:=h_ hQ;clear h2 h5 h6 h9 h10 e4 e7 k1 k2 hb hf ht hQ hdj hiv d1 d2 d3 d4;go_wp2;have sz:=SZ.out;have hbs:=HBS.out;refine bodyPost_ret (v:=.agg #[.int .i64 q.v,.slice s4A q.f.length s4c,.slice s7A q.t.length s7c]) (by simp[results,go_sem,r0,r1,r2]) rfl ⟨_,rfl,d5_.wider (lo:=W.heap.size) (hi:=w.heap.size) ?_ (by omega) (by simp),((gf.setCell (by simp) _).setCell (by simp) _).setCell (by simp) _⟩;exact ((HQ.out.setLow (by simp;omega) _).setLow (by simp;omega) _).setLow (by simp;omega) _
theorem u4_ (u:Value) (q:Qv) (v:Int) (w0:World) (hu:QvR w0 w0.heap.size u q) (hq:isQ q=true) (hs:endV q.t q v=true∨endV q.f q v=true) :
  Calls Tryz.prog 32 #[u,.int .i64 v] w0 fun e w'=>∃ r,e = .returned (.tuple #[r,.bool true])∧d5_ w' w0.heap.size w'.heap.size r (rvQ q v)∧Below w0.heap.size w0 w':=by
 have hu':=hu;obtain⟨A,c,C,d,rfl,hf,hT,hr,lf,lt⟩:=hu.open_;clear hu;have hlen:=(g4_.1 hq).2.1;have hl6:=(g4_.1 hq).2.2.1;obtain⟨W,hW,g0,k1,k2⟩:=b_4 w0 #[.int .i64 q.v,.slice A q.f.length c,.slice C q.t.length d] 26 #[.int .i64 0,.slice none 0 0,.slice none 0 0] 26;have sz:W.heap.size=w0.heap.size+1+1:=by rw[hW];simp
 have SZ:=h_ sz;have HQV:=h_ (QvR.next g0 hu');have HF:=h_ (SlI.next g0 hf);have HT:=h_ (SlI.next g0 hT);have HQ:=h_ hq;have HL:=h_ hlen;obtain⟨c0,c1,c2⟩:=c_3 k1;clear hu' hf hT sz hq hlen;obtain⟨V,hV⟩:∃ V:Nat,q.v=(V:Int):=⟨q.v.toNat,by have:=(g4_.1 HQ.out).1;omega⟩;have hVt:q.v.toNat=V:=by omega
 have HM1:=h_ (u2_ q.t V q v hV);have HM2:=h_ (u2_ q.f V q v hV);have HVT:=h_ hVt;clear hV hVt;rcases h1:endV q.t q v with _ | _
 ·have h2:endV q.f q v=true:=by rw[h1]at hs;simpa using hs
  have H1:=h_ h1;have H2:=h_ h2;clear h1 h2 hs;go_enter Tryz.func32,Tryz.ntmps32
  go_wp2_with fail
  rw[←hW];clear hW;refine (q8_ _ q _ HQV.out HQ.out).mono ?_;rintro e wa ⟨va,rfl,hLa,hba⟩;rw[HVT.out]at hLa;have HLa:=h_ hLa;obtain⟨La,la,ea,_⟩:=hLa;subst ea;go_wp2_with fail
  refine (i6_ _ _ v _ HLa.out).mono ?_;rintro e wb ⟨rfl,hbb⟩;rw[HM1.out,H1.out];have gb:=a6_ hba hbb;have ka:=k1.call gb;clear c0 c1 c2;obtain⟨c0,c1,c2⟩:=c_3 ka;clear ka hba hbb HLa;go_wp2_with fail
  refine (B1_ _ q _ (QvR.next gb HQV.out) HQ.out).mono ?_;rintro e wc ⟨vc,rfl,hLc,hbc⟩;rw[HVT.out]at hLc;have HLc:=h_ hLc;obtain⟨Lc,lc,ec,_⟩:=hLc;subst ec;go_wp2_with fail
  refine (i6_ _ _ v _ HLc.out).mono ?_;rintro e wd ⟨rfl,hbd⟩;rw[HM2.out,H2.out];have GZ:=h_ (a6_ (a6_ gb hbc) hbd);clear gb hbc hbd HLc;have kz1:=k1.call GZ.out;clear c0 c1 c2;obtain⟨c0,c1,c2⟩:=c_3 kz1;clear kz1;go_wp2_with fail
  refine (N4_ _ q _ (QvR.next GZ.out HQV.out)).mono ?_;rintro e w3 ⟨v3,rfl,hC,hb3⟩;obtain⟨FA,fc,TA,tc,ev⟩:=hC.form;subst ev;obtain⟨W4,hW4,ga,kO⟩:=b_1 w3 #[.int .i64 q.v,.slice FA q.f.length fc,.slice TA q.t.length tc] 26;have hC4:d5_ W4 wd.heap.size w3.heap.size (.agg #[.int .i64 q.v,.slice FA q.f.length fc,.slice TA q.t.length tc]) (rvK q v 0):=by rw[c3Z HL.out.symm v];exact hC.below ga
  have gz4:=a6_ hb3 ga;have gW4:=GZ.out.trans (gz4.mono GZ.out.size);have sz4:=GZ.out.size;have s3:=hb3.size;have lO:=kO.lt;clear c0 c1 c2 hC ga hb3;go_wp2;clear hW4;go_loopw [7] (fun i wr=>∃ k:Nat,k≤q.f.length∧i = .int .i64 k∧Below W.heap.size W wr∧Blk wr w3.heap.size 26 #[.int .i64 q.v,.slice FA q.f.length fc,.slice TA q.t.length tc]∧d5_ wr wd.heap.size w3.heap.size (.agg #[.int .i64 q.v,.slice FA q.f.length fc,.slice TA q.t.length tc]) (rvK q v k)∧w3.heap.size≤wr.heap.size) (fun i _=>q.f.length-(intOf i).toNat)
  case atStart=>exact⟨0,l0_ _,rfl,gW4,kO,hC4,by omega⟩
  case round =>
   clear gW4 kO hC4;obtain⟨k,hk,rfl,gW,hB,hO,hs⟩:=hrel;by_cases hlt:k<q.f.length
   ·have hlt2:k<q.t.length:=by have:=HL.out;omega
    obtain⟨bf,of_,xf,eA,hbf,HXF,f1,rf⟩:=SlI.at_ HF.out hlt;obtain⟨bt,ot,xt,eC,hbt,HXT,t1,rt⟩:=SlI.at_ HT.out hlt2;subst eA eC;have F1:=h_ f1;have T1:=h_ t1;have f1':=a7_ gW hbf f1;have t1':=a7_ gW hbt t1;have HT0:=h_ (p8_ (v:=v) HXF.out HXT.out);have kB:=k1.call gW;have c1:=kB.cell' (i:=1) rfl;have c2:=kB.cell' (i:=2) rfl;have o1:=hB.cell' (i:=1) rfl;have o2:=hB.cell' (i:=2) rfl;obtain⟨gF,gT,eF,eT,l1,l2,l3,l4⟩:=hO.addr (by simp only[rvK,a1_];omega) (by simp only[rvK,a1_];omega);subst eF eT;have hyes:tch q v k=true→∃ Y1 Y2,Y1=(wr.setCell ⟨gF,k,none⟩ (.int .i64 xt)).drew∧Y2=(Y1.setCell ⟨gT,k,none⟩ (.int .i64 xf)).drew∧d5_ Y2 wd.heap.size w3.heap.size (.agg #[.int .i64 q.v,.slice (some ⟨gF,0,none⟩) q.f.length fc,.slice (some ⟨gT,0,none⟩) q.t.length tc]) (rvK q v (k+1))∧Chg wd.heap.size w3.heap.size wr Y1∧Chg wd.heap.size w3.heap.size wr Y2∧(∃ u,wr.cell? ⟨gF,k,none⟩=some u)∧wr.frozen? ⟨gF,k,none⟩=false∧(∃ u,Y1.cell? ⟨gT,k,none⟩=some u)∧Y1.frozen? ⟨gT,k,none⟩=false:=by
     intro ht;have p1:=hO.putF (k:=k) (x:=xt) rt;have p1':=p1.1.below (d9_ _);have p2:=p1'.putT (k:=k) (x:=xf) rf;have z1:=hO.cellF (k:=k) (by simp only[rvK,a1_];omega);have z2:=p1'.cellT (k:=k) (by simp only[rvK,a1_];omega);have h1:Chg wd.heap.size w3.heap.size wr ((wr.setCell ⟨gF,k,none⟩ (.int .i64 xt)).drew):=(b4_ l1 l2).trans (Chg.of_below (d9_ _));refine⟨_,_,rfl,rfl,?_,h1,?_,⟨_,z1.1⟩,z1.2,⟨_,z2.1⟩,z2.2⟩
     ·rw[P0_ ht];have e1:q.t.getD k 0=xt:=by rw[l1_,HXT.out];rfl
      have e2:q.f.getD k 0=xf:=by rw[l1_,HXF.out];rfl
      rw[e1,e2];exact p2.1.below (d9_ _)
     ·exact (h1.trans (b4_ l3 l4)).trans (Chg.of_below (d9_ _))
    have HYES:=h_ hyes;have HNO:=h_ (fun h:tch q v k=false=>a3z (q:=q) (v:=v) h);have HO:=h_ hO;have HB:=h_ hB;have GW:=h_ gW;have gws:=gW.size;clear f1 t1 hyes hO hB gW kB HXF HXT;have hne1:gF≠w3.heap.size:=by omega
    have hne2:gT≠w3.heap.size:=by omega
    by_cases h1:xf=v
    ·have hd:(xf == v)=true:=by rw[h1];exact beq_self_eq_true v
     have htc:tch q v k=true:=by rw[HT0.out,h1];simp
     obtain⟨Y1,Y2,eY1,eY2,hOY,hcY1,hcY2,⟨u1,z1⟩,z2,⟨u2,z3⟩,z4⟩:=HYES.out htc;clear HT0 HYES HNO h1 htc;have hmo:Tryz.prog.follows .mixedOrders=true:=by kernel_rfl
     have HOY:=h_ hOY;have HCY1:=h_ hcY1;have HCY2:=h_ hcY2;have Z3:=h_ z3;have Z4:=h_ z4;have EY2:=h_ eY2;have gb1:=hcY1.below (B:=W.heap.size) (by omega) (by omega);have kb1:=h_ (k1.call (GW.out.trans gb1));have ko1:=h_ (HB.out.chg hcY1 (.inr (l_ _)));have F2:=h_ (a7_ (GW.out.trans gb1) hbf F1.out);have T2:=h_ (a7_ (GW.out.trans gb1) hbt T1.out);clear hOY hcY1 hcY2 z3 z4 eY2 gb1;go_wp2_with fail
     go_region_o
     rw[←eY1];clear eY1 z1 z2 c1 c2 o1 o2 f1' t1';have c1:=kb1.out.cell' (i:=1) rfl;have c2:=kb1.out.cell' (i:=2) rfl;have o1:=ko1.out.cell' (i:=1) rfl;have o2:=ko1.out.cell' (i:=2) rfl;have z3:=Z3.out;have z4:=Z4.out;have f2':=F2.out;have t2':=T2.out;go_wp2_with fail
     go_region_o
     rw[←EY2.out];clear z3 z4 c1 c2 o1 o2 f2' t2';have hsY:=HCY2.out.size;have HBY:=h_ (HB.out.chg HCY2.out (.inr (l_ _)));have GWY:=h_ (GW.out.trans (HCY2.out.below (B:=W.heap.size) (by omega) (by omega)));go_wp2;go_roundw
     case rel=>exact⟨k+1,by omega,by go_num,GWY.out,HBY.out,HOY.out,by omega⟩
     case measure=>simp[intOf];omega
    ·have hd:(xf == v)=false:=by rw[beq_eq_false_iff_ne];exact h1
     by_cases h2:xt=v
     ·have hd2:(xt == v)=true:=by rw[h2];exact beq_self_eq_true v
      have htc:tch q v k=true:=by rw[HT0.out,h2];simp
      obtain⟨Y1,Y2,eY1,eY2,hOY,hcY1,hcY2,⟨u1,z1⟩,z2,⟨u2,z3⟩,z4⟩:=HYES.out htc;clear HT0 HYES HNO h1 h2 htc;have hmo:Tryz.prog.follows .mixedOrders=true:=by kernel_rfl
      have HOY:=h_ hOY;have HCY1:=h_ hcY1;have HCY2:=h_ hcY2;have Z3:=h_ z3;have Z4:=h_ z4;have EY2:=h_ eY2;have gb1:=hcY1.below (B:=W.heap.size) (by omega) (by omega);have kb1:=h_ (k1.call (GW.out.trans gb1));have ko1:=h_ (HB.out.chg hcY1 (.inr (l_ _)));have F2:=h_ (a7_ (GW.out.trans gb1) hbf F1.out);have T2:=h_ (a7_ (GW.out.trans gb1) hbt T1.out);clear hOY hcY1 hcY2 z3 z4 eY2 gb1;go_wp2_with fail
      go_region_o
      rw[←eY1];clear eY1 z1 z2 c1 c2 o1 o2 f1' t1';have c1:=kb1.out.cell' (i:=1) rfl;have c2:=kb1.out.cell' (i:=2) rfl;have o1:=ko1.out.cell' (i:=1) rfl;have o2:=ko1.out.cell' (i:=2) rfl;have z3:=Z3.out;have z4:=Z4.out;have f2':=F2.out;have t2':=T2.out;go_wp2_with fail
      go_region_o
      rw[←EY2.out];clear z3 z4 c1 c2 o1 o2 f2' t2';have hsY:=HCY2.out.size;have HBY:=h_ (HB.out.chg HCY2.out (.inr (l_ _)));have GWY:=h_ (GW.out.trans (HCY2.out.below (B:=W.heap.size) (by omega) (by omega)));go_wp2;go_roundw
      case rel=>exact⟨k+1,by omega,by go_num,GWY.out,HBY.out,HOY.out,by omega⟩
      case measure=>simp[intOf];omega
     ·have hd2:(xt == v)=false:=by rw[beq_eq_false_iff_ne];exact h2
      have HN:=h_ (HNO.out (by rw[HT0.out];simp[h1,h2]));clear HT0 HYES HNO h1 h2;go_wp2;go_roundw
      case rel=>exact⟨k+1,by omega,by go_num,GW.out,HB.out,by rw[HN.out];exact HO.out,hs⟩
      case measure=>simp[intOf];omega
   ·obtain rfl:k=q.f.length:=by omega
    have kw:=k1.call gW;have c1:=kw.cell' (i:=1) rfl;clear kw;have gf:=g0.trans (gW.mono g0.size);have kz:=k2.call gW;have fr:=kz.frozen;obtain⟨s0,s1,s2⟩:=c_3 kz;obtain⟨r0,r1,r2⟩:=c_3 hB;have sz:=SZ.out;have hc:=chg3 wr (w0.heap.size+1) (.int .i64 q.v) (.slice FA q.f.length fc) (.slice TA q.t.length tc);have OF:=h_ ((hO.chg hc (.inr (by omega))).wider (lo':=w0.heap.size) (hi':=wr.heap.size) (by omega) (by omega));have GF:=h_ (gf.trans (hc.below (by omega) gf.size));clear hO hB kz gf hc;go_wp2;exact bodyPost_ret (v:=.tuple #[.agg #[.int .i64 q.v,.slice FA q.f.length fc,.slice TA q.t.length tc],.bool true]) (by simp[results,go_sem,s0,s1,s2]) rfl ⟨_,rfl,by have:=OF.out.wider (l_ _) (l_ _);simpa [rvQ] using this,GF.out⟩
 ·have H1:=h_ h1;clear h1 hs;go_enter Tryz.func32,Tryz.ntmps32
  go_wp2_with fail
  rw[←hW];clear hW;refine (q8_ _ q _ HQV.out HQ.out).mono ?_;rintro e wa ⟨va,rfl,hLa,hba⟩;rw[HVT.out]at hLa;have HLa:=h_ hLa;obtain⟨La,la,ea,_⟩:=hLa;subst ea;go_wp2_with fail
  refine (i6_ _ _ v _ HLa.out).mono ?_;rintro e wb ⟨rfl,hbb⟩;rw[HM1.out,H1.out];have GZ:=h_ (a6_ hba hbb);clear hba hbb HLa;have kz1:=k1.call GZ.out;clear c0 c1 c2;obtain⟨c0,c1,c2⟩:=c_3 kz1;clear kz1;go_wp2_with fail
  refine (N4_ _ q _ (QvR.next GZ.out HQV.out)).mono ?_;rintro e w3 ⟨v3,rfl,hC,hb3⟩;obtain⟨FA,fc,TA,tc,ev⟩:=hC.form;subst ev;obtain⟨W4,hW4,ga,kO⟩:=b_1 w3 #[.int .i64 q.v,.slice FA q.f.length fc,.slice TA q.t.length tc] 26;have hC4:d5_ W4 wb.heap.size w3.heap.size (.agg #[.int .i64 q.v,.slice FA q.f.length fc,.slice TA q.t.length tc]) (rvK q v 0):=by rw[c3Z HL.out.symm v];exact hC.below ga
  have gz4:=a6_ hb3 ga;have gW4:=GZ.out.trans (gz4.mono GZ.out.size);have sz4:=GZ.out.size;have s3:=hb3.size;have lO:=kO.lt;clear c0 c1 c2 hC ga hb3;go_wp2;clear hW4;go_loopw [7] (fun i wr=>∃ k:Nat,k≤q.f.length∧i = .int .i64 k∧Below W.heap.size W wr∧Blk wr w3.heap.size 26 #[.int .i64 q.v,.slice FA q.f.length fc,.slice TA q.t.length tc]∧d5_ wr wb.heap.size w3.heap.size (.agg #[.int .i64 q.v,.slice FA q.f.length fc,.slice TA q.t.length tc]) (rvK q v k)∧w3.heap.size≤wr.heap.size) (fun i _=>q.f.length-(intOf i).toNat)
  case atStart=>exact⟨0,l0_ _,rfl,gW4,kO,hC4,by omega⟩
  case round =>
   clear gW4 kO hC4;obtain⟨k,hk,rfl,gW,hB,hO,hs⟩:=hrel;by_cases hlt:k<q.f.length
   ·have hlt2:k<q.t.length:=by have:=HL.out;omega
    obtain⟨bf,of_,xf,eA,hbf,HXF,f1,rf⟩:=SlI.at_ HF.out hlt;obtain⟨bt,ot,xt,eC,hbt,HXT,t1,rt⟩:=SlI.at_ HT.out hlt2;subst eA eC;have F1:=h_ f1;have T1:=h_ t1;have f1':=a7_ gW hbf f1;have t1':=a7_ gW hbt t1;have HT0:=h_ (p8_ (v:=v) HXF.out HXT.out);have kB:=k1.call gW;have c1:=kB.cell' (i:=1) rfl;have c2:=kB.cell' (i:=2) rfl;have o1:=hB.cell' (i:=1) rfl;have o2:=hB.cell' (i:=2) rfl;obtain⟨gF,gT,eF,eT,l1,l2,l3,l4⟩:=hO.addr (by simp only[rvK,a1_];omega) (by simp only[rvK,a1_];omega);subst eF eT;have hyes:tch q v k=true→∃ Y1 Y2,Y1=(wr.setCell ⟨gF,k,none⟩ (.int .i64 xt)).drew∧Y2=(Y1.setCell ⟨gT,k,none⟩ (.int .i64 xf)).drew∧d5_ Y2 wb.heap.size w3.heap.size (.agg #[.int .i64 q.v,.slice (some ⟨gF,0,none⟩) q.f.length fc,.slice (some ⟨gT,0,none⟩) q.t.length tc]) (rvK q v (k+1))∧Chg wb.heap.size w3.heap.size wr Y1∧Chg wb.heap.size w3.heap.size wr Y2∧(∃ u,wr.cell? ⟨gF,k,none⟩=some u)∧wr.frozen? ⟨gF,k,none⟩=false∧(∃ u,Y1.cell? ⟨gT,k,none⟩=some u)∧Y1.frozen? ⟨gT,k,none⟩=false:=by
     intro ht;have p1:=hO.putF (k:=k) (x:=xt) rt;have p1':=p1.1.below (d9_ _);have p2:=p1'.putT (k:=k) (x:=xf) rf;have z1:=hO.cellF (k:=k) (by simp only[rvK,a1_];omega);have z2:=p1'.cellT (k:=k) (by simp only[rvK,a1_];omega);have h1:Chg wb.heap.size w3.heap.size wr ((wr.setCell ⟨gF,k,none⟩ (.int .i64 xt)).drew):=(b4_ l1 l2).trans (Chg.of_below (d9_ _));refine⟨_,_,rfl,rfl,?_,h1,?_,⟨_,z1.1⟩,z1.2,⟨_,z2.1⟩,z2.2⟩
     ·rw[P0_ ht];have e1:q.t.getD k 0=xt:=by rw[l1_,HXT.out];rfl
      have e2:q.f.getD k 0=xf:=by rw[l1_,HXF.out];rfl
      rw[e1,e2];exact p2.1.below (d9_ _)
     ·exact (h1.trans (b4_ l3 l4)).trans (Chg.of_below (d9_ _))
    have HYES:=h_ hyes;have HNO:=h_ (fun h:tch q v k=false=>a3z (q:=q) (v:=v) h);have HO:=h_ hO;have HB:=h_ hB;have GW:=h_ gW;have gws:=gW.size;clear f1 t1 hyes hO hB gW kB HXF HXT;have hne1:gF≠w3.heap.size:=by omega
    have hne2:gT≠w3.heap.size:=by omega
    by_cases h1:xf=v
    ·have hd:(xf == v)=true:=by rw[h1];exact beq_self_eq_true v
     have htc:tch q v k=true:=by rw[HT0.out,h1];simp
     obtain⟨Y1,Y2,eY1,eY2,hOY,hcY1,hcY2,⟨u1,z1⟩,z2,⟨u2,z3⟩,z4⟩:=HYES.out htc;clear HT0 HYES HNO h1 htc;have hmo:Tryz.prog.follows .mixedOrders=true:=by kernel_rfl
     have HOY:=h_ hOY;have HCY1:=h_ hcY1;have HCY2:=h_ hcY2;have Z3:=h_ z3;have Z4:=h_ z4;have EY2:=h_ eY2;have gb1:=hcY1.below (B:=W.heap.size) (by omega) (by omega);have kb1:=h_ (k1.call (GW.out.trans gb1));have ko1:=h_ (HB.out.chg hcY1 (.inr (l_ _)));have F2:=h_ (a7_ (GW.out.trans gb1) hbf F1.out);have T2:=h_ (a7_ (GW.out.trans gb1) hbt T1.out);clear hOY hcY1 hcY2 z3 z4 eY2 gb1;go_wp2_with fail
     go_region_o
     rw[←eY1];clear eY1 z1 z2 c1 c2 o1 o2 f1' t1';have c1:=kb1.out.cell' (i:=1) rfl;have c2:=kb1.out.cell' (i:=2) rfl;have o1:=ko1.out.cell' (i:=1) rfl;have o2:=ko1.out.cell' (i:=2) rfl;have z3:=Z3.out;have z4:=Z4.out;have f2':=F2.out;have t2':=T2.out;go_wp2_with fail
     go_region_o
     rw[←EY2.out];clear z3 z4 c1 c2 o1 o2 f2' t2';have hsY:=HCY2.out.size;have HBY:=h_ (HB.out.chg HCY2.out (.inr (l_ _)));have GWY:=h_ (GW.out.trans (HCY2.out.below (B:=W.heap.size) (by omega) (by omega)));go_wp2;go_roundw
     case rel=>exact⟨k+1,by omega,by go_num,GWY.out,HBY.out,HOY.out,by omega⟩
     case measure=>simp[intOf];omega
    ·have hd:(xf == v)=false:=by rw[beq_eq_false_iff_ne];exact h1
     by_cases h2:xt=v
     ·have hd2:(xt == v)=true:=by rw[h2];exact beq_self_eq_true v
      have htc:tch q v k=true:=by rw[HT0.out,h2];simp
      obtain⟨Y1,Y2,eY1,eY2,hOY,hcY1,hcY2,⟨u1,z1⟩,z2,⟨u2,z3⟩,z4⟩:=HYES.out htc;clear HT0 HYES HNO h1 h2 htc;have hmo:Tryz.prog.follows .mixedOrders=true:=by kernel_rfl
      have HOY:=h_ hOY;have HCY1:=h_ hcY1;have HCY2:=h_ hcY2;have Z3:=h_ z3;have Z4:=h_ z4;have EY2:=h_ eY2;have gb1:=hcY1.below (B:=W.heap.size) (by omega) (by omega);have kb1:=h_ (k1.call (GW.out.trans gb1));have ko1:=h_ (HB.out.chg hcY1 (.inr (l_ _)));have F2:=h_ (a7_ (GW.out.trans gb1) hbf F1.out);have T2:=h_ (a7_ (GW.out.trans gb1) hbt T1.out);clear hOY hcY1 hcY2 z3 z4 eY2 gb1;go_wp2_with fail
      go_region_o
      rw[←eY1];clear eY1 z1 z2 c1 c2 o1 o2 f1' t1';have c1:=kb1.out.cell' (i:=1) rfl;have c2:=kb1.out.cell' (i:=2) rfl;have o1:=ko1.out.cell' (i:=1) rfl;have o2:=ko1.out.cell' (i:=2) rfl;have z3:=Z3.out;have z4:=Z4.out;have f2':=F2.out;have t2':=T2.out;go_wp2_with fail
      go_region_o
      rw[←EY2.out];clear z3 z4 c1 c2 o1 o2 f2' t2';have hsY:=HCY2.out.size;have HBY:=h_ (HB.out.chg HCY2.out (.inr (l_ _)));have GWY:=h_ (GW.out.trans (HCY2.out.below (B:=W.heap.size) (by omega) (by omega)));go_wp2;go_roundw
      case rel=>exact⟨k+1,by omega,by go_num,GWY.out,HBY.out,HOY.out,by omega⟩
      case measure=>simp[intOf];omega
     ·have hd2:(xt == v)=false:=by rw[beq_eq_false_iff_ne];exact h2
      have HN:=h_ (HNO.out (by rw[HT0.out];simp[h1,h2]));clear HT0 HYES HNO h1 h2;go_wp2;go_roundw
      case rel=>exact⟨k+1,by omega,by go_num,GW.out,HB.out,by rw[HN.out];exact HO.out,hs⟩
      case measure=>simp[intOf];omega
   ·obtain rfl:k=q.f.length:=by omega
    have kw:=k1.call gW;have c1:=kw.cell' (i:=1) rfl;clear kw;have gf:=g0.trans (gW.mono g0.size);have kz:=k2.call gW;have fr:=kz.frozen;obtain⟨s0,s1,s2⟩:=c_3 kz;obtain⟨r0,r1,r2⟩:=c_3 hB;have sz:=SZ.out;have hc:=chg3 wr (w0.heap.size+1) (.int .i64 q.v) (.slice FA q.f.length fc) (.slice TA q.t.length tc);have OF:=h_ ((hO.chg hc (.inr (by omega))).wider (lo':=w0.heap.size) (hi':=wr.heap.size) (by omega) (by omega));have GF:=h_ (gf.trans (hc.below (by omega) gf.size));clear hO hB kz gf hc;go_wp2;exact bodyPost_ret (v:=.tuple #[.agg #[.int .i64 q.v,.slice FA q.f.length fc,.slice TA q.t.length tc],.bool true]) (by simp[results,go_sem,s0,s1,s2]) rfl ⟨_,rfl,by have:=OF.out.wider (l_ _) (l_ _);simpa [rvQ] using this,GF.out⟩
theorem U4_ (p:Int) (u:Value) (r c:Nat) (f:Nat→Nat→Int) (w0:World) (hp:f2_ p=true) (hr:r≤1000) (hc:c≤1000) (hu:MxR w0 w0.heap.size u (mxF r c f)) (hf:InF p r c f) :
  Calls Tryz.prog 33 #[.int .i64 p,u] w0 fun e w'=>∃ v,e = .returned v∧b1_ w' w0.heap.size w'.heap.size v (kerR p r c f)∧Below w0.heap.size w0 w':=by
 have hpr:=f4_ hp;have hu':=hu;obtain⟨UA,uc,rfl⟩:=hu.form;simp only[mxF]at hu hu'⊢;rw[a0_]at hu hu'⊢;obtain⟨UL,hUL⟩:=e_ (r*c);rw[hUL]at hu hu'⊢;have HUL:=h_ hUL;clear hUL hu;obtain⟨W,hW,g0,kB⟩:=b_3 w0 #[.int .i64 r,.int .i64 c,.slice UA UL uc] 41;have HU:=h_ (MxR.next g0 hu');have HF:=h_ hf;have HP:=h_ hp;have sW:W.heap.size=w0.heap.size+1:=by rw[hW];simp
 have SW:=h_ sW;obtain⟨c0,c1,c2⟩:=c_3 kB;clear hu' hf hp sW;go_enter Tryz.func33,Tryz.ntmps33
 go_wp2_with fail
 rw[←hW];clear hW;refine (p2_ p _ r c f _ HP.out hr hc HU.out HF.out).mono ?_;rintro e w1 ⟨m,v,rfl,hM,hI,hb1⟩;have HPS:=h_ (d8Z HP.out hpr.1 HF.out);have HG:=h_ (p6_ hpr.1 HF.out c);have hpl:=f6_ p r f c;have HK:=h_ (show kerR p r c f=kerM p c (rdTo p r f c).1 (rdTo p r f c).2 (b2_ (rdTo p r f c).2 c) from rfl);obtain⟨g,hg⟩:=e_ ((rdTo p r f c).1);obtain⟨ps,hps⟩:=e_ ((rdTo p r f c).2);rw[hg]at hM HG HK;rw[hps]at hI HPS hpl HK;clear hg hps;obtain⟨MA,mc,em⟩:=hM.form;obtain⟨PA,pc,ev⟩:=hI.form;subst em ev;simp only[mxF]at hM⊢;rw[a0_]at hM⊢;rw[HUL.out]at hM⊢;obtain⟨pn,hpn⟩:=e_ (ps.length);rw[hpn]at hI hpl⊢;have HPN:=h_ hpn;clear hpn c0 c1 c2;obtain⟨W2,hW2,ga,kM⟩:=b_1 w1 #[.int .i64 r,.int .i64 c,.slice MA UL mc] 41;have g12:=a6_ hb1 ga;have s12:=g12.size;have sa:W2.heap.size=w1.heap.size+1:=by rw[←hW2];simp
 obtain⟨W3,hW3⟩:=e_ (W2.alloc (.cells #[] 24));have gb:Below W2.heap.size W2 W3:=by rw[←hW3];exact a2_ _ _
 have hO3:b1_ W3 W2.heap.size W3.heap.size (.slice (some ⟨W2.heap.size,0,none⟩) 0 0) (kerM p c g ps (b2_ ps 0)):=by rw[←hW3];exact b1_.made0 _ (l_ _)
 have HM2:=h_ (hM.below ga).rd;have HI2:=h_ (hI.below ga).rd;have G2:=h_ (a6_ g0 g12);have sb:=gb.size;have lM:=kM.lt;clear hM hI ga hb1 g12 g0 kB;go_wp2;clear hW2 hW3;go_loopw [7,8] (fun out i wr=>∃ (k:Nat) (OA:Option Addr) (on oc:Nat),k≤c∧i = .int .i64 k∧out = .slice OA on oc∧b1_ wr W2.heap.size wr.heap.size (.slice OA on oc) (kerM p c g ps (b2_ ps k))∧Below W2.heap.size W2 wr) (fun _ i _=>c-(intOf i).toNat)
 case atStart=>exact⟨0,_,_,_,l0_ _,rfl,rfl,by have:=hO3;rw[sa]at this⊢;exact this,gb⟩
 case round =>
  clear hO3 gb;obtain⟨k,OA,on,oc,hk,rfl,rfl,hO,hb⟩:=hrel;have s3:=hb.size;have kMr:=kM.call hb;have m1:=kMr.cell' (i:=1) rfl;by_cases hlt:k<c
  ·have HIr:=h_ (SlI.next hb HI2.out);have HB:=h_ hb;have HO:=h_ hO;clear hb hO kMr;go_wp2_with fail
   refine (i6_ _ ps k _ HIr.out).mono ?_;rintro e w4 ⟨rfl,hb4⟩;have hB4:=HB.out.trans (hb4.mono s3);have hO4:=(HO.out.below hb4).wider (l_ _) hb4.size;have s4:=hB4.size;rcases hd:decide ((k:Int)∈ps) with _ | _
   ·have HFY:=h_ (n7_ hd);have kM4:=kM.call hB4;have m1':=kM4.cell' (i:=1) rfl;have hmkX:=R9_ w4 (n:=c) (by omega);obtain⟨X,hX⟩:=e_ (w4.alloc (.cells (g8_ (.int .i64 0) c) 3));have bX:Below w4.heap.size w4 X:=by rw[←hX];exact a2_ _ _
    have rX:a9_ X w4.heap.size X.heap.size (.slice (some ⟨w4.heap.size,0,none⟩) c c) (List.replicate c 0):=by rw[←hX];exact a9_.of_own (OwnI.made0 (l_ _) (by omega))
    rw[hX]at hmkX;obtain⟨G,hG⟩:=e_ (w4.heap.size);have cX:=(rX.1.cellG (j:=k) (by simp;omega)).1;have fX:=rX.1.frozenG k;have rY:=rX.put (j:=k) (x:=1) (by unfold I64;omega);rw[f1z p g ps]at rY;obtain⟨Y,hY⟩:=e_ (X.setCell ⟨w4.heap.size,k,none⟩ (.int .i64 1));have hcY:Chg G (G+1) X Y:=by rw[←hY,hG];exact b4_ (l_ _) (m0_ _)
    have sX:X.heap.size=G+1:=by rw[←hX,←hG];simp
    have hs3G:W2.heap.size≤G:=by omega
    have bY:Below w4.heap.size w4 Y:=bX.trans (hcY.below (by omega) (by omega));rw[hY,hG,sX]at rY;have BY:=h_ (hB4.trans (bY.mono (by omega)));have HO:=h_ ((hO4.below bX).chg hcY (.inl (by omega)));rw[hG]at HO;have sY:G+1≤Y.heap.size:=by have:=hcY.size;omega
    have RY:=h_ rY;clear rX rY bX hcY bY sX hO4 hB4 hb4 kM4 hd HIr;rw[hG]at hmkX cX fX hY;go_wp2;clear hX hY cX fX hmkX m1 m1' hG;go_loopw [10] (fun i wr=>∃ j:Nat,j≤pn∧i = .int .i64 j∧Below W2.heap.size W2 wr∧b1_ wr W2.heap.size G (.slice OA on oc) (kerM p c g ps (b2_ ps k))∧a9_ wr G (G+1) (.slice (some ⟨G,0,none⟩) c c) (rowF c (kvG p g ps k j))∧G+1≤wr.heap.size) (fun i _=>pn-(intOf i).toNat)
    case atStart=>exact⟨0,l0_ _,rfl,BY.out,HO.out,RY.out,sY⟩
    case round =>
     clear BY HO RY sY s4 s3;obtain⟨j,hj,rfl,hb,hO,hR,hs⟩:=hrel;have s4:=hb.size;by_cases hjl:j<pn
     ·obtain⟨bp,op,x,ep,hbp,HXP,p1,_⟩:=SlI.atM (k:=j) HI2.out HPN.out hjl;subst ep;obtain⟨pk,rfl,hpk⟩:=HPS.out j x HXP.out;have hgr:=HG.out j k (by omega) hlt;have hgm:=g6_ (p:=p) (x:=- g j k) hpr.1;obtain⟨P,hP⟩:∃ P,P=j*c:=⟨_,rfl⟩;have hPw:=h_ (ixP (i:=j) (k:=k) (by omega) hlt hr hc hP);obtain⟨d1,d2,d3⟩:=rowP (i:=j) (k:=k) (r:=r) (c:=c) (by omega) hlt hr hc hP;rw[HUL.out]at d1 d2 d3;obtain⟨gv,hgv⟩:=e_ (g j k);have hU:(flat r c g)[P+k]?=some gv:=by rw[hP,←hgv];exact j0_ g (by omega) hlt
      obtain⟨_,_,ema,hMs,_,_,hml⟩:=HM2.out.open_;simp only[Value.agg.injEq,Array.mk.injEq,List.cons.injEq,and_true,true_and,Value.slice.injEq]at ema;obtain⟨eMA,eUL,emc⟩:=ema;subst eMA emc;rw[←eUL]at hMs;clear eUL;obtain⟨bm,om,x',em,hbm,HXM,x1,_⟩:=SlI.atM (k:=P+k) hMs (by simp only[a0_];exact HUL.out) d1;subst em;have hx':=HXM.out;simp only at hx';rw[hU]at hx';injection hx' with hx'
      subst hx';rw[hgv]at hgr hgm;have hput:=b6x (p:=p) (g:=g) (k:=k) (c:=c) HXP.out;rw[hgv]at hput;have HPUT:=h_ hput;have HB:=h_ hb;have HO:=h_ hO;have HR:=h_ hR;have P1:=h_ p1;have X1:=h_ x1;have hgI:Hid (I64 (- gv)):=by show _∧_;omega
      have hgI2:Hid (I64 ((- gv) % p)):=by show _∧_;omega
      clear hb hO hR p1 x1 hput hMs hml hU HXM hgv hP;go_wp2;refine a8_ (by kernel_rfl) [.eq (.slice (some ⟨G,0,none⟩) c c),.eq (.slice (some ⟨bp,op,none⟩) pn pc),.eq (.int .i64 j),.eq (.pointer (some ⟨bp,op+j,none⟩)),.eq (.int .i64 pk),.eq (.int .i64 p),.eq (.pointer (some ⟨w1.heap.size,2,none⟩)),.eq (.slice (some ⟨bm,om,none⟩) UL mc),.eq (.int .i64 j),.eq (.pointer (some ⟨w1.heap.size,1,none⟩)),.eq (.int .i64 c),.eq (.int .i64 P),.eq (.int .i64 k),.eq (.int .i64 ((P:Int)+k)),.eq (.pointer (some ⟨bm,om+(P+k),none⟩)),.eq (.int .i64 gv),.eq (.int .i64 (- gv)),.eq (.int .i64 ((- gv) % p)),.eq (.pointer (some ⟨G,pk,none⟩))] [[],[],[],[1,2],[1,2,3],[],[],[6],[],[],[9],[8,9,10],[],[8,9,10,11,12],[6,7,8,9,10,11,12,13],[6,7,8,9,10,11,12,13,14],[6,7,8,9,10,11,12,13,14,15],[5,6,7,8,9,10,11,12,13,14,15,16],[0,1,2,3,4,5,6,7,8,9,10,11,12,13,14,15,16,17],[0,1,2,3,4,5,6,7,8,9,10,11,12,13,14,15,16,17,18]] 19 (by kernel_rfl) ⟨trivial,trivial,trivial,trivial,trivial,trivial,trivial,trivial,trivial,trivial,trivial,trivial,trivial,trivial,trivial,trivial,trivial,trivial,trivial,trivial⟩ ⟨?_,?_,?_,?_,?_,?_,?_,?_,?_,?_,?_,?_,?_,?_,?_,?_,?_,?_,?_,trivial⟩ ?_;iterate 19 (intro x w hb hk Q' hQ;have he:=k_e hk;simp only[k_s]at he;simp only[netE]at hQ⊢;(try simp only[he]at hQ⊢);(try clear he);rotate_left)
      rotate_left
      iterate 4 (· clear hk;go_wp2;exact hQ _ _ br_ rfl)
      ·clear hk;have z:=a7_ (HB.out.trans (hb.mono s4)) hbp P1.out;go_wp2;exact hQ _ _ br_ rfl
      iterate 2 (· clear hk;go_wp2;exact hQ _ _ br_ rfl)
      ·clear hk;have z:=(kM.call (HB.out.trans (hb.mono s4))).cell' (i:=2) rfl;go_wp2;exact hQ _ _ br_ rfl
      iterate 2 (· clear hk;go_wp2;exact hQ _ _ br_ rfl)
      ·clear hk;have z:=(kM.call (HB.out.trans (hb.mono s4))).cell' (i:=1) rfl;go_wp2;exact hQ _ _ br_ rfl
      ·clear hk;go_wp2;rw[hPw.out];exact hQ _ _ br_ rfl
      iterate 3 (· clear hk;go_wp2;exact hQ _ _ br_ rfl)
      ·clear hk;have z:=a7_ (HB.out.trans (hb.mono s4)) hbm X1.out;go_wp2;exact hQ _ _ br_ rfl
      ·clear hk;go_wp2;exact hQ _ _ br_ rfl
      ·clear hk;go_wp2_with fail
       refine (p1_ p (- gv) _ hpr hgI.out).mono ?_;rintro e w5 ⟨rfl,hww⟩;replace hww:=hww.symm;subst hww;go_wp2;exact hQ (.int .i64 ((- gv) % p)) _ br_ rfl
      ·clear hk;go_wp2;exact hQ _ _ br_ rfl
      ·intro x w hb hk hiv hdj;have he:=k_g hk [0,1,2,3,4,5,6,7,8,9,10,11,12,13,14,15,16,17,18];simp only[k_s]at he;simp only[netE,he];clear he hk;have hR6:=HR.out.below hb;have cX:=(hR6.1.cellG (j:=pk) (by rw[a1_];exact hpk)).1;have fX:=hR6.1.frozenG pk;have rY:=hR6.put (j:=pk) (x:=(- gv) % p) hgI2.out;rw[HPUT.out]at rY;have RY:=h_ rY;obtain⟨Y,hY⟩:=e_ (w.setCell ⟨G,pk,none⟩ (.int .i64 ((- gv) % p)));have hcY:Chg G (G+1) w Y:=by rw[←hY];exact b4_ (l_ _) (m0_ _)
       have s6:=hb.size;have sY:=hcY.size;rw[hY]at RY;have BY:=h_ ((HB.out.trans (hb.mono s4)).trans (hcY.below hs3G (by omega)));have HO6:=h_ ((HO.out.below hb).chg hcY (.inl (by omega)));clear rY hcY hR6 hiv hdj;go_wp2;clear hY cX fX;go_roundw
       case rel=>exact⟨j+1,by omega,by go_num,BY.out,HO6.out,RY.out,by omega⟩
       case measure=>simp[intOf];omega
     ·obtain rfl:j=pn:=by omega
      rw[←HPN.out]at hR;have hn1:=U3_ p c g ps (b2_ ps k) k;rw[←HFY.out]at hn1;have HN1:=h_ hn1;have hfl:=d7_ ps k;obtain⟨Z,hZ⟩:=e_ (wr.alloc (.cells #[.slice (some ⟨G,0,none⟩) c c] 24));obtain⟨gz,hgz⟩:=e_ (wr.heap.size);have bZ:Below wr.heap.size wr Z:=by rw[←hZ];exact a2_ _ _
      have kZ:Blk Z gz 24 #[.slice (some ⟨G,0,none⟩) c c]:=by rw[←hZ,←hgz];exact Blk.new _ _ _
      have HOZ:=h_ (hO.below bZ);have HRZ:=h_ (hR.below bZ);have HBZ:=h_ (hb.trans (bZ.mono s4));have sZ:=bZ.size;have C0:=h_ (kZ.cell' (i:=0) rfl);clear hO hR hb hn1 bZ kZ
      (go_wp2_with (at_builtin;refine Hold.stop ?_));unfold Hold
      clear hZ hgz;refine n1_ (by rfl) (.tmp 58) (.tmp 60) (by rfl) W2.heap.size G G (G+1) _ _ _ (by rfl) HOZ.out (some ⟨gz,0,none⟩) 1 _ (by rfl) ⟨_,_,rfl,C0.out⟩ HRZ.out (by omega) (by omega) (by omega) (by rw[j1_];omega) (by omega) (by omega) ?_;intro v' w' h1 h2 h3;rw[←HN1.out]at h1;obtain⟨A',c',ev',_⟩:=h1.form2;subst ev';have H1:=h_ h1;have H2:=h_ (HBZ.out.trans h2);clear h1 h2 h3;go_wp2;go_roundw
      case rel=>exact⟨k+1,A',_,c',by omega,by go_num,rfl,H1.out,H2.out⟩
      case measure=>simp[intOf];omega
   ·have HFN:=h_ (q5_ hd);have HO4:=h_ hO4;have HB4:=h_ hB4;clear hd hO4 hB4 hb4 m1;go_wp2;go_roundw
    case rel=>exact⟨k+1,OA,on,oc,by omega,by go_num,rfl,by rw[HFN.out];exact HO4.out,HB4.out⟩
    case measure=>simp[intOf];omega
  ·obtain rfl:k=c:=by omega
   have HOF:=h_ hO;have GF:=h_ (a6_ G2.out hb);have sz:=SW.out;have s5:=s12;clear hO hb;go_wp2;go_ret
   exact⟨_,rfl,by rw[HK.out];exact HOF.out.wider (by omega) (l_ _),GF.out⟩
end Go.Proofs.YtnohdlkailpnoaaGreat

