/- FnBars: the law holds for every argument. Part 12 of 16 of the proof: RzJ, RzK, L3B, DsS, RzS, RzT, Zero4, RpJ, RrU, Src, KerF, HomP, HomM. No condition. -/
import Derived.Test.YtbgccbmdiolhbaaGreatBBars11
set_option linter.unusedVariables false
set_option linter.unusedSimpArgs false
set_option maxHeartbeats 12800000
set_option maxRecDepth 100000
namespace Go.Proofs.YtbgccbmdiolhbaaGreat
open Go.RowKit
theorem I6_ (p:Int) (u:Value) (q:Qv) (v:Value) (l:List Bar) (w0:World) (hu:QvR w0 w0.heap.size u q) (hv:SlB w0 w0.heap.size v l) (hok:rzOk p q l=true) :
  Calls Tryz.prog 44 #[.int .i64 p,u,v] w0 fun e w'=>∃ r,e = .returned (.tuple #[r,.bool (rzP p q l).2])∧RepO w' w0.heap.size w'.heap.size r (rzP p q l).1∧Below w0.heap.size w0 w':=by
 have HE:=h_ (show rzP p q l=smP p q (d0_ l) by rw[rzP,hok,smP];rfl);obtain⟨h1,h2,h3,hto⟩:=rz_t hok;have hq:isQ q=true:=(u9_ h2).1;have hv1:=(j2_.1 hq).1;have hI:I64 p:=by have:=v6_ h1;simp only[I64];omega
 have hl25:=d1J hto (by omega);have hu':=hu;obtain⟨A,c,C,c',rfl,_,_,hr,lf,lt⟩:=hu.open_;obtain⟨BA,bc,rfl,_,_,_,hbx⟩:=hv.open_;clear hu hv;obtain⟨W,hW,g0,k1,k2⟩:=b_4 w0 #[.int .i64 q.v,.slice A q.f.length c,.slice C q.t.length c'] 26 #[.int .i64 0,.int .i64 0,.slice none 0 0,.slice none 0 0,.slice none 0 0,.slice none 0 0] 29;have sz:W.heap.size=w0.heap.size+1+1:=by rw[hW];simp
 have SZ:=h_ sz;have HQV:=h_ (QvR.next g0 hu');have HBX:=h_ (SlB.next g0 hbx);clear sz hu' hbx;have H1:=h_ h1;have H2:=h_ h2;have H3:=h_ h3;have HQ:=h_ hq;have HTO:=h_ hto;clear h1 h2 h3 hq hto hok;have c0:=k1.cell' (i:=0) rfl;go_enter Tryz.func44,Tryz.ntmps44
 go_wp2_with fail
 rw[←hW];clear hW;refine (o3_ q.v _ hr).mono ?_;rintro e w1 ⟨v1,rfl,hL,hb1⟩;obtain⟨A1,a1,C1,c1,rfl⟩:=hL.form;obtain⟨W2,hW2,ga,kL⟩:=b_1 w1 #[.int .i64 (m4_ q.v).v,.slice A1 (m4_ q.v).f.length a1,.slice C1 (m4_ q.v).t.length c1] 26;have gW2:Below W.heap.size W W2:=hb1.trans (ga.mono hb1.size);have HL:=h_ ((hL.below ga).rd);have k1':=k1.call gW2;have c0:=k1'.cell' (i:=0) rfl;have c1':=k1'.cell' (i:=1) rfl;have c2':=k1'.cell' (i:=2) rfl;have GW2:=h_ gW2;clear hL ga hb1 gW2;go_wp2_with fail
 clear hW2;refine (b5_ _ _).mono ?_;rintro e w3 ⟨rfl,hww⟩;replace hww:=hww.symm;subst hww;rw[H1.out];go_wp2_with fail
 refine (f2_ _ q _ (QvR.next GW2.out HQV.out)).mono ?_;rintro e w3 ⟨rfl,hb3⟩;rw[H2.out];have kL3:=kL.call hb3;obtain⟨l0,l1,l2⟩:=c_3 kL3;have gW3:=GW2.out.trans (hb3.mono GW2.out.size);have HL3:=h_ (QvR.next hb3 HL.out);have GW3:=h_ gW3;clear kL3 hb3 gW3 kL k1';go_wp2_with fail
 refine (q4_ _ _ _ l _ HL3.out (SlB.next GW3.out HBX.out)).mono ?_;rintro e w4 ⟨rfl,hb4⟩;rw[H3.out];have gW4:=GW3.out.trans (hb4.mono GW3.out.size);have GW4:=h_ gW4;clear hb4 gW4;obtain⟨n,hn⟩:=e_ (l.length);have HN:=h_ hn;rw[hn]at hl25;rw[hn];clear hn l0 l1 l2 c0 c1' c2';go_wp2;go_loopw [10,38] (fun lv i wr=>∃ (k:Nat) (us:List (List Value)),k≤n∧i = .int .i64 k∧Below w4.heap.size w4 wr∧RpsO wr w4.heap.size wr.heap.size lv us∧RpsC wr us ((d0_ (l.take k)).map (ivR p q))) (fun _ i _=>n-(intOf i).toNat)
 case atStart=>exact⟨0,[],l0_ _,rfl,Below.refl _ _,RpsO.nil _ _ _,RpsC.nil _⟩
 case round =>
  obtain⟨k,us,hk,rfl,gW,hO,hC⟩:=hrel;have gws:=gW.size;have gw:=GW4.out.trans (gW.mono GW4.out.size);by_cases hlt:k<n
  ·obtain⟨b,o,x,y,z,eB,hb,HX,y1,y2,y3,rx,ry,rz⟩:=SlB.at_ (k:=k) HBX.out (by have:=HN.out;omega);subst eB;obtain⟨hx,hy,hz,_⟩:=s1_ HTO.out HX.out;obtain⟨N,rfl⟩:=Int.eq_ofNat_of_zero_le (show 0≤z by omega);have HZI:=h_ (f4Q H1.out H2.out hx hy);have z1:=a4_ gw hb y1;have z2:=a4_ gw hb y2;have z3:=a4_ gw hb y3;obtain⟨W5,hW5,ga,kB⟩:=b_1 wr #[.int .i64 x,.int .i64 y,.int .i64 (N:Int)] 44;have kQ:=(k1.call gw).call ga;have gw5:=gw.trans (ga.mono gw.size);have HQ5:=h_ (QvR.next gw5 HQV.out);have b0:=kB.cell' (i:=0) rfl;have b1:=kB.cell' (i:=1) rfl;obtain⟨q0,q1,q2⟩:=c_3 kQ;have HO:=h_ (RowO.below hO ga);have HC:=h_ (hC.below ga);have GW5:=h_ (gW.trans (ga.mono gws));have sa:=ga.size;clear y1 y2 y3 kQ ga gw5 hO hC gW gw;go_wp2_with fail
   clear hW5;refine (n2_ p _ q x y _ hI HQ5.out rx ry).mono ?_;rintro e w6 ⟨r6,rfl,hR6,hb6⟩;rw[HZI.out]at hR6⊢;obtain⟨A2,a2,C2,c2,E2,e2,H2',h2',rfl⟩:=f9X hR6;obtain⟨W7,hW7,ga7,kR7⟩:=b_1 w6 #[.int .i64 p,.int .i64 q.v,.slice A2 q.f.length a2,.slice C2 q.t.length c2,.slice E2 q.v.toNat e2,.slice H2' q.f.length h2'] 29;obtain⟨W8,hW8,ga8,kR8⟩:=b_1 W7 #[.int .i64 p,.int .i64 q.v,.slice A2 q.f.length a2,.slice C2 q.t.length c2,.slice E2 q.v.toNat e2,.slice H2' q.f.length h2'] 29;have g57:Below W5.heap.size W5 W7:=hb6.trans (ga7.mono hb6.size);have g58:Below W5.heap.size W5 W8:=g57.trans (ga8.mono g57.size);have kB8:=kB.call g58;obtain⟨r0,r1,r2,r3,r4,r5⟩:=c_6 kR7;have b2:=kB8.cell' (i:=2) rfl;have s78:=ga8.size;have s57:=g57.size;have s67:=ga7.size;have s56:=hb6.size;have HR8:=h_ ((((hR6.below ga7).below ga8).wider (l0_ _) (show w6.heap.size≤W8.heap.size by omega)));have HO8:=h_ (RowO.below HO.out g58);have HC8:=h_ (HC.out.below g58);have G58:=h_ (GW5.out.trans (g58.mono GW5.out.size));have HCX:=h_ (fun (i:Nat) (y:Value) (hy:[Value.int .i64 p,.int .i64 q.v,.slice A2 q.f.length a2,.slice C2 q.t.length c2,.slice E2 q.v.toNat e2,.slice H2' q.f.length h2'][i]?=some y)=>(show W8.cell? ⟨W7.heap.size,0+i,none⟩=some y by rw[Nat.zero_add,kR8.cell];simpa using hy));have hlt8:=kR8.lt;clear hR6 ga7 ga8 kB g57 g58 kB8 kR7 kR8 b0 b1 q0 q1 q2 z1 z2 z3 hb6;go_wp2_with fail
   clear hW7 hW8;refine (a4x W7.heap.size 0 1 _ N _ hlt8 HCX.out rfl (fun y hy=>by simp only[List.mem_cons,List.not_mem_nil,or_false]at hy;rcases hy with rfl | rfl | rfl | rfl | rfl | rfl <;> rfl) (l_ _) (by omega) (by omega)).mono ?_;rintro e w9 ⟨g9,rfl,hB9,hg9,hb9⟩;have s89:=hb9.size;have HNW:=h_ (d7Z hB9 (cs:=[Value.int .i64 p,.int .i64 q.v,.slice A2 q.f.length a2,.slice C2 q.t.length c2,.slice E2 q.v.toNat e2,.slice H2' q.f.length h2']) rfl);have HR9:=h_ ((HR8.out.below hb9).wider (l_ _) s89);have HO9:=h_ (RowO.below HO8.out hb9);have hC9:=(HC8.out.below hb9).app (RpsC.rep (u:=[Value.int .i64 p,.int .i64 q.v,.slice A2 q.f.length a2,.slice C2 q.t.length c2,.slice E2 q.v.toNat e2,.slice H2' q.f.length h2']) N HR9.out);have hul:us.length≤8*k:=by
    have h1:=HC8.out.1;have h2:=J9_ (l:=l.take k) fun b hb=>by
     obtain⟨j,hj⟩:=List.getElem?_of_mem hb;have hj2:l[j]?=some (b.1,b.2.1,b.2.2):=by
      rw[List.getElem?_take]at hj;split at hj
      ·exact hj
      ·cases hj
     exact (s1_ HTO.out hj2).2.2.1.2
    rw[List.length_map]at h1;rw[List.length_take]at h2;omega
   have hbx:(d0_ (l.take (k+1))).map (ivR p q)=(d0_ (l.take k)).map (ivR p q) ++ List.replicate N (ivR p q (x.toNat,y.toNat)):=by
    rw[c6_ HX.out,D3_,List.map_append,List.map_replicate];rfl
   rw[←hbx]at hC9;have HC9:=h_ hC9;have G9:=h_ (G58.out.trans (hb9.mono G58.out.size));clear hC9 hbx hB9 hb9 r0 r1 r2 r3 r4 r5 b2
   (go_wp2_with (at_builtin;refine Hold.stop ?_));unfold Hold
   refine a1q (by rfl) (.tmp 52) (.tmp 57) (by rfl) w4.heap.size wr.heap.size _ us (List.replicate N [Value.int .i64 p,.int .i64 q.v,.slice A2 q.f.length a2,.slice C2 q.t.length c2,.slice E2 q.v.toNat e2,.slice H2' q.f.length h2']) (by rfl) HO9.out (some ⟨g9,0,none⟩) N N (by rfl) (by simp) HNW.out (fun u hu y hy=>by rw[(List.mem_replicate.1 hu).2]at hy;simp only[List.mem_cons,List.not_mem_nil,or_false]at hy;rcases hy with rfl | rfl | rfl | rfl | rfl | rfl <;> rfl) (by omega) (by omega) ?_;intro v' w' hO' hA;have HO':=h_ hO';have HC':=h_ (HC9.out.appT (by decide) (by decide) hA);have G':=h_ (G9.out.trans (hA.below (l_ _) (by omega)));clear hO' hA;go_wp2;go_roundw
   case rel=>exact⟨k+1,_,by omega,by go_num,G'.out,HO'.out,HC'.out⟩
   case measure=>simp[intOf];omega
  ·obtain rfl:k=n:=by omega
   have hC2:=hC;rw[l7_ (by have:=HN.out;omega)]at hC2;have kq:=k1.call gw;obtain⟨q0,q1,q2⟩:=c_3 kq;have hbl:(d0_ l).length≤1000000:=by
    have h2:=J9_ (l:=l) fun b hb=>by
     obtain⟨j,hj⟩:=List.getElem?_of_mem hb;have hj2:l[j]?=some (b.1,b.2.1,b.2.2):=hj;exact (s1_ HTO.out hj2).2.2.1.2
    have:=HN.out;omega
   obtain⟨LA,lc,rfl,_,_⟩:=RowO.form hO;have HO:=h_ hO;have HC2:=h_ hC2;have GW:=h_ gw;clear kq hC hC2 hO gW gw;go_wp2_with fail
   refine (V1_ p _ q _ us (d0_ l) w4.heap.size wr.heap.size _ H1.out HQ.out (QvR.next GW.out HQV.out) HO.out HC2.out hbl).mono ?_;rintro e w5 ⟨r5,rfl,hR,hb5⟩;rw[←HE.out]at hR⊢;clear q0 q1 q2;obtain⟨A3,a3,C3,c3,E3,e3,H3',h3',rfl⟩:=hR.form;have g5:=GW.out.trans (hb5.mono GW.out.size);have kz:=k2.call g5;have fr:=kz.frozen;obtain⟨s0,s1,s2,s3,s4,s5⟩:=c_6 kz;have sz:=SZ.out;have gf:=g0.trans (g5.mono g0.size);have hc:=chg6 w5 (w0.heap.size+1) (.int .i64 (rzP p q l).1.p) (.int .i64 (rzP p q l).1.q.v) (.slice A3 (rzP p q l).1.q.f.length a3) (.slice C3 (rzP p q l).1.q.t.length c3) (.slice E3 (rzP p q l).1.d.length e3) (.slice H3' (rzP p q l).1.m.length h3');have hgs:=GW.out.size;have OF:=h_ ((hR.chg hc (.inr (by omega))).wider (lo':=w0.heap.size) (hi':=w5.heap.size) (by omega) (l_ _));have GF:=h_ (gf.trans (hc.below (by omega) gf.size));clear hR kz gf hc g5 hb5 hgs;go_wp2;exact bodyPost_ret (v:=.tuple #[.agg #[.int .i64 (rzP p q l).1.p,.int .i64 (rzP p q l).1.q.v,.slice A3 (rzP p q l).1.q.f.length a3,.slice C3 (rzP p q l).1.q.t.length c3,.slice E3 (rzP p q l).1.d.length e3,.slice H3' (rzP p q l).1.m.length h3'],.bool (rzP p q l).2]) (by simp[results,go_sem,s0,s1,s2,s3,s4,s5]) rfl ⟨_,rfl,by have:=OF.out.wider (l_ _) (l_ _);simpa using this,GF.out⟩
theorem z4_ (p:Int) (u:Value) (q:Qv) (v:Value) (l:List Bar) (w0:World) (_:I64 p) (hu:QvR w0 w0.heap.size u q) (hv:SlB w0 w0.heap.size v l) :
  Calls Tryz.prog 44 #[.int .i64 p,u,v] w0 fun e w'=>∃ r,e = .returned (.tuple #[r,.bool (rzP p q l).2])∧RepO w' w0.heap.size w'.heap.size r (rzP p q l).1∧Below w0.heap.size w0 w':=by
 rcases h:rzOk p q l with _ | _
 ·exact I5_ p u q v l w0 hu hv h
 ·exact I6_ p u q v l w0 hu hv h
def rbP (p:Int) (q:Qv) (l:List Bar):Rp×Bool:=if isL q then rzP p q l else (rp0,false)
theorem t1_ (p:Int) (u:Value) (q:Qv) (v:Value) (l:List Bar) (w0:World) (hp:I64 p) (hu:QvR w0 w0.heap.size u q) (hv:SlB w0 w0.heap.size v l) :
  Calls Tryz.prog 12 #[.int .i64 p,u,v] w0 fun e w'=>∃ r,e = .returned (.tuple #[r,.bool (rbP p q l).2])∧RepO w' w0.heap.size w'.heap.size r (rbP p q l).1∧Below w0.heap.size w0 w':=by
 have hu':=hu;obtain⟨A,c,C,c',rfl,_,_,hr,lf,lt⟩:=hu.open_;obtain⟨BA,bc,rfl,_,_,_,hbx⟩:=hv.open_;clear hu hv;obtain⟨W,hW,g0,k1,k2⟩:=b_4 w0 #[.int .i64 q.v,.slice A q.f.length c,.slice C q.t.length c'] 26 #[.int .i64 0,.int .i64 0,.slice none 0 0,.slice none 0 0,.slice none 0 0,.slice none 0 0] 29;have sz:W.heap.size=w0.heap.size+1+1:=by rw[hW];simp
 have SZ:=h_ sz;have HQV:=h_ (QvR.next g0 hu');have HBX:=h_ (SlB.next g0 hbx);clear sz hu' hbx;obtain⟨c0,c1,c2⟩:=c_3 k1;rcases hL:isL q with _ | _
 ·have HE:=h_ (show rbP p q l=(rp0,false) by simp[rbP,hL]);have HL:=h_ hL;clear hL;go_enter Tryz.func12,Tryz.ntmps12
  go_wp2_with fail
  rw[←hW];clear hW;refine (g1_ _ q _ HQV.out).mono ?_;rintro e w1 ⟨rfl,hb1⟩;rw[HL.out];have GW:=h_ hb1;clear hb1 c0 c1 c2;have kz:=k2.call GW.out;have fr:=kz.frozen;obtain⟨s0,s1,s2,s3,s4,s5⟩:=c_6 kz;have gf:=g0.trans (GW.out.mono g0.size);have GF:=h_ gf;clear kz gf g0 k1 k2;go_wp2;have gf:=GF.out;have hE:=HE.out;exact bodyPost_ret (v:=.tuple #[.agg #[.int .i64 0,.int .i64 0,.slice none 0 0,.slice none 0 0,.slice none 0 0,.slice none 0 0],.bool false]) (by simp[results,go_sem,s0,s1,s2,s3,s4,s5]) rfl ⟨_,by rw[hE],by rw[hE];exact RepO.zero _ _ _,(((((gf.setCell (by simp) _).setCell (by simp) _).setCell (by simp) _).setCell (by simp) _).setCell (by simp) _).setCell (by simp) _⟩
 ·have HE:=h_ (show rzP p q l=rbP p q l by simp[rbP,hL]);have HL:=h_ hL;clear hL;go_enter Tryz.func12,Tryz.ntmps12
  go_wp2_with fail
  rw[←hW];clear hW;refine (g1_ _ q _ HQV.out).mono ?_;rintro e w1 ⟨rfl,hb1⟩;rw[HL.out];have kq:=k1.call hb1;obtain⟨c0,c1,c2⟩:=c_3 kq;have GW:=h_ hb1;clear kq hb1;go_wp2_with fail
  refine (z4_ p _ q _ l _ hp (QvR.next GW.out HQV.out) (SlB.next GW.out HBX.out)).mono ?_;rintro e w5 ⟨r5,rfl,hR,hb5⟩;rw[HE.out]at hR⊢;clear c0 c1 c2;obtain⟨A3,a3,C3,c3,E3,e3,H3',h3',rfl⟩:=hR.form;have g5:=GW.out.trans (hb5.mono GW.out.size);have kz:=k2.call g5;have fr:=kz.frozen;obtain⟨s0,s1,s2,s3,s4,s5⟩:=c_6 kz;have sz:=SZ.out;have gf:=g0.trans (g5.mono g0.size);have hc:=chg6 w5 (w0.heap.size+1) (.int .i64 (rbP p q l).1.p) (.int .i64 (rbP p q l).1.q.v) (.slice A3 (rbP p q l).1.q.f.length a3) (.slice C3 (rbP p q l).1.q.t.length c3) (.slice E3 (rbP p q l).1.d.length e3) (.slice H3' (rbP p q l).1.m.length h3');have hgs:=GW.out.size;have OF:=h_ ((hR.chg hc (.inr (by omega))).wider (lo':=w0.heap.size) (hi':=w5.heap.size) (by omega) (l_ _));have GF:=h_ (gf.trans (hc.below (by omega) gf.size));clear hR kz gf hc g5 hb5 hgs;go_wp2;exact bodyPost_ret (v:=.tuple #[.agg #[.int .i64 (rbP p q l).1.p,.int .i64 (rbP p q l).1.q.v,.slice A3 (rbP p q l).1.q.f.length a3,.slice C3 (rbP p q l).1.q.t.length c3,.slice E3 (rbP p q l).1.d.length e3,.slice H3' (rbP p q l).1.m.length h3'],.bool (rbP p q l).2]) (by simp[results,go_sem,s0,s1,s2,s3,s4,s5]) rfl ⟨_,rfl,by have:=OF.out.wider (l_ _) (l_ _);simpa using this,GF.out⟩
def bkA (c:Nat) (f:Nat→Nat→Int) (i k a b:Nat):Int:=if a<i∧b<c∨a=i∧b<k then f a b else 0
theorem i3X (R C c:Nat) (f:Nat→Nat→Int):flat R C (fun _ _=>0)=flat R C (bkA c f 0 0):=c1_ fun a b _ _=>by simp[bkA]
theorem f5z {R C c i k:Nat} (f:Nat→Nat→Int) (hi:i<R) (hk:k<c) (hc:c≤C):(flat R C (bkA c f i k)).set (i*C+k) (f i k)=flat R C (bkA c f i (k+1)):=by
 rw[k8_ _ _ hi (by omega)];refine c1_ fun a b _ _=>?_
 simp only[bkA]
 (repeat' split) <;> first | rfl | omega | (rename_i h _;rw[h.1,h.2])
theorem d1Z (R C c i:Nat) (f:Nat→Nat→Int):flat R C (bkA c f i c)=flat R C (bkA c f (i+1) 0):=by
 refine c1_ fun a b ha _=>?_
 simp only[bkA]
 (repeat' split) <;> first | rfl | omega
def bkB (r c:Nat) (f g:Nat→Nat→Int) (i k a b:Nat):Int:=if r≤a∧c≤b∧(a<r+i∨a=r+i∧b<c+k) then g (a-r) (b-c) else bkA c f r 0 a b
theorem i4j (R C r c:Nat) (f g:Nat→Nat→Int):flat R C (bkA c f r 0)=flat R C (bkB r c f g 0 0):=c1_ fun a b _ _=>by
 rw[bkB,if_neg (by omega)]
theorem f5J {R C r c i k:Nat} (f g:Nat→Nat→Int) (hi:r+i<R) (hk:c+k<C):(flat R C (bkB r c f g i k)).set ((r+i)*C+(c+k)) (g i k)=flat R C (bkB r c f g i (k+1)):=by
 rw[k8_ _ _ hi hk];refine c1_ fun a b _ _=>?_
 simp only[bkB];by_cases h:a=r+i∧b=c+k
 ·rw[if_pos h,if_pos (by omega),h.1,h.2,Nat.add_sub_cancel_left,Nat.add_sub_cancel_left]
 ·rw[if_neg h];have:(r≤a∧c≤b∧(a<r+i∨a=r+i∧b<c+k))=(r≤a∧c≤b∧(a<r+i∨a=r+i∧b<c+(k+1))):=by
   simp only[eq_iff_iff];omega
  simp only[this]
theorem d1X {R C r c d i:Nat} (f g:Nat→Nat→Int) (hC:C=c+d):flat R C (bkB r c f g i d)=flat R C (bkB r c f g (i+1) 0):=by
 refine c1_ fun a b ha hb=>?_
 simp only[bkB];have:(r≤a∧c≤b∧(a<r+i∨a=r+i∧b<c+d))=(r≤a∧c≤b∧(a<r+(i+1)∨a=r+(i+1)∧b<c+0)):=by
  simp only[eq_iff_iff];omega
 simp only[this]
theorem f5x {R C r s c:Nat} (f g:Nat→Nat→Int) (hR:R=r+s):flat R C (bkB r c f g s 0)=flat R C (dsE r c f g):=by
 refine c1_ fun a b ha _=>?_
 simp only[bkB,dsE,blF,bsF,bkA]
 (repeat' split) <;> first | rfl | omega
theorem a2X (u v:Value) (r s c d:Nat) (f g:Nat→Nat→Int) (w0:World) (hu:MxR w0 w0.heap.size u (mxF r c f)) (hv:MxR w0 w0.heap.size v (mxF s d g)) (hr:r≤100) (hs:s≤100) (hc:c≤100) (hd:d≤100) :
  Calls Tryz.prog 106 #[u,v] w0 fun e w'=>∃ v,e = .returned v∧MxO w' w0.heap.size w'.heap.size v (mxF (r+s) (c+d) (dsE r c f g))∧Below w0.heap.size w0 w':=by
 obtain⟨U,uc,rfl,hsu,_,_,_⟩:=hu.open_;obtain⟨V,vc,rfl,hsv,_,_,_⟩:=hv.open_;clear hu hv;simp only[mxF]at hsu hsv⊢;have HSU:=h_ hsu;have HSV:=h_ hsv;obtain⟨L,hL⟩:=e_ ((flat r c f).length);obtain⟨L',hL'⟩:=e_ ((flat s d g).length);have HL:=h_ hL;have HL':=h_ hL';rw[hL,hL'];obtain⟨W,hW⟩:∃ W,W=((w0.alloc (.cells #[.int .i64 r,.int .i64 c,.slice U L uc] 65)).alloc (.cells #[.int .i64 s,.int .i64 d,.slice V L' vc] 65)).alloc (.cells #[.int .i64 0,.int .i64 0,.slice none 0 0] 65):=⟨_,rfl⟩;have g0:Below w0.heap.size w0 W:=by rw[hW];exact (((Below.refl _ _).alloc (l_ _) _).alloc (by simp) _).alloc (by simp;omega) _
 have k1:Blk W w0.heap.size 65 #[.int .i64 r,.int .i64 c,.slice U L uc]:=by rw[hW];exact ((Blk.new _ _ _).alloc _).alloc _
 have k2:Blk W (w0.heap.size+1) 65 #[.int .i64 s,.int .i64 d,.slice V L' vc]:=by
  rw[hW];have:=(Blk.new (w0.alloc (.cells #[.int .i64 r,.int .i64 c,.slice U L uc] 65)) 65 #[.int .i64 s,.int .i64 d,.slice V L' vc]).alloc (.cells #[.int .i64 0,.int .i64 0,.slice none 0 0] 65);simpa only[l3_] using this
 have k3:Blk W (w0.heap.size+1+1) 65 #[.int .i64 0,.int .i64 0,.slice none 0 0]:=by
  rw[hW];have:=Blk.new ((w0.alloc (.cells #[.int .i64 r,.int .i64 c,.slice U L uc] 65)).alloc (.cells #[.int .i64 s,.int .i64 d,.slice V L' vc] 65)) 65 #[.int .i64 0,.int .i64 0,.slice none 0 0];simpa only[l3_] using this
 have sz:W.heap.size=w0.heap.size+1+1+1:=by rw[hW];simp
 have K1:=h_ k1;have K2:=h_ k2;have K3:=h_ k3;have SZ:=h_ sz;have q0:=k1.cell' (i:=0) rfl;have q1:=k1.cell' (i:=1) rfl;have p0:=k2.cell' (i:=0) rfl;have p1:=k2.cell' (i:=1) rfl;clear k1 k2 k3 sz hsu hsv hL hL';obtain⟨R,hR⟩:=e_ (r+s);obtain⟨K,hK⟩:=e_ (c+d);rw[hR,hK];go_enter Tryz.func106,Tryz.ntmps106
 go_wp2_with fail
 rw[←hW];clear hW;refine (p7_ ((r:Int)+s) ((c:Int)+d) W (by omega) (by omega) (by omega) (by omega)).mono ?_;rintro e w1 ⟨v1,rfl,⟨sA,rfl,oA,hr2,hc2⟩,hb1⟩;rw[show (r:Int)+(s:Int)=(R:Int) by omega,show (c:Int)+(d:Int)=(K:Int) by omega,o6_]at oA hr2 hc2⊢;simp only[mxF]at oA hr2 hc2⊢;rw[i3X R K c f]at oA;have hR2:R≤200:=by omega
 have hK2:K≤200:=by omega
 have hrR:r≤R:=by omega
 have hcK:c≤K:=by omega
 have HR:=h_ hR;have HK:=h_ hK;clear hR hK;obtain⟨A1,c1,e1⟩:=oA.form;obtain⟨N,hN⟩:=e_ (R*K);rw[a1_,hN]at e1;subst e1;have HN:=h_ hN;clear hN q0 q1 p0 p1;have s1:=hb1.size;obtain⟨W4,hW4,b4,k4⟩:=b_1 w1 #[.int .i64 R,.int .i64 K,.slice A1 N c1] 65;have oA:=oA.below b4;have gW:=b0_ hb1 b4;clear b4 hb1;go_wp2;clear hW4;go_loopw [6] (fun i wr=>∃ j:Nat,j≤r∧i = .int .i64 j∧Blk wr w1.heap.size 65 #[.int .i64 R,.int .i64 K,.slice A1 N c1]∧a8_ wr W.heap.size w1.heap.size (.slice A1 N c1) (flat R K (bkA c f j 0))∧Below W.heap.size W wr) (fun i _=>r-(intOf i).toNat)
 case atStart=>exact⟨0,l0_ _,rfl,k4,oA,gW⟩
 case round =>
  clear k4 oA gW;obtain⟨j,hj,rfl,k4,oA,gW⟩:=hrel;have s6:=gW.size;have k1:=(K1.out).below gW (by have:=SZ.out;omega);have q0:=k1.cell' (i:=0) rfl;by_cases hlt:j<r
  ·go_wp2;clear k1 q0;go_loopw [7] (fun i wr=>∃ k:Nat,k≤c∧i = .int .i64 k∧Blk wr w1.heap.size 65 #[.int .i64 R,.int .i64 K,.slice A1 N c1]∧a8_ wr W.heap.size w1.heap.size (.slice A1 N c1) (flat R K (bkA c f j k))∧Below W.heap.size W wr) (fun i _=>c-(intOf i).toNat)
   case atStart=>exact⟨0,l0_ _,rfl,k4,oA,gW⟩
   case round =>
    clear k4 oA gW s6;obtain⟨k,hk,rfl,k4,oA,gW⟩:=hrel;have s6:=gW.size;have k1:=(K1.out).below gW (by have:=SZ.out;omega);have q1:=k1.cell' (i:=1) rfl;by_cases hlk:k<c
    ·obtain⟨P,J,hP,hPJ,hJ,hJN,hJb⟩:=m3_ (r:=R) (c:=K) (show j<R by omega) (show k<K by omega) (by omega) (by omega);rw[HN.out]at hJN;have hst:=f5z (R:=R) (C:=K) f (show j<R by omega) hlk hcK;rw[←hJ]at hst;subst hPJ;obtain⟨P2,J2,hP2,hPJ2,hJ2,hJN2,hJb2⟩:=m3_ hlt hlk (by omega) (by omega);have hs':=HSU.out;obtain⟨b,o,x,rfl,hb,HX,x1,xr⟩:=SlI.at_ (k:=P2+k) hs' (by rw[a1_];omega);have hx:=HX.out;rw[hPJ2,hJ2,k3_ f hlt hlk]at hx;injection hx with hx
     subst hx;have hJL:P2+k<L:=by rw[←HL.out,a1_];omega
     have hJb3:P2+k≤1000000:=by omega
     have gww:Below w0.heap.size w0 wr:=g0.trans (gW.mono g0.size);have gwws:=gww.size;have x2:=a4_ gww hb x1;obtain⟨gA,cA,eA,a1,a2,a3⟩:=oA.at_ (by rw[a1_,HN.out];omega);rw[a1_,HN.out]at eA;injection eA with eA1 eA2 eA3
     subst eA1 eA3;have hP':=h_ hP;have hP2':=h_ hP2;clear hs' HX x1 hJ hJ2 hPJ2 hJN2;go_wp2;refine a9_ (by kernel_rfl) [.eq (.pointer (some ⟨w1.heap.size,2,none⟩)),.eq (.slice (some ⟨gA,0,none⟩) N c1),.eq (.int .i64 j),.eq (.pointer (some ⟨w1.heap.size,1,none⟩)),.eq (.int .i64 K),.eq (.int .i64 P),.eq (.int .i64 k),.eq (.int .i64 ((P:Int)+k)),.eq (.pointer (some ⟨w0.heap.size,2,none⟩)),.eq (.slice (some ⟨b,o,none⟩) L uc),.eq (.int .i64 j),.eq (.pointer (some ⟨w0.heap.size,1,none⟩)),.eq (.int .i64 c),.eq (.int .i64 P2),.eq (.int .i64 k),.eq (.int .i64 ((P2:Int)+k)),.eq (.pointer (some ⟨b,o+(P2+k),none⟩)),.eq (.int .i64 (f j k)),.eq (.pointer (some ⟨gA,P+k,none⟩))] [[],[0],[],[],[3],[2,3,4],[],[2,3,4,5,6],[],[8],[],[],[11],[10,11,12],[],[10,11,12,13,14],[8,9,10,11,12,13,14,15],[8,9,10,11,12,13,14,15,16],[0,1,2,3,4,5,6,7,8,9,10,11,12,13,14,15,16,17],[0,1,2,3,4,5,6,7,8,9,10,11,12,13,14,15,16,17,18]] 19 (by kernel_rfl) ⟨trivial,trivial,trivial,trivial,trivial,trivial,trivial,trivial,trivial,trivial,trivial,trivial,trivial,trivial,trivial,trivial,trivial,trivial,trivial,trivial⟩ ⟨?_,?_,?_,?_,?_,?_,?_,?_,?_,?_,?_,?_,?_,?_,?_,?_,?_,?_,?_,trivial⟩ ?_;iterate 19 (intro x w hb hk Q' hQ;have he:=k_e hk;simp only[k_s]at he;simp only[netE]at hQ⊢;(try simp only[he]at hQ⊢);(try clear he);rotate_left)
     rotate_left
     ·clear hk;go_wp2;exact hQ _ _ br_ rfl
     ·clear hk;have z2:=(k4.call hb).cell' (i:=2) rfl;go_wp2;exact hQ _ _ br_ rfl
     iterate 2 (· clear hk;go_wp2;exact hQ _ _ br_ rfl)
     ·clear hk;have z2:=(k4.call hb).cell' (i:=1) rfl;go_wp2;exact hQ _ _ br_ rfl
     ·clear hk;go_wp2;rw[hP'.out];exact hQ _ _ br_ rfl
     iterate 3 (· clear hk;go_wp2;exact hQ _ _ br_ rfl)
     ·clear hk;have z2:=(k1.call hb).cell' (i:=2) rfl;go_wp2;exact hQ _ _ br_ rfl
     iterate 2 (· clear hk;go_wp2;exact hQ _ _ br_ rfl)
     ·clear hk;have z2:=(k1.call hb).cell' (i:=1) rfl;go_wp2;exact hQ _ _ br_ rfl
     ·clear hk;go_wp2;rw[hP2'.out];exact hQ _ _ br_ rfl
     iterate 3 (· clear hk;go_wp2;exact hQ _ _ br_ rfl)
     ·clear hk;have z2:=a4_ hb (by omega) x2;go_wp2;exact hQ _ _ br_ rfl
     ·clear hk;go_wp2;exact hQ _ _ br_ rfl
     ·intro x w hb hk hiv hdj;have he:=k_g hk [0,1,2,3,4,5,6,7,8,9,10,11,12,13,14,15,16,17,18];simp only[k_s]at he;simp only[netE,he];clear he hk;have oB:=oA.below hb;have k4b:=k4.call hb;have fA:=oB.1.frozenG (P+k);have cA:=(oB.1.cellG (j:=P+k) (by rw[a1_,HN.out];omega)).1;have hws:=hb.size;have hc1:Chg W.heap.size w1.heap.size w (w.setCell ⟨gA,P+k,none⟩ (.int .i64 (f j k))):=a5_ a1 a2;have oA2:=oB.put (j:=P+k) (x:=f j k) xr;rw[hst]at oA2;have OA2:=h_ oA2;have K4:=h_ (k4b.chg hc1 (by omega));have GW:=h_ ((gW.trans (hb.mono s6)).trans (hc1.below (l_ _) (by omega)));clear oA2 k4 oA gW hc1 hst oB k4b hiv hdj hb k1 q1;go_wp2;go_roundw
      case rel=>exact⟨k+1,by omega,by go_num,K4.out,OA2.out,GW.out⟩
      case measure=>simp[intOf];omega
    ·obtain rfl:k=c:=by omega
     rw[d1Z]at oA;have OA:=h_ oA;have K4:=h_ k4;have GW:=h_ gW;clear oA k4 gW k1;go_wp2;go_roundw
     case rel=>exact⟨j+1,by omega,by go_num,K4.out,OA.out,GW.out⟩
     case measure=>simp[intOf];omega
  ·obtain rfl:j=r:=by omega
   rw[i4j R K j c f g]at oA;obtain⟨W5,hW5⟩:=e_ (wr);rw[hW5]at oA k4 gW q0 s6⊢;clear hW5 k1;go_wp2;go_loopw [8] (fun i wr=>∃ i':Nat,i'≤s∧i = .int .i64 i'∧Blk wr w1.heap.size 65 #[.int .i64 R,.int .i64 K,.slice A1 N c1]∧a8_ wr W.heap.size w1.heap.size (.slice A1 N c1) (flat R K (bkB j c f g i' 0))∧Below W.heap.size W wr) (fun i _=>s-(intOf i).toNat)
   case atStart=>exact⟨0,l0_ _,rfl,k4,oA,gW⟩
   case round =>
    clear k4 oA gW q0 s6;obtain⟨i',hi',rfl,k4,oA,gW⟩:=hrel;have s6:=gW.size;have k2:=(K2.out).below gW (by have:=SZ.out;omega);have q0:=k2.cell' (i:=0) rfl;by_cases hlt:i'<s
    ·go_wp2;clear k2 q0;go_loopw [9] (fun i wr=>∃ k:Nat,k≤d∧i = .int .i64 k∧Blk wr w1.heap.size 65 #[.int .i64 R,.int .i64 K,.slice A1 N c1]∧a8_ wr W.heap.size w1.heap.size (.slice A1 N c1) (flat R K (bkB j c f g i' k))∧Below W.heap.size W wr) (fun i _=>d-(intOf i).toNat)
     case atStart=>exact⟨0,l0_ _,rfl,k4,oA,gW⟩
     case round =>
      clear k4 oA gW s6;obtain⟨k,hk,rfl,k4,oA,gW⟩:=hrel;have s6:=gW.size;have k1:=(K1.out).below gW (by have:=SZ.out;omega);have k2:=(K2.out).below gW (by have:=SZ.out;omega);have q1:=k2.cell' (i:=1) rfl;by_cases hlk:k<d
      ·have hRR:=HR.out;have hKK:=HK.out;obtain⟨P,J,hP,hPJ,hJ,hJN,hJb⟩:=m3_ (r:=R) (c:=K) (i:=j+i') (k:=c+k) (by omega) (by omega) (by omega) (by omega);rw[HN.out]at hJN;have hst:=f5J (R:=R) (C:=K) f g (show j+i'<R by omega) (show c+k<K by omega);rw[←hJ]at hst;subst hPJ;obtain⟨P2,J2,hP2,hPJ2,hJ2,hJN2,hJb2⟩:=m3_ hlt hlk (by omega) (by omega);have hs':=HSV.out;obtain⟨b,o,x,rfl,hb,HX,x1,xr⟩:=SlI.at_ (k:=P2+k) hs' (by rw[a1_];omega);have hx:=HX.out;rw[hPJ2,hJ2,k3_ g hlt hlk]at hx;injection hx with hx
       subst hx;have hJL:P2+k<L':=by rw[←HL'.out,a1_];omega
       have hJb3:P2+k≤1000000:=by omega
       have gww:Below w0.heap.size w0 wr:=g0.trans (gW.mono g0.size);have gwws:=gww.size;have x2:=a4_ gww hb x1;obtain⟨gA,cA,eA,a1,a2,a3⟩:=oA.at_ (by rw[a1_,HN.out];omega);rw[a1_,HN.out]at eA;injection eA with eA1 eA2 eA3
       subst eA1 eA3;have hP':=h_ (show wrap64 (((j:Int)+i')*(K:Int))=(P:Int) by rw[←hP];push_cast;rfl);have hP2':=h_ hP2;clear hs' HX x1 hJ hJ2 hPJ2 hJN2 hP hRR hKK;go_wp2;refine a9_ (by kernel_rfl) [.eq (.pointer (some ⟨w1.heap.size,2,none⟩)),.eq (.slice (some ⟨gA,0,none⟩) N c1),.eq (.pointer (some ⟨w0.heap.size,0,none⟩)),.eq (.int .i64 j),.eq (.int .i64 i'),.eq (.int .i64 ((j:Int)+i')),.eq (.pointer (some ⟨w1.heap.size,1,none⟩)),.eq (.int .i64 K),.eq (.int .i64 P),.eq (.pointer (some ⟨w0.heap.size,1,none⟩)),.eq (.int .i64 c),.eq (.int .i64 ((P:Int)+c)),.eq (.int .i64 k),.eq (.int .i64 ((P:Int)+c+k)),.eq (.pointer (some ⟨w0.heap.size+1,2,none⟩)),.eq (.slice (some ⟨b,o,none⟩) L' vc),.eq (.int .i64 i'),.eq (.pointer (some ⟨w0.heap.size+1,1,none⟩)),.eq (.int .i64 d),.eq (.int .i64 P2),.eq (.int .i64 k),.eq (.int .i64 ((P2:Int)+k)),.eq (.pointer (some ⟨b,o+(P2+k),none⟩)),.eq (.int .i64 (g i' k)),.eq (.pointer (some ⟨gA,P+(c+k),none⟩))] [[],[0],[],[2],[],[2,3,4],[],[6],[2,3,4,5,6,7],[],[9],[2,3,4,5,6,7,8,9,10],[],[2,3,4,5,6,7,8,9,10,11,12],[],[14],[],[],[17],[16,17,18],[],[16,17,18,19,20],[14,15,16,17,18,19,20,21],[14,15,16,17,18,19,20,21,22],[0,1,2,3,4,5,6,7,8,9,10,11,12,13,14,15,16,17,18,19,20,21,22,23],[0,1,2,3,4,5,6,7,8,9,10,11,12,13,14,15,16,17,18,19,20,21,22,23,24]] 25 (by kernel_rfl) ⟨trivial,trivial,trivial,trivial,trivial,trivial,trivial,trivial,trivial,trivial,trivial,trivial,trivial,trivial,trivial,trivial,trivial,trivial,trivial,trivial,trivial,trivial,trivial,trivial,trivial,trivial⟩ ⟨?_,?_,?_,?_,?_,?_,?_,?_,?_,?_,?_,?_,?_,?_,?_,?_,?_,?_,?_,?_,?_,?_,?_,?_,?_,trivial⟩ ?_;iterate 25 (intro x w hb hk Q' hQ;have he:=k_e hk;simp only[k_s]at he;simp only[netE]at hQ⊢;(try simp only[he]at hQ⊢);(try clear he);rotate_left)
       rotate_left
       ·clear hk;go_wp2;exact hQ _ _ br_ rfl
       ·clear hk;have z2:=(k4.call hb).cell' (i:=2) rfl;go_wp2;exact hQ _ _ br_ rfl
       ·clear hk;go_wp2;exact hQ _ _ br_ rfl
       ·clear hk;have z2:=(k1.call hb).cell' (i:=0) rfl;go_wp2;exact hQ _ _ br_ rfl
       iterate 3 (· clear hk;go_wp2;exact hQ _ _ br_ rfl)
       ·clear hk;have z2:=(k4.call hb).cell' (i:=1) rfl;go_wp2;exact hQ _ _ br_ rfl
       ·clear hk;go_wp2;rw[hP'.out];exact hQ _ _ br_ rfl
       ·clear hk;go_wp2;exact hQ _ _ br_ rfl
       ·clear hk;have z2:=(k1.call hb).cell' (i:=1) rfl;go_wp2;exact hQ _ _ br_ rfl
       iterate 4 (· clear hk;go_wp2;exact hQ _ _ br_ rfl)
       ·clear hk;have z2:=(k2.call hb).cell' (i:=2) rfl;go_wp2;exact hQ _ _ br_ rfl
       iterate 2 (· clear hk;go_wp2;exact hQ _ _ br_ rfl)
       ·clear hk;have z2:=(k2.call hb).cell' (i:=1) rfl;go_wp2;exact hQ _ _ br_ rfl
       ·clear hk;go_wp2;rw[hP2'.out];exact hQ _ _ br_ rfl
       iterate 3 (· clear hk;go_wp2;exact hQ _ _ br_ rfl)
       ·clear hk;have z2:=a4_ hb (by omega) x2;go_wp2;exact hQ _ _ br_ rfl
       ·clear hk;have hga:(P:Int)+c+k=((P+(c+k):Nat):Int):=by push_cast;omega
        rw[hga]at hQ⊢;go_wp2;exact hQ (.pointer (some ⟨gA,P+(c+k),none⟩)) _ br_ rfl
       ·intro x w hb hk hiv hdj;have he:=k_g hk [0,1,2,3,4,5,6,7,8,9,10,11,12,13,14,15,16,17,18,19,20,21,22,23,24];simp only[k_s]at he;simp only[netE,he];clear he hk;have oB:=oA.below hb;have k4b:=k4.call hb;have fA:=oB.1.frozenG (P+(c+k));have cA:=(oB.1.cellG (j:=P+(c+k)) (by rw[a1_,HN.out];omega)).1;have hws:=hb.size;have hc1:Chg W.heap.size w1.heap.size w (w.setCell ⟨gA,P+(c+k),none⟩ (.int .i64 (g i' k))):=a5_ a1 a2;have oA2:=oB.put (j:=P+(c+k)) (x:=g i' k) xr;rw[hst]at oA2;have OA2:=h_ oA2;have K4:=h_ (k4b.chg hc1 (by omega));have GW:=h_ ((gW.trans (hb.mono s6)).trans (hc1.below (l_ _) (by omega)));clear oA2 k4 oA gW hc1 hst oB k4b hiv hdj hb k1 k2 q1;go_wp2;go_roundw
        case rel=>exact⟨k+1,by omega,by go_num,K4.out,OA2.out,GW.out⟩
        case measure=>simp[intOf];omega
      ·obtain rfl:k=d:=by omega
       rw[d1X f g HK.out.symm]at oA;have OA:=h_ oA;have K4:=h_ k4;have GW:=h_ gW;clear oA k4 gW k1 k2;go_wp2;go_roundw
       case rel=>exact⟨i'+1,by omega,by go_num,K4.out,OA.out,GW.out⟩
       case measure=>simp[intOf];omega
    ·obtain rfl:i'=s:=by omega
     rw[f5x f g HR.out.symm]at oA;have k3:=K3.out.below gW (by have:=SZ.out;omega);obtain⟨z0,z1,z2⟩:=c_3 k4;obtain⟨p0,p1,p2⟩:=c_3 k3;have f2:=k3.frozen;have h2:=chg3 wr (w0.heap.size+1+1) (.int .i64 (R:Int)) (.int .i64 K) (.slice A1 N c1);have gw:Below w0.heap.size w0 wr:=g0.trans (gW.mono g0.size);have gs:=gw.size;have oA2:=(oA.chg h2 (.inr (by have:=SZ.out;omega))).wider (lo':=w0.heap.size) (hi':=wr.heap.size) (by have:=SZ.out;omega) (by have:=k4.lt;omega);have fg:=gw.trans (h2.below (by omega) gs);have OA2:=h_ oA2;have FG:=h_ fg;clear oA oA2 fg gw h2 k2 k3 k4 gW;go_wp2;exact bodyPost_ret (v:=.agg #[.int .i64 (R:Int),.int .i64 K,.slice A1 N c1]) (by simp[results,go_sem,p0,p1,p2]) rfl ⟨_,rfl,⟨_,rfl,by simpa using OA2.out,hr2,hc2⟩,FG.out⟩
def sumR (p:Int) (q:Qv) (D D':Nat→Nat) (E E':Nat→Nat→Nat→Int):Rp:=rpF p q (fun v=>D v+D' v) (dsSF q D E E')
def sumP (p:Int) (q:Qv) (D D':Nat→Nat) (E E':Nat→Nat→Nat→Int):Rp×Bool:=if m9_ (sumR p q D D' E E') then (sumR p q D D' E E',true) else (rp0,false)
def sumM (q:Qv) (D D':Nat→Nat) (E E':Nat→Nat→Nat→Int) (i:Nat):Mx:=mxF (D (tN q i)+D' (tN q i)) (D (fN q i)+D' (fN q i)) (dsE (D (tN q i)) (D (fN q i)) (E i) (E' i))
theorem b0j (n:Nat) (F:Nat→Mx):msF (n+1) F=msF n F ++ [F n]:=by simp[msF,List.range_succ]
theorem c7z (n:Nat) (g:Nat→Int):rowF (n+1) g=rowF n g ++ [g n]:=by simp[rowF,List.range_succ]
theorem OwnI.fresh {w:World} {base g:Nat} (h:Blk w g 3 #[]) (hb:base≤g):OwnI w base (.slice (some ⟨g,0,none⟩) 0 0) []:=by
 have h1:=h.own (base:=base) (n:=0) (cap:=0) (size:=1) hb (l_ _) (by simp only[maxLen];omega) (by simp);exact⟨by simpa using h1,by simp,fun x hx=>by simp at hx⟩
theorem RowO.fresh {w:World} {base g:Nat} {T:TypeId} {sz:Nat} (h:Blk w g T #[]) (hb:base≤g):RowO T sz w base w.heap.size (.slice (some ⟨g,0,none⟩) 0 0) 0 []:=by
 have h1:=h.own (base:=base) (n:=0) (cap:=0) (size:=sz) hb (l_ _) (by simp only[maxLen];omega) (by simp);exact⟨by simpa using h1,fun k hk=>by simp[Value.ownBlock]at hk;subst hk;exact h.lt,by omega⟩
theorem i2q {w:World} {g:Nat} {x:Int} (hk:Blk w g 3 #[.int .i64 x]) (hx:I64 x):SlI w w.heap.size (.slice (some ⟨g,0,none⟩) 1 1) [x] :=
 ⟨some ⟨g,0,none⟩,1,rfl,by simp,by omega,by simp,fun _=>⟨g,0,rfl,hk.lt,fun j y hj=>by
  match j,hj with
  | 0,hj=>simp at hj;subst hj;exact⟨by simpa using hk.cell' (i:=0) rfl,hx⟩
  | j+1,hj=>simp at hj⟩⟩
theorem Fam.two_apart {w:World} {lo hi l1 h1 l2 h2:Nat} {a b:Value} {l m:List Int} (ha:a8_ w l1 h1 a l) (hb:a8_ w l2 h2 b m) (hd:h1≤l2∨h2≤l1) (k1:lo≤l1) (k2:lo≤l2) (k3:h1≤hi) (k4:h2≤hi):Fam w lo hi ([(a,l)] ++ (b,m) :: []):=X1_ ha hb hd k1 k2 k3 k4
theorem t8_ (ua ub:Value) (p:Int) (q:Qv) (D D':Nat→Nat) (E E':Nat→Nat→Nat→Int) (w0:World) (ha:RpR w0 w0.heap.size ua (rpF p q D E)) (hb:RpR w0 w0.heap.size ub (rpF p q D' E')) (hra:m9_ (rpF p q D E)=true) (hrb:m9_ (rpF p q D' E')=true) :
  Calls Tryz.prog 57 #[ua,ub] w0 fun e w'=>∃ r,e = .returned (.tuple #[r,.bool (sumP p q D D' E E').2])∧RepI w' w0.heap.size w'.heap.size r (sumP p q D D' E E').1∧Below w0.heap.size w0 w':=by
 have hda1:=(j0_.1 hra).2.1;have hdb1:=(j0_.1 hrb).2.1;have hq:isQ q=true:=(c3_.1 hda1).1;have hD:∀ v,v<q.v.toNat→D v≤4:=fun v hv=>by
  have:=(c3_.1 hda1).2.2.1 _ (l4_ (c0_ (fun v=>((D v:Nat):Int)) hv));omega
 have hD':∀ v,v<q.v.toNat→D' v≤4:=fun v hv=>by
  have:=(c3_.1 hdb1).2.2.1 _ (l4_ (c0_ (fun v=>((D' v:Nat):Int)) hv));omega
 clear hda1 hdb1;have HQ:=h_ hq;have hn6:q.f.length≤6:=(j2_.1 hq).2.2.1;have hV5:q.v.toNat≤5:=by have:=(j2_.1 hq).1;omega
 have HRA:=h_ hra;have HRB:=h_ hrb;clear hq hra hrb;have ha':=ha;have hb':=hb;have hI:I64 p∧I64 q.v:=by obtain⟨_,_,_,_,_,_,_,_,_,h⟩:=ha;exact h
 obtain⟨A,a,C,c,Ea,ea,Ha,ha_,rfl,hqa,hda,hma,hp,_,_⟩:=ha.open_;obtain⟨A2,a2,C2,c2,Eb,eb,Hb,hb_,rfl,hqb,hdb,hmb,hp2,_,_⟩:=hb.open_;clear ha hb hqb;simp only[rpF,a2_,b2_]at hqa hda hdb hma hmb ha' hb'⊢;obtain⟨W,hW⟩:∃ W,W=((w0.alloc (.cells #[.int .i64 p,.int .i64 q.v,.slice A q.f.length a,.slice C q.t.length c,.slice Ea q.v.toNat ea,.slice Ha q.f.length ha_] 29)).alloc (.cells #[.int .i64 p,.int .i64 q.v,.slice A2 q.f.length a2,.slice C2 q.t.length c2,.slice Eb q.v.toNat eb,.slice Hb q.f.length hb_] 29)).alloc (.cells #[.int .i64 0,.int .i64 0,.slice none 0 0,.slice none 0 0,.slice none 0 0,.slice none 0 0] 29):=⟨_,rfl⟩;have g0:Below w0.heap.size w0 W:=by rw[hW];exact (((Below.refl _ _).alloc (l_ _) _).alloc (by simp) _).alloc (by simp;omega) _
 have k1:Blk W w0.heap.size 29 #[.int .i64 p,.int .i64 q.v,.slice A q.f.length a,.slice C q.t.length c,.slice Ea q.v.toNat ea,.slice Ha q.f.length ha_]:=by rw[hW];exact ((Blk.new _ _ _).alloc _).alloc _
 have k2:Blk W (w0.heap.size+1) 29 #[.int .i64 p,.int .i64 q.v,.slice A2 q.f.length a2,.slice C2 q.t.length c2,.slice Eb q.v.toNat eb,.slice Hb q.f.length hb_]:=by
  rw[hW];have:=(Blk.new (w0.alloc (.cells #[.int .i64 p,.int .i64 q.v,.slice A q.f.length a,.slice C q.t.length c,.slice Ea q.v.toNat ea,.slice Ha q.f.length ha_] 29)) 29 #[.int .i64 p,.int .i64 q.v,.slice A2 q.f.length a2,.slice C2 q.t.length c2,.slice Eb q.v.toNat eb,.slice Hb q.f.length hb_]).alloc (.cells #[.int .i64 0,.int .i64 0,.slice none 0 0,.slice none 0 0,.slice none 0 0,.slice none 0 0] 29);simpa only[l3_] using this
 have k3:Blk W (w0.heap.size+1+1) 29 #[.int .i64 0,.int .i64 0,.slice none 0 0,.slice none 0 0,.slice none 0 0,.slice none 0 0]:=by
  rw[hW];have:=Blk.new ((w0.alloc (.cells #[.int .i64 p,.int .i64 q.v,.slice A q.f.length a,.slice C q.t.length c,.slice Ea q.v.toNat ea,.slice Ha q.f.length ha_] 29)).alloc (.cells #[.int .i64 p,.int .i64 q.v,.slice A2 q.f.length a2,.slice C2 q.t.length c2,.slice Eb q.v.toNat eb,.slice Hb q.f.length hb_] 29)) 29 #[.int .i64 0,.int .i64 0,.slice none 0 0,.slice none 0 0,.slice none 0 0,.slice none 0 0];simpa only[l3_] using this
 have sz:W.heap.size=w0.heap.size+1+1+1:=by rw[hW];simp
 have SZ:=h_ sz;clear sz;have HA:=h_ (RpR.next g0 ha');have HB:=h_ (RpR.next g0 hb');have HQA:=h_ (QvR.next g0 hqa);have HDA:=h_ (SlI.next g0 hda);have HDB:=h_ (SlI.next g0 hdb);have HMA:=h_ (SlM.next g0 hma);have HMB:=h_ (SlM.next g0 hmb);clear ha' hb' hda hdb hma hmb hqa;obtain⟨V,hV⟩:=e_ (q.v.toNat);rw[hV]at k1 k2 hD hD' hV5 HA HB HDA HDB hW;have HV:=h_ hV;rw[hV];clear hV;have HDk:=h_ hD;have HDk':=h_ hD';clear hD hD';have K1:=h_ k1;have K2:=h_ k2;have K3:=h_ k3;have G0:=h_ g0;obtain⟨z0,z1,z2,z3,z4,z5⟩:=c_6 k1;obtain⟨y0,y1,y2,y3,y4,y5⟩:=c_6 k2;clear k1 k2 k3 g0;go_enter Tryz.func57,Tryz.ntmps57
 go_wp2_with fail
 rw[←hW];clear hW;refine (c4z _ _ (rpF p q D E) (rpF p q D' E') _ (by have:=HA.out;rwa[←HV.out]at this⊢) (by have:=HB.out;rwa[←HV.out]at this⊢) HRA.out HRB.out rfl rfl).mono ?_;rintro e w1 ⟨rfl,hb1⟩;have s1:=hb1.size;have k1:=K1.out.call hb1;clear z0 z1 z2 z3 z4 z5 y0 y1 y2 y3 y4 y5;have HQ1:=h_ (QvR.next hb1 HQA.out);go_wp2;refine a9_ (by kernel_rfl) [.eq (.pointer (some ⟨w0.heap.size,0,none⟩)),.eq (.int .i64 p),.eq (.pointer (some ⟨w0.heap.size,1,none⟩)),.eq (.agg #[.int .i64 q.v,.slice A q.f.length a,.slice C q.t.length c]),rel 4 (fun u lo hi w=>s0_ w lo hi u q),rel 5 (fun u lo hi w=>∃ g,u = .slice (some ⟨g,0,none⟩) 0 0∧(lo≤g∧g<hi)∧Blk w g 3 #[]),rel 6 (fun u lo hi w=>∃ g,u = .slice (some ⟨g,0,none⟩) 0 0∧(lo≤g∧g<hi)∧Blk w g 65 #[]),.rel (fun x w=>∃ qa qb,x.v 4 = .agg #[.int .i64 q.v,qa,qb]∧x.v 7 = .agg #[.int .i64 p,.int .i64 q.v,qa,qb,x.v 5,x.v 6]),rel 8 (fun u lo hi w=>∃ g,u = .pointer (some ⟨g,0,none⟩)∧(lo≤g∧g<hi)∧Blk w g 29 #[.int .i64 0,.int .i64 0,.slice none 0 0,.slice none 0 0,.slice none 0 0,.slice none 0 0])] [[],[0],[],[2],[2,3],[],[],[0,1,2,3,4,5,6],[],[0,1,2,3,4,5,6,7,8]] 9 (by kernel_rfl) ⟨trivial,trivial,trivial,trivial,a7_ (fun u lo hi w w' h hb=>h.below hb),a7_ (fun u lo hi w w' ⟨g,e,h1,h⟩ hb=>⟨g,e,h1,h.call hb⟩),a7_ (fun u lo hi w w' ⟨g,e,h1,h⟩ hb=>⟨g,e,h1,h.call hb⟩),fun x w w' h hb=>h,a7_ (fun u lo hi w w' ⟨g,e,h1,h⟩ hb=>⟨g,e,h1,h.call hb⟩),trivial⟩ ⟨?_,?_,?_,?_,?_,?_,?_,?_,?_,trivial⟩ ?_;iterate 9 (intro x w hb hk Q' hQ;have he:=k_e hk;simp only[k_s]at he;simp only[netE]at hQ⊢;(try simp only[he]at hQ⊢);(try clear he);rotate_left)
 rotate_left
 ·clear hk;go_wp2;exact hQ _ _ br_ rfl
 ·clear hk;have z:=(k1.call hb).cell' (i:=0) rfl;go_wp2;exact hQ _ _ br_ rfl
 ·clear hk;go_wp2;exact hQ _ _ br_ rfl
 ·clear hk;have z1:=(k1.call hb).cell' (i:=1) rfl;have z2:=(k1.call hb).cell' (i:=2) rfl;have z3:=(k1.call hb).cell' (i:=3) rfl;go_wp2;exact hQ _ _ br_ rfl
 ·clear hk;go_wp2_with fail
  refine (E6_ _ q _ (QvR.next hb HQ1.out)).mono ?_;rintro e w7 ⟨v7,rfl,ho,hb7⟩;go_wp2;exact hQ _ _ hb7 ho
 ·clear hk;go_wp2;exact hQ _ _ (a0_ _ _) ⟨_,rfl,⟨l_ _,by show w.heap.size<(w.alloc _).heap.size;simp⟩,Blk.new _ _ _⟩
 ·clear hk;go_wp2;exact hQ _ _ (a0_ _ _) ⟨_,rfl,⟨l_ _,by show w.heap.size<(w.alloc _).heap.size;simp⟩,Blk.new _ _ _⟩
 ·have h4:s0_ w (x.lo 4) (x.hi 4) (x.v 4) q:=(hk 4 (by decide)).1;have h5:∃ g,(x.v 5) = .slice (some ⟨g,0,none⟩) 0 0∧((x.lo 5)≤g∧g<(x.hi 5))∧Blk w g 3 #[]:=(hk 5 (by decide)).1;have h6:∃ g,(x.v 6) = .slice (some ⟨g,0,none⟩) 0 0∧((x.lo 6)≤g∧g<(x.hi 6))∧Blk w g 65 #[]:=(hk 6 (by decide)).1;have s4:=(hk 4 (by decide)).2;have s5:=(hk 5 (by decide)).2;have s6:=(hk 6 (by decide)).2;clear hk;obtain⟨qa,qb,e4,f1,f2,_⟩:=h4;obtain⟨qA,qc,rfl⟩:=f1.form;obtain⟨qB,qd,rfl⟩:=f2.form;obtain⟨gd,e5,_⟩:=h5;obtain⟨gm,e6,_⟩:=h6;have hQ':=hQ (.agg #[.int .i64 p,.int .i64 q.v,.slice qA q.f.length qc,.slice qB q.t.length qd,x.v 5,x.v 6]) w br_ ⟨_,_,e4,rfl⟩;rw[e4,e5,e6]at hQ'⊢;go_wp2;exact hQ'
 ·clear hk;go_wp2;exact hQ _ _ (a0_ _ _) ⟨_,rfl,⟨l_ _,by show w.heap.size<(w.alloc _).heap.size;simp⟩,Blk.new _ _ _⟩
 ·intro x w hb hk hiv hdj;have h4:s0_ w (x.lo 4) (x.hi 4) (x.v 4) q:=hk 4 (by decide);have h5:∃ g,(x.v 5) = .slice (some ⟨g,0,none⟩) 0 0∧((x.lo 5)≤g∧g<(x.hi 5))∧Blk w g 3 #[]:=hk 5 (by decide);have h6:∃ g,(x.v 6) = .slice (some ⟨g,0,none⟩) 0 0∧((x.lo 6)≤g∧g<(x.hi 6))∧Blk w g 65 #[]:=hk 6 (by decide);have h7:∃ qa qb,x.v 4 = .agg #[.int .i64 q.v,qa,qb]∧x.v 7 = .agg #[.int .i64 p,.int .i64 q.v,qa,qb,x.v 5,x.v 6]:=hk 7 (by decide);have h8:∃ g,(x.v 8) = .pointer (some ⟨g,0,none⟩)∧((x.lo 8)≤g∧g<(x.hi 8))∧Blk w g 29 #[.int .i64 0,.int .i64 0,.slice none 0 0,.slice none 0 0,.slice none 0 0,.slice none 0 0]:=hk 8 (by decide);have he:=k_g hk [0,1,2,3];simp only[k_s]at he;simp only[netE,he];clear he hk;obtain⟨qa,qb,e4,f1,f2,_⟩:=h4;obtain⟨qA,qc,rfl⟩:=f1.form;obtain⟨qB,qd,rfl⟩:=f2.form;obtain⟨gd,e5,hgd,hbd⟩:=h5;obtain⟨gm,e6,hgm,hbm⟩:=h6;obtain⟨qa',qb',e4',e7⟩:=h7;rw[e4]at e4';simp only[Value.agg.injEq,Array.mk.injEq,List.cons.injEq,and_true,true_and]at e4';obtain⟨rfl,rfl⟩:=e4';obtain⟨gO,e8,hgO,hBO⟩:=h8;rw[e5,e6]at e7;rw[e7,e8];have i4:=hiv 4 (by decide);have i5:=hiv 5 (by decide);have i6:=hiv 6 (by decide);have i8:=hiv 8 (by decide);have d45:=hdj 4 5 (by decide) (by decide) (by decide);have fr:=hBO.frozen;obtain⟨r0,r1,r2,r3,r4,r5⟩:=c_6 hBO;have hbs:=hb.size;have gOl:=hBO.lt;have od:OwnI w (x.lo 5) (.slice (some ⟨gd,0,none⟩) 0 0) []:=OwnI.fresh hbd hgd.1;have oi:a8_ w (x.lo 5) (x.hi 5) (.slice (some ⟨gd,0,none⟩) 0 0) []:=⟨od,fun k hk=>by simp[Value.ownBlock]at hk;subst hk;exact hgd.2⟩;have FA0:=Fam.two_apart (lo:=w1.heap.size) (hi:=w.heap.size) f1 oi d45 i4.1 i5.1 i4.2.2 i5.2.2;have FB0:=Fam.two_apart (lo:=w1.heap.size) (hi:=w.heap.size) f2 oi d45 i4.1 i5.1 i4.2.2 i5.2.2;have om:RowO 65 3 w w1.heap.size w.heap.size (.slice (some ⟨gm,0,none⟩) 0 0) 0 []:=RowO.fresh hbm (by omega);obtain⟨W3,hW3⟩:=e_ ((((((w.setCell ⟨gO,0,none⟩ (.int .i64 p)).setCell ⟨gO,1,none⟩ (.int .i64 q.v)).setCell ⟨gO,2,none⟩ (.slice qA q.f.length qc)).setCell ⟨gO,3,none⟩ (.slice qB q.t.length qd)).setCell ⟨gO,4,none⟩ (.slice (some ⟨gd,0,none⟩) 0 0)).setCell ⟨gO,5,none⟩ (.slice (some ⟨gm,0,none⟩) 0 0));have b1:=hBO.set_ 0 (.int .i64 p);have b2:=b1.set_ 1 (.int .i64 q.v);have b3:=b2.set_ 2 (.slice qA q.f.length qc);have b4:=b3.set_ 3 (.slice qB q.t.length qd);have b5:=b4.set_ 4 (.slice (some ⟨gd,0,none⟩) 0 0);have b6:=b5.set_ 5 (.slice (some ⟨gm,0,none⟩) 0 0);have hB3:Blk W3 gO 29 #[.int .i64 p,.int .i64 q.v,.slice qA q.f.length qc,.slice qB q.t.length qd,.slice (some ⟨gd,0,none⟩) 0 0,.slice (some ⟨gm,0,none⟩) 0 0]:=by
   rw[←hW3];exact b6
  have hCh:Chg gO (gO+1) w W3:=by
   rw[←hW3];exact chg6 _ _ _ _ _ _ _ _
  have hs3:W3.heap.size=w.heap.size:=by rw[←hW3];simp
  have FA:Fam W3 w1.heap.size W3.heap.size ([(.slice qA q.f.length qc,q.f)] ++ (.slice (some ⟨gd,0,none⟩) 0 0,rowF 0 fun v=>((D v+D' v:Nat):Int)) :: []):=by
   rw[hs3,←hW3];exact (((((FA0.setBlk hBO (by decide) _).setBlk b1 (by decide) _).setBlk b2 (by decide) _).setBlk b3 (by decide) _).setBlk b4 (by decide) _).setBlk b5 (by decide) _
  have FB:Fam W3 w1.heap.size W3.heap.size ([(.slice qB q.t.length qd,q.t)] ++ (.slice (some ⟨gd,0,none⟩) 0 0,rowF 0 fun v=>((D v+D' v:Nat):Int)) :: []):=by
   rw[hs3,←hW3];exact (((((FB0.setBlk hBO (by decide) _).setBlk b1 (by decide) _).setBlk b2 (by decide) _).setBlk b3 (by decide) _).setBlk b4 (by decide) _).setBlk b5 (by decide) _
  have OM:RowO 65 3 W3 w1.heap.size W3.heap.size (.slice (some ⟨gm,0,none⟩) 0 0) 0 []:=by
   rw[hs3,←hW3];exact (((((om.set hBO (by decide) _ _).set b1 (by decide) _ _).set b2 (by decide) _ _).set b3 (by decide) _ _).set b4 (by decide) _ _).set b5 (by decide) _ _
  have gW3:Below w1.heap.size w1 W3:=hb.trans (hCh.below (by omega) (by omega));have sg3:gO<W3.heap.size:=by omega
  have hgO1:w1.heap.size≤gO:=by omega
  have GW1:=h_ hb1;have z4:=(k1.call hb).chg hCh (by have:=k1.lt;omega);have c4:=z4.cell' (i:=4) rfl;clear hiv hdj e4 e5 e6 e7 e8 i4 i5 i6 i8 d45 hBO hCh hs3 hb k1 od oi FA0 FB0 om f1 f2 b1 b2 b3 b4 b5 b6 hbd hbm z4;go_wp2;clear hW3 c4 r0 r1 r2 r3 r4 r5 fr;go_loopw [7] (fun i wr=>∃ (k:Nat) (dA:Option Addr) (dc:Nat),k≤V∧i = .int .i64 k∧Below w1.heap.size w1 wr∧gO<wr.heap.size∧Blk wr gO 29 #[.int .i64 p,.int .i64 q.v,.slice qA q.f.length qc,.slice qB q.t.length qd,.slice dA k dc,.slice (some ⟨gm,0,none⟩) 0 0] ∧
   Fam wr w1.heap.size wr.heap.size ([(.slice qA q.f.length qc,q.f)] ++ (.slice dA k dc,rowF k fun v=>((D v+D' v:Nat):Int)) :: [])∧Fam wr w1.heap.size wr.heap.size ([(.slice qB q.t.length qd,q.t)] ++ (.slice dA k dc,rowF k fun v=>((D v+D' v:Nat):Int)) :: []) ∧
   RowO 65 3 wr w1.heap.size wr.heap.size (.slice (some ⟨gm,0,none⟩) 0 0) 0 []) (fun i _=>V-(intOf i).toNat)
  case atStart=>exact⟨0,_,_,l0_ _,rfl,gW3,sg3,hB3,FA,FB,OM⟩
  case round =>
   clear gW3 sg3 hB3 FA FB OM;obtain⟨k,dA,dc,hk,rfl,gW,sg,hB,FA,FB,OM⟩:=hrel;have gws:=gW.size;have g1W:=GW1.out.trans (gW.mono GW1.out.size);have kA:=K1.out.call g1W;have kB:=K2.out.call g1W;have c4:=kA.cell' (i:=4) rfl;by_cases hlt:k<V
   ·obtain⟨bd,od,y,eD,hbd,HY,y1,_⟩:=SlI.at_ (k:=k) (xs:=rowF V fun v=>((D v:Nat):Int)) (by rw[a2_];exact HDA.out) (by rw[a2_];exact hlt);obtain⟨bd2,od2,y',eD',hbd2,HY',y1',_⟩:=SlI.at_ (k:=k) (xs:=rowF V fun v=>((D' v:Nat):Int)) (by rw[a2_];exact HDB.out) (by rw[a2_];exact hlt);have hy:y=((D k:Nat):Int):=by
     have:=HY.out;rw[c0_ _ hlt]at this;injection this with this
     exact this.symm
    have hy':y'=((D' k:Nat):Int):=by
     have:=HY'.out;rw[c0_ _ hlt]at this;injection this with this
     exact this.symm
    subst hy hy' eD eD';clear HY HY';have x1:=a4_ g1W hbd y1;have x2:=a4_ g1W hbd2 y1';have hb1:=HDk.out k hlt;have hb2:=HDk'.out k hlt;have g1s:=g1W.size;clear y1 y1';go_wp2;refine a9_ (by kernel_rfl) [.eq (.pointer (some ⟨gO,4,none⟩)),.eq (.slice dA k dc),.eq (.pointer (some ⟨w0.heap.size,4,none⟩)),.eq (.slice (some ⟨bd,od,none⟩) V ea),.eq (.int .i64 k),.eq (.pointer (some ⟨bd,od+k,none⟩)),.eq (.int .i64 ((D k:Nat):Int)),.eq (.pointer (some ⟨w0.heap.size+1,4,none⟩)),.eq (.slice (some ⟨bd2,od2,none⟩) V eb),.eq (.int .i64 k),.eq (.pointer (some ⟨bd2,od2+k,none⟩)),.eq (.int .i64 ((D' k:Nat):Int)),.eq (.int .i64 ((D k:Int)+(D' k:Int))),rel 13 (fun u lo hi w=>∃ g,u = .slice (some ⟨g,0,none⟩) 1 1∧Blk w g 3 #[.int .i64 ((D k:Int)+(D' k:Int))])] [[],[0],[],[2],[],[2,3,4],[2,3,4,5],[],[7],[],[7,8,9],[7,8,9,10],[2,3,4,5,6,7,8,9,10,11],[2,3,4,5,6,7,8,9,10,11,12],[0,1,2,3,4,5,6,7,8,9,10,11,12,13],[0,1,2,3,4,5,6,7,8,9,10,11,12,13,14],[0,1,2,3,4,5,6,7,8,9,10,11,12,13,14,15]] 14 (by kernel_rfl) ⟨trivial,trivial,trivial,trivial,trivial,trivial,trivial,trivial,trivial,trivial,trivial,trivial,trivial,a7_ (fun u lo hi w w' ⟨g,e,h⟩ hb=>⟨g,e,h.call hb⟩),trivial⟩ ⟨?_,?_,?_,?_,?_,?_,?_,?_,?_,?_,?_,?_,?_,?_,trivial⟩ ?_;iterate 14 (intro x w hb hk Q' hQ;have he:=k_e hk;simp only[k_s]at he;simp only[netE]at hQ⊢;(try simp only[he]at hQ⊢);(try clear he);rotate_left)
    rotate_left
    ·clear hk;go_wp2;exact hQ _ _ br_ rfl
    ·clear hk;have z:=(hB.call hb).cell' (i:=4) rfl;go_wp2;exact hQ _ _ br_ rfl
    ·clear hk;go_wp2;exact hQ _ _ br_ rfl
    ·clear hk;have z:=(kA.call hb).cell' (i:=4) rfl;go_wp2;exact hQ _ _ br_ rfl
    iterate 2 (· clear hk;go_wp2;exact hQ _ _ br_ rfl)
    ·clear hk;have z:=a4_ hb (by omega) x1;go_wp2;exact hQ (.int .i64 ((D k:Nat):Int)) _ br_ rfl
    ·clear hk;go_wp2;exact hQ _ _ br_ rfl
    ·clear hk;have z:=(kB.call hb).cell' (i:=4) rfl;go_wp2;exact hQ _ _ br_ rfl
    iterate 2 (· clear hk;go_wp2;exact hQ _ _ br_ rfl)
    ·clear hk;have z:=a4_ hb (by omega) x2;go_wp2;exact hQ (.int .i64 ((D' k:Nat):Int)) _ br_ rfl
    ·clear hk;go_wp2;exact hQ _ _ br_ rfl
    ·clear hk;go_wp2;exact hQ _ _ (a0_ _ _) ⟨_,rfl,Blk.new _ _ _⟩
    ·intro x w hb hk hiv hdj;have h13:∃ g,(x.v 13) = .slice (some ⟨g,0,none⟩) 1 1∧Blk w g 3 #[.int .i64 ((D k:Int)+(D' k:Int))]:=hk 13 (by decide);have he:=k_g hk [0,1,2,3,4,5,6,7,8,9,10,11,12];simp only[k_s]at he;simp only[netE,he];clear he hk;obtain⟨g13,e13,hB13⟩:=h13;rw[e13];clear hiv hdj e13;have FAw:=FA.below hb;have FBw:=FB.below hb;have OMw:=RowO.below OM hb;have hBw:=hB.call hb;have hbs:=hb.size;have hown:OwnI w w1.heap.size (.slice dA k dc) (rowF k fun v=>((D v+D' v:Nat):Int)):=(FAw.1 (.slice dA k dc,rowF k fun v=>((D v+D' v:Nat):Int)) (by simp)).1;have gWw:=gW.trans (hb.mono gws);refine d7_ (by rfl) (.tmp 30) (.tmp 42) (by rfl) w1.heap.size w.heap.size (.slice dA k dc) (rowF k fun v=>((D v+D' v:Nat):Int)) (by rfl) hown (some ⟨g13,0,none⟩) 1 1 [(D k:Int)+(D' k:Int)] (by rfl) rfl (i2q hB13 (by simp only[I64];omega)) (by rw[a2_];simp;omega) (by omega) ?_;intro v' w' h1 h2 h3;have hs2:=h2.size;have FA':=Fam.app FAw (by omega) h1 h2 h3;have FB':=Fam.app FBw (by omega) h1 h2 h3;have OM':=RowO.grown OMw (by decide) hown h2;have hB':=hBw.grown h2 (fun e=>hown.blkne hBw (by decide) e);have gW':Below w1.heap.size w1 w':=gWw.grown (row:=Value.ownBlock (.slice dA k dc)) h2 (by omega) (fun k e=>(hown.lt k e).1);obtain⟨A9,c9,ev,_,_⟩:=h1.form;have hsn:(rowF k fun v=>((D v+D' v:Nat):Int)) ++ [(D k:Int)+(D' k:Int)]=rowF (k+1) fun v=>((D v+D' v:Nat):Int):=by rw[c7z,Int.natCast_add]
     rw[hsn]at FA' FB' ev;rw[a2_]at ev;subst ev;have FA2:=FA'.setBlk (i:=4) hB' (by decide) (.slice A9 (k+1) c9);have FB2:=FB'.setBlk (i:=4) hB' (by decide) (.slice A9 (k+1) c9);have OM2:=OM'.set hB' (by decide) 4 (.slice A9 (k+1) c9);have hB2:=h_ (hB'.set_ 4 (.slice A9 (k+1) c9));have GW2:=h_ (gW'.setCell (p:=⟨gO,4,none⟩) (by simpa using hgO1) (.slice A9 (k+1) c9));have r4:=hB'.cell' (i:=4) rfl;have fr:=hB'.frozen;have FA3:=h_ FA2;have FB3:=h_ FB2;have OM3:=h_ (OM2.mono (l_ _) (show wr.heap.size≤w'.heap.size by omega));clear FA' FB' OM' hB' gW' FA2 FB2 OM2 h1 h2 h3 FAw FBw OMw hBw hown gWw hsn hb hB FA FB OM kA kB c4;go_wp2;go_roundw
     case rel=>exact⟨k+1,A9,c9,by omega,by go_num,GW2.out,by simp;omega,hB2.out,by simpa using FA3.out,by simpa using FB3.out,by simpa using OM3.out⟩
     case measure=>simp[intOf];omega
   ·obtain rfl:k=V:=by omega
    have c5:=kA.cell' (i:=5) rfl;obtain⟨W4,hW4⟩:=e_ (wr);rw[hW4]at gW sg hB FA FB OM c4 c5 g1W gws⊢;clear hW4 kA kB;have s4z:=gW.size;go_wp2;go_loopw [8] (fun i wr=>∃ (j:Nat) (mv:Value) (vs:List Value),j≤q.f.length∧i = .int .i64 j∧Below w1.heap.size w1 wr∧W4.heap.size≤wr.heap.size∧Blk wr gO 29 #[.int .i64 p,.int .i64 q.v,.slice qA q.f.length qc,.slice qB q.t.length qd,.slice dA k dc,mv] ∧
     Fam wr w1.heap.size W4.heap.size ([(.slice qA q.f.length qc,q.f)] ++ (.slice dA k dc,rowF k fun v=>((D v+D' v:Nat):Int)) :: [])∧Fam wr w1.heap.size W4.heap.size ([(.slice qB q.t.length qd,q.t)] ++ (.slice dA k dc,rowF k fun v=>((D v+D' v:Nat):Int)) :: []) ∧
     RowO 65 3 wr w1.heap.size wr.heap.size mv j (mxCs vs (msF j (sumM q D D' E E')))∧vs.length=j∧Fam wr W4.heap.size wr.heap.size (vs.zip ((msF j (sumM q D D' E E')).map Mx.a))) (fun i _=>q.f.length-(intOf i).toNat)
    case atStart=>exact⟨0,_,[],l0_ _,rfl,gW,l_ _,hB,FA,FB,OM,rfl,⟨fun p hp=>by simp at hp,by simp⟩⟩
    case round =>
     clear gW sg hB FA FB OM c4 c5 g1W gws;obtain⟨j,mv,vs,hj,rfl,gW,sg,hB,FA,FB,hO,hvl,hF⟩:=hrel;have gws:=gW.size;have g1W:=GW1.out.trans (gW.mono GW1.out.size);have kA:=K1.out.call g1W;have kB:=K2.out.call g1W;have c5:=kA.cell' (i:=5) rfl;have g1s:=g1W.size;have HVL:=h_ hvl;clear hvl;by_cases hlt:j<q.f.length
     ·obtain⟨bA,oA,MA,ma,LA,eA,hbA,x0,x1,x2,hxa⟩:=b0z HMA.out hlt rfl;obtain⟨bB,oB,MB,mb,LB,eB,hbB,y0,y1,y2,hxb⟩:=b0z HMB.out hlt rfl;subst eA eB;obtain⟨_,_,lf,lt⟩:=Z4_ HQ.out hlt;rw[HV.out]at lf lt;have b1:=HDk.out _ lf;have b2:=HDk.out _ lt;have b3:=HDk'.out _ lf;have b4:=HDk'.out _ lt;clear lf lt;have y0':=a4_ g1W hbB y0;have y1':=a4_ g1W hbB y1;have y2':=a4_ g1W hbB y2;have x0':=a4_ g1W hbA x0;have x1':=a4_ g1W hbA x1;have x2':=a4_ g1W hbA x2;have HXA:=h_ (show MxR wr wr.heap.size _ _ from MxR.more g1s (MxR.below g1W hxa));have HXB:=h_ (show MxR wr wr.heap.size _ _ from MxR.more g1s (MxR.below g1W hxb));have hbA5:bA<wr.heap.size:=by omega
      have hbB5:bB<wr.heap.size:=by omega
      clear x0 x1 x2 y0 y1 y2 hxa hxb;go_wp2;refine a9_ (by kernel_rfl) [.eq (.pointer (some ⟨gO,5,none⟩)),.eq (mv),.eq (.pointer (some ⟨w0.heap.size,5,none⟩)),.eq (.slice (some ⟨bA,oA,none⟩) q.f.length ha_),.eq (.int .i64 j),.eq (.pointer (some ⟨bA,oA+j*3,none⟩)),.eq (.agg #[.int .i64 ((D (tN q j):Nat):Int),.int .i64 ((D (fN q j):Nat):Int),.slice MA LA ma]),.eq (.pointer (some ⟨w0.heap.size+1,5,none⟩)),.eq (.slice (some ⟨bB,oB,none⟩) q.f.length hb_),.eq (.int .i64 j),.eq (.pointer (some ⟨bB,oB+j*3,none⟩)),.eq (.agg #[.int .i64 ((D' (tN q j):Nat):Int),.int .i64 ((D' (fN q j):Nat):Int),.slice MB LB mb]),rel 12 (fun u lo hi w=>MxO w lo hi u (sumM q D D' E E' j)),.rel (fun x w=>∃ g s,x.v 13 = .slice (some ⟨g,0,none⟩) 1 1∧x.v 12 = .agg #[.int .i64 (sumM q D D' E E' j).r,.int .i64 (sumM q D D' E E' j).c,s]∧Blk w g 65 #[.int .i64 (sumM q D D' E E' j).r,.int .i64 (sumM q D D' E E' j).c,s])] [[],[0],[],[2],[],[2,3,4],[2,3,4,5],[],[7],[],[7,8,9],[7,8,9,10],[2,3,4,5,6,7,8,9,10,11],[2,3,4,5,6,7,8,9,10,11,12],[0,1,2,3,4,5,6,7,8,9,10,11,12,13],[0,1,2,3,4,5,6,7,8,9,10,11,12,13,14],[0,1,2,3,4,5,6,7,8,9,10,11,12,13,14,15]] 14 (by kernel_rfl) ⟨trivial,trivial,trivial,trivial,trivial,trivial,trivial,trivial,trivial,trivial,trivial,trivial,a7_ (fun u lo hi w w' h hb=>h.below hb),fun x w w' ⟨g,s,e1,e2,h⟩ hb=>⟨g,s,e1,e2,h.call hb⟩,trivial⟩ ⟨?_,?_,?_,?_,?_,?_,?_,?_,?_,?_,?_,?_,?_,?_,trivial⟩ ?_;iterate 14 (intro x w hb hk Q' hQ;have he:=k_e hk;simp only[k_s]at he;simp only[netE]at hQ⊢;(try simp only[he]at hQ⊢);(try clear he);rotate_left)
      rotate_left
      ·clear hk;go_wp2;exact hQ _ _ br_ rfl
      ·clear hk;have z:=(hB.call hb).cell' (i:=5) rfl;go_wp2;exact hQ _ _ br_ rfl
      ·clear hk;go_wp2;exact hQ _ _ br_ rfl
      ·clear hk;have z:=(kA.call hb).cell' (i:=5) rfl;go_wp2;exact hQ _ _ br_ rfl
      iterate 2 (· clear hk;go_wp2;exact hQ _ _ br_ rfl)
      ·clear hk;have y0:=a4_ hb hbA5 x0';have y1:=a4_ hb hbA5 x1';have y2:=a4_ hb hbA5 x2';go_wp2;exact hQ (.agg #[.int .i64 ((D (tN q j):Nat):Int),.int .i64 ((D (fN q j):Nat):Int),.slice MA LA ma]) _ br_ rfl
      ·clear hk;go_wp2;exact hQ _ _ br_ rfl
      ·clear hk;have z:=(kB.call hb).cell' (i:=5) rfl;go_wp2;exact hQ _ _ br_ rfl
      iterate 2 (· clear hk;go_wp2;exact hQ _ _ br_ rfl)
      ·clear hk;have y0:=a4_ hb hbB5 y0';have y1:=a4_ hb hbB5 y1';have y2:=a4_ hb hbB5 y2';go_wp2;exact hQ (.agg #[.int .i64 ((D' (tN q j):Nat):Int),.int .i64 ((D' (fN q j):Nat):Int),.slice MB LB mb]) _ br_ rfl
      ·clear hk;go_wp2_with fail
       refine (a2X _ _ (D (tN q j)) (D' (tN q j)) (D (fN q j)) (D' (fN q j)) (E j) (E' j) _ (MxR.next hb HXA.out) (MxR.next hb HXB.out) (by omega) (by omega) (by omega) (by omega)).mono ?_;rintro e w7 ⟨v7,rfl,ho,hb7⟩;go_wp2;exact hQ _ _ hb7 ho
      ·have h12:MxO w (x.lo 12) (x.hi 12) (x.v 12) (sumM q D D' E E' j):=(hk 12 (by decide)).1;have s12:=(hk 12 (by decide)).2;clear hk;obtain⟨s,e14,hs⟩:=h12;obtain⟨sA,sc,es⟩:=hs.1.form;obtain⟨sn,hsn⟩:=e_ ((sumM q D D' E E' j).a.length);rw[hsn]at es;clear hsn hs;subst es;have hQ':=hQ (.slice (some ⟨w.heap.size,0,none⟩) 1 1) (w.alloc (.cells #[.int .i64 (sumM q D D' E E' j).r,.int .i64 (sumM q D D' E E' j).c,.slice sA sn sc] 65)) (a0_ _ _) ⟨_,_,rfl,e14,Blk.new _ _ _⟩;rw[e14]at hQ'⊢;go_wp2;exact hQ'
      ·intro x w hb hk hiv hdj;have h12:MxO w (x.lo 12) (x.hi 12) (x.v 12) (sumM q D D' E E' j):=hk 12 (by decide);have h13:∃ g s,x.v 13 = .slice (some ⟨g,0,none⟩) 1 1∧x.v 12 = .agg #[.int .i64 (sumM q D D' E E' j).r,.int .i64 (sumM q D D' E E' j).c,s]∧Blk w g 65 #[.int .i64 (sumM q D D' E E' j).r,.int .i64 (sumM q D D' E E' j).c,s]:=hk 13 (by decide);have he:=k_g hk [0,1,2,3,4,5,6,7,8,9,10,11];simp only[k_s]at he;simp only[netE,he];clear he hk;obtain⟨g,s,e15,e14,hg⟩:=h13;have l14:=(hiv 12 (by decide)).1;have h14i:=(hiv 12 (by decide)).2.2;obtain⟨s',e14',hs,i1,i2⟩:=h12;rw[e14]at e14';simp only[Value.agg.injEq,Array.mk.injEq,List.cons.injEq,and_true,true_and]at e14';subst e14';rw[e15];have hO':=hO.below hb;have hF':=(hF.below hb).snoc (hs.wider l14 h14i) (by omega) hb.size;have hB':=hB.call hb;have FAw:=FA.below hb;have FBw:=FB.below hb;have gb2:Below w1.heap.size w1 w:=gW.trans (hb.mono gws);have hbs2:=hb.size;have hLen:=h_ (b2_ j (sumM q D D' E E'));have HF':=h_ hF';have hO'':OutM w w1.heap.size wr.heap.size mv vs (msF j (sumM q D D' E E')):=by rw[OutM,hLen.out];exact hO'
       have HC:=h_ hs.cell;clear hiv hdj hs hF' hO' hO hF e14 e15 hb hB FA FB kA kB c5;refine o0_ (by rfl) (.tmp 53) (.tmp 65) (by rfl) w1.heap.size wr.heap.size mv vs (msF j (sumM q D D' E E')) (by rfl) hO'' (by rw[HVL.out,hLen.out]) g 1 (sumM q D D' E E' j) s (by rfl) hg HC.out (by rw[hLen.out];omega) (by omega) ?_;intro v' w' hO3 hA;rw[←b0j,OutM,b2_]at hO3;obtain⟨A9,c9,ev,_,_⟩:=hO3.form;subst ev;have hB3:=hA.other _ _ _ (by decide) hB';have z5:=hB3.cell' (i:=5) rfl;have fr:=hB3.frozen;have hs3:=hA.size;have gb3:Below w1.heap.size w1 w':=gb2.trans (hA.below (l_ _) (by omega));have hF3':=(HF'.out.appT (by decide) hA).setBlk (i:=5) hB3 (by decide) (.slice A9 (j+1) c9);have FA3:=h_ ((FAw.appT (by decide) hA).setBlk (i:=5) hB3 (by decide) (.slice A9 (j+1) c9));have FB3:=h_ ((FBw.appT (by decide) hA).setBlk (i:=5) hB3 (by decide) (.slice A9 (j+1) c9));have HO3:=h_ (hO3.set hB3 (by decide) 5 (.slice A9 (j+1) c9));have HB3:=h_ (hB3.set_ 5 (.slice A9 (j+1) c9));have GB3:=h_ (gb3.setCell (p:=⟨gO,5,none⟩) (by simpa using hgO1) (.slice A9 (j+1) c9));have e:(vs ++ [s]).zip ((msF (j+1) (sumM q D D' E E')).map Mx.a)=vs.zip ((msF j (sumM q D D' E E')).map Mx.a) ++ [(s,(sumM q D D' E E' j).a)]:=by
        rw[b0j,List.map_append,List.zip_append (by simp[HVL.out,hLen.out])];rfl
       rw[←e]at hF3';have HF3:=h_ (hF3'.mono (l_ _) (show w.heap.size≤w'.heap.size by omega));clear hF3' e hO3 HF' hO'' hA gb2 hg FAw FBw hB3 gb3 hB';go_wp2;go_roundw
       case rel=>exact⟨j+1,.slice A9 (j+1) c9,vs ++ [s],by omega,by go_num,GB3.out,by simp;omega,HB3.out,FA3.out,FB3.out,by simpa using HO3.out,by simp[HVL.out],by simpa using HF3.out⟩
       case measure=>simp[intOf];omega
     ·obtain rfl:j=q.f.length:=by omega
      obtain⟨H1,h1,rfl,_,_⟩:=hO.form;have hmI:∀ m∈msF q.f.length (sumM q D D' E E'),I64 m.r∧I64 m.c:=by
       intro m hm;obtain⟨i,hi,rfl⟩:=a3J hm;obtain⟨_,_,lf,lt⟩:=Z4_ HQ.out hi;rw[HV.out]at lf lt;have b1:=HDk.out _ lf;have b2:=HDk.out _ lt;have b3:=HDk'.out _ lf;have b4:=HDk'.out _ lt;simp only[sumM,mxF,I64];omega
      have hO':OutM wr w1.heap.size wr.heap.size (.slice H1 q.f.length h1) vs (msF q.f.length (sumM q D D' E E')):=by rw[OutM,b2_];exact hO
      have hsm:=gW.size;have hR:RepI wr w1.heap.size wr.heap.size (.agg #[.int .i64 p,.int .i64 q.v,.slice qA q.f.length qc,.slice qB q.t.length qd,.slice dA k dc,.slice H1 q.f.length h1]) (sumR p q D D' E E') :=
       ⟨_,_,_,_,vs,W4.heap.size,rfl,FA.1 (_,q.f) (by simp),FB.1 (_,q.t) (by simp),by
        have:=FA.1 (.slice dA k dc,rowF k fun v=>((D v+D' v:Nat):Int)) (by simp);show a8_ wr w1.heap.size W4.heap.size (.slice dA k dc) (rowF q.v.toNat fun v=>((D v+D' v:Nat):Int));rw[HV.out];exact this,hO',by rw[HVL.out];exact (b2_ _ _).symm,hF,⟨s4z,sg⟩,hI,hmI⟩
      have HR:=h_ hR;have HB9:=h_ hB;have GW9:=h_ gW;obtain⟨t0,t1,t2,t3,t4,t5⟩:=c_6 hB;clear hR hO' hmI hO hF FA FB hB gW kB kA;go_wp2_with fail
      clear c5 t0 t1 t2 t3 t4 t5;refine (k4_ _ (sumR p q D D' E E') _ HR.out.rd).mono ?_;rintro e w8 ⟨rfl,hb8⟩;have g8:=GW9.out.trans (hb8.mono GW9.out.size);have g8':=GW1.out.trans (g8.mono GW1.out.size);have HB8:=h_ (HB9.out.call hb8);have HR8:=h_ (HR.out.below hb8);have kz:=K3.out.call g8';have gf:=G0.out.trans (g8'.mono G0.out.size);have GF:=h_ gf;have fr:=kz.frozen;obtain⟨s0,s1,s2,s3,s4,s5⟩:=c_6 kz;have GW8:=h_ hb8;clear g8 g8' hb8 kz gf;rcases hk1:m9_ (sumR p q D D' E E') with _ | _
      ·have HE:=h_ (show sumP p q D D' E E'=(rp0,false) by simp[sumP,hk1]);clear hk1;go_wp2;have hE:=HE.out;have gf:=GF.out;exact bodyPost_ret (v:=.tuple #[.agg #[.int .i64 0,.int .i64 0,.slice none 0 0,.slice none 0 0,.slice none 0 0,.slice none 0 0],.bool false]) (by simp[results,go_sem,s0,s1,s2,s3,s4,s5]) rfl ⟨_,by rw[hE],by rw[hE];exact RepI.zero _ (by simp;exact gf.size),(((((gf.setCell (by simp;omega) _).setCell (by simp;omega) _).setCell (by simp;omega) _).setCell (by simp;omega) _).setCell (by simp;omega) _).setCell (by simp;omega) _⟩
      ·have HE:=h_ (show sumP p q D D' E E'=(sumR p q D D' E E',true) by simp[sumP,hk1]);obtain⟨t0,t1,t2,t3,t4,t5⟩:=c_6 HB8.out;clear hk1;go_wp2;have hE:=HE.out;have gf:=GF.out;have hc:=chg6 w8 (w0.heap.size+1+1) (.int .i64 p) (.int .i64 q.v) (.slice qA q.f.length qc) (.slice qB q.t.length qd) (.slice dA k dc) (.slice H1 q.f.length h1);have sz:=SZ.out;exact bodyPost_ret (v:=.tuple #[.agg #[.int .i64 p,.int .i64 q.v,.slice qA q.f.length qc,.slice qB q.t.length qd,.slice dA k dc,.slice H1 q.f.length h1],.bool true]) (by simp[results,go_sem,s0,s1,s2,s3,s4,s5]) rfl ⟨_,by rw[hE],by rw[hE];exact (HR8.out.chg hc (.inr (by omega))).wider (by omega) (by simp;have:=HB8.out.lt;have:=GW8.out.size;omega),gf.trans (hc.below (by omega) gf.size)⟩
theorem a4Z {w:World} {lo hi:Nat} {v:Value} {p:Int} {q:Qv} {L:List (Nat×Nat)} (h:RepI w lo hi v (smR p q L)):∃ A a C c E e H k,v = .agg #[.int .i64 p,.int .i64 q.v,.slice A q.f.length a,.slice C q.t.length c,.slice E q.v.toNat e,.slice H q.f.length k]:=by
 obtain⟨A,a,C,c,E,e,H,k,rfl⟩:=h.rd.form;obtain⟨e1,e2,e3,e4⟩:=b3j p q L;rw[e1,e2,e3,e4];exact⟨A,a,C,c,E,e,H,k,rfl⟩
theorem f9Z {w:World} {lo hi:Nat} {v:Value} {p:Int} {q:Qv} {x:Nat×Nat} (h:RepI w lo hi v (ivR p q x)):∃ A a C c E e H k,v = .agg #[.int .i64 p,.int .i64 q.v,.slice A q.f.length a,.slice C q.t.length c,.slice E q.v.toNat e,.slice H q.f.length k]:=by
 obtain⟨A,a,C,c,E,e,H,k,rfl⟩:=h.rd.form;have q1:(ivR p q x).p=p:=rfl;have q2:(ivR p q x).q=q:=rfl;have q3:(ivR p q x).d.length=q.v.toNat:=a2_ _ _;have q4:(ivR p q x).m.length=q.f.length:=b2_ _ _;rw[q1,q2,q3,q4];exact⟨A,a,C,c,E,e,H,k,rfl⟩
theorem b1X {w:World} {lo hi:Nat} {v:Value} (h:RepI w lo hi v rp0):∃ A a C c E e H k,v = .agg #[.int .i64 0,.int .i64 0,.slice A 0 a,.slice C 0 c,.slice E 0 e,.slice H 0 k]:=by
 obtain⟨A,a,C,c,E,e,H,k,rfl⟩:=h.rd.form;exact⟨A,a,C,c,E,e,H,k,rfl⟩
theorem c3z {p:Int} {q:Qv} (hp:c8_ p=true) (hq:isQ q=true) (x:Nat×Nat):m9_ (ivR p q x)=true:=by
 rw[ivR,c7Z hp hq fun _ _ _=>⟨by omega,by have:=v6_ hp;omega⟩,d4Q];exact J7_ hq (by have:=(j2_.1 hq).1;omega) _ _
theorem c9Q {p:Int} {q:Qv} (hp:c8_ p=true) (hq:isQ q=true) (L:List (Nat×Nat)) (x y:Nat):sumP p q (smS q L).1 (ivN x y) (smS q L).2 (fun _ _ _=>1)=smP p q (L ++ [(x,y)]):=by
 have e:sumR p q (smS q L).1 (ivN x y) (smS q L).2 (fun _ _ _=>1)=smR p q (L ++ [(x,y)]):=by rw[b3q];rfl
 rw[sumP,e,F0_ hp hq,smP]
theorem g4j {p:Int} {q:Qv} {L M L':List (Nat×Nat)} (e:L'=L ++ M) (h:smO q L=false):smP p q L'=(rp0,false):=by
 have:smO q L'=false:=by
  rcases hh:smO q L' with _ | _
  ·rfl
  ·rw[e]at hh;rw[b2X _ hh]at h;cases h
 simp[smP,this]
theorem f3X {p:Int} {q:Qv} {l:List Bar} {k j:Nat} {x y z:Int} (hx:l[k]?=some (x,y,z)) (hj:j<z.toNat) (h:smO q (d0_ (l.take k) ++ List.replicate (j+1) (x.toNat,y.toNat))=false):smP p q (d0_ l)=(rp0,false):=by
 obtain⟨M,e⟩:=a1Z hx (j+1) hj;exact g4j e h
theorem b1J {α:Type} (L:List α) (n:Nat) (x:α):L ++ List.replicate (n+1) x=L ++ List.replicate n x ++ [x]:=by
 rw[List.append_assoc,List.replicate_succ']
theorem g0Q {n:Int} (h:inR n 1 5=true):isL (m4_ n)=true:=by
 have:=j1_.1 h;have:n=1∨n=2∨n=3∨n=4∨n=5:=by omega
 rcases this with rfl | rfl | rfl | rfl | rfl <;> decide
theorem W4_ {q:Qv} (h:isL q=true) (l:List Bar):areB (m4_ q.v) l=areB q l:=by
 have hv:=j1_.2 (j2_.1 (T2_ h).1).1;rw[areB,areB,g0Q hv,h,c4J hv]
theorem i5Z {p:Int} {q:Qv} {l:List Bar} (h1:c8_ p=true) (h2:areB q l=true):rzOk p q l=true:=by
 have h:=(W5_ h2).1;rw[rzOk,h1,(T2_ h).2,W4_ h,h2];rfl
theorem i1x {p:Int} {q:Qv} {l:List Bar} (h:(c8_ p && areB q l)=false):rbP p q l=(rp0,false):=by
 rw[rbP];split
 ·rename_i hL
  apply f3x
  rw[rzOk,W4_ hL];simp only[Bool.and_eq_false_iff]at h⊢;rcases h with h | h
  ·exact .inl h
  ·exact .inr (.inr h)
 ·rfl
theorem O9_ (p:Int) (u:Value) (q:Qv) (v:Value) (l:List Bar) (w0:World) (hu:QvR w0 w0.heap.size u q) (hv:SlB w0 w0.heap.size v l) (hno:(c8_ p && areB q l)=false) :
  Calls Tryz.prog 17 #[.int .i64 p,u,v] w0 fun e w'=>∃ r,e = .returned (.tuple #[r,.bool (rbP p q l).2])∧RepI w' w0.heap.size w'.heap.size r (rbP p q l).1∧Below w0.heap.size w0 w':=by
 have HE:=h_ (i1x hno);have hu':=hu;obtain⟨A,c,C,c',rfl,_,_,hr,lf,lt⟩:=hu.open_;obtain⟨BA,bc,rfl,_,_,_,hbx⟩:=hv.open_;clear hu hv;obtain⟨W,hW,g0,k1,k2⟩:=b_4 w0 #[.int .i64 q.v,.slice A q.f.length c,.slice C q.t.length c'] 26 #[.int .i64 0,.int .i64 0,.slice none 0 0,.slice none 0 0,.slice none 0 0,.slice none 0 0] 29;have sz:W.heap.size=w0.heap.size+1+1:=by rw[hW];simp
 have SZ:=h_ sz;have HQV:=h_ (QvR.next g0 hu');have HBX:=h_ (SlB.next g0 hbx);clear sz hu' hbx;obtain⟨c0,c1,c2⟩:=c_3 k1;rcases h1:c8_ p with _ | _
 ·have H1:=h_ h1;clear h1 hno;have GW:=h_ (Below.refl W.heap.size W);go_enter Tryz.func17,Tryz.ntmps17
  go_wp2_with fail
  rw[←hW];clear hW;refine (b6_ _ _).mono ?_;rintro e w3 ⟨rfl,hww⟩;replace hww:=hww.symm;subst hww;rw[H1.out];have kz:=k2.call GW.out;have fr:=kz.frozen;obtain⟨s0,s1,s2,s3,s4,s5⟩:=c_6 kz;have gf:=g0.trans (GW.out.mono g0.size);have GF:=h_ gf;clear kz gf;go_wp2;have gf:=GF.out;have hE:=HE.out;have sz:=SZ.out;have gfs:=gf.size;exact bodyPost_ret (v:=.tuple #[.agg #[.int .i64 0,.int .i64 0,.slice none 0 0,.slice none 0 0,.slice none 0 0,.slice none 0 0],.bool false]) (by simp[results,go_sem,s0,s1,s2,s3,s4,s5]) rfl ⟨_,by rw[hE],by rw[hE];exact RepI.zero _ (by simp;exact gfs),(((((gf.setCell (by simp) _).setCell (by simp) _).setCell (by simp) _).setCell (by simp) _).setCell (by simp) _).setCell (by simp) _⟩
 rcases h3:areB q l with _ | _
 ·have H1:=h_ h1;have H3:=h_ h3;clear h1 h3 hno;go_enter Tryz.func17,Tryz.ntmps17
  go_wp2_with fail
  rw[←hW];clear hW;refine (b6_ _ _).mono ?_;rintro e w3 ⟨rfl,hww⟩;replace hww:=hww.symm;subst hww;rw[H1.out];go_wp2_with fail
  refine (q8_ _ q _ l _ HQV.out HBX.out).mono ?_;rintro e w4 ⟨rfl,hb4⟩;rw[H3.out];have GW:=h_ hb4;clear hb4 c0 c1 c2;have kz:=k2.call GW.out;have fr:=kz.frozen;obtain⟨s0,s1,s2,s3,s4,s5⟩:=c_6 kz;have gf:=g0.trans (GW.out.mono g0.size);have GF:=h_ gf;clear kz gf;go_wp2;have gf:=GF.out;have hE:=HE.out;have sz:=SZ.out;have gfs:=gf.size;exact bodyPost_ret (v:=.tuple #[.agg #[.int .i64 0,.int .i64 0,.slice none 0 0,.slice none 0 0,.slice none 0 0,.slice none 0 0],.bool false]) (by simp[results,go_sem,s0,s1,s2,s3,s4,s5]) rfl ⟨_,by rw[hE],by rw[hE];exact RepI.zero _ (by simp;exact gfs),(((((gf.setCell (by simp) _).setCell (by simp) _).setCell (by simp) _).setCell (by simp) _).setCell (by simp) _).setCell (by simp) _⟩
 rw[h1,h3]at hno;exact absurd hno (by decide)
theorem P0_ (p:Int) (u:Value) (q:Qv) (v:Value) (l:List Bar) (w0:World) (hu:QvR w0 w0.heap.size u q) (hv:SlB w0 w0.heap.size v l) (h1:c8_ p=true) (h3:areB q l=true) :
  Calls Tryz.prog 17 #[.int .i64 p,u,v] w0 fun e w'=>∃ r,e = .returned (.tuple #[r,.bool (rbP p q l).2])∧RepI w' w0.heap.size w'.heap.size r (rbP p q l).1∧Below w0.heap.size w0 w':=by
 have hok:=i5Z h1 h3;have hL:=(W5_ h3).1;have HE:=h_ (show rbP p q l=smP p q (d0_ l) by rw[rbP,if_pos hL,rzP,hok,smP];rfl);have h2:=(T2_ hL).2;have hto:=(W5_ h3).2;have hq:isQ q=true:=(u9_ h2).1;have hv1:=(j2_.1 hq).1;have hI:I64 p:=by have:=v6_ h1;simp only[I64];omega
 have hu':=hu;obtain⟨A,c,C,c',rfl,_,_,hr,lf,lt⟩:=hu.open_;obtain⟨BA,bc,rfl,_,_,_,hbx⟩:=hv.open_;clear hu hv;obtain⟨W,hW,g0,k1,k2⟩:=b_4 w0 #[.int .i64 q.v,.slice A q.f.length c,.slice C q.t.length c'] 26 #[.int .i64 0,.int .i64 0,.slice none 0 0,.slice none 0 0,.slice none 0 0,.slice none 0 0] 29;have sz:W.heap.size=w0.heap.size+1+1:=by rw[hW];simp
 have SZ:=h_ sz;have HQV:=h_ (QvR.next g0 hu');have HBX:=h_ (SlB.next g0 hbx);clear sz hu' hbx;have HP:=h_ h1;have H3:=h_ h3;have HQ:=h_ hq;have HTO:=h_ hto;have HZO:=h_ (show ∀ x y:Int,(0≤x∧x≤q.v-1)→(x≤y∧y≤q.v-1)→ziOk (isL q) p q x y=true from fun x y hx hy=>by simp only[ziOk,h1,hL,j1_.2 hx,j1_.2 hy];rfl);have HZP:=h_ (show ∀ x y:Int,(0≤x∧x≤q.v-1)→(x≤y∧y≤q.v-1)→ziP (isL q) p q x y=(ivR p q (x.toNat,y.toNat),true) from fun x y hx hy=>by rw[show isL q=isZ q from hL.trans h2.symm];exact f4Q h1 h2 hx hy);clear h1 h2 h3 hq hto hok hL;obtain⟨c0,c1,c2⟩:=c_3 k1;go_enter Tryz.func17,Tryz.ntmps17
 go_wp2_with fail
 rw[←hW];clear hW;refine (b6_ _ _).mono ?_;rintro e w3 ⟨rfl,hww⟩;replace hww:=hww.symm;subst hww;rw[HP.out];go_wp2_with fail
 refine (q8_ _ q _ l _ HQV.out HBX.out).mono ?_;rintro e w4 ⟨rfl,hb4⟩;rw[H3.out];have GWZ:=h_ hb4;clear hb4 c0 c1 c2;have HQZ:=h_ (QvR.next GWZ.out HQV.out);have hmk:∀ w:World,(Instr.makeSlice 24 (.int .i64 q.v) (.int .i64 q.v)).run Tryz.prog w = .ok (.slice (some ⟨w.heap.size,0,none⟩) q.v.toNat q.v.toNat) (w.alloc (.cells (f4_ (.int .i64 0) q.v.toNat) 3)):=fun w=>by
  have:=A5_ w (n:=q.v.toNat) (by omega);rwa[Int.toNat_of_nonneg (by omega)]at this
 have KZ:=h_ (k1.call GWZ.out);go_wp2;refine a9_ (by kernel_rfl) [.eq (.int .i64 p),.eq (.agg #[.int .i64 q.v,.slice A q.f.length c,.slice C q.t.length c']),.eq (.pointer (some ⟨w0.heap.size,0,none⟩)),.eq (.int .i64 q.v),rel 4 (fun u lo hi w=>a8_ w lo hi u (List.replicate q.v.toNat 0)),rel 5 (fun u lo hi w=>RepI w lo hi u (smR p q [])),rel 6 (fun u lo hi w=>∃ g,u = .pointer (some ⟨g,0,none⟩)∧(lo≤g∧g<hi)∧Blk w g 29 #[.int .i64 0,.int .i64 0,.slice none 0 0,.slice none 0 0,.slice none 0 0,.slice none 0 0])] [[],[],[],[2],[2,3],[0,1,2,3,4],[],[0,1,2,3,4,5,6]] 7 (by kernel_rfl) ⟨trivial,trivial,trivial,trivial,a7_ (fun u lo hi w w' h hb=>h.below hb),a7_ (fun u lo hi w w' h hb=>h.below hb),a7_ (fun u lo hi w w' ⟨g,e,h1,h⟩ hb=>⟨g,e,h1,h.call hb⟩),trivial⟩ ⟨?_,?_,?_,?_,?_,?_,?_,trivial⟩ ?_;iterate 7 (intro x w hb hk Q' hQ;have he:=k_e hk;simp only[k_s]at he;simp only[netE]at hQ⊢;(try simp only[he]at hQ⊢);(try clear he);rotate_left)
 rotate_left
 ·clear hk;go_wp2;exact hQ _ _ br_ rfl
 ·clear hk;obtain⟨z0,z1,z2⟩:=c_3 (KZ.out.call hb);go_wp2;exact hQ _ _ br_ rfl
 ·clear hk;go_wp2;exact hQ _ _ br_ rfl
 ·clear hk;have z0:=(KZ.out.call hb).cell' (i:=0) rfl;go_wp2;exact hQ _ _ br_ rfl
 ·clear hk;have hm:=hmk w;go_wp2;exact hQ _ _ (a0_ _ _) (a8_.of_own (OwnI.made0 (l_ _) (by omega)))
 ·have h4:a8_ w (x.lo 4) (x.hi 4) (x.v 4) (List.replicate q.v.toNat 0):=(hk 4 (by decide)).1;have s4:=(hk 4 (by decide)).2;clear hk;have H4:=h_ h4.rd;rw[Z7_]at H4;obtain⟨A4,c4,e4⟩:=h4.form;rw[List.length_replicate]at e4;rw[e4]at H4 hQ⊢;go_wp2_with fail
  refine (Q4_ p _ _ q (rowF q.v.toNat fun _=>0) _ hI (QvR.next hb HQZ.out) H4.out (V0_ HQ.out)).mono ?_;rintro e w7 ⟨v7,rfl,ho,hb7⟩;rw[←c9q]at ho;go_wp2;exact hQ _ _ hb7 ho
 ·clear hk;go_wp2;exact hQ _ _ (a0_ _ _) ⟨_,rfl,⟨l_ _,by show w.heap.size<(w.alloc _).heap.size;simp⟩,Blk.new _ _ _⟩
 ·intro x w hb hk hiv hdj;have h4:a8_ w (x.lo 4) (x.hi 4) (x.v 4) (List.replicate q.v.toNat 0):=hk 4 (by decide);have h5:RepI w (x.lo 5) (x.hi 5) (x.v 5) (smR p q []):=hk 5 (by decide);have h6:∃ g,(x.v 6) = .pointer (some ⟨g,0,none⟩)∧((x.lo 6)≤g∧g<(x.hi 6))∧Blk w g 29 #[.int .i64 0,.int .i64 0,.slice none 0 0,.slice none 0 0,.slice none 0 0,.slice none 0 0]:=hk 6 (by decide);have he:=k_g hk [0,1,2,3];simp only[k_s]at he;simp only[netE,he];clear he hk;obtain⟨gO,e6,hgO,hBO⟩:=h6;have i5:=hiv 5 (by decide);have i6:=hiv 6 (by decide);have d56:=hdj 5 6 (by decide) (by decide) (by decide);obtain⟨A1,a1,C1,c1,E1,e1,H1',h1',e5⟩:=a4Z h5;rw[e5]at h5⊢;rw[e6];have fr:=hBO.frozen;obtain⟨r0,r1,r2,r3,r4,r5⟩:=c_6 hBO;have hbs:=hb.size;have gOl:=hBO.lt;have gzs:=GWZ.out.size;obtain⟨W3,hW3⟩:=e_ ((((((w.setCell ⟨gO,0,none⟩ (.int .i64 p)).setCell ⟨gO,1,none⟩ (.int .i64 q.v)).setCell ⟨gO,2,none⟩ (.slice A1 q.f.length a1)).setCell ⟨gO,3,none⟩ (.slice C1 q.t.length c1)).setCell ⟨gO,4,none⟩ (.slice E1 q.v.toNat e1)).setCell ⟨gO,5,none⟩ (.slice H1' q.f.length h1'));have hB3:Blk W3 gO 29 #[.int .i64 p,.int .i64 q.v,.slice A1 q.f.length a1,.slice C1 q.t.length c1,.slice E1 q.v.toNat e1,.slice H1' q.f.length h1']:=by
   rw[←hW3];exact (((((hBO.set_ 0 _).set_ 1 _).set_ 2 _).set_ 3 _).set_ 4 _).set_ 5 _
  have hCh:Chg gO (gO+1) w W3:=by
   rw[←hW3];exact chg6 _ _ _ _ _ _ _ _
  have hs3:W3.heap.size=w.heap.size:=by rw[←hW3];simp
  have hR3:RepI W3 W.heap.size W3.heap.size (.agg #[.int .i64 p,.int .i64 q.v,.slice A1 q.f.length a1,.slice C1 q.t.length c1,.slice E1 q.v.toNat e1,.slice H1' q.f.length h1']) (smR p q (d0_ (l.take 0))):=by
   rw[hs3,List.take_zero];exact (h5.chg hCh (by omega)).wider (by omega) i5.2.2
  have gW3:Below W.heap.size W W3:=(GWZ.out.trans (hb.mono gzs)).trans (hCh.below (by omega) (by omega));have sg3:gO<W3.heap.size:=by omega
  have hgO2:W.heap.size≤gO:=by omega
  clear hiv hdj h4 h5 e5 e6 i5 i6 d56 hBO hCh hs3 hb hmk gzs hbs hgO;go_wp2;clear hW3;obtain⟨n,hn⟩:=e_ (l.length);have HN:=h_ hn;rw[hn];have hnb:n≤17592186044416:=by omega
  clear hn;go_loopw [9] (fun i wr=>∃ (k:Nat) (A1:Option Addr) (a1:Nat) (C1:Option Addr) (c1:Nat) (E1:Option Addr) (e1:Nat) (H1':Option Addr) (h1':Nat),k≤n∧i = .int .i64 k∧Below W.heap.size W wr∧gO<wr.heap.size ∧
   Blk wr gO 29 #[.int .i64 p,.int .i64 q.v,.slice A1 q.f.length a1,.slice C1 q.t.length c1,.slice E1 q.v.toNat e1,.slice H1' q.f.length h1']∧RepI wr W.heap.size wr.heap.size (.agg #[.int .i64 p,.int .i64 q.v,.slice A1 q.f.length a1,.slice C1 q.t.length c1,.slice E1 q.v.toNat e1,.slice H1' q.f.length h1']) (smR p q (d0_ (l.take k)))∧smO q (d0_ (l.take k))=true) (fun i _=>n-(intOf i).toNat)
  case atStart=>exact⟨0,A1,a1,C1,c1,E1,e1,H1',h1',l0_ _,rfl,gW3,sg3,hB3,hR3,by rw[List.take_zero];exact V0_ HQ.out⟩
  case round =>
   clear gW3 sg3 hB3 hR3 r0 r1 r2 r3 r4 r5 fr;obtain⟨k,A1,a1,C1,c1,E1,e1,H1',h1',hk,rfl,gW,sg,hB,hR,hok⟩:=hrel;have gws:=gW.size;have HOK:=h_ hok;clear hok;by_cases hlt:k<n
   ·have HLT:=h_ hlt;obtain⟨b,o,bx,by_,bz,eB,hbB,HX,y1,y2,y3,rx,ry,rz⟩:=SlB.at_ (k:=k) HBX.out (by have:=HN.out;omega);subst eB;obtain⟨hx,hy,hz,_⟩:=s1_ HTO.out HX.out;obtain⟨N,rfl⟩:=Int.eq_ofNat_of_zero_le (show 0≤bz by omega);have HYES:=h_ (HZO.out bx by_ hx hy);have HZI:=h_ (HZP.out bx by_ hx hy);obtain⟨xn,hxn⟩:=e_ (bx.toNat);obtain⟨yn,hyn⟩:=e_ (by_.toNat);rw[hxn,hyn]at HZI;have HXN:=h_ hxn;have HYN:=h_ hyn;have Z1:=h_ (a4_ gW hbB y1);have Z2:=h_ (a4_ gW hbB y2);have Z3:=h_ (a4_ gW hbB y3);have KQ:=h_ (k1.call gW);have HQ5:=h_ (QvR.next gW HQV.out);have HB5:=h_ hB;have HR5:=h_ hR;have GW5:=h_ gW;have hbw:b<wr.heap.size:=by omega
    clear y1 y2 y3 gW hB hR hx hy hxn hyn;obtain⟨w1,hw1⟩:∃ u,u=wr:=⟨_,rfl⟩;subst hw1;go_wp2;refine y7_ (by kernel_rfl) [.eq (.int .i64 p),.eq (.agg #[.int .i64 q.v,.slice A q.f.length c,.slice C q.t.length c']),.eq (.slice (some ⟨b,o,none⟩) n bc),.eq (.int .i64 k),.eq (.pointer (some ⟨b,o+k*3,none⟩)),.eq (.pointer (some ⟨b,o+k*3,none⟩)),.eq (.int .i64 bx),.eq (.slice (some ⟨b,o,none⟩) n bc),.eq (.int .i64 k),.eq (.pointer (some ⟨b,o+k*3,none⟩)),.eq (.pointer (some ⟨b,o+k*3+1,none⟩)),.eq (.int .i64 by_),.rel (fun x w=>∃ A2 a2 C2 c2 E2 e2 H2 h2,x.v 12 = .tuple #[.agg #[.int .i64 p,.int .i64 q.v,.slice A2 q.f.length a2,.slice C2 q.t.length c2,.slice E2 q.v.toNat e2,.slice H2 q.f.length h2],.bool true]∧RepI w (x.lo 12) (x.hi 12) (.agg #[.int .i64 p,.int .i64 q.v,.slice A2 q.f.length a2,.slice C2 q.t.length c2,.slice E2 q.v.toNat e2,.slice H2 q.f.length h2]) (ivR p q (xn,yn))),.rel (fun x w=>∃ A2 a2 C2 c2 E2 e2 H2 h2,x.v 13 = .tuple #[.agg #[.int .i64 p,.int .i64 q.v,.slice A2 q.f.length a2,.slice C2 q.t.length c2,.slice E2 q.v.toNat e2,.slice H2 q.f.length h2],.bool true]∧RepI w (x.lo 12) (x.hi 12) (.agg #[.int .i64 p,.int .i64 q.v,.slice A2 q.f.length a2,.slice C2 q.t.length c2,.slice E2 q.v.toNat e2,.slice H2 q.f.length h2]) (ivR p q (xn,yn))),.rel (fun x w=>∃ A2 a2 C2 c2 E2 e2 H2 h2,x.v 14 = .agg #[.int .i64 p,.int .i64 q.v,.slice A2 q.f.length a2,.slice C2 q.t.length c2,.slice E2 q.v.toNat e2,.slice H2 q.f.length h2]∧RepI w (x.lo 12) (x.hi 12) (.agg #[.int .i64 p,.int .i64 q.v,.slice A2 q.f.length a2,.slice C2 q.t.length c2,.slice E2 q.v.toNat e2,.slice H2 q.f.length h2]) (ivR p q (xn,yn))),.eq (.bool true),rel 16 (fun u lo hi w=>∃ g,u = .pointer (some ⟨g,0,none⟩)∧(lo≤g∧g<hi)∧Blk w g 29 #[.int .i64 0,.int .i64 0,.slice none 0 0,.slice none 0 0,.slice none 0 0,.slice none 0 0])] [[],[],[],[],[2,3],[2,3,4],[2,3,4,5],[],[],[7,8],[7,8,9],[7,8,9,10],[0,1,2,3,4,5,6,7,8,9,10,11],[0,1,2,3,4,5,6,7,8,9,10,11,12],[0,1,2,3,4,5,6,7,8,9,10,11,12,13],[0,1,2,3,4,5,6,7,8,9,10,11,12,13],[],[0,1,2,3,4,5,6,7,8,9,10,11,12,13,14,16],[0,1,2,3,4,5,6,7,8,9,10,11,12,13,14,15,16,17]] 17 15 [0,1,2,3,4,5,6,7,8,9,10,11,12,13,14,16] (by kernel_rfl) rfl ⟨trivial,trivial,trivial,trivial,trivial,trivial,trivial,trivial,trivial,trivial,trivial,trivial,fun x w w' ⟨A2,a2,C2,c2,E2,e2,H2,h2,e1,h1⟩ hb=>⟨A2,a2,C2,c2,E2,e2,H2,h2,e1,h1.below hb⟩,fun x w w' ⟨A2,a2,C2,c2,E2,e2,H2,h2,e1,h1⟩ hb=>⟨A2,a2,C2,c2,E2,e2,H2,h2,e1,h1.below hb⟩,fun x w w' ⟨A2,a2,C2,c2,E2,e2,H2,h2,e1,h1⟩ hb=>⟨A2,a2,C2,c2,E2,e2,H2,h2,e1,h1.below hb⟩,trivial,a7_ (fun u lo hi w w' ⟨g,e,h1,h⟩ hb=>⟨g,e,h1,h.call hb⟩),trivial⟩ ⟨?_,?_,?_,?_,?_,?_,?_,?_,?_,?_,?_,?_,?_,?_,?_,?_,?_,trivial⟩ ?_ ?_;iterate 17 (intro x w hb hk Q' hQ;have he:=k_e hk;simp only[k_s]at he;simp only[netE]at hQ⊢;(try simp only[he]at hQ⊢);(try clear he);rotate_left)
    rotate_left 2
    ·clear hk;go_wp2;exact hQ _ _ br_ rfl
    ·clear hk;obtain⟨z0,z1,z2⟩:=c_3 (KQ.out.call hb);go_wp2;exact hQ _ _ br_ rfl
    iterate 4 (· clear hk;go_wp2;exact hQ _ _ br_ rfl)
    ·clear hk;have z1:=a4_ hb hbw Z1.out;go_wp2;exact hQ _ _ br_ rfl
    iterate 4 (· clear hk;go_wp2;exact hQ _ _ br_ rfl)
    ·clear hk;have z1:=a4_ hb hbw Z2.out;go_wp2;exact hQ _ _ br_ rfl
    ·clear hk;go_wp2_with fail
     refine (u8_ p _ _ _ q _ hI (QvR.next hb HQ5.out) rx ry HYES.out).mono ?_;rintro e w5 ⟨v5,rfl,hO5,hb5⟩;rw[HZI.out]at hO5⊢;have HO5:=h_ hO5;obtain⟨A2,a2,C2,c2,E2,e2,H2,h2,e5⟩:=f9Z hO5;subst e5;clear hO5;go_wp2;exact hQ _ _ hb5 ⟨A2,a2,C2,c2,E2,e2,H2,h2,rfl,HO5.out⟩
    ·have h12:∃ A2 a2 C2 c2 E2 e2 H2 h2,x.v 12 = .tuple #[.agg #[.int .i64 p,.int .i64 q.v,.slice A2 q.f.length a2,.slice C2 q.t.length c2,.slice E2 q.v.toNat e2,.slice H2 q.f.length h2],.bool true]∧RepI w (x.lo 12) (x.hi 12) (.agg #[.int .i64 p,.int .i64 q.v,.slice A2 q.f.length a2,.slice C2 q.t.length c2,.slice E2 q.v.toNat e2,.slice H2 q.f.length h2]) (ivR p q (xn,yn)):=(hk 12 (by decide)).1;have s12:=(hk 12 (by decide)).2;clear hk;obtain⟨A2,a2,C2,c2,E2,e2,H2,h2,e4,ho⟩:=h12;have hQ':=hQ (.tuple #[.agg #[.int .i64 p,.int .i64 q.v,.slice A2 q.f.length a2,.slice C2 q.t.length c2,.slice E2 q.v.toNat e2,.slice H2 q.f.length h2],.bool true]) w br_ ⟨A2,a2,C2,c2,E2,e2,H2,h2,rfl,ho⟩;rw[e4]at hQ'⊢;go_wp2;exact hQ'
    ·have h12:∃ A2 a2 C2 c2 E2 e2 H2 h2,x.v 12 = .tuple #[.agg #[.int .i64 p,.int .i64 q.v,.slice A2 q.f.length a2,.slice C2 q.t.length c2,.slice E2 q.v.toNat e2,.slice H2 q.f.length h2],.bool true]∧RepI w (x.lo 12) (x.hi 12) (.agg #[.int .i64 p,.int .i64 q.v,.slice A2 q.f.length a2,.slice C2 q.t.length c2,.slice E2 q.v.toNat e2,.slice H2 q.f.length h2]) (ivR p q (xn,yn)):=(hk 12 (by decide)).1;have h13:∃ A2 a2 C2 c2 E2 e2 H2 h2,x.v 13 = .tuple #[.agg #[.int .i64 p,.int .i64 q.v,.slice A2 q.f.length a2,.slice C2 q.t.length c2,.slice E2 q.v.toNat e2,.slice H2 q.f.length h2],.bool true]∧RepI w (x.lo 12) (x.hi 12) (.agg #[.int .i64 p,.int .i64 q.v,.slice A2 q.f.length a2,.slice C2 q.t.length c2,.slice E2 q.v.toNat e2,.slice H2 q.f.length h2]) (ivR p q (xn,yn)):=(hk 13 (by decide)).1;have s12:=(hk 12 (by decide)).2;have s13:=(hk 13 (by decide)).2;clear hk;obtain⟨A2,a2,C2,c2,E2,e2,H2,h2,e4,ho⟩:=h13;have hQ':=hQ (.agg #[.int .i64 p,.int .i64 q.v,.slice A2 q.f.length a2,.slice C2 q.t.length c2,.slice E2 q.v.toNat e2,.slice H2 q.f.length h2]) w br_ ⟨A2,a2,C2,c2,E2,e2,H2,h2,rfl,ho⟩;rw[e4]at hQ'⊢;go_wp2;exact hQ'
    ·have h13:∃ A2 a2 C2 c2 E2 e2 H2 h2,x.v 13 = .tuple #[.agg #[.int .i64 p,.int .i64 q.v,.slice A2 q.f.length a2,.slice C2 q.t.length c2,.slice E2 q.v.toNat e2,.slice H2 q.f.length h2],.bool true]∧RepI w (x.lo 12) (x.hi 12) (.agg #[.int .i64 p,.int .i64 q.v,.slice A2 q.f.length a2,.slice C2 q.t.length c2,.slice E2 q.v.toNat e2,.slice H2 q.f.length h2]) (ivR p q (xn,yn)):=(hk 13 (by decide)).1;clear hk;obtain⟨A2,a2,C2,c2,E2,e2,H2,h2,e4,ho⟩:=h13;rw[e4]at hQ⊢;go_wp2;exact hQ _ _ br_ rfl
    ·clear hk;go_wp2;exact hQ _ _ (a0_ _ _) ⟨_,rfl,⟨l_ _,by show w.heap.size<(w.alloc _).heap.size;simp⟩,Blk.new _ _ _⟩
    ·intro x w hb hk hiv hdj;have h12:∃ A2 a2 C2 c2 E2 e2 H2 h2,x.v 12 = .tuple #[.agg #[.int .i64 p,.int .i64 q.v,.slice A2 q.f.length a2,.slice C2 q.t.length c2,.slice E2 q.v.toNat e2,.slice H2 q.f.length h2],.bool true]∧RepI w (x.lo 12) (x.hi 12) (.agg #[.int .i64 p,.int .i64 q.v,.slice A2 q.f.length a2,.slice C2 q.t.length c2,.slice E2 q.v.toNat e2,.slice H2 q.f.length h2]) (ivR p q (xn,yn)):=hk 12 (by decide);have h13:∃ A2 a2 C2 c2 E2 e2 H2 h2,x.v 13 = .tuple #[.agg #[.int .i64 p,.int .i64 q.v,.slice A2 q.f.length a2,.slice C2 q.t.length c2,.slice E2 q.v.toNat e2,.slice H2 q.f.length h2],.bool true]∧RepI w (x.lo 12) (x.hi 12) (.agg #[.int .i64 p,.int .i64 q.v,.slice A2 q.f.length a2,.slice C2 q.t.length c2,.slice E2 q.v.toNat e2,.slice H2 q.f.length h2]) (ivR p q (xn,yn)):=hk 13 (by decide);have h14:∃ A2 a2 C2 c2 E2 e2 H2 h2,x.v 14 = .agg #[.int .i64 p,.int .i64 q.v,.slice A2 q.f.length a2,.slice C2 q.t.length c2,.slice E2 q.v.toNat e2,.slice H2 q.f.length h2]∧RepI w (x.lo 12) (x.hi 12) (.agg #[.int .i64 p,.int .i64 q.v,.slice A2 q.f.length a2,.slice C2 q.t.length c2,.slice E2 q.v.toNat e2,.slice H2 q.f.length h2]) (ivR p q (xn,yn)):=hk 14 (by decide);have h16:∃ g,(x.v 16) = .pointer (some ⟨g,0,none⟩)∧((x.lo 16)≤g∧g<(x.hi 16))∧Blk w g 29 #[.int .i64 0,.int .i64 0,.slice none 0 0,.slice none 0 0,.slice none 0 0,.slice none 0 0]:=hk 16 (by decide);have he:=k_g hk [0,1,2,3,4,5,6,7,8,9,10,11,15];simp only[k_s]at he;simp only[netE,he];clear he hk;obtain⟨A2,a2,C2,c2,E2,e2,H2,h2,e14,ho⟩:=h14;obtain⟨gX,e16,hgX,hBX⟩:=h16;obtain⟨A7,a7,C7,c7,E7,e7,H7,h7,e13,_⟩:=h13;have i12:=hiv 12 (by decide);have i16:=hiv 16 (by decide);have dj:=hdj 12 16 (by decide) (by decide) (by decide);rw[e14,e16,e13];have fr:=hBX.frozen;obtain⟨r0,r1,r2,r3,r4,r5⟩:=c_6 hBX;have hbs:=hb.size;have gXl:=hBX.lt;obtain⟨W7,hW7⟩:=e_ ((((((w.setCell ⟨gX,0,none⟩ (.int .i64 p)).setCell ⟨gX,1,none⟩ (.int .i64 q.v)).setCell ⟨gX,2,none⟩ (.slice A2 q.f.length a2)).setCell ⟨gX,3,none⟩ (.slice C2 q.t.length c2)).setCell ⟨gX,4,none⟩ (.slice E2 q.v.toNat e2)).setCell ⟨gX,5,none⟩ (.slice H2 q.f.length h2));have hB7:Blk W7 gX 29 #[.int .i64 p,.int .i64 q.v,.slice A2 q.f.length a2,.slice C2 q.t.length c2,.slice E2 q.v.toNat e2,.slice H2 q.f.length h2]:=by
      rw[←hW7];exact (((((hBX.set_ 0 _).set_ 1 _).set_ 2 _).set_ 3 _).set_ 4 _).set_ 5 _
     have hCh:Chg gX (gX+1) w W7:=by
      rw[←hW7];exact chg6 _ _ _ _ _ _ _ _
     have hs7:W7.heap.size=w.heap.size:=by rw[←hW7];simp
     have b17:Below w1.heap.size w1 W7:=hb.trans (hCh.below (by omega) (by omega));have KX7:=h_ hB7;have HI7:=h_ ((ho.chg hCh (by omega)).wider (lo':=w1.heap.size) (hi':=W7.heap.size) (by omega) (by omega));have KO7:=h_ (HB5.out.call b17);have HR7:=h_ ((HR5.out.below b17).wider (l_ _) b17.size);have GW7:=h_ (GW5.out.trans (b17.mono gws));have Z37:=h_ (a4_ b17 hbw Z3.out);have hgX2:w1.heap.size≤gX:=by omega
     have hgX3:gX<W7.heap.size:=by omega
     have hbs7:b<W7.heap.size:=by omega
     have hbO:b<W.heap.size:=hbB;have hs17:w1.heap.size≤W7.heap.size:=b17.size;clear hiv hdj h12 e14 e16 e13 i12 i16 dj hBX hCh hs7 hb b17 ho hB7 gXl hbs hgX;go_wp2;clear hW7 r0 r1 r2 r3 r4 r5 fr;go_loopw [12] (fun i wr=>∃ (j:Nat) (A1:Option Addr) (a1:Nat) (C1:Option Addr) (c1:Nat) (E1:Option Addr) (e1:Nat) (H1':Option Addr) (h1':Nat),j≤N∧i = .int .i64 j∧Chg gO (gO+1) W7 wr ∧
      Blk wr gO 29 #[.int .i64 p,.int .i64 q.v,.slice A1 q.f.length a1,.slice C1 q.t.length c1,.slice E1 q.v.toNat e1,.slice H1' q.f.length h1']∧RepI wr W.heap.size wr.heap.size (.agg #[.int .i64 p,.int .i64 q.v,.slice A1 q.f.length a1,.slice C1 q.t.length c1,.slice E1 q.v.toNat e1,.slice H1' q.f.length h1']) (smR p q (d0_ (l.take k) ++ List.replicate j (xn,yn)))∧smO q (d0_ (l.take k) ++ List.replicate j (xn,yn))=true) (fun i _=>N-(intOf i).toNat)
     case atStart=>exact⟨0,A1,a1,C1,c1,E1,e1,H1',h1',l0_ _,rfl,Chg.refl _ _ _,KO7.out,by have:=HR7.out;simpa using this,by have:=HOK.out;simpa using this⟩
     case round =>
      clear A1 a1 C1 c1 E1 e1 H1' h1' KO7 HR7 HOK HB5 HR5;obtain⟨j,A1,a1,C1,c1,E1,e1,H1',h1',hj,rfl,hch,hB,hR,hok⟩:=hrel;have z3:=a4_ (hch.below (B:=W.heap.size) hgO2 (by omega)) hbO Z37.out;have HOK:=h_ hok;have hcs:=hch.size;clear hok;by_cases hjl:j<N
      ·obtain⟨o0,o1,o2,o3,o4,o5⟩:=c_6 hB;have kx:=KX7.out.chg hch (.inr (by omega));obtain⟨m0,m1,m2,m3,m4,m5⟩:=c_6 kx;have HBr:=h_ hB;have HCr:=h_ hch;have HRr:=h_ hR.rd;have HXr:=h_ (HI7.out.chg hch (.inr (by omega))).rd;have hir:=F0_ HP.out HQ.out (d0_ (l.take k) ++ List.replicate j (xn,yn));rw[HOK.out]at hir;have HIR:=h_ hir;clear hir hB hR hch kx;go_wp2_with fail
       refine (t8_ _ _ p q (smS q (d0_ (l.take k) ++ List.replicate j (xn,yn))).1 (ivN xn yn) (smS q (d0_ (l.take k) ++ List.replicate j (xn,yn))).2 (fun _ _ _=>1) _ HRr.out HXr.out HIR.out (c3z HP.out HQ.out (xn,yn))).mono ?_;rintro e w6 ⟨v6,rfl,ho,hb6⟩;rw[c9Q HP.out HQ.out,←b1J]at ho⊢;clear o0 o1 o2 o3 o4 o5 m0 m1 m2 m3 m4 m5 z3;have hb6s:=hb6.size;have GW6:=h_ ((GW7.out.trans (HCr.out.below hgO2 (by omega))).trans (hb6.mono (by omega)));rcases hk1:smO q (d0_ (l.take k) ++ List.replicate (j+1) (xn,yn)) with _ | _
       ·have hsm:smP p q (d0_ (l.take k) ++ List.replicate (j+1) (xn,yn))=(rp0,false):=by simp[smP,hk1]
        rw[hsm]at ho⊢;have HE2:=h_ (HE.out.trans (f3X (p:=p) HX.out (by simpa using hjl) (by rw[HXN.out,HYN.out];exact hk1)));obtain⟨A8,a8,C8,c8,E8,e8,H8,h8,e6⟩:=b1X ho;subst e6;obtain⟨W8,hW8⟩:=e_ (w6.alloc (.cells #[.int .i64 0,.int .i64 0,.slice A8 0 a8,.slice C8 0 c8,.slice E8 0 e8,.slice H8 0 h8] 29));have ga:Below w6.heap.size w6 W8:=by rw[←hW8];exact a0_ _ _
        have GW8:=h_ (GW6.out.trans (ga.mono GW6.out.size));have HE:=HE2;clear hk1 hsm ho ga hb6;have kz:=k2.call GW8.out;have fr:=kz.frozen;obtain⟨s0,s1,s2,s3,s4,s5⟩:=c_6 kz;have gf:=g0.trans (GW8.out.mono g0.size);have GF:=h_ gf;clear kz gf;go_wp2;have gf:=GF.out;have hE:=HE.out;have gfs:=gf.size;exact bodyPost_ret (v:=.tuple #[.agg #[.int .i64 0,.int .i64 0,.slice none 0 0,.slice none 0 0,.slice none 0 0,.slice none 0 0],.bool false]) (by simp[results,go_sem,s0,s1,s2,s3,s4,s5]) rfl ⟨_,by rw[hE],by rw[hE];exact RepI.zero _ (by simp;exact gfs),(((((gf.setCell (by simp) _).setCell (by simp) _).setCell (by simp) _).setCell (by simp) _).setCell (by simp) _).setCell (by simp) _⟩
       ·have hsm:smP p q (d0_ (l.take k) ++ List.replicate (j+1) (xn,yn))=(smR p q (d0_ (l.take k) ++ List.replicate (j+1) (xn,yn)),true):=by simp[smP,hk1]
        rw[hsm]at ho⊢;have HK1:=h_ hk1;clear hk1 hsm;obtain⟨A3,a3,C3,c3,E3,e3,H3,h3,e6⟩:=a4Z ho;subst e6;obtain⟨W8,hW8,ga,kY⟩:=b_1 w6 #[.int .i64 p,.int .i64 q.v,.slice A3 q.f.length a3,.slice C3 q.t.length c3,.slice E3 q.v.toNat e3,.slice H3 q.f.length h3] 29;have hbr8:=hb6.trans (ga.mono hb6s);have kO8:=HBr.out.call hbr8;have fr:=kO8.frozen;obtain⟨o0,o1,o2,o3,o4,o5⟩:=c_6 kO8;obtain⟨m0,m1,m2,m3,m4,m5⟩:=c_6 kY;have s8:=ga.size;have gOr:=HBr.out.lt;obtain⟨W9,hW9⟩:=e_ ((((((W8.setCell ⟨gO,0,none⟩ (.int .i64 p)).setCell ⟨gO,1,none⟩ (.int .i64 q.v)).setCell ⟨gO,2,none⟩ (.slice A3 q.f.length a3)).setCell ⟨gO,3,none⟩ (.slice C3 q.t.length c3)).setCell ⟨gO,4,none⟩ (.slice E3 q.v.toNat e3)).setCell ⟨gO,5,none⟩ (.slice H3 q.f.length h3));have hB9:Blk W9 gO 29 #[.int .i64 p,.int .i64 q.v,.slice A3 q.f.length a3,.slice C3 q.t.length c3,.slice E3 q.v.toNat e3,.slice H3 q.f.length h3]:=by
         rw[←hW9];exact (((((kO8.set_ 0 _).set_ 1 _).set_ 2 _).set_ 3 _).set_ 4 _).set_ 5 _
        have hCh:Chg gO (gO+1) W8 W9:=by
         rw[←hW9];exact chg6 _ _ _ _ _ _ _ _
        have hs9:W9.heap.size=W8.heap.size:=by rw[←hW9];simp
        have HR9:=h_ (show RepI W9 W.heap.size W9.heap.size (.agg #[.int .i64 p,.int .i64 q.v,.slice A3 q.f.length a3,.slice C3 q.t.length c3,.slice E3 q.v.toNat e3,.slice H3 q.f.length h3]) (smR p q (d0_ (l.take k) ++ List.replicate (j+1) (xn,yn))) from (((ho.below ga).chg hCh (.inr (by omega))).wider (by omega) (by omega)));have HC9:=h_ ((HCr.out.trans (Chg.of_below hbr8)).trans hCh);have HB9:=h_ hB9;clear ho ga hbr8 kO8 kY hB9 hCh hb6;go_wp2;clear hW8 hW9 o0 o1 o2 o3 o4 o5 m0 m1 m2 m3 m4 m5 fr;go_roundw
        case rel=>exact⟨j+1,A3,a3,C3,c3,E3,e3,H3,h3,by omega,by go_num,HC9.out,HB9.out,HR9.out,HK1.out⟩
        case measure=>simp[intOf];omega
      ·obtain rfl:j=N:=by omega
       have hbx:d0_ (l.take (k+1))=d0_ (l.take k) ++ List.replicate j (xn,yn):=by
        rw[c6_ HX.out,D3_,←HXN.out,←HYN.out];simp
       rw[←hbx]at hR HOK;have HBr:=h_ hB;have HRr:=h_ hR;have GWr:=h_ (GW7.out.trans (hch.below hgO2 (by omega)));have sgr:=hB.lt;clear hB hR hch hbx;go_wp2;have hlt:=HLT.out;go_roundw
       case rel=>exact⟨k+1,A1,a1,C1,c1,E1,e1,H1',h1',by omega,by go_num,GWr.out,sgr,HBr.out,HRr.out,HOK.out⟩
       case measure=>simp[intOf];omega
    ·intro x w hb hk hiv hdj om os hom hos;simp only[List.getElem?_cons_zero,List.getElem?_cons_succ,Option.some.injEq]at hom hos;subst hom hos;have h12:∃ A2 a2 C2 c2 E2 e2 H2 h2,x.v 12 = .tuple #[.agg #[.int .i64 p,.int .i64 q.v,.slice A2 q.f.length a2,.slice C2 q.t.length c2,.slice E2 q.v.toNat e2,.slice H2 q.f.length h2],.bool true]∧RepI w (x.lo 12) (x.hi 12) (.agg #[.int .i64 p,.int .i64 q.v,.slice A2 q.f.length a2,.slice C2 q.t.length c2,.slice E2 q.v.toNat e2,.slice H2 q.f.length h2]) (ivR p q (xn,yn)):=hk 12 (by decide);have h13:∃ A2 a2 C2 c2 E2 e2 H2 h2,x.v 13 = .tuple #[.agg #[.int .i64 p,.int .i64 q.v,.slice A2 q.f.length a2,.slice C2 q.t.length c2,.slice E2 q.v.toNat e2,.slice H2 q.f.length h2],.bool true]∧RepI w (x.lo 12) (x.hi 12) (.agg #[.int .i64 p,.int .i64 q.v,.slice A2 q.f.length a2,.slice C2 q.t.length c2,.slice E2 q.v.toNat e2,.slice H2 q.f.length h2]) (ivR p q (xn,yn)):=hk 13 (by decide);have h14:∃ A2 a2 C2 c2 E2 e2 H2 h2,x.v 14 = .agg #[.int .i64 p,.int .i64 q.v,.slice A2 q.f.length a2,.slice C2 q.t.length c2,.slice E2 q.v.toNat e2,.slice H2 q.f.length h2]∧RepI w (x.lo 12) (x.hi 12) (.agg #[.int .i64 p,.int .i64 q.v,.slice A2 q.f.length a2,.slice C2 q.t.length c2,.slice E2 q.v.toNat e2,.slice H2 q.f.length h2]) (ivR p q (xn,yn)):=hk 14 (by decide);have h16:∃ g,(x.v 16) = .pointer (some ⟨g,0,none⟩)∧((x.lo 16)≤g∧g<(x.hi 16))∧Blk w g 29 #[.int .i64 0,.int .i64 0,.slice none 0 0,.slice none 0 0,.slice none 0 0,.slice none 0 0]:=hk 16 (by decide);have he:=k_g hk [0,1,2,3,4,5,6,7,8,9,10,11];simp only[k_s]at he;simp only[List.foldl_cons,List.foldl_nil,netE,he];clear he hk;obtain⟨A2,a2,C2,c2,E2,e2,H2,h2,e14,ho⟩:=h14;obtain⟨gX,e16,hgX,hBX⟩:=h16;obtain⟨A7,a7,C7,c7,E7,e7,H7,h7,e13,_⟩:=h13;have i12:=hiv 12 (by decide);have i16:=hiv 16 (by decide);have dj:=hdj 12 16 (by decide) (by decide) (by decide);rw[e14,e16,e13];have fr:=hBX.frozen;obtain⟨r0,r1,r2,r3,r4,r5⟩:=c_6 hBX;have hbs:=hb.size;have gXl:=hBX.lt;obtain⟨W7,hW7⟩:=e_ ((((((w.setCell ⟨gX,0,none⟩ (.int .i64 p)).setCell ⟨gX,1,none⟩ (.int .i64 q.v)).setCell ⟨gX,2,none⟩ (.slice A2 q.f.length a2)).setCell ⟨gX,3,none⟩ (.slice C2 q.t.length c2)).setCell ⟨gX,4,none⟩ (.slice E2 q.v.toNat e2)).setCell ⟨gX,5,none⟩ (.slice H2 q.f.length h2));have hB7:Blk W7 gX 29 #[.int .i64 p,.int .i64 q.v,.slice A2 q.f.length a2,.slice C2 q.t.length c2,.slice E2 q.v.toNat e2,.slice H2 q.f.length h2]:=by
      rw[←hW7];exact (((((hBX.set_ 0 _).set_ 1 _).set_ 2 _).set_ 3 _).set_ 4 _).set_ 5 _
     have hCh:Chg gX (gX+1) w W7:=by
      rw[←hW7];exact chg6 _ _ _ _ _ _ _ _
     have hs7:W7.heap.size=w.heap.size:=by rw[←hW7];simp
     have b17:Below w1.heap.size w1 W7:=hb.trans (hCh.below (by omega) (by omega));have KX7:=h_ hB7;have HI7:=h_ ((ho.chg hCh (by omega)).wider (lo':=w1.heap.size) (hi':=W7.heap.size) (by omega) (by omega));have KO7:=h_ (HB5.out.call b17);have HR7:=h_ ((HR5.out.below b17).wider (l_ _) b17.size);have GW7:=h_ (GW5.out.trans (b17.mono gws));have Z37:=h_ (a4_ b17 hbw Z3.out);have hgX2:w1.heap.size≤gX:=by omega
     have hgX3:gX<W7.heap.size:=by omega
     have hbs7:b<W7.heap.size:=by omega
     have hbO:b<W.heap.size:=hbB;have hs17:w1.heap.size≤W7.heap.size:=b17.size;clear hiv hdj h12 e14 e16 e13 i12 i16 dj hBX hCh hs7 hb b17 ho hB7 gXl hbs hgX;go_wp2;clear hW7 r0 r1 r2 r3 r4 r5 fr;go_loopw [12] (fun i wr=>∃ (j:Nat) (A1:Option Addr) (a1:Nat) (C1:Option Addr) (c1:Nat) (E1:Option Addr) (e1:Nat) (H1':Option Addr) (h1':Nat),j≤N∧i = .int .i64 j∧Chg gO (gO+1) W7 wr ∧
      Blk wr gO 29 #[.int .i64 p,.int .i64 q.v,.slice A1 q.f.length a1,.slice C1 q.t.length c1,.slice E1 q.v.toNat e1,.slice H1' q.f.length h1']∧RepI wr W.heap.size wr.heap.size (.agg #[.int .i64 p,.int .i64 q.v,.slice A1 q.f.length a1,.slice C1 q.t.length c1,.slice E1 q.v.toNat e1,.slice H1' q.f.length h1']) (smR p q (d0_ (l.take k) ++ List.replicate j (xn,yn)))∧smO q (d0_ (l.take k) ++ List.replicate j (xn,yn))=true) (fun i _=>N-(intOf i).toNat)
     case atStart=>exact⟨0,A1,a1,C1,c1,E1,e1,H1',h1',l0_ _,rfl,Chg.refl _ _ _,KO7.out,by have:=HR7.out;simpa using this,by have:=HOK.out;simpa using this⟩
     case round =>
      clear A1 a1 C1 c1 E1 e1 H1' h1' KO7 HR7 HOK HB5 HR5;obtain⟨j,A1,a1,C1,c1,E1,e1,H1',h1',hj,rfl,hch,hB,hR,hok⟩:=hrel;have z3:=a4_ (hch.below (B:=W.heap.size) hgO2 (by omega)) hbO Z37.out;have HOK:=h_ hok;have hcs:=hch.size;clear hok;by_cases hjl:j<N
      ·obtain⟨o0,o1,o2,o3,o4,o5⟩:=c_6 hB;have kx:=KX7.out.chg hch (.inr (by omega));obtain⟨m0,m1,m2,m3,m4,m5⟩:=c_6 kx;have HBr:=h_ hB;have HCr:=h_ hch;have HRr:=h_ hR.rd;have HXr:=h_ (HI7.out.chg hch (.inr (by omega))).rd;have hir:=F0_ HP.out HQ.out (d0_ (l.take k) ++ List.replicate j (xn,yn));rw[HOK.out]at hir;have HIR:=h_ hir;clear hir hB hR hch kx;go_wp2_with fail
       refine (t8_ _ _ p q (smS q (d0_ (l.take k) ++ List.replicate j (xn,yn))).1 (ivN xn yn) (smS q (d0_ (l.take k) ++ List.replicate j (xn,yn))).2 (fun _ _ _=>1) _ HRr.out HXr.out HIR.out (c3z HP.out HQ.out (xn,yn))).mono ?_;rintro e w6 ⟨v6,rfl,ho,hb6⟩;rw[c9Q HP.out HQ.out,←b1J]at ho⊢;clear o0 o1 o2 o3 o4 o5 m0 m1 m2 m3 m4 m5 z3;have hb6s:=hb6.size;have GW6:=h_ ((GW7.out.trans (HCr.out.below hgO2 (by omega))).trans (hb6.mono (by omega)));rcases hk1:smO q (d0_ (l.take k) ++ List.replicate (j+1) (xn,yn)) with _ | _
       ·have hsm:smP p q (d0_ (l.take k) ++ List.replicate (j+1) (xn,yn))=(rp0,false):=by simp[smP,hk1]
        rw[hsm]at ho⊢;have HE2:=h_ (HE.out.trans (f3X (p:=p) HX.out (by simpa using hjl) (by rw[HXN.out,HYN.out];exact hk1)));obtain⟨A8,a8,C8,c8,E8,e8,H8,h8,e6⟩:=b1X ho;subst e6;obtain⟨W8,hW8⟩:=e_ (w6.alloc (.cells #[.int .i64 0,.int .i64 0,.slice A8 0 a8,.slice C8 0 c8,.slice E8 0 e8,.slice H8 0 h8] 29));have ga:Below w6.heap.size w6 W8:=by rw[←hW8];exact a0_ _ _
        have GW8:=h_ (GW6.out.trans (ga.mono GW6.out.size));have HE:=HE2;clear hk1 hsm ho ga hb6;have kz:=k2.call GW8.out;have fr:=kz.frozen;obtain⟨s0,s1,s2,s3,s4,s5⟩:=c_6 kz;have gf:=g0.trans (GW8.out.mono g0.size);have GF:=h_ gf;clear kz gf;go_wp2;have gf:=GF.out;have hE:=HE.out;have gfs:=gf.size;exact bodyPost_ret (v:=.tuple #[.agg #[.int .i64 0,.int .i64 0,.slice none 0 0,.slice none 0 0,.slice none 0 0,.slice none 0 0],.bool false]) (by simp[results,go_sem,s0,s1,s2,s3,s4,s5]) rfl ⟨_,by rw[hE],by rw[hE];exact RepI.zero _ (by simp;exact gfs),(((((gf.setCell (by simp) _).setCell (by simp) _).setCell (by simp) _).setCell (by simp) _).setCell (by simp) _).setCell (by simp) _⟩
       ·have hsm:smP p q (d0_ (l.take k) ++ List.replicate (j+1) (xn,yn))=(smR p q (d0_ (l.take k) ++ List.replicate (j+1) (xn,yn)),true):=by simp[smP,hk1]
        rw[hsm]at ho⊢;have HK1:=h_ hk1;clear hk1 hsm;obtain⟨A3,a3,C3,c3,E3,e3,H3,h3,e6⟩:=a4Z ho;subst e6;obtain⟨W8,hW8,ga,kY⟩:=b_1 w6 #[.int .i64 p,.int .i64 q.v,.slice A3 q.f.length a3,.slice C3 q.t.length c3,.slice E3 q.v.toNat e3,.slice H3 q.f.length h3] 29;have hbr8:=hb6.trans (ga.mono hb6s);have kO8:=HBr.out.call hbr8;have fr:=kO8.frozen;obtain⟨o0,o1,o2,o3,o4,o5⟩:=c_6 kO8;obtain⟨m0,m1,m2,m3,m4,m5⟩:=c_6 kY;have s8:=ga.size;have gOr:=HBr.out.lt;obtain⟨W9,hW9⟩:=e_ ((((((W8.setCell ⟨gO,0,none⟩ (.int .i64 p)).setCell ⟨gO,1,none⟩ (.int .i64 q.v)).setCell ⟨gO,2,none⟩ (.slice A3 q.f.length a3)).setCell ⟨gO,3,none⟩ (.slice C3 q.t.length c3)).setCell ⟨gO,4,none⟩ (.slice E3 q.v.toNat e3)).setCell ⟨gO,5,none⟩ (.slice H3 q.f.length h3));have hB9:Blk W9 gO 29 #[.int .i64 p,.int .i64 q.v,.slice A3 q.f.length a3,.slice C3 q.t.length c3,.slice E3 q.v.toNat e3,.slice H3 q.f.length h3]:=by
         rw[←hW9];exact (((((kO8.set_ 0 _).set_ 1 _).set_ 2 _).set_ 3 _).set_ 4 _).set_ 5 _
        have hCh:Chg gO (gO+1) W8 W9:=by
         rw[←hW9];exact chg6 _ _ _ _ _ _ _ _
        have hs9:W9.heap.size=W8.heap.size:=by rw[←hW9];simp
        have HR9:=h_ (show RepI W9 W.heap.size W9.heap.size (.agg #[.int .i64 p,.int .i64 q.v,.slice A3 q.f.length a3,.slice C3 q.t.length c3,.slice E3 q.v.toNat e3,.slice H3 q.f.length h3]) (smR p q (d0_ (l.take k) ++ List.replicate (j+1) (xn,yn))) from (((ho.below ga).chg hCh (.inr (by omega))).wider (by omega) (by omega)));have HC9:=h_ ((HCr.out.trans (Chg.of_below hbr8)).trans hCh);have HB9:=h_ hB9;clear ho ga hbr8 kO8 kY hB9 hCh hb6;go_wp2;clear hW8 hW9 o0 o1 o2 o3 o4 o5 m0 m1 m2 m3 m4 m5 fr;go_roundw
        case rel=>exact⟨j+1,A3,a3,C3,c3,E3,e3,H3,h3,by omega,by go_num,HC9.out,HB9.out,HR9.out,HK1.out⟩
        case measure=>simp[intOf];omega
      ·obtain rfl:j=N:=by omega
       have hbx:d0_ (l.take (k+1))=d0_ (l.take k) ++ List.replicate j (xn,yn):=by
        rw[c6_ HX.out,D3_,←HXN.out,←HYN.out];simp
       rw[←hbx]at hR HOK;have HBr:=h_ hB;have HRr:=h_ hR;have GWr:=h_ (GW7.out.trans (hch.below hgO2 (by omega)));have sgr:=hB.lt;clear hB hR hch hbx;go_wp2;have hlt:=HLT.out;go_roundw
       case rel=>exact⟨k+1,A1,a1,C1,c1,E1,e1,H1',h1',by omega,by go_num,GWr.out,sgr,HBr.out,HRr.out,HOK.out⟩
       case measure=>simp[intOf];omega
   ·obtain rfl:k=n:=by omega
    rw[l7_ (by have:=HN.out;omega)]at hR HOK;have HE2:=h_ (show rbP p q l=(smR p q (d0_ l),true) from HE.out.trans (by simp[smP,HOK.out]));have kz:=k2.call gW;have fr:=kz.frozen;obtain⟨s0,s1,s2,s3,s4,s5⟩:=c_6 kz;obtain⟨r0,r1,r2,r3,r4,r5⟩:=c_6 hB;have sz:=SZ.out;have gf:=g0.trans (gW.mono g0.size);have hc:=chg6 wr (w0.heap.size+1) (.int .i64 p) (.int .i64 q.v) (.slice A1 q.f.length a1) (.slice C1 q.t.length c1) (.slice E1 q.v.toNat e1) (.slice H1' q.f.length h1');have OF:=h_ ((hR.chg hc (.inr (by omega))).wider (lo':=w0.heap.size) (hi':=wr.heap.size) (by omega) (l_ _));have GF:=h_ (gf.trans (hc.below (by omega) gf.size));clear hR hB kz gf hc;go_wp2;have hE:=HE2.out;exact bodyPost_ret (v:=.tuple #[.agg #[.int .i64 p,.int .i64 q.v,.slice A1 q.f.length a1,.slice C1 q.t.length c1,.slice E1 q.v.toNat e1,.slice H1' q.f.length h1'],.bool true]) (by simp[results,go_sem,s0,s1,s2,s3,s4,s5]) rfl ⟨_,by rw[hE],by rw[hE];have:=OF.out.wider (l_ _) (l_ _);simpa using this,GF.out⟩
theorem F2_ (p:Int) (u:Value) (q:Qv) (v:Value) (l:List Bar) (w0:World) (_:I64 p) (hu:QvR w0 w0.heap.size u q) (hv:SlB w0 w0.heap.size v l) :
  Calls Tryz.prog 17 #[.int .i64 p,u,v] w0 fun e w'=>∃ r,e = .returned (.tuple #[r,.bool (rbP p q l).2])∧RpR w' w'.heap.size r (rbP p q l).1∧Below w0.heap.size w0 w':=by
 rcases h:c8_ p && areB q l with _ | _
 ·exact (O9_ p u q v l w0 hu hv h).mono fun e w' ⟨r,h1,h2,h3⟩=>⟨r,h1,h2.rd,h3⟩
 ·have h:=l9_ _ _ ▸ h;exact (P0_ p u q v l w0 hu hv h.1 h.2).mono fun e w' ⟨r,h1,h2,h3⟩=>⟨r,h1,h2.rd,h3⟩
def Sep3 (v:Value):Prop:=∃ P V f t d m m1,v = .agg #[P,V,f,t,d,m]∧(∀ k,f.ownBlock=some k→k<m1)∧(∀ k,t.ownBlock=some k→k<m1)∧∀ k,d.ownBlock=some k→m1≤k
theorem a3z (p:Int) (u xv:Value) (q:Qv) (d:List Int) (w0:World) (hp:I64 p) (hu:QvR w0 w0.heap.size u q) (hx:SlI w0 w0.heap.size xv d) (hq:i0_ q d=true) :
  Calls Tryz.prog 56 #[.int .i64 p,u,xv] w0 fun e w'=>∃ v,e = .returned v∧RepI w' w0.heap.size w'.heap.size v (zRep p q d)∧Sep3 v∧Below w0.heap.size w0 w':=by
 have hu':=hu;obtain⟨A,c,C,c',rfl,hf,ht,hr,lf,lt⟩:=hu.open_;obtain⟨XA,xc,rfl,_,_,lx,hx⟩:=hx.open_;clear hu;obtain⟨W,hW,g0,k1,k2⟩:=b_4 w0 #[.int .i64 q.v,.slice A q.f.length c,.slice C q.t.length c'] 26 #[.int .i64 0,.int .i64 0,.slice none 0 0,.slice none 0 0,.slice none 0 0,.slice none 0 0] 29;have sz:W.heap.size=w0.heap.size+1+1:=by rw[hW];simp
 have SZ:=h_ sz;clear sz;have HQ:=h_ hq;clear hq;have hxW:=SlI.next g0 hx;have huW:=QvR.next g0 hu';go_enter Tryz.func56,Tryz.ntmps56
 obtain⟨c0,c1,c2⟩:=c_3 k1;go_wp2_with fail
 rw[←hW];clear hW;refine (E6_ _ q _ huW).mono ?_;rintro e w1 ⟨v1,rfl,⟨qa,qb,rfl,ha,hb2,hqv⟩,hb1⟩;obtain⟨A1,a1,rfl⟩:=ha.form;obtain⟨C1,b1,rfl⟩:=hb2.form;have s1:=hb1.size;clear c0 c1 c2
 (go_wp2_with (at_builtin;refine Hold.stop ?_));unfold Hold
 refine i5_ (by rfl) (.tmp 12) (.tmp 13) (by rfl) w1.heap.size w1.heap.size (w1.alloc (.cells #[] 3)).heap.size #[] (by rfl) (Blk.new _ _ _) rfl (l_ _) XA xc d (by rfl) (SlI.next (a0_ _ _) (SlI.next hb1 hxW)) ?_;intro v2 w2 ho hb2';obtain⟨E1,e1,rfl,_,_⟩:=ho.form;have hb3:Below w1.heap.size w1 w2:=b0_ (a0_ _ _) hb2';have s2:=hb3.size;have s2':=hb2'.size;obtain⟨W3,hW3⟩:∃ W3,W3=(w2.alloc (.cells #[] 65)).alloc (.cells #[.int .i64 p,.int .i64 q.v,.slice A1 q.f.length a1,.slice C1 q.t.length b1,.slice E1 d.length e1,.slice (some ⟨w2.heap.size,0,none⟩) 0 0] 29):=⟨_,rfl⟩;have gA:Below w2.heap.size w2 W3:=by rw[hW3];exact ((Below.refl _ _).alloc (l_ _) _).alloc (by simp) _
 have z3:W3.heap.size=w2.heap.size+1+1:=by rw[hW3];simp
 have hBm3:Blk W3 w2.heap.size 65 #[]:=by rw[hW3];exact (Blk.new _ _ _).alloc _
 have hB3:Blk W3 (w2.heap.size+1) 29 #[.int .i64 p,.int .i64 q.v,.slice A1 q.f.length a1,.slice C1 q.t.length b1,.slice E1 d.length e1,.slice (some ⟨w2.heap.size,0,none⟩) 0 0]:=by
  rw[hW3];have:=Blk.new (w2.alloc (.cells #[] 65)) 29 #[.int .i64 p,.int .i64 q.v,.slice A1 q.f.length a1,.slice C1 q.t.length b1,.slice E1 d.length e1,.slice (some ⟨w2.heap.size,0,none⟩) 0 0];simpa only[l3_] using this
 have g1:Below W.heap.size W w2:=b0_ hb1 hb3;have gW3:Below W.heap.size W W3:=b0_ g1 gA;have sW:=g1.size;simp only[l3_]at s2';have hO3:RowO 65 3 W3 W.heap.size W3.heap.size (.slice (some ⟨w2.heap.size,0,none⟩) 0 0) 0 []:=by
  have:=hBm3.own (base:=W.heap.size) (n:=0) (cap:=0) (size:=3) sW (l_ _) (by simp only[maxLen];omega) (by simp);exact⟨by simpa using this,fun k hk=>by simp[Value.ownBlock]at hk;subst hk;exact hBm3.lt,by omega⟩
 have SA:=h_ ha.2;have SB:=h_ hb2.2;have SE:=h_ fun k hk=>(ho.lt k hk).1
 have ha3:a8_ W3 W.heap.size W3.heap.size (.slice A1 q.f.length a1) q.f:=((ha.below hb3).below gA).wider (l_ _) (by omega);have hb3':a8_ W3 W.heap.size W3.heap.size (.slice C1 q.t.length b1) q.t:=((hb2.below hb3).below gA).wider (l_ _) (by omega);have hd3:a8_ W3 W.heap.size W3.heap.size (.slice E1 d.length e1) d:=((a8_.of_own ho).below gA).wider (by omega) (by omega);have hgR:W.heap.size≤(w2.heap.size+1):=by omega
 have q1':W3.cell? ⟨w0.heap.size,1,none⟩=some (.slice A q.f.length c):=(k1.below gW3 (by have:=SZ.out;omega)).cell' (i:=1) rfl;have q1'':w2.cell? ⟨w0.heap.size,1,none⟩=some (.slice A q.f.length c):=(k1.below g1 (by have:=SZ.out;omega)).cell' (i:=1) rfl;have hlt0:w0.heap.size<w2.heap.size:=by have:=SZ.out;omega
 have K1:=h_ k1;have K2:=h_ k2;have G0:=h_ g0;have HA3:=h_ ha3;have HB3:=h_ hb3';have HD3:=h_ hd3;have H3:=h_ hB3;have O3:=h_ hO3;have GW3:=h_ gW3;have HGR:=h_ (show (w2.heap.size+1)<W3.heap.size by omega);clear ho ha hb2 hBm3 ha3 hb3 hb3' hd3 hB3 hO3 gW3 k1 k2 g0 hb1 hb2' gA g1 s1 s2 s2' sW z3;go_wp2;rw[←hW3];clear hW3 q1' q1'';go_loopw [8] (fun i wr=>∃ (k:Nat) (mv:Value) (vs:List Value),k≤q.f.length∧i = .int .i64 k∧Below W.heap.size W wr∧W3.heap.size≤wr.heap.size∧Blk wr (w2.heap.size+1) 29 #[.int .i64 p,.int .i64 q.v,.slice A1 q.f.length a1,.slice C1 q.t.length b1,.slice E1 d.length e1,mv] ∧
  a8_ wr W.heap.size W3.heap.size (.slice A1 q.f.length a1) q.f∧a8_ wr W.heap.size W3.heap.size (.slice C1 q.t.length b1) q.t∧a8_ wr W.heap.size W3.heap.size (.slice E1 d.length e1) d ∧
  RowO 65 3 wr W.heap.size wr.heap.size mv k (mxCs vs (zms q d k))∧vs.length=k∧Fam wr W3.heap.size wr.heap.size (vs.zip ((zms q d k).map Mx.a))) (fun i _=>q.f.length-(intOf i).toNat)
 case atStart=>exact⟨0,_,[],l0_ _,rfl,GW3.out,l_ _,H3.out,HA3.out,HB3.out,HD3.out,O3.out,rfl,⟨fun p hp=>by simp at hp,by simp⟩⟩
 case round =>
  obtain⟨k,mv,vs,hk,rfl,hbel,hlt2,hB,hIa,hIb,hId,hO,hvl,hF⟩:=hrel;have HVL:=h_ hvl;clear hvl;have kq:=(K1.out).below hbel (by have:=SZ.out;omega);have p1:=kq.cell' (i:=1) rfl;by_cases hlt:k<q.f.length
  ·obtain⟨nf,nt,yf,yt,ef,et,df,dt,lnf,lnt,lnf5,lnt5,hkt0⟩:=C0_ (x:=⟨0,q,d,[]⟩) HQ.out hlt;simp only at ef et df dt lnf lnt hkt0;have hkf:=hlt;have hd:=(c3_.1 HQ.out).2.2.1;have hlf6:q.f.length≤6:=(j2_.1 (c3_.1 HQ.out).1).2.2.1;have byf:=hd _ (l4_ df);have byt:=hd _ (l4_ dt);have HZS:=h_ (V6_ ef et df dt);clear hd;have hkt:=hkt0;obtain⟨bf,of_,xf,eA,hbf,HXF,f1,_⟩:=SlI.at_ hf hkf;obtain⟨bt,ot,xt,eC,hbt,HXT,t1,_⟩:=SlI.at_ ht hkt;obtain⟨bd,od,xdf,eX,hbd,HXDF,d1,_⟩:=SlI.at_ hx lnf;obtain⟨bd',od',xdt,eX',hbd',HXDT,d2,_⟩:=SlI.at_ hx lnt;subst eA eC eX;injection eX' with eX'
   injection eX' with e1 e2
   subst e1 e2;have q1:=HXF.out;rw[ef]at q1;injection q1 with q1
   subst q1;have q2:=HXT.out;rw[et]at q2;injection q2 with q2
   subst q2;have q3:=HXDF.out;rw[df]at q3;injection q3 with q3
   subst q3;have q4:=HXDT.out;rw[dt]at q4;injection q4 with q4
   subst q4;clear HXF HXT HXDF HXDT ef et df dt;have gw:Below w0.heap.size w0 wr:=G0.out.trans (hbel.mono (G0.out).size);have gws:=gw.size;have hbelS:=hbel.size;have sz:=SZ.out;have a1':(0:Int)≤(k:Int):=by omega
   have a2':(k:Int)<q.f.length:=by omega
   have a3':(k:Int)<q.t.length:=by omega
   have a4':(0:Int)≤(nf:Int):=by omega
   have a5':(nf:Int)<d.length:=by omega
   have a6':(0:Int)≤(nt:Int):=by omega
   have a7':(nt:Int)<d.length:=by omega
   have SZ2:=h_ sz;clear sz;go_wp2;refine a9_ (by kernel_rfl) [.eq (.pointer (some ⟨w2.heap.size+1,5,none⟩)),.eq (mv),.eq (.slice (some ⟨bd,od,none⟩) d.length xc),.eq (.pointer (some ⟨w0.heap.size,2,none⟩)),.eq (.slice (some ⟨bt,ot,none⟩) q.t.length c'),.eq (.int .i64 k),.eq (.pointer (some ⟨bt,ot+k,none⟩)),.eq (.int .i64 nt),.eq (.pointer (some ⟨bd,od+nt,none⟩)),.eq (.int .i64 yt),.eq (.slice (some ⟨bd,od,none⟩) d.length xc),.eq (.pointer (some ⟨w0.heap.size,1,none⟩)),.eq (.slice (some ⟨bf,of_,none⟩) q.f.length c),.eq (.int .i64 k),.eq (.pointer (some ⟨bf,of_+k,none⟩)),.eq (.int .i64 nf),.eq (.pointer (some ⟨bd,od+nf,none⟩)),.eq (.int .i64 yf),rel 18 (fun u lo hi w=>MxO w lo hi u (zmx yt yf)),.rel (fun x w=>∃ g s,x.v 19 = .slice (some ⟨g,0,none⟩) 1 1∧x.v 18 = .agg #[.int .i64 yt,.int .i64 yf,s]∧Blk w g 65 #[.int .i64 yt,.int .i64 yf,s])] [[],[0],[],[],[3],[],[3,4,5],[3,4,5,6],[2,3,4,5,6,7],[2,3,4,5,6,7,8],[],[],[11],[],[11,12,13],[11,12,13,14],[10,11,12,13,14,15],[10,11,12,13,14,15,16],[2,3,4,5,6,7,8,9,10,11,12,13,14,15,16,17],[2,3,4,5,6,7,8,9,10,11,12,13,14,15,16,17,18],[0,1,2,3,4,5,6,7,8,9,10,11,12,13,14,15,16,17,18,19],[0,1,2,3,4,5,6,7,8,9,10,11,12,13,14,15,16,17,18,19,20],[0,1,2,3,4,5,6,7,8,9,10,11,12,13,14,15,16,17,18,19,20,21]] 20 (by kernel_rfl) ⟨trivial,trivial,trivial,trivial,trivial,trivial,trivial,trivial,trivial,trivial,trivial,trivial,trivial,trivial,trivial,trivial,trivial,trivial,a7_ (fun u lo hi w w' h hb=>h.below hb),fun x w w' ⟨g,s,e1,e2,h⟩ hb=>⟨g,s,e1,e2,h.call hb⟩,trivial⟩ ⟨?_,?_,?_,?_,?_,?_,?_,?_,?_,?_,?_,?_,?_,?_,?_,?_,?_,?_,?_,?_,trivial⟩ ?_;iterate 20 (intro x w hb hk Q' hQ;have he:=k_e hk;simp only[k_s]at he;simp only[netE]at hQ⊢;(try simp only[he]at hQ⊢);(try clear he);rotate_left)
   rotate_left
   ·clear hk;go_wp2;exact hQ _ _ br_ rfl
   ·clear hk;have z5:=(hB.call hb).cell' (i:=5) rfl;go_wp2;exact hQ _ _ br_ rfl
   iterate 2 (· clear hk;go_wp2;exact hQ _ _ br_ rfl)
   ·clear hk;have z2:=(kq.call hb).cell' (i:=2) rfl;go_wp2;exact hQ _ _ br_ rfl
   iterate 2 (· clear hk;go_wp2;exact hQ _ _ br_ rfl)
   ·clear hk;have z2:=a4_ hb (by omega) (a4_ gw hbt t1);go_wp2;exact hQ _ _ br_ rfl
   ·clear hk;go_wp2;exact hQ _ _ br_ rfl
   ·clear hk;have z2:=a4_ hb (by omega) (a4_ gw hbd' d2);go_wp2;exact hQ _ _ br_ rfl
   iterate 2 (· clear hk;go_wp2;exact hQ _ _ br_ rfl)
   ·clear hk;have z2:=(kq.call hb).cell' (i:=1) rfl;go_wp2;exact hQ _ _ br_ rfl
   iterate 2 (· clear hk;go_wp2;exact hQ _ _ br_ rfl)
   ·clear hk;have z2:=a4_ hb (by omega) (a4_ gw hbf f1);go_wp2;exact hQ _ _ br_ rfl
   ·clear hk;go_wp2;exact hQ _ _ br_ rfl
   ·clear hk;have z2:=a4_ hb (by omega) (a4_ gw hbd d1);go_wp2;exact hQ _ _ br_ rfl
   ·clear hk;go_wp2_with fail
    refine (p7_ yt yf _ byt.1 byf.1 (by omega) (by omega)).mono ?_;rintro e w3 ⟨v3,rfl,hZ,hb3⟩;go_wp2;exact hQ _ _ hb3 hZ
   ·have h18:MxO w (x.lo 18) (x.hi 18) (x.v 18) (zmx yt yf):=(hk 18 (by decide)).1;have s18:=(hk 18 (by decide)).2;clear hk;obtain⟨s,e14,hs⟩:=h18;obtain⟨sA,sc,es⟩:=hs.1.form;obtain⟨sn,hsn⟩:=e_ ((zmx yt yf).a.length);rw[hsn]at es;clear hsn hs;subst es;have hQ':=hQ (.slice (some ⟨w.heap.size,0,none⟩) 1 1) (w.alloc (.cells #[.int .i64 yt,.int .i64 yf,.slice sA sn sc] 65)) (a0_ _ _) ⟨_,_,rfl,e14,Blk.new _ _ _⟩;simp only[zmx]at e14;rw[e14]at hQ'⊢;go_wp2;exact hQ'
   ·intro x w hb hk hiv hdj;have h18:MxO w (x.lo 18) (x.hi 18) (x.v 18) (zmx yt yf):=hk 18 (by decide);have h19:∃ g s,x.v 19 = .slice (some ⟨g,0,none⟩) 1 1∧x.v 18 = .agg #[.int .i64 yt,.int .i64 yf,s]∧Blk w g 65 #[.int .i64 yt,.int .i64 yf,s]:=hk 19 (by decide);have he:=k_g hk [0,1,2,3,4,5,6,7,8,9,10,11,12,13,14,15,16,17];simp only[k_s]at he;simp only[netE,he];clear he hk;obtain⟨g,s,e15,e14,hg⟩:=h19;have l14:=(hiv 18 (by decide)).1;have h14i:=(hiv 18 (by decide)).2.2;obtain⟨s',e14',hs,_⟩:=h18;rw[e14]at e14';simp only[Value.agg.injEq,Array.mk.injEq,List.cons.injEq,and_true,zmx,true_and]at e14';subst e14';rw[e15];have hO':=hO.below hb;have hF':=(hF.below hb).snoc (hs.wider l14 h14i) (by omega) hb.size;have hB':=hB.call hb;have hIa':=hIa.below hb;have hIb':=hIb.below hb;have hId':=hId.below hb;have gb2:Below W.heap.size W w:=hbel.trans (hb.mono hbelS);have hbs2:=hb.size;have hLen:=h_ (m8_ q d k);have HF':=h_ hF';have hO'':OutM w W.heap.size wr.heap.size mv vs (zms q d k):=by rw[OutM,hLen.out];exact hO'
    have HC:=h_ hs.cell;clear hiv hdj hs hF' hO' hO hF e14 e15 hb hB hIa hIb hId;refine o0_ (by rfl) (.tmp 25) (.tmp 43) (by rfl) W.heap.size wr.heap.size mv vs (zms q d k) (by rfl) hO'' (by rw[HVL.out,hLen.out]) g 1 (zmx yt yf) s (by rfl) hg HC.out (by rw[hLen.out];omega) (by omega) ?_;intro v' w' hO3 hA;obtain⟨n9,hn9⟩:=e_ ((zms q d k ++ [zmx yt yf]).length);rw[OutM,hn9]at hO3;have HN9:=h_ (show n9=k+1 by rw[←hn9];simp[hLen.out]);clear hn9;obtain⟨A9,c9,ev,_,_⟩:=hO3.form;subst ev;have hB3:=hA.other _ _ _ (by decide) hB';have z5:=hB3.cell' (i:=5) rfl;have fr:=hB3.frozen;have gb3:Below W.heap.size W w':=gb2.trans (hA.below (l_ _) (by omega));have hs3:=hA.size;have hF3':=HF'.out.appT (by decide) hA;have HF3':=h_ hF3';have HO3:=h_ hO3;have HIa:=h_ (hIa'.appT (by decide) hA);have HIb:=h_ (hIb'.appT (by decide) hA);have HId:=h_ (hId'.appT (by decide) hA);clear hF3' hO3 HF' hO'' hA gb2 hg hIa' hIb' hId';go_wp2;go_roundw
    case rel =>
     have ti:AppT 29 W.heap.size w' (w'.setCell ⟨w2.heap.size+1,5,none⟩ (.slice A9 n9 c9)):=AppT.set hB3 rfl hgR;refine⟨k+1,.slice A9 n9 c9,vs ++ [s],by omega,by go_num,gb3.setCell (by simpa using hgR) _,by simp;omega,hB3.set_ 5 _,HIa.out.appT (by decide) ti,HIb.out.appT (by decide) ti,HId.out.appT (by decide) ti,?_,by simp[HVL.out],?_⟩
     ·have:=HO3.out.set hB3 (by decide) 5 (.slice A9 n9 c9);rw[HZS.out];rw[HN9.out]at this⊢;simpa using this
     ·have h1:=HF3'.out.setBlk (i:=5) hB3 (by decide) (.slice A9 n9 c9);have e:(vs ++ [s]).zip ((zms q d (k+1)).map Mx.a)=vs.zip ((zms q d k).map Mx.a) ++ [(s,List.replicate (yt*yf).toNat 0)]:=by
       rw[HZS.out,List.map_append,List.zip_append (by simp[HVL.out,hLen.out])];rfl
      rw[e];exact h1.mono (l_ _) (by simp;omega)
    case measure=>simp[intOf];omega
  ·obtain rfl:k=q.f.length:=by omega
   have hbs:=hbel.size;obtain⟨H1,h1,rfl,_,_⟩:=hO.form;have hI:=h_ (a5x HQ.out q.f.length (l_ _));have hL:=m8_ q d q.f.length;have hO':OutM wr W.heap.size wr.heap.size (.slice H1 q.f.length h1) vs (zms q d q.f.length):=by rw[OutM,hL];exact hO
   have hbW3:=(GW3.out).size;have hR:RepI wr W.heap.size wr.heap.size (.agg #[.int .i64 p,.int .i64 q.v,.slice A1 q.f.length a1,.slice C1 q.t.length b1,.slice E1 d.length e1,.slice H1 q.f.length h1]) (zRep p q d) :=
    ⟨_,_,_,_,vs,W3.heap.size,rfl,hIa,hIb,hId,hO',by rw[HVL.out];exact hL.symm,hF,⟨hbW3,hlt2⟩,⟨hp,hqv⟩,hI.out⟩
   have HR:=h_ hR;have k2':=(K2.out).below hbel (by have:=SZ.out;omega);obtain⟨r0,r1,r2,r3,r4,r5⟩:=c_6 hB;obtain⟨s0,s1,s2,s3,s4,s5⟩:=c_6 k2';have fr:=k2'.frozen;have GF:=h_ (G0.out.trans (hbel.mono (G0.out).size));have HBS:=h_ hbs;clear hR hO' hL hO hF hB k2' kq hIa hIb hId hbs hbW3;go_wp2;have sz:=SZ.out;have hbs:=HBS.out;have gf:=GF.out;refine bodyPost_ret (v:=.agg #[.int .i64 p,.int .i64 q.v,.slice A1 q.f.length a1,.slice C1 q.t.length b1,.slice E1 d.length e1,.slice H1 q.f.length h1]) (by simp[results,go_sem,s0,s1,s2,s3,s4,s5]) rfl ⟨_,rfl,RepI.wider (lo:=W.heap.size) (hi:=wr.heap.size) ?_ (by omega) (by simp),⟨_,_,_,_,_,_,_,rfl,SA.out,SB.out,SE.out⟩,(((((gf.setCell (by simp) _).setCell (by simp) _).setCell (by simp) _).setCell (by simp) _).setCell (by simp) _).setCell (by simp) _⟩;have hc:Chg (w0.heap.size+1) (w0.heap.size+1+1) wr _:=(((((a5_ (w:=wr) (p:=⟨w0.heap.size+1,0,none⟩) (u:=.int .i64 p) (by simp) (by simp)).trans (a5_ (p:=⟨w0.heap.size+1,1,none⟩) (u:=.int .i64 q.v) (by simp) (by simp))).trans (a5_ (p:=⟨w0.heap.size+1,2,none⟩) (u:=.slice A1 q.f.length a1) (by simp) (by simp))).trans (a5_ (p:=⟨w0.heap.size+1,3,none⟩) (u:=.slice C1 q.t.length b1) (by simp) (by simp))).trans (a5_ (p:=⟨w0.heap.size+1,4,none⟩) (u:=.slice E1 d.length e1) (by simp) (by simp))).trans (a5_ (p:=⟨w0.heap.size+1,5,none⟩) (u:=.slice H1 q.f.length h1) (by simp) (by simp));exact HR.out.chg hc (.inr (by omega))
theorem a8_.set3 {w:World} {lo hi g i:Nat} {v:Value} {l:List Int} {t:TypeId} {cs:Array Value} (h:a8_ w lo hi v l) (hb:Blk w g t cs) (ht:3≠t) (a b c:Value):a8_ (set3 w g i a b c) lo hi v l:=by
 have h1:Fam w lo hi [(v,l)]:=⟨fun p hp=>by simp at hp;rw[hp];exact h,by simp⟩;exact (h1.set3 (i:=i) hb ht a b c).1 (v,l) (by simp)
theorem RepI.setMx {w:World} {lo hi mi hi' g n c j:Nat} {p v r k:Int} {f t d u:Value} {x:Rp} {m:Mx} (h:RepI w lo hi (.agg #[.int .i64 p,.int .i64 v,f,t,d,.slice (some ⟨g,0,none⟩) n c]) x) (hj:j<x.m.length)
  (hu:MxO w mi hi' (.agg #[.int .i64 r,.int .i64 k,u]) m) (h1:hi≤mi) (h2:mi≤hi') :
  RepI (set3 w g (j*3) (.int .i64 r) (.int .i64 k) u) lo hi' (.agg #[.int .i64 p,.int .i64 v,f,t,d,.slice (some ⟨g,0,none⟩) n c]) ⟨x.p,x.q,x.d,x.m.set j m⟩∧lo≤g∧g<hi:=by
 obtain⟨f',t',d',m',vs,mi0,e,i1,i2,i3,hO,hvl,hF,hmi,hi1,hi2⟩:=h;simp only[Value.agg.injEq,Array.mk.injEq,List.cons.injEq,and_true]at e;obtain⟨rfl2,rfl3,rfl,rfl,rfl,rfl⟩:=e;obtain⟨s,e,hs,j1,j2⟩:=hu;simp only[Value.agg.injEq,Array.mk.injEq,List.cons.injEq,and_true,Value.int.injEq,true_and]at e;obtain⟨rfl,rfl,rfl⟩:=e;obtain⟨cs,hb,hg1,hg2⟩:=OutM.blk hO;refine⟨⟨f,t,d,_,vs.set j u,mi0,by rw[rfl2,rfl3],i1.set3 hb (by decide) _ _ _,i2.set3 hb (by decide) _ _ _,i3.set3 hb (by decide) _ _ _,(OutM.setMx hO hvl hj m u).mono (l_ _) (by omega),by simp[hvl],?_,⟨hmi.1,by omega⟩,hi1,fun y hy=>?_⟩,hg1,hg2⟩
 ·have hF':Fam w mi0 hi ([] ++ vs.zip (x.m.map Mx.a)):=by simpa using hF
  have hF2:=hF'.swap (j:=j) (by simpa using hj) (by simpa using hvl) hs h1 h2 (by omega);have hF3:=hF2.set3 (i:=j*3) hb (by decide) (.int .i64 m.r) (.int .i64 m.c) u;rw[List.map_set];simpa using hF3
 ·rcases List.mem_or_eq_of_mem_set hy with hy | rfl
  ·exact hi2 y hy
  ·exact⟨j1,j2⟩
theorem RepI.blk {w:World} {lo hi g n c:Nat} {p v:Int} {f t d:Value} {x:Rp} (h:RepI w lo hi (.agg #[.int .i64 p,.int .i64 v,f,t,d,.slice (some ⟨g,0,none⟩) n c]) x):∃ cs,Blk w g 65 cs∧lo≤g∧g<hi:=by
 obtain⟨f',t',d',m',vs,mi0,e,i1,i2,i3,hO,hvl,hF,hmi,hi1,hi2⟩:=h;simp only[Value.agg.injEq,Array.mk.injEq,List.cons.injEq,and_true]at e;obtain⟨rfl2,rfl3,rfl,rfl,rfl,rfl⟩:=e;exact OutM.blk hO
theorem RepI.mxAt {w:World} {lo hi j:Nat} {p v:Int} {f t d m:Value} {x:Rp} {y:Mx} (h:RepI w lo hi (.agg #[.int .i64 p,.int .i64 v,f,t,d,m]) x) (hj:x.m[j]?=some y) :
  ∃ g c s,m = .slice (some ⟨g,0,none⟩) x.m.length c∧lo≤g∧g<hi∧w.cell? ⟨g,j*3,none⟩=some (.int .i64 y.r)∧w.cell? ⟨g,j*3+1,none⟩=some (.int .i64 y.c)∧w.cell? ⟨g,j*3+2,none⟩=some s∧a8_ w lo hi s y.a∧(∀ i,w.frozen? ⟨g,i,none⟩=false):=by
 obtain⟨f',t',d',m',vs,mi0,e,i1,i2,i3,hO,hvl,hF,hmi,hi1,hi2⟩:=h;simp only[Value.agg.injEq,Array.mk.injEq,List.cons.injEq,and_true]at e;obtain⟨_,_,rfl,rfl,rfl,rfl⟩:=e;have hjl:=a6_ hj;have hv:vs[j]?=some (vs[j]'(by omega)):=l2_ (by omega);obtain⟨a,b,c⟩:=x6_ hv hj;have hR:RepO w lo hi (.agg #[.int .i64 x.p,.int .i64 x.q.v,.slice none 0 0,.slice none 0 0,.slice none 0 0,m]) ⟨x.p,⟨x.q.v,[],[]⟩,[],x.m⟩:=by
  refine⟨_,_,_,_,vs,rfl,hO,hvl,?_,hi1,hi2⟩;have hn:∀ b:Value×List Int,(Value.slice none 0 0).ownBlock=none∨(Value.slice none 0 0).ownBlock≠b.1.ownBlock:=fun b => .inl rfl
  refine⟨fun p hp=>?_,?_⟩
  ·simp only[List.cons_append,List.nil_append,List.mem_cons]at hp;rcases hp with rfl | rfl | rfl | hp
   ·exact⟨OwnI.nil _ _,by simp[Value.ownBlock]⟩
   ·exact⟨OwnI.nil _ _,by simp[Value.ownBlock]⟩
   ·exact⟨OwnI.nil _ _,by simp[Value.ownBlock]⟩
   ·exact (hF.1 p hp).wider hmi.1 (l_ _)
  ·simp only[List.cons_append,List.nil_append,List.pairwise_cons];exact⟨fun b _ => .inl rfl,fun b _ => .inl rfl,fun b _ => .inl rfl,hF.2⟩
 obtain⟨g,c',s,e,k1,k2,z0,z1,z2,hs,hf,_⟩:=hR.mxAt hj;exact⟨g,c',s,e,k1,k2,z0,z1,z2,hs,hf⟩
def endV (l:List Int) (q:Qv) (v:Int):Bool:=inR v 0 (q.v-1) && !decide (v∈l)
def c7_ (l:List Int) (k:Nat):List Int:=((List.range k).map fun i:Nat=>(i:Int)).filter fun u=>!decide (u∈l)
theorem K9_ {l:List Int} {k:Nat} (h:decide ((k:Int)∈l)=false):c7_ l (k+1)=c7_ l k ++ [(k:Int)]:=by
 simp only[c7_,List.range_succ,List.map_append,List.filter_append,List.map_cons,List.map_nil,List.filter_cons,h,Bool.not_false,if_true,List.filter_nil]
theorem S5_ {l:List Int} {k:Nat} (h:decide ((k:Int)∈l)=true):c7_ l (k+1)=c7_ l k:=by
 simp only[c7_,List.range_succ,List.map_append,List.filter_append,List.map_cons,List.map_nil,List.filter_cons,h,Bool.not_true,List.filter_nil,List.append_nil];simp
theorem G0_ (l:List Int) (k:Nat):(c7_ l k).length≤k:=by
 unfold c7_;refine Nat.le_trans (List.length_filter_le _ _) ?_;simp
def kvG (p:Int) (g:Nat→Nat→Int) (ps:List Int) (k:Nat):Nat→Nat→Int
 | 0,t=>if t=k then 1 else 0
 | i+1,t=>if (t:Int)=ps.getD i 0 then (- g i k) % p else kvG p g ps k i t
theorem c3Q {p:Int} (hp2:2≤p) (g:Nat→Nat→Int) (ps:List Int) (k:Nat):∀ i t,0≤kvG p g ps k i t∧kvG p g ps k i t≤p-1
 | 0,t=>by simp only[kvG];split <;> omega
 | i+1,t=>by
  simp only[kvG];split
  ·exact i6_ hp2
  ·exact c3Q hp2 g ps k i t
theorem g0z {p:Int} {g:Nat→Nat→Int} {ps:List Int} {k i b c:Nat} (hb:ps[i]?=some (b:Int)):(rowF c (kvG p g ps k i)).set b ((- g i k) % p)=rowF c (kvG p g ps k (i+1)):=by
 rw[o4_];apply d1_
 intro a _;simp only[kvG,l1_,hb,Option.getD_some,Int.natCast_inj]
theorem i4Z (p:Int) (g:Nat→Nat→Int) (ps:List Int) (k c:Nat):(List.replicate c (0:Int)).set k 1=rowF c (kvG p g ps k 0):=by
 have:List.replicate c (0:Int)=rowF c fun _=>0:=by
  symm
  rw[List.eq_replicate_iff];refine⟨a2_ _ _,fun x hx=>?_⟩;simp only[rowF,List.mem_map]at hx;obtain⟨_,_,rfl⟩:=hx;rfl
 rw[this,o4_];rfl
theorem d9j {p x:Int} (hp:2≤p) (h:0≤x∧x≤p-1):(p-x).tmod p=(- x) % p:=by
 rw[Int.tmod_eq_emod_of_nonneg (by omega),show p-x = -x+p*1 by omega,Int.add_mul_emod_self_left]
def kerM (p:Int) (c:Nat) (g:Nat→Nat→Int) (ps L:List Int):List (List Int):=L.map fun k=>rowF c (kvG p g ps k.toNat ps.length)
theorem c3x (p:Int) (c:Nat) (g:Nat→Nat→Int) (ps L:List Int) (k:Nat):kerM p c g ps (L ++ [(k:Int)])=kerM p c g ps L ++ [rowF c (kvG p g ps k ps.length)]:=by simp[kerM]
theorem u2_ (p:Int) (c:Nat) (g:Nat→Nat→Int) (ps L:List Int):(kerM p c g ps L).length=L.length:=by simp[kerM]
def kerR (p:Int) (r c:Nat) (f:Nat→Nat→Int):List (List Int):=kerM p c (rdTo p r f c).1 (rdTo p r f c).2 (c7_ (rdTo p r f c).2 c)
theorem S4_ {l:List Int} {k j:Nat} {x:Int} (h:(c7_ l k)[j]?=some x):∃ n:Nat,x=(n:Int)∧n<k∧x ∉ l:=by
 have:=l4_ h;simp only[c7_,List.mem_filter,List.mem_map,List.mem_range,Bool.not_eq_true',decide_eq_false_iff_not]at this;obtain⟨⟨n,hn,rfl⟩,h2⟩:=this;exact⟨n,rfl,hn,h2⟩
def dmN (d:List Int) (v:Nat):Nat:=(d.getD v 0).toNat
theorem a7J {d:List Int} {v n:Nat} (h:d[v]?=some (n:Int)):dmN d v=n:=by simp[dmN,l1_,h]
def hOff (x y:List Int):Nat→Nat
 | 0=>0
 | v+1=>hOff x y v+dmN y v*dmN x v
theorem c0Z (x y:List Int) {a b:Nat} (h:a≤b):hOff x y a≤hOff x y b:=by
 induction b with
 | zero =>
  obtain rfl:a=0:=by omega
  exact l_ _
 | succ b ih =>
  by_cases e:a=b+1
  ·subst e;exact l_ _
  ·simp only[hOff];have:=ih (by omega);omega
def srN (q:Qv) (k:Nat):Nat:=(q.f.getD k 0).toNat
def tgN (q:Qv) (k:Nat):Nat:=(q.t.getD k 0).toNat
theorem f4j {q:Qv} {k n:Nat} (h:q.f[k]?=some (n:Int)):srN q k=n:=by simp[srN,l1_,h]
theorem f4J {q:Qv} {k n:Nat} (h:q.t[k]?=some (n:Int)):tgN q k=n:=by simp[tgN,l1_,h]
def arF (x:Rp) (k:Nat):Nat→Nat→Int:=B5_ (x.m.getD k mx0).a (dmN x.d (srN x.q k))
def hInd (a b:Nat):Int:=if a=b then 1 else 0
theorem d3Q (a b:Nat):0≤hInd a b∧hInd a b≤1:=by unfold hInd;split <;> omega
def eqS (x y:Rp) (k r c j n:Nat):Int:=sgF (fun s=>arF y k r s*hInd (hOff x.d y.d (srN x.q k)+s*dmN x.d (srN x.q k)+c) j) n
def eqT (x y:Rp) (k r c j n:Nat):Int:=sgF (fun s=>arF x k s c*hInd (hOff x.d y.d (tgN x.q k)+r*dmN x.d (tgN x.q k)+s) j) n
def eqE (x y:Rp) (k r c j:Nat):Int:=(eqS x y k r c j (dmN y.d (srN x.q k))-eqT x y k r c j (dmN x.d (tgN x.q k))) % x.p
def eqRw (x y:Rp) (n k:Nat):List (List Int):=g9_ (dmN y.d (tgN x.q k)*dmN x.d (srN x.q k)) n (fun i=>eqE x y k (i / dmN x.d (srN x.q k)) (i % dmN x.d (srN x.q k)))
def eqL (x y:Rp) (n:Nat):Nat→List (List Int)
 | 0=>[]
 | k+1=>eqL x y n k ++ eqRw x y n k
theorem b9z {x y:Rp} {n K:Nat} {l:List Int} (h:l∈eqL x y n K):l.length=n∧∃ k r c,l=rowF n (eqE x y k r c):=by
 induction K with
 | zero=>simp[eqL]at h
 | succ K ih =>
  simp only[eqL,List.mem_append]at h;rcases h with h | h
  ·exact ih h
  ·simp only[eqRw,g9_,List.mem_map,List.mem_range]at h;obtain⟨i,_,rfl⟩:=h;exact⟨a2_ _ _,_,_,_,rfl⟩
def hmN (x y:Rp):Nat:=hOff x.d y.d x.d.length
def eqR (x y:Rp):Nat:=(eqL x y (hmN x y) x.q.f.length).length
def lsF (L:List (List Int)) (i j:Nat):Int:=(L.getD i []).getD j 0
def eqG (x y:Rp):Nat→Nat→Int:=lsF (eqL x y (hmN x y) x.q.f.length)
theorem g0Z (L:List (List Int)) (a:Nat):rowF L.length (fun i=>lsF L i a)=L.map fun l=>l.getD a 0:=by
 refine List.ext_getElem? fun i=>?_
 by_cases hi:i<L.length
 ·rw[c0_ _ hi,List.getElem?_map,l2_ hi];simp[lsF,l1_,hi]
 ·rw[l6_ (by rw[a2_];omega),l6_ (by rw[List.length_map];omega)]
def cbF (x y:Rp) (F:Nat→Nat→Nat→Int) (k:Nat):Nat→Nat→Int :=
 plF x.p (x.p-1) (muP x.p (dmN y.d (srN x.q k)) (arF y k) (F (srN x.q k))) (muP x.p (dmN x.d (tgN x.q k)) (F (tgN x.q k)) (arF x k))
def cbL (x y:Rp) (F:Nat→Nat→Nat→Int) (K:Nat):List Mx:=(List.range K).map fun k=>mxF (dmN y.d (tgN x.q k)) (dmN x.d (srN x.q k)) (cbF x y F k)
def flM (ms:List Mx):List Int:=(ms.map Mx.a).flatten
theorem b9X (a b:List Mx):flM (a ++ b)=flM a ++ flM b:=by simp[flM]
theorem c0j (m:Mx):flM [m]=m.a:=by simp[flM]
theorem x1_ (ms:List Mx):(flM ms).length=totA ms:=by simp[flM,totA,tot,List.length_flatten]
theorem x9_ (a b:List Mx):totA (a ++ b)=totA a+totA b:=by simp[totA,tot]
theorem J8_ (m:Mx):totA [m]=m.a.length:=by simp[totA,tot]
theorem a6Q (x y:Rp) (F:Nat→Nat→Nat→Int) (K:Nat):cbL x y F (K+1)=cbL x y F K ++ [mxF (dmN y.d (tgN x.q K)) (dmN x.d (srN x.q K)) (cbF x y F K)]:=by simp[cbL,List.range_succ]
theorem D6_ (x y:Rp) (F:Nat→Nat→Nat→Int) (K:Nat):(cbL x y F K).length=K:=by simp[cbL]
def uF (x y:Rp) (j v s t:Nat):Int:=hInd (hOff x.d y.d v+s*dmN x.d v+t) j
theorem d8X {p:Int} (a b:Int):(a % p+(p-1)*(b % p)) % p=(a-b) % p:=by
 have e1:=Int.emod_def a p;have e2:=Int.emod_def b p;rw[show a % p+(p-1)*(b % p)=(a-b)+p*(-(a / p)+b % p+b / p) by rw[e1,e2];grind,Int.add_mul_emod_self_left]
theorem a0z {h g:Nat→Int}:∀ {n:Nat},(∀ i,i<n→h i=g i)→sgF h n=sgF g n
 | 0,_=>rfl
 | n+1,e=>by simp only[sgF];rw[a0z fun i hi=>e i (by omega),e n (by omega)]
theorem f6j (x y:Rp) (j k r c:Nat):cbF x y (uF x y j) k r c=eqE x y k r c j:=by
 simp only[cbF,plF,muP,eqE];rw[d8X];congr 2
 exact a0z fun i _=>Int.mul_comm _ _
theorem f0X (x y:Rp) (n a:Nat) (ha:a<n):∀ K,(eqL x y n K).map (fun l=>l.getD a 0)=flM (cbL x y (uF x y a) K)
 | 0=>rfl
 | K+1=>by
  rw[eqL,List.map_append,f0X x y n a ha K,a6Q,b9X,c0j];congr 1
  simp only[eqRw,g9_,mxF,flat,List.map_map];refine List.map_congr_left fun i _=>?_
  rw[Function.comp,i9_ _ ha,f6j]
theorem f7j (x y:Rp) (a:Nat) (ha:a<hmN x y):rowF (eqR x y) (fun i=>eqG x y i a)=flM (cbL x y (uF x y a) x.q.f.length):=by
 rw[eqR,eqG,g0Z,f0X x y _ a ha]
theorem S0_ {x:Rp} (y:Rp) (hp:2≤x.p):InF x.p (eqR x y) (hmN x y) (eqG x y):=by
 intro a b ha hb;have h1:(eqL x y (hmN x y) x.q.f.length)[a]?=some (eqL x y (hmN x y) x.q.f.length)[a]:=l2_ ha;obtain⟨_,k,r,c,e⟩:=b9z (l4_ h1);rw[e]at h1;have h2:(eqL x y (hmN x y) x.q.f.length).getD a []=rowF (hmN x y) (eqE x y k r c):=by rw[l1_,h1];rfl
 have:eqG x y a b=eqE x y k r c b:=by rw[eqG,lsF,h2,i9_ _ hb]
 rw[this,eqE];exact i6_ hp
def shL:List Mx→List Int→List Mx
 | [],_=>[]
 | m :: ms,cs=>⟨m.r,m.c,cs.take m.a.length⟩ :: shL ms (cs.drop m.a.length)
theorem U9_:∀ (ms:List Mx) (m:Mx) (cs:List Int),shL (ms ++ [m]) cs=shL ms cs ++ [⟨m.r,m.c,(cs.drop (totA ms)).take m.a.length⟩]
 | [],m,cs=>by simp[shL,totA,tot]
 | a :: ms,m,cs=>by
  simp only[List.cons_append,shL,U9_ ms m,List.drop_drop];have:totA (a :: ms)=a.a.length+totA ms:=by simp[totA,tot]
  rw[this]
theorem Q8_:∀ (ms:List Mx) (cs:List Int),(shL ms cs).length=ms.length
 | [],_=>rfl
 | m :: ms,cs=>by simp[shL,Q8_ ms]
def zrL (x y:List Int) (V:Nat):List Mx:=(List.range V).map fun v=>mxF (dmN y v) (dmN x v) fun _ _=>0
theorem V7_ (x y:List Int) (V:Nat):zrL x y (V+1)=zrL x y V ++ [mxF (dmN y V) (dmN x V) fun _ _=>0]:=by simp[zrL,List.range_succ]
theorem o2_ (x y:List Int) (V:Nat):(zrL x y V).length=V:=by simp[zrL]
theorem F7_ (x y:List Int):∀ V,totA (zrL x y V)=hOff x y V
 | 0=>rfl
 | V+1=>by rw[V7_,x9_,F7_ x y V,J8_,mxF,a1_,hOff]
def shF (x y:List Int) (e:Nat→Int) (V:Nat):List Mx:=(List.range V).map fun v=>mxF (dmN y v) (dmN x v) fun s t=>e (hOff x y v+s*dmN x v+t)
theorem d8J (x y:List Int) (e:Nat→Int) (V:Nat):shF x y e (V+1)=shF x y e V ++ [mxF (dmN y V) (dmN x V) fun s t=>e (hOff x y V+s*dmN x V+t)]:=by simp[shF,List.range_succ]
theorem c7q (n o k:Nat) (e:Nat→Int) (h:o+k≤n):((rowF n e).drop o).take k=rowF k fun i=>e (o+i):=by
 refine List.ext_getElem? fun i=>?_
 by_cases hi:i<k
 ·rw[List.getElem?_take_of_lt hi,List.getElem?_drop,c0_ _ (by omega),c0_ _ hi]
 ·rw[l6_ (by rw[List.length_take];omega),l6_ (by rw[a2_];omega)]
theorem c8Z (x y:List Int) (n:Nat) (e:Nat→Int):∀ V,hOff x y V≤n→shL (zrL x y V) (rowF n e)=shF x y e V
 | 0,_=>rfl
 | V+1,h=>by
  simp only[hOff]at h;rw[V7_,U9_,c8Z x y n e V (by omega),F7_,d8J];congr 2
  simp only[mxF,a1_];rw[c7q _ _ _ _ h];congr 1
  rw[flat,rowF];refine List.map_congr_left fun i _=>?_
  by_cases hc:dmN x V=0
  ·rename_i hi
   rw[List.mem_range,hc,Nat.mul_zero]at hi;omega
  ·congr 1
   rw[Nat.add_assoc,Nat.mul_comm (i / dmN x V),Nat.div_add_mod]
def d9x (j:Nat) (i:Nat):Int:=hInd i j
theorem d9J (n j:Nat):(List.replicate n (0:Int)).set j 1=rowF n (d9x j):=by
 have:List.replicate n (0:Int)=rowF n fun _=>0:=by rw[rowF,List.map_const',List.length_range]
 rw[this,o4_];exact d1_ fun a _=>by simp[d9x,hInd]
theorem d8_.wider {w:World} {lo hi lo' hi':Nat} {v:Value} {ms:List Mx} (h:d8_ w lo hi v ms) (h1:lo'≤lo) (h2:hi≤hi'):d8_ w lo' hi' v ms:=by
 obtain⟨vs,a,b,c,d⟩:=h;exact⟨vs,a.mono h1 h2,b,c.mono h1 h2,d⟩
theorem d8_.nil (w:World) (lo hi:Nat):d8_ w lo hi (.slice none 0 0) []:=⟨[],RowO.nil _ _ _ _,rfl,⟨fun p hp=>by simp at hp,by simp⟩,by simp⟩
theorem d8_.form2 {w:World} {lo hi:Nat} {v:Value} {ms:List Mx} (h:d8_ w lo hi v ms):∃ A c,v = .slice A ms.length c∧ms.length≤c∧c≤9223372036854775807:=by
 obtain⟨vs,a,b,c,d⟩:=h;exact RowO.form a
theorem o5_ {w:World} {ops:Array Oper} {rest:List Oper} {o:Oper} {a:Act} {Q:Exit→Act→World→Prop} (hgd:o.guard=none) (s x:Operand)
  (ho:o.op = .call { callee:=.builtin .append,args:=#[s,x],argTypes:=#[27,27] })
  (lo hi:Nat) (v:Value) (ms:List Mx) (hs:a.eval s=v) (hown:d8_ w lo hi v ms) (g c l1 h1:Nat) (m:Mx) (u:Value) (hx:a.eval x = .slice (some ⟨g,0,none⟩) 1 c) (hg:Blk w g 65 #[.int .i64 m.r,.int .i64 m.c,u]) (hu:a8_ w l1 h1 u m.a) (hI:I64 m.r∧I64 m.c)
  (hd:hi≤l1) (hl:lo≤hi) (hh:h1≤w.heap.size) (hw:hi≤w.heap.size) (hn:ms.length≤1000000)
  (h:∀ v' w',d8_ w' lo w'.heap.size v' (ms ++ [m])→AppT 65 lo w w'→wpList Tryz.prog ops Q rest (a.put o.dst v') w'):wpList Tryz.prog ops Q (o :: rest) a w:=by
 obtain⟨vs,hO,hvl,hF,hI2⟩:=hown;refine o0_ hgd s x ho lo hi v vs ms hs hO hvl g c m u hx hg hu.cell hn (by omega) fun v' w' k1 k2=>h v' w' ⟨vs ++ [u],k1,by simp[hvl],?_,?_⟩ k2
 ·have hF3:Fam w lo w.heap.size (vs.zip (ms.map Mx.a) ++ [(u,m.a)]):=hF.snoc (hu.wider hd hh) hl hw;have hF4:=(hF3.appT (by decide) k2).mono (l_ lo) k2.size;rw[List.map_append,List.zip_append (by rw[List.length_map,hvl])];exact hF4
 ·intro y hy;rcases List.mem_append.1 hy with hy | hy
  ·exact hI2 y hy
  ·rw[List.mem_singleton]at hy;subst hy;exact hI
theorem d8_.at_ {w:World} {lo hi k:Nat} {v:Value} {ms:List Mx} (h:d8_ w lo hi v ms) (hk:k<ms.length):∃ b o m A' c' A c,v = .slice A ms.length c∧A=some ⟨b,o,none⟩∧b<w.heap.size∧Hid (ms[k]?=some m)∧w.cell? ⟨b,o+k*3,none⟩=some (.int .i64 m.r)∧w.cell? ⟨b,o+k*3+1,none⟩=some (.int .i64 m.c)∧w.cell? ⟨b,o+k*3+2,none⟩=some (.slice A' m.a.length c')∧SlI w w.heap.size (.slice A' m.a.length c') m.a:=by
 obtain⟨A,c,rfl,_,_⟩:=h.form2;obtain⟨b,o,m,A',c',h1,h2,h3,h4,h5,h6,h7,_⟩:=SlM.at_ h.rd hk;exact⟨b,o,m,A',c',A,c,rfl,h1,h2,h3,h4,h5,h6,h7⟩
end Go.Proofs.YtbgccbmdiolhbaaGreat

