/- FnFunctors: the law holds for every argument. Part 6 of 14 of the proof: Cln, Copy, Copy2, Zero, Flat, Ident, SSO, Zero2, Zero3, Zero4, ZigI, PenOf, DsM, RpJ, PenOf2, Shift, Prep, RowAt, PenSz, Reg, Reg2, Reg3, RowZ, ColZ, FromC. No condition. -/
import Derived.Test.YtnohdlkailpnoaaGreatBFunctors5
import Derived.Shelf.Slices.Clone
import Derived.ArgAppend
import Derived.LoopN
set_option linter.unusedVariables false
set_option linter.unusedSimpArgs false
set_option maxHeartbeats 12800000
set_option maxRecDepth 100000
namespace Go.Proofs
open Go.Shelf
def Tryz.laysClone_ren:Go.Shelf.Ren:=⟨fun | 15=>82 | n=>n,fun | 22=>24 | 3=>3 | 4=>4 | n=>n,fun | n=>n⟩
theorem Tryz.laysClone:Go.Proofs.Lays2.n15 Tryz.prog Tryz.laysClone_ren:={
 mixed:=by kernel_rfl
 f15:=Tryz.func82.trans (congrArg some (by kernel_rfl))
 t3:=Tryz.underlying3
 a3:=Tryz.isAgg3
 z3:=Tryz.sizeOf3
 v3:=Tryz.zeroValue3
 t4:=Tryz.underlying4
 a4:=Tryz.isAgg4
 z4:=Tryz.sizeOf4
 v4:=Tryz.zeroValue4
 t22:=Tryz.underlying24
 a22:=Tryz.isAgg24
 z22:=Tryz.sizeOf24
 v22:=Tryz.zeroValue24
 i3:=by kernel_rfl }
end Go.Proofs
namespace Go.Proofs.YtnohdlkailpnoaaGreat
open Go.RowKit
theorem o9_ (u:Value) (xs:List Int) (w:World) (hu:SlI w w.heap.size u xs) :
  Calls Tryz.prog 82 #[u] w fun e w'=>∃ v,e = .returned v∧a9_ w' w.heap.size w'.heap.size v xs∧Below w.heap.size w w':=by
 have hr:=SlI.i64 hu;have hrd:=hu;obtain⟨A,c,rfl,_,_,hn,hx⟩:=hu;rcases A with _ | a
 ·have h0:xs=[]:=by
   apply m1_
   rcases Nat.eq_zero_or_pos xs.length with h | h
   ·exact h
   ·obtain⟨b,o,e,_⟩:=hx h;cases e
  subst h0;exact (Any.slices_Clone_int_nil Tryz.laysClone 0 c w).mono fun e w' ⟨h1,h2⟩=>⟨_,h1,⟨OwnI.nil _ _,by simp[Value.ownBlock]⟩,by rw[h2];exact Below.refl _ _⟩
 rcases Nat.eq_zero_or_pos xs.length with h0 | hp
 ·have h0:xs=[]:=m1_ h0;subst h0;exact (Any.slices_Clone_int_zero Tryz.laysClone a c w).mono fun e w' ⟨v,h1,h2,_,hb⟩=>⟨v,h1,a9_.of_own ⟨h2,by simp,by simp⟩,hb⟩
 ·obtain⟨b,o,e,hb,hc⟩:=hx hp;injection e with e
  subst e;refine (Any.slices_Clone_int Tryz.laysClone b o xs.length c xs w (l_ _) (by omega) (fun j hj=>?_)).mono ?_
  ·have h:=(hc j (xs.getD j 0) (by rw[l1_,l2_ hj];rfl)).1;simpa using h
  ·rintro e w' ⟨v',rfl,ho,hnn,hb⟩;rw[l7_ (l_ _)]at ho;exact⟨v',rfl,a9_.of_own ⟨ho,hn,hr⟩,hb⟩
theorem c5_ {w:World} {ops:Array Oper} {rest:List Oper} {o:Oper} {a:Act} {Q:Exit→Act→World→Prop} (hgd:o.guard=none) (s x:Operand)
  (ho:o.op = .call { callee:=.builtin .append,args:=#[s,x],argTypes:=#[24,24] })
  (g lo B:Nat) (cs:Array Value) (hs:a.eval s = .slice (some ⟨g,0,none⟩) 0 0) (hg:Blk w g 3 cs) (hcs:cs.size=0) (hlo:lo≤g) (A:Option Addr) (c:Nat) (news:List Int) (hx:a.eval x = .slice A news.length c) (hr:SlI w B (.slice A news.length c) news)
  (h:∀ v' w',OwnI w' lo v' news→Below w.heap.size w w'→wpList Tryz.prog ops Q rest (a.put o.dst v') w'):wpList Tryz.prog ops Q (o :: rest) a w:=by
 obtain⟨i0,hi,hz0,hz1,hz2⟩:=info_parts v5_;have hn:=hr;obtain⟨_,_,_,_,_,hn,hcell⟩:=hn;have hI:=SlI.i64 hr;refine wpList_plain hgd fun K hK=>?_
 by_cases hp:0<news.length
 ·obtain⟨b,of,eA,hb,hc⟩:=hcell hp;have hA:=z8_.of_sl hr;obtain⟨hl,hnews⟩:=hA;obtain⟨b',of',eA',hc'⟩:=hnews.resolve_left (by omega);subst eA';have hadd:∀ j,(⟨b',of',none⟩:Addr).add j=⟨b',of'+j,none⟩:=by intro j;unfold Addr.add;split <;> simp_all
  obtain⟨v',w',hrun,hown,hgr⟩:=run_append_arg_grows (P:=Tryz.prog) w 24 o.type 3 i0 _ 1 8 Tryz.underlying24 hi hz0 hz1 hz2 rfl (by decide) ⟨g,0,none⟩ 0 0 [] (by simp) (by intro j u hj;simp at hj) ⟨b',of',none⟩ news.length c (news.map (Value.int .i64)) hl (fun j u hj=>by rw[hadd];exact hc' j u hj) (by omega) (by simp only[maxLen];omega) (by omega);unfold Oper.wp execOp;simp only[ho,resolve,invoke,builtin,Sem.run_bind,Sem.run_pure,Result.andThen_ok,List.map_toArray,List.map_cons,List.map_nil,hs,hx,hrun];refine hK _ _ (h v' w' ?_ ⟨hgr.os,hgr.tape,hgr.output,hgr.size,fun k hk=>hgr.block k hk (by simp)⟩);have hgl:=hg.lt;exact OwnI.lower (base:=w.heap.size) ⟨by simpa using hown,hn,hI⟩ (by omega)
 ·have h0:news=[]:=m1_ (by omega);subst h0;have hrun:(Builtin.append_ #[24,24] o.type #[.slice (some ⟨g,0,none⟩) 0 0,.slice A 0 c]).run Tryz.prog w = .ok (.slice (some ⟨g,0,none⟩) 0 0) w:=by
   cases A <;> simp[Builtin.append_,run_underlying (P:=Tryz.prog) Tryz.underlying24,sizeOf,typeInfo,hi,Builtin.lenOf,Builtin.firstCells,storeCells,loadCells,loadCellsFrom]
  simp only[List.length_nil]at hx;unfold Oper.wp execOp;simp only[ho,resolve,invoke,builtin,Sem.run_bind,Sem.run_pure,Result.andThen_ok,List.map_toArray,List.map_cons,List.map_nil,hs,hx,hrun];refine hK _ _ (h _ w ?_ br_);have:=hg.own (base:=lo) (n:=0) (cap:=0) (size:=1) hlo (l_ _) (by simp only[maxLen];omega) (by omega);exact⟨by simpa using this,by simp,by simp⟩
def n0_ (w:World) (lo:Nat) (u:Value):Prop:=∃ g,u = .slice (some ⟨g,0,none⟩) 0 0∧lo≤g∧Blk w g 3 #[]
theorem n0_.below {w w':World} {lo:Nat} {u:Value} (h:n0_ w lo u) (hb:Below w.heap.size w w'):n0_ w' lo u:=by
 obtain⟨g,e,h1,h2⟩:=h;exact⟨g,e,h1,h2.call hb⟩
theorem n0_.new (w:World) {lo:Nat} (h:lo≤w.heap.size):n0_ (w.alloc (.cells #[] 3)) lo (.slice (some ⟨w.heap.size,0,none⟩) 0 0):=⟨_,rfl,h,Blk.new _ _ _⟩
theorem D3_ (u:Value) (m:Mx) (w0:World) (hu:MxR w0 w0.heap.size u m) :
  Calls Tryz.prog 36 #[u] w0 fun e w'=>∃ v,e = .returned v∧MxO w' w0.heap.size w'.heap.size v m∧Below w0.heap.size w0 w':=by
 obtain⟨A,c,rfl,hf,hr,hc,lf⟩:=hu.open_;clear hu;obtain⟨W,hW,g0,k1,k2⟩:=b_4 w0 #[.int .i64 m.r,.int .i64 m.c,.slice A m.a.length c] 41 #[.int .i64 0,.int .i64 0,.slice none 0 0] 41;have sz:W.heap.size=w0.heap.size+1+1:=by rw[hW];simp
 have SZ:=h_ sz;clear sz;replace hf:=SlI.next g0 hf;go_enter Tryz.func36,Tryz.ntmps36
 go_wp2;rw[←hW];clear hW;refine a8_ (by kernel_rfl) [.eq (.pointer (some ⟨w0.heap.size,0,none⟩)),.eq (.int .i64 m.r),.eq (.pointer (some ⟨w0.heap.size,1,none⟩)),.eq (.int .i64 m.c),rel 4 (fun u lo hi w=>n0_ w W.heap.size u),.eq (.pointer (some ⟨w0.heap.size,2,none⟩)),.eq (.slice A m.a.length c),rel 7 (fun u lo hi w=>OwnI w W.heap.size u m.a),rel 8 (fun u lo hi w=>∃ s,u = .agg #[.int .i64 m.r,.int .i64 m.c,s]∧OwnI w W.heap.size s m.a)] [[],[0],[],[2],[],[],[5],[4,5,6],[0,1,2,3,4,5,6,7],[0,1,2,3,4,5,6,7,8]] 9 (by kernel_rfl) ⟨trivial,trivial,trivial,trivial,a4_ (fun u lo hi w w' h hb=>h.below hb),trivial,trivial,a4_ (fun u lo hi w w' h hb=>h.below hb),a4_ (fun u lo hi w w' ⟨s,e,h⟩ hb=>⟨s,e,h.below hb⟩),trivial⟩ ⟨?_,?_,?_,?_,?_,?_,?_,?_,?_,trivial⟩ ?_;iterate 9 (intro x w hb hk Q' hQ;have he:=k_e hk;simp only[k_s]at he;simp only[netE]at hQ⊢;(try simp only[he]at hQ⊢);(try clear he);rotate_left)
 rotate_left
 ·clear hk;go_wp2;exact hQ _ _ br_ rfl
 ·clear hk;have c0:=(k1.call hb).cell' (i:=0) rfl;go_wp2;exact hQ _ _ br_ rfl
 ·clear hk;go_wp2;exact hQ _ _ br_ rfl
 ·clear hk;have c1:=(k1.call hb).cell' (i:=1) rfl;go_wp2;exact hQ _ _ br_ rfl
 ·clear hk;go_wp2;exact hQ _ _ (a2_ _ _) (n0_.new _ hb.size)
 ·clear hk;go_wp2;exact hQ _ _ br_ rfl
 ·clear hk;have c2:=(k1.call hb).cell' (i:=2) rfl;go_wp2;exact hQ _ _ br_ rfl
 ·have h4:n0_ w W.heap.size (x.v 4):=(hk 4 (by decide)).1;have s4:=(hk 4 (by decide)).2;clear hk;obtain⟨g,e4,hg,hB⟩:=h4;rw[e4]at hQ⊢;refine c5_ (by rfl) (.tmp 7) (.tmp 9) (by rfl) g W.heap.size w.heap.size #[] (by rfl) hB rfl hg A c m.a (by rfl) (SlI.next hb hf) ?_;intro v' w' ho hb';exact hQ _ _ hb' ho
 ·have h4:n0_ w W.heap.size (x.v 4):=(hk 4 (by decide)).1;have h7:OwnI w W.heap.size (x.v 7) m.a:=(hk 7 (by decide)).1;have s4:=(hk 4 (by decide)).2;have s7:=(hk 7 (by decide)).2;clear hk;obtain⟨A',c',e7,_,_⟩:=h7.form;rw[e7]at h7;rw[e7]at hQ⊢;go_wp2;exact hQ (.agg #[.int .i64 m.r,.int .i64 m.c,.slice A' m.a.length c']) w br_ ⟨_,rfl,h7⟩
 ·intro x w hb hk hiv hdj;have h4:n0_ w W.heap.size (x.v 4):=hk 4 (by decide);have h7:OwnI w W.heap.size (x.v 7) m.a:=hk 7 (by decide);have h8:∃ s,(x.v 8) = .agg #[.int .i64 m.r,.int .i64 m.c,s]∧OwnI w W.heap.size s m.a:=hk 8 (by decide);have he:=k_g hk [0,1,2,3,5,6];simp only[k_s]at he;simp only[netE,he];clear he hk;obtain⟨s,e8,ho⟩:=h8;obtain⟨A',c',es,_,_⟩:=ho.form;subst es;rw[e8];have k2':=k2.call hb;have f2:=k2'.frozen;obtain⟨r0,r1,r2⟩:=c_3 k2';have hbs:=hb.size;have sz:=SZ.out;have gf:=g0.trans (hb.mono g0.size);clear h4 h7 k1 k2 sz;go_wp2;have sz:=SZ.out;refine bodyPost_ret (v:=.agg #[.int .i64 m.r,.int .i64 m.c,.slice A' m.a.length c']) (by simp[results,go_sem,r0,r1,r2]) rfl ⟨_,rfl,⟨_,rfl,?_,hr,hc⟩,((gf.setCell (by simp) _).setCell (by simp) _).setCell (by simp) _⟩;exact ((((a9_.of_own ho).set (by simp;omega) _).set (by simp;omega) _).set (by simp;omega) _).wider (by omega) (by simp)
theorem a9_.form {w:World} {lo hi:Nat} {v:Value} {l:List Int} (h:a9_ w lo hi v l):∃ A c,v = .slice A l.length c:=by
 obtain⟨A,c,e,_⟩:=h.1.form;exact⟨A,c,e⟩
theorem d5_.setLow {w:World} {lo hi:Nat} {v:Value} {q:Qv} (h:d5_ w lo hi v q) {p:Addr} (hp:p.block<lo) (u:Value):d5_ (w.setCell p u) lo hi v q :=
 h.chg (b4_ (lo:=p.block) (hi:=p.block+1) (l_ _) (by omega)) (.inr (by omega))
theorem d5_.wider {w:World} {lo hi lo' hi':Nat} {v:Value} {q:Qv} (h:d5_ w lo hi v q) (h1:lo'≤lo) (h2:hi≤hi'):d5_ w lo' hi' v q:=by
 obtain⟨a,b,e,hF,hr⟩:=h;exact⟨a,b,e,hF.mono h1 h2,hr⟩
theorem B4_ (u:Value) (m:Mx) (w0:World) (hu:MxR w0 w0.heap.size u m) :
  Calls Tryz.prog 113 #[u] w0 fun e w'=>∃ v,e = .returned v∧MxO w' w0.heap.size w'.heap.size v m∧Below w0.heap.size w0 w':=by
 obtain⟨A,c,rfl,hf,hr,hc,lf⟩:=hu.open_;clear hu;obtain⟨W,hW,g0,k1,k2⟩:=b_4 w0 #[.int .i64 m.r,.int .i64 m.c,.slice A m.a.length c] 41 #[.int .i64 0,.int .i64 0,.slice none 0 0] 41;have sz:W.heap.size=w0.heap.size+1+1:=by rw[hW];simp
 have SZ:=h_ sz;clear sz;replace hf:=SlI.next g0 hf;go_enter Tryz.func113,Tryz.ntmps113
 go_wp2_with fail
 rw[←hW];clear hW;refine (o9_ _ m.a _ hf).mono ?_;rintro e w1 ⟨v,rfl,ho,hb1⟩;obtain⟨A',c',rfl⟩:=ho.form;have k1':=k1.call hb1;have k2':=k2.call hb1;have f1:=k1'.frozen;have f2:=k2'.frozen;obtain⟨q0,q1,q2⟩:=c_3 k1';obtain⟨r0,r1,r2⟩:=c_3 k2';have gf:=g0.trans (hb1.mono g0.size);have hbs:=hb1.size;have HBS:=h_ hbs;clear k1 k2 hbs hb1 hf;go_wp2;have sz:=SZ.out;have hbs:=HBS.out;refine bodyPost_ret (v:=.agg #[.int .i64 m.r,.int .i64 m.c,.slice A' m.a.length c']) (by simp[results,go_sem,r0,r1,r2]) rfl ⟨_,rfl,⟨_,rfl,?_,hr,hc⟩,(((gf.setCell (by simp) _).setCell (by simp) _).setCell (by simp) _).setCell (by simp) _⟩;exact ((((ho.set (by simp;omega) _).set (by simp;omega) _).set (by simp;omega) _).set (by simp;omega) _).wider (by omega) (by simp)
theorem a9x {w:World} {lo hi l1 h1 l2 h2:Nat} {a b:Value} {l m:List Int} (ha:a9_ w l1 h1 a l) (hb:a9_ w l2 h2 b m) (hd:h1≤l2∨h2≤l1) (k1:lo≤l1) (k2:lo≤l2) (k3:h1≤hi) (k4:h2≤hi):Fam w lo hi [(a,l),(b,m)]:=by
 refine⟨fun p hp=>?_,?_⟩
 ·simp only[List.mem_cons,List.not_mem_nil,or_false]at hp;rcases hp with rfl | rfl
  ·exact ha.wider k1 k3
  ·exact hb.wider k2 k4
 ·simp only[List.pairwise_cons,List.mem_cons,List.not_mem_nil,or_false,forall_eq,false_implies,implies_true,List.Pairwise.nil,and_true];rcases hA:a.ownBlock with _ | x
  ·exact .inl rfl
  ·right
   intro e;have h3:=ha.2 x hA;have h4:=(ha.1.lt x hA).1;have h5:=hb.2 x e.symm;have h6:=(hb.1.lt x e.symm).1;omega
theorem B3_ (u:Value) (q:Qv) (w0:World) (hu:QvR w0 w0.heap.size u q) :
  Calls Tryz.prog 116 #[u] w0 fun e w'=>∃ v,e = .returned v∧d5_ w' w0.heap.size w'.heap.size v q∧Below w0.heap.size w0 w':=by
 obtain⟨A,c,C,d,rfl,hf,ht,hr,lf,lt⟩:=hu.open_;clear hu;obtain⟨W,hW,g0,k1,k2⟩:=b_4 w0 #[.int .i64 q.v,.slice A q.f.length c,.slice C q.t.length d] 26 #[.int .i64 0,.slice none 0 0,.slice none 0 0] 26;have sz:W.heap.size=w0.heap.size+1+1:=by rw[hW];simp
 have SZ:=h_ sz;clear sz;replace hf:=SlI.next g0 hf;replace ht:=SlI.next g0 ht;go_enter Tryz.func116,Tryz.ntmps116
 go_wp2;rw[←hW];clear hW;refine a8_ (by kernel_rfl) [.eq (.pointer (some ⟨w0.heap.size,0,none⟩)),.eq (.int .i64 q.v),.eq (.pointer (some ⟨w0.heap.size,1,none⟩)),.eq (.slice A q.f.length c),rel 4 (fun u lo hi w=>a9_ w lo hi u q.f),.eq (.pointer (some ⟨w0.heap.size,2,none⟩)),.eq (.slice C q.t.length d),rel 7 (fun u lo hi w=>a9_ w lo hi u q.t),.rel (fun x w=>x.v 8 = .agg #[.int .i64 q.v,x.v 4,x.v 7])] [[],[0],[],[2],[2,3],[],[5],[2,3,4,5,6],[0,1,2,3,4,5,6,7],[0,1,2,3,4,5,6,7,8]] 9 (by kernel_rfl) ⟨trivial,trivial,trivial,trivial,a4_ (fun u lo hi w w' h hb=>h.below hb),trivial,trivial,a4_ (fun u lo hi w w' h hb=>h.below hb),fun x w w' h hb=>h,trivial⟩ ⟨?_,?_,?_,?_,?_,?_,?_,?_,?_,trivial⟩ ?_;iterate 9 (intro x w hb hk Q' hQ;have he:=k_e hk;simp only[k_s]at he;simp only[netE]at hQ⊢;(try simp only[he]at hQ⊢);(try clear he);rotate_left)
 rotate_left
 ·clear hk;go_wp2;exact hQ _ _ br_ rfl
 ·clear hk;have c0:=(k1.call hb).cell' (i:=0) rfl;go_wp2;exact hQ _ _ br_ rfl
 ·clear hk;go_wp2;exact hQ _ _ br_ rfl
 ·clear hk;have c1:=(k1.call hb).cell' (i:=1) rfl;go_wp2;exact hQ _ _ br_ rfl
 ·clear hk;go_wp2_with fail
  refine (o9_ _ q.f _ (SlI.next hb hf)).mono ?_;rintro e w1 ⟨v1,rfl,ho,hb1⟩;go_wp2;exact hQ _ _ hb1 ho
 ·clear hk;go_wp2;exact hQ _ _ br_ rfl
 ·clear hk;have c2:=(k1.call hb).cell' (i:=2) rfl;go_wp2;exact hQ _ _ br_ rfl
 ·have h4:a9_ w (x.lo 4) (x.hi 4) (x.v 4) q.f:=(hk 4 (by decide)).1;have s4:=(hk 4 (by decide)).2;clear hk;go_wp2_with fail
  refine (o9_ _ q.t _ (SlI.next hb ht)).mono ?_;rintro e w1 ⟨v1,rfl,ho,hb1⟩;go_wp2;exact hQ _ _ hb1 ho
 ·have h4:a9_ w (x.lo 4) (x.hi 4) (x.v 4) q.f:=(hk 4 (by decide)).1;have h7:a9_ w (x.lo 7) (x.hi 7) (x.v 7) q.t:=(hk 7 (by decide)).1;have s4:=(hk 4 (by decide)).2;have s7:=(hk 7 (by decide)).2;clear hk;obtain⟨s4A,s4c,e4⟩:=h4.form;obtain⟨s7A,s7c,e7⟩:=h7.form;have hQ':=hQ (.agg #[.int .i64 q.v,x.v 4,x.v 7]) w br_ rfl;rw[e4,e7]at hQ'⊢;go_wp2;exact hQ'
 ·intro x w hb hk hiv hdj;have h4:a9_ w (x.lo 4) (x.hi 4) (x.v 4) q.f:=hk 4 (by decide);have h7:a9_ w (x.lo 7) (x.hi 7) (x.v 7) q.t:=hk 7 (by decide);have h8:x.v 8 = .agg #[.int .i64 q.v,x.v 4,x.v 7]:=hk 8 (by decide);have he:=k_g hk [0,1,2,3,5,6];simp only[k_s]at he;simp only[netE,he];clear he hk;have hF:=a9x h4 h7 (hdj 4 7 (by decide) (by decide) (by decide)) (hiv 4 (by decide)).1 (hiv 7 (by decide)).1 (hiv 4 (by decide)).2.2 (hiv 7 (by decide)).2.2;have hQ:d5_ w W.heap.size w.heap.size (.agg #[.int .i64 q.v,x.v 4,x.v 7]) q:=⟨_,_,rfl,hF,hr⟩;obtain⟨s4A,s4c,e4⟩:=h4.form;obtain⟨s7A,s7c,e7⟩:=h7.form;rw[e4,e7]at hQ h8;rw[h8];have k2':=k2.call hb;have f2:=k2'.frozen;obtain⟨r0,r1,r2⟩:=c_3 k2';have gf:=g0.trans (hb.mono g0.size);have HBS:=h_ hb.size;have HQ:=h_ hQ;clear h4 h7 h8 e4 e7 k1 k2 hb hf ht hF hQ hdj hiv;go_wp2;have sz:=SZ.out;have hbs:=HBS.out;refine bodyPost_ret (v:=.agg #[.int .i64 q.v,.slice s4A q.f.length s4c,.slice s7A q.t.length s7c]) (by simp[results,go_sem,r0,r1,r2]) rfl ⟨_,rfl,d5_.wider (lo:=W.heap.size) (hi:=w.heap.size) ?_ (by omega) (by simp),((gf.setCell (by simp) _).setCell (by simp) _).setCell (by simp) _⟩;exact ((HQ.out.setLow (by simp;omega) _).setLow (by simp;omega) _).setLow (by simp;omega) _
def x1_ (w:World) (lo hi:Nat) (val:Value) (q:Qv):Prop:=∃ a b,val = .agg #[.int .i64 q.v,a,b]∧a9_ w lo hi a q.f∧a9_ w lo hi b q.t∧I64 q.v
theorem x1_.below {w w':World} {lo hi:Nat} {v:Value} {q:Qv} (h:x1_ w lo hi v q) (hb:Below w.heap.size w w'):x1_ w' lo hi v q:=by
 obtain⟨a,b,e,h1,h2,h3⟩:=h;exact⟨a,b,e,h1.below hb,h2.below hb,h3⟩
theorem x1_.rd {w:World} {lo hi:Nat} {v:Value} {q:Qv} (h:x1_ w lo hi v q):QvR w w.heap.size v q:=by
 obtain⟨a,b,e,h1,h2,h3⟩:=h;exact⟨a,b,e,h1.rd,h2.rd,h3⟩
theorem x1_.set {w:World} {lo hi:Nat} {v:Value} {q:Qv} (h:x1_ w lo hi v q) {p:Addr} (hp:p.block<lo) (u:Value):x1_ (w.setCell p u) lo hi v q:=by
 obtain⟨a,b,e,h1,h2,h3⟩:=h;exact⟨a,b,e,h1.set hp u,h2.set hp u,h3⟩
theorem x1_.wider {w:World} {lo hi lo' hi':Nat} {v:Value} {q:Qv} (h:x1_ w lo hi v q) (k1:lo'≤lo) (k2:hi≤hi'):x1_ w lo' hi' v q:=by
 obtain⟨a,b,e,h1,h2,h3⟩:=h;exact⟨a,b,e,h1.wider k1 k2,h2.wider k1 k2,h3⟩
theorem O0_ (u:Value) (q:Qv) (w0:World) (hu:QvR w0 w0.heap.size u q) :
  Calls Tryz.prog 83 #[u] w0 fun e w'=>∃ v,e = .returned v∧x1_ w' w0.heap.size w'.heap.size v q∧Below w0.heap.size w0 w':=by
 obtain⟨A,c,C,d,rfl,hf,ht,hr,lf,lt⟩:=hu.open_;clear hu;obtain⟨W,hW,g0,k1,k2⟩:=b_4 w0 #[.int .i64 q.v,.slice A q.f.length c,.slice C q.t.length d] 26 #[.int .i64 0,.slice none 0 0,.slice none 0 0] 26;have sz:W.heap.size=w0.heap.size+1+1:=by rw[hW];simp
 have SZ:=h_ sz;clear sz;replace hf:=SlI.next g0 hf;replace ht:=SlI.next g0 ht;go_enter Tryz.func83,Tryz.ntmps83
 go_wp2;rw[←hW];clear hW;refine a8_ (by kernel_rfl) [.eq (.pointer (some ⟨w0.heap.size,0,none⟩)),.eq (.int .i64 q.v),rel 2 (fun u lo hi w=>n0_ w W.heap.size u),.eq (.pointer (some ⟨w0.heap.size,1,none⟩)),.eq (.slice A q.f.length c),rel 5 (fun u lo hi w=>OwnI w W.heap.size u q.f),rel 6 (fun u lo hi w=>n0_ w W.heap.size u),.eq (.pointer (some ⟨w0.heap.size,2,none⟩)),.eq (.slice C q.t.length d),rel 9 (fun u lo hi w=>OwnI w W.heap.size u q.t),.rel (fun x w=>x.v 10 = .agg #[.int .i64 q.v,x.v 5,x.v 9])] [[],[0],[],[],[3],[2,3,4],[],[],[7],[2,3,4,5,6,7,8],[0,1,2,3,4,5,6,7,8,9],[0,1,2,3,4,5,6,7,8,9,10]] 11 (by kernel_rfl) ⟨trivial,trivial,a4_ (fun u lo hi w w' h hb=>h.below hb),trivial,trivial,a4_ (fun u lo hi w w' h hb=>h.below hb),a4_ (fun u lo hi w w' h hb=>h.below hb),trivial,trivial,a4_ (fun u lo hi w w' h hb=>h.below hb),fun x w w' h hb=>h,trivial⟩ ⟨?_,?_,?_,?_,?_,?_,?_,?_,?_,?_,?_,trivial⟩ ?_;iterate 11 (intro x w hb hk Q' hQ;have he:=k_e hk;simp only[k_s]at he;simp only[netE]at hQ⊢;(try simp only[he]at hQ⊢);(try clear he);rotate_left)
 rotate_left
 ·clear hk;go_wp2;exact hQ _ _ br_ rfl
 ·clear hk;have c0:=(k1.call hb).cell' (i:=0) rfl;go_wp2;exact hQ _ _ br_ rfl
 ·clear hk;go_wp2;exact hQ _ _ (a2_ _ _) (n0_.new _ hb.size)
 ·clear hk;go_wp2;exact hQ _ _ br_ rfl
 ·clear hk;have c1:=(k1.call hb).cell' (i:=1) rfl;go_wp2;exact hQ _ _ br_ rfl
 ·have h2:n0_ w W.heap.size (x.v 2):=(hk 2 (by decide)).1;have s2:=(hk 2 (by decide)).2;clear hk;obtain⟨g,e2,hg,hB⟩:=h2;rw[e2]at hQ⊢;refine c5_ (by rfl) (.tmp 5) (.tmp 7) (by rfl) g W.heap.size w.heap.size #[] (by rfl) hB rfl hg A c q.f (by rfl) (SlI.next hb hf) ?_;intro v' w' ho hb';exact hQ _ _ hb' ho
 ·clear hk;go_wp2;exact hQ _ _ (a2_ _ _) (n0_.new _ hb.size)
 ·clear hk;go_wp2;exact hQ _ _ br_ rfl
 ·clear hk;have c2:=(k1.call hb).cell' (i:=2) rfl;go_wp2;exact hQ _ _ br_ rfl
 ·have h2:n0_ w W.heap.size (x.v 2):=(hk 2 (by decide)).1;have h5:OwnI w W.heap.size (x.v 5) q.f:=(hk 5 (by decide)).1;have h6:n0_ w W.heap.size (x.v 6):=(hk 6 (by decide)).1;have s2:=(hk 2 (by decide)).2;have s5:=(hk 5 (by decide)).2;have s6:=(hk 6 (by decide)).2;clear hk;obtain⟨g,e6,hg,hB⟩:=h6;rw[e6]at hQ⊢;refine c5_ (by rfl) (.tmp 9) (.tmp 11) (by rfl) g W.heap.size w.heap.size #[] (by rfl) hB rfl hg C d q.t (by rfl) (SlI.next hb ht) ?_;intro v' w' ho hb';exact hQ _ _ hb' ho
 ·have h2:n0_ w W.heap.size (x.v 2):=(hk 2 (by decide)).1;have h5:OwnI w W.heap.size (x.v 5) q.f:=(hk 5 (by decide)).1;have h6:n0_ w W.heap.size (x.v 6):=(hk 6 (by decide)).1;have h9:OwnI w W.heap.size (x.v 9) q.t:=(hk 9 (by decide)).1;have s2:=(hk 2 (by decide)).2;have s5:=(hk 5 (by decide)).2;have s6:=(hk 6 (by decide)).2;have s9:=(hk 9 (by decide)).2;clear hk;obtain⟨s4A,s4c,e4,_,_⟩:=h5.form;obtain⟨s7A,s7c,e7,_,_⟩:=h9.form;have hQ':=hQ (.agg #[.int .i64 q.v,x.v 5,x.v 9]) w br_ rfl;rw[e4,e7]at hQ'⊢;go_wp2;exact hQ'
 ·intro x w hb hk hiv hdj;have h2:n0_ w W.heap.size (x.v 2):=hk 2 (by decide);have h5:OwnI w W.heap.size (x.v 5) q.f:=hk 5 (by decide);have h6:n0_ w W.heap.size (x.v 6):=hk 6 (by decide);have h9:OwnI w W.heap.size (x.v 9) q.t:=hk 9 (by decide);have h10:x.v 10 = .agg #[.int .i64 q.v,x.v 5,x.v 9]:=hk 10 (by decide);have he:=k_g hk [0,1,3,4,7,8];simp only[k_s]at he;simp only[netE,he];clear he hk;have hQ:x1_ w W.heap.size w.heap.size (.agg #[.int .i64 q.v,x.v 5,x.v 9]) q:=⟨_,_,rfl,a9_.of_own h5,a9_.of_own h9,hr⟩;obtain⟨s4A,s4c,e4,_,_⟩:=h5.form;obtain⟨s7A,s7c,e7,_,_⟩:=h9.form;rw[e4,e7]at hQ h10;rw[h10];have k2':=k2.call hb;have f2:=k2'.frozen;obtain⟨r0,r1,r2⟩:=c_3 k2';have gf:=g0.trans (hb.mono g0.size);have HBS:=h_ hb.size;have HQ:=h_ hQ;clear h2 h5 h6 h9 h10 e4 e7 k1 k2 hb hf ht hQ hdj hiv;go_wp2;have sz:=SZ.out;have hbs:=HBS.out;refine bodyPost_ret (v:=.agg #[.int .i64 q.v,.slice s4A q.f.length s4c,.slice s7A q.t.length s7c]) (by simp[results,go_sem,r0,r1,r2]) rfl ⟨_,rfl,x1_.wider (lo:=W.heap.size) (hi:=w.heap.size) ?_ (by omega) (by simp),((gf.setCell (by simp) _).setCell (by simp) _).setCell (by simp) _⟩;exact ((HQ.out.set (by simp;omega) _).set (by simp;omega) _).set (by simp;omega) _
def zmx (r c:Int):Mx:=⟨r,c,List.replicate (r*c).toNat 0⟩
theorem v9_ (r c:Int) (w:World) (hr:0≤r) (hc:0≤c) (hr2:r≤1000) (hc2:c≤1000) :
  Calls Tryz.prog 61 #[.int .i64 r,.int .i64 c] w fun e w'=>∃ v,e = .returned v∧MxO w' w.heap.size w'.heap.size v (zmx r c)∧Below w.heap.size w w':=by
 obtain⟨n,rfl⟩:=Int.eq_ofNat_of_zero_le hr;obtain⟨m,rfl⟩:=Int.eq_ofNat_of_zero_le hc;obtain⟨N,hN⟩:=e_ (n*m);have hNb:N≤1000000:=by
  have:n*m≤1000*1000:=Nat.mul_le_mul (by omega) (by omega);omega
 have hmul:(n:Int)*m=(N:Int):=by rw[←hN];simp
 have hw:wrap64 ((n:Int)*m)=(N:Int):=by rw[hmul];exact IntWalk.wrap64_in _ ⟨by omega,by omega⟩
 have hZ:zmx n m=⟨n,m,List.replicate N 0⟩:=by rw[zmx,hmul];rfl
 rw[hZ];obtain⟨i0,hi,hz0,hz1,hz2⟩:=info_parts v5_;have hmk:=V8_ (P:=Tryz.prog) Tryz.underlying24 hi hz0 (n:=N) (by rw[hz2];omega) (by omega);rw[hz1]at hmk;have hN1:(0:Int)≤(n:Int)*m:=by omega
 have hN2:(n:Int)*m≤1000000:=by omega
 clear hi hz0 hz1 hz2 hN hZ;obtain⟨W,hW⟩:∃ W,W=(w.alloc (.cells #[.int .i64 n,.int .i64 m,.slice (some ⟨w.heap.size+1,0,none⟩) N N] 41)).alloc (.cells (g8_ (.int .i64 0) N) 3):=⟨_,rfl⟩;have g0:Below w.heap.size w W:=by rw[hW];exact ((Below.refl _ _).alloc (l_ _) _).alloc (by simp) _
 have k1:Blk W w.heap.size 41 #[.int .i64 n,.int .i64 m,.slice (some ⟨w.heap.size+1,0,none⟩) N N]:=by rw[hW];exact (Blk.new _ _ _).alloc _
 have ho:OwnI W (w.heap.size+1) (.slice (some ⟨w.heap.size+1,0,none⟩) N N) (List.replicate N 0):=by
  rw[hW];have:=OwnI.made0 (w:=w.alloc (.cells #[.int .i64 n,.int .i64 m,.slice (some ⟨w.heap.size+1,0,none⟩) N N] 41)) (base:=w.heap.size+1) (N:=N) (by simp) (by omega);simpa only[l3_] using this
 obtain⟨r0,r1,r2⟩:=c_3 k1;have HO:=h_ ho;clear ho k1;rw[Nat.mul_one]at hmk;go_enter Tryz.func61,Tryz.ntmps61
 go_wp2;rw[←hW];exact bodyPost_ret (v:=.agg #[.int .i64 n,.int .i64 m,.slice (some ⟨w.heap.size+1,0,none⟩) N N]) (by simp[results,go_sem,r0,r1,r2]) rfl ⟨_,rfl,⟨_,by simp,(a9_.of_own HO.out).wider (by omega) (l_ _),by simp only[I64];omega,by simp only[I64];omega⟩,g0⟩
theorem n4_ (r c:Int) (w:World) (hr:0≤r) (hc:0≤c) (hr2:r≤1000) (hc2:c≤1000) :
  Calls Tryz.prog 66 #[.int .i64 r,.int .i64 c] w fun e w'=>∃ v,e = .returned v∧MxO w' w.heap.size w'.heap.size v (zmx r c)∧Below w.heap.size w w':=by
 obtain⟨n,rfl⟩:=Int.eq_ofNat_of_zero_le hr;obtain⟨m,rfl⟩:=Int.eq_ofNat_of_zero_le hc;obtain⟨N,hN⟩:=e_ (n*m);have hNb:N≤1000000:=by
  have:n*m≤1000*1000:=Nat.mul_le_mul (by omega) (by omega);omega
 have hmul:(n:Int)*m=(N:Int):=by rw[←hN];simp
 have hw:wrap64 ((n:Int)*m)=(N:Int):=by rw[hmul];exact IntWalk.wrap64_in _ ⟨by omega,by omega⟩
 have hZ:zmx n m=⟨n,m,List.replicate N 0⟩:=by rw[zmx,hmul];rfl
 rw[hZ];obtain⟨i0,hi,hz0,hz1,hz2⟩:=info_parts v5_;have hmk:=V8_ (P:=Tryz.prog) Tryz.underlying24 hi hz0 (n:=N) (by rw[hz2];omega) (by omega);rw[hz1]at hmk;have hN1:(0:Int)≤(n:Int)*m:=by omega
 have hN2:(n:Int)*m≤1000000:=by omega
 clear hi hz0 hz1 hz2 hN hZ;obtain⟨W,hW⟩:∃ W,W=(w.alloc (.cells #[.int .i64 n,.int .i64 m,.slice (some ⟨w.heap.size+1,0,none⟩) N N] 41)).alloc (.cells (g8_ (.int .i64 0) N) 3):=⟨_,rfl⟩;have g0:Below w.heap.size w W:=by rw[hW];exact ((Below.refl _ _).alloc (l_ _) _).alloc (by simp) _
 have k1:Blk W w.heap.size 41 #[.int .i64 n,.int .i64 m,.slice (some ⟨w.heap.size+1,0,none⟩) N N]:=by rw[hW];exact (Blk.new _ _ _).alloc _
 have ho:OwnI W (w.heap.size+1) (.slice (some ⟨w.heap.size+1,0,none⟩) N N) (List.replicate N 0):=by
  rw[hW];have:=OwnI.made0 (w:=w.alloc (.cells #[.int .i64 n,.int .i64 m,.slice (some ⟨w.heap.size+1,0,none⟩) N N] 41)) (base:=w.heap.size+1) (N:=N) (by simp) (by omega);simpa only[l3_] using this
 obtain⟨r0,r1,r2⟩:=c_3 k1;have HO:=h_ ho;clear ho k1;rw[Nat.mul_one]at hmk;go_enter Tryz.func66,Tryz.ntmps66
 go_wp2;rw[←hW];exact bodyPost_ret (v:=.agg #[.int .i64 n,.int .i64 m,.slice (some ⟨w.heap.size+1,0,none⟩) N N]) (by simp[results,go_sem,r0,r1,r2]) rfl ⟨_,rfl,⟨_,by simp,(a9_.of_own HO.out).wider (by omega) (l_ _),by simp only[I64];omega,by simp only[I64];omega⟩,g0⟩
structure AppT (T:TypeId) (lo:Nat) (w w':World):Prop where
 os:w'.os=w.os
 tape:w'.tape=w.tape
 output:w'.output=w.output
 size:w.heap.size≤w'.heap.size
 low:∀ k,k<lo→k<w.heap.size→w'.heap[k]?=w.heap[k]?
 other:∀ g t cs,t≠T→Blk w g t cs→Blk w' g t cs
theorem AppT.of_below {T:TypeId} {lo:Nat} {w w':World} (h:Below w.heap.size w w'):AppT T lo w w':=⟨h.os,h.tape,h.output,h.size,fun k _ hk=>h.block k hk,fun _ _ _ _ hb=>hb.call h⟩
theorem AppT.trans {T:TypeId} {lo:Nat} {a b c:World} (h:AppT T lo a b) (k:AppT T lo b c):AppT T lo a c :=
 ⟨k.os.trans h.os,k.tape.trans h.tape,k.output.trans h.output,Nat.le_trans h.size k.size,fun i hi hs=>(k.low i hi (Nat.lt_of_lt_of_le hs h.size)).trans (h.low i hi hs),fun g t cs ht hb=>k.other g t cs ht (h.other g t cs ht hb)⟩
theorem AppT.below {T:TypeId} {lo B:Nat} {w w':World} (h:AppT T lo w w') (hB:B≤lo) (hs:B≤w.heap.size):Below B w w':=⟨h.os,h.tape,h.output,h.size,fun k hk=>h.low k (by omega) (by omega)⟩
theorem OwnI.appT {T:TypeId} {lo base:Nat} {w w':World} {v:Value} {l:List Int} (h:OwnI w base v l) (hT:3≠T) (ha:AppT T lo w w'):OwnI w' base v l:=by
 refine⟨⟨h.1.1,?_⟩,h.2⟩;rcases h.1.2 with h1 | ⟨g,cap,cur,e,hg,hh,rest⟩
 ·exact .inl h1
 ·exact .inr ⟨g,cap,cur,e,hg,ha.other g _ cur hT hh,rest⟩
theorem a9_.appT {T:TypeId} {lo l1 h1:Nat} {w w':World} {v:Value} {l:List Int} (h:a9_ w l1 h1 v l) (hT:3≠T) (ha:AppT T lo w w'):a9_ w' l1 h1 v l:=⟨h.1.appT hT ha,h.2⟩
theorem Fam.appT {T:TypeId} {lo l1 h1:Nat} {w w':World} {L:List (Value×List Int)} (h:Fam w l1 h1 L) (hT:3≠T) (ha:AppT T lo w w'):Fam w' l1 h1 L:=⟨fun p hp=>(h.1 p hp).appT hT ha,h.2⟩
theorem AppT.set {T T':TypeId} {lo g i:Nat} {w:World} {cs:Array Value} {u:Value} (hb:Blk w g T' cs) (hT:T'=T) (hg:lo≤g):AppT T lo w (w.setCell ⟨g,i,none⟩ u):=by
 subst hT;refine⟨rfl,rfl,rfl,by simp[World.setCell],fun k hk _=>Below.heap_setCell _ _ _ _ (by simp;omega),fun g' t cs' ht hb'=>?_⟩;refine hb'.far ?_ u;rintro rfl;unfold Blk at hb hb';rw[hb]at hb';injection hb' with hb'
 injection hb' with _ hb'
 exact ht hb'.symm
theorem u6_ {w:World} {ops:Array Oper} {rest:List Oper} {o:Oper} {a:Act} {Q:Exit→Act→World→Prop} (hgd:o.guard=none) (s x:Operand)
  (ho:o.op = .call { callee:=.builtin .append,args:=#[s,x],argTypes:=#[27,27] })
  (lo hi:Nat) (v:Value) (vs:List Value) (ms:List Mx) (hs:a.eval s=v) (hown:OutM w lo hi v vs ms) (hl:vs.length=ms.length) (g c:Nat) (m:Mx) (u:Value) (hx:a.eval x = .slice (some ⟨g,0,none⟩) 1 c) (hg:Blk w g 41 #[.int .i64 m.r,.int .i64 m.c,u]) (hu:u.oneCell'=true)
  (hn:ms.length≤1000000) (hlo:lo≤w.heap.size)
  (h:∀ v' w',OutM w' lo w'.heap.size v' (vs ++ [u]) (ms ++ [m])→AppT 41 lo w w'→wpList Tryz.prog ops Q rest (a.put o.dst v') w'):wpList Tryz.prog ops Q (o :: rest) a w:=by
 obtain⟨i0,hi',hz0,hz1,hz2⟩:=info_parts f5x;have hcs:=T1_ vs ms u m hl;refine i8_ w hgd s x _ ho lo 41 i0 _ 3 40 Tryz.underlying27 hi' hz0 hz1 hz2 rfl (by decide) v ms.length _ hs hown.1 _ 1 c [.int .i64 m.r,.int .i64 m.c,u] hx ⟨rfl,.inr ⟨g,0,rfl,fun j y hj=>?_⟩⟩ ?_ (by simp only[maxLen];omega) (by omega) hlo fun v' w' h1 h2 h3=>?_
 ·have hj3:=b0_ hj;simp only[List.length_cons,List.length_nil]at hj3;rw[Nat.zero_add]
  match j,hj with
  | 0,hj=>rw[hg.cell];exact hj
  | 1,hj=>rw[hg.cell];exact hj
  | 2,hj=>rw[hg.cell];exact hj
  | j+3,hj=>omega
 ·intro y hy;simp only[List.mem_cons,List.not_mem_nil,or_false]at hy;rcases hy with rfl | rfl | rfl
  ·rfl
  ·rfl
  ·exact hu
 ·refine h v' w' ⟨?_,fun k hk=>?_,by simp;omega⟩ ⟨h2.os,h2.tape,h2.output,h2.size,fun k hk hks=>h2.block k hks (fun e=>?_),fun g' t cs ht hb=>hb.grown h2 (fun e=>?_)⟩
  ·rw[hcs,List.length_append];exact h1
  ·exact (h1.lt k hk).2
  ·have:=(hown.1.lt k e.symm).1;omega
  ·rcases hown.1.2 with ⟨rfl,_⟩ | ⟨g2,cap,cur,rfl,_,hh,_⟩
   ·simp[Value.ownBlock]at e
   ·have:g'=g2:=by simpa [Value.ownBlock] using e
    subst this;unfold Blk at hb;rw[hh]at hb;injection hb with hb
    injection hb with _ hb
    exact ht hb.symm
theorem w1_ {i k c:Nat} (hk:k<c):(i*c+k) / c=i:=by
 rw[Nat.mul_comm,Nat.mul_add_div (by omega),Nat.div_eq_of_lt hk,Nat.add_zero]
theorem w5_ {i k c:Nat} (hk:k<c):(i*c+k) % c=k:=by
 rw[Nat.mul_comm,Nat.mul_add_mod,Nat.mod_eq_of_lt hk]
theorem E7_ {i k r c:Nat} (hi:i<r) (hk:k<c):i*c+k<r*c:=by
 have:(i+1)*c≤r*c:=Nat.mul_le_mul_right _ hi;rw[Nat.add_mul]at this;omega
theorem R5_ {j r c:Nat} (hj:j<r*c):∃ i k,i<r∧k<c∧j=i*c+k:=by
 have hc:0<c:=Nat.pos_of_ne_zero (by rintro rfl;simp at hj);refine⟨j / c,j % c,(Nat.div_lt_iff_lt_mul hc).2 hj,Nat.mod_lt _ hc,?_⟩;rw[Nat.mul_comm];exact (Nat.div_add_mod j c).symm
theorem f2q {i k i' k' c:Nat} (hk:k<c) (hk':k'<c) (h:i*c+k=i'*c+k'):i=i'∧k=k':=by
 have h1:=w1_ (i:=i) hk;have h2:=w5_ (i:=i) hk;rw[h,w1_ hk']at h1;rw[h,w5_ hk']at h2;exact⟨h1.symm,h2.symm⟩
def flat (r c:Nat) (f:Nat→Nat→Int):List Int:=(List.range (r*c)).map fun j=>f (j / c) (j % c)
theorem a0_ (r c:Nat) (f:Nat→Nat→Int):(flat r c f).length=r*c:=by simp[flat]
theorem j0_ {r c i k:Nat} (f:Nat→Nat→Int) (hi:i<r) (hk:k<c):(flat r c f)[i*c+k]?=some (f i k):=by
 simp[flat,E7_ hi hk,w1_ hk,w5_ hk]
theorem x2_ {r c i k:Nat} (f:Nat→Nat→Int) (hi:i<r) (hk:k<c):(flat r c f).getD (i*c+k) 0=f i k:=by
 rw[l1_,j0_ f hi hk];rfl
theorem v4_ {r c:Nat} {l:List Int} {f:Nat→Nat→Int} (hl:l.length=r*c) (h:∀ i k,i<r→k<c→l[i*c+k]?=some (f i k)):l=flat r c f:=by
 apply List.ext_getElem?
 intro j;by_cases hj:j<r*c
 ·obtain⟨i,k,hi,hk,rfl⟩:=R5_ hj;rw[h i k hi hk,j0_ f hi hk]
 ·rw[l6_ (by omega),l6_ (by rw[a0_];omega)]
theorem c1_ {r c:Nat} {f g:Nat→Nat→Int} (h:∀ a b,a<r→b<c→f a b=g a b):flat r c f=flat r c g :=
 v4_ (a0_ _ _ _) fun i k hi hk=>by rw[j0_ f hi hk,h i k hi hk]
theorem j8_ {r c i k:Nat} (f:Nat→Nat→Int) (x:Int) (hi:i<r) (hk:k<c):(flat r c f).set (i*c+k) x=flat r c fun a b=>if a=i∧b=k then x else f a b:=by
 refine v4_ (by simp[a0_]) fun a b ha hb=>?_
 rw[List.getElem?_set];by_cases e:i*c+k=a*c+b
 ·obtain⟨rfl,rfl⟩:=f2q hk hb e;rw[if_pos rfl,if_pos (by rw[a0_];exact E7_ hi hk),if_pos ⟨rfl,rfl⟩]
 ·rw[if_neg e,j0_ f ha hb,if_neg];rintro⟨rfl,rfl⟩;exact e rfl
theorem b6J (r c:Nat):flat r c (fun _ _=>0)=List.replicate (r*c) 0:=by
 refine (v4_ (by simp) fun i k hi hk=>?_).symm;have:=E7_ hi hk;simp[this]
theorem c5Z {r c:Nat} {f:Nat→Nat→Int} {x:Int} (h:x∈flat r c f):∃ i k,i<r∧k<c∧x=f i k:=by
 simp only[flat,List.mem_map,List.mem_range]at h;obtain⟨j,hj,rfl⟩:=h;obtain⟨i,k,hi,hk,rfl⟩:=R5_ hj;exact⟨i,k,hi,hk,by rw[w1_ hk,w5_ hk]⟩
def q6_ (l:List Int) (c i k:Nat):Int:=l.getD (i*c+k) 0
theorem d7q {l:List Int} {r c:Nat} (hl:l.length=r*c):l=flat r c (q6_ l c) :=
 v4_ hl fun i k hi hk=>by
  have:=E7_ hi hk;rw[q6_,l1_,l2_ (by omega)];rfl
def mxF (r c:Nat) (f:Nat→Nat→Int):Mx:=⟨r,c,flat r c f⟩
theorem m6_ (r c:Nat):zmx r c=mxF r c fun _ _=>0:=by
 rw[mxF,b6J,zmx];congr
theorem r2_ {r c:Nat} {f g:Nat→Nat→Int} (h:∀ a b,a<r→b<c→f a b=g a b):mxF r c f=mxF r c g:=by rw[mxF,mxF,c1_ h]
theorem v8_ {i k r c:Nat} (hi:i<r) (hk:k<c) (hr:r≤1000) (hc:c≤1000) :
  ∃ P J:Nat,wrap64 ((i:Int)*(c:Int))=(P:Int)∧P+k=J∧J=i*c+k∧J<r*c∧J≤1000000:=by
 have h1:=E7_ hi hk;have h2:r*c≤1000*1000:=Nat.mul_le_mul hr hc;refine⟨i*c,i*c+k,?_,rfl,rfl,h1,by omega⟩;rw[show ((i:Int)*(c:Int))=((i*c:Nat):Int) by simp];exact IntWalk.wrap64_in _ ⟨by omega,by omega⟩
theorem a9_.at_ {w:World} {lo hi:Nat} {v:Value} {l:List Int} (h:a9_ w lo hi v l) (h0:0<l.length):∃ g c,v = .slice (some ⟨g,0,none⟩) l.length c∧lo≤g∧g<hi∧g<w.heap.size:=by
 rcases h.1.1.2 with ⟨rfl,h1⟩ | ⟨g,cap,cur,rfl,hg,hh,_⟩
 ·omega
 ·exact⟨g,cap,rfl,hg,h.2 g rfl,(Array.getElem?_eq_some_iff.1 hh).1⟩
theorem a9_.put {w:World} {lo hi g n cap j:Nat} {l:List Int} {x:Int} (h:a9_ w lo hi (.slice (some ⟨g,0,none⟩) n cap) l) (hx:I64 x):a9_ (w.setCell ⟨g,j,none⟩ (.int .i64 x)) lo hi (.slice (some ⟨g,0,none⟩) n cap) (l.set j x):=⟨(h.1.put hx).1,h.2⟩
def idF (a b:Nat):Int:=if a=b then 1 else 0
def idK (k a b:Nat):Int:=if a=b∧a<k then 1 else 0
theorem f7z (n:Nat):flat n n (fun _ _=>0)=flat n n (idK 0):=c1_ fun a b _ _=>by simp[idK]
theorem c3x {n k:Nat} (h:k<n):(flat n n (idK k)).set (k*n+k) 1=flat n n (idK (k+1)):=by
 rw[j8_ _ _ h h];refine c1_ fun a b _ _=>?_
 simp only[idK];by_cases e:a=b
 ·subst e;by_cases e2:a=k
  ·simp[e2]
  ·simp only[e2,true_and,if_false,false_and];congr 1
   simp;omega
 ·rw[if_neg (by omega),if_neg (by omega),if_neg (by omega)]
theorem f8Z (n:Nat):flat n n (idK n)=flat n n idF:=c1_ fun a b ha _=>by simp[idK,idF,ha]
theorem T0_ (n:Nat) (w:World) (hn:n≤100) :
  Calls Tryz.prog 91 #[.int .i64 n] w fun e w'=>∃ v,e = .returned v∧MxO w' w.heap.size w'.heap.size v (mxF n n idF)∧Below w.heap.size w w':=by
 obtain⟨W,hW,g0,k2⟩:=b_3 w #[.int .i64 0,.int .i64 0,.slice none 0 0] 41;have sz:W.heap.size=w.heap.size+1:=by rw[hW];simp
 have K2:=h_ k2;have SZ:=h_ sz;clear k2 sz;go_enter Tryz.func91,Tryz.ntmps91
 go_wp2_with fail
 rw[←hW];clear hW;refine (v9_ (n:Int) n W (by omega) (by omega) (by omega) (by omega)).mono ?_;rintro e w1 ⟨v1,rfl,⟨sA,rfl,oA,hr,hc⟩,hb1⟩;rw[m6_]at oA hr hc⊢;simp only[mxF]at oA hr hc⊢;rw[f7z]at oA;obtain⟨A1,c1,e1⟩:=oA.form;obtain⟨N,hN⟩:=e_ (n*n);rw[a0_,hN]at e1;subst e1;have HN:=h_ hN;clear hN;have s1:=hb1.size;obtain⟨W4,hW4,b4,k4⟩:=b_3 w1 #[.int .i64 n,.int .i64 n,.slice A1 N c1] 41;have oA:=oA.below b4;have gW:=a6_ hb1 b4;clear b4 hb1;go_wp2;rw[←hW4];clear hW4;go_loopw [9] (fun i wr=>∃ k:Nat,k≤n∧i = .int .i64 k∧Blk wr w1.heap.size 41 #[.int .i64 n,.int .i64 n,.slice A1 N c1]∧a9_ wr W.heap.size w1.heap.size (.slice A1 N c1) (flat n n (idK k))∧Below W.heap.size W wr) (fun i _=>n-(intOf i).toNat)
 case atStart=>exact⟨0,l0_ _,rfl,k4,oA,gW⟩
 case round =>
  clear k4 oA gW;obtain⟨k,hk,rfl,k4,oA,gW⟩:=hrel;have s6:=gW.size;by_cases hlt:k<n
  ·obtain⟨P,J,hP,hPJ,hJ,hJN,hJb⟩:=v8_ hlt hlt (show n≤1000 by omega) (by omega);rw[HN.out]at hJN;have hst:=c3x hlt;rw[←hJ]at hst;subst hPJ;obtain⟨gA,cA,eA,a1,a2,a3⟩:=oA.at_ (by rw[a0_,HN.out];omega);rw[a0_,HN.out]at eA;injection eA with eA1 eA2 eA3
   subst eA1 eA3;have r2:=k4.cell' (i:=2) rfl;have fA:=oA.1.frozenG (P+k);have cA:=(oA.1.cellG (j:=P+k) (by rw[a0_,HN.out];omega)).1;have hc1:Chg W.heap.size w1.heap.size wr (wr.setCell ⟨gA,P+k,none⟩ (.int .i64 1)):=b4_ a1 a2;have oA2:=oA.put (j:=P+k) (x:=1) (by simp[I64]);rw[hst]at oA2;have OA2:=h_ oA2;have K4:=h_ (k4.chg hc1 (by omega));have GW:=h_ (gW.trans (hc1.below (l_ _) s6));clear oA2 k4 oA gW hc1 hst hJ;go_wp2;go_roundw
   case rel=>exact⟨k+1,by omega,by go_num,K4.out,OA2.out,GW.out⟩
   case measure=>simp[intOf];omega
  ·obtain rfl:k=n:=by omega
   have k2:=K2.out.below gW (by have:=SZ.out;omega);obtain⟨z0,z1,z2⟩:=c_3 k4;obtain⟨p0,p1,p2⟩:=c_3 k2;have f2:=k2.frozen;have h2:=chg3 wr w.heap.size (.int .i64 (k:Int)) (.int .i64 k) (.slice A1 N c1);rw[f8Z]at oA;have gw:Below w.heap.size w wr:=g0.trans (gW.mono g0.size);have gs:=gw.size;have oA2:=(oA.chg h2 (.inr (by have:=SZ.out;omega))).wider (lo':=w.heap.size) (hi':=wr.heap.size) (by have:=SZ.out;omega) (by have:=k4.lt;omega);have fg:=gw.trans (h2.below (l_ _) gs);have OA2:=h_ oA2;have FG:=h_ fg;clear oA oA2 fg gw h2 k2 k4 gW;go_wp2;exact bodyPost_ret (v:=.agg #[.int .i64 (k:Int),.int .i64 k,.slice A1 N c1]) (by simp[results,go_sem,p0,p1,p2]) rfl ⟨_,rfl,⟨_,rfl,by simpa [mxF] using OA2.out,by simp only[mxF,I64];omega,by simp only[mxF,I64];omega⟩,FG.out⟩
theorem b1_.wider {w:World} {lo hi lo' hi':Nat} {v:Value} {ll:List (List Int)} (h:b1_ w lo hi v ll) (h1:lo'≤lo) (h2:hi≤hi'):b1_ w lo' hi' v ll:=by
 obtain⟨vs,a,b,c⟩:=h;exact⟨vs,a.mono h1 h2,b,c.mono h1 h2⟩
theorem b1_.form2 {w:World} {lo hi:Nat} {v:Value} {ll:List (List Int)} (h:b1_ w lo hi v ll):∃ A c,v = .slice A ll.length c∧ll.length≤c∧c≤9223372036854775807∧ll.length≤17592186044416:=by
 obtain⟨vs,a,b,c⟩:=h;obtain⟨A,d,h1,h2,h3⟩:=a.form;exact⟨A,d,by rw[h1,b],by omega,h3,by have:=a.2.2;omega⟩
theorem b1_.nil (w:World) (lo hi:Nat):b1_ w lo hi (.slice none 0 0) []:=⟨[],⟨World.ownsRow_nil _ _ _ _,by simp[Value.ownBlock],by simp⟩,rfl,⟨fun p hp=>by simp at hp,by simp⟩⟩
theorem b1_.made0 (w:World) {lo:Nat} (h:lo≤w.heap.size):b1_ (w.alloc (.cells #[] 24)) lo (w.alloc (.cells #[] 24)).heap.size (.slice (some ⟨w.heap.size,0,none⟩) 0 0) [] :=
 ⟨[],⟨World.ownsRow_made w #[] 0 h (by simp[maxLen]) (by simp),by simp[Value.ownBlock],by simp⟩,rfl,⟨fun p hp=>by simp at hp,by simp⟩⟩
theorem b1_.made (w:World) {lo n:Nat} (h:lo≤w.heap.size) (hn:n≤17592186044416):b1_ (w.alloc (.cells (g8_ (.slice none 0 0) n) 24)) lo (w.alloc (.cells (g8_ (.slice none 0 0) n) 24)).heap.size (.slice (some ⟨w.heap.size,0,none⟩) n n) (List.replicate n []):=by
 refine⟨List.replicate n (.slice none 0 0),?_,by simp,⟨fun p hp=>?_,?_⟩⟩
 ·have h1:=(Blk.new w 24 (g8_ (.slice none 0 0) n)).own (base:=lo) (n:=n) (cap:=n) (size:=1) h (l_ _) (by simp only[maxLen];omega) (by rw[F1_];omega);rw[show (g8_ (.slice none 0 0) n).toList=List.replicate n (.slice none 0 0) from toList_madeCells_one _ _,l7_ (by simp)]at h1;exact⟨by simpa using h1,fun k hk=>by simp[Value.ownBlock]at hk;simp;omega,by simpa using hn⟩
 ·obtain⟨a,b⟩:=p;have h1:=List.of_mem_zip hp;obtain⟨_,rfl⟩:=List.mem_replicate.1 h1.1;obtain⟨_,rfl⟩:=List.mem_replicate.1 h1.2;exact⟨OwnI.nil _ _,by simp[Value.ownBlock]⟩
 ·rw[List.pairwise_iff_getElem];intro i j hi hj hij;left
  simp[Value.ownBlock]
theorem b1_.at_ {w:World} {lo hi:Nat} {v:Value} {ll:List (List Int)} (h:b1_ w lo hi v ll) (h0:0<ll.length):∃ g c,v = .slice (some ⟨g,0,none⟩) ll.length c∧lo≤g∧g<hi∧g<w.heap.size∧ll.length≤c∧c≤9223372036854775807:=by
 obtain⟨vs,a,b,c⟩:=h;rcases a.1.2 with ⟨_,h1⟩ | ⟨g,cap,cur,rfl,hg,hh,hnc,hcm,_⟩
 ·omega
 ·exact⟨g,cap,by rw[b],hg,a.2.1 g (by simp[Value.ownBlock]),(Array.getElem?_eq_some_iff.1 hh).1,by omega,by simp only[maxLen]at hcm;omega⟩
theorem b1_.row {w:World} {lo hi g n c j:Nat} {ll:List (List Int)} {l:List Int} (h:b1_ w lo hi (.slice (some ⟨g,0,none⟩) n c) ll) (hj:ll[j]?=some l):∃ u,w.cell? ⟨g,j,none⟩=some u∧a9_ w lo hi u l∧w.frozen? ⟨g,j,none⟩=false:=by
 obtain⟨vs,a,b,F⟩:=h;have hl:=b0_ hj;have hv:vs[j]?=some (vs[j]'(by omega)):=l2_ (by omega);exact⟨_,a.cellS hv,F.1 (vs[j]'(by omega),l) (by rw[p0_ hv hj];simp),a.frozenS j⟩
theorem OutO.blk {w:World} {lo hi g n c:Nat} {vs:List Value} (h:OutO w lo hi (.slice (some ⟨g,0,none⟩) n c) vs):∃ cs,Blk w g 24 cs∧n=vs.length:=by
 rcases h.1.2 with ⟨e,_⟩ | ⟨g',cap',cur,e,_,hh,_⟩
 ·cases e
 ·injection e with e1 e2 _
  injection e1 with e1
  injection e1 with e1
  subst e1;exact⟨cur,hh,e2⟩
theorem b1_.putAt {w:World} {lo hi gr n c j i:Nat} {v:Value} {ll:List (List Int)} {l:List Int} {x:Int} (h:b1_ w lo hi v ll) (hj:ll[j]?=some l) (hx:I64 x)
  (hrow:∀ vs,vs.length=ll.length→OutO w lo hi v vs→Fam w lo hi (vs.zip ll)→vs[j]?=some (.slice (some ⟨gr,0,none⟩) n c)) :
  b1_ (w.setCell ⟨gr,i,none⟩ (.int .i64 x)) lo hi v (ll.set j (l.set i x))∧w.grownBy (w.setCell ⟨gr,i,none⟩ (.int .i64 x)) (some gr):=by
 obtain⟨vs,a,b,F⟩:=h;have hv:=hrow vs b a F;have ho:=F.1 (.slice (some ⟨gr,0,none⟩) n c,l) (by rw[p0_ hv hj];simp);obtain⟨_,_,e⟩:=ho.form;injection e with _ e _
 replace e:n=l.length:=e;subst e;have hp:=ho.1.put (j:=i) hx;exact⟨⟨vs,a.grown ho.1 hp.2,by simp[b],F.putAt hv hj ho.1 hx⟩,hp.2⟩
theorem b1_.cellRow {w:World} {lo hi g n' c' gr n c j:Nat} {ll:List (List Int)} (hc:w.cell? ⟨g,j,none⟩=some (.slice (some ⟨gr,0,none⟩) n c)) :
  ∀ vs,j<vs.length→OutO w lo hi (.slice (some ⟨g,0,none⟩) n' c') vs→Fam w lo hi (vs.zip ll)→vs[j]?=some (.slice (some ⟨gr,0,none⟩) n c):=fun vs hl ho _=>by
 have hv:vs[j]?=some (vs[j]'hl):=l2_ hl;have:=ho.cellS hv;rw[hc]at this;rw[hv,this]
theorem b1_.put {w:World} {lo hi g n' c' gr n c j i:Nat} {ll:List (List Int)} {l:List Int} {x:Int} (h:b1_ w lo hi (.slice (some ⟨g,0,none⟩) n' c') ll) (hj:ll[j]?=some l) (hc:w.cell? ⟨g,j,none⟩=some (.slice (some ⟨gr,0,none⟩) n c)) (hx:I64 x) :
  b1_ (w.setCell ⟨gr,i,none⟩ (.int .i64 x)) lo hi (.slice (some ⟨g,0,none⟩) n' c') (ll.set j (l.set i x))∧w.grownBy (w.setCell ⟨gr,i,none⟩ (.int .i64 x)) (some gr) :=
 h.putAt hj hx fun vs hl ho F=>b1_.cellRow hc vs (by have:=b0_ hj;omega) ho F
theorem n1_ {w:World} {ops:Array Oper} {rest:List Oper} {o:Oper} {a:Act} {Q:Exit→Act→World→Prop} (hgd:o.guard=none) (s x:Operand)
  (ho:o.op = .call { callee:=.builtin .append,args:=#[s,x],argTypes:=#[46,46] })
  (lo hi mi hi':Nat) (v:Value) (ll:List (List Int)) (l:List Int) (hs:a.eval s=v) (hown:b1_ w lo hi v ll) (A:Option Addr) (c:Nat) (u:Value) (hx:a.eval x = .slice A 1 c) (hA:∃ b o,A=some ⟨b,o,none⟩∧w.cell? ⟨b,o,none⟩=some u) (hu:a9_ w mi hi' u l)
  (h1:hi≤mi) (h2:mi≤hi') (h3:lo≤mi) (hn:ll.length+1≤1048576) (hlo:lo≤w.heap.size) (hhi:hi'≤w.heap.size)
  (h:∀ v' w',b1_ w' lo w'.heap.size v' (ll ++ [l])→Below lo w w'→w.grownBy w' v.ownBlock→wpList Tryz.prog ops Q rest (a.put o.dst v') w'):wpList Tryz.prog ops Q (o :: rest) a w:=by
 obtain⟨vs,h4,h5,h6⟩:=hown;refine v1_ hgd s x ho lo v vs hs h4.1 A c u hx hA (by obtain⟨A',c',rfl,_⟩:=hu.1.form;rfl) (by omega) hlo fun v' w' k1 k2 k3=>?_
 have hbg:Below lo w w':=b9_ k2 (fun k hk=>(h4.1.lt k hk).1) hlo;have F2:=((h6.mono (l_ _) h1).snoc hu h3 h2).mono (l_ _) (Nat.le_trans hhi hbg.size);have F3:=Fam.grownO (by simpa using F2) h4.1 k2;refine h v' w' ⟨vs ++ [u],⟨k1,fun k hk=>(k1.lt k hk).2,by simp;omega⟩,by simp[h5],?_⟩ hbg k2;rw[List.zip_append h5];exact F3
theorem a7z {B:Nat} {w w':World} (h:Below B w w'):Chg B w.heap.size w w':=⟨h.os,h.tape,h.output,h.size,fun k hk hne=>h.block k (by omega)⟩
def zms (q:Qv) (d:List Int) (k:Nat):List Mx:=(List.range k).map fun i=>zmx (dAt d (q.t.getD i 0)) (dAt d (q.f.getD i 0))
theorem r0_ (q:Qv) (d:List Int) (k:Nat):(zms q d k).length=k:=by simp[zms]
theorem a1z {q:Qv} {d:List Int} {k nf nt:Nat} {yf yt:Int} (hf:q.f[k]?=some (nf:Int)) (ht:q.t[k]?=some (nt:Int)) (hyf:d[nf]?=some yf) (hyt:d[nt]?=some yt):zms q d (k+1)=zms q d k ++ [zmx yt yf]:=by
 simp[zms,List.range_succ,l1_,hf,ht,dAt,hyf,hyt]
def zRep (p:Int) (q:Qv) (d:List Int):Rp:=⟨p,q,d,zms q d q.f.length⟩
theorem b7q {q:Qv} {d:List Int} (h:d4_ q d=true) (k:Nat) (hk:k≤q.f.length):∀ m∈zms q d k,I64 m.r∧I64 m.c:=by
 intro m hm;simp only[zms,List.mem_map,List.mem_range]at hm;obtain⟨i,hi,rfl⟩:=hm;obtain⟨nf,nt,yf,yt,ef,et,df,dt,_⟩:=K0_ (x:=⟨0,q,d,[]⟩) h (show i<q.f.length by omega);obtain⟨_,_,hd,_⟩:=b7_.1 h;have b1:=hd _ (l4_ df);have b2:=hd _ (l4_ dt);simp only[zmx,l1_,ef,et,Option.getD_some,r4_ df,r4_ dt,I64];omega
theorem a9_.cell {w:World} {lo hi:Nat} {v:Value} {l:List Int} (h:a9_ w lo hi v l):v.oneCell'=true:=by
 obtain⟨A,c,rfl⟩:=h.form;rfl
def RepI (w:World) (lo hi:Nat) (val:Value) (x:Rp):Prop:=∃ f t d m vs mi,val = .agg #[.int .i64 x.p,.int .i64 x.q.v,f,t,d,m]∧a9_ w lo mi f x.q.f∧a9_ w lo mi t x.q.t∧a9_ w lo mi d x.d∧OutM w lo hi m vs x.m∧vs.length=x.m.length ∧
 Fam w mi hi (vs.zip (x.m.map Mx.a))∧(lo≤mi∧mi≤hi)∧(I64 x.p∧I64 x.q.v)∧∀ m∈x.m,I64 m.r∧I64 m.c
theorem RepI.rd {w:World} {lo hi:Nat} {v:Value} {x:Rp} (h:RepI w lo hi v x):RpR w w.heap.size v x:=by
 obtain⟨f,t,d,m,vs,mi,e,h1,h2,h3,h4,h5,h6,_,h7,h8⟩:=h;exact⟨f,t,d,m,e,h1.rd,h2.rd,h3.rd,OutM.rd h4 h5 (fun p hp=>(h6.1 p hp).rd) h8,h7⟩
theorem RepI.chg {w w':World} {lo hi lo' hi':Nat} {v:Value} {x:Rp} (h:RepI w lo hi v x) (hc:Chg lo' hi' w w') (hd:hi≤lo'∨hi'≤lo):RepI w' lo hi v x:=by
 obtain⟨f,t,d,m,vs,mi,e,h1,h2,h3,h4,h5,h6,h9,h7,h8⟩:=h;exact⟨f,t,d,m,vs,mi,e,h1.chg hc (by omega),h2.chg hc (by omega),h3.chg hc (by omega),h4.chg hc hd,h5,h6.chg hc (by omega),h9,h7,h8⟩
theorem RepI.below {w w':World} {lo hi:Nat} {v:Value} {x:Rp} (h:RepI w lo hi v x) (hb:Below w.heap.size w w'):RepI w' lo hi v x:=by
 obtain⟨f,t,d,m,vs,mi,e,h1,h2,h3,h4,h5,h6,h9,h7,h8⟩:=h;exact⟨f,t,d,m,vs,mi,e,h1.below hb,h2.below hb,h3.below hb,h4.below hb,h5,h6.below hb,h9,h7,h8⟩
theorem RepI.wider {w:World} {lo hi lo' hi':Nat} {v:Value} {x:Rp} (h:RepI w lo hi v x) (k1:lo'≤lo) (k2:hi≤hi'):RepI w lo' hi' v x:=by
 obtain⟨f,t,d,m,vs,mi,e,h1,h2,h3,h4,h5,h6,h9,h7,h8⟩:=h;exact⟨f,t,d,m,vs,mi,e,h1.wider k1 (l_ _),h2.wider k1 (l_ _),h3.wider k1 (l_ _),h4.mono k1 k2,h5,h6.mono (l_ _) k2,by omega,h7,h8⟩
theorem RepI.zero (w:World) {lo hi:Nat} (h:lo≤hi):RepI w lo hi (.agg #[.int .i64 0,.int .i64 0,.slice none 0 0,.slice none 0 0,.slice none 0 0,.slice none 0 0]) rp0 :=
 ⟨_,_,_,_,[],lo,rfl,⟨OwnI.nil _ _,by simp[Value.ownBlock]⟩,⟨OwnI.nil _ _,by simp[Value.ownBlock]⟩,⟨OwnI.nil _ _,by simp[Value.ownBlock]⟩,RowO.nil _ w lo hi,rfl,⟨fun p hp=>by simp at hp,by simp⟩,⟨l_ _,h⟩,by simp[rp0,I64],fun m hm=>by simp[rp0]at hm⟩
theorem O2_ (p:Int) (u xv:Value) (q:Qv) (d:List Int) (w0:World) (hp:I64 p) (hu:QvR w0 w0.heap.size u q) (hx:SlI w0 w0.heap.size xv d) (hq:d4_ q d=true) :
  Calls Tryz.prog 35 #[.int .i64 p,u,xv] w0 fun e w'=>∃ v,e = .returned v∧RepI w' w0.heap.size w'.heap.size v (zRep p q d)∧Below w0.heap.size w0 w':=by
 have hu':=hu;obtain⟨A,c,C,c',rfl,hf,ht,hr,lf,lt⟩:=hu.open_;obtain⟨XA,xc,rfl,_,_,lx,hx⟩:=hx.open_;clear hu;obtain⟨W,hW,g0,k1,k2⟩:=b_4 w0 #[.int .i64 q.v,.slice A q.f.length c,.slice C q.t.length c'] 26 #[.int .i64 0,.int .i64 0,.slice none 0 0,.slice none 0 0,.slice none 0 0,.slice none 0 0] 29;have sz:W.heap.size=w0.heap.size+1+1:=by rw[hW];simp
 have SZ:=h_ sz;clear sz;have HQ:=h_ hq;clear hq;have hxW:=SlI.next g0 hx;have huW:=QvR.next g0 hu';go_enter Tryz.func35,Tryz.ntmps35
 obtain⟨c0,c1,c2⟩:=c_3 k1;go_wp2_with fail
 rw[←hW];clear hW;refine (O0_ _ q _ huW).mono ?_;rintro e w1 ⟨v1,rfl,⟨qa,qb,rfl,ha,hb2,hqv⟩,hb1⟩;obtain⟨A1,a1,rfl⟩:=ha.form;obtain⟨C1,b1,rfl⟩:=hb2.form;have s1:=hb1.size;clear c0 c1 c2
 (go_wp2_with (at_builtin;refine Hold.stop ?_));unfold Hold
 refine c5_ (by rfl) (.tmp 12) (.tmp 13) (by rfl) w1.heap.size w1.heap.size (w1.alloc (.cells #[] 3)).heap.size #[] (by rfl) (Blk.new _ _ _) rfl (l_ _) XA xc d (by rfl) (SlI.next (a2_ _ _) (SlI.next hb1 hxW)) ?_;intro v2 w2 ho hb2';obtain⟨E1,e1,rfl,_,_⟩:=ho.form;have hb3:Below w1.heap.size w1 w2:=a6_ (a2_ _ _) hb2';have s2:=hb3.size;have s2':=hb2'.size;obtain⟨W3,hW3⟩:∃ W3,W3=(w2.alloc (.cells #[] 41)).alloc (.cells #[.int .i64 p,.int .i64 q.v,.slice A1 q.f.length a1,.slice C1 q.t.length b1,.slice E1 d.length e1,.slice (some ⟨w2.heap.size,0,none⟩) 0 0] 29):=⟨_,rfl⟩;have gA:Below w2.heap.size w2 W3:=by rw[hW3];exact ((Below.refl _ _).alloc (l_ _) _).alloc (by simp) _
 have z3:W3.heap.size=w2.heap.size+1+1:=by rw[hW3];simp
 have hBm3:Blk W3 w2.heap.size 41 #[]:=by rw[hW3];exact (Blk.new _ _ _).alloc _
 have hB3:Blk W3 (w2.heap.size+1) 29 #[.int .i64 p,.int .i64 q.v,.slice A1 q.f.length a1,.slice C1 q.t.length b1,.slice E1 d.length e1,.slice (some ⟨w2.heap.size,0,none⟩) 0 0]:=by
  rw[hW3];have:=Blk.new (w2.alloc (.cells #[] 41)) 29 #[.int .i64 p,.int .i64 q.v,.slice A1 q.f.length a1,.slice C1 q.t.length b1,.slice E1 d.length e1,.slice (some ⟨w2.heap.size,0,none⟩) 0 0];simpa only[l3_] using this
 have g1:Below W.heap.size W w2:=a6_ hb1 hb3;have gW3:Below W.heap.size W W3:=a6_ g1 gA;have sW:=g1.size;simp only[l3_]at s2';have hO3:RowO 41 3 W3 W.heap.size W3.heap.size (.slice (some ⟨w2.heap.size,0,none⟩) 0 0) 0 []:=by
  have:=hBm3.own (base:=W.heap.size) (n:=0) (cap:=0) (size:=3) sW (l_ _) (by simp only[maxLen];omega) (by simp);exact⟨by simpa using this,fun k hk=>by simp[Value.ownBlock]at hk;subst hk;exact hBm3.lt,by omega⟩
 have ha3:a9_ W3 W.heap.size W3.heap.size (.slice A1 q.f.length a1) q.f:=((ha.below hb3).below gA).wider (l_ _) (by omega);have hb3':a9_ W3 W.heap.size W3.heap.size (.slice C1 q.t.length b1) q.t:=((hb2.below hb3).below gA).wider (l_ _) (by omega);have hd3:a9_ W3 W.heap.size W3.heap.size (.slice E1 d.length e1) d:=((a9_.of_own ho).below gA).wider (by omega) (by omega);have hgR:W.heap.size≤(w2.heap.size+1):=by omega
 have q1':W3.cell? ⟨w0.heap.size,1,none⟩=some (.slice A q.f.length c):=(k1.below gW3 (by have:=SZ.out;omega)).cell' (i:=1) rfl;have q1'':w2.cell? ⟨w0.heap.size,1,none⟩=some (.slice A q.f.length c):=(k1.below g1 (by have:=SZ.out;omega)).cell' (i:=1) rfl;have hlt0:w0.heap.size<w2.heap.size:=by have:=SZ.out;omega
 have K1:=h_ k1;have K2:=h_ k2;have G0:=h_ g0;have HA3:=h_ ha3;have HB3:=h_ hb3';have HD3:=h_ hd3;have H3:=h_ hB3;have O3:=h_ hO3;have GW3:=h_ gW3;have HGR:=h_ (show (w2.heap.size+1)<W3.heap.size by omega);clear ho ha hb2 hBm3 ha3 hb3 hb3' hd3 hB3 hO3 gW3 k1 k2 g0 hb1 hb2' gA g1 s1 s2 s2' sW z3;go_wp2;rw[←hW3];clear hW3 q1' q1'';go_loopw [8] (fun i wr=>∃ (k:Nat) (mv:Value) (vs:List Value),k≤q.f.length∧i = .int .i64 k∧Below W.heap.size W wr∧W3.heap.size≤wr.heap.size∧Blk wr (w2.heap.size+1) 29 #[.int .i64 p,.int .i64 q.v,.slice A1 q.f.length a1,.slice C1 q.t.length b1,.slice E1 d.length e1,mv] ∧
  a9_ wr W.heap.size W3.heap.size (.slice A1 q.f.length a1) q.f∧a9_ wr W.heap.size W3.heap.size (.slice C1 q.t.length b1) q.t∧a9_ wr W.heap.size W3.heap.size (.slice E1 d.length e1) d ∧
  RowO 41 3 wr W.heap.size wr.heap.size mv k (mxCs vs (zms q d k))∧vs.length=k∧Fam wr W3.heap.size wr.heap.size (vs.zip ((zms q d k).map Mx.a))) (fun i _=>q.f.length-(intOf i).toNat)
 case atStart=>exact⟨0,_,[],l0_ _,rfl,GW3.out,l_ _,H3.out,HA3.out,HB3.out,HD3.out,O3.out,rfl,⟨fun p hp=>by simp at hp,by simp⟩⟩
 case round =>
  obtain⟨k,mv,vs,hk,rfl,hbel,hlt2,hB,hIa,hIb,hId,hO,hvl,hF⟩:=hrel;have HVL:=h_ hvl;clear hvl;have kq:=(K1.out).below hbel (by have:=SZ.out;omega);have p1:=kq.cell' (i:=1) rfl;by_cases hlt:k<q.f.length
  ·obtain⟨nf,nt,yf,yt,ef,et,df,dt,lnf,lnt,lnf5,lnt5,hkt0⟩:=K0_ (x:=⟨0,q,d,[]⟩) HQ.out hlt;simp only at ef et df dt lnf lnt hkt0;have hkf:=hlt;have hd:=(b7_.1 HQ.out).2.2.1;have hlf6:q.f.length≤6:=(g4_.1 (b7_.1 HQ.out).1).2.2.1;have byf:=hd _ (l4_ df);have byt:=hd _ (l4_ dt);have HZS:=h_ (a1z ef et df dt);clear hd;have hkt:=hkt0;obtain⟨bf,of_,xf,eA,hbf,HXF,f1,_⟩:=SlI.at_ hf hkf;obtain⟨bt,ot,xt,eC,hbt,HXT,t1,_⟩:=SlI.at_ ht hkt;obtain⟨bd,od,xdf,eX,hbd,HXDF,d1,_⟩:=SlI.at_ hx lnf;obtain⟨bd',od',xdt,eX',hbd',HXDT,d2,_⟩:=SlI.at_ hx lnt;subst eA eC eX;injection eX' with eX'
   injection eX' with e1 e2
   subst e1 e2;have q1:=HXF.out;rw[ef]at q1;injection q1 with q1
   subst q1;have q2:=HXT.out;rw[et]at q2;injection q2 with q2
   subst q2;have q3:=HXDF.out;rw[df]at q3;injection q3 with q3
   subst q3;have q4:=HXDT.out;rw[dt]at q4;injection q4 with q4
   subst q4;clear HXF HXT HXDF HXDT ef et df dt;have gw:Below w0.heap.size w0 wr:=G0.out.trans (hbel.mono (G0.out).size);have gws:=gw.size;have hbelS:=hbel.size;have sz:=SZ.out;have a1':(0:Int)≤(k:Int):=by omega
   have a2':(k:Int)<q.f.length:=by omega
   have a3':(k:Int)<q.t.length:=by omega
   have a4':(0:Int)≤(nf:Int):=by omega
   have a5':(nf:Int)<d.length:=by omega
   have a6':(0:Int)≤(nt:Int):=by omega
   have a7':(nt:Int)<d.length:=by omega
   have SZ2:=h_ sz;clear sz;go_wp2;refine a8_ (by kernel_rfl) [.eq (.pointer (some ⟨w2.heap.size+1,5,none⟩)),.eq (mv),.eq (.slice (some ⟨bd,od,none⟩) d.length xc),.eq (.pointer (some ⟨w0.heap.size,2,none⟩)),.eq (.slice (some ⟨bt,ot,none⟩) q.t.length c'),.eq (.int .i64 k),.eq (.pointer (some ⟨bt,ot+k,none⟩)),.eq (.int .i64 nt),.eq (.pointer (some ⟨bd,od+nt,none⟩)),.eq (.int .i64 yt),.eq (.slice (some ⟨bd,od,none⟩) d.length xc),.eq (.pointer (some ⟨w0.heap.size,1,none⟩)),.eq (.slice (some ⟨bf,of_,none⟩) q.f.length c),.eq (.int .i64 k),.eq (.pointer (some ⟨bf,of_+k,none⟩)),.eq (.int .i64 nf),.eq (.pointer (some ⟨bd,od+nf,none⟩)),.eq (.int .i64 yf),rel 18 (fun u lo hi w=>MxO w lo hi u (zmx yt yf)),.rel (fun x w=>∃ g s,x.v 19 = .slice (some ⟨g,0,none⟩) 1 1∧x.v 18 = .agg #[.int .i64 yt,.int .i64 yf,s]∧Blk w g 41 #[.int .i64 yt,.int .i64 yf,s])] [[],[0],[],[],[3],[],[3,4,5],[3,4,5,6],[2,3,4,5,6,7],[2,3,4,5,6,7,8],[],[],[11],[],[11,12,13],[11,12,13,14],[10,11,12,13,14,15],[10,11,12,13,14,15,16],[2,3,4,5,6,7,8,9,10,11,12,13,14,15,16,17],[2,3,4,5,6,7,8,9,10,11,12,13,14,15,16,17,18],[0,1,2,3,4,5,6,7,8,9,10,11,12,13,14,15,16,17,18,19],[0,1,2,3,4,5,6,7,8,9,10,11,12,13,14,15,16,17,18,19,20],[0,1,2,3,4,5,6,7,8,9,10,11,12,13,14,15,16,17,18,19,20,21]] 20 (by kernel_rfl) ⟨trivial,trivial,trivial,trivial,trivial,trivial,trivial,trivial,trivial,trivial,trivial,trivial,trivial,trivial,trivial,trivial,trivial,trivial,a4_ (fun u lo hi w w' h hb=>h.below hb),fun x w w' ⟨g,s,e1,e2,h⟩ hb=>⟨g,s,e1,e2,h.call hb⟩,trivial⟩ ⟨?_,?_,?_,?_,?_,?_,?_,?_,?_,?_,?_,?_,?_,?_,?_,?_,?_,?_,?_,?_,trivial⟩ ?_;iterate 20 (intro x w hb hk Q' hQ;have he:=k_e hk;simp only[k_s]at he;simp only[netE]at hQ⊢;(try simp only[he]at hQ⊢);(try clear he);rotate_left)
   rotate_left
   ·clear hk;go_wp2;exact hQ _ _ br_ rfl
   ·clear hk;have z5:=(hB.call hb).cell' (i:=5) rfl;go_wp2;exact hQ _ _ br_ rfl
   iterate 2 (· clear hk;go_wp2;exact hQ _ _ br_ rfl)
   ·clear hk;have z2:=(kq.call hb).cell' (i:=2) rfl;go_wp2;exact hQ _ _ br_ rfl
   iterate 2 (· clear hk;go_wp2;exact hQ _ _ br_ rfl)
   ·clear hk;have z2:=a7_ hb (by omega) (a7_ gw hbt t1);go_wp2;exact hQ _ _ br_ rfl
   ·clear hk;go_wp2;exact hQ _ _ br_ rfl
   ·clear hk;have z2:=a7_ hb (by omega) (a7_ gw hbd' d2);go_wp2;exact hQ _ _ br_ rfl
   iterate 2 (· clear hk;go_wp2;exact hQ _ _ br_ rfl)
   ·clear hk;have z2:=(kq.call hb).cell' (i:=1) rfl;go_wp2;exact hQ _ _ br_ rfl
   iterate 2 (· clear hk;go_wp2;exact hQ _ _ br_ rfl)
   ·clear hk;have z2:=a7_ hb (by omega) (a7_ gw hbf f1);go_wp2;exact hQ _ _ br_ rfl
   ·clear hk;go_wp2;exact hQ _ _ br_ rfl
   ·clear hk;have z2:=a7_ hb (by omega) (a7_ gw hbd d1);go_wp2;exact hQ _ _ br_ rfl
   ·clear hk;go_wp2_with fail
    refine (n4_ yt yf _ byt.1 byf.1 (by omega) (by omega)).mono ?_;rintro e w3 ⟨v3,rfl,hZ,hb3⟩;go_wp2;exact hQ _ _ hb3 hZ
   ·have h18:MxO w (x.lo 18) (x.hi 18) (x.v 18) (zmx yt yf):=(hk 18 (by decide)).1;have s18:=(hk 18 (by decide)).2;clear hk;obtain⟨s,e14,hs⟩:=h18;obtain⟨sA,sc,es⟩:=hs.1.form;obtain⟨sn,hsn⟩:=e_ ((zmx yt yf).a.length);rw[hsn]at es;clear hsn hs;subst es;have hQ':=hQ (.slice (some ⟨w.heap.size,0,none⟩) 1 1) (w.alloc (.cells #[.int .i64 yt,.int .i64 yf,.slice sA sn sc] 41)) (a2_ _ _) ⟨_,_,rfl,e14,Blk.new _ _ _⟩;simp only[zmx]at e14;rw[e14]at hQ'⊢;go_wp2;exact hQ'
   ·intro x w hb hk hiv hdj;have h18:MxO w (x.lo 18) (x.hi 18) (x.v 18) (zmx yt yf):=hk 18 (by decide);have h19:∃ g s,x.v 19 = .slice (some ⟨g,0,none⟩) 1 1∧x.v 18 = .agg #[.int .i64 yt,.int .i64 yf,s]∧Blk w g 41 #[.int .i64 yt,.int .i64 yf,s]:=hk 19 (by decide);have he:=k_g hk [0,1,2,3,4,5,6,7,8,9,10,11,12,13,14,15,16,17];simp only[k_s]at he;simp only[netE,he];clear he hk;obtain⟨g,s,e15,e14,hg⟩:=h19;have l14:=(hiv 18 (by decide)).1;have h14i:=(hiv 18 (by decide)).2.2;obtain⟨s',e14',hs,_⟩:=h18;rw[e14]at e14';simp only[Value.agg.injEq,Array.mk.injEq,List.cons.injEq,and_true,zmx,true_and]at e14';subst e14';rw[e15];have hO':=hO.below hb;have hF':=(hF.below hb).snoc (hs.wider l14 h14i) (by omega) hb.size;have hB':=hB.call hb;have hIa':=hIa.below hb;have hIb':=hIb.below hb;have hId':=hId.below hb;have gb2:Below W.heap.size W w:=hbel.trans (hb.mono hbelS);have hbs2:=hb.size;have hLen:=h_ (r0_ q d k);have HF':=h_ hF';have hO'':OutM w W.heap.size wr.heap.size mv vs (zms q d k):=by rw[OutM,hLen.out];exact hO'
    have HC:=h_ hs.cell;clear hiv hdj hs hF' hO' hO hF e14 e15 hb hB hIa hIb hId;refine u6_ (by rfl) (.tmp 25) (.tmp 43) (by rfl) W.heap.size wr.heap.size mv vs (zms q d k) (by rfl) hO'' (by rw[HVL.out,hLen.out]) g 1 (zmx yt yf) s (by rfl) hg HC.out (by rw[hLen.out];omega) (by omega) ?_;intro v' w' hO3 hA;obtain⟨n9,hn9⟩:=e_ ((zms q d k ++ [zmx yt yf]).length);rw[OutM,hn9]at hO3;have HN9:=h_ (show n9=k+1 by rw[←hn9];simp[hLen.out]);clear hn9;obtain⟨A9,c9,ev,_,_⟩:=hO3.form;subst ev;have hB3:=hA.other _ _ _ (by decide) hB';have z5:=hB3.cell' (i:=5) rfl;have fr:=hB3.frozen;have gb3:Below W.heap.size W w':=gb2.trans (hA.below (l_ _) (by omega));have hs3:=hA.size;have hF3':=HF'.out.appT (by decide) hA;have HF3':=h_ hF3';have HO3:=h_ hO3;have HIa:=h_ (hIa'.appT (by decide) hA);have HIb:=h_ (hIb'.appT (by decide) hA);have HId:=h_ (hId'.appT (by decide) hA);clear hF3' hO3 HF' hO'' hA gb2 hg hIa' hIb' hId';go_wp2;go_roundw
    case rel =>
     have ti:AppT 29 W.heap.size w' (w'.setCell ⟨w2.heap.size+1,5,none⟩ (.slice A9 n9 c9)):=AppT.set hB3 rfl hgR;refine⟨k+1,.slice A9 n9 c9,vs ++ [s],by omega,by go_num,gb3.setCell (by simpa using hgR) _,by simp;omega,hB3.set_ 5 _,HIa.out.appT (by decide) ti,HIb.out.appT (by decide) ti,HId.out.appT (by decide) ti,?_,by simp[HVL.out],?_⟩
     ·have:=HO3.out.set hB3 (by decide) 5 (.slice A9 n9 c9);rw[HZS.out];rw[HN9.out]at this⊢;simpa using this
     ·have h1:=HF3'.out.setBlk (i:=5) hB3 (by decide) (.slice A9 n9 c9);have e:(vs ++ [s]).zip ((zms q d (k+1)).map Mx.a)=vs.zip ((zms q d k).map Mx.a) ++ [(s,List.replicate (yt*yf).toNat 0)]:=by
       rw[HZS.out,List.map_append,List.zip_append (by simp[HVL.out,hLen.out])];rfl
      rw[e];exact h1.mono (l_ _) (by simp;omega)
    case measure=>simp[intOf];omega
  ·obtain rfl:k=q.f.length:=by omega
   have hbs:=hbel.size;obtain⟨H1,h1,rfl,_,_⟩:=hO.form;have hI:=h_ (b7q HQ.out q.f.length (l_ _));have hL:=r0_ q d q.f.length;have hO':OutM wr W.heap.size wr.heap.size (.slice H1 q.f.length h1) vs (zms q d q.f.length):=by rw[OutM,hL];exact hO
   have hbW3:=(GW3.out).size;have hR:RepI wr W.heap.size wr.heap.size (.agg #[.int .i64 p,.int .i64 q.v,.slice A1 q.f.length a1,.slice C1 q.t.length b1,.slice E1 d.length e1,.slice H1 q.f.length h1]) (zRep p q d) :=
    ⟨_,_,_,_,vs,W3.heap.size,rfl,hIa,hIb,hId,hO',by rw[HVL.out];exact hL.symm,hF,⟨hbW3,hlt2⟩,⟨hp,hqv⟩,hI.out⟩
   have HR:=h_ hR;have k2':=(K2.out).below hbel (by have:=SZ.out;omega);obtain⟨r0,r1,r2,r3,r4,r5⟩:=c_6 hB;obtain⟨s0,s1,s2,s3,s4,s5⟩:=c_6 k2';have fr:=k2'.frozen;have GF:=h_ (G0.out.trans (hbel.mono (G0.out).size));have HBS:=h_ hbs;clear hR hO' hL hO hF hB k2' kq hIa hIb hId hbs hbW3;go_wp2;have sz:=SZ.out;have hbs:=HBS.out;have gf:=GF.out;refine bodyPost_ret (v:=.agg #[.int .i64 p,.int .i64 q.v,.slice A1 q.f.length a1,.slice C1 q.t.length b1,.slice E1 d.length e1,.slice H1 q.f.length h1]) (by simp[results,go_sem,s0,s1,s2,s3,s4,s5]) rfl ⟨_,rfl,RepI.wider (lo:=W.heap.size) (hi:=wr.heap.size) ?_ (by omega) (by simp),(((((gf.setCell (by simp) _).setCell (by simp) _).setCell (by simp) _).setCell (by simp) _).setCell (by simp) _).setCell (by simp) _⟩;have hc:Chg (w0.heap.size+1) (w0.heap.size+1+1) wr _:=(((((b4_ (w:=wr) (p:=⟨w0.heap.size+1,0,none⟩) (u:=.int .i64 p) (by simp) (by simp)).trans (b4_ (p:=⟨w0.heap.size+1,1,none⟩) (u:=.int .i64 q.v) (by simp) (by simp))).trans (b4_ (p:=⟨w0.heap.size+1,2,none⟩) (u:=.slice A1 q.f.length a1) (by simp) (by simp))).trans (b4_ (p:=⟨w0.heap.size+1,3,none⟩) (u:=.slice C1 q.t.length b1) (by simp) (by simp))).trans (b4_ (p:=⟨w0.heap.size+1,4,none⟩) (u:=.slice E1 d.length e1) (by simp) (by simp))).trans (b4_ (p:=⟨w0.heap.size+1,5,none⟩) (u:=.slice H1 q.f.length h1) (by simp) (by simp));exact HR.out.chg hc (.inr (by omega))
def Sep3 (v:Value):Prop:=∃ P V f t d m m1,v = .agg #[P,V,f,t,d,m]∧(∀ k,f.ownBlock=some k→k<m1)∧(∀ k,t.ownBlock=some k→k<m1)∧∀ k,d.ownBlock=some k→m1≤k
theorem Y8_ (p:Int) (u xv:Value) (q:Qv) (d:List Int) (w0:World) (hp:I64 p) (hu:QvR w0 w0.heap.size u q) (hx:SlI w0 w0.heap.size xv d) (hq:d4_ q d=true) :
  Calls Tryz.prog 35 #[.int .i64 p,u,xv] w0 fun e w'=>∃ v,e = .returned v∧RepI w' w0.heap.size w'.heap.size v (zRep p q d)∧Sep3 v∧Below w0.heap.size w0 w':=by
 have hu':=hu;obtain⟨A,c,C,c',rfl,hf,ht,hr,lf,lt⟩:=hu.open_;obtain⟨XA,xc,rfl,_,_,lx,hx⟩:=hx.open_;clear hu;obtain⟨W,hW,g0,k1,k2⟩:=b_4 w0 #[.int .i64 q.v,.slice A q.f.length c,.slice C q.t.length c'] 26 #[.int .i64 0,.int .i64 0,.slice none 0 0,.slice none 0 0,.slice none 0 0,.slice none 0 0] 29;have sz:W.heap.size=w0.heap.size+1+1:=by rw[hW];simp
 have SZ:=h_ sz;clear sz;have HQ:=h_ hq;clear hq;have hxW:=SlI.next g0 hx;have huW:=QvR.next g0 hu';go_enter Tryz.func35,Tryz.ntmps35
 obtain⟨c0,c1,c2⟩:=c_3 k1;go_wp2_with fail
 rw[←hW];clear hW;refine (O0_ _ q _ huW).mono ?_;rintro e w1 ⟨v1,rfl,⟨qa,qb,rfl,ha,hb2,hqv⟩,hb1⟩;obtain⟨A1,a1,rfl⟩:=ha.form;obtain⟨C1,b1,rfl⟩:=hb2.form;have s1:=hb1.size;clear c0 c1 c2
 (go_wp2_with (at_builtin;refine Hold.stop ?_));unfold Hold
 refine c5_ (by rfl) (.tmp 12) (.tmp 13) (by rfl) w1.heap.size w1.heap.size (w1.alloc (.cells #[] 3)).heap.size #[] (by rfl) (Blk.new _ _ _) rfl (l_ _) XA xc d (by rfl) (SlI.next (a2_ _ _) (SlI.next hb1 hxW)) ?_;intro v2 w2 ho hb2';obtain⟨E1,e1,rfl,_,_⟩:=ho.form;have hb3:Below w1.heap.size w1 w2:=a6_ (a2_ _ _) hb2';have s2:=hb3.size;have s2':=hb2'.size;obtain⟨W3,hW3⟩:∃ W3,W3=(w2.alloc (.cells #[] 41)).alloc (.cells #[.int .i64 p,.int .i64 q.v,.slice A1 q.f.length a1,.slice C1 q.t.length b1,.slice E1 d.length e1,.slice (some ⟨w2.heap.size,0,none⟩) 0 0] 29):=⟨_,rfl⟩;have gA:Below w2.heap.size w2 W3:=by rw[hW3];exact ((Below.refl _ _).alloc (l_ _) _).alloc (by simp) _
 have z3:W3.heap.size=w2.heap.size+1+1:=by rw[hW3];simp
 have hBm3:Blk W3 w2.heap.size 41 #[]:=by rw[hW3];exact (Blk.new _ _ _).alloc _
 have hB3:Blk W3 (w2.heap.size+1) 29 #[.int .i64 p,.int .i64 q.v,.slice A1 q.f.length a1,.slice C1 q.t.length b1,.slice E1 d.length e1,.slice (some ⟨w2.heap.size,0,none⟩) 0 0]:=by
  rw[hW3];have:=Blk.new (w2.alloc (.cells #[] 41)) 29 #[.int .i64 p,.int .i64 q.v,.slice A1 q.f.length a1,.slice C1 q.t.length b1,.slice E1 d.length e1,.slice (some ⟨w2.heap.size,0,none⟩) 0 0];simpa only[l3_] using this
 have g1:Below W.heap.size W w2:=a6_ hb1 hb3;have gW3:Below W.heap.size W W3:=a6_ g1 gA;have sW:=g1.size;simp only[l3_]at s2';have hO3:RowO 41 3 W3 W.heap.size W3.heap.size (.slice (some ⟨w2.heap.size,0,none⟩) 0 0) 0 []:=by
  have:=hBm3.own (base:=W.heap.size) (n:=0) (cap:=0) (size:=3) sW (l_ _) (by simp only[maxLen];omega) (by simp);exact⟨by simpa using this,fun k hk=>by simp[Value.ownBlock]at hk;subst hk;exact hBm3.lt,by omega⟩
 have SA:=h_ ha.2;have SB:=h_ hb2.2;have SE:=h_ fun k hk=>(ho.lt k hk).1
 have ha3:a9_ W3 W.heap.size W3.heap.size (.slice A1 q.f.length a1) q.f:=((ha.below hb3).below gA).wider (l_ _) (by omega);have hb3':a9_ W3 W.heap.size W3.heap.size (.slice C1 q.t.length b1) q.t:=((hb2.below hb3).below gA).wider (l_ _) (by omega);have hd3:a9_ W3 W.heap.size W3.heap.size (.slice E1 d.length e1) d:=((a9_.of_own ho).below gA).wider (by omega) (by omega);have hgR:W.heap.size≤(w2.heap.size+1):=by omega
 have q1':W3.cell? ⟨w0.heap.size,1,none⟩=some (.slice A q.f.length c):=(k1.below gW3 (by have:=SZ.out;omega)).cell' (i:=1) rfl;have q1'':w2.cell? ⟨w0.heap.size,1,none⟩=some (.slice A q.f.length c):=(k1.below g1 (by have:=SZ.out;omega)).cell' (i:=1) rfl;have hlt0:w0.heap.size<w2.heap.size:=by have:=SZ.out;omega
 have K1:=h_ k1;have K2:=h_ k2;have G0:=h_ g0;have HA3:=h_ ha3;have HB3:=h_ hb3';have HD3:=h_ hd3;have H3:=h_ hB3;have O3:=h_ hO3;have GW3:=h_ gW3;have HGR:=h_ (show (w2.heap.size+1)<W3.heap.size by omega);clear ho ha hb2 hBm3 ha3 hb3 hb3' hd3 hB3 hO3 gW3 k1 k2 g0 hb1 hb2' gA g1 s1 s2 s2' sW z3;go_wp2;rw[←hW3];clear hW3 q1' q1'';go_loopw [8] (fun i wr=>∃ (k:Nat) (mv:Value) (vs:List Value),k≤q.f.length∧i = .int .i64 k∧Below W.heap.size W wr∧W3.heap.size≤wr.heap.size∧Blk wr (w2.heap.size+1) 29 #[.int .i64 p,.int .i64 q.v,.slice A1 q.f.length a1,.slice C1 q.t.length b1,.slice E1 d.length e1,mv] ∧
  a9_ wr W.heap.size W3.heap.size (.slice A1 q.f.length a1) q.f∧a9_ wr W.heap.size W3.heap.size (.slice C1 q.t.length b1) q.t∧a9_ wr W.heap.size W3.heap.size (.slice E1 d.length e1) d ∧
  RowO 41 3 wr W.heap.size wr.heap.size mv k (mxCs vs (zms q d k))∧vs.length=k∧Fam wr W3.heap.size wr.heap.size (vs.zip ((zms q d k).map Mx.a))) (fun i _=>q.f.length-(intOf i).toNat)
 case atStart=>exact⟨0,_,[],l0_ _,rfl,GW3.out,l_ _,H3.out,HA3.out,HB3.out,HD3.out,O3.out,rfl,⟨fun p hp=>by simp at hp,by simp⟩⟩
 case round =>
  obtain⟨k,mv,vs,hk,rfl,hbel,hlt2,hB,hIa,hIb,hId,hO,hvl,hF⟩:=hrel;have HVL:=h_ hvl;clear hvl;have kq:=(K1.out).below hbel (by have:=SZ.out;omega);have p1:=kq.cell' (i:=1) rfl;by_cases hlt:k<q.f.length
  ·obtain⟨nf,nt,yf,yt,ef,et,df,dt,lnf,lnt,lnf5,lnt5,hkt0⟩:=K0_ (x:=⟨0,q,d,[]⟩) HQ.out hlt;simp only at ef et df dt lnf lnt hkt0;have hkf:=hlt;have hd:=(b7_.1 HQ.out).2.2.1;have hlf6:q.f.length≤6:=(g4_.1 (b7_.1 HQ.out).1).2.2.1;have byf:=hd _ (l4_ df);have byt:=hd _ (l4_ dt);have HZS:=h_ (a1z ef et df dt);clear hd;have hkt:=hkt0;obtain⟨bf,of_,xf,eA,hbf,HXF,f1,_⟩:=SlI.at_ hf hkf;obtain⟨bt,ot,xt,eC,hbt,HXT,t1,_⟩:=SlI.at_ ht hkt;obtain⟨bd,od,xdf,eX,hbd,HXDF,d1,_⟩:=SlI.at_ hx lnf;obtain⟨bd',od',xdt,eX',hbd',HXDT,d2,_⟩:=SlI.at_ hx lnt;subst eA eC eX;injection eX' with eX'
   injection eX' with e1 e2
   subst e1 e2;have q1:=HXF.out;rw[ef]at q1;injection q1 with q1
   subst q1;have q2:=HXT.out;rw[et]at q2;injection q2 with q2
   subst q2;have q3:=HXDF.out;rw[df]at q3;injection q3 with q3
   subst q3;have q4:=HXDT.out;rw[dt]at q4;injection q4 with q4
   subst q4;clear HXF HXT HXDF HXDT ef et df dt;have gw:Below w0.heap.size w0 wr:=G0.out.trans (hbel.mono (G0.out).size);have gws:=gw.size;have hbelS:=hbel.size;have sz:=SZ.out;have a1':(0:Int)≤(k:Int):=by omega
   have a2':(k:Int)<q.f.length:=by omega
   have a3':(k:Int)<q.t.length:=by omega
   have a4':(0:Int)≤(nf:Int):=by omega
   have a5':(nf:Int)<d.length:=by omega
   have a6':(0:Int)≤(nt:Int):=by omega
   have a7':(nt:Int)<d.length:=by omega
   have SZ2:=h_ sz;clear sz;go_wp2;refine a8_ (by kernel_rfl) [.eq (.pointer (some ⟨w2.heap.size+1,5,none⟩)),.eq (mv),.eq (.slice (some ⟨bd,od,none⟩) d.length xc),.eq (.pointer (some ⟨w0.heap.size,2,none⟩)),.eq (.slice (some ⟨bt,ot,none⟩) q.t.length c'),.eq (.int .i64 k),.eq (.pointer (some ⟨bt,ot+k,none⟩)),.eq (.int .i64 nt),.eq (.pointer (some ⟨bd,od+nt,none⟩)),.eq (.int .i64 yt),.eq (.slice (some ⟨bd,od,none⟩) d.length xc),.eq (.pointer (some ⟨w0.heap.size,1,none⟩)),.eq (.slice (some ⟨bf,of_,none⟩) q.f.length c),.eq (.int .i64 k),.eq (.pointer (some ⟨bf,of_+k,none⟩)),.eq (.int .i64 nf),.eq (.pointer (some ⟨bd,od+nf,none⟩)),.eq (.int .i64 yf),rel 18 (fun u lo hi w=>MxO w lo hi u (zmx yt yf)),.rel (fun x w=>∃ g s,x.v 19 = .slice (some ⟨g,0,none⟩) 1 1∧x.v 18 = .agg #[.int .i64 yt,.int .i64 yf,s]∧Blk w g 41 #[.int .i64 yt,.int .i64 yf,s])] [[],[0],[],[],[3],[],[3,4,5],[3,4,5,6],[2,3,4,5,6,7],[2,3,4,5,6,7,8],[],[],[11],[],[11,12,13],[11,12,13,14],[10,11,12,13,14,15],[10,11,12,13,14,15,16],[2,3,4,5,6,7,8,9,10,11,12,13,14,15,16,17],[2,3,4,5,6,7,8,9,10,11,12,13,14,15,16,17,18],[0,1,2,3,4,5,6,7,8,9,10,11,12,13,14,15,16,17,18,19],[0,1,2,3,4,5,6,7,8,9,10,11,12,13,14,15,16,17,18,19,20],[0,1,2,3,4,5,6,7,8,9,10,11,12,13,14,15,16,17,18,19,20,21]] 20 (by kernel_rfl) ⟨trivial,trivial,trivial,trivial,trivial,trivial,trivial,trivial,trivial,trivial,trivial,trivial,trivial,trivial,trivial,trivial,trivial,trivial,a4_ (fun u lo hi w w' h hb=>h.below hb),fun x w w' ⟨g,s,e1,e2,h⟩ hb=>⟨g,s,e1,e2,h.call hb⟩,trivial⟩ ⟨?_,?_,?_,?_,?_,?_,?_,?_,?_,?_,?_,?_,?_,?_,?_,?_,?_,?_,?_,?_,trivial⟩ ?_;iterate 20 (intro x w hb hk Q' hQ;have he:=k_e hk;simp only[k_s]at he;simp only[netE]at hQ⊢;(try simp only[he]at hQ⊢);(try clear he);rotate_left)
   rotate_left
   ·clear hk;go_wp2;exact hQ _ _ br_ rfl
   ·clear hk;have z5:=(hB.call hb).cell' (i:=5) rfl;go_wp2;exact hQ _ _ br_ rfl
   iterate 2 (· clear hk;go_wp2;exact hQ _ _ br_ rfl)
   ·clear hk;have z2:=(kq.call hb).cell' (i:=2) rfl;go_wp2;exact hQ _ _ br_ rfl
   iterate 2 (· clear hk;go_wp2;exact hQ _ _ br_ rfl)
   ·clear hk;have z2:=a7_ hb (by omega) (a7_ gw hbt t1);go_wp2;exact hQ _ _ br_ rfl
   ·clear hk;go_wp2;exact hQ _ _ br_ rfl
   ·clear hk;have z2:=a7_ hb (by omega) (a7_ gw hbd' d2);go_wp2;exact hQ _ _ br_ rfl
   iterate 2 (· clear hk;go_wp2;exact hQ _ _ br_ rfl)
   ·clear hk;have z2:=(kq.call hb).cell' (i:=1) rfl;go_wp2;exact hQ _ _ br_ rfl
   iterate 2 (· clear hk;go_wp2;exact hQ _ _ br_ rfl)
   ·clear hk;have z2:=a7_ hb (by omega) (a7_ gw hbf f1);go_wp2;exact hQ _ _ br_ rfl
   ·clear hk;go_wp2;exact hQ _ _ br_ rfl
   ·clear hk;have z2:=a7_ hb (by omega) (a7_ gw hbd d1);go_wp2;exact hQ _ _ br_ rfl
   ·clear hk;go_wp2_with fail
    refine (n4_ yt yf _ byt.1 byf.1 (by omega) (by omega)).mono ?_;rintro e w3 ⟨v3,rfl,hZ,hb3⟩;go_wp2;exact hQ _ _ hb3 hZ
   ·have h18:MxO w (x.lo 18) (x.hi 18) (x.v 18) (zmx yt yf):=(hk 18 (by decide)).1;have s18:=(hk 18 (by decide)).2;clear hk;obtain⟨s,e14,hs⟩:=h18;obtain⟨sA,sc,es⟩:=hs.1.form;obtain⟨sn,hsn⟩:=e_ ((zmx yt yf).a.length);rw[hsn]at es;clear hsn hs;subst es;have hQ':=hQ (.slice (some ⟨w.heap.size,0,none⟩) 1 1) (w.alloc (.cells #[.int .i64 yt,.int .i64 yf,.slice sA sn sc] 41)) (a2_ _ _) ⟨_,_,rfl,e14,Blk.new _ _ _⟩;simp only[zmx]at e14;rw[e14]at hQ'⊢;go_wp2;exact hQ'
   ·intro x w hb hk hiv hdj;have h18:MxO w (x.lo 18) (x.hi 18) (x.v 18) (zmx yt yf):=hk 18 (by decide);have h19:∃ g s,x.v 19 = .slice (some ⟨g,0,none⟩) 1 1∧x.v 18 = .agg #[.int .i64 yt,.int .i64 yf,s]∧Blk w g 41 #[.int .i64 yt,.int .i64 yf,s]:=hk 19 (by decide);have he:=k_g hk [0,1,2,3,4,5,6,7,8,9,10,11,12,13,14,15,16,17];simp only[k_s]at he;simp only[netE,he];clear he hk;obtain⟨g,s,e15,e14,hg⟩:=h19;have l14:=(hiv 18 (by decide)).1;have h14i:=(hiv 18 (by decide)).2.2;obtain⟨s',e14',hs,_⟩:=h18;rw[e14]at e14';simp only[Value.agg.injEq,Array.mk.injEq,List.cons.injEq,and_true,zmx,true_and]at e14';subst e14';rw[e15];have hO':=hO.below hb;have hF':=(hF.below hb).snoc (hs.wider l14 h14i) (by omega) hb.size;have hB':=hB.call hb;have hIa':=hIa.below hb;have hIb':=hIb.below hb;have hId':=hId.below hb;have gb2:Below W.heap.size W w:=hbel.trans (hb.mono hbelS);have hbs2:=hb.size;have hLen:=h_ (r0_ q d k);have HF':=h_ hF';have hO'':OutM w W.heap.size wr.heap.size mv vs (zms q d k):=by rw[OutM,hLen.out];exact hO'
    have HC:=h_ hs.cell;clear hiv hdj hs hF' hO' hO hF e14 e15 hb hB hIa hIb hId;refine u6_ (by rfl) (.tmp 25) (.tmp 43) (by rfl) W.heap.size wr.heap.size mv vs (zms q d k) (by rfl) hO'' (by rw[HVL.out,hLen.out]) g 1 (zmx yt yf) s (by rfl) hg HC.out (by rw[hLen.out];omega) (by omega) ?_;intro v' w' hO3 hA;obtain⟨n9,hn9⟩:=e_ ((zms q d k ++ [zmx yt yf]).length);rw[OutM,hn9]at hO3;have HN9:=h_ (show n9=k+1 by rw[←hn9];simp[hLen.out]);clear hn9;obtain⟨A9,c9,ev,_,_⟩:=hO3.form;subst ev;have hB3:=hA.other _ _ _ (by decide) hB';have z5:=hB3.cell' (i:=5) rfl;have fr:=hB3.frozen;have gb3:Below W.heap.size W w':=gb2.trans (hA.below (l_ _) (by omega));have hs3:=hA.size;have hF3':=HF'.out.appT (by decide) hA;have HF3':=h_ hF3';have HO3:=h_ hO3;have HIa:=h_ (hIa'.appT (by decide) hA);have HIb:=h_ (hIb'.appT (by decide) hA);have HId:=h_ (hId'.appT (by decide) hA);clear hF3' hO3 HF' hO'' hA gb2 hg hIa' hIb' hId';go_wp2;go_roundw
    case rel =>
     have ti:AppT 29 W.heap.size w' (w'.setCell ⟨w2.heap.size+1,5,none⟩ (.slice A9 n9 c9)):=AppT.set hB3 rfl hgR;refine⟨k+1,.slice A9 n9 c9,vs ++ [s],by omega,by go_num,gb3.setCell (by simpa using hgR) _,by simp;omega,hB3.set_ 5 _,HIa.out.appT (by decide) ti,HIb.out.appT (by decide) ti,HId.out.appT (by decide) ti,?_,by simp[HVL.out],?_⟩
     ·have:=HO3.out.set hB3 (by decide) 5 (.slice A9 n9 c9);rw[HZS.out];rw[HN9.out]at this⊢;simpa using this
     ·have h1:=HF3'.out.setBlk (i:=5) hB3 (by decide) (.slice A9 n9 c9);have e:(vs ++ [s]).zip ((zms q d (k+1)).map Mx.a)=vs.zip ((zms q d k).map Mx.a) ++ [(s,List.replicate (yt*yf).toNat 0)]:=by
       rw[HZS.out,List.map_append,List.zip_append (by simp[HVL.out,hLen.out])];rfl
      rw[e];exact h1.mono (l_ _) (by simp;omega)
    case measure=>simp[intOf];omega
  ·obtain rfl:k=q.f.length:=by omega
   have hbs:=hbel.size;obtain⟨H1,h1,rfl,_,_⟩:=hO.form;have hI:=h_ (b7q HQ.out q.f.length (l_ _));have hL:=r0_ q d q.f.length;have hO':OutM wr W.heap.size wr.heap.size (.slice H1 q.f.length h1) vs (zms q d q.f.length):=by rw[OutM,hL];exact hO
   have hbW3:=(GW3.out).size;have hR:RepI wr W.heap.size wr.heap.size (.agg #[.int .i64 p,.int .i64 q.v,.slice A1 q.f.length a1,.slice C1 q.t.length b1,.slice E1 d.length e1,.slice H1 q.f.length h1]) (zRep p q d) :=
    ⟨_,_,_,_,vs,W3.heap.size,rfl,hIa,hIb,hId,hO',by rw[HVL.out];exact hL.symm,hF,⟨hbW3,hlt2⟩,⟨hp,hqv⟩,hI.out⟩
   have HR:=h_ hR;have k2':=(K2.out).below hbel (by have:=SZ.out;omega);obtain⟨r0,r1,r2,r3,r4,r5⟩:=c_6 hB;obtain⟨s0,s1,s2,s3,s4,s5⟩:=c_6 k2';have fr:=k2'.frozen;have GF:=h_ (G0.out.trans (hbel.mono (G0.out).size));have HBS:=h_ hbs;clear hR hO' hL hO hF hB k2' kq hIa hIb hId hbs hbW3;go_wp2;have sz:=SZ.out;have hbs:=HBS.out;have gf:=GF.out;refine bodyPost_ret (v:=.agg #[.int .i64 p,.int .i64 q.v,.slice A1 q.f.length a1,.slice C1 q.t.length b1,.slice E1 d.length e1,.slice H1 q.f.length h1]) (by simp[results,go_sem,s0,s1,s2,s3,s4,s5]) rfl ⟨_,rfl,RepI.wider (lo:=W.heap.size) (hi:=wr.heap.size) ?_ (by omega) (by simp),⟨_,_,_,_,_,_,_,rfl,SA.out,SB.out,SE.out⟩,(((((gf.setCell (by simp) _).setCell (by simp) _).setCell (by simp) _).setCell (by simp) _).setCell (by simp) _).setCell (by simp) _⟩;have hc:Chg (w0.heap.size+1) (w0.heap.size+1+1) wr _:=(((((b4_ (w:=wr) (p:=⟨w0.heap.size+1,0,none⟩) (u:=.int .i64 p) (by simp) (by simp)).trans (b4_ (p:=⟨w0.heap.size+1,1,none⟩) (u:=.int .i64 q.v) (by simp) (by simp))).trans (b4_ (p:=⟨w0.heap.size+1,2,none⟩) (u:=.slice A1 q.f.length a1) (by simp) (by simp))).trans (b4_ (p:=⟨w0.heap.size+1,3,none⟩) (u:=.slice C1 q.t.length b1) (by simp) (by simp))).trans (b4_ (p:=⟨w0.heap.size+1,4,none⟩) (u:=.slice E1 d.length e1) (by simp) (by simp))).trans (b4_ (p:=⟨w0.heap.size+1,5,none⟩) (u:=.slice H1 q.f.length h1) (by simp) (by simp));exact HR.out.chg hc (.inr (by omega))
def msF (n:Nat) (F:Nat→Mx):List Mx:=(List.range n).map F
theorem d0_ (n:Nat) (F:Nat→Mx):(msF n F).length=n:=by simp[msF]
theorem x8_ {n j:Nat} (F:Nat→Mx) (h:j<n):(msF n F)[j]?=some (F j):=by simp[msF,h]
theorem i5_ {n:Nat} {F G:Nat→Mx} (e:∀ i,i<n→F i=G i):msF n F=msF n G:=by
 apply List.ext_getElem?
 intro i;by_cases hi:i<n
 ·rw[x8_ F hi,x8_ G hi,e i hi]
 ·rw[l6_ (by rw[d0_];omega),l6_ (by rw[d0_];omega)]
theorem I8_ {n j:Nat} (F:Nat→Mx) (m:Mx):(msF n F).set j m=msF n fun i=>if i=j then m else F i:=by
 apply List.ext_getElem?
 intro i;rw[List.getElem?_set,d0_];by_cases hi:i<n
 ·rw[x8_ (fun i=>if i=j then m else F i) hi];by_cases e:j=i
  ·rw[if_pos e,if_pos (by omega),if_pos e.symm]
  ·rw[if_neg e,x8_ _ hi,if_neg (fun h=>e h.symm)]
 ·rw[l6_ (l:=msF n fun i=>if i=j then m else F i) (by rw[d0_];omega)];split
  ·rw[if_neg (by omega)]
  ·rw[l6_ (by rw[d0_];omega)]
theorem b4j:∀ (vs:List Value) (ms ms':List Mx),ms.map (fun m=>(m.r,m.c))=ms'.map (fun m=>(m.r,m.c))→mxCs vs ms=mxCs vs ms'
 | [],ms,ms',_=>by simp[mxCs]
 | v :: vs,[],ms',h=>by
  have:ms'=[]:=by simpa using h.symm
  subst this;rfl
 | v :: vs,m :: ms,[],h=>by simp at h
 | v :: vs,m :: ms,m' :: ms',h=>by
  simp only[List.map_cons,List.cons.injEq,Prod.mk.injEq]at h;simp only[mxCs,h.1.1,h.1.2,b4j vs ms ms' h.2]
theorem OutM.rc {w:World} {lo hi:Nat} {v:Value} {vs:List Value} {ms ms':List Mx} (h:OutM w lo hi v vs ms) (e:ms.map (fun m=>(m.r,m.c))=ms'.map (fun m=>(m.r,m.c))):OutM w lo hi v vs ms':=by
 have h1:=congrArg List.length e;simp only[List.length_map]at h1;have h2:=b4j vs ms ms' e;unfold OutM at h⊢;rw[←h1,←h2];exact h
theorem OutM.at_ {w:World} {lo hi lo' hi' j:Nat} {mv:Value} {vs:List Value} {ms:List Mx} {L0:List (Value×List Int)} {m:Mx} (h:OutM w lo hi mv vs ms) (hl:vs.length=ms.length) (hF:Fam w lo' hi' (L0 ++ vs.zip (ms.map Mx.a))) (hm:ms[j]?=some m) (hne:0<m.a.length) :
  ∃ gm cm g c,mv = .slice (some ⟨gm,0,none⟩) ms.length cm∧gm<w.heap.size∧vs[j]?=some (.slice (some ⟨g,0,none⟩) m.a.length c)∧w.cell? ⟨gm,j*3,none⟩=some (.int .i64 m.r)∧w.cell? ⟨gm,j*3+1,none⟩=some (.int .i64 m.c) ∧
   w.cell? ⟨gm,j*3+2,none⟩=some (.slice (some ⟨g,0,none⟩) m.a.length c)∧OwnI w lo' (.slice (some ⟨g,0,none⟩) m.a.length c) m.a∧(lo'≤g∧g<hi')∧m.a.length≤c∧c≤9223372036854775807∧ms.length≤cm∧cm≤9223372036854775807:=by
 have hj:=b0_ hm;have hv:vs[j]?=some (vs[j]'(by omega)):=l2_ (by omega);have hI:=hF.getAt hv (show (ms.map Mx.a)[j]?=some m.a by simp[hm]);obtain⟨gm,cm,cur,e,h1,h2,h3,h4⟩:=RowO.at_ h (by omega);have hml:=A1_ vs ms hl;obtain⟨a,b,c⟩:=y7_ hv hm;rcases hI.1.1.2 with ⟨e',h0⟩ | ⟨g,cap,cur',e',hg,_,hnc,hcm,_⟩
 ·omega
 ·have hf:=RowO.form h;obtain⟨A,c2,e2,l1,l2⟩:=hf;rw[e]at e2;injection e2 with e21 e22 e23
  subst e23;have h1:=h.1;subst e;have c0:=h1.cellAt (j*3) (by omega);have c1:=h1.cellAt (j*3+1) (by omega);have c3:=h1.cellAt (j*3+2) (by omega);refine⟨gm,cm,g,cap,rfl,h3,by rw[hv,e'],by rw[c0];exact a,by rw[c1];exact b,by rw[c3,←e'];exact c,by rw[←e'];exact hI.1,⟨hg,hI.2 g (by simp[e',Value.ownBlock])⟩,hnc,by simp only[maxLen]at hcm;omega,l1,l2⟩
theorem c7q {w:World} {lo hi lo' hi' j i g c:Nat} {mv:Value} {vs:List Value} {ms:List Mx} {L0:List (Value×List Int)} {m:Mx} {x:Int} (hO:OutM w lo hi mv vs ms) (hF:Fam w lo' hi' (L0 ++ vs.zip (ms.map Mx.a)))
  (hv:vs[j]?=some (.slice (some ⟨g,0,none⟩) m.a.length c)) (hm:ms[j]?=some m) (ho:OwnI w lo' (.slice (some ⟨g,0,none⟩) m.a.length c) m.a) (hx:I64 x) :
  OutM (w.setCell ⟨g,i,none⟩ (.int .i64 x)) lo hi mv vs (ms.set j ⟨m.r,m.c,m.a.set i x⟩)∧Fam (w.setCell ⟨g,i,none⟩ (.int .i64 x)) lo' hi' (L0 ++ vs.zip ((ms.set j ⟨m.r,m.c,m.a.set i x⟩).map Mx.a)):=by
 have hp:=ho.put (j:=i) hx;refine⟨OutM.rc (ms:=ms) (RowO.grown hO (by decide) ho hp.2) ?_,?_⟩
 ·apply List.ext_getElem?
  intro k;rw[List.getElem?_map,List.getElem?_map,List.getElem?_set];by_cases e:j=k
  ·subst e;rw[if_pos rfl,if_pos (b0_ hm),hm];rfl
  ·rw[if_neg e]
 ·rw[List.map_set];exact hF.setAt hv (show (ms.map Mx.a)[j]?=some m.a by simp[hm]) hp.1 hp.2
theorem a4z {ms:List Mx} {j:Nat} {m:Mx} {l:List Int} (h:∀ m∈ms,I64 m.r∧I64 m.c) (hm:ms[j]?=some m):∀ x∈ms.set j ⟨m.r,m.c,l⟩,I64 x.r∧I64 x.c:=by
 intro x hx;rcases List.mem_or_eq_of_mem_set hx with hx | rfl
 ·exact h x hx
 ·exact h m (l4_ hm)
def zmAt (q:Qv) (d:List Int) (i:Nat):Mx:=zmx (dAt d (q.t.getD i 0)) (dAt d (q.f.getD i 0))
theorem c8Q (q:Qv) (d:List Int) (n:Nat):zms q d n=msF n (zmAt q d):=rfl
theorem SlM.I64s {w:World} {B:Nat} {v:Value} {l:List Mx} (h:SlM w B v l):∀ m∈l,I64 m.r∧I64 m.c:=by
 obtain⟨A,c,rfl,_,_,_,h⟩:=h.open_;intro m hm;obtain⟨j,hj⟩:=List.getElem?_of_mem hm;obtain⟨_,_,m',_,_,_,_,HX,_,_,_,_,h1,h2,_⟩:=SlM.at_ h (b0_ hj);have:=HX.out;rw[hj]at this;injection this with this
 subst this;exact⟨h1,h2⟩
theorem G0_ (u:Value) (ms:List Mx) (w:World) (hu:SlM w w.heap.size u ms) (hn:ms.length≤1000000) :
  Calls Tryz.prog 117 #[u] w fun e w'=>∃ v,e = .returned v∧d3_ w' w.heap.size w'.heap.size v ms∧Below w.heap.size w w':=by
 have hI:=h_ (SlM.I64s hu);obtain⟨A,c,rfl,_,_,_,hx⟩:=hu.open_;clear hu;go_enter Tryz.func117,Tryz.ntmps117
 go_wp2;go_loopw [3,8] (fun mv i wr=>∃ (k:Nat) (vs:List Value),k≤ms.length∧i = .int .i64 k∧Below w.heap.size w wr∧RowO 41 3 wr w.heap.size wr.heap.size mv k (mxCs vs (ms.take k))∧vs.length=k∧Fam wr w.heap.size wr.heap.size (vs.zip ((ms.take k).map Mx.a))) (fun _ i _=>ms.length-(intOf i).toNat)
 case atStart=>exact⟨0,[],l0_ _,rfl,Below.refl _ _,RowO.nil _ _ _ _,rfl,⟨fun p hp=>by simp at hp,by simp⟩⟩
 case round =>
  obtain⟨k,vs,hk,rfl,hbel,hO,hvl,hF⟩:=hrel;have HVL:=h_ hvl;clear hvl;by_cases hlt:k<ms.length
  ·obtain⟨b,o,m,A',c',rfl,hb,HX,x1,x2,x3,hsl,i1,i2,_⟩:=SlM.at_ hx hlt;have d1:=a7_ hbel hb x1;have d2:=a7_ hbel hb x2;have d3:=a7_ hbel hb x3;have hbs:=hbel.size;obtain⟨W1,hW1⟩:∃ W,W=wr.alloc (.cells #[.int .i64 m.r,.int .i64 m.c,.slice A' m.a.length c'] 41):=⟨_,rfl⟩;have ga:Below wr.heap.size wr W1:=by rw[hW1];exact a2_ _ _
   have hmx:MxR W1 W1.heap.size (.agg #[.int .i64 m.r,.int .i64 m.c,.slice A' m.a.length c']) m:=⟨_,rfl,SlI.next ga (SlI.more hbs (SlI.below hbel hsl)),i1,i2⟩;have HTK:=h_ (show ms.take (k+1)=ms.take k ++ [m] by rw[c8_ HX.out]);have hTL:=h_ (show (ms.take k).length=k by simp;omega);replace hO:=hO.below ga;replace hF:=hF.below ga;have sa:=ga.size;obtain⟨mA,mc,emv,_,_⟩:=hO.form;subst emv;clear x1 x2 x3 hx hsl i1 i2;go_wp2_with fail
   rw[←hW1];clear hW1;refine (B4_ _ m _ hmx).mono ?_;rintro e w1 ⟨v1,rfl,⟨s,rfl,hs,_⟩,hb1⟩;have s1:=hb1.size;obtain⟨sA,sc,es⟩:=hs.form;obtain⟨sn,hsn⟩:=e_ (m.a.length);rw[hsn]at es;clear hsn;subst es;have gb1:Below w.heap.size w w1:=hbel.trans ((a6_ ga hb1).mono hbs);replace hO:=(hO.below hb1).below (a2_ w1 (.cells #[.int .i64 m.r,.int .i64 m.c,.slice sA sn sc] 41));have hF1:=(hF.below hb1).snoc (hs.wider sa (l_ _)) (by omega) (by omega);have hF2:=hF1.below (a2_ w1 (.cells #[.int .i64 m.r,.int .i64 m.c,.slice sA sn sc] 41));have HF2:=h_ hF2;clear hF hF1 hF2 hs hmx hb1 ga d1 d2 d3
   (go_wp2_with (at_builtin;refine Hold.stop ?_));unfold Hold
   have hO'':OutM (w1.alloc (.cells #[.int .i64 m.r,.int .i64 m.c,.slice sA sn sc] 41)) w.heap.size wr.heap.size (.slice mA k mc) vs (ms.take k):=by rw[OutM,hTL.out];exact hO
   refine u6_ (by rfl) (.tmp 12) (.tmp 15) (by rfl) w.heap.size wr.heap.size (.slice mA k mc) vs (ms.take k) (by rfl) hO'' (by rw[HVL.out,hTL.out]) w1.heap.size 1 m (.slice sA sn sc) (by rfl) (Blk.new _ _ _) (by rfl) (by rw[hTL.out];omega) (by simp;omega) ?_;intro v' w' hO3 hA;have gb3:Below w.heap.size w w':=(gb1.alloc (by omega) _).trans (hA.below (l_ _) (by simp;omega));have hF3:=HF2.out.appT (by decide) hA;have hs3:=hA.size;simp only[l3_]at hs3;have HF3:=h_ hF3;have HO3:=h_ hO3;clear hF3 hO3 HF2 hO'' hO hA gb1;go_wp2;go_roundw
   case rel =>
    refine⟨k+1,vs ++ [.slice sA sn sc],by omega,by go_num,gb3,?_,by simp[HVL.out],?_⟩
    ·have:=HO3.out;rw[OutM,List.length_append,hTL.out]at this;rw[HTK.out];exact this
    ·have e:(vs ++ [Value.slice sA sn sc]).zip ((ms.take (k+1)).map Mx.a)=vs.zip ((ms.take k).map Mx.a) ++ [(.slice sA sn sc,m.a)]:=by
      rw[HTK.out,List.map_append,List.zip_append (by rw[List.length_map,HVL.out,hTL.out])];rfl
     rw[e];exact HF3.out.mono (l_ _) (by omega)
   case measure=>simp[intOf];omega
  ·obtain rfl:k=ms.length:=by omega
   obtain⟨mA,mc,emv,_,_⟩:=hO.form;subst emv;rw[List.take_length]at hO hF;have hM:d3_ wr w.heap.size wr.heap.size (.slice mA ms.length mc) ms:=⟨vs,hO,HVL.out,hF,hI.out⟩;have HM:=h_ hM;clear hM hO hF;go_wp2;go_ret
   exact⟨_,rfl,HM.out,hbel⟩
theorem SlM.two {w:World} {B g:Nat} {a b:Mx} {u v:Value} (hB:B=w.heap.size) (hg:Blk w g 41 #[.int .i64 a.r,.int .i64 a.c,u,.int .i64 b.r,.int .i64 b.c,v]) (ha:SlI w B u a.a) (hb:SlI w B v b.a) (i1:I64 a.r∧I64 a.c) (i2:I64 b.r∧I64 b.c):SlM w B (.slice (some ⟨g,0,none⟩) 2 2) [a,b]:=by
 refine⟨_,2,rfl,by simp,by omega,by simp,fun _=>⟨g,0,rfl,by rw[hB];exact hg.lt,fun j x hj=>?_⟩⟩
 match j,hj with
 | 0,hj =>
  simp at hj;subst hj;exact⟨u,hg.cell' (i:=0) rfl,hg.cell' (i:=1) rfl,hg.cell' (i:=2) rfl,ha,i1⟩
 | 1,hj =>
  simp at hj;subst hj;exact⟨v,hg.cell' (i:=3) rfl,hg.cell' (i:=4) rfl,hg.cell' (i:=5) rfl,hb,i2⟩
 | j+2,hj=>simp at hj
theorem a9_.two (w:World) {lo:Nat} (x y:Int) (hx:I64 x) (hy:I64 y) (hlo:lo≤w.heap.size):a9_ (w.alloc (.cells #[.int .i64 x,.int .i64 y] 3)) lo (w.alloc (.cells #[.int .i64 x,.int .i64 y] 3)).heap.size (.slice (some ⟨w.heap.size,0,none⟩) 2 2) [x,y] :=
 a9_.of_own (OwnI.of_blk (xs:=[x,y]) (Blk.new _ _ _) hlo ⟨rfl,fun j z hj hz=>by
  match j,hz with
  | 0,hz=>simp at hz;subst hz;rfl
  | 1,hz=>simp at hz;subst hz;rfl
  | j+2,hz=>simp at hz⟩ (by simp) (by simp[hx,hy]))
theorem Fam.three {w:World} {lo hi l1 h1 l2 h2 l3 h3:Nat} {L1 L2 L3:List (Value×List Int)} (f1:Fam w l1 h1 L1) (f2:Fam w l2 h2 L2) (f3:Fam w l3 h3 L3) (d12:h1≤l2∨h2≤l1) (d13:h1≤l3∨h3≤l1) (d23:h2≤l3∨h3≤l2)
  (b1:lo≤l1∧h1≤hi) (b2:lo≤l2∧h2≤hi) (b3:lo≤l3∧h3≤hi):Fam w lo hi (L1 ++ (L2 ++ L3)):=by
 have ap:∀ {l1 h1 l2 h2:Nat} {L1 L2:List (Value×List Int)},Fam w l1 h1 L1→Fam w l2 h2 L2→(h1≤l2∨h2≤l1)→∀ a∈L1,∀ b∈L2,a.1.ownBlock=none∨a.1.ownBlock≠b.1.ownBlock:=by
  intro l1 h1 l2 h2 L1 L2 f g hd a ha b hb;rcases hA:a.1.ownBlock with _ | x
  ·exact .inl rfl
  ·right
   intro e;have q1:=(f.1 a ha).2 x hA;have q2:=((f.1 a ha).1.lt x hA).1;have q3:=(g.1 b hb).2 x e.symm;have q4:=((g.1 b hb).1.lt x e.symm).1;omega
 refine⟨fun p hp=>?_,?_⟩
 ·rcases List.mem_append.1 hp with hp | hp
  ·exact (f1.1 p hp).wider b1.1 b1.2
  ·rcases List.mem_append.1 hp with hp | hp
   ·exact (f2.1 p hp).wider b2.1 b2.2
   ·exact (f3.1 p hp).wider b3.1 b3.2
 ·rw[List.pairwise_append,List.pairwise_append];refine⟨f1.2,⟨f2.2,f3.2,ap f2 f3 d23⟩,fun a ha b hb=>?_⟩;rcases List.mem_append.1 hb with hb | hb
  ·exact ap f1 f2 d12 a ha b hb
  ·exact ap f1 f3 d13 a ha b hb
theorem W3_:∀ {vs:List Value} {ms:List Mx} {j:Nat},j<ms.length→vs.length=ms.length→∀ (m:Mx) (u:Value),
  (((mxCs vs ms).set (j*3) (.int .i64 m.r)).set (j*3+1) (.int .i64 m.c)).set (j*3+2) u=mxCs (vs.set j u) (ms.set j m)
 | _,[],_,h,_,_,_=>by simp at h
 | [],_ :: _,_,_,h,_,_=>by simp at h
 | v :: vs,m :: ms,0,_,_,x,u=>by simp[mxCs]
 | v :: vs,m :: ms,j+1,h,h2,x,u=>by
  have:=W3_ (vs:=vs) (ms:=ms) (j:=j) (by simpa using h) (by simpa using h2) x u;simp only[mxCs,show (j+1)*3=j*3+1+1+1 by omega,show j*3+1+1+1+1=(j*3+1)+1+1+1 by omega,show j*3+1+1+1+2=(j*3+2)+1+1+1 by omega,List.set_cons_succ,this]
abbrev set3 (w:World) (g i:Nat) (a b c:Value):World:=((w.setCell ⟨g,i,none⟩ a).setCell ⟨g,i+1,none⟩ b).setCell ⟨g,i+2,none⟩ c
theorem RowO.len {T:TypeId} {sz:Nat} {w:World} {lo hi g c n m:Nat} {cs:List Value} (h:RowO T sz w lo hi (.slice (some ⟨g,0,none⟩) n c) m cs):n=m:=by
 rcases h.1.2 with ⟨e,_⟩ | ⟨g',cap',cur,e,_⟩
 ·cases e
 ·injection e with _ e _
theorem c6_ (w:World) (g i:Nat) (u:Value):Chg g (g+1) w (w.setCell ⟨g,i,none⟩ u):=b4_ (l_ _) (m0_ _)
theorem q1_ (w:World) (g i:Nat) (a b c:Value):Chg g (g+1) w (set3 w g i a b c) :=
 ((c6_ w g i a).trans (c6_ _ g (i+1) b)).trans (c6_ _ g (i+2) c)
theorem OutM.setMx {w:World} {lo hi g n c j:Nat} {vs:List Value} {ms:List Mx} (h:OutM w lo hi (.slice (some ⟨g,0,none⟩) n c) vs ms) (hl:vs.length=ms.length) (hj:j<ms.length) (m:Mx) (u:Value) :
  OutM (set3 w g (j*3) (.int .i64 m.r) (.int .i64 m.c) u) lo hi (.slice (some ⟨g,0,none⟩) n c) (vs.set j u) (ms.set j m):=by
 have e:=RowO.len h;subst e;have h1:=(RowO.stored h (j*3) (.int .i64 m.r)).1;have h2:=(RowO.stored h1 (j*3+1) (.int .i64 m.c)).1;have h3:=(RowO.stored h2 (j*3+2) u).1;rw[W3_ hj hl]at h3;unfold OutM;rw[List.length_set];exact h3
theorem Fam.swap {w:World} {lo hi mi hi' j:Nat} {L0:List (Value×List Int)} {vs:List Value} {ll:List (List Int)} {u:Value} {l:List Int} (h:Fam w lo hi (L0 ++ vs.zip ll)) (hj:j<ll.length) (hl:vs.length=ll.length) (hu:a9_ w mi hi' u l) (h1:hi≤mi) (h2:mi≤hi') (h3:lo≤mi) :
  Fam w lo hi' (L0 ++ (vs.set j u).zip (ll.set j l)):=by
 have hv:vs[j]?=some (vs[j]'(by omega)):=l2_ (by omega);have hl':ll[j]?=some (ll[j]'hj):=l2_ hj;have hsv:(vs.set j u)[j]?=some u:=by rw[List.getElem?_set,if_pos rfl,if_pos (by omega)]
 have hsl:(ll.set j l)[j]?=some l:=by rw[List.getElem?_set,if_pos rfl,if_pos hj]
 rw[p0_ hsv hsl,List.take_set_of_le (l_ j),List.drop_set_of_lt (by omega),List.take_set_of_le (l_ j),List.drop_set_of_lt (by omega)];rw[p0_ hv hl',←List.append_assoc]at h;rw[←List.append_assoc];generalize L0 ++ (vs.take j).zip (ll.take j)=M1 at h⊢;generalize (vs.drop (j+1)).zip (ll.drop (j+1))=M2 at h⊢;obtain⟨G1,G2⟩:=h;rw[List.pairwise_append]at G2;obtain⟨P1,P2,P3⟩:=G2;rw[List.pairwise_cons]at P2;refine⟨fun p hp=>?_,?_⟩
 ·rcases List.mem_append.1 hp with hp | hp
  ·exact (G1 p (by simp[hp])).wider (l_ _) (by omega)
  ·rcases List.mem_cons.1 hp with rfl | hp
   ·exact hu.wider h3 (l_ _)
   ·exact (G1 p (by simp[hp])).wider (l_ _) (by omega)
 ·rw[List.pairwise_append,List.pairwise_cons];refine⟨P1,⟨fun p hp=>?_,P2.2⟩,fun p hp q hq=>?_⟩
  ·rcases hA:u.ownBlock with _ | x
   ·exact .inl rfl
   ·refine .inr fun e2=>?_
    have h5:=(G1 p (by simp[hp])).2 x e2.symm;have h6:=(hu.1.lt x hA).1;omega
  ·rcases List.mem_cons.1 hq with rfl | hq
   ·rcases hA:p.1.ownBlock with _ | x
    ·exact .inl rfl
    ·refine .inr fun e=>?_
     have h5:=(G1 p (by simp[hp])).2 x hA;have h6:=(hu.1.lt x e.symm).1;omega
   ·exact P3 p hp q (by simp[hq])
theorem OutM.blk {w:World} {lo hi g n c:Nat} {vs:List Value} {ms:List Mx} (h:OutM w lo hi (.slice (some ⟨g,0,none⟩) n c) vs ms):∃ cs,Blk w g 41 cs∧lo≤g∧g<hi:=by
 have hg:=h.2.1 g rfl;rcases h.1.2 with ⟨e,_⟩ | ⟨g',cap',cur,e,k1,hh,_⟩
 ·cases e
 ·injection e with e1 e2 _
  injection e1 with e1
  injection e1 with e1
  subst e1;exact⟨cur,hh,k1,hg⟩
theorem Fam.set3 {w:World} {lo hi g i:Nat} {L:List (Value×List Int)} {t:TypeId} {cs:Array Value} (h:Fam w lo hi L) (hb:Blk w g t cs) (ht:3≠t) (a b c:Value):Fam (set3 w g i a b c) lo hi L :=
 ((h.setBlk hb ht a).setBlk (hb.set_ i a) ht b).setBlk ((hb.set_ i a).set_ (i+1) b) ht c
theorem RepO.setMx {w:World} {lo hi mi hi' g n c j:Nat} {p v r k:Int} {f t d u:Value} {x:Rp} {m:Mx} (h:RepO w lo hi (.agg #[.int .i64 p,.int .i64 v,f,t,d,.slice (some ⟨g,0,none⟩) n c]) x) (hj:j<x.m.length)
  (hu:MxO w mi hi' (.agg #[.int .i64 r,.int .i64 k,u]) m) (h1:hi≤mi) (h2:mi≤hi') (h3:lo≤mi) :
  RepO (set3 w g (j*3) (.int .i64 r) (.int .i64 k) u) lo hi' (.agg #[.int .i64 p,.int .i64 v,f,t,d,.slice (some ⟨g,0,none⟩) n c]) ⟨x.p,x.q,x.d,x.m.set j m⟩∧lo≤g∧g<hi:=by
 obtain⟨f',t',d',m',vs,e,hO,hvl,hF,hi1,hi2⟩:=h;simp only[Value.agg.injEq,Array.mk.injEq,List.cons.injEq,and_true]at e;obtain⟨rfl2,rfl3,rfl,rfl,rfl,rfl⟩:=e;obtain⟨s,e,hs,i1,i2⟩:=hu;simp only[Value.agg.injEq,Array.mk.injEq,List.cons.injEq,and_true,Value.int.injEq,true_and]at e;obtain⟨rfl,rfl,rfl⟩:=e;obtain⟨cs,hb,hg1,hg2⟩:=OutM.blk hO;refine⟨⟨f,t,d,_,vs.set j u,by rw[rfl2,rfl3],(OutM.setMx hO hvl hj m u).mono (l_ _) (by omega),by simp[hvl],?_,hi1,fun y hy=>?_⟩,hg1,hg2⟩
 ·have hF2:=hF.swap (j:=j) (by simpa using hj) (by simpa using hvl) hs h1 h2 h3;have hF3:=hF2.set3 (i:=j*3) hb (by decide) (.int .i64 m.r) (.int .i64 m.c) u;rw[List.map_set];exact hF3
 ·rcases List.mem_or_eq_of_mem_set hy with hy | rfl
  ·exact hi2 y hy
  ·exact⟨i1,i2⟩
theorem RepO.setDim {w:World} {lo hi g n c j:Nat} {p v y:Int} {f t m:Value} {x:Rp} (h:RepO w lo hi (.agg #[.int .i64 p,.int .i64 v,f,t,.slice (some ⟨g,0,none⟩) n c,m]) x) (hy:I64 y) :
  RepO (w.setCell ⟨g,j,none⟩ (.int .i64 y)) lo hi (.agg #[.int .i64 p,.int .i64 v,f,t,.slice (some ⟨g,0,none⟩) n c,m]) ⟨x.p,x.q,x.d.set j y,x.m⟩∧lo≤g∧g<hi:=by
 obtain⟨f',t',d',m',vs,e,hO,hvl,hF,hi1,hi2⟩:=h;simp only[Value.agg.injEq,Array.mk.injEq,List.cons.injEq,and_true]at e;obtain⟨rfl2,rfl3,rfl,rfl,rfl,rfl⟩:=e;have hd:a9_ w lo hi (.slice (some ⟨g,0,none⟩) n c) x.d:=hF.1 (.slice (some ⟨g,0,none⟩) n c,x.d) (by simp);have hp:=hd.1.put (j:=j) hy;have hgb:=hd.2 g rfl;have hgl:=(hd.1.lt g rfl).1;refine⟨⟨f,t,_,m,vs,by rw[rfl2,rfl3],?_,hvl,?_,hi1,hi2⟩,hgl,hgb⟩
 ·exact RowO.grown hO (by decide) hd.1 hp.2
 ·have:=Fam.turn (L1:=[(f,x.q.f),(t,x.q.t)]) (L2:=vs.zip (x.m.map Mx.a)) (v:=.slice (some ⟨g,0,none⟩) n c) (l:=x.d) (l':=x.d.set j y) (by simpa using hF) hp.1 hp.2;simpa using this
theorem RepO.dimAt {w:World} {lo hi j:Nat} {p v:Int} {f t d m:Value} {x:Rp} (h:RepO w lo hi (.agg #[.int .i64 p,.int .i64 v,f,t,d,m]) x) (hj:j<x.d.length) :
  ∃ g c,d = .slice (some ⟨g,0,none⟩) x.d.length c∧lo≤g∧g<hi∧w.cell? ⟨g,j,none⟩=some (.int .i64 (x.d.getD j 0))∧w.frozen? ⟨g,j,none⟩=false∧I64 (x.d.getD j 0):=by
 obtain⟨f',t',d',m',vs,e,hO,hvl,hF,hi1,hi2⟩:=h;simp only[Value.agg.injEq,Array.mk.injEq,List.cons.injEq,and_true]at e;obtain⟨_,_,rfl,rfl,rfl,rfl⟩:=e;have hd:a9_ w lo hi d x.d:=hF.1 (d,x.d) (by simp);rcases hd.1.1.2 with ⟨rfl,h0⟩ | ⟨g,cap,cur,rfl,k1,hh,_⟩
 ·omega
 ·have h1:=hd.1.cellG hj;exact⟨g,cap,rfl,k1,hd.2 g rfl,h1.1,hd.1.frozenG j,h1.2⟩
theorem RepO.mxAt {w:World} {lo hi j:Nat} {p v:Int} {f t d m:Value} {x:Rp} {y:Mx} (h:RepO w lo hi (.agg #[.int .i64 p,.int .i64 v,f,t,d,m]) x) (hj:x.m[j]?=some y) :
  ∃ g c s,m = .slice (some ⟨g,0,none⟩) x.m.length c∧lo≤g∧g<hi∧w.cell? ⟨g,j*3,none⟩=some (.int .i64 y.r)∧w.cell? ⟨g,j*3+1,none⟩=some (.int .i64 y.c)∧w.cell? ⟨g,j*3+2,none⟩=some s∧a9_ w lo hi s y.a∧(∀ i,w.frozen? ⟨g,i,none⟩=false)∧I64 y.r∧I64 y.c:=by
 obtain⟨f',t',d',m',vs,e,hO,hvl,hF,hi1,hi2⟩:=h;simp only[Value.agg.injEq,Array.mk.injEq,List.cons.injEq,and_true]at e;obtain⟨_,_,rfl,rfl,rfl,rfl⟩:=e;have hjl:=b0_ hj;have hv:vs[j]?=some (vs[j]'(by omega)):=l2_ (by omega);obtain⟨a,b,c⟩:=y7_ hv hj;rcases hO.1.2 with ⟨rfl,h0⟩ | ⟨g,cap,cur,rfl,k1,hh,_⟩
 ·omega
 ·have e:=fun i (hi:i<3)=>hO.1.cellAt (j*3+i) (by omega)
  have hs:=Fam.getAt (L0:=[(f,x.q.f),(t,x.q.t),(d,x.d)]) hF hv (l:=y.a) (by simp[hj]);exact⟨g,cap,_,rfl,k1,hO.2.1 g rfl,by rw[show j*3=j*3+0 by omega,e 0 (by omega)];exact a,by rw[e 1 (by omega)];exact b,by rw[e 2 (by omega)];exact c,hs,fun i=>hO.1.frozenAt i,hi2 y (l4_ hj)⟩
theorem a9_.set3 {w:World} {lo hi g i:Nat} {v:Value} {l:List Int} {t:TypeId} {cs:Array Value} (h:a9_ w lo hi v l) (hb:Blk w g t cs) (ht:3≠t) (a b c:Value):a9_ (set3 w g i a b c) lo hi v l:=by
 have h1:Fam w lo hi [(v,l)]:=⟨fun p hp=>by simp at hp;rw[hp];exact h,by simp⟩;exact (h1.set3 (i:=i) hb ht a b c).1 (v,l) (by simp)
theorem RepI.setMx {w:World} {lo hi mi hi' g n c j:Nat} {p v r k:Int} {f t d u:Value} {x:Rp} {m:Mx} (h:RepI w lo hi (.agg #[.int .i64 p,.int .i64 v,f,t,d,.slice (some ⟨g,0,none⟩) n c]) x) (hj:j<x.m.length)
  (hu:MxO w mi hi' (.agg #[.int .i64 r,.int .i64 k,u]) m) (h1:hi≤mi) (h2:mi≤hi') :
  RepI (set3 w g (j*3) (.int .i64 r) (.int .i64 k) u) lo hi' (.agg #[.int .i64 p,.int .i64 v,f,t,d,.slice (some ⟨g,0,none⟩) n c]) ⟨x.p,x.q,x.d,x.m.set j m⟩∧lo≤g∧g<hi:=by
 obtain⟨f',t',d',m',vs,mi0,e,i1,i2,i3,hO,hvl,hF,hmi,hi1,hi2⟩:=h;simp only[Value.agg.injEq,Array.mk.injEq,List.cons.injEq,and_true]at e;obtain⟨rfl2,rfl3,rfl,rfl,rfl,rfl⟩:=e;obtain⟨s,e,hs,j1,j2⟩:=hu;simp only[Value.agg.injEq,Array.mk.injEq,List.cons.injEq,and_true,Value.int.injEq,true_and]at e;obtain⟨rfl,rfl,rfl⟩:=e;obtain⟨cs,hb,hg1,hg2⟩:=OutM.blk hO;refine⟨⟨f,t,d,_,vs.set j u,mi0,by rw[rfl2,rfl3],i1.set3 hb (by decide) _ _ _,i2.set3 hb (by decide) _ _ _,i3.set3 hb (by decide) _ _ _,(OutM.setMx hO hvl hj m u).mono (l_ _) (by omega),by simp[hvl],?_,⟨hmi.1,by omega⟩,hi1,fun y hy=>?_⟩,hg1,hg2⟩
 ·have hF':Fam w mi0 hi ([] ++ vs.zip (x.m.map Mx.a)):=by simpa using hF
  have hF2:=hF'.swap (j:=j) (by simpa using hj) (by simpa using hvl) hs h1 h2 (by omega);have hF3:=hF2.set3 (i:=j*3) hb (by decide) (.int .i64 m.r) (.int .i64 m.c) u;rw[List.map_set];simpa using hF3
 ·rcases List.mem_or_eq_of_mem_set hy with hy | rfl
  ·exact hi2 y hy
  ·exact⟨j1,j2⟩
theorem RepI.blk {w:World} {lo hi g n c:Nat} {p v:Int} {f t d:Value} {x:Rp} (h:RepI w lo hi (.agg #[.int .i64 p,.int .i64 v,f,t,d,.slice (some ⟨g,0,none⟩) n c]) x):∃ cs,Blk w g 41 cs∧lo≤g∧g<hi:=by
 obtain⟨f',t',d',m',vs,mi0,e,i1,i2,i3,hO,hvl,hF,hmi,hi1,hi2⟩:=h;simp only[Value.agg.injEq,Array.mk.injEq,List.cons.injEq,and_true]at e;obtain⟨rfl2,rfl3,rfl,rfl,rfl,rfl⟩:=e;exact OutM.blk hO
theorem RepI.mxAt {w:World} {lo hi j:Nat} {p v:Int} {f t d m:Value} {x:Rp} {y:Mx} (h:RepI w lo hi (.agg #[.int .i64 p,.int .i64 v,f,t,d,m]) x) (hj:x.m[j]?=some y) :
  ∃ g c s,m = .slice (some ⟨g,0,none⟩) x.m.length c∧lo≤g∧g<hi∧w.cell? ⟨g,j*3,none⟩=some (.int .i64 y.r)∧w.cell? ⟨g,j*3+1,none⟩=some (.int .i64 y.c)∧w.cell? ⟨g,j*3+2,none⟩=some s∧a9_ w lo hi s y.a∧(∀ i,w.frozen? ⟨g,i,none⟩=false):=by
 obtain⟨f',t',d',m',vs,mi0,e,i1,i2,i3,hO,hvl,hF,hmi,hi1,hi2⟩:=h;simp only[Value.agg.injEq,Array.mk.injEq,List.cons.injEq,and_true]at e;obtain⟨_,_,rfl,rfl,rfl,rfl⟩:=e;have hjl:=b0_ hj;have hv:vs[j]?=some (vs[j]'(by omega)):=l2_ (by omega);obtain⟨a,b,c⟩:=y7_ hv hj;have hR:RepO w lo hi (.agg #[.int .i64 x.p,.int .i64 x.q.v,.slice none 0 0,.slice none 0 0,.slice none 0 0,m]) ⟨x.p,⟨x.q.v,[],[]⟩,[],x.m⟩:=by
  refine⟨_,_,_,_,vs,rfl,hO,hvl,?_,hi1,hi2⟩;have hn:∀ b:Value×List Int,(Value.slice none 0 0).ownBlock=none∨(Value.slice none 0 0).ownBlock≠b.1.ownBlock:=fun b => .inl rfl
  refine⟨fun p hp=>?_,?_⟩
  ·simp only[List.cons_append,List.nil_append,List.mem_cons]at hp;rcases hp with rfl | rfl | rfl | hp
   ·exact⟨OwnI.nil _ _,by simp[Value.ownBlock]⟩
   ·exact⟨OwnI.nil _ _,by simp[Value.ownBlock]⟩
   ·exact⟨OwnI.nil _ _,by simp[Value.ownBlock]⟩
   ·exact (hF.1 p hp).wider hmi.1 (l_ _)
  ·simp only[List.cons_append,List.nil_append,List.pairwise_cons];exact⟨fun b _ => .inl rfl,fun b _ => .inl rfl,fun b _ => .inl rfl,hF.2⟩
 obtain⟨g,c',s,e,k1,k2,z0,z1,z2,hs,hf,_⟩:=hR.mxAt hj;exact⟨g,c',s,e,k1,k2,z0,z1,z2,hs,hf⟩
theorem RepI.putMx {w:World} {lo hi j i:Nat} {p v z:Int} {f t d m:Value} {x:Rp} {y:Mx} (h:RepI w lo hi (.agg #[.int .i64 p,.int .i64 v,f,t,d,m]) x) (hj:x.m[j]?=some y) (hi':i<y.a.length) (hz:I64 z) :
  ∃ g c gr cr,m = .slice (some ⟨g,0,none⟩) x.m.length c∧w.cell? ⟨g,j*3+1,none⟩=some (.int .i64 y.c)∧w.cell? ⟨g,j*3+2,none⟩=some (.slice (some ⟨gr,0,none⟩) y.a.length cr)∧(∃ u,w.cell? ⟨gr,i,none⟩=some u)∧w.frozen? ⟨gr,i,none⟩=false ∧
   (x.m.length≤c∧c≤9223372036854775807)∧(y.a.length≤cr∧cr≤9223372036854775807)∧(lo≤gr∧gr<hi)∧(∀ (g':Nat) (t':TypeId) (cs':Array Value),Blk w g' t' cs'→3≠t'→g'≠gr)∧RepI (w.setCell ⟨gr,i,none⟩ (.int .i64 z)) lo hi (.agg #[.int .i64 p,.int .i64 v,f,t,d,m]) ⟨x.p,x.q,x.d,x.m.set j ⟨y.r,y.c,y.a.set i z⟩⟩:=by
 obtain⟨f',t',d',m',vs,mi0,e,i1,i2,i3,hO,hvl,hF,hmi,hi1,hi2⟩:=h;simp only[Value.agg.injEq,Array.mk.injEq,List.cons.injEq,and_true]at e;obtain⟨e1,e2,rfl,rfl,rfl,rfl⟩:=e;have hF':Fam w mi0 hi ([] ++ vs.zip (x.m.map Mx.a)):=by simpa using hF
 obtain⟨gm,cm,g,c,em,hgm,hv,c0,c1,c2,ho,hgb,k1,k2,k3,k4⟩:=OutM.at_ hO hvl hF' hj (by omega);have hput:=c7q (i:=i) hO hF' hv hj ho hz;have hcell:=(ho.cellG hi').1;have hfr:=ho.frozenG i;have lowp:∀ {u:Value} {l:List Int},a9_ w lo mi0 u l→a9_ (w.setCell ⟨g,i,none⟩ (.int .i64 z)) lo mi0 u l:=fun h=>h.chg (c6_ w g i _) (.inl hgb.1)
 refine⟨gm,cm,g,c,em,c1,c2,⟨_,hcell⟩,hfr,⟨k3,k4⟩,⟨k1,k2⟩,⟨by omega,hgb.2⟩,fun g' t' cs' hb ht e=>ho.blkne hb ht (by rw[e];rfl),f,t,d,m,vs,mi0,by rw[e1,e2],lowp i1,lowp i2,lowp i3,hput.1,by simp[hvl],by simpa using hput.2,hmi,hi1,a4z hi2 hj⟩
theorem OutM.two {w:World} {lo hi g:Nat} {a b:Mx} {u v:Value} (hg:Blk w g 41 #[.int .i64 a.r,.int .i64 a.c,u,.int .i64 b.r,.int .i64 b.c,v]) (h1:lo≤g) (h2:g<hi):OutM w lo hi (.slice (some ⟨g,0,none⟩) 2 2) [u,v] [a,b] :=
 ⟨⟨rfl,.inr ⟨g,2,_,rfl,h1,hg,l_ _,by decide,rfl,rfl⟩⟩,fun k hk=>by simp[Value.ownBlock]at hk;omega,by simp⟩
theorem Fam.put {w:World} {lo hi l1 h1:Nat} {L1 L2:List (Value×List Int)} (f1:Fam w l1 h1 L1) (f2:Fam w lo hi L2) (ap:∀ a∈L1,∀ b∈L2,a.1.ownBlock=none∨a.1.ownBlock≠b.1.ownBlock) (b1:lo≤l1∧h1≤hi):Fam w lo hi (L1 ++ L2):=by
 refine⟨fun p hp=>?_,?_⟩
 ·rcases List.mem_append.1 hp with hp | hp
  ·exact (f1.1 p hp).wider b1.1 b1.2
  ·exact f2.1 p hp
 ·rw[List.pairwise_append];exact⟨f1.2,f2.2,ap⟩
theorem Q6_ {i r c P:Nat} (hi:i<r) (hr:r≤1000) (hc:c≤1000) (hP:wrap64 ((i:Int)*(c:Int))=(P:Int)) :
  P=i*c∧wrap64 (((i:Int)+1)*(c:Int))=((P+c:Nat):Int)∧P+c≤r*c∧P+c≤1000000:=by
 have h1:(i+1)*c≤r*c:=Nat.mul_le_mul_right _ hi;have h2:r*c≤1000*1000:=Nat.mul_le_mul hr hc;have h3:(i+1)*c=i*c+c:=by rw[Nat.add_mul,Nat.one_mul]
 have e1:P=i*c:=by
  rw[show ((i:Int)*(c:Int))=((i*c:Nat):Int) by simp,IntWalk.wrap64_in _ ⟨by omega,by omega⟩]at hP;omega
 refine⟨e1,?_,by omega,by omega⟩;rw[show (((i:Int)+1)*(c:Int))=(((i+1)*c:Nat):Int) by simp,h3,←e1];exact IntWalk.wrap64_in _ ⟨by omega,by omega⟩
theorem f3Z (r:Int) (c i P N cap g:Nat) (w:World) (h1:wrap64 ((i:Int)*(c:Int))=(P:Int)) (h2:wrap64 (((i:Int)+1)*(c:Int))=((P+c:Nat):Int))
  (hN:P+c≤N) (hcap:N≤cap) (hb:cap≤9223372036854775807) (h0:0<c) (hi:i≤1000) :
  Calls Tryz.prog 77 #[.agg #[.int .i64 r,.int .i64 c,.slice (some ⟨g,0,none⟩) N cap],.int .i64 i] w fun e w'=>e = .returned (.slice (some ⟨g,P,none⟩) c (cap-P))∧Below w.heap.size w w':=by
 go_enter Tryz.func77,Tryz.ntmps77
 go_wp2;exact bodyPost_ret (v:=.slice (some ⟨g,P,none⟩) c (cap-P)) (by simp[results,go_sem]) rfl ⟨rfl,a2_ _ _⟩
theorem R8_ (r:Int) (i cap:Nat) (A:Option Addr) (w:World) (hb:cap≤9223372036854775807) (hi:i≤1000) :
  Calls Tryz.prog 77 #[.agg #[.int .i64 r,.int .i64 0,.slice A 0 cap],.int .i64 i] w fun e w'=>∃ A,e = .returned (.slice A 0 cap)∧Below w.heap.size w w':=by
 go_enter Tryz.func77,Tryz.ntmps77
 go_wp2;exact bodyPost_ret (by simp[results,go_sem];rfl) rfl ⟨_,rfl,a2_ _ _⟩
def b5_ (r c:Nat) (f:Nat→Nat→Int):List (List Int):=(List.range r).map fun i=>rowF c (f i)
theorem a3_ (r c:Nat) (f:Nat→Nat→Int):(b5_ r c f).length=r:=by simp[b5_]
theorem g2_ {r c j:Nat} (f:Nat→Nat→Int) (h:j<r):(b5_ r c f)[j]?=some (rowF c (f j)):=by simp[b5_,h]
theorem n2_ (r c:Nat) (f:Nat→Nat→Int):b5_ (r+1) c f=b5_ r c f ++ [rowF c (f r)]:=by simp[b5_,List.range_succ]
theorem SlI.part {w:World} {B g o n cap P c:Nat} {l l':List Int} (h:SlI w B (.slice (some ⟨g,o,none⟩) n cap) l) (hn:n=l.length) (hc:P+l'.length≤l.length) (hl:∀ j x,l'[j]?=some x→l[P+j]?=some x) (hcn:c=cap-P) :
  SlI w B (.slice (some ⟨g,o+P,none⟩) l'.length c) l':=by
 subst hn hcn;obtain⟨A',c',e,h1,h2,h3,h4⟩:=h;injection e with e1 e2 e3
 subst e1 e3;refine⟨_,_,rfl,by omega,by omega,by omega,fun hp=>?_⟩;obtain⟨b,o',e,hb,hx⟩:=h4 (by omega);injection e with e
 injection e with e1 e2
 subst e1 e2;refine⟨g,o+P,rfl,hb,fun j x hj=>?_⟩;have:=hx (P+j) x (hl j x hj);rw[show o+P+j*1=o+(P+j)*1 by omega];exact this
theorem b0X (r:Int) (c i P N cap g o:Nat) (w:World) (h1:wrap64 ((i:Int)*(c:Int))=(P:Int)) (h2:wrap64 (((i:Int)+1)*(c:Int))=((P+c:Nat):Int))
  (hN:P+c≤N) (hcap:N≤cap) (hb:cap≤9223372036854775807) (h0:0<c) (hi:i≤1000) :
  Calls Tryz.prog 77 #[.agg #[.int .i64 r,.int .i64 c,.slice (some ⟨g,o,none⟩) N cap],.int .i64 i] w fun e w'=>e = .returned (.slice (some ⟨g,o+P,none⟩) c (cap-P))∧Below w.heap.size w w':=by
 go_enter Tryz.func77,Tryz.ntmps77
 go_wp2;exact bodyPost_ret (v:=.slice (some ⟨g,o+P,none⟩) c (cap-P)) (by simp[results,go_sem]) rfl ⟨rfl,a2_ _ _⟩
theorem W9_ (u:Value) (r c i:Nat) (f:Nat→Nat→Int) (w:World) (hu:MxR w w.heap.size u (mxF r c f)) (hr:r≤1000) (hc:c≤1000) (hi:i<r) :
  Calls Tryz.prog 77 #[u,.int .i64 i] w fun e w'=>∃ v,e = .returned v∧SlI w' w'.heap.size v (rowF c (f i))∧Below w.heap.size w w':=by
 obtain⟨A,cap,rfl,hs,_,_,hl⟩:=hu.open_;simp only[mxF]at hs hl⊢;rcases Nat.eq_zero_or_pos c with rfl | h0
 ·obtain⟨_,_,e,h1,h2,_⟩:=hs;injection e with e1 e2 e3
  subst e1 e3;have e:(flat r 0 f).length=0:=by rw[a0_];rfl
  rw[e];refine (R8_ r i cap A w h2 (by omega)).mono fun e w' ⟨A',h3,h4⟩=>⟨_,h3,?_,h4⟩
  exact⟨A',cap,by simp[rowF],by simp[rowF],h2,by simp[rowF],fun h=>by simp[rowF]at h⟩
 ·obtain⟨P,J,hP,_,_,_,_⟩:=v8_ hi h0 hr hc;obtain⟨hPi,hP2,hPL,_⟩:=Q6_ hi hr hc hP;have hlt:=E7_ hi h0;have hs':=hs;obtain⟨_,_,e,h1,h2,h3,h4⟩:=hs;injection e with e1 e2 e3
  subst e1 e3;obtain⟨b,o,rfl,hb,hx⟩:=h4 (by rw[a0_];omega);refine (b0X r c i P _ cap b o w hP hP2 (by rw[a0_];exact hPL) h1 h2 h0 (by omega)).mono fun e w' ⟨h5,h6⟩=>⟨_,h5,?_,h6⟩
  have:=SlI.part (P:=P) (l':=rowF c (f i)) (SlI.next h6 hs') rfl (by rw[a1_,a0_];exact hPL) (fun j x hj=>?_) rfl
  ·rwa[a1_]at this
  ·have hjc:=b0_ hj;rw[a1_]at hjc;rw[d1_ _ hjc]at hj;rw[hPi,j0_ f hi hjc];exact hj
theorem I3_ (u:Value) (r c:Nat) (f:Nat→Nat→Int) (w0:World) (hu:MxR w0 w0.heap.size u (mxF r c f)) (hr:r≤1000) (hc:c≤1000) :
  Calls Tryz.prog 31 #[u] w0 fun e w'=>∃ v,e = .returned v∧b1_ w' w0.heap.size w'.heap.size v (b5_ r c f)∧Below w0.heap.size w0 w':=by
 have hu':=hu;obtain⟨A,cap,rfl,hs,i1,i2,hl⟩:=hu.open_;clear hu;simp only[mxF]at hs hl i1 i2⊢;obtain⟨W,hW,g0,kB⟩:=b_3 w0 #[.int .i64 r,.int .i64 c,.slice A (flat r c f).length cap] 41;obtain⟨L,hL⟩:=e_ ((flat r c f).length);simp only[mxF]at hu';rw[hL]at hu' hs hl kB hW⊢;clear hL;obtain⟨c0,c1,c2⟩:=c_3 kB;have HU:=h_ (MxR.next g0 hu');have sz:w0.heap.size<W.heap.size:=kB.lt;go_enter Tryz.func31,Tryz.ntmps31
 go_wp2;rw[←hW];clear hW;go_loopw [3,7] (fun out i wr=>∃ (k:Nat) (vs:List Value),k≤r∧i = .int .i64 k∧Below W.heap.size W wr∧OutO wr W.heap.size wr.heap.size out vs∧vs.length=k∧Fam wr W.heap.size wr.heap.size (vs.zip (b5_ k c f))) (fun _ i _=>r-(intOf i).toNat)
 case atStart=>exact⟨0,[],l0_ _,rfl,Below.refl _ _,⟨World.ownsRow_nil _ _ _ _,by simp[Value.ownBlock],by simp⟩,rfl,⟨fun p hp=>by simp at hp,by simp⟩⟩
 case round =>
  clear c0 c1 c2;obtain⟨k,vs,hk,rfl,hbel,hO,hvl,hF⟩:=hrel;have kB2:=kB.call hbel;obtain⟨c0,c1,c2⟩:=c_3 kB2;have HVL:=h_ hvl;clear hvl;by_cases hlt:k<r
  ·have HUR:=h_ (MxR.more hbel.size (MxR.below hbel HU.out));have hws:=hbel.size;obtain⟨OA,oc,rfl,_,_⟩:=hO.form;have HO:=h_ hO;have HF:=h_ hF;clear hO hF;go_wp2_with fail
   refine (W9_ _ r c k f _ HUR.out hr hc hlt).mono ?_;rintro e w1 ⟨v1,rfl,hv1,hb1⟩;have hb0:=hb1;go_wp2_with fail
   refine (o9_ _ _ _ hv1).mono ?_;rintro e wC ⟨v2,rfl,hI,hb2⟩;have hbC:=a6_ hb1 hb2;have hlo:=hb1.size;clear hb2 hb0;obtain⟨VA,vc,ev⟩:=hI.form;rw[a1_]at ev;subst ev;have hO2:=HO.out.below hbC;have hF2:=HF.out.below hbC;have hbs:=hbC.size;have HI:=h_ hI;have HO2:=h_ hO2;have HF2:=h_ hF2;have HBC:=h_ hbC;clear hI hO2 hF2 hbC hb1 hv1
   (go_wp2_with (at_builtin;refine Hold.stop ?_));unfold Hold
   obtain⟨X,hX,gn,kn⟩:=b_3 wC #[.slice VA c vc] 24;have hO3:=HO2.out.below gn;have hF3:=(HF2.out.snoc (HI.out.wider (lo':=wr.heap.size) hlo (l_ _)) hws (by omega)).below gn;have hXs:=gn.size;rw[←hX];clear hX;refine v1_ rfl (.tmp 10) (.tmp 15) rfl W.heap.size (.slice OA vs.length oc) vs rfl hO3.1 _ _ (.slice VA c vc) rfl ⟨wC.heap.size,0,rfl,kn.cell' (i:=0) rfl⟩ rfl (by have:=HVL.out;omega) (by omega) ?_;intro v' w' hn' hg' hv';have hbg:Below W.heap.size X w':=b9_ hg' (fun k hk=>(hO3.1.lt k hk).1) (by omega);have hbt:=(hbel.trans ((HBC.out).mono hws)).trans ((gn.mono (by omega)).trans hbg);have hF4:=Fam.grownO hF3 hO3.1 hg';have hws':=hbg.size;have hO4:OutO w' W.heap.size w'.heap.size v' (vs ++ [.slice VA c vc]):=⟨hn',fun k hk=>(hn'.lt k hk).2,by simp;have:=HVL.out;omega⟩;have HF4:=h_ hF4;have HO4:=h_ hO4;have HBT:=h_ hbt;clear hn' hg' hv' hbg hbt hF4 hO4 hO3 hF3 kn gn;go_wp2;go_roundw
   case rel =>
    refine⟨k+1,vs ++ [.slice VA c vc],by omega,by go_num,HBT.out,HO4.out,by simp[HVL.out],?_⟩;have:=HF4.out.mono (l_ _) (show wC.heap.size≤w'.heap.size by omega);have e:(vs ++ [Value.slice VA c vc]).zip (b5_ (k+1) c f)=vs.zip (b5_ k c f) ++ [(Value.slice VA c vc,rowF c (f k))]:=by
     rw[n2_,List.zip_append (by rw[HVL.out,a3_])];rfl
    rw[e];exact this
   case measure=>simp[intOf];omega
  ·obtain rfl:k=r:=by omega
   have hO':=hO;have hF':=hF;go_wp2;go_ret
   exact⟨_,rfl,⟨vs,hO'.mono (by omega) (l_ _),by rw[HVL.out,a3_],hF'.mono (by omega) (l_ _)⟩,g0.trans (hbel.mono (by omega))⟩
def colK (k:Nat) (f:Nat→Nat→Int) (j i:Nat):Int:=if i<j then f i k else 0
theorem f0J (r k:Nat) (f:Nat→Nat→Int):List.replicate r 0=rowF r (colK k f 0):=by
 apply List.ext_getElem?
 intro i;by_cases h:i<r
 ·rw[d1_ _ h];simp[h,colK]
 ·rw[l6_ (by simp;omega),l6_ (by rw[a1_];omega)]
theorem b5x {r k j:Nat} (f:Nat→Nat→Int) (h:j<r):(rowF r (colK k f j)).set j (f j k)=rowF r (colK k f (j+1)):=by
 rw[q4_];refine b6_ fun i _=>?_
 simp only[colK]
 (repeat' split) <;> first | rfl | omega | (subst_vars;rfl)
theorem f4Z (r k:Nat) (f:Nat→Nat→Int):rowF r (colK k f r)=rowF r (fun i=>f i k):=b6_ fun i h=>by simp[colK,h]
theorem a8z (u:Value) (r c k:Nat) (f:Nat→Nat→Int) (w0:World) (hu:MxR w0 w0.heap.size u (mxF r c f)) (hr:r≤1000) (hc:c≤1000) (hk:k<c) :
  Calls Tryz.prog 89 #[u,.int .i64 k] w0 fun e w'=>∃ v,e = .returned v∧a9_ w' w0.heap.size w'.heap.size v (rowF r (fun i=>f i k))∧Below w0.heap.size w0 w':=by
 obtain⟨A,cap,rfl,hs,i1,i2,hl⟩:=hu.open_;clear hu;simp only[mxF]at hs hl i1 i2⊢;obtain⟨W,hW⟩:∃ W,W=(w0.alloc (.cells #[.int .i64 r,.int .i64 c,.slice A (flat r c f).length cap] 41)).alloc (.cells (g8_ (.int .i64 0) r) 3):=⟨_,rfl⟩;have g0:Below w0.heap.size w0 W:=by rw[hW];exact ((Below.refl _ _).alloc (l_ _) _).alloc (by simp) _
 have kB:Blk W w0.heap.size 41 #[.int .i64 r,.int .i64 c,.slice A (flat r c f).length cap]:=by rw[hW];exact (Blk.new _ _ _).alloc _
 have sz:W.heap.size=w0.heap.size+1+1:=by rw[hW];simp
 have ho:a9_ W (w0.heap.size+1) W.heap.size (.slice (some ⟨w0.heap.size+1,0,none⟩) r r) (List.replicate r 0):=by
  rw[hW];have:=OwnI.made0 (w:=w0.alloc (.cells #[.int .i64 r,.int .i64 c,.slice A (flat r c f).length cap] 41)) (base:=w0.heap.size+1) (N:=r) (by simp) (by omega);exact a9_.of_own (by simpa only[l3_] using this)
 rw[f0J r k f]at ho;obtain⟨L,hL⟩:=e_ ((flat r c f).length);have HS:=h_ hs;have HL:=h_ hL;rw[hL]at hl kB hW⊢;have SZ:=h_ sz;obtain⟨i0,hi,hz0,hz1,hz2⟩:=info_parts v5_;have hmk:=V8_ (P:=Tryz.prog) Tryz.underlying24 hi hz0 (n:=r) (by rw[hz2];omega) (by omega);rw[hz1]at hmk;rw[Nat.mul_one]at hmk;clear hi hz0 hz1 hz2 hL hs sz;go_enter Tryz.func89,Tryz.ntmps89
 go_wp2;rw[←hW];clear hW hmk;go_loopw [12] (fun i wr=>∃ j:Nat,j≤r∧i = .int .i64 j∧Below w0.heap.size w0 wr∧Blk wr w0.heap.size 41 #[.int .i64 r,.int .i64 c,.slice A L cap]∧a9_ wr (w0.heap.size+1) W.heap.size (.slice (some ⟨w0.heap.size+1,0,none⟩) r r) (rowF r (colK k f j))) (fun i _=>r-(intOf i).toNat)
 case atStart=>exact⟨0,l0_ _,rfl,g0,kB,ho⟩
 case round =>
  clear g0 kB ho;obtain⟨j,hj,rfl,hbel,kB,ho⟩:=hrel;by_cases hlt:j<r
  ·obtain⟨P,J,hP,hPJ,hJ,hJN,hJb⟩:=v8_ hlt hk hr hc;have hs:=HS.out;obtain⟨b,o,x,rfl,hb,HX,x1,_⟩:=SlI.at_ (k:=P+k) hs (by rw[a0_];omega);have hx:=HX.out;rw[hPJ,hJ,j0_ f hlt hk]at hx;injection hx with hx
   subst hx;rw[←a0_ r c f,HL.out]at hJN;have hPl:P+k<L:=by omega
   have c1:=kB.cell' (i:=1) rfl;have c2:=kB.cell' (i:=2) rfl;have d1:=a7_ hbel hb x1;have d2:wr.cell? ⟨b,o+P+k,none⟩=some (.int .i64 (f j k)):=by rw[Nat.add_assoc];exact d1
   have cA:=(ho.1.cellG (j:=j) (by rw[a1_];exact hlt)).1;have fA:=ho.1.frozenG j;have hxr:=SlI.i64 hs (f j k) (l4_ (j0_ f hlt hk));have hc1:Chg (w0.heap.size+1) W.heap.size wr (wr.setCell ⟨w0.heap.size+1,j,none⟩ (.int .i64 (f j k))):=b4_ (l_ _) (by have:=SZ.out;simp;omega);have ho2:=ho.put (j:=j) (x:=f j k) hxr;rw[b5x f hlt]at ho2;have HO2:=h_ ho2;have KB:=h_ (kB.chg hc1 (by omega));have HB:=h_ (hbel.trans (hc1.below (by omega) hbel.size));clear hs HX hJ hPJ hJN x1 ho ho2 kB hbel hc1 hb;go_wp2;go_roundw
   case rel=>exact⟨j+1,by omega,by go_num,HB.out,KB.out,HO2.out⟩
   case measure=>simp[intOf];omega
  ·obtain rfl:j=r:=by omega
   rw[f4Z]at ho;go_wp2;go_ret
   have h3:w0.heap.size+1<wr.heap.size:=(ho.1.lt _ rfl).2;have h4:=SZ.out;exact⟨_,rfl,ho.wider (by omega) (by omega),hbel⟩
theorem v7_ (u:Value) (r c:Nat) (f:Nat→Nat→Int) (w0:World) (hu:MxR w0 w0.heap.size u (mxF r c f)) (hr:r≤1000) (hc:c≤1000) :
  Calls Tryz.prog 49 #[u] w0 fun e w'=>∃ v,e = .returned v∧b1_ w' w0.heap.size w'.heap.size v (b5_ c r (fun a b=>f b a))∧Below w0.heap.size w0 w':=by
 have hu':=hu;obtain⟨A,cap,rfl,hs,i1,i2,hl⟩:=hu.open_;clear hu;simp only[mxF]at hs hl i1 i2⊢;obtain⟨W,hW,g0,kB⟩:=b_3 w0 #[.int .i64 r,.int .i64 c,.slice A (flat r c f).length cap] 41;obtain⟨L,hL⟩:=e_ ((flat r c f).length);simp only[mxF]at hu';rw[hL]at hu' hs hl kB hW⊢;clear hL;obtain⟨c0,c1,c2⟩:=c_3 kB;have HU:=h_ (MxR.next g0 hu');have sz:w0.heap.size<W.heap.size:=kB.lt;go_enter Tryz.func49,Tryz.ntmps49
 go_wp2;rw[←hW];clear hW;go_loopw [3,7] (fun out i wr=>∃ (k:Nat) (vs:List Value),k≤c∧i = .int .i64 k∧Below W.heap.size W wr∧OutO wr W.heap.size wr.heap.size out vs∧vs.length=k∧Fam wr W.heap.size wr.heap.size (vs.zip (b5_ k r (fun a b=>f b a)))) (fun _ i _=>c-(intOf i).toNat)
 case atStart=>exact⟨0,[],l0_ _,rfl,Below.refl _ _,⟨World.ownsRow_nil _ _ _ _,by simp[Value.ownBlock],by simp⟩,rfl,⟨fun p hp=>by simp at hp,by simp⟩⟩
 case round =>
  clear c0 c1 c2;obtain⟨k,vs,hk,rfl,hbel,hO,hvl,hF⟩:=hrel;have kB2:=kB.call hbel;obtain⟨c0,c1,c2⟩:=c_3 kB2;have HVL:=h_ hvl;clear hvl;by_cases hlt:k<c
  ·have HUR:=h_ (MxR.more hbel.size (MxR.below hbel HU.out));have hws:=hbel.size;obtain⟨OA,oc,rfl,_,_⟩:=hO.form;have HO:=h_ hO;have HF:=h_ hF;clear hO hF;go_wp2_with fail
   refine (a8z _ r c k f _ HUR.out hr hc hlt).mono ?_;rintro e w1 ⟨v1,rfl,hv1,hb1⟩;obtain⟨wC,ewC⟩:∃ x,x=w1:=⟨_,rfl⟩;subst ewC;have hI:=hv1;have hbC:=hb1;have hlo:=l_ wr.heap.size;obtain⟨VA,vc,ev⟩:=hI.form;rw[a1_]at ev;subst ev;have hO2:=HO.out.below hbC;have hF2:=HF.out.below hbC;have hbs:=hbC.size;have HI:=h_ hI;have HO2:=h_ hO2;have HF2:=h_ hF2;have HBC:=h_ hbC;clear hI hO2 hF2 hbC hb1 hv1
   (go_wp2_with (at_builtin;refine Hold.stop ?_));unfold Hold
   obtain⟨X,hX,gn,kn⟩:=b_3 wC #[.slice VA r vc] 24;have hO3:=HO2.out.below gn;have hF3:=(HF2.out.snoc (HI.out.wider (lo':=wr.heap.size) hlo (l_ _)) hws (by omega)).below gn;have hXs:=gn.size;rw[←hX];clear hX;refine v1_ rfl (.tmp 10) (.tmp 14) rfl W.heap.size (.slice OA vs.length oc) vs rfl hO3.1 _ _ (.slice VA r vc) rfl ⟨wC.heap.size,0,rfl,kn.cell' (i:=0) rfl⟩ rfl (by have:=HVL.out;omega) (by omega) ?_;intro v' w' hn' hg' hv';have hbg:Below W.heap.size X w':=b9_ hg' (fun k hk=>(hO3.1.lt k hk).1) (by omega);have hbt:=(hbel.trans ((HBC.out).mono hws)).trans ((gn.mono (by omega)).trans hbg);have hF4:=Fam.grownO hF3 hO3.1 hg';have hws':=hbg.size;have hO4:OutO w' W.heap.size w'.heap.size v' (vs ++ [.slice VA r vc]):=⟨hn',fun k hk=>(hn'.lt k hk).2,by simp;have:=HVL.out;omega⟩;have HF4:=h_ hF4;have HO4:=h_ hO4;have HBT:=h_ hbt;clear hn' hg' hv' hbg hbt hF4 hO4 hO3 hF3 kn gn;go_wp2;go_roundw
   case rel =>
    refine⟨k+1,vs ++ [.slice VA r vc],by omega,by go_num,HBT.out,HO4.out,by simp[HVL.out],?_⟩;have:=HF4.out.mono (l_ _) (show wC.heap.size≤w'.heap.size by omega);have e:(vs ++ [Value.slice VA r vc]).zip (b5_ (k+1) r (fun a b=>f b a))=vs.zip (b5_ k r (fun a b=>f b a)) ++ [(Value.slice VA r vc,rowF r (fun i=>f i k))]:=by
     rw[n2_,List.zip_append (by rw[HVL.out,a3_])];rfl
    rw[e];exact this
   case measure=>simp[intOf];omega
  ·obtain rfl:k=c:=by omega
   have hO':=hO;have hF':=hF;go_wp2;go_ret
   exact⟨_,rfl,⟨vs,hO'.mono (by omega) (l_ _),by rw[HVL.out,a3_],hF'.mono (by omega) (l_ _)⟩,g0.trans (hbel.mono (by omega))⟩
def fcK (f:Nat→Nat→Int) (k i a b:Nat):Int:=if b<k∨(b=k∧a<i) then f a b else 0
theorem f7J (R K:Nat) (f:Nat→Nat→Int):flat R K (fun _ _=>0)=flat R K (fcK f 0 0):=c1_ fun a b _ _=>by simp[fcK]
theorem d7J {R K k i:Nat} (f:Nat→Nat→Int) (hi:i<R) (hk:k<K):(flat R K (fcK f k i)).set (i*K+k) (f i k)=flat R K (fcK f k (i+1)):=by
 rw[j8_ _ _ hi hk];refine c1_ fun a b _ _=>?_
 simp only[fcK]
 (repeat' split) <;> first | rfl | omega | (rename_i h _;rw[h.1,h.2])
theorem c9x (R K k:Nat) (f:Nat→Nat→Int):flat R K (fcK f k R)=flat R K (fcK f (k+1) 0):=by
 refine c1_ fun a b ha _=>?_
 simp only[fcK]
 (repeat' split) <;> first | rfl | omega
theorem f9j (R K:Nat) (f:Nat→Nat→Int):flat R K (fcK f K 0)=flat R K f:=c1_ fun a b _ hb=>by simp[fcK,hb]
theorem i7_ (u:Value) (R K:Nat) (f:Nat→Nat→Int) (w:World) (hu:SlII w w.heap.size u (b5_ K R (fun a b=>f b a))) (hR:R≤1000) (hK:K≤1000) :
  Calls Tryz.prog 30 #[.int .i64 R,u] w fun e w'=>∃ v,e = .returned v∧MxO w' w.heap.size w'.heap.size v (mxF R K f)∧Below w.heap.size w w':=by
 obtain⟨U,uc,rfl,_,_,hul,hx⟩:=hu.open_;clear hu;have HX:=h_ hx;rw[a3_]at hul⊢;obtain⟨W,hW,g0,k2⟩:=b_3 w #[.int .i64 0,.int .i64 0,.slice none 0 0] 41;have sz:W.heap.size=w.heap.size+1:=by rw[hW];simp
 have K2:=h_ k2;have SZ:=h_ sz;clear k2 sz hx;go_enter Tryz.func30,Tryz.ntmps30
 go_wp2_with fail
 rw[←hW];clear hW;refine (v9_ (R:Int) K W (by omega) (by omega) (by omega) (by omega)).mono ?_;rintro e w1 ⟨v1,rfl,⟨sA,rfl,oA,hr,hc⟩,hb1⟩;rw[m6_]at oA hr hc⊢;simp only[mxF]at oA hr hc⊢;rw[f7J R K f]at oA;obtain⟨A1,c1,e1⟩:=oA.form;obtain⟨N,hN⟩:=e_ (R*K);rw[a0_,hN]at e1;subst e1;have HN:=h_ hN;clear hN;have s1:=hb1.size;obtain⟨W4,hW4,b4,k4⟩:=b_3 w1 #[.int .i64 R,.int .i64 K,.slice A1 N c1] 41;have oA:=oA.below b4;have gW:=a6_ hb1 b4;clear b4 hb1;go_wp2;rw[←hW4];clear hW4;go_loopw [16] (fun i wr=>∃ k:Nat,k≤K∧i = .int .i64 k∧Blk wr w1.heap.size 41 #[.int .i64 R,.int .i64 K,.slice A1 N c1]∧a9_ wr W.heap.size w1.heap.size (.slice A1 N c1) (flat R K (fcK f k 0))∧Below W.heap.size W wr) (fun i _=>K-(intOf i).toNat)
 case atStart=>exact⟨0,l0_ _,rfl,k4,oA,gW⟩
 case round =>
  clear k4 oA gW;obtain⟨k,hk,rfl,k4,oA,gW⟩:=hrel;have s6:=gW.size;by_cases hlt:k<K
  ·have hx:=HX.out;rw[←a3_ K R (fun a b=>f b a)]at hlt;obtain⟨b,o,l,LA,lc,rfl,hb,HL,x1,hl⟩:=SlII.at_ hx hlt;rw[a3_]at hlt;have hl':=HL.out;rw[g2_ _ hlt]at hl';injection hl' with hl'
   subst hl';rw[a1_]at x1;have gww:Below w.heap.size w wr:=g0.trans (gW.mono g0.size);have x2:=a7_ gww hb x1;have HLC:=h_ hl;clear hx HL x1 hl;go_wp2;go_loopw [23] (fun i wr=>∃ j:Nat,j≤R∧i = .int .i64 j∧Blk wr w1.heap.size 41 #[.int .i64 R,.int .i64 K,.slice A1 N c1]∧a9_ wr W.heap.size w1.heap.size (.slice A1 N c1) (flat R K (fcK f k j))∧Below W.heap.size W wr) (fun i _=>R-(intOf i).toNat)
   case atStart=>exact⟨0,l0_ _,rfl,k4,oA,gW⟩
   case round =>
    clear k4 oA gW s6 x2 gww;obtain⟨j,hj,rfl,k4,oA,gW⟩:=hrel;have s6:=gW.size;by_cases hlj:j<R
    ·obtain⟨P,J,hP,hPJ,hJ,hJN,hJb⟩:=v8_ hlj hlt hR hK;rw[HN.out]at hJN;have hst:=d7J f hlj hlt;rw[←hJ]at hst;subst hPJ;have hl:=HLC.out;rw[←a1_ R (fun b=>f b k)]at hlj;obtain⟨b2,o2,x,rfl,hb2,HX2,x1,xr⟩:=SlI.at_ hl hlj;rw[a1_]at hlj;have hx2:=HX2.out;rw[d1_ _ hlj]at hx2;injection hx2 with hx2
     subst hx2;have gww:Below w.heap.size w wr:=g0.trans (gW.mono g0.size);have x2:=a7_ gww hb2 x1;obtain⟨gA,cA,eA,a1,a2,a3⟩:=oA.at_ (by rw[a0_,HN.out];omega);rw[a0_,HN.out]at eA;injection eA with eA1 eA2 eA3
     subst eA1 eA3;have r1:=k4.cell' (i:=1) rfl;have r2:=k4.cell' (i:=2) rfl;have fA:=oA.1.frozenG (P+k);have cA:=(oA.1.cellG (j:=P+k) (by rw[a0_,HN.out];omega)).1;have hc1:Chg W.heap.size w1.heap.size wr (wr.setCell ⟨gA,P+k,none⟩ (.int .i64 (f j k))):=b4_ a1 a2;have oA2:=oA.put (j:=P+k) (x:=f j k) xr;rw[hst]at oA2;have OA2:=h_ oA2;have K4:=h_ (k4.chg hc1 (by omega));have GW:=h_ (gW.trans (hc1.below (l_ _) s6));clear oA2 k4 oA gW hc1 hst hJ hl HX2 x1 gww hb2;go_wp2;go_roundw
     case rel=>exact⟨j+1,by omega,by go_num,K4.out,OA2.out,GW.out⟩
     case measure=>simp[intOf];omega
    ·obtain rfl:j=R:=by omega
     rw[c9x]at oA;have OA:=h_ oA;have K4:=h_ k4;have GW:=h_ gW;clear oA k4 gW;go_wp2;go_roundw
     case rel=>exact⟨k+1,by omega,by go_num,K4.out,OA.out,GW.out⟩
     case measure=>simp[intOf];omega
  ·obtain rfl:k=K:=by omega
   rw[f9j]at oA;have k2:=K2.out.below gW (by have:=SZ.out;omega);obtain⟨z0,z1,z2⟩:=c_3 k4;obtain⟨p0,p1,p2⟩:=c_3 k2;have f2:=k2.frozen;have h2:=chg3 wr w.heap.size (.int .i64 (R:Int)) (.int .i64 k) (.slice A1 N c1);have gw:Below w.heap.size w wr:=g0.trans (gW.mono g0.size);have gs:=gw.size;have oA2:=(oA.chg h2 (.inr (by have:=SZ.out;omega))).wider (lo':=w.heap.size) (hi':=wr.heap.size) (by have:=SZ.out;omega) (by have:=k4.lt;omega);have fg:=gw.trans (h2.below (l_ _) gs);have OA2:=h_ oA2;have FG:=h_ fg;clear oA oA2 fg gw h2 k2 k4 gW;go_wp2;exact bodyPost_ret (v:=.agg #[.int .i64 (R:Int),.int .i64 k,.slice A1 N c1]) (by simp[results,go_sem,p0,p1,p2]) rfl ⟨_,rfl,⟨_,rfl,by simpa [mxF] using OA2.out,by simp only[mxF,I64];omega,by simp only[mxF,I64];omega⟩,FG.out⟩
end Go.Proofs.YtnohdlkailpnoaaGreat

