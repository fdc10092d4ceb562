/- FnBars: the law holds for every argument. Part 8 of 16 of the proof: Cln, Copy, Copy2, Zero, Flat, RepAt, Ident, SSO, RowAt, RowZ, AddM, Plus, Elim, Mul, ElimS, Red1, Rank0. No condition. -/
import Derived.Test.YtbgccbmdiolhbaaGreatBBars7
import Derived.Shelf.Slices.Clone
import Derived.ArgAppend
set_option linter.unusedVariables false
set_option linter.unusedSimpArgs false
set_option maxHeartbeats 12800000
set_option maxRecDepth 100000
namespace Go.Proofs
open Go.Shelf
def Tryz.laysClone_ren:Go.Shelf.Ren:=⟨fun | 15=>132 | n=>n,fun | 22=>24 | 3=>3 | 4=>4 | n=>n,fun | n=>n⟩
theorem Tryz.laysClone:Go.Proofs.Lays2.n15 Tryz.prog Tryz.laysClone_ren:={
 mixed:=by kernel_rfl
 f15:=Tryz.func132.trans (congrArg some (by kernel_rfl))
 t3:=Tryz.underlying3
 a3:=Tryz.isAgg3
 z3:=Tryz.sizeOf3
 v3:=Tryz.zeroValue3
 t4:=Tryz.underlying4
 a4:=Tryz.isAgg4
 z4:=Tryz.sizeOf4
 v4:=Tryz.zeroValue4
 t22:=Tryz.underlying24
 a22:=Tryz.isAgg24
 z22:=Tryz.sizeOf24
 v22:=Tryz.zeroValue24
 i3:=by kernel_rfl }
end Go.Proofs
namespace Go.Proofs.YtbgccbmdiolhbaaGreat
open Go.RowKit
theorem q2_ (u:Value) (xs:List Int) (w:World) (hu:SlI w w.heap.size u xs) :
  Calls Tryz.prog 132 #[u] w fun e w'=>∃ v,e = .returned v∧a8_ w' w.heap.size w'.heap.size v xs∧Below w.heap.size w w':=by
 have hr:=SlI.i64 hu;have hrd:=hu;obtain⟨A,c,rfl,_,_,hn,hx⟩:=hu;rcases A with _ | a
 ·have h0:xs=[]:=by
   apply m1_
   rcases Nat.eq_zero_or_pos xs.length with h | h
   ·exact h
   ·obtain⟨b,o,e,_⟩:=hx h;cases e
  subst h0;exact (Any.slices_Clone_int_nil Tryz.laysClone 0 c w).mono fun e w' ⟨h1,h2⟩=>⟨_,h1,⟨OwnI.nil _ _,by simp[Value.ownBlock]⟩,by rw[h2];exact Below.refl _ _⟩
 rcases Nat.eq_zero_or_pos xs.length with h0 | hp
 ·have h0:xs=[]:=m1_ h0;subst h0;exact (Any.slices_Clone_int_zero Tryz.laysClone a c w).mono fun e w' ⟨v,h1,h2,_,hb⟩=>⟨v,h1,a8_.of_own ⟨h2,by simp,by simp⟩,hb⟩
 ·obtain⟨b,o,e,hb,hc⟩:=hx hp;injection e with e
  subst e;refine (Any.slices_Clone_int Tryz.laysClone b o xs.length c xs w (l_ _) (by omega) (fun j hj=>?_)).mono ?_
  ·have h:=(hc j (xs.getD j 0) (by rw[l1_,l2_ hj];rfl)).1;simpa using h
  ·rintro e w' ⟨v',rfl,ho,hnn,hb⟩;rw[l7_ (l_ _)]at ho;exact⟨v',rfl,a8_.of_own ⟨ho,hn,hr⟩,hb⟩
theorem i5_ {w:World} {ops:Array Oper} {rest:List Oper} {o:Oper} {a:Act} {Q:Exit→Act→World→Prop} (hgd:o.guard=none) (s x:Operand)
  (ho:o.op = .call { callee:=.builtin .append,args:=#[s,x],argTypes:=#[24,24] })
  (g lo B:Nat) (cs:Array Value) (hs:a.eval s = .slice (some ⟨g,0,none⟩) 0 0) (hg:Blk w g 3 cs) (hcs:cs.size=0) (hlo:lo≤g) (A:Option Addr) (c:Nat) (news:List Int) (hx:a.eval x = .slice A news.length c) (hr:SlI w B (.slice A news.length c) news)
  (h:∀ v' w',OwnI w' lo v' news→Below w.heap.size w w'→wpList Tryz.prog ops Q rest (a.put o.dst v') w'):wpList Tryz.prog ops Q (o :: rest) a w:=by
 obtain⟨i0,hi,hz0,hz1,hz2⟩:=info_parts u1_;have hn:=hr;obtain⟨_,_,_,_,_,hn,hcell⟩:=hn;have hI:=SlI.i64 hr;refine wpList_plain hgd fun K hK=>?_
 by_cases hp:0<news.length
 ·obtain⟨b,of,eA,hb,hc⟩:=hcell hp;have hA:=r2_.of_sl hr;obtain⟨hl,hnews⟩:=hA;obtain⟨b',of',eA',hc'⟩:=hnews.resolve_left (by omega);subst eA';have hadd:∀ j,(⟨b',of',none⟩:Addr).add j=⟨b',of'+j,none⟩:=by intro j;unfold Addr.add;split <;> simp_all
  obtain⟨v',w',hrun,hown,hgr⟩:=run_append_arg_grows (P:=Tryz.prog) w 24 o.type 3 i0 _ 1 8 Tryz.underlying24 hi hz0 hz1 hz2 rfl (by decide) ⟨g,0,none⟩ 0 0 [] (by simp) (by intro j u hj;simp at hj) ⟨b',of',none⟩ news.length c (news.map (Value.int .i64)) hl (fun j u hj=>by rw[hadd];exact hc' j u hj) (by omega) (by simp only[maxLen];omega) (by omega);unfold Oper.wp execOp;simp only[ho,resolve,invoke,builtin,Sem.run_bind,Sem.run_pure,Result.andThen_ok,List.map_toArray,List.map_cons,List.map_nil,hs,hx,hrun];refine hK _ _ (h v' w' ?_ ⟨hgr.os,hgr.tape,hgr.output,hgr.size,fun k hk=>hgr.block k hk (by simp)⟩);have hgl:=hg.lt;exact OwnI.lower (base:=w.heap.size) ⟨by simpa using hown,hn,hI⟩ (by omega)
 ·have h0:news=[]:=m1_ (by omega);subst h0;have hrun:(Builtin.append_ #[24,24] o.type #[.slice (some ⟨g,0,none⟩) 0 0,.slice A 0 c]).run Tryz.prog w = .ok (.slice (some ⟨g,0,none⟩) 0 0) w:=by
   cases A <;> simp[Builtin.append_,run_underlying (P:=Tryz.prog) Tryz.underlying24,sizeOf,typeInfo,hi,Builtin.lenOf,Builtin.firstCells,storeCells,loadCells,loadCellsFrom]
  simp only[List.length_nil]at hx;unfold Oper.wp execOp;simp only[ho,resolve,invoke,builtin,Sem.run_bind,Sem.run_pure,Result.andThen_ok,List.map_toArray,List.map_cons,List.map_nil,hs,hx,hrun];refine hK _ _ (h _ w ?_ br_);have:=hg.own (base:=lo) (n:=0) (cap:=0) (size:=1) hlo (l_ _) (by simp only[maxLen];omega) (by omega);exact⟨by simpa using this,by simp,by simp⟩
def r9_ (w:World) (lo:Nat) (u:Value):Prop:=∃ g,u = .slice (some ⟨g,0,none⟩) 0 0∧lo≤g∧Blk w g 3 #[]
theorem r9_.below {w w':World} {lo:Nat} {u:Value} (h:r9_ w lo u) (hb:Below w.heap.size w w'):r9_ w' lo u:=by
 obtain⟨g,e,h1,h2⟩:=h;exact⟨g,e,h1,h2.call hb⟩
theorem r9_.new (w:World) {lo:Nat} (h:lo≤w.heap.size):r9_ (w.alloc (.cells #[] 3)) lo (.slice (some ⟨w.heap.size,0,none⟩) 0 0):=⟨_,rfl,h,Blk.new _ _ _⟩
theorem b5z (u:Value) (m:Mx) (w0:World) (hu:MxR w0 w0.heap.size u m) :
  Calls Tryz.prog 146 #[u] w0 fun e w'=>∃ v,e = .returned v∧MxO w' w0.heap.size w'.heap.size v m∧Below w0.heap.size w0 w':=by
 obtain⟨A,c,rfl,hf,hr,hc,lf⟩:=hu.open_;clear hu;obtain⟨W,hW,g0,k1,k2⟩:=b_4 w0 #[.int .i64 m.r,.int .i64 m.c,.slice A m.a.length c] 65 #[.int .i64 0,.int .i64 0,.slice none 0 0] 65;have sz:W.heap.size=w0.heap.size+1+1:=by rw[hW];simp
 have SZ:=h_ sz;clear sz;replace hf:=SlI.next g0 hf;go_enter Tryz.func146,Tryz.ntmps146
 go_wp2;rw[←hW];clear hW;refine a9_ (by kernel_rfl) [.eq (.pointer (some ⟨w0.heap.size,0,none⟩)),.eq (.int .i64 m.r),.eq (.pointer (some ⟨w0.heap.size,1,none⟩)),.eq (.int .i64 m.c),rel 4 (fun u lo hi w=>r9_ w W.heap.size u),.eq (.pointer (some ⟨w0.heap.size,2,none⟩)),.eq (.slice A m.a.length c),rel 7 (fun u lo hi w=>OwnI w W.heap.size u m.a),rel 8 (fun u lo hi w=>∃ s,u = .agg #[.int .i64 m.r,.int .i64 m.c,s]∧OwnI w W.heap.size s m.a)] [[],[0],[],[2],[],[],[5],[4,5,6],[0,1,2,3,4,5,6,7],[0,1,2,3,4,5,6,7,8]] 9 (by kernel_rfl) ⟨trivial,trivial,trivial,trivial,a7_ (fun u lo hi w w' h hb=>h.below hb),trivial,trivial,a7_ (fun u lo hi w w' h hb=>h.below hb),a7_ (fun u lo hi w w' ⟨s,e,h⟩ hb=>⟨s,e,h.below hb⟩),trivial⟩ ⟨?_,?_,?_,?_,?_,?_,?_,?_,?_,trivial⟩ ?_;iterate 9 (intro x w hb hk Q' hQ;have he:=k_e hk;simp only[k_s]at he;simp only[netE]at hQ⊢;(try simp only[he]at hQ⊢);(try clear he);rotate_left)
 rotate_left
 ·clear hk;go_wp2;exact hQ _ _ br_ rfl
 ·clear hk;have c0:=(k1.call hb).cell' (i:=0) rfl;go_wp2;exact hQ _ _ br_ rfl
 ·clear hk;go_wp2;exact hQ _ _ br_ rfl
 ·clear hk;have c1:=(k1.call hb).cell' (i:=1) rfl;go_wp2;exact hQ _ _ br_ rfl
 ·clear hk;go_wp2;exact hQ _ _ (a0_ _ _) (r9_.new _ hb.size)
 ·clear hk;go_wp2;exact hQ _ _ br_ rfl
 ·clear hk;have c2:=(k1.call hb).cell' (i:=2) rfl;go_wp2;exact hQ _ _ br_ rfl
 ·have h4:r9_ w W.heap.size (x.v 4):=(hk 4 (by decide)).1;have s4:=(hk 4 (by decide)).2;clear hk;obtain⟨g,e4,hg,hB⟩:=h4;rw[e4]at hQ⊢;refine i5_ (by rfl) (.tmp 7) (.tmp 9) (by rfl) g W.heap.size w.heap.size #[] (by rfl) hB rfl hg A c m.a (by rfl) (SlI.next hb hf) ?_;intro v' w' ho hb';exact hQ _ _ hb' ho
 ·have h4:r9_ w W.heap.size (x.v 4):=(hk 4 (by decide)).1;have h7:OwnI w W.heap.size (x.v 7) m.a:=(hk 7 (by decide)).1;have s4:=(hk 4 (by decide)).2;have s7:=(hk 7 (by decide)).2;clear hk;obtain⟨A',c',e7,_,_⟩:=h7.form;rw[e7]at h7;rw[e7]at hQ⊢;go_wp2;exact hQ (.agg #[.int .i64 m.r,.int .i64 m.c,.slice A' m.a.length c']) w br_ ⟨_,rfl,h7⟩
 ·intro x w hb hk hiv hdj;have h4:r9_ w W.heap.size (x.v 4):=hk 4 (by decide);have h7:OwnI w W.heap.size (x.v 7) m.a:=hk 7 (by decide);have h8:∃ s,(x.v 8) = .agg #[.int .i64 m.r,.int .i64 m.c,s]∧OwnI w W.heap.size s m.a:=hk 8 (by decide);have he:=k_g hk [0,1,2,3,5,6];simp only[k_s]at he;simp only[netE,he];clear he hk;obtain⟨s,e8,ho⟩:=h8;obtain⟨A',c',es,_,_⟩:=ho.form;subst es;rw[e8];have k2':=k2.call hb;have f2:=k2'.frozen;obtain⟨r0,r1,r2⟩:=c_3 k2';have hbs:=hb.size;have sz:=SZ.out;have gf:=g0.trans (hb.mono g0.size);clear h4 h7 k1 k2 sz;go_wp2;have sz:=SZ.out;refine bodyPost_ret (v:=.agg #[.int .i64 m.r,.int .i64 m.c,.slice A' m.a.length c']) (by simp[results,go_sem,r0,r1,r2]) rfl ⟨_,rfl,⟨_,rfl,?_,hr,hc⟩,((gf.setCell (by simp) _).setCell (by simp) _).setCell (by simp) _⟩;exact ((((a8_.of_own ho).set (by simp;omega) _).set (by simp;omega) _).set (by simp;omega) _).wider (by omega) (by simp)
theorem a8_.form {w:World} {lo hi:Nat} {v:Value} {l:List Int} (h:a8_ w lo hi v l):∃ A c,v = .slice A l.length c:=by
 obtain⟨A,c,e,_⟩:=h.1.form;exact⟨A,c,e⟩
theorem i7_.setLow {w:World} {lo hi:Nat} {v:Value} {q:Qv} (h:i7_ w lo hi v q) {p:Addr} (hp:p.block<lo) (u:Value):i7_ (w.setCell p u) lo hi v q :=
 h.chg (a5_ (lo:=p.block) (hi:=p.block+1) (l_ _) (by omega)) (.inr (by omega))
theorem i7_.wider {w:World} {lo hi lo' hi':Nat} {v:Value} {q:Qv} (h:i7_ w lo hi v q) (h1:lo'≤lo) (h2:hi≤hi'):i7_ w lo' hi' v q:=by
 obtain⟨a,b,e,hF,hr⟩:=h;exact⟨a,b,e,hF.mono h1 h2,hr⟩
theorem A1_ (u:Value) (m:Mx) (w0:World) (hu:MxR w0 w0.heap.size u m) :
  Calls Tryz.prog 121 #[u] w0 fun e w'=>∃ v,e = .returned v∧MxO w' w0.heap.size w'.heap.size v m∧Below w0.heap.size w0 w':=by
 obtain⟨A,c,rfl,hf,hr,hc,lf⟩:=hu.open_;clear hu;obtain⟨W,hW,g0,k1,k2⟩:=b_4 w0 #[.int .i64 m.r,.int .i64 m.c,.slice A m.a.length c] 65 #[.int .i64 0,.int .i64 0,.slice none 0 0] 65;have sz:W.heap.size=w0.heap.size+1+1:=by rw[hW];simp
 have SZ:=h_ sz;clear sz;replace hf:=SlI.next g0 hf;go_enter Tryz.func121,Tryz.ntmps121
 go_wp2_with fail
 rw[←hW];clear hW;refine (q2_ _ m.a _ hf).mono ?_;rintro e w1 ⟨v,rfl,ho,hb1⟩;obtain⟨A',c',rfl⟩:=ho.form;have k1':=k1.call hb1;have k2':=k2.call hb1;have f1:=k1'.frozen;have f2:=k2'.frozen;obtain⟨q0,q1,q2⟩:=c_3 k1';obtain⟨r0,r1,r2⟩:=c_3 k2';have gf:=g0.trans (hb1.mono g0.size);have hbs:=hb1.size;have HBS:=h_ hbs;clear k1 k2 hbs hb1 hf;go_wp2;have sz:=SZ.out;have hbs:=HBS.out;refine bodyPost_ret (v:=.agg #[.int .i64 m.r,.int .i64 m.c,.slice A' m.a.length c']) (by simp[results,go_sem,r0,r1,r2]) rfl ⟨_,rfl,⟨_,rfl,?_,hr,hc⟩,(((gf.setCell (by simp) _).setCell (by simp) _).setCell (by simp) _).setCell (by simp) _⟩;exact ((((ho.set (by simp;omega) _).set (by simp;omega) _).set (by simp;omega) _).set (by simp;omega) _).wider (by omega) (by simp)
theorem X1_ {w:World} {lo hi l1 h1 l2 h2:Nat} {a b:Value} {l m:List Int} (ha:a8_ w l1 h1 a l) (hb:a8_ w l2 h2 b m) (hd:h1≤l2∨h2≤l1) (k1:lo≤l1) (k2:lo≤l2) (k3:h1≤hi) (k4:h2≤hi):Fam w lo hi [(a,l),(b,m)]:=by
 refine⟨fun p hp=>?_,?_⟩
 ·simp only[List.mem_cons,List.not_mem_nil,or_false]at hp;rcases hp with rfl | rfl
  ·exact ha.wider k1 k3
  ·exact hb.wider k2 k4
 ·simp only[List.pairwise_cons,List.mem_cons,List.not_mem_nil,or_false,forall_eq,false_implies,implies_true,List.Pairwise.nil,and_true];rcases hA:a.ownBlock with _ | x
  ·exact .inl rfl
  ·right
   intro e;have h3:=ha.2 x hA;have h4:=(ha.1.lt x hA).1;have h5:=hb.2 x e.symm;have h6:=(hb.1.lt x e.symm).1;omega
theorem M4_ (u:Value) (q:Qv) (w0:World) (hu:QvR w0 w0.heap.size u q) :
  Calls Tryz.prog 139 #[u] w0 fun e w'=>∃ v,e = .returned v∧i7_ w' w0.heap.size w'.heap.size v q∧Below w0.heap.size w0 w':=by
 obtain⟨A,c,C,d,rfl,hf,ht,hr,lf,lt⟩:=hu.open_;clear hu;obtain⟨W,hW,g0,k1,k2⟩:=b_4 w0 #[.int .i64 q.v,.slice A q.f.length c,.slice C q.t.length d] 26 #[.int .i64 0,.slice none 0 0,.slice none 0 0] 26;have sz:W.heap.size=w0.heap.size+1+1:=by rw[hW];simp
 have SZ:=h_ sz;clear sz;replace hf:=SlI.next g0 hf;replace ht:=SlI.next g0 ht;go_enter Tryz.func139,Tryz.ntmps139
 go_wp2;rw[←hW];clear hW;refine a9_ (by kernel_rfl) [.eq (.pointer (some ⟨w0.heap.size,0,none⟩)),.eq (.int .i64 q.v),.eq (.pointer (some ⟨w0.heap.size,1,none⟩)),.eq (.slice A q.f.length c),rel 4 (fun u lo hi w=>a8_ w lo hi u q.f),.eq (.pointer (some ⟨w0.heap.size,2,none⟩)),.eq (.slice C q.t.length d),rel 7 (fun u lo hi w=>a8_ w lo hi u q.t),.rel (fun x w=>x.v 8 = .agg #[.int .i64 q.v,x.v 4,x.v 7])] [[],[0],[],[2],[2,3],[],[5],[2,3,4,5,6],[0,1,2,3,4,5,6,7],[0,1,2,3,4,5,6,7,8]] 9 (by kernel_rfl) ⟨trivial,trivial,trivial,trivial,a7_ (fun u lo hi w w' h hb=>h.below hb),trivial,trivial,a7_ (fun u lo hi w w' h hb=>h.below hb),fun x w w' h hb=>h,trivial⟩ ⟨?_,?_,?_,?_,?_,?_,?_,?_,?_,trivial⟩ ?_;iterate 9 (intro x w hb hk Q' hQ;have he:=k_e hk;simp only[k_s]at he;simp only[netE]at hQ⊢;(try simp only[he]at hQ⊢);(try clear he);rotate_left)
 rotate_left
 ·clear hk;go_wp2;exact hQ _ _ br_ rfl
 ·clear hk;have c0:=(k1.call hb).cell' (i:=0) rfl;go_wp2;exact hQ _ _ br_ rfl
 ·clear hk;go_wp2;exact hQ _ _ br_ rfl
 ·clear hk;have c1:=(k1.call hb).cell' (i:=1) rfl;go_wp2;exact hQ _ _ br_ rfl
 ·clear hk;go_wp2_with fail
  refine (q2_ _ q.f _ (SlI.next hb hf)).mono ?_;rintro e w1 ⟨v1,rfl,ho,hb1⟩;go_wp2;exact hQ _ _ hb1 ho
 ·clear hk;go_wp2;exact hQ _ _ br_ rfl
 ·clear hk;have c2:=(k1.call hb).cell' (i:=2) rfl;go_wp2;exact hQ _ _ br_ rfl
 ·have h4:a8_ w (x.lo 4) (x.hi 4) (x.v 4) q.f:=(hk 4 (by decide)).1;have s4:=(hk 4 (by decide)).2;clear hk;go_wp2_with fail
  refine (q2_ _ q.t _ (SlI.next hb ht)).mono ?_;rintro e w1 ⟨v1,rfl,ho,hb1⟩;go_wp2;exact hQ _ _ hb1 ho
 ·have h4:a8_ w (x.lo 4) (x.hi 4) (x.v 4) q.f:=(hk 4 (by decide)).1;have h7:a8_ w (x.lo 7) (x.hi 7) (x.v 7) q.t:=(hk 7 (by decide)).1;have s4:=(hk 4 (by decide)).2;have s7:=(hk 7 (by decide)).2;clear hk;obtain⟨s4A,s4c,e4⟩:=h4.form;obtain⟨s7A,s7c,e7⟩:=h7.form;have hQ':=hQ (.agg #[.int .i64 q.v,x.v 4,x.v 7]) w br_ rfl;rw[e4,e7]at hQ'⊢;go_wp2;exact hQ'
 ·intro x w hb hk hiv hdj;have h4:a8_ w (x.lo 4) (x.hi 4) (x.v 4) q.f:=hk 4 (by decide);have h7:a8_ w (x.lo 7) (x.hi 7) (x.v 7) q.t:=hk 7 (by decide);have h8:x.v 8 = .agg #[.int .i64 q.v,x.v 4,x.v 7]:=hk 8 (by decide);have he:=k_g hk [0,1,2,3,5,6];simp only[k_s]at he;simp only[netE,he];clear he hk;have hF:=X1_ h4 h7 (hdj 4 7 (by decide) (by decide) (by decide)) (hiv 4 (by decide)).1 (hiv 7 (by decide)).1 (hiv 4 (by decide)).2.2 (hiv 7 (by decide)).2.2;have hQ:i7_ w W.heap.size w.heap.size (.agg #[.int .i64 q.v,x.v 4,x.v 7]) q:=⟨_,_,rfl,hF,hr⟩;obtain⟨s4A,s4c,e4⟩:=h4.form;obtain⟨s7A,s7c,e7⟩:=h7.form;rw[e4,e7]at hQ h8;rw[h8];have k2':=k2.call hb;have f2:=k2'.frozen;obtain⟨r0,r1,r2⟩:=c_3 k2';have gf:=g0.trans (hb.mono g0.size);have HBS:=h_ hb.size;have HQ:=h_ hQ;clear h4 h7 h8 e4 e7 k1 k2 hb hf ht hF hQ hdj hiv;go_wp2;have sz:=SZ.out;have hbs:=HBS.out;refine bodyPost_ret (v:=.agg #[.int .i64 q.v,.slice s4A q.f.length s4c,.slice s7A q.t.length s7c]) (by simp[results,go_sem,r0,r1,r2]) rfl ⟨_,rfl,i7_.wider (lo:=W.heap.size) (hi:=w.heap.size) ?_ (by omega) (by simp),((gf.setCell (by simp) _).setCell (by simp) _).setCell (by simp) _⟩;exact ((HQ.out.setLow (by simp;omega) _).setLow (by simp;omega) _).setLow (by simp;omega) _
def s0_ (w:World) (lo hi:Nat) (val:Value) (q:Qv):Prop:=∃ a b,val = .agg #[.int .i64 q.v,a,b]∧a8_ w lo hi a q.f∧a8_ w lo hi b q.t∧I64 q.v
theorem s0_.below {w w':World} {lo hi:Nat} {v:Value} {q:Qv} (h:s0_ w lo hi v q) (hb:Below w.heap.size w w'):s0_ w' lo hi v q:=by
 obtain⟨a,b,e,h1,h2,h3⟩:=h;exact⟨a,b,e,h1.below hb,h2.below hb,h3⟩
theorem s0_.rd {w:World} {lo hi:Nat} {v:Value} {q:Qv} (h:s0_ w lo hi v q):QvR w w.heap.size v q:=by
 obtain⟨a,b,e,h1,h2,h3⟩:=h;exact⟨a,b,e,h1.rd,h2.rd,h3⟩
theorem s0_.set {w:World} {lo hi:Nat} {v:Value} {q:Qv} (h:s0_ w lo hi v q) {p:Addr} (hp:p.block<lo) (u:Value):s0_ (w.setCell p u) lo hi v q:=by
 obtain⟨a,b,e,h1,h2,h3⟩:=h;exact⟨a,b,e,h1.set hp u,h2.set hp u,h3⟩
theorem s0_.wider {w:World} {lo hi lo' hi':Nat} {v:Value} {q:Qv} (h:s0_ w lo hi v q) (k1:lo'≤lo) (k2:hi≤hi'):s0_ w lo' hi' v q:=by
 obtain⟨a,b,e,h1,h2,h3⟩:=h;exact⟨a,b,e,h1.wider k1 k2,h2.wider k1 k2,h3⟩
theorem E6_ (u:Value) (q:Qv) (w0:World) (hu:QvR w0 w0.heap.size u q) :
  Calls Tryz.prog 104 #[u] w0 fun e w'=>∃ v,e = .returned v∧s0_ w' w0.heap.size w'.heap.size v q∧Below w0.heap.size w0 w':=by
 obtain⟨A,c,C,d,rfl,hf,ht,hr,lf,lt⟩:=hu.open_;clear hu;obtain⟨W,hW,g0,k1,k2⟩:=b_4 w0 #[.int .i64 q.v,.slice A q.f.length c,.slice C q.t.length d] 26 #[.int .i64 0,.slice none 0 0,.slice none 0 0] 26;have sz:W.heap.size=w0.heap.size+1+1:=by rw[hW];simp
 have SZ:=h_ sz;clear sz;replace hf:=SlI.next g0 hf;replace ht:=SlI.next g0 ht;go_enter Tryz.func104,Tryz.ntmps104
 go_wp2;rw[←hW];clear hW;refine a9_ (by kernel_rfl) [.eq (.pointer (some ⟨w0.heap.size,0,none⟩)),.eq (.int .i64 q.v),rel 2 (fun u lo hi w=>r9_ w W.heap.size u),.eq (.pointer (some ⟨w0.heap.size,1,none⟩)),.eq (.slice A q.f.length c),rel 5 (fun u lo hi w=>OwnI w W.heap.size u q.f),rel 6 (fun u lo hi w=>r9_ w W.heap.size u),.eq (.pointer (some ⟨w0.heap.size,2,none⟩)),.eq (.slice C q.t.length d),rel 9 (fun u lo hi w=>OwnI w W.heap.size u q.t),.rel (fun x w=>x.v 10 = .agg #[.int .i64 q.v,x.v 5,x.v 9])] [[],[0],[],[],[3],[2,3,4],[],[],[7],[2,3,4,5,6,7,8],[0,1,2,3,4,5,6,7,8,9],[0,1,2,3,4,5,6,7,8,9,10]] 11 (by kernel_rfl) ⟨trivial,trivial,a7_ (fun u lo hi w w' h hb=>h.below hb),trivial,trivial,a7_ (fun u lo hi w w' h hb=>h.below hb),a7_ (fun u lo hi w w' h hb=>h.below hb),trivial,trivial,a7_ (fun u lo hi w w' h hb=>h.below hb),fun x w w' h hb=>h,trivial⟩ ⟨?_,?_,?_,?_,?_,?_,?_,?_,?_,?_,?_,trivial⟩ ?_;iterate 11 (intro x w hb hk Q' hQ;have he:=k_e hk;simp only[k_s]at he;simp only[netE]at hQ⊢;(try simp only[he]at hQ⊢);(try clear he);rotate_left)
 rotate_left
 ·clear hk;go_wp2;exact hQ _ _ br_ rfl
 ·clear hk;have c0:=(k1.call hb).cell' (i:=0) rfl;go_wp2;exact hQ _ _ br_ rfl
 ·clear hk;go_wp2;exact hQ _ _ (a0_ _ _) (r9_.new _ hb.size)
 ·clear hk;go_wp2;exact hQ _ _ br_ rfl
 ·clear hk;have c1:=(k1.call hb).cell' (i:=1) rfl;go_wp2;exact hQ _ _ br_ rfl
 ·have h2:r9_ w W.heap.size (x.v 2):=(hk 2 (by decide)).1;have s2:=(hk 2 (by decide)).2;clear hk;obtain⟨g,e2,hg,hB⟩:=h2;rw[e2]at hQ⊢;refine i5_ (by rfl) (.tmp 5) (.tmp 7) (by rfl) g W.heap.size w.heap.size #[] (by rfl) hB rfl hg A c q.f (by rfl) (SlI.next hb hf) ?_;intro v' w' ho hb';exact hQ _ _ hb' ho
 ·clear hk;go_wp2;exact hQ _ _ (a0_ _ _) (r9_.new _ hb.size)
 ·clear hk;go_wp2;exact hQ _ _ br_ rfl
 ·clear hk;have c2:=(k1.call hb).cell' (i:=2) rfl;go_wp2;exact hQ _ _ br_ rfl
 ·have h2:r9_ w W.heap.size (x.v 2):=(hk 2 (by decide)).1;have h5:OwnI w W.heap.size (x.v 5) q.f:=(hk 5 (by decide)).1;have h6:r9_ w W.heap.size (x.v 6):=(hk 6 (by decide)).1;have s2:=(hk 2 (by decide)).2;have s5:=(hk 5 (by decide)).2;have s6:=(hk 6 (by decide)).2;clear hk;obtain⟨g,e6,hg,hB⟩:=h6;rw[e6]at hQ⊢;refine i5_ (by rfl) (.tmp 9) (.tmp 11) (by rfl) g W.heap.size w.heap.size #[] (by rfl) hB rfl hg C d q.t (by rfl) (SlI.next hb ht) ?_;intro v' w' ho hb';exact hQ _ _ hb' ho
 ·have h2:r9_ w W.heap.size (x.v 2):=(hk 2 (by decide)).1;have h5:OwnI w W.heap.size (x.v 5) q.f:=(hk 5 (by decide)).1;have h6:r9_ w W.heap.size (x.v 6):=(hk 6 (by decide)).1;have h9:OwnI w W.heap.size (x.v 9) q.t:=(hk 9 (by decide)).1;have s2:=(hk 2 (by decide)).2;have s5:=(hk 5 (by decide)).2;have s6:=(hk 6 (by decide)).2;have s9:=(hk 9 (by decide)).2;clear hk;obtain⟨s4A,s4c,e4,_,_⟩:=h5.form;obtain⟨s7A,s7c,e7,_,_⟩:=h9.form;have hQ':=hQ (.agg #[.int .i64 q.v,x.v 5,x.v 9]) w br_ rfl;rw[e4,e7]at hQ'⊢;go_wp2;exact hQ'
 ·intro x w hb hk hiv hdj;have h2:r9_ w W.heap.size (x.v 2):=hk 2 (by decide);have h5:OwnI w W.heap.size (x.v 5) q.f:=hk 5 (by decide);have h6:r9_ w W.heap.size (x.v 6):=hk 6 (by decide);have h9:OwnI w W.heap.size (x.v 9) q.t:=hk 9 (by decide);have h10:x.v 10 = .agg #[.int .i64 q.v,x.v 5,x.v 9]:=hk 10 (by decide);have he:=k_g hk [0,1,3,4,7,8];simp only[k_s]at he;simp only[netE,he];clear he hk;have hQ:s0_ w W.heap.size w.heap.size (.agg #[.int .i64 q.v,x.v 5,x.v 9]) q:=⟨_,_,rfl,a8_.of_own h5,a8_.of_own h9,hr⟩;obtain⟨s4A,s4c,e4,_,_⟩:=h5.form;obtain⟨s7A,s7c,e7,_,_⟩:=h9.form;rw[e4,e7]at hQ h10;rw[h10];have k2':=k2.call hb;have f2:=k2'.frozen;obtain⟨r0,r1,r2⟩:=c_3 k2';have gf:=g0.trans (hb.mono g0.size);have HBS:=h_ hb.size;have HQ:=h_ hQ;clear h2 h5 h6 h9 h10 e4 e7 k1 k2 hb hf ht hQ hdj hiv;go_wp2;have sz:=SZ.out;have hbs:=HBS.out;refine bodyPost_ret (v:=.agg #[.int .i64 q.v,.slice s4A q.f.length s4c,.slice s7A q.t.length s7c]) (by simp[results,go_sem,r0,r1,r2]) rfl ⟨_,rfl,s0_.wider (lo:=W.heap.size) (hi:=w.heap.size) ?_ (by omega) (by simp),((gf.setCell (by simp) _).setCell (by simp) _).setCell (by simp) _⟩;exact ((HQ.out.set (by simp;omega) _).set (by simp;omega) _).set (by simp;omega) _
def zmx (r c:Int):Mx:=⟨r,c,List.replicate (r*c).toNat 0⟩
theorem r8_ (r c:Int) (w:World) (hr:0≤r) (hc:0≤c) (hr2:r≤1000) (hc2:c≤1000) :
  Calls Tryz.prog 82 #[.int .i64 r,.int .i64 c] w fun e w'=>∃ v,e = .returned v∧MxO w' w.heap.size w'.heap.size v (zmx r c)∧Below w.heap.size w w':=by
 obtain⟨n,rfl⟩:=Int.eq_ofNat_of_zero_le hr;obtain⟨m,rfl⟩:=Int.eq_ofNat_of_zero_le hc;obtain⟨N,hN⟩:=e_ (n*m);have hNb:N≤1000000:=by
  have:n*m≤1000*1000:=Nat.mul_le_mul (by omega) (by omega);omega
 have hmul:(n:Int)*m=(N:Int):=by rw[←hN];simp
 have hw:wrap64 ((n:Int)*m)=(N:Int):=by rw[hmul];exact IntWalk.wrap64_in _ ⟨by omega,by omega⟩
 have hZ:zmx n m=⟨n,m,List.replicate N 0⟩:=by rw[zmx,hmul];rfl
 rw[hZ];obtain⟨i0,hi,hz0,hz1,hz2⟩:=info_parts u1_;have hmk:=C3_ (P:=Tryz.prog) Tryz.underlying24 hi hz0 (n:=N) (by rw[hz2];omega) (by omega);rw[hz1]at hmk;have hN1:(0:Int)≤(n:Int)*m:=by omega
 have hN2:(n:Int)*m≤1000000:=by omega
 clear hi hz0 hz1 hz2 hN hZ;obtain⟨W,hW⟩:∃ W,W=(w.alloc (.cells #[.int .i64 n,.int .i64 m,.slice (some ⟨w.heap.size+1,0,none⟩) N N] 65)).alloc (.cells (f4_ (.int .i64 0) N) 3):=⟨_,rfl⟩;have g0:Below w.heap.size w W:=by rw[hW];exact ((Below.refl _ _).alloc (l_ _) _).alloc (by simp) _
 have k1:Blk W w.heap.size 65 #[.int .i64 n,.int .i64 m,.slice (some ⟨w.heap.size+1,0,none⟩) N N]:=by rw[hW];exact (Blk.new _ _ _).alloc _
 have ho:OwnI W (w.heap.size+1) (.slice (some ⟨w.heap.size+1,0,none⟩) N N) (List.replicate N 0):=by
  rw[hW];have:=OwnI.made0 (w:=w.alloc (.cells #[.int .i64 n,.int .i64 m,.slice (some ⟨w.heap.size+1,0,none⟩) N N] 65)) (base:=w.heap.size+1) (N:=N) (by simp) (by omega);simpa only[l3_] using this
 obtain⟨r0,r1,r2⟩:=c_3 k1;have HO:=h_ ho;clear ho k1;rw[Nat.mul_one]at hmk;go_enter Tryz.func82,Tryz.ntmps82
 go_wp2;rw[←hW];exact bodyPost_ret (v:=.agg #[.int .i64 n,.int .i64 m,.slice (some ⟨w.heap.size+1,0,none⟩) N N]) (by simp[results,go_sem,r0,r1,r2]) rfl ⟨_,rfl,⟨_,by simp,(a8_.of_own HO.out).wider (by omega) (l_ _),by simp only[I64];omega,by simp only[I64];omega⟩,g0⟩
theorem p7_ (r c:Int) (w:World) (hr:0≤r) (hc:0≤c) (hr2:r≤1000) (hc2:c≤1000) :
  Calls Tryz.prog 88 #[.int .i64 r,.int .i64 c] w fun e w'=>∃ v,e = .returned v∧MxO w' w.heap.size w'.heap.size v (zmx r c)∧Below w.heap.size w w':=by
 obtain⟨n,rfl⟩:=Int.eq_ofNat_of_zero_le hr;obtain⟨m,rfl⟩:=Int.eq_ofNat_of_zero_le hc;obtain⟨N,hN⟩:=e_ (n*m);have hNb:N≤1000000:=by
  have:n*m≤1000*1000:=Nat.mul_le_mul (by omega) (by omega);omega
 have hmul:(n:Int)*m=(N:Int):=by rw[←hN];simp
 have hw:wrap64 ((n:Int)*m)=(N:Int):=by rw[hmul];exact IntWalk.wrap64_in _ ⟨by omega,by omega⟩
 have hZ:zmx n m=⟨n,m,List.replicate N 0⟩:=by rw[zmx,hmul];rfl
 rw[hZ];obtain⟨i0,hi,hz0,hz1,hz2⟩:=info_parts u1_;have hmk:=C3_ (P:=Tryz.prog) Tryz.underlying24 hi hz0 (n:=N) (by rw[hz2];omega) (by omega);rw[hz1]at hmk;have hN1:(0:Int)≤(n:Int)*m:=by omega
 have hN2:(n:Int)*m≤1000000:=by omega
 clear hi hz0 hz1 hz2 hN hZ;obtain⟨W,hW⟩:∃ W,W=(w.alloc (.cells #[.int .i64 n,.int .i64 m,.slice (some ⟨w.heap.size+1,0,none⟩) N N] 65)).alloc (.cells (f4_ (.int .i64 0) N) 3):=⟨_,rfl⟩;have g0:Below w.heap.size w W:=by rw[hW];exact ((Below.refl _ _).alloc (l_ _) _).alloc (by simp) _
 have k1:Blk W w.heap.size 65 #[.int .i64 n,.int .i64 m,.slice (some ⟨w.heap.size+1,0,none⟩) N N]:=by rw[hW];exact (Blk.new _ _ _).alloc _
 have ho:OwnI W (w.heap.size+1) (.slice (some ⟨w.heap.size+1,0,none⟩) N N) (List.replicate N 0):=by
  rw[hW];have:=OwnI.made0 (w:=w.alloc (.cells #[.int .i64 n,.int .i64 m,.slice (some ⟨w.heap.size+1,0,none⟩) N N] 65)) (base:=w.heap.size+1) (N:=N) (by simp) (by omega);simpa only[l3_] using this
 obtain⟨r0,r1,r2⟩:=c_3 k1;have HO:=h_ ho;clear ho k1;rw[Nat.mul_one]at hmk;go_enter Tryz.func88,Tryz.ntmps88
 go_wp2;rw[←hW];exact bodyPost_ret (v:=.agg #[.int .i64 n,.int .i64 m,.slice (some ⟨w.heap.size+1,0,none⟩) N N]) (by simp[results,go_sem,r0,r1,r2]) rfl ⟨_,rfl,⟨_,by simp,(a8_.of_own HO.out).wider (by omega) (l_ _),by simp only[I64];omega,by simp only[I64];omega⟩,g0⟩
structure AppT (T:TypeId) (lo:Nat) (w w':World):Prop where
 os:w'.os=w.os
 tape:w'.tape=w.tape
 output:w'.output=w.output
 size:w.heap.size≤w'.heap.size
 low:∀ k,k<lo→k<w.heap.size→w'.heap[k]?=w.heap[k]?
 other:∀ g t cs,t≠T→Blk w g t cs→Blk w' g t cs
theorem AppT.of_below {T:TypeId} {lo:Nat} {w w':World} (h:Below w.heap.size w w'):AppT T lo w w':=⟨h.os,h.tape,h.output,h.size,fun k _ hk=>h.block k hk,fun _ _ _ _ hb=>hb.call h⟩
theorem AppT.trans {T:TypeId} {lo:Nat} {a b c:World} (h:AppT T lo a b) (k:AppT T lo b c):AppT T lo a c :=
 ⟨k.os.trans h.os,k.tape.trans h.tape,k.output.trans h.output,Nat.le_trans h.size k.size,fun i hi hs=>(k.low i hi (Nat.lt_of_lt_of_le hs h.size)).trans (h.low i hi hs),fun g t cs ht hb=>k.other g t cs ht (h.other g t cs ht hb)⟩
theorem AppT.below {T:TypeId} {lo B:Nat} {w w':World} (h:AppT T lo w w') (hB:B≤lo) (hs:B≤w.heap.size):Below B w w':=⟨h.os,h.tape,h.output,h.size,fun k hk=>h.low k (by omega) (by omega)⟩
theorem OwnI.appT {T:TypeId} {lo base:Nat} {w w':World} {v:Value} {l:List Int} (h:OwnI w base v l) (hT:3≠T) (ha:AppT T lo w w'):OwnI w' base v l:=by
 refine⟨⟨h.1.1,?_⟩,h.2⟩;rcases h.1.2 with h1 | ⟨g,cap,cur,e,hg,hh,rest⟩
 ·exact .inl h1
 ·exact .inr ⟨g,cap,cur,e,hg,ha.other g _ cur hT hh,rest⟩
theorem a8_.appT {T:TypeId} {lo l1 h1:Nat} {w w':World} {v:Value} {l:List Int} (h:a8_ w l1 h1 v l) (hT:3≠T) (ha:AppT T lo w w'):a8_ w' l1 h1 v l:=⟨h.1.appT hT ha,h.2⟩
theorem Fam.appT {T:TypeId} {lo l1 h1:Nat} {w w':World} {L:List (Value×List Int)} (h:Fam w l1 h1 L) (hT:3≠T) (ha:AppT T lo w w'):Fam w' l1 h1 L:=⟨fun p hp=>(h.1 p hp).appT hT ha,h.2⟩
theorem AppT.set {T T':TypeId} {lo g i:Nat} {w:World} {cs:Array Value} {u:Value} (hb:Blk w g T' cs) (hT:T'=T) (hg:lo≤g):AppT T lo w (w.setCell ⟨g,i,none⟩ u):=by
 subst hT;refine⟨rfl,rfl,rfl,by simp[World.setCell],fun k hk _=>Below.heap_setCell _ _ _ _ (by simp;omega),fun g' t cs' ht hb'=>?_⟩;refine hb'.far ?_ u;rintro rfl;unfold Blk at hb hb';rw[hb]at hb';injection hb' with hb'
 injection hb' with _ hb'
 exact ht hb'.symm
theorem o0_ {w:World} {ops:Array Oper} {rest:List Oper} {o:Oper} {a:Act} {Q:Exit→Act→World→Prop} (hgd:o.guard=none) (s x:Operand)
  (ho:o.op = .call { callee:=.builtin .append,args:=#[s,x],argTypes:=#[27,27] })
  (lo hi:Nat) (v:Value) (vs:List Value) (ms:List Mx) (hs:a.eval s=v) (hown:OutM w lo hi v vs ms) (hl:vs.length=ms.length) (g c:Nat) (m:Mx) (u:Value) (hx:a.eval x = .slice (some ⟨g,0,none⟩) 1 c) (hg:Blk w g 65 #[.int .i64 m.r,.int .i64 m.c,u]) (hu:u.oneCell'=true)
  (hn:ms.length≤1000000) (hlo:lo≤w.heap.size)
  (h:∀ v' w',OutM w' lo w'.heap.size v' (vs ++ [u]) (ms ++ [m])→AppT 65 lo w w'→wpList Tryz.prog ops Q rest (a.put o.dst v') w'):wpList Tryz.prog ops Q (o :: rest) a w:=by
 obtain⟨i0,hi',hz0,hz1,hz2⟩:=info_parts g8q;have hcs:=Y6_ vs ms u m hl;refine f1_ w hgd s x _ ho lo 65 i0 _ 3 40 Tryz.underlying27 hi' hz0 hz1 hz2 rfl (by decide) v ms.length _ hs hown.1 _ 1 c [.int .i64 m.r,.int .i64 m.c,u] hx ⟨rfl,.inr ⟨g,0,rfl,fun j y hj=>?_⟩⟩ ?_ (by simp only[maxLen];omega) (by omega) hlo fun v' w' h1 h2 h3=>?_
 ·have hj3:=a6_ hj;simp only[List.length_cons,List.length_nil]at hj3;rw[Nat.zero_add]
  match j,hj with
  | 0,hj=>rw[hg.cell];exact hj
  | 1,hj=>rw[hg.cell];exact hj
  | 2,hj=>rw[hg.cell];exact hj
  | j+3,hj=>omega
 ·intro y hy;simp only[List.mem_cons,List.not_mem_nil,or_false]at hy;rcases hy with rfl | rfl | rfl
  ·rfl
  ·rfl
  ·exact hu
 ·refine h v' w' ⟨?_,fun k hk=>?_,by simp;omega⟩ ⟨h2.os,h2.tape,h2.output,h2.size,fun k hk hks=>h2.block k hks (fun e=>?_),fun g' t cs ht hb=>hb.grown h2 (fun e=>?_)⟩
  ·rw[hcs,List.length_append];exact h1
  ·exact (h1.lt k hk).2
  ·have:=(hown.1.lt k e.symm).1;omega
  ·rcases hown.1.2 with ⟨rfl,_⟩ | ⟨g2,cap,cur,rfl,_,hh,_⟩
   ·simp[Value.ownBlock]at e
   ·have:g'=g2:=by simpa [Value.ownBlock] using e
    subst this;unfold Blk at hb;rw[hh]at hb;injection hb with hb
    injection hb with _ hb
    exact ht hb.symm
theorem u6_ {i k c:Nat} (hk:k<c):(i*c+k) / c=i:=by
 rw[Nat.mul_comm,Nat.mul_add_div (by omega),Nat.div_eq_of_lt hk,Nat.add_zero]
theorem u7_ {i k c:Nat} (hk:k<c):(i*c+k) % c=k:=by
 rw[Nat.mul_comm,Nat.mul_add_mod,Nat.mod_eq_of_lt hk]
theorem E4_ {i k r c:Nat} (hi:i<r) (hk:k<c):i*c+k<r*c:=by
 have:(i+1)*c≤r*c:=Nat.mul_le_mul_right _ hi;rw[Nat.add_mul]at this;omega
theorem T5_ {j r c:Nat} (hj:j<r*c):∃ i k,i<r∧k<c∧j=i*c+k:=by
 have hc:0<c:=Nat.pos_of_ne_zero (by rintro rfl;simp at hj);refine⟨j / c,j % c,(Nat.div_lt_iff_lt_mul hc).2 hj,Nat.mod_lt _ hc,?_⟩;rw[Nat.mul_comm];exact (Nat.div_add_mod j c).symm
theorem g8X {i k i' k' c:Nat} (hk:k<c) (hk':k'<c) (h:i*c+k=i'*c+k'):i=i'∧k=k':=by
 have h1:=u6_ (i:=i) hk;have h2:=u7_ (i:=i) hk;rw[h,u6_ hk']at h1;rw[h,u7_ hk']at h2;exact⟨h1.symm,h2.symm⟩
def flat (r c:Nat) (f:Nat→Nat→Int):List Int:=(List.range (r*c)).map fun j=>f (j / c) (j % c)
theorem a1_ (r c:Nat) (f:Nat→Nat→Int):(flat r c f).length=r*c:=by simp[flat]
theorem k3_ {r c i k:Nat} (f:Nat→Nat→Int) (hi:i<r) (hk:k<c):(flat r c f)[i*c+k]?=some (f i k):=by
 simp[flat,E4_ hi hk,u6_ hk,u7_ hk]
theorem v3_ {r c i k:Nat} (f:Nat→Nat→Int) (hi:i<r) (hk:k<c):(flat r c f).getD (i*c+k) 0=f i k:=by
 rw[l1_,k3_ f hi hk];rfl
theorem x2_ {r c:Nat} {l:List Int} {f:Nat→Nat→Int} (hl:l.length=r*c) (h:∀ i k,i<r→k<c→l[i*c+k]?=some (f i k)):l=flat r c f:=by
 apply List.ext_getElem?
 intro j;by_cases hj:j<r*c
 ·obtain⟨i,k,hi,hk,rfl⟩:=T5_ hj;rw[h i k hi hk,k3_ f hi hk]
 ·rw[l6_ (by omega),l6_ (by rw[a1_];omega)]
theorem c1_ {r c:Nat} {f g:Nat→Nat→Int} (h:∀ a b,a<r→b<c→f a b=g a b):flat r c f=flat r c g :=
 x2_ (a1_ _ _ _) fun i k hi hk=>by rw[k3_ f hi hk,h i k hi hk]
theorem k8_ {r c i k:Nat} (f:Nat→Nat→Int) (x:Int) (hi:i<r) (hk:k<c):(flat r c f).set (i*c+k) x=flat r c fun a b=>if a=i∧b=k then x else f a b:=by
 refine x2_ (by simp[a1_]) fun a b ha hb=>?_
 rw[List.getElem?_set];by_cases e:i*c+k=a*c+b
 ·obtain⟨rfl,rfl⟩:=g8X hk hb e;rw[if_pos rfl,if_pos (by rw[a1_];exact E4_ hi hk),if_pos ⟨rfl,rfl⟩]
 ·rw[if_neg e,k3_ f ha hb,if_neg];rintro⟨rfl,rfl⟩;exact e rfl
theorem c0q (r c:Nat):flat r c (fun _ _=>0)=List.replicate (r*c) 0:=by
 refine (x2_ (by simp) fun i k hi hk=>?_).symm;have:=E4_ hi hk;simp[this]
theorem d3z {r c:Nat} {f:Nat→Nat→Int} {x:Int} (h:x∈flat r c f):∃ i k,i<r∧k<c∧x=f i k:=by
 simp only[flat,List.mem_map,List.mem_range]at h;obtain⟨j,hj,rfl⟩:=h;obtain⟨i,k,hi,hk,rfl⟩:=T5_ hj;exact⟨i,k,hi,hk,by rw[u6_ hk,u7_ hk]⟩
def B5_ (l:List Int) (c i k:Nat):Int:=l.getD (i*c+k) 0
theorem f7J {l:List Int} {r c:Nat} (hl:l.length=r*c):l=flat r c (B5_ l c) :=
 x2_ hl fun i k hi hk=>by
  have:=E4_ hi hk;rw[B5_,l1_,l2_ (by omega)];rfl
def mxF (r c:Nat) (f:Nat→Nat→Int):Mx:=⟨r,c,flat r c f⟩
theorem o6_ (r c:Nat):zmx r c=mxF r c fun _ _=>0:=by
 rw[mxF,c0q,zmx];congr
theorem m3_ {i k r c:Nat} (hi:i<r) (hk:k<c) (hr:r≤1000) (hc:c≤1000) :
  ∃ P J:Nat,wrap64 ((i:Int)*(c:Int))=(P:Int)∧P+k=J∧J=i*c+k∧J<r*c∧J≤1000000:=by
 have h1:=E4_ hi hk;have h2:r*c≤1000*1000:=Nat.mul_le_mul hr hc;refine⟨i*c,i*c+k,?_,rfl,rfl,h1,by omega⟩;rw[show ((i:Int)*(c:Int))=((i*c:Nat):Int) by simp];exact IntWalk.wrap64_in _ ⟨by omega,by omega⟩
theorem T3_ {x:Rp} (hx:m9_ x=true) {k:Nat} (hk:k<x.q.f.length):∃ (m:Mx) (nf nt yf yt:Nat),x.m[k]?=some m∧x.q.f[k]?=some (nf:Int)∧x.q.t[k]?=some (nt:Int)∧x.d[nf]?=some (yf:Int)∧x.d[nt]?=some (yt:Int) ∧
  m=mxF yt yf (B5_ m.a yf)∧(∀ i j,i<yt→j<yf→0≤B5_ m.a yf i j∧B5_ m.a yf i j≤x.p-1)∧yf≤4∧yt≤4∧nf≤5∧nt≤5∧nf<x.d.length∧nt<x.d.length∧k<x.q.t.length∧k<x.m.length:=by
 obtain⟨h1,h2,h3,h4⟩:=j0_.1 hx;obtain⟨nf,nt,yf,yt,ef,et,df,dt,lf,lt,l5,l6,l7⟩:=C0_ h2 hk;have hd:=(c3_.1 h2).2.2.1;have bf:=hd _ (l4_ df);have bt:=hd _ (l4_ dt);have hkm:k<x.m.length:=by omega
 have em:=l2_ hkm;obtain⟨m,hm⟩:=e_ (x.m[k]);rw[hm]at em;have h5:=h4;simp only[okMs,List.all_eq_true,List.mem_range]at h5;have h6:=h5 k hkm;simp only[l1_,em,ef,et,Option.getD_some]at h6;simp only[okM,l9_,decide_eq_true_eq]at h6;obtain⟨⟨hM,hc⟩,hr⟩:=h6;rw[r4_ df]at hc;rw[r4_ dt]at hr;obtain⟨_,_,hl,hv⟩:=a2Q.1 hM;obtain⟨YF,rfl⟩:=Int.eq_ofNat_of_zero_le bf.1;obtain⟨YT,rfl⟩:=Int.eq_ofNat_of_zero_le bt.1;have hl':m.a.length=YT*YF:=by
  rw[hr,hc]at hl
  exact_mod_cast hl
 have hrange:=(c2Z.1 hv).2.2;refine⟨m,nf,nt,YF,YT,em,ef,et,df,dt,?_,fun i j hi hj=>?_,by omega,by omega,l5,l6,lf,lt,l7,hkm⟩
 ·rw[i0x];exact⟨hr,hc,f7J hl'⟩
 ·refine hrange _ ?_;have:=E4_ hi hj;rw[B5_,l1_,l2_ (by omega)];exact List.getElem_mem _
def mx0:Mx:=⟨0,0,[]⟩
theorem MxO.zero (w:World) (lo hi:Nat):MxO w lo hi (.agg #[.int .i64 0,.int .i64 0,.slice none 0 0]) mx0:=⟨_,rfl,⟨OwnI.nil _ _,by simp[Value.ownBlock]⟩,by simp[mx0,I64],by simp[mx0,I64]⟩
theorem MxO.setBlk {w:World} {lo hi g i:Nat} {v:Value} {m:Mx} {t:TypeId} {cs:Array Value} (h:MxO w lo hi v m) (hb:Blk w g t cs) (ht:3≠t) (u:Value):MxO (w.setCell ⟨g,i,none⟩ u) lo hi v m:=by
 obtain⟨s,e,h1,h2⟩:=h;exact⟨s,e,⟨h1.1.setCell (p:=⟨g,i,none⟩) (fun e=>h1.1.blkne hb ht e.symm) u,h1.2⟩,h2⟩
theorem a8_.at_ {w:World} {lo hi:Nat} {v:Value} {l:List Int} (h:a8_ w lo hi v l) (h0:0<l.length):∃ g c,v = .slice (some ⟨g,0,none⟩) l.length c∧lo≤g∧g<hi∧g<w.heap.size:=by
 rcases h.1.1.2 with ⟨rfl,h1⟩ | ⟨g,cap,cur,rfl,hg,hh,_⟩
 ·omega
 ·exact⟨g,cap,rfl,hg,h.2 g rfl,(Array.getElem?_eq_some_iff.1 hh).1⟩
theorem a8_.put {w:World} {lo hi g n cap j:Nat} {l:List Int} {x:Int} (h:a8_ w lo hi (.slice (some ⟨g,0,none⟩) n cap) l) (hx:I64 x):a8_ (w.setCell ⟨g,j,none⟩ (.int .i64 x)) lo hi (.slice (some ⟨g,0,none⟩) n cap) (l.set j x):=⟨(h.1.put hx).1,h.2⟩
def idF (a b:Nat):Int:=if a=b then 1 else 0
def idK (k a b:Nat):Int:=if a=b∧a<k then 1 else 0
theorem g7Q (n:Nat):flat n n (fun _ _=>0)=flat n n (idK 0):=c1_ fun a b _ _=>by simp[idK]
theorem a8x {n k:Nat} (h:k<n):(flat n n (idK k)).set (k*n+k) 1=flat n n (idK (k+1)):=by
 rw[k8_ _ _ h h];refine c1_ fun a b _ _=>?_
 simp only[idK];by_cases e:a=b
 ·subst e;by_cases e2:a=k
  ·simp[e2]
  ·simp only[e2,true_and,if_false,false_and];congr 1
   simp;omega
 ·rw[if_neg (by omega),if_neg (by omega),if_neg (by omega)]
theorem g7Z (n:Nat):flat n n (idK n)=flat n n idF:=c1_ fun a b ha _=>by simp[idK,idF,ha]
theorem X8_ (n:Nat) (w:World) (hn:n≤100) :
  Calls Tryz.prog 37 #[.int .i64 n] w fun e w'=>∃ v,e = .returned v∧MxO w' w.heap.size w'.heap.size v (mxF n n idF)∧Below w.heap.size w w':=by
 obtain⟨W,hW,g0,k2⟩:=b_3 w #[.int .i64 0,.int .i64 0,.slice none 0 0] 65;have sz:W.heap.size=w.heap.size+1:=by rw[hW];simp
 have K2:=h_ k2;have SZ:=h_ sz;clear k2 sz;go_enter Tryz.func37,Tryz.ntmps37
 go_wp2_with fail
 rw[←hW];clear hW;refine (r8_ (n:Int) n W (by omega) (by omega) (by omega) (by omega)).mono ?_;rintro e w1 ⟨v1,rfl,⟨sA,rfl,oA,hr,hc⟩,hb1⟩;rw[o6_]at oA hr hc⊢;simp only[mxF]at oA hr hc⊢;rw[g7Q]at oA;obtain⟨A1,c1,e1⟩:=oA.form;obtain⟨N,hN⟩:=e_ (n*n);rw[a1_,hN]at e1;subst e1;have HN:=h_ hN;clear hN;have s1:=hb1.size;obtain⟨W4,hW4,b4,k4⟩:=b_3 w1 #[.int .i64 n,.int .i64 n,.slice A1 N c1] 65;have oA:=oA.below b4;have gW:=b0_ hb1 b4;clear b4 hb1;go_wp2;rw[←hW4];clear hW4;go_loopw [9] (fun i wr=>∃ k:Nat,k≤n∧i = .int .i64 k∧Blk wr w1.heap.size 65 #[.int .i64 n,.int .i64 n,.slice A1 N c1]∧a8_ wr W.heap.size w1.heap.size (.slice A1 N c1) (flat n n (idK k))∧Below W.heap.size W wr) (fun i _=>n-(intOf i).toNat)
 case atStart=>exact⟨0,l0_ _,rfl,k4,oA,gW⟩
 case round =>
  clear k4 oA gW;obtain⟨k,hk,rfl,k4,oA,gW⟩:=hrel;have s6:=gW.size;by_cases hlt:k<n
  ·obtain⟨P,J,hP,hPJ,hJ,hJN,hJb⟩:=m3_ hlt hlt (show n≤1000 by omega) (by omega);rw[HN.out]at hJN;have hst:=a8x hlt;rw[←hJ]at hst;subst hPJ;obtain⟨gA,cA,eA,a1,a2,a3⟩:=oA.at_ (by rw[a1_,HN.out];omega);rw[a1_,HN.out]at eA;injection eA with eA1 eA2 eA3
   subst eA1 eA3;have r2:=k4.cell' (i:=2) rfl;have fA:=oA.1.frozenG (P+k);have cA:=(oA.1.cellG (j:=P+k) (by rw[a1_,HN.out];omega)).1;have hc1:Chg W.heap.size w1.heap.size wr (wr.setCell ⟨gA,P+k,none⟩ (.int .i64 1)):=a5_ a1 a2;have oA2:=oA.put (j:=P+k) (x:=1) (by simp[I64]);rw[hst]at oA2;have OA2:=h_ oA2;have K4:=h_ (k4.chg hc1 (by omega));have GW:=h_ (gW.trans (hc1.below (l_ _) s6));clear oA2 k4 oA gW hc1 hst hJ;go_wp2;go_roundw
   case rel=>exact⟨k+1,by omega,by go_num,K4.out,OA2.out,GW.out⟩
   case measure=>simp[intOf];omega
  ·obtain rfl:k=n:=by omega
   have k2:=K2.out.below gW (by have:=SZ.out;omega);obtain⟨z0,z1,z2⟩:=c_3 k4;obtain⟨p0,p1,p2⟩:=c_3 k2;have f2:=k2.frozen;have h2:=chg3 wr w.heap.size (.int .i64 (k:Int)) (.int .i64 k) (.slice A1 N c1);rw[g7Z]at oA;have gw:Below w.heap.size w wr:=g0.trans (gW.mono g0.size);have gs:=gw.size;have oA2:=(oA.chg h2 (.inr (by have:=SZ.out;omega))).wider (lo':=w.heap.size) (hi':=wr.heap.size) (by have:=SZ.out;omega) (by have:=k4.lt;omega);have fg:=gw.trans (h2.below (l_ _) gs);have OA2:=h_ oA2;have FG:=h_ fg;clear oA oA2 fg gw h2 k2 k4 gW;go_wp2;exact bodyPost_ret (v:=.agg #[.int .i64 (k:Int),.int .i64 k,.slice A1 N c1]) (by simp[results,go_sem,p0,p1,p2]) rfl ⟨_,rfl,⟨_,rfl,by simpa [mxF] using OA2.out,by simp only[mxF,I64];omega,by simp only[mxF,I64];omega⟩,FG.out⟩
theorem O6_ (n:Nat) (w:World) (hn:n≤100) :
  Calls Tryz.prog 41 #[.int .i64 n] w fun e w'=>∃ v,e = .returned v∧MxO w' w.heap.size w'.heap.size v (mxF n n idF)∧Below w.heap.size w w':=by
 obtain⟨W,hW,g0,k2⟩:=b_3 w #[.int .i64 0,.int .i64 0,.slice none 0 0] 65;have sz:W.heap.size=w.heap.size+1:=by rw[hW];simp
 have K2:=h_ k2;have SZ:=h_ sz;clear k2 sz;go_enter Tryz.func41,Tryz.ntmps41
 go_wp2_with fail
 rw[←hW];clear hW;refine (p7_ (n:Int) n W (by omega) (by omega) (by omega) (by omega)).mono ?_;rintro e w1 ⟨v1,rfl,⟨sA,rfl,oA,hr,hc⟩,hb1⟩;rw[o6_]at oA hr hc⊢;simp only[mxF]at oA hr hc⊢;rw[g7Q]at oA;obtain⟨A1,c1,e1⟩:=oA.form;obtain⟨N,hN⟩:=e_ (n*n);rw[a1_,hN]at e1;subst e1;have HN:=h_ hN;clear hN;have s1:=hb1.size;obtain⟨W4,hW4,b4,k4⟩:=b_3 w1 #[.int .i64 n,.int .i64 n,.slice A1 N c1] 65;have oA:=oA.below b4;have gW:=b0_ hb1 b4;clear b4 hb1;go_wp2;rw[←hW4];clear hW4;go_loopw [4] (fun i wr=>∃ k:Nat,k≤n∧i = .int .i64 k∧Blk wr w1.heap.size 65 #[.int .i64 n,.int .i64 n,.slice A1 N c1]∧a8_ wr W.heap.size w1.heap.size (.slice A1 N c1) (flat n n (idK k))∧Below W.heap.size W wr) (fun i _=>n-(intOf i).toNat)
 case atStart=>exact⟨0,l0_ _,rfl,k4,oA,gW⟩
 case round =>
  clear k4 oA gW;obtain⟨k,hk,rfl,k4,oA,gW⟩:=hrel;have s6:=gW.size;by_cases hlt:k<n
  ·obtain⟨P,J,hP,hPJ,hJ,hJN,hJb⟩:=m3_ hlt hlt (show n≤1000 by omega) (by omega);rw[HN.out]at hJN;have hst:=a8x hlt;rw[←hJ]at hst;subst hPJ;obtain⟨gA,cA,eA,a1,a2,a3⟩:=oA.at_ (by rw[a1_,HN.out];omega);rw[a1_,HN.out]at eA;injection eA with eA1 eA2 eA3
   subst eA1 eA3;have r2:=k4.cell' (i:=2) rfl;have fA:=oA.1.frozenG (P+k);have cA:=(oA.1.cellG (j:=P+k) (by rw[a1_,HN.out];omega)).1;have hc1:Chg W.heap.size w1.heap.size wr (wr.setCell ⟨gA,P+k,none⟩ (.int .i64 1)):=a5_ a1 a2;have oA2:=oA.put (j:=P+k) (x:=1) (by simp[I64]);rw[hst]at oA2;have OA2:=h_ oA2;have K4:=h_ (k4.chg hc1 (by omega));have GW:=h_ (gW.trans (hc1.below (l_ _) s6));clear oA2 k4 oA gW hc1 hst hJ;go_wp2;go_roundw
   case rel=>exact⟨k+1,by omega,by go_num,K4.out,OA2.out,GW.out⟩
   case measure=>simp[intOf];omega
  ·obtain rfl:k=n:=by omega
   have k2:=K2.out.below gW (by have:=SZ.out;omega);obtain⟨z0,z1,z2⟩:=c_3 k4;obtain⟨p0,p1,p2⟩:=c_3 k2;have f2:=k2.frozen;have h2:=chg3 wr w.heap.size (.int .i64 (k:Int)) (.int .i64 k) (.slice A1 N c1);rw[g7Z]at oA;have gw:Below w.heap.size w wr:=g0.trans (gW.mono g0.size);have gs:=gw.size;have oA2:=(oA.chg h2 (.inr (by have:=SZ.out;omega))).wider (lo':=w.heap.size) (hi':=wr.heap.size) (by have:=SZ.out;omega) (by have:=k4.lt;omega);have fg:=gw.trans (h2.below (l_ _) gs);have OA2:=h_ oA2;have FG:=h_ fg;clear oA oA2 fg gw h2 k2 k4 gW;go_wp2;exact bodyPost_ret (v:=.agg #[.int .i64 (k:Int),.int .i64 k,.slice A1 N c1]) (by simp[results,go_sem,p0,p1,p2]) rfl ⟨_,rfl,⟨_,rfl,by simpa [mxF] using OA2.out,by simp only[mxF,I64];omega,by simp only[mxF,I64];omega⟩,FG.out⟩
theorem b4_.wider {w:World} {lo hi lo' hi':Nat} {v:Value} {ll:List (List Int)} (h:b4_ w lo hi v ll) (h1:lo'≤lo) (h2:hi≤hi'):b4_ w lo' hi' v ll:=by
 obtain⟨vs,a,b,c⟩:=h;exact⟨vs,a.mono h1 h2,b,c.mono h1 h2⟩
theorem b4_.form2 {w:World} {lo hi:Nat} {v:Value} {ll:List (List Int)} (h:b4_ w lo hi v ll):∃ A c,v = .slice A ll.length c∧ll.length≤c∧c≤9223372036854775807∧ll.length≤17592186044416:=by
 obtain⟨vs,a,b,c⟩:=h;obtain⟨A,d,h1,h2,h3⟩:=a.form;exact⟨A,d,by rw[h1,b],by omega,h3,by have:=a.2.2;omega⟩
theorem b4_.nil (w:World) (lo hi:Nat):b4_ w lo hi (.slice none 0 0) []:=⟨[],⟨World.ownsRow_nil _ _ _ _,by simp[Value.ownBlock],by simp⟩,rfl,⟨fun p hp=>by simp at hp,by simp⟩⟩
theorem b4_.made0 (w:World) {lo:Nat} (h:lo≤w.heap.size):b4_ (w.alloc (.cells #[] 24)) lo (w.alloc (.cells #[] 24)).heap.size (.slice (some ⟨w.heap.size,0,none⟩) 0 0) [] :=
 ⟨[],⟨World.ownsRow_made w #[] 0 h (by simp[maxLen]) (by simp),by simp[Value.ownBlock],by simp⟩,rfl,⟨fun p hp=>by simp at hp,by simp⟩⟩
theorem b4_.made (w:World) {lo n:Nat} (h:lo≤w.heap.size) (hn:n≤17592186044416):b4_ (w.alloc (.cells (f4_ (.slice none 0 0) n) 24)) lo (w.alloc (.cells (f4_ (.slice none 0 0) n) 24)).heap.size (.slice (some ⟨w.heap.size,0,none⟩) n n) (List.replicate n []):=by
 refine⟨List.replicate n (.slice none 0 0),?_,by simp,⟨fun p hp=>?_,?_⟩⟩
 ·have h1:=(Blk.new w 24 (f4_ (.slice none 0 0) n)).own (base:=lo) (n:=n) (cap:=n) (size:=1) h (l_ _) (by simp only[maxLen];omega) (by rw[v9_];omega);rw[show (f4_ (.slice none 0 0) n).toList=List.replicate n (.slice none 0 0) from toList_madeCells_one _ _,l7_ (by simp)]at h1;exact⟨by simpa using h1,fun k hk=>by simp[Value.ownBlock]at hk;simp;omega,by simpa using hn⟩
 ·obtain⟨a,b⟩:=p;have h1:=List.of_mem_zip hp;obtain⟨_,rfl⟩:=List.mem_replicate.1 h1.1;obtain⟨_,rfl⟩:=List.mem_replicate.1 h1.2;exact⟨OwnI.nil _ _,by simp[Value.ownBlock]⟩
 ·rw[List.pairwise_iff_getElem];intro i j hi hj hij;left
  simp[Value.ownBlock]
theorem b4_.at_ {w:World} {lo hi:Nat} {v:Value} {ll:List (List Int)} (h:b4_ w lo hi v ll) (h0:0<ll.length):∃ g c,v = .slice (some ⟨g,0,none⟩) ll.length c∧lo≤g∧g<hi∧g<w.heap.size∧ll.length≤c∧c≤9223372036854775807:=by
 obtain⟨vs,a,b,c⟩:=h;rcases a.1.2 with ⟨_,h1⟩ | ⟨g,cap,cur,rfl,hg,hh,hnc,hcm,_⟩
 ·omega
 ·exact⟨g,cap,by rw[b],hg,a.2.1 g (by simp[Value.ownBlock]),(Array.getElem?_eq_some_iff.1 hh).1,by omega,by simp only[maxLen]at hcm;omega⟩
theorem b4_.row {w:World} {lo hi g n c j:Nat} {ll:List (List Int)} {l:List Int} (h:b4_ w lo hi (.slice (some ⟨g,0,none⟩) n c) ll) (hj:ll[j]?=some l):∃ u,w.cell? ⟨g,j,none⟩=some u∧a8_ w lo hi u l∧w.frozen? ⟨g,j,none⟩=false:=by
 obtain⟨vs,a,b,F⟩:=h;have hl:=a6_ hj;have hv:vs[j]?=some (vs[j]'(by omega)):=l2_ (by omega);exact⟨_,a.cellS hv,F.1 (vs[j]'(by omega),l) (by rw[k7_ hv hj];simp),a.frozenS j⟩
theorem OutO.blk {w:World} {lo hi g n c:Nat} {vs:List Value} (h:OutO w lo hi (.slice (some ⟨g,0,none⟩) n c) vs):∃ cs,Blk w g 24 cs∧n=vs.length:=by
 rcases h.1.2 with ⟨e,_⟩ | ⟨g',cap',cur,e,_,hh,_⟩
 ·cases e
 ·injection e with e1 e2 _
  injection e1 with e1
  injection e1 with e1
  subst e1;exact⟨cur,hh,e2⟩
theorem b4_.setRow {w:World} {lo hi mi hi' g n c j:Nat} {ll:List (List Int)} {l:List Int} {u:Value} (h:b4_ w lo hi (.slice (some ⟨g,0,none⟩) n c) ll) (hj:j<ll.length) (hu:a8_ w mi hi' u l) (h1:hi≤mi) (h2:mi≤hi') (h3:lo≤mi) :
  b4_ (w.setCell ⟨g,j,none⟩ u) lo hi' (.slice (some ⟨g,0,none⟩) n c) (ll.set j l)∧Chg g (g+1) w (w.setCell ⟨g,j,none⟩ u):=by
 obtain⟨vs,a,b,F⟩:=h;obtain⟨cs,hb,hn⟩:=a.blk;refine⟨⟨vs.set j u,?_,by simp[b],?_⟩,a5_ (l_ _) (m0_ _)⟩
 ·have h4:=(hn ▸ a.1).stored j u;rw[hn];exact⟨by simpa using h4.1,fun k hk=>Nat.lt_of_lt_of_le (a.2.1 k (by simpa [Value.ownBlock] using hk)) (by omega),by simpa using a.2.2⟩
 ·have hv:vs[j]?=some (vs[j]'(by omega)):=l2_ (by omega);have hl:ll[j]?=some (ll[j]'hj):=l2_ hj;have hsv:(vs.set j u)[j]?=some u:=by rw[List.getElem?_set,if_pos rfl,if_pos (by omega)]
  have hsl:(ll.set j l)[j]?=some l:=by rw[List.getElem?_set,if_pos rfl,if_pos hj]
  have F2:=F.setBlk (i:=j) hb (by decide) u;have hu2:a8_ (w.setCell ⟨g,j,none⟩ u) mi hi' u l:=⟨hu.1.setCell (p:=⟨g,j,none⟩) (fun e=>hu.1.blkne hb (by decide) e.symm) u,hu.2⟩;rw[k7_ hsv hsl,List.take_set_of_le (l_ j),List.drop_set_of_lt (by omega),List.take_set_of_le (l_ j),List.drop_set_of_lt (by omega)];rw[k7_ hv hl]at F2;obtain⟨G1,G2⟩:=F2;rw[List.pairwise_append]at G2;obtain⟨P1,P2,P3⟩:=G2;rw[List.pairwise_cons]at P2;refine⟨fun p hp=>?_,?_⟩
  ·rcases List.mem_append.1 hp with hp | hp
   ·exact (G1 p (by simp[hp])).wider (l_ _) (by omega)
   ·rcases List.mem_cons.1 hp with rfl | hp
    ·exact hu2.wider h3 (l_ _)
    ·exact (G1 p (by simp[hp])).wider (l_ _) (by omega)
  ·rw[List.pairwise_append,List.pairwise_cons];refine⟨P1,⟨fun p hp=>?_,P2.2⟩,fun p hp q hq=>?_⟩
   ·rcases hA:u.ownBlock with _ | x
    ·exact .inl rfl
    ·refine .inr fun e2=>?_
     have h5:=(G1 p (by simp[hp])).2 x e2.symm;have h6:=(hu2.1.lt x hA).1;omega
   ·rcases List.mem_cons.1 hq with rfl | hq
    ·rcases hA:p.1.ownBlock with _ | x
     ·exact .inl rfl
     ·refine .inr fun e=>?_
      have h5:=(G1 p (by simp[hp])).2 x hA;have h6:=(hu2.1.lt x e.symm).1;omega
    ·exact P3 p hp q (by simp[hq])
theorem b4_.putAt {w:World} {lo hi gr n c j i:Nat} {v:Value} {ll:List (List Int)} {l:List Int} {x:Int} (h:b4_ w lo hi v ll) (hj:ll[j]?=some l) (hx:I64 x)
  (hrow:∀ vs,vs.length=ll.length→OutO w lo hi v vs→Fam w lo hi (vs.zip ll)→vs[j]?=some (.slice (some ⟨gr,0,none⟩) n c)) :
  b4_ (w.setCell ⟨gr,i,none⟩ (.int .i64 x)) lo hi v (ll.set j (l.set i x))∧w.grownBy (w.setCell ⟨gr,i,none⟩ (.int .i64 x)) (some gr):=by
 obtain⟨vs,a,b,F⟩:=h;have hv:=hrow vs b a F;have ho:=F.1 (.slice (some ⟨gr,0,none⟩) n c,l) (by rw[k7_ hv hj];simp);obtain⟨_,_,e⟩:=ho.form;injection e with _ e _
 replace e:n=l.length:=e;subst e;have hp:=ho.1.put (j:=i) hx;exact⟨⟨vs,a.grown ho.1 hp.2,by simp[b],F.putAt hv hj ho.1 hx⟩,hp.2⟩
theorem b4_.cellRow {w:World} {lo hi g n' c' gr n c j:Nat} {ll:List (List Int)} (hc:w.cell? ⟨g,j,none⟩=some (.slice (some ⟨gr,0,none⟩) n c)) :
  ∀ vs,j<vs.length→OutO w lo hi (.slice (some ⟨g,0,none⟩) n' c') vs→Fam w lo hi (vs.zip ll)→vs[j]?=some (.slice (some ⟨gr,0,none⟩) n c):=fun vs hl ho _=>by
 have hv:vs[j]?=some (vs[j]'hl):=l2_ hl;have:=ho.cellS hv;rw[hc]at this;rw[hv,this]
theorem b4_.put {w:World} {lo hi g n' c' gr n c j i:Nat} {ll:List (List Int)} {l:List Int} {x:Int} (h:b4_ w lo hi (.slice (some ⟨g,0,none⟩) n' c') ll) (hj:ll[j]?=some l) (hc:w.cell? ⟨g,j,none⟩=some (.slice (some ⟨gr,0,none⟩) n c)) (hx:I64 x) :
  b4_ (w.setCell ⟨gr,i,none⟩ (.int .i64 x)) lo hi (.slice (some ⟨g,0,none⟩) n' c') (ll.set j (l.set i x))∧w.grownBy (w.setCell ⟨gr,i,none⟩ (.int .i64 x)) (some gr) :=
 h.putAt hj hx fun vs hl ho F=>b4_.cellRow hc vs (by have:=a6_ hj;omega) ho F
theorem A8_ {w:World} {ops:Array Oper} {rest:List Oper} {o:Oper} {a:Act} {Q:Exit→Act→World→Prop} (hgd:o.guard=none) (s x:Operand)
  (ho:o.op = .call { callee:=.builtin .append,args:=#[s,x],argTypes:=#[34,34] })
  (lo hi mi hi':Nat) (v:Value) (ll:List (List Int)) (l:List Int) (hs:a.eval s=v) (hown:b4_ w lo hi v ll) (A:Option Addr) (c:Nat) (u:Value) (hx:a.eval x = .slice A 1 c) (hA:∃ b o,A=some ⟨b,o,none⟩∧w.cell? ⟨b,o,none⟩=some u) (hu:a8_ w mi hi' u l)
  (h1:hi≤mi) (h2:mi≤hi') (h3:lo≤mi) (hn:ll.length+1≤1048576) (hlo:lo≤w.heap.size) (hhi:hi'≤w.heap.size)
  (h:∀ v' w',b4_ w' lo w'.heap.size v' (ll ++ [l])→Below lo w w'→w.grownBy w' v.ownBlock→wpList Tryz.prog ops Q rest (a.put o.dst v') w'):wpList Tryz.prog ops Q (o :: rest) a w:=by
 obtain⟨vs,h4,h5,h6⟩:=hown;refine A9_ hgd s x ho lo v vs hs h4.1 A c u hx hA (by obtain⟨A',c',rfl,_⟩:=hu.1.form;rfl) (by omega) hlo fun v' w' k1 k2 k3=>?_
 have hbg:Below lo w w':=c9_ k2 (fun k hk=>(h4.1.lt k hk).1) hlo;have F2:=((h6.mono (l_ _) h1).snoc hu h3 h2).mono (l_ _) (Nat.le_trans hhi hbg.size);have F3:=Fam.grownO (by simpa using F2) h4.1 k2;refine h v' w' ⟨vs ++ [u],⟨k1,fun k hk=>(k1.lt k hk).2,by simp;omega⟩,by simp[h5],?_⟩ hbg k2;rw[List.zip_append h5];exact F3
theorem T4_ {i r c P:Nat} (hi:i<r) (hr:r≤1000) (hc:c≤1000) (hP:wrap64 ((i:Int)*(c:Int))=(P:Int)) :
  P=i*c∧wrap64 (((i:Int)+1)*(c:Int))=((P+c:Nat):Int)∧P+c≤r*c∧P+c≤1000000:=by
 have h1:(i+1)*c≤r*c:=Nat.mul_le_mul_right _ hi;have h2:r*c≤1000*1000:=Nat.mul_le_mul hr hc;have h3:(i+1)*c=i*c+c:=by rw[Nat.add_mul,Nat.one_mul]
 have e1:P=i*c:=by
  rw[show ((i:Int)*(c:Int))=((i*c:Nat):Int) by simp,IntWalk.wrap64_in _ ⟨by omega,by omega⟩]at hP;omega
 refine⟨e1,?_,by omega,by omega⟩;rw[show (((i:Int)+1)*(c:Int))=(((i+1)*c:Nat):Int) by simp,h3,←e1];exact IntWalk.wrap64_in _ ⟨by omega,by omega⟩
theorem i1Z (r:Int) (c i P N cap g:Nat) (w:World) (h1:wrap64 ((i:Int)*(c:Int))=(P:Int)) (h2:wrap64 (((i:Int)+1)*(c:Int))=((P+c:Nat):Int))
  (hN:P+c≤N) (hcap:N≤cap) (hb:cap≤9223372036854775807) (h0:0<c) (hi:i≤1000) :
  Calls Tryz.prog 83 #[.agg #[.int .i64 r,.int .i64 c,.slice (some ⟨g,0,none⟩) N cap],.int .i64 i] w fun e w'=>e = .returned (.slice (some ⟨g,P,none⟩) c (cap-P))∧Below w.heap.size w w':=by
 go_enter Tryz.func83,Tryz.ntmps83
 go_wp2;exact bodyPost_ret (v:=.slice (some ⟨g,P,none⟩) c (cap-P)) (by simp[results,go_sem]) rfl ⟨rfl,a0_ _ _⟩
theorem U4_ (r:Int) (i cap:Nat) (A:Option Addr) (w:World) (hb:cap≤9223372036854775807) (hi:i≤1000) :
  Calls Tryz.prog 83 #[.agg #[.int .i64 r,.int .i64 0,.slice A 0 cap],.int .i64 i] w fun e w'=>∃ A,e = .returned (.slice A 0 cap)∧Below w.heap.size w w':=by
 go_enter Tryz.func83,Tryz.ntmps83
 go_wp2;exact bodyPost_ret (by simp[results,go_sem];rfl) rfl ⟨_,rfl,a0_ _ _⟩
def g9_ (r c:Nat) (f:Nat→Nat→Int):List (List Int):=(List.range r).map fun i=>rowF c (f i)
theorem b8_ (r c:Nat) (f:Nat→Nat→Int):(g9_ r c f).length=r:=by simp[g9_]
theorem w2_ {r c j:Nat} (f:Nat→Nat→Int) (h:j<r):(g9_ r c f)[j]?=some (rowF c (f j)):=by simp[g9_,h]
theorem x7_ (r c:Nat) (f:Nat→Nat→Int):g9_ (r+1) c f=g9_ r c f ++ [rowF c (f r)]:=by simp[g9_,List.range_succ]
theorem SlI.part {w:World} {B g o n cap P c:Nat} {l l':List Int} (h:SlI w B (.slice (some ⟨g,o,none⟩) n cap) l) (hn:n=l.length) (hc:P+l'.length≤l.length) (hl:∀ j x,l'[j]?=some x→l[P+j]?=some x) (hcn:c=cap-P) :
  SlI w B (.slice (some ⟨g,o+P,none⟩) l'.length c) l':=by
 subst hn hcn;obtain⟨A',c',e,h1,h2,h3,h4⟩:=h;injection e with e1 e2 e3
 subst e1 e3;refine⟨_,_,rfl,by omega,by omega,by omega,fun hp=>?_⟩;obtain⟨b,o',e,hb,hx⟩:=h4 (by omega);injection e with e
 injection e with e1 e2
 subst e1 e2;refine⟨g,o+P,rfl,hb,fun j x hj=>?_⟩;have:=hx (P+j) x (hl j x hj);rw[show o+P+j*1=o+(P+j)*1 by omega];exact this
theorem c7J (r:Int) (c i P N cap g o:Nat) (w:World) (h1:wrap64 ((i:Int)*(c:Int))=(P:Int)) (h2:wrap64 (((i:Int)+1)*(c:Int))=((P+c:Nat):Int))
  (hN:P+c≤N) (hcap:N≤cap) (hb:cap≤9223372036854775807) (h0:0<c) (hi:i≤1000) :
  Calls Tryz.prog 83 #[.agg #[.int .i64 r,.int .i64 c,.slice (some ⟨g,o,none⟩) N cap],.int .i64 i] w fun e w'=>e = .returned (.slice (some ⟨g,o+P,none⟩) c (cap-P))∧Below w.heap.size w w':=by
 go_enter Tryz.func83,Tryz.ntmps83
 go_wp2;exact bodyPost_ret (v:=.slice (some ⟨g,o+P,none⟩) c (cap-P)) (by simp[results,go_sem]) rfl ⟨rfl,a0_ _ _⟩
theorem c7x (u:Value) (r c i:Nat) (f:Nat→Nat→Int) (w:World) (hu:MxR w w.heap.size u (mxF r c f)) (hr:r≤1000) (hc:c≤1000) (hi:i<r) :
  Calls Tryz.prog 83 #[u,.int .i64 i] w fun e w'=>∃ v,e = .returned v∧SlI w' w'.heap.size v (rowF c (f i))∧Below w.heap.size w w':=by
 obtain⟨A,cap,rfl,hs,_,_,hl⟩:=hu.open_;simp only[mxF]at hs hl⊢;rcases Nat.eq_zero_or_pos c with rfl | h0
 ·obtain⟨_,_,e,h1,h2,_⟩:=hs;injection e with e1 e2 e3
  subst e1 e3;have e:(flat r 0 f).length=0:=by rw[a1_];rfl
  rw[e];refine (U4_ r i cap A w h2 (by omega)).mono fun e w' ⟨A',h3,h4⟩=>⟨_,h3,?_,h4⟩
  exact⟨A',cap,by simp[rowF],by simp[rowF],h2,by simp[rowF],fun h=>by simp[rowF]at h⟩
 ·obtain⟨P,J,hP,_,_,_,_⟩:=m3_ hi h0 hr hc;obtain⟨hPi,hP2,hPL,_⟩:=T4_ hi hr hc hP;have hlt:=E4_ hi h0;have hs':=hs;obtain⟨_,_,e,h1,h2,h3,h4⟩:=hs;injection e with e1 e2 e3
  subst e1 e3;obtain⟨b,o,rfl,hb,hx⟩:=h4 (by rw[a1_];omega);refine (c7J r c i P _ cap b o w hP hP2 (by rw[a1_];exact hPL) h1 h2 h0 (by omega)).mono fun e w' ⟨h5,h6⟩=>⟨_,h5,?_,h6⟩
  have:=SlI.part (P:=P) (l':=rowF c (f i)) (SlI.next h6 hs') rfl (by rw[a2_,a1_];exact hPL) (fun j x hj=>?_) rfl
  ·rwa[a2_]at this
  ·have hjc:=a6_ hj;rw[a2_]at hjc;rw[c0_ _ hjc]at hj;rw[hPi,k3_ f hi hjc];exact hj
theorem b1Z (u:Value) (r c:Nat) (f:Nat→Nat→Int) (w0:World) (hu:MxR w0 w0.heap.size u (mxF r c f)) (hr:r≤1000) (hc:c≤1000) :
  Calls Tryz.prog 163 #[u] w0 fun e w'=>∃ v,e = .returned v∧b4_ w' w0.heap.size w'.heap.size v (g9_ r c f)∧Below w0.heap.size w0 w':=by
 have hu':=hu;obtain⟨A,cap,rfl,hs,i1,i2,hl⟩:=hu.open_;clear hu;simp only[mxF]at hs hl i1 i2⊢;obtain⟨W,hW,g0,kB⟩:=b_3 w0 #[.int .i64 r,.int .i64 c,.slice A (flat r c f).length cap] 65;obtain⟨L,hL⟩:=e_ ((flat r c f).length);simp only[mxF]at hu';rw[hL]at hu' hs hl kB hW⊢;clear hL;obtain⟨c0,c1,c2⟩:=c_3 kB;have HU:=h_ (MxR.next g0 hu');have sz:w0.heap.size<W.heap.size:=kB.lt;go_enter Tryz.func163,Tryz.ntmps163
 go_wp2;rw[←hW];clear hW;go_loopw [3,7] (fun out i wr=>∃ (k:Nat) (vs:List Value),k≤r∧i = .int .i64 k∧Below W.heap.size W wr∧OutO wr W.heap.size wr.heap.size out vs∧vs.length=k∧Fam wr W.heap.size wr.heap.size (vs.zip (g9_ k c f))) (fun _ i _=>r-(intOf i).toNat)
 case atStart=>exact⟨0,[],l0_ _,rfl,Below.refl _ _,⟨World.ownsRow_nil _ _ _ _,by simp[Value.ownBlock],by simp⟩,rfl,⟨fun p hp=>by simp at hp,by simp⟩⟩
 case round =>
  clear c0 c1 c2;obtain⟨k,vs,hk,rfl,hbel,hO,hvl,hF⟩:=hrel;have kB2:=kB.call hbel;obtain⟨c0,c1,c2⟩:=c_3 kB2;have HVL:=h_ hvl;clear hvl;by_cases hlt:k<r
  ·have HUR:=h_ (MxR.more hbel.size (MxR.below hbel HU.out));have hws:=hbel.size;obtain⟨OA,oc,rfl,_,_⟩:=hO.form;have HO:=h_ hO;have HF:=h_ hF;clear hO hF;go_wp2_with fail
   refine (c7x _ r c k f _ HUR.out hr hc hlt).mono ?_;rintro e w1 ⟨v1,rfl,hv1,hb1⟩;have hb0:=hb1;go_wp2_with fail
   refine (q2_ _ _ _ hv1).mono ?_;rintro e wC ⟨v2,rfl,hI,hb2⟩;have hbC:=b0_ hb1 hb2;have hlo:=hb1.size;clear hb2 hb0;obtain⟨VA,vc,ev⟩:=hI.form;rw[a2_]at ev;subst ev;have hO2:=HO.out.below hbC;have hF2:=HF.out.below hbC;have hbs:=hbC.size;have HI:=h_ hI;have HO2:=h_ hO2;have HF2:=h_ hF2;have HBC:=h_ hbC;clear hI hO2 hF2 hbC hb1 hv1
   (go_wp2_with (at_builtin;refine Hold.stop ?_));unfold Hold
   obtain⟨X,hX,gn,kn⟩:=b_3 wC #[.slice VA c vc] 24;have hO3:=HO2.out.below gn;have hF3:=(HF2.out.snoc (HI.out.wider (lo':=wr.heap.size) hlo (l_ _)) hws (by omega)).below gn;have hXs:=gn.size;rw[←hX];clear hX;refine A9_ rfl (.tmp 10) (.tmp 15) rfl W.heap.size (.slice OA vs.length oc) vs rfl hO3.1 _ _ (.slice VA c vc) rfl ⟨wC.heap.size,0,rfl,kn.cell' (i:=0) rfl⟩ rfl (by have:=HVL.out;omega) (by omega) ?_;intro v' w' hn' hg' hv';have hbg:Below W.heap.size X w':=c9_ hg' (fun k hk=>(hO3.1.lt k hk).1) (by omega);have hbt:=(hbel.trans ((HBC.out).mono hws)).trans ((gn.mono (by omega)).trans hbg);have hF4:=Fam.grownO hF3 hO3.1 hg';have hws':=hbg.size;have hO4:OutO w' W.heap.size w'.heap.size v' (vs ++ [.slice VA c vc]):=⟨hn',fun k hk=>(hn'.lt k hk).2,by simp;have:=HVL.out;omega⟩;have HF4:=h_ hF4;have HO4:=h_ hO4;have HBT:=h_ hbt;clear hn' hg' hv' hbg hbt hF4 hO4 hO3 hF3 kn gn;go_wp2;go_roundw
   case rel =>
    refine⟨k+1,vs ++ [.slice VA c vc],by omega,by go_num,HBT.out,HO4.out,by simp[HVL.out],?_⟩;have:=HF4.out.mono (l_ _) (show wC.heap.size≤w'.heap.size by omega);have e:(vs ++ [Value.slice VA c vc]).zip (g9_ (k+1) c f)=vs.zip (g9_ k c f) ++ [(Value.slice VA c vc,rowF c (f k))]:=by
     rw[x7_,List.zip_append (by rw[HVL.out,b8_])];rfl
    rw[e];exact this
   case measure=>simp[intOf];omega
  ·obtain rfl:k=r:=by omega
   have hO':=hO;have hF':=hF;go_wp2;go_ret
   exact⟨_,rfl,⟨vs,hO'.mono (by omega) (l_ _),by rw[HVL.out,b8_],hF'.mono (by omega) (l_ _)⟩,g0.trans (hbel.mono (by omega))⟩
theorem C8_ {p x:Int} (hp:2≤p):(if x.tmod p<0 then x.tmod p+p else x.tmod p)=x % p∧-p<x.tmod p∧x.tmod p<p:=by
 have h1:=Int.tmod_lt_of_pos x (show 0<p by omega);have h2:-p<x.tmod p:=by
  have:=Int.tmod_lt_of_pos (-x) (show 0<p by omega);rw[Int.neg_tmod]at this;omega
 refine⟨?_,h2,h1⟩;rw[Int.tmod_eq_emod];have h3:=Int.emod_nonneg x (show p≠0 by omega);have h4:=Int.emod_lt_of_pos x (show 0<p by omega);have h5:p.natAbs=p:=by omega
 split
 ·split <;> omega
 ·rename_i h
  split <;> omega
theorem b6x {p x:Int} (hp:2≤p):(x.tmod p+p) % p=x % p:=by
 rw[Int.add_emod_right,Int.emod_def,Int.emod_def x p];have h:=(C8_ (x:=x) hp).1;have h4:=Int.emod_lt_of_pos x (show 0<p by omega);have h3:=Int.emod_nonneg x (show p≠0 by omega);rw[←Int.emod_def,←Int.emod_def];rw[←h];split
 ·rename_i hn
  rw[←Int.add_emod_right,Int.emod_eq_of_lt]
  ·have:=(C8_ (x:=x) hp).2.1;omega
  ·omega
 ·rename_i hn
  exact Int.emod_eq_of_lt (by omega) (C8_ (x:=x) hp).2.2
def amF (p k:Int) (off n:Nat) (f y:Nat→Int) (i:Nat):Int:=if off≤i∧i<off+n then (f i+k*y (i-off)) % p else f i
theorem g5x (p k:Int) (off N:Nat) (f y:Nat→Int):rowF N f=rowF N (amF p k off 0 f y):=d1_ fun i _=>by rw[amF,if_neg (by omega)]
theorem a5X {p k:Int} {off j N:Nat} (f y:Nat→Int):(rowF N (amF p k off j f y)).set (off+j) ((f (off+j)+k*y j) % p)=rowF N (amF p k off (j+1) f y):=by
 rw[o4_];refine d1_ fun i _=>?_
 simp only[amF];by_cases h:i=off+j
 ·subst h;rw[if_pos rfl,if_pos (by omega),show off+j-off=j by omega]
 ·rw[if_neg h]
  (repeat' split) <;> first | rfl | omega
theorem a5Z {p k:Int} {off j:Nat} (f y:Nat→Int):amF p k off j f y (off+j)=f (off+j):=by rw[amF,if_neg (by omega)]
theorem p9_ (p k:Int) (g off n N cap ca:Nat) (lo hi:Nat) (f y:Nat→Int) (vb:Value) (w:World) (hp:2≤p∧p≤5) (hk:0≤k∧k≤5)
  (hown:a8_ w lo hi (.slice (some ⟨g,0,none⟩) N cap) (rowF N f)) (hg:lo≤g∧g<hi) (hoff:off+n≤N) (hN:N≤1000000) (hca:n≤ca∧ca≤9223372036854775807)
  (hlo:lo≤w.heap.size) (hb:SlI w lo vb (rowF n y)) (hf:∀ i,i<N→0≤f i∧f i≤4) (hy:∀ i,i<n→0≤y i∧y i≤4) :
  Calls Tryz.prog 84 #[.int .i64 p,.slice (some ⟨g,off,none⟩) n ca,.int .i64 k,vb] w fun e w'=>e = .returned (.slice (some ⟨g,off,none⟩) n ca)∧a8_ w' lo hi (.slice (some ⟨g,0,none⟩) N cap) (rowF N (amF p k off n f y))∧Chg lo hi w w'∧w.heap.size=w'.heap.size:=by
 obtain⟨A,c,rfl,_,_,hln,hx⟩:=hb.open_;clear hb;have HX:=h_ hx;have HF:=h_ hf;have HY:=h_ hy;rw[a2_]at hln⊢;rw[g5x p k off N f y]at hown;clear hx hf hy;go_enter Tryz.func84,Tryz.ntmps84
 go_wp2;go_loopw [13] (fun i wr=>∃ j:Nat,j≤n∧i = .int .i64 j∧a8_ wr lo hi (.slice (some ⟨g,0,none⟩) N cap) (rowF N (amF p k off j f y))∧Chg lo hi w wr∧Hid (w.heap.size=wr.heap.size)) (fun i _=>n-(intOf i).toNat)
 case atStart=>exact⟨0,l0_ _,rfl,hown,Chg.refl _ _ _,rfl⟩
 case round =>
  clear hown;obtain⟨j,hj,rfl,ho,hc,hsz⟩:=hrel;by_cases hlt:j<n
  ·have hx:=HX.out;rw[←a2_ n y]at hlt;obtain⟨b,o,x,rfl,hbl,HXX,x1,_⟩:=SlI.at_ hx hlt;rw[a2_]at hlt;have hxx:=HXX.out;rw[c0_ _ hlt]at hxx;injection hxx with hxx
   subst hxx;have x2:=a4_ (hc.below (l_ _) hlo) hbl x1;have cA:=(ho.1.cellG (j:=off+j) (by rw[a2_];omega)).1;rw[i9_ _ (by omega),a5Z]at cA;have fA:=ho.1.frozenG (off+j);have hf1:=HF.out (off+j) (by omega);have hy1:=HY.out j hlt;have hst:=a5X (p:=p) (k:=k) (off:=off) (j:=j) (N:=N) f y;obtain⟨a,ha⟩:=e_ (f (off+j));obtain⟨z,hz⟩:=e_ (y j);rw[ha]at cA hf1 hst;rw[hz]at x2 hy1 hst;have hkz0:0≤k*z:=Int.mul_nonneg hk.1 hy1.1;have hkz1:k*z≤5*4:=Int.mul_le_mul hk.2 hy1.2 hy1.1 (by omega);obtain⟨K,hK⟩:=e_ (k*z);rw[hK]at hkz0 hkz1 hst;have hKw:wrap64 (k*z)=K:=by rw[hK];exact IntWalk.wrap64_in _ ⟨by omega,by omega⟩
   have hr0:=Int.emod_nonneg (a+K) (show p≠0 by omega);have hr1:=Int.emod_lt_of_pos (a+K) (show 0<p by omega);have hc1:Chg lo hi wr (wr.setCell ⟨g,off+j,none⟩ (.int .i64 ((a+K) % p))):=a5_ hg.1 hg.2;have ho2:=ho.put (j:=off+j) (x:=(a+K) % p) (by simp only[I64];omega);rw[hst]at ho2;have HO2:=h_ ho2;have HC2:=h_ (hc.trans hc1);have HS2:Hid (w.heap.size=(wr.setCell ⟨g,off+j,none⟩ (.int .i64 ((a+K) % p))).heap.size):=by show _=_;rw[hsz.out];simp
   have htm:(wrap64 (a+K)).tmod p=(a+K) % p:=by
    rw[IntWalk.wrap64_in _ ⟨by omega,by omega⟩];exact Int.tmod_eq_emod_of_nonneg (by omega)
   have htm2:(a+K).tmod p=(a+K) % p:=Int.tmod_eq_emod_of_nonneg (by omega);clear hst ho2 hc1 ho hc hr0 hr1 hx HXX x1 ha hz hK hkz0 hkz1;go_wp2;go_roundw
   case rel=>exact⟨j+1,by omega,by go_num,HO2.out,HC2.out,HS2⟩
   case measure=>simp[intOf];omega
  ·go_wp2;go_ret
   obtain rfl:j=n:=by omega
   exact⟨rfl,ho,hc,hsz⟩
theorem U1_ (p x:Int) (w:World) (hp:c8_ p=true) (hx:I64 x) :
  Calls Tryz.prog 157 #[.int .i64 p,.int .i64 x] w fun e w'=>e = .returned (.int .i64 (x % p))∧w'=w:=by
 have hp':=f9_ hp;obtain⟨h1,h2,h3⟩:=C8_ (x:=x) hp'.1;have htm:(x.tmod p+p).tmod p=x % p:=by rw[Int.tmod_eq_emod_of_nonneg (by omega)];exact b6x hp'.1
 have H1:=h_ hp;clear hp h1;go_enter Tryz.func157,Tryz.ntmps157
 go_wp2_with fail
 refine (b5_ _ _).mono ?_;rintro e w1 ⟨rfl,rfl⟩;rw[H1.out];go_wp2;go_ret
 exact⟨rfl,rfl⟩
theorem q6_ (p x:Int) (w:World) (hp:2≤p∧p≤5) (hx:I64 x) :
  Calls Tryz.prog 89 #[.int .i64 p,.int .i64 x] w fun e w'=>e = .returned (.int .i64 (x % p))∧w'=w:=by
 obtain⟨h1,h2,h3⟩:=C8_ (x:=x) hp.1;by_cases hn:x.tmod p<0
 ·rw[if_pos hn]at h1;have HE:=h_ h1;clear h1;go_enter Tryz.func89,Tryz.ntmps89
  go_wp2;go_ret
  exact⟨by rw[←HE.out];rfl,rfl⟩
 ·rw[if_neg hn]at h1;have HE:=h_ h1;clear h1;go_enter Tryz.func89,Tryz.ntmps89
  go_wp2;go_ret
  exact⟨by rw[←HE.out];rfl,rfl⟩
theorem u5_ (p k:Int) (va:Value) (B:Option Addr) (c:Nat) (w:World) (hv:∃ A n m,va = .slice A n m) (hc:c≤9223372036854775807) :
  Calls Tryz.prog 84 #[.int .i64 p,va,.int .i64 k,.slice B 0 c] w fun e w'=>e = .returned va∧w'=w:=by
 obtain⟨A,n,m,rfl⟩:=hv;go_enter Tryz.func84,Tryz.ntmps84
 go_wp2;refine wp_loop_rounds 1 ?_;rw[rounds_succ];go_wp2;go_ret
 exact⟨rfl,rfl⟩
def plF (p k:Int) (f g:Nat→Nat→Int) (a b:Nat):Int:=(f a b+k*g a b) % p
theorem d6X (p k:Int) (r c:Nat) (f g:Nat→Nat→Int):rowF (r*c) (amF p k 0 (r*c) (fun j=>f (j / c) (j % c)) (fun j=>g (j / c) (j % c)))=flat r c (plF p k f g):=by
 refine d1_ fun i hi=>?_
 rw[amF,if_pos (by omega)];rfl
theorem d7j (p k:Int) (u v:Value) (r c:Nat) (f g:Nat→Nat→Int) (w0:World) (hp:2≤p∧p≤5) (hk:0≤k∧k≤5) (hu:MxR w0 w0.heap.size u (mxF r c f)) (hv:MxR w0 w0.heap.size v (mxF r c g)) (hr:r≤1000) (hc:c≤1000)
  (hf:∀ i j,i<r→j<c→0≤f i j∧f i j≤4) (hg:∀ i j,i<r→j<c→0≤g i j∧g i j≤4) :
  Calls Tryz.prog 153 #[.int .i64 p,u,.int .i64 k,v] w0 fun e w'=>∃ v,e = .returned v∧MxO w' w0.heap.size w'.heap.size v (mxF r c (plF p k f g))∧Below w0.heap.size w0 w':=by
 have hu':=hu;obtain⟨U,uc,rfl⟩:=hu.form;obtain⟨V,vc,rfl,hsv,j1,j2,_⟩:=hv.open_;have z1:(mxF r c f).r=(r:Int):=rfl;have z2:(mxF r c f).c=(c:Int):=rfl;have z3:(mxF r c g).r=(r:Int):=rfl;have z4:(mxF r c g).c=(c:Int):=rfl;have z5:(mxF r c f).a.length=r*c:=a1_ _ _ _;have z6:(mxF r c g).a.length=r*c:=a1_ _ _ _;obtain⟨N,hN⟩:=e_ (r*c);have hN6:N≤1000000:=by rw[←hN];exact Nat.mul_le_mul hr hc
 rw[z5,z1,z2,hN]at hu'⊢;rw[z6,z3,z4,hN];rw[z6,hN]at hsv;clear hu hv z1 z2 z3 z4 z5 z6;obtain⟨W,hW⟩:∃ W,W=((w0.alloc (.cells #[.int .i64 r,.int .i64 c,.slice U N uc] 65)).alloc (.cells #[.int .i64 r,.int .i64 c,.slice V N vc] 65)).alloc (.cells #[.int .i64 0,.int .i64 0,.slice none 0 0] 65):=⟨_,rfl⟩;have g0:Below w0.heap.size w0 W:=by rw[hW];exact (((Below.refl _ _).alloc (l_ _) _).alloc (by simp) _).alloc (by simp;omega) _
 have k2:Blk W (w0.heap.size+1) 65 #[.int .i64 r,.int .i64 c,.slice V N vc]:=by
  rw[hW];have:=(Blk.new (w0.alloc (.cells #[.int .i64 r,.int .i64 c,.slice U N uc] 65)) 65 #[.int .i64 r,.int .i64 c,.slice V N vc]).alloc (.cells #[.int .i64 0,.int .i64 0,.slice none 0 0] 65);simpa only[l3_] using this
 have k3:Blk W (w0.heap.size+1+1) 65 #[.int .i64 0,.int .i64 0,.slice none 0 0]:=by
  rw[hW];have:=Blk.new ((w0.alloc (.cells #[.int .i64 r,.int .i64 c,.slice U N uc] 65)).alloc (.cells #[.int .i64 r,.int .i64 c,.slice V N vc] 65)) 65 #[.int .i64 0,.int .i64 0,.slice none 0 0];simpa only[l3_] using this
 have sz:W.heap.size=w0.heap.size+1+1+1:=by rw[hW];simp
 have HU:=h_ (MxR.next g0 hu');have HV:=h_ (SlI.next g0 hsv);have SZ:=h_ sz;have HN:=h_ hN;have G0:=h_ g0;have HFF:=h_ hf;have HGG:=h_ hg;clear sz hu' hsv hN g0 hf hg;go_enter Tryz.func153,Tryz.ntmps153
 go_wp2_with fail
 rw[←hW];clear hW;refine (A1_ _ (mxF r c f) W HU.out).mono ?_;rintro e w1 ⟨v1,rfl,⟨s1,rfl,hO,i1,i2⟩,hb1⟩;obtain⟨A1,c1,rfl⟩:=hO.form;have z5:(mxF r c f).a.length=N:=by rw[←HN.out];exact a1_ _ _ _
 have z1:(mxF r c f).r=(r:Int):=rfl;have z2:(mxF r c f).c=(c:Int):=rfl;rw[z5]at hO⊢;rw[z1,z2];rw[z1]at i1;rw[z2]at i2;clear z5 z1 z2;obtain⟨W4,hW4,b4,k4⟩:=b_3 w1 #[.int .i64 r,.int .i64 c,.slice A1 N c1] 65;have s1:=hb1.size;have gW:=b0_ hb1 b4;have k2':=(k2.call hb1).call b4;have k3':=(k3.call hb1).call b4;have hO4:=hO.below b4;have l4:=k4.lt;have HV4:=h_ (SlI.below gW HV.out);have y2:=k2'.cell' (i:=2) rfl;rw[hW4]at y2;have HO4:=h_ hO4;clear hO hb1 b4 k2 k3 k2' hO4;have hvc:vc≤9223372036854775807:=by
  obtain⟨VA,vca,ev,_,hvc,_⟩:=HV4.out;injection ev with _ _ ev3
  omega
 rcases Nat.eq_zero_or_pos N with h0 | h0
 ·subst h0;go_wp2_with fail
  rw[←hW4];rw[←hW4]at y2;clear hW4;refine (u5_ p k _ V vc _ ⟨_,_,_,rfl⟩ hvc).mono ?_;rintro e w5 ⟨rfl,rfl⟩;have hE:(mxF r c f).a=flat r c (plF p k f g):=by
   have h1:(mxF r c f).a.length=0:=by rw[←HN.out];exact a1_ _ _ _
   have h2:(flat r c (plF p k f g)).length=0:=by rw[←HN.out];exact a1_ _ _ _
   rw[m1_ h1,m1_ h2]
  have oA:=HO4.out;rw[hE]at oA;clear hE;obtain⟨z0,z1,z2⟩:=c_3 k4;obtain⟨p0,p1,p2⟩:=c_3 k3';have f2:=k3'.frozen;have h2:=chg3 w5 (w0.heap.size+1+1) (.int .i64 (r:Int)) (.int .i64 c) (.slice A1 0 c1);have gw:Below w0.heap.size w0 w5:=(G0.out).trans (gW.mono (G0.out).size);have gs:=gw.size;have oA2:=(oA.chg h2 (.inr (by have:=SZ.out;omega))).wider (lo':=w0.heap.size) (hi':=w5.heap.size) (by have:=SZ.out;omega) (by omega);have fg:=gw.trans (h2.below (by omega) gs);have OA2:=h_ oA2;have FG:=h_ fg;clear oA oA2 fg gw h2 k3' k4 gW;go_wp2;exact bodyPost_ret (v:=.agg #[.int .i64 (r:Int),.int .i64 c,.slice A1 0 c1]) (by simp[results,go_sem,p0,p1,p2]) rfl ⟨_,rfl,⟨_,rfl,(OA2.out).wider (l_ _) (by simp),i1,i2⟩,FG.out⟩
 ·obtain⟨gA,cA,eA,a1,a2,a3⟩:=(HO4.out).at_ (by rw[show (mxF r c f).a.length=N by rw[←HN.out];exact a1_ _ _ _];exact h0);rw[show (mxF r c f).a.length=N by rw[←HN.out];exact a1_ _ _ _]at eA;injection eA with eA1 eA2 eA3
  subst eA1 eA3;obtain⟨_,c2,e2,q1,q2⟩:=(HO4.out).1.form;injection e2 with e21 e22 e23
  subst e23;clear e21 e22;have q1':N≤c1:=by rw[show (mxF r c f).a.length=N by rw[←HN.out];exact a1_ _ _ _]at q1;exact q1
  have hrow:rowF N (fun j=>f (j / c) (j % c))=(mxF r c f).a:=by rw[←HN.out];rfl
  have hrow2:rowF N (fun j=>g (j / c) (j % c))=(mxF r c g).a:=by rw[←HN.out];rfl
  have hx:∀ (h:Nat→Nat→Int),(∀ i j,i<r→j<c→0≤h i j∧h i j≤4)→∀ i,i<N→0≤h (i / c) (i % c)∧h (i / c) (i % c)≤4:=fun h hh i hi=>by
   rw[←HN.out]at hi;obtain⟨i1,j1,h1,h2,rfl⟩:=T5_ hi;rw[u6_ h2,u7_ h2];exact hh i1 j1 h1 h2
  have HX1:=h_ (hx f HFF.out);have HX2:=h_ (hx g HGG.out);have HR1:=h_ hrow;have HR2:=h_ hrow2;clear q1 hrow hrow2 hx;go_wp2_with fail
  rw[←hW4];rw[←hW4]at y2;clear hW4;refine (p9_ p k gA 0 N N c1 c1 W.heap.size w1.heap.size (fun j=>f (j / c) (j % c)) (fun j=>g (j / c) (j % c)) _ W4 hp hk (by rw[HR1.out];exact HO4.out) ⟨a1,a2⟩ (by omega) hN6 ⟨q1',q2⟩ (by omega) (by rw[HR2.out];exact HV4.out) HX1.out HX2.out).mono ?_;rintro e w5 ⟨rfl,hO5,hc5,hs5⟩;have hE:rowF N (amF p k 0 N (fun j=>f (j / c) (j % c)) (fun j=>g (j / c) (j % c)))=flat r c (plF p k f g):=by rw[←HN.out];exact d6X p k r c f g
  rw[hE]at hO5;have oA:=hO5;replace k4:=k4.chg hc5 (.inr (l_ _));replace k3':=k3'.chg hc5 (.inl (by have:=SZ.out;omega));replace gW:=gW.trans (hc5.below (l_ _) (by omega));have l4':=k4.lt;clear hE hO5 hc5 hs5 y2;obtain⟨A1,hA1⟩:∃ A1,A1=some (⟨gA,0,none⟩:Addr):=⟨_,rfl⟩;rw[←hA1]at oA k4;clear hA1;obtain⟨z0,z1,z2⟩:=c_3 k4;obtain⟨p0,p1,p2⟩:=c_3 k3';have f2:=k3'.frozen;have h2:=chg3 w5 (w0.heap.size+1+1) (.int .i64 (r:Int)) (.int .i64 c) (.slice A1 N c1);have gw:Below w0.heap.size w0 w5:=(G0.out).trans (gW.mono (G0.out).size);have gs:=gw.size;have oA2:=(oA.chg h2 (.inr (by have:=SZ.out;omega))).wider (lo':=w0.heap.size) (hi':=w5.heap.size) (by have:=SZ.out;omega) (by omega);have fg:=gw.trans (h2.below (by omega) gs);have OA2:=h_ oA2;have FG:=h_ fg;clear oA oA2 fg gw h2 k3' k4 gW;go_wp2;exact bodyPost_ret (v:=.agg #[.int .i64 (r:Int),.int .i64 c,.slice A1 N c1]) (by simp[results,go_sem,p0,p1,p2]) rfl ⟨_,rfl,⟨_,rfl,(OA2.out).wider (l_ _) (by simp),i1,i2⟩,FG.out⟩
def nzGo (f:Nat→Nat→Int) (k:Nat):Nat→Nat→Nat
 | a,0=>a
 | a,m+1=>if f a k=0 then nzGo f k (a+1) m else a
def nzF (f:Nat→Nat→Int) (k n r:Nat):Nat:=nzGo f k n (r-n)
theorem c5x (f:Nat→Nat→Int) (k:Nat):∀ m a,a≤nzGo f k a m∧nzGo f k a m≤a+m
 | 0,a=>by simp[nzGo]
 | m+1,a=>by
  have h:=c5x f k m (a+1);simp only[nzGo];split <;> omega
theorem G5_ {f:Nat→Nat→Int} {k n r:Nat} (h:n≤r):n≤nzF f k n r∧nzF f k n r≤r:=by
 have:=c5x f k (r-n) n;unfold nzF;omega
theorem c5z {f:Nat→Nat→Int} {k:Nat}:∀ {m a b},a≤b→b≤a+m→(∀ i,a≤i→i<b→f i k=0)→(b<a+m→f b k≠0)→nzGo f k a m=b
 | 0,a,b,h1,h2,_,_=>by simp only[nzGo];omega
 | m+1,a,b,h1,h2,h3,h4=>by
  simp only[nzGo];by_cases e:a=b
  ·subst e;rw[if_neg (h4 (by omega))]
  ·rw[if_pos (h3 a (l_ _) (by omega))];exact c5z (by omega) (by omega) (fun i hi hb=>h3 i (by omega) hb) (fun h=>h4 (by omega))
theorem f2Q {f:Nat→Nat→Int} {k n r b:Nat} (h1:n≤b) (h2:b≤r) (h3:∀ i,n≤i→i<b→f i k=0) (h4:b<r→f b k≠0):nzF f k n r=b :=
 c5z h1 (by omega) h3 (fun h=>h4 (by omega))
theorem c5J {f:Nat→Nat→Int} {k:Nat}:∀ {m a},nzGo f k a m<a+m→f (nzGo f k a m) k≠0
 | 0,a,h=>by simp only[nzGo]at h;omega
 | m+1,a,h=>by
  simp only[nzGo]at h⊢;split
  ·rename_i h0
   rw[if_pos h0]at h;exact c5J (by omega)
  ·rename_i h0;exact h0
theorem b0X {f:Nat→Nat→Int} {k n r:Nat} (hn:n≤r) (h:nzF f k n r<r):f (nzF f k n r) k≠0:=c5J (by unfold nzF at h;omega)
def invP (p x:Int):Int:=if p=5 then (x % p*(x % p) % p)*(x % p) % p else x % p
def swJ (n t j:Nat) (f:Nat→Nat→Int) (a b:Nat):Int:=if b<j then (if a=n then f t b else if a=t then f n b else f a b) else f a b
def swA (n t:Nat) (f:Nat→Nat→Int) (a b:Nat):Int:=if a=n then f t b else if a=t then f n b else f a b
def scJ (p:Int) (n:Nat) (s:Int) (j:Nat) (f:Nat→Nat→Int) (a b:Nat):Int:=if a=n∧b<j then f a b*s % p else f a b
def scA (p:Int) (n:Nat) (s:Int) (f:Nat→Nat→Int) (a b:Nat):Int:=if a=n then f a b*s % p else f a b
def elI (p:Int) (n k i:Nat) (f:Nat→Nat→Int) (a b:Nat):Int:=if a<i∧a≠n then (f a b+(p-f a k)*f n b) % p else f a b
def elA (p:Int) (n k:Nat) (f:Nat→Nat→Int) (a b:Nat):Int:=if a≠n then (f a b+(p-f a k)*f n b) % p else f a b
def rdF (p:Int) (r:Nat) (f:Nat→Nat→Int) (n k:Nat):Nat→Nat→Int :=
 elA p n k (scA p n (invP p (swA n (nzF f k n r) f n k)) (swA n (nzF f k n r) f))
def rdTo (p:Int) (r:Nat) (f:Nat→Nat→Int):Nat→(Nat→Nat→Int)×List Int
 | 0=>(f,[])
 | k+1=>if nzF (rdTo p r f k).1 k (rdTo p r f k).2.length r<r then (rdF p r (rdTo p r f k).1 (rdTo p r f k).2.length k,(rdTo p r f k).2 ++ [(k:Int)]) else rdTo p r f k
theorem M5_ (p:Int) (r:Nat) (f:Nat→Nat→Int) (k:Nat):rdTo p r f (k+1) =
  if nzF (rdTo p r f k).1 k (rdTo p r f k).2.length r<r then (rdF p r (rdTo p r f k).1 (rdTo p r f k).2.length k,(rdTo p r f k).2 ++ [(k:Int)]) else ((rdTo p r f k).1,(rdTo p r f k).2):=rfl
theorem n1_ (p:Int) (r:Nat) (f:Nat→Nat→Int):∀ k,(rdTo p r f k).2.length≤r∧(rdTo p r f k).2.length≤k
 | 0=>by simp[rdTo]
 | k+1=>by
  have h:=n1_ p r f k;simp only[rdTo];split
  ·rename_i h1
   have:=(G5_ (f:=(rdTo p r f k).1) (k:=k) h.1).1;simp;omega
  ·omega
theorem U0_ (p:Int) (r:Nat) (f:Nat→Nat→Int):∀ k,∀ x∈(rdTo p r f k).2,0≤x∧x<k
 | 0,x,h=>by simp[rdTo]at h
 | k+1,x,h=>by
  have ih:=U0_ p r f k;simp only[rdTo]at h;split at h
  ·simp only[List.mem_append,List.mem_singleton]at h;rcases h with h | rfl
   ·have:=ih x h;omega
   ·omega
  ·have:=ih x h;omega
def InF (p:Int) (r c:Nat) (f:Nat→Nat→Int):Prop:=∀ a b,a<r→b<c→0≤f a b∧f a b≤p-1
theorem c1Q {p:Int} {r c n t:Nat} {f:Nat→Nat→Int} (h:InF p r c f) (hn:n<r) (ht:t<r):InF p r c (swA n t f):=fun a b ha hb=>by
 unfold swA;split
 ·exact h _ _ ht hb
 ·split
  ·exact h _ _ hn hb
  ·exact h _ _ ha hb
theorem i6_ {p x:Int} (hp:2≤p):0≤x % p∧x % p≤p-1:=by
 have h1:=Int.emod_nonneg x (show p≠0 by omega);have h2:=Int.emod_lt_of_pos x (show 0<p by omega);omega
theorem c1J {p s:Int} {r c n:Nat} {f:Nat→Nat→Int} (hp:2≤p) (h:InF p r c f):InF p r c (scA p n s f):=fun a b ha hb=>by
 unfold scA;split
 ·exact i6_ hp
 ·exact h _ _ ha hb
theorem g7X {p:Int} {r c n k:Nat} {f:Nat→Nat→Int} (hp:2≤p) (h:InF p r c f):InF p r c (elA p n k f):=fun a b ha hb=>by
 unfold elA;split
 ·exact i6_ hp
 ·exact h _ _ ha hb
theorem g8j {p:Int} {r c n k:Nat} {f:Nat→Nat→Int} (hp:2≤p) (h:InF p r c f) (hn:n<r) (ht:nzF f k n r<r):InF p r c (rdF p r f n k):=g7X hp (c1J hp (c1Q h hn ht))
theorem L3_ {p:Int} {r c:Nat} {f:Nat→Nat→Int} (hp:2≤p) (h:InF p r c f):∀ k,InF p r c (rdTo p r f k).1
 | 0=>h
 | k+1=>by
  have ih:=L3_ hp h k;simp only[rdTo];split
  ·rename_i h1
   have hl:=(n1_ p r f k).1;exact g8j hp ih (by have:=(G5_ (f:=(rdTo p r f k).1) (k:=k) hl).1;omega) h1
  ·exact ih
theorem c6x {p:Int} {r:Nat} {f:Nat→Nat→Int} {k:Nat} (h:(rdTo p r f k).2.length=r):rdTo p r f (k+1)=rdTo p r f k:=by
 simp only[rdTo];rw[if_neg];rw[h];have:=(G5_ (f:=(rdTo p r f k).1) (k:=k) (l_ r)).1;omega
theorem Z5_ {p:Int} {r:Nat} {f:Nat→Nat→Int} {k:Nat} (h:(rdTo p r f k).2.length=r):∀ m,rdTo p r f (k+m)=rdTo p r f k
 | 0=>rfl
 | m+1=>by
  have ih:=Z5_ h m;rw[show k+(m+1)=(k+m)+1 by omega,c6x (by rw[ih];exact h),ih]
theorem sw_0 (n t:Nat) (f:Nat→Nat→Int):swJ n t 0 f=f:=by funext a b;simp[swJ]
theorem f4x (n t r c:Nat) (f:Nat→Nat→Int):flat r c (swJ n t c f)=flat r c (swA n t f):=c1_ fun a b _ hb=>by rw[swJ,if_pos hb];rfl
theorem c9Z {n t r c j:Nat} (f:Nat→Nat→Int) (hn:n<r) (ht:t<r) (hj:j<c) :
  ((flat r c (swJ n t j f)).set (n*c+j) (f t j)).set (t*c+j) (f n j)=flat r c (swJ n t (j+1) f):=by
 rw[k8_ _ _ hn hj,k8_ _ _ ht hj];refine c1_ fun a b _ _=>?_
 simp only[swJ];by_cases e1:a=t∧b=j
 ·obtain⟨rfl,rfl⟩:=e1;rw[if_pos ⟨rfl,rfl⟩,if_pos (by omega)];by_cases e2:a=n
  ·subst e2;rw[if_pos rfl]
  ·rw[if_neg e2,if_pos rfl]
 ·rw[if_neg e1];by_cases e2:a=n∧b=j
  ·obtain⟨rfl,rfl⟩:=e2;rw[if_pos ⟨rfl,rfl⟩,if_pos (by omega),if_pos rfl]
  ·rw[if_neg e2];by_cases e3:b<j
   ·rw[if_pos e3,if_pos (show b<j+1 by omega)]
   ·rw[if_neg e3];by_cases e4:b<j+1
    ·rw[if_pos e4,if_neg (by omega),if_neg (by omega)]
    ·rw[if_neg e4]
theorem A7_ {n t j a:Nat} (f:Nat→Nat→Int):swJ n t j f a j=f a j:=by rw[swJ,if_neg (by omega)]
theorem sc_0 (p:Int) (n:Nat) (s:Int) (f:Nat→Nat→Int):scJ p n s 0 f=f:=by funext a b;simp[scJ]
theorem f3J (p:Int) (n r c:Nat) (s:Int) (f:Nat→Nat→Int):flat r c (scJ p n s c f)=flat r c (scA p n s f):=c1_ fun a b _ hb=>by simp only[scJ,scA,hb,and_true]
theorem c8z {p s:Int} {n r c j:Nat} (f:Nat→Nat→Int) (hn:n<r) (hj:j<c) :
  (flat r c (scJ p n s j f)).set (n*c+j) (f n j*s % p)=flat r c (scJ p n s (j+1) f):=by
 rw[k8_ _ _ hn hj];refine c1_ fun a b _ _=>?_
 simp only[scJ];by_cases e1:a=n∧b=j
 ·obtain⟨rfl,rfl⟩:=e1;rw[if_pos ⟨rfl,rfl⟩,if_pos (by omega)]
 ·rw[if_neg e1];by_cases e2:a=n∧b<j
  ·rw[if_pos e2,if_pos (by omega)]
  ·rw[if_neg e2,if_neg (by omega)]
theorem c8q {p s:Int} {n j a:Nat} (f:Nat→Nat→Int):scJ p n s j f a j=f a j:=by rw[scJ,if_neg (by omega)]
theorem el_0 (p:Int) (n k:Nat) (f:Nat→Nat→Int):elI p n k 0 f=f:=by funext a b;simp[elI]
theorem f0Z (p:Int) (n k r c:Nat) (f:Nat→Nat→Int):flat r c (elI p n k r f)=flat r c (elA p n k f):=c1_ fun a b ha _=>by simp only[elI,elA,ha,true_and]
theorem b9q (p:Int) (n k:Nat) (f:Nat→Nat→Int):elI p n k n f=elI p n k (n+1) f:=by
 funext a b
 simp only[elI];by_cases e:a<n∧a≠n
 ·rw[if_pos e,if_pos (by omega)]
 ·rw[if_neg e,if_neg (by omega)]
theorem R8_ {p:Int} {n k i b:Nat} (f:Nat→Nat→Int):elI p n k i f i b=f i b:=by rw[elI,if_neg (by omega)]
theorem el_n {p:Int} {n k i b:Nat} (f:Nat→Nat→Int):elI p n k i f n b=f n b:=by rw[elI,if_neg (by omega)]
def elJ (p:Int) (n k i j:Nat) (f:Nat→Nat→Int) (a b:Nat):Int:=if a=i∧b<j then (f a b+(p-f a k)*f n b) % p else elI p n k i f a b
theorem g7j (p:Int) (n k i:Nat) (f:Nat→Nat→Int):elJ p n k i 0 f=elI p n k i f:=by funext a b;simp[elJ]
theorem f6Z {p:Int} {n k i r c:Nat} (f:Nat→Nat→Int) (hi:i≠n):flat r c (elJ p n k i c f)=flat r c (elI p n k (i+1) f):=c1_ fun a b _ hb=>by
 simp only[elJ,elI];by_cases e:a=i
 ·subst e;rw[if_pos ⟨rfl,hb⟩,if_pos (by omega)]
 ·rw[if_neg (by omega)];by_cases e2:a<i∧a≠n
  ·rw[if_pos e2,if_pos (by omega)]
  ·rw[if_neg e2,if_neg (by omega)]
theorem d3j {p:Int} {n k i j r c:Nat} (f:Nat→Nat→Int) (hi:i<r) (hj:j<c) :
  (flat r c (elJ p n k i j f)).set (i*c+j) ((f i j+(p-f i k)*f n j) % p)=flat r c (elJ p n k i (j+1) f):=by
 rw[k8_ _ _ hi hj];refine c1_ fun a b _ _=>?_
 simp only[elJ];by_cases e1:a=i∧b=j
 ·obtain⟨rfl,rfl⟩:=e1;rw[if_pos ⟨rfl,rfl⟩,if_pos (by omega)]
 ·rw[if_neg e1];by_cases e2:a=i∧b<j
  ·rw[if_pos e2,if_pos (by omega)]
  ·rw[if_neg e2,if_neg (by omega)]
theorem d2X {p:Int} {n k i j:Nat} (f:Nat→Nat→Int):elJ p n k i j f i j=f i j:=by rw[elJ,if_neg (by omega),R8_]
theorem i4q {p:Int} {n k i j b:Nat} (f:Nat→Nat→Int) (hi:i≠n):elJ p n k i j f n b=f n b:=by rw[elJ,if_neg (by omega),el_n]
theorem g7q {p a x y:Int}:(a-x*y) % p=(a+(p-x)*y) % p:=by
 rw[show a+(p-x)*y=(a-x*y)+p*y by rw[Int.sub_mul];omega];rw[Int.add_mul_emod_self_left]
def sgF (h:Nat→Int):Nat→Int
 | 0=>0
 | n+1=>sgF h n+h n
def muP (p:Int) (k:Nat) (f g:Nat→Nat→Int) (a b:Nat):Int:=sgF (fun t=>f a t*g t b) k % p
def muS (p:Int) (c i k:Nat) (f g:Nat→Nat→Int) (a b:Nat):Int:=if a<i then muP p c f g a b else if a=i then muP p k f g a b else 0
theorem i0z (p:Int) (f g:Nat→Nat→Int) (a b:Nat):muP p 0 f g a b=0:=by simp[muP,sgF]
theorem i5q (p:Int) (c r d:Nat) (f g:Nat→Nat→Int):flat r d (fun _ _=>0)=flat r d (muS p c 0 0 f g):=c1_ fun a b _ _=>by
 simp only[muS,i0z];rw[if_neg (by omega)];split <;> rfl
theorem d5Q (p:Int) (c i:Nat) (f g:Nat→Nat→Int):muS p c i c f g=muS p c (i+1) 0 f g:=by
 funext a b
 simp only[muS,i0z];by_cases h1:a<i
 ·rw[if_pos h1,if_pos (by omega)]
 ·rw[if_neg h1];by_cases h2:a=i
  ·rw[if_pos h2,if_pos (by omega)]
  ·rw[if_neg h2,if_neg (by omega)];split <;> rfl
theorem g1q (p:Int) (c r d:Nat) (f g:Nat→Nat→Int):flat r d (muS p c r 0 f g)=flat r d (muP p c f g):=c1_ fun a b ha _=>by
 simp only[muS];rw[if_pos ha]
theorem d5J {p:Int} (k:Nat) (f g:Nat→Nat→Int) (a b:Nat):(muP p k f g a b+f a k*g k b) % p=muP p (k+1) f g a b:=by
 simp only[muP,sgF];rw[Int.emod_add_emod]
theorem L8_ {p:Int} (hp:2≤p) (k:Nat) (f g:Nat→Nat→Int) (a b:Nat):0≤muP p k f g a b∧muP p k f g a b≤p-1:=i6_ hp
theorem g1z {p:Int} (hp:2≤p) (c i k:Nat) (f g:Nat→Nat→Int) (a b:Nat):0≤muS p c i k f g a b∧muS p c i k f g a b≤p-1:=by
 unfold muS;split
 ·exact L8_ hp _ _ _ _ _
 ·split
  ·exact L8_ hp _ _ _ _ _
  ·omega
theorem g1x {p:Int} {c i k r d:Nat} (f g:Nat→Nat→Int) :
  rowF (r*d) (amF p (f i k) (i*d) d (fun j=>muS p c i k f g (j / d) (j % d)) (g k))=flat r d (muS p c i (k+1) f g):=by
 refine d1_ fun x hx=>?_
 obtain⟨a,b,ha,hb,rfl⟩:=T5_ hx;simp only[amF,u6_ hb,u7_ hb];by_cases e:a=i
 ·subst e;rw[if_pos (by omega),show a*d+b-a*d=b by omega];simp only[muS];rw[if_neg (by omega),if_pos trivial,if_neg (by omega),if_pos trivial];exact d5J k f g a b
 ·have h1:¬ (i*d≤a*d+b∧a*d+b<i*d+d):=by
   rintro⟨h1,h2⟩;rcases Nat.lt_or_gt_of_ne e with h | h
   ·have:(a+1)*d≤i*d:=Nat.mul_le_mul_right _ h;rw[Nat.add_mul,Nat.one_mul]at this;omega
   ·have:(i+1)*d≤a*d:=Nat.mul_le_mul_right _ h;rw[Nat.add_mul,Nat.one_mul]at this;omega
  rw[if_neg h1];simp only[muS];by_cases e2:a<i
  ·rw[if_pos e2,if_pos e2]
  ·rw[if_neg e2,if_neg e2,if_neg e,if_neg e]
theorem SlI.up {w:World} {B B':Nat} {v:Value} {xs:List Int} (hB:B≤B') (h:SlI w B v xs):SlI w B' v xs:=by
 obtain⟨A,c,e,h1,h2,h3,h4⟩:=h;exact⟨A,c,e,h1,h2,h3,fun hl=>by obtain⟨b,o,e2,hb,hx⟩:=h4 hl;exact⟨b,o,e2,Nat.lt_of_lt_of_le hb hB,hx⟩⟩
theorem c7Q (u:Value) (r c i B:Nat) (f:Nat→Nat→Int) (w:World) (hu:MxR w B u (mxF r c f)) (hB:B≤w.heap.size) (hr:r≤1000) (hc:c≤1000) (hi:i<r) :
  Calls Tryz.prog 83 #[u,.int .i64 i] w fun e w'=>∃ v,e = .returned v∧SlI w' B v (rowF c (f i))∧Below w.heap.size w w':=by
 have hi1:i≤1000:=by omega
 obtain⟨A,cap,rfl,hs,_,_,hl⟩:=hu.open_;simp only[mxF]at hs hl⊢;rcases Nat.eq_zero_or_pos c with rfl | h0
 ·obtain⟨_,_,e,h1,h2,_⟩:=hs;injection e with e1 e2 e3
  subst e1 e3;have e:(flat r 0 f).length=0:=by rw[a1_];rfl
  rw[e];refine (U4_ r i cap A w h2 hi1).mono fun e w' ⟨A',h3,h4⟩=>⟨_,h3,?_,h4⟩
  exact⟨A',cap,by simp[rowF],by simp[rowF],h2,by simp[rowF],fun h=>by simp[rowF]at h⟩
 ·obtain⟨P,J,hP,_,_,_,_⟩:=m3_ hi h0 hr hc;obtain⟨hPi,hP2,hPL,_⟩:=T4_ hi hr hc hP;have hlt:=E4_ hi h0;have hs':=hs;obtain⟨_,_,e,h1,h2,h3,h4⟩:=hs;injection e with e1 e2 e3
  subst e1 e3;obtain⟨b,o,rfl,hb,hx⟩:=h4 (by rw[a1_];exact Nat.lt_of_le_of_lt (l0_ _) hlt);refine (c7J r c i P _ cap b o w hP hP2 (by rw[a1_];exact hPL) h1 h2 h0 hi1).mono fun e w' ⟨h5,h6⟩=>⟨_,h5,?_,h6⟩
  have:=SlI.part (P:=P) (l':=rowF c (f i)) (SlI.below (h6.mono hB) hs') rfl (by rw[a2_,a1_];exact hPL) (fun j x hj=>?_) rfl
  ·rwa[a2_]at this
  ·have hjc:=a6_ hj;rw[a2_]at hjc;rw[c0_ _ hjc]at hj;rw[hPi,k3_ f hi hjc];exact hj
theorem P9_ {a b c:World} {row:Option Nat} (h:a.grownBy b row) (k:b.grownBy c row):a.grownBy c row :=
 ⟨k.os.trans h.os,k.tape.trans h.tape,k.output.trans h.output,Nat.le_trans h.size k.size,fun i hi hne=>(k.block i (Nat.lt_of_lt_of_le hi h.size) hne).trans (h.block i hi hne)⟩
structure RS (B:Nat) (w1:World) (A:Option Addr) (r c L cap:Nat) (w:World) (f:Nat→Nat→Int) (pv:Value) (ps:List Int):Prop where
 bel:Below B w1 w
 fam:Fam w B w.heap.size [(.slice A L cap,flat r c f),(pv,ps)]
section
variable {B:Nat} {w1 w w':World} {A:Option Addr} {r c L cap:Nat} {f:Nat→Nat→Int} {pv:Value} {ps:List Int}
theorem RS.own (h:RS B w1 A r c L cap w f pv ps):OwnI w B (.slice A L cap) (flat r c f):=(h.fam.1 (_,flat r c f) (by simp)).1
theorem RS.ownP (h:RS B w1 A r c L cap w f pv ps):a8_ w B w.heap.size pv ps:=h.fam.1 (pv,ps) (by simp)
theorem RS.size (h:RS B w1 A r c L cap w f pv ps) (hB:B≤w1.heap.size):B≤w.heap.size:=Nat.le_trans hB h.bel.size
theorem RS.call (h:RS B w1 A r c L cap w f pv ps) (hB:B≤w1.heap.size) (hb:Below w.heap.size w w'):RS B w1 A r c L cap w' f pv ps :=
 ⟨h.bel.trans (hb.mono (h.size hB)),(h.fam.below hb).mono (l_ _) hb.size⟩
theorem RS.addr (h:RS B w1 A r c L cap w f pv ps) (hL:0<r*c):∃ g,A=some ⟨g,0,none⟩∧L=r*c∧L≤cap∧cap≤9223372036854775807∧B≤g∧g<w.heap.size:=by
 have ho:=h.own;rcases ho.1.2 with ⟨e,h0⟩ | ⟨g,cap',cur,e,hg,hh,hnc,hcm,_⟩
 ·rw[a1_]at h0;omega
 ·injection e with e1 e2 e3
  subst e1 e3;rw[a1_]at e2 hnc;subst e2;exact⟨g,rfl,rfl,hnc,by simp only[maxLen]at hcm;omega,hg,(Array.getElem?_eq_some_iff.1 hh).1⟩
theorem RS.len (h:RS B w1 A r c L cap w f pv ps):L=r*c:=by
 rcases h.own.form with ⟨A',c',e,_⟩
 injection e with _ e _
 rw[a1_]at e;exact e
theorem RS.cell {g i k:Nat} (h:RS B w1 (some ⟨g,0,none⟩) r c L cap w f pv ps) (hi:i<r) (hk:k<c):w.cell? ⟨g,i*c+k,none⟩=some (.int .i64 (f i k))∧I64 (f i k)∧w.frozen? ⟨g,i*c+k,none⟩=false:=by
 have h1:=h.own.cellG (j:=i*c+k) (by rw[a1_];exact E4_ hi hk);rw[v3_ f hi hk]at h1;exact⟨h1.1,h1.2,h.own.frozenG _⟩
theorem RS.put {g J:Nat} {x:Int} {f2:Nat→Nat→Int} (h:RS B w1 (some ⟨g,0,none⟩) r c L cap w f pv ps) (hg:B≤g) (hs:B≤w.heap.size) (hx:I64 x) (e:(flat r c f).set J x=flat r c f2) :
  RS B w1 (some ⟨g,0,none⟩) r c L cap (w.setCell ⟨g,J,none⟩ (.int .i64 x)) f2 pv ps:=by
 have hp:=h.own.put (j:=J) hx;rw[e]at hp;refine⟨h.bel.setCell hg _,?_⟩;have:=h.fam.turn (L1:=[]) hp.1 hp.2;simpa using this
theorem RS.turn {g:Nat} {f2:Nat→Nat→Int} (h:RS B w1 (some ⟨g,0,none⟩) r c L cap w f pv ps) (hg:B≤g) (hs:B≤w.heap.size) (ho:OwnI w' B (.slice (some ⟨g,0,none⟩) L cap) (flat r c f2)) (hgr:w.grownBy w' (some g)) :
  RS B w1 (some ⟨g,0,none⟩) r c L cap w' f2 pv ps:=by
 refine⟨h.bel.trans (c9_ hgr (fun k hk=>by injection hk with hk;omega) hs),?_⟩;have:=h.fam.turn (L1:=[]) ho hgr;exact this.mono (l_ _) hgr.size
theorem RS.app {pv':Value} {ps':List Int} (h:RS B w1 A r c L cap w f pv ps) (hs:B≤w.heap.size) (ho:OwnI w' B pv' ps') (hg:w.grownBy w' pv.ownBlock) (hv:pv'.ownBlock=pv.ownBlock∨pv'.ownBlock=some w.heap.size) :
  RS B w1 A r c L cap w' f pv' ps':=by
 refine⟨h.bel.trans (c9_ hg (fun k hk=>(h.ownP.1.lt k hk).1) hs),?_⟩;have h1:Fam w B w.heap.size ([(.slice A L cap,flat r c f)] ++ (pv,ps) :: []):=h.fam;have hw:=hg.size;exact h1.app hw ho hg hv
end
section
variable {B:Nat} {w1 w w':World} {A:Option Addr} {r c L cap:Nat} {f:Nat→Nat→Int} {pv:Value} {ps:List Int}
theorem RS.cellP {g i k P:Nat} (h:RS B w1 (some ⟨g,0,none⟩) r c L cap w f pv ps) (hi:i<r) (hk:k<c) (hP:P=i*c):w.cell? ⟨g,P+k,none⟩=some (.int .i64 (f i k))∧I64 (f i k)∧w.frozen? ⟨g,P+k,none⟩=false:=by
 subst hP;exact h.cell hi hk
theorem RS.put2 {g J J':Nat} {x y:Int} {f2:Nat→Nat→Int} (h:RS B w1 (some ⟨g,0,none⟩) r c L cap w f pv ps) (hg:B≤g) (hs:B≤w.heap.size) (hx:I64 x) (hy:I64 y) (e:((flat r c f).set J x).set J' y=flat r c f2) :
  RS B w1 (some ⟨g,0,none⟩) r c L cap ((w.setCell ⟨g,J,none⟩ (.int .i64 x)).setCell ⟨g,J',none⟩ (.int .i64 y)) f2 pv ps:=by
 have hp:=h.own.put (j:=J) hx;have hp2:=hp.1.put (j:=J') hy;rw[e]at hp2;exact h.turn hg hs hp2.1 (P9_ hp.2 hp2.2)
end
theorem RS.congr {B:Nat} {w1 w:World} {A:Option Addr} {r c L cap:Nat} {f f2:Nat→Nat→Int} {pv:Value} {ps:List Int} (h:RS B w1 A r c L cap w f pv ps) (e:flat r c f=flat r c f2):RS B w1 A r c L cap w f2 pv ps :=
 ⟨h.bel,by rw[←e];exact h.fam⟩
theorem f1x {p x:Int} (hp:2≤p∧p≤5):0≤invP p x∧invP p x≤4:=by
 unfold invP;split
 ·have:=i6_ (x:=x % p*(x % p) % p*(x % p)) hp.1;omega
 ·have:=i6_ (x:=x) hp.1;omega
theorem f7X {p:Int} {r c n k i:Nat} {f:Nat→Nat→Int} (hp:2≤p) (h:InF p r c f):InF p r c (elI p n k i f):=fun a b ha hb=>by
 unfold elI;split
 ·exact i6_ hp
 ·exact h _ _ ha hb
theorem b6j {i n c P Q:Nat} (h:i≠n) (hQ:Q=i*c) (hP:P=n*c):Q+c≤P∨P+c≤Q:=by
 rcases Nat.lt_or_gt_of_ne h with h | h
 ·have:(i+1)*c≤n*c:=Nat.mul_le_mul_right _ h;rw[Nat.add_mul,Nat.one_mul]at this;omega
 ·have:(n+1)*c≤i*c:=Nat.mul_le_mul_right _ h;rw[Nat.add_mul,Nat.one_mul]at this;omega
theorem M7_ {r c i P L cap g:Nat} (w:World) (hi:i<r) (h0:0<c) (hr:r≤1000) (hc:c≤1000) (hL:L=r*c) (hcap:L≤cap) (hb:cap≤9223372036854775807) (hP:P=i*c) :
  Calls Tryz.prog 83 #[.agg #[.int .i64 (r:Int),.int .i64 (c:Int),.slice (some ⟨g,0,none⟩) L cap],.int .i64 (i:Int)] w fun e w'=>e = .returned (.slice (some ⟨g,P,none⟩) c (cap-P))∧Below w.heap.size w w':=by
 obtain⟨P',J,h1,h2,h3,h4,h5⟩:=m3_ (k:=0) hi h0 hr hc;obtain⟨h5',h6,h7,h8⟩:=T4_ hi hr hc h1;have e:P'=P:=h5'.trans hP.symm;have h9:P'+c≤L:=by rw[hL];exact h7
 have h10:i≤1000:=Nat.le_trans (Nat.le_of_lt hi) hr;have:=i1Z (r:Int) c i P' L cap g w h1 h6 h9 hcap hb h0 h10;rw[e]at this;exact this
theorem rowP {r c i k P:Nat} (hi:i<r) (hk:k<c) (hr:r≤1000) (hc:c≤1000) (hP:P=i*c):P+k<r*c∧P+c≤r*c∧r*c≤1000000:=by
 have h1:(i+1)*c≤r*c:=Nat.mul_le_mul_right _ hi;have h2:r*c≤1000*1000:=Nat.mul_le_mul hr hc;rw[Nat.add_mul,Nat.one_mul]at h1;omega
theorem i3Q {p:Int} {n k i r c:Nat} (F:Nat→Nat→Int) (hn:n<r) (hi:i≠n) :
  rowF (r*c) (amF p (p-F i k) (i*c) c (fun j=>elI p n k i F (j / c) (j % c)) fun j=>(fun x=>elI p n k i F (x / c) (x % c)) (n*c+j))=flat r c (elI p n k (i+1) F):=by
 refine d1_ fun x hx=>?_
 obtain⟨a,b,ha,hb,rfl⟩:=T5_ hx;simp only[amF,u6_ hb,u7_ hb];by_cases e:a=i
 ·subst e;rw[if_pos (by omega),show a*c+b-a*c=b by omega,u6_ hb,u7_ hb,R8_,el_n];simp only[elI];rw[if_pos (by omega)]
 ·have h1:¬ (i*c≤a*c+b∧a*c+b<i*c+c):=by
   rintro⟨h1,h2⟩;rcases Nat.lt_or_gt_of_ne e with h | h
   ·have:(a+1)*c≤i*c:=Nat.mul_le_mul_right _ h;rw[Nat.add_mul,Nat.one_mul]at this;omega
   ·have:(i+1)*c≤a*c:=Nat.mul_le_mul_right _ h;rw[Nat.add_mul,Nat.one_mul]at this;omega
  rw[if_neg h1];simp only[elI];by_cases e2:a<i∧a≠n
  ·rw[if_pos e2,if_pos (by omega)]
  ·rw[if_neg e2,if_neg (by omega)]
theorem c6X (r c:Nat) (f:Nat→Nat→Int):flat r c f=rowF (r*c) fun j=>f (j / c) (j % c):=rfl
theorem a2J {p x:Int} (hp:c8_ p=true) (h1:1≤x) (h2:x≤p-1):1≤invP p x∧invP p x≤p-1∧x*invP p x % p=1∧∀ y,1≤y→y<invP p x→x*y % p≠1:=by
 rcases E3_.1 hp with rfl | rfl | rfl
 ·obtain rfl:x=1:=by omega
  refine⟨by decide,by decide,by decide,fun y hy hy2=>?_⟩;have:invP 2 1=1:=by decide
  omega
 ·have:x=1∨x=2:=by omega
  rcases this with rfl | rfl
  ·refine⟨by decide,by decide,by decide,fun y hy hy2=>?_⟩;have:invP 3 1=1:=by decide
   omega
  ·refine⟨by decide,by decide,by decide,fun y hy hy2=>?_⟩;have:invP 3 2=2:=by decide
   obtain rfl:y=1:=by omega
   decide
 ·have:x=1∨x=2∨x=3∨x=4:=by omega
  rcases this with rfl | rfl | rfl | rfl
  ·refine⟨by decide,by decide,by decide,fun y hy hy2=>?_⟩;have:invP 5 1=1:=by decide
   omega
  ·refine⟨by decide,by decide,by decide,fun y hy hy2=>?_⟩;have:invP 5 2=3:=by decide
   have:y=1∨y=2:=by omega
   rcases this with rfl | rfl <;> decide
  ·refine⟨by decide,by decide,by decide,fun y hy hy2=>?_⟩;have:invP 5 3=2:=by decide
   obtain rfl:y=1:=by omega
   decide
  ·refine⟨by decide,by decide,by decide,fun y hy hy2=>?_⟩;have:invP 5 4=4:=by decide
   have:y=1∨y=2∨y=3:=by omega
   rcases this with rfl | rfl | rfl <;> decide
def pwF (p x:Int):Nat→Int
 | 0=>1
 | n+1=>pwF p x n*(x % p) % p
theorem i5J {p x:Int} (hp:2≤p∧p≤5):∀ n,0≤pwF p x n∧pwF p x n≤4
 | 0=>by simp[pwF]
 | n+1=>by
  have:=i6_ (x:=pwF p x n*(x % p)) hp.1;simp only[pwF];omega
theorem g2x {p x:Int} (hp:c8_ p=true):pwF p x (max (p-2) 1).toNat=invP p x:=by
 have e:=Int.emod_emod_of_dvd x (Int.dvd_refl p);rcases E3_.1 hp with rfl | rfl | rfl
 ·show 1*(x % 2) % 2=_;rw[Int.one_mul,e];rfl
 ·show 1*(x % 3) % 3=_;rw[Int.one_mul,e];rfl
 ·show 1*(x % 5) % 5*(x % 5) % 5*(x % 5) % 5=_;rw[Int.one_mul,e];rfl
theorem Z3_ (p x:Int) (n:Nat) (w:World) (hp:c8_ p=true) (hx:I64 x) (hn:n≤1000) :
  Calls Tryz.prog 145 #[.int .i64 p,.int .i64 x,.int .i64 n] w fun e w'=>e = .returned (.int .i64 (pwF p x n))∧w'=w:=by
 have hpr:=f9_ hp;have h2:inR (n:Int) 0 1000=true:=j1_.2 (by omega);have H1:=h_ hp;have H2:=h_ h2;have HX:=h_ hx;clear hp h2;go_enter Tryz.func145,Tryz.ntmps145
 go_wp2_with fail
 refine (b5_ _ _).mono ?_;rintro e w1 ⟨rfl,hww⟩;replace hww:=hww.symm;subst hww;rw[H1.out];go_wp2_with fail
 refine (b7_ _ _ _ _).mono ?_;rintro e w1 ⟨rfl,hww⟩;replace hww:=hww.symm;subst hww;rw[H2.out];go_wp2
 go_loop [7,17] (fun o i=>∃ k:Nat,k≤n∧i = .int .i64 k∧o = .int .i64 (pwF p x k)) (fun _ i=>n-(intOf i).toNat)
 case atStart=>exact⟨0,l0_ _,rfl,rfl⟩
 case round =>
  obtain⟨k,hk,rfl,rfl⟩:=hrel;by_cases hlt:k<n
  ·have hr:=i5J (x:=x) hpr k;have hm:=i6_ (x:=x) hpr.1;have hs:Hid (pwF p x (k+1)=pwF p x k*(x % p) % p):=rfl;obtain⟨a,ha⟩:=e_ (pwF p x k);obtain⟨m,hmm⟩:=e_ (x % p);rw[ha,hmm]at hs;rw[ha]at hr⊢;rw[hmm]at hm;have k0:0≤a*m:=Int.mul_nonneg hr.1 hm.1;have k1:a*m≤4*4:=Int.mul_le_mul hr.2 (by omega) hm.1 (by omega);obtain⟨K,hK⟩:=e_ (a*m);rw[hK]at k0 k1 hs;have hKw:wrap64 (a*m)=K:=by rw[hK];exact IntWalk.wrap64_in _ ⟨by omega,by omega⟩
   have ht:K.tmod p=K % p:=Int.tmod_eq_emod_of_nonneg k0;have HMM:=h_ hmm;clear ha hmm hK;go_wp2_with fail
   refine (U1_ p x _ H1.out HX.out).mono ?_;rintro e w1 ⟨rfl,hww⟩;replace hww:=hww.symm;subst hww;rw[HMM.out];go_wp2;go_round
   case rel=>exact⟨k+1,by omega,by go_num,by rw[hs.out]⟩
   case measure=>simp[intOf];omega
  ·obtain rfl:k=n:=by omega
   go_wp2;go_ret
   exact⟨rfl,rfl⟩
theorem O4_ (p x:Int) (w:World) (hp:c8_ p=true) (hx:I64 x) :
  Calls Tryz.prog 122 #[.int .i64 p,.int .i64 x] w fun e w'=>e = .returned (.int .i64 (invP p x))∧w'=w:=by
 have hpr:=f9_ hp;obtain⟨n,hn⟩:∃ n:Nat,max (p-2) 1=n:=⟨(max (p-2) 1).toNat,by omega⟩;have hi:=g2x (x:=x) hp;rw[hn,l5_]at hi;rw[←hi];have hnb:n≤1000:=by omega
 have H1:=h_ hp;have HX:=h_ hx;clear hp hi;go_enter Tryz.func122,Tryz.ntmps122
 go_wp2_with fail
 refine (b5_ _ _).mono ?_;rintro e w1 ⟨rfl,hww⟩;replace hww:=hww.symm;subst hww;rw[H1.out];go_wp2_with fail
 refine (Z3_ p x n _ H1.out HX.out hnb).mono ?_;rintro e w1 ⟨rfl,hww⟩;replace hww:=hww.symm;subst hww;go_wp2;go_ret
 exact⟨rfl,rfl⟩
theorem C7_ (p x:Int) (w:World) (hp:c8_ p=true) (h1:1≤x) (h2:x≤p-1) :
  Calls Tryz.prog 147 #[.int .i64 p,.int .i64 x] w fun e w'=>e = .returned (.int .i64 (invP p x))∧w'=w:=by
 have hpr:=f9_ hp;obtain⟨i1,i2,i3,i4⟩:=a2J hp h1 h2;obtain⟨v,hv⟩:=e_ (invP p x);rw[hv]at i1 i2 i3 i4⊢;have H1:=h_ hp;have I3:=h_ i3;have I4:=h_ i4;have hxm:x % p=x:=Int.emod_eq_of_lt (by omega) (by omega);have HXM:=h_ hxm;clear hp hv i3 i4 hxm;go_enter Tryz.func147,Tryz.ntmps147
 go_wp2
 go_loop [5] (fun i=>∃ y:Int,1≤y∧y≤v∧i = .int .i64 y) (fun i=>(p-intOf i).toNat)
 case atStart=>exact⟨1,by omega,by omega,rfl⟩
 case round =>
  obtain⟨y,hy1,hy2,rfl⟩:=hrel;have hyp:y<p:=by omega
  have k0:0≤x*y:=Int.mul_nonneg (by omega) (by omega);have k1:x*y≤4*4:=Int.mul_le_mul (by omega) (by omega) (by omega) (by omega);obtain⟨K,hK⟩:=e_ (x*y);have hKw:wrap64 (x*y)=K:=by rw[hK];exact IntWalk.wrap64_in _ ⟨by omega,by omega⟩
  rw[hK]at k0 k1;have hKI:Hid (I64 K):=by show _∧_;omega
  have hxI:Hid (I64 x):=by show _∧_;omega
  by_cases hlt:y<v
  ·have hne:=I4.out y hy1 hlt;rw[hK]at hne;have hb:(K % p == 1)=false:=by simpa using hne
   clear hK hne;go_wp2_with fail
   refine (b6_ _ _).mono ?_;rintro e w1 ⟨rfl,hww⟩;replace hww:=hww.symm;subst hww;rw[H1.out];go_wp2_with fail
   refine (q6_ p x _ hpr hxI.out).mono ?_;rintro e w1 ⟨rfl,hww⟩;replace hww:=hww.symm;subst hww;rw[HXM.out];go_wp2_with fail
   refine (q6_ p K _ hpr hKI.out).mono ?_;rintro e w1 ⟨rfl,hww⟩;replace hww:=hww.symm;subst hww;go_wp2;go_round
   case rel=>exact⟨y+1,by omega,by omega,rfl⟩
   case measure=>simp[intOf];omega
  ·obtain rfl:y=v:=by omega
   have he:=I3.out;rw[hK]at he;have HE:=h_ he;clear hK he;go_wp2_with fail
   refine (b6_ _ _).mono ?_;rintro e w1 ⟨rfl,hww⟩;replace hww:=hww.symm;subst hww;rw[H1.out];go_wp2_with fail
   refine (q6_ p x _ hpr hxI.out).mono ?_;rintro e w1 ⟨rfl,hww⟩;replace hww:=hww.symm;subst hww;rw[HXM.out];go_wp2_with fail
   refine (q6_ p K _ hpr hKI.out).mono ?_;rintro e w1 ⟨rfl,hww⟩;replace hww:=hww.symm;subst hww;rw[HE.out];go_wp2;go_ret
   exact⟨rfl,rfl⟩
theorem N8_ (p k:Int) (g off top n N cap ca cb:Nat) (lo:Nat) (f:Nat→Int) (w:World) (hp:2≤p∧p≤5) (hk:0≤k∧k≤5)
  (hown:OwnI w lo (.slice (some ⟨g,0,none⟩) N cap) (rowF N f)) (hoff:off+n≤N) (htop:top+n≤N) (hd:off+n≤top∨top+n≤off) (hN:N≤1000000) (hca:n≤ca∧ca≤9223372036854775807) (hcb:n≤cb∧cb≤9223372036854775807)
  (hf:∀ i,i<N→0≤f i∧f i≤4) :
  Calls Tryz.prog 84 #[.int .i64 p,.slice (some ⟨g,off,none⟩) n ca,.int .i64 k,.slice (some ⟨g,top,none⟩) n cb] w fun e w'=>e = .returned (.slice (some ⟨g,off,none⟩) n ca)∧OwnI w' lo (.slice (some ⟨g,0,none⟩) N cap) (rowF N (amF p k off n f fun j=>f (top+j)))∧w.grownBy w' (some g):=by
 have HF:=h_ hf;obtain⟨y,hy⟩:∃ y:Nat→Int,y=fun j=>f (top+j):=⟨_,rfl⟩
 rw[←hy];have HY:Hid (∀ j,y j=f (top+j)):=by subst hy;exact fun _=>rfl
 rw[g5x p k off N f y]at hown;clear hf hy;go_enter Tryz.func84,Tryz.ntmps84
 go_wp2;go_loopw [13] (fun i wr=>∃ j:Nat,j≤n∧i = .int .i64 j∧OwnI wr lo (.slice (some ⟨g,0,none⟩) N cap) (rowF N (amF p k off j f y))∧w.grownBy wr (some g)) (fun i _=>n-(intOf i).toNat)
 case atStart=>exact⟨0,l0_ _,rfl,hown,World.grownBy.refl _ _⟩
 case round =>
  clear hown;obtain⟨j,hj,rfl,ho,hgr⟩:=hrel;by_cases hlt:j<n
  ·have cA:=(ho.cellG (j:=off+j) (by rw[a2_];omega)).1;rw[i9_ _ (by omega),a5Z]at cA;have cS:=(ho.cellG (j:=top+j) (by rw[a2_];omega)).1;rw[i9_ _ (by omega),amF,if_neg (by omega),←HY.out]at cS;have fA:=ho.frozenG (off+j);have hf1:=HF.out (off+j) (by omega);have hy1:=HF.out (top+j) (by omega);rw[←HY.out]at hy1;have hst:=a5X (p:=p) (k:=k) (off:=off) (j:=j) (N:=N) f y;obtain⟨a,ha⟩:=e_ (f (off+j));obtain⟨z,hz⟩:=e_ (y j);rw[ha]at cA hf1 hst;rw[hz]at cS hy1 hst;have hkz0:0≤k*z:=Int.mul_nonneg hk.1 hy1.1;have hkz1:k*z≤5*4:=Int.mul_le_mul hk.2 hy1.2 hy1.1 (by omega);obtain⟨K,hK⟩:=e_ (k*z);rw[hK]at hkz0 hkz1 hst;have hKw:wrap64 (k*z)=K:=by rw[hK];exact IntWalk.wrap64_in _ ⟨by omega,by omega⟩
   have hr0:=Int.emod_nonneg (a+K) (show p≠0 by omega);have hr1:=Int.emod_lt_of_pos (a+K) (show 0<p by omega);have ho2:=ho.put (j:=off+j) (x:=(a+K) % p) (by simp only[I64];omega);rw[hst]at ho2;have HO2:=h_ ho2;have HG2:=h_ (P9_ hgr ho2.2);have htm:(wrap64 (a+K)).tmod p=(a+K) % p:=by
    rw[IntWalk.wrap64_in _ ⟨by omega,by omega⟩];exact Int.tmod_eq_emod_of_nonneg (by omega)
   have htm2:(a+K).tmod p=(a+K) % p:=Int.tmod_eq_emod_of_nonneg (by omega);clear hst ho2 ho hgr hr0 hr1 ha hz hK hkz0 hkz1;go_wp2;go_roundw
   case rel=>exact⟨j+1,by omega,by go_num,HO2.out.1,HG2.out⟩
   case measure=>simp[intOf];omega
  ·go_wp2;go_ret
   obtain rfl:j=n:=by omega
   exact⟨rfl,ho,hgr⟩
theorem y5_ (p:Int) (u:Value) (r c:Nat) (f:Nat→Nat→Int) (w0:World) (hp:c8_ p=true) (hr:r≤1000) (hc:c≤1000) (hu:MxR w0 w0.heap.size u (mxF r c f)) (hf:InF p r c f) :
  Calls Tryz.prog 85 #[.int .i64 p,u] w0 fun e w'=>∃ m v,e = .returned (.tuple #[m,v])∧MxO w' w0.heap.size w'.heap.size m (mxF r c (rdTo p r f c).1)∧a8_ w' w0.heap.size w'.heap.size v (rdTo p r f c).2∧Below w0.heap.size w0 w':=by
 have hpr:=f9_ hp;have hu':=hu;obtain⟨UA,uc,rfl⟩:=hu.form;simp only[mxF]at hu hu'⊢;rw[a1_]at hu hu'⊢;obtain⟨UL,hUL⟩:=e_ (r*c);rw[hUL]at hu hu'⊢;have HUL:=h_ hUL;clear hUL hu;obtain⟨W,hW,g0,kB,kR⟩:=b_4 w0 #[.int .i64 r,.int .i64 c,.slice UA UL uc] 65 #[.int .i64 0,.int .i64 0,.slice none 0 0] 65;have sz:W.heap.size=w0.heap.size+1+1:=by rw[hW];simp
 have SZ:=h_ sz;have HU:=h_ (MxR.next g0 hu');have HF:=h_ hf;have HP:=h_ hp;obtain⟨c0,c1,c2⟩:=c_3 kB;clear hu' sz hf hp;go_enter Tryz.func85,Tryz.ntmps85
 go_wp2_with fail
 rw[←hW];clear hW;refine (A1_ _ _ _ HU.out).mono ?_;rintro e w1 ⟨v1,rfl,hM,hb1⟩;obtain⟨A,cap,ev⟩:=hM.form;subst ev;simp only[a1_]at hM⊢;obtain⟨L,hL⟩:=e_ (r*c);rw[hL]at hM⊢;have HL:=h_ hL;clear hL;have kB1:=kB.call hb1;have kR1:=kR.call hb1;have g1:=b0_ g0 hb1;clear c0 c1 c2;obtain⟨c0,c1,c2⟩:=c_3 kB1;have fr:=kB1.frozen;have s1:=hb1.size;have sz:=SZ.out;obtain⟨w2,hw2⟩:∃ w2,w2=((w1.setCell ⟨w0.heap.size,0,none⟩ (.int .i64 r)).setCell ⟨w0.heap.size,1,none⟩ (.int .i64 c)).setCell ⟨w0.heap.size,2,none⟩ (.slice A L cap):=⟨_,rfl⟩;have hch:Chg w0.heap.size (w0.heap.size+1) w1 w2:=by rw[hw2];exact chg3 w1 _ _ _ _
 have kB2:Blk w2 w0.heap.size 65 #[.int .i64 r,.int .i64 c,.slice A L cap]:=by rw[hw2];exact ((kB1.set_ 0 _).set_ 1 _).set_ 2 _
 have kR2:=kR1.chg hch (.inr (by omega));have g2:Below w0.heap.size w0 w2:=g1.trans (hch.below (l_ _) (by omega));have s2:=hch.size;obtain⟨sA,esA,hIA,_,_⟩:=hM;simp only[Value.agg.injEq,Array.mk.injEq,List.cons.injEq,and_true,true_and]at esA;subst esA;have hI2:=hIA.chg hch (.inr (by omega));have hS0:RS W.heap.size w2 A r c L cap w2 (rdTo p r f 0).1 (.slice none 0 0) (rdTo p r f 0).2:=by
  refine⟨Below.refl _ _,?_⟩;refine⟨fun q hq=>?_,List.pairwise_pair.2 (Classical.em _)⟩;simp only[List.mem_cons,List.not_mem_nil,or_false]at hq;rcases hq with rfl | rfl
  ·exact hI2.wider (l_ _) s2
  ·exact⟨OwnI.nil _ _,by simp[Value.ownBlock]⟩
 have KB:=h_ kB2;have KR:=h_ kR2;have G2:=h_ g2;have hWB:W.heap.size≤w2.heap.size:=by omega
 have HB0:Hid (w0.heap.size<W.heap.size):=by show _<_;omega
 have HWB:=h_ hWB;clear kB kB1 kR kR1 g0 g1 hIA hI2 hch kB2 kR2 g2 s1 s2 sz hb1 hWB;go_wp2;rw[←hw2];clear hw2 c0 c1 c2 fr;go_loopw [6,18] (fun pv i wr=>∃ k:Nat,k≤c∧i = .int .i64 k∧RS W.heap.size w2 A r c L cap wr (rdTo p r f k).1 pv (rdTo p r f k).2) (fun _ i _=>c-(intOf i).toNat)
 case atStart=>exact⟨0,l0_ _,rfl,hS0⟩
 case round =>
  clear hS0;obtain⟨k,hk,rfl,S⟩:=hrel;obtain⟨PA,pc,ev,_,_⟩:=S.ownP.1.form;subst ev;have hln:=n1_ p r f k;have hin:=L3_ hpr.1 HF.out k;have hrs:=M5_ p r f k;obtain⟨F,hFF⟩:=e_ ((rdTo p r f k).1);obtain⟨ps,hps⟩:=e_ ((rdTo p r f k).2);have hpm:=U0_ p r f k;rw[hps]at hpm;rw[hFF,hps]at S hrs;rw[hps]at hln;rw[hFF]at hin;rw[hps];obtain⟨n,hn⟩:=e_ (ps.length);rw[hn]at hln hrs S⊢;have HRS:=h_ hrs;clear hrs;have HPM:=h_ hpm;have HN:=h_ hn;have HIN:=h_ hin;have HFF:=h_ hFF;have HPS:=h_ hps;clear hFF hps hn hin hpm;by_cases hlt:k<c
  ·have kb:=KB.out.below (S).bel HB0.out;obtain⟨c0,c1,c2⟩:=c_3 kb;have hSS:=h_ S;clear kb;go_wp2;go_loopw [8] (fun i wr=>∃ a:Nat,n≤a∧a≤r∧i = .int .i64 a∧RS W.heap.size w2 A r c L cap wr F (.slice PA n pc) ps∧Hid (∀ i,n≤i→i<a→F i k=0)) (fun i _=>r-(intOf i).toNat)
   case atStart=>exact⟨n,l_ _,hln.1,rfl,S,fun i h1 h2=>by omega⟩
   case round =>
    clear c0 c1 c2 S;obtain⟨a,hna,har,rfl,S,hz⟩:=hrel;have kb:=KB.out.below (S).bel HB0.out;obtain⟨c0,c1,c2⟩:=c_3 kb;by_cases hlr:a<r
    ·obtain⟨P1,_,P3⟩:=rowP hlr hlt hr hc rfl;obtain⟨g,eA,eL,hLc,hcb,hBg,hgw⟩:=S.addr (by omega);subst eA;obtain⟨Q,hQ⟩:∃ Q,Q=a*c:=⟨_,rfl⟩;have HQ:=h_ hQ;have EL:=h_ eL;rw[←hQ]at P1;rw[←eL]at P1 P3;clear hQ eL;go_wp2_with fail
     refine (M7_ _ hlr (by omega) hr hc EL.out hLc hcb HQ.out).mono ?_;rintro e w3 ⟨rfl,hb3⟩;have S3:=S.call HWB.out hb3;obtain⟨z1,_,_⟩:=S3.cellP hlr hlt HQ.out;clear kb c0 c1 c2 S hb3;have kb:=KB.out.below (S3).bel HB0.out;obtain⟨c0,c1,c2⟩:=c_3 kb;by_cases hz0:F a k=0
     ·rw[hz0]at z1;have HZ:Hid (∀ i,n≤i→i<a+1→F i k=0):=fun i h1 h2=>by
       by_cases e:i=a
       ·subst e;exact hz0
       ·exact hz.out i h1 (by omega)
      clear hz0;go_wp2;go_roundw
      case rel=>exact⟨a+1,by omega,by omega,by go_num,S3,HZ.out⟩
      case measure=>simp[intOf];omega
     ·have hzb:(F a k == 0)=false:=by simpa using hz0
      have hza:=f2Q (f:=F) (k:=k) hna har hz.out (fun _=>hz0);have hnr:n<r:=by omega
      have hane:(a:Int)≠r:=by omega
      have HRS2:=h_ (HRS.out.trans (if_pos (by rw[hza];exact hlr)));have HZA:=h_ hza;clear hz0 hza hz;obtain⟨P,hP⟩:∃ P,P=n*c:=⟨_,rfl⟩;have hrp:=rowP hnr hlt hr hc hP;rw[←EL.out]at hrp;have HPP:=h_ hP;clear hP;go_wp2_with fail
      refine (M7_ _ hnr (by omega) hr hc EL.out hLc hcb HPP.out).mono ?_;rintro e w4 ⟨rfl,hb4⟩;have S4:=S3.call HWB.out hb4;rw[←sw_0 n a F]at S4;clear kb c0 c1 c2 S3 hb4 hgw z1;have kb:=KB.out.below (S4).bel HB0.out;obtain⟨c0,c1,c2⟩:=c_3 kb;go_wp2;clear kb c0 c1 c2;go_loopw [48] (fun i wr=>∃ j:Nat,j≤c∧i = .int .i64 j∧RS W.heap.size w2 (some ⟨g,0,none⟩) r c L cap wr (swJ n a j F) (.slice PA n pc) ps) (fun i _=>c-(intOf i).toNat)
      case atStart=>exact⟨0,l0_ _,rfl,S4⟩
      case round =>
       clear S4;obtain⟨j,hj,rfl,S⟩:=hrel;by_cases hljc:j<c
       ·obtain⟨a1,a2,a3⟩:=rowP hlr hljc hr hc HQ.out;obtain⟨b1,b2,b3⟩:=rowP hnr hljc hr hc HPP.out;rw[←EL.out]at a1 a2 a3 b1 b2 b3;have hst:=c9Z F hnr hlr hljc;rw[←HQ.out,←HPP.out]at hst;have HST:=h_ hst;have hsr:=S.size HWB.out;have hSS:=h_ S;clear hst S;go_wp2;obtain⟨y,hy⟩:∃ y,y=F:=⟨_,rfl⟩;refine y7_ (by kernel_rfl) [.eq (.slice (some ⟨g,P,none⟩) c (cap-P)),.eq (.int .i64 j),.eq (.agg #[.int .i64 r,.int .i64 c,.slice (some ⟨g,0,none⟩) L cap]),.eq (.int .i64 a),.eq (.slice (some ⟨g,Q,none⟩) c (cap-Q)),.eq (.int .i64 j),.eq (.agg #[.int .i64 r,.int .i64 c,.slice (some ⟨g,0,none⟩) L cap]),.eq (.int .i64 a),.eq (.slice (some ⟨g,Q,none⟩) c (cap-Q)),.eq (.int .i64 j),.eq (.pointer (some ⟨g,Q+j,none⟩)),.eq (.int .i64 (F a j)),.eq (.slice (some ⟨g,P,none⟩) c (cap-P)),.eq (.int .i64 j),.eq (.pointer (some ⟨g,P+j,none⟩)),.eq (.int .i64 (F n j)),.eq (.pointer (some ⟨g,P+j,none⟩))] [[],[],[],[],[2,3],[],[],[],[2,3,4,6,7],[],[2,3,4,6,7,8,9],[2,3,4,6,7,8,9,10],[],[],[12,13],[12,13,14],[0,1,2,3,4,6,7,8,9,10,11,12,13,14,15],[0,1,2,3,4,6,7,8,9,10,11,12,13,14,15,16],[0,1,2,3,4,5,6,7,8,9,10,11,12,13,14,15,16,17],[0,1,2,3,4,5,6,7,8,9,10,11,12,13,14,15,16,17,18]] 17 5 [0,1,2,3,4,6,7,8,9,10,11,12,13,14,15,16] (by kernel_rfl) rfl ⟨trivial,trivial,trivial,trivial,trivial,trivial,trivial,trivial,trivial,trivial,trivial,trivial,trivial,trivial,trivial,trivial,trivial,trivial⟩ ⟨?_,?_,?_,?_,?_,?_,?_,?_,?_,?_,?_,?_,?_,?_,?_,?_,?_,trivial⟩ ?_ ?_;iterate 17 (intro x w hb hk Q' hQ;have he:=k_e hk;simp only[k_s]at he;simp only[netE]at hQ⊢;(try simp only[he]at hQ⊢);(try clear he);rotate_left)
        rotate_left 2
        iterate 2 (· clear hk;go_wp2;exact hQ _ _ br_ rfl)
        ·clear hk;have S:=hSS.out.call HWB.out hb;have kb:=KB.out.below (S).bel HB0.out;obtain⟨c0,c1,c2⟩:=c_3 kb;go_wp2;exact hQ _ _ br_ rfl
        ·clear hk;go_wp2;exact hQ _ _ br_ rfl
        ·clear hk;go_wp2_with fail
         refine (M7_ _ hlr (by omega) hr hc EL.out hLc hcb HQ.out).mono ?_;rintro e w5 ⟨rfl,hb5⟩;go_wp2;exact hQ _ _ hb5 rfl
        ·clear hk;go_wp2;exact hQ _ _ br_ rfl
        ·clear hk;have S:=hSS.out.call HWB.out hb;have kb:=KB.out.below (S).bel HB0.out;obtain⟨c0,c1,c2⟩:=c_3 kb;go_wp2;exact hQ _ _ br_ rfl
        ·clear hk;go_wp2;exact hQ _ _ br_ rfl
        ·clear hk;go_wp2_with fail
         refine (M7_ _ hlr (by omega) hr hc EL.out hLc hcb HQ.out).mono ?_;rintro e w5 ⟨rfl,hb5⟩;go_wp2;exact hQ _ _ hb5 rfl
        iterate 2 (· clear hk;go_wp2;exact hQ _ _ br_ rfl)
        ·clear hk;have S:=hSS.out.call HWB.out hb;have z:=(S.cellP hlr hljc HQ.out).1;rw[A7_]at z;go_wp2;exact hQ _ _ br_ rfl
        iterate 3 (· clear hk;go_wp2;exact hQ _ _ br_ rfl)
        ·clear hk;have S:=hSS.out.call HWB.out hb;have z:=(S.cellP hnr hljc HPP.out).1;rw[A7_]at z;go_wp2;exact hQ _ _ br_ rfl
        ·clear hk;go_wp2;exact hQ _ _ br_ rfl
        ·intro x w hb hk hiv hdj;have he:=k_g hk [0,1,2,3,4,5,6,7,8,9,10,11,12,13,14,15,16];simp only[k_s]at he;simp only[netE,he];clear he hk;have S:=hSS.out.call HWB.out hb;have ia:=(S.cellP hlr hljc HQ.out);have ib:=(S.cellP hnr hljc HPP.out);rw[A7_]at ia ib;have S2:=S.put2 hBg (S.size HWB.out) ia.2.1 ib.2.1 HST.out;have S1:=S.put (J:=P+j) (x:=F a j) hBg (S.size HWB.out) ia.2.1 (by rw[HPP.out];exact k8_ _ _ hnr hljc);obtain⟨q1,_,q2⟩:=S1.cellP hlr hljc HQ.out;obtain⟨p1,_,p2⟩:=ib;have HS2:=h_ S2;clear ia S S1 S2 hiv hdj;go_wp2;go_roundw
         case rel=>exact⟨j+1,by omega,by go_num,HS2.out⟩
         case measure=>simp[intOf];omega
        ·intro x w hb hk hiv hdj om os hom hos;simp only[List.getElem?_cons_zero,List.getElem?_cons_succ,Option.some.injEq]at hom hos;subst hom hos;have he:=k_g hk [0,1,2,3,4,6,7,8,9,10,11,12,13,14,15,16];simp only[k_s]at he;simp only[List.foldl_cons,List.foldl_nil,netE,he];clear he hk;have S:=hSS.out.call HWB.out hb;have ia:=(S.cellP hlr hljc HQ.out);have ib:=(S.cellP hnr hljc HPP.out);rw[A7_]at ia ib;have S2:=S.put2 hBg (S.size HWB.out) ia.2.1 ib.2.1 HST.out;have S1:=S.put (J:=P+j) (x:=F a j) hBg (S.size HWB.out) ia.2.1 (by rw[HPP.out];exact k8_ _ _ hnr hljc);obtain⟨q1,_,q2⟩:=S1.cellP hlr hljc HQ.out;obtain⟨p1,_,p2⟩:=ib;have HS2:=h_ S2;clear ia S S1 S2 hiv hdj;go_wp2;go_roundw
         case rel=>exact⟨j+1,by omega,by go_num,HS2.out⟩
         case measure=>simp[intOf];omega
       ·have hjc:j=c:=by omega
        subst hjc;have S:=S.congr (f4x n a r j F);have hin1:=c1Q HIN.out hnr hlr;obtain⟨F1,hF1⟩:=e_ (swA n a F);rw[hF1]at S hin1;obtain⟨x,hx⟩:=e_ (F1 n k);obtain⟨z1,hxI,_⟩:=S.cellP hnr hlt HPP.out;rw[hx]at z1 hxI;obtain⟨s,hs⟩:=e_ (invP p x);have hsr:=f1x (x:=x) hpr;rw[hs]at hsr;have HS:=h_ hs;have HX:=h_ hx;have HXI:=h_ hxI;have HF1:=h_ hF1;have HIN1:=h_ hin1;have hSS:=h_ S;clear hs hx hxI hF1 hin1 S;go_wp2_with fail
        refine (O4_ p x _ HP.out HXI.out).mono ?_;rintro e w5 ⟨rfl,hww⟩;replace hww:=hww.symm;subst hww;rw[HS.out];have S:=hSS.out;rw[←sc_0 p n s F1]at S;go_wp2;clear z1;go_loopw [78] (fun i wr=>∃ j':Nat,j'≤j∧i = .int .i64 j'∧RS W.heap.size w2 (some ⟨g,0,none⟩) r j L cap wr (scJ p n s j' F1) (.slice PA n pc) ps) (fun i _=>j-(intOf i).toNat)
        case atStart=>exact⟨0,l0_ _,rfl,S⟩
        case round =>
         clear S hSS;obtain⟨j',hj',rfl,S⟩:=hrel;by_cases hl4:j'<j
         ·obtain⟨b1,b2,b3⟩:=rowP hnr hl4 hr hc HPP.out;rw[←EL.out]at b1 b2 b3;obtain⟨z1,_,z2⟩:=S.cellP hnr hl4 HPP.out;rw[c8q]at z1;have hi1:=HIN1.out n j' hnr hl4;have hst:=c8z (p:=p) (s:=s) F1 hnr hl4;obtain⟨a4,ha4⟩:=e_ (F1 n j');rw[ha4]at z1 hi1 hst;rw[←HPP.out]at hst;have k0:0≤a4*s:=Int.mul_nonneg hi1.1 hsr.1;have k1:a4*s≤4*4:=Int.mul_le_mul (by omega) hsr.2 hsr.1 (by omega);obtain⟨K,hK⟩:=e_ (a4*s);rw[hK]at k0 k1 hst;have hKw:wrap64 (a4*s)=K:=by rw[hK];exact IntWalk.wrap64_in _ ⟨by omega,by omega⟩
          have ht:K.tmod p=K % p:=Int.tmod_eq_emod_of_nonneg k0;have hr1:=i6_ (x:=K) hpr.1;have S2:=S.put (J:=P+j') (x:=K % p) hBg (S.size HWB.out) (by unfold I64;omega) hst;have HS2:=h_ S2;clear ha4 hK hst S2 S k0 k1 hr1 hi1;go_wp2;go_roundw
          case rel=>exact⟨j'+1,by omega,by go_num,HS2.out⟩
          case measure=>simp[intOf];omega
         ·have hje:j'=j:=by omega
          subst hje;have S:=S.congr (f3J p n r j' s F1);have hin2:=c1J (s:=s) (n:=n) hpr.1 HIN1.out;obtain⟨F2,hF2⟩:=e_ (scA p n s F1);rw[hF2]at S hin2;have hfin:Hid (rdF p r F n k=elA p n k F2):=by
           show _=_;rw[rdF,HZA.out,HF1.out,HX.out,HS.out,hF2]
          have HIN2:=h_ hin2;clear hF2 hin2;rw[←el_0 p n k F2]at S;have kb:=KB.out.below (S).bel HB0.out;obtain⟨c0,c1,c2⟩:=c_3 kb;go_wp2;clear kb c0 c1 c2;go_loopw [95] (fun i wr=>∃ i':Nat,i'≤r∧i = .int .i64 i'∧RS W.heap.size w2 (some ⟨g,0,none⟩) r j' L cap wr (elI p n k i' F2) (.slice PA n pc) ps) (fun i _=>r-(intOf i).toNat)
          case atStart=>exact⟨0,l0_ _,rfl,S⟩
          case round =>
           clear S;obtain⟨i,hi,rfl,S⟩:=hrel;by_cases hl5:i<r
           ·by_cases hin:i=n
            ·subst hin;rw[b9q]at S;go_wp2;go_roundw
             case rel=>exact⟨i+1,by omega,by go_num,S⟩
             case measure=>simp[intOf];omega
            ·have hne:((i:Int) != n)=true:=by rw[bne_iff_ne];omega
             have hine:¬ ((i:Int)=n):=by omega
             obtain⟨R,hR⟩:∃ R,R=i*j':=⟨_,rfl⟩;obtain⟨a1,a2,a3⟩:=rowP hl5 hlt hr hc hR;have hap:=b6j hin hR HPP.out;have HR:=h_ hR;rw[←EL.out]at a1 a2 a3;have hSS:=h_ S;have hr5:=HIN2.out i k hl5 hlt;obtain⟨q,hq⟩:=e_ (F2 i k);rw[hq]at hr5;have HQQ:=h_ hq;have hamel:=i3Q (p:=p) (n:=n) (k:=k) (i:=i) (r:=r) (c:=j') F2 hnr hin;rw[hq,←EL.out,←HR.out,←HPP.out]at hamel;have HAM:=h_ hamel;have HNE:=h_ hin;clear hR hq hamel hin S;go_wp2;refine a9_ (by kernel_rfl) [.eq (.int .i64 p),.eq (.agg #[.int .i64 r,.int .i64 j',.slice (some ⟨g,0,none⟩) L cap]),.eq (.int .i64 i),.eq (.slice (some ⟨g,R,none⟩) j' (cap-R)),.eq (.int .i64 p),.eq (.agg #[.int .i64 r,.int .i64 j',.slice (some ⟨g,0,none⟩) L cap]),.eq (.int .i64 i),.eq (.slice (some ⟨g,R,none⟩) j' (cap-R)),.eq (.int .i64 k),.eq (.pointer (some ⟨g,R+k,none⟩)),.eq (.int .i64 q),.eq (.int .i64 (p-q)),.eq (.slice (some ⟨g,P,none⟩) j' (cap-P))] [[],[],[],[1,2],[],[],[],[1,2,3,5,6],[],[1,2,3,5,6,7,8],[1,2,3,5,6,7,8,9],[1,2,3,4,5,6,7,8,9,10],[],[0,1,2,3,4,5,6,7,8,9,10,11,12]] 13 (by kernel_rfl) ⟨trivial,trivial,trivial,trivial,trivial,trivial,trivial,trivial,trivial,trivial,trivial,trivial,trivial,trivial⟩ ⟨?_,?_,?_,?_,?_,?_,?_,?_,?_,?_,?_,?_,?_,trivial⟩ ?_;iterate 13 (intro x w hb hk Q' hQ;have he:=k_e hk;simp only[k_s]at he;simp only[netE]at hQ⊢;(try simp only[he]at hQ⊢);(try clear he);rotate_left)
             rotate_left
             ·clear hk;go_wp2;exact hQ _ _ br_ rfl
             ·clear hk;have S:=hSS.out.call HWB.out hb;have kb:=KB.out.below (S).bel HB0.out;obtain⟨c0,c1,c2⟩:=c_3 kb;go_wp2;exact hQ _ _ br_ rfl
             ·clear hk;go_wp2;exact hQ _ _ br_ rfl
             ·clear hk;go_wp2_with fail
              refine (M7_ _ hl5 (by omega) hr hc EL.out hLc hcb HR.out).mono ?_;rintro e w5 ⟨rfl,hb5⟩;go_wp2;exact hQ _ _ hb5 rfl
             ·clear hk;go_wp2;exact hQ _ _ br_ rfl
             ·clear hk;have S:=hSS.out.call HWB.out hb;have kb:=KB.out.below (S).bel HB0.out;obtain⟨c0,c1,c2⟩:=c_3 kb;go_wp2;exact hQ _ _ br_ rfl
             ·clear hk;go_wp2;exact hQ _ _ br_ rfl
             ·clear hk;go_wp2_with fail
              refine (M7_ _ hl5 (by omega) hr hc EL.out hLc hcb HR.out).mono ?_;rintro e w5 ⟨rfl,hb5⟩;go_wp2;exact hQ _ _ hb5 rfl
             iterate 2 (· clear hk;go_wp2;exact hQ _ _ br_ rfl)
             ·clear hk;have S:=hSS.out.call HWB.out hb;have z:=(S.cellP hl5 hlt HR.out).1;rw[R8_,HQQ.out]at z;go_wp2;exact hQ _ _ br_ rfl
             iterate 2 (· clear hk;go_wp2;exact hQ _ _ br_ rfl)
             ·intro x w hb hk hiv hdj;have he:=k_g hk [0,1,2,3,4,5,6,7,8,9,10,11,12];simp only[k_s]at he;simp only[netE,he];clear he hk;have S:=hSS.out.call HWB.out hb;have hown:=S.own;rw[c6X,←EL.out]at hown;have hfr:∀ z,z<L→0≤(fun j=>elI p n k i F2 (j / j') (j % j')) z∧(fun j=>elI p n k i F2 (j / j') (j % j')) z≤4:=by
               intro z hz;rw[EL.out]at hz;obtain⟨a,b,ha,hb',rfl⟩:=T5_ hz;simp only[u6_ hb',u7_ hb'];have:=f7X (n:=n) (k:=k) (i:=i) hpr.1 HIN2.out a b ha hb';omega
              have HOW:=h_ hown;have HFR:=h_ hfr;have HS6:=h_ S;clear hown hfr S hiv hdj;go_wp2_with fail
              refine (N8_ p (p-q) g R P j' L cap (cap-R) (cap-P) W.heap.size (fun j=>elI p n k i F2 (j / j') (j % j')) _ hpr (by omega) HOW.out a2 hrp.2.1 hap (by omega) (by omega) (by omega) HFR.out).mono ?_;rintro e w6 ⟨rfl,ho6,hg6⟩;rw[HAM.out]at ho6;have S7:=HS6.out.turn hBg (HS6.out.size HWB.out) ho6 hg6;clear ho6 hg6;go_wp2;go_roundw
              case rel=>exact⟨i+1,by omega,by go_num,S7⟩
              case measure=>simp[intOf];omega
           ·have hir:i=r:=by omega
            subst hir;have S:=S.congr (f0Z p n k i j' F2);rw[←hfin.out]at S;have hS8:=S.call HWB.out (a0_ wr (.cells #[.int .i64 k] 3));have hsz8:=hS8.size HWB.out;have HS8:=h_ hS8;clear S hS8
            (go_wp2_with (at_builtin;refine Hold.stop ?_));unfold Hold
            refine d7_ rfl (.tmp 117) (.tmp 119) rfl W.heap.size _ (.slice PA n pc) ps rfl HS8.out.ownP.1 _ _ _ [(k:Int)] rfl rfl (SlI.one wr _ k ⟨by omega,by omega⟩) (by rw[HN.out];simp;omega) hsz8 ?_;intro v9 w9 ho9 hg9 hv9;have S9:=HS8.out.app hsz8 ho9 hg9 hv9;clear ho9 hg9 hv9;go_wp2;go_roundw
            case rel=>exact⟨k+1,by omega,by go_num,by rw[HRS2.out];exact S9⟩
            case measure=>simp[intOf];omega
    ·have hae:a=r:=by omega
     have HRS2:=h_ (HRS.out.trans (if_neg (by rw[f2Q (f:=F) (k:=k) hna har hz.out (fun h=>absurd h hlr)];exact hlr)));subst hae;clear hz;go_wp2;go_roundw
     case rel=>exact⟨k+1,by omega,by go_num,by rw[HRS2.out];exact S⟩
     case measure=>simp[intOf];omega
  ·have hkc:k=c:=by omega
   have HKC:=h_ hkc;have sz:=SZ.out;have sB:=S.size HWB.out;have k4:=KB.out.below S.bel HB0.out;have k3':=KR.out.below S.bel (by omega);obtain⟨z0,z1,z2⟩:=c_3 k4;obtain⟨p0,p1,p2⟩:=c_3 k3';have f2:=k3'.frozen;have h2:=chg3 wr (w0.heap.size+1) (.int .i64 (r:Int)) (.int .i64 c) (.slice A L cap);have gw:Below w0.heap.size w0 wr:=(G2.out).trans (S.bel.mono (by omega));have gs:=gw.size;have hfl:=HL.out;have oA:a8_ wr W.heap.size wr.heap.size (.slice A L cap) (flat r c F):=S.fam.1 (_,flat r c F) (by simp);have oA2:=(oA.chg h2 (.inr (by omega))).wider (lo':=w0.heap.size) (hi':=wr.heap.size) (by omega) (l_ _);have oP2:=(S.ownP.chg h2 (.inr (by omega))).wider (lo':=w0.heap.size) (hi':=wr.heap.size) (by omega) (l_ _);have fg:=gw.trans (h2.below (by omega) gs);have OA2:=h_ oA2;have OP2:=h_ oP2;have FG:=h_ fg;clear oA oA2 oP2 fg gw h2 k3' k4 S hkc hfl;go_wp2;refine bodyPost_ret (v:=.tuple #[.agg #[.int .i64 (r:Int),.int .i64 c,.slice A L cap],.slice PA n pc]) (by simp[results,go_sem,p0,p1,p2]) rfl ⟨_,_,rfl,?_,?_,FG.out⟩
   ·refine⟨_,rfl,?_,by simp only[I64];omega,by simp only[I64];omega⟩;have e:flat r c (rdTo p r f c).1=flat r c F:=by rw[←HFF.out,HKC.out]
    rw[e];exact (OA2.out).wider (l_ _) (by simp)
   ·have e:(rdTo p r f c).2=ps:=by rw[←HPS.out,HKC.out]
    rw[e];exact (OP2.out).wider (l_ _) (by simp)
def rkF (p:Int) (r c:Nat) (f:Nat→Nat→Int):Nat:=(rdTo p r f c).2.length
theorem r5_ (p:Int) (r c:Nat) (f:Nat→Nat→Int):rkF p r c f≤r∧rkF p r c f≤c:=n1_ p r f c
theorem v5_ (p:Int) (u:Value) (r c:Nat) (f:Nat→Nat→Int) (w0:World) (hp:c8_ p=true) (hr:r≤1000) (hc:c≤1000) (hu:MxR w0 w0.heap.size u (mxF r c f)) (hf:InF p r c f) :
  Calls Tryz.prog 39 #[.int .i64 p,u] w0 fun e w'=>e = .returned (.int .i64 (rkF p r c f:Int))∧Below w0.heap.size w0 w':=by
 have hu':=hu;obtain⟨UA,uc,rfl⟩:=hu.form;simp only[mxF]at hu hu'⊢;rw[a1_]at hu hu'⊢;obtain⟨UL,hUL⟩:=e_ (r*c);rw[hUL]at hu hu'⊢;clear hUL hu;obtain⟨W,hW,g0,kB⟩:=b_3 w0 #[.int .i64 r,.int .i64 c,.slice UA UL uc] 65;have HU:=h_ (MxR.next g0 hu');have HF:=h_ hf;have HP:=h_ hp;obtain⟨c0,c1,c2⟩:=c_3 kB;clear hu' hf hp kB;go_enter Tryz.func39,Tryz.ntmps39
 go_wp2_with fail
 rw[←hW];clear hW;refine (y5_ p _ r c f _ HP.out hr hc HU.out HF.out).mono ?_;rintro e w1 ⟨m,v,rfl,hM,hI,hb1⟩;obtain⟨MA,mc,em⟩:=hM.form;obtain⟨PA,pc,ev⟩:=hI.form;subst em ev;have g1:=b0_ g0 hb1;simp only[mxF];obtain⟨rk,hrk⟩:=e_ (rkF p r c f);have hrk2:=hrk;unfold rkF at hrk2;rw[hrk2];have HRK:=h_ hrk;clear hM hI hb1 g0 c0 c1 c2 hrk hrk2;go_wp2;go_ret
 exact⟨by rw[HRK.out];rfl,g1.alloc g1.size _⟩
end Go.Proofs.YtbgccbmdiolhbaaGreat

