/- FnBars: the law holds for every argument. Part 3 of 16 of the proof: Bars, BarsK, BarsM, CmpB, AreB, Fmt, FmtB, FmtB2, FmtB3. No condition. -/
import Derived.Test.YtbgccbmdiolhbaaGreatBBars2
import Derived.Lib.SlBytesRow
import Derived.Laws.Closers25
import Derived.Ground.NamesProg
import Derived.Ground.Names2Prog
import Derived.Shelf.Lay
import Derived.Shelf.Strings.OnBuilder
set_option linter.unusedVariables false
set_option linter.unusedSimpArgs false
set_option maxHeartbeats 12800000
set_option maxRecDepth 100000
namespace Go.Proofs.YtbgccbmdiolhbaaGreat
open Go.RowKit
theorem b7q (x y z x' y' z':Int) (b:Bool) (hb:decide ((x,y,z)=(x',y',z'))=b) (w:World):(binOp .neq 44 (.agg #[.int .i64 x,.int .i64 y,.int .i64 z]) (.agg #[.int .i64 x',.int .i64 y',.int .i64 z'])).run Tryz.prog w = .ok (.bool !b) w:=by
 subst hb
 go_simp
 by_cases h1:x=x' <;> by_cases h2:y=y' <;> by_cases h3:z=z' <;> simp[h1,h2,h3]
theorem O8_ (u v:Value) (xs ys:List Bar) (w:World) (hu:SlB w w.heap.size u xs) (hv:SlB w w.heap.size v ys) :
  Calls Tryz.prog 72 #[u,v] w fun e w'=>e = .returned (.bool (decide (xs=ys)))∧Below w.heap.size w w':=by
 obtain⟨A,c,rfl,_,_,hn,hx⟩:=hu.open_;obtain⟨C,d,rfl,_,_,hm,hy⟩:=hv.open_;clear hu hv;by_cases hnm:xs.length=ys.length
 ·have heq:((xs.length:Int) != ys.length)=false:=by rw[bne_eq_false_iff_eq];omega
  have HN:=h_ hnm;clear hnm;go_enter Tryz.func72,Tryz.ntmps72
  go_wp2;go_loopw [5,13] (fun _ i wr=>∃ k q:Nat,k≤xs.length∧i = .int .i64 k∧wr=w.drewN q∧Hid (xs.take k=ys.take k)) (fun _ i _=>xs.length-(intOf i).toNat)
  case atStart=>exact⟨0,0,l0_ _,rfl,rfl,rfl⟩
  case round =>
   obtain⟨k,q,hk,rfl,rfl,hxy⟩:=hrel;by_cases hlt:k<xs.length
   ·have hlt':k<ys.length:=by have:=HN.out;omega
    obtain⟨b,o,x,y,z,rfl,hb,HX,c1,c2,c3,_⟩:=SlB.at_ hx hlt;obtain⟨b',o',x',y',z',rfl,hb',HX',c1',c2',c3',_⟩:=SlB.at_ hy hlt';clear hx hy;obtain⟨B,hB⟩:=e_ (decide ((x,y,z)=(x',y',z')));have hne:=b7q x y z x' y' z' B hB;have HB:=h_ hB;clear hB;cases B
    ·go_wp2;go_quiet (fail)
     go_wp2;go_ret
     have hxy':xs≠ys:=by
      rintro rfl;have h1:=HB.out;have h2:=HX.out;rw[HX'.out]at h2;exact of_decide_eq_false h1 (by injection h2 with h2;exact h2.symm)
     exact⟨by rw[decide_eq_false hxy'];rfl,d2_ (d5_ _ _ _) _⟩
    ·go_wp2;go_quiet (fail)
     go_wp2;go_roundw
     case rel =>
      refine⟨k+1,q+nq,by omega,by go_num,rfl,?_⟩;show _=_;rw[c6_ HX.out,c6_ HX'.out,hxy.out,of_decide_eq_true HB.out]
     case measure=>simp[intOf];omega
   ·go_wp2;go_ret
    refine⟨?_,d5_ _ _ _⟩;have h1:=hxy.out;rw[l7_ (by omega),l7_ (by have:=HN.out;omega)]at h1;simp[h1]
 ·have hne:((xs.length:Int) != ys.length)=true:=by rw[bne_iff_ne];omega
  go_enter Tryz.func72,Tryz.ntmps72
  go_wp2;go_ret
  refine⟨?_,Below.refl _ _⟩;rw[decide_eq_false (by rintro rfl;omega)];rfl
theorem E1_ (u v:Value) (xs ys:List Bar) (w:World) (hu:SlB w w.heap.size u xs) (hv:SlB w w.heap.size v ys) :
  Calls Tryz.prog 29 #[u,v] w fun e w'=>e = .returned (.bool (decide (xs=ys)))∧Below w.heap.size w w':=by
 go_enter Tryz.func29,Tryz.ntmps29
 go_wp2_with (go_at_call 72;refine (O8_ _ _ _ _ _ hu hv).mono ?_;rintro e w' ⟨rfl,hb⟩)
 go_ret
 exact⟨rfl,hb⟩
theorem n8_ (u v:Value) (xs ys:List Bar) (w:World) (hu:SlB w w.heap.size u xs) (hv:SlB w w.heap.size v ys) :
  Calls Tryz.prog 10 #[u,v] w fun e w'=>e = .returned (.bool (decide (xs=ys)))∧Below w.heap.size w w':=by
 obtain⟨A,c,rfl,_,_,hn,hx⟩:=hu.open_;obtain⟨C,d,rfl,_,_,hm,hy⟩:=hv.open_;clear hu hv;by_cases hnm:xs.length=ys.length
 ·have heq:((xs.length:Int) != ys.length)=false:=by rw[bne_eq_false_iff_eq];omega
  have HN:=h_ hnm;clear hnm;go_enter Tryz.func10,Tryz.ntmps10
  go_wp2;go_loopw [5] (fun i wr=>∃ k q:Nat,k≤xs.length∧i = .int .i64 k∧wr=w.drewN q∧Hid (xs.take k=ys.take k)) (fun i _=>xs.length-(intOf i).toNat)
  case atStart=>exact⟨0,0,l0_ _,rfl,rfl,rfl⟩
  case round =>
   obtain⟨k,q,hk,rfl,rfl,hxy⟩:=hrel;by_cases hlt:k<xs.length
   ·have hlt':k<ys.length:=by have:=HN.out;omega
    obtain⟨b,o,x,y,z,rfl,hb,HX,c1,c2,c3,_⟩:=SlB.at_ hx hlt;obtain⟨b',o',x',y',z',rfl,hb',HX',c1',c2',c3',_⟩:=SlB.at_ hy hlt';clear hx hy;obtain⟨B,hB⟩:=e_ (decide ((x,y,z)=(x',y',z')));have hne:=b7q x y z x' y' z' B hB;have HB:=h_ hB;clear hB;cases B
    ·go_wp2;go_quiet (fail)
     go_wp2;go_ret
     have hxy':xs≠ys:=by
      rintro rfl;have h1:=HB.out;have h2:=HX.out;rw[HX'.out]at h2;exact of_decide_eq_false h1 (by injection h2 with h2;exact h2.symm)
     exact⟨by rw[decide_eq_false hxy'];rfl,d2_ (d5_ _ _ _) _⟩
    ·go_wp2;go_quiet (fail)
     go_wp2;go_roundw
     case rel =>
      refine⟨k+1,q+nq,by omega,by go_num,rfl,?_⟩;show _=_;rw[c6_ HX.out,c6_ HX'.out,hxy.out,of_decide_eq_true HB.out]
     case measure=>simp[intOf];omega
   ·go_wp2;go_ret
    refine⟨?_,d5_ _ _ _⟩;have h1:=hxy.out;rw[l7_ (by omega),l7_ (by have:=HN.out;omega)]at h1;simp[h1]
 ·have hne:((xs.length:Int) != ys.length)=true:=by rw[bne_iff_ne];omega
  go_enter Tryz.func10,Tryz.ntmps10
  go_wp2;go_ret
  refine⟨?_,Below.refl _ _⟩;rw[decide_eq_false (by rintro rfl;omega)];rfl
theorem c1X:(Tryz.prog.info? 44).map (fun i=>(i.zero,i.size,i.bytes))=some (some (.agg #[.int .i64 0,.int .i64 0,.int .i64 0]),3,24):=by kernel_rfl
def a1x (cs:Array Value) (xs:List Bar) (k:Nat):Prop :=
 cs.size=xs.length*3∧∀ j x,j<k→xs[j]?=some x→cs[j*3]?=some (.int .i64 x.1)∧cs[j*3+1]?=some (.int .i64 x.2.1)∧cs[j*3+2]?=some (.int .i64 x.2.2)
theorem a1x.step {cs:Array Value} {xs:List Bar} {k:Nat} {x y z:Int} (h:a1x cs xs k) (hx:xs[k]?=some (x,y,z)) :
  a1x (((cs.setIfInBounds (k*3) (.int .i64 x)).setIfInBounds (k*3+1) (.int .i64 y)).setIfInBounds (k*3+2) (.int .i64 z)) xs (k+1):=by
 obtain⟨hs,h⟩:=h;have hk:=a6_ hx;refine⟨by simpa using hs,fun j u hj hu=>?_⟩;by_cases e:j=k
 ·subst e;rw[hx]at hu;injection hu with hu
  subst hu;refine⟨?_,?_,?_⟩ <;> simp[Array.getElem?_setIfInBounds] <;> omega
 ·obtain⟨a,b,c⟩:=h j u (by omega) hu;refine⟨?_,?_,?_⟩ <;> simp only[Array.getElem?_setIfInBounds] <;> (repeat rw[if_neg (by omega)]) <;> assumption
theorem a1x.sl {cs:Array Value} {xs:List Bar} {w w':World} {g B:Nat} {u:Value} (h:a1x cs xs xs.length) (hb:Blk w' g 44 cs) (hx:SlB w B u xs) (hn:xs.length≤9223372036854775807) :
  SlB w' w'.heap.size (.slice (some ⟨g,0,none⟩) xs.length xs.length) xs:=by
 obtain⟨_,_,_,_,_,hn',h4⟩:=hx;refine⟨_,_,rfl,l_ _,hn,hn',fun hp=>⟨g,0,rfl,hb.lt,fun j x hj=>?_⟩⟩;obtain⟨_,_,_,_,hr⟩:=h4 hp;obtain⟨a,b,c⟩:=h.2 j x (a6_ hj) hj;exact⟨⟨by rw[hb.cell];simpa using a,by rw[hb.cell];simpa using b,by rw[hb.cell];simpa using c⟩,(hr j x hj).2⟩
def r1_:List Bar→List Value
 | x :: xs => .int .i64 x.1 :: .int .i64 x.2.1 :: .int .i64 x.2.2 :: r1_ xs
 | []=>[]
theorem m5_:∀ xs:List Bar,(r1_ xs).length=xs.length*3
 | []=>rfl
 | x :: xs=>by simp only[r1_,List.length_cons,m5_ xs];omega
theorem B0_:∀ {xs:List Bar} {j:Nat} {x:Bar},xs[j]?=some x→(r1_ xs)[j*3]?=some (.int .i64 x.1)∧(r1_ xs)[j*3+1]?=some (.int .i64 x.2.1)∧(r1_ xs)[j*3+2]?=some (.int .i64 x.2.2)
 | [],_,_,h=>by simp at h
 | x :: xs,0,_,h=>by
  simp at h;subst h;simp[r1_]
 | x :: xs,j+1,y,h=>by
  simp only[List.getElem?_cons_succ]at h;obtain⟨a,b,c⟩:=B0_ h;simp only[r1_,show (j+1)*3=j*3+1+1+1 by omega,show j*3+1+1+1+1=(j*3+1)+1+1+1 by omega,show j*3+1+1+1+2=(j*3+2)+1+1+1 by omega,List.getElem?_cons_succ];exact⟨a,b,c⟩
theorem F8_:∀ xs ys:List Bar,r1_ (xs ++ ys)=r1_ xs ++ r1_ ys
 | [],_=>rfl
 | x :: xs,ys=>by simp only[List.cons_append,r1_,F8_ xs ys]
theorem B1_:∀ xs:List Bar,∀ u∈r1_ xs,u.oneCell'=true
 | [],u,hu=>by simp[r1_]at hu
 | x :: xs,u,hu=>by
  simp only[r1_,List.mem_cons]at hu;rcases hu with rfl | rfl | rfl | hu
  ·rfl
  ·rfl
  ·rfl
  ·exact B1_ xs u hu
def IBar (x:Bar):Prop:=I64 x.1∧I64 x.2.1∧I64 x.2.2
def g5_ (w:World) (lo hi:Nat) (v:Value) (xs:List Bar):Prop:=RowO 44 3 w lo hi v xs.length (r1_ xs)∧∀ x∈xs,IBar x
theorem g5_.rd {w:World} {lo hi:Nat} {v:Value} {xs:List Bar} (h:g5_ w lo hi v xs):SlB w w.heap.size v xs:=by
 obtain⟨⟨h1,h2,h3⟩,hi⟩:=h;rcases h1.2 with ⟨rfl,h0⟩ | ⟨g,cap,cur,rfl,_,hg,hnc,hcm,hcs,htake⟩
 ·obtain rfl:xs=[]:=m1_ (by omega);exact SlG.nil
 ·refine⟨_,_,rfl,hnc,by simp only[maxLen]at hcm;omega,h3,fun hp=>⟨g,0,rfl,(Array.getElem?_eq_some_iff.1 hg).1,fun j x hj=>?_⟩⟩;have hjl:=a6_ hj;have hl:=m5_ xs;obtain⟨a,b,c⟩:=B0_ hj;have c0:=h1.cellAt (j*3) (by omega);have c1:=h1.cellAt (j*3+1) (by omega);have c2:=h1.cellAt (j*3+2) (by omega);obtain⟨i1,i2,i3⟩:=hi x (l4_ hj);exact⟨⟨by rw[Nat.zero_add,c0];exact a,by rw[Nat.zero_add,c1];exact b,by rw[Nat.zero_add,c2];exact c⟩,i1,i2,i3⟩
theorem g5_.chg {w w':World} {lo hi lo' hi':Nat} {v:Value} {xs:List Bar} (h:g5_ w lo hi v xs) (hc:Chg lo' hi' w w') (hd:hi≤lo'∨hi'≤lo):g5_ w' lo hi v xs:=⟨h.1.chg hc hd,h.2⟩
theorem g5_.below {w w':World} {lo hi:Nat} {v:Value} {xs:List Bar} (h:g5_ w lo hi v xs) (hb:Below w.heap.size w w'):g5_ w' lo hi v xs:=⟨h.1.below hb,h.2⟩
theorem g5_.wider {w:World} {lo hi lo' hi':Nat} {v:Value} {xs:List Bar} (h:g5_ w lo hi v xs) (h1:lo'≤lo) (h2:hi≤hi'):g5_ w lo' hi' v xs:=⟨h.1.mono h1 h2,h.2⟩
theorem g5_.form {w:World} {lo hi:Nat} {v:Value} {xs:List Bar} (h:g5_ w lo hi v xs):∃ A c,v = .slice A xs.length c∧xs.length≤c∧c≤9223372036854775807:=h.1.form
theorem g5_.nil (w:World) (lo hi:Nat):g5_ w lo hi (.slice none 0 0) []:=⟨RowO.nil _ w lo hi,by simp⟩
theorem SlB.ib {w:World} {B:Nat} {v:Value} {xs:List Bar} (h:SlB w B v xs):∀ x∈xs,IBar x:=by
 obtain⟨A,c,_,_,_,_,h4⟩:=h;intro x hx;obtain⟨j,hj⟩:=List.getElem?_of_mem hx;obtain⟨_,_,_,_,hr⟩:=h4 (by have:=a6_ hj;omega);exact (hr j x hj).2
theorem SlB.chg {w w':World} {B lo hi:Nat} {v:Value} {xs:List Bar} (h:SlB w B v xs) (hc:Chg lo hi w w') (hB:B≤lo) (hs:B≤w.heap.size):SlB w' B v xs:=SlB.below (hc.below hB hs) h
theorem a1x.list {cs:Array Value} {xs:List Bar} (h:a1x cs xs xs.length):cs.toList=r1_ xs:=by
 have hl:=m5_ xs;apply List.ext_getElem?
 intro i;by_cases hi:i<xs.length*3
 ·obtain⟨j,r,hr,rfl⟩:∃ j r,r<3∧i=j*3+r:=⟨i / 3,i % 3,Nat.mod_lt _ (by omega),by omega⟩;have hj:j<xs.length:=by omega
  obtain⟨a,b,c⟩:=h.2 j _ hj (l2_ hj);obtain⟨a',b',c'⟩:=B0_ (l2_ hj);rw[Array.getElem?_toList]
  match r,hr with
  | 0,_=>rw[Nat.add_zero,a,a']
  | 1,_=>rw[b,b']
  | 2,_=>rw[c,c']
 ·rw[l6_ (by have:=h.1;simp;omega),l6_ (by omega)]
theorem d2q {w:World} {lo hi:Nat} {p:Addr} {u:Value} (h1:lo≤p.block) (h2:p.block<hi):Chg lo hi w (w.setCell p u) :=
 ⟨rfl,rfl,rfl,by simp[World.setCell],fun k _ hne=>Below.heap_setCell _ _ _ _ (by omega)⟩
def g5_.mk (k:Int) (l:List Bar):List Bar:=(List.range l.length).map fun i:Nat=>(k+3*i,k+3*i+1,k+3*i+1+1)
theorem N3_ {w:World} {ops:Array Oper} {rest:List Oper} {o:Oper} {a:Act} {Q:Exit→Act→World→Prop} (hgd:o.guard=none) (s x:Operand)
  (ho:o.op = .call { callee:=.builtin .append,args:=#[s,x],argTypes:=#[31,31] })
  (lo hi:Nat) (v:Value) (l:List Bar) (hs:a.eval s=v) (hown:g5_ w lo hi v l) (g c:Nat) (b:Bar) (hx:a.eval x = .slice (some ⟨g,0,none⟩) 1 c) (hg:Blk w g 44 #[.int .i64 b.1,.int .i64 b.2.1,.int .i64 b.2.2]) (hb:IBar b)
  (hn:l.length≤1000000) (hlo:lo≤w.heap.size)
  (h:∀ v' w',g5_ w' lo w'.heap.size v' (l ++ [b])→Below lo w w'→w.grownBy w' v.ownBlock→wpList Tryz.prog ops Q rest (a.put o.dst v') w'):wpList Tryz.prog ops Q (o :: rest) a w:=by
 obtain⟨i0,hi',hz0,hz1,hz2⟩:=info_parts c1X;refine f1_ w hgd s x _ ho lo 44 i0 _ 3 24 Tryz.underlying31 hi' hz0 hz1 hz2 rfl (by decide) v l.length _ hs hown.1.1 _ 1 c [.int .i64 b.1,.int .i64 b.2.1,.int .i64 b.2.2] hx ⟨rfl,.inr ⟨g,0,rfl,fun j y hj=>?_⟩⟩ ?_ (by simp only[maxLen];omega) (by omega) hlo fun v' w' h1 h2 h3=>?_
 ·have hj3:=a6_ hj;simp only[List.length_cons,List.length_nil]at hj3;rw[Nat.zero_add]
  match j,hj with
  | 0,hj=>rw[hg.cell];exact hj
  | 1,hj=>rw[hg.cell];exact hj
  | 2,hj=>rw[hg.cell];exact hj
  | j+3,hj=>omega
 ·intro y hy;simp only[List.mem_cons,List.not_mem_nil,or_false]at hy;rcases hy with rfl | rfl | rfl <;> rfl
 ·refine h v' w' ⟨⟨?_,fun k hk=>(h1.lt k hk).2,by simp;omega⟩,fun y hy=>?_⟩ (c9_ h2 (fun k hk=>(hown.1.1.lt k hk).1) hlo) h2
  ·rw[F8_,List.length_append];exact h1
  ·rcases List.mem_append.1 hy with hy | hy
   ·exact hown.2 y hy
   ·rw[List.mem_singleton]at hy;subst hy;exact hb
theorem g5_.made0 (w:World) {lo:Nat} (h:lo≤w.heap.size):g5_ (w.alloc (.cells #[] 44)) lo (w.alloc (.cells #[] 44)).heap.size (.slice (some ⟨w.heap.size,0,none⟩) 0 0) [] :=
 ⟨⟨World.ownsRow_made w #[] 0 h (by simp[maxLen]) (by simp),by simp[Value.ownBlock],by simp⟩,by simp⟩
def cmpI (a b:Int):Int:=if a<b then -1 else if b<a then 1 else 0
def cmpB (x y:Bar):Int:=if cmpI x.1 y.1=0 then cmpI x.2.1 y.2.1 else cmpI x.1 y.1
theorem f0J {a b:Int}:cmpI a b=0↔a=b:=by
 unfold cmpI;constructor
 ·intro h;split at h
  ·omega
  ·split at h <;> omega
 ·rintro rfl;rw[if_neg (by omega),if_neg (by omega)]
theorem a6X {a b:Int}:cmpI a b<0↔a<b:=by
 unfold cmpI;split
 ·constructor <;> omega
 ·split <;> constructor <;> omega
theorem b8J (a b:Int):-1≤cmpI a b∧cmpI a b≤1:=by
 unfold cmpI;split
 ·omega
 ·split <;> omega
theorem J3_ {x y:Bar}:cmpB x y<0↔x.1<y.1∨x.1=y.1∧x.2.1<y.2.1:=by
 unfold cmpB;split
 ·rename_i h
  rw[f0J]at h;rw[a6X];omega
 ·rename_i h
  rw[f0J]at h;rw[a6X];omega
theorem g5X (x y:Bar):-1≤cmpB x y∧cmpB x y≤1:=by unfold cmpB;split <;> exact b8J _ _
theorem c2J (a:Int) (w:World):Calls Tryz.prog 138 #[.int .i64 a] w fun e w'=>e = .returned (.bool false)∧w=w':=by
 have h:(a != a)=false:=by simp
 go_enter Tryz.func138,Tryz.ntmps138
 go_wp2;go_ret
 exact⟨rfl,rfl⟩
theorem K3_ (a b:Int) (w:World):Calls Tryz.prog 108 #[.int .i64 a,.int .i64 b] w fun e w'=>e = .returned (.int .i64 (cmpI a b))∧w=w':=by
 go_enter Tryz.func108,Tryz.ntmps108
 go_wp2_with (go_at_call 138;refine (c2J _ _).mono ?_;rintro e w' ⟨rfl,rfl⟩)
 all_goals go_ret
 all_goals (unfold cmpI;refine⟨?_,rfl⟩)
 all_goals (repeat (first | rw[if_pos (by omega)] | rw[if_neg (by omega)]))
 all_goals rfl
def orI:List Int→Int
 | []=>0
 | x :: xs=>if x=0 then orI xs else x
theorem b1q {l:List Int} {k:Nat} (h:∀ j,j<k→l.getD j 0=0):orI l=orI (l.drop k):=by
 induction k generalizing l with
 | zero=>rfl
 | succ k ih =>
  match l with
  | []=>rfl
  | x :: xs =>
   have h0:=h 0 (by omega);simp at h0;subst h0;simp only[orI,if_true,List.drop_succ_cons];exact ih fun j hj=>by have:=h (j+1) (by omega);simpa using this
theorem i1q (v:Value) (l:List Int) (w:World) (hv:SlI w w.heap.size v l):Calls Tryz.prog 107 #[v] w fun e w'=>e = .returned (.int .i64 (orI l))∧w=w':=by
 obtain⟨A,c,rfl,_,_,hn,hx⟩:=hv.open_;clear hv;go_enter Tryz.func107,Tryz.ntmps107
 go_wp2
 go_loop [8] (fun i=>∃ k:Nat,k≤l.length∧i = .int .i64 k∧Hid (∀ j,j<k→l.getD j 0=0)) (fun i=>l.length-(intOf i).toNat)
 case atStart=>exact⟨0,l0_ _,rfl,fun j h=>absurd h (by omega)⟩
 case round =>
  obtain⟨k,hk,rfl,hz⟩:=hrel;by_cases hlt:k<l.length
  ·obtain⟨b,o,x,rfl,hb,HX,c1,_⟩:=SlI.at_ hx hlt;clear hx;by_cases hE:x=0
   ·subst hE;go_wp2;go_round
    case rel =>
     refine⟨k+1,by omega,by go_num,fun j hj=>?_⟩;by_cases e:j=k
     ·subst e;rw[l1_,HX.out];rfl
     ·exact hz.out j (by omega)
    case measure=>simp[intOf];omega
   ·have hne:(x != 0)=true:=by simpa using hE
    have HO:=h_ (show orI l=x by
     rw[b1q hz.out,List.drop_eq_getElem_cons hlt];have:=HX.out;rw[l2_ hlt]at this;injection this with this
     rw[this];simp[orI,hE])
    clear hE;go_wp2;go_ret
    exact⟨by rw[HO.out];rfl,rfl⟩
  ·have HO:=h_ (show orI l=0 by rw[b1q hz.out,List.drop_of_length_le (by omega)];rfl);go_wp2;go_ret
   exact⟨by rw[HO.out];rfl,rfl⟩
theorem g2z (x y:Bar):orI [cmpI x.1 y.1,cmpI x.2.1 y.2.1]=cmpB x y:=by
 unfold cmpB;simp only[orI];split
 ·split
  ·rename_i h;exact h.symm
  ·rfl
 ·rfl
theorem K2_ (p q r s1 s2 s3:Int) (w0:World) :
  Calls Tryz.prog 62 #[.agg #[.int .i64 p,.int .i64 q,.int .i64 r],.agg #[.int .i64 s1,.int .i64 s2,.int .i64 s3]] w0 fun e w'=>e = .returned (.int .i64 (cmpB (p,q,r) (s1,s2,s3)))∧Below w0.heap.size w0 w':=by
 obtain⟨W,hW,g0,k1,k2⟩:=b_4 w0 #[.int .i64 p,.int .i64 q,.int .i64 r] 44 #[.int .i64 s1,.int .i64 s2,.int .i64 s3] 44;have hor:=g2z (p,q,r) (s1,s2,s3);simp only at hor;rw[←hor];clear hor;obtain⟨a,ha⟩:=e_ (cmpI p s1);obtain⟨b,hb0⟩:=e_ (cmpI q s2);have hra:=b8J p s1;have hrb:=b8J q s2;rw[ha]at hra;rw[hb0]at hrb;rw[ha,hb0];have HA:=h_ ha;have HB:=h_ hb0;clear ha hb0;go_enter Tryz.func62,Tryz.ntmps62
 go_wp2;rw[←hW];clear hW;refine a9_ (by kernel_rfl) [.eq (.pointer (some ⟨w0.heap.size,0,none⟩)),.eq (.int .i64 p),.eq (.pointer (some ⟨w0.heap.size+1,0,none⟩)),.eq (.int .i64 s1),.eq (.int .i64 a),.eq (.pointer (some ⟨w0.heap.size,1,none⟩)),.eq (.int .i64 q),.eq (.pointer (some ⟨w0.heap.size+1,1,none⟩)),.eq (.int .i64 s2),.eq (.int .i64 b),rel 10 (fun u lo hi w=>∃ g,u = .slice (some ⟨g,0,none⟩) 2 2∧Blk w g 3 #[.int .i64 a,.int .i64 b]),.eq (.int .i64 (orI [a,b]))] [[],[0],[],[2],[0,1,2,3],[],[5],[],[7],[0,1,2,3,4,5,6,7,8],[0,1,2,3,4,5,6,7,8,9],[0,1,2,3,4,5,6,7,8,9,10],[0,1,2,3,4,5,6,7,8,9,10,11]] 12 (by kernel_rfl) ⟨trivial,trivial,trivial,trivial,trivial,trivial,trivial,trivial,trivial,trivial,a7_ (fun u lo hi w w' ⟨g,e,h⟩ hb=>⟨g,e,h.call hb⟩),trivial,trivial⟩ ⟨?_,?_,?_,?_,?_,?_,?_,?_,?_,?_,?_,?_,trivial⟩ ?_;iterate 12 (intro x w hb hk Q' hQ;have he:=k_e hk;simp only[k_s]at he;simp only[netE]at hQ⊢;(try simp only[he]at hQ⊢);(try clear he);rotate_left)
 rotate_left
 ·clear hk;go_wp2;exact hQ _ _ br_ rfl
 ·clear hk;have q0:=(k1.call hb).cell' (i:=0) rfl;go_wp2;exact hQ _ _ br_ rfl
 ·clear hk;go_wp2;exact hQ _ _ br_ rfl
 ·clear hk;have q0:=(k2.call hb).cell' (i:=0) rfl;go_wp2;exact hQ _ _ br_ rfl
 ·clear hk;go_wp2_with fail
  refine (K3_ _ _ _).mono ?_;rintro e w1 ⟨rfl,rfl⟩;rw[HA.out];go_wp2;exact hQ _ _ br_ rfl
 ·clear hk;go_wp2;exact hQ _ _ br_ rfl
 ·clear hk;have q0:=(k1.call hb).cell' (i:=1) rfl;go_wp2;exact hQ _ _ br_ rfl
 ·clear hk;go_wp2;exact hQ _ _ br_ rfl
 ·clear hk;have q0:=(k2.call hb).cell' (i:=1) rfl;go_wp2;exact hQ _ _ br_ rfl
 ·clear hk;go_wp2_with fail
  refine (K3_ _ _ _).mono ?_;rintro e w1 ⟨rfl,rfl⟩;rw[HB.out];go_wp2;exact hQ _ _ br_ rfl
 ·clear hk;go_wp2;exact hQ _ _ (a0_ _ _) ⟨_,rfl,Blk.new _ _ _⟩
 ·have h10:∃ g,(x.v 10) = .slice (some ⟨g,0,none⟩) 2 2∧Blk w g 3 #[.int .i64 a,.int .i64 b]:=(hk 10 (by decide)).1;clear hk;obtain⟨g,e1,hk⟩:=h10;rw[e1]at hQ⊢;have hsl:SlI w w.heap.size (.slice (some ⟨g,0,none⟩) 2 2) [a,b]:=by
   refine⟨_,2,rfl,by simp,by omega,by simp,fun _=>⟨g,0,rfl,hk.lt,fun j y hj=>?_⟩⟩
   match j,hj with
   | 0,hj =>
    simp at hj;subst hj;exact⟨by rw[hk.cell];rfl,by unfold I64;omega⟩
   | 1,hj =>
    simp at hj;subst hj;exact⟨by rw[hk.cell];rfl,by unfold I64;omega⟩
   | j+2,hj=>simp at hj
  have HS:=h_ hsl;clear hsl;go_wp2_with fail
  refine (i1q _ _ _ HS.out).mono ?_;rintro e w1 ⟨rfl,rfl⟩;go_wp2;exact hQ _ _ br_ rfl
 ·intro x w hb hk hiv hdj;have h10:∃ g,(x.v 10) = .slice (some ⟨g,0,none⟩) 2 2∧Blk w g 3 #[.int .i64 a,.int .i64 b]:=hk 10 (by decide);have he:=k_g hk [0,1,2,3,4,5,6,7,8,9,11];simp only[k_s]at he;simp only[netE,he];clear he hk;go_wp2;go_ret
  exact⟨rfl,g0.trans (hb.mono g0.size)⟩
def D1_ (v:Int) (l:List Bar) (j:Nat):Bool :=
 inR (l.getD j (0,0,0)).1 0 (v-1) && (inR (l.getD j (0,0,0)).2.1 (l.getD j (0,0,0)).1 (v-1) && (inR (l.getD j (0,0,0)).2.2 1 8 && (decide (j=0) || decide (cmpB (l.getD (j-1) (0,0,0)) (l.getD j (0,0,0))<0))))
def areB (q:Qv) (l:List Bar):Bool:=isL q && (List.range l.length).all (D1_ q.v l)
def s7_ (v:Int) (l:List Bar) (k:Nat):Prop:=∀ j,j<k→D1_ v l j=true
theorem a6j {q:Qv} (l:List Bar) (h:isL q=false):areB q l=false:=by simp[areB,h]
theorem p3_ {q:Qv} {l:List Bar} {k:Nat} (hk:k<l.length) (h:D1_ q.v l k=false):areB q l=false:=by
 have:(List.range l.length).all (D1_ q.v l)=false:=by
  rw[List.all_eq_false];exact⟨k,by simp[hk],by simp[h]⟩
 simp[areB,this]
theorem R1_ {q:Qv} {l:List Bar} (h:isL q=true) (hb:s7_ q.v l l.length):areB q l=true:=by
 simp only[areB,h,Bool.true_and,List.all_eq_true,List.mem_range];exact hb
theorem q0_ {v:Int} {l:List Bar} {k:Nat} (h:s7_ v l k) (hb:D1_ v l k=true):s7_ v l (k+1):=fun j hj=>by
 by_cases e:j=k
 ·subst e;exact hb
 ·exact h j (by omega)
theorem J1_ {v:Int} {l:List Bar} {k:Nat} {x y z:Int} (h:l[k]?=some (x,y,z)) :
  D1_ v l k=(inR x 0 (v-1) && (inR y x (v-1) && (inR z 1 8 && (decide (k=0) || decide (cmpB (l.getD (k-1) (0,0,0)) (x,y,z)<0))))):=by
 have e:l.getD k (0,0,0)=(x,y,z):=by rw[l1_,h];rfl
 simp only[D1_,e]
theorem q4_ (u:Value) (q:Qv) (v:Value) (l:List Bar) (w0:World) (hu:QvR w0 w0.heap.size u q) (hv:SlB w0 w0.heap.size v l) :
  Calls Tryz.prog 19 #[u,v] w0 fun e w'=>e = .returned (.bool (areB q l))∧Below w0.heap.size w0 w':=by
 have hu':=hu;obtain⟨A,c,C,c',rfl,hf,ht,hr,lf,lt⟩:=hu.open_;obtain⟨D,d,rfl,_,_,hn,hx⟩:=hv.open_;clear hu hf ht hv;obtain⟨W,hW,g0,kq⟩:=b_3 w0 #[.int .i64 q.v,.slice A q.f.length c,.slice C q.t.length c'] 26;have hq:=QvR.next g0 hu';obtain⟨c0,c1,c2⟩:=c_3 kq;clear hu';rcases hL:isL q with _ | _
 ·rw[a6j l hL];have HL:=h_ hL;clear hL;go_enter Tryz.func19,Tryz.ntmps19
  go_wp2_with fail
  rw[←hW];clear hW;refine (g1_ _ _ _ hq).mono ?_;rintro e w1 ⟨rfl,hb1⟩;rw[HL.out];go_wp2;go_ret
  exact⟨rfl,b0_ g0 hb1⟩
 ·have hv1:=(j2_.1 (by have:=T1_ (q:=q);rcases hz:isZ q with _ | _;exact absurd (this hz) (by simp[hL]);exact (u9_ hz).1)).1;have HL:=h_ hL;clear hL;go_enter Tryz.func19,Tryz.ntmps19
  go_wp2_with fail
  rw[←hW];clear hW;refine (g1_ _ _ _ hq).mono ?_;rintro e w1 ⟨rfl,hb1⟩;rw[HL.out];have kq1:=kq.call hb1;have g1:=b0_ g0 hb1;have s1:=g1.size;clear c0 c1 c2 kq hb1 g0 hq;go_wp2;go_loopw [12] (fun i wr=>∃ k:Nat,k≤l.length∧i = .int .i64 k∧Below w1.heap.size w1 wr∧Hid (s7_ q.v l k)) (fun i _=>l.length-(intOf i).toNat)
  case atStart=>exact⟨0,l0_ _,rfl,Below.refl _ _,fun j h=>absurd h (by omega)⟩
  case round =>
   obtain⟨k,hk,rfl,hbel,hto⟩:=hrel;have gw:=b0_ g1 hbel;have ws:=hbel.size;by_cases hlt:k<l.length
   ·obtain⟨b,o,x,y,z,rfl,hb,HX,y1,y2,y3,rx,ry,rz⟩:=SlB.at_ hx hlt;have HBA:=h_ (J1_ (v:=q.v) HX.out);obtain⟨X,hX,gX,kX⟩:=b_3 wr #[.int .i64 x,.int .i64 y,.int .i64 z] 44;have kqX:=(kq1.call hbel).call gX;have z1:=a4_ gw hb y1;have z2:=a4_ gw hb y2;have z3:=a4_ gw hb y3;have e0:=fun s:InB X=>(kX.call s.below).cell' (i:=0) rfl
    have e1:=fun s:InB X=>(kX.call s.below).cell' (i:=1) rfl
    have e2:=fun s:InB X=>(kX.call s.below).cell' (i:=2) rfl
    have q0:=fun s:InB X=>(kqX.call s.below).cell' (i:=0) rfl
    have hGX:=h_ (b0_ hbel gX);have sX:=gX.size;have gwX:=b0_ gw gX;rcases h1:inR x 0 (q.v-1) with _ | _
    ·have HF:=h_ (p3_ (q:=q) hlt (by rw[HBA.out,h1];rfl));clear y1 y2 y3 kX kqX gw gX;go_wp2;rw[←hX];clear hX z1 z2 z3
     (refine b1_ (by kernel_rfl) (by kernel_rfl) ?_;(repeat (go_big_quiet_step ((go_at_call 61;exact InB.call_same (b7_ _ _ _ _)))));refine wpQuiet_nil ?_;intro w1 hw';obtain⟨s1,hw1⟩:=hw';have hb1:=s1.below;rw[←hw1]at hb1;clear hw1 s1)
     go_wp2;go_ret
     exact⟨by rw[HF.out];rfl,gwX.trans (hb1.mono gwX.size)⟩
    rcases h2:inR y x (q.v-1) with _ | _
    ·have HF:=h_ (p3_ (q:=q) hlt (by rw[HBA.out,h1,h2];rfl));clear y1 y2 y3 kX kqX gw gX;go_wp2;rw[←hX];clear hX z1 z2 z3
     (refine b1_ (by kernel_rfl) (by kernel_rfl) ?_;(repeat (go_big_quiet_step ((go_at_call 61;exact InB.call_same (b7_ _ _ _ _)))));refine wpQuiet_nil ?_;intro w1 hw';obtain⟨s1,hw1⟩:=hw';have hb1:=s1.below;rw[←hw1]at hb1;clear hw1 s1)
     go_wp2;go_ret
     exact⟨by rw[HF.out];rfl,gwX.trans (hb1.mono gwX.size)⟩
    rcases h3:inR z 1 8 with _ | _
    ·have HF:=h_ (p3_ (q:=q) hlt (by rw[HBA.out,h1,h2,h3];rfl));clear y1 y2 y3 kX kqX gw gX;go_wp2;rw[←hX];clear hX z1 z2 z3
     (refine b1_ (by kernel_rfl) (by kernel_rfl) ?_;(repeat (go_big_quiet_step ((go_at_call 61;exact InB.call_same (b7_ _ _ _ _)))));refine wpQuiet_nil ?_;intro w1 hw';obtain⟨s1,hw1⟩:=hw';have hb1:=s1.below;rw[←hw1]at hb1;clear hw1 s1)
     go_wp2;go_ret
     exact⟨by rw[HF.out];rfl,gwX.trans (hb1.mono gwX.size)⟩
    rcases Nat.eq_zero_or_pos k with rfl | hk0
    ·have HT:Hid (D1_ q.v l 0=true):=by show _=_;rw[HBA.out,h1,h2,h3];rfl
     simp only[Nat.zero_mul,Nat.add_zero]at z1 z2 z3;clear y1 y2 y3 kX kqX gw gX;go_wp2;rw[←hX];clear hX z1 z2 z3
     (refine b1_ (by kernel_rfl) (by kernel_rfl) ?_;(repeat (go_big_quiet_step ((go_at_call 61;exact InB.call_same (b7_ _ _ _ _)))));refine wpQuiet_nil ?_;intro w1 hw';obtain⟨s1,hw1⟩:=hw';have hb1:=s1.below;rw[←hw1]at hb1;clear hw1 s1)
     go_wp2;go_roundw
     case rel=>exact⟨1,by omega,by go_num,hGX.out.trans (hb1.mono hGX.out.size),q0_ hto.out HT.out⟩
     case measure=>simp[intOf];omega
    ·obtain⟨j,rfl⟩:∃ j,k=j+1:=⟨k-1,by omega⟩;obtain⟨b',o',x',y',z',eb,_,HX',y1',y2',y3',_⟩:=SlB.at_ (k:=j) hx (by omega);injection eb with eb
     injection eb with eb1 eb2
     subst eb1 eb2;have hgj:l.getD j (0,0,0)=(x',y',z'):=by rw[l1_,HX'.out];rfl
     have HC:Hid (∀ X,Calls Tryz.prog 62 #[.agg #[.int .i64 x',.int .i64 y',.int .i64 z'],.agg #[.int .i64 x,.int .i64 y,.int .i64 z]] X fun e w'=>e = .returned (.int .i64 (cmpB (x',y',z') (x,y,z)))∧Below X.heap.size X w'):=fun X=>K2_ x' y' z' x y z X
     have hcr:=g5X (x',y',z') (x,y,z);have hba:=HBA.out;rw[Nat.add_sub_cancel,hgj,h1,h2,h3]at hba;obtain⟨cv,hcv⟩:=e_ (cmpB (x',y',z') (x,y,z));rw[hcv]at hba hcr HC;have p1:=InB.cell (w:=X) (by omega) (a4_ gwX hb y1');have p2:=InB.cell (w:=X) (by omega) (a4_ gwX hb y2');have p3:=InB.cell (w:=X) (by omega) (a4_ gwX hb y3');have hw1:IntKind.i64.wrap ((j:Int)+1-1)=(j:Int):=by rw[show (j:Int)+1-1=j by omega];exact IntWalk.i64_in _ (by omega)
     by_cases h5:cv<0
     ·have HT:Hid (D1_ q.v l (j+1)=true):=by show _=_;rw[hba];simp[h5]
      have hd5:decide (0≤cv)=false:=decide_eq_false (by omega);clear y1 y2 y3 kX kqX gw gX y1' y2' y3' hba hcv hgj hx;go_wp2;rw[←hX];clear hX z1 z2 z3
      (refine b1_ (by kernel_rfl) (by kernel_rfl) ?_;(repeat (go_big_quiet_step (first | (go_at_call 61;exact InB.call_same (b7_ _ _ _ _)) | (go_at_call 62;exact InB.call (HC.out _)))));refine wpQuiet_nil ?_;intro w1 hw';obtain⟨s1,hw1⟩:=hw';have hb1:=s1.below;rw[←hw1]at hb1;clear hw1 s1)
      go_wp2;go_roundw
      case rel=>exact⟨j+1+1,by omega,by go_num,hGX.out.trans (hb1.mono hGX.out.size),q0_ hto.out HT.out⟩
      case measure=>simp[intOf];omega
     ·have HF:=h_ (p3_ (q:=q) hlt (by rw[hba];simp[h5]));have hd5:decide (0≤cv)=true:=decide_eq_true (by omega);clear y1 y2 y3 kX kqX gw gX y1' y2' y3' hba hcv hgj hx;go_wp2;rw[←hX];clear hX z1 z2 z3
      (refine b1_ (by kernel_rfl) (by kernel_rfl) ?_;(repeat (go_big_quiet_step (first | (go_at_call 61;exact InB.call_same (b7_ _ _ _ _)) | (go_at_call 62;exact InB.call (HC.out _)))));refine wpQuiet_nil ?_;intro w1 hw';obtain⟨s1,hw1⟩:=hw';have hb1:=s1.below;rw[←hw1]at hb1;clear hw1 s1)
      go_wp2;go_ret
      exact⟨by rw[HF.out];rfl,gwX.trans (hb1.mono gwX.size)⟩
   ·have HT:=h_ (R1_ HL.out (l:=l) (by have:=hto.out;rwa[show k=l.length by omega]at this));go_wp2;go_ret
    exact⟨by rw[HT.out];rfl,gw⟩
theorem q8_ (u:Value) (q:Qv) (v:Value) (l:List Bar) (w0:World) (hu:QvR w0 w0.heap.size u q) (hv:SlB w0 w0.heap.size v l) :
  Calls Tryz.prog 20 #[u,v] w0 fun e w'=>e = .returned (.bool (areB q l))∧Below w0.heap.size w0 w':=by
 have hu':=hu;obtain⟨A,c,C,c',rfl,hf,ht,hr,lf,lt⟩:=hu.open_;obtain⟨D,d,rfl,_,_,hn,hx⟩:=hv.open_;clear hu hf ht hv;obtain⟨W,hW,g0,kq⟩:=b_3 w0 #[.int .i64 q.v,.slice A q.f.length c,.slice C q.t.length c'] 26;have hq:=QvR.next g0 hu';obtain⟨c0,c1,c2⟩:=c_3 kq;clear hu';rcases hL:isL q with _ | _
 ·rw[a6j l hL];have HL:=h_ hL;clear hL;go_enter Tryz.func20,Tryz.ntmps20
  go_wp2_with fail
  rw[←hW];clear hW;refine (g2_ _ _ _ hq).mono ?_;rintro e w1 ⟨rfl,hb1⟩;rw[HL.out];go_wp2;go_ret
  exact⟨rfl,b0_ g0 hb1⟩
 ·have hv1:=(j2_.1 (by have:=T1_ (q:=q);rcases hz:isZ q with _ | _;exact absurd (this hz) (by simp[hL]);exact (u9_ hz).1)).1;have HL:=h_ hL;clear hL;go_enter Tryz.func20,Tryz.ntmps20
  go_wp2_with fail
  rw[←hW];clear hW;refine (g2_ _ _ _ hq).mono ?_;rintro e w1 ⟨rfl,hb1⟩;rw[HL.out];have kq1:=kq.call hb1;have g1:=b0_ g0 hb1;have s1:=g1.size;clear c0 c1 c2 kq hb1 g0 hq;go_wp2;go_loopw [5] (fun i wr=>∃ k:Nat,k≤l.length∧i = .int .i64 k∧Below w1.heap.size w1 wr∧Hid (s7_ q.v l k)) (fun i _=>l.length-(intOf i).toNat)
  case atStart=>exact⟨0,l0_ _,rfl,Below.refl _ _,fun j h=>absurd h (by omega)⟩
  case round =>
   obtain⟨k,hk,rfl,hbel,hto⟩:=hrel;have gw:=b0_ g1 hbel;have ws:=hbel.size;by_cases hlt:k<l.length
   ·obtain⟨b,o,x,y,z,rfl,hb,HX,y1,y2,y3,rx,ry,rz⟩:=SlB.at_ hx hlt;have HBA:=h_ (J1_ (v:=q.v) HX.out);have kqX:=kq1.call hbel;have z1:=InB.cell (w:=wr) (by omega) (a4_ gw hb y1);have z2:=InB.cell (w:=wr) (by omega) (a4_ gw hb y2);have z3:=InB.cell (w:=wr) (by omega) (a4_ gw hb y3);have q0:=fun s:InB wr=>(kqX.call s.below).cell' (i:=0) rfl
    have hbl:=h_ hbel;clear y1 y2 y3 kqX;rcases h1:inR x 0 (q.v-1) with _ | _
    ·have HF:=h_ (p3_ (q:=q) hlt (by rw[HBA.out,h1];rfl));go_wp2
     (refine b1_ (by kernel_rfl) (by kernel_rfl) ?_;(repeat (go_big_quiet_step ((go_at_call 63;exact InB.call_same (d4_ _ _ _ _)))));refine wpQuiet_nil ?_;intro w1 hw';obtain⟨s1,hw1⟩:=hw';have hb1:=s1.below;rw[←hw1]at hb1;clear hw1 s1)
     go_wp2;go_ret
     exact⟨by rw[HF.out];rfl,gw.trans (hb1.mono gw.size)⟩
    rcases h2:inR y x (q.v-1) with _ | _
    ·have HF:=h_ (p3_ (q:=q) hlt (by rw[HBA.out,h1,h2];rfl));go_wp2
     (refine b1_ (by kernel_rfl) (by kernel_rfl) ?_;(repeat (go_big_quiet_step ((go_at_call 63;exact InB.call_same (d4_ _ _ _ _)))));refine wpQuiet_nil ?_;intro w1 hw';obtain⟨s1,hw1⟩:=hw';have hb1:=s1.below;rw[←hw1]at hb1;clear hw1 s1)
     go_wp2;go_ret
     exact⟨by rw[HF.out];rfl,gw.trans (hb1.mono gw.size)⟩
    rcases h3:inR z 1 8 with _ | _
    ·have HF:=h_ (p3_ (q:=q) hlt (by rw[HBA.out,h1,h2,h3];rfl));go_wp2
     (refine b1_ (by kernel_rfl) (by kernel_rfl) ?_;(repeat (go_big_quiet_step ((go_at_call 63;exact InB.call_same (d4_ _ _ _ _)))));refine wpQuiet_nil ?_;intro w1 hw';obtain⟨s1,hw1⟩:=hw';have hb1:=s1.below;rw[←hw1]at hb1;clear hw1 s1)
     go_wp2;go_ret
     exact⟨by rw[HF.out];rfl,gw.trans (hb1.mono gw.size)⟩
    rcases Nat.eq_zero_or_pos k with rfl | hk0
    ·have HT:Hid (D1_ q.v l 0=true):=by show _=_;rw[HBA.out,h1,h2,h3];rfl
     simp only[Nat.zero_mul,Nat.add_zero]at z1 z2 z3;go_wp2
     (refine b1_ (by kernel_rfl) (by kernel_rfl) ?_;(repeat (go_big_quiet_step ((go_at_call 63;exact InB.call_same (d4_ _ _ _ _)))));refine wpQuiet_nil ?_;intro w1 hw';obtain⟨s1,hw1⟩:=hw';have hb1:=s1.below;rw[←hw1]at hb1;clear hw1 s1)
     obtain⟨wa,hwa⟩:∃ u,u=w1:=⟨_,rfl⟩;subst hwa;have hb2:=hb1;have g2:=gw.trans (hb1.mono gw.size);have B2:=h_ (hbl.out.trans (hb1.mono ws));clear hb1;clear z1 z2 z3;go_wp2
     (refine b1_ (by kernel_rfl) (by kernel_rfl) ?_;(repeat (go_big_quiet_step (fail)));refine wpQuiet_nil ?_;intro w1 hw';obtain⟨s1,hw1⟩:=hw';have hb1:=s1.below;rw[←hw1]at hb1;clear hw1 s1)
     go_wp2;go_roundw
     case rel=>exact⟨1,by omega,by go_num,B2.out.trans (hb1.mono B2.out.size),q0_ hto.out HT.out⟩
     case measure=>simp[intOf];omega
    ·obtain⟨j,rfl⟩:∃ j,k=j+1:=⟨k-1,by omega⟩;obtain⟨b',o',x',y',z',eb,_,HX',y1',y2',y3',_⟩:=SlB.at_ (k:=j) hx (by omega);injection eb with eb
     injection eb with eb1 eb2
     subst eb1 eb2;have hgj:l.getD j (0,0,0)=(x',y',z'):=by rw[l1_,HX'.out];rfl
     have hba:=HBA.out;rw[Nat.add_sub_cancel,hgj,h1,h2,h3]at hba;have hcn:=J3_ (x:=(x',y',z')) (y:=(x,y,z));simp only at hcn;have HBB:=h_ hba;have HCN:=h_ hcn;have p1:=a4_ gw hb y1';have p2:=a4_ gw hb y2';have hx2:=hx;clear hba hgj hcn y1' y2' y3' hx;go_wp2
     (refine b1_ (by kernel_rfl) (by kernel_rfl) ?_;(repeat (go_big_quiet_step ((go_at_call 63;exact InB.call_same (d4_ _ _ _ _)))));refine wpQuiet_nil ?_;intro w1 hw';obtain⟨s1,hw1⟩:=hw';have hb1:=s1.below;rw[←hw1]at hb1;clear hw1 s1)
     obtain⟨wa,hwa⟩:∃ u,u=w1:=⟨_,rfl⟩;subst hwa;have hb2:=hb1;have g2:=gw.trans (hb1.mono gw.size);have B2:=h_ (hbl.out.trans (hb1.mono ws));clear hb1;have v1:∀ s:InB wa,s.val.cell? ⟨b,o+(j+1)*3,none⟩=some (.int .i64 x):=fun s=>z1 ⟨s.val,hb2.trans (s.below.mono hb2.size)⟩
     have v2:∀ s:InB wa,s.val.cell? ⟨b,o+(j+1)*3+1,none⟩=some (.int .i64 y):=fun s=>z2 ⟨s.val,hb2.trans (s.below.mono hb2.size)⟩
     have sa:=hb2.size;have r1:=InB.cell (w:=wa) (by omega) (a4_ hb2 (by omega) p1);have r2:=InB.cell (w:=wa) (by omega) (a4_ hb2 (by omega) p2);have hw1:IntKind.i64.wrap ((j:Int)+1-1)=(j:Int):=by rw[show (j:Int)+1-1=j by omega];exact IntWalk.i64_in _ (by omega)
     clear z1 z2 z3 p1 p2;rcases Int.lt_trichotomy x x' with hxx | hxx | hxx
     ·have HF:=h_ (p3_ (q:=q) hlt (by rw[HBB.out];simp only[Bool.true_and,Bool.or_eq_false_iff,decide_eq_false_iff_not,HCN.out];omega));go_wp2
      (refine b1_ (by kernel_rfl) (by kernel_rfl) ?_;(repeat (go_big_quiet_step (fail)));refine wpQuiet_nil ?_;intro w1 hw';obtain⟨s1,hw1⟩:=hw';have hb1:=s1.below;rw[←hw1]at hb1;clear hw1 s1)
      go_wp2;go_ret
      exact⟨by rw[HF.out];rfl,g2.trans (hb1.mono g2.size)⟩
     ·subst hxx;have hxn:¬ x<x:=by omega
      by_cases hyy:y≤y'
      ·have HF:=h_ (p3_ (q:=q) hlt (by rw[HBB.out];simp only[Bool.true_and,Bool.or_eq_false_iff,decide_eq_false_iff_not,HCN.out];omega));go_wp2
       (refine b1_ (by kernel_rfl) (by kernel_rfl) ?_;(repeat (go_big_quiet_step (fail)));refine wpQuiet_nil ?_;intro w1 hw';obtain⟨s1,hw1⟩:=hw';have hb1:=s1.below;rw[←hw1]at hb1;clear hw1 s1)
       go_wp2;go_ret
       exact⟨by rw[HF.out];rfl,g2.trans (hb1.mono g2.size)⟩
      ·have HT:Hid (D1_ q.v l (j+1)=true):=by
        have hc:=HCN.out.2 (.inr ⟨rfl,by omega⟩);show _=_;rw[HBB.out];simp[hc]
       go_wp2
       (refine b1_ (by kernel_rfl) (by kernel_rfl) ?_;(repeat (go_big_quiet_step (fail)));refine wpQuiet_nil ?_;intro w1 hw';obtain⟨s1,hw1⟩:=hw';have hb1:=s1.below;rw[←hw1]at hb1;clear hw1 s1)
       go_wp2;go_roundw
       case rel=>exact⟨j+1+1,by omega,by go_num,B2.out.trans (hb1.mono B2.out.size),q0_ hto.out HT.out⟩
       case measure=>simp[intOf];omega
     ·have hxn:¬ x<x':=by omega
      have hxe:(x == x')=false:=by simp;omega
      have hxd:decide (x=x')=false:=by simp;omega
      have hxl:decide (x<x')=false:=by simp;omega
      have HT:Hid (D1_ q.v l (j+1)=true):=by
       have hc:=HCN.out.2 (.inl hxx);show _=_;rw[HBB.out];simp[hc]
      go_wp2
      (refine b1_ (by kernel_rfl) (by kernel_rfl) ?_;(repeat (go_big_quiet_step (fail)));refine wpQuiet_nil ?_;intro w1 hw';obtain⟨s1,hw1⟩:=hw';have hb1:=s1.below;rw[←hw1]at hb1;clear hw1 s1)
      go_wp2;go_roundw
      case rel=>exact⟨j+1+1,by omega,by go_num,B2.out.trans (hb1.mono B2.out.size),q0_ hto.out HT.out⟩
      case measure=>simp[intOf];omega
   ·have HT:=h_ (R1_ HL.out (l:=l) (by have:=hto.out;rwa[show k=l.length by omega]at this));go_wp2;go_ret
    exact⟨by rw[HT.out];rfl,gw⟩
def dgN (x:Int):Int:=if x<0 then 0 else if 9<x then 9 else x
def dgS (x:Int):ByteArray:=⟨#[UInt8.ofNat (48+(dgN x).toNat)]⟩
theorem R6_ (x:Int):0≤dgN x∧dgN x≤9:=by unfold dgN;split;omega;split <;> omega
theorem f0Q {n:Int} (h0:0≤n) (h9:n≤9):dgN n=n:=by unfold dgN;rw[if_neg (by omega),if_neg (by omega)]
theorem b8x (s:ByteArray):s ++ (⟨#[]⟩:ByteArray)=s:=by
 apply ByteArray.ext
 simp
theorem d9_ (x:Int):(dgS x).size=1:=rfl
theorem a7j {x:Int} {k:Int} (hk:k=48+dgN x) (W:World) (g:Nat) (c:Nat) (hg:Blk W g 5 #[.int .u8 k]) :
  (convert 22 9 (.slice (some ⟨g,0,none⟩) 1 c)).run Tryz.prog W = .ok (.string (dgS x)) W:=by
 have h:=Lib.run_convert_whole (P:=Tryz.prog) W 22 5 9 Tryz.underlying22 Tryz.underlying5 Tryz.underlying9 g 0 (dgS x) (fun i hi=>by
  have hi0:i=0:=by have:=d9_ x;omega
  subst hi0;rw[hg.cell];have hr:=R6_ x;have:((dgS x)[0]'hi)=UInt8.ofNat (48+(dgN x).toNat):=rfl;rw[this,hk];have e:((UInt8.ofNat (48+(dgN x).toNat)).toNat:Int)=48+dgN x:=by
   rw[UInt8.toNat_ofNat'];omega
  rw[e];rfl) c
 rw[d9_]at h;exact h
theorem i1_ (n:Int) (w:World) (h0:0≤n) (h9:n≤9) :
  Calls Tryz.prog 75 #[.int .i64 n] w fun e w'=>e = .returned (.string (dgS n))∧Below w.heap.size w w':=by
 by_cases hz:n=0
 ·subst hz;go_enter Tryz.func75,Tryz.ntmps75
  go_wp2;go_ret
  exact⟨rfl,Below.refl _ _⟩
 ·have hb:(n == 0)=false:=by simpa using hz
  have hne:(n != 0)=true:=by simpa using hz
  have hneg:¬ n<0:=by omega
  have hd:decide (n<0)=false:=by simp;omega
  have hc:=fun W:World=>a7j (x:=n) (k:=48+n) (by rw[f0Q h0 h9]) (W.alloc (.cells #[.int .u8 (48+n)] 5)) W.heap.size 1 (Blk.new _ _ _)
  have hw8:IntKind.u8.wrap (48+n)=48+n:=by
   have:n=1∨n=2∨n=3∨n=4∨n=5∨n=6∨n=7∨n=8∨n=9:=by omega
   rcases this with rfl | rfl | rfl | rfl | rfl | rfl | rfl | rfl | rfl <;> decide
  have e1:n % 10=n:=by omega
  have e2:n / 10=0:=by omega
  have HN:=b8x (dgS n);have hsz:(dgS n).size≤17592186044416:=by rw[d9_];omega
  clear hz;go_enter Tryz.func75,Tryz.ntmps75
  go_wp2;refine wp_loop_rounds 2 ?_;rw[rounds_succ];go_wp2;rw[rounds_succ];go_wp2;go_ret
  exact⟨rfl,a0_ _ _⟩
theorem infoByte:(Tryz.prog.info? 5).map (fun i=>(i.zero,i.size,i.bytes))=some (some (.int .u8 0),1,1):=by kernel_rfl
theorem D7_ (v:Value) (x:Int) (w:World) (hv:SlI w w.heap.size v [x]) :
  Calls Tryz.prog 73 #[v] w fun e w'=>e = .returned (.string (dgS x))∧Below w.heap.size w w':=by
 obtain⟨A,c,rfl,_,_,hn,hx⟩:=hv.open_;clear hv;obtain⟨b,o,y,rfl,hb,HX,c1,hr⟩:=SlI.at_ hx (k:=0) (by simp);have hy:=HX.out;simp only[List.getElem?_cons_zero,Option.some.injEq]at hy;subst hy;simp only[List.length_cons,List.length_nil,Nat.zero_add,Nat.add_zero]at c1⊢;obtain⟨i0,hi,hz0,hz1,hz2⟩:=info_parts infoByte;have hmk:=C3_ (P:=Tryz.prog) Tryz.underlying22 hi hz0 (n:=1) (by rw[hz2];omega) (by omega);rw[hz1]at hmk;clear hi hz0 hz1 hz2 hx hn HX;have hmc:f4_ (.int .u8 0) (1*1)=#[.int .u8 0]:=by first | kernel_rfl | decide | (apply Array.toList_inj.1;rw[f4_,toList_madeCells_one];rfl)
 rw[hmc]at hmk;obtain⟨d,hd⟩:=e_ (dgN x);have hdr:=R6_ x;rw[hd]at hdr;have hw8:IntKind.u8.wrap (48+d)=48+d:=by
  have:d=0∨d=1∨d=2∨d=3∨d=4∨d=5∨d=6∨d=7∨d=8∨d=9:=by omega
  rcases this with rfl | rfl | rfl | rfl | rfl | rfl | rfl | rfl | rfl | rfl <;> decide
 obtain⟨W,hW,g0,kB⟩:=b_3 w #[.int .u8 0] 5;have kB2:=kB.set_ 0 (.int .u8 (48+d));have hc:=a7j (x:=x) (k:=48+d) (by rw[hd]) (W.setCell ⟨w.heap.size,0,none⟩ (.int .u8 (48+d))) w.heap.size 1 kB2;have c2:=a4_ g0 hb c1;have f0:=kB.frozen;have e0:=kB.cell' (i:=0) rfl;have GF:=h_ (g0.setCell (p:=⟨w.heap.size,0,none⟩) (by simp) (.int .u8 (48+d)));have HD:=h_ hd;clear c1 kB kB2 g0 hd;have hmk2:=hmk w;rw[←hW]at hmk2;rw[show ((1:Nat):Int)=1 from rfl]at hmk2;clear hmk hW;go_enter Tryz.func73,Tryz.ntmps73
 go_wp2;refine wp_loop_rounds 2 ?_;rw[rounds_succ];have hmm:min (max x 0) 9=d:=by
  rw[←HD.out];unfold dgN;split
  ·omega
  ·split <;> omega
 go_wp2;rw[rounds_succ];go_wp2;go_ret
 exact⟨rfl,GF.out⟩
def a6z:ByteArray:=⟨#[45]⟩
def bX:ByteArray:=⟨#[120]⟩
def bSp:ByteArray:=⟨#[32]⟩
def d1q:ByteArray:=⟨#[110,111,110,101]⟩
def barS (x:Bar):ByteArray:=(((dgS x.1 ++ a6z) ++ dgS x.2.1) ++ bX) ++ dgS x.2.2
theorem W6_ (x:Bar):(barS x).size=5:=by
 simp only[barS,ByteArray.size_append,d9_];rfl
def s9_ (l:List Bar):Nat→ByteArray
 | 0=>⟨#[]⟩
 | k+1=>(if k=0 then s9_ l k else s9_ l k ++ bSp) ++ barS (l.getD k (0,0,0))
theorem E0_ (l:List Bar):∀ k,(s9_ l k).size=6*k-1
 | 0=>rfl
 | k+1=>by
  have h:=E0_ l k;have h1:bSp.size=1:=rfl;simp only[s9_];split
  ·rename_i hk
   subst hk;simp only[ByteArray.size_append,W6_,h]
  ·simp only[ByteArray.size_append,W6_,h,h1];omega
def fmtB (l:List Bar):ByteArray:=if 1≤l.length∧l.length≤20 then s9_ l l.length else d1q
theorem a8q (s:ByteArray) (x:Bar):((((s ++ dgS x.1) ++ a6z) ++ dgS x.2.1) ++ bX) ++ dgS x.2.2=s ++ barS x:=by
 simp only[barS,ByteArray.append_assoc]
theorem b4z (x:Int):dgS (dgN x)=dgS x:=by
 have h:=R6_ x;simp only[dgS,f0Q h.1 h.2]
theorem x5_ (x:Int):max 0 (min 9 x)=dgN x:=by
 unfold dgN;split
 ·omega
 ·split <;> omega
theorem C6_ (v:Value) (l:List Bar) (w0:World) (hv:SlB w0 w0.heap.size v l) :
  Calls Tryz.prog 31 #[v] w0 fun e w'=>e = .returned (.string (fmtB l))∧Below w0.heap.size w0 w':=by
 obtain⟨D,d,rfl,_,_,hn,hx⟩:=hv.open_;clear hv;by_cases h20:l.length≤20
 ·have hd20:decide ((l.length:Int)≤20)=true:=decide_eq_true (by omega);go_enter Tryz.func31,Tryz.ntmps31
  go_wp2;go_loopw [3,4] (fun s i wr=>∃ k:Nat,k≤l.length∧i = .int .i64 k∧s = .string (s9_ l k)∧Below w0.heap.size w0 wr) (fun _ i _=>l.length-(intOf i).toNat)
  case atStart=>exact⟨0,l0_ _,rfl,rfl,Below.refl _ _⟩
  case round =>
   obtain⟨k,hk,rfl,rfl,hbel⟩:=hrel;have hsz:=E0_ l k;have ws:=hbel.size;by_cases hlt:k<l.length
   ·obtain⟨b,o,p1,p2,p3,rfl,hb,HX,y1,y2,y3,rx,ry,rz⟩:=SlB.at_ hx hlt;have z1:=a4_ hbel hb y1;have z2:=a4_ hbel hb y2;have z3:=a4_ hbel hb y3;have hfs:Hid (s9_ l (k+1)=(if k=0 then s9_ l k else s9_ l k ++ bSp) ++ barS (p1,p2,p3)):=by
     show _=_;rw[s9_,l1_,HX.out];rfl
    have hw:∀ w:World,Below wr.heap.size wr w→w.cell? ⟨b,o+k*3,none⟩=some (.int .i64 p1)∧w.cell? ⟨b,o+k*3+1,none⟩=some (.int .i64 p2)∧w.cell? ⟨b,o+k*3+2,none⟩=some (.int .i64 p3) :=
     fun w h=>⟨a4_ h (by omega) z1,a4_ h (by omega) z2,a4_ h (by omega) z3⟩
    have HW:=h_ hw;obtain⟨F,hF⟩:=e_ (s9_ l k);rw[hF]at hfs hsz⊢;clear hF y1 y2 y3 z1 z2 z3 hw;by_cases h0:0<k
    ·rw[show (if k=0 then F else F ++ bSp)=F ++ bSp by rw[if_neg (by omega)]]at hfs;obtain⟨s,hs⟩:=e_ (F ++ (⟨#[32]⟩:ByteArray));have hfs2:Hid (s9_ l (k+1)=s ++ barS (p1,p2,p3)):=by show _=_;rw[hfs.out,←hs];rfl
     have hss:s.size≤200:=by
      rw[←hs,ByteArray.size_append];have:(⟨#[32]⟩:ByteArray).size=1:=rfl;omega
     have hsF:F.size≤17592186044416:=by omega
     clear hfs;go_wp2;clear hs;have s1:(s ++ dgS p1).size≤17592186044416:=by simp only[ByteArray.size_append,d9_];omega
     have s2:(s ++ dgS p1 ++ (⟨#[45]⟩:ByteArray)).size≤17592186044416:=by have:(⟨#[45]⟩:ByteArray).size=1:=rfl;simp only[ByteArray.size_append,d9_];omega
     have s3:(s ++ dgS p1 ++ (⟨#[45]⟩:ByteArray) ++ dgS p2).size≤17592186044416:=by have:(⟨#[45]⟩:ByteArray).size=1:=rfl;simp only[ByteArray.size_append,d9_];omega
     have s4:(s ++ dgS p1 ++ (⟨#[45]⟩:ByteArray) ++ dgS p2 ++ (⟨#[120]⟩:ByteArray)).size≤17592186044416:=by have:(⟨#[45]⟩:ByteArray).size=1:=rfl;have:(⟨#[120]⟩:ByteArray).size=1:=rfl;simp only[ByteArray.size_append,d9_];omega
     have d1:(dgS p1).size≤17592186044416:=by rw[d9_];omega
     have d2:(dgS p2).size≤17592186044416:=by rw[d9_];omega
     have d3:(dgS p3).size≤17592186044416:=by rw[d9_];omega
     have s0:s.size≤17592186044416:=by omega
     have r1:=R6_ p1;have r2:=R6_ p2;have r3:=R6_ p3;refine a9_ (by kernel_rfl) [.eq (.string s),.eq (.slice (some ⟨b,o,none⟩) l.length d),.eq (.int .i64 k),.eq (.pointer (some ⟨b,o+k*3,none⟩)),.eq (.pointer (some ⟨b,o+k*3,none⟩)),.eq (.int .i64 p1),.eq (.int .i64 (min 9 p1)),.eq (.int .i64 (dgN p1)),.eq (.string (dgS p1)),.eq (.string (s ++ dgS p1)),.eq (.string (s ++ dgS p1 ++ (⟨#[45]⟩:ByteArray))),.eq (.slice (some ⟨b,o,none⟩) l.length d),.eq (.int .i64 k),.eq (.pointer (some ⟨b,o+k*3,none⟩)),.eq (.pointer (some ⟨b,o+k*3+1,none⟩)),.eq (.int .i64 p2),.eq (.int .i64 (min 9 p2)),.eq (.int .i64 (dgN p2)),.eq (.string (dgS p2)),.eq (.string (s ++ dgS p1 ++ (⟨#[45]⟩:ByteArray) ++ dgS p2)),.eq (.string (s ++ dgS p1 ++ (⟨#[45]⟩:ByteArray) ++ dgS p2 ++ (⟨#[120]⟩:ByteArray))),.eq (.slice (some ⟨b,o,none⟩) l.length d),.eq (.int .i64 k),.eq (.pointer (some ⟨b,o+k*3,none⟩)),.eq (.pointer (some ⟨b,o+k*3+2,none⟩)),.eq (.int .i64 p3),.eq (.int .i64 (min 9 p3)),.eq (.int .i64 (dgN p3)),.eq (.string (dgS p3)),.eq (.string (s ++ dgS p1 ++ (⟨#[45]⟩:ByteArray) ++ dgS p2 ++ (⟨#[120]⟩:ByteArray) ++ dgS p3))] [[],[],[],[1,2],[1,2,3],[1,2,3,4],[1,2,3,4,5],[1,2,3,4,5,6],[1,2,3,4,5,6,7],[0,1,2,3,4,5,6,7,8],[0,1,2,3,4,5,6,7,8,9],[],[],[11,12],[11,12,13],[11,12,13,14],[11,12,13,14,15],[11,12,13,14,15,16],[1,2,3,4,5,6,7,8,11,12,13,14,15,16,17],[0,1,2,3,4,5,6,7,8,9,10,11,12,13,14,15,16,17,18],[0,1,2,3,4,5,6,7,8,9,10,11,12,13,14,15,16,17,18,19],[],[],[21,22],[21,22,23],[21,22,23,24],[21,22,23,24,25],[21,22,23,24,25,26],[1,2,3,4,5,6,7,8,11,12,13,14,15,16,17,18,21,22,23,24,25,26,27],[0,1,2,3,4,5,6,7,8,9,10,11,12,13,14,15,16,17,18,19,20,21,22,23,24,25,26,27,28],[0,1,2,3,4,5,6,7,8,9,10,11,12,13,14,15,16,17,18,19,20,21,22,23,24,25,26,27,28,29]] 30 (by kernel_rfl) ⟨trivial,trivial,trivial,trivial,trivial,trivial,trivial,trivial,trivial,trivial,trivial,trivial,trivial,trivial,trivial,trivial,trivial,trivial,trivial,trivial,trivial,trivial,trivial,trivial,trivial,trivial,trivial,trivial,trivial,trivial,trivial⟩ ⟨?_,?_,?_,?_,?_,?_,?_,?_,?_,?_,?_,?_,?_,?_,?_,?_,?_,?_,?_,?_,?_,?_,?_,?_,?_,?_,?_,?_,?_,?_,trivial⟩ ?_;iterate 30 (intro x w hb hk Q' hQ;have he:=k_e hk;simp only[k_s]at he;simp only[netE]at hQ⊢;(try simp only[he]at hQ⊢);(try clear he);rotate_left)
     rotate_left
     iterate 5 (· clear hk;go_wp2;exact hQ _ _ br_ rfl)
     ·clear hk;have q0:=(HW.out w hb).1;go_wp2;exact hQ _ _ br_ rfl
     ·clear hk;go_wp2;exact hQ _ _ br_ rfl
     ·clear hk;have hm:=x5_ p1;go_wp2;exact hQ _ _ br_ rfl
     ·clear hk;go_wp2_with fail
      refine (i1_ _ _ r1.1 r1.2).mono ?_;rintro e w1 ⟨rfl,hb1⟩;rw[b4z];go_wp2;exact hQ _ _ hb1 rfl
     iterate 6 (· clear hk;go_wp2;exact hQ _ _ br_ rfl)
     ·clear hk;have q0:=(HW.out w hb).2.1;go_wp2;exact hQ _ _ br_ rfl
     ·clear hk;go_wp2;exact hQ _ _ br_ rfl
     ·clear hk;have hm:=x5_ p2;go_wp2;exact hQ _ _ br_ rfl
     ·clear hk;go_wp2_with fail
      refine (i1_ _ _ r2.1 r2.2).mono ?_;rintro e w1 ⟨rfl,hb1⟩;rw[b4z];go_wp2;exact hQ _ _ hb1 rfl
     iterate 6 (· clear hk;go_wp2;exact hQ _ _ br_ rfl)
     ·clear hk;have q0:=(HW.out w hb).2.2;go_wp2;exact hQ _ _ br_ rfl
     ·clear hk;go_wp2;exact hQ _ _ br_ rfl
     ·clear hk;have hm:=x5_ p3;go_wp2;exact hQ _ _ br_ rfl
     ·clear hk;go_wp2_with fail
      refine (i1_ _ _ r3.1 r3.2).mono ?_;rintro e w1 ⟨rfl,hb1⟩;rw[b4z];go_wp2;exact hQ _ _ hb1 rfl
     ·clear hk;go_wp2;exact hQ _ _ br_ rfl
     ·intro x w hb hk hiv hdj;have he:=k_g hk [0,1,2,3,4,5,6,7,8,9,10,11,12,13,14,15,16,17,18,19,20,21,22,23,24,25,26,27,28,29];simp only[k_s]at he;simp only[netE,he];clear he hk;have hst:=a8q s (p1,p2,p3);simp only[a6z,bX]at hst;rw[hst];go_wp2;go_roundw
      case rel=>exact⟨k+1,by omega,by go_num,by rw[hfs2.out],hbel.trans (hb.mono ws)⟩
      case measure=>simp[intOf];omega
    ·rw[show (if k=0 then F else F ++ bSp)=F by rw[if_pos (by omega)]]at hfs;obtain⟨s,hs⟩:=e_ (F);subst hs;have hss:F.size≤200:=by omega
     have hfs2:=hfs;obtain⟨s,hs⟩:∃ s,s=F:=⟨_,rfl⟩;subst hs;clear hfs;go_wp2;have s1:(s ++ dgS p1).size≤17592186044416:=by simp only[ByteArray.size_append,d9_];omega
     have s2:(s ++ dgS p1 ++ (⟨#[45]⟩:ByteArray)).size≤17592186044416:=by have:(⟨#[45]⟩:ByteArray).size=1:=rfl;simp only[ByteArray.size_append,d9_];omega
     have s3:(s ++ dgS p1 ++ (⟨#[45]⟩:ByteArray) ++ dgS p2).size≤17592186044416:=by have:(⟨#[45]⟩:ByteArray).size=1:=rfl;simp only[ByteArray.size_append,d9_];omega
     have s4:(s ++ dgS p1 ++ (⟨#[45]⟩:ByteArray) ++ dgS p2 ++ (⟨#[120]⟩:ByteArray)).size≤17592186044416:=by have:(⟨#[45]⟩:ByteArray).size=1:=rfl;have:(⟨#[120]⟩:ByteArray).size=1:=rfl;simp only[ByteArray.size_append,d9_];omega
     have d1:(dgS p1).size≤17592186044416:=by rw[d9_];omega
     have d2:(dgS p2).size≤17592186044416:=by rw[d9_];omega
     have d3:(dgS p3).size≤17592186044416:=by rw[d9_];omega
     have s0:s.size≤17592186044416:=by omega
     have r1:=R6_ p1;have r2:=R6_ p2;have r3:=R6_ p3;refine a9_ (by kernel_rfl) [.eq (.string s),.eq (.slice (some ⟨b,o,none⟩) l.length d),.eq (.int .i64 k),.eq (.pointer (some ⟨b,o+k*3,none⟩)),.eq (.pointer (some ⟨b,o+k*3,none⟩)),.eq (.int .i64 p1),.eq (.int .i64 (min 9 p1)),.eq (.int .i64 (dgN p1)),.eq (.string (dgS p1)),.eq (.string (s ++ dgS p1)),.eq (.string (s ++ dgS p1 ++ (⟨#[45]⟩:ByteArray))),.eq (.slice (some ⟨b,o,none⟩) l.length d),.eq (.int .i64 k),.eq (.pointer (some ⟨b,o+k*3,none⟩)),.eq (.pointer (some ⟨b,o+k*3+1,none⟩)),.eq (.int .i64 p2),.eq (.int .i64 (min 9 p2)),.eq (.int .i64 (dgN p2)),.eq (.string (dgS p2)),.eq (.string (s ++ dgS p1 ++ (⟨#[45]⟩:ByteArray) ++ dgS p2)),.eq (.string (s ++ dgS p1 ++ (⟨#[45]⟩:ByteArray) ++ dgS p2 ++ (⟨#[120]⟩:ByteArray))),.eq (.slice (some ⟨b,o,none⟩) l.length d),.eq (.int .i64 k),.eq (.pointer (some ⟨b,o+k*3,none⟩)),.eq (.pointer (some ⟨b,o+k*3+2,none⟩)),.eq (.int .i64 p3),.eq (.int .i64 (min 9 p3)),.eq (.int .i64 (dgN p3)),.eq (.string (dgS p3)),.eq (.string (s ++ dgS p1 ++ (⟨#[45]⟩:ByteArray) ++ dgS p2 ++ (⟨#[120]⟩:ByteArray) ++ dgS p3))] [[],[],[],[1,2],[1,2,3],[1,2,3,4],[1,2,3,4,5],[1,2,3,4,5,6],[1,2,3,4,5,6,7],[0,1,2,3,4,5,6,7,8],[0,1,2,3,4,5,6,7,8,9],[],[],[11,12],[11,12,13],[11,12,13,14],[11,12,13,14,15],[11,12,13,14,15,16],[1,2,3,4,5,6,7,8,11,12,13,14,15,16,17],[0,1,2,3,4,5,6,7,8,9,10,11,12,13,14,15,16,17,18],[0,1,2,3,4,5,6,7,8,9,10,11,12,13,14,15,16,17,18,19],[],[],[21,22],[21,22,23],[21,22,23,24],[21,22,23,24,25],[21,22,23,24,25,26],[1,2,3,4,5,6,7,8,11,12,13,14,15,16,17,18,21,22,23,24,25,26,27],[0,1,2,3,4,5,6,7,8,9,10,11,12,13,14,15,16,17,18,19,20,21,22,23,24,25,26,27,28],[0,1,2,3,4,5,6,7,8,9,10,11,12,13,14,15,16,17,18,19,20,21,22,23,24,25,26,27,28,29]] 30 (by kernel_rfl) ⟨trivial,trivial,trivial,trivial,trivial,trivial,trivial,trivial,trivial,trivial,trivial,trivial,trivial,trivial,trivial,trivial,trivial,trivial,trivial,trivial,trivial,trivial,trivial,trivial,trivial,trivial,trivial,trivial,trivial,trivial,trivial⟩ ⟨?_,?_,?_,?_,?_,?_,?_,?_,?_,?_,?_,?_,?_,?_,?_,?_,?_,?_,?_,?_,?_,?_,?_,?_,?_,?_,?_,?_,?_,?_,trivial⟩ ?_;iterate 30 (intro x w hb hk Q' hQ;have he:=k_e hk;simp only[k_s]at he;simp only[netE]at hQ⊢;(try simp only[he]at hQ⊢);(try clear he);rotate_left)
     rotate_left
     iterate 5 (· clear hk;go_wp2;exact hQ _ _ br_ rfl)
     ·clear hk;have q0:=(HW.out w hb).1;go_wp2;exact hQ _ _ br_ rfl
     ·clear hk;go_wp2;exact hQ _ _ br_ rfl
     ·clear hk;have hm:=x5_ p1;go_wp2;exact hQ _ _ br_ rfl
     ·clear hk;go_wp2_with fail
      refine (i1_ _ _ r1.1 r1.2).mono ?_;rintro e w1 ⟨rfl,hb1⟩;rw[b4z];go_wp2;exact hQ _ _ hb1 rfl
     iterate 6 (· clear hk;go_wp2;exact hQ _ _ br_ rfl)
     ·clear hk;have q0:=(HW.out w hb).2.1;go_wp2;exact hQ _ _ br_ rfl
     ·clear hk;go_wp2;exact hQ _ _ br_ rfl
     ·clear hk;have hm:=x5_ p2;go_wp2;exact hQ _ _ br_ rfl
     ·clear hk;go_wp2_with fail
      refine (i1_ _ _ r2.1 r2.2).mono ?_;rintro e w1 ⟨rfl,hb1⟩;rw[b4z];go_wp2;exact hQ _ _ hb1 rfl
     iterate 6 (· clear hk;go_wp2;exact hQ _ _ br_ rfl)
     ·clear hk;have q0:=(HW.out w hb).2.2;go_wp2;exact hQ _ _ br_ rfl
     ·clear hk;go_wp2;exact hQ _ _ br_ rfl
     ·clear hk;have hm:=x5_ p3;go_wp2;exact hQ _ _ br_ rfl
     ·clear hk;go_wp2_with fail
      refine (i1_ _ _ r3.1 r3.2).mono ?_;rintro e w1 ⟨rfl,hb1⟩;rw[b4z];go_wp2;exact hQ _ _ hb1 rfl
     ·clear hk;go_wp2;exact hQ _ _ br_ rfl
     ·intro x w hb hk hiv hdj;have he:=k_g hk [0,1,2,3,4,5,6,7,8,9,10,11,12,13,14,15,16,17,18,19,20,21,22,23,24,25,26,27,28,29];simp only[k_s]at he;simp only[netE,he];clear he hk;have hst:=a8q s (p1,p2,p3);simp only[a6z,bX]at hst;rw[hst];go_wp2;go_roundw
      case rel=>exact⟨k+1,by omega,by go_num,by rw[hfs2.out],hbel.trans (hb.mono ws)⟩
      case measure=>simp[intOf];omega
   ·have hkl:k=l.length:=by omega
    have hF:Hid (k=0∧fmtB l=d1q∨0<k∧fmtB l=s9_ l k):=by
     rcases Nat.eq_zero_or_pos k with h | h
     ·exact .inl ⟨h,by rw[fmtB,if_neg (by omega)]⟩
     ·exact .inr ⟨h,by rw[fmtB,if_pos (by omega),hkl]⟩
    obtain⟨F,hFF⟩:=e_ (s9_ l k);rcases hF.out with ⟨h,e⟩ | ⟨h,e⟩
    ·have hF0:F=⟨#[]⟩:=by rw[←hFF,h];rfl
     rw[hFF,hF0];have HE:=h_ e;clear hF hFF hF0 e hkl h;go_wp2;go_ret
     exact⟨by rw[HE.out];rfl,hbel⟩
    ·have hne2:F≠(⟨#[]⟩:ByteArray):=by
      intro e0;rw[hFF,e0]at hsz;have:(⟨#[]⟩:ByteArray).size=0:=rfl;omega
     have hne:=(decide_eq_emptyBytes F).symm.trans (decide_eq_false hne2);have hne3:F.toList≠[]:=by intro h0;rw[h0]at hne;cases hne
     clear hne2;rw[hFF]at e⊢;have HE:=h_ e;clear hF hFF e hkl h;go_wp2;go_ret
     exact⟨by rw[HE.out];rfl,hbel⟩
 ·have hF:=h_ (show fmtB l=d1q by rw[fmtB,if_neg (by omega)]);have hd20:decide ((l.length:Int)≤20)=false:=decide_eq_false (by omega);go_enter Tryz.func31,Tryz.ntmps31
  go_wp2;refine wp_loop_rounds 1 ?_;rw[rounds_succ];go_wp2;all_goals
   go_ret
   exact⟨by rw[hF.out];rfl,Below.refl _ _⟩
end Go.Proofs.YtbgccbmdiolhbaaGreat
namespace Go.Proofs
open Go.Shelf
def Tryz.laysJoin_ren:Go.Shelf.Ren:=⟨fun | 156=>74 | 165=>113 | 166=>114 | 169=>115 | 240=>141 | 241=>142 | 276=>154 | 277=>155 | n=>n,fun | 31=>78 | 9=>9 | 3=>3 | 4=>4 | 0=>0 | 20=>20 | 72=>121 | 76=>125 | 70=>119 | 37=>22 | 75=>124 | 127=>150 | 164=>164 | 5=>5 | 80=>127 | n=>n,fun | n=>n⟩
theorem Tryz.laysJoin:Go.Proofs.Lays.n156 Tryz.prog Tryz.laysJoin_ren:={
 mixed:=by kernel_rfl
 f156:=Tryz.func74.trans (congrArg some (by kernel_rfl))
 f165:=Tryz.func113.trans (congrArg some (by kernel_rfl))
 f166:=Tryz.func114.trans (congrArg some (by kernel_rfl))
 f169:=Tryz.func115.trans (congrArg some (by kernel_rfl))
 f240:=Tryz.func141.trans (congrArg some (by kernel_rfl))
 f241:=Tryz.func142.trans (congrArg some (by kernel_rfl))
 f276:=Tryz.func154.trans (congrArg some (by kernel_rfl))
 f277:=Tryz.func155.trans (congrArg some (by kernel_rfl))
 t0:=Tryz.underlying0
 a0:=Tryz.isAgg0
 z0:=Tryz.sizeOf0
 v0:=Tryz.zeroValue0
 t3:=Tryz.underlying3
 a3:=Tryz.isAgg3
 z3:=Tryz.sizeOf3
 v3:=Tryz.zeroValue3
 t4:=Tryz.underlying4
 a4:=Tryz.isAgg4
 z4:=Tryz.sizeOf4
 v4:=Tryz.zeroValue4
 t9:=Tryz.underlying9
 a9:=Tryz.isAgg9
 z9:=Tryz.sizeOf9
 v9:=Tryz.zeroValue9
 t20:=Tryz.underlying20
 a20:=Tryz.isAgg20
 z20:=Tryz.sizeOf20
 v20:=Tryz.zeroValue20
 t31:=Tryz.underlying78
 a31:=Tryz.isAgg78
 z31:=Tryz.sizeOf78
 v31:=Tryz.zeroValue78
 t37:=Tryz.underlying22
 a37:=Tryz.isAgg22
 z37:=Tryz.sizeOf22
 v37:=Tryz.zeroValue22
 t70:=Tryz.underlying119
 a70:=Tryz.isAgg119
 z70:=Tryz.sizeOf119
 v70:=Tryz.zeroValue119
 t72:=Tryz.underlying121
 a72:=Tryz.isAgg121
 z72:=Tryz.sizeOf121
 v72:=Tryz.zeroValue121
 t75:=Tryz.underlying124
 a75:=Tryz.isAgg124
 z75:=Tryz.sizeOf124
 v75:=Tryz.zeroValue124
 t76:=Tryz.underlying125
 a76:=Tryz.isAgg125
 z76:=Tryz.sizeOf125
 v76:=Tryz.zeroValue125
 t127:=Tryz.underlying150
 a127:=Tryz.isAgg150
 z127:=Tryz.sizeOf150
 v127:=Tryz.zeroValue150
 t164:=Tryz.underlying164
 a164:=Tryz.isAgg164
 z164:=Tryz.sizeOf164
 v164:=Tryz.zeroValue164 }
theorem Tryz.extraJoin:Builder.Extra Tryz.prog Tryz.laysJoin_ren:={
 sizeBuilder:=by kernel_rfl
 liesBuilder:=by kernel_rfl
 t5:=Tryz.underlying5
 a5:=Tryz.isAgg5
 z5:=Tryz.sizeOf5
 v5:=Tryz.zeroValue5
 infoByte:=by kernel_rfl
 cellsByte:=by kernel_rfl
 sizeByte:=by kernel_rfl
 neB5:=by decide }
end Go.Proofs
namespace Go.Proofs.YtbgccbmdiolhbaaGreat
open Go.RowKit
theorem f8q:(Tryz.prog.info? 9).map (fun i=>(i.zero,i.size,i.bytes))=some (some (.string ⟨#[]⟩),1,16):=by kernel_rfl
theorem V4_ {w:World} {ops:Array Oper} {rest:List Oper} {o:Oper} {a:Act} {Q:Exit→Act→World→Prop} (hgd:o.guard=none) (s x:Operand)
  (ho:o.op = .call { callee:=.builtin .append,args:=#[s,x],argTypes:=#[78,78] })
  (base:Nat) (v:Value) (vs:List Value) (hs:a.eval s=v) (hown:w.ownsRow base 9 1 v vs.length vs) (A:Option Addr) (c:Nat) (u:Value) (hx:a.eval x = .slice A 1 c) (hA:∃ b o,A=some ⟨b,o,none⟩∧w.cell? ⟨b,o,none⟩=some u) (h1:u.oneCell'=true)
  (hn:vs.length+1≤1048576) (hbase:base≤w.heap.size)
  (h:∀ v' w',w'.ownsRow base 9 1 v' (vs ++ [u]).length (vs ++ [u])→w.grownBy w' v.ownBlock→(v'.ownBlock=v.ownBlock∨v'.ownBlock=some w.heap.size)→wpList Tryz.prog ops Q rest (a.put o.dst v') w'):wpList Tryz.prog ops Q (o :: rest) a w:=by
 obtain⟨i0,hi,hz0,hz1,hz2⟩:=info_parts f8q;obtain⟨b,off,rfl,hc⟩:=hA;refine f1_ w hgd s x _ ho base 9 i0 _ 1 16 Tryz.underlying78 hi hz0 hz1 hz2 rfl (by decide) v vs.length _ hs hown (some ⟨b,off,none⟩) 1 c [u] hx ⟨by simp,.inr ⟨b,off,rfl,fun j u' hu=>?_⟩⟩ (by simpa using h1) (by simp only[maxLen];omega) (by omega) hbase fun v' w' h2 h3 h4=>?_
 ·match j,hu with
  | 0,hu =>
   simp at hu;subst hu;exact hc
 ·exact h v' w' (by simpa using h2) h3 h4
theorem c8X {w:World} {g:Nat} {x:Int} (hk:Blk w g 3 #[.int .i64 x]) (hx:I64 x):SlI w w.heap.size (.slice (some ⟨g,0,none⟩) 1 1) [x]:=by
 refine⟨_,1,rfl,by simp,by omega,by simp,fun _=>⟨g,0,rfl,hk.lt,fun j y hj=>?_⟩⟩
 match j,hj with
 | 0,hj =>
  simp at hj;subst hj;exact⟨by rw[hk.cell];rfl,hx⟩
 | j+1,hj=>simp at hj
def fmtW (l:List Bar) (k:Nat):List ByteArray:=(l.take k).map barS
theorem K6_ {l:List Bar} {k:Nat} (h:k≤l.length):(fmtW l k).length=k:=by simp[fmtW];omega
theorem K7_ {l:List Bar} {k:Nat} {x:Bar} (h:l[k]?=some x):fmtW l (k+1)=fmtW l k ++ [barS x]:=by
 simp[fmtW,c6_ h]
theorem D0_ (a b:ByteArray):(a ++ b).data.toList=a.data.toList ++ b.data.toList:=by simp
theorem X5_ (l:List Bar):∀ k,k<l.length→Lib.join ((fmtW l (k+1)).map (·.data.toList)) [32]=(s9_ l (k+1)).data.toList
 | 0,h=>by
  obtain⟨x,hx⟩:∃ x,l[0]?=some x:=⟨_,l2_ h⟩;have e:fmtW l 1=[barS x]:=by rw[show (1:Nat)=0+1 from rfl,K7_ hx];rfl
  rw[e];simp only[List.map_cons,List.map_nil,Lib.join_one,s9_,if_true,D0_,l1_,hx,Option.getD_some];rfl
 | k+1,h=>by
  obtain⟨x,hx⟩:∃ x,l[k+1]?=some x:=⟨_,l2_ h⟩;have ih:=X5_ l k (by omega);rw[K7_ hx,s9_,if_neg (by omega),D0_,D0_,←ih,l1_,hx,Option.getD_some];have hl:(fmtW l (k+1)).length=k+1:=K6_ (by omega);rcases hw:fmtW l (k+1) with _ | ⟨y,ys⟩
  ·rw[hw]at hl;simp at hl
  ·simp only[List.cons_append,List.map_cons,List.map_append,List.map_nil,Lib.join_cons,Lib.joinTail,List.flatten_append,List.flatten_cons,List.flatten_nil,List.append_nil,List.append_assoc];rfl
theorem d4X (bk c:Nat) (xs:List ByteArray) (w:World) (hcells:∀ (j:Nat) x,xs[j]?=some x→w.cell? ⟨bk,j,none⟩=some (.string x)) (hbk:bk<w.heap.size) (hN:xs.length≤1048576) (hcap:xs.length≤c) (hlen:(Lib.join (xs.map (·.data.toList)) [32]).length≤1048576) :
  Calls Tryz.prog 74 #[.slice (some ⟨bk,0,none⟩) xs.length c,.string ⟨#[32]⟩] w fun e w'=>e = .returned (.string ⟨(Lib.join (xs.map (·.data.toList)) [32]).toArray⟩)∧Below w.heap.size w w' :=
 Any.strings_Join Tryz.laysJoin Tryz.extraJoin bk 0 c xs ⟨#[32]⟩ w (fun j x h=>by rw[Nat.zero_add];exact hcells j x h) hbk (by omega) hcap (by
  have:(⟨#[32]⟩:ByteArray).data.toList=[32]:=rfl;rw[this];omega)
theorem B6_ (v:Value) (l:List Bar) (w0:World) (hv:SlB w0 w0.heap.size v l) :
  Calls Tryz.prog 30 #[v] w0 fun e w'=>e = .returned (.string (fmtB l))∧Below w0.heap.size w0 w':=by
 obtain⟨D,d,rfl,_,_,hn,hx⟩:=hv.open_;clear hv;rcases h20:inR (l.length:Int) 1 20 with _ | _
 ·have hF:Hid (fmtB l=d1q):=by
   show _=_;rw[fmtB,if_neg];have:=b5j.1 h20;omega
  have H20:=h_ h20;clear h20;go_enter Tryz.func30,Tryz.ntmps30
  go_wp2_with fail
  refine (b7_ _ _ _ _).mono ?_;rintro e w1 ⟨rfl,rfl⟩;rw[H20.out];go_wp2;go_ret
  exact⟨by rw[hF.out];rfl,Below.refl _ _⟩
 ·obtain⟨hl1,hl20⟩:=j1_.1 h20;have hF:Hid (fmtB l=s9_ l l.length):=by
   show _=_;rw[fmtB,if_pos (by omega)]
  have H20:=h_ h20;clear h20;go_enter Tryz.func30,Tryz.ntmps30
  go_wp2_with fail
  refine (b7_ _ _ _ _).mono ?_;rintro e w1 ⟨rfl,hww⟩;replace hww:=hww.symm;subst hww;rw[H20.out];go_wp2;go_loopw [3,12] (fun wv i wr=>∃ k:Nat,k≤l.length∧i = .int .i64 k∧RowO 9 1 wr w0.heap.size wr.heap.size wv (fmtW l k).length ((fmtW l k).map Value.string)∧Below w0.heap.size w0 wr) (fun _ i _=>l.length-(intOf i).toNat)
  case atStart=>exact⟨0,l0_ _,rfl,RowO.nil _ _ _ _,Below.refl _ _⟩
  case round =>
   obtain⟨k,hk,rfl,hO,hbel⟩:=hrel;have hwl:=K6_ hk;have ws:=hbel.size;obtain⟨wA,wc,ev,lw1,lw2⟩:=hO.form;subst ev;rw[hwl]at hO lw1⊢;by_cases hlt:k<l.length
   ·obtain⟨b,o,p1,p2,p3,rfl,hb,HX,y1,y2,y3,rx,ry,rz⟩:=SlB.at_ hx hlt;have z1:=a4_ hbel hb y1;have z2:=a4_ hbel hb y2;have z3:=a4_ hbel hb y3;have hfs:=h_ (K7_ HX.out);obtain⟨X,hX,gX,kX⟩:=b_3 wr #[.int .i64 p1,.int .i64 p2,.int .i64 p3] 44;have sX:=gX.size;have HO:=h_ (hO.below gX);have HBX:=h_ (hbel.trans (gX.mono ws));have I1:I64 p1:=rx;have I2:I64 p2:=ry;have I3:I64 p3:=rz;have HI1:=h_ I1;have HI2:=h_ I2;have HI3:=h_ I3;have HWL:=h_ hwl;clear hO y1 y2 y3 gX I1 I2 I3 hwl;have s2:(dgS p1 ++ (⟨#[45]⟩:ByteArray)).size≤17592186044416:=by have:(⟨#[45]⟩:ByteArray).size=1:=rfl;simp only[ByteArray.size_append,d9_];omega
    have s3:(dgS p1 ++ (⟨#[45]⟩:ByteArray) ++ dgS p2).size≤17592186044416:=by have:(⟨#[45]⟩:ByteArray).size=1:=rfl;simp only[ByteArray.size_append,d9_];omega
    have s4:(dgS p1 ++ (⟨#[45]⟩:ByteArray) ++ dgS p2 ++ (⟨#[120]⟩:ByteArray)).size≤17592186044416:=by have:(⟨#[45]⟩:ByteArray).size=1:=rfl;have:(⟨#[120]⟩:ByteArray).size=1:=rfl;simp only[ByteArray.size_append,d9_];omega
    have d1:(dgS p1).size≤17592186044416:=by rw[d9_];omega
    have d2:(dgS p2).size≤17592186044416:=by rw[d9_];omega
    have d3:(dgS p3).size≤17592186044416:=by rw[d9_];omega
    go_wp2;rw[←hX];clear hX z1 z2 z3;refine a9_ (by kernel_rfl) [.eq (.slice wA k wc),.eq (.pointer (some ⟨wr.heap.size,0,none⟩)),.eq (.int .i64 p1),rel 3 (fun u lo hi w=>∃ g,u = .slice (some ⟨g,0,none⟩) 1 1∧Blk w g 3 #[.int .i64 p1]),.eq (.string (dgS p1)),.eq (.string (dgS p1 ++ (⟨#[45]⟩:ByteArray))),.eq (.pointer (some ⟨wr.heap.size,1,none⟩)),.eq (.int .i64 p2),rel 8 (fun u lo hi w=>∃ g,u = .slice (some ⟨g,0,none⟩) 1 1∧Blk w g 3 #[.int .i64 p2]),.eq (.string (dgS p2)),.eq (.string (dgS p1 ++ (⟨#[45]⟩:ByteArray) ++ dgS p2)),.eq (.string (dgS p1 ++ (⟨#[45]⟩:ByteArray) ++ dgS p2 ++ (⟨#[120]⟩:ByteArray))),.eq (.pointer (some ⟨wr.heap.size,2,none⟩)),.eq (.int .i64 p3),rel 14 (fun u lo hi w=>∃ g,u = .slice (some ⟨g,0,none⟩) 1 1∧Blk w g 3 #[.int .i64 p3]),.eq (.string (dgS p3)),.eq (.string (dgS p1 ++ (⟨#[45]⟩:ByteArray) ++ dgS p2 ++ (⟨#[120]⟩:ByteArray) ++ dgS p3)),rel 17 (fun u lo hi w=>∃ g,u = .slice (some ⟨g,0,none⟩) 1 1∧Blk w g 9 #[.string (dgS p1 ++ (⟨#[45]⟩:ByteArray) ++ dgS p2 ++ (⟨#[120]⟩:ByteArray) ++ dgS p3)])] [[],[],[1],[1,2],[1,2,3],[1,2,3,4],[],[6],[6,7],[1,2,3,4,6,7,8],[1,2,3,4,5,6,7,8,9],[1,2,3,4,5,6,7,8,9,10],[],[12],[12,13],[1,2,3,4,6,7,8,9,12,13,14],[1,2,3,4,5,6,7,8,9,10,11,12,13,14,15],[1,2,3,4,5,6,7,8,9,10,11,12,13,14,15,16],[0,1,2,3,4,5,6,7,8,9,10,11,12,13,14,15,16,17],[0,1,2,3,4,5,6,7,8,9,10,11,12,13,14,15,16,17,18]] 18 (by kernel_rfl) ⟨trivial,trivial,trivial,a7_ (fun u lo hi w w' ⟨g,e,h⟩ hb=>⟨g,e,h.call hb⟩),trivial,trivial,trivial,trivial,a7_ (fun u lo hi w w' ⟨g,e,h⟩ hb=>⟨g,e,h.call hb⟩),trivial,trivial,trivial,trivial,trivial,a7_ (fun u lo hi w w' ⟨g,e,h⟩ hb=>⟨g,e,h.call hb⟩),trivial,trivial,a7_ (fun u lo hi w w' ⟨g,e,h⟩ hb=>⟨g,e,h.call hb⟩),trivial⟩ ⟨?_,?_,?_,?_,?_,?_,?_,?_,?_,?_,?_,?_,?_,?_,?_,?_,?_,?_,trivial⟩ ?_;iterate 18 (intro x w hb hk Q' hQ;have he:=k_e hk;simp only[k_s]at he;simp only[netE]at hQ⊢;(try simp only[he]at hQ⊢);(try clear he);rotate_left)
    rotate_left
    iterate 2 (· clear hk;go_wp2;exact hQ _ _ br_ rfl)
    ·clear hk;have q0:=(kX.call hb).cell' (i:=0) rfl;go_wp2;exact hQ _ _ br_ rfl
    ·clear hk;go_wp2;exact hQ _ _ (a0_ _ _) ⟨_,rfl,Blk.new _ _ _⟩
    ·have h3:∃ g,(x.v 3) = .slice (some ⟨g,0,none⟩) 1 1∧Blk w g 3 #[.int .i64 p1]:=(hk 3 (by decide)).1;clear hk;obtain⟨g,e1,hk⟩:=h3;rw[e1]at hQ⊢;have HS:=h_ (c8X hk HI1.out);go_wp2_with fail
     refine (D7_ _ _ _ HS.out).mono ?_;rintro e w1 ⟨rfl,hb1⟩;go_wp2;exact hQ _ _ hb1 rfl
    iterate 2 (· clear hk;go_wp2;exact hQ _ _ br_ rfl)
    ·clear hk;have q0:=(kX.call hb).cell' (i:=1) rfl;go_wp2;exact hQ _ _ br_ rfl
    ·clear hk;go_wp2;exact hQ _ _ (a0_ _ _) ⟨_,rfl,Blk.new _ _ _⟩
    ·have h8:∃ g,(x.v 8) = .slice (some ⟨g,0,none⟩) 1 1∧Blk w g 3 #[.int .i64 p2]:=(hk 8 (by decide)).1;clear hk;obtain⟨g,e1,hk⟩:=h8;rw[e1]at hQ⊢;have HS:=h_ (c8X hk HI2.out);go_wp2_with fail
     refine (D7_ _ _ _ HS.out).mono ?_;rintro e w1 ⟨rfl,hb1⟩;go_wp2;exact hQ _ _ hb1 rfl
    iterate 3 (· clear hk;go_wp2;exact hQ _ _ br_ rfl)
    ·clear hk;have q0:=(kX.call hb).cell' (i:=2) rfl;go_wp2;exact hQ _ _ br_ rfl
    ·clear hk;go_wp2;exact hQ _ _ (a0_ _ _) ⟨_,rfl,Blk.new _ _ _⟩
    ·have h14:∃ g,(x.v 14) = .slice (some ⟨g,0,none⟩) 1 1∧Blk w g 3 #[.int .i64 p3]:=(hk 14 (by decide)).1;clear hk;obtain⟨g,e1,hk⟩:=h14;rw[e1]at hQ⊢;have HS:=h_ (c8X hk HI3.out);go_wp2_with fail
     refine (D7_ _ _ _ HS.out).mono ?_;rintro e w1 ⟨rfl,hb1⟩;go_wp2;exact hQ _ _ hb1 rfl
    ·clear hk;go_wp2;exact hQ _ _ br_ rfl
    ·have h3:∃ g,(x.v 3) = .slice (some ⟨g,0,none⟩) 1 1∧Blk w g 3 #[.int .i64 p1]:=(hk 3 (by decide)).1;have h8:∃ g,(x.v 8) = .slice (some ⟨g,0,none⟩) 1 1∧Blk w g 3 #[.int .i64 p2]:=(hk 8 (by decide)).1;have h14:∃ g,(x.v 14) = .slice (some ⟨g,0,none⟩) 1 1∧Blk w g 3 #[.int .i64 p3]:=(hk 14 (by decide)).1;have s3:=(hk 3 (by decide)).2;have s8:=(hk 8 (by decide)).2;have s14:=(hk 14 (by decide)).2;clear hk;go_wp2;exact hQ _ _ (a0_ _ _) ⟨_,rfl,Blk.new _ _ _⟩
    ·intro x w hb hk hiv hdj;have h3:∃ g,(x.v 3) = .slice (some ⟨g,0,none⟩) 1 1∧Blk w g 3 #[.int .i64 p1]:=hk 3 (by decide);have h8:∃ g,(x.v 8) = .slice (some ⟨g,0,none⟩) 1 1∧Blk w g 3 #[.int .i64 p2]:=hk 8 (by decide);have h14:∃ g,(x.v 14) = .slice (some ⟨g,0,none⟩) 1 1∧Blk w g 3 #[.int .i64 p3]:=hk 14 (by decide);have h17:∃ g,(x.v 17) = .slice (some ⟨g,0,none⟩) 1 1∧Blk w g 9 #[.string (dgS p1 ++ (⟨#[45]⟩:ByteArray) ++ dgS p2 ++ (⟨#[120]⟩:ByteArray) ++ dgS p3)]:=hk 17 (by decide);have he:=k_g hk [0,1,2,4,5,6,7,9,10,11,12,13,15,16];simp only[k_s]at he;simp only[netE,he];clear he hk;obtain⟨g,e17,hk17⟩:=h17;rw[e17];have hO2:=(HO.out).below hb;have sw:=hb.size;have hbw:=(HBX.out).trans (hb.mono (by omega));have hml:((fmtW l k).map Value.string).length=k:=by simp[HWL.out]
     have hown:w.ownsRow w0.heap.size 9 1 (.slice wA k wc) ((fmtW l k).map Value.string).length ((fmtW l k).map Value.string):=by rw[hml];exact hO2.1
     refine V4_ rfl (.tmp 16) (.tmp 33) rfl w0.heap.size (.slice wA k wc) ((fmtW l k).map Value.string) rfl hown _ _ (.string (barS (p1,p2,p3))) rfl ⟨g,0,rfl,hk17.cell' (i:=0) rfl⟩ rfl (by omega) (by omega) ?_;intro v' w' hn' hg' hv';have hbg:Below w0.heap.size w w':=c9_ hg' (fun k hk=>(hO2.1.lt k hk).1) (by omega);have HBT:=h_ (hbw.trans hbg);have HO4:Hid (RowO 9 1 w' w0.heap.size w'.heap.size v' (fmtW l (k+1)).length ((fmtW l (k+1)).map Value.string)):=by
      rw[hfs.out,List.map_append];have e1:(fmtW l k ++ [barS (p1,p2,p3)]).length=((fmtW l k).map Value.string ++ [Value.string (barS (p1,p2,p3))]).length:=by simp
      rw[e1];exact⟨hn',fun k hk=>(hn'.lt k hk).2,by simp[HWL.out];omega⟩
     clear hn' hg' hv' hbg hO2 hown hml hk17 e17 hbw;go_wp2;go_roundw
     case rel=>exact⟨k+1,by omega,by go_num,HO4.out,HBT.out⟩
     case measure=>simp[intOf];omega
   ·have hkl:k=l.length:=by omega
    subst hkl;obtain⟨gw,cw,cur,ew,hg1,hg2,hg3,_⟩:=RowO.at_ hO (by omega);injection ew with ew1 ew2 ew3
    subst ew1 ew3;have hcs:∀ (j:Nat) x,(fmtW l l.length)[j]?=some x→wr.cell? ⟨gw,j,none⟩=some (.string x):=by
     intro j x hj;have hjl:=a6_ hj;rw[hwl]at hjl;rw[hO.1.cellAt j (by omega),List.getElem?_map,hj];rfl
    have hjn:=X5_ l (l.length-1) (by omega);rw[show l.length-1+1=l.length by omega]at hjn;have hsz:=E0_ l l.length;have hlen:(Lib.join ((fmtW l l.length).map (·.data.toList)) [32]).length≤1048576:=by
     rw[hjn];have:(s9_ l l.length).data.toList.length=(s9_ l l.length).size:=by simp
     omega
    have HC:=h_ (d4X gw wc (fmtW l l.length) wr hcs hg3 (by omega) (by omega) hlen);rw[hwl]at HC;have HR:Hid (fmtB l=⟨(Lib.join ((fmtW l l.length).map (·.data.toList)) [32]).toArray⟩):=by
     show _=_;rw[hF.out,hjn]
    clear hcs hjn hsz hlen hO hwl;go_wp2_with fail
    refine (HC.out).mono ?_;rintro e w1 ⟨rfl,hb1⟩;go_wp2;go_ret
    exact⟨by rw[HR.out];rfl,hbel.trans (hb1.mono ws)⟩
end Go.Proofs.YtbgccbmdiolhbaaGreat

