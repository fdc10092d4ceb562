/- FnBars: the law holds for every argument. Part 2 of 16 of the proof: Kit, OwnI, Net, Kit2, KitM, KitM2, KitR, Mat, Mat2, Mat3, RepSz, SS, Chgs, AppS, Net2, MkI. No condition. -/
import Derived.Test.YtbgccbmdiolhbaaGreatBBars1
import Derived.Orders
set_option linter.unusedVariables false
set_option linter.unusedSimpArgs false
set_option maxHeartbeats 12800000
set_option maxRecDepth 100000
namespace Go.Proofs.YtbgccbmdiolhbaaGreat
open Go.RowKit
def a8_ (w:World) (lo hi:Nat) (v:Value) (l:List Int):Prop:=OwnI w lo v l∧∀ k,v.ownBlock=some k→k<hi
theorem a8_.of_own {w:World} {lo:Nat} {v:Value} {l:List Int} (h:OwnI w lo v l):a8_ w lo w.heap.size v l:=⟨h,fun k hk=>(h.lt k hk).2⟩
theorem a8_.rd {w:World} {lo hi:Nat} {v:Value} {l:List Int} (h:a8_ w lo hi v l):SlI w w.heap.size v l:=h.1.rd
theorem a8_.chg {w w':World} {lo hi lo' hi':Nat} {v:Value} {l:List Int} (h:a8_ w lo hi v l) (hc:Chg lo' hi' w w') (hd:hi≤lo'∨hi'≤lo):a8_ w' lo hi v l:=by
 refine⟨⟨⟨h.1.1.1,?_⟩,h.1.2⟩,h.2⟩;rcases h.1.1.2 with h1 | ⟨g,cap,cur,rfl,hg,hh,rest⟩
 ·exact .inl h1
 ·have:=h.2 g (by simp[Value.ownBlock]);exact .inr ⟨g,cap,cur,rfl,hg,(hc.block g (Array.getElem?_eq_some_iff.1 hh).1 (by omega)).trans hh,rest⟩
theorem a8_.below {w w':World} {lo hi:Nat} {v:Value} {l:List Int} (h:a8_ w lo hi v l) (hb:Below w.heap.size w w'):a8_ w' lo hi v l:=⟨h.1.below hb,h.2⟩
theorem SlI.chg {w w':World} {B lo hi:Nat} {v:Value} {l:List Int} (h:SlI w B v l) (hc:Chg lo hi w w') (hB:B≤lo) (hs:B≤w.heap.size):SlI w' B v l:=SlI.below (hc.below hB hs) h
def a8_.mk (k:Int) (l:List Int):List Int:=mkI k l.length
def Fam (w:World) (lo hi:Nat) (L:List (Value×List Int)):Prop:=(∀ p∈L,a8_ w lo hi p.1 p.2)∧L.Pairwise (fun p q=>p.1.ownBlock=none∨p.1.ownBlock≠q.1.ownBlock)
theorem Fam.chg {w w':World} {lo hi lo' hi':Nat} {L:List (Value×List Int)} (h:Fam w lo hi L) (hc:Chg lo' hi' w w') (hd:hi≤lo'∨hi'≤lo):Fam w' lo hi L:=⟨fun p hp=>(h.1 p hp).chg hc hd,h.2⟩
theorem Fam.below {w w':World} {lo hi:Nat} {L:List (Value×List Int)} (h:Fam w lo hi L) (hb:Below w.heap.size w w'):Fam w' lo hi L:=⟨fun p hp=>(h.1 p hp).below hb,h.2⟩
theorem Fam.turn {w w':World} {lo hi:Nat} {L1 L2:List (Value×List Int)} {v:Value} {l l':List Int} (h:Fam w lo hi (L1 ++ (v,l) :: L2)) (ho:OwnI w' lo v l') (hg:w.grownBy w' v.ownBlock):Fam w' lo hi (L1 ++ (v,l') :: L2):=by
 obtain⟨h1,h2⟩:=h;rw[List.pairwise_append,List.pairwise_cons]at h2;obtain⟨p1,⟨p2,p3⟩,p4⟩:=h2;refine⟨fun p hp=>?_,?_⟩
 ·rcases List.mem_append.1 hp with hp | hp
  ·have:=h1 p (by simp[hp]);have hne:=p4 p hp (v,l) (by simp);exact⟨this.1.kept hg hne,this.2⟩
  ·rcases List.mem_cons.1 hp with rfl | hp
   ·exact⟨ho,(h1 (v,l) (by simp)).2⟩
   ·have:=h1 p (by simp[hp]);have hne:=p2 p hp;refine⟨this.1.kept hg ?_,this.2⟩;rcases hne with hne | hne
    ·rcases hpb:p.1.ownBlock with _ | b
     ·exact .inl rfl
     ·exact .inr (by rw[show v.ownBlock=none from hne];simp)
    ·exact .inr (fun e=>hne e.symm)
 ·rw[List.pairwise_append,List.pairwise_cons];exact⟨p1,⟨p2,p3⟩,fun a ha b hb=>by
   rcases List.mem_cons.1 hb with rfl | hb
   ·exact p4 a ha (v,l) (by simp)
   ·exact p4 a ha b (by simp[hb])⟩
theorem Fam.app {w w':World} {lo hi:Nat} {L1 L2:List (Value×List Int)} {v v':Value} {l l':List Int} (h:Fam w lo hi (L1 ++ (v,l) :: L2)) (hh:hi≤w'.heap.size) (ho:OwnI w' lo v' l') (hg:w.grownBy w' v.ownBlock) (hv:v'.ownBlock=v.ownBlock∨v'.ownBlock=some w.heap.size) :
  Fam w' lo w'.heap.size (L1 ++ (v',l') :: L2):=by
 obtain⟨h1,h2⟩:=h;rw[List.pairwise_append,List.pairwise_cons]at h2;obtain⟨p1,⟨p2,p3⟩,p4⟩:=h2;have new:∀ p∈L1 ++ (v,l) :: L2,p.1.ownBlock≠some w.heap.size:=fun p hp e=>by
  have:=((h1 p hp).1.lt _ e).2;omega
 refine⟨fun p hp=>?_,?_⟩
 ·rcases List.mem_append.1 hp with hp | hp
  ·have:=h1 p (by simp[hp]);exact⟨this.1.kept hg (p4 p hp (v,l) (by simp)),fun k hk=>Nat.lt_of_lt_of_le (this.2 k hk) hh⟩
  ·rcases List.mem_cons.1 hp with rfl | hp
   ·exact a8_.of_own ho
   ·have:=h1 p (by simp[hp]);have hne:=p2 p hp;refine⟨this.1.kept hg ?_,fun k hk=>Nat.lt_of_lt_of_le (this.2 k hk) hh⟩;rcases hne with hne | hne
    ·rcases hpb:p.1.ownBlock with _ | b
     ·exact .inl rfl
     ·exact .inr (by rw[show v.ownBlock=none from hne];simp)
    ·exact .inr (fun e=>hne e.symm)
 ·rw[List.pairwise_append,List.pairwise_cons];refine⟨p1,⟨fun q hq=>?_,p3⟩,fun a ha b hb=>?_⟩
  ·show v'.ownBlock=none∨v'.ownBlock≠q.1.ownBlock;rcases hv with e | e <;> rw[e]
   ·exact p2 q hq
   ·exact .inr (fun e=>new q (by simp[hq]) e.symm)
  ·rcases List.mem_cons.1 hb with rfl | hb
   ·show a.1.ownBlock=none∨a.1.ownBlock≠v'.ownBlock;rcases hv with e | e <;> rw[e]
    ·exact p4 a ha (v,l) (by simp)
    ·exact .inr (new a (by simp[ha]))
   ·exact p4 a ha b (by simp[hb])
theorem Fam.setBlk {w:World} {lo hi g i:Nat} {L:List (Value×List Int)} {t:TypeId} {cs:Array Value} (h:Fam w lo hi L) (hb:Blk w g t cs) (ht:3≠t) (u:Value):Fam (w.setCell ⟨g,i,none⟩ u) lo hi L :=
 ⟨fun p hp=>⟨(h.1 p hp).1.setCell (p:=⟨g,i,none⟩) (fun e=>(h.1 p hp).1.blkne hb ht e.symm) u,(h.1 p hp).2⟩,h.2⟩
theorem Fam.mono {w:World} {lo hi lo' hi':Nat} {L:List (Value×List Int)} (h:Fam w lo hi L) (h1:lo'≤lo) (h2:hi≤hi'):Fam w lo' hi' L :=
 ⟨fun p hp=>⟨(h.1 p hp).1.lower h1,fun k hk=>Nat.lt_of_lt_of_le ((h.1 p hp).2 k hk) h2⟩,h.2⟩
def i7_ (w:World) (lo hi:Nat) (val:Value) (q:Qv):Prop:=∃ a b,val = .agg #[.int .i64 q.v,a,b]∧Fam w lo hi [(a,q.f),(b,q.t)]∧I64 q.v
theorem QvR.form {w:World} {B:Nat} {v:Value} {q:Qv} (h:QvR w B v q):∃ A c C d,v = .agg #[.int .i64 q.v,.slice A q.f.length c,.slice C q.t.length d]:=by
 obtain⟨A,c,C,d,e,_⟩:=h.open_;exact⟨A,c,C,d,e⟩
theorem QvR.lens {w:World} {B:Nat} {v:Value} {q:Qv} (h:QvR w B v q):q.f.length≤17592186044416∧q.t.length≤17592186044416:=by
 obtain⟨A,c,C,d,e,_,_,_,h1,h2⟩:=h.open_;exact⟨h1,h2⟩
theorem i7_.rd {w:World} {lo hi:Nat} {v:Value} {q:Qv} (h:i7_ w lo hi v q):QvR w w.heap.size v q:=by
 obtain⟨a,b,e,h1,h2⟩:=h;exact⟨a,b,e,(h1.1 (a,q.f) (by simp)).rd,(h1.1 (b,q.t) (by simp)).rd,h2⟩
theorem i7_.form {w:World} {lo hi:Nat} {v:Value} {q:Qv} (h:i7_ w lo hi v q):∃ A c C d,v = .agg #[.int .i64 q.v,.slice A q.f.length c,.slice C q.t.length d]:=h.rd.form
theorem i7_.chg {w w':World} {lo hi lo' hi':Nat} {v:Value} {q:Qv} (h:i7_ w lo hi v q) (hc:Chg lo' hi' w w') (hd:hi≤lo'∨hi'≤lo):i7_ w' lo hi v q:=by
 obtain⟨a,b,e,h1,h2⟩:=h;exact⟨a,b,e,h1.chg hc hd,h2⟩
theorem i7_.below {w w':World} {lo hi:Nat} {v:Value} {q:Qv} (h:i7_ w lo hi v q) (hb:Below w.heap.size w w'):i7_ w' lo hi v q:=by
 obtain⟨a,b,e,h1,h2⟩:=h;exact⟨a,b,e,h1.below hb,h2⟩
theorem QvR.chg {w w':World} {B lo hi:Nat} {v:Value} {q:Qv} (h:QvR w B v q) (hc:Chg lo hi w w') (hB:B≤lo) (hs:B≤w.heap.size):QvR w' B v q:=QvR.below (hc.below hB hs) h
def i7_.mk (k:Int) (q:Qv):Qv:=⟨q.v,mkI k q.f.length,mkI (k+q.f.length) q.t.length⟩
def Qv.size (q:Qv):Nat:=q.f.length+q.t.length
theorem a8_.wider {w:World} {lo hi lo' hi':Nat} {v:Value} {l:List Int} (h:a8_ w lo hi v l) (h1:lo'≤lo) (h2:hi≤hi'):a8_ w lo' hi' v l:=⟨h.1.lower h1,fun k hk=>Nat.lt_of_lt_of_le (h.2 k hk) h2⟩
theorem a8_.set {w:World} {lo hi:Nat} {v:Value} {l:List Int} (h:a8_ w lo hi v l) {p:Addr} (hp:p.block<lo) (u:Value):a8_ (w.setCell p u) lo hi v l :=
 ⟨h.1.setCell (fun e=>by have:=(h.1.lt _ e).1;omega) u,h.2⟩
theorem b9J {w:World} {lo mi hi:Nat} {a b:Value} {l m:List Int} (ha:a8_ w lo mi a l) (hb:a8_ w mi hi b m) (h1:lo≤mi) (h2:mi≤hi):Fam w lo hi [(a,l),(b,m)]:=by
 refine⟨fun p hp=>?_,?_⟩
 ·simp only[List.mem_cons,List.not_mem_nil,or_false]at hp;rcases hp with rfl | rfl
  ·exact ha.wider (l_ _) h2
  ·exact hb.wider h1 (l_ _)
 ·refine List.pairwise_cons.2 ⟨fun q hq=>?_,List.pairwise_cons.2 ⟨fun q hq=>absurd hq (by simp),List.Pairwise.nil⟩⟩;simp only[List.mem_cons,List.not_mem_nil,or_false]at hq;subst hq;show a.ownBlock=none∨a.ownBlock≠b.ownBlock;rcases hA:a.ownBlock with _ | x
  ·exact .inl rfl
  ·right
   intro e;have:=ha.2 x hA;have:=(hb.1.lt x e.symm).1;omega
theorem OwnI.put {w:World} {base g n cap j:Nat} {l:List Int} {x:Int} (h:OwnI w base (.slice (some ⟨g,0,none⟩) n cap) l) (hx:I64 x):OwnI (w.setCell ⟨g,j,none⟩ (.int .i64 x)) base (.slice (some ⟨g,0,none⟩) n cap) (l.set j x)∧w.grownBy (w.setCell ⟨g,j,none⟩ (.int .i64 x)) (some g):=by
 obtain⟨h1,h2,h3⟩:=h;have hn:n=l.length:=by
  rcases h1.2 with ⟨e,_⟩ | ⟨g',cap',cur,e,_⟩
  ·cases e
  ·injection e with _ e _
 subst hn;have hst:=h1.stored j (.int .i64 x);refine⟨⟨?_,by simpa using h2,fun y hy=>?_⟩,hst.2⟩
 ·rw[List.map_set,List.length_set];exact hst.1
 ·rcases List.mem_or_eq_of_mem_set hy with hy | rfl
  ·exact h3 y hy
  ·exact hx
theorem OwnI.cellG {w:World} {base g n cap j:Nat} {l:List Int} (h:OwnI w base (.slice (some ⟨g,0,none⟩) n cap) l) (hj:j<l.length):w.cell? ⟨g,j,none⟩=some (.int .i64 (l.getD j 0))∧I64 (l.getD j 0):=by
 obtain⟨h1,h2,h3⟩:=h;have hn:n=l.length:=by
  rcases h1.2 with ⟨e,_⟩ | ⟨g',cap',cur,e,_⟩
  ·cases e
  ·injection e with _ e _
 subst hn;have hc:=h1.cellAt j (by omega);have e:l.getD j 0=l[j]:=by rw[l1_,l2_ hj];rfl
 rw[e];exact⟨by rw[hc];simp[hj],h3 _ (List.getElem_mem hj)⟩
theorem OwnI.frozenG {w:World} {base g n cap:Nat} {l:List Int} (h:OwnI w base (.slice (some ⟨g,0,none⟩) n cap) l) (j:Nat):w.frozen? ⟨g,j,none⟩=false:=by
 obtain⟨h1,h2,h3⟩:=h;have hn:n=l.length:=by
  rcases h1.2 with ⟨e,_⟩ | ⟨g',cap',cur,e,_⟩
  ·cases e
  ·injection e with _ e _
 subst hn;exact h1.frozenAt j
theorem OwnI.made0 {w:World} {base N:Nat} (hb:base≤w.heap.size) (hN:N≤17592186044416):OwnI (w.alloc (.cells (f4_ (.int .i64 0) N) 3)) base (.slice (some ⟨w.heap.size,0,none⟩) N N) (List.replicate N 0):=by
 have e:(f4_ (.int .i64 0) N).toList.take (N*1)=(List.replicate N (0:Int)).map (Value.int .i64):=by
  have:(f4_ (.int .i64 0) N).toList=List.replicate N (.int .i64 0):=toList_madeCells_one _ _;rw[this,Nat.mul_one,l7_ (by simp),List.map_replicate]
 have h:=(Blk.new w 3 (f4_ (.int .i64 0) N)).own (base:=base) (n:=N) (cap:=N) (size:=1) hb (l_ _) (by simp only[maxLen];omega) (by rw[v9_];omega);rw[e]at h;refine⟨by simpa using h,by simpa using hN,fun x hx=>?_⟩;obtain⟨_,rfl⟩:=List.mem_replicate.1 hx;exact⟨by decide,by decide⟩
structure Gh where
 v:Nat→Value
 lo:Nat→Nat
 hi:Nat→Nat
inductive NS where
 | eq (u:Value)
 | rel (R:Gh→World→Prop)
def d7Q (i:Nat) (D:List Nat) (x:Gh):Gh:=⟨fun j=>if j=i∨j∈D then x.v j else undef,fun j=>if j=i∨j∈D then x.lo j else 0,fun j=>if j=i∨j∈D then x.hi j else 0⟩
def NS.holds (s:NS) (i:Nat) (D:List Nat) (x:Gh) (w:World):Prop :=
 match s with
 | .eq u=>x.v i=u
 | .rel R=>R (d7Q i D x) w
def NS.stable (s:NS):Prop :=
 match s with
 | .eq _=>True
 | .rel R=>∀ x w w',R x w→Below w.heap.size w w'→R x w'
theorem NS.holds_stable {s:NS} (h:s.stable) {i:Nat} {D:List Nat} {x:Gh} {w w':World} (hh:s.holds i D x w) (hb:Below w.heap.size w w'):s.holds i D x w':=by
 cases s with
 | eq f=>exact hh
 | rel R=>exact h _ _ _ hh hb
theorem NS.holds_congr {s:NS} {i:Nat} {D:List Nat} {x y:Gh} {w:World} (hv:∀ j,j=i∨j∈D→x.v j=y.v j∧x.lo j=y.lo j∧x.hi j=y.hi j) (hh:s.holds i D x w):s.holds i D y w:=by
 have e:d7Q i D x=d7Q i D y:=by
  unfold d7Q;congr 1 <;> funext j <;> split
  ·rename_i h;exact (hv j h).1
  ·rfl
  ·rename_i h;exact (hv j h).2.1
  ·rfl
  ·rename_i h;exact (hv j h).2.2
  ·rfl
 cases s with
 | eq u=>exact (hv i (.inl rfl)).1.symm.trans hh
 | rel R =>
  show R _ w;rw[←e];exact hh
def Gh.set (x:Gh) (i:Nat) (u:Value) (a b:Nat):Gh:=⟨fun j=>if j=i then u else x.v j,fun j=>if j=i then a else x.lo j,fun j=>if j=i then b else x.hi j⟩
section
variable {P:Program}
theorem r3_ {a:Act} {dst:Option Tmp} {v:Value} {t:Tmp}:(a.put dst v).eval (.tmp t)=if dst=some t∧t<a.tmps.size then v else a.eval (.tmp t):=by
 cases dst with
 | none=>simp[Act.put]
 | some d =>
  by_cases e:d=t
  ·subst e;by_cases hl:d<a.tmps.size
   ·simp[Act.put,Act.eval,m2_,Array.getElem?_setIfInBounds,hl]
   ·simp[Act.put,Act.eval,m2_,Array.getElem?_setIfInBounds,hl]
  ·simp[Act.put,Act.eval,m2_,Array.getElem?_setIfInBounds,e]
theorem W0_ {a:Act} {dst:Option Tmp} {v:Value}:(a.put dst v).tmps.size=a.tmps.size:=by
 cases dst <;> simp[Act.put]
theorem N7_ {a:Act} {dst:Option Tmp} {v:Value}:(a.put dst v).defers=a.defers:=by
 cases dst <;> rfl
theorem s6_ {a b:Act} {dst:Option Tmp} {v u:Value} (h:a.put dst v=a.put dst u) (hs:a.tmps.size=b.tmps.size):b.put dst v=b.put dst u:=by
 cases dst with
 | none=>rfl
 | some d =>
  by_cases hl:d<a.tmps.size
  ·have h1:=congrArg (fun x:Act=>x.eval (.tmp d)) h;simp only[r3_,hl,and_self,if_true]at h1;rw[h1]
  ·have hb:b.tmps.size≤d:=hs ▸ Nat.le_of_not_lt hl;simp only[Act.put];rw[Array.setIfInBounds_eq_of_size_le hb,Array.setIfInBounds_eq_of_size_le hb]
theorem o1_ {o:Oper} {a b:Act} {w:World} {K:Value→World→Prop} {Q1 Q2:Exit→Act→World→Prop} (he:execOp b.eval o=execOp a.eval o) (hs:a.tmps.size=b.tmps.size)
  (hp:∀ c a w,¬ Q1 (.panic c) a w) (hl:¬ LetsOut Q1) (h:o.wp P a w (fun a' w'=>∃ u,a'=a.put o.dst u∧K u w') Q1):o.wp P b w (fun b' w'=>∃ u,b'=b.put o.dst u∧K u w') Q2:=by
 unfold Oper.wp at *;rw[he];generalize (execOp a.eval o).run P w=r at *;cases r with
 | ok n w' =>
  cases n <;> simp only[Oper.upon]at h⊢
  case value v =>
   obtain⟨u,e,k⟩:=h;exact⟨u,s6_ e hs,k⟩
  case skip =>
   obtain⟨u,e,k⟩:=h;exact⟨u,s6_ e hs,k⟩
  case defer d =>
   obtain⟨u,e,k⟩:=h;have:=congrArg (fun x:Act=>x.defers.length) e;simp[N7_]at this
  case enter f args =>
   refine Calls.mono h fun e w'' he=>?_
   cases e with
   | returned v =>
    obtain⟨u,e,k⟩:=he;exact⟨u,s6_ e hs,k⟩
   | panicked c=>exact absurd he (hp _ _ _)
   | outgrown=>exact absurd he hl
  case row row args =>
   refine Rows.mono h fun v w'' he=>?_
   obtain⟨u,e,k⟩:=he;exact⟨u,s6_ e hs,k⟩
 | halt x w' =>
  cases x <;> simp only[Oper.upon]at h⊢
  case panic u=>exact absurd h (hp _ _ _)
def j6_ (ops:Array Oper) (k:Nat):Option Tmp:=(ops[k]?).bind (·.dst)
def actP (ops:Array Oper) (a:Act) (v:Nat→Value) (p:Nat→Bool):Nat→Act
 | 0=>a
 | k+1=>if p k then (actP ops a v p k).put (j6_ ops k) (v k) else actP ops a v p k
def c5_ (ops:Array Oper) (a:Act) (v:Nat→Value):Nat→Act
 | 0=>a
 | k+1=>(c5_ ops a v k).put (j6_ ops k) (v k)
theorem netE:(∀ (ops:Array Oper) (a:Act) (v:Nat→Value),c5_ ops a v 0=a)∧(∀ (ops:Array Oper) (a:Act) (v:Nat→Value) (k:Nat),c5_ ops a v (k+1)=(c5_ ops a v k).put (j6_ ops k) (v k))∧(∀ (ops:Array Oper) (k:Nat),j6_ ops k=(ops[k]?).bind (·.dst)) ∧
  (∀ (l:List Oper) (i:Nat),l.toArray[i]?=l[i]?)∧(∀ (x:Oper) (l:List Oper),(x :: l)[0]?=some x)∧(∀ (x:Oper) (l:List Oper) (i:Nat),(x :: l)[i+1]?=l[i]?)∧(∀ (x:Oper) (f:Oper→Option Tmp),(some x).bind f=f x) ∧
  (∀ (a:Act) (v:Value),a.put none v=a)∧(∀ (a:Act) (d:Tmp) (v:Value),a.put (some d) v={ a with tmps:=a.tmps.setIfInBounds d v })∧(∀ (l:List Value) (i:Nat) (x:Value),l.toArray.setIfInBounds i x=(l.set i x).toArray)∧(∀ (a b:Value) (l:List Value),(a :: l).set 0 b=b :: l)∧(∀ (a b:Value) (l:List Value) (i:Nat),(a :: l).set (i+1) b=a :: l.set i b)∧(∀ (x:Oper) (l:List Oper) (i:Nat),(x :: l).drop (i+1)=l.drop i)∧(∀ (l:List Oper),l.drop 0=l) :=
 ⟨fun _ _ _=>rfl,fun _ _ _ _=>rfl,fun _ _=>rfl,fun _ _=>by simp,fun _ _=>rfl,fun _ _ _=>rfl,fun _ _=>rfl,fun _ _=>rfl,fun _ _ _=>rfl,fun _ _ _=>by simp,fun _ _ _=>rfl,fun _ _ _ _=>rfl,fun _ _ _=>rfl,fun _=>rfl⟩
section
variable {ops:Array Oper} {a:Act} {v v':Nat→Value} {p q:Nat→Bool}
theorem g7_:∀ k,(actP ops a v p k).tmps.size=a.tmps.size
 | 0=>rfl
 | k+1=>by
  unfold actP;split
  ·rw[W0_,g7_ k]
  ·exact g7_ k
theorem C9_:∀ k,(∀ j,j<k→p j=q j∧(p j=true→v j=v' j))→actP ops a v p k=actP ops a v' q k
 | 0,_=>rfl
 | k+1,h=>by
  have ih:=C9_ k (fun j hj=>h j (by omega));have hk:=h k (by omega);unfold actP;rw[←hk.1,ih];split
  ·rename_i hp;rw[hk.2 hp]
  ·rfl
theorem f6_:∀ k,(∀ j,j<k→p j=true)→actP ops a v p k=c5_ ops a v k
 | 0,_=>rfl
 | k+1,h=>by
  have ih:=f6_ k (fun j hj=>h j (by omega));unfold actP c5_;rw[h k (by omega),if_pos rfl,ih]
theorem f5_:∀ k i,i≤k→(∀ j,i≤j→j<k→p j=false)→actP ops a v p k=actP ops a v p i
 | 0,i,hi,_=>by
  have e:i=0:=by omega
  rw[e]
 | k+1,i,hi,h=>by
  by_cases e:i=k+1
  ·rw[e]
  ·have ih:=f5_ k i (by omega) (fun j h1 h2=>h j h1 (by omega));rw[←ih];conv=>lhs;unfold actP
   rw[h k (by omega) (by omega)];rfl
theorem p8_ (t:Tmp):∀ k,(∀ j,j<k→j6_ ops j=some t→p j=q j)→(actP ops a v p k).eval (.tmp t)=(actP ops a v q k).eval (.tmp t)
 | 0,_=>rfl
 | k+1,h=>by
  have ih:=p8_ t k (fun j hj=>h j (by omega));unfold actP;by_cases e:j6_ ops k=some t
  ·rw[←h k (by omega) e];split
   ·rw[r3_,r3_,g7_,g7_,ih]
   ·exact ih
  ·have h1:∀ (b:Act) (u:Value),(b.put (j6_ ops k) u).eval (.tmp t)=b.eval (.tmp t):=fun b u=>by rw[r3_,if_neg (by intro x;exact e x.1)]
   split <;> split <;> simp only[h1,ih]
theorem p5_ (x:Operand) (hx:∀ t,x≠.tmp t) (b c:Act):b.eval x=c.eval x:=by
 cases x with
 | tmp t=>exact absurd rfl (hx t)
 | _=>rfl
theorem u0_ {i:Nat} {u:Value} (hv:∀ j,j≠i→p j=true→v' j=v j) (hvi:v' i=u) (hp:p i=false) (hq:∀ j,q j=(p j || j == i)) (hd:∀ j d,i<j→p j=true→j6_ ops j=some d→j6_ ops i≠some d) :
  ∀ k,i<k→(actP ops a v p k).put (j6_ ops i) u=actP ops a v' q k
 | 0,h=>absurd h (by omega)
 | k+1,h=>by
  by_cases e:i=k
  ·subst e;have h0:actP ops a v p i=actP ops a v' q i:=C9_ i fun j hj=>⟨by rw[hq];simp;omega,fun hj'=>(hv j (by omega) hj').symm⟩
   conv=>lhs;unfold actP
   conv=>rhs;unfold actP
   rw[hp,hq,if_neg (by simp),if_pos (by simp),hvi,h0]
  ·have ih:=u0_ hv hvi hp hq hd k (by omega);conv=>lhs;unfold actP
   conv=>rhs;unfold actP
   have hqk:q k=p k:=by rw[hq];simp;omega
   rw[hqk,←ih];split
   ·rename_i hpk
    rw[hv k (by omega) hpk];rw[Act.put_comm _ (v k) u (fun d hdd=>hd k d (by omega) hpk hdd)]
   ·rfl
end
def j9_ (o:Oper):List Nat:=(o.after.toList.filter fun e=>Region.binds .any e).map (·.on)
def d6j (ops:Array Oper) (D:List (List Nat)) (m i:Nat) (o:Oper):Bool :=
 o.guard.isNone && (j9_ o).all (·<i) && (D.getD i []).all (fun j=>decide (j<i) && ((j9_ o).contains j || (j9_ o).any fun k=>(D.getD k []).contains j)) &&
 (List.range ops.size).all (fun k=>match j6_ ops k with
  | none=>true
  | some d=>(!(o.looksAt ops).contains d || (D.getD i []).contains k || (D.getD k []).contains i) && (k == i || j6_ ops i != some d || (D.getD i []).contains k || (D.getD k []).contains i)) &&
 (decide (i<m) || (List.range i).all fun j=>(D.getD i []).contains j)
def M0_ (ops:Array Oper) (D:List (List Nat)) (m:Nat):Nat→List Oper→Bool
 | _,[]=>true
 | i,o :: l=>d6j ops D m i o && M0_ ops D m (i+1) l
def netB (ops:Array Oper) (D:List (List Nat)) (m:Nat):Bool:=decide (m≤ops.size) && Region.noSelect ops && M0_ ops D m 0 ops.toList
theorem m7_ {ops:Array Oper} {D:List (List Nat)} {m:Nat}:∀ (l:List Oper) (k:Nat),M0_ ops D m k l=true→∀ j o,l[j]?=some o→d6j ops D m (k+j) o=true
 | [],_,_,_,_,h=>by simp at h
 | x :: l,k,h,0,o,hj=>by
  simp only[M0_,l9_]at h;simp at hj;subst hj;exact h.1
 | x :: l,k,h,j+1,o,hj=>by
  simp only[M0_,l9_]at h;have:=m7_ l (k+1) h.2 j o (by simpa using hj);rwa[show k+1+j=k+(j+1) by omega]at this
structure NetOk (ops:Array Oper) (D:List (List Nat)) (m i:Nat) (o:Oper):Prop where
 guard:o.guard=none
 direct:∀ e∈o.after,Region.binds .any e=true→e.on<i
 dlt:∀ j∈D.getD i [],j<i
 danc:∀ (S:Nat→Prop),(∀ e∈o.after,Region.binds .any e=true→S e.on)→(∀ k,S k→∀ j∈D.getD k [],S j)→∀ j∈D.getD i [],S j
 looks:∀ k d,j6_ ops k=some d→d∈o.looksAt ops→k∈D.getD i []∨i∈D.getD k []
 dsts:∀ k d,k≠i→j6_ ops k=some d→j6_ ops i=some d→k∈D.getD i []∨i∈D.getD k []
 tail:m≤i→∀ j,j<i→j∈D.getD i []
theorem t4_ {ops:Array Oper} {D:List (List Nat)} {m i:Nat} {o:Oper} (h:d6j ops D m i o=true):NetOk ops D m i o:=by
 simp only[d6j,l9_,List.all_eq_true,Bool.or_eq_true,decide_eq_true_eq,List.mem_range]at h;obtain⟨⟨⟨⟨h1,h2⟩,h3⟩,h4⟩,h5⟩:=h;have hdir:∀ e∈o.after,Region.binds .any e=true→e.on∈j9_ o:=fun e he hb=>by
  unfold j9_;rw[List.mem_map];exact⟨e,by rw[List.mem_filter];exact⟨by simpa using he,hb⟩,rfl⟩
 have hk:∀ {k:Nat} {d:Tmp},j6_ ops k=some d→k<ops.size:=fun {k d} hd=>by
  rcases Nat.lt_or_ge k ops.size with h | h
  ·exact h
  ·simp[j6_,Array.getElem?_eq_none h]at hd
 refine⟨by simpa using h1,fun e he hb=>h2 _ (hdir e he hb),fun j hj=>(h3 j hj).1,fun S hS hc j hj=>?_,fun k d hd hl=>?_,fun k d hne hd hdi=>?_,fun hm j hj=>?_⟩
 ·have hD:∀ k∈j9_ o,S k:=fun k hk=>by
   unfold j9_ at hk;rw[List.mem_map]at hk;obtain⟨e,he,rfl⟩:=hk;rw[List.mem_filter]at he;exact hS e (by simpa using he.1) he.2
  rcases (h3 j hj).2 with h | h
  ·exact hD j (by simpa using h)
  ·rw[List.any_eq_true]at h;obtain⟨k,hk,hkj⟩:=h;exact hc k (hD k hk) j (by simpa using hkj)
 ·have:=h4 k (hk hd);rw[hd]at this;simp only[l9_,Bool.or_eq_true,Bool.not_eq_true',List.contains_iff_mem,List.contains_eq_mem,decide_eq_true_eq,decide_eq_false_iff_not]at this;rcases this.1 with (h | h) | h
  ·exact absurd hl h
  ·exact .inl h
  ·exact .inr h
 ·have:=h4 k (hk hd);rw[hd]at this;simp only[l9_,Bool.or_eq_true,List.contains_eq_mem,decide_eq_true_eq,beq_iff_eq,bne_iff_ne]at this;rcases this.2 with ((h | h) | h) | h
  ·exact absurd h hne
  ·exact absurd hdi h
  ·exact .inl h
  ·exact .inr h
 ·rcases h5 with h | h
  ·omega
  ·simpa using h j hj
section
variable {ops:Array Oper} {Q:Exit→Act→World→Prop} {sp:List NS} {D:List (List Nat)} {m:Nat} {a0:Act} {w0:World}
def k1_ (sp:List NS) (D:List (List Nat)) (x:Gh) (i:Nat) (w:World):Prop:=(sp.getD i (.eq undef)).holds i (D.getD i []) x w
def Y8_ (P:Program) (ops:Array Oper) (sp:List NS) (D:List (List Nat)) (a0:Act) (w0:World) (i:Nat) (o:Oper):Prop :=
 ∀ (x:Gh) (w:World),Below w0.heap.size w0 w→(∀ j∈D.getD i [],k1_ sp D x j w∧x.hi j≤w.heap.size)→∀ Q':Exit→Act→World→Prop,
  (∀ u w',Below w.heap.size w w'→(sp.getD i (.eq undef)).holds i (D.getD i []) (x.set i u w.heap.size w'.heap.size) w'→Q' .normal ((c5_ ops a0 x.v i).put o.dst u) w')→wpList P ops Q' [o] (c5_ ops a0 x.v i) w
theorem p4_ (hok:∀ i o,ops[i]?=some o→NetOk ops D m i o):∀ (fuel k:Nat) (listed:Array Bool) (a:Act) (w:World),fuel+k=ops.size→m≤k→listed.size=ops.size→(∀ j,listed.getD j false=decide (j<k)) →
  wpList P ops Q (ops.toList.drop k) a w→wpAny P .any ops Q fuel listed a w
 | fuel,k,listed,a,w,hf,hm,hls,hl,h=>by
  have hld:∀ j,j<ops.size→listed.getD j true=decide (j<k):=fun j hj=>by
   rw[←hl j];simp[m2_,l8_ (show j<listed.size by omega)]
  have hr:∀ i∈Region.ready .any ops listed,i=k∧k<ops.size:=fun i hi=>by
   obtain⟨h0,o,ho,hall⟩:=mem_ready.1 hi;have hin:=(Array.getElem?_eq_some_iff.1 ho).1;rw[hld i hin]at h0;have hik:k≤i:=by simpa using h0
   refine⟨?_,by omega⟩;have hcl:=(hok i o ho).danc (fun j=>j<k) (fun e he hb=>by have:=hall e he hb;rw[hl]at this;simpa using this) (fun j hj x hx=>by
    have hjs:j<ops.size:=by omega
    have:=(hok j _ (l8_ hjs)).dlt x hx;omega)
   rcases Nat.lt_or_ge k i with hlt | hge
   ·have:=hcl k ((hok i o ho).tail (by omega) k hlt);omega
   ·omega
  cases fuel with
  | zero =>
   refine⟨?_,?_⟩
   ·apply List.eq_nil_iff_forall_not_mem.2
    intro i hi;have:=hr i hi;omega
   ·rw[List.drop_of_length_le (by simp;omega)]at h;exact h
  | succ fuel =>
   have hks:k<ops.size:=by omega
   have hke:=l8_ hks;have hdrop:ops.toList.drop k=ops[k] :: ops.toList.drop (k+1):=by
    rw[List.drop_eq_getElem_cons (by simpa using hks)];simp
   rw[hdrop]at h;have hready:k∈Region.ready .any ops listed:=mem_ready.2 ⟨by rw[hld k hks];simp,_,hke,fun e he hb=>by rw[hl];simpa using (hok k _ hke).direct e he hb⟩;refine⟨fun h0=>(by rw[h0]at hready;cases hready),fun i hi=>?_⟩;obtain⟨rfl,_⟩:=hr i hi;unfold wpOp;simp only[hke];have hw:Region.wanted ops[i] (yielded ops a.tmps)=true:=by simp[Region.wanted,(hok i _ hke).guard]
   simp only[wpList,hw,if_true]at h⊢;have nxt:∀ a w,wpList P ops Q (ops.toList.drop (i+1)) a w→wpAny P .any ops Q fuel (listed.setIfInBounds i true) a w:=fun a w h =>
    p4_ hok fuel (i+1) _ a w (by omega) (by omega) (by simpa using hls) (fun j=>by
     by_cases e:i=j
     ·subst e;simp[m2_,Array.getElem?_setIfInBounds,hls,hks]
     ·rw[getD_set_ne _ e,hl];congr 1
      rw[eq_iff_iff];omega) h
   rcases h with h | h
   ·exact .inl (Oper.wp_mono nxt h)
   ·exact .inr h
theorem g2j (hB:netB ops D m=true) (hst:∀ s∈sp,s.stable) (hdo:∀ i o,i<m→ops[i]?=some o→Y8_ P ops sp D a0 w0 i o)
  (hend:∀ x w,Below w0.heap.size w0 w→(∀ i,i<m→k1_ sp D x i w)→(∀ i,i<m→w0.heap.size≤x.lo i∧x.lo i≤x.hi i∧x.hi i≤w.heap.size)→(∀ i j,i<m→j<m→i≠j→x.hi i≤x.lo j∨x.hi j≤x.lo i)→wpList P ops Q (ops.toList.drop m) (c5_ ops a0 x.v m) w) :
  ∀ (fuel:Nat) (listed:Array Bool) (x:Gh) (w:World),((List.range ops.size).filter fun j=>!listed.getD j false).length=fuel→listed.size=ops.size→(∀ j,m≤j→listed.getD j false=false) →
   (∀ i,listed.getD i false=true→∀ j∈D.getD i [],listed.getD j false=true)→Below w0.heap.size w0 w→(∀ i,listed.getD i false=true→k1_ sp D x i w)→(∀ i,listed.getD i false=true→w0.heap.size≤x.lo i∧x.lo i≤x.hi i∧x.hi i≤w.heap.size) →
   (∀ i j,listed.getD i false=true→listed.getD j false=true→i≠j→x.hi i≤x.lo j∨x.hi j≤x.lo i) →
   wpAny P .any ops Q fuel listed (actP ops a0 x.v (fun j=>listed.getD j false) ops.size) w:=by
 simp only[netB,l9_,decide_eq_true_eq]at hB;obtain⟨⟨hm,hns⟩,hnf⟩:=hB;have hok:∀ i o,ops[i]?=some o→NetOk ops D m i o:=fun i o ho=>t4_ (by
  have:=m7_ ops.toList 0 hnf i o (by simpa using ho);simpa using this)
 have hst':∀ i,(sp.getD i (.eq undef)).stable:=fun i=>by
  rw[l1_];rcases h:sp[i]? with _ | s
  ·trivial
  ·exact hst s (l4_ h)
 intro fuel;induction fuel with
 | zero =>
  intro listed x w hc hls hlm hcl hb hkn hiv hdj;have hall:∀ j,j<ops.size→listed.getD j false=true:=fun j hj=>by
   rw[List.length_eq_zero_iff,List.filter_eq_nil_iff]at hc;have:=hc j (List.mem_range.2 hj);simpa using this
  have hms:m=ops.size:=by
   rcases Nat.lt_or_ge m ops.size with h | h
   ·have:=hall m h;rw[hlm m (l_ _)]at this;cases this
   ·omega
  refine p4_ hok 0 ops.size listed _ w (by omega) (by omega) hls (fun j=>?_) ?_
  ·by_cases hj:j<ops.size
   ·rw[hall j hj];simp[hj]
   ·rw[hlm j (by omega)];simp[hj]
  ·have:=hend x w hb (fun i hi=>hkn i (hall i (by omega))) (fun i hi=>hiv i (hall i (by omega))) (fun i j hi hj=>hdj i j (hall i (by omega)) (hall j (by omega)));rw[←f6_ (p:=fun j=>listed.getD j false) m (fun j hj=>hall j (by omega))]at this;rwa[hms]at this
 | succ fuel ih =>
  intro listed x w hc hls hlm hcl hb hkn hiv hdj;by_cases hfull:∀ j,j<m→listed.getD j false=true
  · -- the tail
   have hl:∀ j,listed.getD j false=decide (j<m):=fun j=>by
    by_cases hj:j<m
    ·rw[hfull j hj];simp[hj]
    ·rw[hlm j (by omega)];simp[hj]
   have hcnt:fuel+1+m=ops.size:=by
    rw[←hc];have e:(List.range ops.size).filter (fun j=>!listed.getD j false)=(List.range' m (ops.size-m)):=by
     have e1:(List.range ops.size)=List.range m ++ List.range' m (ops.size-m):=by
      have h:=List.range'_append_1 (s:=0) (m:=m) (n:=ops.size-m);rw[Nat.zero_add]at h;rw[List.range_eq_range',List.range_eq_range',h];congr 1
      omega
     rw[e1,List.filter_append];rw[List.filter_eq_nil_iff.2 (fun j hj=>by rw[hl];simp at hj⊢;exact hj),List.nil_append];rw[List.filter_eq_self.2 (fun j hj=>by rw[hl];simp[List.mem_range']at hj⊢;omega)]
    rw[e,List.length_range'];omega
   refine p4_ hok (fuel+1) m listed _ w (by omega) (l_ _) hls hl ?_;have:=hend x w hb (fun i hi=>hkn i (hfull i hi)) (fun i hi=>hiv i (hfull i hi)) (fun i j hi hj=>hdj i j (hfull i hi) (hfull j hj));rw[←f6_ (p:=fun j=>listed.getD j false) m hfull]at this;rwa[f5_ (p:=fun j=>listed.getD j false) ops.size m hm (fun j h1 _=>hlm j h1)]
  · -- one of the net
   have hne:Region.ready .any ops listed≠[]:=by
    intro h0;have:∀ n,∀ j,j<n→j<m→listed.getD j false=true:=by
     intro n;induction n with
     | zero=>intro j hj;omega
     | succ n ihn =>
      intro j hj hjm;by_cases e:j<n
      ·exact ihn j e hjm
      ·rcases hlj:listed.getD j false with _ | _
       ·exfalso
        have hjs:j<ops.size:=by omega
        have hje:=l8_ hjs;have:j∈Region.ready .any ops listed:=mem_ready.2 ⟨by
         rw[←hlj];simp[m2_,l8_ (show j<listed.size by omega)],_,hje,fun e he hb=>by
         have:=(hok j _ hje).direct e he hb;exact ihn e.on (by omega) (by omega)⟩
        rw[h0]at this;cases this
       ·rfl
    exact hfull fun j hj=>this (j+1) j (by omega) hj
   refine⟨fun h0=>absurd h0 hne,fun i hi=>?_⟩;obtain⟨h0,o,ho,hall⟩:=mem_ready.1 hi;have his:=(Array.getElem?_eq_some_iff.1 ho).1;have hO:=hok i o ho;have hDl:∀ j∈D.getD i [],listed.getD j false=true:=hO.danc (fun j=>listed.getD j false=true) hall (fun k hk j hj=>hcl k hk j hj);have him:i<m:=by
    rcases Nat.lt_or_ge i m with h | h
    ·exact h
    ·exact absurd (fun j hj=>hDl j (hO.tail h j (by omega))) hfull
   have hli:listed.getD i false=false:=by
    rw[←h0];simp[m2_,l8_ (show i<listed.size by omega)]
   have hpre:=hdo i o him ho x w hb (fun j hj=>⟨hkn j (hDl j hj),(hiv j (hDl j hj)).2.2⟩) (fun e b w'=>e = .normal∧∃ u,b=(c5_ ops a0 x.v i).put o.dst u∧(Below w.heap.size w w'∧(sp.getD i (.eq undef)).holds i (D.getD i []) (x.set i u w.heap.size w'.heap.size) w'))
    (fun u w' h1 h2=>⟨rfl,u,rfl,h1,h2⟩)
   have hwant:∀ b:Act,Region.wanted o (yielded ops b.tmps)=true:=fun b=>by simp[Region.wanted,hO.guard]
   have hnl:¬ LetsOut (fun (e:Exit) (b:Act) (w':World)=>e = .normal∧∃ u,b=(c5_ ops a0 x.v i).put o.dst u∧(Below w.heap.size w w'∧(sp.getD i (.eq undef)).holds i (D.getD i []) (x.set i u w.heap.size w'.heap.size) w')):=by
    rintro⟨b,w',h,_⟩;cases h
   simp only[wpList,hwant,if_true]at hpre;rcases hpre with hpre | hpre
   case inr=>exact absurd hpre.2 hnl
   simp only[true_and]at hpre;have hexec:execOp (actP ops a0 x.v (fun j=>listed.getD j false) ops.size).eval o=execOp (c5_ ops a0 x.v i).eval o:=by
    refine execOp_congr o (fun cs b=>Region.noSelect_spec hns i o cs b ho) fun y hx=>?_
    by_cases hxt:∃ t,y = .tmp t
    ·obtain⟨t,rfl⟩:=hxt;have hlook:t∈o.looksAt ops:=List.mem_append_left _ (List.mem_filterMap.2 ⟨.tmp t,by simpa using hx,rfl⟩);have e1:c5_ ops a0 x.v i=actP ops a0 x.v (fun j=>decide (j<i)) ops.size:=by
      rw[f5_ (p:=fun j=>decide (j<i)) ops.size i (by omega) (fun j h1 _=>by simp;omega)];exact (f6_ (p:=fun j=>decide (j<i)) i (fun j hj=>by simp[hj])).symm
     rw[e1];refine p8_ t ops.size fun j hj hd=>?_
     rcases hO.looks j t hd hlook with h | h
     ·rw[hDl j h];have:=hO.dlt j h;simp[this]
     ·have hlt:=(hok j _ (l8_ hj)).dlt i h;have:listed.getD j false=false:=by
       rcases hlj:listed.getD j false with _ | _
       ·rfl
       ·have:=hcl j hlj i h;rw[hli]at this;cases this
      rw[this];simp;omega
    ·exact p5_ y (fun t h=>hxt ⟨t,h⟩) _ _
   have hsz:(c5_ ops a0 x.v i).tmps.size=(actP ops a0 x.v (fun j=>listed.getD j false) ops.size).tmps.size:=by
    rw[g7_,←f6_ (p:=fun _=>true) i (fun _ _=>rfl),g7_]
   have hT:=o1_ (Q2:=Q) hexec hsz (fun c b w' h=>by cases h.1) hnl hpre;unfold wpOp;simp only[ho,hwant,if_true];refine .inl (Oper.wp_mono ?_ hT);rintro b w' ⟨u,rfl,hbw,hh⟩;have hdst:o.dst=j6_ ops i:=by simp[j6_,ho]
   have hlq:∀ j,(listed.setIfInBounds i true).getD j false=(listed.getD j false || j == i):=fun j=>by
    by_cases e:i=j
    ·subst e;simp[m2_,Array.getElem?_setIfInBounds,hls,his]
    ·rw[getD_set_ne _ e];simp[Ne.symm e]
   rw[hdst,u0_ (v':=(x.set i u w.heap.size w'.heap.size).v) (q:=fun j=>(listed.setIfInBounds i true).getD j false) (fun j hj _=>by simp[Gh.set,hj]) (by simp[Gh.set]) hli hlq (fun j d hij hlj hdj hdi=>by
    rcases hO.dsts j d (by omega) hdj hdi with h | h
    ·have:=hO.dlt j h;omega
    ·have:=hcl j hlj i h;rw[hli]at this;cases this) ops.size his]
   refine ih _ _ _ ?_ (by simpa using hls) (fun j hj=>by rw[hlq,hlm j hj];simp;omega) (fun k hk j hj=>?_) (hb.trans (hbw.mono hb.size)) (fun k hk=>?_) (fun k hk=>?_) (fun k j hk hj hkj=>?_)
   · -- the count
    have hmem:i∈(List.range ops.size).filter fun j=>!listed.getD j false:=by
     rw[List.mem_filter];exact⟨List.mem_range.2 his,by rw[hli];rfl⟩
    have e:(List.range ops.size).filter (fun j=>!(listed.setIfInBounds i true).getD j false)=((List.range ops.size).filter fun j=>!listed.getD j false).filter (fun j=>j != i):=by
     rw[List.filter_filter];congr 1
     funext j
     rw[hlq];simp[Bool.not_or,Bool.and_comm,bne]
    have hnd:((List.range ops.size).filter fun j=>!listed.getD j false).Nodup:=List.nodup_range.filter _;rw[e];have:=List.length_erase_of_mem hmem;rw[hnd.erase_eq_filter,hc]at this;simpa using this
   ·rw[hlq]at hk⊢;simp only[Bool.or_eq_true,beq_iff_eq]at hk⊢;rcases hk with hk | rfl
    ·exact .inl (hcl k hk j hj)
    ·exact .inl (hDl j hj)
   ·rw[hlq]at hk;simp only[Bool.or_eq_true,beq_iff_eq]at hk;unfold k1_;by_cases e:k=i
    ·subst e;exact hh
    ·rcases hk with hk | hk
     ·refine NS.holds_congr (x:=x) (fun j hj=>?_) (NS.holds_stable (hst' k) (hkn k hk) hbw);have hji:j≠i:=by
       rcases hj with rfl | hj
       ·exact e
       ·rintro rfl;have:=hcl k hk j hj;rw[hli]at this;cases this
      simp[Gh.set,hji]
     ·exact absurd hk e
   ·rw[hlq]at hk;simp only[Bool.or_eq_true,beq_iff_eq]at hk;by_cases e:k=i
    ·subst e;simp only[Gh.set,if_true];exact⟨hb.size,hbw.size,l_ _⟩
    ·have:=hiv k (hk.resolve_right e);have:=hbw.size;simp only[Gh.set,if_neg e];omega
   ·rw[hlq]at hk hj;simp only[Bool.or_eq_true,beq_iff_eq]at hk hj;by_cases e:k=i
    ·subst e;have:=hiv j (hj.resolve_right (Ne.symm hkj));simp only[Gh.set,if_true,if_neg (Ne.symm hkj)];exact .inr (by omega)
    ·by_cases e':j=i
     ·subst e';have:=hiv k (hk.resolve_right e);simp only[Gh.set,if_true,if_neg e];exact .inl (by omega)
     ·simp only[Gh.set,if_neg e,if_neg e'];exact hdj k j (hk.resolve_right e) (hj.resolve_right e') hkj
theorem b3_ (n j:Nat):(Array.replicate n false).getD j false=false:=by
 rw[m2_,Array.getElem?_replicate];split <;> rfl
def t9_:List NS→Prop
 | []=>True
 | s :: l=>s.stable∧t9_ l
theorem k6_:∀ {l:List NS},t9_ l→∀ s∈l,s.stable
 | [],_,s,hs=>by simp at hs
 | a :: l,h,s,hs=>by
  rcases List.mem_cons.1 hs with rfl | hs
  ·exact h.1
  ·exact k6_ h.2 s hs
def Y7_ (P:Program) (ops:Array Oper) (sp:List NS) (D:List (List Nat)) (a0:Act) (w0:World):Nat→List Oper→Prop
 | _,[]=>True
 | i,o :: l=>Y8_ P ops sp D a0 w0 i o∧Y7_ P ops sp D a0 w0 (i+1) l
theorem u3_ {ops:Array Oper} {sp:List NS} {D:List (List Nat)} {a0:Act} {w0:World}:∀ (l:List Oper) (k:Nat),Y7_ P ops sp D a0 w0 k l→∀ j o,l[j]?=some o→Y8_ P ops sp D a0 w0 (k+j) o
 | [],_,_,_,_,h=>by simp at h
 | x :: l,k,h,0,o,hj=>by
  simp at hj;subst hj;exact h.1
 | x :: l,k,h,j+1,o,hj=>by
  have:=u3_ l (k+1) h.2 j o (by simpa using hj);rwa[show k+1+j=k+(j+1) by omega]at this
def rel (i:Nat) (R:Value→Nat→Nat→World→Prop):NS:=.rel fun x w=>R (x.v i) (x.lo i) (x.hi i) w
theorem a7_ {i:Nat} {R:Value→Nat→Nat→World→Prop} (h:∀ u lo hi w w',R u lo hi w→Below w.heap.size w w'→R u lo hi w'):(rel i R).stable:=fun v w w' hr hb=>h _ _ _ _ _ hr hb
theorem a9_ {id:Nat} {l:List Oper} {w:World} (hmo:P.follows .mixedOrders=true) (sp:List NS) (D:List (List Nat)) (m:Nat) (hB:netB l.toArray D m=true) (hst:t9_ sp)
  (hdo:Y7_ P l.toArray sp D a0 w 0 (l.take m))
  (hend:∀ x w',Below w.heap.size w w'→(∀ i,i<m→k1_ sp D x i w')→(∀ i,i<m→w.heap.size≤x.lo i∧x.lo i≤x.hi i∧x.hi i≤w'.heap.size)→(∀ i j,i<m→j<m→i≠j→x.hi i≤x.lo j∨x.hi j≤x.lo i)→wpList P l.toArray Q (l.drop m) (c5_ l.toArray a0 x.v m) w'):(Code.region id l.toArray true).wp P Q a0 w:=by
 replace hst:=k6_ hst;have hdo:∀ i o,i<m→l[i]?=some o→Y8_ P l.toArray sp D a0 w.drew i o:=fun i o hi ho=>by
  have:=u3_ (l.take m) 0 hdo i o (by rw[List.getElem?_take,if_pos hi];exact ho);rw[Nat.zero_add]at this;exact fun v w1 hb=>this v w1 ⟨hb.os,hb.tape,hb.output,hb.size,hb.block⟩
 refine wp_region_any hmo ?_;have h:=g2j (w0:=w.drew) (a0:=a0) (Q:=Q) (P:=P) (sp:=sp) hB hst (fun i o hi ho=>hdo i o hi (by simpa using ho)) (fun x w' hb hk hiv hdj=>by simpa using hend x w' (show Below w.heap.size w w' from ⟨hb.os,hb.tape,hb.output,hb.size,hb.block⟩) hk hiv hdj)
  l.toArray.size (Array.replicate l.toArray.size false) ⟨fun _=>undef,fun _=>0,fun _=>0⟩ w.drew
  (by rw[List.filter_eq_self.2 (fun j _=>by rw[b3_];rfl),List.length_range])
  (by simp) (fun j _=>b3_ _ _)
  (fun i hi=>by rw[b3_]at hi;cases hi)
  br_
  (fun i hi=>by rw[b3_]at hi;cases hi)
  (fun i hi=>by rw[b3_]at hi;cases hi)
  (fun i j hi=>by rw[b3_]at hi;cases hi)
 have e:actP l.toArray a0 (fun _=>undef) (fun j=>(Array.replicate l.toArray.size false).getD j false) l.toArray.size=a0 :=
  f5_ l.toArray.size 0 (by omega) (fun j _ _=>b3_ _ _)
 rw[e]at h;exact h
end
end
def q_O:NS→Nat→Gh→Prop
 | .eq u,j,x=>x.v j=u
 | .rel _,_,_=>True
def q_L (sp:List NS) (x:Gh):List Nat→Prop
 | []=>True
 | j :: r=>q_O (sp.getD j (.eq undef)) j x∧q_L sp x r
theorem k_l {sp:List NS} {D:List (List Nat)} {x:Gh} {w:World} {P:Nat→Prop}:∀ {l:List Nat},(∀ j∈l,k1_ sp D x j w∧P j)→q_L sp x l
 | [],_=>trivial
 | j :: r,h=>by
  refine⟨?_,k_l fun i hi=>h i (List.mem_cons_of_mem _ hi)⟩;have h1:=(h j List.mem_cons_self).1;unfold k1_ at h1;cases e:sp.getD j (.eq undef) with
  | eq u=>rw[e]at h1;exact h1
  | rel R=>trivial
theorem k_e {sp:List NS} {D:List (List Nat)} {x:Gh} {w:World} {l:List Nat} (h:∀ j∈l,k1_ sp D x j w∧x.hi j≤w.heap.size):q_L sp x l:=k_l h
theorem k_s:(∀ sp x,q_L sp x []=True)∧(∀ sp x j r,q_L sp x (j :: r)=(q_O (sp.getD j (.eq undef)) j x∧q_L sp x r))∧(∀ u j x,q_O (.eq u) j x=(x.v j=u))∧(∀ R j x,q_O (.rel R) j x=True)∧(∀ i R j x,q_O (rel i R) j x=True)∧(∀ (a:List Nat) l d,(a :: l).getD 0 d=a)∧(∀ (a:List Nat) l n d,(a :: l).getD (n+1) d=l.getD n d)∧(∀ (a:NS) l d,(a :: l).getD 0 d=a)∧(∀ (a:NS) l n d,(a :: l).getD (n+1) d=l.getD n d)∧(∀ p:Prop,(p∧True)=p)∧(∀ p:Prop,(True∧p)=p) :=
 ⟨fun _ _=>rfl,fun _ _ _ _=>rfl,fun _ _ _=>rfl,fun _ _ _=>rfl,fun _ _ _ _=>rfl,fun _ _ _=>rfl,fun _ _ _ _=>rfl,fun _ _ _=>rfl,fun _ _ _ _=>rfl,fun p=>by simp,fun p=>by simp⟩
theorem k_g {sp:List NS} {D:List (List Nat)} {x:Gh} {w:World} {M:Nat→Prop} (hk:∀ j,M j→k1_ sp D x j w) (l:List Nat) (h:∀ j∈l,M j:=by decide):q_L sp x l:=k_l (P:=fun _=>True) fun j hj=>⟨hk j (h j hj),trivial⟩
theorem n_e {x:Gh} {i:Nat} {u:Value} (h:x.v i=u):x.v i=u:=h
theorem n_f {M P Q:Nat→Prop} (hk:∀ j,M j→P j∧Q j) (j:Nat) (h:M j:=by decide):P j:=(hk j h).1
theorem n_g {M P:Nat→Prop} (hk:∀ j,M j→P j) (j:Nat) (h:M j:=by decide):P j:=hk j h
theorem T0_:(Tryz.prog.info? 24).map (fun i=>(i.zero,i.size,i.bytes))=some (some (.slice none 0 0),1,24):=by kernel_rfl
def OutO (w:World) (lo hi:Nat) (v:Value) (vs:List Value):Prop:=w.ownsRow lo 24 1 v vs.length vs∧(∀ k,v.ownBlock=some k→k<hi)∧vs.length≤17592186044416
theorem OutO.form {w:World} {lo hi:Nat} {v:Value} {vs:List Value} (h:OutO w lo hi v vs):∃ A c,v = .slice A vs.length c∧vs.length≤c∧c≤9223372036854775807:=by
 rcases h.1.2 with ⟨rfl,h0⟩ | ⟨g,cap,cur,rfl,_,_,hnc,hcm,_⟩
 ·exact⟨none,0,by rw[h0],by omega,by omega⟩
 ·exact⟨_,_,rfl,hnc,by simp only[maxLen]at hcm;omega⟩
theorem OutO.chg {w w':World} {lo hi lo' hi':Nat} {v:Value} {vs:List Value} (h:OutO w lo hi v vs) (hc:Chg lo' hi' w w') (hd:hi≤lo'∨hi'≤lo):OutO w' lo hi v vs:=by
 refine⟨⟨h.1.1,?_⟩,h.2⟩;rcases h.1.2 with h1 | ⟨g,cap,cur,rfl,hg,hh,rest⟩
 ·exact .inl h1
 ·have:=h.2.1 g (by simp[Value.ownBlock]);exact .inr ⟨g,cap,cur,rfl,hg,(hc.block g (Array.getElem?_eq_some_iff.1 hh).1 (by omega)).trans hh,rest⟩
theorem OutO.below {w w':World} {lo hi:Nat} {v:Value} {vs:List Value} (h:OutO w lo hi v vs) (hb:Below w.heap.size w w'):OutO w' lo hi v vs :=
 ⟨h.1.kept (row:=none) ⟨hb.os,hb.tape,hb.output,hb.size,fun k hk _=>hb.block k hk⟩ (by cases v.ownBlock <;> simp),h.2⟩
theorem OutO.grown {w w':World} {lo hi base:Nat} {v u:Value} {vs:List Value} {l:List Int} (h:OutO w lo hi v vs) (ho:OwnI w base u l) (hg:w.grownBy w' u.ownBlock):OutO w' lo hi v vs:=by
 refine⟨h.1.kept hg ?_,h.2⟩;rcases h.1.2 with ⟨rfl,_⟩ | ⟨g,cap,cur,rfl,_,hh,_⟩
 ·exact .inl rfl
 ·right
  exact fun e=>ho.blkne (g:=g) (t:=24) (cs:=cur) hh (by decide) e
theorem OutO.mono {w:World} {lo hi lo' hi':Nat} {v:Value} {vs:List Value} (h:OutO w lo hi v vs) (h1:lo'≤lo) (h2:hi≤hi'):OutO w lo' hi' v vs:=by
 refine⟨⟨h.1.1,?_⟩,fun k hk=>Nat.lt_of_lt_of_le (h.2.1 k hk) h2,h.2.2⟩;rcases h.1.2 with h3 | ⟨g,cap,cur,e,hg,rest⟩
 ·exact .inl h3
 ·exact .inr ⟨g,cap,cur,e,by omega,rest⟩
theorem OutO.set {w:World} {lo hi g:Nat} {v:Value} {vs:List Value} {t:TypeId} {cs:Array Value} (h:OutO w lo hi v vs) (hb:Blk w g t cs) (ht:24≠t) (i:Nat) (u:Value):OutO (w.setCell ⟨g,i,none⟩ u) lo hi v vs:=by
 refine⟨h.1.kept (row:=some g) ⟨rfl,rfl,rfl,by simp[World.setCell],fun k _ hne=>Below.heap_setCell _ _ _ _ (fun e=>hne (by rw[e]))⟩ ?_,h.2⟩;rcases h.1.2 with ⟨rfl,_⟩ | ⟨g',cap,cur,rfl,_,hh,_⟩
 ·exact .inl rfl
 ·right
  intro e;have:g'=g:=by simpa [Value.ownBlock] using e
  subst this;unfold Blk at hb;rw[hh]at hb;injection hb with hb
  injection hb with _ hb
  exact ht hb
def b4_ (w:World) (lo hi:Nat) (v:Value) (ll:List (List Int)):Prop:=∃ vs,OutO w lo hi v vs∧vs.length=ll.length∧Fam w lo hi (vs.zip ll)
theorem OutO.rd {w:World} {lo hi:Nat} {v:Value} {vs:List Value} {ll:List (List Int)} (h:OutO w lo hi v vs) (hl:vs.length=ll.length) (hr:∀ p∈vs.zip ll,SlI w w.heap.size p.1 p.2):SlII w w.heap.size v ll:=by
 obtain⟨h1,h2,h3⟩:=h;rcases h1.2 with ⟨rfl,h0⟩ | ⟨g,cap,cur,rfl,_,hg,hnc,hcm,hcs,htake⟩
 ·obtain rfl:ll=[]:=m1_ (by omega);exact SlG.nil
 ·rw[hl]at hnc h1 h3⊢;refine⟨_,_,rfl,hnc,by simp only[maxLen]at hcm;omega,h3,fun hp=>⟨g,0,rfl,(Array.getElem?_eq_some_iff.1 hg).1,fun j x hj=>?_⟩⟩;have hjl:=a6_ hj;have hc:=h1.cellAt j (by omega);rw[l2_ (by omega)]at hc;refine⟨vs[j]'(by omega),by rw[show 0+j*1=j by omega];exact hc,hr (vs[j]'(by omega),x) ?_⟩;rw[List.mem_iff_getElem?];exact⟨j,by rw[List.getElem?_zip_eq_some];exact⟨l2_ (by omega),hj⟩⟩
theorem b4_.rd {w:World} {lo hi:Nat} {v:Value} {ll:List (List Int)} (h:b4_ w lo hi v ll):SlII w w.heap.size v ll:=by
 obtain⟨vs,h1,h2,h3⟩:=h;exact h1.rd h2 fun p hp=>(h3.1 p hp).rd
theorem b4_.chg {w w':World} {lo hi lo' hi':Nat} {v:Value} {ll:List (List Int)} (h:b4_ w lo hi v ll) (hc:Chg lo' hi' w w') (hd:hi≤lo'∨hi'≤lo):b4_ w' lo hi v ll:=by
 obtain⟨vs,h1,h2,h3⟩:=h;exact⟨vs,h1.chg hc hd,h2,h3.chg hc hd⟩
theorem b4_.below {w w':World} {lo hi:Nat} {v:Value} {ll:List (List Int)} (h:b4_ w lo hi v ll) (hb:Below w.heap.size w w'):b4_ w' lo hi v ll:=by
 obtain⟨vs,h1,h2,h3⟩:=h;exact⟨vs,h1.below hb,h2,h3.below hb⟩
theorem SlII.chg {w w':World} {B lo hi:Nat} {v:Value} {ll:List (List Int)} (h:SlII w B v ll) (hc:Chg lo hi w w') (hB:B≤lo) (hs:B≤w.heap.size):SlII w' B v ll:=SlII.below (hc.below hB hs) h
theorem Fam.snoc {w:World} {lo mi hi:Nat} {L:List (Value×List Int)} {v:Value} {l:List Int} (h:Fam w lo mi L) (hv:a8_ w mi hi v l) (h1:lo≤mi) (h2:mi≤hi):Fam w lo hi (L ++ [(v,l)]):=by
 refine⟨fun p hp=>?_,?_⟩
 ·rcases List.mem_append.1 hp with hp | hp
  ·exact (h.1 p hp).wider (l_ _) h2
  ·rw[List.mem_singleton]at hp;subst hp;exact hv.wider h1 (l_ _)
 ·rw[List.pairwise_append];refine⟨h.2,by simp,fun a ha b hb=>?_⟩;rw[List.mem_singleton]at hb;subst hb;show a.1.ownBlock=none∨a.1.ownBlock≠v.ownBlock;rcases hA:a.1.ownBlock with _ | x
  ·exact .inl rfl
  ·right
   intro e;have:=(h.1 a ha).2 x hA;have:=(hv.1.lt x e.symm).1;omega
def tot (ll:List (List Int)):Nat:=(ll.map List.length).sum
def mkSS:Int→List (List Int)→List (List Int)
 | _,[]=>[]
 | k,l :: r=>mkI k l.length :: mkSS (k+l.length) r
def b6Z (cs:Array Value) (n:Nat) (vs:List Value):Prop:=cs.size=n∧vs.length≤n∧∀ (j:Nat) (v:Value),vs[j]?=some v→cs[j]?=some v
theorem b6Z.step {cs:Array Value} {n:Nat} {vs:List Value} {v:Value} (h:b6Z cs n vs) (hn:vs.length<n):b6Z (cs.setIfInBounds vs.length v) n (vs ++ [v]):=by
 obtain⟨h1,h2,h3⟩:=h;refine⟨by simpa using h1,by simp;omega,fun j u hu=>?_⟩;by_cases e:j=vs.length
 ·subst e;rw[List.getElem?_append_right (l_ _)]at hu;simp at hu;subst hu;simp[Array.getElem?_setIfInBounds];omega
 ·have hj:j<vs.length:=by have:=a6_ hu;simp at this;omega
  rw[List.getElem?_append_left hj]at hu;rw[Array.getElem?_setIfInBounds,if_neg (by omega)];exact h3 j u hu
theorem b6Z.own {w:World} {g lo:Nat} {cs:Array Value} {vs:List Value} (h:b6Z cs vs.length vs) (hb:Blk w g 24 cs) (hlo:lo≤g) (hn:vs.length≤17592186044416):OutO w lo w.heap.size (.slice (some ⟨g,0,none⟩) vs.length vs.length) vs:=by
 have e:cs.toList.take (vs.length*1)=vs:=by
  apply List.ext_getElem?
  intro j;by_cases hj:j<vs.length
  ·rw[List.getElem?_take,if_pos (by omega),Array.getElem?_toList,l2_ hj];exact h.2.2 j _ (l2_ hj)
  ·rw[List.getElem?_take,if_neg (by omega),l6_ (by omega)]
 have:=hb.own (base:=lo) (n:=vs.length) (cap:=vs.length) (size:=1) hlo (l_ _) (by simp only[maxLen];omega) (by rw[h.1];omega);rw[e]at this;exact⟨this,fun k hk=>by simp[Value.ownBlock]at hk;subst hk;exact hb.lt,hn⟩
def szSS (xs:List (List Int)):Nat:=xs.length+tot xs
theorem k7_ {vs:List Value} {ll:List (List Int)} {j:Nat} {v:Value} {l:List Int} (hv:vs[j]?=some v) (hl:ll[j]?=some l):vs.zip ll=(vs.take j).zip (ll.take j) ++ (v,l) :: (vs.drop (j+1)).zip (ll.drop (j+1)):=by
 have e1:vs=vs.take j ++ v :: vs.drop (j+1):=by
  conv=>lhs;rw[←List.take_append_drop j vs]
  rw[List.drop_eq_getElem_cons (a6_ hv)];have:vs[j]'(a6_ hv)=v:=by rw[l2_ (a6_ hv)]at hv;injection hv
  rw[this]
 have e2:ll=ll.take j ++ l :: ll.drop (j+1):=by
  conv=>lhs;rw[←List.take_append_drop j ll]
  rw[List.drop_eq_getElem_cons (a6_ hl)];have:ll[j]'(a6_ hl)=l:=by rw[l2_ (a6_ hl)]at hl;injection hl
  rw[this]
 conv=>lhs;rw[e1,e2]
 rw[List.zip_append (by simp;have:=a6_ hv;have:=a6_ hl;omega)];rfl
structure Mx where
 r:Int
 c:Int
 a:List Int
deriving DecidableEq
theorem i0x (p q:Mx):(p=q)↔(p.r=q.r∧p.c=q.c∧p.a=q.a):=by
 cases p;cases q;simp
def MxR (w:World) (B:Nat) (val:Value) (m:Mx):Prop:=∃ s,val = .agg #[.int .i64 m.r,.int .i64 m.c,s]∧SlI w B s m.a∧I64 m.r∧I64 m.c
theorem MxR.next {w w':World} {v:Value} {m:Mx} (hb:Below w.heap.size w w') (h:MxR w w.heap.size v m):MxR w' w'.heap.size v m:=by
 obtain⟨s,e,h1,h2⟩:=h;exact⟨s,e,SlI.next hb h1,h2⟩
theorem MxR.below {w w':World} {B:Nat} {v:Value} {m:Mx} (hb:Below B w w') (h:MxR w B v m):MxR w' B v m:=by
 obtain⟨s,e,h1,h2⟩:=h;exact⟨s,e,SlI.below hb h1,h2⟩
theorem MxR.more {w:World} {B B':Nat} {v:Value} {m:Mx} (hB:B≤B') (h:MxR w B v m):MxR w B' v m:=by
 obtain⟨s,e,h1,h2⟩:=h;exact⟨s,e,SlI.more hB h1,h2⟩
theorem MxR.chg {w w':World} {B lo hi:Nat} {v:Value} {m:Mx} (h:MxR w B v m) (hc:Chg lo hi w w') (hB:B≤lo) (hs:B≤w.heap.size):MxR w' B v m:=MxR.below (hc.below hB hs) h
theorem MxR.open_ {w:World} {B:Nat} {v:Value} {m:Mx} (h:MxR w B v m):∃ A c,v = .agg #[.int .i64 m.r,.int .i64 m.c,.slice A m.a.length c]∧SlI w B (.slice A m.a.length c) m.a∧I64 m.r∧I64 m.c∧m.a.length≤17592186044416:=by
 obtain⟨s,rfl,h1,h2,h3⟩:=h;obtain⟨A,c,rfl,_,_,h4,h1⟩:=h1.open_;exact⟨A,c,rfl,h1,h2,h3,h4⟩
theorem MxR.form {w:World} {B:Nat} {v:Value} {m:Mx} (h:MxR w B v m):∃ A c,v = .agg #[.int .i64 m.r,.int .i64 m.c,.slice A m.a.length c]:=by
 obtain⟨A,c,e,_⟩:=h.open_;exact⟨A,c,e⟩
theorem MxR.lens {w:World} {B:Nat} {v:Value} {m:Mx} (h:MxR w B v m):m.a.length≤17592186044416:=by
 obtain⟨A,c,e,_,_,_,h1⟩:=h.open_;exact h1
def RMx (w:World) (B b o:Nat) (m:Mx):Prop:=∃ s,w.cell? ⟨b,o,none⟩=some (.int .i64 m.r)∧w.cell? ⟨b,o+1,none⟩=some (.int .i64 m.c)∧w.cell? ⟨b,o+2,none⟩=some s∧SlI w B s m.a∧I64 m.r∧I64 m.c
abbrev SlM:=SlG 3 RMx
theorem SlM.below {w w':World} {B:Nat} {v:Value} {l:List Mx} (hb:Below B w w') (h:SlM w B v l):SlM w' B v l :=
 SlG.mono (fun _ _ _ hlt ⟨s,h0,h1,h2,hs,hx⟩=>⟨s,a4_ hb hlt h0,a4_ hb hlt h1,a4_ hb hlt h2,SlI.below hb hs,hx⟩) (l_ _) h
theorem SlM.more {w:World} {B B':Nat} {v:Value} {l:List Mx} (hB:B≤B') (h:SlM w B v l):SlM w B' v l :=
 SlG.mono (B:=B) (B':=B') (fun _ _ _ _ ⟨s,h0,h1,h2,hs,hx⟩=>⟨s,h0,h1,h2,SlI.more hB hs,hx⟩) hB h
theorem SlM.next {w w':World} {v:Value} {l:List Mx} (hb:Below w.heap.size w w') (h:SlM w w.heap.size v l):SlM w' w'.heap.size v l:=SlM.more hb.size (SlM.below hb h)
theorem SlM.chg {w w':World} {B lo hi:Nat} {v:Value} {l:List Mx} (h:SlM w B v l) (hc:Chg lo hi w w') (hB:B≤lo) (hs:B≤w.heap.size):SlM w' B v l:=SlM.below (hc.below hB hs) h
theorem SlM.at_ {w:World} {B c:Nat} {A:Option Addr} {xs:List Mx} {k:Nat} (h:SlM w B (.slice A xs.length c) xs) (hk:k<xs.length) :
  ∃ b o m A' c',A=some ⟨b,o,none⟩∧b<B∧Hid (xs[k]?=some m)∧w.cell? ⟨b,o+k*3,none⟩=some (.int .i64 m.r)∧w.cell? ⟨b,o+k*3+1,none⟩=some (.int .i64 m.c)∧w.cell? ⟨b,o+k*3+2,none⟩=some (.slice A' m.a.length c') ∧
   SlI w B (.slice A' m.a.length c') m.a∧(-9223372036854775808≤m.r∧m.r≤9223372036854775807)∧(-9223372036854775808≤m.c∧m.c≤9223372036854775807)∧m.a.length≤17592186044416:=by
 obtain⟨A',c',e,h1,h2,h3,h4⟩:=h;injection e with e1 e2 e3;subst e1
 obtain⟨b,o,rfl,hb,hc⟩:=h4 (by omega);have hx:xs[k]?=some xs[k]:=l2_ hk;obtain⟨s,c0,c1,c2,hs,hr,hcc⟩:=hc k _ hx;obtain⟨A2,c3,rfl,_,_,h5,hs⟩:=hs.open_;exact⟨b,o,xs[k],A2,c3,rfl,hb,hx,c0,c1,c2,hs,hr,hcc,h5⟩
def RowO (T:TypeId) (sz:Nat) (w:World) (lo hi:Nat) (v:Value) (n:Nat) (cs:List Value):Prop:=w.ownsRow lo T sz v n cs∧(∀ k,v.ownBlock=some k→k<hi)∧n≤17592186044416
section
variable {T:TypeId} {sz:Nat} {w w':World} {lo hi:Nat} {v:Value} {n:Nat} {cs:List Value}
theorem RowO.form (h:RowO T sz w lo hi v n cs):∃ A c,v = .slice A n c∧n≤c∧c≤9223372036854775807:=by
 rcases h.1.2 with ⟨rfl,h0⟩ | ⟨g,cap,cur,rfl,_,_,hnc,hcm,_⟩
 ·exact⟨none,0,by rw[h0],by omega,by omega⟩
 ·exact⟨_,_,rfl,hnc,by simp only[maxLen]at hcm;omega⟩
theorem RowO.at_ (h:RowO T sz w lo hi v n cs) (h0:0<n):∃ g c cur,v = .slice (some ⟨g,0,none⟩) n c∧lo≤g∧g<hi∧g<w.heap.size∧Blk w g T cur:=by
 rcases h.1.2 with ⟨rfl,h1⟩ | ⟨g,cap,cur,rfl,hg,hh,_⟩
 ·omega
 ·exact⟨g,cap,cur,rfl,hg,h.2.1 g rfl,(Array.getElem?_eq_some_iff.1 hh).1,hh⟩
theorem RowO.chg {lo' hi':Nat} (h:RowO T sz w lo hi v n cs) (hc:Chg lo' hi' w w') (hd:hi≤lo'∨hi'≤lo):RowO T sz w' lo hi v n cs:=by
 refine⟨⟨h.1.1,?_⟩,h.2⟩;rcases h.1.2 with h1 | ⟨g,cap,cur,rfl,hg,hh,rest⟩
 ·exact .inl h1
 ·have:=h.2.1 g (by simp[Value.ownBlock]);exact .inr ⟨g,cap,cur,rfl,hg,(hc.block g (Array.getElem?_eq_some_iff.1 hh).1 (by omega)).trans hh,rest⟩
theorem RowO.below (h:RowO T sz w lo hi v n cs) (hb:Below w.heap.size w w'):RowO T sz w' lo hi v n cs :=
 ⟨h.1.kept (row:=none) ⟨hb.os,hb.tape,hb.output,hb.size,fun k hk _=>hb.block k hk⟩ (by cases v.ownBlock <;> simp),h.2⟩
theorem RowO.mono {lo' hi':Nat} (h:RowO T sz w lo hi v n cs) (h1:lo'≤lo) (h2:hi≤hi'):RowO T sz w lo' hi' v n cs:=by
 refine⟨⟨h.1.1,?_⟩,fun k hk=>Nat.lt_of_lt_of_le (h.2.1 k hk) h2,h.2.2⟩;rcases h.1.2 with h3 | ⟨g,cap,cur,e,hg,rest⟩
 ·exact .inl h3
 ·exact .inr ⟨g,cap,cur,e,by omega,rest⟩
theorem RowO.set {g:Nat} {t:TypeId} {bs:Array Value} (h:RowO T sz w lo hi v n cs) (hb:Blk w g t bs) (ht:T≠t) (i:Nat) (u:Value):RowO T sz (w.setCell ⟨g,i,none⟩ u) lo hi v n cs:=by
 refine⟨h.1.kept (row:=some g) ⟨rfl,rfl,rfl,by simp[World.setCell],fun k _ hne=>Below.heap_setCell _ _ _ _ (fun e=>hne (by rw[e]))⟩ ?_,h.2⟩;rcases h.1.2 with ⟨rfl,_⟩ | ⟨g',cap,cur,rfl,_,hh,_⟩
 ·exact .inl rfl
 ·right
  intro e;have:g'=g:=by simpa [Value.ownBlock] using e
  subst this;unfold Blk at hb;rw[hh]at hb;injection hb with hb
  injection hb with _ hb
  exact ht hb
theorem RowO.grown {base:Nat} {u:Value} {l:List Int} (h:RowO T sz w lo hi v n cs) (hT:3≠T) (ho:OwnI w base u l) (hg:w.grownBy w' u.ownBlock):RowO T sz w' lo hi v n cs:=by
 refine⟨h.1.kept hg ?_,h.2⟩;rcases h.1.2 with ⟨rfl,_⟩ | ⟨g,cap,cur,rfl,_,hh,_⟩
 ·exact .inl rfl
 ·right
  exact fun e=>ho.blkne (g:=g) (t:=T) (cs:=cur) hh hT e
theorem RowO.stored {g c:Nat} (h:RowO T sz w lo hi (.slice (some ⟨g,0,none⟩) n c) n cs) (j:Nat) (u:Value):RowO T sz (w.setCell ⟨g,j,none⟩ u) lo hi (.slice (some ⟨g,0,none⟩) n c) n (cs.set j u)∧Chg lo hi w (w.setCell ⟨g,j,none⟩ u):=by
 have hs:=h.1.stored j u;refine⟨⟨hs.1,h.2⟩,⟨hs.2.os,hs.2.tape,hs.2.output,hs.2.size,fun k hk hne=>hs.2.block k hk (fun e=>?_)⟩⟩;have h1:=h.2.1 k (by simp[Value.ownBlock];injection e with e;exact e.symm);have h2:=(h.1.lt k (by simp[Value.ownBlock];injection e with e;exact e.symm)).1;omega
end
theorem RowO.nil (T:TypeId) {sz:Nat} (w:World) (lo hi:Nat):RowO T sz w lo hi (.slice none 0 0) 0 []:=⟨⟨by simp,.inl ⟨rfl,rfl⟩⟩,by simp[Value.ownBlock],by omega⟩
def mxCs:List Value→List Mx→List Value
 | v :: vs,m :: ms => .int .i64 m.r :: .int .i64 m.c :: v :: mxCs vs ms
 | _,_=>[]
theorem A2_:∀ (vs:List Value) (ms:List Mx),vs.length=ms.length→(mxCs vs ms).length=ms.length*3
 | [],[],_=>rfl
 | v :: vs,m :: ms,h=>by simp only[mxCs,List.length_cons]at h⊢;rw[A2_ vs ms (by omega)];omega
 | [],m :: ms,h=>by simp at h
 | v :: vs,[],h=>by simp at h
theorem x6_:∀ {vs:List Value} {ms:List Mx} {j:Nat} {v:Value} {m:Mx},vs[j]?=some v→ms[j]?=some m →
  (mxCs vs ms)[j*3]?=some (.int .i64 m.r)∧(mxCs vs ms)[j*3+1]?=some (.int .i64 m.c)∧(mxCs vs ms)[j*3+2]?=some v
 | [],_,_,_,_,h,_=>by simp at h
 | _ :: _,[],_,_,_,_,h=>by simp at h
 | v :: vs,m :: ms,0,_,_,h1,h2=>by
  simp at h1 h2;subst h1 h2;simp[mxCs]
 | v :: vs,m :: ms,j+1,_,_,h1,h2=>by
  simp only[List.getElem?_cons_succ]at h1 h2;obtain⟨a,b,c⟩:=x6_ h1 h2;simp only[mxCs,show (j+1)*3=j*3+1+1+1 by omega,show j*3+1+1+1+1=(j*3+1)+1+1+1 by omega,show j*3+1+1+1+2=(j*3+2)+1+1+1 by omega,List.getElem?_cons_succ];exact⟨a,b,c⟩
theorem Y6_:∀ (vs:List Value) (ms:List Mx) (v:Value) (m:Mx),vs.length=ms.length→mxCs (vs ++ [v]) (ms ++ [m])=mxCs vs ms ++ [.int .i64 m.r,.int .i64 m.c,v]
 | [],[],_,_,_=>rfl
 | v :: vs,m :: ms,u,x,h=>by simp only[List.cons_append,mxCs];rw[Y6_ vs ms u x (by simpa using h)]
 | [],m :: ms,_,_,h=>by simp at h
 | v :: vs,[],_,_,h=>by simp at h
abbrev OutM (w:World) (lo hi:Nat) (v:Value) (vs:List Value) (ms:List Mx):Prop:=RowO 65 3 w lo hi v ms.length (mxCs vs ms)
def d8_ (w:World) (lo hi:Nat) (v:Value) (ms:List Mx):Prop:=∃ vs,OutM w lo hi v vs ms∧vs.length=ms.length∧Fam w lo hi (vs.zip (ms.map Mx.a))∧∀ m∈ms,I64 m.r∧I64 m.c
theorem OutM.rd {w:World} {lo hi:Nat} {v:Value} {vs:List Value} {ms:List Mx} (h:OutM w lo hi v vs ms) (hl:vs.length=ms.length) (hr:∀ p∈vs.zip (ms.map Mx.a),SlI w w.heap.size p.1 p.2) (hi:∀ m∈ms,I64 m.r∧I64 m.c):SlM w w.heap.size v ms:=by
 obtain⟨h1,h2,h3⟩:=h;rcases h1.2 with ⟨rfl,h0⟩ | ⟨g,cap,cur,rfl,_,hg,hnc,hcm,hcs,htake⟩
 ·obtain rfl:ms=[]:=m1_ (by omega);exact SlG.nil
 ·refine⟨_,_,rfl,hnc,by simp only[maxLen]at hcm;omega,h3,fun hp=>⟨g,0,rfl,(Array.getElem?_eq_some_iff.1 hg).1,fun j x hj=>?_⟩⟩;have hjl:=a6_ hj;have hv:vs[j]?=some (vs[j]'(by omega)):=l2_ (by omega);obtain⟨a,b,c⟩:=x6_ hv hj;have e:=fun i (hi:i<3)=>h1.cellAt (j*3+i) (by omega)
  refine⟨vs[j]'(by omega),?_,?_,?_,hr (vs[j]'(by omega),x.a) ?_,hi x (l4_ hj)⟩
  ·rw[show 0+j*3=j*3+0 by omega,e 0 (by omega)];exact a
  ·rw[show 0+j*3+1=j*3+1 by omega,e 1 (by omega)];exact b
  ·rw[show 0+j*3+2=j*3+2 by omega,e 2 (by omega)];exact c
  ·rw[List.mem_iff_getElem?];exact⟨j,by rw[List.getElem?_zip_eq_some];exact⟨hv,by simp[hj]⟩⟩
theorem d8_.rd {w:World} {lo hi:Nat} {v:Value} {ms:List Mx} (h:d8_ w lo hi v ms):SlM w w.heap.size v ms:=by
 obtain⟨vs,h1,h2,h3,h4⟩:=h;exact OutM.rd h1 h2 (fun p hp=>(h3.1 p hp).rd) h4
theorem d8_.chg {w w':World} {lo hi lo' hi':Nat} {v:Value} {ms:List Mx} (h:d8_ w lo hi v ms) (hc:Chg lo' hi' w w') (hd:hi≤lo'∨hi'≤lo):d8_ w' lo hi v ms:=by
 obtain⟨vs,h1,h2,h3,h4⟩:=h;exact⟨vs,h1.chg hc hd,h2,h3.chg hc hd,h4⟩
theorem d8_.below {w w':World} {lo hi:Nat} {v:Value} {ms:List Mx} (h:d8_ w lo hi v ms) (hb:Below w.heap.size w w'):d8_ w' lo hi v ms:=by
 obtain⟨vs,h1,h2,h3,h4⟩:=h;exact⟨vs,h1.below hb,h2,h3.below hb,h4⟩
def MxO (w:World) (lo hi:Nat) (val:Value) (m:Mx):Prop:=∃ s,val = .agg #[.int .i64 m.r,.int .i64 m.c,s]∧a8_ w lo hi s m.a∧I64 m.r∧I64 m.c
theorem MxO.rd {w:World} {lo hi:Nat} {v:Value} {m:Mx} (h:MxO w lo hi v m):MxR w w.heap.size v m:=by
 obtain⟨s,e,h1,h2⟩:=h;exact⟨s,e,h1.rd,h2⟩
theorem MxO.form {w:World} {lo hi:Nat} {v:Value} {m:Mx} (h:MxO w lo hi v m):∃ A c,v = .agg #[.int .i64 m.r,.int .i64 m.c,.slice A m.a.length c]:=h.rd.form
theorem MxO.chg {w w':World} {lo hi lo' hi':Nat} {v:Value} {m:Mx} (h:MxO w lo hi v m) (hc:Chg lo' hi' w w') (hd:hi≤lo'∨hi'≤lo):MxO w' lo hi v m:=by
 obtain⟨s,e,h1,h2⟩:=h;exact⟨s,e,h1.chg hc hd,h2⟩
theorem MxO.below {w w':World} {lo hi:Nat} {v:Value} {m:Mx} (h:MxO w lo hi v m) (hb:Below w.heap.size w w'):MxO w' lo hi v m:=by
 obtain⟨s,e,h1,h2⟩:=h;exact⟨s,e,h1.below hb,h2⟩
theorem MxO.wider {w:World} {lo hi lo' hi':Nat} {v:Value} {m:Mx} (h:MxO w lo hi v m) (h1:lo'≤lo) (h2:hi≤hi'):MxO w lo' hi' v m:=by
 obtain⟨s,e,h3,h4⟩:=h;exact⟨s,e,h3.wider h1 h2,h4⟩
def MxO.mk (k:Int) (m:Mx):Mx:=⟨m.r,m.c,mkI k m.a.length⟩
def Mx.size (m:Mx):Nat:=m.a.length
theorem g8q:(Tryz.prog.info? 65).map (fun i=>(i.zero,i.size,i.bytes))=some (some (.agg #[.int .i64 0,.int .i64 0,.slice none 0 0]),3,40):=by kernel_rfl
def totA (ms:List Mx):Nat:=tot (ms.map Mx.a)
def szM (ms:List Mx):Nat:=ms.length+totA ms
def totM (ms:List Mx):Nat:=(ms.map fun m=>2+m.a.length).sum
def mkMS:Int→List Mx→List Mx
 | _,[]=>[]
 | k,m :: r=>⟨k,k+1,mkI (k+1+1) m.a.length⟩ :: mkMS (k+1+1+m.a.length) r
def b6Q (cs:Array Value) (n:Nat) (vs:List Value) (ms:List Mx):Prop:=cs.size=n*3∧vs.length≤n∧∀ (j:Nat) (v:Value) (m:Mx),vs[j]?=some v→ms[j]?=some m→cs[j*3]?=some (.int .i64 m.r)∧cs[j*3+1]?=some (.int .i64 m.c)∧cs[j*3+2]?=some v
theorem b6Q.step {cs:Array Value} {n:Nat} {vs:List Value} {ms:List Mx} {v:Value} {m:Mx} (h:b6Q cs n vs ms) (hn:vs.length<n) (hm:ms[vs.length]?=some m) :
  b6Q (((cs.setIfInBounds (vs.length*3) (.int .i64 m.r)).setIfInBounds (vs.length*3+1) (.int .i64 m.c)).setIfInBounds (vs.length*3+2) v) n (vs ++ [v]) ms:=by
 obtain⟨h1,h2,h3⟩:=h;refine⟨by simpa using h1,by simp;omega,fun j u x hu hx=>?_⟩;by_cases e:j=vs.length
 ·subst e;rw[List.getElem?_append_right (l_ _)]at hu;simp at hu;subst hu;rw[hm]at hx;injection hx with hx
  subst hx;refine⟨?_,?_,?_⟩ <;> simp[Array.getElem?_setIfInBounds] <;> omega
 ·have hj:j<vs.length:=by have:=a6_ hu;simp at this;omega
  rw[List.getElem?_append_left hj]at hu;obtain⟨a,b,c⟩:=h3 j u x hu hx;refine⟨?_,?_,?_⟩ <;> simp only[Array.getElem?_setIfInBounds] <;> (repeat rw[if_neg (by omega)]) <;> assumption
theorem b6Q.own {w:World} {g lo:Nat} {cs:Array Value} {vs:List Value} {ms:List Mx} (h:b6Q cs ms.length vs ms) (hl:vs.length=ms.length) (hb:Blk w g 65 cs) (hlo:lo≤g) (hn:ms.length≤17592186044416):OutM w lo w.heap.size (.slice (some ⟨g,0,none⟩) ms.length ms.length) vs ms:=by
 have e:cs.toList.take (ms.length*3)=mxCs vs ms:=by
  apply List.ext_getElem?
  intro i;by_cases hi:i<ms.length*3
  ·obtain⟨k,r,rfl,hr⟩:∃ k r,i=k*3+r∧r<3:=⟨i / 3,i % 3,by omega,by omega⟩;have hj:k<ms.length:=by omega
   obtain⟨a,b,c⟩:=h.2.2 k _ _ (l2_ (by omega:k<vs.length)) (l2_ hj);obtain⟨a',b',c'⟩:=x6_ (l2_ (by omega:k<vs.length)) (l2_ hj);rw[List.getElem?_take,if_pos hi,Array.getElem?_toList];rcases (show r=0∨r=1∨r=2 by omega) with rfl | rfl | rfl
   ·rw[Nat.add_zero,a,a']
   ·rw[b,b']
   ·rw[c,c']
  ·rw[List.getElem?_take,if_neg hi,l6_ (by rw[A2_ _ _ hl];omega)]
 have:=hb.own (base:=lo) (n:=ms.length) (cap:=ms.length) (size:=3) hlo (l_ _) (by simp only[maxLen];omega) (by rw[h.1]);rw[e]at this;exact⟨this,fun k hk=>by simp[Value.ownBlock]at hk;subst hk;exact hb.lt,hn⟩
theorem Fam.setAt {w w':World} {lo hi:Nat} {L0:List (Value×List Int)} {vs:List Value} {ll:List (List Int)} {j:Nat} {v:Value} {l l':List Int} (h:Fam w lo hi (L0 ++ vs.zip ll)) (hv:vs[j]?=some v) (hl:ll[j]?=some l) (ho:OwnI w' lo v l') (hg:w.grownBy w' v.ownBlock) :
  Fam w' lo hi (L0 ++ vs.zip (ll.set j l')):=by
 have h1:=k7_ hv hl;have hj:=a6_ hl;have h2:(ll.set j l')[j]?=some l':=by simp[hj]
 have h3:=k7_ hv h2;rw[h1,←List.append_assoc]at h;rw[h3,←List.append_assoc];have e1:(ll.set j l').take j=ll.take j:=by rw[List.take_set_of_le (by omega)]
 have e2:(ll.set j l').drop (j+1)=ll.drop (j+1):=by rw[List.drop_set_of_lt (by omega)]
 rw[e1,e2];exact h.turn ho hg
theorem Fam.getAt {w:World} {lo hi:Nat} {L0:List (Value×List Int)} {vs:List Value} {ll:List (List Int)} {j:Nat} {v:Value} {l:List Int} (h:Fam w lo hi (L0 ++ vs.zip ll)) (hv:vs[j]?=some v) (hl:ll[j]?=some l):a8_ w lo hi v l :=
 h.1 (v,l) (List.mem_append_right _ (by rw[List.mem_iff_getElem?];exact⟨j,by rw[List.getElem?_zip_eq_some];exact⟨hv,hl⟩⟩))
theorem a5_ {w:World} {lo hi:Nat} {p:Addr} {u:Value} (h1:lo≤p.block) (h2:p.block<hi):Chg lo hi w (w.setCell p u) :=
 ⟨rfl,rfl,rfl,by simp[World.setCell],fun k hk hne=>Below.heap_setCell _ _ _ _ (by intro e;omega)⟩
theorem Fam.join {w:World} {lo mi hi:Nat} {L1 L2:List (Value×List Int)} (h:Fam w lo mi L1) (k:Fam w mi hi L2) (h1:lo≤mi) (h2:mi≤hi):Fam w lo hi (L1 ++ L2):=by
 refine⟨fun p hp=>?_,?_⟩
 ·rcases List.mem_append.1 hp with hp | hp
  ·exact (h.1 p hp).wider (l_ _) h2
  ·exact (k.1 p hp).wider h1 (l_ _)
 ·rw[List.pairwise_append];refine⟨h.2,k.2,fun a ha b hb=>?_⟩;rcases hA:a.1.ownBlock with _ | x
  ·exact .inl rfl
  ·right
   intro e;have:=(h.1 a ha).2 x hA;have:=((k.1 b hb).1.lt x e.symm).1;omega
theorem Fam.one {w:World} {lo hi:Nat} {v:Value} {l:List Int} (h:a8_ w lo hi v l):Fam w lo hi [(v,l)]:=⟨fun p hp=>by rw[List.mem_singleton]at hp;subst hp;exact h,by simp⟩
structure Rp where
 p:Int
 q:Qv
 d:List Int
 m:List Mx
deriving DecidableEq
def Rp.size (x:Rp):Nat:=x.q.size+x.d.length+szM x.m
def RpR (w:World) (B:Nat) (val:Value) (x:Rp):Prop:=∃ f t d m,val = .agg #[.int .i64 x.p,.int .i64 x.q.v,f,t,d,m]∧SlI w B f x.q.f∧SlI w B t x.q.t∧SlI w B d x.d∧SlM w B m x.m∧I64 x.p∧I64 x.q.v
theorem RpR.below {w w':World} {B:Nat} {v:Value} {x:Rp} (hb:Below B w w') (h:RpR w B v x):RpR w' B v x:=by
 obtain⟨f,t,d,m,e,h1,h2,h3,h4,h5⟩:=h;exact⟨f,t,d,m,e,SlI.below hb h1,SlI.below hb h2,SlI.below hb h3,SlM.below hb h4,h5⟩
theorem RpR.more {w:World} {B B':Nat} {v:Value} {x:Rp} (hB:B≤B') (h:RpR w B v x):RpR w B' v x:=by
 obtain⟨f,t,d,m,e,h1,h2,h3,h4,h5⟩:=h;exact⟨f,t,d,m,e,SlI.more hB h1,SlI.more hB h2,SlI.more hB h3,SlM.more hB h4,h5⟩
theorem RpR.next {w w':World} {v:Value} {x:Rp} (hb:Below w.heap.size w w') (h:RpR w w.heap.size v x):RpR w' w'.heap.size v x:=RpR.more hb.size (RpR.below hb h)
theorem RpR.chg {w w':World} {B lo hi:Nat} {v:Value} {x:Rp} (h:RpR w B v x) (hc:Chg lo hi w w') (hB:B≤lo) (hs:B≤w.heap.size):RpR w' B v x:=RpR.below (hc.below hB hs) h
theorem RpR.open_ {w:World} {B:Nat} {v:Value} {x:Rp} (h:RpR w B v x):∃ A a C c E e H h,v = .agg #[.int .i64 x.p,.int .i64 x.q.v,.slice A x.q.f.length a,.slice C x.q.t.length c,.slice E x.d.length e,.slice H x.m.length h] ∧
  QvR w B (.agg #[.int .i64 x.q.v,.slice A x.q.f.length a,.slice C x.q.t.length c]) x.q∧SlI w B (.slice E x.d.length e) x.d∧SlM w B (.slice H x.m.length h) x.m∧I64 x.p∧x.d.length≤17592186044416∧x.m.length≤17592186044416:=by
 obtain⟨f,t,d,m,rfl,h1,h2,h3,h4,h5,h6⟩:=h;obtain⟨A,a,rfl,_,_,_,h1⟩:=h1.open_;obtain⟨C,c,rfl,_,_,_,h2⟩:=h2.open_;obtain⟨E,e,rfl,_,_,l1,h3⟩:=h3.open_;obtain⟨H,h,rfl,_,_,l2,h4⟩:=h4.open_;exact⟨A,a,C,c,E,e,H,h,rfl,⟨_,_,rfl,h1,h2,h6⟩,h3,h4,h5,l1,l2⟩
theorem RpR.form {w:World} {B:Nat} {v:Value} {x:Rp} (h:RpR w B v x):∃ A a C c E e H h,v = .agg #[.int .i64 x.p,.int .i64 x.q.v,.slice A x.q.f.length a,.slice C x.q.t.length c,.slice E x.d.length e,.slice H x.m.length h]:=by
 obtain⟨A,a,C,c,E,e,H,h,e,_⟩:=h.open_;exact⟨A,a,C,c,E,_,H,h,e⟩
theorem RpR.lens {w:World} {B:Nat} {v:Value} {x:Rp} (h:RpR w B v x):x.q.f.length≤17592186044416∧x.q.t.length≤17592186044416∧x.d.length≤17592186044416∧x.m.length≤17592186044416:=by
 obtain⟨A,a,C,c,E,e,H,h,_,hq,_,_,_,l1,l2⟩:=h.open_;obtain⟨l3,l4⟩:=hq.lens;exact⟨l3,l4,l1,l2⟩
def RepO (w:World) (lo hi:Nat) (val:Value) (x:Rp):Prop:=∃ f t d m vs,val = .agg #[.int .i64 x.p,.int .i64 x.q.v,f,t,d,m]∧OutM w lo hi m vs x.m∧vs.length=x.m.length ∧
 Fam w lo hi ([(f,x.q.f),(t,x.q.t),(d,x.d)] ++ vs.zip (x.m.map Mx.a))∧(I64 x.p∧I64 x.q.v)∧∀ m∈x.m,I64 m.r∧I64 m.c
theorem RepO.rd {w:World} {lo hi:Nat} {v:Value} {x:Rp} (h:RepO w lo hi v x):RpR w w.heap.size v x:=by
 obtain⟨f,t,d,m,vs,e,h1,h2,h3,h4,h5⟩:=h;exact⟨f,t,d,m,e,(h3.1 (f,_) (by simp)).rd,(h3.1 (t,_) (by simp)).rd,(h3.1 (d,_) (by simp)).rd,OutM.rd h1 h2 (fun p hp=>(h3.1 p (by simp[hp])).rd) h5,h4⟩
theorem RepO.form {w:World} {lo hi:Nat} {v:Value} {x:Rp} (h:RepO w lo hi v x):∃ A a C c E e H h,v = .agg #[.int .i64 x.p,.int .i64 x.q.v,.slice A x.q.f.length a,.slice C x.q.t.length c,.slice E x.d.length e,.slice H x.m.length h]:=h.rd.form
theorem RepO.chg {w w':World} {lo hi lo' hi':Nat} {v:Value} {x:Rp} (h:RepO w lo hi v x) (hc:Chg lo' hi' w w') (hd:hi≤lo'∨hi'≤lo):RepO w' lo hi v x:=by
 obtain⟨f,t,d,m,vs,e,h1,h2,h3,h4⟩:=h;exact⟨f,t,d,m,vs,e,h1.chg hc hd,h2,h3.chg hc hd,h4⟩
theorem RepO.below {w w':World} {lo hi:Nat} {v:Value} {x:Rp} (h:RepO w lo hi v x) (hb:Below w.heap.size w w'):RepO w' lo hi v x:=by
 obtain⟨f,t,d,m,vs,e,h1,h2,h3,h4⟩:=h;exact⟨f,t,d,m,vs,e,h1.below hb,h2,h3.below hb,h4⟩
theorem RepO.wider {w:World} {lo hi lo' hi':Nat} {v:Value} {x:Rp} (h:RepO w lo hi v x) (k1:lo'≤lo) (k2:hi≤hi'):RepO w lo' hi' v x:=by
 obtain⟨f,t,d,m,vs,e,h1,h2,h3,h4⟩:=h;exact⟨f,t,d,m,vs,e,h1.mono k1 k2,h2,h3.mono k1 k2,h4⟩
def RepO.mk (k:Int) (x:Rp):Rp:=⟨x.p,i7_.mk k x.q,mkI (k+x.q.size) x.d.length,mkMS (k+x.q.size+x.d.length) x.m⟩
def Rp.marks (x:Rp):Nat:=x.q.size+x.d.length+totM x.m
def rp0:Rp:=⟨0,⟨0,[],[]⟩,[],[]⟩
theorem RepO.zero (w:World) (lo hi:Nat):RepO w lo hi (.agg #[.int .i64 0,.int .i64 0,.slice none 0 0,.slice none 0 0,.slice none 0 0,.slice none 0 0]) rp0 :=
 ⟨_,_,_,_,[],rfl,RowO.nil _ w lo hi,rfl,⟨fun p hp=>by
  simp only[rp0,List.zip_nil_left,List.append_nil,List.mem_cons,List.not_mem_nil,or_false]at hp;rcases hp with rfl | rfl | rfl <;> exact⟨OwnI.nil _ _,by simp[Value.ownBlock]⟩,by simp[Value.ownBlock]⟩,by simp[rp0,I64],fun m hm=>by simp[rp0]at hm⟩
def c8_ (p:Int):Bool:=decide (p=2∨p=3∨p=5)
theorem E3_ {p:Int}:c8_ p=true↔p=2∨p=3∨p=5:=by simp[c8_]
theorem c2j {p:Int}:c8_ p=false↔p≠2∧p≠3∧p≠5:=by simp[c8_]
theorem f9_ {p:Int} (h:c8_ p=true):2≤p∧p≤5:=by have:=E3_.1 h;omega
def I7_ (p:Int) (v:List Int):Bool:=c8_ p && decide (v.length≤64) && allR v 0 (p-1)
theorem c2Z {p:Int} {v:List Int}:I7_ p v=true↔c8_ p=true∧v.length≤64∧∀ x∈v,0≤x∧x≤p-1:=by
 simp only[I7_,l9_,decide_eq_true_eq,W2_,and_assoc]
def L5_ (p:Int) (m:Mx):Bool:=inR m.r 0 8 && inR m.c 0 8 && decide ((m.a.length:Int)=m.r*m.c) && I7_ p m.a
theorem a2Q {p:Int} {m:Mx}:L5_ p m=true↔(0≤m.r∧m.r≤8)∧(0≤m.c∧m.c≤8)∧(m.a.length:Int)=m.r*m.c∧I7_ p m.a=true:=by
 simp only[L5_,l9_,j1_,decide_eq_true_eq,and_assoc]
def i0_ (q:Qv) (d:List Int):Bool:=isQ q && decide ((d.length:Int)=q.v) && allR d 0 4 && decide (d.sum≤8)
theorem c3_ {q:Qv} {d:List Int}:i0_ q d=true↔isQ q=true∧(d.length:Int)=q.v∧(∀ x∈d,0≤x∧x≤4)∧d.sum≤8:=by
 simp only[i0_,l9_,decide_eq_true_eq,W2_,and_assoc]
theorem f2q {a b:Int} (ha:0≤a∧a≤8) (hb:0≤b∧b≤8):0≤a*b∧a*b≤64:=by
 obtain⟨n,rfl⟩:=Int.eq_ofNat_of_zero_le ha.1;obtain⟨m,rfl⟩:=Int.eq_ofNat_of_zero_le hb.1;have h1:n*m≤8*8:=Nat.mul_le_mul (by omega) (by omega);have e:(n:Int)*m=((n*m:Nat):Int):=by simp
 rw[e];omega
theorem b5_ (p:Int) (w:World):Calls Tryz.prog 79 #[.int .i64 p] w fun e w'=>e = .returned (.bool (c8_ p))∧w'=w:=by
 by_cases h2:p=2
 ·subst h2;go_enter Tryz.func79,Tryz.ntmps79
  go_wp2;go_ret
  exact⟨rfl,rfl⟩
 by_cases h3:p=3
 ·subst h3;go_enter Tryz.func79,Tryz.ntmps79
  go_wp2;go_ret
  exact⟨rfl,rfl⟩
 by_cases h5:p=5
 ·subst h5;go_enter Tryz.func79,Tryz.ntmps79
  go_wp2;go_ret
  exact⟨rfl,rfl⟩
 have e:c8_ p=false:=c2j.2 ⟨h2,h3,h5⟩;have e2:(p == 2)=false:=by rw[beq_eq_false_iff_ne];exact h2
 have e3:(p == 3)=false:=by rw[beq_eq_false_iff_ne];exact h3
 have e5:(p == 5)=false:=by rw[beq_eq_false_iff_ne];exact h5
 rw[e];clear e h2 h3 h5;go_enter Tryz.func79,Tryz.ntmps79
 go_wp2;go_ret
 exact⟨rfl,rfl⟩
theorem b6_ (p:Int) (w:World):Calls Tryz.prog 55 #[.int .i64 p] w fun e w'=>e = .returned (.bool (c8_ p))∧w'=w:=by
 by_cases h2:p=2
 ·subst h2;go_enter Tryz.func55,Tryz.ntmps55
  go_wp2;go_ret
  exact⟨rfl,rfl⟩
 by_cases h3:p=3
 ·subst h3;go_enter Tryz.func55,Tryz.ntmps55
  go_wp2;go_ret
  exact⟨rfl,rfl⟩
 by_cases h5:p=5
 ·subst h5;go_enter Tryz.func55,Tryz.ntmps55
  go_wp2;go_ret
  exact⟨rfl,rfl⟩
 have e:c8_ p=false:=c2j.2 ⟨h2,h3,h5⟩;have e2:(p == 2)=false:=by rw[beq_eq_false_iff_ne];exact h2
 have e3:(p == 3)=false:=by rw[beq_eq_false_iff_ne];exact h3
 have e5:(p == 5)=false:=by rw[beq_eq_false_iff_ne];exact h5
 rw[e];clear e h2 h3 h5;go_enter Tryz.func55,Tryz.ntmps55
 go_wp2;go_ret
 exact⟨rfl,rfl⟩
theorem I3_ (p:Int) (u:Value) (v:List Int) (w:World) (hu:SlI w w.heap.size u v) :
  Calls Tryz.prog 120 #[.int .i64 p,u] w fun e w'=>e = .returned (.bool (I7_ p v))∧Below w.heap.size w w':=by
 have hv:=hu;obtain⟨A,c,rfl,_,_,_,_⟩:=hu.open_;clear hu;unfold I7_;rcases h1:c8_ p with _ | _
 ·go_enter Tryz.func120,Tryz.ntmps120
  go_wp2_with fail
  refine (b5_ _ _).mono ?_;rintro e w' ⟨rfl,rfl⟩;rw[h1];go_wp2;go_ret
  exact⟨rfl,Below.refl _ _⟩
 have hp:=f9_ h1;by_cases h2:v.length≤64
 ·have e2:decide (v.length≤64)=true:=by simpa using h2
  rw[e2];clear e2;obtain⟨B,hB⟩:=e_ (allR v 0 (p-1));rw[hB];have HB:=h_ hB;clear hB;go_enter Tryz.func120,Tryz.ntmps120
  go_wp2_with fail
  refine (b5_ _ _).mono ?_;rintro e w' ⟨rfl,rfl⟩;rw[h1];go_wp2_with fail
  refine (k2_ _ v _ _ _ hv).mono ?_;rintro e w1 ⟨rfl,hb1⟩;rw[HB.out];go_wp2;go_ret
  exact⟨rfl,hb1⟩
 ·have e2:decide (v.length≤64)=false:=by simpa using h2
  have e2':¬ ((v.length:Int)≤64):=by omega
  rw[e2];clear e2;go_enter Tryz.func120,Tryz.ntmps120
  go_wp2_with fail
  refine (b5_ _ _).mono ?_;rintro e w' ⟨rfl,rfl⟩;rw[h1];go_wp2;go_ret
  exact⟨rfl,Below.refl _ _⟩
theorem a5Q {v:List Int} {lo hi:Int} {k:Nat} (h:∀ x∈v.take k,inR x lo hi=true) (hk:v.length≤k):allR v lo hi=true:=by
 rw[l7_ hk]at h;simpa [allR] using h
theorem a5J {v:List Int} {lo hi x:Int} {k:Nat} (h:v[k]?=some x) (hx:inR x lo hi=false):allR v lo hi=false:=by
 rw[Bool.eq_false_iff];intro h2;have:=List.all_eq_true.1 h2 x (l4_ h);rw[hx]at this;cases this
theorem W1_ {v:List Int} {lo hi x:Int} {k:Nat} (h:∀ x∈v.take k,inR x lo hi=true) (hx:v[k]?=some x) (h2:inR x lo hi=true):∀ x∈v.take (k+1),inR x lo hi=true:=by
 intro y hy;rw[c6_ hx,List.mem_append,List.mem_singleton]at hy;rcases hy with hy | rfl
 ·exact h y hy
 ·exact h2
theorem I9_ (p:Int) (u:Value) (v:List Int) (w:World) (hu:SlI w w.heap.size u v) :
  Calls Tryz.prog 123 #[.int .i64 p,u] w fun e w'=>e = .returned (.bool (I7_ p v))∧Below w.heap.size w w':=by
 obtain⟨A,c,rfl,_,_,_,hv⟩:=hu.open_;clear hu;unfold I7_;rcases h1:c8_ p with _ | _
 ·go_enter Tryz.func123,Tryz.ntmps123
  go_wp2_with fail
  refine (b6_ _ _).mono ?_;rintro e w ⟨rfl,rfl⟩;rw[h1];go_wp2;go_ret
  exact⟨rfl,Below.refl _ _⟩
 have hp:=f9_ h1;by_cases h2:v.length≤64
 ·have e2:decide (v.length≤64)=true:=by simpa using h2
  have e2':¬ ((64:Int)<v.length):=by omega
  rw[e2];clear e2;go_enter Tryz.func123,Tryz.ntmps123
  go_wp2_with fail
  refine (b6_ _ _).mono ?_;rintro e w ⟨rfl,rfl⟩;rw[h1];go_wp2;go_loopw [5] (fun i wr=>∃ k:Nat,k≤v.length∧i = .int .i64 k∧Below w.heap.size w wr∧Hid (∀ x∈v.take k,inR x 0 (p-1)=true)) (fun i _=>v.length-(intOf i).toNat)
  case atStart=>exact⟨0,l0_ _,rfl,Below.refl _ _,by show ∀ x∈_,_;simp⟩
  case round =>
   obtain⟨k,hk,rfl,hbel,hall⟩:=hrel;by_cases hlt:k<v.length
   ·obtain⟨b,o,x,rfl,hb,HX,x1,_⟩:=SlI.at_ hv hlt;have x2:=a4_ hbel hb x1;clear x1 hv;rcases h3:inR x 0 (p-1) with _ | _
    ·have HF:=h_ (a5J HX.out h3);have H3:=h_ h3;clear h3;go_wp2_with fail
     refine (d4_ _ _ _ _).mono ?_;rintro e w ⟨rfl,rfl⟩;rw[H3.out];go_wp2;go_ret
     exact⟨by rw[HF.out];rfl,hbel⟩
    ·have HS:=h_ (W1_ hall.out HX.out h3);have H3:=h_ h3;clear h3;go_wp2_with fail
     refine (d4_ _ _ _ _).mono ?_;rintro e w ⟨rfl,rfl⟩;rw[H3.out];go_wp2;go_roundw
     case rel=>exact⟨k+1,by omega,by go_num,hbel,HS.out⟩
     case measure=>simp[intOf];omega
   ·have HF:=h_ (a5Q hall.out (by omega));go_wp2;go_ret
    exact⟨by rw[HF.out];rfl,hbel⟩
 ·have e2:decide (v.length≤64)=false:=by simpa using h2
  have e2':(64:Int)<v.length:=by omega
  rw[e2];clear e2;go_enter Tryz.func123,Tryz.ntmps123
  go_wp2_with fail
  refine (b6_ _ _).mono ?_;rintro e w ⟨rfl,rfl⟩;rw[h1];go_wp2;go_ret
  exact⟨rfl,Below.refl _ _⟩
theorem k9_ (p:Int) (u:Value) (m:Mx) (w:World) (hu:MxR w w.heap.size u m) :
  Calls Tryz.prog 81 #[.int .i64 p,u] w fun e w'=>e = .returned (.bool (L5_ p m))∧Below w.heap.size w w':=by
 obtain⟨A,c,rfl,hf,_,_,lf⟩:=hu.open_;clear hu;obtain⟨W,hW,g0,kB⟩:=b_3 w #[.int .i64 m.r,.int .i64 m.c,.slice A m.a.length c] 65;obtain⟨c0,c1,c2⟩:=c_3 kB;replace hf:=SlI.next g0 hf;unfold L5_
 rcases h1:inR m.r 0 8 with _ | _
 ·go_enter Tryz.func81,Tryz.ntmps81
  go_wp2_with fail
  rw[←hW];clear hW;refine (b7_ _ _ _ _).mono ?_;rintro e w' ⟨rfl,rfl⟩;rw[h1];go_wp2;go_ret
  exact⟨rfl,g0⟩
 have b1:=j1_.1 h1;rcases h2:inR m.c 0 8 with _ | _
 ·go_enter Tryz.func81,Tryz.ntmps81
  go_wp2_with fail
  rw[←hW];clear hW;refine (b7_ _ _ _ _).mono ?_;rintro e w' ⟨rfl,rfl⟩;rw[h1];go_wp2_with fail
  refine (b7_ _ _ _ _).mono ?_;rintro e w' ⟨rfl,rfl⟩;rw[h2];go_wp2;go_ret
  exact⟨rfl,g0⟩
 have b2:=j1_.1 h2;have b3:=f2q b1 b2;obtain⟨b11,b12⟩:=b1;obtain⟨b21,b22⟩:=b2;obtain⟨b31,b32⟩:=b3;rcases h3:decide ((m.a.length:Int)=m.r*m.c) with _ | _
 ·have e3:((m.a.length:Int) == m.r*m.c)=false:=by rw[beq_eq_false_iff_ne];exact of_decide_eq_false h3
  clear h3;go_enter Tryz.func81,Tryz.ntmps81
  go_wp2_with fail
  rw[←hW];clear hW;refine (b7_ _ _ _ _).mono ?_;rintro e w' ⟨rfl,rfl⟩;rw[h1];go_wp2_with fail
  refine (b7_ _ _ _ _).mono ?_;rintro e w' ⟨rfl,rfl⟩;rw[h2];go_wp2;go_ret
  exact⟨rfl,g0⟩
 have e3:((m.a.length:Int) == m.r*m.c)=true:=by rw[beq_iff_eq];exact of_decide_eq_true h3
 clear h3;obtain⟨B,hB⟩:=e_ (I7_ p m.a);rw[hB];have HB:=h_ hB;clear hB;go_enter Tryz.func81,Tryz.ntmps81
 go_wp2_with fail
 rw[←hW];clear hW;refine (b7_ _ _ _ _).mono ?_;rintro e w' ⟨rfl,rfl⟩;rw[h1];go_wp2_with fail
 refine (b7_ _ _ _ _).mono ?_;rintro e w' ⟨rfl,rfl⟩;rw[h2];go_wp2_with fail
 refine (I3_ _ _ m.a _ hf).mono ?_;rintro e w1 ⟨rfl,hb1⟩;rw[HB.out];go_wp2;go_ret
 exact⟨rfl,b0_ g0 hb1⟩
theorem j8_ (p:Int) (u:Value) (m:Mx) (w:World) (hu:MxR w w.heap.size u m) :
  Calls Tryz.prog 87 #[.int .i64 p,u] w fun e w'=>e = .returned (.bool (L5_ p m))∧Below w.heap.size w w':=by
 obtain⟨A,c,rfl,hf,_,_,lf⟩:=hu.open_;clear hu;obtain⟨W,hW,g0,kB⟩:=b_3 w #[.int .i64 m.r,.int .i64 m.c,.slice A m.a.length c] 65;obtain⟨c0,c1,c2⟩:=c_3 kB;replace hf:=SlI.next g0 hf;unfold L5_
 rcases h1:inR m.r 0 8 with _ | _
 ·go_enter Tryz.func87,Tryz.ntmps87
  go_wp2_with fail
  rw[←hW];clear hW;refine (d4_ _ _ _ _).mono ?_;rintro e w' ⟨rfl,rfl⟩;rw[h1];go_wp2;go_ret
  exact⟨rfl,g0⟩
 have b1:=j1_.1 h1;rcases h2:inR m.c 0 8 with _ | _
 ·go_enter Tryz.func87,Tryz.ntmps87
  go_wp2_with fail
  rw[←hW];clear hW;refine (d4_ _ _ _ _).mono ?_;rintro e w' ⟨rfl,rfl⟩;rw[h1];go_wp2_with fail
  refine (d4_ _ _ _ _).mono ?_;rintro e w' ⟨rfl,rfl⟩;rw[h2];go_wp2;go_ret
  exact⟨rfl,g0⟩
 have b2:=j1_.1 h2;have b3:=f2q b1 b2;obtain⟨b11,b12⟩:=b1;obtain⟨b21,b22⟩:=b2;obtain⟨b31,b32⟩:=b3;rcases h3:decide ((m.a.length:Int)=m.r*m.c) with _ | _
 ·have e3:((m.a.length:Int) == m.r*m.c)=false:=by rw[beq_eq_false_iff_ne];exact of_decide_eq_false h3
  clear h3;go_enter Tryz.func87,Tryz.ntmps87
  go_wp2_with fail
  rw[←hW];clear hW;refine (d4_ _ _ _ _).mono ?_;rintro e w' ⟨rfl,rfl⟩;rw[h1];go_wp2_with fail
  refine (d4_ _ _ _ _).mono ?_;rintro e w' ⟨rfl,rfl⟩;rw[h2];go_wp2;go_ret
  exact⟨rfl,g0⟩
 have e3:((m.a.length:Int) == m.r*m.c)=true:=by rw[beq_iff_eq];exact of_decide_eq_true h3
 clear h3;obtain⟨B,hB⟩:=e_ (I7_ p m.a);rw[hB];have HB:=h_ hB;clear hB;go_enter Tryz.func87,Tryz.ntmps87
 go_wp2_with fail
 rw[←hW];clear hW;refine (d4_ _ _ _ _).mono ?_;rintro e w' ⟨rfl,rfl⟩;rw[h1];go_wp2_with fail
 refine (d4_ _ _ _ _).mono ?_;rintro e w' ⟨rfl,rfl⟩;rw[h2];go_wp2_with fail
 refine (I9_ _ _ m.a _ hf).mono ?_;rintro e w1 ⟨rfl,hb1⟩;rw[HB.out];go_wp2;go_ret
 exact⟨rfl,b0_ g0 hb1⟩
theorem c9x {d:List Int} (h:∀ x∈d,0≤x∧x≤4) (hl:d.length≤5):sumW d=d.sum∧0≤d.sum∧d.sum≤20:=by
 obtain⟨h1,h2,h3⟩:=R0_ d 0 4 (by omega) (by omega) h (by omega) (by omega);exact⟨h1,by omega,by omega⟩
theorem f4q:∀ (l:List Int),(∀ x∈l,0≤x∧x≤4)→0≤l.sum∧l.sum≤4*l.length
 | [],_=>by simp
 | a :: l,h=>by
  have:=f4q l (fun x hx=>h x (by simp[hx]));have:=h a (by simp);simp only[List.sum_cons,List.length_cons];omega
theorem a5j (d:List Int) (k:Nat) (h:∀ x∈d.take k,0≤x∧x≤4):0≤(d.take k).sum∧(d.take k).sum≤4*k:=by
 have h1:=f4q _ h;have h2:(d.take k).length≤k:=List.length_take_le _ _;omega
theorem q5_ (u xv:Value) (q:Qv) (d:List Int) (w:World) (hu:QvR w w.heap.size u q) (hx:SlI w w.heap.size xv d) :
  Calls Tryz.prog 80 #[u,xv] w fun e w'=>e = .returned (.bool (i0_ q d))∧Below w.heap.size w w':=by
 obtain⟨A,c,C,d',eu⟩:=hu.form;subst eu;have lx:=hx;obtain⟨XA,xc,rfl,_,_,lx,_⟩:=lx.open_;obtain⟨W,hW,g0,kB⟩:=b_3 w #[.int .i64 q.v,.slice A q.f.length c,.slice C q.t.length d'] 26;obtain⟨c0,c1,c2⟩:=c_3 kB;replace hu:=QvR.next g0 hu;replace hx:=SlI.next g0 hx;unfold i0_;rcases hq:isQ q with _ | _
 ·go_enter Tryz.func80,Tryz.ntmps80
  go_wp2_with fail
  rw[←hW];clear hW;refine (g6_ _ _ _ hu).mono ?_;rintro e w1 ⟨rfl,hb1⟩;rw[hq];clear hu;replace g0:=b0_ g0 hb1;replace hx:=SlI.next hb1 hx;replace kB:=kB.call hb1;replace c0:=kB.cell' (i:=0) rfl;replace c1:=kB.cell' (i:=1) rfl;replace c2:=kB.cell' (i:=2) rfl;clear hb1;go_wp2;go_ret
  exact⟨rfl,g0⟩
 obtain⟨hv1,hv2⟩:=(j2_.1 hq).1;rcases h2:decide ((d.length:Int)=q.v) with _ | _
 ·have e2:((d.length:Int) == q.v)=false:=by rw[beq_eq_false_iff_ne];exact of_decide_eq_false h2
  clear h2;go_enter Tryz.func80,Tryz.ntmps80
  go_wp2_with fail
  rw[←hW];clear hW;refine (g6_ _ _ _ hu).mono ?_;rintro e w1 ⟨rfl,hb1⟩;rw[hq];clear hu;replace g0:=b0_ g0 hb1;replace hx:=SlI.next hb1 hx;replace kB:=kB.call hb1;replace c0:=kB.cell' (i:=0) rfl;replace c1:=kB.cell' (i:=1) rfl;replace c2:=kB.cell' (i:=2) rfl;clear hb1;go_wp2;go_ret
  exact⟨rfl,g0⟩
 have e2:((d.length:Int) == q.v)=true:=by rw[beq_iff_eq];exact of_decide_eq_true h2
 have hl5:d.length≤5:=by have:=of_decide_eq_true h2;omega
 clear h2;rcases h3:allR d 0 4 with _ | _
 ·have H3:=h_ h3;clear h3;go_enter Tryz.func80,Tryz.ntmps80
  go_wp2_with fail
  rw[←hW];clear hW;refine (g6_ _ _ _ hu).mono ?_;rintro e w1 ⟨rfl,hb1⟩;rw[hq];clear hu;replace g0:=b0_ g0 hb1;replace hx:=SlI.next hb1 hx;replace kB:=kB.call hb1;replace c0:=kB.cell' (i:=0) rfl;replace c1:=kB.cell' (i:=1) rfl;replace c2:=kB.cell' (i:=2) rfl;clear hb1;go_wp2_with fail
  refine (k2_ _ d _ _ _ hx).mono ?_;rintro e w_1 ⟨rfl,hb_1⟩;replace g0:=b0_ g0 hb_1;replace hx:=SlI.next hb_1 hx;replace kB:=kB.call hb_1;replace c0:=kB.cell' (i:=0) rfl;replace c1:=kB.cell' (i:=1) rfl;replace c2:=kB.cell' (i:=2) rfl;rw[H3.out];go_wp2;go_ret
  exact⟨rfl,g0⟩
 obtain⟨s1,s2,s3⟩:=c9x (W2_.1 h3) hl5;have H3:=h_ h3;have H1:=h_ s1;clear h3 s1;obtain⟨s,hs⟩:=e_ (d.sum);rw[hs]at H1 s2 s3⊢;clear hs;go_enter Tryz.func80,Tryz.ntmps80
 go_wp2_with fail
 rw[←hW];clear hW;refine (g6_ _ _ _ hu).mono ?_;rintro e w1 ⟨rfl,hb1⟩;rw[hq];clear hu;replace g0:=b0_ g0 hb1;replace hx:=SlI.next hb1 hx;replace kB:=kB.call hb1;replace c0:=kB.cell' (i:=0) rfl;replace c1:=kB.cell' (i:=1) rfl;replace c2:=kB.cell' (i:=2) rfl;clear hb1;go_wp2_with fail
 refine (k2_ _ d _ _ _ hx).mono ?_;rintro e w_2 ⟨rfl,hb_2⟩;replace g0:=b0_ g0 hb_2;replace hx:=SlI.next hb_2 hx;replace kB:=kB.call hb_2;replace c0:=kB.cell' (i:=0) rfl;replace c1:=kB.cell' (i:=1) rfl;replace c2:=kB.cell' (i:=2) rfl;rw[H3.out];go_wp2_with fail
 refine (a0J _ d _ hx).mono ?_;rintro e w2 ⟨rfl,rfl⟩;rw[H1.out];go_wp2;go_ret
 exact⟨by simp,g0⟩
theorem q9_ (u xv:Value) (q:Qv) (d:List Int) (w:World) (hu:QvR w w.heap.size u q) (hx:SlI w w.heap.size xv d) :
  Calls Tryz.prog 86 #[u,xv] w fun e w'=>e = .returned (.bool (i0_ q d))∧Below w.heap.size w w':=by
 obtain⟨A,c,C,d',eu⟩:=hu.form;subst eu;have lx:=hx;obtain⟨XA,xc,rfl,_,_,lx,_⟩:=lx.open_;obtain⟨W,hW,g0,kB⟩:=b_3 w #[.int .i64 q.v,.slice A q.f.length c,.slice C q.t.length d'] 26;obtain⟨c0,c1,c2⟩:=c_3 kB;replace hu:=QvR.next g0 hu;replace hx:=SlI.next g0 hx;unfold i0_;rcases hq:isQ q with _ | _
 ·go_enter Tryz.func86,Tryz.ntmps86
  go_wp2_with fail
  rw[←hW];clear hW;refine (f3_ _ _ _ hu).mono ?_;rintro e w1 ⟨rfl,hb1⟩;rw[hq];clear hu;replace g0:=b0_ g0 hb1;replace hx:=SlI.next hb1 hx;replace kB:=kB.call hb1;replace c0:=kB.cell' (i:=0) rfl;replace c1:=kB.cell' (i:=1) rfl;replace c2:=kB.cell' (i:=2) rfl;clear hb1;go_wp2;go_ret
  exact⟨rfl,g0⟩
 obtain⟨hv1,hv2⟩:=(j2_.1 hq).1;rcases h2:decide ((d.length:Int)=q.v) with _ | _
 ·have e2:((d.length:Int) != q.v)=true:=by rw[bne_iff_ne];exact of_decide_eq_false h2
  clear h2;go_enter Tryz.func86,Tryz.ntmps86
  go_wp2_with fail
  rw[←hW];clear hW;refine (f3_ _ _ _ hu).mono ?_;rintro e w1 ⟨rfl,hb1⟩;rw[hq];clear hu;replace g0:=b0_ g0 hb1;replace hx:=SlI.next hb1 hx;replace kB:=kB.call hb1;replace c0:=kB.cell' (i:=0) rfl;replace c1:=kB.cell' (i:=1) rfl;replace c2:=kB.cell' (i:=2) rfl;clear hb1;go_wp2;go_ret
  exact⟨rfl,g0⟩
 have e2:((d.length:Int) != q.v)=false:=by rw[bne_eq_false_iff_eq];exact of_decide_eq_true h2
 have hl5:d.length≤5:=by have:=of_decide_eq_true h2;omega
 clear h2;go_enter Tryz.func86,Tryz.ntmps86
 go_wp2_with fail
 rw[←hW];clear hW;refine (f3_ _ _ _ hu).mono ?_;rintro e w1 ⟨rfl,hb1⟩;rw[hq];clear hu;replace g0:=b0_ g0 hb1;replace hx:=SlI.next hb1 hx;replace kB:=kB.call hb1;replace c0:=kB.cell' (i:=0) rfl;replace c1:=kB.cell' (i:=1) rfl;replace c2:=kB.cell' (i:=2) rfl;clear hb1;go_wp2;go_loopw [5,6] (fun n i wr=>∃ k:Nat,k≤d.length∧i = .int .i64 k∧n = .int .i64 (d.take k).sum∧wr=w1∧Hid (∀ x∈d.take k,inR x 0 4=true)) (fun _ i _=>d.length-(intOf i).toNat)
 case atStart=>exact⟨0,l0_ _,rfl,by simp,rfl,by show ∀ x∈_,_;simp⟩
 case round =>
  obtain⟨k,hk,rfl,rfl,rfl,hall⟩:=hrel;have hsm:=a5j d k (fun x hx=>j1_.1 (hall.out x hx));obtain⟨hs1,hs2⟩:=hsm;obtain⟨s,hs⟩:=e_ ((d.take k).sum);rw[hs]at hs1 hs2⊢;have HS:=h_ hs;clear hs;by_cases hlt:k<d.length
  ·obtain⟨b,o,x,rfl,hb,HX,x1,_⟩:=SlI.at_ hx hlt;clear hx;rcases h3:inR x 0 4 with _ | _
   ·have HF:=h_ (a5J HX.out h3);have H3:=h_ h3;clear h3;go_wp2_with fail
    refine (d4_ _ _ _ _).mono ?_;rintro e w' ⟨rfl,rfl⟩;rw[H3.out];go_wp2;go_ret
    exact⟨by rw[HF.out];rfl,g0⟩
   ·have HT:=h_ (W1_ hall.out HX.out h3);have HSU:=h_ (show (d.take (k+1)).sum=s+x by rw[c6_ HX.out,List.sum_append,HS.out];simp);obtain⟨x3,x4⟩:=j1_.1 h3;have H3:=h_ h3;clear h3;go_wp2_with fail
    refine (d4_ _ _ _ _).mono ?_;rintro e w' ⟨rfl,rfl⟩;rw[H3.out];go_wp2;go_roundw
    case rel=>exact⟨k+1,by omega,by go_num,by rw[HSU.out],trivial,HT.out⟩
    case measure=>simp[intOf];omega
  ·have HF:=h_ (a5Q hall.out (by omega));have HE:=h_ (show d.sum=s by rw[←HS.out,l7_ (by omega)]);go_wp2;go_ret
   exact⟨by rw[HF.out,HE.out];simp,g0⟩
def dAt (d:List Int) (v:Int):Int:=d.getD v.toNat 0
def okM (x:Rp) (m:Mx) (f t:Int):Bool:=L5_ x.p m && decide (m.c=dAt x.d f) && decide (m.r=dAt x.d t)
def okMs (x:Rp) (k:Nat):Bool:=(List.range k).all fun i=>okM x (x.m.getD i ⟨0,0,[]⟩) (x.q.f.getD i 0) (x.q.t.getD i 0)
def m9_ (x:Rp):Bool:=c8_ x.p && i0_ x.q x.d && decide (x.m.length=x.q.f.length) && okMs x x.m.length
theorem Z1_ {x:Rp} {k:Nat} {m:Mx} {f t:Int} (hm:x.m[k]?=some m) (hf:x.q.f[k]?=some f) (ht:x.q.t[k]?=some t):okMs x (k+1)=(okMs x k && okM x m f t):=by
 simp[okMs,List.range_succ,l1_,hm,hf,ht]
theorem t5_ {x:Rp} {k n:Nat} (h:okMs x k=false) (hk:k≤n):okMs x n=false:=by
 simp only[okMs,List.all_eq_false,List.mem_range]at h⊢;obtain⟨i,hi,h⟩:=h;exact⟨i,by omega,h⟩
theorem r4_ {d:List Int} {n:Nat} {y:Int} (h:d[n]?=some y):dAt d (n:Int)=y:=by
 simp[dAt,l1_,h]
theorem C0_ {x:Rp} (hq:i0_ x.q x.d=true) {k:Nat} (hk:k<x.q.f.length):∃ (nf nt:Nat) (yf yt:Int),x.q.f[k]?=some (nf:Int)∧x.q.t[k]?=some (nt:Int)∧x.d[nf]?=some yf∧x.d[nt]?=some yt∧nf<x.d.length∧nt<x.d.length∧nf≤5∧nt≤5∧k<x.q.t.length:=by
 obtain⟨h1,h2,h3,h4⟩:=c3_.1 hq;obtain⟨hv,hl,h6,hf,ht⟩:=j2_.1 h1;have ef:=l2_ hk;have et:=l2_ (show k<x.q.t.length by omega);have bf:=hf _ (l4_ ef);have bt:=ht _ (l4_ et);obtain⟨nf,enf⟩:=Int.eq_ofNat_of_zero_le bf.1;obtain⟨nt,ent⟩:=Int.eq_ofNat_of_zero_le bt.1;rw[enf]at ef bf;rw[ent]at et bt;exact⟨nf,nt,x.d[nf]'(by omega),x.d[nt]'(by omega),ef,et,l2_ _,l2_ _,by omega,by omega,by omega,by omega,by omega⟩
theorem QvR.sl {w:World} {B n m a c:Nat} {v:Int} {A C:Option Addr} {q:Qv} (h:QvR w B (.agg #[.int .i64 v,.slice A n a,.slice C m c]) q):SlI w B (.slice A n a) q.f∧SlI w B (.slice C m c) q.t:=by
 obtain⟨s,t,e,h1,h2,_⟩:=h;simp only[Value.agg.injEq,Array.mk.injEq,List.cons.injEq,and_true]at e;obtain⟨_,rfl,rfl⟩:=e;exact⟨h1,h2⟩
theorem j4_ (u:Value) (x:Rp) (w:World) (hu:RpR w w.heap.size u x) :
  Calls Tryz.prog 36 #[u] w fun e w'=>e = .returned (.bool (m9_ x))∧Below w.heap.size w w':=by
 obtain⟨A,a,C,c,E,e,H,h,rfl,hq,hd,hm,hp,ld,lm⟩:=hu.open_;clear hu;obtain⟨W,hW,g0,kB⟩:=b_3 w #[.int .i64 x.p,.int .i64 x.q.v,.slice A x.q.f.length a,.slice C x.q.t.length c,.slice E x.d.length e,.slice H x.m.length h] 29;obtain⟨c0,c1,c2,c3,c4,c5⟩:=c_6 kB;replace hq:=QvR.next g0 hq;replace hd:=SlI.next g0 hd;replace hm:=SlM.next g0 hm;unfold m9_;rcases h1:c8_ x.p with _ | _
 ·go_enter Tryz.func36,Tryz.ntmps36
  go_wp2_with fail
  rw[←hW];clear hW;refine (b5_ _ _).mono ?_;rintro e w1 ⟨rfl,rfl⟩;rw[h1];go_wp2;go_ret
  exact⟨rfl,g0⟩
 rcases h2:i0_ x.q x.d with _ | _
 ·have H2:=h_ h2;clear h2;go_enter Tryz.func36,Tryz.ntmps36
  go_wp2_with fail
  rw[←hW];clear hW;refine (b5_ _ _).mono ?_;rintro e w1 ⟨rfl,rfl⟩;rw[h1];go_wp2_with fail
  refine (q5_ _ _ _ _ _ hq hd).mono ?_;rintro e w_1 ⟨rfl,hb_1⟩;replace g0:=b0_ g0 hb_1;replace hq:=QvR.next hb_1 hq;replace hd:=SlI.next hb_1 hd;replace hm:=SlM.next hb_1 hm;replace kB:=kB.call hb_1;replace c0:=kB.cell' (i:=0) rfl;replace c1:=kB.cell' (i:=1) rfl;replace c2:=kB.cell' (i:=2) rfl;replace c3:=kB.cell' (i:=3) rfl;replace c4:=kB.cell' (i:=4) rfl;replace c5:=kB.cell' (i:=5) rfl;rw[H2.out];go_wp2;go_ret
  exact⟨rfl,g0⟩
 obtain⟨lf,lt⟩:=hq.lens;rcases h3:decide (x.m.length=x.q.f.length) with _ | _
 ·have e3:((x.m.length:Int) != x.q.f.length)=true:=by rw[bne_iff_ne];have:=of_decide_eq_false h3;omega
  have H2:=h_ h2;clear h2 h3;go_enter Tryz.func36,Tryz.ntmps36
  go_wp2_with fail
  rw[←hW];clear hW;refine (b5_ _ _).mono ?_;rintro e w1 ⟨rfl,rfl⟩;rw[h1];go_wp2_with fail
  refine (q5_ _ _ _ _ _ hq hd).mono ?_;rintro e w_2 ⟨rfl,hb_2⟩;replace g0:=b0_ g0 hb_2;replace hq:=QvR.next hb_2 hq;replace hd:=SlI.next hb_2 hd;replace hm:=SlM.next hb_2 hm;replace kB:=kB.call hb_2;replace c0:=kB.cell' (i:=0) rfl;replace c1:=kB.cell' (i:=1) rfl;replace c2:=kB.cell' (i:=2) rfl;replace c3:=kB.cell' (i:=3) rfl;replace c4:=kB.cell' (i:=4) rfl;replace c5:=kB.cell' (i:=5) rfl;rw[H2.out];go_wp2;go_ret
  exact⟨rfl,g0⟩
 have e3:((x.m.length:Int) != x.q.f.length)=false:=by rw[bne_eq_false_iff_eq];have:=of_decide_eq_true h3;omega
 have H3:=h_ (of_decide_eq_true h3);have H2:=h_ h2;clear h2 h3;go_enter Tryz.func36,Tryz.ntmps36
 go_wp2_with fail
 rw[←hW];clear hW;refine (b5_ _ _).mono ?_;rintro e w1 ⟨rfl,rfl⟩;rw[h1];go_wp2_with fail
 refine (q5_ _ _ _ _ _ hq hd).mono ?_;rintro e W1 ⟨rfl,hb0⟩;replace g0:=b0_ g0 hb0;replace hq:=QvR.next hb0 hq;replace hd:=SlI.next hb0 hd;replace hm:=SlM.next hb0 hm;replace kB:=kB.call hb0;replace c0:=kB.cell' (i:=0) rfl;replace c1:=kB.cell' (i:=1) rfl;replace c2:=kB.cell' (i:=2) rfl;replace c3:=kB.cell' (i:=3) rfl;replace c4:=kB.cell' (i:=4) rfl;replace c5:=kB.cell' (i:=5) rfl;clear hb0;rw[H2.out];obtain⟨hf,ht⟩:=hq.sl;clear hq;go_wp2;go_loopw [30] (fun i wr=>∃ k:Nat,k≤x.m.length∧i = .int .i64 k∧Below W1.heap.size W1 wr∧Hid (okMs x k=true)) (fun i _=>x.m.length-(intOf i).toNat)
 case atStart=>exact⟨0,l0_ _,rfl,Below.refl _ _,rfl⟩
 case round =>
  obtain⟨k,hk,rfl,hbel,hok⟩:=hrel;clear c0 c1 c2 c3 c4 c5;have z5:=(kB.call hbel).cell' (i:=5) rfl;by_cases hlt:k<x.m.length
  ·have hkf:k<x.q.f.length:=by have:=H3.out;omega
   obtain⟨nf,nt,yf,yt,ef,et,df,dt,lnf,lnt,lnf5,lnt5,hkt⟩:=C0_ H2.out hkf;obtain⟨b,o,m,A',c',rfl,hb,HX,x1,x2,x3,hsl,i1,i2,lml⟩:=SlM.at_ hm hlt;obtain⟨bf,of_,xf,rfl,hbf,HXF,f1,_⟩:=SlI.at_ hf hkf;obtain⟨bt,ot,xt,rfl,hbt,HXT,t1,_⟩:=SlI.at_ ht hkt;obtain⟨bd,od,xdf,rfl,hbd,HXDF,d1,ddf⟩:=SlI.at_ hd lnf;obtain⟨bd',od',xdt,ebd,hbd',HXDT,d2,ddt⟩:=SlI.at_ hd lnt;injection ebd with ebd
   injection ebd with ebd1 ebd2
   subst ebd1 ebd2;have q1:=HXF.out;rw[ef]at q1;injection q1 with q1
   subst q1;have q2:=HXT.out;rw[et]at q2;injection q2 with q2
   subst q2;have hsucc:=Z1_ HX.out ef et;rw[hok.out,Bool.true_and,okM,r4_ HXDF.out,r4_ HXDT.out]at hsucc;have HSU:=h_ hsucc;clear hsucc HXDF HXDT HXF HXT ef et df dt hf ht hd hm;obtain⟨Wx,hWx⟩:∃ W,W=wr.alloc (.cells #[.int .i64 m.r,.int .i64 m.c,.slice A' m.a.length c'] 65):=⟨_,rfl⟩;have gx:Below W1.heap.size W1 Wx:=by rw[hWx];exact hbel.trans ((a0_ _ _).mono hbel.size)
   have kM:Blk Wx wr.heap.size 65 #[.int .i64 m.r,.int .i64 m.c,.slice A' m.a.length c']:=by rw[hWx];exact Blk.new _ _ _
   have m0:=fun s:InB Wx=>(kM.call s.below).cell' (i:=0) rfl
   have m1:=fun s:InB Wx=>(kM.call s.below).cell' (i:=1) rfl
   have m2:=fun s:InB Wx=>(kM.call s.below).cell' (i:=2) rfl
   have hx1:=a4_ hbel hb x1;have hx2:=a4_ hbel hb x2;have hx3:=a4_ hbel hb x3;clear kM;have gx1:=gx.size;have hF:=InB.cell (w:=Wx) (by omega) (a4_ gx hbf f1);have hT:=InB.cell (w:=Wx) (by omega) (a4_ gx hbt t1);have hD1:=InB.cell (w:=Wx) (by omega) (a4_ gx hbd d1);have hD2:=InB.cell (w:=Wx) (by omega) (a4_ gx hbd d2);have kBx:=kB.call gx;have r0:=fun s:InB Wx=>(kBx.call s.below).cell' (i:=0) rfl
   have r2:=fun s:InB Wx=>(kBx.call s.below).cell' (i:=2) rfl
   have r3:=fun s:InB Wx=>(kBx.call s.below).cell' (i:=3) rfl
   have r4:=fun s:InB Wx=>(kBx.call s.below).cell' (i:=4) rfl
   have r5:=fun s:InB Wx=>(kBx.call s.below).cell' (i:=5) rfl
   have HM:Hid (∀ s:InB Wx,MxR s.val s.val.heap.size (.agg #[.int .i64 m.r,.int .i64 m.c,.slice A' m.a.length c']) m):=fun s=>⟨_,rfl,SlI.next s.below (SlI.next gx hsl),i1,i2⟩
   have g1:=b0_ g0 gx;have HGX:=h_ gx;have HG1:=h_ g1;clear x1 x2 x3 f1 t1 d1 d2 hsl i1 i2 kB kBx gx g1 g0;have a1:(0:Int)≤(k:Int):=by omega
   have a2:(k:Int)<x.q.f.length:=by omega
   have a3:(k:Int)<x.q.t.length:=by omega
   have a4:(0:Int)≤(nf:Int):=by omega
   have a5:(nf:Int)<x.d.length:=by omega
   have a6:(0:Int)≤(nt:Int):=by omega
   have a7:(nt:Int)<x.d.length:=by omega
   have a8:(k:Int)<x.m.length:=by omega
   rcases h4:L5_ x.p m with _ | _
   ·have HF:=h_ (t5_ (x:=x) (k:=k+1) (n:=x.m.length) (by rw[HSU.out,h4];rfl) (by omega));go_wp2;rw[←hWx];clear hWx
    (refine b1_ (by kernel_rfl) (by kernel_rfl) ?_;(repeat (go_big_quiet_step ((go_at_call 81;exact InB.call (k9_ _ _ m _ (HM.out _))))));refine wpQuiet_nil ?_;intro w1 hw';obtain⟨s1,hw1⟩:=hw';have hb1:=s1.below;rw[←hw1]at hb1;clear hw1 s1)
    go_wp2;go_ret
    exact⟨by rw[HF.out];rfl,b0_ HG1.out hb1⟩
   rcases h5:decide (m.c=xdf) with _ | _
   ·have HF:=h_ (t5_ (x:=x) (k:=k+1) (n:=x.m.length) (by rw[HSU.out,h5];simp) (by omega));have e5:(m.c != xdf)=true:=by rw[bne_iff_ne];exact of_decide_eq_false h5
    clear h5;go_wp2;rw[←hWx];clear hWx
    (refine b1_ (by kernel_rfl) (by kernel_rfl) ?_;(repeat (go_big_quiet_step ((go_at_call 81;exact InB.call (k9_ _ _ m _ (HM.out _))))));refine wpQuiet_nil ?_;intro w1 hw';obtain⟨s1,hw1⟩:=hw';have hb1:=s1.below;rw[←hw1]at hb1;clear hw1 s1)
    go_wp2;go_ret
    exact⟨by rw[HF.out];rfl,b0_ HG1.out hb1⟩
   have e5:(m.c != xdf)=false:=by rw[bne_eq_false_iff_eq];exact of_decide_eq_true h5
   rcases h6:decide (m.r=xdt) with _ | _
   ·have HF:=h_ (t5_ (x:=x) (k:=k+1) (n:=x.m.length) (by rw[HSU.out,h6];simp) (by omega));have e6:(m.r != xdt)=true:=by rw[bne_iff_ne];exact of_decide_eq_false h6
    clear h5 h6;go_wp2;rw[←hWx];clear hWx
    (refine b1_ (by kernel_rfl) (by kernel_rfl) ?_;(repeat (go_big_quiet_step ((go_at_call 81;exact InB.call (k9_ _ _ m _ (HM.out _))))));refine wpQuiet_nil ?_;intro w1 hw';obtain⟨s1,hw1⟩:=hw';have hb1:=s1.below;rw[←hw1]at hb1;clear hw1 s1)
    go_wp2;go_ret
    exact⟨by rw[HF.out];rfl,b0_ HG1.out hb1⟩
   have e6:(m.r != xdt)=false:=by rw[bne_eq_false_iff_eq];exact of_decide_eq_true h6
   have HF:=h_ (show okMs x (k+1)=true by rw[HSU.out,h4,h5,h6];rfl);clear h5 h6;go_wp2;rw[←hWx];clear hWx
   (refine b1_ (by kernel_rfl) (by kernel_rfl) ?_;(repeat (go_big_quiet_step ((go_at_call 81;exact InB.call (k9_ _ _ m _ (HM.out _))))));refine wpQuiet_nil ?_;intro w1 hw';obtain⟨s1,hw1⟩:=hw';have hb1:=s1.below;rw[←hw1]at hb1;clear hw1 s1)
   go_wp2;go_roundw
   case rel=>exact⟨k+1,by omega,by go_num,b0_ HGX.out hb1,HF.out⟩
   case measure=>simp[intOf];omega
  ·have HF:=h_ (show okMs x x.m.length=true by have:=hok.out;rwa[show k=x.m.length by omega]at this);have g1:=b0_ g0 hbel;go_wp2;go_ret
   exact⟨by rw[HF.out];rfl,g1⟩
theorem k4_ (u:Value) (x:Rp) (w:World) (hu:RpR w w.heap.size u x) :
  Calls Tryz.prog 40 #[u] w fun e w'=>e = .returned (.bool (m9_ x))∧Below w.heap.size w w':=by
 obtain⟨A,a,C,c,E,e,H,h,rfl,hq,hd,hm,hp,ld,lm⟩:=hu.open_;clear hu;obtain⟨W,hW,g0,kB⟩:=b_3 w #[.int .i64 x.p,.int .i64 x.q.v,.slice A x.q.f.length a,.slice C x.q.t.length c,.slice E x.d.length e,.slice H x.m.length h] 29;obtain⟨c0,c1,c2,c3,c4,c5⟩:=c_6 kB;replace hq:=QvR.next g0 hq;replace hd:=SlI.next g0 hd;replace hm:=SlM.next g0 hm;unfold m9_;rcases h1:c8_ x.p with _ | _
 ·go_enter Tryz.func40,Tryz.ntmps40
  go_wp2_with fail
  rw[←hW];clear hW;refine (b6_ _ _).mono ?_;rintro e w1 ⟨rfl,rfl⟩;rw[h1];go_wp2;go_ret
  exact⟨rfl,g0⟩
 rcases h2:i0_ x.q x.d with _ | _
 ·have H2:=h_ h2;clear h2;go_enter Tryz.func40,Tryz.ntmps40
  go_wp2_with fail
  rw[←hW];clear hW;refine (b6_ _ _).mono ?_;rintro e w1 ⟨rfl,rfl⟩;rw[h1];go_wp2_with fail
  refine (q9_ _ _ _ _ _ hq hd).mono ?_;rintro e w_3 ⟨rfl,hb_3⟩;replace g0:=b0_ g0 hb_3;replace hq:=QvR.next hb_3 hq;replace hd:=SlI.next hb_3 hd;replace hm:=SlM.next hb_3 hm;replace kB:=kB.call hb_3;replace c0:=kB.cell' (i:=0) rfl;replace c1:=kB.cell' (i:=1) rfl;replace c2:=kB.cell' (i:=2) rfl;replace c3:=kB.cell' (i:=3) rfl;replace c4:=kB.cell' (i:=4) rfl;replace c5:=kB.cell' (i:=5) rfl;rw[H2.out];go_wp2;go_ret
  exact⟨rfl,g0⟩
 obtain⟨lf,lt⟩:=hq.lens;rcases h3:decide (x.m.length=x.q.f.length) with _ | _
 ·have e3:((x.m.length:Int) != x.q.f.length)=true:=by rw[bne_iff_ne];have:=of_decide_eq_false h3;omega
  have H2:=h_ h2;clear h2 h3;go_enter Tryz.func40,Tryz.ntmps40
  go_wp2_with fail
  rw[←hW];clear hW;refine (b6_ _ _).mono ?_;rintro e w1 ⟨rfl,rfl⟩;rw[h1];go_wp2_with fail
  refine (q9_ _ _ _ _ _ hq hd).mono ?_;rintro e w_4 ⟨rfl,hb_4⟩;replace g0:=b0_ g0 hb_4;replace hq:=QvR.next hb_4 hq;replace hd:=SlI.next hb_4 hd;replace hm:=SlM.next hb_4 hm;replace kB:=kB.call hb_4;replace c0:=kB.cell' (i:=0) rfl;replace c1:=kB.cell' (i:=1) rfl;replace c2:=kB.cell' (i:=2) rfl;replace c3:=kB.cell' (i:=3) rfl;replace c4:=kB.cell' (i:=4) rfl;replace c5:=kB.cell' (i:=5) rfl;rw[H2.out];go_wp2;go_ret
  exact⟨rfl,g0⟩
 have e3:((x.m.length:Int) != x.q.f.length)=false:=by rw[bne_eq_false_iff_eq];have:=of_decide_eq_true h3;omega
 have H3:=h_ (of_decide_eq_true h3);have H2:=h_ h2;clear h2 h3;go_enter Tryz.func40,Tryz.ntmps40
 go_wp2_with fail
 rw[←hW];clear hW;refine (b6_ _ _).mono ?_;rintro e w1 ⟨rfl,rfl⟩;rw[h1];go_wp2_with fail
 refine (q9_ _ _ _ _ _ hq hd).mono ?_;rintro e W1 ⟨rfl,hb0⟩;replace g0:=b0_ g0 hb0;replace hq:=QvR.next hb0 hq;replace hd:=SlI.next hb0 hd;replace hm:=SlM.next hb0 hm;replace kB:=kB.call hb0;replace c0:=kB.cell' (i:=0) rfl;replace c1:=kB.cell' (i:=1) rfl;replace c2:=kB.cell' (i:=2) rfl;replace c3:=kB.cell' (i:=3) rfl;replace c4:=kB.cell' (i:=4) rfl;replace c5:=kB.cell' (i:=5) rfl;clear hb0;rw[H2.out];obtain⟨hf,ht⟩:=hq.sl;clear hq;go_wp2;go_loopw [3] (fun i wr=>∃ k:Nat,k≤x.m.length∧i = .int .i64 k∧Below W1.heap.size W1 wr∧Hid (okMs x k=true)) (fun i _=>x.m.length-(intOf i).toNat)
 case atStart=>exact⟨0,l0_ _,rfl,Below.refl _ _,rfl⟩
 case round =>
  obtain⟨k,hk,rfl,hbel,hok⟩:=hrel;clear c0 c1 c2 c3 c4 c5;have z5:=(kB.call hbel).cell' (i:=5) rfl;by_cases hlt:k<x.m.length
  ·have hkf:k<x.q.f.length:=by have:=H3.out;omega
   obtain⟨nf,nt,yf,yt,ef,et,df,dt,lnf,lnt,lnf5,lnt5,hkt⟩:=C0_ H2.out hkf;obtain⟨b,o,m,A',c',rfl,hb,HX,x1,x2,x3,hsl,i1,i2,lml⟩:=SlM.at_ hm hlt;obtain⟨bf,of_,xf,rfl,hbf,HXF,f1,_⟩:=SlI.at_ hf hkf;obtain⟨bt,ot,xt,rfl,hbt,HXT,t1,_⟩:=SlI.at_ ht hkt;obtain⟨bd,od,xdf,rfl,hbd,HXDF,d1,ddf⟩:=SlI.at_ hd lnf;obtain⟨bd',od',xdt,ebd,hbd',HXDT,d2,ddt⟩:=SlI.at_ hd lnt;injection ebd with ebd
   injection ebd with ebd1 ebd2
   subst ebd1 ebd2;have q1:=HXF.out;rw[ef]at q1;injection q1 with q1
   subst q1;have q2:=HXT.out;rw[et]at q2;injection q2 with q2
   subst q2;have hsucc:=Z1_ HX.out ef et;rw[hok.out,Bool.true_and,okM,r4_ HXDF.out,r4_ HXDT.out]at hsucc;have HSU:=h_ hsucc;clear hsucc HXDF HXDT HXF HXT ef et df dt hf ht hd hm;have gx:=hbel;have hm0:=InB.cell (w:=wr) (by have:=hbel.size;omega) (a4_ hbel hb x1);have hm1:=InB.cell (w:=wr) (by have:=hbel.size;omega) (a4_ hbel hb x2);have hm2:=InB.cell (w:=wr) (by have:=hbel.size;omega) (a4_ hbel hb x3);have gx1:=gx.size;have hF:=InB.cell (w:=wr) (by omega) (a4_ gx hbf f1);have hT:=InB.cell (w:=wr) (by omega) (a4_ gx hbt t1);have hD1:=InB.cell (w:=wr) (by omega) (a4_ gx hbd d1);have hD2:=InB.cell (w:=wr) (by omega) (a4_ gx hbd d2);have kBx:=kB.call gx;have r0:=fun s:InB wr=>(kBx.call s.below).cell' (i:=0) rfl
   have r2:=fun s:InB wr=>(kBx.call s.below).cell' (i:=2) rfl
   have r3:=fun s:InB wr=>(kBx.call s.below).cell' (i:=3) rfl
   have r4:=fun s:InB wr=>(kBx.call s.below).cell' (i:=4) rfl
   have r5:=fun s:InB wr=>(kBx.call s.below).cell' (i:=5) rfl
   have HM:Hid (∀ s:InB wr,MxR s.val s.val.heap.size (.agg #[.int .i64 m.r,.int .i64 m.c,.slice A' m.a.length c']) m):=fun s=>⟨_,rfl,SlI.next s.below (SlI.next gx hsl),i1,i2⟩
   have g1:=b0_ g0 gx;have HGX:=h_ gx;have HG1:=h_ g1;clear x1 x2 x3 f1 t1 d1 d2 hsl i1 i2 kB kBx gx g1 g0;have a1:(0:Int)≤(k:Int):=by omega
   have a2:(k:Int)<x.q.f.length:=by omega
   have a3:(k:Int)<x.q.t.length:=by omega
   have a4:(0:Int)≤(nf:Int):=by omega
   have a5:(nf:Int)<x.d.length:=by omega
   have a6:(0:Int)≤(nt:Int):=by omega
   have a7:(nt:Int)<x.d.length:=by omega
   have a8:(k:Int)<x.m.length:=by omega
   rcases h4:L5_ x.p m with _ | _
   ·have HF:=h_ (t5_ (x:=x) (k:=k+1) (n:=x.m.length) (by rw[HSU.out,h4];rfl) (by omega));go_wp2
    (refine b1_ (by kernel_rfl) (by kernel_rfl) ?_;(repeat (go_big_quiet_step ((go_at_call 87;exact InB.call (j8_ _ _ m _ (HM.out _))))));refine wpQuiet_nil ?_;intro w1 hw';obtain⟨s1,hw1⟩:=hw';have hb1:=s1.below;rw[←hw1]at hb1;clear hw1 s1)
    go_wp2;go_ret
    exact⟨by rw[HF.out];rfl,b0_ HG1.out hb1⟩
   rcases h5:decide (m.c=xdf) with _ | _
   ·have HF:=h_ (t5_ (x:=x) (k:=k+1) (n:=x.m.length) (by rw[HSU.out,h5];simp) (by omega));have e5:(m.c != xdf)=true:=by rw[bne_iff_ne];exact of_decide_eq_false h5
    clear h5;go_wp2
    (refine b1_ (by kernel_rfl) (by kernel_rfl) ?_;(repeat (go_big_quiet_step ((go_at_call 87;exact InB.call (j8_ _ _ m _ (HM.out _))))));refine wpQuiet_nil ?_;intro w1 hw';obtain⟨s1,hw1⟩:=hw';have hb1:=s1.below;rw[←hw1]at hb1;clear hw1 s1)
    go_wp2;go_ret
    exact⟨by rw[HF.out];rfl,b0_ HG1.out hb1⟩
   have e5:(m.c != xdf)=false:=by rw[bne_eq_false_iff_eq];exact of_decide_eq_true h5
   rcases h6:decide (m.r=xdt) with _ | _
   ·have HF:=h_ (t5_ (x:=x) (k:=k+1) (n:=x.m.length) (by rw[HSU.out,h6];simp) (by omega));have e6:(m.r != xdt)=true:=by rw[bne_iff_ne];exact of_decide_eq_false h6
    clear h5 h6;go_wp2
    (refine b1_ (by kernel_rfl) (by kernel_rfl) ?_;(repeat (go_big_quiet_step ((go_at_call 87;exact InB.call (j8_ _ _ m _ (HM.out _))))));refine wpQuiet_nil ?_;intro w1 hw';obtain⟨s1,hw1⟩:=hw';have hb1:=s1.below;rw[←hw1]at hb1;clear hw1 s1)
    go_wp2;go_ret
    exact⟨by rw[HF.out];rfl,b0_ HG1.out hb1⟩
   have e6:(m.r != xdt)=false:=by rw[bne_eq_false_iff_eq];exact of_decide_eq_true h6
   have HF:=h_ (show okMs x (k+1)=true by rw[HSU.out,h4,h5,h6];rfl);clear h5 h6;go_wp2
   (refine b1_ (by kernel_rfl) (by kernel_rfl) ?_;(repeat (go_big_quiet_step ((go_at_call 87;exact InB.call (j8_ _ _ m _ (HM.out _))))));refine wpQuiet_nil ?_;intro w1 hw';obtain⟨s1,hw1⟩:=hw';have hb1:=s1.below;rw[←hw1]at hb1;clear hw1 s1)
   go_wp2;go_roundw
   case rel=>exact⟨k+1,by omega,by go_num,b0_ HGX.out hb1,HF.out⟩
   case measure=>simp[intOf];omega
  ·have HF:=h_ (show okMs x x.m.length=true by have:=hok.out;rwa[show k=x.m.length by omega]at this);have g1:=b0_ g0 hbel;go_wp2;go_ret
   exact⟨by rw[HF.out];rfl,g1⟩
theorem j0_ {x:Rp}:m9_ x=true↔c8_ x.p=true∧i0_ x.q x.d=true∧x.m.length=x.q.f.length∧okMs x x.m.length=true:=by
 simp only[m9_,l9_,decide_eq_true_eq,and_assoc]
def rowF (V:Nat) (g:Nat→Int):List Int:=(List.range V).map g
def matF (V:Nat) (g:Nat→Nat→Int):List (List Int):=(List.range V).map fun a=>rowF V (g a)
theorem a2_ (V:Nat) (g:Nat→Int):(rowF V g).length=V:=by simp[rowF]
theorem j5_ (V:Nat) (g:Nat→Nat→Int):(matF V g).length=V:=by simp[matF]
theorem c0_ {V j:Nat} (g:Nat→Int) (h:j<V):(rowF V g)[j]?=some (g j):=by simp[rowF,h]
theorem a9Z {V j:Nat} (g:Nat→Nat→Int) (h:j<V):(matF V g)[j]?=some (rowF V (g j)):=by simp[matF,h]
theorem i9_ {V j:Nat} (g:Nat→Int) (h:j<V):(rowF V g).getD j 0=g j:=by rw[l1_,c0_ g h];rfl
theorem d1_ {V:Nat} {g h:Nat→Int} (e:∀ a,a<V→g a=h a):rowF V g=rowF V h:=by
 apply List.ext_getElem?
 intro i;by_cases hi:i<V
 ·rw[c0_ g hi,c0_ h hi,e i hi]
 ·rw[l6_ (by rw[a2_];omega),l6_ (by rw[a2_];omega)]
theorem o4_ {V j:Nat} (g:Nat→Int) (x:Int):(rowF V g).set j x=rowF V fun b=>if b=j then x else g b:=by
 apply List.ext_getElem?
 intro i;rw[List.getElem?_set,a2_];by_cases hi:i<V
 ·rw[c0_ (fun b=>if b=j then x else g b) hi];by_cases e:j=i
  ·rw[if_pos e,if_pos (by omega),if_pos e.symm]
  ·rw[if_neg e,c0_ _ hi,if_neg (fun h=>e h.symm)]
 ·rw[l6_ (l:=rowF V fun b=>if b=j then x else g b) (by rw[a2_];omega)];split
  ·rw[if_neg (by omega)]
  ·rw[l6_ (by rw[a2_];omega)]
theorem OutO.cellS {w:World} {lo hi g n c j:Nat} {vs:List Value} {v:Value} (ho:OutO w lo hi (.slice (some ⟨g,0,none⟩) n c) vs) (hv:vs[j]?=some v):w.cell? ⟨g,j,none⟩=some v:=by
 have hj:=a6_ hv;have hn:n=vs.length:=by
  rcases ho.1.2 with ⟨e,_⟩ | ⟨g',cap',cur,e,_⟩
  ·cases e
  ·injection e with _ e _
 subst hn;have hc:=ho.1.cellAt j (by omega);rw[hc,hv]
theorem OutO.frozenS {w:World} {lo hi g n c:Nat} {vs:List Value} (ho:OutO w lo hi (.slice (some ⟨g,0,none⟩) n c) vs) (j:Nat):w.frozen? ⟨g,j,none⟩=false:=by
 have hn:n=vs.length:=by
  rcases ho.1.2 with ⟨e,_⟩ | ⟨g',cap',cur,e,_⟩
  ·cases e
  ·injection e with _ e _
 subst hn;exact ho.1.frozenAt j
theorem g4X {vs:List Value} {ll:List (List Int)} {j:Nat} {v:Value} {l l':List Int} (hv:vs[j]?=some v) (hl:ll[j]?=some l):vs.zip (ll.set j l')=(vs.take j).zip (ll.take j) ++ (v,l') :: (vs.drop (j+1)).zip (ll.drop (j+1)):=by
 have hj:=a6_ hl;rw[k7_ hv (l:=l') (by rw[List.getElem?_set,if_pos rfl,if_pos hj]),List.take_set_of_le (l_ j),List.drop_set_of_lt (by omega)]
theorem Fam.putAt {w:World} {lo hi j i g c:Nat} {vs:List Value} {ll:List (List Int)} {l:List Int} {x:Int} (hF:Fam w lo hi (vs.zip ll)) (hv:vs[j]?=some (.slice (some ⟨g,0,none⟩) l.length c)) (hl:ll[j]?=some l)
  (ho:OwnI w lo (.slice (some ⟨g,0,none⟩) l.length c) l) (hx:I64 x):Fam (w.setCell ⟨g,i,none⟩ (.int .i64 x)) lo hi (vs.zip (ll.set j (l.set i x))):=by
 rw[g4X hv hl];rw[k7_ hv hl]at hF;have hp:=ho.put (j:=i) hx;exact hF.turn hp.1 hp.2
theorem chg3 (w:World) (g:Nat) (u0 u1 u2:Value):Chg g (g+1) w (((w.setCell ⟨g,0,none⟩ u0).setCell ⟨g,1,none⟩ u1).setCell ⟨g,2,none⟩ u2):=by
 have s:∀ (w:World) (i:Nat) (u:Value),Chg g (g+1) w (w.setCell ⟨g,i,none⟩ u):=fun w i u=>a5_ (l_ _) (m0_ _)
 exact ((s _ _ _).trans (s _ _ _)).trans (s _ _ _)
theorem chg6 (w:World) (g:Nat) (u0 u1 u2 u3 u4 u5:Value):Chg g (g+1) w ((((((w.setCell ⟨g,0,none⟩ u0).setCell ⟨g,1,none⟩ u1).setCell ⟨g,2,none⟩ u2).setCell ⟨g,3,none⟩ u3).setCell ⟨g,4,none⟩ u4).setCell ⟨g,5,none⟩ u5):=by
 have s:∀ (w:World) (i:Nat) (u:Value),Chg g (g+1) w (w.setCell ⟨g,i,none⟩ u):=fun w i u=>a5_ (l_ _) (m0_ _)
 exact (((((s _ _ _).trans (s _ _ _)).trans (s _ _ _)).trans (s _ _ _)).trans (s _ _ _)).trans (s _ _ _)
theorem c9_ {B:Nat} {w w':World} {row:Option Nat} (hg:w.grownBy w' row) (hB:∀ k,row=some k→B≤k) (hs:B≤w.heap.size):Below B w w' :=
 ⟨hg.os,hg.tape,hg.output,hg.size,fun k hk=>hg.block k (by omega) (fun e=>by have:=hB k e.symm;omega)⟩
theorem A9_ {w:World} {ops:Array Oper} {rest:List Oper} {o:Oper} {a:Act} {Q:Exit→Act→World→Prop} (hgd:o.guard=none) (s x:Operand)
  (ho:o.op = .call { callee:=.builtin .append,args:=#[s,x],argTypes:=#[34,34] })
  (base:Nat) (v:Value) (vs:List Value) (hs:a.eval s=v) (hown:w.ownsRow base 24 1 v vs.length vs) (A:Option Addr) (c:Nat) (u:Value) (hx:a.eval x = .slice A 1 c) (hA:∃ b o,A=some ⟨b,o,none⟩∧w.cell? ⟨b,o,none⟩=some u) (h1:u.oneCell'=true)
  (hn:vs.length+1≤1048576) (hbase:base≤w.heap.size)
  (h:∀ v' w',w'.ownsRow base 24 1 v' (vs ++ [u]).length (vs ++ [u])→w.grownBy w' v.ownBlock→(v'.ownBlock=v.ownBlock∨v'.ownBlock=some w.heap.size)→wpList Tryz.prog ops Q rest (a.put o.dst v') w'):wpList Tryz.prog ops Q (o :: rest) a w:=by
 obtain⟨i0,hi,hz0,hz1,hz2⟩:=info_parts T0_;obtain⟨b,off,rfl,hc⟩:=hA;refine f1_ w hgd s x _ ho base 24 i0 _ 1 24 Tryz.underlying34 hi hz0 hz1 hz2 rfl (by decide) v vs.length _ hs hown (some ⟨b,off,none⟩) 1 c [u] hx ⟨by simp,.inr ⟨b,off,rfl,fun j u' hu=>?_⟩⟩ (by simpa using h1) (by simp only[maxLen];omega) (by omega) hbase fun v' w' h2 h3 h4=>?_
 ·match j,hu with
  | 0,hu =>
   simp at hu;subst hu;exact hc
 ·exact h v' w' (by simpa using h2) h3 h4
theorem Fam.grownO {w w':World} {lo hi base n:Nat} {L:List (Value×List Int)} {v:Value} {vs:List Value} (hF:Fam w lo hi L) (ho:w.ownsRow base 24 1 v n vs) (hg:w.grownBy w' v.ownBlock):Fam w' lo hi L:=by
 refine⟨fun p hp=>⟨(hF.1 p hp).1.kept hg ?_,(hF.1 p hp).2⟩,hF.2⟩;rcases ho.2 with ⟨rfl,_⟩ | ⟨g,cap,cur,rfl,_,hh,_⟩
 ·rcases hA:p.1.ownBlock with _ | x
  ·exact .inl rfl
  ·right
   simp[Value.ownBlock]
 ·right
  exact fun e=>(hF.1 p hp).1.blkne (g:=g) (t:=24) (cs:=cur) hh (by decide) (by rw[e];rfl)
theorem OutO.blkne {w:World} {lo hi g:Nat} {v:Value} {vs:List Value} {t:TypeId} {cs:Array Value} (h:OutO w lo hi v vs) (hb:Blk w g t cs) (ht:24≠t):some g≠v.ownBlock:=by
 rcases h.1.2 with ⟨rfl,_⟩ | ⟨g',cap,cur,rfl,_,hh,_⟩
 ·simp[Value.ownBlock]
 ·intro he;have:g=g':=by simpa [Value.ownBlock] using he
  subst this;unfold Blk at hb;rw[hh]at hb;injection hb with hb
  injection hb with _ hb
  exact ht hb
section
variable {P:Program} {ops:Array Oper} {Q:Exit→Act→World→Prop} {sp:List NS} {D:List (List Nat)} {m s:Nat} {a0:Act} {w0:World}
theorem U7_ {listed:Array Bool} {i:Nat} (his:i<listed.size) (j:Nat):(listed.setIfInBounds i true).getD j false=(listed.getD j false || j == i):=by
 by_cases e:i=j
 ·subst e;simp[m2_,Array.getElem?_setIfInBounds,his]
 ·rw[getD_set_ne _ e];simp[Ne.symm e]
theorem K4_ {listed:Array Bool} {i:Nat} (his:i<ops.size) (hli:listed.getD i false=false) (hls:listed.size=ops.size) :
  ((List.range ops.size).filter fun j=>!(listed.setIfInBounds i true).getD j false).length+1=((List.range ops.size).filter fun j=>!listed.getD j false).length:=by
 have hmem:i∈(List.range ops.size).filter fun j=>!listed.getD j false:=by
  rw[List.mem_filter];exact⟨List.mem_range.2 his,by rw[hli];rfl⟩
 have e:(List.range ops.size).filter (fun j=>!(listed.setIfInBounds i true).getD j false)=((List.range ops.size).filter fun j=>!listed.getD j false).filter (fun j=>j != i):=by
  rw[List.filter_filter];congr 1
  funext j
  rw[U7_ (hls ▸ his)];simp[Bool.not_or,Bool.and_comm,bne]
 have hnd:((List.range ops.size).filter fun j=>!listed.getD j false).Nodup:=List.nodup_range.filter _;rw[e];have:=List.length_erase_of_mem hmem;rw[hnd.erase_eq_filter]at this;have h1:=List.length_pos_of_mem hmem;omega
theorem P7_ {listed:Array Bool} {k:Nat} (hl:∀ j,listed.getD j false=decide (j<k)) (hk:k≤ops.size):((List.range ops.size).filter fun j=>!listed.getD j false).length=ops.size-k:=by
 have e:(List.range ops.size).filter (fun j=>!listed.getD j false)=(List.range' k (ops.size-k)):=by
  have e1:(List.range ops.size)=List.range k ++ List.range' k (ops.size-k):=by
   have h:=List.range'_append_1 (s:=0) (m:=k) (n:=ops.size-k);rw[Nat.zero_add]at h;rw[List.range_eq_range',List.range_eq_range',h];congr 1
   omega
  rw[e1,List.filter_append];rw[List.filter_eq_nil_iff.2 (fun j hj=>by rw[hl];simp at hj⊢;exact hj),List.nil_append];rw[List.filter_eq_self.2 (fun j hj=>by rw[hl];simp[List.mem_range']at hj⊢;omega)]
 rw[e,List.length_range']
theorem V9_ (v:Nat→Value) (p:Nat→Bool):∀ k,actP ops a0 v p k=((List.range k).filter p).foldl (fun a k=>a.put (j6_ ops k) (v k)) a0
 | 0=>rfl
 | k+1=>by
  rw[List.range_succ,List.filter_append,List.foldl_append,←V9_ v p k];conv=>lhs;unfold actP
  rcases h:p k with _ | _ <;> simp[h]
theorem M1_ (hok:∀ i o,ops[i]?=some o→NetOk ops D (m+1) i o):∀ (fuel k:Nat) (listed:Array Bool) (a:Act) (w:World),fuel+k=ops.size→m≤k→listed.size=ops.size→(∀ j,listed.getD j false=decide (j<k)) →
  wpList P ops Q (ops.toList.drop k) a w→wpAny P .any ops Q fuel listed a w
 | fuel,k,listed,a,w,hf,hm,hls,hl,h=>by
  have hld:∀ j,j<ops.size→listed.getD j true=decide (j<k):=fun j hj=>by
   rw[←hl j];simp[m2_,l8_ (show j<listed.size by omega)]
  have hr:∀ i∈Region.ready .any ops listed,i=k∧k<ops.size:=fun i hi=>by
   obtain⟨h0,o,ho,hall⟩:=mem_ready.1 hi;have hin:=(Array.getElem?_eq_some_iff.1 ho).1;rw[hld i hin]at h0;have hik:k≤i:=by simpa using h0
   refine⟨?_,by omega⟩;have hcl:=(hok i o ho).danc (fun j=>j<k) (fun e he hb=>by have:=hall e he hb;rw[hl]at this;simpa using this) (fun j hj x hx=>by
    have hjs:j<ops.size:=by omega
    have:=(hok j _ (l8_ hjs)).dlt x hx;omega)
   rcases Nat.lt_or_ge k i with hlt | hge
   ·have:=hcl k ((hok i o ho).tail (by omega) k hlt);omega
   ·omega
  cases fuel with
  | zero =>
   refine⟨?_,?_⟩
   ·apply List.eq_nil_iff_forall_not_mem.2
    intro i hi;have:=hr i hi;omega
   ·rw[List.drop_of_length_le (by simp;omega)]at h;exact h
  | succ fuel =>
   have hks:k<ops.size:=by omega
   have hke:=l8_ hks;have hdrop:ops.toList.drop k=ops[k] :: ops.toList.drop (k+1):=by
    rw[List.drop_eq_getElem_cons (by simpa using hks)];simp
   rw[hdrop]at h;have hready:k∈Region.ready .any ops listed:=mem_ready.2 ⟨by rw[hld k hks];simp,_,hke,fun e he hb=>by rw[hl];simpa using (hok k _ hke).direct e he hb⟩;refine⟨fun h0=>(by rw[h0]at hready;cases hready),fun i hi=>?_⟩;obtain⟨rfl,_⟩:=hr i hi;unfold wpOp;simp only[hke];have hw:Region.wanted ops[i] (yielded ops a.tmps)=true:=by simp[Region.wanted,(hok i _ hke).guard]
   simp only[wpList,hw,if_true]at h⊢;have nxt:∀ a w,wpList P ops Q (ops.toList.drop (i+1)) a w→wpAny P .any ops Q fuel (listed.setIfInBounds i true) a w:=fun a w h =>
    M1_ hok fuel (i+1) _ a w (by omega) (by omega) (by simpa using hls) (fun j=>by
     by_cases e:i=j
     ·subst e;simp[m2_,Array.getElem?_setIfInBounds,hls,hks]
     ·rw[getD_set_ne _ e,hl];congr 1
      rw[eq_iff_iff];omega) h
   rcases h with h | h
   ·exact .inl (Oper.wp_mono nxt h)
   ·exact .inr h
theorem d6q (hB:netB ops D (m+1)=true) (hms:m<ops.size) (hsm:s<m) (hD:∀ j,j<m→j≠s→j∈D.getD m []) (hst:∀ s∈sp,s.stable) (hdo:∀ i o,i<m→ops[i]?=some o→Y8_ P ops sp D a0 w0 i o)
  (hend:∀ x w,Below w0.heap.size w0 w→(∀ i,i<m→k1_ sp D x i w)→(∀ i,i<m→w0.heap.size≤x.lo i∧x.lo i≤x.hi i∧x.hi i≤w.heap.size)→(∀ i j,i<m→j<m→i≠j→x.hi i≤x.lo j∨x.hi j≤x.lo i)→wpList P ops Q (ops.toList.drop m) (c5_ ops a0 x.v m) w)
  (hend2:∀ x w,Below w0.heap.size w0 w→(∀ i,i<m∧i≠s→k1_ sp D x i w)→(∀ i,i<m∧i≠s→w0.heap.size≤x.lo i∧x.lo i≤x.hi i∧x.hi i≤w.heap.size)→(∀ i j,i<m∧i≠s→j<m∧j≠s→i≠j→x.hi i≤x.lo j∨x.hi j≤x.lo i)→∀ om os,ops[m]?=some om→ops[s]?=some os→wpList P ops Q (om :: os :: ops.toList.drop (m+1)) (actP ops a0 x.v (fun j=>j != s) m) w) :
  ∀ (fuel:Nat) (listed:Array Bool) (x:Gh) (w:World),((List.range ops.size).filter fun j=>!listed.getD j false).length=fuel→listed.size=ops.size→(∀ j,m≤j→listed.getD j false=false) →
   (∀ i,listed.getD i false=true→∀ j∈D.getD i [],listed.getD j false=true)→Below w0.heap.size w0 w→(∀ i,listed.getD i false=true→k1_ sp D x i w)→(∀ i,listed.getD i false=true→w0.heap.size≤x.lo i∧x.lo i≤x.hi i∧x.hi i≤w.heap.size) →
   (∀ i j,listed.getD i false=true→listed.getD j false=true→i≠j→x.hi i≤x.lo j∨x.hi j≤x.lo i) →
   wpAny P .any ops Q fuel listed (actP ops a0 x.v (fun j=>listed.getD j false) ops.size) w:=by
 simp only[netB,l9_,decide_eq_true_eq]at hB;obtain⟨⟨hm,hns⟩,hnf⟩:=hB;have hok:∀ i o,ops[i]?=some o→NetOk ops D (m+1) i o:=fun i o ho=>t4_ (by
  have:=m7_ ops.toList 0 hnf i o (by simpa using ho);simpa using this)
 have hst':∀ i,(sp.getD i (.eq undef)).stable:=fun i=>by
  rw[l1_];rcases h:sp[i]? with _ | s
  ·trivial
  ·exact hst s (l4_ h)
 intro fuel;induction fuel with
 | zero =>
  intro listed x w hc hls hlm hcl hb hkn hiv hdj;exfalso
  rw[List.length_eq_zero_iff,List.filter_eq_nil_iff]at hc;have:=hc m (List.mem_range.2 hms);rw[hlm m (l_ _)]at this;simp at this
 | succ fuel ih =>
  intro listed x w hc hls hlm hcl hb hkn hiv hdj;by_cases hfull:∀ j,j<m→listed.getD j false=true
  · -- the tail
   have hl:∀ j,listed.getD j false=decide (j<m):=fun j=>by
    by_cases hj:j<m
    ·rw[hfull j hj];simp[hj]
    ·rw[hlm j (by omega)];simp[hj]
   have hcnt:=P7_ (ops:=ops) hl (by omega);refine M1_ hok (fuel+1) m listed _ w (by omega) (l_ _) hls hl ?_;have:=hend x w hb (fun i hi=>hkn i (hfull i hi)) (fun i hi=>hiv i (hfull i hi)) (fun i j hi hj=>hdj i j (hfull i hi) (hfull j hj));rw[←f6_ (p:=fun j=>listed.getD j false) m hfull]at this;rwa[f5_ (p:=fun j=>listed.getD j false) ops.size m (by omega) (fun j h1 _=>hlm j h1)]
  · -- one of the net
   have hne:Region.ready .any ops listed≠[]:=by
    intro h0;have:∀ n,∀ j,j<n→j<m→listed.getD j false=true:=by
     intro n;induction n with
     | zero=>intro j hj;omega
     | succ n ihn =>
      intro j hj hjm;by_cases e:j<n
      ·exact ihn j e hjm
      ·rcases hlj:listed.getD j false with _ | _
       ·exfalso
        have hjs:j<ops.size:=by omega
        have hje:=l8_ hjs;have:j∈Region.ready .any ops listed:=mem_ready.2 ⟨by
         rw[←hlj];simp[m2_,l8_ (show j<listed.size by omega)],_,hje,fun e he hb=>by
         have:=(hok j _ hje).direct e he hb;exact ihn e.on (by omega) (by omega)⟩
        rw[h0]at this;cases this
       ·rfl
    exact hfull fun j hj=>this (j+1) j (by omega) hj
   refine⟨fun h0=>absurd h0 hne,fun i hi=>?_⟩;obtain⟨h0,o,ho,hall⟩:=mem_ready.1 hi;have his:=(Array.getElem?_eq_some_iff.1 ho).1;have hO:=hok i o ho;have hDl:∀ j∈D.getD i [],listed.getD j false=true:=hO.danc (fun j=>listed.getD j false=true) hall (fun k hk j hj=>hcl k hk j hj);have hwant:∀ b:Act,Region.wanted o (yielded ops b.tmps)=true:=fun b=>by simp[Region.wanted,hO.guard]
   rcases Nat.lt_or_ge i m with him | hge
   case inr =>
    have him:i=m:=by
     rcases Nat.lt_or_ge m i with h | h
     ·exact absurd (fun j hj=>hDl j (hO.tail (by omega) j (by omega))) hfull
     ·omega
    subst him;have hls0:listed.getD s false=false:=by
     rcases h:listed.getD s false with _ | _
     ·rfl
     ·exfalso
      refine hfull fun j hj=>?_
      by_cases e:j=s
      ·rw[e,h]
      ·exact hDl j (hD j hj e)
    have hl:∀ j,listed.getD j false=decide (j<i∧j≠s):=fun j=>by
     by_cases hj:j<i
     ·by_cases e:j=s
      ·rw[e,hls0];simp
      ·rw[hDl j (hD j hj e)];simp[hj,e]
     ·rw[hlm j (by omega)];simp[hj]
    have hT:∀ k,k<i∧k≠s→listed.getD k false=true:=fun k hk=>by rw[hl];simpa using hk
    have hss:s<ops.size:=by omega
    have hse:=l8_ hss;have h2:=hend2 x w hb (fun k hk=>hkn k (hT k hk)) (fun k hk=>hiv k (hT k hk)) (fun k j hk hj=>hdj k j (hT k hk) (hT j hj)) o ops[s] ho hse;rw[C9_ (p:=fun j=>j != s) (q:=fun j=>listed.getD j false) (v':=x.v) i (fun j hj=>⟨by rw[hl];by_cases e:j=s <;> simp[e,hj],fun _=>rfl⟩)]at h2;rw[f5_ (p:=fun j=>listed.getD j false) ops.size i (by omega) (fun j h1 _=>hlm j h1)];have hli:=hlm i (l_ _);have c1:=K4_ (ops:=ops) his hli hls;have hsz1:(listed.setIfInBounds i true).size=ops.size:=by simpa using hls
    have hl1:∀ j,(listed.setIfInBounds i true).getD j false=decide (j<i+1∧j≠s):=fun j=>by
     rw[U7_ (hls ▸ his),hl];by_cases e:j=i
     ·subst e;simp;omega
     ·by_cases e2:j<i
      ·simp[e,e2,show j<i+1 by omega]
      ·simp[e,e2,show ¬ j<i+1 by omega]
    have hs1:(listed.setIfInBounds i true).getD s false=false:=by rw[hl1];simp
    have c2:=K4_ (ops:=ops) hss hs1 hsz1;have hl2:∀ j,((listed.setIfInBounds i true).setIfInBounds s true).getD j false=decide (j<i+1):=fun j=>by
     rw[U7_ (hsz1 ▸ hss),hl1];by_cases e:j=s
     ·subst e;simp;omega
     ·simp[e]
    have c3:=P7_ (ops:=ops) hl2 (by omega);have nxt:∀ a w,wpList P ops Q (ops[s] :: ops.toList.drop (i+1)) a w→wpAny P .any ops Q fuel (listed.setIfInBounds i true) a w:=fun a w h=>by
     obtain⟨f,rfl⟩:∃ f,fuel=f+1:=⟨fuel-1,by omega⟩;have hld:∀ j,j<ops.size→(listed.setIfInBounds i true).getD j true=(listed.setIfInBounds i true).getD j false:=fun j hj=>by
      simp only[m2_,l8_ (show j<(listed.setIfInBounds i true).size by omega),Option.getD_some]
     have hready:s∈Region.ready .any ops (listed.setIfInBounds i true):=mem_ready.2 ⟨by rw[hld s hss,hs1],_,hse,fun e he hb=>by
      have:=(hok s _ hse).direct e he hb;rw[hl1];simp;omega⟩
     refine⟨fun h0=>(by rw[h0]at hready;cases hready),fun k hk=>?_⟩;obtain⟨k0,ok,hok2,hall2⟩:=mem_ready.1 hk;have hks:=(Array.getElem?_eq_some_iff.1 hok2).1;rw[hld k hks,hl1]at k0;have hks2:k=s:=by
      by_cases e:k=s
      ·exact e
      ·exfalso
       have hkm:i+1≤k:=by simp at k0;omega
       have hcl2:=(hok k ok hok2).danc (fun j=>(listed.setIfInBounds i true).getD j false=true) hall2 (fun y hy j hj=>by
        rw[hl1]at hy⊢;simp at hy⊢;have hyd:=(hok y _ (l8_ (show y<ops.size by omega))).dlt j hj;refine⟨by omega,fun e2=>?_⟩;subst e2;rcases Nat.lt_or_ge y i with h3 | h3
        ·have:=hcl y (hT y ⟨h3,hy.2⟩) j hj;rw[hls0]at this;cases this
        ·have:y=i:=by omega
         subst this;have:=hDl j hj;rw[hls0]at this;cases this)
       have:=hcl2 s ((hok k ok hok2).tail hkm s (by omega));rw[hs1]at this;cases this
     subst hks2;unfold wpOp;simp only[hse];have hw:Region.wanted ops[k] (yielded ops a.tmps)=true:=by simp[Region.wanted,(hok k _ hse).guard]
     simp only[wpList,hw,if_true]at h⊢;have nxt2:∀ a w,wpList P ops Q (ops.toList.drop (i+1)) a w→wpAny P .any ops Q f ((listed.setIfInBounds i true).setIfInBounds k true) a w:=fun a w h =>
      M1_ hok f (i+1) _ a w (by omega) (by omega) (by simpa using hls) hl2 h
     rcases h with h | h
     ·exact .inl (Oper.wp_mono nxt2 h)
     ·exact .inr h
    unfold wpOp;simp only[ho];simp only[wpList,hwant,if_true]at h2⊢;rcases h2 with h | h
    ·exact .inl (Oper.wp_mono (fun a w h=>nxt a w (by simpa only[wpList] using h)) h)
    ·exact .inr h
   have hli:listed.getD i false=false:=by
    rw[←h0];simp[m2_,l8_ (show i<listed.size by omega)]
   have hpre:=hdo i o him ho x w hb (fun j hj=>⟨hkn j (hDl j hj),(hiv j (hDl j hj)).2.2⟩) (fun e b w'=>e = .normal∧∃ u,b=(c5_ ops a0 x.v i).put o.dst u∧(Below w.heap.size w w'∧(sp.getD i (.eq undef)).holds i (D.getD i []) (x.set i u w.heap.size w'.heap.size) w'))
    (fun u w' h1 h2=>⟨rfl,u,rfl,h1,h2⟩)
   have hnl:¬ LetsOut (fun (e:Exit) (b:Act) (w':World)=>e = .normal∧∃ u,b=(c5_ ops a0 x.v i).put o.dst u∧(Below w.heap.size w w'∧(sp.getD i (.eq undef)).holds i (D.getD i []) (x.set i u w.heap.size w'.heap.size) w')):=by
    rintro⟨b,w',h,_⟩;cases h
   simp only[wpList,hwant,if_true]at hpre;rcases hpre with hpre | hpre
   case inr=>exact absurd hpre.2 hnl
   simp only[true_and]at hpre;have hexec:execOp (actP ops a0 x.v (fun j=>listed.getD j false) ops.size).eval o=execOp (c5_ ops a0 x.v i).eval o:=by
    refine execOp_congr o (fun cs b=>Region.noSelect_spec hns i o cs b ho) fun y hx=>?_
    by_cases hxt:∃ t,y = .tmp t
    ·obtain⟨t,rfl⟩:=hxt;have hlook:t∈o.looksAt ops:=List.mem_append_left _ (List.mem_filterMap.2 ⟨.tmp t,by simpa using hx,rfl⟩);have e1:c5_ ops a0 x.v i=actP ops a0 x.v (fun j=>decide (j<i)) ops.size:=by
      rw[f5_ (p:=fun j=>decide (j<i)) ops.size i (by omega) (fun j h1 _=>by simp;omega)];exact (f6_ (p:=fun j=>decide (j<i)) i (fun j hj=>by simp[hj])).symm
     rw[e1];refine p8_ t ops.size fun j hj hd=>?_
     rcases hO.looks j t hd hlook with h | h
     ·rw[hDl j h];have:=hO.dlt j h;simp[this]
     ·have hlt:=(hok j _ (l8_ hj)).dlt i h;have:listed.getD j false=false:=by
       rcases hlj:listed.getD j false with _ | _
       ·rfl
       ·have:=hcl j hlj i h;rw[hli]at this;cases this
      rw[this];simp;omega
    ·exact p5_ y (fun t h=>hxt ⟨t,h⟩) _ _
   have hsz:(c5_ ops a0 x.v i).tmps.size=(actP ops a0 x.v (fun j=>listed.getD j false) ops.size).tmps.size:=by
    rw[g7_,←f6_ (p:=fun _=>true) i (fun _ _=>rfl),g7_]
   have hT:=o1_ (Q2:=Q) hexec hsz (fun c b w' h=>by cases h.1) hnl hpre;unfold wpOp;simp only[ho,hwant,if_true];refine .inl (Oper.wp_mono ?_ hT);rintro b w' ⟨u,rfl,hbw,hh⟩;have hdst:o.dst=j6_ ops i:=by simp[j6_,ho]
   have hlq:∀ j,(listed.setIfInBounds i true).getD j false=(listed.getD j false || j == i):=fun j=>by
    by_cases e:i=j
    ·subst e;simp[m2_,Array.getElem?_setIfInBounds,hls,his]
    ·rw[getD_set_ne _ e];simp[Ne.symm e]
   rw[hdst,u0_ (v':=(x.set i u w.heap.size w'.heap.size).v) (q:=fun j=>(listed.setIfInBounds i true).getD j false) (fun j hj _=>by simp[Gh.set,hj]) (by simp[Gh.set]) hli hlq (fun j d hij hlj hdj hdi=>by
    rcases hO.dsts j d (by omega) hdj hdi with h | h
    ·have:=hO.dlt j h;omega
    ·have:=hcl j hlj i h;rw[hli]at this;cases this) ops.size his]
   refine ih _ _ _ ?_ (by simpa using hls) (fun j hj=>by rw[hlq,hlm j hj];simp;omega) (fun k hk j hj=>?_) (hb.trans (hbw.mono hb.size)) (fun k hk=>?_) (fun k hk=>?_) (fun k j hk hj hkj=>?_)
   ·have:=K4_ (ops:=ops) his hli hls;omega
   ·rw[hlq]at hk⊢;simp only[Bool.or_eq_true,beq_iff_eq]at hk⊢;rcases hk with hk | rfl
    ·exact .inl (hcl k hk j hj)
    ·exact .inl (hDl j hj)
   ·rw[hlq]at hk;simp only[Bool.or_eq_true,beq_iff_eq]at hk;unfold k1_;by_cases e:k=i
    ·subst e;exact hh
    ·rcases hk with hk | hk
     ·refine NS.holds_congr (x:=x) (fun j hj=>?_) (NS.holds_stable (hst' k) (hkn k hk) hbw);have hji:j≠i:=by
       rcases hj with rfl | hj
       ·exact e
       ·rintro rfl;have:=hcl k hk j hj;rw[hli]at this;cases this
      simp[Gh.set,hji]
     ·exact absurd hk e
   ·rw[hlq]at hk;simp only[Bool.or_eq_true,beq_iff_eq]at hk;by_cases e:k=i
    ·subst e;simp only[Gh.set,if_true];exact⟨hb.size,hbw.size,l_ _⟩
    ·have:=hiv k (hk.resolve_right e);have:=hbw.size;simp only[Gh.set,if_neg e];omega
   ·rw[hlq]at hk hj;simp only[Bool.or_eq_true,beq_iff_eq]at hk hj;by_cases e:k=i
    ·subst e;have:=hiv j (hj.resolve_right (Ne.symm hkj));simp only[Gh.set,if_true,if_neg (Ne.symm hkj)];exact .inr (by omega)
    ·by_cases e':j=i
     ·subst e';have:=hiv k (hk.resolve_right e);simp only[Gh.set,if_true,if_neg e];exact .inl (by omega)
     ·simp only[Gh.set,if_neg e,if_neg e'];exact hdj k j (hk.resolve_right e) (hj.resolve_right e') hkj
def i0Q (ops:Array Oper) (D:List (List Nat)) (m s:Nat):Bool:=netB ops D (m+1) && (decide (m<ops.size) && decide (s<m) && (List.range m).all fun j=>j == s || (D.getD m []).contains j)
theorem y7_ {id:Nat} {l:List Oper} {w:World} (hmo:P.follows .mixedOrders=true) (sp:List NS) (D:List (List Nat)) (m s:Nat) (L:List Nat) (hB:i0Q l.toArray D m s=true) (hL:L=(List.range m).filter (fun j=>j != s)) (hst:t9_ sp)
  (hdo:Y7_ P l.toArray sp D a0 w 0 (l.take m))
  (hend:∀ x w',Below w.heap.size w w'→(∀ i,i<m→k1_ sp D x i w')→(∀ i,i<m→w.heap.size≤x.lo i∧x.lo i≤x.hi i∧x.hi i≤w'.heap.size)→(∀ i j,i<m→j<m→i≠j→x.hi i≤x.lo j∨x.hi j≤x.lo i)→wpList P l.toArray Q (l.drop m) (c5_ l.toArray a0 x.v m) w')
  (hend2:∀ x w',Below w.heap.size w w'→(∀ i,i<m∧i≠s→k1_ sp D x i w')→(∀ i,i<m∧i≠s→w.heap.size≤x.lo i∧x.lo i≤x.hi i∧x.hi i≤w'.heap.size)→(∀ i j,i<m∧i≠s→j<m∧j≠s→i≠j→x.hi i≤x.lo j∨x.hi j≤x.lo i)→∀ om os,l[m]?=some om→l[s]?=some os→wpList P l.toArray Q (om :: os :: l.drop (m+1)) (L.foldl (fun a k=>a.put (j6_ l.toArray k) (x.v k)) a0) w'):(Code.region id l.toArray true).wp P Q a0 w:=by
 replace hst:=k6_ hst;subst hL;simp only[i0Q,l9_,decide_eq_true_eq,List.all_eq_true,List.mem_range,Bool.or_eq_true,beq_iff_eq,List.contains_iff_mem,List.contains_eq_mem]at hB;obtain⟨hB,⟨hms,hsm⟩,hDm⟩:=hB;have hdo:∀ i o,i<m→l[i]?=some o→Y8_ P l.toArray sp D a0 w.drew i o:=fun i o hi ho=>by
  have:=u3_ (l.take m) 0 hdo i o (by rw[List.getElem?_take,if_pos hi];exact ho);rw[Nat.zero_add]at this;exact fun v w1 hb=>this v w1 ⟨hb.os,hb.tape,hb.output,hb.size,hb.block⟩
 refine wp_region_any hmo ?_;have h:=d6q (w0:=w.drew) (a0:=a0) (Q:=Q) (P:=P) (sp:=sp) (s:=s) hB hms hsm (fun j hj hne=>(hDm j hj).resolve_left hne) hst (fun i o hi ho=>hdo i o hi (by simpa using ho)) (fun x w' hb hk hiv hdj=>by simpa using hend x w' (show Below w.heap.size w w' from ⟨hb.os,hb.tape,hb.output,hb.size,hb.block⟩) hk hiv hdj)
  (fun x w' hb hk hiv hdj om os hom hos=>by rw[V9_];simpa using hend2 x w' (show Below w.heap.size w w' from ⟨hb.os,hb.tape,hb.output,hb.size,hb.block⟩) hk hiv hdj om os (by simpa using hom) (by simpa using hos))
  l.toArray.size (Array.replicate l.toArray.size false) ⟨fun _=>undef,fun _=>0,fun _=>0⟩ w.drew
  (by rw[List.filter_eq_self.2 (fun j _=>by rw[b3_];rfl),List.length_range])
  (by simp) (fun j _=>b3_ _ _)
  (fun i hi=>by rw[b3_]at hi;cases hi)
  br_
  (fun i hi=>by rw[b3_]at hi;cases hi)
  (fun i hi=>by rw[b3_]at hi;cases hi)
  (fun i j hi=>by rw[b3_]at hi;cases hi)
 have e:actP l.toArray a0 (fun _=>undef) (fun j=>(Array.replicate l.toArray.size false).getD j false) l.toArray.size=a0 :=
  f5_ l.toArray.size 0 (by omega) (fun j _ _=>b3_ _ _)
 rw[e]at h;exact h
end
theorem d8z (w:World) {n:Nat} (hn:n≤1000000):(Instr.makeSlice 34 (.int .i64 (n:Int)) (.int .i64 (n:Int))).run Tryz.prog w = .ok (.slice (some ⟨w.heap.size,0,none⟩) n n) (w.alloc (.cells (f4_ (.slice none 0 0) n) 24)):=by
 obtain⟨i0,hi,hz0,hz1,hz2⟩:=info_parts T0_;have hmk:=C3_ (P:=Tryz.prog) Tryz.underlying34 hi hz0 (n:=n) (by rw[hz2];omega) (by omega);rw[hz1,Nat.mul_one]at hmk;exact hmk w
theorem A5_ (w:World) {n:Nat} (hn:n≤1000000):(Instr.makeSlice 24 (.int .i64 (n:Int)) (.int .i64 (n:Int))).run Tryz.prog w = .ok (.slice (some ⟨w.heap.size,0,none⟩) n n) (w.alloc (.cells (f4_ (.int .i64 0) n) 3)):=by
 obtain⟨i0,hi,hz0,hz1,hz2⟩:=info_parts u1_;have hmk:=C3_ (P:=Tryz.prog) Tryz.underlying24 hi hz0 (n:=n) (by rw[hz2];omega) (by omega);rw[hz1,Nat.mul_one]at hmk;exact hmk w
end Go.Proofs.YtbgccbmdiolhbaaGreat

