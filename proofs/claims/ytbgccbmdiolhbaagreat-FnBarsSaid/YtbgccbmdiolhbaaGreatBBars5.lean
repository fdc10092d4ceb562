/- FnBars: the law holds for every argument. Part 5 of 16 of the proof: NetD, DrwR, Order, BigI, TotB, NetU, EqRp, Seat. No condition. -/
import Derived.Test.YtbgccbmdiolhbaaGreatBBars4
set_option linter.unusedVariables false
set_option linter.unusedSimpArgs false
set_option maxHeartbeats 12800000
set_option maxRecDepth 100000
namespace Go.Proofs.YtbgccbmdiolhbaaGreat
open Go.RowKit
def QB (w:World) (d:Nat):Prop:=∃ (V:Int) (A:Option Addr) (n e:Nat) (C:Option Addr) (m f:Nat),Blk w d 26 #[.int .i64 V,.slice A n e,.slice C m f]
structure Cd (c d:Nat) (fin:Array Value) (w w':World):Prop where
 os:w'.os=w.os
 tape:w'.tape=w.tape
 output:w'.output=w.output
 size:w.heap.size≤w'.heap.size
 block:∀ k,k<w.heap.size→k≠c∧k≠d→w'.heap[k]?=w.heap[k]?
 keep:Cur w c→Cur w' c
 keepD:Blk w d 26 fin→Blk w' d 26 fin
 keepE:QB w d→QB w' d
theorem Cd.refl (c d:Nat) (fin:Array Value) (w:World):Cd c d fin w w:=⟨rfl,rfl,rfl,l_ _,fun _ _ _=>rfl,id,id,id⟩
theorem Cd.trans {c d:Nat} {fin:Array Value} {w w' w'':World} (h:Cd c d fin w w') (k:Cd c d fin w' w''):Cd c d fin w w'' :=
 ⟨k.os.trans h.os,k.tape.trans h.tape,k.output.trans h.output,Nat.le_trans h.size k.size,fun i hi hne=>(k.block i (Nat.lt_of_lt_of_le hi h.size) hne).trans (h.block i hi hne),fun h0=>k.keep (h.keep h0),fun h0=>k.keepD (h.keepD h0),fun h0=>k.keepE (h.keepE h0)⟩
theorem Cd.of_ck {c d:Nat} {fin:Array Value} {w w':World} (h:Ck c w w') (hd:d≠c):Cd c d fin w w' :=
 ⟨h.os,h.tape,h.output,h.size,fun k hk hn=>h.block k hk hn.1,h.keep,fun hB=>hB.ck h hd,fun ⟨V,A,n,e,C,m,f,hB⟩=>⟨V,A,n,e,C,m,f,hB.ck h hd⟩⟩
theorem Blk.cd {c d g:Nat} {fin:Array Value} {w w':World} {t:TypeId} {cs:Array Value} (h:Blk w g t cs) (k:Cd c d fin w w') (hc:g≠c) (hd:g≠d):Blk w' g t cs:=(k.block g h.lt ⟨hc,hd⟩).trans h
theorem Cd.low {c d:Nat} {fin:Array Value} {w w':World} {B:Nat} (h:Cd c d fin w w') (h1:B≤c) (h2:B≤d) (hs:B≤w.heap.size):Below B w w':=⟨h.os,h.tape,h.output,h.size,fun k hk=>h.block k (by omega) ⟨by omega,by omega⟩⟩
theorem Cd.chg {c d:Nat} {fin:Array Value} {w w':World} (h:Cd c d fin w w') {hi:Nat} (h1:c<hi) (h2:d<hi):Chg 0 hi w w':=⟨h.os,h.tape,h.output,h.size,fun k hk hn=>h.block k hk (by omega)⟩
def NS.stableD (s:NS) (kc kd:Nat) (kf:Array Value):Prop :=
 match s with
 | .eq _=>True
 | .rel R=>∀ x w w',R x w→Cd kc kd kf w w'→R x w'
theorem NS.holds_stableD {kc kd:Nat} {kf:Array Value} {s:NS} (h:s.stableD kc kd kf) {i:Nat} {D:List Nat} {x:Gh} {w w':World} (hh:s.holds i D x w) (hb:Cd kc kd kf w w'):s.holds i D x w':=by
 cases s with
 | eq f=>exact hh
 | rel R=>exact h _ _ _ hh hb
section
variable {P:Program}
section
variable {ops:Array Oper} {Q:Exit→Act→World→Prop} {sp:List NS} {D:List (List Nat)} {m:Nat} {a0:Act} {w0:World}
def b0Q (kc kd:Nat) (kf:Array Value) (P:Program) (ops:Array Oper) (sp:List NS) (D:List (List Nat)) (a0:Act) (w0:World) (i:Nat) (o:Oper):Prop :=
 ∀ (x:Gh) (w:World),Cd kc kd kf w0 w→(∀ j∈D.getD i [],k1_ sp D x j w∧x.hi j≤w.heap.size)→∀ Q':Exit→Act→World→Prop,
  (∀ u w',Cd kc kd kf w w'→(sp.getD i (.eq undef)).holds i (D.getD i []) (x.set i u w.heap.size w'.heap.size) w'→Q' .normal ((c5_ ops a0 x.v i).put o.dst u) w')→wpList P ops Q' [o] (c5_ ops a0 x.v i) w
theorem d6x {kc kd:Nat} {kf:Array Value} (hB:netB ops D m=true) (hst:∀ s∈sp,s.stableD kc kd kf) (hdo:∀ i o,i<m→ops[i]?=some o→b0Q kc kd kf P ops sp D a0 w0 i o)
  (hend:∀ x w,Cd kc kd kf w0 w→(∀ i,i<m→k1_ sp D x i w)→(∀ i,i<m→w0.heap.size≤x.lo i∧x.lo i≤x.hi i∧x.hi i≤w.heap.size)→(∀ i j,i<m→j<m→i≠j→x.hi i≤x.lo j∨x.hi j≤x.lo i)→wpList P ops Q (ops.toList.drop m) (c5_ ops a0 x.v m) w) :
  ∀ (fuel:Nat) (listed:Array Bool) (x:Gh) (w:World),((List.range ops.size).filter fun j=>!listed.getD j false).length=fuel→listed.size=ops.size→(∀ j,m≤j→listed.getD j false=false) →
   (∀ i,listed.getD i false=true→∀ j∈D.getD i [],listed.getD j false=true)→Cd kc kd kf w0 w→(∀ i,listed.getD i false=true→k1_ sp D x i w)→(∀ i,listed.getD i false=true→w0.heap.size≤x.lo i∧x.lo i≤x.hi i∧x.hi i≤w.heap.size) →
   (∀ i j,listed.getD i false=true→listed.getD j false=true→i≠j→x.hi i≤x.lo j∨x.hi j≤x.lo i) →
   wpAny P .any ops Q fuel listed (actP ops a0 x.v (fun j=>listed.getD j false) ops.size) w:=by
 simp only[netB,l9_,decide_eq_true_eq]at hB;obtain⟨⟨hm,hns⟩,hnf⟩:=hB;have hok:∀ i o,ops[i]?=some o→NetOk ops D m i o:=fun i o ho=>t4_ (by
  have:=m7_ ops.toList 0 hnf i o (by simpa using ho);simpa using this)
 have hst':∀ i,(sp.getD i (.eq undef)).stableD kc kd kf:=fun i=>by
  rw[l1_];rcases h:sp[i]? with _ | s
  ·trivial
  ·exact hst s (l4_ h)
 intro fuel;induction fuel with
 | zero =>
  intro listed x w hc hls hlm hcl hb hkn hiv hdj;have hall:∀ j,j<ops.size→listed.getD j false=true:=fun j hj=>by
   rw[List.length_eq_zero_iff,List.filter_eq_nil_iff]at hc;have:=hc j (List.mem_range.2 hj);simpa using this
  have hms:m=ops.size:=by
   rcases Nat.lt_or_ge m ops.size with h | h
   ·have:=hall m h;rw[hlm m (l_ _)]at this;cases this
   ·omega
  refine p4_ hok 0 ops.size listed _ w (by omega) (by omega) hls (fun j=>?_) ?_
  ·by_cases hj:j<ops.size
   ·rw[hall j hj];simp[hj]
   ·rw[hlm j (by omega)];simp[hj]
  ·have:=hend x w hb (fun i hi=>hkn i (hall i (by omega))) (fun i hi=>hiv i (hall i (by omega))) (fun i j hi hj=>hdj i j (hall i (by omega)) (hall j (by omega)));rw[←f6_ (p:=fun j=>listed.getD j false) m (fun j hj=>hall j (by omega))]at this;rwa[hms]at this
 | succ fuel ih =>
  intro listed x w hc hls hlm hcl hb hkn hiv hdj;by_cases hfull:∀ j,j<m→listed.getD j false=true
  · -- the tail
   have hl:∀ j,listed.getD j false=decide (j<m):=fun j=>by
    by_cases hj:j<m
    ·rw[hfull j hj];simp[hj]
    ·rw[hlm j (by omega)];simp[hj]
   have hcnt:fuel+1+m=ops.size:=by
    rw[←hc];have e:(List.range ops.size).filter (fun j=>!listed.getD j false)=(List.range' m (ops.size-m)):=by
     have e1:(List.range ops.size)=List.range m ++ List.range' m (ops.size-m):=by
      have h:=List.range'_append_1 (s:=0) (m:=m) (n:=ops.size-m);rw[Nat.zero_add]at h;rw[List.range_eq_range',List.range_eq_range',h];congr 1
      omega
     rw[e1,List.filter_append];rw[List.filter_eq_nil_iff.2 (fun j hj=>by rw[hl];simp at hj⊢;exact hj),List.nil_append];rw[List.filter_eq_self.2 (fun j hj=>by rw[hl];simp[List.mem_range']at hj⊢;omega)]
    rw[e,List.length_range'];omega
   refine p4_ hok (fuel+1) m listed _ w (by omega) (l_ _) hls hl ?_;have:=hend x w hb (fun i hi=>hkn i (hfull i hi)) (fun i hi=>hiv i (hfull i hi)) (fun i j hi hj=>hdj i j (hfull i hi) (hfull j hj));rw[←f6_ (p:=fun j=>listed.getD j false) m hfull]at this;rwa[f5_ (p:=fun j=>listed.getD j false) ops.size m hm (fun j h1 _=>hlm j h1)]
  · -- one of the net
   have hne:Region.ready .any ops listed≠[]:=by
    intro h0;have:∀ n,∀ j,j<n→j<m→listed.getD j false=true:=by
     intro n;induction n with
     | zero=>intro j hj;omega
     | succ n ihn =>
      intro j hj hjm;by_cases e:j<n
      ·exact ihn j e hjm
      ·rcases hlj:listed.getD j false with _ | _
       ·exfalso
        have hjs:j<ops.size:=by omega
        have hje:=l8_ hjs;have:j∈Region.ready .any ops listed:=mem_ready.2 ⟨by
         rw[←hlj];simp[m2_,l8_ (show j<listed.size by omega)],_,hje,fun e he hb=>by
         have:=(hok j _ hje).direct e he hb;exact ihn e.on (by omega) (by omega)⟩
        rw[h0]at this;cases this
       ·rfl
    exact hfull fun j hj=>this (j+1) j (by omega) hj
   refine⟨fun h0=>absurd h0 hne,fun i hi=>?_⟩;obtain⟨h0,o,ho,hall⟩:=mem_ready.1 hi;have his:=(Array.getElem?_eq_some_iff.1 ho).1;have hO:=hok i o ho;have hDl:∀ j∈D.getD i [],listed.getD j false=true:=hO.danc (fun j=>listed.getD j false=true) hall (fun k hk j hj=>hcl k hk j hj);have him:i<m:=by
    rcases Nat.lt_or_ge i m with h | h
    ·exact h
    ·exact absurd (fun j hj=>hDl j (hO.tail h j (by omega))) hfull
   have hli:listed.getD i false=false:=by
    rw[←h0];simp[m2_,l8_ (show i<listed.size by omega)]
   have hpre:=hdo i o him ho x w hb (fun j hj=>⟨hkn j (hDl j hj),(hiv j (hDl j hj)).2.2⟩) (fun e b w'=>e = .normal∧∃ u,b=(c5_ ops a0 x.v i).put o.dst u∧(Cd kc kd kf w w'∧(sp.getD i (.eq undef)).holds i (D.getD i []) (x.set i u w.heap.size w'.heap.size) w'))
    (fun u w' h1 h2=>⟨rfl,u,rfl,h1,h2⟩)
   have hwant:∀ b:Act,Region.wanted o (yielded ops b.tmps)=true:=fun b=>by simp[Region.wanted,hO.guard]
   have hnl:¬ LetsOut (fun (e:Exit) (b:Act) (w':World)=>e = .normal∧∃ u,b=(c5_ ops a0 x.v i).put o.dst u∧(Cd kc kd kf w w'∧(sp.getD i (.eq undef)).holds i (D.getD i []) (x.set i u w.heap.size w'.heap.size) w')):=by
    rintro⟨b,w',h,_⟩;cases h
   simp only[wpList,hwant,if_true]at hpre;rcases hpre with hpre | hpre
   case inr=>exact absurd hpre.2 hnl
   simp only[true_and]at hpre;have hexec:execOp (actP ops a0 x.v (fun j=>listed.getD j false) ops.size).eval o=execOp (c5_ ops a0 x.v i).eval o:=by
    refine execOp_congr o (fun cs b=>Region.noSelect_spec hns i o cs b ho) fun y hx=>?_
    by_cases hxt:∃ t,y = .tmp t
    ·obtain⟨t,rfl⟩:=hxt;have hlook:t∈o.looksAt ops:=List.mem_append_left _ (List.mem_filterMap.2 ⟨.tmp t,by simpa using hx,rfl⟩);have e1:c5_ ops a0 x.v i=actP ops a0 x.v (fun j=>decide (j<i)) ops.size:=by
      rw[f5_ (p:=fun j=>decide (j<i)) ops.size i (by omega) (fun j h1 _=>by simp;omega)];exact (f6_ (p:=fun j=>decide (j<i)) i (fun j hj=>by simp[hj])).symm
     rw[e1];refine p8_ t ops.size fun j hj hd=>?_
     rcases hO.looks j t hd hlook with h | h
     ·rw[hDl j h];have:=hO.dlt j h;simp[this]
     ·have hlt:=(hok j _ (l8_ hj)).dlt i h;have:listed.getD j false=false:=by
       rcases hlj:listed.getD j false with _ | _
       ·rfl
       ·have:=hcl j hlj i h;rw[hli]at this;cases this
      rw[this];simp;omega
    ·exact p5_ y (fun t h=>hxt ⟨t,h⟩) _ _
   have hsz:(c5_ ops a0 x.v i).tmps.size=(actP ops a0 x.v (fun j=>listed.getD j false) ops.size).tmps.size:=by
    rw[g7_,←f6_ (p:=fun _=>true) i (fun _ _=>rfl),g7_]
   have hT:=o1_ (Q2:=Q) hexec hsz (fun c b w' h=>by cases h.1) hnl hpre;unfold wpOp;simp only[ho,hwant,if_true];refine .inl (Oper.wp_mono ?_ hT);rintro b w' ⟨u,rfl,hbw,hh⟩;have hdst:o.dst=j6_ ops i:=by simp[j6_,ho]
   have hlq:∀ j,(listed.setIfInBounds i true).getD j false=(listed.getD j false || j == i):=fun j=>by
    by_cases e:i=j
    ·subst e;simp[m2_,Array.getElem?_setIfInBounds,hls,his]
    ·rw[getD_set_ne _ e];simp[Ne.symm e]
   rw[hdst,u0_ (v':=(x.set i u w.heap.size w'.heap.size).v) (q:=fun j=>(listed.setIfInBounds i true).getD j false) (fun j hj _=>by simp[Gh.set,hj]) (by simp[Gh.set]) hli hlq (fun j d hij hlj hdj hdi=>by
    rcases hO.dsts j d (by omega) hdj hdi with h | h
    ·have:=hO.dlt j h;omega
    ·have:=hcl j hlj i h;rw[hli]at this;cases this) ops.size his]
   refine ih _ _ _ ?_ (by simpa using hls) (fun j hj=>by rw[hlq,hlm j hj];simp;omega) (fun k hk j hj=>?_) (hb.trans hbw) (fun k hk=>?_) (fun k hk=>?_) (fun k j hk hj hkj=>?_)
   · -- the count
    have hmem:i∈(List.range ops.size).filter fun j=>!listed.getD j false:=by
     rw[List.mem_filter];exact⟨List.mem_range.2 his,by rw[hli];rfl⟩
    have e:(List.range ops.size).filter (fun j=>!(listed.setIfInBounds i true).getD j false)=((List.range ops.size).filter fun j=>!listed.getD j false).filter (fun j=>j != i):=by
     rw[List.filter_filter];congr 1
     funext j
     rw[hlq];simp[Bool.not_or,Bool.and_comm,bne]
    have hnd:((List.range ops.size).filter fun j=>!listed.getD j false).Nodup:=List.nodup_range.filter _;rw[e];have:=List.length_erase_of_mem hmem;rw[hnd.erase_eq_filter,hc]at this;simpa using this
   ·rw[hlq]at hk⊢;simp only[Bool.or_eq_true,beq_iff_eq]at hk⊢;rcases hk with hk | rfl
    ·exact .inl (hcl k hk j hj)
    ·exact .inl (hDl j hj)
   ·rw[hlq]at hk;simp only[Bool.or_eq_true,beq_iff_eq]at hk;unfold k1_;by_cases e:k=i
    ·subst e;exact hh
    ·rcases hk with hk | hk
     ·refine NS.holds_congr (x:=x) (fun j hj=>?_) (NS.holds_stableD (hst' k) (hkn k hk) hbw);have hji:j≠i:=by
       rcases hj with rfl | hj
       ·exact e
       ·rintro rfl;have:=hcl k hk j hj;rw[hli]at this;cases this
      simp[Gh.set,hji]
     ·exact absurd hk e
   ·rw[hlq]at hk;simp only[Bool.or_eq_true,beq_iff_eq]at hk;by_cases e:k=i
    ·subst e;simp only[Gh.set,if_true];exact⟨hb.size,hbw.size,l_ _⟩
    ·have:=hiv k (hk.resolve_right e);have:=hbw.size;simp only[Gh.set,if_neg e];omega
   ·rw[hlq]at hk hj;simp only[Bool.or_eq_true,beq_iff_eq]at hk hj;by_cases e:k=i
    ·subst e;have:=hiv j (hj.resolve_right (Ne.symm hkj));simp only[Gh.set,if_true,if_neg (Ne.symm hkj)];exact .inr (by omega)
    ·by_cases e':j=i
     ·subst e';have:=hiv k (hk.resolve_right e);simp only[Gh.set,if_true,if_neg e];exact .inl (by omega)
     ·simp only[Gh.set,if_neg e,if_neg e'];exact hdj k j (hk.resolve_right e) (hj.resolve_right e') hkj
def F3_ (kc kd:Nat) (kf:Array Value):List NS→Prop
 | []=>True
 | s :: l=>s.stableD kc kd kf∧F3_ kc kd kf l
theorem w5_ {kc kd:Nat} {kf:Array Value}:∀ {l:List NS},F3_ kc kd kf l→∀ s∈l,s.stableD kc kd kf
 | [],_,s,hs=>by simp at hs
 | a :: l,h,s,hs=>by
  rcases List.mem_cons.1 hs with rfl | hs
  ·exact h.1
  ·exact w5_ h.2 s hs
def a4j (kc kd:Nat) (kf:Array Value) (P:Program) (ops:Array Oper) (sp:List NS) (D:List (List Nat)) (a0:Act) (w0:World):Nat→List Oper→Prop
 | _,[]=>True
 | i,o :: l=>b0Q kc kd kf P ops sp D a0 w0 i o∧a4j kc kd kf P ops sp D a0 w0 (i+1) l
theorem G3_ {kc kd:Nat} {kf:Array Value} {ops:Array Oper} {sp:List NS} {D:List (List Nat)} {a0:Act} {w0:World}:∀ (l:List Oper) (k:Nat),a4j kc kd kf P ops sp D a0 w0 k l→∀ j o,l[j]?=some o→b0Q kc kd kf P ops sp D a0 w0 (k+j) o
 | [],_,_,_,_,h=>by simp at h
 | x :: l,k,h,0,o,hj=>by
  simp at hj;subst hj;exact h.1
 | x :: l,k,h,j+1,o,hj=>by
  have:=G3_ l (k+1) h.2 j o (by simpa using hj);rwa[show k+1+j=k+(j+1) by omega]at this
theorem u4_ {kc kd:Nat} {kf:Array Value} {i:Nat} {R:Value→Nat→Nat→World→Prop} (h:∀ u lo hi w w',R u lo hi w→Cd kc kd kf w w'→R u lo hi w'):(rel i R).stableD kc kd kf:=fun v w w' hr hb=>h _ _ _ _ _ hr hb
theorem P2_ (kc kd:Nat) (kf:Array Value) {id:Nat} {l:List Oper} {w:World} (hmo:P.follows .mixedOrders=true) (sp:List NS) (D:List (List Nat)) (m:Nat) (hB:netB l.toArray D m=true) (hst:F3_ kc kd kf sp)
  (hdo:a4j kc kd kf P l.toArray sp D a0 w 0 (l.take m))
  (hend:∀ x w',Cd kc kd kf w w'→(∀ i,i<m→k1_ sp D x i w')→(∀ i,i<m→w.heap.size≤x.lo i∧x.lo i≤x.hi i∧x.hi i≤w'.heap.size)→(∀ i j,i<m→j<m→i≠j→x.hi i≤x.lo j∨x.hi j≤x.lo i)→wpList P l.toArray Q (l.drop m) (c5_ l.toArray a0 x.v m) w'):(Code.region id l.toArray true).wp P Q a0 w:=by
 replace hst:=w5_ hst;have hdo:∀ i o,i<m→l[i]?=some o→b0Q kc kd kf P l.toArray sp D a0 w.drew i o:=fun i o hi ho=>by
  have:=G3_ (l.take m) 0 hdo i o (by rw[List.getElem?_take,if_pos hi];exact ho);rw[Nat.zero_add]at this;exact fun v w1 hb=>this v w1 ⟨hb.os,hb.tape,hb.output,hb.size,hb.block,hb.keep,hb.keepD,hb.keepE⟩
 refine wp_region_any hmo ?_;have h:=d6x (w0:=w.drew) (a0:=a0) (Q:=Q) (P:=P) (sp:=sp) hB hst (fun i o hi ho=>hdo i o hi (by simpa using ho)) (fun x w' hb hk hiv hdj=>by simpa using hend x w' (show Cd kc kd kf w w' from ⟨hb.os,hb.tape,hb.output,hb.size,hb.block,hb.keep,hb.keepD,hb.keepE⟩) hk hiv hdj)
  l.toArray.size (Array.replicate l.toArray.size false) ⟨fun _=>undef,fun _=>0,fun _=>0⟩ w.drew
  (by rw[List.filter_eq_self.2 (fun j _=>by rw[b3_];rfl),List.length_range])
  (by simp) (fun j _=>b3_ _ _)
  (fun i hi=>by rw[b3_]at hi;cases hi)
  (Cd.refl _ _ _ _)
  (fun i hi=>by rw[b3_]at hi;cases hi)
  (fun i hi=>by rw[b3_]at hi;cases hi)
  (fun i j hi=>by rw[b3_]at hi;cases hi)
 have e:actP l.toArray a0 (fun _=>undef) (fun j=>(Array.replicate l.toArray.size false).getD j false) l.toArray.size=a0 :=
  f5_ l.toArray.size 0 (by omega) (fun j _ _=>b3_ _ _)
 rw[e]at h;exact h
end
end
theorem QB.noY {w:World} {d o:Nat} {x:Int} (h:QB w d) (hc:w.cell? ⟨d,o,none⟩=some (.int .u8 x)):False:=by
 obtain⟨V,A,n,e,C,m,f,hB⟩:=h
 match o,hc with
 | 0,hc=>rw[hB.cell' (i:=0) rfl]at hc;simp at hc
 | 1,hc=>rw[hB.cell' (i:=1) rfl]at hc;simp at hc
 | 2,hc=>rw[hB.cell' (i:=2) rfl]at hc;simp at hc
 | o+3,hc =>
  unfold Blk at hB;simp[World.cell?,hB]at hc
theorem i7_.ck {w w':World} {lo hi c:Nat} {v:Value} {q:Qv} (h:i7_ w lo hi v q) (k:Ck c w w') (hc:c<lo):i7_ w' lo hi v q:=h.chg k.chg (.inr (by omega))
theorem i7_.cd {w w':World} {lo hi c d:Nat} {fin:Array Value} {v:Value} {q:Qv} (h:i7_ w lo hi v q) (k:Cd c d fin w w') (hc:c<lo) (hd:d<lo):i7_ w' lo hi v q:=h.chg (k.chg hc hd) (.inr (l_ _))
theorem a8_.cd {w w':World} {lo hi c d:Nat} {fin:Array Value} {v:Value} {l:List Int} (h:a8_ w lo hi v l) (k:Cd c d fin w w') (hc:c<lo) (hd:d<lo):a8_ w' lo hi v l:=h.chg (k.chg hc hd) (.inr (l_ _))
theorem Cd.store {c d:Nat} {w:World} {V:Int} {A C:Option Addr} {n e m f:Nat} (hdc:d≠c) (hE:QB w d) :
  Cd c d #[.int .i64 V,.slice A n e,.slice C m f] w (((w.setCell ⟨d,0,none⟩ (.int .i64 V)).setCell ⟨d,1,none⟩ (.slice A n e)).setCell ⟨d,2,none⟩ (.slice C m f))∧Blk (((w.setCell ⟨d,0,none⟩ (.int .i64 V)).setCell ⟨d,1,none⟩ (.slice A n e)).setCell ⟨d,2,none⟩ (.slice C m f)) d 26 #[.int .i64 V,.slice A n e,.slice C m f]:=by
 have h3:Blk (((w.setCell ⟨d,0,none⟩ (.int .i64 V)).setCell ⟨d,1,none⟩ (.slice A n e)).setCell ⟨d,2,none⟩ (.slice C m f)) d 26 #[.int .i64 V,.slice A n e,.slice C m f]:=by
  obtain⟨V',A',n',e',C',m',f',hB⟩:=hE;have:=((hB.set_ 0 (.int .i64 V)).set_ 1 (.slice A n e)).set_ 2 (.slice C m f);simpa using this
 have hc:Chg d (d+1) w (((w.setCell ⟨d,0,none⟩ (.int .i64 V)).setCell ⟨d,1,none⟩ (.slice A n e)).setCell ⟨d,2,none⟩ (.slice C m f)) :=
  ((a5_ (lo:=d) (hi:=d+1) (w:=w) (p:=⟨d,0,none⟩) (u:=.int .i64 V) (l_ _) (m0_ _)).trans (a5_ (p:=⟨d,1,none⟩) (u:=.slice A n e) (l_ _) (m0_ _))).trans (a5_ (p:=⟨d,2,none⟩) (u:=.slice C m f) (l_ _) (m0_ _))
 refine⟨⟨hc.os,hc.tape,hc.output,hc.size,fun k hk hn=>hc.block k hk (by omega),?_,fun _=>h3,fun _=>⟨V,A,n,e,C,m,f,h3⟩⟩,h3⟩;rintro⟨X,cc,i,h,l,hB',h1,h2,hy⟩;refine⟨X,cc,i,h,l,(hc.block c hB'.lt (by omega)).trans hB',h1,h2,?_⟩;refine SlG.mono (B:=c) (B':=c) (fun b o x hlt hx=>?_) (l_ _) hy;have hbd:b≠d:=fun hbd=>by
  subst hbd;exact hE.noY hx.1
 exact⟨(World.cell?_of_block (w:=w) (hc.block b (by have:=hB'.lt;omega) (by omega))).trans hx.1,hx.2⟩
theorem a0q (u v:Value) (xs ys:List Int) (w:World) (hu:SlI w w.heap.size u xs) (hv:SlI w w.heap.size v ys) :
  Calls Tryz.prog 13 #[u,v] w fun e w'=>e = .returned (.bool (decide (xs=ys)))∧Below w.heap.size w w':=by
 obtain⟨A,c,rfl,_,_,hn,hx⟩:=hu.open_;obtain⟨C,d,rfl,_,_,hm,hy⟩:=hv.open_;clear hu hv;by_cases hnm:xs.length=ys.length
 ·have heq:((xs.length:Int) != ys.length)=false:=by rw[bne_eq_false_iff_eq];omega
  have HN:=h_ hnm;clear hnm;go_enter Tryz.func13,Tryz.ntmps13
  go_wp2;go_loopw [5] (fun i wr=>∃ k q:Nat,k≤xs.length∧i = .int .i64 k∧wr=w.drewN q∧Hid (xs.take k=ys.take k)) (fun i _=>xs.length-(intOf i).toNat)
  case atStart=>exact⟨0,0,l0_ _,rfl,rfl,rfl⟩
  case round =>
   obtain⟨k,q,hk,rfl,rfl,hxy⟩:=hrel;by_cases hlt:k<xs.length
   ·have hlt':k<ys.length:=by have:=HN.out;omega
    obtain⟨b,o,x,rfl,hb,HX,c1,_⟩:=SlI.at_ hx hlt;obtain⟨b',o',x',rfl,hb',HX',c1',_⟩:=SlI.at_ hy hlt';clear hx hy;by_cases hE:x=x'
    ·subst hE;go_wp2;go_quiet (fail)
     go_wp2;go_roundw
     case rel =>
      refine⟨k+1,q+nq,by omega,by go_num,rfl,?_⟩;show _=_;rw[c6_ HX.out,c6_ HX'.out,hxy.out]
     case measure=>simp[intOf];omega
    ·have hne:(x != x')=true:=by simpa using hE
     have hxy':Hid (xs≠ys):=by
      rintro rfl;have h2:=HX.out;rw[HX'.out]at h2;exact hE (by injection h2 with h2;exact h2.symm)
     clear hE;go_wp2;go_quiet (fail)
     go_wp2;go_ret
     exact⟨by rw[decide_eq_false hxy'.out];rfl,d2_ (d5_ _ _ _) _⟩
   ·go_wp2;go_ret
    refine⟨?_,d5_ _ _ _⟩;have h1:=hxy.out;rw[l7_ (by omega),l7_ (by have:=HN.out;omega)]at h1;simp[h1]
 ·have hne:((xs.length:Int) != ys.length)=true:=by rw[bne_iff_ne];omega
  go_enter Tryz.func13,Tryz.ntmps13
  go_wp2;go_ret
  refine⟨?_,Below.refl _ _⟩;rw[decide_eq_false (by rintro rfl;omega)];rfl
theorem a0j (u v:Value) (l:List Int) (w:World) (hu:SlI w w.heap.size u l) (hv:SlI w w.heap.size v l) :
  Calls Tryz.prog 13 #[u,v] w fun e w'=>e = .returned (.bool true)∧Below w.heap.size w w':=by
 refine (a0q u v l l w hu hv).mono ?_;rintro e w1 ⟨rfl,hb⟩;exact⟨by simp,hb⟩
theorem f5q (u:Value) (l:List Int) (w:World) (hu:SlY w w.heap.size u l) :
  Calls Tryz.prog 4 #[u] w fun e w'=>e = .returned (.bool (decide ((l.length:Int) > 1048576)))∧Below w.heap.size w w':=by
 obtain⟨A,c,rfl,_,_,hn,hx⟩:=hu.open_;clear hu;go_enter Tryz.func4,Tryz.ntmps4
 go_wp2;go_ret
 exact⟨rfl,Below.refl _ _⟩
theorem L2_ (u:Value) (x:Rp) (w:World) (hu:RpR w w.heap.size u x) (hok:m9_ x=true) :
  Calls Tryz.prog 15 #[u] w fun e w'=>e = .returned (.int .i64 (sumW x.d))∧Below w.heap.size w w':=by
 have hr:=hu;obtain⟨A,a,C,c,E,e,H,h,rfl,hq,hd,hm,hp,ld,lm⟩:=hu.open_;clear hu;obtain⟨W,hW,g0,kB⟩:=b_3 w #[.int .i64 x.p,.int .i64 x.q.v,.slice A x.q.f.length a,.slice C x.q.t.length c,.slice E x.d.length e,.slice H x.m.length h] 29;obtain⟨c0,c1,c2,c3,c4,c5⟩:=c_6 kB;replace hq:=QvR.next g0 hq;replace hd:=SlI.next g0 hd;replace hm:=SlM.next g0 hm;have HR:=h_ (RpR.next g0 hr);have HD:=h_ hd;have HOK:=h_ hok;have G0:=h_ g0;clear hr hd hq hm hok g0;go_enter Tryz.func15,Tryz.ntmps15
 go_wp2_with fail
 rw[←hW];clear hW;refine (j4_ _ x _ HR.out).mono ?_;rintro e w1 ⟨rfl,hb1⟩;rw[HOK.out];have k1:=kB.call hb1;have hd:=SlI.next hb1 HD.out;have G1:=h_ (b0_ G0.out hb1);have z4:=k1.cell' (i:=4) rfl;clear c0 c1 c2 c3 c4 c5 kB k1 hb1 HR HD HOK G0;go_wp2_with fail
 refine (a0J _ x.d _ hd).mono ?_;rintro e w2 ⟨rfl,rfl⟩;clear hd;go_wp2;go_ret
 exact⟨rfl,G1.out⟩
theorem U6_ (u v:Value) (l:List (List Int)) (w:World) (hu:SlII w w.heap.size u l) (hv:SlII w w.heap.size v l) :
  Calls Tryz.prog 11 #[u,v] w fun e w'=>e = .returned (.bool true)∧Below w.heap.size w w':=by
 obtain⟨A,c,rfl,_,_,hn,hx⟩:=hu.open_;obtain⟨C,d,rfl,_,_,_,hy⟩:=hv.open_;clear hu hv;have heq:((l.length:Int) != l.length)=false:=by simp
 go_enter Tryz.func11,Tryz.ntmps11
 go_wp2;go_loopw [5] (fun i wr=>∃ k:Nat,k≤l.length∧i = .int .i64 k∧Below w.heap.size w wr) (fun i _=>l.length-(intOf i).toNat)
 case atStart=>exact⟨0,l0_ _,rfl,Below.refl _ _⟩
 case round =>
  obtain⟨k,hk,rfl,hbel⟩:=hrel;by_cases hlt:k<l.length
  ·obtain⟨b,o,m,B1,b1,rfl,hb,HX,x1,hsl⟩:=SlII.at_ hx hlt;obtain⟨b',o',m',B2,b2,rfl,hb',HX',y1,hsl'⟩:=SlII.at_ hy hlt;have e1:=HX.out;rw[HX'.out]at e1;injection e1 with e1
   subst e1;have hbs:=hbel.size;have n1:=InB.cell (w:=wr) (by omega) (a4_ hbel hb x1);have n4:=InB.cell (w:=wr) (by omega) (a4_ hbel hb' y1);have HM:Hid (∀ s:InB wr,SlI s.val s.val.heap.size (.slice B1 m'.length b1) m'):=fun s=>SlI.next s.below (SlI.more hbs (SlI.below hbel hsl))
   have HM':Hid (∀ s:InB wr,SlI s.val s.val.heap.size (.slice B2 m'.length b2) m'):=fun s=>SlI.next s.below (SlI.more hbs (SlI.below hbel hsl'))
   have HB:=h_ hbel;clear x1 y1 hsl hsl' hx hy hbel;have a1:(0:Int)≤(k:Int):=by omega
   have a2:(k:Int)<l.length:=by omega
   go_wp2
   (refine b1_ (by kernel_rfl) (by kernel_rfl) ?_;(repeat (go_big_quiet_step ((go_at_call 13;exact InB.call (a0j _ _ m' _ (HM.out _) (HM'.out _))))));refine wpQuiet_nil ?_;intro w1 hw';obtain⟨s1,hw1⟩:=hw';have hb1:=s1.below;rw[←hw1]at hb1;clear hw1 s1)
   go_wp2;go_roundw
   case rel=>exact⟨k+1,by omega,by go_num,b0_ HB.out hb1⟩
   case measure=>simp[intOf];omega
  ·go_wp2;go_ret
   exact⟨rfl,hbel⟩
section
variable {P:Program}
theorem d9q {a b:Act} {t:Tmp} (h:a.eval (.tmp t)=b.eval (.tmp t)) (hs:b.tmps.size=a.tmps.size):a.tmps[t]?=b.tmps[t]?:=by
 simp only[Act.eval,m2_]at h;by_cases hlt:t<b.tmps.size
 ·have hlt':t<a.tmps.size:=hs ▸ hlt;rw[l8_ hlt,l8_ hlt']at h⊢;simpa using h
 ·have hge:=Nat.le_of_not_lt hlt;rw[Array.getElem?_eq_none (hs ▸ hge:a.tmps.size≤t),Array.getElem?_eq_none hge]
def b0x (ops:Array Oper) (D:List (List Nat)) (m i:Nat) (o:Oper):Bool :=
 (j9_ o).all (·<i) && (D.getD i []).all (fun j=>decide (j<i) && ((j9_ o).contains j || (j9_ o).any fun k=>(D.getD k []).contains j)) &&
 (List.range ops.size).all (fun k=>match j6_ ops k with
  | none=>true
  | some d=>(!(o.looksAt ops).contains d || (D.getD i []).contains k || (D.getD k []).contains i) && (k == i || j6_ ops i != some d || (D.getD i []).contains k || (D.getD k []).contains i)) &&
 (decide (i<m) || (List.range i).all fun j=>(D.getD i []).contains j)
def B8_ (ops:Array Oper) (D:List (List Nat)) (m:Nat):Nat→List Oper→Bool
 | _,[]=>true
 | i,o :: l=>b0x ops D m i o && B8_ ops D m (i+1) l
def g1X (ops:Array Oper) (D:List (List Nat)) (m:Nat):Bool:=decide (m≤ops.size) && Region.noSelect ops && B8_ ops D m 0 ops.toList
theorem B9_ {ops:Array Oper} {D:List (List Nat)} {m:Nat}:∀ (l:List Oper) (k:Nat),B8_ ops D m k l=true→∀ j o,l[j]?=some o→b0x ops D m (k+j) o=true
 | [],_,_,_,_,h=>by simp at h
 | x :: l,k,h,0,o,hj=>by
  simp only[B8_,l9_]at h;simp at hj;subst hj;exact h.1
 | x :: l,k,h,j+1,o,hj=>by
  simp only[B8_,l9_]at h;have:=B9_ l (k+1) h.2 j o (by simpa using hj);rwa[show k+1+j=k+(j+1) by omega]at this
structure NetOkU (ops:Array Oper) (D:List (List Nat)) (m i:Nat) (o:Oper):Prop where
 direct:∀ e∈o.after,Region.binds .any e=true→e.on<i
 dlt:∀ j∈D.getD i [],j<i
 danc:∀ (S:Nat→Prop),(∀ e∈o.after,Region.binds .any e=true→S e.on)→(∀ k,S k→∀ j∈D.getD k [],S j)→∀ j∈D.getD i [],S j
 looks:∀ k d,j6_ ops k=some d→d∈o.looksAt ops→k∈D.getD i []∨i∈D.getD k []
 dsts:∀ k d,k≠i→j6_ ops k=some d→j6_ ops i=some d→k∈D.getD i []∨i∈D.getD k []
 tail:m≤i→∀ j,j<i→j∈D.getD i []
theorem a4z {ops:Array Oper} {D:List (List Nat)} {m i:Nat} {o:Oper} (h:b0x ops D m i o=true):NetOkU ops D m i o:=by
 simp only[b0x,l9_,List.all_eq_true,Bool.or_eq_true,decide_eq_true_eq,List.mem_range]at h;obtain⟨⟨⟨h2,h3⟩,h4⟩,h5⟩:=h;have hdir:∀ e∈o.after,Region.binds .any e=true→e.on∈j9_ o:=fun e he hb=>by
  unfold j9_;rw[List.mem_map];exact⟨e,by rw[List.mem_filter];exact⟨by simpa using he,hb⟩,rfl⟩
 have hk:∀ {k:Nat} {d:Tmp},j6_ ops k=some d→k<ops.size:=fun {k d} hd=>by
  rcases Nat.lt_or_ge k ops.size with h | h
  ·exact h
  ·simp[j6_,Array.getElem?_eq_none h]at hd
 refine⟨fun e he hb=>h2 _ (hdir e he hb),fun j hj=>(h3 j hj).1,fun S hS hc j hj=>?_,fun k d hd hl=>?_,fun k d hne hd hdi=>?_,fun hm j hj=>?_⟩
 ·have hD:∀ k∈j9_ o,S k:=fun k hk=>by
   unfold j9_ at hk;rw[List.mem_map]at hk;obtain⟨e,he,rfl⟩:=hk;rw[List.mem_filter]at he;exact hS e (by simpa using he.1) he.2
  rcases (h3 j hj).2 with h | h
  ·exact hD j (by simpa using h)
  ·rw[List.any_eq_true]at h;obtain⟨k,hk,hkj⟩:=h;exact hc k (hD k hk) j (by simpa using hkj)
 ·have:=h4 k (hk hd);rw[hd]at this;simp only[l9_,Bool.or_eq_true,Bool.not_eq_true',List.contains_iff_mem,List.contains_eq_mem,decide_eq_true_eq,decide_eq_false_iff_not]at this;rcases this.1 with (h | h) | h
  ·exact absurd hl h
  ·exact .inl h
  ·exact .inr h
 ·have:=h4 k (hk hd);rw[hd]at this;simp only[l9_,Bool.or_eq_true,List.contains_eq_mem,decide_eq_true_eq,beq_iff_eq,bne_iff_ne]at this;rcases this.2 with ((h | h) | h) | h
  ·exact absurd h hne
  ·exact absurd hdi h
  ·exact .inl h
  ·exact .inr h
 ·rcases h5 with h | h
  ·omega
  ·simpa using h j hj
section
variable {ops:Array Oper} {Q:Exit→Act→World→Prop} {sp:List NS} {D:List (List Nat)} {m:Nat} {a0:Act} {w0:World}
theorem M2_ (hok:∀ i o,ops[i]?=some o→NetOkU ops D m i o):∀ (fuel k:Nat) (listed:Array Bool) (a:Act) (w:World),fuel+k=ops.size→m≤k→listed.size=ops.size→(∀ j,listed.getD j false=decide (j<k)) →
  wpList P ops Q (ops.toList.drop k) a w→wpAny P .any ops Q fuel listed a w
 | fuel,k,listed,a,w,hf,hm,hls,hl,h=>by
  have hld:∀ j,j<ops.size→listed.getD j true=decide (j<k):=fun j hj=>by
   rw[←hl j];simp[m2_,l8_ (show j<listed.size by omega)]
  have hr:∀ i∈Region.ready .any ops listed,i=k∧k<ops.size:=fun i hi=>by
   obtain⟨h0,o,ho,hall⟩:=mem_ready.1 hi;have hin:=(Array.getElem?_eq_some_iff.1 ho).1;rw[hld i hin]at h0;have hik:k≤i:=by simpa using h0
   refine⟨?_,by omega⟩;have hcl:=(hok i o ho).danc (fun j=>j<k) (fun e he hb=>by have:=hall e he hb;rw[hl]at this;simpa using this) (fun j hj x hx=>by
    have hjs:j<ops.size:=by omega
    have:=(hok j _ (l8_ hjs)).dlt x hx;omega)
   rcases Nat.lt_or_ge k i with hlt | hge
   ·have:=hcl k ((hok i o ho).tail (by omega) k hlt);omega
   ·omega
  cases fuel with
  | zero =>
   refine⟨?_,?_⟩
   ·apply List.eq_nil_iff_forall_not_mem.2
    intro i hi;have:=hr i hi;omega
   ·rw[List.drop_of_length_le (by simp;omega)]at h;exact h
  | succ fuel =>
   have hks:k<ops.size:=by omega
   have hke:=l8_ hks;have hdrop:ops.toList.drop k=ops[k] :: ops.toList.drop (k+1):=by
    rw[List.drop_eq_getElem_cons (by simpa using hks)];simp
   rw[hdrop]at h;have hready:k∈Region.ready .any ops listed:=mem_ready.2 ⟨by rw[hld k hks];simp,_,hke,fun e he hb=>by rw[hl];simpa using (hok k _ hke).direct e he hb⟩;refine⟨fun h0=>(by rw[h0]at hready;cases hready),fun i hi=>?_⟩;obtain⟨rfl,_⟩:=hr i hi;unfold wpOp;simp only[hke];have nxt:∀ a w,wpList P ops Q (ops.toList.drop (i+1)) a w→wpAny P .any ops Q fuel (listed.setIfInBounds i true) a w:=fun a w h =>
    M2_ hok fuel (i+1) _ a w (by omega) (by omega) (by simpa using hls) (fun j=>by
     by_cases e:i=j
     ·subst e;simp[m2_,Array.getElem?_setIfInBounds,hls,hks]
     ·rw[getD_set_ne _ e,hl];congr 1
      rw[eq_iff_iff];omega) h
   by_cases hw:Region.wanted ops[i] (yielded ops a.tmps)=true
   ·simp only[wpList,hw,if_true]at h⊢;rcases h with h | h
    ·exact .inl (Oper.wp_mono nxt h)
    ·exact .inr h
   ·rw[Bool.not_eq_true]at hw;simp only[wpList,hw,Bool.false_eq_true,if_false]at h⊢;exact nxt _ _ h
theorem d6Q (hB:g1X ops D m=true) (hst:∀ s∈sp,s.stable) (hdo:∀ i o,i<m→ops[i]?=some o→Y8_ P ops sp D a0 w0 i o)
  (hend:∀ x w,Below w0.heap.size w0 w→(∀ i,i<m→k1_ sp D x i w)→(∀ i,i<m→w0.heap.size≤x.lo i∧x.lo i≤x.hi i∧x.hi i≤w.heap.size)→(∀ i j,i<m→j<m→i≠j→x.hi i≤x.lo j∨x.hi j≤x.lo i)→wpList P ops Q (ops.toList.drop m) (c5_ ops a0 x.v m) w) :
  ∀ (fuel:Nat) (listed:Array Bool) (x:Gh) (w:World),((List.range ops.size).filter fun j=>!listed.getD j false).length=fuel→listed.size=ops.size→(∀ j,m≤j→listed.getD j false=false) →
   (∀ i,listed.getD i false=true→∀ j∈D.getD i [],listed.getD j false=true)→Below w0.heap.size w0 w→(∀ i,listed.getD i false=true→k1_ sp D x i w)→(∀ i,listed.getD i false=true→w0.heap.size≤x.lo i∧x.lo i≤x.hi i∧x.hi i≤w.heap.size) →
   (∀ i j,listed.getD i false=true→listed.getD j false=true→i≠j→x.hi i≤x.lo j∨x.hi j≤x.lo i) →
   wpAny P .any ops Q fuel listed (actP ops a0 x.v (fun j=>listed.getD j false) ops.size) w:=by
 simp only[g1X,l9_,decide_eq_true_eq]at hB;obtain⟨⟨hm,hns⟩,hnf⟩:=hB;have hok:∀ i o,ops[i]?=some o→NetOkU ops D m i o:=fun i o ho=>a4z (by
  have:=B9_ ops.toList 0 hnf i o (by simpa using ho);simpa using this)
 have hst':∀ i,(sp.getD i (.eq undef)).stable:=fun i=>by
  rw[l1_];rcases h:sp[i]? with _ | s
  ·trivial
  ·exact hst s (l4_ h)
 intro fuel;induction fuel with
 | zero =>
  intro listed x w hc hls hlm hcl hb hkn hiv hdj;have hall:∀ j,j<ops.size→listed.getD j false=true:=fun j hj=>by
   rw[List.length_eq_zero_iff,List.filter_eq_nil_iff]at hc;have:=hc j (List.mem_range.2 hj);simpa using this
  have hms:m=ops.size:=by
   rcases Nat.lt_or_ge m ops.size with h | h
   ·have:=hall m h;rw[hlm m (l_ _)]at this;cases this
   ·omega
  refine M2_ hok 0 ops.size listed _ w (by omega) (by omega) hls (fun j=>?_) ?_
  ·by_cases hj:j<ops.size
   ·rw[hall j hj];simp[hj]
   ·rw[hlm j (by omega)];simp[hj]
  ·have:=hend x w hb (fun i hi=>hkn i (hall i (by omega))) (fun i hi=>hiv i (hall i (by omega))) (fun i j hi hj=>hdj i j (hall i (by omega)) (hall j (by omega)));rw[←f6_ (p:=fun j=>listed.getD j false) m (fun j hj=>hall j (by omega))]at this;rwa[hms]at this
 | succ fuel ih =>
  intro listed x w hc hls hlm hcl hb hkn hiv hdj;by_cases hfull:∀ j,j<m→listed.getD j false=true
  · -- the tail
   have hl:∀ j,listed.getD j false=decide (j<m):=fun j=>by
    by_cases hj:j<m
    ·rw[hfull j hj];simp[hj]
    ·rw[hlm j (by omega)];simp[hj]
   have hcnt:fuel+1+m=ops.size:=by
    rw[←hc];have e:(List.range ops.size).filter (fun j=>!listed.getD j false)=(List.range' m (ops.size-m)):=by
     have e1:(List.range ops.size)=List.range m ++ List.range' m (ops.size-m):=by
      have h:=List.range'_append_1 (s:=0) (m:=m) (n:=ops.size-m);rw[Nat.zero_add]at h;rw[List.range_eq_range',List.range_eq_range',h];congr 1
      omega
     rw[e1,List.filter_append];rw[List.filter_eq_nil_iff.2 (fun j hj=>by rw[hl];simp at hj⊢;exact hj),List.nil_append];rw[List.filter_eq_self.2 (fun j hj=>by rw[hl];simp[List.mem_range']at hj⊢;omega)]
    rw[e,List.length_range'];omega
   refine M2_ hok (fuel+1) m listed _ w (by omega) (l_ _) hls hl ?_;have:=hend x w hb (fun i hi=>hkn i (hfull i hi)) (fun i hi=>hiv i (hfull i hi)) (fun i j hi hj=>hdj i j (hfull i hi) (hfull j hj));rw[←f6_ (p:=fun j=>listed.getD j false) m hfull]at this;rwa[f5_ (p:=fun j=>listed.getD j false) ops.size m hm (fun j h1 _=>hlm j h1)]
  · -- one of the net
   have hne:Region.ready .any ops listed≠[]:=by
    intro h0;have:∀ n,∀ j,j<n→j<m→listed.getD j false=true:=by
     intro n;induction n with
     | zero=>intro j hj;omega
     | succ n ihn =>
      intro j hj hjm;by_cases e:j<n
      ·exact ihn j e hjm
      ·rcases hlj:listed.getD j false with _ | _
       ·exfalso
        have hjs:j<ops.size:=by omega
        have hje:=l8_ hjs;have:j∈Region.ready .any ops listed:=mem_ready.2 ⟨by
         rw[←hlj];simp[m2_,l8_ (show j<listed.size by omega)],_,hje,fun e he hb=>by
         have:=(hok j _ hje).direct e he hb;exact ihn e.on (by omega) (by omega)⟩
        rw[h0]at this;cases this
       ·rfl
    exact hfull fun j hj=>this (j+1) j (by omega) hj
   refine⟨fun h0=>absurd h0 hne,fun i hi=>?_⟩;obtain⟨h0,o,ho,hall⟩:=mem_ready.1 hi;have his:=(Array.getElem?_eq_some_iff.1 ho).1;have hO:=hok i o ho;have hDl:∀ j∈D.getD i [],listed.getD j false=true:=hO.danc (fun j=>listed.getD j false=true) hall (fun k hk j hj=>hcl k hk j hj);have him:i<m:=by
    rcases Nat.lt_or_ge i m with h | h
    ·exact h
    ·exact absurd (fun j hj=>hDl j (hO.tail h j (by omega))) hfull
   have hli:listed.getD i false=false:=by
    rw[←h0];simp[m2_,l8_ (show i<listed.size by omega)]
   have hpre:=hdo i o him ho x w hb (fun j hj=>⟨hkn j (hDl j hj),(hiv j (hDl j hj)).2.2⟩) (fun e b w'=>e = .normal∧∃ u,b=(c5_ ops a0 x.v i).put o.dst u∧(Below w.heap.size w w'∧(sp.getD i (.eq undef)).holds i (D.getD i []) (x.set i u w.heap.size w'.heap.size) w'))
    (fun u w' h1 h2=>⟨rfl,u,rfl,h1,h2⟩)
   have heq:∀ t∈o.looksAt ops,(actP ops a0 x.v (fun j=>listed.getD j false) ops.size).eval (.tmp t)=(c5_ ops a0 x.v i).eval (.tmp t):=fun t hlook=>by
    have e1:c5_ ops a0 x.v i=actP ops a0 x.v (fun j=>decide (j<i)) ops.size:=by
     rw[f5_ (p:=fun j=>decide (j<i)) ops.size i (by omega) (fun j h1 _=>by simp;omega)];exact (f6_ (p:=fun j=>decide (j<i)) i (fun j hj=>by simp[hj])).symm
    rw[e1];refine p8_ t ops.size fun j hj hd=>?_
    rcases hO.looks j t hd hlook with h | h
    ·rw[hDl j h];have:=hO.dlt j h;simp[this]
    ·have hlt:=(hok j _ (l8_ hj)).dlt i h;have:listed.getD j false=false:=by
      rcases hlj:listed.getD j false with _ | _
      ·rfl
      ·have:=hcl j hlj i h;rw[hli]at this;cases this
     rw[this];simp;omega
   have hsz:(c5_ ops a0 x.v i).tmps.size=(actP ops a0 x.v (fun j=>listed.getD j false) ops.size).tmps.size:=by
    rw[g7_,←f6_ (p:=fun _=>true) i (fun _ _=>rfl),g7_]
   have hexec:execOp (actP ops a0 x.v (fun j=>listed.getD j false) ops.size).eval o=execOp (c5_ ops a0 x.v i).eval o:=by
    refine execOp_congr o (fun cs b=>Region.noSelect_spec hns i o cs b ho) fun y hx=>?_
    by_cases hxt:∃ t,y = .tmp t
    ·obtain⟨t,rfl⟩:=hxt;exact heq t (List.mem_append_left _ (List.mem_filterMap.2 ⟨.tmp t,by simpa using hx,rfl⟩))
    ·exact p5_ y (fun t h=>hxt ⟨t,h⟩) _ _
   have hwEq:Region.wanted o (yielded ops (actP ops a0 x.v (fun j=>listed.getD j false) ops.size).tmps)=Region.wanted o (yielded ops (c5_ ops a0 x.v i).tmps):=by
    unfold Region.wanted;cases hg:o.guard with
    | none=>rfl
    | some gw =>
     obtain⟨g,want⟩:=gw;have hy:yielded ops (actP ops a0 x.v (fun j=>listed.getD j false) ops.size).tmps g=yielded ops (c5_ ops a0 x.v i).tmps g:=by
      unfold yielded;cases ht:(ops[g]?).bind (·.dst) with
      | none=>rfl
      | some t =>
       have h1:=heq t (by simp[Oper.looksAt,hg,ht]);simp only[Option.bind_some,d9q h1 hsz]
     simp only[hy]
   have hnl:¬ LetsOut (fun (e:Exit) (b:Act) (w':World)=>e = .normal∧∃ u,b=(c5_ ops a0 x.v i).put o.dst u∧(Below w.heap.size w w'∧(sp.getD i (.eq undef)).holds i (D.getD i []) (x.set i u w.heap.size w'.heap.size) w')):=by
    rintro⟨b,w',h,_⟩;cases h
   suffices step:∀ u w',Below w.heap.size w w'→(sp.getD i (.eq undef)).holds i (D.getD i []) (x.set i u w.heap.size w'.heap.size) w' →
     wpAny P .any ops Q fuel (listed.setIfInBounds i true) ((actP ops a0 x.v (fun j=>listed.getD j false) ops.size).put o.dst u) w' by
    by_cases hwant:Region.wanted o (yielded ops (c5_ ops a0 x.v i).tmps)=true
    ·simp only[wpList,hwant,if_true]at hpre;rcases hpre with hpre | hpre
     case inr=>exact absurd hpre.2 hnl
     simp only[true_and]at hpre;have hT:=o1_ (Q2:=Q) hexec hsz (fun c b w' h=>by cases h.1) hnl hpre;unfold wpOp;simp only[ho,hwEq,hwant,if_true];refine .inl (Oper.wp_mono ?_ hT);rintro b w' ⟨u,rfl,hbw,hh⟩;exact step u w' hbw hh
    ·rw[Bool.not_eq_true]at hwant;simp only[wpList,hwant,Bool.false_eq_true,if_false,true_and]at hpre;obtain⟨u,he,hbw,hh⟩:=hpre;unfold wpOp;simp only[ho,hwEq,hwant,Bool.false_eq_true,if_false];rw[s6_ he hsz];exact step u w hbw hh
   intro u w' hbw hh;have hdst:o.dst=j6_ ops i:=by simp[j6_,ho]
   have hlq:∀ j,(listed.setIfInBounds i true).getD j false=(listed.getD j false || j == i):=fun j=>by
    by_cases e:i=j
    ·subst e;simp[m2_,Array.getElem?_setIfInBounds,hls,his]
    ·rw[getD_set_ne _ e];simp[Ne.symm e]
   rw[hdst,u0_ (v':=(x.set i u w.heap.size w'.heap.size).v) (q:=fun j=>(listed.setIfInBounds i true).getD j false) (fun j hj _=>by simp[Gh.set,hj]) (by simp[Gh.set]) hli hlq (fun j d hij hlj hdj hdi=>by
    rcases hO.dsts j d (by omega) hdj hdi with h | h
    ·have:=hO.dlt j h;omega
    ·have:=hcl j hlj i h;rw[hli]at this;cases this) ops.size his]
   refine ih _ _ _ ?_ (by simpa using hls) (fun j hj=>by rw[hlq,hlm j hj];simp;omega) (fun k hk j hj=>?_) (hb.trans (hbw.mono hb.size)) (fun k hk=>?_) (fun k hk=>?_) (fun k j hk hj hkj=>?_)
   · -- the count
    have hmem:i∈(List.range ops.size).filter fun j=>!listed.getD j false:=by
     rw[List.mem_filter];exact⟨List.mem_range.2 his,by rw[hli];rfl⟩
    have e:(List.range ops.size).filter (fun j=>!(listed.setIfInBounds i true).getD j false)=((List.range ops.size).filter fun j=>!listed.getD j false).filter (fun j=>j != i):=by
     rw[List.filter_filter];congr 1
     funext j
     rw[hlq];simp[Bool.not_or,Bool.and_comm,bne]
    have hnd:((List.range ops.size).filter fun j=>!listed.getD j false).Nodup:=List.nodup_range.filter _;rw[e];have:=List.length_erase_of_mem hmem;rw[hnd.erase_eq_filter,hc]at this;simpa using this
   ·rw[hlq]at hk⊢;simp only[Bool.or_eq_true,beq_iff_eq]at hk⊢;rcases hk with hk | rfl
    ·exact .inl (hcl k hk j hj)
    ·exact .inl (hDl j hj)
   ·rw[hlq]at hk;simp only[Bool.or_eq_true,beq_iff_eq]at hk;unfold k1_;by_cases e:k=i
    ·subst e;exact hh
    ·rcases hk with hk | hk
     ·refine NS.holds_congr (x:=x) (fun j hj=>?_) (NS.holds_stable (hst' k) (hkn k hk) hbw);have hji:j≠i:=by
       rcases hj with rfl | hj
       ·exact e
       ·rintro rfl;have:=hcl k hk j hj;rw[hli]at this;cases this
      simp[Gh.set,hji]
     ·exact absurd hk e
   ·rw[hlq]at hk;simp only[Bool.or_eq_true,beq_iff_eq]at hk;by_cases e:k=i
    ·subst e;simp only[Gh.set,if_true];exact⟨hb.size,hbw.size,l_ _⟩
    ·have:=hiv k (hk.resolve_right e);have:=hbw.size;simp only[Gh.set,if_neg e];omega
   ·rw[hlq]at hk hj;simp only[Bool.or_eq_true,beq_iff_eq]at hk hj;by_cases e:k=i
    ·subst e;have:=hiv j (hj.resolve_right (Ne.symm hkj));simp only[Gh.set,if_true,if_neg (Ne.symm hkj)];exact .inr (by omega)
    ·by_cases e':j=i
     ·subst e';have:=hiv k (hk.resolve_right e);simp only[Gh.set,if_true,if_neg e];exact .inl (by omega)
     ·simp only[Gh.set,if_neg e,if_neg e'];exact hdj k j (hk.resolve_right e) (hj.resolve_right e') hkj
theorem s5_ {id:Nat} {l:List Oper} {w:World} (hmo:P.follows .mixedOrders=true) (sp:List NS) (D:List (List Nat)) (m:Nat) (hB:g1X l.toArray D m=true) (hst:t9_ sp)
  (hdo:Y7_ P l.toArray sp D a0 w 0 (l.take m))
  (hend:∀ x w',Below w.heap.size w w'→(∀ i,i<m→k1_ sp D x i w')→(∀ i,i<m→w.heap.size≤x.lo i∧x.lo i≤x.hi i∧x.hi i≤w'.heap.size)→(∀ i j,i<m→j<m→i≠j→x.hi i≤x.lo j∨x.hi j≤x.lo i)→wpList P l.toArray Q (l.drop m) (c5_ l.toArray a0 x.v m) w'):(Code.region id l.toArray true).wp P Q a0 w:=by
 replace hst:=k6_ hst;have hdo:∀ i o,i<m→l[i]?=some o→Y8_ P l.toArray sp D a0 w.drew i o:=fun i o hi ho=>by
  have:=u3_ (l.take m) 0 hdo i o (by rw[List.getElem?_take,if_pos hi];exact ho);rw[Nat.zero_add]at this;exact fun v w1 hb=>this v w1 ⟨hb.os,hb.tape,hb.output,hb.size,hb.block⟩
 refine wp_region_any hmo ?_;have h:=d6Q (w0:=w.drew) (a0:=a0) (Q:=Q) (P:=P) (sp:=sp) hB hst (fun i o hi ho=>hdo i o hi (by simpa using ho)) (fun x w' hb hk hiv hdj=>by simpa using hend x w' (show Below w.heap.size w w' from ⟨hb.os,hb.tape,hb.output,hb.size,hb.block⟩) hk hiv hdj)
  l.toArray.size (Array.replicate l.toArray.size false) ⟨fun _=>undef,fun _=>0,fun _=>0⟩ w.drew
  (by rw[List.filter_eq_self.2 (fun j _=>by rw[b3_];rfl),List.length_range])
  (by simp) (fun j _=>b3_ _ _)
  (fun i hi=>by rw[b3_]at hi;cases hi)
  br_
  (fun i hi=>by rw[b3_]at hi;cases hi)
  (fun i hi=>by rw[b3_]at hi;cases hi)
  (fun i j hi=>by rw[b3_]at hi;cases hi)
 have e:actP l.toArray a0 (fun _=>undef) (fun j=>(Array.replicate l.toArray.size false).getD j false) l.toArray.size=a0 :=
  f5_ l.toArray.size 0 (by omega) (fun j _ _=>b3_ _ _)
 rw[e]at h;exact h
end
end
theorem v1_ (u v:Value) (m:Mx) (w:World) (hu:MxR w w.heap.size u m) (hv:MxR w w.heap.size v m) :
  Calls Tryz.prog 60 #[u,v] w fun e w'=>e = .returned (.bool true)∧Below w.heap.size w w':=by
 obtain⟨A,c,rfl,hx,hr,hc,hn⟩:=hu.open_;obtain⟨C,d,rfl,hy,_,_,_⟩:=hv.open_;clear hu hv;obtain⟨W,hW,g0,k1,k2⟩:=b_4 w #[.int .i64 m.r,.int .i64 m.c,.slice A m.a.length c] 65 #[.int .i64 m.r,.int .i64 m.c,.slice C m.a.length d] 65;replace hx:=SlI.next g0 hx;replace hy:=SlI.next g0 hy;have r1:(m.r != m.r)=false:=by simp
 have r2:(m.c != m.c)=false:=by simp
 have r3:((m.a.length:Int) != m.a.length)=false:=by simp
 obtain⟨c0,c1,c2⟩:=c_3 k1;obtain⟨d0,d1,d2⟩:=c_3 k2;have G0:=h_ g0;clear g0 hr hc;go_enter Tryz.func60,Tryz.ntmps60
 go_wp2;rw[←hW];clear hW;go_loopw [5] (fun i wr=>∃ k q:Nat,k≤m.a.length∧i = .int .i64 k∧wr=W.drewN q) (fun i _=>m.a.length-(intOf i).toNat)
 case atStart=>exact⟨0,0,l0_ _,rfl,rfl⟩
 case round =>
  obtain⟨k,q,hk,rfl,rfl⟩:=hrel;by_cases hlt:k<m.a.length
  ·obtain⟨b,o,x,rfl,hb,HX,x1,_⟩:=SlI.at_ hx hlt;obtain⟨b',o',y,rfl,hb',HY,y1,_⟩:=SlI.at_ hy hlt;have e:=HX.out;rw[HY.out]at e;injection e with e
   subst e;have e1:(y != y)=false:=by simp
   clear hx hy;go_wp2;go_quiet (fail)
   go_wp2;go_roundw
   case rel=>exact⟨k+1,q+nq,by omega,by go_num,rfl⟩
   case measure=>simp[intOf];omega
  ·go_wp2;go_ret
   exact⟨rfl,d2_ G0.out _⟩
theorem r7_ (u v:Value) (x:Rp) (w:World) (hu:RpR w w.heap.size u x) (hv:RpR w w.heap.size v x) :
  Calls Tryz.prog 18 #[u,v] w fun e w'=>e = .returned (.bool true)∧Below w.heap.size w w':=by
 obtain⟨A,a,C,c,E,e,H,h,rfl,hq,hd,hm,_⟩:=hu.open_;obtain⟨A',a',C',c',E',e',H',h',rfl,hq',hd',hm',_⟩:=hv.open_;clear hu hv;obtain⟨W,hW,g0,k1,k2⟩:=b_4 w #[.int .i64 x.p,.int .i64 x.q.v,.slice A x.q.f.length a,.slice C x.q.t.length c,.slice E x.d.length e,.slice H x.m.length h] 29 #[.int .i64 x.p,.int .i64 x.q.v,.slice A' x.q.f.length a',.slice C' x.q.t.length c',.slice E' x.d.length e',.slice H' x.m.length h'] 29;replace hq:=QvR.next g0 hq;replace hq':=QvR.next g0 hq';replace hd:=SlI.next g0 hd;replace hd':=SlI.next g0 hd';replace hm:=SlM.next g0 hm;replace hm':=SlM.next g0 hm';have r1:(x.p != x.p)=false:=by simp
 have r3:((x.m.length:Int) != x.m.length)=false:=by simp
 obtain⟨c0,c1,c2,c3,c4,c5⟩:=c_6 k1;obtain⟨d0,d1,d2,d3,d4,d5⟩:=c_6 k2;go_enter Tryz.func18,Tryz.ntmps18
 go_wp2_with fail
 rw[←hW];clear hW;refine (p2_ _ _ x.q x.q _ hq hq').mono ?_;rintro e w1 ⟨rfl,hb1⟩;rw[show decide (x.q=x.q)=true from decide_eq_true rfl];clear hq hq';replace g0:=b0_ g0 hb1;replace hd:=SlI.next hb1 hd;replace hd':=SlI.next hb1 hd';replace hm:=SlM.next hb1 hm;replace hm':=SlM.next hb1 hm';replace k1:=k1.call hb1;replace c0:=k1.cell' (i:=0) rfl;replace c1:=k1.cell' (i:=1) rfl;replace c2:=k1.cell' (i:=2) rfl;replace c3:=k1.cell' (i:=3) rfl;replace c4:=k1.cell' (i:=4) rfl;replace c5:=k1.cell' (i:=5) rfl;replace k2:=k2.call hb1;replace d0:=k2.cell' (i:=0) rfl;replace d1:=k2.cell' (i:=1) rfl;replace d2:=k2.cell' (i:=2) rfl;replace d3:=k2.cell' (i:=3) rfl;replace d4:=k2.cell' (i:=4) rfl;replace d5:=k2.cell' (i:=5) rfl;clear hb1;go_wp2_with fail
 refine (x4_ _ _ x.d x.d _ hd hd').mono ?_;rintro e W1 ⟨rfl,hb1⟩;rw[show decide (x.d=x.d)=true from decide_eq_true rfl];replace g0:=b0_ g0 hb1;replace hd:=SlI.next hb1 hd;replace hd':=SlI.next hb1 hd';replace hm:=SlM.next hb1 hm;replace hm':=SlM.next hb1 hm';replace k1:=k1.call hb1;replace c0:=k1.cell' (i:=0) rfl;replace c1:=k1.cell' (i:=1) rfl;replace c2:=k1.cell' (i:=2) rfl;replace c3:=k1.cell' (i:=3) rfl;replace c4:=k1.cell' (i:=4) rfl;replace c5:=k1.cell' (i:=5) rfl;replace k2:=k2.call hb1;replace d0:=k2.cell' (i:=0) rfl;replace d1:=k2.cell' (i:=1) rfl;replace d2:=k2.cell' (i:=2) rfl;replace d3:=k2.cell' (i:=3) rfl;replace d4:=k2.cell' (i:=4) rfl;replace d5:=k2.cell' (i:=5) rfl;clear hb1 hd hd';have G0:=h_ g0;clear g0;go_wp2;go_loopw [5] (fun i wr=>∃ k:Nat,k≤x.m.length∧i = .int .i64 k∧Below W1.heap.size W1 wr) (fun i _=>x.m.length-(intOf i).toNat)
 case atStart=>exact⟨0,l0_ _,rfl,Below.refl _ _⟩
 case round =>
  clear c0 c1 c2 c3 c4 c5 d0 d1 d2 d3 d4 d5;obtain⟨k,hk,rfl,hbel⟩:=hrel;have k1x:=k1.call hbel;have k2x:=k2.call hbel;have z5:=k1x.cell' (i:=5) rfl;by_cases hlt:k<x.m.length
  ·obtain⟨b,o,m,B1,b1,rfl,hb,HX,x1,x2,x3,hsl,i1,i2,_⟩:=SlM.at_ hm hlt;obtain⟨b',o',m',B2,b2,rfl,hb',HX',y1,y2,y3,hsl',_⟩:=SlM.at_ hm' hlt;have e1:=HX.out;rw[HX'.out]at e1;injection e1 with e1
   subst e1;have hbs:=hbel.size;have n1:=InB.cell (w:=wr) (by omega) (a4_ hbel hb x1);have n2:=InB.cell (w:=wr) (by omega) (a4_ hbel hb x2);have n3:=InB.cell (w:=wr) (by omega) (a4_ hbel hb x3);have n4:=InB.cell (w:=wr) (by omega) (a4_ hbel hb' y1);have n5:=InB.cell (w:=wr) (by omega) (a4_ hbel hb' y2);have n6:=InB.cell (w:=wr) (by omega) (a4_ hbel hb' y3);have n7:=fun s:InB wr=>(k1x.call s.below).cell' (i:=5) rfl
   have n8:=fun s:InB wr=>(k2x.call s.below).cell' (i:=5) rfl
   have HM:Hid (∀ s:InB wr,MxR s.val s.val.heap.size (.agg #[.int .i64 m'.r,.int .i64 m'.c,.slice B1 m'.a.length b1]) m'):=fun s=>⟨_,rfl,SlI.next s.below (SlI.next hbel hsl),i1,i2⟩
   have HM':Hid (∀ s:InB wr,MxR s.val s.val.heap.size (.agg #[.int .i64 m'.r,.int .i64 m'.c,.slice B2 m'.a.length b2]) m'):=fun s=>⟨_,rfl,SlI.next s.below (SlI.next hbel hsl'),i1,i2⟩
   have HB:=h_ hbel;clear x1 x2 x3 y1 y2 y3 hsl hsl' hm hm' k1 k2 k1x k2x i1 i2 hbel;have a1:(0:Int)≤(k:Int):=by omega
   have a2:(k:Int)<x.m.length:=by omega
   go_wp2
   (refine b1_ (by kernel_rfl) (by kernel_rfl) ?_;(repeat (go_big_quiet_step ((go_at_call 60;exact InB.call (v1_ _ _ m' _ (HM.out _) (HM'.out _))))));refine wpQuiet_nil ?_;intro w1 hw';obtain⟨s1,hw1⟩:=hw';have hb1:=s1.below;rw[←hw1]at hb1;clear hw1 s1)
   go_wp2;go_roundw
   case rel=>exact⟨k+1,by omega,by go_num,b0_ HB.out hb1⟩
   case measure=>simp[intOf];omega
  ·have g1:=b0_ G0.out hbel;go_wp2;go_ret
   exact⟨rfl,g1⟩
theorem c8x:Tryz.prog.mayEnter=true:=by kernel_rfl
theorem c8J:(false == Tryz.prog.liftsFinal)=true:=by kernel_rfl
theorem d8x:(Tryz.prog.make == some .cut)=true:=by kernel_rfl
theorem band {a b:Bool} (h:a=true) (k:b=true):(a && b)=true:=by rw[h,k];rfl
end Go.Proofs.YtbgccbmdiolhbaaGreat

