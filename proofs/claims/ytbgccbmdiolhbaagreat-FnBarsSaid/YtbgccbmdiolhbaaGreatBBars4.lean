/- FnBars: the law holds for every argument. Part 4 of 16 of the proof: NetC, LineOf, Pencil, DsF, Drw, Cut6, Num, Symm, Symm2, Refl, FmtQ, QvG, PrsQ, NmQ, NetK, AcyQ, AnyQ, DrwN, DrwB, Kit3, BarsN. No condition. -/
import Derived.Test.YtbgccbmdiolhbaaGreatBBars3
import Derived.Shelf.RegionOpenPlain
set_option linter.unusedVariables false
set_option linter.unusedSimpArgs false
set_option maxHeartbeats 12800000
set_option maxRecDepth 100000
namespace Go.Proofs.YtbgccbmdiolhbaaGreat
open Go.RowKit
section
variable {P:Program}
section
variable {ops:Array Oper} {Q:Exit→Act→World→Prop} {sp:List NS} {D N:List (List Nat)} {m g:Nat} {a0:Act} {w0:World} {E:Nat→Bool}
def b0J (P:Program) (ops:Array Oper) (sp:List NS) (D N:List (List Nat)) (g:Nat) (a0:Act) (w0:World) (i:Nat) (o:Oper):Prop :=
 ∀ (x:Gh) (w:World),Below w0.heap.size w0 w→(∀ j∈N.getD i [],k1_ sp D x j w∧x.hi j≤w.heap.size)→∀ Q':Exit→Act→World→Prop,
  (∀ u w',Below (bif i == g then w0.heap.size else w.heap.size) w w'→(sp.getD i (.eq undef)).holds i (D.getD i []) (x.set i u w.heap.size w'.heap.size) w'→Q' .normal ((c5_ ops a0 x.v i).put o.dst u) w')→wpList P ops Q' [o] (c5_ ops a0 x.v i) w
theorem d6z (hB:netB ops D m=true) (hst:∀ s∈sp,s.stable) (hgm:g<m) (hE:∀ i,E i=true→i=g∨g∈D.getD i []∨∃ u,sp.getD i (.eq undef) = .eq u) (hN:∀ i,i<m→∀ j∈N.getD i [],j∈D.getD i []∧(i=g∨i∈D.getD g []∨E j=true)) (hdo:∀ i o,i<m→ops[i]?=some o→b0J P ops sp D N g a0 w0 i o)
  (hend:∀ x w,Below w0.heap.size w0 w→(∀ i,i<m→E i=true→k1_ sp D x i w)→(∀ i,i<m→w0.heap.size≤x.lo i∧x.lo i≤x.hi i∧x.hi i≤w.heap.size)→(∀ i j,i<m→j<m→i≠j→x.hi i≤x.lo j∨x.hi j≤x.lo i)→wpList P ops Q (ops.toList.drop m) (c5_ ops a0 x.v m) w) :
  ∀ (fuel:Nat) (listed:Array Bool) (x:Gh) (w:World),((List.range ops.size).filter fun j=>!listed.getD j false).length=fuel→listed.size=ops.size→(∀ j,m≤j→listed.getD j false=false) →
   (∀ i,listed.getD i false=true→∀ j∈D.getD i [],listed.getD j false=true)→Below w0.heap.size w0 w→(∀ i,listed.getD i false=true→listed.getD g false=false∨E i=true→k1_ sp D x i w)→(∀ i,listed.getD i false=true→w0.heap.size≤x.lo i∧x.lo i≤x.hi i∧x.hi i≤w.heap.size) →
   (∀ i j,listed.getD i false=true→listed.getD j false=true→i≠j→x.hi i≤x.lo j∨x.hi j≤x.lo i) →
   wpAny P .any ops Q fuel listed (actP ops a0 x.v (fun j=>listed.getD j false) ops.size) w:=by
 simp only[netB,l9_,decide_eq_true_eq]at hB;obtain⟨⟨hm,hns⟩,hnf⟩:=hB;have hok:∀ i o,ops[i]?=some o→NetOk ops D m i o:=fun i o ho=>t4_ (by
  have:=m7_ ops.toList 0 hnf i o (by simpa using ho);simpa using this)
 have hst':∀ i,(sp.getD i (.eq undef)).stable:=fun i=>by
  rw[l1_];rcases h:sp[i]? with _ | s
  ·trivial
  ·exact hst s (l4_ h)
 intro fuel;induction fuel with
 | zero =>
  intro listed x w hc hls hlm hcl hb hkn hiv hdj;have hall:∀ j,j<ops.size→listed.getD j false=true:=fun j hj=>by
   rw[List.length_eq_zero_iff,List.filter_eq_nil_iff]at hc;have:=hc j (List.mem_range.2 hj);simpa using this
  have hms:m=ops.size:=by
   rcases Nat.lt_or_ge m ops.size with h | h
   ·have:=hall m h;rw[hlm m (l_ _)]at this;cases this
   ·omega
  refine p4_ hok 0 ops.size listed _ w (by omega) (by omega) hls (fun j=>?_) ?_
  ·by_cases hj:j<ops.size
   ·rw[hall j hj];simp[hj]
   ·rw[hlm j (by omega)];simp[hj]
  ·have:=hend x w hb (fun i hi he=>hkn i (hall i (by omega)) (.inr he)) (fun i hi=>hiv i (hall i (by omega))) (fun i j hi hj=>hdj i j (hall i (by omega)) (hall j (by omega)));rw[←f6_ (p:=fun j=>listed.getD j false) m (fun j hj=>hall j (by omega))]at this;rwa[hms]at this
 | succ fuel ih =>
  intro listed x w hc hls hlm hcl hb hkn hiv hdj;by_cases hfull:∀ j,j<m→listed.getD j false=true
  · -- the tail
   have hl:∀ j,listed.getD j false=decide (j<m):=fun j=>by
    by_cases hj:j<m
    ·rw[hfull j hj];simp[hj]
    ·rw[hlm j (by omega)];simp[hj]
   have hcnt:fuel+1+m=ops.size:=by
    rw[←hc];have e:(List.range ops.size).filter (fun j=>!listed.getD j false)=(List.range' m (ops.size-m)):=by
     have e1:(List.range ops.size)=List.range m ++ List.range' m (ops.size-m):=by
      have h:=List.range'_append_1 (s:=0) (m:=m) (n:=ops.size-m);rw[Nat.zero_add]at h;rw[List.range_eq_range',List.range_eq_range',h];congr 1
      omega
     rw[e1,List.filter_append];rw[List.filter_eq_nil_iff.2 (fun j hj=>by rw[hl];simp at hj⊢;exact hj),List.nil_append];rw[List.filter_eq_self.2 (fun j hj=>by rw[hl];simp[List.mem_range']at hj⊢;omega)]
    rw[e,List.length_range'];omega
   refine p4_ hok (fuel+1) m listed _ w (by omega) (l_ _) hls hl ?_;have:=hend x w hb (fun i hi he=>hkn i (hfull i hi) (.inr he)) (fun i hi=>hiv i (hfull i hi)) (fun i j hi hj=>hdj i j (hfull i hi) (hfull j hj));rw[←f6_ (p:=fun j=>listed.getD j false) m hfull]at this;rwa[f5_ (p:=fun j=>listed.getD j false) ops.size m hm (fun j h1 _=>hlm j h1)]
  · -- one of the net
   have hne:Region.ready .any ops listed≠[]:=by
    intro h0;have:∀ n,∀ j,j<n→j<m→listed.getD j false=true:=by
     intro n;induction n with
     | zero=>intro j hj;omega
     | succ n ihn =>
      intro j hj hjm;by_cases e:j<n
      ·exact ihn j e hjm
      ·rcases hlj:listed.getD j false with _ | _
       ·exfalso
        have hjs:j<ops.size:=by omega
        have hje:=l8_ hjs;have:j∈Region.ready .any ops listed:=mem_ready.2 ⟨by
         rw[←hlj];simp[m2_,l8_ (show j<listed.size by omega)],_,hje,fun e he hb=>by
         have:=(hok j _ hje).direct e he hb;exact ihn e.on (by omega) (by omega)⟩
        rw[h0]at this;cases this
       ·rfl
    exact hfull fun j hj=>this (j+1) j (by omega) hj
   refine⟨fun h0=>absurd h0 hne,fun i hi=>?_⟩;obtain⟨h0,o,ho,hall⟩:=mem_ready.1 hi;have his:=(Array.getElem?_eq_some_iff.1 ho).1;have hO:=hok i o ho;have hDl:∀ j∈D.getD i [],listed.getD j false=true:=hO.danc (fun j=>listed.getD j false=true) hall (fun k hk j hj=>hcl k hk j hj);have him:i<m:=by
    rcases Nat.lt_or_ge i m with h | h
    ·exact h
    ·exact absurd (fun j hj=>hDl j (hO.tail h j (by omega))) hfull
   have hli:listed.getD i false=false:=by
    rw[←h0];simp[m2_,l8_ (show i<listed.size by omega)]
   have hgi:i≠g→listed.getD g false=true→i ∉ D.getD g []:=fun _ hg hD=>by
    have:=hcl g hg i hD;rw[hli]at this;cases this
   have hpre:=hdo i o him ho x w hb (fun j hj=>⟨hkn j (hDl j (hN i him j hj).1) (by
     rcases (hN i him j hj).2 with h | h | h
     ·subst h;exact .inl hli
     ·rcases hg:listed.getD g false with _ | _
      ·exact .inl rfl
      ·by_cases e:i=g
       ·subst e;rw[hli]at hg;cases hg
       ·exact absurd h (hgi e hg)
     ·exact .inr h),(hiv j (hDl j (hN i him j hj).1)).2.2⟩) (fun e b w'=>e = .normal∧∃ u,b=(c5_ ops a0 x.v i).put o.dst u∧(Below (bif i == g then w0.heap.size else w.heap.size) w w'∧(sp.getD i (.eq undef)).holds i (D.getD i []) (x.set i u w.heap.size w'.heap.size) w'))
    (fun u w' h1 h2=>⟨rfl,u,rfl,h1,h2⟩)
   have hwant:∀ b:Act,Region.wanted o (yielded ops b.tmps)=true:=fun b=>by simp[Region.wanted,hO.guard]
   have hnl:¬ LetsOut (fun (e:Exit) (b:Act) (w':World)=>e = .normal∧∃ u,b=(c5_ ops a0 x.v i).put o.dst u∧(Below (bif i == g then w0.heap.size else w.heap.size) w w'∧(sp.getD i (.eq undef)).holds i (D.getD i []) (x.set i u w.heap.size w'.heap.size) w')):=by
    rintro⟨b,w',h,_⟩;cases h
   simp only[wpList,hwant,if_true]at hpre;rcases hpre with hpre | hpre
   case inr=>exact absurd hpre.2 hnl
   simp only[true_and]at hpre;have hexec:execOp (actP ops a0 x.v (fun j=>listed.getD j false) ops.size).eval o=execOp (c5_ ops a0 x.v i).eval o:=by
    refine execOp_congr o (fun cs b=>Region.noSelect_spec hns i o cs b ho) fun y hx=>?_
    by_cases hxt:∃ t,y = .tmp t
    ·obtain⟨t,rfl⟩:=hxt;have hlook:t∈o.looksAt ops:=List.mem_append_left _ (List.mem_filterMap.2 ⟨.tmp t,by simpa using hx,rfl⟩);have e1:c5_ ops a0 x.v i=actP ops a0 x.v (fun j=>decide (j<i)) ops.size:=by
      rw[f5_ (p:=fun j=>decide (j<i)) ops.size i (by omega) (fun j h1 _=>by simp;omega)];exact (f6_ (p:=fun j=>decide (j<i)) i (fun j hj=>by simp[hj])).symm
     rw[e1];refine p8_ t ops.size fun j hj hd=>?_
     rcases hO.looks j t hd hlook with h | h
     ·rw[hDl j h];have:=hO.dlt j h;simp[this]
     ·have hlt:=(hok j _ (l8_ hj)).dlt i h;have:listed.getD j false=false:=by
       rcases hlj:listed.getD j false with _ | _
       ·rfl
       ·have:=hcl j hlj i h;rw[hli]at this;cases this
      rw[this];simp;omega
    ·exact p5_ y (fun t h=>hxt ⟨t,h⟩) _ _
   have hsz:(c5_ ops a0 x.v i).tmps.size=(actP ops a0 x.v (fun j=>listed.getD j false) ops.size).tmps.size:=by
    rw[g7_,←f6_ (p:=fun _=>true) i (fun _ _=>rfl),g7_]
   have hT:=o1_ (Q2:=Q) hexec hsz (fun c b w' h=>by cases h.1) hnl hpre;unfold wpOp;simp only[ho,hwant,if_true];refine .inl (Oper.wp_mono ?_ hT);rintro b w' ⟨u,rfl,hbw,hh⟩;have hbw0:Below w0.heap.size w w':=by
    rcases hig:(i == g) with _ | _
    ·rw[hig]at hbw;exact Below.mono hbw hb.size
    ·rw[hig]at hbw;exact hbw
   have hdst:o.dst=j6_ ops i:=by simp[j6_,ho]
   have hlq:∀ j,(listed.setIfInBounds i true).getD j false=(listed.getD j false || j == i):=fun j=>by
    by_cases e:i=j
    ·subst e;simp[m2_,Array.getElem?_setIfInBounds,hls,his]
    ·rw[getD_set_ne _ e];simp[Ne.symm e]
   rw[hdst,u0_ (v':=(x.set i u w.heap.size w'.heap.size).v) (q:=fun j=>(listed.setIfInBounds i true).getD j false) (fun j hj _=>by simp[Gh.set,hj]) (by simp[Gh.set]) hli hlq (fun j d hij hlj hdj hdi=>by
    rcases hO.dsts j d (by omega) hdj hdi with h | h
    ·have:=hO.dlt j h;omega
    ·have:=hcl j hlj i h;rw[hli]at this;cases this) ops.size his]
   refine ih _ _ _ ?_ (by simpa using hls) (fun j hj=>by rw[hlq,hlm j hj];simp;omega) (fun k hk j hj=>?_) (hb.trans hbw0) (fun k hk hal=>?_) (fun k hk=>?_) (fun k j hk hj hkj=>?_)
   · -- the count
    have hmem:i∈(List.range ops.size).filter fun j=>!listed.getD j false:=by
     rw[List.mem_filter];exact⟨List.mem_range.2 his,by rw[hli];rfl⟩
    have e:(List.range ops.size).filter (fun j=>!(listed.setIfInBounds i true).getD j false)=((List.range ops.size).filter fun j=>!listed.getD j false).filter (fun j=>j != i):=by
     rw[List.filter_filter];congr 1
     funext j
     rw[hlq];simp[Bool.not_or,Bool.and_comm,bne]
    have hnd:((List.range ops.size).filter fun j=>!listed.getD j false).Nodup:=List.nodup_range.filter _;rw[e];have:=List.length_erase_of_mem hmem;rw[hnd.erase_eq_filter,hc]at this;simpa using this
   ·rw[hlq]at hk⊢;simp only[Bool.or_eq_true,beq_iff_eq]at hk⊢;rcases hk with hk | rfl
    ·exact .inl (hcl k hk j hj)
    ·exact .inl (hDl j hj)
   ·rw[hlq]at hk;simp only[Bool.or_eq_true,beq_iff_eq]at hk;unfold k1_;by_cases e:k=i
    ·subst e;exact hh
    ·rcases hk with hk | hk
     ·have hst1:(sp.getD k (.eq undef)).holds k (D.getD k []) x w':=by
       by_cases eg:i=g
       ·subst eg;rw[hlq]at hal;simp only[beq_self_eq_true,Bool.or_true,Bool.true_eq_false,false_or]at hal;rcases hE k hal with h | h | ⟨u',h⟩
        ·exact absurd h e
        ·have:=hcl k hk i h;rw[hli]at this;cases this
        ·have hkk:=hkn k hk (.inr hal);unfold k1_ at hkk;rw[h]at hkk⊢;exact hkk
       ·have hig:(i == g)=false:=by simpa using eg
        rw[hig]at hbw;refine NS.holds_stable (hst' k) (hkn k hk ?_) hbw;rw[hlq]at hal;simpa [Ne.symm eg] using hal
      refine NS.holds_congr (x:=x) (fun j hj=>?_) hst1;have hji:j≠i:=by
       rcases hj with rfl | hj
       ·exact e
       ·rintro rfl;have:=hcl k hk j hj;rw[hli]at this;cases this
      simp[Gh.set,hji]
     ·exact absurd hk e
   ·rw[hlq]at hk;simp only[Bool.or_eq_true,beq_iff_eq]at hk;by_cases e:k=i
    ·subst e;simp only[Gh.set,if_true];exact⟨hb.size,hbw0.size,l_ _⟩
    ·have:=hiv k (hk.resolve_right e);have:=hbw0.size;simp only[Gh.set,if_neg e];omega
   ·rw[hlq]at hk hj;simp only[Bool.or_eq_true,beq_iff_eq]at hk hj;by_cases e:k=i
    ·subst e;have:=hiv j (hj.resolve_right (Ne.symm hkj));simp only[Gh.set,if_true,if_neg (Ne.symm hkj)];exact .inr (by omega)
    ·by_cases e':j=i
     ·subst e';have:=hiv k (hk.resolve_right e);simp only[Gh.set,if_true,if_neg e];exact .inl (by omega)
     ·simp only[Gh.set,if_neg e,if_neg e'];exact hdj k j (hk.resolve_right e) (hj.resolve_right e') hkj
def a3X (P:Program) (ops:Array Oper) (sp:List NS) (D N:List (List Nat)) (g:Nat) (a0:Act) (w0:World):Nat→List Oper→Prop
 | _,[]=>True
 | i,o :: l=>b0J P ops sp D N g a0 w0 i o∧a3X P ops sp D N g a0 w0 (i+1) l
theorem G2_ {ops:Array Oper} {sp:List NS} {D N:List (List Nat)} {g:Nat} {a0:Act} {w0:World}:∀ (l:List Oper) (k:Nat),a3X P ops sp D N g a0 w0 k l→∀ j o,l[j]?=some o→b0J P ops sp D N g a0 w0 (k+j) o
 | [],_,_,_,_,h=>by simp at h
 | x :: l,k,h,0,o,hj=>by
  simp at hj;subst hj;exact h.1
 | x :: l,k,h,j+1,o,hj=>by
  have:=G2_ l (k+1) h.2 j o (by simpa using hj);rwa[show k+1+j=k+(j+1) by omega]at this
def f6J (sp:List NS) (D:List (List Nat)) (g:Nat):List Nat→Prop
 | []=>True
 | i :: l=>(i=g∨(D.getD i []).contains g=true∨∃ u,sp.getD i (.eq undef) = .eq u)∧f6J sp D g l
theorem P6_ {sp:List NS} {D:List (List Nat)} {g:Nat}:∀ {l:List Nat},f6J sp D g l→∀ i,i∈l→i=g∨g∈D.getD i []∨∃ u,sp.getD i (.eq undef) = .eq u
 | [],_,i,hi=>by simp at hi
 | a :: l,h,i,hi=>by
  rcases List.mem_cons.1 hi with rfl | hi
  ·rcases h.1 with h | h | h
   ·exact .inl h
   ·exact .inr (.inl (by simpa using h))
   ·exact .inr (.inr h)
  ·exact P6_ h.2 i hi
theorem y8_ {id:Nat} {l:List Oper} {w:World} (hmo:P.follows .mixedOrders=true) (sp:List NS) (D N:List (List Nat)) (E:List Nat) (m g:Nat) (hB:netB l.toArray D m=true) (hgm:(decide (g<m) && (List.range m).all fun i=>(N.getD i []).all fun j=>(D.getD i []).contains j && (i == g || (D.getD g []).contains i || E.contains j))=true) (hE:f6J sp D g E) (hst:t9_ sp)
  (hdo:a3X P l.toArray sp D N g a0 w 0 (l.take m))
  (hend:∀ x w',Below w.heap.size w w'→(∀ i,i<m→E.contains i=true→k1_ sp D x i w')→(∀ i,i<m→w.heap.size≤x.lo i∧x.lo i≤x.hi i∧x.hi i≤w'.heap.size)→(∀ i j,i<m→j<m→i≠j→x.hi i≤x.lo j∨x.hi j≤x.lo i)→wpList P l.toArray Q (l.drop m) (c5_ l.toArray a0 x.v m) w'):(Code.region id l.toArray true).wp P Q a0 w:=by
 replace hst:=k6_ hst;have hdo:∀ i o,i<m→l[i]?=some o→b0J P l.toArray sp D N g a0 w.drew i o:=fun i o hi ho=>by
  have:=G2_ (l.take m) 0 hdo i o (by rw[List.getElem?_take,if_pos hi];exact ho);rw[Nat.zero_add]at this;exact fun v w1 hb=>this v w1 ⟨hb.os,hb.tape,hb.output,hb.size,hb.block⟩
 simp only[l9_,decide_eq_true_eq,List.all_eq_true,List.mem_range,Bool.or_eq_true,List.contains_iff_mem,beq_iff_eq]at hgm;refine wp_region_any hmo ?_;have h:=d6z (w0:=w.drew) (a0:=a0) (Q:=Q) (P:=P) (sp:=sp) (E:=fun i=>E.contains i) (N:=N) (g:=g) hB hst hgm.1 (fun i hi=>P6_ hE i (by simpa using hi)) (fun i hi j hj=>by obtain⟨h1,h2⟩:=hgm.2 i hi j hj;exact⟨h1,h2.elim (fun h2=>h2.elim .inl (fun h2 => .inr (.inl h2))) (fun h2 => .inr (.inr (by simpa using h2)))⟩) (fun i o hi ho=>hdo i o hi (by simpa using ho)) (fun x w' hb hk hiv hdj=>by simpa using hend x w' (show Below w.heap.size w w' from ⟨hb.os,hb.tape,hb.output,hb.size,hb.block⟩) hk hiv hdj)
  l.toArray.size (Array.replicate l.toArray.size false) ⟨fun _=>undef,fun _=>0,fun _=>0⟩ w.drew
  (by rw[List.filter_eq_self.2 (fun j _=>by rw[b3_];rfl),List.length_range])
  (by simp) (fun j _=>b3_ _ _)
  (fun i hi=>by rw[b3_]at hi;cases hi)
  br_
  (fun i hi=>by rw[b3_]at hi;cases hi)
  (fun i hi=>by rw[b3_]at hi;cases hi)
  (fun i j hi=>by rw[b3_]at hi;cases hi)
 have e:actP l.toArray a0 (fun _=>undef) (fun j=>(Array.replicate l.toArray.size false).getD j false) l.toArray.size=a0 :=
  f5_ l.toArray.size 0 (by omega) (fun j _ _=>b3_ _ _)
 rw[e]at h;exact h
end
end
def s2_ (k:Nat):List Int:=(List.range k).map fun i:Nat=>(i:Int)
def v0_ (k:Nat):List Int:=(List.range k).map fun i:Nat=>(i:Int)+1
theorem b5Q (k:Nat):s2_ (k+1)=s2_ k ++ [(k:Int)]:=by simp[s2_,List.range_succ]
theorem b5Z (k:Nat):v0_ (k+1)=v0_ k ++ [(k:Int)+1]:=by simp[v0_,List.range_succ]
theorem x0_ {w:World} {lo hi:Nat}:Fam w lo hi [(.slice none 0 0,[]),(.slice none 0 0,[])]:=by
 refine⟨fun p hp=>?_,?_⟩
 ·simp only[List.mem_cons,List.not_mem_nil,or_false,or_self]at hp;subst hp;exact⟨OwnI.nil _ _,fun k hk=>by simp[Value.ownBlock]at hk⟩
 ·simp[Value.ownBlock]
theorem X2_ (w:World) {lo:Nat} (h:lo≤w.heap.size):Fam ((w.alloc (.cells #[] 3)).alloc (.cells #[] 3)) lo (w.heap.size+1+1) [(.slice (some ⟨w.heap.size,0,none⟩) 0 0,[]),(.slice (some ⟨w.heap.size+1,0,none⟩) 0 0,[])]:=by
 refine b9J (mi:=w.heap.size+1) ⟨(OwnI.made _ rfl h).alloc _,fun k hk=>by simp[Value.ownBlock]at hk;omega⟩ ⟨?_,fun k hk=>by simp[Value.ownBlock]at hk;omega⟩ (by omega) (by omega);have:=OwnI.made (w:=w.alloc (.cells #[] 3)) (base:=w.heap.size+1) _ rfl (by simp);simpa only[l3_] using this
def m4_ (n:Int):Qv:=if inR n 1 5 then ⟨n,s2_ (n-1).toNat,v0_ (n-1).toNat⟩ else ⟨0,[],[]⟩
theorem d5q {w w1:World} {gq:Nat} {N x:Int} {A C:Option Addr} {n n' c d:Nat} {l l':List Int} (hgq:w.heap.size<gq) (hb1:Below w.heap.size w w1) (hF1:Fam w1 w.heap.size w1.heap.size [(.slice A n c,l),(.slice C n' d,l')])
  {V V':Value} (hq1:Blk w1 gq 26 #[.int .i64 N,V,V']) (hr1:Blk w1 w.heap.size 26 #[.int .i64 0,.slice none 0 0,.slice none 0 0]) :
  let W:=(w1.setCell ⟨gq,1,none⟩ (.slice A n c)).alloc (.cells #[.int .i64 x] 3)
  Below w.heap.size w W∧Fam W w.heap.size w1.heap.size [(.slice A n c,l),(.slice C n' d,l')]∧Blk W gq 26 #[.int .i64 N,.slice A n c,V']∧Blk W w.heap.size 26 #[.int .i64 0,.slice none 0 0,.slice none 0 0]∧OwnI W w.heap.size (.slice C n' d) l':=by
 intro W;have hF2:Fam W w.heap.size w1.heap.size [(.slice A n c,l),(.slice C n' d,l')]:=(hF1.setBlk (i:=1) hq1 (by decide) (.slice A n c)).below (a0_ _ _);refine⟨(hb1.setCell (by simp;omega) _).alloc (by have:=hb1.size;simpa using this) _,hF2,(hq1.set_ 1 _).alloc _,(hr1.far (by simp;omega) _).alloc _,(hF2.1 (_,l') (by simp)).1⟩
theorem o3_ (n:Int) (w:World) (_:I64 n) :
  Calls Tryz.prog 91 #[.int .i64 n] w fun e w'=>∃ v,e = .returned (.tuple #[v,.bool (inR n 1 5)])∧i7_ w' w.heap.size w'.heap.size v (m4_ n)∧Below w.heap.size w w':=by
 rcases hin:inR n 1 5 with _ | _
 ·have e1:m4_ n=⟨0,[],[]⟩:=by simp[m4_,hin]
  rw[e1];clear e1;go_enter Tryz.func91,Tryz.ntmps91
  go_wp2_with (go_at_call 61;refine (b7_ _ _ _ _).mono ?_;rintro e w' ⟨rfl,rfl⟩;rw[hin])
  exact bodyPost_ret (v:=.tuple #[.agg #[.int .i64 0,.slice none 0 0,.slice none 0 0],.bool false]) (by simp[results,go_sem]) rfl ⟨_,rfl,⟨_,_,rfl,x0_,⟨by decide,by decide⟩⟩,a0_ _ _⟩
 ·have hb:=j1_.1 hin;obtain⟨m,rfl⟩:∃ m:Nat,n=(m:Int)+1:=⟨(n-1).toNat,by omega⟩;have e1:m4_ ((m:Int)+1)=⟨(m:Int)+1,s2_ m,v0_ m⟩:=by simp[m4_,hin]
  rw[e1];clear e1;go_enter Tryz.func91,Tryz.ntmps91
  go_wp2_with (go_at_call 61;refine (b7_ _ _ _ _).mono ?_;rintro e w' ⟨rfl,rfl⟩;rw[hin])
  go_loopw [14] (fun i wr=>∃ (k:Nat) (a b:Value),k≤m∧i = .int .i64 k∧Below w.heap.size w wr∧Blk wr w.heap.size 26 #[.int .i64 0,.slice none 0 0,.slice none 0 0]∧Blk wr (w.heap.size+1) 26 #[.int .i64 ((m:Int)+1),a,b] ∧
   Fam wr w.heap.size wr.heap.size [(a,s2_ k),(b,v0_ k)]) (fun i _=>m-(intOf i).toNat)
  case atStart =>
   refine⟨0,.slice none 0 0,.slice none 0 0,l0_ _,rfl,((Below.refl _ _).alloc (l_ _) _).alloc (by simp) _,(Blk.new _ _ _).alloc _,?_,?_⟩
   ·have:=Blk.new (w.alloc (.cells #[.int .i64 0,.slice none 0 0,.slice none 0 0] 26)) 26 #[.int .i64 ((m:Int)+1),.slice none 0 0,.slice none 0 0];simpa only[l3_] using this
   ·exact x0_
  case round =>
   obtain⟨k,a,b,hk,rfl,hbel,hbr,hbq,hF⟩:=hrel;by_cases hlt:k<m
   ·have fa:OwnI wr w.heap.size a (s2_ k):=(hF.1 (a,s2_ k) (by simp)).1;have fb:OwnI wr w.heap.size b (v0_ k):=(hF.1 (b,v0_ k) (by simp)).1;obtain⟨A,c,rfl,_,_⟩:=fa.form;obtain⟨C,d,rfl,_,_⟩:=fb.form;have q1:=hbq.cell' (i:=1) rfl;have hs:=hbel.size;have lF:(s2_ k).length=k:=by simp[s2_]
    have lT:(v0_ k).length=k:=by simp[v0_]
    have g0:=a0_ wr (.cells #[.int .i64 (k:Int)] 3);have hF0:=hF.below g0;have hq0:=hbq.call g0;have hr0:=hbr.call g0;have fa0:OwnI (wr.alloc (.cells #[.int .i64 (k:Int)] 3)) w.heap.size (.slice A (s2_ k).length c) (s2_ k):=fa.alloc _;have hne0:=fa0.blkne hq0 (by decide);have hne0':=fa0.blkne hr0 (by decide);have hb0:=hbel.trans (g0.mono hs);have HL:=h_ (And.intro lF lT);clear lF lT
    (go_wp2_with (at_builtin;refine Hold.stop ?_));unfold Hold
    refine d7_ rfl (.tmp 18) (.tmp 20) rfl w.heap.size _ (.slice A (s2_ k).length c) (s2_ k) rfl fa0 _ _ _ [(k:Int)] rfl rfl (SlI.one wr _ k ⟨by omega,by omega⟩) (by have:=HL.out;simp;omega) (by simp;omega) ?_;intro v1 w1 ho1 hg1 hv1;rw[←b5Q]at ho1;have hF1:=hF0.app (w':=w1) (L1:=[]) (by have:=hg1.size;simp at this;omega) ho1 hg1 hv1;obtain⟨A1,c1,rfl,_,_⟩:=ho1.form;have hq1:=hq0.grown hg1 hne0;have hr1:=hr0.grown hg1 hne0';have hb1:=hb0.grown hg1 (by simp;omega) (fun j hj=>(fa0.lt j hj).1);have y1:=hq1.cell' (i:=1) rfl;have y2:=hq1.cell' (i:=2) rfl;have fy:=hq1.frozen;clear hg1 hv1 hF0 hq0 hr0 hne0 hne0' hb0 fa fb fa0 q1 hF hbq hbr g0 ho1
    (go_wp2_with (at_builtin;refine Hold.stop ?_));unfold Hold
    obtain⟨hb2,hF2,hq2,hr2,fb2⟩:=d5q (x:=(k:Int)+1) (by omega) hb1 hF1 hq1 hr1;refine d7_ rfl (.tmp 24) (.tmp 27) rfl w.heap.size _ (.slice C (v0_ k).length d) (v0_ k) rfl fb2 _ _ _ [(k:Int)+1] rfl rfl (SlI.one' _ _ ((k:Int)+1) ⟨by omega,by omega⟩ (by simp)) (by have:=HL.out;simp;omega) (by have:=hb1.size;simp;omega) ?_;intro v2 w2 ho2 hg2 hv2;rw[←b5Z]at ho2;have hF3:=hF2.app (w':=w2) (L1:=[(_,s2_ (k+1))]) (by have:=hg2.size;simp at this;omega) ho2 hg2 hv2;obtain⟨C1,d1,rfl,_,_⟩:=ho2.form;have hq3:=hq2.grown hg2 (fb2.blkne hq2 (by decide));have hr3:=hr2.grown hg2 (fb2.blkne hr2 (by decide));have hb3:=hb2.grown hg2 hb2.size (fun j hj=>(fb2.lt j hj).1);have z2:=hq3.cell' (i:=2) rfl;have fz:=hq3.frozen;clear y1 y2 fy hb1 hF1 hq1 hr1 hb2 hF2 hq2 hr2 fb2 ho2 hg2 hv2 hbel;go_wp2;go_roundw
    case rel=>exact⟨k+1,_,_,by omega,by go_num,hb3.setCell (by simp) _,hr3.far (by simp) _,hq3.set_ 2 _,(hF3.setBlk hq3 (by decide) _).mono (l_ _) (by simp)⟩
    case measure=>simp[intOf];omega
   ·obtain rfl:k=m:=by omega
    have fa:OwnI wr w.heap.size a (s2_ k):=(hF.1 (a,s2_ k) (by simp)).1;have fb:OwnI wr w.heap.size b (v0_ k):=(hF.1 (b,v0_ k) (by simp)).1;obtain⟨A,c,rfl,_,_⟩:=fa.form;obtain⟨C,d,rfl,_,_⟩:=fb.form;obtain⟨q0,q1,q2⟩:=c_3 hbq;obtain⟨r0,r1,r2⟩:=c_3 hbr;have fr:=hbr.frozen;go_wp2;refine bodyPost_ret (v:=.tuple #[.agg #[.int .i64 ((k:Int)+1),.slice A (s2_ k).length c,.slice C (v0_ k).length d],.bool true]) (by simp[results,go_sem,r0,r1,r2]) rfl ⟨_,rfl,⟨_,_,rfl,?_,⟨by simp only;omega,by simp only;omega⟩⟩,?_⟩
    ·have h1:=hF.setBlk (i:=0) hbr (by decide) (.int .i64 ((k:Int)+1));have h2:=h1.setBlk (i:=1) (hbr.set_ 0 _) (by decide) (.slice A (s2_ k).length c);have h3:=h2.setBlk (i:=2) ((hbr.set_ 0 _).set_ 1 _) (by decide) (.slice C (v0_ k).length d);simpa using h3
    ·exact ((hbel.setCell (by simp) _).setCell (by simp) _).setCell (by simp) _
theorem n7_ (u v:Value) (xs ys:List Int) (w:World) (hu:SlI w w.heap.size u xs) (hv:SlI w w.heap.size v ys) :
  Calls Tryz.prog 95 #[u,v] w fun e w'=>e = .returned (.bool (decide (xs=ys)))∧Below w.heap.size w w':=by
 obtain⟨A,c,rfl,_,_,hn,hx⟩:=hu.open_;obtain⟨C,d,rfl,_,_,hm,hy⟩:=hv.open_;clear hu hv;by_cases hnm:xs.length=ys.length
 ·have heq:((xs.length:Int) != ys.length)=false:=by rw[bne_eq_false_iff_eq];omega
  have HN:=h_ hnm;clear hnm;go_enter Tryz.func95,Tryz.ntmps95
  go_wp2;go_loopw [5,13] (fun _ i wr=>∃ k q:Nat,k≤xs.length∧i = .int .i64 k∧wr=w.drewN q∧Hid (xs.take k=ys.take k)) (fun _ i _=>xs.length-(intOf i).toNat)
  case atStart=>exact⟨0,0,l0_ _,rfl,rfl,rfl⟩
  case round =>
   obtain⟨k,q,hk,rfl,rfl,hxy⟩:=hrel;by_cases hlt:k<xs.length
   ·have hlt':k<ys.length:=by have:=HN.out;omega
    obtain⟨b,o,x,rfl,hb,HX,c1,_⟩:=SlI.at_ hx hlt;obtain⟨b',o',x',rfl,hb',HX',c1',_⟩:=SlI.at_ hy hlt';clear hx hy;by_cases hE:x=x'
    ·subst hE;go_wp2;go_quiet (fail)
     go_wp2;go_roundw
     case rel =>
      refine⟨k+1,q+nq,by omega,by go_num,rfl,?_⟩;show _=_;rw[c6_ HX.out,c6_ HX'.out,hxy.out]
     case measure=>simp[intOf];omega
    ·have hne:(x != x')=true:=by simpa using hE
     have hxy':Hid (xs≠ys):=by
      rintro rfl;have h2:=HX.out;rw[HX'.out]at h2;exact hE (by injection h2 with h2;exact h2.symm)
     clear hE;go_wp2;go_quiet (fail)
     go_wp2;go_ret
     exact⟨by rw[decide_eq_false hxy'.out];rfl,d2_ (d5_ _ _ _) _⟩
   ·go_wp2;go_ret
    refine⟨?_,d5_ _ _ _⟩;have h1:=hxy.out;rw[l7_ (by omega),l7_ (by have:=HN.out;omega)]at h1;simp[h1]
 ·have hne:((xs.length:Int) != ys.length)=true:=by rw[bne_iff_ne];omega
  go_enter Tryz.func95,Tryz.ntmps95
  go_wp2;go_ret
  refine⟨?_,Below.refl _ _⟩;rw[decide_eq_false (by rintro rfl;omega)];rfl
theorem x4_ (u v:Value) (xs ys:List Int) (w:World) (hu:SlI w w.heap.size u xs) (hv:SlI w w.heap.size v ys) :
  Calls Tryz.prog 59 #[u,v] w fun e w'=>e = .returned (.bool (decide (xs=ys)))∧Below w.heap.size w w':=by
 obtain⟨A,c,rfl,_,_,hn,hx⟩:=hu.open_;obtain⟨C,d,rfl,_,_,hm,hy⟩:=hv.open_;clear hu hv;by_cases hnm:xs.length=ys.length
 ·have heq:((xs.length:Int) != ys.length)=false:=by rw[bne_eq_false_iff_eq];omega
  have HN:=h_ hnm;clear hnm;go_enter Tryz.func59,Tryz.ntmps59
  go_wp2;go_loopw [5] (fun i wr=>∃ k q:Nat,k≤xs.length∧i = .int .i64 k∧wr=w.drewN q∧Hid (xs.take k=ys.take k)) (fun i _=>xs.length-(intOf i).toNat)
  case atStart=>exact⟨0,0,l0_ _,rfl,rfl,rfl⟩
  case round =>
   obtain⟨k,q,hk,rfl,rfl,hxy⟩:=hrel;by_cases hlt:k<xs.length
   ·have hlt':k<ys.length:=by have:=HN.out;omega
    obtain⟨b,o,x,rfl,hb,HX,c1,_⟩:=SlI.at_ hx hlt;obtain⟨b',o',x',rfl,hb',HX',c1',_⟩:=SlI.at_ hy hlt';clear hx hy;by_cases hE:x=x'
    ·subst hE;go_wp2;go_quiet (fail)
     go_wp2;go_roundw
     case rel =>
      refine⟨k+1,q+nq,by omega,by go_num,rfl,?_⟩;show _=_;rw[c6_ HX.out,c6_ HX'.out,hxy.out]
     case measure=>simp[intOf];omega
    ·have hne:(x != x')=true:=by simpa using hE
     have hxy':Hid (xs≠ys):=by
      rintro rfl;have h2:=HX.out;rw[HX'.out]at h2;exact hE (by injection h2 with h2;exact h2.symm)
     clear hE;go_wp2;go_quiet (fail)
     go_wp2;go_ret
     exact⟨by rw[decide_eq_false hxy'.out];rfl,d2_ (d5_ _ _ _) _⟩
   ·go_wp2;go_ret
    refine⟨?_,d5_ _ _ _⟩;have h1:=hxy.out;rw[l7_ (by omega),l7_ (by have:=HN.out;omega)]at h1;simp[h1]
 ·have hne:((xs.length:Int) != ys.length)=true:=by rw[bne_iff_ne];omega
  go_enter Tryz.func59,Tryz.ntmps59
  go_wp2;go_ret
  refine⟨?_,Below.refl _ _⟩;rw[decide_eq_false (by rintro rfl;omega)];rfl
theorem y1_ (u v:Value) (p q:Qv) (w:World) (hu:QvR w w.heap.size u p) (hv:QvR w w.heap.size v q) :
  Calls Tryz.prog 94 #[u,v] w fun e w'=>e = .returned (.bool (decide (p=q)))∧Below w.heap.size w w':=by
 obtain⟨A,c,C,d,rfl,hf,ht,_,_,_⟩:=hu.open_;obtain⟨A',c',C',d',rfl,hf',ht',_,_,_⟩:=hv.open_;clear hu hv;obtain⟨W,hW,g0,k1,k2⟩:=b_4 w #[.int .i64 p.v,.slice A p.f.length c,.slice C p.t.length d] 26 #[.int .i64 q.v,.slice A' q.f.length c',.slice C' q.t.length d'] 26;replace hf:=SlI.next g0 hf;replace hf':=SlI.next g0 hf';replace ht:=SlI.next g0 ht;replace ht':=SlI.next g0 ht';by_cases h1:p.v=q.v
 ·have e1:(p.v == q.v)=true:=by rw[h1];simp
  have H1:=h_ h1;clear h1;by_cases h2:p.f=q.f
  ·have e2:decide (p.f=q.f)=true:=by simpa using h2
   have H2:=h_ h2;clear h2;obtain⟨B,hB⟩:=e_ (decide (p.t=q.t));have HB:=h_ hB;have hfin:decide (p=q)=B:=by
    rw[←hB,decide_eq_decide,Q5_];exact⟨fun h=>h.2.2,fun h=>⟨H1.out,H2.out,h⟩⟩
   rw[hfin];clear hfin hB;go_enter Tryz.func94,Tryz.ntmps94
   go_wp2_with fail
   rw[←hW];clear hW;refine (n7_ _ _ _ _ _ hf hf').mono ?_;rintro e w1 ⟨rfl,hb1⟩;clear hf hf';replace g0:=b0_ g0 hb1;replace ht:=SlI.next hb1 ht;replace ht':=SlI.next hb1 ht';replace k1:=k1.call hb1;replace c0:=k1.cell' (i:=0) rfl;replace c1:=k1.cell' (i:=1) rfl;replace c2:=k1.cell' (i:=2) rfl;replace k2:=k2.call hb1;replace d0:=k2.cell' (i:=0) rfl;replace d1:=k2.cell' (i:=1) rfl;replace d2:=k2.cell' (i:=2) rfl;clear hb1;go_wp2_with fail
   refine (n7_ _ _ _ _ _ ht ht').mono ?_;rintro e w_1 ⟨rfl,hb_1⟩;replace g0:=b0_ g0 hb_1;replace ht:=SlI.next hb_1 ht;replace ht':=SlI.next hb_1 ht';replace k1:=k1.call hb_1;replace c0:=k1.cell' (i:=0) rfl;replace c1:=k1.cell' (i:=1) rfl;replace c2:=k1.cell' (i:=2) rfl;replace k2:=k2.call hb_1;replace d0:=k2.cell' (i:=0) rfl;replace d1:=k2.cell' (i:=1) rfl;replace d2:=k2.cell' (i:=2) rfl;rw[HB.out];clear ht ht' k1 k2;go_wp2;go_ret
   exact⟨rfl,g0⟩
  ·have e2:decide (p.f=q.f)=false:=by simpa using h2
   have hfin:decide (p=q)=false:=by
    simp only[decide_eq_false_iff_not,Q5_];exact fun h=>h2 h.2.1
   rw[hfin];clear hfin h2;go_enter Tryz.func94,Tryz.ntmps94
   go_wp2_with fail
   rw[←hW];clear hW;refine (n7_ _ _ _ _ _ hf hf').mono ?_;rintro e w1 ⟨rfl,hb1⟩;go_wp2;go_ret
   exact⟨rfl,b0_ g0 hb1⟩
 ·have e1:(p.v == q.v)=false:=by simpa using h1
  have hfin:decide (p=q)=false:=by
   simp only[decide_eq_false_iff_not,Q5_];exact fun h=>h1 h.1
  rw[hfin];clear hfin h1;go_enter Tryz.func94,Tryz.ntmps94
  go_wp2;rw[←hW];go_ret
  exact⟨rfl,g0⟩
theorem p2_ (u v:Value) (p q:Qv) (w:World) (hu:QvR w w.heap.size u p) (hv:QvR w w.heap.size v q) :
  Calls Tryz.prog 58 #[u,v] w fun e w'=>e = .returned (.bool (decide (p=q)))∧Below w.heap.size w w':=by
 obtain⟨A,c,C,d,rfl,hf,ht,_,_,_⟩:=hu.open_;obtain⟨A',c',C',d',rfl,hf',ht',_,_,_⟩:=hv.open_;clear hu hv;obtain⟨W,hW,g0,k1,k2⟩:=b_4 w #[.int .i64 p.v,.slice A p.f.length c,.slice C p.t.length d] 26 #[.int .i64 q.v,.slice A' q.f.length c',.slice C' q.t.length d'] 26;replace hf:=SlI.next g0 hf;replace hf':=SlI.next g0 hf';replace ht:=SlI.next g0 ht;replace ht':=SlI.next g0 ht';by_cases h1:p.v=q.v
 ·have e1:(p.v == q.v)=true:=by rw[h1];simp
  have H1:=h_ h1;clear h1;by_cases h2:p.f=q.f
  ·have e2:decide (p.f=q.f)=true:=by simpa using h2
   have H2:=h_ h2;clear h2;obtain⟨B,hB⟩:=e_ (decide (p.t=q.t));have HB:=h_ hB;have hfin:decide (p=q)=B:=by
    rw[←hB,decide_eq_decide,Q5_];exact⟨fun h=>h.2.2,fun h=>⟨H1.out,H2.out,h⟩⟩
   rw[hfin];clear hfin hB;go_enter Tryz.func58,Tryz.ntmps58
   go_wp2_with fail
   rw[←hW];clear hW;refine (x4_ _ _ _ _ _ hf hf').mono ?_;rintro e w1 ⟨rfl,hb1⟩;clear hf hf';replace g0:=b0_ g0 hb1;replace ht:=SlI.next hb1 ht;replace ht':=SlI.next hb1 ht';replace k1:=k1.call hb1;replace c0:=k1.cell' (i:=0) rfl;replace c1:=k1.cell' (i:=1) rfl;replace c2:=k1.cell' (i:=2) rfl;replace k2:=k2.call hb1;replace d0:=k2.cell' (i:=0) rfl;replace d1:=k2.cell' (i:=1) rfl;replace d2:=k2.cell' (i:=2) rfl;clear hb1;go_wp2_with fail
   refine (x4_ _ _ _ _ _ ht ht').mono ?_;rintro e w_2 ⟨rfl,hb_2⟩;replace g0:=b0_ g0 hb_2;replace ht:=SlI.next hb_2 ht;replace ht':=SlI.next hb_2 ht';replace k1:=k1.call hb_2;replace c0:=k1.cell' (i:=0) rfl;replace c1:=k1.cell' (i:=1) rfl;replace c2:=k1.cell' (i:=2) rfl;replace k2:=k2.call hb_2;replace d0:=k2.cell' (i:=0) rfl;replace d1:=k2.cell' (i:=1) rfl;replace d2:=k2.cell' (i:=2) rfl;rw[HB.out];clear ht ht' k1 k2;go_wp2;go_ret
   exact⟨rfl,g0⟩
  ·have e2:decide (p.f=q.f)=false:=by simpa using h2
   have hfin:decide (p=q)=false:=by
    simp only[decide_eq_false_iff_not,Q5_];exact fun h=>h2 h.2.1
   rw[hfin];clear hfin h2;go_enter Tryz.func58,Tryz.ntmps58
   go_wp2_with fail
   rw[←hW];clear hW;refine (x4_ _ _ _ _ _ hf hf').mono ?_;rintro e w1 ⟨rfl,hb1⟩;go_wp2;go_ret
   exact⟨rfl,b0_ g0 hb1⟩
 ·have e1:(p.v == q.v)=false:=by simpa using h1
  have hfin:decide (p=q)=false:=by
   simp only[decide_eq_false_iff_not,Q5_];exact fun h=>h1 h.1
  rw[hfin];clear hfin h1;go_enter Tryz.func58,Tryz.ntmps58
  go_wp2;rw[←hW];go_ret
  exact⟨rfl,g0⟩
theorem c4z (ua ub:Value) (x y:Rp) (w0:World) (ha:RpR w0 w0.heap.size ua x) (hb:RpR w0 w0.heap.size ub y) (hx:m9_ x=true) (hy:m9_ y=true) (hp:x.p=y.p) (hq:x.q=y.q) :
  Calls Tryz.prog 105 #[ua,ub] w0 fun e w'=>e = .returned (.bool true)∧Below w0.heap.size w0 w':=by
 have ha':=ha;have hb':=hb;obtain⟨A,a,C,c,Ea,ea,Ha,ha_,rfl,hqa,_,_,_,_,_⟩:=ha.open_;obtain⟨A2,a2,C2,c2,Eb,eb,Hb,hb_,rfl,hqb,_,_,_,_,_⟩:=hb.open_;clear ha hb;obtain⟨W,hW,g0,k1,k2⟩:=b_4 w0 #[.int .i64 x.p,.int .i64 x.q.v,.slice A x.q.f.length a,.slice C x.q.t.length c,.slice Ea x.d.length ea,.slice Ha x.m.length ha_] 29 #[.int .i64 y.p,.int .i64 y.q.v,.slice A2 y.q.f.length a2,.slice C2 y.q.t.length c2,.slice Eb y.d.length eb,.slice Hb y.m.length hb_] 29;have HXA:=h_ (RpR.next g0 ha');have HXB:=h_ (RpR.next g0 hb');have HQA:=h_ (QvR.next g0 hqa);have HQB:=h_ (QvR.next g0 hqb);have HX:=h_ hx;have HY:=h_ hy;have HQ:=h_ (show decide (x.q=y.q)=true by simpa using hq);have e1:(x.p == y.p)=true:=by simpa using hp
 clear ha' hb' hqa hqb hx hy hq hp;go_enter Tryz.func105,Tryz.ntmps105
 go_wp2_with fail
 rw[←hW];clear hW;refine (k4_ _ x _ HXA.out).mono ?_;rintro e w1 ⟨rfl,hb1⟩;rw[HX.out];have gW:=hb1;replace g0:=b0_ g0 hb1;replace k1:=k1.call hb1;replace c0:=k1.cell' (i:=0) rfl;replace c1:=k1.cell' (i:=1) rfl;replace c2:=k1.cell' (i:=2) rfl;replace c3:=k1.cell' (i:=3) rfl;replace c4:=k1.cell' (i:=4) rfl;replace c5:=k1.cell' (i:=5) rfl;replace k2:=k2.call hb1;replace d0:=k2.cell' (i:=0) rfl;replace d1:=k2.cell' (i:=1) rfl;replace d2:=k2.cell' (i:=2) rfl;replace d3:=k2.cell' (i:=3) rfl;replace d4:=k2.cell' (i:=4) rfl;replace d5:=k2.cell' (i:=5) rfl;go_wp2_with fail
 refine (k4_ _ y _ (RpR.next gW HXB.out)).mono ?_;rintro e w2 ⟨rfl,hb2⟩;rw[HY.out];have gW2:=gW.trans (hb2.mono gW.size);replace g0:=b0_ g0 hb2;replace k1:=k1.call hb2;replace c0:=k1.cell' (i:=0) rfl;replace c1:=k1.cell' (i:=1) rfl;replace c2:=k1.cell' (i:=2) rfl;replace c3:=k1.cell' (i:=3) rfl;replace c4:=k1.cell' (i:=4) rfl;replace c5:=k1.cell' (i:=5) rfl;replace k2:=k2.call hb2;replace d0:=k2.cell' (i:=0) rfl;replace d1:=k2.cell' (i:=1) rfl;replace d2:=k2.cell' (i:=2) rfl;replace d3:=k2.cell' (i:=3) rfl;replace d4:=k2.cell' (i:=4) rfl;replace d5:=k2.cell' (i:=5) rfl;go_wp2_with fail
 refine (p2_ _ _ x.q y.q _ (QvR.next gW2 HQA.out) (QvR.next gW2 HQB.out)).mono ?_;rintro e w3 ⟨rfl,hb3⟩;rw[HQ.out];replace g0:=b0_ g0 hb3;clear k1 k2;go_wp2;go_ret
 exact⟨rfl,g0⟩
def RY (w:World) (_B b o:Nat) (x:Int):Prop:=w.cell? ⟨b,o,none⟩=some (.int .u8 x)∧0≤x∧x≤255
abbrev SlY:=SlG 1 RY
theorem SlY.below {w w':World} {B:Nat} {v:Value} {l:List Int} (hb:Below B w w') (h:SlY w B v l):SlY w' B v l :=
 SlG.mono (fun _ _ _ hlt ⟨hc,hx⟩=>⟨a4_ hb hlt hc,hx⟩) (l_ _) h
theorem SlY.more {w:World} {B B':Nat} {v:Value} {l:List Int} (hB:B≤B') (h:SlY w B v l):SlY w B' v l :=
 SlG.mono (B:=B) (B':=B') (fun _ _ _ _ h=>h) hB h
theorem SlY.next {w w':World} {v:Value} {l:List Int} (hb:Below w.heap.size w w') (h:SlY w w.heap.size v l):SlY w' w'.heap.size v l:=SlY.more hb.size (SlY.below hb h)
theorem SlY.at_ {w:World} {B c:Nat} {A:Option Addr} {xs:List Int} {k:Nat} (h:SlY w B (.slice A xs.length c) xs) (hk:k<xs.length) :
  ∃ b o x,A=some ⟨b,o,none⟩∧b<B∧w.cell? ⟨b,o+k,none⟩=some (.int .u8 x)∧0≤x∧x≤255:=by
 obtain⟨A',c',e,h1,h2,h3,h4⟩:=h;injection e with e1 e2 e3;subst e1
 obtain⟨b,o,rfl,hb,hc⟩:=h4 (by omega);obtain⟨h0,hr⟩:=hc k xs[k] (l2_ hk);exact⟨b,o,xs[k],rfl,hb,by simpa using h0,hr.1,hr.2⟩
def Cur (w:World) (g:Nat):Prop:=∃ (A:Option Addr) (c:Nat) (i h:Int) (l:List Int),Blk w g 95 #[.slice A l.length c,.int .i64 i,.int .i64 h]∧I64 h∧(0≤i∧i≤9223372036854775807)∧SlY w g (.slice A l.length c) l
structure Ck (c:Nat) (w w':World):Prop where
 os:w'.os=w.os
 tape:w'.tape=w.tape
 output:w'.output=w.output
 size:w.heap.size≤w'.heap.size
 block:∀ k,k<w.heap.size→k≠c→w'.heap[k]?=w.heap[k]?
 keep:Cur w c→Cur w' c
section
variable {c:Nat} {w w' w'':World}
theorem Ck.refl (c:Nat) (w:World):Ck c w w:=⟨rfl,rfl,rfl,l_ _,fun _ _ _=>rfl,id⟩
theorem Ck.trans (h:Ck c w w') (k:Ck c w' w''):Ck c w w'' :=
 ⟨k.os.trans h.os,k.tape.trans h.tape,k.output.trans h.output,Nat.le_trans h.size k.size,fun i hi hne=>(k.block i (Nat.lt_of_lt_of_le hi h.size) hne).trans (h.block i hi hne),fun h0=>k.keep (h.keep h0)⟩
theorem Ck.of_below (h:Below w.heap.size w w'):Ck c w w' :=
 ⟨h.os,h.tape,h.output,h.size,fun k hk _=>h.block k hk,fun ⟨A,cc,i,hh,l,hB,h1,h2,h3⟩=>⟨A,cc,i,hh,l,hB.call h,h1,h2,SlY.below (h.mono (Nat.le_of_lt hB.lt)) h3⟩⟩
theorem Ck.drew (h:Ck c w.drew w'):Ck c w w':=⟨h.os,h.tape,h.output,h.size,h.block,h.keep⟩
theorem Ck.below {B:Nat} (h:Ck c w w') (hB:B≤c) (hs:B≤w.heap.size):Below B w w':=⟨h.os,h.tape,h.output,h.size,fun k hk=>h.block k (by omega) (by omega)⟩
theorem Ck.chg (h:Ck c w w'):Chg c (c+1) w w':=⟨h.os,h.tape,h.output,h.size,fun k hk hn=>h.block k hk (by omega)⟩
theorem Ck.cell {b o:Nat} {v:Value} (h:Ck c w w') (hb:b<w.heap.size) (hn:b≠c) (hc:w.cell? ⟨b,o,none⟩=some v):w'.cell? ⟨b,o,none⟩=some v :=
 (World.cell?_of_block (w:=w) (h.block b hb hn)).trans hc
theorem Blk.ck {g:Nat} {t:TypeId} {cs:Array Value} (h:Blk w g t cs) (k:Ck c w w') (hn:g≠c):Blk w' g t cs:=(k.block g h.lt hn).trans h
theorem Ck.of_set {A:Option Addr} {cc:Nat} {i h i' h':Int} {l:List Int} (hB:Blk w c 95 #[.slice A l.length cc,.int .i64 i,.int .i64 h]) (hy:SlY w c (.slice A l.length cc) l)
  (hc:Chg c (c+1) w w') (hB':Blk w' c 95 #[.slice A l.length cc,.int .i64 i',.int .i64 h']) (h1:I64 h') (h2:0≤i'∧i'≤9223372036854775807):Ck c w w' :=
 ⟨hc.os,hc.tape,hc.output,hc.size,fun k hk hn=>hc.block k hk (by omega),fun _=>⟨A,cc,i',h',l,hB',h1,h2,SlY.below (hc.below (l_ _) (Nat.le_of_lt hB.lt)) hy⟩⟩
end
theorem f0q (a:Int):0≤bits .and .i64 a 255∧bits .and .i64 a 255≤255:=by
 have h2:(BitVec.ofInt 64 (255:Int)).toNat=255:=by decide
 have h3:(BitVec.ofInt 64 a &&& BitVec.ofInt 64 255).toNat≤255:=by rw[BitVec.toNat_and,h2];exact Nat.and_le_right
 have e:bits .and .i64 a 255=IntKind.i64.wrap ((BitVec.ofInt 64 a &&& BitVec.ofInt 64 255).toNat:Int):=rfl;rw[e,IntKind.wrap_i64];omega
theorem t2_ (c:Nat) (w0:World) (hc:Cur w0 c) :
  Calls Tryz.prog 109 #[.pointer (some ⟨c,0,none⟩)] w0 fun e w'=>∃ n:Nat,n≤255∧e = .returned (.int .i64 n)∧Ck c w0 w':=by
 obtain⟨A,cc,i,h,l,hB,hh,hi,hy⟩:=hc;obtain⟨k,rfl⟩:=Int.eq_ofNat_of_zero_le hi.1;obtain⟨c0,c1,c2⟩:=c_3 hB;have fr:=hB.frozen;have HB:=h_ hB;have HY:=h_ hy;clear hB hy;go_enter Tryz.func109,Tryz.ntmps109
 go_wp2;obtain⟨h1,hh1⟩:=e_ (wrap64 (wrap64 (h*6364136223846793005)+1442695040888963407));have h1r:I64 h1:=by rw[←hh1];unfold I64 wrap64;omega
 rw[hh1];obtain⟨W1,hW1⟩:=e_ (w0.setCell ⟨c,2,none⟩ (.int .i64 h1));rw[hW1];have hB1:Blk W1 c 95 #[.slice A l.length cc,.int .i64 k,.int .i64 h1]:=by rw[←hW1];exact HB.out.set_ 2 _
 have hc1:Chg c (c+1) w0 W1:=by rw[←hW1];exact a5_ (l_ _) (m0_ _)
 clear hW1 hh1 c0 c1 c2 fr;have c2:=hB1.cell' (i:=2) rfl;have HB1:=h_ hB1;have HC1:=h_ hc1;clear hB1 hc1;go_quiet (fail)
 obtain⟨x1,hx1⟩:=e_ (bits .and .i64 (bits .xor .i64 (h1 / 8589934592) (h1 / 35184372088832)) 255);have hx1r:=f0q (bits .xor .i64 (h1 / 8589934592) (h1 / 35184372088832));rw[hx1]at hx1r⊢;clear hx1 c2;obtain⟨W2,hW2⟩:=e_ (W1.drewN nq);rw[hW2];have HB2:=h_ (show Blk W2 c _ _ from by rw[←hW2];exact HB1.out.drewN nq);have HC2:=h_ (show Chg c (c+1) w0 W2 from by rw[←hW2];exact HC1.out.trans (Chg.of_below (d5_ _ _ nq)));clear hW2 HB1 HC1;have c0:=HB2.out.cell' (i:=0) rfl;have c1:=HB2.out.cell' (i:=1) rfl;by_cases hlt:k<l.length
 ·obtain⟨b,o,y,rfl,hb,y1,hy0,hy1⟩:=SlY.at_ HY.out hlt;go_wp2;go_quiet (fail)
  obtain⟨W3,hW3⟩:=e_ (W2.drewN nq);rw[hW3];have HB3:=h_ (show Blk W3 c _ _ from by rw[←hW3];exact HB2.out.drewN nq);have HC3:=h_ (show Chg c (c+1) w0 W3 from by rw[←hW3];exact HC2.out.trans (Chg.of_below (d5_ _ _ nq)));have y3:W3.cell? ⟨b,o+k,none⟩=some (.int .u8 y):=by rw[←hW3];exact a4_ (B:=c) (HC2.out.trans (Chg.of_below (d5_ _ _ nq)) |>.below (l_ _) (Nat.le_of_lt HB.out.lt) |> fun h=>by rw[hW3]at h⊢;exact h) hb y1
  clear hW3 HB2 HC2 c0 c1;have c0:=HB3.out.cell' (i:=0) rfl;have c1:=HB3.out.cell' (i:=1) rfl;go_wp2;go_quiet (fail)
  obtain⟨x2,hx2⟩:=e_ (bits .and .i64 (x1+y) 255);have hx2r:=f0q (x1+y);rw[hx2]at hx2r⊢;obtain⟨W4,hW4⟩:=e_ (W3.drewN nq);rw[hW4];have HB4:=h_ (show Blk W4 c _ _ from by rw[←hW4];exact HB3.out.drewN nq);have HC4:=h_ (show Chg c (c+1) w0 W4 from by rw[←hW4];exact HC3.out.trans (Chg.of_below (d5_ _ _ nq)));clear hW4 HB3 HC3 c0 c1 hx2 y3 y1;have c1:=HB4.out.cell' (i:=1) rfl;have fr:=HB4.out.frozen;have HL:=h_ (show (k:Int)+1≤9223372036854775807 by obtain⟨_,_,_,_,_,h3,_⟩:=HY.out;omega);have hkl:=HL.out;go_wp2;go_ret
  obtain⟨n,rfl⟩:=Int.eq_ofNat_of_zero_le hx2r.1;refine⟨n,by omega,rfl,?_⟩;have hb5:Blk (W4.setCell ⟨c,1,none⟩ (.int .i64 ((k:Int)+1))) c 95 #[.slice (some ⟨b,o,none⟩) l.length cc,.int .i64 ((k:Int)+1),.int .i64 h1]:=HB4.out.set_ 1 _;exact Ck.of_set HB.out HY.out (HC4.out.trans (a5_ (l_ _) (m0_ _))) hb5 h1r ⟨by omega,hkl⟩
 ·go_wp2;go_quiet (fail)
  go_wp2;go_ret
  obtain⟨n,rfl⟩:=Int.eq_ofNat_of_zero_le hx1r.1;refine⟨n,by omega,rfl,?_⟩;exact Ck.of_set HB.out HY.out (HC2.out.trans (Chg.of_below (d5_ _ _ nq))) (HB2.out.drewN nq) h1r ⟨by omega,hi.2⟩
theorem d3_ (c:Nat) (n:Int) (w0:World) (hc:Cur w0 c) (hn:I64 n) :
  Calls Tryz.prog 65 #[.pointer (some ⟨c,0,none⟩),.int .i64 n] w0 fun e w'=>∃ r:Nat,((r:Int)<n∨r=0)∧r≤9223372036854775807∧e = .returned (.int .i64 r)∧Ck c w0 w':=by
 obtain⟨n1,n2⟩:=hn;by_cases h0:n≤0
 ·go_enter Tryz.func65,Tryz.ntmps65
  go_wp2;go_ret
  exact⟨0,.inr rfl,by omega,rfl,Ck.refl _ _⟩
 ·by_cases h1:n≤256
  ·go_enter Tryz.func65,Tryz.ntmps65
   go_wp2_with fail
   refine (t2_ c _ hc).mono ?_;rintro e w1 ⟨r,hr,rfl,hb1⟩;go_wp2;go_ret
   obtain⟨m,rfl⟩:=Int.eq_ofNat_of_zero_le (show 0≤n by omega);have hlt:r % m<m:=Nat.mod_lt _ (by omega);exact⟨r % m,.inl (by omega),by omega,rfl,hb1⟩
  ·go_enter Tryz.func65,Tryz.ntmps65
   go_wp2_with fail
   refine (t2_ c _ hc).mono ?_;rintro e w1 ⟨r1,hr1,rfl,hb1⟩;go_wp2_with fail
   refine (t2_ c _ (hb1.keep hc)).mono ?_;rintro e w2 ⟨r2,hr2,rfl,hb2⟩;have hb12:=hb1.trans hb2;go_wp2_with fail
   refine (t2_ c _ (hb12.keep hc)).mono ?_;rintro e w3 ⟨r3,hr3,rfl,hb3⟩;have hb13:=hb12.trans hb3;go_wp2_with fail
   refine (t2_ c _ (hb13.keep hc)).mono ?_;rintro e w4 ⟨r4,hr4,rfl,hb4⟩;have hb14:=hb13.trans hb4;go_wp2;go_ret
   obtain⟨m,rfl⟩:=Int.eq_ofNat_of_zero_le (show 0≤n by omega);have hlt:(r1*16777216+r2*65536+r3*256+r4) % m<m:=Nat.mod_lt _ (by omega);exact⟨(r1*16777216+r2*65536+r3*256+r4) % m,.inl (by omega),by omega,rfl,hb14⟩
theorem p6_ (c:Nat) (n:Int) (w0:World) (hc:Cur w0 c) (hn:I64 n) :
  Calls Tryz.prog 67 #[.pointer (some ⟨c,0,none⟩),.int .i64 n] w0 fun e w'=>∃ b:Bool,e = .returned (.bool b)∧Ck c w0 w':=by
 go_enter Tryz.func67,Tryz.ntmps67
 go_wp2_with fail
 refine (d3_ c n _ hc hn).mono ?_;rintro e w1 ⟨r,_,_,rfl,hb1⟩;go_wp2;go_ret
 exact⟨_,rfl,hb1⟩
theorem i8_ (P:Value→Prop) (c g n cap:Nat) (cs:Array Value) (w0:World) (hc:Cur w0 c) (hB:Blk w0 g 3 cs) (hg:g≠c) (hn:0<n) (hn2:n≤1000) (hcs:∀ i,i<n→∃ v,cs[i]?=some v∧P v) (hP:∀ v,P v→∃ x:Int,v = .int .i64 x) :
  Calls Tryz.prog 102 #[.pointer (some ⟨c,0,none⟩),.slice (some ⟨g,0,none⟩) n cap] w0 fun e w'=>∃ v,P v∧e = .returned v∧Ck c w0 w':=by
 go_enter Tryz.func102,Tryz.ntmps102
 go_wp2_with fail
 refine (d3_ c n _ hc ⟨by omega,by omega⟩).mono ?_;rintro e w1 ⟨r,hr,_,rfl,hb1⟩;have hrn:r<n:=by omega
 obtain⟨v,hv,hPv⟩:=hcs r hrn;have hx:=(hB.ck hb1 hg).cell' hv;obtain⟨x,hxv⟩:=hP v hPv;subst hxv;clear hcs hB hr hv;go_wp2;go_ret
 exact⟨_,hPv,rfl,hb1⟩
theorem E5_ (P:Value→Prop) (c g n cap:Nat) (cs:Array Value) (w0:World) (hc:Cur w0 c) (hB:Blk w0 g 9 cs) (hg:g≠c) (hn:0<n) (hn2:n≤1000) (hcs:∀ i,i<n→∃ v,cs[i]?=some v∧P v) (hP:∀ v,P v→∃ x:ByteArray,v = .string x) :
  Calls Tryz.prog 53 #[.pointer (some ⟨c,0,none⟩),.slice (some ⟨g,0,none⟩) n cap] w0 fun e w'=>∃ v,P v∧e = .returned v∧Ck c w0 w':=by
 go_enter Tryz.func53,Tryz.ntmps53
 go_wp2_with fail
 refine (d3_ c n _ hc ⟨by omega,by omega⟩).mono ?_;rintro e w1 ⟨r,hr,_,rfl,hb1⟩;have hrn:r<n:=by omega
 obtain⟨v,hv,hPv⟩:=hcs r hrn;have hx:=(hB.ck hb1 hg).cell' hv;obtain⟨x,hxv⟩:=hP v hPv;subst hxv;clear hcs hB hr hv;go_wp2;go_ret
 exact⟨_,hPv,rfl,hb1⟩
theorem v8_ (u:Value) (l:List Int) (w0:World) (hu:SlY w0 w0.heap.size u l) :
  Calls Tryz.prog 33 #[u] w0 fun e w'=>∃ g,e = .returned (.pointer (some ⟨g,0,none⟩))∧w0.heap.size≤g∧Cur w' g∧Below w0.heap.size w0 w':=by
 obtain⟨A,c,rfl,_,_,hl,hy⟩:=hu.open_;clear hu;have HY:=h_ hy;clear hy;go_enter Tryz.func33,Tryz.ntmps33
 go_wp2;go_loopw [3,4] (fun h i wr=>∃ (k:Nat) (hh:Int),k≤l.length∧I64 hh∧i = .int .i64 k∧h = .int .i64 hh∧Below w0.heap.size w0 wr) (fun _ i _=>l.length-(intOf i).toNat)
 case atStart=>exact⟨0,10101+l.length,l0_ _,⟨by omega,by omega⟩,rfl,rfl,Below.refl _ _⟩
 case round =>
  obtain⟨k,hh,hk,hhr,rfl,rfl,hb⟩:=hrel;by_cases hlt:k<l.length
  ·obtain⟨b,o,y,rfl,hbl,y1,hy0,hy1⟩:=SlY.at_ HY.out hlt;have y2:=a4_ hb hbl y1;by_cases h4:k<4000
   ·go_wp2_with fail
    refine⟨⟨k+1,_,by omega,?_,by go_num,rfl,hb⟩,by simp[intOf];omega⟩;exact bits_within .and .i64 _ _
   ·go_wp2;go_ret
    refine⟨wr.heap.size,rfl,hb.size,⟨some ⟨b,o,none⟩,c,0,hh,l,Blk.new _ _ _,hhr,⟨by omega,by omega⟩,?_⟩,hb.alloc hb.size _⟩;exact SlY.more hb.size (SlY.below (hb.alloc hb.size _) HY.out)
  ·go_wp2;go_ret
   refine⟨wr.heap.size,rfl,hb.size,⟨A,c,0,hh,l,Blk.new _ _ _,hhr,⟨by omega,by omega⟩,?_⟩,hb.alloc hb.size _⟩;exact SlY.more hb.size (SlY.below (hb.alloc hb.size _) HY.out)
theorem d3Z:(Tryz.prog.info? 9).map (fun i=>(i.zero,i.size,i.bytes))=some (some (.string ⟨#[]⟩),1,16):=by kernel_rfl
def OwnZ (w:World) (base:Nat) (v:Value) (L:List ByteArray):Prop:=w.ownsRow base 9 1 v L.length (L.map Value.string)∧L.length≤1000
theorem OwnZ.made {w:World} {base:Nat} (hb:base≤w.heap.size):OwnZ (w.alloc (.cells #[] 9)) base (.slice (some ⟨w.heap.size,0,none⟩) 0 0) [] :=
 ⟨World.ownsRow_made w #[] 0 hb (l0_ _) (by simp),by simp⟩
theorem OwnZ.alloc {w:World} {base:Nat} {v:Value} {L:List ByteArray} (h:OwnZ w base v L) (o:Obj):OwnZ (w.alloc o) base v L:=⟨h.1.alloc o,h.2⟩
theorem OwnZ.form {w:World} {base:Nat} {v:Value} {L:List ByteArray} (h:OwnZ w base v L):∃ A c,v = .slice A L.length c∧(0<L.length→∃ g,A=some ⟨g,0,none⟩∧base≤g∧g<w.heap.size∧∀ j s,L[j]?=some s→w.cell? ⟨g,j,none⟩=some (.string s)):=by
 rcases h.1.2 with ⟨rfl,h0⟩ | ⟨g,cap,cur,rfl,hg,hh,hnc,hcm,hsz,htk⟩
 ·exact⟨none,0,by rw[h0],fun hp=>by omega⟩
 ·have hB:Blk w g 9 cur:=hh;refine⟨_,_,rfl,fun hp=>⟨g,rfl,hg,hB.lt,fun j s hj=>?_⟩⟩;have hjl:=a6_ hj;have h1:(L.map Value.string)[j]?=some (.string s):=by rw[List.getElem?_map,hj];rfl
  have h2:(cur.toList.take (L.length*1))[j]?=some (.string s):=by first | rw[htk];exact h1 | rw[←htk];exact h1
  rw[List.getElem?_take,if_pos (by omega)]at h2;rw[hB.cell];simpa using h2
theorem N4_ {w:World} {ops:Array Oper} {rest:List Oper} {o:Oper} {a:Act} {Q:Exit→Act→World→Prop} (hgd:o.guard=none) (s x:Operand)
  (ho:o.op = .call { callee:=.builtin .append,args:=#[s,x],argTypes:=#[78,78] })
  (base:Nat) (v:Value) (L:List ByteArray) (hs:a.eval s=v) (hown:OwnZ w base v L) (g c:Nat) (u:ByteArray) (hx:a.eval x = .slice (some ⟨g,0,none⟩) 1 c) (hA:w.cell? ⟨g,0,none⟩=some (.string u))
  (hn:L.length+1≤1000) (hbase:base≤w.heap.size)
  (h:∀ v' w',OwnZ w' base v' (L ++ [u])→w.grownBy w' v.ownBlock→wpList Tryz.prog ops Q rest (a.put o.dst v') w'):wpList Tryz.prog ops Q (o :: rest) a w:=by
 obtain⟨i0,hi,hz0,hz1,hz2⟩:=info_parts d3Z;refine f1_ w hgd s x _ ho base 9 i0 _ 1 16 Tryz.underlying78 hi hz0 hz1 hz2 rfl (by decide) v L.length _ hs hown.1 (some ⟨g,0,none⟩) 1 c [.string u] hx ⟨by simp,.inr ⟨g,0,rfl,fun j u' hu=>?_⟩⟩ (fun u' hu=>by rw[List.mem_singleton]at hu;subst hu;rfl) (by simp only[maxLen];omega) (by omega) hbase fun v' w' h2 h3 h4=>?_
 ·match j,hu with
  | 0,hu =>
   simp at hu;subst hu;exact hA
 ·exact h v' w' ⟨by simpa using h2,by simpa using hn⟩ h3
theorem OwnZ.lt {w:World} {base:Nat} {v:Value} {L:List ByteArray} (h:OwnZ w base v L):∀ k,v.ownBlock=some k→base≤k∧k<w.heap.size:=h.1.lt
theorem c4j (s:ByteArray) (y:Int) (w0:World) (hs:s.size≤100) (hy:0≤y∧y≤255) :
  Calls Tryz.prog 136 #[.string s,.int .u8 y] w0 fun e w'=>∃ (v:Value) (L:List ByteArray),e = .returned v∧OwnZ w' w0.heap.size v L∧0<L.length∧L.length≤s.size+1∧Below w0.heap.size w0 w':=by
 go_enter Tryz.func136,Tryz.ntmps136
 go_wp2;obtain⟨W,hW⟩:=e_ (w0.alloc (.cells #[] 9));have hO:OwnZ W w0.heap.size (.slice (some ⟨w0.heap.size,0,none⟩) 0 0) []:=by rw[←hW];exact OwnZ.made (l_ _)
 have hb:Below w0.heap.size w0 W:=by rw[←hW];exact a0_ _ _
 rw[hW];clear hW;go_loopw [5,6,7] (fun v p i wr=>∃ (k:Nat) (L:List ByteArray) (u:ByteArray),k≤s.size∧i = .int .i64 k∧p = .string u∧u.size≤k∧L.length≤k∧OwnZ wr w0.heap.size v L∧Below w0.heap.size w0 wr) (fun _ _ i _=>s.size-(intOf i).toNat)
 case atStart=>exact⟨0,[],⟨#[]⟩,l0_ _,rfl,rfl,l0_ _,l0_ _,hO,hb⟩
 case round =>
  clear hO hb;obtain⟨k,L,u,hk,rfl,rfl,hu,hL,hO,hb⟩:=hrel;obtain⟨A,cc,rfl,_⟩:=hO.form;have HO:=h_ hO;have HB:=h_ hb;clear hO hb;have hus:u.size≤17592186044416:=by omega
  by_cases hlt:k<s.size
  ·by_cases hy2:((s[k]'hlt).toNat:Int)=y
   ·(go_wp2_with (at_builtin;refine Hold.stop ?_));unfold Hold
    refine N4_ (by rfl) (.tmp 20) (.tmp 22) (by rfl) w0.heap.size _ L (by rfl) (HO.out.alloc _) wr.heap.size 1 u (by rfl) ((Blk.new wr 9 #[.string u]).cell' rfl) (by omega) (by have:=HB.out.size;simp;omega) ?_;intro v' w' ho' hg';have hb':Below w0.heap.size w0 w':=(HB.out.alloc HB.out.size (.cells #[.string u] 9)).grown hg' (by have:=HB.out.size;simp;omega) fun j hj=>(HO.out.lt j hj).1
    obtain⟨A',cc',rfl,_⟩:=ho'.form;rw[List.length_append,List.length_singleton]at ho'⊢;have HO':=h_ ho';have HB':=h_ hb';clear ho' hb' hg';go_wp2;refine⟨⟨k+1,L ++ [u],⟨#[]⟩,by omega,by go_num,rfl,l0_ _,by simp;omega,HO'.out,HB'.out⟩,by simp[intOf];omega⟩
   ·go_wp2;refine⟨⟨k+1,L,_,by omega,by go_num,rfl,?_,by omega,HO.out,HB.out⟩,by simp[intOf];omega⟩;rw[ByteArray.size_append,ByteArray.size_extract];omega
  ·(go_wp2_with (at_builtin;refine Hold.stop ?_));unfold Hold
   refine N4_ (by rfl) (.tmp 31) (.tmp 33) (by rfl) w0.heap.size _ L (by rfl) (HO.out.alloc _) wr.heap.size 1 u (by rfl) ((Blk.new wr 9 #[.string u]).cell' rfl) (by omega) (by have:=HB.out.size;simp;omega) ?_;intro v' w' ho' hg';have hb':Below w0.heap.size w0 w':=(HB.out.alloc HB.out.size (.cells #[.string u] 9)).grown hg' (by have:=HB.out.size;simp;omega) fun j hj=>(HO.out.lt j hj).1
   have HO':=h_ ho';have HB':=h_ hb';clear ho' hb' hg';go_wp2;go_ret
   exact⟨_,_,rfl,HO'.out,by simp,by simp;omega,HB'.out⟩
def arr (q:Qv) (a b k:Nat):Nat:=((q.f.zip q.t).take k).countP fun p=>p.1 == (a:Int) && p.2 == (b:Int)
def ent (q:Qv) (k a b:Nat):Int:=(if a=b then 2 else 0)-arr q a b k-arr q b a k
theorem Fam.far {w:World} {lo hi:Nat} {L:List (Value×List Int)} (h:Fam w lo hi L) {p:Addr} (hp:hi≤p.block) (u:Value):Fam (w.setCell p u) lo hi L :=
 ⟨fun x hx=>⟨(h.1 x hx).1.setCell (fun e=>by have:=(h.1 x hx).2 _ e;omega) u,(h.1 x hx).2⟩,h.2⟩
theorem SlI.atN {w:World} {B n c:Nat} {A:Option Addr} {xs:List Int} {k:Nat} (h:SlI w B (.slice A n c) xs) (hn:xs.length=n) (hk:k<n) :
  ∃ b o x,A=some ⟨b,o,none⟩∧b<B∧Hid (xs[k]?=some x)∧w.cell? ⟨b,o+k,none⟩=some (.int .i64 x)∧-9223372036854775808≤x∧x≤9223372036854775807:=by
 subst hn;exact SlI.at_ h hk
theorem I2_ (u:Value) (q:Qv) (w0:World) (hu:QvR w0 w0.heap.size u q) :
  Calls Tryz.prog 137 #[u] w0 fun e w'=>∃ s:ByteArray,s.size≤100∧e = .returned (.string s)∧Below w0.heap.size w0 w':=by
 have hu':=hu;obtain⟨A,c,C,d,rfl,hf,hT,hr,lf,lt⟩:=hu.open_;clear hu;obtain⟨W,hW,g0,kB⟩:=b_3 w0 #[.int .i64 q.v,.slice A q.f.length c,.slice C q.t.length d] 26;obtain⟨c0,c1,c2⟩:=c_3 kB;have h0:=QvR.next g0 hu';clear hu';rcases hq:isQ q with _ | _
 ·go_enter Tryz.func137,Tryz.ntmps137
  go_wp2_with fail
  rw[←hW];clear hW;refine (f3_ _ _ _ h0).mono ?_;rintro e w1 ⟨rfl,hb1⟩;rw[hq];go_wp2;go_ret
  exact⟨⟨#[]⟩,l0_ _,rfl,b0_ g0 hb1⟩
 ·obtain⟨hv,hlen,h6,hfr,htr⟩:=j2_.1 hq;have HFR:=h_ hfr;have HTR:=h_ htr;obtain⟨n,hn⟩:=e_ (q.f.length);have hnt:q.t.length=n:=by omega
  have HN:=h_ hn;have HNT:=h_ hnt;rw[hn]at h6 hf;rw[hnt]at hT;have HF:=h_ hf;have HT:=h_ hT;clear hf hT hfr htr hlen hn hnt;go_enter Tryz.func137,Tryz.ntmps137
  go_wp2_with fail
  rw[←hW];clear hW;refine (f3_ _ _ _ h0).mono ?_;rintro e w1 ⟨rfl,hb1⟩;rw[hq];rw[HN.out,HNT.out]at kB;clear hq;have k1:=kB.call hb1;have G1:=h_ (b0_ g0 hb1);have d0:=k1.cell' (i:=0) rfl;have KB:=h_ k1;clear c0 c1 c2 kB g0 hb1 h0 k1;go_wp2_with fail
  refine (i1_ q.v _ (by omega) (by omega)).mono ?_;rintro e w2 ⟨rfl,hb2⟩;have hd:=d9_ q.v;have hds:(dgS q.v).size≤17592186044416:=by omega
  have KB2:=h_ (KB.out.call hb2);have G2:=h_ (b0_ G1.out hb2);have sG:=G2.out.size;clear d0 hb2;go_wp2;have hs0:(dgS q.v ++ (⟨#[58]⟩:ByteArray)).size=2:=by rw[ByteArray.size_append,hd];rfl
  go_loopw [3,4] (fun sv i wr=>∃ (k:Nat) (s:ByteArray),k≤n∧i = .int .i64 k∧sv = .string s∧s.size=2+3*k∧Below w2.heap.size w2 wr) (fun _ i _=>n-(intOf i).toNat)
  case atStart=>exact⟨0,_,l0_ _,rfl,rfl,hs0,Below.refl _ _⟩
  case round =>
   clear hs0 hd hds;obtain⟨k,s,hk,rfl,rfl,hs,hb⟩:=hrel;have kr:=KB2.out.call hb;have d1:=kr.cell' (i:=1) rfl;by_cases hlt:k<n
   ·obtain⟨bf,of_,x,rfl,hbf,HX,x1,_⟩:=SlI.atN HF.out HN.out hlt;obtain⟨bt,ot,y,rfl,hbt,HY,y1,_⟩:=SlI.atN HT.out HNT.out hlt;have hxr:=HFR.out x (l4_ HX.out);have hyr:=HTR.out y (l4_ HY.out);have hbs:=hb.size;have X1:=h_ (a4_ (G2.out.trans (hb.mono sG)) hbf x1);have Y1:=h_ (a4_ (G2.out.trans (hb.mono sG)) hbt y1);have KR:=h_ kr;have HB:=h_ hb;have hbf2:bf<wr.heap.size:=by omega
    have hbt2:bt<wr.heap.size:=by omega
    have hx1:=d9_ x;have hy1:=d9_ y;have hs1:(s ++ (⟨#[32]⟩:ByteArray)).size=2+3*k+1:=by rw[ByteArray.size_append,hs];rfl
    have hs2:(s ++ (⟨#[32]⟩:ByteArray) ++ dgS x).size=2+3*k+2:=by rw[ByteArray.size_append,hs1,hx1]
    have hs3:(s ++ (⟨#[32]⟩:ByteArray) ++ dgS x ++ dgS y).size=2+3*k+3:=by rw[ByteArray.size_append,hs2,hy1]
    clear kr hb x1 y1 HX HY;go_wp2;clear d1;obtain⟨wx,hwx⟩:∃ z,z=wr:=⟨_,rfl⟩;subst hwx;obtain⟨xx,hxx⟩:∃ z,z=x:=⟨_,rfl⟩;subst hxx;have hsz:s.size≤17592186044416:=by omega
    refine a9_ (by kernel_rfl) [.eq (.string s),.eq (.string (s ++ (⟨#[32]⟩:ByteArray))),.eq (.pointer (some ⟨w0.heap.size,1,none⟩)),.eq (.slice (some ⟨bf,of_,none⟩) n c),.eq (.int .i64 k),.eq (.pointer (some ⟨bf,of_+k,none⟩)),.eq (.int .i64 xx),.eq (.string (dgS xx)),.eq (.string (s ++ (⟨#[32]⟩:ByteArray) ++ dgS xx)),.eq (.pointer (some ⟨w0.heap.size,2,none⟩)),.eq (.slice (some ⟨bt,ot,none⟩) n d),.eq (.int .i64 k),.eq (.pointer (some ⟨bt,ot+k,none⟩)),.eq (.int .i64 y),.eq (.string (dgS y)),.eq (.string (s ++ (⟨#[32]⟩:ByteArray) ++ dgS xx ++ dgS y))] [[],[0],[],[2],[],[2,3,4],[2,3,4,5],[2,3,4,5,6],[0,1,2,3,4,5,6,7],[],[9],[],[9,10,11],[9,10,11,12],[2,3,4,5,6,7,9,10,11,12,13],[0,1,2,3,4,5,6,7,8,9,10,11,12,13,14],[0,1,2,3,4,5,6,7,8,9,10,11,12,13,14,15]] 16 (by kernel_rfl) ⟨trivial,trivial,trivial,trivial,trivial,trivial,trivial,trivial,trivial,trivial,trivial,trivial,trivial,trivial,trivial,trivial,trivial⟩ ⟨?_,?_,?_,?_,?_,?_,?_,?_,?_,?_,?_,?_,?_,?_,?_,?_,trivial⟩ ?_;iterate 16 (intro x w hb hk Q' hQ;have he:=k_e hk;simp only[k_s]at he;simp only[netE]at hQ⊢;(try simp only[he]at hQ⊢);(try clear he);rotate_left)
    rotate_left
    iterate 3 (· clear hk;go_wp2;exact hQ _ _ br_ rfl)
    ·clear hk;have z:=(KR.out.call hb).cell' (i:=1) rfl;go_wp2;exact hQ _ _ br_ rfl
    iterate 2 (· clear hk;go_wp2;exact hQ _ _ br_ rfl)
    ·clear hk;have z:=a4_ hb hbf2 X1.out;go_wp2;exact hQ _ _ br_ rfl
    ·clear hk;go_wp2_with fail
     refine (i1_ xx _ (by omega) (by omega)).mono ?_;rintro e w4 ⟨rfl,hb4⟩;go_wp2;exact hQ _ _ hb4 rfl
    iterate 2 (· clear hk;go_wp2;exact hQ _ _ br_ rfl)
    ·clear hk;have z:=(KR.out.call hb).cell' (i:=2) rfl;go_wp2;exact hQ _ _ br_ rfl
    iterate 2 (· clear hk;go_wp2;exact hQ _ _ br_ rfl)
    ·clear hk;have z:=a4_ hb hbt2 Y1.out;go_wp2;exact hQ _ _ br_ rfl
    ·clear hk;go_wp2_with fail
     refine (i1_ y _ (by omega) (by omega)).mono ?_;rintro e w4 ⟨rfl,hb4⟩;go_wp2;exact hQ _ _ hb4 rfl
    ·clear hk;go_wp2;exact hQ _ _ br_ rfl
    ·intro x w hb hk hiv hdj;have he:=k_g hk [0,1,2,3,4,5,6,7,8,9,10,11,12,13,14,15];simp only[k_s]at he;simp only[netE,he];clear he hk;have HB3:=h_ (HB.out.trans (hb.mono hbs));clear hb hiv hdj;go_wp2;go_roundw
     case rel=>exact⟨k+1,_,by omega,by go_num,rfl,by rw[hs3];omega,HB3.out⟩
     case measure=>simp[intOf];omega
   ·obtain rfl:k=n:=by omega
    have GF:=h_ (b0_ G2.out hb);clear hb kr;go_wp2;go_ret
    exact⟨s,by omega,rfl,GF.out⟩
theorem N0_ {w:World} {g:Nat} {x:Int} (hk:Blk w g 3 #[.int .i64 x]) (hx:I64 x):SlI w w.heap.size (.slice (some ⟨g,0,none⟩) 1 1) [x]:=by
 refine⟨_,1,rfl,by simp,by omega,by simp,fun _=>⟨g,0,rfl,hk.lt,fun j y hj=>?_⟩⟩
 match j,hj with
 | 0,hj =>
  simp at hj;subst hj;exact⟨by rw[hk.cell];rfl,hx⟩
 | j+1,hj=>simp at hj
theorem Cur.below {w w':World} {c lo:Nat} (h:Cur w c) (k:Below lo w w') (hc:c<lo):Cur w' c:=by
 obtain⟨A,cc,i,hh,l,hB,h1,h2,h3⟩:=h;exact⟨A,cc,i,hh,l,hB.below k hc,h1,h2,SlY.below (k.mono (Nat.le_of_lt hc)) h3⟩
theorem Ck.low {w0 w w':World} {c lo:Nat} (h:Ck c w0 w) (k:Below lo w w') (h1:w0.heap.size≤lo) (h2:c<lo):Ck c w0 w' :=
 ⟨k.os.trans h.os,k.tape.trans h.tape,k.output.trans h.output,Nat.le_trans h.size k.size,fun i hi hn=>(k.block i (by omega)).trans (h.block i hi hn),fun h0=>(h.keep h0).below k h2⟩
theorem Cur.lt {w:World} {c:Nat} (h:Cur w c):c<w.heap.size:=by obtain⟨_,_,_,_,_,hB,_⟩:=h;exact hB.lt
theorem i7_.wid {w:World} {lo hi lo' hi':Nat} {v:Value} {q:Qv} (h:i7_ w lo hi v q) (h1:lo'≤lo) (h2:hi≤hi'):i7_ w lo' hi' v q:=by
 obtain⟨a,b,e,hF,hr⟩:=h;exact⟨a,b,e,hF.mono h1 h2,hr⟩
def GQ (w:World) (lo gq:Nat) (V:Int) (A:Option Addr) (c:Nat) (C:Option Addr) (d:Nat) (F T:List Int):Prop :=
 Blk w gq 26 #[.int .i64 V,.slice A F.length c,.slice C T.length d]∧Fam w lo w.heap.size [(.slice A F.length c,F),(.slice C T.length d,T)]∧I64 V∧lo≤w.heap.size
section
variable {w w':World} {lo gq c d:Nat} {V:Int} {A C:Option Addr} {F T:List Int}
theorem GQ.below (h:GQ w lo gq V A c C d F T) (hb:Below w.heap.size w w'):GQ w' lo gq V A c C d F T :=
 ⟨h.1.call hb,(h.2.1.below hb).mono (l_ _) hb.size,h.2.2.1,Nat.le_trans h.2.2.2 hb.size⟩
theorem GQ.ck {k:Nat} (h:GQ w lo gq V A c C d F T) (hb:Ck k w w') (hk:k<lo) (hg:gq≠k):GQ w' lo gq V A c C d F T :=
 ⟨h.1.ck hb hg,(h.2.1.chg hb.chg (.inr (by omega))).mono (l_ _) hb.size,h.2.2.1,Nat.le_trans h.2.2.2 hb.size⟩
theorem GQ.setF {w1:World} {A1:Option Addr} {c1 n1:Nat} {F1:List Int} (h:GQ w lo gq V A c C d F T) (ho:OwnI w1 lo (.slice A1 n1 c1) F1) (hn:n1=F1.length) (hg:w.grownBy w1 (Value.slice A F.length c).ownBlock) (hv:(Value.slice A1 n1 c1).ownBlock=(Value.slice A F.length c).ownBlock∨(Value.slice A1 n1 c1).ownBlock=some w.heap.size) :
  Blk w1 gq 26 #[.int .i64 V,.slice A F.length c,.slice C T.length d]∧GQ (w1.setCell ⟨gq,1,none⟩ (.slice A1 n1 c1)) lo gq V A1 c1 C d F1 T∧Below lo w w1:=by
 subst hn;have hfa:OwnI w lo (.slice A F.length c) F:=(h.2.1.1 (_,F) (by simp)).1;have hB1:=h.1.grown hg (hfa.blkne h.1 (by decide));have hF1:=h.2.1.app (w':=w1) (L1:=[]) hg.size ho hg hv;refine⟨hB1,⟨hB1.set_ 1 _,?_,h.2.2.1,?_⟩,c9_ hg (fun j hj=>(hfa.lt j hj).1) h.2.2.2⟩
 ·have:=hF1.setBlk (i:=1) hB1 (by decide) (.slice A1 F1.length c1);exact this.mono (l_ _) (by simp)
 ·have:=hg.size;simp;have:=h.2.2.2;omega
theorem GQ.setT {w1:World} {A1:Option Addr} {c1 n1:Nat} {F1:List Int} (h:GQ w lo gq V A c C d F T) (ho:OwnI w1 lo (.slice A1 n1 c1) F1) (hn:n1=F1.length) (hg:w.grownBy w1 (Value.slice C T.length d).ownBlock) (hv:(Value.slice A1 n1 c1).ownBlock=(Value.slice C T.length d).ownBlock∨(Value.slice A1 n1 c1).ownBlock=some w.heap.size) :
  Blk w1 gq 26 #[.int .i64 V,.slice A F.length c,.slice C T.length d]∧GQ (w1.setCell ⟨gq,2,none⟩ (.slice A1 n1 c1)) lo gq V A c A1 c1 F F1∧Below lo w w1:=by
 subst hn;have hfa:OwnI w lo (.slice C T.length d) T:=(h.2.1.1 (_,T) (by simp)).1;have hB1:=h.1.grown hg (hfa.blkne h.1 (by decide));have hF1:=h.2.1.app (w':=w1) (L1:=[(_,F)]) hg.size ho hg hv;refine⟨hB1,⟨hB1.set_ 2 _,?_,h.2.2.1,?_⟩,c9_ hg (fun j hj=>(hfa.lt j hj).1) h.2.2.2⟩
 ·have:=hF1.setBlk (i:=2) hB1 (by decide) (.slice A1 F1.length c1);exact this.mono (l_ _) (by simp)
 ·have:=hg.size;simp;have:=h.2.2.2;omega
theorem GQ.rd (h:GQ w lo gq V A c C d F T):QvR w w.heap.size (.agg #[.int .i64 V,.slice A F.length c,.slice C T.length d]) ⟨V,F,T⟩ :=
 i7_.rd (lo:=lo) (hi:=w.heap.size) ⟨_,_,rfl,h.2.1,h.2.2.1⟩
theorem GQ.quiv (h:GQ w lo gq V A c C d F T):i7_ w lo w.heap.size (.agg #[.int .i64 V,.slice A F.length c,.slice C T.length d]) ⟨V,F,T⟩:=⟨_,_,rfl,h.2.1,h.2.2.1⟩
theorem GQ.setV {x:Int} (h:GQ w lo gq V A c C d F T) (hx:I64 x):GQ (w.setCell ⟨gq,0,none⟩ (.int .i64 x)) lo gq x A c C d F T :=
 ⟨h.1.set_ 0 _,(h.2.1.setBlk (i:=0) h.1 (by decide) _).mono (l_ _) (by simp),hx,by simp;exact h.2.2.2⟩
end
theorem F6_ (x:Int):I64 (wrap64 x):=by unfold I64 wrap64;omega
theorem M3_ (s:ByteArray) (w0:World) (hs:s.size≤60) :
  Calls Tryz.prog 103 #[.string s] w0 fun e w'=>∃ v b q,e = .returned (.tuple #[v,.bool b])∧i7_ w' w0.heap.size w'.heap.size v q∧q.f.length≤61∧q.t.length≤61∧Below w0.heap.size w0 w':=by
 obtain⟨W,hW,g0,kR⟩:=b_3 w0 #[.int .i64 0,.slice none 0 0,.slice none 0 0] 26;have sW:W.heap.size=w0.heap.size+1:=by rw[hW];simp
 go_enter Tryz.func103,Tryz.ntmps103
 go_wp2_with fail
 rw[←hW];clear hW;refine (c4j s 32 _ (by omega) (by omega)).mono ?_;rintro e w1 ⟨v1,L,rfl,hL,hL0,hL1,hb1⟩;obtain⟨LA,lc,rfl,hcell⟩:=hL.form;obtain⟨gl,rfl,hgl,hgl2,hel⟩:=hcell hL0;have g1:=b0_ g0 hb1;have kR1:=kR.call hb1;have s1:=hb1.size;obtain⟨N,hN⟩:=e_ (L.length);have HN:=h_ hN;rw[hN]at hL0 hL1⊢;have HEL:=h_ hel;have e0:L[0]?=some (L[0]'(by rw[HN.out];exact hL0)):=l2_ _;obtain⟨s0,hs0⟩:=e_ (L[0]'(by rw[HN.out];exact hL0));rw[hs0]at e0;have l0:=hel 0 s0 e0;obtain⟨r0,r1,r2⟩:=c_3 kR1;have fr:=kR1.frozen;have KR1:=h_ kR1;have G1:=h_ g1;clear hel e0 hs0 hL hcell hb1 kR g0 hN kR1 g1;by_cases h2:s0.size=2
 ·by_cases h30:s.size≤30
  ·have hbyte:s0.size=2:=h2;go_wp2;obtain⟨V,hV⟩:=e_ (wrap64 (wrap64 ((s0[0]'(by omega)).toNat:Int)-48));have hVr:I64 V:=by rw[←hV];exact F6_ _
   rw[hV];clear hV;obtain⟨W2,hW2⟩:=e_ (((w1.alloc (.cells #[] 3)).alloc (.cells #[] 3)).alloc (.cells #[.int .i64 V,.slice (some ⟨w1.heap.size,0,none⟩) 0 0,.slice (some ⟨w1.heap.size+1,0,none⟩) 0 0] 26));have gb:Below w1.heap.size w1 W2:=by rw[←hW2];exact (((Below.refl _ _).alloc (l_ _) _).alloc (by simp) _).alloc (by simp;omega) _
   have hG:GQ W2 w1.heap.size (w1.heap.size+1+1) V (some ⟨w1.heap.size,0,none⟩) 0 (some ⟨w1.heap.size+1,0,none⟩) 0 [] []:=by
    rw[←hW2];refine⟨?_,?_,hVr,by simp;omega⟩
    ·have:=Blk.new ((w1.alloc (.cells #[] 3)).alloc (.cells #[] 3)) 26 #[.int .i64 V,.slice (some ⟨w1.heap.size,0,none⟩) 0 0,.slice (some ⟨w1.heap.size+1,0,none⟩) 0 0];simp only[l3_]at this;exact this
    ·have h:=X2_ w1 (lo:=w1.heap.size) (l_ _);exact (h.below (a0_ _ _)).mono (l_ _) (by simp)
   rw[hW2];clear hW2 r0 r1 r2 fr l0;go_loopw [6] (fun i wr=>∃ (k c d:Nat) (A C:Option Addr) (F T:List Int),1≤k∧k≤N∧i = .int .i64 k∧F.length≤k∧T.length≤k∧Below w1.heap.size w1 wr∧GQ wr w1.heap.size (w1.heap.size+1+1) V A c C d F T) (fun i _=>N-(intOf i).toNat)
   case atStart=>exact⟨1,0,0,_,_,[],[],l_ _,by omega,rfl,by simp,by simp,gb,hG⟩
   case round =>
    clear gb hG;obtain⟨k,c,d,A,C,F,T,hk1,hk,rfl,hF,hT,hb,hG⟩:=hrel;have kRr:=KR1.out.below hb (by omega);have hbs:=hb.size;by_cases hlt:k<N
    ·obtain⟨u,hu⟩:∃ u,L[k]?=some u:=⟨_,l2_ (by rw[HN.out];exact hlt)⟩;have lk:=a4_ hb (show gl<w1.heap.size from hgl2) (HEL.out k u hu);by_cases hu2:u.size=2
     ·have H0:=h_ (show wrap64 (wrap64 ((u[0]'(by omega)).toNat:Int)-48)=wrap64 (wrap64 ((u[0]'(by omega)).toNat:Int)-48) from rfl);have HG:=h_ hG;have HB:=h_ hb;have LK:=h_ lk;have LU:=h_ hu;have GB:=h_ hG.1;have hgk:gl<wr.heap.size:=by omega
      clear hG hb kRr hu;go_wp2;clear lk;obtain⟨wx,hwx⟩:∃ z,z=wr:=⟨_,rfl⟩;subst hwx;obtain⟨y0,hy0⟩:=e_ (wrap64 (wrap64 ((u[0]'(by omega)).toNat:Int)-48));obtain⟨y1,hy1⟩:=e_ (wrap64 (wrap64 ((u[1]'(by omega)).toNat:Int)-48));have hy0r:I64 y0:=by rw[←hy0];exact F6_ _
      have hy1r:I64 y1:=by rw[←hy1];exact F6_ _
      have HY0:=h_ hy0;have HY1:=h_ hy1;clear hy0 hy1;refine a9_ (by kernel_rfl) [.eq (.pointer (some ⟨w1.heap.size+1+1,1,none⟩)),.eq (.slice A F.length c),.eq (.slice (some ⟨gl,0,none⟩) N lc),.eq (.int .i64 k),.eq (.pointer (some ⟨gl,k,none⟩)),.eq (.string u),.eq (.int .u8 ((u[0]'(by omega)).toNat:Int)),.eq (.int .i64 (wrap64 ((u[0]'(by omega)).toNat:Int))),.eq (.int .i64 y0),rel 9 (fun u lo hi w=>∃ g,u = .slice (some ⟨g,0,none⟩) 1 1∧Blk w g 3 #[.int .i64 y0])] [[],[0],[],[],[2,3],[2,3,4],[2,3,4,5],[2,3,4,5,6],[2,3,4,5,6,7],[2,3,4,5,6,7,8],[0,1,2,3,4,5,6,7,8,9],[0,1,2,3,4,5,6,7,8,9,10],[0,1,2,3,4,5,6,7,8,9,10,11]] 10 (by kernel_rfl) ⟨trivial,trivial,trivial,trivial,trivial,trivial,trivial,trivial,trivial,a7_ (fun u lo hi w w' ⟨g,e,h⟩ hb=>⟨g,e,h.call hb⟩),trivial⟩ ⟨?_,?_,?_,?_,?_,?_,?_,?_,?_,?_,trivial⟩ ?_;iterate 10 (intro x w hb hk Q' hQ;have he:=k_e hk;simp only[k_s]at he;simp only[netE]at hQ⊢;(try simp only[he]at hQ⊢);(try clear he);rotate_left)
      rotate_left
      ·clear hk;go_wp2;exact hQ _ _ br_ rfl
      ·clear hk;have z:=(GB.out.call hb).cell' (i:=1) rfl;go_wp2;exact hQ _ _ br_ rfl
      iterate 3 (· clear hk;go_wp2;exact hQ _ _ br_ rfl)
      ·clear hk;have z:=a4_ hb hgk LK.out;go_wp2;exact hQ _ _ br_ rfl
      iterate 2 (· clear hk;go_wp2;exact hQ _ _ br_ rfl)
      ·clear hk;go_wp2;rw[HY0.out];exact hQ _ _ br_ rfl
      ·clear hk;go_wp2;exact hQ _ _ (a0_ _ _) ⟨_,rfl,Blk.new _ _ _⟩
      ·intro x w hb hk hiv hdj;have h9:∃ g,(x.v 9) = .slice (some ⟨g,0,none⟩) 1 1∧Blk w g 3 #[.int .i64 y0]:=hk 9 (by decide);have he:=k_g hk [0,1,2,3,4,5,6,7,8];simp only[k_s]at he;simp only[netE,he];clear he hk;obtain⟨gn,e9,hN⟩:=h9;rw[e9];have hGw:=HG.out.below hb;have hfa:OwnI w w1.heap.size (.slice A F.length c) F:=(hGw.2.1.1 (_,F) (by simp)).1;refine d7_ (by rfl) (.tmp 43) (.tmp 51) (by rfl) w1.heap.size w.heap.size _ F (by rfl) hfa (some ⟨gn,0,none⟩) 1 1 [y0] (by rfl) rfl (N0_ hN hy0r) (by simp;omega) hGw.2.2.2 ?_;intro v3 w3 ho3 hg3 hv3;obtain⟨A3,c3,rfl,_⟩:=ho3.form;obtain⟨nA3,hnA3⟩:=e_ ((F ++ [y0]).length);rw[hnA3]at ho3 hv3⊢;obtain⟨hB3,hG3,hb3⟩:=hGw.setF ho3 hnA3.symm hg3 hv3;have z1:=hB3.cell' (i:=1) rfl;have fz:=hB3.frozen;obtain⟨W3,hW3⟩:=e_ (w3.setCell ⟨w1.heap.size+1+1,1,none⟩ (.slice A3 nA3 c3));rw[hW3]at hG3;have hch:Chg (w1.heap.size+1+1) (w1.heap.size+1+1+1) w3 W3:=by rw[←hW3];exact a5_ (l_ _) (m0_ _)
       have hbw:=hb.size;have hbw3:=hb3.size;have hb13:Below w1.heap.size w1 W3:=((HB.out.trans (hb.mono hbs)).trans hb3).trans (hch.below (by omega) (by omega));have hl3:=a4_ hb13 hgl2 (HEL.out k u LU.out);have hsW:w1.heap.size≤W3.heap.size:=hb13.size;have HG3:=h_ hG3;have HB13:=h_ hb13;have LK3:=h_ hl3;have hgk3:gl<W3.heap.size:=by omega
       have GB3:=h_ hG3.1;clear hnA3 hB3 hG3 hb3 ho3 hg3 hv3 hch hb13 hl3 hfa hGw hN e9 hiv hdj GB LK HG HB;go_wp2;clear hW3 z1 fz;refine a9_ (by kernel_rfl) [.eq (.pointer (some ⟨w1.heap.size+1+1,2,none⟩)),.eq (.slice C T.length d),.eq (.slice (some ⟨gl,0,none⟩) N lc),.eq (.int .i64 k),.eq (.pointer (some ⟨gl,k,none⟩)),.eq (.string u),.eq (.int .u8 ((u[1]'(by omega)).toNat:Int)),.eq (.int .i64 (wrap64 ((u[1]'(by omega)).toNat:Int))),.eq (.int .i64 y1),rel 9 (fun u lo hi w=>∃ g,u = .slice (some ⟨g,0,none⟩) 1 1∧Blk w g 3 #[.int .i64 y1])] [[],[0],[],[],[2,3],[2,3,4],[2,3,4,5],[2,3,4,5,6],[2,3,4,5,6,7],[2,3,4,5,6,7,8],[0,1,2,3,4,5,6,7,8,9],[0,1,2,3,4,5,6,7,8,9,10],[0,1,2,3,4,5,6,7,8,9,10,11]] 10 (by kernel_rfl) ⟨trivial,trivial,trivial,trivial,trivial,trivial,trivial,trivial,trivial,a7_ (fun u lo hi w w' ⟨g,e,h⟩ hb=>⟨g,e,h.call hb⟩),trivial⟩ ⟨?_,?_,?_,?_,?_,?_,?_,?_,?_,?_,trivial⟩ ?_;iterate 10 (intro x w hb hk Q' hQ;have he:=k_e hk;simp only[k_s]at he;simp only[netE]at hQ⊢;(try simp only[he]at hQ⊢);(try clear he);rotate_left)
       rotate_left
       ·clear hk;go_wp2;exact hQ _ _ br_ rfl
       ·clear hk;have z:=(GB3.out.call hb).cell' (i:=2) rfl;go_wp2;exact hQ _ _ br_ rfl
       iterate 3 (· clear hk;go_wp2;exact hQ _ _ br_ rfl)
       ·clear hk;have z:=a4_ hb hgk3 LK3.out;go_wp2;exact hQ _ _ br_ rfl
       iterate 2 (· clear hk;go_wp2;exact hQ _ _ br_ rfl)
       ·clear hk;go_wp2;rw[HY1.out];exact hQ _ _ br_ rfl
       ·clear hk;go_wp2;exact hQ _ _ (a0_ _ _) ⟨_,rfl,Blk.new _ _ _⟩
       ·intro x w hb hk hiv hdj;have h9:∃ g,(x.v 9) = .slice (some ⟨g,0,none⟩) 1 1∧Blk w g 3 #[.int .i64 y1]:=hk 9 (by decide);have he:=k_g hk [0,1,2,3,4,5,6,7,8];simp only[k_s]at he;simp only[netE,he];clear he hk;obtain⟨gn,e9,hN⟩:=h9;rw[e9];have hGw:=HG3.out.below hb;have hfa:OwnI w w1.heap.size (.slice C T.length d) T:=(hGw.2.1.1 (_,T) (by simp)).1;refine d7_ (by rfl) (.tmp 55) (.tmp 63) (by rfl) w1.heap.size w.heap.size _ T (by rfl) hfa (some ⟨gn,0,none⟩) 1 1 [y1] (by rfl) rfl (N0_ hN hy1r) (by simp;omega) hGw.2.2.2 ?_;intro v3 w3 ho3 hg3 hv3;obtain⟨A4,c4,rfl,_⟩:=ho3.form;obtain⟨nA4,hnA4⟩:=e_ ((T ++ [y1]).length);rw[hnA4]at ho3 hv3⊢;obtain⟨hB3,hG3,hb3⟩:=hGw.setT ho3 hnA4.symm hg3 hv3;have z1:=hB3.cell' (i:=2) rfl;have fz:=hB3.frozen;obtain⟨W4,hW4⟩:=e_ (w3.setCell ⟨w1.heap.size+1+1,2,none⟩ (.slice A4 nA4 c4));rw[hW4]at hG3;have hch:Chg (w1.heap.size+1+1) (w1.heap.size+1+1+1) w3 W4:=by rw[←hW4];exact a5_ (l_ _) (m0_ _)
        have hbw:=hb.size;have hbw3:=hb3.size;have hb13:Below w1.heap.size w1 W4:=((HB13.out.trans (hb.mono hsW)).trans hb3).trans (hch.below (by omega) (by omega));have HG4:=h_ hG3;have HB4:=h_ hb13;have hF1:(F ++ [y0]).length≤k+1:=by simp;omega
        have hT1:(T ++ [y1]).length≤k+1:=by simp;omega
        clear hnA4 hB3 hG3 hb3 ho3 hg3 hv3 hch hb13 hfa hGw hN e9 hiv hdj;go_wp2;clear hW4 z1 fz;go_roundw
        case rel=>exact⟨k+1,c3,c4,A3,A4,_,_,by omega,by omega,by go_num,hF1,hT1,HB4.out,HG4.out⟩
        case measure=>simp[intOf];omega
     ·obtain⟨r0,r1,r2⟩:=c_3 kRr;have fr:=kRr.frozen;have GF:=h_ ((((G1.out.trans (hb.mono (by omega))).setCell (p:=⟨w0.heap.size,0,none⟩) (by simp) (.int .i64 0)).setCell (p:=⟨w0.heap.size,1,none⟩) (by simp) (.slice none 0 0)).setCell (p:=⟨w0.heap.size,2,none⟩) (by simp) (.slice none 0 0));clear hG hb kRr hu;go_wp2;exact bodyPost_ret (v:=.tuple #[.agg #[.int .i64 0,.slice none 0 0,.slice none 0 0],.bool false]) (by simp[results,go_sem,r0,r1,r2]) rfl ⟨_,_,⟨0,[],[]⟩,rfl,⟨_,_,rfl,x0_,⟨by decide,by decide⟩⟩,by simp,by simp,GF.out⟩
    ·obtain rfl:k=N:=by omega
     have hB:=hG.1;obtain⟨q0,q1,q2⟩:=c_3 hB;have HG:=h_ hG;have HB:=h_ hb;clear hG hb kRr hB;go_wp2_with fail
     refine (I2_ _ ⟨V,F,T⟩ _ HG.out.rd).mono ?_;rintro e w3 ⟨s3,hs3,rfl,hb3⟩;have HG3:=h_ (HG.out.below hb3);have hB3:=HB.out.trans (hb3.mono hbs);have kR3:=KR1.out.below hB3 (by omega);have fr:=kR3.frozen;obtain⟨r0,r1,r2⟩:=c_3 kR3;have q0':=HG3.out.1.cell' (i:=0) rfl;have q1':=HG3.out.1.cell' (i:=1) rfl;have q2':=HG3.out.1.cell' (i:=2) rfl;have gw:=G1.out.trans (hB3.mono (by omega));clear q0 q1 q2 hb3 hB3 kR3;have hne:w0.heap.size<w1.heap.size+1+1:=by omega
     have gws:=gw.size;have hc3:=((a5_ (lo:=w0.heap.size) (hi:=w0.heap.size+1) (w:=w3) (p:=⟨w0.heap.size,0,none⟩) (u:=.int .i64 V) (l_ _) (m0_ _)).trans (a5_ (p:=⟨w0.heap.size,1,none⟩) (u:=.slice A F.length c) (l_ _) (m0_ _))).trans (a5_ (p:=⟨w0.heap.size,2,none⟩) (u:=.slice C T.length d) (l_ _) (m0_ _));have OF:=h_ ((HG3.out.quiv.chg hc3 (.inr (by omega))).wid (lo':=w0.heap.size) (hi':=w3.heap.size) (by omega) (l_ _));have GS:=h_ (gw.trans (hc3.below (l_ _) gws));have GF:=h_ (((gw.setCell (p:=⟨w0.heap.size,0,none⟩) (by simp) (.int .i64 0)).setCell (p:=⟨w0.heap.size,1,none⟩) (by simp) (.slice none 0 0)).setCell (p:=⟨w0.heap.size,2,none⟩) (by simp) (.slice none 0 0));have HLF:=h_ (And.intro hF hT);have hk61:k≤61:=by omega
     clear gw hc3 hF hT;go_wp2
     ·exact bodyPost_ret (v:=.tuple #[.agg #[.int .i64 0,.slice none 0 0,.slice none 0 0],.bool false]) (by simp[results,go_sem,r0,r1,r2]) rfl ⟨_,_,⟨0,[],[]⟩,rfl,⟨_,_,rfl,x0_,⟨by decide,by decide⟩⟩,by simp,by simp,GF.out⟩
     ·exact bodyPost_ret (v:=.tuple #[.agg #[.int .i64 V,.slice A F.length c,.slice C T.length d],.bool true]) (by simp[results,go_sem,r0,r1,r2]) rfl ⟨_,_,⟨V,F,T⟩,rfl,by simpa using OF.out,by have:=HLF.out;show F.length≤61;omega,by have:=HLF.out;show T.length≤61;omega,GS.out⟩
  ·have GF:=h_ (((G1.out.setCell (p:=⟨w0.heap.size,0,none⟩) (by simp) (.int .i64 0)).setCell (p:=⟨w0.heap.size,1,none⟩) (by simp) (.slice none 0 0)).setCell (p:=⟨w0.heap.size,2,none⟩) (by simp) (.slice none 0 0));go_wp2;exact bodyPost_ret (v:=.tuple #[.agg #[.int .i64 0,.slice none 0 0,.slice none 0 0],.bool false]) (by simp[results,go_sem,r0,r1,r2]) rfl ⟨_,_,⟨0,[],[]⟩,rfl,⟨_,_,rfl,x0_,⟨by decide,by decide⟩⟩,by simp,by simp,GF.out⟩
 ·have GF:=h_ (((G1.out.setCell (p:=⟨w0.heap.size,0,none⟩) (by simp) (.int .i64 0)).setCell (p:=⟨w0.heap.size,1,none⟩) (by simp) (.slice none 0 0)).setCell (p:=⟨w0.heap.size,2,none⟩) (by simp) (.slice none 0 0));go_wp2;exact bodyPost_ret (v:=.tuple #[.agg #[.int .i64 0,.slice none 0 0,.slice none 0 0],.bool false]) (by simp[results,go_sem,r0,r1,r2]) rfl ⟨_,_,⟨0,[],[]⟩,rfl,⟨_,_,rfl,x0_,⟨by decide,by decide⟩⟩,by simp,by simp,GF.out⟩
theorem n0_ (s:ByteArray) (w0:World) :
  Calls Tryz.prog 52 #[.string s] w0 fun e w'=>∃ v b q,e = .returned (.tuple #[v,.bool b])∧i7_ w' w0.heap.size w'.heap.size v q∧q.f.length≤61∧q.t.length≤61∧Below w0.heap.size w0 w':=by
 obtain⟨W,hW,g0,kR⟩:=b_3 w0 #[.int .i64 0,.slice none 0 0,.slice none 0 0] 26;have sW:W.heap.size=w0.heap.size+1:=by rw[hW];simp
 have KR:=h_ kR;have G0:=h_ g0;clear kR g0;go_enter Tryz.func52,Tryz.ntmps52
 go_wp2_with fail
 all_goals rw[←hW];clear hW
 all_goals (refine (M3_ _ _ (by decide)).mono ?_;rintro e w1 ⟨v1,b1,q,rfl,hQ1,hf,ht,hb1⟩)
 all_goals (
  obtain⟨A,c,C,d,rfl⟩:=hQ1.form;obtain⟨W2,hW2,ga,kq⟩:=b_1 w1 #[.int .i64 q.v,.slice A q.f.length c,.slice C q.t.length d] 26;have g2:=b0_ hb1 ga;have k2:=KR.out.call g2;have fr:=k2.frozen;obtain⟨r0,r1,r2⟩:=c_3 k2;obtain⟨q0,q1,q2⟩:=c_3 kq;have s1:=hb1.size;have hne:w0.heap.size<w1.heap.size:=by omega
  have gw:=G0.out.trans (g2.mono (by omega));have hc3:=((a5_ (lo:=w0.heap.size) (hi:=w0.heap.size+1) (w:=W2) (p:=⟨w0.heap.size,0,none⟩) (u:=.int .i64 q.v) (l_ _) (m0_ _)).trans (a5_ (p:=⟨w0.heap.size,1,none⟩) (u:=.slice A q.f.length c) (l_ _) (m0_ _))).trans (a5_ (p:=⟨w0.heap.size,2,none⟩) (u:=.slice C q.t.length d) (l_ _) (m0_ _));have OF:=h_ (((hQ1.below ga).chg hc3 (.inr (by omega))).wid (lo':=w0.heap.size) (hi':=W2.heap.size) (by omega) ga.size);have GS:=h_ (gw.trans (hc3.below (l_ _) gw.size));have HL:=h_ (And.intro hf ht);clear gw hc3 hf ht k2 kq g2 ga hb1 hQ1;go_wp2;clear hW2;exact bodyPost_ret (v:=.tuple #[.agg #[.int .i64 q.v,.slice A q.f.length c,.slice C q.t.length d],.bool b1]) (by simp[results,go_sem,r0,r1,r2]) rfl ⟨_,_,q,rfl,by simpa using OF.out,HL.out.1,HL.out.2,GS.out⟩)
def NS.stableK (s:NS) (kc:Nat):Prop :=
 match s with
 | .eq _=>True
 | .rel R=>∀ x w w',R x w→Ck kc w w'→R x w'
theorem NS.holds_stableK {kc:Nat} {s:NS} (h:s.stableK kc) {i:Nat} {D:List Nat} {x:Gh} {w w':World} (hh:s.holds i D x w) (hb:Ck kc w w'):s.holds i D x w':=by
 cases s with
 | eq f=>exact hh
 | rel R=>exact h _ _ _ hh hb
section
variable {P:Program}
section
variable {ops:Array Oper} {Q:Exit→Act→World→Prop} {sp:List NS} {D:List (List Nat)} {m:Nat} {a0:Act} {w0:World}
def b0Z (kc:Nat) (P:Program) (ops:Array Oper) (sp:List NS) (D:List (List Nat)) (a0:Act) (w0:World) (i:Nat) (o:Oper):Prop :=
 ∀ (x:Gh) (w:World),Ck kc w0 w→(∀ j∈D.getD i [],k1_ sp D x j w∧x.hi j≤w.heap.size)→∀ Q':Exit→Act→World→Prop,
  (∀ u w',Ck kc w w'→(sp.getD i (.eq undef)).holds i (D.getD i []) (x.set i u w.heap.size w'.heap.size) w'→Q' .normal ((c5_ ops a0 x.v i).put o.dst u) w')→wpList P ops Q' [o] (c5_ ops a0 x.v i) w
theorem d6J {kc:Nat} (hB:netB ops D m=true) (hst:∀ s∈sp,s.stableK kc) (hdo:∀ i o,i<m→ops[i]?=some o→b0Z kc P ops sp D a0 w0 i o)
  (hend:∀ x w,Ck kc w0 w→(∀ i,i<m→k1_ sp D x i w)→(∀ i,i<m→w0.heap.size≤x.lo i∧x.lo i≤x.hi i∧x.hi i≤w.heap.size)→(∀ i j,i<m→j<m→i≠j→x.hi i≤x.lo j∨x.hi j≤x.lo i)→wpList P ops Q (ops.toList.drop m) (c5_ ops a0 x.v m) w) :
  ∀ (fuel:Nat) (listed:Array Bool) (x:Gh) (w:World),((List.range ops.size).filter fun j=>!listed.getD j false).length=fuel→listed.size=ops.size→(∀ j,m≤j→listed.getD j false=false) →
   (∀ i,listed.getD i false=true→∀ j∈D.getD i [],listed.getD j false=true)→Ck kc w0 w→(∀ i,listed.getD i false=true→k1_ sp D x i w)→(∀ i,listed.getD i false=true→w0.heap.size≤x.lo i∧x.lo i≤x.hi i∧x.hi i≤w.heap.size) →
   (∀ i j,listed.getD i false=true→listed.getD j false=true→i≠j→x.hi i≤x.lo j∨x.hi j≤x.lo i) →
   wpAny P .any ops Q fuel listed (actP ops a0 x.v (fun j=>listed.getD j false) ops.size) w:=by
 simp only[netB,l9_,decide_eq_true_eq]at hB;obtain⟨⟨hm,hns⟩,hnf⟩:=hB;have hok:∀ i o,ops[i]?=some o→NetOk ops D m i o:=fun i o ho=>t4_ (by
  have:=m7_ ops.toList 0 hnf i o (by simpa using ho);simpa using this)
 have hst':∀ i,(sp.getD i (.eq undef)).stableK kc:=fun i=>by
  rw[l1_];rcases h:sp[i]? with _ | s
  ·trivial
  ·exact hst s (l4_ h)
 intro fuel;induction fuel with
 | zero =>
  intro listed x w hc hls hlm hcl hb hkn hiv hdj;have hall:∀ j,j<ops.size→listed.getD j false=true:=fun j hj=>by
   rw[List.length_eq_zero_iff,List.filter_eq_nil_iff]at hc;have:=hc j (List.mem_range.2 hj);simpa using this
  have hms:m=ops.size:=by
   rcases Nat.lt_or_ge m ops.size with h | h
   ·have:=hall m h;rw[hlm m (l_ _)]at this;cases this
   ·omega
  refine p4_ hok 0 ops.size listed _ w (by omega) (by omega) hls (fun j=>?_) ?_
  ·by_cases hj:j<ops.size
   ·rw[hall j hj];simp[hj]
   ·rw[hlm j (by omega)];simp[hj]
  ·have:=hend x w hb (fun i hi=>hkn i (hall i (by omega))) (fun i hi=>hiv i (hall i (by omega))) (fun i j hi hj=>hdj i j (hall i (by omega)) (hall j (by omega)));rw[←f6_ (p:=fun j=>listed.getD j false) m (fun j hj=>hall j (by omega))]at this;rwa[hms]at this
 | succ fuel ih =>
  intro listed x w hc hls hlm hcl hb hkn hiv hdj;by_cases hfull:∀ j,j<m→listed.getD j false=true
  · -- the tail
   have hl:∀ j,listed.getD j false=decide (j<m):=fun j=>by
    by_cases hj:j<m
    ·rw[hfull j hj];simp[hj]
    ·rw[hlm j (by omega)];simp[hj]
   have hcnt:fuel+1+m=ops.size:=by
    rw[←hc];have e:(List.range ops.size).filter (fun j=>!listed.getD j false)=(List.range' m (ops.size-m)):=by
     have e1:(List.range ops.size)=List.range m ++ List.range' m (ops.size-m):=by
      have h:=List.range'_append_1 (s:=0) (m:=m) (n:=ops.size-m);rw[Nat.zero_add]at h;rw[List.range_eq_range',List.range_eq_range',h];congr 1
      omega
     rw[e1,List.filter_append];rw[List.filter_eq_nil_iff.2 (fun j hj=>by rw[hl];simp at hj⊢;exact hj),List.nil_append];rw[List.filter_eq_self.2 (fun j hj=>by rw[hl];simp[List.mem_range']at hj⊢;omega)]
    rw[e,List.length_range'];omega
   refine p4_ hok (fuel+1) m listed _ w (by omega) (l_ _) hls hl ?_;have:=hend x w hb (fun i hi=>hkn i (hfull i hi)) (fun i hi=>hiv i (hfull i hi)) (fun i j hi hj=>hdj i j (hfull i hi) (hfull j hj));rw[←f6_ (p:=fun j=>listed.getD j false) m hfull]at this;rwa[f5_ (p:=fun j=>listed.getD j false) ops.size m hm (fun j h1 _=>hlm j h1)]
  · -- one of the net
   have hne:Region.ready .any ops listed≠[]:=by
    intro h0;have:∀ n,∀ j,j<n→j<m→listed.getD j false=true:=by
     intro n;induction n with
     | zero=>intro j hj;omega
     | succ n ihn =>
      intro j hj hjm;by_cases e:j<n
      ·exact ihn j e hjm
      ·rcases hlj:listed.getD j false with _ | _
       ·exfalso
        have hjs:j<ops.size:=by omega
        have hje:=l8_ hjs;have:j∈Region.ready .any ops listed:=mem_ready.2 ⟨by
         rw[←hlj];simp[m2_,l8_ (show j<listed.size by omega)],_,hje,fun e he hb=>by
         have:=(hok j _ hje).direct e he hb;exact ihn e.on (by omega) (by omega)⟩
        rw[h0]at this;cases this
       ·rfl
    exact hfull fun j hj=>this (j+1) j (by omega) hj
   refine⟨fun h0=>absurd h0 hne,fun i hi=>?_⟩;obtain⟨h0,o,ho,hall⟩:=mem_ready.1 hi;have his:=(Array.getElem?_eq_some_iff.1 ho).1;have hO:=hok i o ho;have hDl:∀ j∈D.getD i [],listed.getD j false=true:=hO.danc (fun j=>listed.getD j false=true) hall (fun k hk j hj=>hcl k hk j hj);have him:i<m:=by
    rcases Nat.lt_or_ge i m with h | h
    ·exact h
    ·exact absurd (fun j hj=>hDl j (hO.tail h j (by omega))) hfull
   have hli:listed.getD i false=false:=by
    rw[←h0];simp[m2_,l8_ (show i<listed.size by omega)]
   have hpre:=hdo i o him ho x w hb (fun j hj=>⟨hkn j (hDl j hj),(hiv j (hDl j hj)).2.2⟩) (fun e b w'=>e = .normal∧∃ u,b=(c5_ ops a0 x.v i).put o.dst u∧(Ck kc w w'∧(sp.getD i (.eq undef)).holds i (D.getD i []) (x.set i u w.heap.size w'.heap.size) w'))
    (fun u w' h1 h2=>⟨rfl,u,rfl,h1,h2⟩)
   have hwant:∀ b:Act,Region.wanted o (yielded ops b.tmps)=true:=fun b=>by simp[Region.wanted,hO.guard]
   have hnl:¬ LetsOut (fun (e:Exit) (b:Act) (w':World)=>e = .normal∧∃ u,b=(c5_ ops a0 x.v i).put o.dst u∧(Ck kc w w'∧(sp.getD i (.eq undef)).holds i (D.getD i []) (x.set i u w.heap.size w'.heap.size) w')):=by
    rintro⟨b,w',h,_⟩;cases h
   simp only[wpList,hwant,if_true]at hpre;rcases hpre with hpre | hpre
   case inr=>exact absurd hpre.2 hnl
   simp only[true_and]at hpre;have hexec:execOp (actP ops a0 x.v (fun j=>listed.getD j false) ops.size).eval o=execOp (c5_ ops a0 x.v i).eval o:=by
    refine execOp_congr o (fun cs b=>Region.noSelect_spec hns i o cs b ho) fun y hx=>?_
    by_cases hxt:∃ t,y = .tmp t
    ·obtain⟨t,rfl⟩:=hxt;have hlook:t∈o.looksAt ops:=List.mem_append_left _ (List.mem_filterMap.2 ⟨.tmp t,by simpa using hx,rfl⟩);have e1:c5_ ops a0 x.v i=actP ops a0 x.v (fun j=>decide (j<i)) ops.size:=by
      rw[f5_ (p:=fun j=>decide (j<i)) ops.size i (by omega) (fun j h1 _=>by simp;omega)];exact (f6_ (p:=fun j=>decide (j<i)) i (fun j hj=>by simp[hj])).symm
     rw[e1];refine p8_ t ops.size fun j hj hd=>?_
     rcases hO.looks j t hd hlook with h | h
     ·rw[hDl j h];have:=hO.dlt j h;simp[this]
     ·have hlt:=(hok j _ (l8_ hj)).dlt i h;have:listed.getD j false=false:=by
       rcases hlj:listed.getD j false with _ | _
       ·rfl
       ·have:=hcl j hlj i h;rw[hli]at this;cases this
      rw[this];simp;omega
    ·exact p5_ y (fun t h=>hxt ⟨t,h⟩) _ _
   have hsz:(c5_ ops a0 x.v i).tmps.size=(actP ops a0 x.v (fun j=>listed.getD j false) ops.size).tmps.size:=by
    rw[g7_,←f6_ (p:=fun _=>true) i (fun _ _=>rfl),g7_]
   have hT:=o1_ (Q2:=Q) hexec hsz (fun c b w' h=>by cases h.1) hnl hpre;unfold wpOp;simp only[ho,hwant,if_true];refine .inl (Oper.wp_mono ?_ hT);rintro b w' ⟨u,rfl,hbw,hh⟩;have hdst:o.dst=j6_ ops i:=by simp[j6_,ho]
   have hlq:∀ j,(listed.setIfInBounds i true).getD j false=(listed.getD j false || j == i):=fun j=>by
    by_cases e:i=j
    ·subst e;simp[m2_,Array.getElem?_setIfInBounds,hls,his]
    ·rw[getD_set_ne _ e];simp[Ne.symm e]
   rw[hdst,u0_ (v':=(x.set i u w.heap.size w'.heap.size).v) (q:=fun j=>(listed.setIfInBounds i true).getD j false) (fun j hj _=>by simp[Gh.set,hj]) (by simp[Gh.set]) hli hlq (fun j d hij hlj hdj hdi=>by
    rcases hO.dsts j d (by omega) hdj hdi with h | h
    ·have:=hO.dlt j h;omega
    ·have:=hcl j hlj i h;rw[hli]at this;cases this) ops.size his]
   refine ih _ _ _ ?_ (by simpa using hls) (fun j hj=>by rw[hlq,hlm j hj];simp;omega) (fun k hk j hj=>?_) (hb.trans hbw) (fun k hk=>?_) (fun k hk=>?_) (fun k j hk hj hkj=>?_)
   · -- the count
    have hmem:i∈(List.range ops.size).filter fun j=>!listed.getD j false:=by
     rw[List.mem_filter];exact⟨List.mem_range.2 his,by rw[hli];rfl⟩
    have e:(List.range ops.size).filter (fun j=>!(listed.setIfInBounds i true).getD j false)=((List.range ops.size).filter fun j=>!listed.getD j false).filter (fun j=>j != i):=by
     rw[List.filter_filter];congr 1
     funext j
     rw[hlq];simp[Bool.not_or,Bool.and_comm,bne]
    have hnd:((List.range ops.size).filter fun j=>!listed.getD j false).Nodup:=List.nodup_range.filter _;rw[e];have:=List.length_erase_of_mem hmem;rw[hnd.erase_eq_filter,hc]at this;simpa using this
   ·rw[hlq]at hk⊢;simp only[Bool.or_eq_true,beq_iff_eq]at hk⊢;rcases hk with hk | rfl
    ·exact .inl (hcl k hk j hj)
    ·exact .inl (hDl j hj)
   ·rw[hlq]at hk;simp only[Bool.or_eq_true,beq_iff_eq]at hk;unfold k1_;by_cases e:k=i
    ·subst e;exact hh
    ·rcases hk with hk | hk
     ·refine NS.holds_congr (x:=x) (fun j hj=>?_) (NS.holds_stableK (hst' k) (hkn k hk) hbw);have hji:j≠i:=by
       rcases hj with rfl | hj
       ·exact e
       ·rintro rfl;have:=hcl k hk j hj;rw[hli]at this;cases this
      simp[Gh.set,hji]
     ·exact absurd hk e
   ·rw[hlq]at hk;simp only[Bool.or_eq_true,beq_iff_eq]at hk;by_cases e:k=i
    ·subst e;simp only[Gh.set,if_true];exact⟨hb.size,hbw.size,l_ _⟩
    ·have:=hiv k (hk.resolve_right e);have:=hbw.size;simp only[Gh.set,if_neg e];omega
   ·rw[hlq]at hk hj;simp only[Bool.or_eq_true,beq_iff_eq]at hk hj;by_cases e:k=i
    ·subst e;have:=hiv j (hj.resolve_right (Ne.symm hkj));simp only[Gh.set,if_true,if_neg (Ne.symm hkj)];exact .inr (by omega)
    ·by_cases e':j=i
     ·subst e';have:=hiv k (hk.resolve_right e);simp only[Gh.set,if_true,if_neg e];exact .inl (by omega)
     ·simp only[Gh.set,if_neg e,if_neg e'];exact hdj k j (hk.resolve_right e) (hj.resolve_right e') hkj
def F4_ (kc:Nat):List NS→Prop
 | []=>True
 | s :: l=>s.stableK kc∧F4_ kc l
theorem w6_ {kc:Nat}:∀ {l:List NS},F4_ kc l→∀ s∈l,s.stableK kc
 | [],_,s,hs=>by simp at hs
 | a :: l,h,s,hs=>by
  rcases List.mem_cons.1 hs with rfl | hs
  ·exact h.1
  ·exact w6_ h.2 s hs
def a4q (kc:Nat) (P:Program) (ops:Array Oper) (sp:List NS) (D:List (List Nat)) (a0:Act) (w0:World):Nat→List Oper→Prop
 | _,[]=>True
 | i,o :: l=>b0Z kc P ops sp D a0 w0 i o∧a4q kc P ops sp D a0 w0 (i+1) l
theorem G4_ {kc:Nat} {ops:Array Oper} {sp:List NS} {D:List (List Nat)} {a0:Act} {w0:World}:∀ (l:List Oper) (k:Nat),a4q kc P ops sp D a0 w0 k l→∀ j o,l[j]?=some o→b0Z kc P ops sp D a0 w0 (k+j) o
 | [],_,_,_,_,h=>by simp at h
 | x :: l,k,h,0,o,hj=>by
  simp at hj;subst hj;exact h.1
 | x :: l,k,h,j+1,o,hj=>by
  have:=G4_ l (k+1) h.2 j o (by simpa using hj);rwa[show k+1+j=k+(j+1) by omega]at this
theorem d6_ {kc:Nat} {i:Nat} {R:Value→Nat→Nat→World→Prop} (h:∀ u lo hi w w',R u lo hi w→Ck kc w w'→R u lo hi w'):(rel i R).stableK kc:=fun v w w' hr hb=>h _ _ _ _ _ hr hb
theorem g3_ (kc:Nat) {id:Nat} {l:List Oper} {w:World} (hmo:P.follows .mixedOrders=true) (sp:List NS) (D:List (List Nat)) (m:Nat) (hB:netB l.toArray D m=true) (hst:F4_ kc sp)
  (hdo:a4q kc P l.toArray sp D a0 w 0 (l.take m))
  (hend:∀ x w',Ck kc w w'→(∀ i,i<m→k1_ sp D x i w')→(∀ i,i<m→w.heap.size≤x.lo i∧x.lo i≤x.hi i∧x.hi i≤w'.heap.size)→(∀ i j,i<m→j<m→i≠j→x.hi i≤x.lo j∨x.hi j≤x.lo i)→wpList P l.toArray Q (l.drop m) (c5_ l.toArray a0 x.v m) w'):(Code.region id l.toArray true).wp P Q a0 w:=by
 replace hst:=w6_ hst;have hdo:∀ i o,i<m→l[i]?=some o→b0Z kc P l.toArray sp D a0 w.drew i o:=fun i o hi ho=>by
  have:=G4_ (l.take m) 0 hdo i o (by rw[List.getElem?_take,if_pos hi];exact ho);rw[Nat.zero_add]at this;exact fun v w1 hb=>this v w1 ⟨hb.os,hb.tape,hb.output,hb.size,hb.block,hb.keep⟩
 refine wp_region_any hmo ?_;have h:=d6J (w0:=w.drew) (a0:=a0) (Q:=Q) (P:=P) (sp:=sp) hB hst (fun i o hi ho=>hdo i o hi (by simpa using ho)) (fun x w' hb hk hiv hdj=>by simpa using hend x w' (show Ck kc w w' from ⟨hb.os,hb.tape,hb.output,hb.size,hb.block,hb.keep⟩) hk hiv hdj)
  l.toArray.size (Array.replicate l.toArray.size false) ⟨fun _=>undef,fun _=>0,fun _=>0⟩ w.drew
  (by rw[List.filter_eq_self.2 (fun j _=>by rw[b3_];rfl),List.length_range])
  (by simp) (fun j _=>b3_ _ _)
  (fun i hi=>by rw[b3_]at hi;cases hi)
  (Ck.refl _ _)
  (fun i hi=>by rw[b3_]at hi;cases hi)
  (fun i hi=>by rw[b3_]at hi;cases hi)
  (fun i j hi=>by rw[b3_]at hi;cases hi)
 have e:actP l.toArray a0 (fun _=>undef) (fun j=>(Array.replicate l.toArray.size false).getD j false) l.toArray.size=a0 :=
  f5_ l.toArray.size 0 (by omega) (fun j _ _=>b3_ _ _)
 rw[e]at h;exact h
end
end
theorem a3j (w0:World) :
  Calls Tryz.prog 140 #[] w0 fun e w'=>∃ g cs,e = .returned (.slice (some ⟨g,0,none⟩) 12 12)∧w0.heap.size≤g∧Blk w' g 9 cs∧(∀ i,i<12→∃ s:ByteArray,cs[i]?=some (.string s))∧Below w0.heap.size w0 w':=by
 go_enter Tryz.func140,Tryz.ntmps140
 go_wp2;go_ret
 refine⟨_,_,rfl,l_ _,Blk.new _ _ _,fun i hi=>?_,a0_ _ _⟩
 match i,hi with
 | 0,_=>exact⟨_,rfl⟩
 | 1,_=>exact⟨_,rfl⟩
 | 2,_=>exact⟨_,rfl⟩
 | 3,_=>exact⟨_,rfl⟩
 | 4,_=>exact⟨_,rfl⟩
 | 5,_=>exact⟨_,rfl⟩
 | 6,_=>exact⟨_,rfl⟩
 | 7,_=>exact⟨_,rfl⟩
 | 8,_=>exact⟨_,rfl⟩
 | 9,_=>exact⟨_,rfl⟩
 | 10,_=>exact⟨_,rfl⟩
 | 11,_=>exact⟨_,rfl⟩
 | i+12,h=>omega
theorem T7_ (c:Nat) (w0:World) (hc:Cur w0 c) :
  Calls Tryz.prog 111 #[.pointer (some ⟨c,0,none⟩)] w0 fun e w'=>∃ v q,e = .returned v∧i7_ w' w0.heap.size w'.heap.size v q∧q.f.length≤61∧q.t.length≤61∧Ck c w0 w':=by
 have hcl:=hc.lt;obtain⟨W,hW⟩:∃ W,W=w0.alloc (.cells #[.int .i64 0,.slice none 0 0,.slice none 0 0] 26):=⟨_,rfl⟩;have g0:Ck c w0 W:=by rw[hW];exact Ck.of_below (a0_ _ _)
 have kR:Blk W w0.heap.size 26 #[.int .i64 0,.slice none 0 0,.slice none 0 0]:=by rw[hW];exact Blk.new _ _ _
 have sW:W.heap.size=w0.heap.size+1:=by rw[hW];simp
 have hcw:w0.heap.size≠c:=by omega
 have KR:=h_ kR;have G0:=h_ g0;have HC:=h_ hc;clear kR hc;go_enter Tryz.func111,Tryz.ntmps111
 go_wp2_with fail
 rw[←hW];clear hW;refine (p6_ c 2 _ (g0.keep HC.out) ⟨by omega,by omega⟩).mono ?_;rintro e w1 ⟨b,rfl,hb1⟩;have hC1:=h_ ((g0.trans hb1).keep HC.out);have s1:=hb1.size;have HB1:=h_ hb1;clear hb1 g0;rcases b with _ | _
 · -- by arrows
  go_wp2_with fail
  refine (d3_ c 4 _ hC1.out ⟨by omega,by omega⟩).mono ?_;rintro e w2 ⟨r,hr,_,rfl,hb2⟩;have hr4:r<4:=by omega
  have hC2:=h_ (hb2.keep hC1.out);have HB2:=h_ (HB1.out.trans hb2);have s2:=hb2.size;obtain⟨V,hV⟩:∃ V:Nat,V=1+r:=⟨_,rfl⟩;obtain⟨W3,hW3⟩:=e_ (((w2.alloc (.cells #[] 3)).alloc (.cells #[] 3)).alloc (.cells #[.int .i64 (1+(r:Int)),.slice (some ⟨w2.heap.size,0,none⟩) 0 0,.slice (some ⟨w2.heap.size+1,0,none⟩) 0 0] 26));have gb:Below w2.heap.size w2 W3:=by rw[←hW3];exact (((Below.refl _ _).alloc (l_ _) _).alloc (by simp) _).alloc (by simp;omega) _
  have hG:GQ W3 w2.heap.size (w2.heap.size+1+1) (1+(r:Int)) (some ⟨w2.heap.size,0,none⟩) 0 (some ⟨w2.heap.size+1,0,none⟩) 0 [] []:=by
   rw[←hW3];refine⟨?_,?_,⟨by omega,by omega⟩,by simp;omega⟩
   ·have:=Blk.new ((w2.alloc (.cells #[] 3)).alloc (.cells #[] 3)) 26 #[.int .i64 (1+(r:Int)),.slice (some ⟨w2.heap.size,0,none⟩) 0 0,.slice (some ⟨w2.heap.size+1,0,none⟩) 0 0];simp only[l3_]at this;exact this
   ·have h:=X2_ w2 (lo:=w2.heap.size) (l_ _);exact (h.below (a0_ _ _)).mono (l_ _) (by simp)
  have hC3:=h_ ((Ck.of_below (c:=c) gb).keep hC2.out);have HB3:=h_ (HB2.out.trans (Ck.of_below gb));have HG3:=h_ hG;clear hb2 gb hG;go_wp2_with fail
  refine (d3_ c 5 _ hC3.out ⟨by omega,by omega⟩).mono ?_;rintro e w4 ⟨m,hm,_,rfl,hb4⟩;clear hW3;have hm4:m≤4:=by omega
  have hcl2:c<w2.heap.size:=by have:=HB2.out.size;omega
  have hgc:w2.heap.size+1+1≠c:=by omega
  have hC4:=hb4.keep hC3.out;have hG4:=HG3.out.ck hb4 hcl2 hgc;have hB4:=HB3.out.trans hb4;clear hb4;go_wp2;go_loopw [6] (fun nv wr=>∃ (k cA d:Nat) (A C:Option Addr) (F T:List Int),k≤4∧nv = .int .i64 k∧F.length+k≤4∧T.length+k≤4∧Cur wr c∧Ck c W wr∧GQ wr w2.heap.size (w2.heap.size+1+1) (1+(r:Int)) A cA C d F T) (fun nv _=>(intOf nv).toNat)
  case atStart=>exact⟨m,0,0,_,_,[],[],hm4,rfl,by simpa using hm4,by simpa using hm4,hC4,hB4,hG4⟩
  case round =>
   clear hC4 hB4 hG4 hm;obtain⟨k,cA,d,A,C,F,T,hk,rfl,hF,hT,hC,hB,hG⟩:=hrel;have q0:=hG.1.cell' (i:=0) rfl;by_cases hgo:0<k∧0<r
   ·obtain⟨hk0,hr0⟩:=hgo;have HC:=h_ hC;have HB:=h_ hB;have HG:=h_ hG;clear hC hB hG;go_wp2_with fail
    refine (d3_ c _ _ HC.out ⟨by omega,by omega⟩).mono ?_;rintro e w5 ⟨a,ha,_,rfl,hb5⟩;have ha4:a≤4:=by omega
    have HC5:=h_ (hb5.keep HC.out);have HB5:=h_ (HB.out.trans hb5);have hG5:=HG.out.ck hb5 hcl2 hgc;have gX:=a0_ w5 (.cells #[.int .i64 (a:Int)] 3);have kX:=Blk.new w5 3 #[.int .i64 (a:Int)];have hGX:=hG5.below gX;have HGX:=h_ hGX;have hfa:OwnI (w5.alloc (.cells #[.int .i64 (a:Int)] 3)) w2.heap.size (.slice A F.length cA) F:=(hGX.2.1.1 (_,F) (by simp)).1;have HFA:=h_ hfa;have HKX:=h_ kX;have q1:=hG5.1.cell' (i:=1) rfl;have HBX:=h_ (HB5.out.trans (Ck.of_below gX));have HCX:=h_ ((Ck.of_below (c:=c) gX).keep HC5.out);clear q0 hb5 hG5 gX kX hGX hfa
    (go_wp2_with (at_builtin;refine Hold.stop ?_));unfold Hold
    refine d7_ (by rfl) (.tmp 43) (.tmp 45) (by rfl) w2.heap.size (w5.alloc (.cells #[.int .i64 (a:Int)] 3)).heap.size _ F (by rfl) HFA.out (some ⟨w5.heap.size,0,none⟩) 1 1 [(a:Int)] (by rfl) rfl (N0_ HKX.out ⟨by omega,by omega⟩) (by simp;omega) HGX.out.2.2.2 ?_;intro v3 w3 ho3 hg3 hv3;obtain⟨A3,c3,rfl,_⟩:=ho3.form;obtain⟨nA3,hnA3⟩:=e_ ((F ++ [(a:Int)]).length);rw[hnA3]at ho3 hv3⊢;obtain⟨hB3,hG3,hb3⟩:=HGX.out.setF ho3 hnA3.symm hg3 hv3;have z1:=hB3.cell' (i:=1) rfl;have fz:=hB3.frozen;obtain⟨W3',hW3⟩:=e_ (w3.setCell ⟨w2.heap.size+1+1,1,none⟩ (.slice A3 nA3 c3));rw[hW3]at hG3;have hch:Chg (w2.heap.size+1+1) (w2.heap.size+1+1+1) w3 W3':=by rw[←hW3];exact a5_ (l_ _) (m0_ _)
    have hbw3:=hb3.size;have hlow:Below w2.heap.size (w5.alloc (.cells #[.int .i64 (a:Int)] 3)) W3':=hb3.trans (hch.below (by omega) (by have:=HGX.out.2.2.2;omega));have HB6:=h_ (HBX.out.low hlow (by have:=HB2.out.size;omega) hcl2);have HC6:=h_ (HCX.out.below hlow hcl2);have HG6:=h_ hG3;have hF1:(F ++ [(a:Int)]).length+(k-1)≤4:=by simp;omega
    have HF1:=h_ hF1;have GB6:=h_ hG3.1;clear hnA3 hB3 hG3 hb3 ho3 hg3 hv3 hch hlow q1 HGX HFA HKX HBX HCX hF1 hF;go_wp2;clear hW3 z1 fz;refine g3_ (c) (by kernel_rfl) [.eq (.pointer (some ⟨w2.heap.size+1+1,2,none⟩)),.eq (.slice C T.length d),.eq (.int .i64 a),.eq (.int .i64 ((a:Int)+1)),.eq (.pointer (some ⟨c,0,none⟩)),.eq (.pointer (some ⟨w2.heap.size+1+1,0,none⟩)),.eq (.int .i64 (1+(r:Int))),.eq (.int .i64 (1+(r:Int)-1)),.eq (.int .i64 a),.eq (.int .i64 (1+(r:Int)-1-a)),rel 10 (fun u lo hi w=>∃ i:Nat,u = .int .i64 i∧i≤10),rel 11 (fun u lo hi w=>∃ i:Nat,u = .int .i64 i∧i≤20),rel 12 (fun u lo hi w=>∃ (g i:Nat),u = .slice (some ⟨g,0,none⟩) 1 1∧Blk w g 3 #[.int .i64 i]∧i≤20∧c<g)] [[],[0],[],[2],[],[],[5],[5,6],[],[5,6,7,8],[4,5,6,7,8,9],[2,3,4,5,6,7,8,9,10],[2,3,4,5,6,7,8,9,10,11],[0,1,2,3,4,5,6,7,8,9,10,11,12],[0,1,2,3,4,5,6,7,8,9,10,11,12,13],[0,1,2,3,4,5,6,7,8,9,10,11,12,13,14]] 13 (by kernel_rfl) ⟨trivial,trivial,trivial,trivial,trivial,trivial,trivial,trivial,trivial,trivial,d6_ (fun u lo hi w w' h hb=>h),d6_ (fun u lo hi w w' h hb=>h),d6_ (fun u lo hi w w' ⟨g,i,e,h,h2,h3⟩ hb=>⟨g,i,e,h.ck hb (by omega),h2,h3⟩),trivial⟩ ⟨?_,?_,?_,?_,?_,?_,?_,?_,?_,?_,?_,?_,?_,trivial⟩ ?_;iterate 13 (intro x w hb hk Q' hQ;have he:=k_e hk;simp only[k_s]at he;simp only[netE]at hQ⊢;(try simp only[he]at hQ⊢);(try clear he);rotate_left)
    rotate_left
    ·clear hk;go_wp2;exact hQ _ _ (Ck.refl _ _) rfl
    ·clear hk;have z:=(GB6.out.ck hb hgc).cell' (i:=2) rfl;go_wp2;exact hQ (.slice C T.length d) _ (Ck.refl _ _) rfl
    iterate 4 (· clear hk;go_wp2;exact hQ _ _ (Ck.refl _ _) rfl)
    ·clear hk;have z:=(GB6.out.ck hb hgc).cell' (i:=0) rfl;go_wp2;exact hQ (.int .i64 (1+(r:Int))) _ (Ck.refl _ _) rfl
    iterate 3 (· clear hk;go_wp2;exact hQ _ _ (Ck.refl _ _) rfl)
    ·clear hk;go_wp2_with fail
     refine (d3_ c _ _ (hb.keep HC6.out) ⟨by omega,by omega⟩).mono ?_;rintro e w7 ⟨i,hi,_,rfl,hb7⟩;go_wp2;exact hQ _ _ hb7 ⟨i,rfl,by omega⟩
    ·have h10:∃ i:Nat,(x.v 10) = .int .i64 i∧i≤10:=(hk 10 (by decide)).1;have s10:=(hk 10 (by decide)).2;clear hk;obtain⟨i,e,hi⟩:=h10;have hQ':=hQ (.int .i64 ((a:Int)+1+i)) w (Ck.refl _ _) ⟨a+1+i,by push_cast;rfl,by omega⟩;rw[e]at hQ'⊢;go_wp2;exact hQ'
    ·have h10:∃ i:Nat,(x.v 10) = .int .i64 i∧i≤10:=(hk 10 (by decide)).1;have h11:∃ i:Nat,(x.v 11) = .int .i64 i∧i≤20:=(hk 11 (by decide)).1;have s10:=(hk 10 (by decide)).2;have s11:=(hk 11 (by decide)).2;clear hk;obtain⟨i,e,hi⟩:=h11;have hcw:c<w.heap.size:=(hb.keep HC6.out).lt;rw[e]at hQ⊢;go_wp2;exact hQ _ _ (Ck.of_below (a0_ _ _)) ⟨_,_,rfl,Blk.new _ _ _,hi,hcw⟩
    ·intro x w hb hk hiv hdj;have h10:∃ i:Nat,(x.v 10) = .int .i64 i∧i≤10:=hk 10 (by decide);have h11:∃ i:Nat,(x.v 11) = .int .i64 i∧i≤20:=hk 11 (by decide);have h12:∃ (g i:Nat),(x.v 12) = .slice (some ⟨g,0,none⟩) 1 1∧Blk w g 3 #[.int .i64 i]∧i≤20∧c<g:=hk 12 (by decide);have he:=k_g hk [0,1,2,3,4,5,6,7,8,9];simp only[k_s]at he;simp only[netE,he];clear he hk;obtain⟨gn,i,e12,hN,hi,_⟩:=h12;rw[e12];have hGw:=HG6.out.ck hb hcl2 hgc;have hfa:OwnI w w2.heap.size (.slice C T.length d) T:=(hGw.2.1.1 (_,T) (by simp)).1;refine d7_ (by rfl) (.tmp 49) (.tmp 60) (by rfl) w2.heap.size w.heap.size _ T (by rfl) hfa (some ⟨gn,0,none⟩) 1 1 [(i:Int)] (by rfl) rfl (N0_ hN ⟨by omega,by omega⟩) (by simp;omega) hGw.2.2.2 ?_;intro v3 w3 ho3 hg3 hv3;obtain⟨A4,c4,rfl,_⟩:=ho3.form;obtain⟨nA4,hnA4⟩:=e_ ((T ++ [(i:Int)]).length);rw[hnA4]at ho3 hv3⊢;obtain⟨hB3,hG3,hb3⟩:=hGw.setT ho3 hnA4.symm hg3 hv3;have z1:=hB3.cell' (i:=2) rfl;have fz:=hB3.frozen;obtain⟨W4,hW4⟩:=e_ (w3.setCell ⟨w2.heap.size+1+1,2,none⟩ (.slice A4 nA4 c4));rw[hW4]at hG3;have hch:Chg (w2.heap.size+1+1) (w2.heap.size+1+1+1) w3 W4:=by rw[←hW4];exact a5_ (l_ _) (m0_ _)
     have hbw3:=hb3.size;have hlow:Below w2.heap.size w W4:=hb3.trans (hch.below (by omega) (by have:=hGw.2.2.2;omega));have HB7:=h_ ((HB6.out.trans hb).low hlow (by have:=HB2.out.size;omega) hcl2);have HC7:=h_ ((hb.keep HC6.out).below hlow hcl2);have HG7:=h_ hG3;have hT1:(T ++ [(i:Int)]).length+(k-1)≤4:=by simp;omega
     have HT1:=h_ hT1;clear hnA4 hB3 hG3 hb3 ho3 hg3 hv3 hch hlow hfa hGw hN e12 hiv hdj hT1 hT;go_wp2;clear hW4 z1 fz;go_roundw
     case rel=>exact⟨k-1,c3,c4,A3,A4,_,_,by omega,by rw[show ((k-1:Nat):Int)=(k:Int)-1 by omega],HF1.out,HT1.out,HC7.out,HB7.out,HG7.out⟩
     case measure=>simp[intOf];omega
   ·have q1:=hG.1.cell' (i:=1) rfl;have q2:=hG.1.cell' (i:=2) rfl;have hne:w0.heap.size<w2.heap.size+1+1:=by have:=HB2.out.size;omega
    have hbz:=hB.size;have hlw:=hG.2.2.2;have hQq:i7_ wr w2.heap.size wr.heap.size (.agg #[.int .i64 (1+(r:Int)),.slice A F.length cA,.slice C T.length d]) ⟨1+(r:Int),F,T⟩:=hG.quiv;have hs2:=HB2.out.size;have k2:=KR.out.ck hB hcw;have fr:=k2.frozen;obtain⟨r0,r1,r2⟩:=c_3 k2;have hc3:=((a5_ (lo:=w0.heap.size) (hi:=w0.heap.size+1) (w:=wr) (p:=⟨w0.heap.size,0,none⟩) (u:=.int .i64 (1+(r:Int))) (l_ _) (m0_ _)).trans (a5_ (p:=⟨w0.heap.size,1,none⟩) (u:=.slice A F.length cA) (l_ _) (m0_ _))).trans (a5_ (p:=⟨w0.heap.size,2,none⟩) (u:=.slice C T.length d) (l_ _) (m0_ _));have OF:=h_ (((hQq).chg hc3 (.inr (by omega))).wid (lo':=w0.heap.size) (hi':=wr.heap.size) (by omega) (l_ _));have GS:=h_ ((G0.out.trans hB).low (lo:=w0.heap.size) (hc3.below (l_ _) (by omega)) (l_ _) hcl);have HL:=h_ (show F.length≤61∧T.length≤61 by omega);clear hc3 k2 hQq hG hB hC hF hT;by_cases hk0:0<k
    ·have hr0:¬ 0<r:=fun h=>hgo ⟨hk0,h⟩
     clear hgo;go_wp2;exact bodyPost_ret (v:=.agg #[.int .i64 (1+(r:Int)),.slice A F.length cA,.slice C T.length d]) (by simp[results,go_sem,r0,r1,r2]) rfl ⟨_,⟨1+(r:Int),F,T⟩,rfl,by simpa using OF.out,HL.out.1,HL.out.2,GS.out⟩
    ·clear hgo;go_wp2;exact bodyPost_ret (v:=.agg #[.int .i64 (1+(r:Int)),.slice A F.length cA,.slice C T.length d]) (by simp[results,go_sem,r0,r1,r2]) rfl ⟨_,⟨1+(r:Int),F,T⟩,rfl,by simpa using OF.out,HL.out.1,HL.out.2,GS.out⟩
 · -- by name
  go_wp2_with fail
  refine (a3j _).mono ?_;rintro e w2 ⟨g,cs,rfl,hg,kN,hcs,hb2⟩;have hC2:=h_ ((Ck.of_below (c:=c) hb2).keep hC1.out);have HB2:=h_ (HB1.out.trans (Ck.of_below hb2));have KN:=h_ kN;have hgc:g≠c:=by omega
  clear hb2 kN;go_wp2_with fail
  refine (d3_ c 10 _ hC2.out ⟨by omega,by omega⟩).mono ?_;rintro e w3 ⟨r,hr,_,rfl,hb3⟩;have hr10:r<12:=by omega
  obtain⟨s,hs⟩:=hcs r hr10;have n0:=(KN.out.ck hb3 hgc).cell' hs;have hC3:=h_ (hb3.keep hC2.out);have HB3:=h_ (HB2.out.trans hb3);clear hb3 hcs hs;go_wp2_with fail
  refine (n0_ s _).mono ?_;rintro e w4 ⟨v,b,q,rfl,hQ4,hf4,ht4,hb4⟩;obtain⟨A,cA,C,d,rfl⟩:=hQ4.form;obtain⟨W5,hW5,ga,kq⟩:=b_1 w4 #[.int .i64 q.v,.slice A q.f.length cA,.slice C q.t.length d] 26;have hb5:=HB3.out.trans ((Ck.of_below hb4).trans (Ck.of_below ga));have hQ5:=hQ4.below ga;obtain⟨q0,q1,q2⟩:=c_3 kq;have hs3:=HB3.out.size;have hs4:=hb4.size;have hne:w0.heap.size<w4.heap.size:=by omega
  have hsa:=ga.size;have k2:=KR.out.ck hb5 hcw;have fr:=k2.frozen;obtain⟨r0,r1,r2⟩:=c_3 k2;have hc3:=((a5_ (lo:=w0.heap.size) (hi:=w0.heap.size+1) (w:=W5) (p:=⟨w0.heap.size,0,none⟩) (u:=.int .i64 q.v) (l_ _) (m0_ _)).trans (a5_ (p:=⟨w0.heap.size,1,none⟩) (u:=.slice A q.f.length cA) (l_ _) (m0_ _))).trans (a5_ (p:=⟨w0.heap.size,2,none⟩) (u:=.slice C q.t.length d) (l_ _) (m0_ _));have hsz:=(hb5).size;have OF:=h_ ((hQ5).chg hc3 (.inr (by omega)));have GS:=h_ ((G0.out.trans hb5).low (lo:=w0.heap.size) (hc3.below (l_ _) (by omega)) (l_ _) hcl);have HL:=h_ (And.intro hf4 ht4);clear hc3 hf4 ht4 k2 kq ga hb4 hQ4 hQ5 hb5 n0;go_wp2;clear hW5;exact bodyPost_ret (v:=.agg #[.int .i64 q.v,.slice A q.f.length cA,.slice C q.t.length d]) (by simp[results,go_sem,r0,r1,r2]) rfl ⟨_,q,rfl,by have:=OF.out.wid (lo':=w0.heap.size) (hi':=W5.heap.size) (by omega) (by omega);simpa using this,HL.out.1,HL.out.2,GS.out⟩
def StrP (v:Value):Prop:=∃ s:ByteArray,v = .string s
def IntP (v:Value):Prop:=∃ x:Int,v = .int .i64 x∧I64 x
theorem Y2_ (c:Nat) (w0:World) (hc:Cur w0 c) :
  Calls Tryz.prog 68 #[.pointer (some ⟨c,0,none⟩)] w0 fun e w'=>∃ v q,e = .returned v∧i7_ w' w0.heap.size w'.heap.size v q∧q.f.length≤62∧q.t.length≤62∧Ck c w0 w':=by
 have hcl:=hc.lt;obtain⟨W,hW⟩:∃ W,W=w0.alloc (.cells #[.int .i64 0,.slice none 0 0,.slice none 0 0] 26):=⟨_,rfl⟩;have g0:Ck c w0 W:=by rw[hW];exact Ck.of_below (a0_ _ _)
 have kR:Blk W w0.heap.size 26 #[.int .i64 0,.slice none 0 0,.slice none 0 0]:=by rw[hW];exact Blk.new _ _ _
 have sW:W.heap.size=w0.heap.size+1:=by rw[hW];simp
 have hcw:w0.heap.size≠c:=by omega
 have KR:=h_ kR;have G0:=h_ g0;have HC:=h_ hc;clear kR hc;go_enter Tryz.func68,Tryz.ntmps68
 go_wp2_with fail
 rw[←hW];clear hW;refine (T7_ c _ (g0.keep HC.out)).mono ?_;rintro e w1 ⟨v,⟨V,F,T⟩,rfl,hQ1,hF,hT,hb1⟩;obtain⟨A,cA,C,d,rfl⟩:=hQ1.form;simp only at hF hT hQ1⊢;obtain⟨W2,hW2,ga,gq,hgq,kq⟩:=b_2 w1 #[.int .i64 V,.slice A F.length cA,.slice C T.length d] 26;have s1:=hb1.size;have sa:=ga.size;have hGQ:GQ W2 W.heap.size gq V A cA C d F T:=by
  obtain⟨a,b,e,hFm,hV⟩:=hQ1;simp only[Value.agg.injEq,Array.mk.injEq,List.cons.injEq,and_true,true_and]at e;obtain⟨rfl,rfl⟩:=e;exact⟨kq,(hFm.below ga).mono (l_ _) sa,hV,by omega⟩
 have hB2:=hb1.trans (Ck.of_below ga);have HC2:=h_ (hB2.keep (g0.keep HC.out));have HG2:=h_ hGQ;have HB2:=h_ hB2;have hclW:c<W.heap.size:=by omega
 have hgc:gq≠c:=by omega
 have hg0:w0.heap.size<gq:=by omega
 clear hQ1 hb1 ga kq hGQ hB2 g0;go_wp2_with fail
 clear hW2 hgq;refine (d3_ c 14 _ HC2.out ⟨by omega,by omega⟩).mono ?_;rintro e w3 ⟨r,hr,hr2,rfl,hb3⟩;have hC3:=hb3.keep HC2.out;have hG3:=HG2.out.ck hb3 hclW hgc;have hB3:=HB2.out.trans hb3;have hsz3:=hb3.size;clear hb3 HC2 HG2 HB2;by_cases h0:r=0
 ·subst h0;have HC3:=h_ hC3;have HG3:=h_ hG3;have HB3:=h_ hB3;clear hC3 hG3 hB3 hF hT;go_wp2_with fail
  obtain⟨W4,hW4,gb,kS⟩:=b_1 w3 #[.string ⟨#[108,111,111,112]⟩,.string ⟨#[99,105,114,99,108,101]⟩] 9;rw[hW4];refine (E5_ StrP c w3.heap.size 2 2 _ _ ((Ck.of_below (c:=c) gb).keep HC3.out) kS (by omega) (by omega) (by omega) (fun i hi=>?_) fun v h=>h).mono ?_
  ·match i,hi with
   | 0,_=>exact⟨_,rfl,_,rfl⟩
   | 1,_=>exact⟨_,rfl,_,rfl⟩
   | i+2,h=>omega
  rintro e w5 ⟨v,⟨s,rfl⟩,rfl,hb5⟩;have hB5:=(HB3.out.trans (Ck.of_below gb)).trans hb5;have hG5:=(HG3.out.below gb).ck hb5 hclW hgc;have HB5:=h_ hB5;have HG5:=h_ hG5;have hs5:=hb5.size;have hs4:=gb.size;clear hW4 gb kS hb5 hB5 hG5;go_wp2_with fail
  refine (n0_ s _).mono ?_;rintro e w6 ⟨v6,b6,⟨V6,F6,T6⟩,rfl,hQ6,hf6,ht6,hb6⟩;obtain⟨A6,c6,C6,d6,rfl⟩:=hQ6.form;simp only at hf6 ht6 hQ6⊢;have hG6:=HG5.out.below hb6;have hB6:=HB5.out.trans (Ck.of_below hb6);have fq:=hG6.1.frozen;obtain⟨y0,y1,y2⟩:=c_3 hG6.1;obtain⟨W7,hW7⟩:=e_ (((w6.setCell ⟨gq,0,none⟩ (.int .i64 V6)).setCell ⟨gq,1,none⟩ (.slice A6 F6.length c6)).setCell ⟨gq,2,none⟩ (.slice C6 T6.length d6));have hch:Chg gq (gq+1) w6 W7:=by rw[←hW7];exact ((a5_ (lo:=gq) (hi:=gq+1) (w:=w6) (p:=⟨gq,0,none⟩) (u:=.int .i64 V6) (l_ _) (m0_ _)).trans (a5_ (p:=⟨gq,1,none⟩) (u:=.slice A6 F6.length c6) (l_ _) (m0_ _))).trans (a5_ (p:=⟨gq,2,none⟩) (u:=.slice C6 T6.length d6) (l_ _) (m0_ _))
  have hk7:Blk W7 gq 26 #[.int .i64 V6,.slice A6 F6.length c6,.slice C6 T6.length d6]:=by rw[←hW7];exact ((hG6.1.set_ 0 _).set_ 1 _).set_ 2 _
  have hs6:=hb6.size;have hs7:=hch.size;have hgq5:gq<w5.heap.size:=HG5.out.1.lt;have hG:GQ W7 w5.heap.size gq V6 A6 c6 C6 d6 F6 T6:=by
   obtain⟨a,b,e,hFm,hV⟩:=hQ6.chg hch (.inr (by omega));simp only[Value.agg.injEq,Array.mk.injEq,List.cons.injEq,and_true,true_and]at e;obtain⟨rfl,rfl⟩:=e;exact⟨hk7,hFm.mono (l_ _) hs7,hV,by omega⟩
  have hB:Ck c W W7:=hB6.low (lo:=W.heap.size) (hch.below (by omega) (by omega)) (l_ _) hclW;have HL:=h_ (show F6.length≤62∧T6.length≤62 by omega);have HG:=h_ hG;have HB:=h_ hB;clear hk7 hch hQ6 hG6 hB6 hb6 hf6 ht6 hG hB;have hG:=HG.out;have hB:=HB.out;obtain⟨q0,q1,q2⟩:=c_3 hG.1;have hbz:=hB.size;have hlw:=hG.2.2.2;have hQq:=hG.quiv;have k2:=KR.out.ck hB hcw;have fr:=k2.frozen;obtain⟨r0,r1,r2⟩:=c_3 k2;have hc3:=((a5_ (lo:=w0.heap.size) (hi:=w0.heap.size+1) (w:=W7) (p:=⟨w0.heap.size,0,none⟩) (u:=.int .i64 V6) (l_ _) (m0_ _)).trans (a5_ (p:=⟨w0.heap.size,1,none⟩) (u:=.slice A6 (F6).length c6) (l_ _) (m0_ _))).trans (a5_ (p:=⟨w0.heap.size,2,none⟩) (u:=.slice C6 (T6).length d6) (l_ _) (m0_ _));have OF:=h_ ((hQq.chg hc3 (.inr (by omega))).wid (lo':=w0.heap.size) (hi':=W7.heap.size) (by omega) (l_ _));have GS:=h_ ((G0.out.trans hB).low (lo:=w0.heap.size) (hc3.below (l_ _) (by omega)) (l_ _) hcl);clear hc3 k2 hQq hG hB;go_wp2;clear hW7;exact bodyPost_ret (v:=.agg #[.int .i64 V6,.slice A6 (F6).length c6,.slice C6 (T6).length d6]) (by simp[results,go_sem,r0,r1,r2]) rfl ⟨_,⟨V6,F6,T6⟩,rfl,by simpa using OF.out,HL.out.1,HL.out.2,GS.out⟩
 ·by_cases h1:r=1
  ·subst h1;have HC3:=h_ hC3;have HG3:=h_ hG3;have HB3:=h_ hB3;clear hC3 hG3 hB3;go_wp2_with fail
   obtain⟨W4,hW4,gb,kS⟩:=b_1 w3 #[.int .i64 0,.int .i64 6,.int .i64 (-1),.int .i64 2] 3;rw[hW4];refine (i8_ IntP c w3.heap.size 4 4 _ _ ((Ck.of_below (c:=c) gb).keep HC3.out) kS (by omega) (by omega) (by omega) (fun i hi=>?_) fun v h=>⟨_,h.choose_spec.1⟩).mono ?_
   ·match i,hi with
    | 0,_=>exact⟨_,rfl,_,rfl,by decide,by decide⟩
    | 1,_=>exact⟨_,rfl,_,rfl,by decide,by decide⟩
    | 2,_=>exact⟨_,rfl,_,rfl,by decide,by decide⟩
    | 3,_=>exact⟨_,rfl,_,rfl,by decide,by decide⟩
    | i+4,h=>omega
   rintro e w5 ⟨v,⟨x,rfl,hx⟩,rfl,hb5⟩;have hB5:=(HB3.out.trans (Ck.of_below gb)).trans hb5;have hG5:=(HG3.out.below gb).ck hb5 hclW hgc;have fq:=hG5.1.frozen;have y0:=hG5.1.cell' (i:=0) rfl;obtain⟨W7,hW7⟩:=e_ (w5.setCell ⟨gq,0,none⟩ (.int .i64 x));have hch:Chg gq (gq+1) w5 W7:=by rw[←hW7];exact a5_ (lo:=gq) (hi:=gq+1) (w:=w5) (p:=⟨gq,0,none⟩) (u:=.int .i64 x) (l_ _) (m0_ _)
   have hG:=hG5.setV hx;rw[hW7]at hG;have hW5:=hG5.2.2.2;have hB:Ck c W W7:=hB5.low (lo:=W.heap.size) (hch.below (by omega) (by omega)) (l_ _) hclW;have HL:=h_ (show F.length≤62∧T.length≤62 by omega);clear hch hG5 hB5 hb5 gb kS hW4 hF hT;obtain⟨q0,q1,q2⟩:=c_3 hG.1;have hbz:=hB.size;have hlw:=hG.2.2.2;have hQq:=hG.quiv;have k2:=KR.out.ck hB hcw;have fr:=k2.frozen;obtain⟨r0,r1,r2⟩:=c_3 k2;have hc3:=((a5_ (lo:=w0.heap.size) (hi:=w0.heap.size+1) (w:=W7) (p:=⟨w0.heap.size,0,none⟩) (u:=.int .i64 x) (l_ _) (m0_ _)).trans (a5_ (p:=⟨w0.heap.size,1,none⟩) (u:=.slice A (F).length cA) (l_ _) (m0_ _))).trans (a5_ (p:=⟨w0.heap.size,2,none⟩) (u:=.slice C (T).length d) (l_ _) (m0_ _));have OF:=h_ ((hQq.chg hc3 (.inr (by omega))).wid (lo':=w0.heap.size) (hi':=W7.heap.size) (by omega) (l_ _));have GS:=h_ ((G0.out.trans hB).low (lo:=w0.heap.size) (hc3.below (l_ _) (by omega)) (l_ _) hcl);clear hc3 k2 hQq hG hB;go_wp2;clear hW7;exact bodyPost_ret (v:=.agg #[.int .i64 x,.slice A (F).length cA,.slice C (T).length d]) (by simp[results,go_sem,r0,r1,r2]) rfl ⟨_,⟨x,F,T⟩,rfl,by simpa using OF.out,HL.out.1,HL.out.2,GS.out⟩
  ·by_cases h2:r=2
   ·subst h2;have HC3:=h_ hC3;have HG3:=h_ hG3;have HB3:=h_ hB3;have GB3:=h_ hG3.1;clear hC3 hG3 hB3;go_wp2;obtain⟨wx,hwx⟩:∃ z,z=w3:=⟨_,rfl⟩;subst hwx;refine g3_ (c) (by kernel_rfl) [.eq (.pointer (some ⟨gq,1,none⟩)),.eq (.slice A F.length cA),.eq (.pointer (some ⟨c,0,none⟩)),rel 3 (fun u lo hi w=>∃ i:Nat,u = .int .i64 i∧i≤10),rel 4 (fun u lo hi w=>∃ y:Int,u = .int .i64 y∧I64 y),rel 5 (fun u lo hi w=>∃ (g:Nat) (y:Int),u = .slice (some ⟨g,0,none⟩) 1 1∧Blk w g 3 #[.int .i64 y]∧I64 y∧c<g)] [[],[0],[],[2],[2,3],[2,3,4],[0,1,2,3,4,5],[0,1,2,3,4,5,6],[0,1,2,3,4,5,6,7]] 6 (by kernel_rfl) ⟨trivial,trivial,trivial,d6_ (fun u lo hi w w' h hb=>h),d6_ (fun u lo hi w w' h hb=>h),d6_ (fun u lo hi w w' ⟨g,i,e,h,h2,h3⟩ hb=>⟨g,i,e,h.ck hb (by omega),h2,h3⟩),trivial⟩ ⟨?_,?_,?_,?_,?_,?_,trivial⟩ ?_;iterate 6 (intro x w hb hk Q' hQ;have he:=k_e hk;simp only[k_s]at he;simp only[netE]at hQ⊢;(try simp only[he]at hQ⊢);(try clear he);rotate_left)
    rotate_left
    ·clear hk;go_wp2;exact hQ _ _ (Ck.refl _ _) rfl
    ·clear hk;have z:=(GB3.out.ck hb hgc).cell' (i:=1) rfl;go_wp2;exact hQ (.slice A F.length cA) _ (Ck.refl _ _) rfl
    ·clear hk;go_wp2;exact hQ _ _ (Ck.refl _ _) rfl
    ·clear hk;go_wp2_with fail
     refine (d3_ c 6 _ (hb.keep HC3.out) ⟨by omega,by omega⟩).mono ?_;rintro e w7 ⟨i,hi,_,rfl,hb7⟩;go_wp2;exact hQ _ _ hb7 ⟨i,rfl,by omega⟩
    ·have h3:∃ i:Nat,(x.v 3) = .int .i64 i∧i≤10:=(hk 3 (by decide)).1;have s3:=(hk 3 (by decide)).2;clear hk;obtain⟨i,e,hi⟩:=h3;have hQ':=hQ (.int .i64 ((i:Int)-1)) w (Ck.refl _ _) ⟨_,rfl,by omega,by omega⟩;rw[e]at hQ'⊢;go_wp2;exact hQ'
    ·have h3:∃ i:Nat,(x.v 3) = .int .i64 i∧i≤10:=(hk 3 (by decide)).1;have h4:∃ y:Int,(x.v 4) = .int .i64 y∧I64 y:=(hk 4 (by decide)).1;have s3:=(hk 3 (by decide)).2;have s4:=(hk 4 (by decide)).2;clear hk;obtain⟨i,e,hi⟩:=h4;have hcw:c<w.heap.size:=(hb.keep HC3.out).lt;rw[e]at hQ⊢;go_wp2;exact hQ _ _ (Ck.of_below (a0_ _ _)) ⟨_,_,rfl,Blk.new _ _ _,hi,hcw⟩
    ·intro x w hb hk hiv hdj;have h3:∃ i:Nat,(x.v 3) = .int .i64 i∧i≤10:=hk 3 (by decide);have h4:∃ y:Int,(x.v 4) = .int .i64 y∧I64 y:=hk 4 (by decide);have h5:∃ (g:Nat) (y:Int),(x.v 5) = .slice (some ⟨g,0,none⟩) 1 1∧Blk w g 3 #[.int .i64 y]∧I64 y∧c<g:=hk 5 (by decide);have he:=k_g hk [0,1,2];simp only[k_s]at he;simp only[netE,he];clear he hk;obtain⟨gn,y,e5,hN,hy,_⟩:=h5;rw[e5];have hGw:=HG3.out.ck hb hclW hgc;have hfa:OwnI w W.heap.size (.slice A F.length cA) F:=(hGw.2.1.1 (_,F) (by simp)).1;refine d7_ (by rfl) (.tmp 26) (.tmp 30) (by rfl) W.heap.size w.heap.size _ F (by rfl) hfa (some ⟨gn,0,none⟩) 1 1 [y] (by rfl) rfl (N0_ hN hy) (by simp;omega) hGw.2.2.2 ?_;intro v3 w4 ho3 hg3 hv3;obtain⟨A4,c4,rfl,_⟩:=ho3.form;obtain⟨F4,hF4⟩:=e_ (F ++ [y]);have hFl:F4.length≤62:=by rw[←hF4];simp;omega
     rw[hF4]at ho3 hv3⊢;obtain⟨hB4,hG4,hb4⟩:=hGw.setF ho3 rfl hg3 hv3;have fz:=hB4.frozen;have z1:=hB4.cell' (i:=1) rfl;obtain⟨W7,hW7⟩:=e_ (w4.setCell ⟨gq,1,none⟩ (.slice A4 F4.length c4));rw[hW7]at hG4;have hch:Chg gq (gq+1) w4 W7:=by rw[←hW7];exact a5_ (lo:=gq) (hi:=gq+1) (w:=w4) (p:=⟨gq,1,none⟩) (u:=.slice A4 F4.length c4) (l_ _) (m0_ _)
     have hbw4:=hb4.size;have hGs:=hGw.2.2.2;have hlow:Below W.heap.size w W7:=hb4.trans (hch.below (by omega) (by omega));have hB:Ck c W W7:=(HB3.out.trans hb).low (lo:=W.heap.size) hlow (l_ _) hclW;have hG:=hG4;have HL:=h_ (show F4.length≤62∧T.length≤62 by omega);clear hF4 hB4 hG4 hb4 ho3 hg3 hv3 hch hlow hfa hGw hN e5 hiv hdj hF hFl;obtain⟨q0,q1,q2⟩:=c_3 hG.1;have hbz:=hB.size;have hlw:=hG.2.2.2;have hQq:=hG.quiv;have k2:=KR.out.ck hB hcw;have fr:=k2.frozen;obtain⟨r0,r1,r2⟩:=c_3 k2;have hc3:=((a5_ (lo:=w0.heap.size) (hi:=w0.heap.size+1) (w:=W7) (p:=⟨w0.heap.size,0,none⟩) (u:=.int .i64 V) (l_ _) (m0_ _)).trans (a5_ (p:=⟨w0.heap.size,1,none⟩) (u:=.slice A4 (F4).length c4) (l_ _) (m0_ _))).trans (a5_ (p:=⟨w0.heap.size,2,none⟩) (u:=.slice C (T).length d) (l_ _) (m0_ _));have OF:=h_ ((hQq.chg hc3 (.inr (by omega))).wid (lo':=w0.heap.size) (hi':=W7.heap.size) (by omega) (l_ _));have GS:=h_ ((G0.out.trans hB).low (lo:=w0.heap.size) (hc3.below (l_ _) (by omega)) (l_ _) hcl);clear hc3 k2 hQq hG hB;go_wp2;clear hW7;exact bodyPost_ret (v:=.agg #[.int .i64 V,.slice A4 (F4).length c4,.slice C (T).length d]) (by simp[results,go_sem,r0,r1,r2]) rfl ⟨_,⟨V,F4,T⟩,rfl,by simpa using OF.out,HL.out.1,HL.out.2,GS.out⟩
   ·have hr0:(r:Int)≠0:=by omega
    have hr1:(r:Int)≠1:=by omega
    have hr22:(r:Int)≠2:=by omega
    have hG:=hG3;have hB:=hB3;have HL:=h_ (show F.length≤62∧T.length≤62 by omega);clear hG3 hB3 hF hT hC3;obtain⟨q0,q1,q2⟩:=c_3 hG.1;have hbz:=hB.size;have hlw:=hG.2.2.2;have hQq:=hG.quiv;have k2:=KR.out.ck hB hcw;have fr:=k2.frozen;obtain⟨r0,r1,r2⟩:=c_3 k2;have hc3:=((a5_ (lo:=w0.heap.size) (hi:=w0.heap.size+1) (w:=w3) (p:=⟨w0.heap.size,0,none⟩) (u:=.int .i64 V) (l_ _) (m0_ _)).trans (a5_ (p:=⟨w0.heap.size,1,none⟩) (u:=.slice A (F).length cA) (l_ _) (m0_ _))).trans (a5_ (p:=⟨w0.heap.size,2,none⟩) (u:=.slice C (T).length d) (l_ _) (m0_ _));have OF:=h_ ((hQq.chg hc3 (.inr (by omega))).wid (lo':=w0.heap.size) (hi':=w3.heap.size) (by omega) (l_ _));have GS:=h_ ((G0.out.trans hB).low (lo:=w0.heap.size) (hc3.below (l_ _) (by omega)) (l_ _) hcl);clear hc3 k2 hQq hG hB;go_wp2;exact bodyPost_ret (v:=.agg #[.int .i64 V,.slice A (F).length cA,.slice C (T).length d]) (by simp[results,go_sem,r0,r1,r2]) rfl ⟨_,⟨V,F,T⟩,rfl,by simpa using OF.out,HL.out.1,HL.out.2,GS.out⟩
theorem a8_.ck {w w':World} {lo hi c:Nat} {v:Value} {l:List Int} (h:a8_ w lo hi v l) (k:Ck c w w') (hc:c<lo):a8_ w' lo hi v l:=h.chg k.chg (.inr (by omega))
theorem OwnI.ck {w w':World} {lo c:Nat} {v:Value} {l:List Int} (h:OwnI w lo v l) (k:Ck c w w') (hc:c<lo):OwnI w' lo v l:=((a8_.of_own h).ck k hc).1
theorem z8_ (c:Nat) (w0:World) (hc:Cur w0 c) :
  Calls Tryz.prog 64 #[.pointer (some ⟨c,0,none⟩)] w0 fun e w'=>∃ v q,e = .returned v∧i7_ w' w0.heap.size w'.heap.size v q∧q.f.length≤62∧q.t.length≤62∧Ck c w0 w':=by
 have hcl:=hc.lt;obtain⟨W,hW⟩:∃ W,W=w0.alloc (.cells #[.int .i64 0,.slice none 0 0,.slice none 0 0] 26):=⟨_,rfl⟩;have g0:Ck c w0 W:=by rw[hW];exact Ck.of_below (a0_ _ _)
 have kR:Blk W w0.heap.size 26 #[.int .i64 0,.slice none 0 0,.slice none 0 0]:=by rw[hW];exact Blk.new _ _ _
 have sW:W.heap.size=w0.heap.size+1:=by rw[hW];simp
 have hcw:w0.heap.size≠c:=by omega
 have KR:=h_ kR;have HC1:=h_ (g0.keep hc);have G0:=h_ g0;have hclW:c<W.heap.size:=by omega
 clear kR hc g0;go_enter Tryz.func64,Tryz.ntmps64
 go_wp2_with fail
 rw[←hW];clear hW;obtain⟨W4,hW4⟩:=e_ (W.alloc (.cells #[.string ⟨#[65,49]⟩,.string ⟨#[65,50]⟩,.string ⟨#[65,51]⟩,.string ⟨#[65,52]⟩,.string ⟨#[65,52]⟩] 9));have gb:Below W.heap.size W W4:=by rw[←hW4];exact a0_ _ _
 have kS:Blk W4 (w0.heap.size+1) 9 #[.string ⟨#[65,49]⟩,.string ⟨#[65,50]⟩,.string ⟨#[65,51]⟩,.string ⟨#[65,52]⟩,.string ⟨#[65,52]⟩]:=by rw[←hW4,←sW];exact Blk.new _ _ _
 rw[hW4];refine (E5_ StrP c (w0.heap.size+1) 5 5 _ _ ((Ck.of_below (c:=c) gb).keep HC1.out) kS (by omega) (by omega) (by omega) (fun i hi=>?_) fun v h=>h).mono ?_
 ·match i,hi with
  | 0,_=>exact⟨_,rfl,_,rfl⟩
  | 1,_=>exact⟨_,rfl,_,rfl⟩
  | 2,_=>exact⟨_,rfl,_,rfl⟩
  | 3,_=>exact⟨_,rfl,_,rfl⟩
  | 4,_=>exact⟨_,rfl,_,rfl⟩
  | i+5,h=>omega
 rintro e w5 ⟨v,⟨s,rfl⟩,rfl,hb5⟩;have HB5:=h_ ((Ck.of_below (c:=c) gb).trans hb5);have hs5:=hb5.size;have hs4:=gb.size;clear hW4 gb kS hb5;go_wp2_with fail
 refine (n0_ s _).mono ?_;rintro e w6 ⟨v6,b6,⟨V6,F6,T6⟩,rfl,hQ6,hf6,ht6,hb6⟩;obtain⟨A6,c6,C6,d6,rfl⟩:=hQ6.form;simp only at hf6 ht6 hQ6⊢;obtain⟨W7,hW7,ga,gq,hgq,kq⟩:=b_2 w6 #[.int .i64 V6,.slice A6 F6.length c6,.slice C6 T6.length d6] 26;have hs6:=hb6.size;have hs7:=ga.size;have hG:GQ W7 w5.heap.size gq V6 A6 c6 C6 d6 F6 T6:=by
  obtain⟨a,b,e,hFm,hV⟩:=hQ6;simp only[Value.agg.injEq,Array.mk.injEq,List.cons.injEq,and_true,true_and]at e;obtain⟨rfl,rfl⟩:=e;exact⟨kq,(hFm.below ga).mono (l_ _) hs7,hV,by omega⟩
 have hB:Ck c W W7:=(HB5.out.trans (Ck.of_below hb6)).trans (Ck.of_below ga);have HL:=h_ (show F6.length≤62∧T6.length≤62 by omega);have hg0:w0.heap.size<gq:=by omega
 clear ga kq hQ6 hb6 hf6 ht6;obtain⟨q0,q1,q2⟩:=c_3 hG.1;have hbz:=hB.size;have hlw:=hG.2.2.2;have hQq:=hG.quiv;have k2:=KR.out.ck hB hcw;have fr:=k2.frozen;obtain⟨r0,r1,r2⟩:=c_3 k2;have hc3:=((a5_ (lo:=w0.heap.size) (hi:=w0.heap.size+1) (w:=W7) (p:=⟨w0.heap.size,0,none⟩) (u:=.int .i64 V6) (l_ _) (m0_ _)).trans (a5_ (p:=⟨w0.heap.size,1,none⟩) (u:=.slice A6 (F6).length c6) (l_ _) (m0_ _))).trans (a5_ (p:=⟨w0.heap.size,2,none⟩) (u:=.slice C6 (T6).length d6) (l_ _) (m0_ _));have OF:=h_ ((hQq.chg hc3 (.inr (by omega))).wid (lo':=w0.heap.size) (hi':=W7.heap.size) (by omega) (l_ _));have GS:=h_ ((G0.out.trans hB).low (lo:=w0.heap.size) (hc3.below (l_ _) (by omega)) (l_ _) hcl);clear hc3 k2 hQq hG hB;go_wp2;clear hW7 hgq;exact bodyPost_ret (v:=.agg #[.int .i64 V6,.slice A6 (F6).length c6,.slice C6 (T6).length d6]) (by simp[results,go_sem,r0,r1,r2]) rfl ⟨_,⟨V6,F6,T6⟩,rfl,by simpa using OF.out,HL.out.1,HL.out.2,GS.out⟩
def LnP (w0:World) (e:Ending) (w':World):Prop:=∃ v q,e = .returned v∧QvR w' w'.heap.size v q∧Below w0.heap.size w0 w'
theorem O2_ (u:Value) (l:List Int) (w0:World) (hu:SlY w0 w0.heap.size u l) :
  Calls Tryz.prog 24 #[u] w0 fun e w'=>LnP w0 e w':=by
 obtain⟨W,hW,g0,kR⟩:=b_3 w0 #[.int .i64 0,.slice none 0 0,.slice none 0 0] 26;have sW:W.heap.size=w0.heap.size+1:=by rw[hW];simp
 have hu':=SlY.next g0 hu;clear hu;go_enter Tryz.func24,Tryz.ntmps24
 go_wp2_with fail
 rw[←hW];clear hW;refine (v8_ u l _ hu').mono ?_;rintro e w1 ⟨c,rfl,hcs,hC1,hb1⟩;have hs1:=hb1.size;have KR1:=h_ (kR.call hb1);have HW0:=h_ (g0.trans (hb1.mono (by omega)));have HC1:=h_ hC1;have hcw:w0.heap.size≠c:=by omega
 have hcl:=hC1.lt;clear hu' hb1 kR g0 hC1;go_wp2_with fail
 refine (p6_ c 2 _ HC1.out ⟨by omega,by omega⟩).mono ?_;rintro e w2 ⟨b,rfl,hb2⟩;have HC2:=h_ (hb2.keep HC1.out);have hs2:=hb2.size;have KR:=h_ (KR1.out.ck hb2 hcw);have HW1:=h_ (HW0.out.trans (hb2.below (B:=w0.heap.size) (by omega) (by omega)));clear hb2 HC1 KR1 HW0;rcases b with _ | _
 ·go_wp2_with fail
  refine (Y2_ c _ HC2.out).mono ?_;rintro e w6 ⟨v6,⟨V6,F6,T6⟩,rfl,hQ6,_,_,hb6⟩;obtain⟨A6,c6,C6,d6,rfl⟩:=hQ6.form;simp only at hQ6⊢;have hs6:=hb6.size;have hB:=HW1.out.trans (hb6.below (B:=w0.heap.size) (by omega) (by omega));have k2:=KR.out.ck hb6 hcw;have fr:=k2.frozen;obtain⟨r0,r1,r2⟩:=c_3 k2;have hc3:=((a5_ (lo:=w0.heap.size) (hi:=w0.heap.size+1) (w:=w6) (p:=⟨w0.heap.size,0,none⟩) (u:=.int .i64 V6) (l_ _) (m0_ _)).trans (a5_ (p:=⟨w0.heap.size,1,none⟩) (u:=.slice A6 (F6).length c6) (l_ _) (m0_ _))).trans (a5_ (p:=⟨w0.heap.size,2,none⟩) (u:=.slice C6 (T6).length d6) (l_ _) (m0_ _));have OF:=h_ (hQ6.chg hc3 (.inr (by omega))).rd;have GS:=h_ (hB.trans (hc3.below (l_ _) (by omega)));clear hc3 k2 hQ6 hB hb6;go_wp2;refine bodyPost_ret (v:=.agg #[.int .i64 V6,.slice A6 (F6).length c6,.slice C6 (T6).length d6]) (by simp[results,go_sem,r0,r1,r2]) rfl ?_;unfold LnP;exact⟨_,⟨V6,F6,T6⟩,rfl,OF.out,GS.out⟩
 ·go_wp2_with fail
  refine (z8_ c _ HC2.out).mono ?_;rintro e w6 ⟨v6,⟨V6,F6,T6⟩,rfl,hQ6,_,_,hb6⟩;obtain⟨A6,c6,C6,d6,rfl⟩:=hQ6.form;simp only at hQ6⊢;have hs6:=hb6.size;have hB:=HW1.out.trans (hb6.below (B:=w0.heap.size) (by omega) (by omega));have k2:=KR.out.ck hb6 hcw;have fr:=k2.frozen;obtain⟨r0,r1,r2⟩:=c_3 k2;have hc3:=((a5_ (lo:=w0.heap.size) (hi:=w0.heap.size+1) (w:=w6) (p:=⟨w0.heap.size,0,none⟩) (u:=.int .i64 V6) (l_ _) (m0_ _)).trans (a5_ (p:=⟨w0.heap.size,1,none⟩) (u:=.slice A6 (F6).length c6) (l_ _) (m0_ _))).trans (a5_ (p:=⟨w0.heap.size,2,none⟩) (u:=.slice C6 (T6).length d6) (l_ _) (m0_ _));have OF:=h_ (hQ6.chg hc3 (.inr (by omega))).rd;have GS:=h_ (hB.trans (hc3.below (l_ _) (by omega)));clear hc3 k2 hQ6 hB hb6;go_wp2;refine bodyPost_ret (v:=.agg #[.int .i64 V6,.slice A6 (F6).length c6,.slice C6 (T6).length d6]) (by simp[results,go_sem,r0,r1,r2]) rfl ?_;unfold LnP;exact⟨_,⟨V6,F6,T6⟩,rfl,OF.out,GS.out⟩
structure Filt where
 stages:Int
 birth:List Int
 ends:List (List Int)
deriving DecidableEq
def Filt.size (f:Filt):Nat:=f.birth.length+szSS f.ends
def FiR (w:World) (B:Nat) (val:Value) (f:Filt):Prop:=∃ a b,val = .agg #[.int .i64 f.stages,a,b]∧SlI w B a f.birth∧SlII w B b f.ends∧I64 f.stages
theorem FiR.next {w w':World} {v:Value} {q:Filt} (hb:Below w.heap.size w w') (h:FiR w w.heap.size v q):FiR w' w'.heap.size v q:=by
 obtain⟨a,b,e,h1,h2,h3⟩:=h;exact⟨a,b,e,SlI.next hb h1,SlII.next hb h2,h3⟩
theorem FiR.below {w w':World} {B:Nat} {v:Value} {q:Filt} (hb:Below B w w') (h:FiR w B v q):FiR w' B v q:=by
 obtain⟨a,b,e,h1,h2,h3⟩:=h;exact⟨a,b,e,SlI.below hb h1,SlII.below hb h2,h3⟩
theorem FiR.more {w:World} {B B':Nat} {v:Value} {q:Filt} (hB:B≤B') (h:FiR w B v q):FiR w B' v q:=by
 obtain⟨a,b,e,h1,h2,h3⟩:=h;exact⟨a,b,e,SlI.more hB h1,SlII.more hB h2,h3⟩
theorem FiR.chg {w w':World} {B lo hi:Nat} {v:Value} {q:Filt} (h:FiR w B v q) (hc:Chg lo hi w w') (hB:B≤lo) (hs:B≤w.heap.size):FiR w' B v q:=FiR.below (hc.below hB hs) h
theorem FiR.open_ {w:World} {B:Nat} {v:Value} {q:Filt} (h:FiR w B v q):∃ A c C d,v = .agg #[.int .i64 q.stages,.slice A q.birth.length c,.slice C q.ends.length d]∧SlI w B (.slice A q.birth.length c) q.birth∧SlII w B (.slice C q.ends.length d) q.ends∧I64 q.stages∧q.birth.length≤17592186044416∧q.ends.length≤17592186044416:=by
 obtain⟨a,b,rfl,h1,h2,h3⟩:=h;obtain⟨A,c,rfl,_,_,h4,h1⟩:=h1.open_;obtain⟨C,d,rfl,_,_,h5,h2⟩:=h2.open_;exact⟨A,c,C,d,rfl,h1,h2,h3,h4,h5⟩
theorem FiR.form {w:World} {B:Nat} {v:Value} {q:Filt} (h:FiR w B v q):∃ A c C d,v = .agg #[.int .i64 q.stages,.slice A q.birth.length c,.slice C q.ends.length d]:=by
 obtain⟨A,c,C,d,e,_⟩:=h.open_;exact⟨A,c,C,d,e⟩
theorem FiR.lens {w:World} {B:Nat} {v:Value} {q:Filt} (h:FiR w B v q):q.birth.length≤17592186044416∧q.ends.length≤17592186044416:=by
 obtain⟨A,c,C,d,e,_,_,_,h1,h2⟩:=h.open_;exact⟨h1,h2⟩
def FiO (w:World) (lo hi:Nat) (val:Value) (f:Filt):Prop:=∃ a b vs,val = .agg #[.int .i64 f.stages,a,b]∧OutO w lo hi b vs∧vs.length=f.ends.length∧Fam w lo hi ([(a,f.birth)] ++ vs.zip f.ends)∧I64 f.stages
theorem FiO.rd {w:World} {lo hi:Nat} {v:Value} {q:Filt} (h:FiO w lo hi v q):FiR w w.heap.size v q:=by
 obtain⟨a,b,vs,e,h1,h2,h3,h4⟩:=h;exact⟨a,b,e,(h3.1 (a,q.birth) (by simp)).rd,h1.rd h2 fun p hp=>(h3.1 p (by simp[hp])).rd,h4⟩
theorem FiO.form {w:World} {lo hi:Nat} {v:Value} {q:Filt} (h:FiO w lo hi v q):∃ A c C d,v = .agg #[.int .i64 q.stages,.slice A q.birth.length c,.slice C q.ends.length d]:=h.rd.form
theorem FiO.chg {w w':World} {lo hi lo' hi':Nat} {v:Value} {q:Filt} (h:FiO w lo hi v q) (hc:Chg lo' hi' w w') (hd:hi≤lo'∨hi'≤lo):FiO w' lo hi v q:=by
 obtain⟨a,b,vs,e,h1,h2,h3,h4⟩:=h;exact⟨a,b,vs,e,h1.chg hc hd,h2,h3.chg hc hd,h4⟩
theorem FiO.below {w w':World} {lo hi:Nat} {v:Value} {q:Filt} (h:FiO w lo hi v q) (hb:Below w.heap.size w w'):FiO w' lo hi v q:=by
 obtain⟨a,b,vs,e,h1,h2,h3,h4⟩:=h;exact⟨a,b,vs,e,h1.below hb,h2,h3.below hb,h4⟩
def FiO.mk (k:Int) (q:Filt):Filt:=⟨q.stages,mkI k q.birth.length,mkSS (k+q.birth.length) q.ends⟩
theorem P3_:∀ {xs:List Bar} {j:Nat} {x:Bar},xs[j]?=some x→∀ z:Int,(r1_ xs).set (j*3+2) (.int .i64 z)=r1_ (xs.set j (x.1,x.2.1,z))
 | [],j,x,h,_=>by simp at h
 | y :: ys,0,x,h,z=>by simp at h;subst h;rfl
 | y :: ys,j+1,x,h,z=>by
  have:=P3_ (xs:=ys) (j:=j) (x:=x) (by simpa using h) z;simp only[r1_,show (j+1)*3+2=(j*3+2)+1+1+1 by omega,List.set_cons_succ,this]
theorem g5_.setN {w:World} {lo hi g n c j:Nat} {l:List Bar} {x:Bar} {z:Int} (h:g5_ w lo hi (.slice (some ⟨g,0,none⟩) n c) l) (hn:l.length=n) (hx:l[j]?=some x) (hz:I64 z) :
  g5_ (w.setCell ⟨g,j*3+2,none⟩ (.int .i64 z)) lo hi (.slice (some ⟨g,0,none⟩) n c) (l.set j (x.1,x.2.1,z)):=by
 subst hn;have h1:=(h.1.stored (j*3+2) (.int .i64 z)).1;rw[P3_ hx z]at h1;refine⟨by rw[List.length_set];exact h1,fun y hy=>?_⟩;rcases List.mem_or_eq_of_mem_set hy with hy | rfl
 ·exact h.2 y hy
 ·have:=h.2 x (l4_ hx);exact⟨this.1,this.2.1,hz⟩
theorem g5_.cell2 {w:World} {lo hi j:Nat} {v:Value} {l:List Bar} {x:Bar} (h:g5_ w lo hi v l) (hx:l[j]?=some x):∃ g c,v = .slice (some ⟨g,0,none⟩) l.length c∧lo≤g∧w.cell? ⟨g,j*3+2,none⟩=some (.int .i64 x.2.2)∧(∀ i,w.frozen? ⟨g,i,none⟩=false)∧l.length≤c:=by
 have hl:=m5_ l;have hj:=a6_ hx;have h1:=h.1.1;rcases h1.2 with ⟨e,h0⟩ | ⟨g,cap,cur,rfl,hlo,hg,hnc,hcm,hcs,htk⟩
 ·omega
 ·have hB:Blk w g 44 cur:=hg;refine⟨g,cap,rfl,hlo,?_,hB.frozen,hnc⟩;rw[h1.cellAt (j*3+2) (by omega)];exact (B0_ hx).2.2
end Go.Proofs.YtbgccbmdiolhbaaGreat

