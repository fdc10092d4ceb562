/- FnBars: the law holds for every argument. Part 14 of 16 of the proof: LnD, LnE, LnF, PenAt, LnG, LnH, EvL, EvH, LnI, LnJ, KerI, KerI2, SlVs, IsoA, IsoB, IsoC, HomF. No condition. -/
import Derived.Test.YtbgccbmdiolhbaaGreatBBars13
set_option linter.unusedVariables false
set_option linter.unusedSimpArgs false
set_option maxHeartbeats 12800000
set_option maxRecDepth 100000
namespace Go.Proofs.YtbgccbmdiolhbaaGreat
open Go.RowKit
structure Bas (p m:Nat) (d:Nat→Nat) (A:Nat→Nat→Nat→Int) (n:Nat) (on:Nat→Nat→Bool) (e f:Nat→Nat→Nat→Int):Prop where
 cx:∀ k u v w,u≤v→v≤w→on k u=true→on k w=true→on k v=true
 e0:∀ k v r,on k v≠true→e k v r=0
 f0:∀ k v r,on k v≠true→f k v r=0
 st:∀ k v r,k<n→v<m→r<d (v+1)→(p:Int)∣cMp A d v (e k v) r-(if on k v=true then e k (v+1) r else 0)
 du:∀ v k l,v≤m→k<n→l<n→(p:Int)∣sgF (fun r=>f k v r*e l v r) (d v)-(if k=l∧on k v=true then 1 else 0)
 sp:∀ v r c,v≤m→r<d v→c<d v→(p:Int)∣sgF (fun k=>e k v r*f k v c) n-idF r c
def iv0:Ivl:=⟨1,0,fun _ _=>0,fun _ _=>0⟩
def ivO (T:List Ivl) (k v:Nat):Bool:=(T.getD k iv0).on v
def ivE (T:List Ivl) (k v r:Nat):Int:=if ivO T k v=true then (T.getD k iv0).e v r else 0
def ivG (T:List Ivl) (k v r:Nat):Int:=if ivO T k v=true then (T.getD k iv0).f v r else 0
theorem f4z {α:Type} (g:α→Int) (z:α):∀ T:List α,(T.map g).sum=sgF (fun k=>g (T.getD k z)) T.length:=by
 intro T;rw[←T.reverse_reverse];induction T.reverse with
 | nil=>rfl
 | cons t R ih =>
  rw[List.reverse_cons,List.map_append,List.sum_append,List.length_append,List.length_singleton,sgF,ih];have e:(R.reverse ++ [t]).getD R.reverse.length z=t:=by simp[l1_]
  rw[e];simp only[List.map_cons,List.map_nil,List.sum_cons,List.sum_nil,Int.add_zero];congr 1
  exact a3_ fun k hk=>by simp only[l1_,List.getElem?_append_left hk]
theorem J5_ {α:Type} {T:List α} {k:Nat} {z:α} (hk:k<T.length):T.getD k z∈T:=by
 rw[l1_,l2_ hk];exact List.getElem_mem hk
theorem a6x {p m:Nat} {d:Nat→Nat} {A:Nat→Nat→Nat→Int} {T:List Ivl} (h:Adp p m d A T):Bas p m d A T.length (ivO T) (ivE T) (ivG T):=by
 refine⟨?_,fun k v r hk=>if_neg hk,fun k v r hk=>if_neg hk,?_,?_,?_⟩
 ·intro k u v w h1 h2 h3 h4;have h3:=Ivl.on_t.1 h3;have h4:=Ivl.on_t.1 h4;exact Ivl.on_t.2 ⟨by omega,by omega⟩
 ·intro k v r hk hv hr;have hm:=J5_ (z:=iv0) hk;by_cases ho:ivO T k v=true
  ·rw[if_pos ho];have hb:=Ivl.on_t.1 ho;have e1:ivE T k v=(T.getD k iv0).e v:=by funext c;exact if_pos ho
   rw[e1];by_cases h2:ivO T k (v+1)=true
   ·rw[ivE,if_pos h2];exact h.st _ hm v r hb.1 (Ivl.on_t.1 h2).2 hr
   ·rw[ivE,if_neg h2,Int.sub_zero];have:v=(T.getD k iv0).b:=by
     rcases Nat.lt_or_ge v (T.getD k iv0).b with h3 | h3
     ·exact absurd (Ivl.on_t.2 ⟨by omega,h3⟩) h2
     ·omega
    subst this;exact h.en _ hm r hv hr
  ·rw[if_neg ho,Int.sub_zero,cMp];exact n3_ fun c _=>by rw[ivE,if_neg ho,Int.mul_zero];exact Int.dvd_zero _
 ·intro v k l hv hk hl;by_cases ho:ivO T k v=true
  ·by_cases hol:ivO T l v=true
   ·have e1:sgF (fun r=>ivG T k v r*ivE T l v r) (d v)=sgF (fun r=>(T.getD k iv0).f v r*(T.getD l iv0).e v r) (d v):=a3_ fun r _=>by rw[ivG,ivE,if_pos ho,if_pos hol]
    rw[e1];by_cases e:k=l
    ·subst e;rw[if_pos ⟨rfl,ho⟩];have hb:=Ivl.on_t.1 ho;exact h.un _ (J5_ hk) v hb.1 hb.2
    ·rw[if_neg fun hh=>e hh.1,Int.sub_zero];have hp:=List.pairwise_iff_getElem.1 h.pw;have ek:T.getD k iv0=T[k]:=by rw[l1_,l2_ hk];rfl
     have el:T.getD l iv0=T[l]:=by rw[l1_,l2_ hl];rfl
     rw[ivO,ek]at ho;rw[ivO,el]at hol;rw[ek,el];rcases Nat.lt_or_gt_of_ne e with h1 | h1
     ·exact (hp k l hk hl h1 v ho hol).1
     ·exact (hp l k hl hk h1 v hol ho).2
   ·have e1:sgF (fun r=>ivG T k v r*ivE T l v r) (d v)=0:=by
     rw[a3_ (b:=fun _=>0) fun r _=>by rw[ivE,if_neg hol,Int.mul_zero],sg_0]
    rw[e1,if_neg fun hh=>hol (by rw[←hh.1];exact hh.2)];exact f0_ _ _
  ·have e1:sgF (fun r=>ivG T k v r*ivE T l v r) (d v)=0:=by
    rw[a3_ (b:=fun _=>0) fun r _=>by rw[ivG,if_neg ho,Int.zero_mul],sg_0]
   rw[e1,if_neg fun hh=>ho hh.2];exact f0_ _ _
 ·intro v r c hv hr hc;have:=h.sp v r c hv hr hc;rw[f4z _ iv0]at this;refine b9_ (b:=sgF (fun k=>if (T.getD k iv0).on v=true then (T.getD k iv0).e v r*(T.getD k iv0).f v c else 0) T.length) ?_ this;rw[a3_ (a:=fun k=>ivE T k v r*ivG T k v c) fun k _=>?_]
  ·exact f0_ _ _
  ·rw[ivE,ivG,ivO];split
   ·rfl
   ·exact Int.mul_zero _
theorem i6x (a:Nat→Int) (b g:Nat→Nat→Int) (h:Nat→Int) (n m d:Nat) :
  sgF (fun s=>sgF (fun k=>a k*b k s) n*sgF (fun l=>g l s*h l) m) d=sgF (fun k=>a k*sgF (fun l=>sgF (fun s=>b k s*g l s) d*h l) m) n:=by
 rw[a3_ (b:=fun s=>sgF (fun k=>a k*(b k s*sgF (fun l=>g l s*h l) m)) n) fun s _=>by
  rw[←q7_];exact a3_ fun k _=>Int.mul_assoc _ _ _]
 rw[p0_];refine a3_ fun k _=>?_
 rw[k5_];exact congrArg _ (g4_ (fun s=>b k s) (fun s l=>g l s) h d m)
theorem g3J {on:Prop} [Decidable on] {n k:Nat} (hk:k<n) (h:Nat→Int):sgF (fun l=>(if k=l∧on then 1 else 0)*h l) n=if on then h k else 0:=by
 by_cases ho:on
 ·rw[if_pos ho,a3_ (b:=fun l=>if l=k then h l else 0) fun l _=>?_,r6_ (h:=h) hk];by_cases e:k=l
  ·rw[if_pos ⟨e,ho⟩,if_pos e.symm,Int.one_mul]
  ·rw[if_neg fun hh=>e hh.1,if_neg fun hh=>e hh.symm,Int.zero_mul]
 ·rw[if_neg ho,a3_ (b:=fun _=>0) fun l _=>?_,sg_0];rw[if_neg fun hh=>ho hh.2,Int.zero_mul]
section
variable {p m n:Nat} {d:Nat→Nat} {A:Nat→Nat→Nat→Int} {on:Nat→Nat→Bool} {e f:Nat→Nat→Nat→Int}
theorem Bas.back (h:Bas p m d A n on e f) {k v c:Nat} (hk:k<n) (hv:v<m) (hc:c<d v):(p:Int)∣sgF (fun s=>f k (v+1) s*A v s c) (d (v+1))-(if on k (v+1)=true then f k v c else 0):=by
 have hA:∀ s,s<d (v+1)→(p:Int)∣A v s c-sgF (fun l=>e l (v+1) s*f l v c) n:=fun s hs=>by
  have e1:sgF (fun t=>A v s t*idF t c) (d v)=A v s c:=G6_ (h:=fun t=>A v s t) hc;have e2:sgF (fun t=>A v s t*sgF (fun l=>e l v t*f l v c) n) (d v)=sgF (fun l=>cMp A d v (e l v) s*f l v c) n:=g4_ (fun t=>A v s t) (fun t l=>e l v t) (fun l=>f l v c) (d v) n;have h1:(p:Int)∣sgF (fun t=>A v s t*idF t c) (d v)-sgF (fun t=>A v s t*sgF (fun l=>e l v t*f l v c) n) (d v):=i4_ fun t ht=>i3_ _ (k0_ (h.sp v t c (by omega) ht hc))
  rw[e1,e2]at h1;refine b9_ h1 (i4_ fun l hl=>?_);refine b9_ (f8_ _ (h.st l v s hl hv hs)) ?_;by_cases ho:on l v=true
  ·rw[if_pos ho];exact f0_ _ _
  ·rw[h.f0 l v c ho,Int.mul_zero,Int.mul_zero];exact f0_ _ _
 refine b9_ (i4_ fun s hs=>i3_ _ (hA s hs)) ?_;have e3:sgF (fun s=>f k (v+1) s*sgF (fun l=>e l (v+1) s*f l v c) n) (d (v+1))=sgF (fun l=>sgF (fun s=>f k (v+1) s*e l (v+1) s) (d (v+1))*f l v c) n:=g4_ (fun s=>f k (v+1) s) (fun s l=>e l (v+1) s) (fun l=>f l v c) (d (v+1)) n;rw[e3,←g3J hk (fun l=>f l v c)];exact i4_ fun l hl=>f8_ _ (h.du (v+1) k l (by omega) hk hl)
theorem f5j {d2:Nat→Nat} {A2:Nat→Nat→Nat→Int} {e2 f2:Nat→Nat→Nat→Int} (h:Bas p m d A n on e f) (h2:Bas p m d2 A2 n on e2 f2) {v r c:Nat} (hv:v<m) (hr:r<d2 (v+1)) (hc:c<d v) :
  (p:Int)∣sgF (fun s=>A2 v r s*sgF (fun k=>e2 k v s*f k v c) n) (d2 v)-sgF (fun s=>sgF (fun k=>e2 k (v+1) r*f k (v+1) s) n*A v s c) (d (v+1)):=by
 have q1:sgF (fun s=>A2 v r s*sgF (fun k=>e2 k v s*f k v c) n) (d2 v)=sgF (fun k=>cMp A2 d2 v (e2 k v) r*f k v c) n:=g4_ (fun s=>A2 v r s) (fun s k=>e2 k v s) (fun k=>f k v c) (d2 v) n;have q2:sgF (fun s=>sgF (fun k=>e2 k (v+1) r*f k (v+1) s) n*A v s c) (d (v+1))=sgF (fun k=>e2 k (v+1) r*sgF (fun s=>f k (v+1) s*A v s c) (d (v+1))) n:=(g4_ (fun k=>e2 k (v+1) r) (fun k s=>f k (v+1) s) (fun s=>A v s c) n (d (v+1))).symm;rw[q1,q2];refine i4_ fun k hk=>?_
 refine b9_ (b:=e2 k (v+1) r*f k v c) (b9_ (f8_ _ (h2.st k v r hk hv hr)) ?_) (k0_ (b9_ (i3_ _ (h.back hk hv hc)) ?_))
 ·by_cases ho:on k v=true
  ·rw[if_pos ho];exact f0_ _ _
  ·rw[h.f0 k v c ho,Int.mul_zero,Int.mul_zero];exact f0_ _ _
 ·by_cases ho:on k (v+1)=true
  ·rw[if_pos ho];exact f0_ _ _
  ·rw[h2.e0 k (v+1) r ho,Int.zero_mul,Int.zero_mul];exact f0_ _ _
theorem b7x {d2:Nat→Nat} {A2:Nat→Nat→Nat→Int} {e2 f2:Nat→Nat→Nat→Int} (h:Bas p m d A n on e f) (h2:Bas p m d2 A2 n on e2 f2) {v r c:Nat} (hv:v≤m) (hr:r<d v) (hc:c<d v) :
  (p:Int)∣sgF (fun s=>sgF (fun k=>e k v r*f2 k v s) n*sgF (fun l=>e2 l v s*f l v c) n) (d2 v)-idF r c:=by
 rw[i6x];refine b9_ ?_ (h.sp v r c hv hr hc);refine i4_ fun k hk=>?_
 have h1:(p:Int)∣sgF (fun l=>sgF (fun s=>f2 k v s*e2 l v s) (d2 v)*f l v c) n-sgF (fun l=>(if k=l∧on k v=true then 1 else 0)*f l v c) n:=i4_ fun l hl=>f8_ _ (h2.du v k l hv hk hl)
 rw[g3J hk]at h1;refine b9_ (i3_ _ h1) ?_;by_cases ho:on k v=true
 ·rw[if_pos ho];exact f0_ _ _
 ·rw[h.e0 k v r ho,Int.zero_mul,Int.zero_mul];exact f0_ _ _
theorem g2X {r r' c:Nat} {M M':Nat→Nat→Int} (hp:c8_ p=true) (h1:InF p r c M) (h2:InF p r' c M') (h:∀ x,Ker p r M c x↔Ker p r' M' c x):rkF p r c M=rkF p r' c M':=by
 have hp2:2≤p:=by have:=(f9_ hp).1;omega
 have k1:=M6_ hp hp2 h1;have k2:=M6_ hp hp2 h2;have e1:kerL p r M c=kerL p r' M' c:=by
  refine List.filter_congr fun x _=>?_
  rw[Bool.eq_iff_iff,a9j,a9j];exact h _
 rw[←e1,←k1]at k2;have hpos:0<(kerL p r M c).length:=by
  rcases Nat.eq_zero_or_pos (kerL p r M c).length with h0 | h0
  ·rw[h0,Nat.zero_mul]at k1;have:0<p ^ c:=Nat.pow_pos (by omega);omega
  ·exact h0
 exact ((Nat.pow_right_inj (by omega)).1 (Nat.eq_of_mul_eq_mul_left hpos k2)).symm
theorem Bas.rank (h:Bas p m d A n on e f) (hp:c8_ p=true) {v w:Nat} (hv:v≤m) (hw:w≤m) {C:Nat→Nat→Int} (hI:InF p (d w) (d v) C) (hC:∀ r c,r<d w→c<d v→(p:Int)∣C r c-sgF (fun k=>e k w r*f k v c) n) :
  rkF p (d w) (d v) C=((List.range n).filter fun k=>on k v && on k w).length:=by
 have hp2:=(f9_ hp).1;obtain⟨ks,hks⟩:∃ ks,ks=(List.range n).filter fun k=>on k v && on k w:=⟨_,rfl⟩
 rw[←hks];have hmem:∀ k,k∈ks↔k<n∧on k v=true∧on k w=true:=fun k=>by rw[hks,List.mem_filter,List.mem_range,l9_]
 have hnd:ks.Nodup:=by rw[hks];exact List.Pairwise.filter _ List.nodup_range
 have hat:∀ i,i<ks.length→ks.getD i 0<n∧on (ks.getD i 0) v=true∧on (ks.getD i 0) w=true:=fun i hi=>(hmem _).1 (J5_ hi)
 have hne:∀ i j,i<ks.length→j<ks.length→ks.getD i 0=ks.getD j 0→i=j:=fun i j hi hj e=>by
  rw[l1_,l1_,l2_ hi,l2_ hj]at e;exact (List.getElem_inj hnd).1 e
 obtain⟨g,hg⟩:∃ g:Nat→Nat→Int,g=fun i c=>f (ks.getD i 0) v c % p:=⟨_,rfl⟩
 have hgI:InF p ks.length (d v) g:=fun a b _ _=>by rw[hg];exact i6_ hp2
 have hgf:∀ i (x:Nat→Int),(p:Int)∣sgF (fun t=>g i t*x t) (d v)-sgF (fun t=>f (ks.getD i 0) v t*x t) (d v):=fun i x=>i4_ fun t _=>f8_ _ (by rw[hg];exact n4_ _ _)
 have hr:rkF p ks.length (d v) g=ks.length:=f3j (σ:=fun t j=>e (ks.getD j 0) v t) hp hgI fun i j hi hj=>by
  refine b9_ (hgf i _) ?_;have h1:=h.du v _ _ hv (hat i hi).1 (hat j hj).1;by_cases e1:i=j
  ·subst e1;rw[if_pos ⟨rfl,(hat i hi).2.1⟩]at h1;rw[idF,if_pos rfl];exact h1
  ·rw[if_neg fun hh=>e1 (hne i j hi hj hh.1)]at h1;rw[idF,if_neg e1];exact h1
 rw[←hr];refine g2X hp hI hgI fun x=>?_
 have hx:∀ r,r<d w→(p:Int)∣sgF (fun t=>C r t*x t) (d v)-sgF (fun k=>e k w r*sgF (fun t=>f k v t*x t) (d v)) n:=fun r hr=>by
  have e1:sgF (fun k=>e k w r*sgF (fun t=>f k v t*x t) (d v)) n=sgF (fun t=>sgF (fun k=>e k w r*f k v t) n*x t) (d v):=g4_ (fun k=>e k w r) (fun k t=>f k v t) x n (d v);rw[e1];exact i4_ fun t ht=>f8_ _ (hC r t hr ht)
 constructor
 ·intro hk i hi;obtain⟨k1,k2,k3⟩:=hat i hi;refine (i2_ (hgf i x)).2 ?_;obtain⟨l,hl⟩:∃ l,l=ks.getD i 0:=⟨_,rfl⟩;rw[←hl]at k1 k2 k3⊢;have h1:(p:Int)∣sgF (fun r=>f l w r*sgF (fun k=>e k w r*sgF (fun t=>f k v t*x t) (d v)) n) (d w):=n3_ fun r hr=>Int.dvd_mul_of_dvd_right ((i2_ (hx r hr)).1 (hk r hr))
  rw[g4_ (fun r=>f l w r) (fun r k=>e k w r) (fun k=>sgF (fun t=>f k v t*x t) (d v)) (d w) n]at h1;have h2:(p:Int)∣sgF (fun k=>sgF (fun r=>f l w r*e k w r) (d w)*sgF (fun t=>f k v t*x t) (d v)) n-sgF (fun k=>(if l=k∧on l w=true then 1 else 0)*sgF (fun t=>f k v t*x t) (d v)) n:=i4_ fun k hk=>f8_ _ (h.du w l k hw k1 hk)
  rw[g3J k1 (fun k=>sgF (fun t=>f k v t*x t) (d v)),if_pos k3]at h2;exact (i2_ h2).1 h1
 ·intro hk r hr;refine (i2_ (hx r hr)).2 (n3_ fun k hkn=>?_);by_cases hw2:on k w=true
  ·refine Int.dvd_mul_of_dvd_right ?_;by_cases hv2:on k v=true
   ·obtain⟨i,hi,e1⟩:=List.mem_iff_getElem.1 ((hmem k).2 ⟨hkn,hv2,hw2⟩);have e2:ks.getD i 0=k:=by rw[l1_,l2_ hi];exact e1
    have:=(i2_ (hgf i x)).1 (hk i hi);rwa[e2]at this
   ·exact n3_ fun t _=>by rw[h.f0 k v t hv2,Int.zero_mul];exact Int.dvd_zero _
  ·rw[h.e0 k w r hw2,Int.zero_mul];exact Int.dvd_zero _
end
theorem Y0_ {q:Qv} (h:isL q=true):(q.f.length:Int)=q.v-1∧∀ k,k<q.f.length→srN q k=k∧tgN q k=k+1:=by
 simp only[isL,l9_,decide_eq_true_eq,List.all_eq_true,List.mem_range,lnAt]at h;refine⟨h.1.2,fun k hk=>?_⟩;have:=h.2 k hk;rw[srN,tgN,this.1,this.2];constructor <;> omega
theorem A3_ {x:Rp} (h:okL x=true):m9_ x=true∧isL x.q=true∧x.q.f.length+1=x.d.length∧c8_ x.p=true:=by
 simp only[okL,l9_]at h;have h1:=(j0_.1 h.1);have h2:=(c3_.1 h1.2.1).2.1;have h3:=(Y0_ h.2).1;exact⟨h.1,h.2,by omega,h1.1⟩
def BasR (x:Rp) (n:Nat) (on:Nat→Nat→Bool) (e f:Nat→Nat→Nat→Int):Prop:=Bas x.p.toNat x.q.f.length (dN x) (mpF x) n on e f
theorem c5Z {p:Int} (h:c8_ p=true):((p.toNat:Nat):Int)=p∧c8_ ((p.toNat:Nat):Int)=true:=by
 have:=(f9_ h).1;have e:((p.toNat:Nat):Int)=p:=by omega
 exact⟨e,by rw[e];exact h⟩
theorem f2X {x:Rp} (hx:okL x=true) {n:Nat} {on:Nat→Nat→Bool} {e f:Nat→Nat→Nat→Int} (h:BasR x n on e f) {v:Nat} (hv:v≤x.q.f.length):∀ j,v+j≤x.q.f.length→∀ r c,r<dN x (v+j)→c<dN x v →
  ((x.p.toNat:Nat):Int)∣pdF x v j r c-sgF (fun k=>e k (v+j) r*f k v c) n
 | 0,_,r,c,hr,hc=>by
  show ((x.p.toNat:Nat):Int)∣idF r c-sgF (fun k=>e k v r*f k v c) n;exact k0_ (h.sp v r c hv hr hc)
 | j+1,hj,r,c,hr,hc=>by
  have ih:=f2X hx h hv j (by omega);have hr:r<dN x (v+j+1):=hr;have hP:=(c5Z (A3_ hx).2.2.2).1;have h1:((x.p.toNat:Nat):Int)∣pdF x v (j+1) r c-sgF (fun t=>mpF x (v+j) r t*pdF x v j t c) (dN x (v+j)):=by
   rw[hP,pdF,muP];exact n4_ _ _
  refine b9_ h1 (b9_ (i4_ fun t ht=>i3_ _ (ih t c ht hc)) ?_);have e1:sgF (fun t=>mpF x (v+j) r t*sgF (fun k=>e k (v+j) t*f k v c) n) (dN x (v+j))=sgF (fun k=>cMp (mpF x) (dN x) (v+j) (e k (v+j)) r*f k v c) n:=g4_ (fun t=>mpF x (v+j) r t) (fun t k=>e k (v+j) t) (fun k=>f k v c) (dN x (v+j)) n;rw[e1];refine i4_ fun k hk=>b9_ (f8_ _ (h.st k (v+j) r hk (by omega) hr)) ?_
  show ((x.p.toNat:Nat):Int)∣_-e k (v+j+1) r*f k v c;by_cases h1:on k (v+j)=true
  ·rw[if_pos h1];exact f0_ _ _
  ·rw[if_neg h1];by_cases h2:on k v=true
   ·rw[h.e0 k (v+j+1) r fun h3=>h1 (h.cx k v (v+j) (v+j+1) (by omega) (by omega) h2 h3)];exact f0_ _ _
   ·rw[h.f0 k v c h2,Int.mul_zero,Int.mul_zero];exact f0_ _ _
theorem f3q {x:Rp} (hx:okL x=true) {n:Nat} {on:Nat→Nat→Bool} {e f:Nat→Nat→Nat→Int} (h:BasR x n on e f) {v w:Nat} (hvw:v≤w) (hw:w≤x.q.f.length):rtF x v w=(((List.range n).filter fun k=>on k v && on k w).length:Int):=by
 obtain⟨j,rfl⟩:∃ j,w=v+j:=⟨w-v,by omega⟩;have hp:=(A3_ hx).2.2.2;have hP:=c5Z hp;rw[rtF,if_neg (by omega),Nat.add_sub_cancel_left];have:=Bas.rank h hP.2 (v:=v) (w:=v+j) (by omega) hw (by rw[hP.1];exact s4_ hp v j) (fun r c hr hc=>f2X hx h (by omega) j hw r c hr hc);rw[hP.1]at this;rw[this]
theorem f9z {X Y:Rp} (hX:okL X=true) (hY:okL Y=true) (hp:X.p=Y.p) (hq:X.q=Y.q) {n:Nat} {on:Nat→Nat→Bool} {e f e2 f2:Nat→Nat→Nat→Int} (h:BasR X n on e f) (h2:BasR Y n on e2 f2) :
  IsoF X Y (fun v r c=>sgF (fun k=>e2 k v r*f k v c) n) (fun v r c=>sgF (fun k=>e k v r*f2 k v c) n):=by
 obtain⟨hx1,hx2,hx3,hx4⟩:=A3_ hX;obtain⟨hy1,hy2,hy3,hy4⟩:=A3_ hY;have hP:=(c5Z hx4).1;have hP2:=(c5Z hy4).1;have h2':Bas X.p.toNat X.q.f.length (dN Y) (mpF Y) n on e2 f2:=by rw[hp,hq];exact h2
 have h':Bas X.p.toNat X.q.f.length (dN X) (mpF X) n on e f:=h;have half:∀ {A B:Rp} {e f e2 f2:Nat→Nat→Nat→Int},A.q=X.q→B.q=X.q→A.p=X.p→Bas X.p.toNat X.q.f.length (dN A) (mpF A) n on e f→Bas X.p.toNat X.q.f.length (dN B) (mpF B) n on e2 f2→HmF A B fun v r c=>sgF (fun k=>e2 k v r*f k v c) n:=by
  intro A B e f e2 f2 hA hB hpA hb1 hb2 k hk r c hr hc;rw[hA]at hk;obtain⟨es,et⟩:=(Y0_ hx2).2 k hk;have eA:∀ s c,arF A k s c=mpF A k s c:=fun s c=>by rw[arF,hA,es];rfl
  have eB:∀ s c,arF B k s c=mpF B k s c:=fun s c=>by rw[arF,hB,es];rfl
  rw[hA,et]at hr;rw[hA,es]at hc;rw[hA,es,et,hpA,←hP];simp only[eA,eB];have key:=f5j hb1 hb2 hk (r:=r) (c:=c) hr hc;exact key
 refine⟨⟨hx1,hy1,hp,hq⟩,half rfl hq.symm rfl h' h2',half hq.symm rfl hp.symm h2' h',fun v r c hv hr hc=>?_,fun v r c hv hr hc=>?_⟩
 ·rw[←hP];exact b7x h' h2' (by omega) hr hc
 ·rw[←hP2,←hp];exact b7x h2' h' (by rw[hq];omega) hr hc
def D2_ (x y:Bar):Prop:=x.1<y.1∨x.1=y.1∧x.2.1<y.2.1
theorem J4_:∀ {b:List Bar} {x y z:Int},b.Pairwise D2_→(∀ t∈b,0≤t.1∧0≤t.2.1)→(x,y,z)∈b→(d0_ b).count (x.toNat,y.toNat)=z.toNat
 | [],_,_,_,_,_,h=>absurd h (by simp)
 | t :: b,x,y,z,hp,h0,h=>by
  obtain⟨h1,h2⟩:=List.pairwise_cons.1 hp;have e:d0_ (t :: b)=List.replicate t.2.2.toNat (t.1.toNat,t.2.1.toNat) ++ d0_ b:=rfl;have ht:=h0 t (by simp);rw[e,List.count_append];rcases List.mem_cons.1 h with rfl | hm
  ·rw[List.count_replicate_self,List.count_eq_zero_of_not_mem,Nat.add_zero];intro hx;obtain⟨s,hs,hr⟩:=List.mem_flatMap.1 hx;have e2:=List.eq_of_mem_replicate hr;simp only[Prod.mk.injEq]at e2;have h3:=h1 s hs;have h4:=h0 s (by simp[hs]);rw[D2_]at h3;simp only at h3 ht;omega
  ·have h3:=h1 _ hm;have h4:=h0 _ h;rw[D2_]at h3;simp only at h3 h4;have ne:¬ (t.1.toNat,t.2.1.toNat)=(x.toNat,y.toNat):=fun e2=>by
    simp only[Prod.mk.injEq]at e2;omega
   rw[List.count_replicate,if_neg (by simpa using ne),Nat.zero_add];exact J4_ h2 (fun s hs=>h0 s (by simp[hs])) hm
theorem Y4_ {b:List Bar} (h0:∀ t∈b,0≤t.1∧0≤t.2.1) {v w:Nat} (h:(v,w)∈d0_ b):∃ z,((v:Int),(w:Int),z)∈b:=by
 obtain⟨s,hs,hr⟩:=List.mem_flatMap.1 h;have e2:=List.eq_of_mem_replicate hr;simp only[Prod.mk.injEq]at e2;have h4:=h0 s hs;have k1:(v:Int)=s.1:=by omega
 have k2:(w:Int)=s.2.1:=by omega
 exact⟨s.2.2,by rw[k1,k2];exact hs⟩
theorem v2_ {L:Nat} {f:Nat→Nat→Int} {v w:Nat} {b:Bar}:b∈K0_ L f v w↔b=((v:Int),(w:Int),cntF L f v w)∧cntF L f v w≠0:=by
 unfold K0_;split <;> rename_i h
 ·simp[h]
 ·simp[h]
theorem q1_ {L:Nat} {f:Nat→Nat→Int} {b:Bar}:b∈g8_ L f L↔∃ v w:Nat,v≤w∧w<L∧b=((v:Int),(w:Int),cntF L f v w)∧cntF L f v w≠0:=by
 simp only[g8_,o7_,List.mem_flatMap,List.mem_range,v2_];constructor
 ·rintro⟨v,hv,k,hk,e,h⟩;exact⟨v,v+k,by omega,by omega,e,h⟩
 ·rintro⟨v,w,h1,h2,e,h⟩;obtain⟨k,rfl⟩:∃ k,w=v+k:=⟨w-v,by omega⟩;exact⟨v,by omega,k,by omega,e,h⟩
theorem R3_ (L:Nat) (f:Nat→Nat→Int):(g8_ L f L).Pairwise D2_:=by
 refine List.pairwise_flatMap.2 ⟨fun v _=>List.pairwise_flatMap.2 ⟨fun k _=>?_,?_⟩,?_⟩
 ·unfold K0_;split
  ·exact List.Pairwise.nil
  ·exact List.pairwise_singleton _ _
 ·refine List.Pairwise.imp (fun h x hx y hy=>?_) List.pairwise_lt_range;obtain⟨e1,_⟩:=v2_.1 hx;obtain⟨e2,_⟩:=v2_.1 hy;subst e1 e2;refine Or.inr ⟨rfl,?_⟩;show ((v+_:Nat):Int)<((v+_:Nat):Int);omega
 ·refine List.Pairwise.imp (fun h x hx y hy=>?_) List.pairwise_lt_range;obtain⟨k,_,hx⟩:=List.mem_flatMap.1 hx;obtain⟨l,_,hy⟩:=List.mem_flatMap.1 hy;obtain⟨e1,_⟩:=v2_.1 hx;obtain⟨e2,_⟩:=v2_.1 hy;subst e1 e2;refine Or.inl ?_;show ((_:Nat):Int)<((_:Nat):Int);omega
theorem b6z {l m:List Bar} (hl:l.Pairwise D2_) (hm:m.Pairwise D2_) (h:∀ x,x∈l↔x∈m):l=m:=by
 induction l generalizing m with
 | nil =>
  rcases m with _ | ⟨y,m⟩
  ·rfl
  ·exact absurd ((h y).2 (by simp)) (by simp)
 | cons x l ih =>
  rcases m with _ | ⟨y,m⟩
  ·exact absurd ((h x).1 (by simp)) (by simp)
  ·obtain⟨h1,h2⟩:=List.pairwise_cons.1 hl;obtain⟨h3,h4⟩:=List.pairwise_cons.1 hm;have irr:∀ z:Bar,¬ D2_ z z:=fun z hz=>by rw[D2_]at hz;omega
   have e:x=y:=by
    rcases List.mem_cons.1 ((h x).1 (by simp)) with e | hx
    ·exact e
    ·rcases List.mem_cons.1 ((h y).2 (by simp)) with e | hy
     ·exact e.symm
     ·have k1:=h1 y hy;have k2:=h3 x hx;rw[D2_]at k1 k2;omega
   subst e;congr 1
   refine ih h2 h4 fun z=>⟨fun hz=>?_,fun hz=>?_⟩
   ·rcases List.mem_cons.1 ((h z).1 (by simp[hz])) with e | hz2
    ·subst e;exact absurd (h1 _ hz) (irr _)
    ·exact hz2
   ·rcases List.mem_cons.1 ((h z).2 (by simp[hz])) with e | hz2
    ·subst e;exact absurd (h3 _ hz) (irr _)
    ·exact hz2
theorem b7z {v:Int} {l:List Bar} (h:s7_ v l l.length):l.Pairwise D2_:=by
 have key:∀ j,j<l.length→∀ i,i<j→D2_ (l.getD i (0,0,0)) (l.getD j (0,0,0)):=by
  intro j;induction j with
  | zero=>intro _ i hi;omega
  | succ j ih =>
   intro hj i hi;obtain⟨x,y,z,e⟩:∃ x y z,l[j+1]?=some (x,y,z):=⟨_,_,_,l2_ hj⟩;obtain⟨_,_,_,h4⟩:=s1_ h e;have e2:l.getD (j+1) (0,0,0)=(x,y,z):=by rw[l1_,e];rfl
   have h5:D2_ (l.getD j (0,0,0)) (l.getD (j+1) (0,0,0)):=by
    rcases h4 with h4 | h4
    ·omega
    ·rw[Nat.add_sub_cancel]at h4;rw[e2];exact J3_.1 h4
   by_cases ei:i=j
   ·subst ei;exact h5
   ·have h6:=ih (by omega) i (by omega);rw[D2_]at h5 h6⊢;omega
 refine List.pairwise_iff_getElem.2 fun i j hi hj hij=>?_
 have:=key j hj i hij;rwa[l1_,l1_,l2_ hi,l2_ hj]at this
theorem w8_ {v:Int} {l:List Bar} (h:s7_ v l l.length) {x y z:Int} (hm:(x,y,z)∈l):0≤x∧x≤y∧y≤v-1∧1≤z∧z≤8:=by
 obtain⟨k,hk,e⟩:=List.mem_iff_getElem.1 hm;obtain⟨h1,h2,h3,_⟩:=s1_ h (k:=k) (x:=x) (y:=y) (z:=z) (by rw[l2_ hk,e]);omega
structure Cnts (L:Nat) (f:Nat→Nat→Int) (M:List (Nat×Nat)):Prop where
 cnt:∀ v w,v≤w→w<L→cntF L f v w=(M.count (v,w):Int)
 rng:∀ t∈M,t.1≤t.2∧t.2<L
theorem W7_ {L:Nat} {f:Nat→Nat→Int}:∀ t∈g8_ L f L,0≤t.1∧0≤t.2.1:=fun t ht=>by
 obtain⟨v,w,_,_,rfl,_⟩:=q1_.1 ht;simp only;omega
theorem Cnts.perm {L:Nat} {f:Nat→Nat→Int} {M:List (Nat×Nat)} (h:Cnts L f M):(d0_ (g8_ L f L)).Perm M:=by
 refine List.perm_iff_count.2 fun a=>?_
 obtain⟨v,w⟩:=a;by_cases hm:(v,w)∈M
 ·obtain⟨h1,h2⟩:=h.rng _ hm;have hc:=h.cnt v w h1 h2;have hpos:=List.count_pos_iff.2 hm;have:=J4_ (R3_ L f) W7_ (q1_.2 ⟨v,w,h1,h2,rfl,by omega⟩);rw[hc]at this;simpa using this
 ·rw[List.count_eq_zero_of_not_mem hm];refine List.count_eq_zero_of_not_mem fun hx=>?_
  obtain⟨z,hz⟩:=Y4_ W7_ hx;obtain⟨v',w',h1,h2,e,hne⟩:=q1_.1 hz;simp only[Prod.mk.injEq]at e;obtain⟨e1,e2,_⟩:=e;have e1:v=v':=by omega
  have e2:w=w':=by omega
  subst e1 e2;rw[h.cnt v w h1 h2,List.count_eq_zero_of_not_mem hm]at hne;exact hne rfl
theorem Cnts.back {L:Nat} {f:Nat→Nat→Int} {b:List Bar} (h:Cnts L f (d0_ b)) {v:Int} (hb:s7_ v b b.length) (hv:v=L):g8_ L f L=b:=by
 have hlt:=b7z hb;have hpos:∀ t∈b,0≤t.1∧0≤t.2.1:=fun t ht=>by
  obtain⟨x,y,z⟩:=t;have:=w8_ hb ht;simp only;omega
 refine b6z (R3_ L f) hlt fun t=>?_
 obtain⟨x,y,z⟩:=t;constructor
 ·intro ht;obtain⟨v',w',h1,h2,e,hne⟩:=q1_.1 ht;rw[h.cnt v' w' h1 h2]at e hne;have hm:(v',w')∈d0_ b:=List.count_pos_iff.1 (by omega);obtain⟨z',hz'⟩:=Y4_ hpos hm;have hc:=J4_ hlt hpos hz';have hr:=w8_ hb hz';simp only[l5_]at hc;rw[hc]at e;rw[e,show ((z'.toNat:Nat):Int)=z' by omega];exact hz'
 ·intro ht;have hr:=w8_ hb ht;have hc:=J4_ hlt hpos ht;have hk:=h.cnt x.toNat y.toNat (by omega) (by omega);refine q1_.2 ⟨x.toNat,y.toNat,by omega,by omega,?_,by rw[hk,hc];omega⟩;rw[hk,hc,Prod.mk.injEq,Prod.mk.injEq];omega
theorem Cnts.areB {L:Nat} {f:Nat→Nat→Int} {M:List (Nat×Nat)} (h:Cnts L f M) {q:Qv} (hq:isL q=true) (hv:q.v=L) (h8:∀ v w,v≤w→w<L→M.count (v,w)≤8):areB q (g8_ L f L)=true:=by
 refine R1_ hq fun k hk=>?_
 obtain⟨x,y,z,e⟩:∃ x y z,(g8_ L f L)[k]?=some (x,y,z):=⟨_,_,_,l2_ hk⟩;obtain⟨v,w,h1,h2,e2,hne⟩:=q1_.1 (l4_ e);simp only[Prod.mk.injEq]at e2;obtain⟨rfl,rfl,rfl⟩:=e2;have hc:=h.cnt v w h1 h2;have:=h8 v w h1 h2;rw[J1_ e];simp only[l9_,Bool.or_eq_true,decide_eq_true_eq];refine⟨j1_.2 (by omega),j1_.2 (by omega),j1_.2 (by omega),?_⟩;rcases Nat.eq_zero_or_pos k with h0 | h0
 ·exact .inl h0
 ·refine .inr (J3_.2 ?_);have hp:=List.pairwise_iff_getElem.1 (R3_ L f) (k-1) k (by omega) hk (by omega);rw[l2_ hk]at e;have e3:(g8_ L f L).getD (k-1) (0,0,0)=(g8_ L f L)[k-1]'(by omega):=by rw[l1_,l2_ (by omega)];rfl
  rw[e3];rw[Option.some.inj e]at hp;exact hp
def Ivl.ab (t:Ivl):Nat×Nat:=(t.a,t.b)
def nI (M:List (Nat×Nat)) (v w:Int):Int:=(M.map fun t=>if (t.1:Int)≤v∧w≤t.2 then 1 else 0).sum
theorem f2j (P:Nat→Bool):∀ n,((((List.range n).filter P).length:Nat):Int)=sgF (fun k=>if P k=true then 1 else 0) n
 | 0=>rfl
 | n+1=>by
  have:=f2j P n;rw[List.range_succ,List.filter_append,List.length_append,sgF,←this];by_cases h:P n=true
  ·simp[h]
  ·simp[h]
theorem f2x {p m:Nat} {d:Nat→Nat} {A:Nat→Nat→Nat→Int} {T:List Ivl} (h:Adp p m d A T) {v w:Nat} (hvw:v≤w):((((List.range T.length).filter fun k=>ivO T k v && ivO T k w).length:Nat):Int)=nI (T.map Ivl.ab) v w:=by
 rw[f2j,nI,List.map_map,f4z _ iv0];refine a3_ fun k hk=>?_
 have hm:=h.bd _ (J5_ (z:=iv0) hk);have hq:((ivO T k v && ivO T k w)=true)↔(((T.getD k iv0).a:Int)≤v∧(w:Int)≤(T.getD k iv0).b):=by
  simp only[l9_,ivO,Ivl.on_t];omega
 show (if (ivO T k v && ivO T k w)=true then (1:Int) else 0)=if ((T.getD k iv0).a:Int)≤v∧(w:Int)≤(T.getD k iv0).b then 1 else 0
 by_cases h1:(ivO T k v && ivO T k w)=true
 ·rw[if_pos h1,if_pos (hq.1 h1)]
 ·rw[if_neg h1,if_neg fun h2=>h1 (hq.2 h2)]
theorem f2z (v w:Nat) (hvw:v≤w):∀ M:List (Nat×Nat),(∀ t∈M,t.1≤t.2)→nI M v w-nI M (v-1) w-nI M v (w+1)+nI M (v-1) (w+1)=(M.count (v,w):Int)
 | [],_=>rfl
 | t :: M,h=>by
  have ih:=f2z v w hvw M fun s hs=>h s (by simp[hs])
  have ht:=h t (by simp);have e:∀ x y,nI (t :: M) x y=(if (t.1:Int)≤x∧y≤t.2 then 1 else 0)+nI M x y:=fun x y=>by rw[nI,List.map_cons,List.sum_cons];rfl
  rw[e,e,e,e,List.count_cons];by_cases h1:t=(v,w)
  ·subst h1;simp only[beq_self_eq_true,if_true];rw[if_pos (by omega),if_neg (by omega),if_neg (by omega),if_neg (by omega)];omega
  ·have h2:¬ (t.1=v∧t.2=w):=fun h3=>h1 (Prod.ext h3.1 h3.2)
   have e0:(t == (v,w))=false:=by simpa using h1
   rw[e0];simp only[Bool.false_eq_true,if_false,Nat.add_zero];rw[←ih];split <;> split <;> split <;> split <;> omega
theorem b8Q {x:Rp} (hx:okL x=true) {T:List Ivl} (h:Adp x.p.toNat x.q.f.length (dN x) (mpF x) T):Cnts x.d.length (rtF x) (T.map Ivl.ab):=by
 have hl:=(A3_ hx).2.2.1;have hr:∀ t∈T.map Ivl.ab,t.1≤t.2∧t.2<x.d.length:=fun t ht=>by
  obtain⟨s,hs,rfl⟩:=List.mem_map.1 ht;have:=h.bd s hs;simp only[Ivl.ab];omega
 have hat:∀ v w:Int,-1≤v→v≤w→0≤w→atF x.d.length (rtF x) v w=nI (T.map Ivl.ab) v w:=fun v w h1 h2 h3=>by
  unfold atF;split
  ·rename_i h4
   have:∀ M:List (Nat×Nat),(∀ t∈M,t.1≤t.2∧t.2<x.d.length)→nI M v w=0:=by
    intro M;induction M with
    | nil=>intro _;rfl
    | cons t M ih =>
     intro hM;have:=hM t (by simp);have:=ih fun s hs=>hM s (by simp[hs])
     rw[nI,List.map_cons,List.sum_cons,if_neg (by omega)];rw[nI]at this;omega
   exact (this _ hr).symm
  ·rename_i h4
   have:=f3q hx (a6x h) (v:=v.toNat) (w:=w.toNat) (by omega) (by omega);rw[this,f2x h (by omega),show ((v.toNat:Nat):Int)=v by omega,show ((w.toNat:Nat):Int)=w by omega]
 refine⟨fun v w h1 h2=>?_,hr⟩;rw[cntF,hat _ _ (by omega) (by omega) (by omega),hat _ _ (by omega) (by omega) (by omega),hat _ _ (by omega) (by omega) (by omega),hat _ _ (by omega) (by omega) (by omega)];exact f2z v w h1 _ fun t ht=>(hr t ht).1
theorem b4Q {r c i j:Nat} (f:Nat→Nat→Int) (hi:i<r) (hj:j<c):B5_ (flat r c f) c i j=f i j:=v3_ f hi hj
theorem c8Q {h:Nat→Int} {n:Nat} (h0:∀ r,n≤r→h r=0):∀ k,sgF h (n+k)=sgF h n
 | 0=>rfl
 | k+1=>by
  rw[←Nat.add_assoc,sgF,c8Q h0 k,h0 (n+k) (by omega),Int.add_zero]
theorem Adp.cgr {p m:Nat} {d d':Nat→Nat} {A A':Nat→Nat→Nat→Int} {T:List Ivl} (h:Adp p m d A T) (hd:∀ v,v≤m→d' v=d v) (hA:∀ v r c,v<m→r<d (v+1)→c<d v→A' v r c=A v r c):Adp p m d' A' T:=by
 have hc:∀ v (x:Nat→Int) r,v<m→r<d (v+1)→cMp A' d' v x r=cMp A d v x r:=fun v x r hv hr=>by
  rw[cMp,cMp,hd v (by omega)];exact a3_ fun c hc=>by rw[hA v r c hv hr hc]
 refine⟨h.bd,fun t ht v r h1 h2 hr=>?_,fun t ht r h1 hr=>?_,fun t ht v h1 h2=>?_,?_,fun v r c hv hr hc=>?_⟩
 ·have:=(h.bd t ht).2;rw[hd _ (by omega)]at hr;rw[hc v _ r (by omega) hr];exact h.st t ht v r h1 h2 hr
 ·rw[hd _ (by omega)]at hr;rw[hc _ _ r h1 hr];exact h.en t ht r h1 hr
 ·have:=(h.bd t ht).2;rw[hd v (by omega)];exact h.un t ht v h1 h2
 ·refine List.Pairwise.imp_of_mem ?_ h.pw;intro s t hs ht hst v h1 h2;have:=(Ivl.on_t.1 h1).2;have:=(h.bd s hs).2;rw[hd v (by omega)];exact hst v h1 h2
 ·rw[hd v hv]at hr hc;exact h.sp v r c hv hr hc
theorem b1z {l m:List Int} (h:l.Perm m):l.sum=m.sum:=by
 induction h with
 | nil=>rfl
 | cons x _ ih=>rw[List.sum_cons,List.sum_cons,ih]
 | swap x y l=>simp only[List.sum_cons];omega
 | trans _ _ ih1 ih2=>exact ih1.trans ih2
theorem Adp.perm {p m:Nat} {d:Nat→Nat} {A:Nat→Nat→Nat→Int} {T S:List Ivl} (h:Adp p m d A T) (hp:T.Perm S):Adp p m d A S :=
 ⟨fun t ht=>h.bd t (hp.mem_iff.2 ht),fun t ht=>h.st t (hp.mem_iff.2 ht),fun t ht=>h.en t (hp.mem_iff.2 ht),fun t ht=>h.un t (hp.mem_iff.2 ht),
  (hp.pairwise_iff fun {x y} hxy v h1 h2=>⟨(hxy v h2 h1).2,(hxy v h2 h1).1⟩).1 h.pw,
  fun v r c hv hr hc=>by rw[←b1z (hp.map _)];exact h.sp v r c hv hr hc⟩
theorem Z2_ {α β:Type} (g:α→β):∀ {M:List β} {T:List α},(T.map g).Perm M→∃ S,T.Perm S∧S.map g=M
 | [],T,h=>by
  have:=h.length_eq;rw[List.length_map,List.length_nil]at this;obtain rfl:=m1_ this;exact⟨[],List.Perm.refl _,rfl⟩
 | x :: M,T,h=>by
  obtain⟨t,ht,hg⟩:=List.mem_map.1 (h.mem_iff.2 (List.mem_cons_self (a:=x) (l:=M)));obtain⟨A,B,rfl⟩:=List.append_of_mem ht;have h2:(t :: (A ++ B)).Perm (A ++ t :: B):=List.perm_middle.symm;have h3:=((h2.map g).trans h);rw[List.map_cons,hg]at h3;obtain⟨S,h4,h5⟩:=Z2_ g ((List.perm_cons x).1 h3);exact⟨t :: S,h2.symm.trans (List.Perm.cons t h4),by rw[List.map_cons,hg,h5]⟩
theorem g8J {T S:List Ivl} (h:T.map Ivl.ab=S.map Ivl.ab):ivO T=ivO S:=by
 funext k v
 have e:∀ T:List Ivl,ivO T k v=decide (((T.map Ivl.ab).getD k (1,0)).1≤v∧v≤((T.map Ivl.ab).getD k (1,0)).2):=fun T=>by
  rw[ivO,Ivl.on,l1_,l1_,List.getElem?_map];rcases T[k]? with _ | t <;> rfl
 rw[e,e,h]
def wid (D:Nat→Nat) (t:Ivl):Ivl:=⟨t.a,t.b,fun v r=>if r<D v then t.e v r else 0,fun v c=>if c<D v then t.f v c else 0⟩
def nwI (D:Nat→Nat) (a b:Nat):Ivl:=⟨a,b,fun v r=>idF r (D v),fun v c=>idF (D v) c⟩
theorem b3z {α:Type} {g:α→Int}:∀ {l:List α},(∀ t∈l,g t=0)→(l.map g).sum=0
 | [],_=>rfl
 | t :: l,h=>by rw[List.map_cons,List.sum_cons,h t (by simp),b3z fun s hs=>h s (by simp[hs]),Int.zero_add]
theorem V2_ {α:Type} {g h:α→Int} {l:List α} (e:∀ t∈l,g t=h t):(l.map g).sum=(l.map h).sum:=by rw[List.map_congr_left e]
theorem c1x {a b:Nat} (h:a≠b):idF a b=0:=if_neg h
theorem c1z (a:Nat):idF a a=1:=if_pos rfl
theorem a5q {D:Nat→Nat} (s t:Ivl) (v k:Nat):sgF (fun c=>(wid D s).f v c*(wid D t).e v c) (D v+k)=sgF (fun c=>s.f v c*t.e v c) (D v):=by
 rw[c8Q fun r hr=>by show (if r<D v then s.f v r else 0)*_=0;rw[if_neg (by omega),Int.zero_mul]];exact a3_ fun c hc=>by show (if c<D v then s.f v c else 0)*(if c<D v then t.e v c else 0)=_;rw[if_pos hc,if_pos hc]
theorem d0Z {p m:Nat} {D:Nat→Nat} {A:Nat→Nat→Nat→Int} {T:List Ivl} (h:Adp p m D A T) {a b:Nat} (hab:a≤b) (hb:b≤m) :
  Adp p m (fun v=>D v+ivN a b v) (fun v=>dsE (D (v+1)) (D v) (A v) fun _ _=>1) (T.map (wid D) ++ [nwI D a b]):=by
 have hon:∀ v,a≤v→v≤b→ivN a b v=1:=fun v h1 h2=>by rw[ivN,if_pos ⟨h1,by omega⟩]
 have hmem:∀ t,t∈T.map (wid D) ++ [nwI D a b]→(∃ s∈T,wid D s=t)∨t=nwI D a b:=fun t ht=>by
  rcases List.mem_append.1 ht with ht | ht
  ·exact .inl (List.mem_map.1 ht)
  ·exact .inr (List.mem_singleton.1 ht)
 have hold:∀ (s:Ivl) v r,cMp (fun v=>dsE (D (v+1)) (D v) (A v) fun _ _=>1) (fun v=>D v+ivN a b v) v ((wid D s).e v) r=if r<D (v+1) then cMp A D v (s.e v) r else 0:=fun s v r=>by
  have e1:cMp (fun v=>dsE (D (v+1)) (D v) (A v) fun _ _=>1) (fun v=>D v+ivN a b v) v ((wid D s).e v) r=sgF (fun c=>dsE (D (v+1)) (D v) (A v) (fun _ _=>1) r c*(if c<D v then s.e v c else 0)) (D v):=by
   rw[cMp];exact c8Q (fun c hc=>by show _*(if c<D v then s.e v c else 0)=0;rw[if_neg (by omega),Int.mul_zero]) _
  rw[e1];by_cases hr:r<D (v+1)
  ·rw[if_pos hr];exact a3_ fun c hc=>by rw[if_pos hc,dsE,blF,if_pos hr,bsF,if_pos hc]
  ·rw[if_neg hr,a3_ (b:=fun _=>0) fun c hc=>by rw[dsE,blF,if_neg hr,bsF,if_pos hc,Int.zero_mul],sg_0]
 have hnew:∀ v r,a≤v→v≤b→cMp (fun v=>dsE (D (v+1)) (D v) (A v) fun _ _=>1) (fun v=>D v+ivN a b v) v ((nwI D a b).e v) r=if r<D (v+1) then 0 else 1:=fun v r h1 h2=>by
  have e1:cMp (fun v=>dsE (D (v+1)) (D v) (A v) fun _ _=>1) (fun v=>D v+ivN a b v) v ((nwI D a b).e v) r=dsE (D (v+1)) (D v) (A v) (fun _ _=>1) r (D v):=by
   rw[cMp];exact G6_ (h:=fun c=>dsE (D (v+1)) (D v) (A v) (fun _ _=>1) r c) (by show D v<D v+ivN a b v;rw[hon v h1 h2];omega)
  rw[e1,dsE,blF];by_cases hr:r<D (v+1)
  ·rw[if_pos hr,if_pos hr,bsF,if_neg (by omega)]
  ·rw[if_neg hr,if_neg hr,bsF,if_neg (by omega)]
 refine⟨fun t ht=>?_,fun t ht v r h1 h2 hr=>?_,fun t ht r h1 hr=>?_,fun t ht v h1 h2=>?_,?_,fun v r c hv hr hc=>?_⟩
 ·rcases hmem t ht with ⟨s,hs,rfl⟩ | rfl
  ·exact h.bd s hs
  ·exact⟨hab,hb⟩
 ·rcases hmem t ht with ⟨s,hs,rfl⟩ | rfl
  ·rw[hold];show (p:Int)∣_-(if r<D (v+1) then s.e (v+1) r else 0);by_cases hr2:r<D (v+1)
   ·rw[if_pos hr2,if_pos hr2];exact h.st s hs v r h1 h2 hr2
   ·rw[if_neg hr2,if_neg hr2];exact f0_ _ _
  ·have h1:a≤v:=h1;have h2:v<b:=h2;have hr:r<D (v+1)+ivN a b (v+1):=hr;rw[hnew v r h1 (by omega)];show (p:Int)∣_-idF r (D (v+1));rw[hon (v+1) (by omega) (by omega)]at hr;by_cases hr2:r<D (v+1)
   ·rw[if_pos hr2,c1x (by omega)];exact f0_ _ _
   ·obtain rfl:r=D (v+1):=by omega
    rw[if_neg hr2,c1z];exact f0_ _ _
 ·rcases hmem t ht with ⟨s,hs,rfl⟩ | rfl
  ·show (p:Int)∣cMp _ _ s.b ((wid D s).e s.b) r;rw[hold];by_cases hr2:r<D (s.b+1)
   ·rw[if_pos hr2];exact h.en s hs r h1 hr2
   ·rw[if_neg hr2];exact Int.dvd_zero _
  ·have hr:r<D (b+1)+ivN a b (b+1):=hr;show (p:Int)∣cMp _ _ b ((nwI D a b).e b) r;rw[hnew b r hab (l_ _)];rw[ivN,if_neg (by omega)]at hr;rw[if_pos (by omega)];exact Int.dvd_zero _
 ·rcases hmem t ht with ⟨s,hs,rfl⟩ | rfl
  ·rw[a5q];exact h.un s hs v h1 h2
  ·show (p:Int)∣sgF (fun c=>idF (D v) c*idF c (D v)) (D v+ivN a b v)-1;rw[t6_ (h:=fun c=>idF c (D v)) (by rw[hon v h1 h2];omega),c1z];exact f0_ _ _
 ·refine List.pairwise_append.2 ⟨?_,List.pairwise_singleton _ _,fun s hs t ht v h1 h2=>?_⟩
  ·rw[List.pairwise_map];refine List.Pairwise.imp ?_ h.pw;intro s t hst v h1 h2;rw[a5q,a5q];exact hst v h1 h2
  ·obtain rfl:=List.mem_singleton.1 ht;obtain⟨s,hs,rfl⟩:=List.mem_map.1 hs;have h2:=Ivl.on_t.1 h2;have hlt:D v<D v+ivN a b v:=by rw[hon v h2.1 h2.2];omega
   constructor
   ·show (p:Int)∣sgF (fun c=>(if c<D v then s.f v c else 0)*idF c (D v)) (D v+ivN a b v);rw[G6_ (h:=fun c=>if c<D v then s.f v c else 0) hlt,if_neg (by omega)];exact Int.dvd_zero _
   ·show (p:Int)∣sgF (fun c=>idF (D v) c*(if c<D v then s.e v c else 0)) (D v+ivN a b v);rw[t6_ (h:=fun c=>if c<D v then s.e v c else 0) hlt,if_neg (by omega)];exact Int.dvd_zero _
 ·rw[List.map_append,List.sum_append,List.map_map,List.map_cons,List.map_nil,List.sum_cons,List.sum_nil,Int.add_zero];by_cases hin:r<D v∧c<D v
  ·have e1:(T.map ((fun t:Ivl=>if t.on v=true then t.e v r*t.f v c else 0) ∘ wid D)).sum=(T.map fun t=>if t.on v=true then t.e v r*t.f v c else 0).sum:=V2_ fun t _=>by
    show (if t.on v=true then (if r<D v then t.e v r else 0)*(if c<D v then t.f v c else 0) else 0)=_;rw[if_pos hin.1,if_pos hin.2]
   have e2:(if (nwI D a b).on v=true then (nwI D a b).e v r*(nwI D a b).f v c else 0)=0:=by
    show (if (nwI D a b).on v=true then idF r (D v)*idF (D v) c else 0)=0;rw[c1x (a:=r) (by omega),Int.zero_mul];split <;> rfl
   rw[e1,e2,Int.add_zero];exact h.sp v r c hv hin.1 hin.2
  ·have e1:(T.map ((fun t:Ivl=>if t.on v=true then t.e v r*t.f v c else 0) ∘ wid D)).sum=0:=b3z fun t _=>by
    show (if t.on v=true then (if r<D v then t.e v r else 0)*(if c<D v then t.f v c else 0) else 0)=0;by_cases h1:r<D v
    ·rw[if_neg (c:=c<D v) fun h2=>hin ⟨h1,h2⟩,Int.mul_zero];split <;> rfl
    ·rw[if_neg h1,Int.zero_mul];split <;> rfl
   have hr:r<D v+ivN a b v:=hr;have hc:c<D v+ivN a b v:=hc;have hv2:a≤v∧v<b+1:=by
    rcases Nat.eq_zero_or_pos (ivN a b v) with h0 | h0
    ·omega
    ·rw[ivN]at h0;split at h0
     ·assumption
     ·omega
   have hiv:=hon v hv2.1 (by omega);have e2:(if (nwI D a b).on v=true then (nwI D a b).e v r*(nwI D a b).f v c else 0)=idF r (D v)*idF (D v) c:=if_pos (Ivl.on_t.2 ⟨hv2.1,by show v≤b;omega⟩);rw[e1,e2,Int.zero_add];by_cases h1:r<D v
   ·obtain rfl:c=D v:=by omega
    rw[c1x (a:=r) (by omega),Int.zero_mul];exact f0_ _ _
   ·obtain rfl:r=D v:=by omega
    rw[c1z,Int.one_mul];exact f0_ _ _
theorem g4q {q:Qv} (hq:isL q=true) (p:Nat) (L:List (Nat×Nat)):(∀ t∈L,t.1≤t.2∧t.2≤q.f.length)→∃ T,T.map Ivl.ab=L∧Adp p q.f.length (smS q L).1 (smS q L).2 T:=by
 refine C5_ (P:=fun L=>(∀ t∈L,t.1≤t.2∧t.2≤q.f.length)→∃ T,T.map Ivl.ab=L∧Adp p q.f.length (smS q L).1 (smS q L).2 T) ?_ ?_ L
 ·intro _;exact⟨[],rfl,a1Q fun v _=>rfl⟩
 ·intro L x ih h;obtain⟨T,h1,h2⟩:=ih fun t ht=>h t (by simp[ht])
  have hx:=h x (by simp);refine⟨T.map (wid (smS q L).1) ++ [nwI (smS q L).1 x.1 x.2],?_,?_⟩
  ·rw[List.map_append,List.map_map,←h1];rfl
  ·rw[x8_];refine (d0Z h2 hx.1 hx.2).cgr (fun _ _=>rfl) fun v r c hv _ _=>?_
   have:=(Y0_ hq).2 v hv;show dsE ((smS q L).1 (tN q v)) ((smS q L).1 (fN q v)) ((smS q L).2 v) (fun _ _=>1) r c=_;rw[show tN q v=v+1 from this.2,show fN q v=v from this.1]
theorem c9j {p:Int} {q:Qv} (hq:isL q=true) {L:List (Nat×Nat)} (h:∀ t∈L,t.1≤t.2∧t.2≤q.f.length):∃ T,T.map Ivl.ab=L∧Adp p.toNat q.f.length (dN (smR p q L)) (mpF (smR p q L)) T:=by
 obtain⟨T,h1,h2⟩:=g4q hq p.toNat L h;obtain⟨g1,g2⟩:=Y0_ hq;have hd:∀ v,v≤q.f.length→dN (smR p q L) v=(smS q L).1 v:=fun v hv=>by
  show ((rowF q.v.toNat fun v=>((smS q L).1 v:Int)).getD v 0).toNat=_;rw[i9_ _ (by omega)];rfl
 refine⟨T,h1,h2.cgr hd fun v r c hv hr hc=>?_⟩;show B5_ (((smR p q L).m.getD v mx0).a) (dN (smR p q L) v) r c=_;have e1:(smR p q L).m.getD v mx0=mxF ((smS q L).1 (tN q v)) ((smS q L).1 (fN q v)) ((smS q L).2 v):=by
  show (msF q.f.length _).getD v mx0=_;rw[l1_,s3_ _ hv];rfl
 rw[e1,hd v (by omega),show tN q v=v+1 from (g2 v hv).2,show fN q v=v from (g2 v hv).1];exact b4Q _ hr hc
theorem a3x {q:Qv} (h:isL q=true):isQ q=true:=by
 simp only[isL,l9_]at h;exact h.1.1
theorem g1Z {L M:List (Nat×Nat)} (h:L.Perm M) (v w:Int):nI L v w=nI M v w:=b1z (h.map _)
theorem i0J (L M:List (Nat×Nat)) (v w:Int):nI (L ++ M) v w=nI L v w+nI M v w:=by rw[nI,List.map_append,List.sum_append];rfl
theorem i2x (q:Qv) (v:Nat) (L:List (Nat×Nat)):(((smS q L).1 v:Nat):Int)=nI L v v:=by
 refine C5_ (P:=fun L=>(((smS q L).1 v:Nat):Int)=nI L v v) rfl ?_ L;intro L x ih;rw[x8_,i0J,←ih];show (((smS q L).1 v+ivN x.1 x.2 v:Nat):Int)=_;have e:nI [x] (v:Int) (v:Int)=((ivN x.1 x.2 v:Nat):Int):=by
  rw[nI,ivN,List.map_cons,List.map_nil,List.sum_cons,List.sum_nil];split <;> split <;> omega
 rw[e];omega
theorem i6J {a b V:Nat} (h1:a≤b):sgF (fun v=>((ivN a b v:Nat):Int)) V=if V≤a then 0 else if V≤b then (V:Int)-a else (b:Int)-a+1:=by
 induction V with
 | zero=>rw[if_pos (by omega)];rfl
 | succ V ih =>
  rw[sgF,ih,ivN]
  (repeat' split) <;> omega
def lenX (L:List (Nat×Nat)):Int:=(L.map fun t=>(t.2:Int)-t.1+1).sum
def lenB (b:List Bar):Int:=(b.map fun t=>t.2.2*(t.2.1-t.1+1)).sum
theorem g0J (q:Qv) (V:Nat) (L:List (Nat×Nat)):(∀ t∈L,t.1≤t.2∧t.2<V)→lenX L=sgF (fun v=>(((smS q L).1 v:Nat):Int)) V:=by
 refine C5_ (P:=fun L=>(∀ t∈L,t.1≤t.2∧t.2<V)→lenX L=sgF (fun v=>(((smS q L).1 v:Nat):Int)) V) ?_ ?_ L
 ·intro _;exact (sg_0 V).symm
 ·intro L x ih h;have hx:=h x (by simp);have ih:=ih fun t ht=>h t (by simp[ht])
  rw[x8_,a3_ (b:=fun v=>(((smS q L).1 v:Nat):Int)+((ivN x.1 x.2 v:Nat):Int)) fun v _=>by push_cast;rfl,w4_,←ih,i6J hx.1,if_neg (by omega),if_neg (by omega)];rw[lenX,List.map_append,List.sum_append];simp only[List.map_cons,List.map_nil,List.sum_cons,List.sum_nil,lenX];omega
theorem a9J (L M:List (Nat×Nat)):lenX (L ++ M)=lenX L+lenX M:=by rw[lenX,List.map_append,List.sum_append];rfl
theorem a9Q (x:Nat×Nat):∀ n,lenX (List.replicate n x)=n*((x.2:Int)-x.1+1)
 | 0=>by rw[List.replicate_zero];show (0:Int)=((0:Nat):Int)*_;rw[Int.natCast_zero,Int.zero_mul]
 | n+1=>by
  rw[List.replicate_succ,show x :: List.replicate n x=[x] ++ List.replicate n x from rfl,a9J,a9Q x n];show ((x.2:Int)-x.1+1+0)+_=_;rw[Int.natCast_add,Int.add_mul];omega
theorem f1X:∀ {b:List Bar},(∀ t∈b,0≤t.1∧0≤t.2.1∧0≤t.2.2)→lenX (d0_ b)=lenB b
 | [],_=>rfl
 | t :: b,h=>by
  have ht:=h t (by simp);have ih:=f1X (b:=b) fun s hs=>h s (by simp[hs])
  rw[show d0_ (t :: b)=List.replicate t.2.2.toNat (t.1.toNat,t.2.1.toNat) ++ d0_ b from rfl,a9J,ih,a9Q,lenB,lenB,List.map_cons,List.sum_cons];simp only;rw[show ((t.2.2.toNat:Nat):Int)=t.2.2 by omega,show ((t.2.1.toNat:Nat):Int)=t.2.1 by omega,show ((t.1.toNat:Nat):Int)=t.1 by omega]
theorem i2Z {x:Rp} {n:Nat} (hn:n=x.d.length) (hx:∀ j,j<x.d.length→x.d[j]?=some (dN x j:Int)):x.d.sum=sgF (fun v=>(dN x v:Int)) n:=by
 have e:x.d=rowF n fun v=>(dN x v:Int):=by
  apply List.ext_getElem?
  intro i;by_cases h:i<x.d.length
  ·rw[hx i h,c0_ _ (by omega)]
  ·rw[l6_ (by omega),l6_ (by rw[a2_];omega)]
 have:∀ (g:Nat→Int) n,(rowF n g).sum=sgF g n:=fun g n=>by
  induction n with
  | zero=>rfl
  | succ n ih =>
   rw[sgF,←ih];simp[rowF,List.range_succ]
 rw[←this,←e]
def bfX (x:Rp):List Bar:=g8_ x.d.length (rtF x) x.d.length
theorem d1Q {x:Rp} (hx:okL x=true):areB x.q (bfX x)=true∧smO x.q (d0_ (bfX x))=true∧(smR x.p x.q (d0_ (bfX x))).d=x.d∧(∃ F G,IsoF (smR x.p x.q (d0_ (bfX x))) x F G)∧lenB (bfX x)=x.d.sum:=by
 obtain⟨a1,a2,a3,a4,a5,a6,a7,_⟩:=T8_ hx;obtain⟨b1,b2,b3,b4⟩:=A3_ hx;have hdm:=(j0_.1 a1).2.1;have hV:x.q.v=(x.d.length:Int):=(c3_.1 hdm).2.1.symm;obtain⟨T,hT⟩:=g5z (c5Z a3).2 (m:=x.q.f.length) _ (dN x) (mpF x) (l_ _);have hC:=b8Q hx hT;have hP:(d0_ (bfX x)).Perm (T.map Ivl.ab):=hC.perm;have hf4:∀ v w,0≤rtF x v w∧rtF x v w≤4:=fun v w=>by
  refine⟨by rw[rtF];split <;> omega,?_⟩;by_cases hv:v<x.d.length
  ·have h1:=(a7 v hv).2;rw[rtF];split
   ·omega
   ·have:=(r5_ x.p (dN x w) (dN x v) (pdF x v (w-v))).2;omega
  ·have h1:dN x v=0:=by rw[dN,l1_,l6_ (by omega)];rfl
   rw[rtF];split
   ·omega
   ·have:=(r5_ x.p (dN x w) (dN x v) (pdF x v (w-v))).2;omega
 have hc8:∀ v w,v≤w→w<x.d.length→(T.map Ivl.ab).count (v,w)≤8:=fun v w h1 h2=>by
  have h3:=hC.cnt v w h1 h2;rw[cntF]at h3;have k1:=o8_ hf4 (L:=x.d.length) (v:Int) (w:Int);have k2:=o8_ hf4 (L:=x.d.length) ((v:Int)-1) (w:Int);have k3:=o8_ hf4 (L:=x.d.length) (v:Int) ((w:Int)+1);have k4:=o8_ hf4 (L:=x.d.length) ((v:Int)-1) ((w:Int)+1);omega
 have hrng:∀ t∈d0_ (bfX x),t.1≤t.2∧t.2<x.d.length:=fun t ht=>hC.rng t (hP.mem_iff.1 ht)
 have hdim:∀ v,v<x.d.length→(((smS x.q (d0_ (bfX x))).1 v:Nat):Int)=dN x v:=fun v hv=>by
  rw[i2x,g1Z hP,←f2x hT (l_ v),←f3q hx (a6x hT) (l_ v) (by omega),b2J a3]
 have hrow:(rowF x.q.v.toNat fun v=>(((smS x.q (d0_ (bfX x))).1 v:Nat):Int))=x.d:=by
  apply List.ext_getElem?
  intro i;by_cases h:i<x.d.length
  ·rw[c0_ _ (by omega),hdim i h,(a7 i h).1]
  ·rw[l6_ (by rw[a2_];omega),l6_ (by omega)]
 have hO:smO x.q (d0_ (bfX x))=true:=by rw[smO,hrow];exact hdm
 obtain⟨S,hS1,hS2⟩:=c9j (p:=x.p) a2 (L:=d0_ (bfX x)) fun t ht=>by have:=hrng t ht;omega
 obtain⟨T',hT1,hT2⟩:=Z2_ Ivl.ab hP.symm;have hok:okL (smR x.p x.q (d0_ (bfX x)))=true:=by
  rw[okL,F0_ a3 (a3x a2),hO];exact a2
 have hl:S.length=T'.length:=by
  have:=congrArg List.length (hS1.trans hT2.symm);simpa using this
 have hB2:BasR x S.length (ivO S) (ivE T') (ivG T'):=by
  rw[hl,g8J (hS1.trans hT2.symm)];exact a6x (hT.perm hT1)
 refine⟨hC.areB a2 hV hc8,hO,hrow,⟨_,_,f9z hok hx rfl rfl (a6x hS2) hB2⟩,?_⟩;rw[←f1X (fun t ht=>by
  obtain⟨v,w,h1,h2,rfl,h3⟩:=q1_.1 ht;have:=hC.cnt v w h1 h2;simp only;omega),g0J x.q x.d.length _ hrng,i2Z rfl fun j hj=>(a7 j hj).1]
 exact a3_ fun v hv=>hdim v hv
theorem d7J {p:Int} {q:Qv} {b:List Bar} (hp:c8_ p=true) (hb:areB q b=true) (ho:smO q (d0_ b)=true):okL (smR p q (d0_ b))=true∧bfX (smR p q (d0_ b))=b:=by
 obtain⟨hq,hbt⟩:=W5_ hb;have hok:okL (smR p q (d0_ b))=true:=by
  rw[okL,F0_ hp (a3x hq),ho];exact hq
 have hv:=(j2_.1 (a3x hq)).1;have hl:=(Y0_ hq).1;have hrng:∀ t∈d0_ b,t.1≤t.2∧t.2≤q.f.length:=fun t ht=>by
  obtain⟨s,hs,hr⟩:=List.mem_flatMap.1 ht;obtain⟨x,y,z⟩:=s;have:=w8_ hbt hs;rw[List.eq_of_mem_replicate hr];simp only;omega
 obtain⟨S,hS1,hS2⟩:=c9j (p:=p) hq hrng;have hC:=b8Q hok hS2;rw[hS1]at hC;refine⟨hok,hC.back hbt ?_⟩;show q.v=(((rowF q.v.toNat _).length:Nat):Int);rw[a2_];omega
theorem a8z {α:Type} (L:List α) (n:Nat) (x d:α) (a:Nat):(L.set n x).getD a d=if a=n∧n<L.length then x else L.getD a d:=by
 rw[l1_,List.getElem?_set,l1_];by_cases h:n=a
 ·subst h;rw[if_pos rfl];by_cases h2:n<L.length
  ·rw[if_pos h2,if_pos ⟨rfl,h2⟩];rfl
  ·rw[if_neg h2,if_neg (fun h=>h2 h.2),l6_ (by omega)]
 ·rw[if_neg h,if_neg (fun e=>h e.1.symm)]
def swL (n t:Nat) (L:List (List Int)):List (List Int):=(L.set n (L.getD t [])).set t (L.getD n [])
def scL (p:Int) (n:Nat) (s:Int) (L:List (List Int)):List (List Int):=L.set n ((L.getD n []).map fun x=>x*s % p)
def elR (p:Int) (pv:List Int) (m:Int) (row:List Int):List Int:=List.zipWith (fun x y=>(x+(p-m)*y) % p) row pv
def elG (p:Int) (k n:Nat) (pv:List Int):Nat→List (List Int)→List (List Int)
 | _,[]=>[]
 | a,row :: r=>(if a=n then pv else elR p pv (row.getD k 0) row) :: elG p k n pv (a+1) r
def nzL (k:Nat):Nat→List (List Int)→Nat
 | a,[]=>a
 | a,row :: r=>if row.getD k 0=0 then nzL k (a+1) r else a
def stL (p:Int) (k n t:Nat) (L:List (List Int)):List (List Int) :=
 (fun M2=>elG p k n (M2.getD n []) 0 M2) ((fun M=>scL p n (invP p ((M.getD n []).getD k 0)) M) (swL n t L))
def rdS (p:Int) (k:Nat):List (List Int)×Nat→List (List Int)×Nat
 | (L,n)=>if nzL k n (L.drop n)<L.length then (stL p k n (nzL k n (L.drop n)) L,n+1) else (L,n)
def rdL (p:Int) (L:List (List Int)):Nat→List (List Int)×Nat
 | 0=>(L,0)
 | k+1=>rdS p k (rdL p L k)
def rkL (p:Int) (L:List (List Int)) (c:Nat):Nat:=(rdL p L c).2
theorem i0j {g:Int→Int} (h0:g 0=0) (l:List Int) (b:Nat):(l.map g).getD b 0=g (l.getD b 0):=by
 rw[l1_,List.getElem?_map,l1_];cases l[b]? with
 | none=>exact h0.symm
 | some x=>rfl
theorem f6X {p m:Int} {pv row:List Int} (h:row.length=pv.length) (b:Nat):(elR p pv m row).getD b 0=(row.getD b 0+(p-m)*pv.getD b 0) % p:=by
 rw[elR,l1_,List.getElem?_zipWith,l1_,l1_];by_cases hb:b<row.length
 ·rw[l2_ hb,l2_ (h ▸ hb)];rfl
 ·rw[l6_ (by omega),l6_ (by omega)];simp
theorem P8_ (p:Int) (k n:Nat) (pv:List Int):∀ (L:List (List Int)) a,(elG p k n pv a L).length=L.length
 | [],_=>rfl
 | row :: r,a=>by rw[elG,List.length_cons,P8_ p k n pv r,List.length_cons]
theorem b9j (p:Int) (k n:Nat) (pv:List Int):∀ (L:List (List Int)) (a i:Nat),i<L.length→(elG p k n pv a L).getD i []=if a+i=n then pv else elR p pv ((L.getD i []).getD k 0) (L.getD i [])
 | row :: r,a,0,_=>by simp[elG]
 | row :: r,a,i+1,h=>by
  have:=b9j p k n pv r (a+1) i (by simpa using h);rw[elG,List.getD_cons_succ,this,List.getD_cons_succ,show a+1+i=a+(i+1) by omega]
theorem a7Q {p:Int} {k n c:Nat} {pv:List Int} (hp:pv.length=c):∀ (L:List (List Int)) a,(∀ l∈L,l.length=c)→∀ l∈elG p k n pv a L,l.length=c
 | [],_,_,l,hl=>by simp[elG]at hl
 | row :: r,a,h,l,hl=>by
  rw[elG]at hl;rcases List.mem_cons.1 hl with rfl | hl
  ·split
   ·exact hp
   ·rw[elR,List.length_zipWith,h row (by simp),hp];omega
  ·exact a7Q hp r (a+1) (fun x hx=>h x (by simp[hx])) l hl
theorem f2Z (f:Nat→Nat→Int) (k:Nat):∀ (M:List (List Int)) (a:Nat),(∀ i,i<M.length→f (a+i) k=(M.getD i []).getD k 0)→nzL k a M=nzGo f k a M.length
 | [],a,_=>rfl
 | row :: r,a,h=>by
  have h0:=h 0 (by simp);rw[Nat.add_zero,List.getD_cons_zero]at h0;rw[nzL,List.length_cons,nzGo,h0];split
  ·exact f2Z f k r (a+1) fun i hi=>by
    have:=h (i+1) (by simpa using hi);rw[List.getD_cons_succ]at this;rw[←this];congr 1;omega
  ·rfl
theorem E9_ {L:List (List Int)} {c i:Nat} (h:∀ l∈L,l.length=c) (hi:i<L.length):(L.getD i []).length=c:=by
 rw[l1_,l2_ hi];exact h _ (List.getElem_mem hi)
theorem U8_ {L:List (List Int)} {c n:Nat} {x:List Int} (h:∀ l∈L,l.length=c) (hx:x.length=c):∀ l∈L.set n x,l.length=c:=fun l hl=>by
 rcases List.mem_or_eq_of_mem_set hl with h1 | rfl
 ·exact h l h1
 ·exact hx
theorem g9X {L:List (List Int)} {n t:Nat} (hn:n<L.length) (ht:t<L.length) (a b:Nat):lsF (swL n t L) a b=swA n t (lsF L) a b:=by
 simp only[lsF,swL,swA,a8z,List.length_set];by_cases h1:a=t
 ·subst h1;rw[if_pos ⟨rfl,ht⟩];by_cases h2:a=n
  ·subst h2;rw[if_pos rfl]
  ·rw[if_neg h2,if_pos rfl]
 ·rw[if_neg fun h=>h1 h.1];by_cases h2:a=n
  ·rw[if_pos ⟨h2,hn⟩,if_pos h2]
  ·rw[if_neg fun h=>h2 h.1,if_neg h2,if_neg h1]
theorem g9Z {L:List (List Int)} {n:Nat} (hn:n<L.length) (p s:Int) (a b:Nat):lsF (scL p n s L) a b=scA p n s (lsF L) a b:=by
 simp only[lsF,scL,scA,a8z];by_cases h:a=n
 ·subst h;rw[if_pos ⟨rfl,hn⟩,if_pos rfl,i0j (by simp)]
 ·rw[if_neg fun e=>h e.1,if_neg h]
theorem d8Q {p:Int} {k n t c:Nat} {L:List (List Int)} (hL:∀ l∈L,l.length=c) (hn:n<L.length) (ht:t<L.length) :
  (stL p k n t L).length=L.length∧(∀ l∈stL p k n t L,l.length=c)∧∀ a,a<L.length→∀ b,lsF (stL p k n t L) a b=elA p n k (scA p n (invP p (swA n t (lsF L) n k)) (swA n t (lsF L))) a b:=by
 obtain⟨M,hM⟩:=e_ (swL n t L);have m1:M.length=L.length:=by rw[←hM];simp[swL]
 have m2:∀ l∈M,l.length=c:=by rw[←hM];exact U8_ (U8_ hL (E9_ hL ht)) (E9_ hL hn)
 have m3:∀ a b,lsF M a b=swA n t (lsF L) a b:=fun a b=>by rw[←hM,g9X hn ht]
 obtain⟨M2,hM2⟩:=e_ (scL p n (invP p ((M.getD n []).getD k 0)) M);have k1:M2.length=L.length:=by rw[←hM2];simp[scL,m1]
 have k2:∀ l∈M2,l.length=c:=by rw[←hM2];exact U8_ m2 (by rw[List.length_map];exact E9_ m2 (by omega))
 have k3:∀ a b,lsF M2 a b=scA p n (invP p (swA n t (lsF L) n k)) (swA n t (lsF L)) a b:=fun a b=>by
  rw[←hM2,g9Z (by omega),show (M.getD n []).getD k 0=lsF M n k from rfl,m3];simp only[scA,m3]
 have e:stL p k n t L=elG p k n (M2.getD n []) 0 M2:=by
  show elG p k n ((scL p n (invP p (((swL n t L).getD n []).getD k 0)) (swL n t L)).getD n []) 0 (scL p n (invP p (((swL n t L).getD n []).getD k 0)) (swL n t L))=_;rw[hM,hM2]
 rw[e];refine⟨by rw[P8_,k1],a7Q (E9_ k2 (by omega)) M2 0 k2,fun a ha b=>?_⟩;have hg:=b9j p k n (M2.getD n []) M2 0 a (by omega);rw[Nat.zero_add]at hg;rw[lsF,hg,elA];have k3':∀ a b,(M2.getD a []).getD b 0=scA p n (invP p (swA n t (lsF L) n k)) (swA n t (lsF L)) a b:=k3;by_cases h:a=n
 ·subst h;rw[if_pos rfl,if_neg (fun h=>h rfl),k3']
 ·rw[if_neg h,if_pos h,f6X (by rw[E9_ k2 (by omega),E9_ k2 (by omega)]),k3',k3',k3']
theorem b1x {p:Int} {c:Nat} {L:List (List Int)} (hL:∀ l∈L,l.length=c):∀ k,
  (rdL p L k).1.length=L.length∧(∀ l∈(rdL p L k).1,l.length=c)∧(∀ a,a<L.length→∀ b,lsF (rdL p L k).1 a b=(rdTo p L.length (lsF L) k).1 a b)∧(rdL p L k).2=(rdTo p L.length (lsF L) k).2.length
 | 0=>⟨rfl,hL,fun _ _ _=>rfl,rfl⟩
 | k+1=>by
  obtain⟨h1,h2,h3,h4⟩:=b1x (p:=p) hL k;obtain⟨hl,_⟩:=n1_ p L.length (lsF L) k;obtain⟨⟨M,n⟩,hs⟩:∃ s,rdL p L k=s:=⟨_,rfl⟩;obtain⟨⟨f,piv⟩,hf⟩:∃ s,rdTo p L.length (lsF L) k=s:=⟨_,rfl⟩;rw[hs,hf]at h3 h4;rw[hs]at h1 h2;rw[hf]at hl;simp only at h1 h2 h3 h4 hl;subst h4;have hnz:nzL k piv.length (M.drop piv.length)=nzF f k piv.length L.length:=by
   rw[nzF,f2Z f k _ _ fun i hi=>?_,List.length_drop,h1];rw[List.length_drop]at hi;have e:(M.drop piv.length).getD i []=M.getD (piv.length+i) []:=by rw[l1_,List.getElem?_drop,←l1_]
   rw[←h3 _ (by omega),lsF,e]
  rw[rdL,hs,rdS,hnz,h1,rdTo,hf];simp only;by_cases ht:nzF f k piv.length L.length<L.length
  ·rw[if_pos ht,if_pos ht];have hle:=G5_ (f:=f) (k:=k) hl;obtain⟨s1,s2,s3⟩:=d8Q (p:=p) (k:=k) (n:=piv.length) (t:=nzF f k piv.length L.length) h2 (by omega) (by omega);refine⟨by rw[s1,h1],s2,fun a ha b=>?_,by simp⟩;rw[s3 a (by omega) b];have sw:∀ a,a<L.length→∀ b,swA piv.length (nzF f k piv.length L.length) (lsF M) a b=swA piv.length (nzF f k piv.length L.length) f a b:=fun a ha b=>by
    unfold swA;rw[h3 _ ht,h3 _ (by omega),h3 _ ha]
   have sc:∀ a,a<L.length→∀ b,scA p piv.length (invP p (swA piv.length (nzF f k piv.length L.length) (lsF M) piv.length k)) (swA piv.length (nzF f k piv.length L.length) (lsF M)) a b=scA p piv.length (invP p (swA piv.length (nzF f k piv.length L.length) f piv.length k)) (swA piv.length (nzF f k piv.length L.length) f) a b:=fun a ha b=>by
    unfold scA;rw[sw a ha,sw _ (by omega)]
   unfold rdF elA;rw[sc a ha,sc a ha,sc _ (by omega)]
  ·rw[if_neg ht,if_neg ht];exact⟨h1,h2,h3,rfl⟩
theorem i1Q {p:Int} {c:Nat} {L:List (List Int)} (hL:∀ l∈L,l.length=c):rkF p L.length c (lsF L)=rkL p L c:=by
 rw[rkF,rkL,(b1x hL c).2.2.2]
def homV (X Y:Rp):Nat:=hmN X Y-rkL X.p (eqL X Y (hmN X Y) X.q.f.length) (hmN X Y)
theorem f7Z (X Y:Rp):homN X Y=homV X Y:=by
 have h:=i1Q (p:=X.p) (c:=hmN X Y) (L:=eqL X Y (hmN X Y) X.q.f.length) fun l hl=>(b9z hl).1
 unfold homN homV eqG;rw[←h];rfl
def f7z (X Y:Rp):Bool:=m9_ X && m9_ Y && decide (X.p=Y.p) && decide (X.q=Y.q)
theorem f7x {X Y:Rp} (h:f7z X Y=true):Fit2 X Y:=by
 simp only[f7z,l9_,decide_eq_true_eq]at h;exact⟨h.1.1.1,h.1.1.2,h.1.2,h.2⟩
theorem J6_ {q:Qv} (h:isL q=true):q=m4_ q.v∧inR q.v 1 5=true:=by
 have h0:=h;simp only[isL,l9_,decide_eq_true_eq,List.all_eq_true,List.mem_range,lnAt]at h;obtain⟨⟨hq,hl⟩,ha⟩:=h;obtain⟨⟨h1,h2⟩,h3,_⟩:=j2_.1 hq;have hv:inR q.v 1 5=true:=j1_.2 ⟨h1,h2⟩;refine⟨?_,hv⟩;obtain⟨v,f,t⟩:=q;simp only at *;rw[m4_,if_pos hv];congr 1
 ·apply List.ext_getElem?
  intro i;by_cases hi:i<f.length
  ·have:=(ha i hi).1;rw[l1_,l2_ hi]at this;rw[l2_ hi];simp only[Option.getD_some]at this;rw[this];have hi2:i<(v-1).toNat:=by omega
   rw[s2_,List.getElem?_map,List.getElem?_range hi2];rfl
  ·rw[l6_ (by omega),l6_ (by simp[s2_];omega)]
 ·apply List.ext_getElem?
  intro i;by_cases hi:i<f.length
  ·have:=(ha i hi).2;rw[l1_,l2_ (by omega)]at this;rw[l2_ (by omega)];simp only[Option.getD_some]at this;rw[this];have hi2:i<(v-1).toNat:=by omega
   rw[v0_,List.getElem?_map,List.getElem?_range hi2];rfl
  ·rw[l6_ (by omega),l6_ (by simp[v0_];omega)]
def c3q (p:Int):Bool:=(List.range 6).all fun V=>(List.range V).all fun a=>(List.range V).all fun b=>decide (b<a) || (f7z (r0_ p (m4_ V) a b) (r0_ p (m4_ V) a b) && decide (homV (r0_ p (m4_ V) a b) (r0_ p (m4_ V) a b)=1))
theorem f9x:c3q 2=true:=by decide +kernel
theorem f9J:c3q 3=true:=by decide +kernel
theorem f9Q:c3q 5=true:=by decide +kernel
theorem d4Z {p:Int} {q:Qv} {a b:Int} (h:(ziP (isL q) p q a b).2=true):Fit2 (ziP (isL q) p q a b).1 (ziP (isL q) p q a b).1∧homN (ziP (isL q) p q a b).1 (ziP (isL q) p q a b).1=1:=by
 have hk:ziOk (isL q) p q a b=true:=by
  rcases hh:ziOk (isL q) p q a b with _ | _
  ·rw[b3x hh]at h;simp at h
  ·rfl
 rw[V5_ hk];simp only[ziOk,l9_,j1_]at hk;obtain⟨hp,hq,h1,h2⟩:=hk;obtain⟨e,hv⟩:=J6_ hq;obtain⟨V,hV⟩:=Int.eq_ofNat_of_zero_le (show 0≤q.v by omega);have h5:=j1_.1 hv;have hall:c3q p=true:=by
  rcases E3_.1 hp with rfl | rfl | rfl
  ·exact f9x
  ·exact f9J
  ·exact f9Q
 simp only[c3q,List.all_eq_true,List.mem_range,Bool.or_eq_true,l9_,decide_eq_true_eq]at hall;have:=(hall V (by omega) a.toNat (by omega) b.toNat (by omega)).resolve_left (by omega);rw[show m4_ (V:Int)=q from by rw[←hV];exact e.symm]at this;show Fit2 (r0_ p q a.toNat b.toNat) (r0_ p q a.toNat b.toNat)∧homN (r0_ p q a.toNat b.toNat) (r0_ p q a.toNat b.toNat)=1;rw[f7Z];exact⟨f7x this.1,this.2⟩
theorem c6z {p:Int} {q:Qv} {l:List Bar} (hq:isL q=true) (hp:c8_ p=true) (hb:areB q l=true) (ho:smO q (d0_ l)=true):rbP p q l=(smR p q (d0_ l),true):=by
 have hz:=(T2_ hq).2;have h1:rzOk p q l=true:=by
  rw[rzOk,hp,hz,←(J6_ hq).1,hb];rfl
 rw[rbP,if_pos hq,rzP,h1,ho];rfl
theorem i5Q {p:Int} {q:Qv} {l:List Bar} (h:(rbP p q l).2=true):isL q=true∧c8_ p=true∧areB q l=true∧smO q (d0_ l)=true:=by
 by_cases hq:isL q=true
 ·rw[rbP,if_pos hq]at h;by_cases ho:(rzOk p q l && smO q (d0_ l))=true
  ·simp only[l9_]at ho;obtain⟨h1,h2⟩:=ho;rw[rzOk]at h1;simp only[l9_]at h1;refine⟨hq,h1.1,?_,h2⟩;have:=h1.2.2;rwa[←(J6_ hq).1]at this
  ·rw[rzP,if_neg ho]at h;simp at h
 ·rw[rbP,if_neg hq]at h;simp at h
theorem g2J {p:Int} {q:Qv} {l:List Bar} (h:(rbP p q l).2=true):(bfQ (rbP p q l).1).1=l:=by
 obtain⟨h1,h2,h3,h4⟩:=i5Q h;rw[c6z h1 h2 h3 h4];obtain⟨h5,h6⟩:=d7J h2 h3 h4;show (bfQ (smR p q (d0_ l))).1=l;rw[bfQ,if_pos h5];exact h6
theorem Y3_ {L:List Bar} {k:Nat} {b:Bar} (h:L[k]?=some b):lenB (L.take (k+1))=lenB (L.take k)+b.2.2*(b.2.1-b.1+1):=by
 simp[lenB,c6_ h]
theorem b7j {z d:Int} (hz:1≤z∧z≤8) (hd:1≤d∧d≤10):0≤z*d∧z*d≤80:=by
 obtain⟨n,rfl⟩:=Int.eq_ofNat_of_zero_le (show 0≤z by omega);obtain⟨m,rfl⟩:=Int.eq_ofNat_of_zero_le (show 0≤d by omega);have h1:n*m≤8*10:=Nat.mul_le_mul (by omega) (by omega);have e:(n:Int)*m=((n*m:Nat):Int):=by simp
 omega
theorem c4x {L:List Bar} (hL:∀ (k:Nat) (b:Bar),L[k]?=some b→0≤b.1∧b.1≤b.2.1∧b.2.1≤9∧1≤b.2.2∧b.2.2≤8):∀ k,k≤L.length→0≤lenB (L.take k)∧lenB (L.take k)≤80*k
 | 0,_=>by simp[lenB]
 | k+1,h=>by
  have ih:=c4x hL k (by omega);have hk:L[k]?=some L[k]:=l2_ (by omega);have hb:=hL k _ hk;rw[Y3_ hk];have:=b7j (z:=(L[k]).2.2) (d:=(L[k]).2.1-(L[k]).1+1) (by omega) (by omega);omega
theorem d1x (x:Rp):∃ L T B,bfQ x=(L,B)∧rtM x=(T,B)∧L.length≤1000∧(B=true→∃ Z:Rp,rbP x.p x.q L=(Z,true)∧m9_ x=true∧Z.d=x.d∧(∃ F G,IsoF Z x F G)∧sumW x.d=lenB L ∧
  ∀ (k:Nat) (b:Bar),L[k]?=some b→0≤b.1∧b.1≤b.2.1∧b.2.1≤9∧1≤b.2.2∧b.2.2≤8):=by
 by_cases hx:okL x=true
 ·refine⟨bfX x,_,true,by rw[bfQ,if_pos hx];rfl,by rw[rtM,if_pos hx],?_,fun _=>?_⟩
  ·have:=b7Z x;rwa[bfQ,if_pos hx]at this
  obtain⟨h1,h2,h3,h4,h5⟩:=d1Q hx;obtain⟨o1,o2,o3,o4⟩:=A3_ hx;refine⟨_,c6z o2 o4 h1 h2,o1,h3,h4,?_,fun k b hk=>?_⟩
  ·have hd:=(c3_.1 (j0_.1 o1).2.1);have hq:=(j2_.1 hd.1).1;rw[h5];exact (R0_ x.d 0 4 (by omega) (by omega) hd.2.2.1 (by omega) (by omega)).1
  ·have hk':=a6_ hk;have hv:=j1_.1 (J6_ o2).2;have hb:=h1;rw[areB]at hb;simp only[l9_,List.all_eq_true,List.mem_range]at hb;have:=hb.2 k hk';have e:(bfX x).getD k (0,0,0)=b:=by rw[l1_,hk];rfl
   rw[D1_]at this;simp only[l9_,e]at this;have a1:=j1_.1 this.1;have a2:=j1_.1 this.2.1;have a3:=j1_.1 this.2.2.1;omega
 ·refine⟨[],[],false,by rw[bfQ,if_neg hx],by rw[rtM,if_neg hx],by simp,fun h=>by simp at h⟩
theorem g2Z (p:Int) (q:Qv) (l:List Bar):∃ X B,rbP p q l=(X,B)∧(B=true→(bfQ X).1=l):=by
 refine⟨_,_,rfl,fun h=>g2J h⟩
theorem g8Z (p:Int) (q:Qv) (a b:Int):∃ X B,ziP (isL q) p q a b=(X,B)∧(B=true→Fit2 X X∧homN X X=1):=⟨_,_,rfl,fun h=>d4Z h⟩
theorem K8_ (c:Nat) (u:Value) (l:List Int) (w0:World) (hc:c≤1000) (hu:SlI w0 w0.heap.size u l) :
  Calls Tryz.prog 127 #[.int .i64 c,u] w0 fun e w'=>∃ v,e = .returned v∧a8_ w' w0.heap.size w'.heap.size v (c7_ l c)∧Below w0.heap.size w0 w':=by
 have hu1:=hu;obtain⟨A,ac,rfl,_⟩:=hu1;have HU:=h_ hu;clear hu;obtain⟨ll,hll⟩:=e_ (l.length);rw[hll]at HU⊢;clear hll;go_enter Tryz.func127,Tryz.ntmps127
 go_wp2;go_loopw [5,8] (fun out i wr=>∃ k:Nat,k≤c∧i = .int .i64 k∧OwnI wr w0.heap.size out (c7_ l k)∧Below w0.heap.size w0 wr) (fun _ i _=>c-(intOf i).toNat)
 case atStart=>exact⟨0,l0_ _,rfl,OwnI.nil _ _,Below.refl _ _⟩
 case round =>
  obtain⟨k,hk,rfl,ho,hb⟩:=hrel;have s0:=hb.size;by_cases hlt:k<c
  ·obtain⟨OA,oc,rfl,_,_⟩:=ho.form;go_wp2_with fail
   refine (X0_ _ l k _ (SlI.more s0 (SlI.below hb HU.out))).mono ?_;rintro e w1 ⟨rfl,hww⟩;replace hww:=hww.symm;subst hww;rcases hd:decide ((k:Int)∈l) with _ | _
   ·have HN:=h_ (K9_ hd);have hfl:=G0_ l k;have HO:=h_ ho;have HB:=h_ hb;have hlo2:=ho.lt;clear hd ho hb
    (go_wp2_with (at_builtin;refine Hold.stop ?_));unfold Hold
    obtain⟨X,hX⟩:∃ X,X=wr.alloc (.cells #[.int .i64 (k:Int)] 3):=⟨_,rfl⟩;have gn:Below wr.heap.size wr X:=by rw[hX];exact a0_ _ _
    have h1x:SlI X X.heap.size (.slice (some ⟨wr.heap.size,0,none⟩) 1 1) [(k:Int)]:=by rw[hX];exact SlI.one _ _ _ (by simp only[I64];omega)
    have ho3:=(HO.out).below gn;have gns:=gn.size;rw[←hX];clear hX;refine d7_ rfl (.tmp 15) (.tmp 17) rfl w0.heap.size X.heap.size _ _ rfl ho3 _ 1 1 [(k:Int)] rfl rfl h1x (by simp;omega) (by omega) ?_;intro v' w' h1 h2 h3;rw[←HN.out]at h1;have hbX:=c9_ h2 (B:=w0.heap.size) (fun k hk=>(hlo2 k hk).1) (by omega);have H1:=h_ h1;have G1:=h_ ((HB.out).trans ((gn.mono s0).trans hbX));clear h1 h2 h3 hbX gn ho3 h1x;go_wp2;go_roundw
    case rel=>exact⟨k+1,by omega,by go_num,H1.out,G1.out⟩
    case measure=>simp[intOf];omega
   ·have HN:=h_ (S5_ hd);have HO:=h_ ho;have HB:=h_ hb;clear hd ho hb;go_wp2;go_roundw
    case rel=>exact⟨k+1,by omega,by go_num,by rw[HN.out];exact HO.out,HB.out⟩
    case measure=>simp[intOf];omega
  ·obtain rfl:k=c:=by omega
   go_wp2;go_ret
   exact⟨_,rfl,a8_.of_own ho,hb⟩
theorem SlI.atM {w:World} {B n c:Nat} {A:Option Addr} {xs:List Int} {k:Nat} (h:SlI w B (.slice A n c) xs) (hn:xs.length=n) (hk:k<n) :
  ∃ b o x,A=some ⟨b,o,none⟩∧b<B∧Hid (xs[k]?=some x)∧w.cell? ⟨b,o+k,none⟩=some (.int .i64 x)∧-9223372036854775808≤x∧x≤9223372036854775807:=by
 subst hn;exact SlI.at_ h hk
theorem i5X {p:Int} {r c:Nat} {f:Nat→Nat→Int} (hp:c8_ p=true) (hp2:2≤p) (hf:InF p r c f):∀ (j:Nat) (x:Int),(rdTo p r f c).2[j]?=some x→∃ b:Nat,x=(b:Int)∧b<c:=by
 intro j x hx;obtain⟨b,h1,h2,_⟩:=(c6J hp hp2 hf c (l_ _)).pos j (a6_ hx);rw[h1]at hx;injection hx with hx
 exact⟨b,hx.symm,h2⟩
theorem b5q (p:Int) (u:Value) (r c:Nat) (f:Nat→Nat→Int) (w0:World) (hp:c8_ p=true) (hr:r≤1000) (hc:c≤1000) (hu:MxR w0 w0.heap.size u (mxF r c f)) (hf:InF p r c f) :
  Calls Tryz.prog 96 #[.int .i64 p,u] w0 fun e w'=>∃ v,e = .returned v∧b4_ w' w0.heap.size w'.heap.size v (kerR p r c f)∧Below w0.heap.size w0 w':=by
 have hpr:=f9_ hp;have hu':=hu;obtain⟨UA,uc,rfl⟩:=hu.form;simp only[mxF]at hu hu'⊢;rw[a1_]at hu hu'⊢;obtain⟨UL,hUL⟩:=e_ (r*c);rw[hUL]at hu hu'⊢;have HUL:=h_ hUL;clear hUL hu;obtain⟨W,hW,g0,kB⟩:=b_3 w0 #[.int .i64 r,.int .i64 c,.slice UA UL uc] 65;have HU:=h_ (MxR.next g0 hu');have HF:=h_ hf;have HP:=h_ hp;have sW:W.heap.size=w0.heap.size+1:=by rw[hW];simp
 have SW:=h_ sW;obtain⟨c0,c1,c2⟩:=c_3 kB;clear hu' hf hp sW;go_enter Tryz.func96,Tryz.ntmps96
 go_wp2_with fail
 rw[←hW];clear hW;refine (y5_ p _ r c f _ HP.out hr hc HU.out HF.out).mono ?_;rintro e w1 ⟨m,v,rfl,hM,hI,hb1⟩;have HPS:=h_ (i5X HP.out hpr.1 HF.out);have HG:=h_ (L3_ hpr.1 HF.out c);have hpl:=n1_ p r f c;have HK:=h_ (show kerR p r c f=kerM p c (rdTo p r f c).1 (rdTo p r f c).2 (c7_ (rdTo p r f c).2 c) from rfl);obtain⟨g,hg⟩:=e_ ((rdTo p r f c).1);obtain⟨ps,hps⟩:=e_ ((rdTo p r f c).2);rw[hg]at hM HG HK;rw[hps]at hI HPS hpl HK;clear hg hps;obtain⟨MA,mc,em⟩:=hM.form;obtain⟨PA,pc,ev⟩:=hI.form;subst em ev;simp only[mxF]at hM⊢;rw[a1_]at hM⊢;rw[HUL.out]at hM⊢;obtain⟨pn,hpn⟩:=e_ (ps.length);rw[hpn]at hI hpl⊢;have HPN:=h_ hpn;clear hpn c0 c1 c2;obtain⟨W2,hW2,ga,kM⟩:=b_1 w1 #[.int .i64 r,.int .i64 c,.slice MA UL mc] 65;have g12:=b0_ hb1 ga;have kB2:=kB.call g12;have c1:=kB2.cell' (i:=1) rfl;have HM:=h_ (hM.below ga).rd;have HI:=h_ (hI.below ga).rd;have G2:=h_ (b0_ g0 g12);have s12:=g12.size;clear hM hI ga hb1 g12 g0;go_wp2_with fail
 clear hW2 c1 kB;refine (K8_ c _ ps _ hc HI.out).mono ?_;rintro e w3 ⟨v3,rfl,hF,hb3⟩;obtain⟨FA,fc,ev⟩:=hF.form;subst ev;have HFV:=h_ (fun (j:Nat) (x:Int) (hx:(c7_ ps c)[j]?=some x)=>S4_ hx);have hfl:=G0_ ps c;obtain⟨L,hL⟩:=e_ (c7_ ps c);rw[hL]at hF HFV HK hfl⊢;obtain⟨n,hn⟩:=e_ (L.length);rw[hn]at hF hfl⊢;have HN:=h_ hn;have HLF:=h_ hF.rd;have kB3:=kB2.call hb3;have kM3:=kM.call hb3;have HM3:=h_ (MxR.next hb3 HM.out);have HI3:=h_ (SlI.next hb3 HI.out);have G3:=h_ (b0_ G2.out hb3);have lB:=kB3.lt;have lM:=kM3.lt;clear hL hn hF hb3 kM kB2;go_wp2;go_loopw [7,24] (fun out i wr=>∃ k:Nat,k≤n∧i = .int .i64 k∧b4_ wr w3.heap.size wr.heap.size out (kerM p c g ps (L.take k))∧Below w3.heap.size w3 wr) (fun _ i _=>n-(intOf i).toNat)
 case atStart=>exact⟨0,l0_ _,rfl,b4_.nil _ _ _,Below.refl _ _⟩
 case round =>
  obtain⟨k,hk,rfl,hO,hb⟩:=hrel;have s3:=hb.size;obtain⟨OA,oc,eo,_,_,_⟩:=hO.form2;have hkl:(kerM p c g ps (L.take k)).length=k:=by rw[u2_,List.length_take,HN.out];omega
  rw[hkl]at eo;subst eo;by_cases hlt:k<n
  ·obtain⟨bf,of_,x,ef,hbf,HX,f1,_⟩:=SlI.atM (k:=k) HLF.out HN.out hlt;subst ef;obtain⟨fk,rfl,hfk,_⟩:=HFV.out k x HX.out;have z1:=a4_ hb hbf f1;have kBr:=kB3.call hb;have c1:=kBr.cell' (i:=1) rfl;obtain⟨w5,hw5⟩:∃ z,z=wr:=⟨_,rfl⟩;subst hw5;have hmkX:=A5_ w5 (n:=c) (by omega);obtain⟨X,hX⟩:=e_ (w5.alloc (.cells (f4_ (.int .i64 0) c) 3));have bX:Below w5.heap.size w5 X:=by rw[←hX];exact a0_ _ _
   have rX:a8_ X w5.heap.size X.heap.size (.slice (some ⟨w5.heap.size,0,none⟩) c c) (List.replicate c 0):=by rw[←hX];exact a8_.of_own (OwnI.made0 (l_ _) (by omega))
   rw[hX]at hmkX;obtain⟨G,hG⟩:=e_ (w5.heap.size);have cX:=(rX.1.cellG (j:=fk) (by simp;omega)).1;have fX:=rX.1.frozenG fk;have rY:=rX.put (j:=fk) (x:=1) (by unfold I64;omega);rw[i4Z p g ps]at rY;obtain⟨Y,hY⟩:=e_ (X.setCell ⟨w5.heap.size,fk,none⟩ (.int .i64 1));have hcY:Chg G (G+1) X Y:=by rw[←hY,hG];exact a5_ (l_ _) (m0_ _)
   have sX:X.heap.size=G+1:=by rw[←hX,←hG];simp
   have hs3G:w3.heap.size≤G:=by omega
   have bY:Below w5.heap.size w5 Y:=bX.trans (hcY.below (by omega) (by omega));rw[hY,hG,sX]at rY;have BY:=h_ (hb.trans (bY.mono (by omega)));have HO:=h_ ((hO.below bX).chg hcY (.inl (by omega)));rw[hG]at HO;have sY:G+1≤Y.heap.size:=by have:=hcY.size;omega
   have RY:=h_ rY;clear rX rY bX hcY bY sX hO hb f1 kBr;rw[hG]at hmkX cX fX hY;go_wp2;clear hX hY cX fX hmkX c1 z1 hG;go_loopw [36] (fun i wr=>∃ j:Nat,j≤pn∧i = .int .i64 j∧Below w3.heap.size w3 wr∧b4_ wr w3.heap.size G (.slice OA k oc) (kerM p c g ps (L.take k))∧a8_ wr G (G+1) (.slice (some ⟨G,0,none⟩) c c) (rowF c (kvG p g ps fk j))∧G+1≤wr.heap.size) (fun i _=>pn-(intOf i).toNat)
   case atStart=>exact⟨0,l0_ _,rfl,BY.out,HO.out,RY.out,sY⟩
   case round =>
    clear BY HO RY sY;obtain⟨j,hj,rfl,hb,hO,hR,hs⟩:=hrel;have s4:=hb.size;by_cases hjl:j<pn
    ·obtain⟨bp,op,x,ep,hbp,HXP,p1,_⟩:=SlI.atM (k:=j) HI3.out HPN.out hjl;subst ep;obtain⟨pk,rfl,hpk⟩:=HPS.out j x HXP.out;have z1:=a4_ hb hbp p1;have kMr:=kM3.call hb;obtain⟨m0,m1,m2⟩:=c_3 kMr;have HMr:=h_ (MxR.next hb HM3.out);have HB:=h_ hb;have HO:=h_ hO;have HR:=h_ hR;clear hb hO hR p1 kMr;go_wp2_with fail
     refine (c7x _ r c j g _ HMr.out hr hc (by omega)).mono ?_;rintro e w6 ⟨v6,rfl,hS,hb6⟩;have hS1:=hS;obtain⟨VA,vc,ev,_⟩:=hS1;rw[a2_]at ev;subst ev;obtain⟨bv,ov,x,ev,hbv,HXV,v1,_⟩:=SlI.atM (k:=fk) hS (a2_ _ _) hfk;subst ev;have hxv:=HXV.out;rw[c0_ _ hfk]at hxv;injection hxv with hxv
     subst hxv;have hgr:=HG.out j fk (by omega) hfk;have e1:wrap64 (p-g j fk)=p-g j fk:=IntWalk.wrap64_in _ ⟨by omega,by omega⟩;have e2:=d9j hpr.1 hgr;have hgm:=i6_ (p:=p) (x:=- g j fk) hpr.1;have hR6:=HR.out.below hb6;have cX:=(hR6.1.cellG (j:=pk) (by rw[a2_];exact hpk)).1;have fX:=hR6.1.frozenG pk;have rY:=hR6.put (j:=pk) (x:=(- g j fk) % p) (by unfold I64;omega);rw[g0z HXP.out]at rY;have RY:=h_ rY;obtain⟨Y,hY⟩:=e_ (w6.setCell ⟨G,pk,none⟩ (.int .i64 ((- g j fk) % p)));have hcY:Chg G (G+1) w6 Y:=by rw[←hY];exact a5_ (l_ _) (m0_ _)
     have s6:=hb6.size;have sY:=hcY.size;rw[hY]at RY;have BY:=h_ ((HB.out.trans (hb6.mono (by omega))).trans (hcY.below hs3G (by omega)));have HO6:=h_ ((HO.out.below hb6).chg hcY (.inl (by omega)));clear rY hcY hb6 hS hR6 m0 m1 m2 z1 HXV;go_wp2;clear hY cX fX;go_roundw
     case rel=>exact⟨j+1,by omega,by go_num,BY.out,HO6.out,RY.out,by omega⟩
     case measure=>simp[intOf];omega
    ·obtain rfl:j=pn:=by omega
     rw[←HPN.out]at hR;have hn1:=c3x p c g ps (L.take k) fk;rw[←c6_ HX.out]at hn1;have HN1:=h_ hn1;obtain⟨Z,hZ⟩:=e_ (wr.alloc (.cells #[.slice (some ⟨G,0,none⟩) c c] 24));obtain⟨gz,hgz⟩:=e_ (wr.heap.size);have bZ:Below wr.heap.size wr Z:=by rw[←hZ];exact a0_ _ _
     have kZ:Blk Z gz 24 #[.slice (some ⟨G,0,none⟩) c c]:=by rw[←hZ,←hgz];exact Blk.new _ _ _
     have HOZ:=h_ (hO.below bZ);have HRZ:=h_ (hR.below bZ);have HBZ:=h_ (hb.trans (bZ.mono s4));have sZ:=bZ.size;have C0:=h_ (kZ.cell' (i:=0) rfl);clear hO hR hb hn1 bZ kZ
     (go_wp2_with (at_builtin;refine Hold.stop ?_));unfold Hold
     clear hZ hgz;refine A8_ (by rfl) (.tmp 55) (.tmp 57) (by rfl) w3.heap.size G G (G+1) _ _ _ (by rfl) HOZ.out (some ⟨gz,0,none⟩) 1 _ (by rfl) ⟨_,_,rfl,C0.out⟩ HRZ.out (by omega) (by omega) (by omega) (by rw[u2_,List.length_take];have:=HN.out;omega) (by omega) (by omega) ?_;intro v' w' h1 h2 h3;rw[←HN1.out]at h1;have H1:=h_ h1;have H2:=h_ (HBZ.out.trans h2);clear h1 h2 h3;go_wp2;go_roundw
     case rel=>exact⟨k+1,by omega,by go_num,H1.out,H2.out⟩
     case measure=>simp[intOf];omega
  ·obtain rfl:k=n:=by omega
   rw[l7_ (by have:=HN.out;omega)]at hO;have HOF:=h_ hO;have GF:=h_ (b0_ G3.out hb);have sz:=SW.out;have s5:=s12;clear hO hb;go_wp2;go_ret
   exact⟨_,rfl,by rw[HK.out];exact HOF.out.wider (by omega) (l_ _),GF.out⟩
def RV (w:World) (_B b o:Nat) (x:Value):Prop:=w.cell? ⟨b,o,none⟩=some x∧x.oneCell'=true
abbrev SlV:=SlG 1 RV
theorem SlV.below {w w':World} {B:Nat} {v:Value} {l:List Value} (hb:Below B w w') (h:SlV w B v l):SlV w' B v l :=
 SlG.mono (fun _ _ _ hlt ⟨hc,hx⟩=>⟨a4_ hb hlt hc,hx⟩) (l_ _) h
theorem SlV.more {w:World} {B B':Nat} {v:Value} {l:List Value} (hB:B≤B') (h:SlV w B v l):SlV w B' v l :=
 SlG.mono (B:=B) (B':=B') (fun _ _ _ _ h=>h) hB h
theorem SlV.next {w w':World} {v:Value} {l:List Value} (hb:Below w.heap.size w w') (h:SlV w w.heap.size v l):SlV w' w'.heap.size v l:=SlV.more hb.size (SlV.below hb h)
theorem SlV.one {w:World} {B:Nat} {v:Value} {l:List Value} (h:SlV w B v l):∀ u∈l,u.oneCell'=true:=by
 obtain⟨A,c,_,_,_,_,h4⟩:=h;intro x hx;obtain⟨j,hj⟩:=List.getElem?_of_mem hx;obtain⟨_,_,_,_,hr⟩:=h4 (by have:=a6_ hj;omega);exact (hr j x hj).2
theorem r2_.of_slV {w:World} {B:Nat} {A:Option Addr} {c:Nat} {l:List Value} (h:SlV w B (.slice A l.length c) l):r2_ w A l.length l 1:=by
 refine⟨by simp,?_⟩;obtain⟨A',c',e,h1,h2,h3,h4⟩:=h;injection e with e1 e2 e3;subst e1
 rcases Nat.eq_zero_or_pos l.length with h0 | h0
 ·exact .inl h0
 ·obtain⟨b,o,rfl,_,hc⟩:=h4 h0;exact .inr ⟨b,o,rfl,fun j u hu=>by simpa using (hc j u hu).1⟩
def OwnV (w:World) (base:Nat) (v:Value) (vs:List Value):Prop:=w.ownsRow base 24 1 v vs.length vs∧vs.length≤17592186044416∧∀ u∈vs,u.oneCell'=true
theorem OwnV.rd {w:World} {base:Nat} {v:Value} {l:List Value} (h:OwnV w base v l):SlV w w.heap.size v l:=by
 obtain⟨h1,h2,h3⟩:=h;rcases h1.2 with ⟨rfl,h0⟩ | ⟨g,cap,cur,rfl,_,hg,hnc,hcm,hcs,htake⟩
 ·obtain rfl:l=[]:=m1_ h0;exact SlG.nil
 ·refine⟨_,_,rfl,hnc,by simp only[maxLen]at hcm;omega,h2,fun hp=>⟨g,0,rfl,(Array.getElem?_eq_some_iff.1 hg).1,fun j x hj=>⟨?_,h3 x (l4_ hj)⟩⟩⟩;have hc:=h1.cellAt j (by have:=a6_ hj;omega);rw[show 0+j*1=j by omega,hc,hj]
theorem OwnV.below {w w':World} {base:Nat} {v:Value} {l:List Value} (h:OwnV w base v l) (hb:Below w.heap.size w w'):OwnV w' base v l :=
 ⟨h.1.kept (row:=none) ⟨hb.os,hb.tape,hb.output,hb.size,fun k hk _=>hb.block k hk⟩ (by cases v.ownBlock <;> simp),h.2⟩
theorem OwnV.lt {w:World} {base:Nat} {v:Value} {l:List Value} (h:OwnV w base v l):∀ k,v.ownBlock=some k→base≤k∧k<w.heap.size:=h.1.lt
theorem OwnV.lower {w:World} {base base':Nat} {v:Value} {l:List Value} (h:OwnV w base v l) (hb:base'≤base):OwnV w base' v l:=by
 obtain⟨⟨h0,h1⟩,h2⟩:=h;refine⟨⟨h0,?_⟩,h2⟩;rcases h1 with h1 | ⟨g,cap,cur,e,hg,rest⟩
 ·exact .inl h1
 ·exact .inr ⟨g,cap,cur,e,by omega,rest⟩
theorem OwnV.form {w:World} {base:Nat} {v:Value} {l:List Value} (h:OwnV w base v l):∃ A c,v = .slice A l.length c∧l.length≤c∧c≤9223372036854775807:=by
 rcases h.1.2 with ⟨rfl,h0⟩ | ⟨g,cap,cur,rfl,_,_,hnc,hcm,_⟩
 ·exact⟨none,0,by rw[h0],by omega,by omega⟩
 ·exact⟨_,_,rfl,hnc,by simp only[maxLen]at hcm;omega⟩
def V8_ (w:World) (lo:Nat) (u:Value):Prop:=∃ g,u = .slice (some ⟨g,0,none⟩) 0 0∧lo≤g∧Blk w g 24 #[]
theorem V8_.below {w w':World} {lo:Nat} {u:Value} (h:V8_ w lo u) (hb:Below w.heap.size w w'):V8_ w' lo u:=by
 obtain⟨g,e,h1,h2⟩:=h;exact⟨g,e,h1,h2.call hb⟩
theorem V8_.new (w:World) {lo:Nat} (h:lo≤w.heap.size):V8_ (w.alloc (.cells #[] 24)) lo (.slice (some ⟨w.heap.size,0,none⟩) 0 0):=⟨_,rfl,h,Blk.new _ _ _⟩
theorem SlV.new (w:World) (t:TypeId) (x:Value) (hx:x.oneCell'=true):SlV (w.alloc (.cells #[x] t)) (w.alloc (.cells #[x] t)).heap.size (.slice (some ⟨w.heap.size,0,none⟩) 1 1) [x]:=by
 refine⟨_,1,rfl,by simp,by omega,by simp,fun _=>⟨w.heap.size,0,rfl,by simp,fun j y hj=>?_⟩⟩
 match j,hj with
 | 0,hj =>
  simp at hj;subst hj;exact⟨by simp,hx⟩
 | j+1,hj=>simp at hj
theorem f8j:(Tryz.prog.info? 27).map (fun i=>(i.zero,i.size,i.bytes))=some (some (.slice none 0 0),1,24):=by kernel_rfl
def OwnW (w:World) (base:Nat) (v:Value) (vs:List Value):Prop:=w.ownsRow base 27 1 v vs.length vs∧vs.length≤17592186044416∧∀ u∈vs,u.oneCell'=true
theorem OwnW.rd {w:World} {base:Nat} {v:Value} {l:List Value} (h:OwnW w base v l):SlV w w.heap.size v l:=by
 obtain⟨h1,h2,h3⟩:=h;rcases h1.2 with ⟨rfl,h0⟩ | ⟨g,cap,cur,rfl,_,hg,hnc,hcm,hcs,htake⟩
 ·obtain rfl:l=[]:=m1_ h0;exact SlG.nil
 ·refine⟨_,_,rfl,hnc,by simp only[maxLen]at hcm;omega,h2,fun hp=>⟨g,0,rfl,(Array.getElem?_eq_some_iff.1 hg).1,fun j x hj=>⟨?_,h3 x (l4_ hj)⟩⟩⟩;have hc:=h1.cellAt j (by have:=a6_ hj;omega);rw[show 0+j*1=j by omega,hc,hj]
theorem OwnW.below {w w':World} {base:Nat} {v:Value} {l:List Value} (h:OwnW w base v l) (hb:Below w.heap.size w w'):OwnW w' base v l :=
 ⟨h.1.kept (row:=none) ⟨hb.os,hb.tape,hb.output,hb.size,fun k hk _=>hb.block k hk⟩ (by cases v.ownBlock <;> simp),h.2⟩
theorem OwnW.lt {w:World} {base:Nat} {v:Value} {l:List Value} (h:OwnW w base v l):∀ k,v.ownBlock=some k→base≤k∧k<w.heap.size:=h.1.lt
theorem OwnW.lower {w:World} {base base':Nat} {v:Value} {l:List Value} (h:OwnW w base v l) (hb:base'≤base):OwnW w base' v l:=by
 obtain⟨⟨h0,h1⟩,h2⟩:=h;refine⟨⟨h0,?_⟩,h2⟩;rcases h1 with h1 | ⟨g,cap,cur,e,hg,rest⟩
 ·exact .inl h1
 ·exact .inr ⟨g,cap,cur,e,by omega,rest⟩
theorem OwnW.form {w:World} {base:Nat} {v:Value} {l:List Value} (h:OwnW w base v l):∃ A c,v = .slice A l.length c∧l.length≤c∧c≤9223372036854775807:=by
 rcases h.1.2 with ⟨rfl,h0⟩ | ⟨g,cap,cur,rfl,_,_,hnc,hcm,_⟩
 ·exact⟨none,0,by rw[h0],by omega,by omega⟩
 ·exact⟨_,_,rfl,hnc,by simp only[maxLen]at hcm;omega⟩
theorem a5z {w:World} {ops:Array Oper} {rest:List Oper} {o:Oper} {a:Act} {Q:Exit→Act→World→Prop} (hgd:o.guard=none) (s x:Operand)
  (ho:o.op = .call { callee:=.builtin .append,args:=#[s,x],argTypes:=#[69,69] })
  (base B:Nat) (v:Value) (l:List Value) (hs:a.eval s=v) (hown:OwnW w base v l) (A:Option Addr) (m c:Nat) (news:List Value) (hx:a.eval x = .slice A m c) (hm:m=news.length) (hr:SlV w B (.slice A news.length c) news)
  (hn:l.length+news.length≤1048576) (hbase:base≤w.heap.size)
  (h:∀ v' w',OwnW w' base v' (l ++ news)→w.grownBy w' v.ownBlock→(v'.ownBlock=v.ownBlock∨v'.ownBlock=some w.heap.size)→wpList Tryz.prog ops Q rest (a.put o.dst v') w'):wpList Tryz.prog ops Q (o :: rest) a w:=by
 subst hm;obtain⟨i0,hi,hz0,hz1,hz2⟩:=info_parts f8j;refine f1_ w hgd s x _ ho base 27 i0 _ 1 24 Tryz.underlying69 hi hz0 hz1 hz2 rfl (by decide) v l.length _ hs hown.1 A _ c _ hx (r2_.of_slV hr) (SlV.one hr) (by simp only[maxLen];omega) (by omega) hbase fun v' w' h1 h2 h3=>?_
 refine h v' w' ⟨by simpa using h1,by simp;omega,fun y hy=>?_⟩ h2 h3;rcases List.mem_append.1 hy with hy | hy
 ·exact hown.2.2 y hy
 ·exact SlV.one hr y hy
theorem OwnW.nil (w:World) (base:Nat):OwnW w base (.slice none 0 0) []:=⟨⟨by simp,.inl ⟨rfl,rfl⟩⟩,by simp,by simp⟩
theorem d8_.grown {w w':World} {lo hi:Nat} {v:Value} {ms:List Mx} {row:Option Nat} (h:d8_ w lo hi v ms) (hg:w.grownBy w' row) (hr:∀ g,row=some g→g<lo∨hi≤g) (hh:hi≤w.heap.size):d8_ w' lo hi v ms:=by
 cases row with
 | none=>exact h.below ⟨hg.os,hg.tape,hg.output,hg.size,fun k hk=>hg.block k hk (by simp)⟩
 | some g =>
  refine h.chg (lo':=g) (hi':=g+1) ⟨hg.os,hg.tape,hg.output,hg.size,fun k hk hne=>hg.block k hk (by intro e;injection e with e;omega)⟩ ?_;rcases hr g rfl with h1 | h1
  ·exact .inr (by omega)
  ·exact .inl h1
def SlMM (w:World) (B:Nat) (v:Value) (L:List (List Mx)):Prop:=∃ vs:List Value,SlV w B v vs∧vs.length=L.length∧∀ (j:Nat) (u:Value) (ms:List Mx),vs[j]?=some u→L[j]?=some ms→SlM w B u ms
theorem SlMM.below {w w':World} {B:Nat} {v:Value} {L:List (List Mx)} (hb:Below B w w') (h:SlMM w B v L):SlMM w' B v L:=by
 obtain⟨vs,h1,h2,h3⟩:=h;exact⟨vs,SlV.below hb h1,h2,fun j u ms hu hm=>SlM.below hb (h3 j u ms hu hm)⟩
theorem SlMM.more {w:World} {B B':Nat} {v:Value} {L:List (List Mx)} (hB:B≤B') (h:SlMM w B v L):SlMM w B' v L:=by
 obtain⟨vs,h1,h2,h3⟩:=h;exact⟨vs,SlV.more hB h1,h2,fun j u ms hu hm=>SlM.more hB (h3 j u ms hu hm)⟩
theorem SlMM.next {w w':World} {v:Value} {L:List (List Mx)} (hb:Below w.heap.size w w') (h:SlMM w w.heap.size v L):SlMM w' w'.heap.size v L:=SlMM.more hb.size (SlMM.below hb h)
theorem SlMM.form {w:World} {B:Nat} {v:Value} {L:List (List Mx)} (h:SlMM w B v L):∃ A c,v = .slice A L.length c∧L.length≤c∧c≤9223372036854775807:=by
 obtain⟨vs,⟨A,c,rfl,h1,h2,_⟩,h3,_⟩:=h;exact⟨A,c,by rw[h3],by omega,h2⟩
theorem SlMM.at_ {w:World} {B n c k:Nat} {A:Option Addr} {L:List (List Mx)} (h:SlMM w B (.slice A n c) L) (hk:k<L.length) :
  ∃ b o u ms,A=some ⟨b,o,none⟩∧b<B∧Hid (L[k]?=some ms)∧w.cell? ⟨b,o+k,none⟩=some u∧SlM w B u ms:=by
 obtain⟨vs,⟨A',c',e,h1,h2,h3,h4⟩,hl,hr⟩:=h;injection e with e1 e2 e3
 obtain⟨b,o,e,hb,hc⟩:=h4 (by omega);have hv:vs[k]?=some (vs[k]'(by omega)):=l2_ (by omega);refine⟨b,o,vs[k]'(by omega),L[k],by rw[e1,e],hb,l2_ hk,?_,hr k _ _ hv (l2_ hk)⟩;have:=(hc k _ hv).1;rwa[Nat.mul_one]at this
def MssI (w:World) (base:Nat) (v:Value) (L:List (List Mx)):Prop:=∃ vs,OwnW w base v vs∧vs.length=L.length∧∀ (j:Nat) (u:Value) (ms:List Mx),vs[j]?=some u→L[j]?=some ms→∃ lo hi,base≤lo∧hi≤w.heap.size∧d8_ w lo hi u ms∧∀ g,v.ownBlock=some g→g<lo∨hi≤g
theorem MssI.nil (w:World) (base:Nat):MssI w base (.slice none 0 0) []:=⟨[],OwnW.nil _ _,rfl,fun j u ms h=>by simp at h⟩
theorem MssI.below {w w':World} {base:Nat} {v:Value} {L:List (List Mx)} (h:MssI w base v L) (hb:Below w.heap.size w w'):MssI w' base v L:=by
 obtain⟨vs,h1,h2,h3⟩:=h;refine⟨vs,h1.below hb,h2,fun j u ms hu hm=>?_⟩;obtain⟨lo,hi,a,b,c,d⟩:=h3 j u ms hu hm;exact⟨lo,hi,a,Nat.le_trans b hb.size,c.below hb,d⟩
theorem MssI.rd {w:World} {base:Nat} {v:Value} {L:List (List Mx)} (h:MssI w base v L):SlMM w w.heap.size v L:=by
 obtain⟨vs,h1,h2,h3⟩:=h;exact⟨vs,h1.rd,h2,fun j u ms hu hm=>by obtain⟨_,_,_,_,c,_⟩:=h3 j u ms hu hm;exact c.rd⟩
theorem MssI.form {w:World} {base:Nat} {v:Value} {L:List (List Mx)} (h:MssI w base v L):∃ A c,v = .slice A L.length c∧L.length≤c∧c≤9223372036854775807:=h.rd.form
theorem MssI.lt {w:World} {base:Nat} {v:Value} {L:List (List Mx)} (h:MssI w base v L):∀ k,v.ownBlock=some k→base≤k∧k<w.heap.size:=by
 obtain⟨vs,h1,_⟩:=h;exact h1.lt
theorem a1j {w:World} {ops:Array Oper} {rest:List Oper} {o:Oper} {a:Act} {Q:Exit→Act→World→Prop} (hgd:o.guard=none) (s x:Operand)
  (ho:o.op = .call { callee:=.builtin .append,args:=#[s,x],argTypes:=#[69,69] })
  (base lo hi:Nat) (v u:Value) (L:List (List Mx)) (ms:List Mx) (hs:a.eval s=v) (hown:MssI w base v L) (A:Option Addr) (c:Nat) (hx:a.eval x = .slice A 1 c) (hr:SlV w w.heap.size (.slice A 1 c) [u])
  (hm:d8_ w lo hi u ms) (hlo:base≤lo) (hhi:hi≤w.heap.size) (hd:∀ g,v.ownBlock=some g→g<lo∨hi≤g) (hn:L.length≤1000) (hbase:base≤w.heap.size)
  (h:∀ v' w',MssI w' base v' (L ++ [ms])→Below base w w'→wpList Tryz.prog ops Q rest (a.put o.dst v') w'):wpList Tryz.prog ops Q (o :: rest) a w:=by
 have hlt:=hown.lt;obtain⟨vs,h1,h2,h3⟩:=hown;refine a5z hgd s x ho base w.heap.size v vs hs h1 A 1 c [u] hx rfl hr (by simp;omega) hbase fun v' w' k1 k2 k3=>?_
 refine h v' w' ⟨vs ++ [u],k1,by simp[h2],fun j y m hj hm'=>?_⟩ (c9_ k2 (fun k hk=>(hlt k hk).1) hbase);have hs':=k2.size;have key:∀ {lo hi:Nat} {y:Value} {m:List Mx},base≤lo→hi≤w.heap.size→d8_ w lo hi y m→(∀ g,v.ownBlock=some g→g<lo∨hi≤g)→∃ lo hi,base≤lo∧hi≤w'.heap.size∧d8_ w' lo hi y m∧∀ g,v'.ownBlock=some g→g<lo∨hi≤g:=fun {lo hi y m} a b c d=>by
  refine⟨lo,hi,a,by omega,c.grown k2 d b,fun g hg=>?_⟩;rcases k3 with k3 | k3
  ·exact d g (by rw[←k3];exact hg)
  ·rw[k3]at hg;injection hg with hg;omega
 by_cases hjl:j<L.length
 ·rw[List.getElem?_append_left (by omega)]at hj hm';obtain⟨lo',hi',a,b,c,d⟩:=h3 j y m hj hm';exact key a b c d
 ·have hj1:=a6_ hm';simp only[List.length_append,List.length_singleton]at hj1;obtain rfl:j=L.length:=by omega
  rw[List.getElem?_append_right (by omega),h2,Nat.sub_self]at hj;rw[List.getElem?_append_right (l_ _),Nat.sub_self]at hm';simp only[List.getElem?_cons_zero,Option.some.injEq]at hj hm';subst hj hm';exact key hlo hhi hm hd
def vcK (P n code m t:Nat):Int:=if m≤t then (dgtN P n code t:Int) else 0
theorem i6X (P n code:Nat):List.replicate n 0=rowF n (vcK P n code n):=by
 apply List.ext_getElem?
 intro i;by_cases h:i<n
 ·rw[c0_ _ h];simp only[vcK,if_neg (show ¬ n≤i by omega)];simp[h]
 ·rw[l6_ (by simp;omega),l6_ (by rw[a2_];omega)]
theorem g4x {P n code m:Nat} (hm:m<n) {d:Int} (hd:d=(dgtN P n code m:Int)):(rowF n (vcK P n code (m+1))).set m d=rowF n (vcK P n code m):=by
 rw[o4_,hd];refine d1_ fun i _=>?_
 simp only[vcK]
 (repeat' split) <;> first | rfl | omega | (subst_vars;rfl)
theorem i6Z (P n code:Nat):rowF n (vcK P n code 0)=rowF n fun i=>(dgtN P n code i:Int):=d1_ fun i _=>by simp[vcK]
theorem a0X (p:Int) (n code:Nat) (w0:World) (hp:2≤p∧p≤5) (hn:n≤1000) (hc:code≤1000000) :
  Calls Tryz.prog 134 #[.int .i64 p,.int .i64 n,.int .i64 code] w0 fun e w'=>∃ v,e = .returned v∧a8_ w' w0.heap.size w'.heap.size v (rowF n fun i=>(dgtN p.toNat n code i:Int))∧Below w0.heap.size w0 w':=by
 obtain⟨P,hP⟩:∃ P:Nat,p=(P:Int):=⟨p.toNat,by omega⟩;subst hP;rw[l5_];have hmk:=A5_ w0 (n:=n) (by omega);obtain⟨W,hW⟩:=e_ (w0.alloc (.cells (f4_ (.int .i64 0) n) 3));have g0:Below w0.heap.size w0 W:=by rw[←hW];exact a0_ _ _
 have ho:a8_ W w0.heap.size (w0.heap.size+1) (.slice (some ⟨w0.heap.size,0,none⟩) n n) (List.replicate n 0):=by
  have h1:W.heap.size=w0.heap.size+1:=by rw[←hW];simp
  rw[←h1,←hW];exact a8_.of_own (OwnI.made0 (l_ _) (by omega))
 rw[i6X P n code]at ho;rw[hW]at hmk;obtain⟨G,hG⟩:=e_ (w0.heap.size);rw[hG]at hmk ho g0⊢;have HG:=h_ hG;clear hG;go_enter Tryz.func134,Tryz.ntmps134
 go_wp2;clear hW;go_loopw [2,8] (fun cv iv wr=>∃ m C:Nat,m≤n∧iv = .int .i64 ((m:Int)-1)∧cv = .int .i64 (C:Int)∧C≤1000000∧Hid (C=code / P ^ (n-m))∧a8_ wr G (G+1) (.slice (some ⟨G,0,none⟩) n n) (rowF n (vcK P n code m))∧Below G w0 wr) (fun _ iv _=>(intOf iv+1).toNat)
 case atStart=>exact⟨n,code,l_ _,by go_num,rfl,hc,by show _=_;rw[Nat.sub_self,Nat.pow_zero,Nat.div_one],ho,g0⟩
 case round =>
  clear ho g0 hmk;obtain⟨m,C,hm,rfl,rfl,hC,HC,ho,hb⟩:=hrel;rcases m with _ | m
  ·rw[i6Z]at ho;go_wp2;go_ret
   have h3:G<wr.heap.size:=(ho.1.lt _ rfl).2;exact⟨_,rfl,ho.wider (l_ _) (by omega),hb⟩
  ·have htm:Int.tmod (C:Int) (P:Int)=((C % P:Nat):Int):=by rw[Int.tmod_eq_emod_of_nonneg (by omega)];rfl
   have htd:Int.tdiv (C:Int) (P:Int)=((C / P:Nat):Int):=by rw[Int.tdiv_eq_ediv_of_nonneg (by omega)];rfl
   have hd:((C % P:Nat):Int)=(dgtN P n code m:Int):=by
    rw[dgtN,HC.out];congr 4;omega
   have hE:C / P=code / P ^ (n-m):=by
    rw[HC.out,Nat.div_div_eq_div_mul,←Nat.pow_succ];congr 2;omega
   have hE1:C / P≤1000000:=Nat.le_trans (Nat.div_le_self _ _) hC;have hD1:C % P<P:=Nat.mod_lt _ (by omega);have ho2:=ho.put (j:=m) (x:=((C % P:Nat):Int)) (by unfold I64;omega);rw[g4x (by omega) hd]at ho2;have HE:=h_ hE;obtain⟨D,hD⟩:=e_ (C % P);obtain⟨E,hE⟩:=e_ (C / P);rw[hD]at htm ho2 hD1;rw[hE]at htd HE hE1;have cA:=(ho.1.cellG (j:=m) (by rw[a2_];omega)).1;have fA:=ho.1.frozenG m;have hc1:Chg G (G+1) wr (wr.setCell ⟨G,m,none⟩ (.int .i64 (D:Int))):=a5_ (l_ _) (m0_ _);have HB:=h_ (hb.trans (hc1.below (l_ _) (by have:=hb.size;have:=HG.out;omega)));have HO2:=h_ ho2;clear hD hE hd HC ho ho2 hb hc1;go_wp2;go_roundw
   case rel=>exact⟨m,E,by omega,by go_num,by trivial,hE1,HE.out,HO2.out,HB.out⟩
   case measure=>simp[intOf] <;> omega
theorem d7q {P:Nat} (hP:2≤P) {i d:Nat} (h:i<d) (hp:¬ P ^ i≤100000):¬ P ^ d≤100000:=by
 have:=Nat.pow_le_pow_right (show 0<P by omega) (Nat.le_of_lt h);omega
theorem B4_ (p:Int) (d:Nat) (w0:World) (hp:2≤p∧p≤5) (hd:d≤1000) :
  Calls Tryz.prog 49 #[.int .i64 p,.int .i64 d] w0 fun e w'=>(∃ c:Nat,e = .returned (.int .i64 c)∧(p.toNat ^ d≤100000→c=p.toNat ^ d)∧(¬ p.toNat ^ d≤100000→100000<c)∧c≤500000∧1≤c)∧w'=w0:=by
 obtain⟨P,hP⟩:∃ P:Nat,p=(P:Int):=⟨p.toNat,by omega⟩;subst hP;rw[l5_];go_enter Tryz.func49,Tryz.ntmps49
 go_wp2;go_loopw [5,6] (fun cv iv wr=>∃ i C:Nat,i≤d∧iv = .int .i64 i∧cv = .int .i64 (C:Int)∧1≤C∧C≤500000∧Hid (C=P ^ i)∧wr=w0) (fun _ iv _=>d-(intOf iv).toNat)
 case atStart=>exact⟨0,1,l0_ _,rfl,rfl,by omega,by omega,by show _=_;rw[Nat.pow_zero],rfl⟩
 case round =>
  obtain⟨i,C,hi,rfl,rfl,hC1,hC,HC,hww⟩:=hrel;replace hww:=hww.symm;subst hww;by_cases hlt:i<d
  ·by_cases hc:C≤100000
   ·obtain⟨M,hM⟩:∃ M:Nat,C*P=M:=⟨_,rfl⟩;have hM1:M≤500000∧1≤M:=by
     rw[←hM];have h5:P=2∨P=3∨P=4∨P=5:=by omega
     rcases h5 with rfl | rfl | rfl | rfl <;> omega
    have hw:wrap64 ((C:Int)*(P:Int))=(M:Int):=by
     have e:(C:Int)*(P:Int)=(M:Int):=by rw[←hM];push_cast;rfl
     rw[e];unfold wrap64;omega
    have HM:=h_ (show M=P ^ (i+1) by rw[←hM,HC.out,Nat.pow_succ]);clear hM HC;go_wp2;go_roundw
    case rel=>exact⟨i+1,M,by omega,by go_num,by first | rfl | rw[hw],hM1.2,hM1.1,HM.out,by trivial⟩
    case measure=>simp[intOf];omega
   ·have HN:=h_ (show ¬ P ^ d≤100000 from d7q (by omega) hlt (by rw[←HC.out];exact hc));go_wp2;go_ret
    exact⟨⟨C,rfl,fun h=>absurd h HN.out,fun _=>by omega,hC,hC1⟩,by trivial⟩
  ·obtain rfl:i=d:=by omega
   go_wp2;go_ret
   exact⟨⟨C,rfl,fun _=>HC.out,fun h=>by have:=HC.out;omega,hC,hC1⟩,by trivial⟩
def rkL5 (p:Int) (X Y:Rp) (F:Nat→Nat→Nat→Int) (V:Nat):List Int:=(List.range V).map fun v=>(rkF p (dmN Y.d v) (dmN X.d v) (F v):Int)
theorem c6Q (p:Int) (X Y:Rp) (F:Nat→Nat→Nat→Int) (V:Nat):rkL5 p X Y F (V+1)=rkL5 p X Y F V ++ [(rkF p (dmN Y.d V) (dmN X.d V) (F V):Int)]:=by simp[rkL5,List.range_succ]
theorem A4_ (p:Int) (X Y:Rp) (F:Nat→Nat→Nat→Int) (V:Nat):(rkL5 p X Y F V).length=V:=by simp[rkL5]
theorem c6q (p:Int) (u:Value) (X Y:Rp) (F:Nat→Nat→Nat→Int) (V:Nat) (w0:World) (hp:c8_ p=true) (hf:Fit2 X Y) (hV:V≤5) (hu:SlM w0 w0.heap.size u (mvL X Y F V)) (hF:∀ v,v<V→InF p (dmN Y.d v) (dmN X.d v) (F v)) :
  Calls Tryz.prog 135 #[.int .i64 p,u] w0 fun e w'=>∃ v,e = .returned v∧a8_ w' w0.heap.size w'.heap.size v (rkL5 p X Y F V)∧Below w0.heap.size w0 w':=by
 obtain⟨A,c,rfl,_,_,_,hx⟩:=hu.open_;have HU:=h_ hu;have HP:=h_ hp;have HF:=h_ hF;have HD:=h_ hf.dims;rw[g0_]at hx HU⊢;clear hu hp hF hx hf;go_enter Tryz.func135,Tryz.ntmps135
 go_wp2;go_loopw [5,10] (fun out i wr=>∃ k:Nat,k≤V∧i = .int .i64 k∧OwnI wr w0.heap.size out (rkL5 p X Y F k)∧Below w0.heap.size w0 wr) (fun _ i _=>V-(intOf i).toNat)
 case atStart=>exact⟨0,l0_ _,rfl,OwnI.nil _ _,Below.refl _ _⟩
 case round =>
  obtain⟨k,hk,rfl,ho,hb⟩:=hrel;have s0:=hb.size;have hol:=A4_ p X Y F k;obtain⟨OA,oc,rfl,_,_⟩:=ho.form;rw[hol]at ho⊢;clear hol;by_cases hlt:k<V
  ·obtain⟨b,o,A',L,c',rfl,hb5,x1,x2,x3,hsl⟩:=SlM.atF HU.out (g0_ X Y F V) (A0_ X Y F hlt);have hdm:=HD.out k;have HFk:=h_ (HF.out k hlt);have HN:=h_ (c6Q p X Y F k);have hln:=A4_ p X Y F k;obtain⟨R,hR⟩:=e_ (dmN Y.d k);obtain⟨C,hC⟩:=e_ (dmN X.d k);obtain⟨f,hf⟩:=e_ (F k);rw[hR,hC]at hdm;rw[hR,hC,hf]at HFk HN hsl;rw[hR]at x1;rw[hC]at x2;clear hR hC hf;obtain⟨rs,hrs⟩:=e_ (rkL5 p X Y F k);rw[hrs]at ho HN hln;clear hrs;obtain⟨W1,hW1,ga,kW⟩:=b_1 wr #[.int .i64 R,.int .i64 C,.slice A' L c'] 65;obtain⟨z0,z1,z2⟩:=c_3 kW;have d1:=a4_ hb hb5 x1;have d2:=a4_ hb hb5 x2;have d3:=a4_ hb hb5 x3;have HM:=h_ (MxR.next (hb.trans (ga.mono s0)) hsl);have HO:=h_ (ho.below ga);have HB:=h_ (hb.trans (ga.mono s0));have hsa:=ga.size;have hlo:=ho.lt;obtain⟨gg,hgg⟩:=e_ (wr.heap.size);rw[hgg]at z0 z1 z2;clear x1 x2 x3 hsl ho hb ga kW;go_wp2_with fail
   clear hW1 hgg;refine (v5_ p _ R C f _ HP.out (by omega) (by omega) HM.out HFk.out).mono ?_;rintro e w2 ⟨rfl,hb2⟩;obtain⟨rk,hrk⟩:=e_ (rkF p R C f);have hrk4:=(r5_ p R C f).1;rw[hrk]at HN hrk4⊢;have HO2:=h_ (HO.out.below hb2);have HB2:=h_ (HB.out.trans (hb2.mono (by omega)));have hs2:=hb2.size;clear hrk HO HB hb2 z0 z1 z2 HM HFk d1 d2 d3
   (go_wp2_with (at_builtin;refine Hold.stop ?_));unfold Hold
   obtain⟨X',hX⟩:∃ X,X=w2.alloc (.cells #[.int .i64 (rk:Int)] 3):=⟨_,rfl⟩;have gn:Below w2.heap.size w2 X':=by rw[hX];exact a0_ _ _
   have h1x:SlI X' X'.heap.size (.slice (some ⟨w2.heap.size,0,none⟩) 1 1) [(rk:Int)]:=by rw[hX];exact SlI.one _ _ _ (by simp only[I64];omega)
   have ho3:=(HO2.out).below gn;have gns:=gn.size;rw[←hX];clear hX;refine d7_ rfl (.tmp 14) (.tmp 18) rfl w0.heap.size X'.heap.size _ _ rfl ho3 _ 1 1 [(rk:Int)] rfl rfl h1x (by simp;omega) (by omega) ?_;intro v' w' h1 h2 h3;rw[←HN.out]at h1;have hbX:=c9_ h2 (B:=w0.heap.size) (fun k hk=>(hlo k hk).1) (by omega);have H1:=h_ h1;have G1:=h_ ((HB2.out).trans ((gn.mono (by omega)).trans hbX));clear h1 h2 h3 hbX gn ho3 h1x HO2 HB2;go_wp2;go_roundw
   case rel=>exact⟨k+1,by omega,by go_num,H1.out,G1.out⟩
   case measure=>simp[intOf];omega
  ·obtain rfl:k=V:=by omega
   go_wp2;go_ret
   exact⟨_,rfl,a8_.of_own ho,hb⟩
def rwF (B:List (List Int)) (i t:Nat):Int:=(B.getD i []).getD t 0
def bsL (X Y:Rp) (B:List (List Int)) (k:Nat):List (List Mx):=(List.range k).map fun i=>mvL X Y (vcF X Y (rwF B i)) X.d.length
theorem d2j (X Y:Rp) (B:List (List Int)) (k:Nat):bsL X Y B (k+1)=bsL X Y B k ++ [mvL X Y (vcF X Y (rwF B k)) X.d.length]:=by simp[bsL,List.range_succ]
theorem m6_ (X Y:Rp) (B:List (List Int)) (k:Nat):(bsL X Y B k).length=k:=by simp[bsL]
theorem f5X (X Y:Rp) (B:List (List Int)) {k i:Nat} (h:i<k):(bsL X Y B k)[i]?=some (mvL X Y (vcF X Y (rwF B i)) X.d.length):=by simp[bsL,h]
theorem c1j {X Y:Rp} {i:Nat} {l:List Int} (h:(hbB X Y)[i]?=some l):l=rowF (hmN X Y) (rwF (hbB X Y) i):=by
 have hl:l.length=hmN X Y:=by
  have:=l4_ h;rw[hbB,kerR,kerM,List.mem_map]at this;obtain⟨a,_,rfl⟩:=this;exact a2_ _ _
 have e:∀ t,rwF (hbB X Y) i t=l.getD t 0:=fun t=>by rw[rwF,l1_ (l:=hbB X Y),h];rfl
 rw[←hl,d1_ fun t _=>e t];exact (c7j l).symm
theorem g7J {X Y:Rp} {i:Nat} {l:List Int} (h:(hbB X Y)[i]?=some l):shL (zrL X.d Y.d X.d.length) l=mvL X Y (vcF X Y (rwF (hbB X Y) i)) X.d.length:=by
 rw[c1j h,c8Z X.d Y.d (hmN X Y) _ X.d.length (show hOff X.d Y.d X.d.length≤hmN X Y from l_ _)];rfl
theorem X7_ (ua ub:Value) (X Y:Rp) (w0:World) (ha:RpR w0 w0.heap.size ua X) (hb:RpR w0 w0.heap.size ub Y) (hf:Fit2 X Y) :
  Calls Tryz.prog 47 #[ua,ub] w0 fun e w'=>∃ v,e = .returned v∧SlMM w' w'.heap.size v (bsL X Y (hbB X Y) (homN X Y))∧Below w0.heap.size w0 w':=by
 have ha':=ha;have hb':=hb;obtain⟨A,a,C,c,Ea,ea,Ha,ha_,rfl,hqa,hda,hma,hpa,lda,lma⟩:=ha.open_;obtain⟨A2,a2,C2,c2,Eb,eb,Hb,hb_,rfl,hqb,hdb,hmb,hpb,ldb,lmb⟩:=hb.open_;clear ha hb;obtain⟨W,hW,g0,k1,k2⟩:=b_4 w0 #[.int .i64 X.p,.int .i64 X.q.v,.slice A X.q.f.length a,.slice C X.q.t.length c,.slice Ea X.d.length ea,.slice Ha X.m.length ha_] 29 #[.int .i64 Y.p,.int .i64 Y.q.v,.slice A2 Y.q.f.length a2,.slice C2 Y.q.t.length c2,.slice Eb Y.d.length eb,.slice Hb Y.m.length hb_] 29;have HXA:=h_ (RpR.next g0 ha');have HXB:=h_ (RpR.next g0 hb');have HQA:=h_ (QvR.next g0 hqa);have HDA:=h_ (SlI.next g0 hda);have HDB:=h_ (SlI.next g0 hdb);have HMA:=h_ (SlM.next g0 hma);have HMB:=h_ (SlM.next g0 hmb);have G0:=h_ g0;clear ha' hb' hqa hqb hda hdb hma hmb hpa hpb g0;have HF:=h_ hf;have HP:=h_ (j0_.1 hf.hx).1;have hn80:=Q0_ hf;have hr96:=b9x hf;have HI:=h_ (S0_ (x:=X) Y hf.p2.1);have hV5:=hf.len.2;have hN80:homN X Y≤80:=by unfold homN;omega
 obtain⟨B,hB⟩:=e_ (hbB X Y);obtain⟨N,hN⟩:=e_ (homN X Y);have HBN:=h_ (show B.length=N by rw[←hB,←hN];exact c0X X Y);have HSH:=h_ (show ∀ (i:Nat) (l:List Int),B[i]?=some l→shL (zrL X.d Y.d X.d.length) l=mvL X Y (vcF X Y (rwF B i)) X.d.length∧l.length=hmN X Y from fun i l h=>by
  rw[←hB]at h⊢;exact⟨g7J h,by rw[c1j h];exact a2_ _ _⟩)
 have HBK:=h_ (show kerR X.p (eqR X Y) (hmN X Y) (eqG X Y)=B from hB);rw[hB,hN];rw[hN]at hN80;obtain⟨R,hR⟩:=e_ (eqR X Y);obtain⟨M,hM⟩:=e_ (hmN X Y);have HBD:=h_ (show ∀ (ua ub:Value) (w:World),RpR w w.heap.size ua X→RpR w w.heap.size ub Y→Calls Tryz.prog 97 #[ua,ub] w fun e w'=>∃ v,e = .returned v∧MxO w' w.heap.size w'.heap.size v (mxF R M (eqG X Y))∧Below w.heap.size w w' from fun ua ub w h1 h2=>by
  have:=y3_ ua ub X Y w h1 h2 HF.out;rw[hR,hM]at this;exact this)
 rw[hR,hM]at HBK HI;rw[hM]at HSH hn80;have HZT:=h_ (show totA (zrL X.d Y.d X.d.length)=M by rw[F7_];exact hM);rw[hR]at hr96;clear hB hN hf hR hM;clear HDA HDB HMA HMB HQA;have K1:=h_ k1;have K2:=h_ k2;clear k1 k2;go_enter Tryz.func47,Tryz.ntmps47
 go_wp2;rw[←hW];clear hW;refine a9_ (by kernel_rfl) [.eq (.pointer (some ⟨w0.heap.size,0,none⟩)),.eq (.int .i64 X.p),.eq (.agg #[.int .i64 X.p,.int .i64 X.q.v,.slice A X.q.f.length a,.slice C X.q.t.length c,.slice Ea X.d.length ea,.slice Ha X.m.length ha_]),.eq (.agg #[.int .i64 Y.p,.int .i64 Y.q.v,.slice A2 Y.q.f.length a2,.slice C2 Y.q.t.length c2,.slice Eb Y.d.length eb,.slice Hb Y.m.length hb_]),rel 4 (fun u lo hi w=>MxO w lo hi u (mxF R M (eqG X Y))),rel 5 (fun u lo hi w=>b4_ w lo hi u B),.eq (.int .i64 N),.eq (.int .i64 0)] [[],[0],[],[],[2,3],[0,1,2,3,4],[0,1,2,3,4,5],[]] 8 (by kernel_rfl) ⟨trivial,trivial,trivial,trivial,a7_ (fun u lo hi w w' h hb=>h.below hb),a7_ (fun u lo hi w w' h hb=>h.below hb),trivial,trivial,trivial⟩ ⟨?_,?_,?_,?_,?_,?_,?_,?_,trivial⟩ ?_;iterate 8 (intro x w hb hk Q' hQ;have he:=k_e hk;simp only[k_s]at he;simp only[netE]at hQ⊢;(try simp only[he]at hQ⊢);(try clear he);rotate_left)
 rotate_left
 ·clear hk;go_wp2;exact hQ _ _ br_ rfl
 ·clear hk;have z:=(K1.out.call hb).cell' (i:=0) rfl;go_wp2;exact hQ _ _ br_ rfl
 ·clear hk;have e0:=K1.out.call hb;obtain⟨z0,z1,z2,z3,z4,z5⟩:=c_6 e0;clear e0;go_wp2;exact hQ _ _ br_ rfl
 ·clear hk;have e0:=K2.out.call hb;obtain⟨z0,z1,z2,z3,z4,z5⟩:=c_6 e0;clear e0;go_wp2;exact hQ _ _ br_ rfl
 ·clear hk;go_wp2_with fail
  refine (HBD.out _ _ _ (RpR.next hb HXA.out) (RpR.next hb HXB.out)).mono ?_;rintro e w8 ⟨v8,rfl,h8,hb8⟩;go_wp2;exact hQ _ _ hb8 h8
 ·have h4:MxO w (x.lo 4) (x.hi 4) (x.v 4) (mxF R M (eqG X Y)):=(hk 4 (by decide)).1;have s4:=(hk 4 (by decide)).2;clear hk;go_wp2_with fail
  refine (b5q X.p _ R M (eqG X Y) _ HP.out (by omega) (by omega) h4.rd HI.out).mono ?_;rintro e w8 ⟨v8,rfl,h8,hb8⟩;rw[HBK.out]at h8;go_wp2;exact hQ _ _ hb8 h8
 ·have h5:b4_ w (x.lo 5) (x.hi 5) (x.v 5) B:=(hk 5 (by decide)).1;clear hk;obtain⟨sA,sc,es,_,_,_⟩:=h5.form2;rw[HBN.out]at es;rw[es]at hQ⊢;clear es h5;go_wp2;exact hQ _ _ br_ rfl
 ·clear hk;go_wp2;exact hQ _ _ br_ rfl
 ·intro x w hb hk hiv hdj;have h4:MxO w (x.lo 4) (x.hi 4) (x.v 4) (mxF R M (eqG X Y)):=hk 4 (by decide);have h5:b4_ w (x.lo 5) (x.hi 5) (x.v 5) B:=hk 5 (by decide);have he:=k_g hk [0,1,2,3,6,7];simp only[k_s]at he;simp only[netE,he];clear he hk;obtain⟨sA,sc,es,_,_,_⟩:=h5.form2;rw[HBN.out]at es;have hrd:=h5.rd;rw[es]at hrd⊢;have HRW:=h_ hrd;have HA1:=h_ (RpR.next hb HXA.out);have HB1:=h_ (RpR.next hb HXB.out);have HK1:=h_ (K1.out.call hb);have HK2:=h_ (K2.out.call hb);have HG1:=h_ (b0_ G0.out hb);clear hiv hdj h4 h5 hb hrd es K1 K2 G0;obtain⟨w1,hw1⟩:∃ z,z=w:=⟨_,rfl⟩;subst hw1;go_wp2;go_loopw [5,7,15] (fun out _ i wr=>∃ k:Nat,k≤N∧i = .int .i64 k∧MssI wr w1.heap.size out (bsL X Y B k)∧Below w1.heap.size w1 wr) (fun _ _ i _=>N-(intOf i).toNat)
  case atStart=>exact⟨0,l0_ _,rfl,MssI.nil _ _,Below.refl _ _⟩
  case round =>
   obtain⟨k,hk,rfl,ho,hbel⟩:=hrel;have hbs:=hbel.size;obtain⟨OA,oc,eo,_,_⟩:=ho.form;rw[m6_]at eo;subst eo;by_cases hlt:k<N
   ·have hrw:=HRW.out;rw[←HBN.out]at hrw;obtain⟨b,o,l,A',c',rfl,hb5,HX,x1,hsl⟩:=SlII.at_ hrw (k:=k) (by rw[HBN.out];exact hlt);obtain⟨hsh,hll⟩:=HSH.out k l HX.out;have HSL:=h_ hsh;have HLL:=h_ hll;rw[hll]at x1 hsl;have d1:=a4_ hbel hb5 x1;have HS:=h_ (SlI.next hbel hsl);have HO:=h_ ho;have HBL:=h_ hbel;have e1:=HK1.out.call hbel;obtain⟨z0,z1,z2,z3,z4,z5⟩:=c_6 e1;have e2:=HK2.out.call hbel;obtain⟨y0,y1,y2,y3,y4,y5⟩:=c_6 e2;have HA2:=h_ (RpR.next hbel HA1.out);have HB2:=h_ (RpR.next hbel HB1.out);have hlo:=ho.lt;clear hrw HX x1 hsl ho hbel e1 e2 hsh hll;go_wp2_with fail
    refine (N6_ _ _ X Y _ HA2.out HB2.out HF.out).mono ?_;rintro e w2 ⟨zv,rfl,hZ,hb2⟩;have HZ:=h_ hZ.rd;have HO2:=h_ (HO.out.below hb2);have HBL2:=h_ (HBL.out.trans (hb2.mono hbs));have HS2:=h_ (SlI.next hb2 HS.out);have hs2:=hb2.size;clear hZ hb2 HO HBL HS z0 z1 z2 z3 z4 z5 y0 y1 y2 y3 y4 y5 HA2 HB2 d1;go_wp2_with fail
    refine (Q9_ _ _ (zrL X.d Y.d X.d.length) l _ HZ.out HS2.out (by rw[o2_];omega) (by rw[HZT.out,HLL.out];exact l_ _)).mono ?_;rintro e w3 ⟨mv,rfl,hM,hb3⟩;rw[HSL.out]at hM;obtain⟨MA,mc,em,_,_⟩:=hM.form2;rw[g0_]at em;subst em;obtain⟨V,hV⟩:=e_ (X.d.length);have HM3:=h_ hM;have HO3:=h_ (HO2.out.below hb3);have HBL3:=h_ (HBL2.out.trans (hb3.mono (by omega)));have hs3:=hb3.size;clear hM hb3 HO2 HBL2 HS2 HZ HSL HLL hV
    (go_wp2_with (at_builtin;refine Hold.stop ?_));unfold Hold
    obtain⟨X',hX⟩:∃ X',X'=w3.alloc (.cells #[.slice MA X.d.length mc] 27):=⟨_,rfl⟩;have gn:Below w3.heap.size w3 X':=by rw[hX];exact a0_ _ _
    have h1x:SlV X' X'.heap.size (.slice (some ⟨w3.heap.size,0,none⟩) 1 1) [.slice MA X.d.length mc]:=by rw[hX];exact SlV.new _ _ _ rfl
    have hm4:=HM3.out.below gn;have ho4:=HO3.out.below gn;have gns:=gn.size;rw[←hX];clear hX;refine a1j rfl (.tmp 19) (.tmp 25) rfl w1.heap.size w2.heap.size w3.heap.size _ _ _ _ rfl ho4 _ 1 rfl h1x hm4 (by omega) gns (fun g hg => .inl (by have:=(hlo g hg).2;omega)) (by rw[m6_];omega) (by omega) ?_;intro v' w' h1 h2;rw[←d2j]at h1;have H1:=h_ h1;have G1:=h_ (HBL3.out.trans ((gn.mono (by omega)).trans h2));clear h1 h2 gn ho4 h1x hm4;go_wp2;go_roundw
    case rel=>exact⟨k+1,by omega,by go_num,H1.out,G1.out⟩
    case measure=>simp[intOf];omega
   ·obtain rfl:k=N:=by omega
    have HO:=h_ ho.rd;have HBL:=h_ (b0_ HG1.out hbel);have hlen:=m6_ X Y B k;clear ho hbel;go_wp2;go_ret
    exact⟨_,rfl,HO.out,HBL.out⟩
theorem OwnI.raise {w:World} {lo g n c:Nat} {l:List Int} (h:OwnI w lo (.slice (some ⟨g,0,none⟩) n c) l):OwnI w g (.slice (some ⟨g,0,none⟩) n c) l:=by
 obtain⟨⟨h0,h1⟩,h2⟩:=h;refine⟨⟨h0,?_⟩,h2⟩;rcases h1 with h1 | ⟨g',cap,cur,e,hg,rest⟩
 ·exact .inl h1
 ·have e2:=e;injection e2 with e2
  injection e2 with e2
  injection e2 with e2
  exact .inr ⟨g',cap,cur,e,by omega,rest⟩
theorem OwnI.down {w:World} {lo g n c:Nat} {l:List Int} (h:OwnI w g (.slice (some ⟨g,0,none⟩) n c) l) (hl:lo≤g):OwnI w lo (.slice (some ⟨g,0,none⟩) n c) l:=by
 obtain⟨⟨h0,h1⟩,h2⟩:=h;refine⟨⟨h0,?_⟩,h2⟩;rcases h1 with h1 | ⟨g',cap,cur,e,hg,rest⟩
 ·exact .inl h1
 ·exact .inr ⟨g',cap,cur,e,by omega,rest⟩
theorem c0x {g:Nat} {w w':World} (h:Chg g (g+1) w w'):w.grownBy w' (some g):=⟨h.os,h.tape,h.output,h.size,fun k hk hne=>h.block k hk (by
 rcases Nat.lt_trichotomy k g with h | h | h
 ·exact .inl h
 ·exact absurd (by rw[h]) hne
 ·exact .inr (by omega))⟩
theorem d8_.turnAt {w:World} {lo hi j:Nat} {mv:Value} {ms:List Mx} {m:Mx} (h:d8_ w lo hi mv ms) (hm:ms[j]?=some m) (hne:0<m.a.length) :
  ∃ gm cm g c,mv = .slice (some ⟨gm,0,none⟩) ms.length cm∧gm<w.heap.size∧w.cell? ⟨gm,j*3+2,none⟩=some (.slice (some ⟨g,0,none⟩) m.a.length c)∧OwnI w lo (.slice (some ⟨g,0,none⟩) m.a.length c) m.a∧(lo≤g∧g<hi)∧m.a.length≤c∧c≤9223372036854775807 ∧
   ∀ w' l',OwnI w' lo (.slice (some ⟨g,0,none⟩) m.a.length c) l'→w.grownBy w' (some g)→d8_ w' lo hi mv (ms.set j ⟨m.r,m.c,l'⟩):=by
 obtain⟨vs,hO,hl,hF,hI⟩:=h;obtain⟨gm,cm,g,c,e,h1,hv,_,_,h4,ho,hg,hc1,hc2,_,_⟩:=OutM.at_ (L0:=[]) hO hl hF hm hne;refine⟨gm,cm,g,c,e,h1,h4,ho,hg,hc1,hc2,fun w' l' ho' hgr=>⟨vs,OutM.rc (ms:=ms) (RowO.grown hO (by decide) ho hgr) ?_,by simp[hl],?_,fun m' hm'=>?_⟩⟩
 ·apply List.ext_getElem?
  intro k;rw[List.getElem?_map,List.getElem?_map,List.getElem?_set];by_cases e:j=k
  ·subst e;rw[if_pos rfl,if_pos (a6_ hm),hm];rfl
  ·rw[if_neg e]
 ·rw[List.map_set];exact Fam.setAt (L0:=[]) hF hv (show (ms.map Mx.a)[j]?=some m.a by simp[hm]) ho' hgr
 ·exact d5z hI hm m' hm'
theorem g1J {X Y:Rp} {F:Nat→Nat→Nat→Int} {V j:Nat} (hj:j<V) (g:Nat→Nat→Int):(mvL X Y F V).set j (mxF (dmN Y.d j) (dmN X.d j) g)=mvL X Y (fun v=>if v=j then g else F v) V:=by
 apply List.ext_getElem?
 intro i;rw[List.getElem?_set];by_cases h:i<V
 ·rw[A0_ _ _ _ h,A0_ _ _ _ h,g0_];by_cases e:j=i
  ·subst e;rw[if_pos rfl,if_pos h];simp
  ·rw[if_neg e,if_neg fun e'=>e e'.symm]
 ·rw[if_neg (show ¬ j=i by omega),l6_ (by rw[g0_];omega),l6_ (by rw[g0_];omega)]
theorem L9_ {X Y:Rp} {F G:Nat→Nat→Nat→Int} {V:Nat} (h:∀ v,v<V→F v=G v):mvL X Y F V=mvL X Y G V:=by
 refine List.map_congr_left fun v hv=>?_
 rw[List.mem_range]at hv;rw[h v hv]
theorem f4Z {p k:Int} (R C:Nat) (f y:Nat→Nat→Int):rowF (R*C) (amF p k 0 (R*C) (fun t=>(flat R C f).getD t 0) (fun t=>(flat R C y).getD t 0))=flat R C (fun a b=>(f a b+k*y a b) % p) :=
 x2_ (by rw[a2_]) fun i j hi hj=>by
  have:=E4_ hi hj;rw[c0_ _ this,amF,if_pos (by omega),Nat.sub_zero,v3_ f hi hj,v3_ y hi hj]
theorem a8j (R C:Nat) (f:Nat→Nat→Int):flat R C f=rowF (R*C) fun t=>(flat R C f).getD t 0:=by
 have:=c7j (flat R C f);rw[a1_]at this;exact this.symm
theorem a7X {R C:Nat} {F:Nat→Nat→Int} (h:∀ a b,0≤F a b∧F a b≤4) (t:Nat) (ht:t<R*C):0≤(flat R C F).getD t 0∧(flat R C F).getD t 0≤4:=by
 obtain⟨i,k,hi,hk,rfl⟩:=T5_ ht;rw[v3_ F hi hk];exact h _ _
def nbX (p:Int) (B:List (List Int)) (d:Nat→Int) (X Y:Rp) (i j v:Nat):Nat→Nat→Int:=if v<j then vcF X Y (nbF p B d (i+1)) v else vcF X Y (nbF p B d i) v
theorem c5q {p:Int} {B:List (List Int)} {d:Nat→Int} {X Y:Rp} {i j V:Nat} (hj:j<V) :
  (mvL X Y (nbX p B d X Y i j) V).set j (mxF (dmN Y.d j) (dmN X.d j) fun a b=>(vcF X Y (nbF p B d i) j a b+d i*vcF X Y (rwF B i) j a b) % p)=mvL X Y (nbX p B d X Y i (j+1)) V:=by
 rw[g1J hj];refine L9_ fun v _=>?_
 unfold nbX;by_cases e:v=j
 ·subst e;rw[if_pos rfl,if_pos (by omega)];rfl
 ·rw[if_neg e];by_cases h:v<j
  ·rw[if_pos h,if_pos (by omega)]
  ·rw[if_neg h,if_neg (by omega)]
theorem c4X {p:Int} {B:List (List Int)} {d:Nat→Int} {X Y:Rp} {i j V:Nat} (hj:j<V):(mvL X Y (nbX p B d X Y i j) V)[j]?=some (mxF (dmN Y.d j) (dmN X.d j) (vcF X Y (nbF p B d i) j)):=by
 rw[A0_ _ _ _ hj,nbX,if_neg (by omega)]
theorem d5Z (p:Int) (B:List (List Int)) (d:Nat→Int) (X Y:Rp) (i V:Nat):mvL X Y (nbX p B d X Y i V) V=mvL X Y (nbX p B d X Y (i+1) 0) V:=L9_ fun v hv=>by
 unfold nbX;rw[if_pos hv,if_neg (by omega)]
theorem c5j (p:Int) (B:List (List Int)) (d:Nat→Int) (X Y:Rp) (i V:Nat):mvL X Y (nbX p B d X Y i 0) V=mvL X Y (vcF X Y (nbF p B d i)) V:=L9_ fun v _=>by
 unfold nbX;rw[if_neg (by omega)]
theorem i5z (R C:Nat) (h:R*C=0) (f g:Nat→Nat→Int):mxF R C f=mxF R C g:=by
 have e:∀ f:Nat→Nat→Int,flat R C f=[]:=fun f=>m1_ (by rw[a1_];exact h)
 unfold mxF;rw[e f,e g]
theorem d5X {p:Int} {B:List (List Int)} {d:Nat→Int} {X Y:Rp} {i j V:Nat} (hj:j<V) (h:dmN Y.d j*dmN X.d j=0):mvL X Y (nbX p B d X Y i j) V=mvL X Y (nbX p B d X Y i (j+1)) V:=by
 rw[←c5q hj,i5z _ _ h _ (vcF X Y (nbF p B d i) j)];have:=c4X (p:=p) (B:=B) (d:=d) (X:=X) (Y:=Y) (i:=i) hj;apply List.ext_getElem?
 intro k;rw[List.getElem?_set];by_cases e:j=k
 ·subst e;rw[if_pos rfl,if_pos (by rw[g0_];exact hj),this]
 ·rw[if_neg e]
theorem W9_ (ua ub lv kv:Value) (X Y:Rp) (B:List (List Int)) (K:Nat) (d:Nat→Int) (w0:World) (ha:RpR w0 w0.heap.size ua X) (hb:RpR w0 w0.heap.size ub Y) (hl:SlMM w0 w0.heap.size lv (bsL X Y B K)) (hk:SlI w0 w0.heap.size kv (rowF K d))
  (hf:Fit2 X Y) (hK:K≤100) (hd:∀ i,i<K→0≤d i∧d i≤5) (hB:∀ i t,i<K→0≤rwF B i t∧rwF B i t≤4) :
  Calls Tryz.prog 133 #[ua,ub,lv,kv] w0 fun e w'=>∃ v,e = .returned v∧d8_ w' w0.heap.size w'.heap.size v (mvL X Y (vcF X Y (nbF X.p B d K)) X.d.length)∧Below w0.heap.size w0 w':=by
 obtain⟨LA,lc,rfl,lc1,lc2⟩:=hl.form;obtain⟨KA,kc,rfl,kc1,kc2,_,hkk⟩:=hk.open_;rw[m6_]at hl lc1⊢;rw[a2_]at hk kc1⊢;clear hkk;have HL0:=h_ hl;have HKV0:=h_ hk;clear hl hk;have ha':=ha;have hb':=hb;obtain⟨A,a,C,c,Ea,ea,Ha,ha_,rfl,hqa,hda,hma,hpa,lda,lma⟩:=ha.open_;obtain⟨A2,a2,C2,c2,Eb,eb,Hb,hb_,rfl,hqb,hdb,hmb,hpb,ldb,lmb⟩:=hb.open_;clear ha hb;obtain⟨W,hW,g0,k1,k2⟩:=b_4 w0 #[.int .i64 X.p,.int .i64 X.q.v,.slice A X.q.f.length a,.slice C X.q.t.length c,.slice Ea X.d.length ea,.slice Ha X.m.length ha_] 29 #[.int .i64 Y.p,.int .i64 Y.q.v,.slice A2 Y.q.f.length a2,.slice C2 Y.q.t.length c2,.slice Eb Y.d.length eb,.slice Hb Y.m.length hb_] 29;have HXA:=h_ (RpR.next g0 ha');have HXB:=h_ (RpR.next g0 hb');have HQA:=h_ (QvR.next g0 hqa);have HDA:=h_ (SlI.next g0 hda);have HDB:=h_ (SlI.next g0 hdb);have HMA:=h_ (SlM.next g0 hma);have HMB:=h_ (SlM.next g0 hmb);have G0:=h_ g0;clear ha' hb' hqa hqb hda hdb hma hmb hpa hpb g0;have HL:=h_ (SlMM.next G0.out HL0.out);have HKV:=h_ (SlI.next G0.out HKV0.out);have HF:=h_ hf;have HD:=h_ hd;have HBB:=h_ hB;have HDM:=h_ hf.dims;have HP2:=hf.p2;have hV5:=hf.len.2;have HNB:=h_ (show ∀ i t,0≤nbF X.p B d i t∧nbF X.p B d i t≤4 from fun i t=>by have:=a3Z HP2.1 B d t i;omega);clear HL0 HKV0 hf hd hB HDA HDB HMA HMB HQA;have K1:=h_ k1;obtain⟨c0,c1,c2_,c3,c4,c5⟩:=c_6 k1;obtain⟨d0,d1,d2,d3,d4,d5⟩:=c_6 k2;clear k1 k2;go_enter Tryz.func133,Tryz.ntmps133
 go_wp2_with fail
 rw[←hW];clear hW;refine (N6_ _ _ X Y _ HXA.out HXB.out HF.out).mono ?_;rintro e w1 ⟨zv,rfl,hZ,hb1⟩;obtain⟨ZA,zc,ez,zc1,zc2⟩:=hZ.form2;rw[o2_]at ez zc1;subst ez;have hZ2:d8_ w1 W.heap.size w1.heap.size (.slice ZA X.d.length zc) (mvL X Y (nbX X.p B d X Y 0 0) X.d.length):=by
  have e:zrL X.d Y.d X.d.length=mvL X Y (nbX X.p B d X Y 0 0) X.d.length:=by rw[c5j];rfl
  rw[←e];exact hZ
 obtain⟨lo,hlo⟩:=e_ (W.heap.size);obtain⟨hi,hhi⟩:=e_ (w1.heap.size);have hs1:=hb1.size;have hs0:=G0.out.size;rw[hlo,hhi]at hZ2 hs1;rw[hlo]at hb1 hs0 HL HKV;have HLO:=h_ hlo;have HHI:=h_ hhi;have HIW:=h_ (show hi≤w1.heap.size by omega);clear hZ c0 c1 c2_ c3 c4 c5 d0 d1 d2 d3 d4 d5 hlo hhi HXA HXB;go_wp2;go_loopw [19] (fun ix wr=>∃ i:Nat,i≤K∧ix = .int .i64 i∧d8_ wr lo hi (.slice ZA X.d.length zc) (mvL X Y (nbX X.p B d X Y i 0) X.d.length)∧Below lo W wr∧Hid (hi≤wr.heap.size)) (fun ix _=>K-(intOf ix).toNat)
 case atStart=>exact⟨0,l0_ _,rfl,hZ2,hb1,HIW.out⟩
 case round =>
  clear hZ2 hb1 HIW;obtain⟨i,hi1,rfl,hM,hbel,hiw⟩:=hrel;by_cases hlt:i<K
  ·obtain⟨b,o,u,ms,rfl,hb5,HX,x1,hsl⟩:=SlMM.at_ HL.out (k:=i) (by rw[m6_];exact hlt);have hms:=HX.out;rw[f5X X Y B hlt]at hms;injection hms with hms
   subst hms;obtain⟨MA,mc,em,mc1,mc2,_,hsl2⟩:=hsl.open_;rw[g0_]at em mc1;subst em;have HSL:=h_ hsl;have e1:=a4_ hbel hb5 x1;have HM:=h_ hM;have HBL:=h_ hbel;clear HX x1 hsl hsl2 hM hbel;go_wp2;go_loopw [26] (fun jx wr=>∃ j:Nat,j≤X.d.length∧jx = .int .i64 j∧d8_ wr lo hi (.slice ZA X.d.length zc) (mvL X Y (nbX X.p B d X Y i j) X.d.length)∧Below lo W wr∧Hid (hi≤wr.heap.size)) (fun jx _=>X.d.length-(intOf jx).toNat)
   case atStart=>exact⟨0,l0_ _,rfl,HM.out,HBL.out,hiw.out⟩
   case round =>
    clear HM HBL hiw e1;obtain⟨j,hj,rfl,hM,hbel,hiw⟩:=hrel;by_cases hjl:j<X.d.length
    ·obtain⟨b2,o2,A',L',c',rfl,hb6,y1,y2,y3,hmx⟩:=SlM.atF HSL.out (g0_ X Y _ _) (A0_ X Y _ hjl);have hdm:=HDM.out j;obtain⟨A'',c'',em,hsy,_,_,_⟩:=hmx.open_;simp only[mxF,Value.agg.injEq,Array.mk.injEq,List.cons.injEq,Value.slice.injEq,and_true,true_and]at em;obtain⟨rfl,rfl,rfl⟩:=em;simp only[mxF]at hsy y3;rw[a1_]at hsy y3;obtain⟨b3,o3,m3,A3,c3,ZA',zc',ez,eza,hb7,HX3,_,_,w3_,hs3⟩:=hM.at_ (k:=j) (by rw[g0_];exact hjl);injection ez with ez1 ez2 ez3
     subst ez1 ez3;subst eza;clear ez2;have hm3:=HX3.out;rw[c4X hjl]at hm3;injection hm3 with hm3
     subst hm3;simp only[mxF]at w3_ hs3;rw[a1_]at w3_ hs3;clear HX3;have HSET:=h_ (c5q (p:=X.p) (B:=B) (d:=d) (X:=X) (Y:=Y) (i:=i) hjl);have HSKIP:=h_ (d5X (p:=X.p) (B:=B) (d:=d) (X:=X) (Y:=Y) (i:=i) hjl);have HAT:=h_ (c4X (p:=X.p) (B:=B) (d:=d) (X:=X) (Y:=Y) (i:=i) hjl);obtain⟨F,hF⟩:=e_ (vcF X Y (nbF X.p B d i) j);obtain⟨G,hG⟩:=e_ (vcF X Y (rwF B i) j);have HFB:=h_ (show ∀ a b,0≤F a b∧F a b≤4 from fun a b=>by rw[←hF];exact HNB.out _ _);have HGB:=h_ (show ∀ a b,0≤G a b∧G a b≤4 from fun a b=>by rw[←hG];exact HBB.out _ _ hlt);rw[hF,hG]at HSET;rw[hF]at hs3 HAT;rw[hG]at hsy;clear hF hG hmx;obtain⟨R,hR⟩:=e_ (dmN Y.d j);obtain⟨C,hC⟩:=e_ (dmN X.d j);rw[hR,hC]at HSET HSKIP HAT hsy y3 w3_ hs3 hdm;rw[hR]at y1;rw[hC]at y2;clear hR hC;obtain⟨L,hL⟩:=e_ (R*C);have hL16:L≤16:=by rw[←hL];exact Nat.mul_le_mul hdm.2 hdm.1
     rw[hL]at hsy y3 w3_ hs3;have HLL:=h_ hL;clear hL;have hc3:L≤c3∧c3≤9223372036854775807:=by
      obtain⟨_,_,e,a1,a2,_⟩:=hs3;injection e with _ _ e3
      rw[a1_,HLL.out]at a1;omega
     have hcc:L≤c'∧c'≤9223372036854775807:=by
      obtain⟨_,_,e,a1,a2,_⟩:=hsy;injection e with _ _ e3
      rw[a1_,HLL.out]at a1;omega
     obtain⟨bk,ok,kd,rfl,hbk,HXK,k1,_⟩:=SlI.atM (k:=i) HKV.out (a2_ _ _) hlt;have hxd:=HXK.out;rw[c0_ _ hlt]at hxd;injection hxd with hxd
     have HDI:=h_ (HD.out i hlt);rw[hxd]at HDI HSET;clear HXK hxd;obtain⟨W1,hW1,ga,kW⟩:=b_1 wr #[.int .i64 R,.int .i64 C,.slice A' L c'] 65;have f1:=a4_ hbel hb6 y1;have f2:=a4_ hbel hb6 y2;have f3:=a4_ hbel hb6 y3;have hbs:=hbel.size;have hwl:lo≤wr.heap.size:=by have:=HLO.out;omega
     have hba:=hbel.trans (ga.mono hwl);have HBA:=h_ hba;have HBW:=h_ (show Below W.heap.size W W1 by rw[HLO.out];exact hba);have HM1:=h_ (hM.below ga);have HSY:=h_ hsy;have HW3:=h_ (a4_ ga hb7 w3_);have HK1:=h_ (And.intro hbk k1);have KW:=h_ kW;have gas:=ga.size;have hb71:b3<W1.heap.size:=by omega
     have HIS:=h_ (show hi≤W1.heap.size by have:=hiw.out;omega);obtain⟨gb,hgb⟩:=e_ (wr.heap.size);rw[hgb]at KW;clear y1 y2 y3 hM hbel hsy w3_ hs3 ga kW hba hiw hbk k1;go_upto_region 8 with fail
     clear hW1 f1 f2 f3 hgb;refine a9_ (by kernel_rfl) [.eq (.pointer (some ⟨w0.heap.size,0,none⟩)),.eq (.int .i64 X.p),.eq (.slice (some ⟨b3,o3,none⟩) X.d.length zc),.eq (.int .i64 j),.eq (.pointer (some ⟨b3,o3+j*3,none⟩)),.eq (.pointer (some ⟨b3,o3+j*3+2,none⟩)),.eq (.slice A3 L c3),.eq (.slice (some ⟨bk,ok,none⟩) K kc),.eq (.int .i64 i),.eq (.pointer (some ⟨bk,ok+i,none⟩)),.eq (.int .i64 kd),.eq (.pointer (some ⟨gb,2,none⟩)),.eq (.slice A' L c')] [[],[0],[],[],[2,3],[2,3,4],[2,3,4,5],[],[],[7,8],[7,8,9],[],[11],[0,1,2,3,4,5,6,7,8,9,10,11,12]] 13 (by kernel_rfl) ⟨trivial,trivial,trivial,trivial,trivial,trivial,trivial,trivial,trivial,trivial,trivial,trivial,trivial,trivial⟩ ⟨?_,?_,?_,?_,?_,?_,?_,?_,?_,?_,?_,?_,?_,trivial⟩ ?_;iterate 13 (intro x w hb hk Q' hQ;have he:=k_e hk;simp only[k_s]at he;simp only[netE]at hQ⊢;(try simp only[he]at hQ⊢);(try clear he);rotate_left)
     rotate_left
     ·clear hk;go_wp2;exact hQ _ _ br_ rfl
     ·clear hk;have z:=(K1.out.call (b0_ HBW.out hb)).cell' (i:=0) rfl;go_wp2;exact hQ _ _ br_ rfl
     iterate 4 (· clear hk;go_wp2;exact hQ _ _ br_ rfl)
     ·clear hk;have z:=a4_ hb hb71 HW3.out;go_wp2;exact hQ _ _ br_ rfl
     iterate 3 (· clear hk;go_wp2;exact hQ _ _ br_ rfl)
     ·clear hk;have z:=a4_ (HBA.out.trans (hb.mono (by omega))) HK1.out.1 HK1.out.2;go_wp2;exact hQ _ _ br_ rfl
     ·clear hk;go_wp2;exact hQ _ _ br_ rfl
     ·clear hk;have z:=(KW.out.call hb).cell' (i:=2) rfl;go_wp2;exact hQ _ _ br_ rfl
     ·intro x w hb hk hiv hdj;have he:=k_g hk [0,1,2,3,4,5,6,7,8,9,10,11,12];simp only[k_s]at he;simp only[netE,he];clear he hk;have HBF:=h_ (HBA.out.trans (hb.mono (by omega)));have HMF:=h_ (HM1.out.below hb);have HC3:=h_ (a4_ hb hb71 HW3.out);have hsz:=hb.size;have HIS2:=h_ (show hi≤w.heap.size by have:=HIS.out;omega);clear hiv hdj hb HBA HBW HM1 HW3 KW HIS;go_wp2_with fail
      rcases Nat.eq_zero_or_pos L with h0 | h0
      ·refine (y2_ X.p kd (.slice A3 L c3) _ A' L c' _ h0 ⟨_,_,_,rfl⟩ rfl hcc.2).mono ?_;rintro e w9 ⟨rfl,hww⟩;replace hww:=hww.symm;subst hww;have HMG:=h_ (show d8_ w lo hi (.slice (some ⟨b3,o3,none⟩) X.d.length zc) (mvL X Y (nbX X.p B d X Y i (j+1)) X.d.length) by rw[←HSKIP.out (by rw[HLL.out];exact h0)];exact HMF.out);clear HMF HC3;go_wp2;go_roundw
       case rel=>exact⟨j+1,by omega,by go_num,HMG.out,HBF.out,HIS2.out⟩
       case measure=>simp[intOf];omega
      ·obtain⟨gm,cm,g,c9,e9,_,h9,ho9,hg9,hc9,_,hturn⟩:=HMF.out.turnAt HAT.out (by simp only[mxF];rw[a1_,HLL.out];exact h0);simp only[mxF]at h9 ho9 hc9 hturn;rw[a1_,HLL.out]at h9 ho9 hc9 hturn;injection e9 with e91 e92 e93
       injection e91 with e91
       injection e91 with e911 e912
       subst e911 e912;clear e92 e93;have h10:=HC3.out;rw[Nat.zero_add]at h10;rw[h10]at h9;injection h9 with h9
       injection h9 with h91 _ h93
       subst h91 h93;have hfr:=a8j R C F;have hgr:=a8j R C G;rw[HLL.out]at hfr hgr;have hown:a8_ w g (g+1) (.slice (some ⟨g,0,none⟩) L c3) (rowF L fun t=>(flat R C F).getD t 0):=by
        rw[←hfr];exact⟨ho9.raise,fun k hk=>by simp[Value.ownBlock]at hk;omega⟩
       have hsrc:SlI w g (.slice A' L c') (rowF L fun t=>(flat R C G).getD t 0):=by
        rw[←hgr];exact SlI.more hg9.1 (SlI.below HBF.out HSY.out)
       have hgw:g≤w.heap.size:=by have:=HIS2.out;omega
       refine (p9_ X.p kd g 0 L L c3 c3 g (g+1) _ _ _ w HP2 HDI.out hown ⟨l_ _,m0_ _⟩ (by omega) (by omega) hc3 hgw hsrc (fun t ht=>a7X HFB.out t (by rw[HLL.out];exact ht)) (fun t ht=>a7X HGB.out t (by rw[HLL.out];exact ht))).mono ?_;rintro e w9 ⟨rfl,hI9,hc99,hs9⟩;have e8:=f4Z (p:=X.p) (k:=kd) R C F G;rw[HLL.out]at e8;rw[e8]at hI9;have hM9:=hturn w9 _ (OwnI.down hI9.1 hg9.1) (c0x hc99);have HMG:=h_ (show d8_ w9 lo hi (.slice (some ⟨b3,0,none⟩) X.d.length zc) (mvL X Y (nbX X.p B d X Y i (j+1)) X.d.length) by rw[←HSET.out];exact hM9);have HBG:=h_ (HBF.out.trans (hc99.below hg9.1 (by have:=HIS2.out;omega)));have HIS3:=h_ (show hi≤w9.heap.size by have:=HIS2.out;omega);clear hM9 hI9 hc99 hs9 e8 hown hsrc hturn ho9 h10 hfr hgr HMF HC3 HBF HIS2;go_wp2;go_roundw
       case rel=>exact⟨j+1,by omega,by go_num,HMG.out,HBG.out,HIS3.out⟩
       case measure=>simp[intOf];omega
    ·obtain rfl:j=X.d.length:=by omega
     rw[d5Z]at hM;have HM:=h_ hM;have HBL:=h_ hbel;clear hM hbel;go_wp2;go_roundw
     case rel=>exact⟨i+1,by omega,by go_num,HM.out,HBL.out,hiw.out⟩
     case measure=>simp[intOf];omega
  ·obtain rfl:i=K:=by omega
   rw[c5j]at hM;have HM:=h_ (d8_.wider hM (lo':=w0.heap.size) (hi':=wr.heap.size) (by omega) hiw.out);have HBL:=h_ (G0.out.trans (hbel.mono (by omega)));clear hM hbel;go_wp2;go_ret
   exact⟨_,rfl,HM.out,HBL.out⟩
theorem b9Z (ua ub:Value) (X Y:Rp) (w0:World) (ha:RpR w0 w0.heap.size ua X) (hb:RpR w0 w0.heap.size ub Y) (hf:Fit2 X Y) :
  Calls Tryz.prog 45 #[ua,ub] w0 fun e w'=>e = .returned (.bool true)∧Below w0.heap.size w0 w':=by
 have HF:=h_ hf;clear hf;have ha':=ha;have hb':=hb;obtain⟨A,a,C,c,Ea,ea,Ha,ha_,rfl,hqa,hda,hma,hpa,lda,lma⟩:=ha.open_;obtain⟨A2,a2,C2,c2,Eb,eb,Hb,hb_,rfl,hqb,hdb,hmb,hpb,ldb,lmb⟩:=hb.open_;clear ha hb;obtain⟨W,hW,g0,k1,k2⟩:=b_4 w0 #[.int .i64 X.p,.int .i64 X.q.v,.slice A X.q.f.length a,.slice C X.q.t.length c,.slice Ea X.d.length ea,.slice Ha X.m.length ha_] 29 #[.int .i64 Y.p,.int .i64 Y.q.v,.slice A2 Y.q.f.length a2,.slice C2 Y.q.t.length c2,.slice Eb Y.d.length eb,.slice Hb Y.m.length hb_] 29;have HXA:=h_ (RpR.next g0 ha');have HXB:=h_ (RpR.next g0 hb');have HQA:=h_ (QvR.next g0 hqa);have HDA:=h_ (SlI.next g0 hda);have HDB:=h_ (SlI.next g0 hdb);have HMA:=h_ (SlM.next g0 hma);have HMB:=h_ (SlM.next g0 hmb);have G0:=h_ g0;clear ha' hb' hqa hqb hda hdb hma hmb hpa hpb g0;clear HDA HDB HMA HMB HQA;obtain⟨c0,c1,c2,c3,c4,c5⟩:=c_6 k1;obtain⟨d0,d1,d2,d3,d4,d5⟩:=c_6 k2;go_enter Tryz.func45,Tryz.ntmps45
 go_wp2_with fail
 rw[←hW];clear hW;refine (j4_ _ X _ HXA.out).mono ?_;rintro e w1 ⟨rfl,hb1⟩;rw[HF.out.hx];have G1:=h_ (G0.out.trans (hb1.mono G0.out.size));have HA1:=h_ (RpR.next hb1 HXA.out);have HB1:=h_ (RpR.next hb1 HXB.out);clear c0 c1 c2 c3 c4 c5 d0 d1 d2 d3 d4 d5;replace k1:=k1.call hb1;replace k2:=k2.call hb1;clear hb1 G0 HXA HXB;obtain⟨c0,c1,c2,c3,c4,c5⟩:=c_6 k1;obtain⟨d0,d1,d2,d3,d4,d5⟩:=c_6 k2;go_wp2_with fail
 refine (j4_ _ Y _ HB1.out).mono ?_;rintro e w2 ⟨rfl,hb2⟩;rw[HF.out.hy];have G2:=h_ (G1.out.trans (hb2.mono G1.out.size));have HA2:=h_ (RpR.next hb2 HA1.out);have HB2:=h_ (RpR.next hb2 HB1.out);clear c0 c1 c2 c3 c4 c5 d0 d1 d2 d3 d4 d5;replace k1:=k1.call hb2;replace k2:=k2.call hb2;clear hb2 G1 HA1 HB1;obtain⟨c0,c1,c2,c3,c4,c5⟩:=c_6 k1;obtain⟨d0,d1,d2,d3,d4,d5⟩:=c_6 k2;have hpp:(X.p == Y.p)=true:=by rw[beq_iff_eq];exact HF.out.hp
 obtain⟨_,_,_,_,_,_,_,_,ea2,hqa,_⟩:=HA2.out.open_;obtain⟨_,_,_,_,_,_,_,_,eb2,hqb,_⟩:=HB2.out.open_;simp only[Value.agg.injEq,Array.mk.injEq,List.cons.injEq,and_true,true_and,Value.slice.injEq]at ea2 eb2;obtain⟨⟨rfl,rfl⟩,⟨rfl,rfl⟩,⟨rfl,rfl⟩,⟨rfl,rfl⟩⟩:=ea2;obtain⟨⟨rfl,rfl⟩,⟨rfl,rfl⟩,⟨rfl,rfl⟩,⟨rfl,rfl⟩⟩:=eb2;have HQ1:=h_ hqa;have HQ2:=h_ hqb;clear hqa hqb;go_wp2_with fail
 refine (y1_ _ _ X.q Y.q _ HQ1.out HQ2.out).mono ?_;rintro e w3 ⟨rfl,hb3⟩;rw[decide_eq_true HF.out.hq];have G3:=h_ (G2.out.trans (hb3.mono G2.out.size));clear hb3 G2;go_wp2;go_ret
 exact⟨rfl,G3.out⟩
theorem O3_ (ua ub:Value) (X Y:Rp) (w0:World) (ha:RpR w0 w0.heap.size ua X) (hb:RpR w0 w0.heap.size ub Y) (hf:Fit2 X Y) :
  Calls Tryz.prog 26 #[ua,ub] w0 fun e w'=>e = .returned (.int .i64 (homN X Y:Int))∧Below w0.heap.size w0 w':=by
 have HF:=h_ hf;clear hf;have ha':=ha;have hb':=hb;obtain⟨A,a,C,c,Ea,ea,Ha,ha_,rfl,hqa,hda,hma,hpa,lda,lma⟩:=ha.open_;obtain⟨A2,a2,C2,c2,Eb,eb,Hb,hb_,rfl,hqb,hdb,hmb,hpb,ldb,lmb⟩:=hb.open_;clear ha hb;obtain⟨W,hW,g0,k1,k2⟩:=b_4 w0 #[.int .i64 X.p,.int .i64 X.q.v,.slice A X.q.f.length a,.slice C X.q.t.length c,.slice Ea X.d.length ea,.slice Ha X.m.length ha_] 29 #[.int .i64 Y.p,.int .i64 Y.q.v,.slice A2 Y.q.f.length a2,.slice C2 Y.q.t.length c2,.slice Eb Y.d.length eb,.slice Hb Y.m.length hb_] 29;have HXA:=h_ (RpR.next g0 ha');have HXB:=h_ (RpR.next g0 hb');have HQA:=h_ (QvR.next g0 hqa);have HDA:=h_ (SlI.next g0 hda);have HDB:=h_ (SlI.next g0 hdb);have HMA:=h_ (SlM.next g0 hma);have HMB:=h_ (SlM.next g0 hmb);have G0:=h_ g0;clear ha' hb' hqa hqb hda hdb hma hmb hpa hpb g0;clear HDA HDB HMA HMB HQA;obtain⟨c0,c1,c2,c3,c4,c5⟩:=c_6 k1;obtain⟨d0,d1,d2,d3,d4,d5⟩:=c_6 k2;go_enter Tryz.func26,Tryz.ntmps26
 go_wp2_with fail
 rw[←hW];clear hW;refine (b9Z _ _ X Y _ HXA.out HXB.out HF.out).mono ?_;rintro e w1 ⟨rfl,hb1⟩;have G1:=h_ (G0.out.trans (hb1.mono G0.out.size));have HA1:=h_ (RpR.next hb1 HXA.out);have HB1:=h_ (RpR.next hb1 HXB.out);clear c0 c1 c2 c3 c4 c5 d0 d1 d2 d3 d4 d5;replace k1:=k1.call hb1;replace k2:=k2.call hb1;clear hb1 G0 HXA HXB;obtain⟨c0,c1,c2,c3,c4,c5⟩:=c_6 k1;obtain⟨d0,d1,d2,d3,d4,d5⟩:=c_6 k2;go_wp2_with fail
 refine (t0_ _ _ X Y _ HA1.out HB1.out HF.out).mono ?_;rintro e w2 ⟨rfl,hb2⟩;have G2:=h_ (G1.out.trans (hb2.mono G1.out.size));clear hb2 G1;go_wp2;go_ret
 exact⟨rfl,G2.out⟩
end Go.Proofs.YtbgccbmdiolhbaaGreat

