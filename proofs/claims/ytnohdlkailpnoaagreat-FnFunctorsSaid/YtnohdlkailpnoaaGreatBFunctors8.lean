/- FnFunctors: the law holds for every argument. Part 8 of 14 of the proof: RankT, RrU, KerF, HomP, HomM, Hom1, RvA, InOut, RfP, Mul2, Hom2. No condition. -/
import Derived.Test.YtnohdlkailpnoaaGreatBFunctors7
set_option linter.unusedVariables false
set_option linter.unusedSimpArgs false
set_option maxHeartbeats 12800000
set_option maxRecDepth 100000
namespace Go.Proofs.YtnohdlkailpnoaaGreat
open Go.RowKit
theorem L2_ (a b:Nat→Int):∀ n,sgF (fun t=>a t+b t) n=sgF a n+sgF b n
 | 0=>rfl
 | n+1=>by simp only[sgF];rw[L2_ a b n];omega
theorem p9_ (s:Int) (a:Nat→Int):∀ n,sgF (fun t=>s*a t) n=s*sgF a n
 | 0=>by simp[sgF]
 | n+1=>by simp only[sgF];rw[p9_ s a n,Int.mul_add]
theorem a5_ {a b:Nat→Int}:∀ {n},(∀ t,t<n→a t=b t)→sgF a n=sgF b n
 | 0,_=>rfl
 | n+1,h=>by simp only[sgF];rw[a5_ fun t ht=>h t (by omega),h n (by omega)]
theorem sg_0:∀ n,sgF (fun _=>0) n=0
 | 0=>rfl
 | n+1=>by simp only[sgF];rw[sg_0 n];rfl
theorem w9_ {p:Int} {a:Nat→Int}:∀ {n},(∀ t,t<n→p∣a t)→p∣sgF a n
 | 0,_=>⟨0,by simp[sgF]⟩
 | n+1,h=>Int.dvd_add (w9_ fun t ht=>h t (by omega)) (h n (by omega))
theorem A0_ (a b:Nat→Int):∀ n,sgF (fun t=>a t-b t) n=sgF a n-sgF b n
 | 0=>rfl
 | n+1=>by simp only[sgF];rw[A0_ a b n];omega
theorem r6_ (h:Nat→Nat→Int) (m:Nat):∀ n,sgF (fun s=>sgF (fun t=>h s t) m) n=sgF (fun t=>sgF (fun s=>h s t) n) m
 | 0=>by simp only[sgF];rw[sg_0]
 | n+1=>by
  simp only[sgF];rw[r6_ h m n,←L2_]
theorem s7_ {h:Nat→Int} {b0:Nat}:∀ {n},b0<n→sgF (fun b=>if b=b0 then h b else 0) n=h b0
 | n+1,hb=>by
  simp only[sgF];by_cases e:n=b0
  ·rw[if_pos e,a5_ (b:=fun _=>0) fun t ht=>if_neg (by omega),sg_0,e];omega
  ·rw[if_neg e,s7_ (by omega)];omega
theorem v3_ (p a:Int):p∣a % p-a:=⟨-(a / p),by rw[Int.emod_def,Int.mul_neg];omega⟩
theorem k2_ {p a b:Int} (h:p∣a-b):p∣a↔p∣b:=by
 constructor
 ·intro k;have:=Int.dvd_sub k h;rwa[show a-(a-b)=b by omega]at this
 ·intro k;have:=Int.dvd_add h k;rwa[show a-b+b=a by omega]at this
theorem i9_ {p a b:Int} (x:Int) (h:p∣a-b):p∣a*x-b*x:=by
 rw[←Int.sub_mul];exact Int.dvd_mul_of_dvd_left h
theorem j2_ {p a b:Int} (x:Int) (h:p∣a-b):p∣x*a-x*b:=by
 rw[←Int.mul_sub];exact Int.dvd_mul_of_dvd_right h
theorem j9_ {p:Int} {a b:Nat→Int} {n:Nat} (h:∀ t,t<n→p∣a t-b t):p∣sgF a n-sgF b n:=by
 rw[←A0_];exact w9_ h
def Ker (p:Int) (r:Nat) (f:Nat→Nat→Int) (k:Nat) (x:Nat→Int):Prop:=∀ i,i<r→p∣sgF (fun t=>f i t*x t) k
theorem K9_ {p:Int} {r k:Nat} {f:Nat→Nat→Int} {x y:Nat→Int} (h:∀ t,t<k→p∣x t-y t):Ker p r f k x↔Ker p r f k y :=
 ⟨fun hx i hi=>(k2_ (j9_ fun t ht=>j2_ (f i t) (h t ht))).1 (hx i hi),fun hx i hi=>(k2_ (j9_ fun t ht=>j2_ (f i t) (h t ht))).2 (hx i hi)⟩
theorem f3j {p:Int} {r n t k:Nat} {f:Nat→Nat→Int} {x:Nat→Int} (hn:n<r) (ht:t<r):Ker p r (swA n t f) k x↔Ker p r f k x:=by
 constructor
 ·intro h i hi;by_cases e:i=t
  ·subst e;have:=h n hn;simpa only[swA,if_true] using this
  ·by_cases e2:i=n
   ·subst e2;have:=h t ht;simp only[swA]at this;by_cases e3:t=i
    ·exact absurd e3.symm e
    ·simpa only[if_neg e3,if_true] using this
   ·have:=h i hi;simpa only[swA,if_neg e,if_neg e2] using this
 ·intro h i hi;simp only[swA];by_cases e:i=n
  ·simp only[if_pos e];exact h t ht
  ·by_cases e2:i=t
   ·simp only[if_neg e,if_pos e2];exact h n hn
   ·simp only[if_neg e,if_neg e2];exact h i hi
theorem f4z {p s y:Int} {r n k:Nat} {f:Nat→Nat→Int} {x:Nat→Int} (hs:p∣s*y-1):Ker p r (scA p n s f) k x↔Ker p r f k x:=by
 have key:∀ i,(p∣sgF (fun t=>scA p n s f i t*x t) k)↔p∣sgF (fun t=>f i t*x t) k:=by
  intro i;by_cases e:i=n
  ·have h1:p∣sgF (fun t=>scA p n s f i t*x t) k-s*sgF (fun t=>f i t*x t) k:=by
    rw[←p9_];refine j9_ fun t _=>?_
    simp only[scA,if_pos e];rw[←Int.mul_assoc,Int.mul_comm s];exact i9_ _ (v3_ _ _)
   rw[k2_ h1];constructor
   ·intro h;obtain⟨c,hc⟩:=h;obtain⟨d,hd⟩:=hs;refine⟨c*y-d*sgF (fun t=>f i t*x t) k,?_⟩;rw[Int.mul_sub,←Int.mul_assoc,←hc,←Int.mul_assoc,←hd,Int.sub_mul,Int.one_mul];rw[show s*sgF (fun t=>f i t*x t) k*y=s*y*sgF (fun t=>f i t*x t) k by rw[Int.mul_right_comm]];omega
   ·exact fun h=>Int.dvd_mul_of_dvd_right h
  ·simp only[scA,if_neg e]
 exact⟨fun h i hi=>(key i).1 (h i hi),fun h i hi=>(key i).2 (h i hi)⟩
theorem f2z {p:Int} {r n k m:Nat} {f:Nat→Nat→Int} {x:Nat→Int} (hn:n<r):Ker p r (elA p n k f) m x↔Ker p r f m x:=by
 have key:∀ i,i≠n→p∣sgF (fun t=>elA p n k f i t*x t) m-(sgF (fun t=>f i t*x t) m+(p-f i k)*sgF (fun t=>f n t*x t) m):=by
  intro i hi;rw[←p9_,←L2_];refine j9_ fun t _=>?_
  simp only[elA,if_pos hi];rw[←Int.mul_assoc,←Int.add_mul];exact i9_ _ (v3_ _ _)
 constructor
 ·intro h i hi;have hn':=h n hn;simp only[elA,ne_eq,not_true_eq_false,if_false]at hn';by_cases e:i=n
  ·rw[e];exact hn'
  ·have h1:=(k2_ (key i e)).1 (h i hi);have:=Int.dvd_sub h1 (Int.dvd_mul_of_dvd_right (b:=p-f i k) hn');rwa[Int.add_sub_cancel]at this
 ·intro h i hi;by_cases e:i=n
  ·subst e;simp only[elA,ne_eq,not_true_eq_false,if_false];exact h i hi
  ·exact (k2_ (key i e)).2 (Int.dvd_add (h i hi) (Int.dvd_mul_of_dvd_right (h n hn)))
theorem d2x {p x:Int} (hp:f2_ p=true) (h1:1≤x) (h2:x≤p-1):p∣invP p x*x-1:=by
 obtain⟨_,_,h,_⟩:=Y6_ hp h1 h2;rw[Int.mul_comm];have:=v3_ p (x*invP p x);rw[h]at this;have:=Int.dvd_neg.2 this;rwa[Int.neg_sub]at this
theorem z7_ {p:Int} {r c:Nat} {f:Nat→Nat→Int} (hp:f2_ p=true) (hp2:2≤p) (hf:InF p r c f):∀ k,k≤c→∀ m x,Ker p r (rdTo p r f k).1 m x↔Ker p r f m x
 | 0,_,_,_=>Iff.rfl
 | k+1,hk,m,x=>by
  have ih:=z7_ hp hp2 hf k (by omega) m x;have hg:=p6_ hp2 hf k;have hl:=(f6_ p r f k).1;simp only[rdTo];split
  ·rename_i h1
   have hn:=w2_ (f:=(rdTo p r f k).1) (k:=k) hl;have hne:=I5_ hl h1;have hr:=hg _ k h1 (by omega);rw[←ih,rdF,f2z (by omega),f4z (y:=swA (rdTo p r f k).2.length (nzF (rdTo p r f k).1 k (rdTo p r f k).2.length r) (rdTo p r f k).1 (rdTo p r f k).2.length k),f3j (by omega) h1];simp only[swA,if_true];exact d2x hp (by omega) hr.2
  ·exact ih
structure Rd (r:Nat) (g:Nat→Nat→Int) (ps:List Int) (k:Nat):Prop where
 pos:∀ j,j<ps.length→∃ b:Nat,ps[j]?=some (b:Int)∧b<k∧∀ i,i<r→g i b=if i=j then 1 else 0
 low:∀ i b,ps.length≤i→i<r→b<k→g i b=0
theorem b8Z {f:Nat→Nat→Int} {k n r:Nat} (h:¬ nzF f k n r<r) {i:Nat} (h1:n≤i) (h2:i<r):f i k=0:=by
 apply Classical.byContradiction
 intro hne;apply h
 have key:∀ m a,a≤i→i<a+m→nzGo f k a m<a+m:=by
  intro m;induction m with
  | zero=>intro a h3 h4;omega
  | succ m ih =>
   intro a h3 h4;simp only[nzGo];split
   ·rename_i h5
    have:a≠i:=by rintro rfl;exact hne h5
    have:=ih (a+1) (by omega) (by omega);omega
   ·omega
 have:=key (r-n) n h1 (by omega);unfold nzF;omega
theorem X0_ {p:Int} {r c k t:Nat} {g:Nat→Nat→Int} {ps:List Int} (hp:f2_ p=true) (hp2:2≤p) (hg:InF p r c g) (hk:k<c) (ih:Rd r g ps k) (hn:ps.length≤t) (ht:t<r) (hne:g t k≠0) :
  Rd r (elA p ps.length k (scA p ps.length (invP p (swA ps.length t g ps.length k)) (swA ps.length t g))) (ps ++ [(k:Int)]) (k+1):=by
 obtain⟨hpos,hlow⟩:=ih;have hr:=hg t k ht hk;have h01:(0:Int) % p=0:=Int.zero_emod p;have h11:(1:Int) % p=1:=Int.emod_eq_of_lt (by omega) (by omega);generalize hN:ps.length=n at *;have hs:swA n t g n k=g t k:=by simp[swA]
 rw[hs];obtain⟨_,_,hi1,_⟩:=Y6_ hp (show 1≤g t k by omega) hr.2;generalize hS:invP p (g t k)=s at *;have e_nk:scA p n s (swA n t g) n k=1:=by simp only[scA,if_true,swA];exact hi1
 have sw_lo:∀ i b,n≤i→i<r→b<k→swA n t g i b=0:=by
  intro i b h2 h3 h4;simp only[swA];split
  ·exact hlow t b hn ht h4
  ·split
   ·exact hlow _ b (l_ _) (by omega) h4
   ·exact hlow i b h2 h3 h4
 have sc_lo:∀ i b,n≤i→i<r→b<k→scA p n s (swA n t g) i b=0:=by
  intro i b h2 h3 h4;simp only[scA];split
  ·rw[sw_lo i b h2 h3 h4,Int.zero_mul,h01]
  ·exact sw_lo i b h2 h3 h4
 constructor
 ·intro j hj;rw[List.length_append,List.length_singleton,hN]at hj;by_cases e:j<n
  ·obtain⟨b,h5,h6,h7⟩:=hpos j e;refine⟨b,by rw[List.getElem?_append_left (by omega)];exact h5,by omega,fun i hi=>?_⟩;have hnb:scA p n s (swA n t g) n b=0:=sc_lo n b (l_ _) (by omega) h6;simp only[elA];by_cases hin:i=n
   ·rw[if_neg (by simpa using hin),hin,hnb,if_neg (by omega)]
   ·rw[if_pos hin,hnb,Int.mul_zero,Int.add_zero];rcases Nat.lt_or_ge i n with hlt | hge
    ·have:scA p n s (swA n t g) i b=g i b:=by simp only[scA,if_neg hin,swA];rw[if_neg (by omega)]
     rw[this,h7 i hi];split
     ·exact h11
     ·exact h01
    ·rw[sc_lo i b hge hi h6,h01,if_neg (by omega)]
  ·obtain rfl:j=n:=by omega
   refine⟨k,by rw[List.getElem?_append_right (by omega),hN];simp,by omega,fun i hi=>?_⟩;simp only[elA];by_cases hin:i=j
   ·rw[if_neg (by simpa using hin),hin,e_nk,if_pos rfl]
   ·rw[if_pos hin,e_nk,if_neg hin,Int.mul_one];rw[show scA p j s (swA j t g) i k+(p-scA p j s (swA j t g) i k)=p by omega,Int.emod_self]
 ·intro i b h2 h3 h4;rw[List.length_append,List.length_singleton,hN]at h2;simp only[elA];rw[if_pos (by omega)];rcases Nat.lt_or_ge b k with hlt | hge
  ·rw[sc_lo i b (by omega) h3 hlt,sc_lo n b (l_ _) (by omega) hlt,Int.mul_zero,Int.add_zero,h01]
  ·obtain rfl:b=k:=by omega
   rw[e_nk,Int.mul_one,show scA p n s (swA n t g) i b+(p-scA p n s (swA n t g) i b)=p by omega,Int.emod_self]
theorem G2_ {p:Int} {r c:Nat} {f:Nat→Nat→Int} (hp:f2_ p=true) (hp2:2≤p) (hf:InF p r c f):∀ k,k≤c→Rd r (rdTo p r f k).1 (rdTo p r f k).2 k
 | 0,_=>⟨fun j hj=>absurd hj (by simp[rdTo]),fun i b _ _ hb=>absurd hb (by omega)⟩
 | k+1,hk=>by
  have ih:=G2_ hp hp2 hf k (by omega);have hg:=p6_ hp2 hf k;have hl:=(f6_ p r f k).1;simp only[rdTo];split
  ·rename_i h1
   have hn:=w2_ (f:=(rdTo p r f k).1) (k:=k) hl;have hne:=I5_ hl h1;exact X0_ hp hp2 hg (by omega) ih hn.1 h1 hne
  ·rename_i h1
   refine⟨fun j hj=>?_,fun i b h2 h3 h4=>?_⟩
   ·obtain⟨b,h5,h6,h7⟩:=ih.pos j hj;exact⟨b,h5,by omega,h7⟩
   ·rcases Nat.lt_or_ge b k with h | h
    ·exact ih.low i b h2 h3 h
    ·obtain rfl:b=k:=by omega
     exact b8Z h1 h2 h3
theorem q9_ {α:Type}:∀ {l m:List α},l.Nodup→(∀ x∈l,x∈m)→l.length≤m.length
 | [],_,_,_=>l0_ _
 | a :: l,m,hn,hs=>by
  obtain⟨s,t,rfl⟩:=List.append_of_mem (hs a (by simp));rw[List.nodup_cons]at hn;have:=q9_ (l:=l) (m:=s ++ t) hn.2 (fun x hx=>by
   have h1:=hs x (by simp[hx]);have h2:x≠a:=fun e=>hn.1 (e ▸ hx)
   simp only[List.mem_append,List.mem_cons]at h1⊢;rcases h1 with h1 | h1 | h1
   ·exact .inl h1
   ·exact absurd h1 h2
   ·exact .inr h1)
  simp only[List.length_cons,List.length_append]at this⊢;omega
theorem u1_ {α β:Type} {φ:α→β}:∀ {l:List α},l.Nodup→(∀ x∈l,∀ y∈l,φ x=φ y→x=y)→(l.map φ).Nodup
 | [],_,_=>by simp
 | a :: l,hn,hi=>by
  rw[List.nodup_cons]at hn;rw[List.map_cons,List.nodup_cons];refine⟨fun h=>?_,u1_ hn.2 fun x hx y hy=>hi x (by simp[hx]) y (by simp[hy])⟩;obtain⟨y,hy,e⟩:=List.mem_map.1 h;have:=hi y (by simp[hy]) a (by simp) e;exact hn.1 (this ▸ hy)
theorem J8_ {α β:Type} {φ:α→β} {l:List α} {m:List β} (hn:l.Nodup) (hi:∀ x∈l,∀ y∈l,φ x=φ y→x=y) (hm:∀ x∈l,φ x∈m):l.length≤m.length:=by
 rw[←List.length_map (f:=φ)];exact q9_ (u1_ hn hi) fun y hy=>by obtain⟨x,hx,rfl⟩:=List.mem_map.1 hy;exact hm x hx
def prs {α β:Type} (l:List α) (m:List β):List (α×β):=l.flatMap fun x=>m.map fun y=>(x,y)
theorem u8_ {α β:Type} {l:List α} {m:List β} {x:α} {y:β}:(x,y)∈prs l m↔x∈l∧y∈m:=by
 simp only[prs,List.mem_flatMap,List.mem_map,Prod.mk.injEq];constructor
 ·rintro⟨a,ha,b,hb,rfl,rfl⟩;exact⟨ha,hb⟩
 ·rintro⟨h1,h2⟩;exact⟨x,h1,y,h2,rfl,rfl⟩
theorem P2_ {α β:Type} (m:List β):∀ l:List α,(prs l m).length=l.length*m.length
 | []=>by simp[prs]
 | a :: l=>by
  have ih:=P2_ m l;simp only[prs,List.flatMap_cons,List.length_append,List.length_map,List.length_cons]at ih⊢;rw[ih,Nat.add_mul];omega
theorem S8_ {α:Type} {l m:List α} (h1:l.Nodup) (h2:m.Nodup) (h:∀ x∈l,x ∉ m):(l ++ m).Nodup:=by
 rw[List.nodup_append];exact⟨h1,h2,fun x hx y hy e=>h x hx (e ▸ hy)⟩
theorem B7_ {α β:Type} {m:List β} (hm:m.Nodup):∀ {l:List α},l.Nodup→(prs l m).Nodup
 | [],_=>by simp[prs]
 | a :: l,hn=>by
  rw[List.nodup_cons]at hn;have ih:=B7_ hm hn.2;show (m.map (fun y=>(a,y)) ++ prs l m).Nodup;refine S8_ (u1_ hm fun x _ y _ e=>by injection e) ih ?_;rintro⟨x,y⟩ hx hy;obtain⟨z,_,e⟩:=List.mem_map.1 hx;injection e with e1 e2
  exact hn.1 (e1 ▸ (u8_.1 hy).1)
def vecs (p:Nat):Nat→List (List Int)
 | 0=>[[]]
 | n+1=>(prs (vecs p n) (List.range p)).map fun z=>z.1 ++ [(z.2:Int)]
def IsV (p:Nat) (n:Nat) (x:List Int):Prop:=x.length=n∧∀ e∈x,0≤e∧e<p
theorem s1_ {p:Nat}:∀ {n:Nat} {x:List Int},x∈vecs p n↔IsV p n x
 | 0,x=>by
  simp only[vecs,List.mem_singleton,IsV];constructor
  ·rintro rfl;simp
  ·rintro⟨h,_⟩;exact m1_ h
 | n+1,x=>by
  simp only[vecs,List.mem_map];constructor
  ·rintro⟨⟨y,e⟩,h,rfl⟩;obtain⟨h1,h2⟩:=u8_.1 h;obtain⟨h3,h4⟩:=s1_.1 h1;rw[List.mem_range]at h2;refine⟨by simp[h3],fun z hz=>?_⟩;simp only[List.mem_append,List.mem_singleton]at hz;rcases hz with hz | rfl
   ·exact h4 z hz
   ·omega
  ·rintro⟨h1,h2⟩;have hne:x≠[]:=by rintro rfl;simp at h1
   have hl:=h2 (x.getLast hne) (List.getLast_mem hne);refine⟨(x.dropLast,(x.getLast hne).toNat),u8_.2 ⟨s1_.2 ⟨by simp[h1],fun e he=>h2 e (List.dropLast_subset x he)⟩,by rw[List.mem_range];omega⟩,?_⟩;simp only;rw[show (((x.getLast hne).toNat:Nat):Int)=x.getLast hne by omega,List.dropLast_concat_getLast]
theorem t6_ (p:Nat):∀ n,(vecs p n).Nodup
 | 0=>by simp[vecs]
 | n+1=>by
  refine u1_ (B7_ List.nodup_range (t6_ p n)) ?_;rintro⟨x,a⟩ _ ⟨y,b⟩ _ e;simp only at e;have:=List.append_inj_right' e rfl;have h2:=List.append_inj_left' e rfl;simp only[List.cons.injEq,Int.natCast_inj,and_true]at this;rw[h2,this]
theorem C5_ (p:Nat):∀ n,(vecs p n).length=p ^ n
 | 0=>rfl
 | n+1=>by rw[vecs,List.length_map,P2_,C5_ p n,List.length_range,Nat.pow_succ]
def at0 (x:List Int) (t:Nat):Int:=x.getD t 0
def can (p:Nat) (k:Nat) (v:Nat→Int):List Int:=(List.range k).map fun b=>v b % (p:Int)
theorem V4_ {p:Nat} (hp:0<p) (k:Nat) (v:Nat→Int):IsV p k (can p k v):=by
 refine⟨by simp[can],fun e he=>?_⟩;simp only[can,List.mem_map]at he;obtain⟨b,_,rfl⟩:=he;exact⟨Int.emod_nonneg _ (by omega),Int.emod_lt_of_pos _ (by omega)⟩
theorem b6z {p k t:Nat} (v:Nat→Int) (h:t<k):at0 (can p k v) t=v t % (p:Int):=by simp[at0,can,h]
theorem v_at {p n t:Nat} {x:List Int} (h:IsV p n x) (ht:t<n):0≤at0 x t∧at0 x t<p:=by
 have hl:t<x.length:=by rw[h.1];exact ht
 rw[at0,l1_,l2_ hl];exact h.2 _ (List.getElem_mem hl)
theorem P4_ {p n:Nat} {x y:List Int} (hx:IsV p n x) (hy:IsV p n y) (h:∀ t,t<n→(p:Int)∣at0 x t-at0 y t):x=y:=by
 apply List.ext_getElem (by rw[hx.1,hy.1])
 intro t h1 h2;have ht:t<n:=by rw[←hx.1];exact h1
 have a:=v_at hx ht;have b:=v_at hy ht;have e:at0 x t=at0 y t:=by
  obtain⟨c,hc⟩:=h t ht;have:c=0:=by
   rcases Int.lt_trichotomy c 0 with h | h | h
   ·have:(p:Int)*c≤(p:Int)*(-1):=Int.mul_le_mul_of_nonneg_left (by omega) (by omega);omega
   ·exact h
   ·have:(p:Int)*1≤(p:Int)*c:=Int.mul_le_mul_of_nonneg_left (by omega) (by omega);omega
  rw[this,Int.mul_zero]at hc;omega
 rw[at0,at0,l1_,l1_,l2_ h1,l2_ h2]at e;exact e
theorem p3_ (p:Nat) {k t:Nat} (v:Nat→Int) (h:t<k):(p:Int)∣at0 (can p k v) t-v t:=by rw[b6z v h];exact v3_ _ _
def kerB (p:Nat) (r:Nat) (f:Nat→Nat→Int) (k:Nat) (x:List Int):Bool:=(List.range r).all fun i=>decide ((p:Int)∣sgF (fun t=>f i t*at0 x t) k)
theorem c9Q {p r k:Nat} {f:Nat→Nat→Int} {x:List Int}:kerB p r f k x=true↔Ker p r f k (at0 x):=by
 simp only[kerB,List.all_eq_true,List.mem_range,decide_eq_true_eq];rfl
def kerL (p:Nat) (r:Nat) (f:Nat→Nat→Int) (k:Nat):List (List Int):=(vecs p k).filter (kerB p r f k)
theorem d2_ {p r k:Nat} {f:Nat→Nat→Int} {x:List Int}:x∈kerL p r f k↔IsV p k x∧Ker p r f k (at0 x):=by
 simp only[kerL,List.mem_filter,s1_,c9Q]
theorem j5_ (p r:Nat) (f:Nat→Nat→Int) (k:Nat):(kerL p r f k).Nodup:=List.Pairwise.filter _ (t6_ p k)
theorem b0Z {x:List Int} {e:Int} {t:Nat} (h:t<x.length):at0 (x ++ [e]) t=at0 x t:=by
 simp only[at0,l1_];rw[List.getElem?_append_left h]
theorem a3Q {x:List Int} {e:Int} {k:Nat} (h:x.length=k):at0 (x ++ [e]) k=e:=by
 simp only[at0,l1_];rw[List.getElem?_append_right (by omega),h];simp
theorem a1Z {p k:Nat} {x:List Int} {e:Int} (h:IsV p k x) (h0:0≤e) (h1:e<p):IsV p (k+1) (x ++ [e]):=by
 refine⟨by simp[h.1],fun z hz=>?_⟩;simp only[List.mem_append,List.mem_singleton]at hz;rcases hz with hz | rfl
 ·exact h.2 z hz
 ·exact⟨h0,h1⟩
theorem c2Q {p k:Nat} {x:List Int} (h:IsV p (k+1) x):IsV p k (x.take k):=⟨by simp[h.1],fun e he=>h.2 e (List.mem_of_mem_take he)⟩
theorem R6_ {x:List Int} {k t:Nat} (h:t<k):at0 (x.take k) t=at0 x t:=by
 simp only[at0,l1_];rw[List.getElem?_take,if_pos h]
theorem f7Q {p:Int} {r:Nat} {f:Nat→Nat→Int} {k:Nat} {x y:Nat→Int} (h:∀ t,t<k→x t=y t):Ker p r f k x↔Ker p r f k y :=
 K9_ fun t ht=>by rw[h t ht,Int.sub_self];exact Int.dvd_zero p
theorem b1z {r k:Nat} {g:Nat→Nat→Int} {ps:List Int} (h:Rd r g ps k) (hc:∀ i,ps.length≤i→i<r→g i k=0):∃ x0:Nat→Int,∀ i,i<r→sgF (fun b=>g i b*x0 b) k =-g i k:=by
 have hps:∀ j,j<ps.length→∃ b:Nat,ps.getD j 0=(b:Int)∧b<k∧∀ i,i<r→g i b=if i=j then 1 else 0:=fun j hj=>by
  obtain⟨b,h1,h2⟩:=h.pos j hj;exact⟨b,by rw[l1_,h1];rfl,h2⟩
 refine⟨fun b=>sgF (fun j=>if (b:Int)=ps.getD j 0 then-g j k else 0) ps.length,fun i hi=>?_⟩;have e1:∀ b,g i b*sgF (fun j=>if (b:Int)=ps.getD j 0 then-g j k else 0) ps.length=sgF (fun j=>if (b:Int)=ps.getD j 0 then g i b*- g j k else 0) ps.length:=by
  intro b;rw[←p9_];refine a5_ fun j _=>?_
  split <;> simp
 rw[a5_ fun b _=>e1 b,r6_];have e2:∀ j,j<ps.length→sgF (fun b:Nat=>if (b:Int)=ps.getD j 0 then g i b*- g j k else 0) k=if j=i then-g j k else 0:=by
  intro j hj;obtain⟨b,h1,h2,h3⟩:=hps j hj;rw[a5_ (b:=fun t=>if t=b then g i t*- g j k else 0) fun t _=>by rw[h1];simp only[Int.natCast_inj]];rw[s7_ h2,h3 i hi];by_cases e:i=j
  ·subst e;simp
  ·rw[if_neg e,if_neg (by omega)];simp
 rw[a5_ e2];rcases Nat.lt_or_ge i ps.length with hlt | hge
 ·rw[s7_ (h:=fun j => - g j k) hlt]
 ·rw[a5_ (b:=fun _=>0) fun t ht=>if_neg (by omega),sg_0,hc i hge hi];rfl
theorem d7z {p r c k t:Nat} {g:Nat→Nat→Int} (hp:f2_ p=true) (hp2:2≤p) (hg:InF p r c g) (hk:k<c) {ps:List Int} (h:Rd r g ps k) (h1:ps.length≤t) (h2:t<r) (hne:g t k≠0):(kerL p r g (k+1)).length=(kerL p r g k).length:=by
 have hr:=hg t k h2 hk;have last0:∀ x,x∈kerL p r g (k+1)→at0 x k=0:=by
  intro x hx;obtain⟨hv,hK⟩:=d2_.1 hx;have h3:=hK t h2;simp only[sgF]at h3;rw[a5_ (b:=fun _=>0) (fun b hb=>by rw[h.low t b h1 h2 hb,Int.zero_mul]),sg_0,Int.zero_add]at h3;have h4:=d2x hp (show 1≤g t k by omega) hr.2;have h5:(p:Int)∣at0 x k:=by
   have h6:(p:Int)∣invP p (g t k)*(g t k*at0 x k):=Int.dvd_mul_of_dvd_right h3;rw[←Int.mul_assoc]at h6;have h7:=i9_ (at0 x k) h4;rw[Int.one_mul]at h7;exact (k2_ h7).1 h6
  have h6:=v_at hv (m0_ k);obtain⟨m,hm⟩:=h5;have:m=0:=by
   rcases Int.lt_trichotomy m 0 with h | h | h
   ·have:(p:Int)*m≤(p:Int)*(-1):=Int.mul_le_mul_of_nonneg_left (by omega) (by omega);omega
   ·exact h
   ·have:(p:Int)*1≤(p:Int)*m:=Int.mul_le_mul_of_nonneg_left (by omega) (by omega);omega
  rw[this,Int.mul_zero]at hm;exact hm
 apply Nat.le_antisymm
 ·refine J8_ (φ:=fun x=>x.take k) (j5_ _ _ _ _) ?_ ?_
  ·intro x hx y hy e;obtain⟨hxv,_⟩:=d2_.1 hx;obtain⟨hyv,_⟩:=d2_.1 hy;refine P4_ hxv hyv fun t ht=>?_
   by_cases e3:t<k
   ·rw[←R6_ (x:=x) e3,←R6_ (x:=y) e3];rw[show x.take k=y.take k from e,Int.sub_self];exact Int.dvd_zero _
   ·obtain rfl:t=k:=by omega
    rw[last0 x hx,last0 y hy];exact Int.dvd_zero _
  ·intro x hx;obtain⟨hv,hK⟩:=d2_.1 hx;refine d2_.2 ⟨c2Q hv,fun i hi=>?_⟩;have h3:=hK i hi;simp only[sgF]at h3;rw[last0 x hx,Int.mul_zero,Int.add_zero]at h3;rw[a5_ fun b hb=>by rw[R6_ hb]];exact h3
 ·refine J8_ (φ:=fun x=>x ++ [0]) (j5_ _ _ _ _) (fun x _ y _ e=>List.append_inj_left' e rfl) ?_;intro x hx;obtain⟨hv,hK⟩:=d2_.1 hx;refine d2_.2 ⟨a1Z hv (by omega) (by omega),fun i hi=>?_⟩;simp only[sgF];rw[a3Q hv.1,Int.mul_zero,Int.add_zero,a5_ fun b hb=>by rw[b0Z (by rw[hv.1];exact hb)]];exact hK i hi
theorem c5q {p r k:Nat} {g:Nat→Nat→Int} (hp2:2≤p) {x0:Nat→Int} (h:∀ i,i<r→sgF (fun b=>g i b*x0 b) k =-g i k):(kerL p r g (k+1)).length=(kerL p r g k).length*p:=by
 have hp0:0<p:=by omega
 have lin:∀ i,i<r→∀ (x:Nat→Int) (y:Int),sgF (fun b=>g i b*(x b+y*x0 b)) k=sgF (fun b=>g i b*x b) k-g i k*y:=by
  intro i hi x y;have:∀ b,g i b*(x b+y*x0 b)=g i b*x b+y*(g i b*x0 b):=fun b=>by
   rw[Int.mul_add,←Int.mul_assoc,←Int.mul_assoc,Int.mul_comm (g i b) y]
  rw[a5_ fun b _=>this b,L2_,p9_,h i hi,Int.mul_neg,Int.mul_comm y];omega
 have hl:(prs (kerL p r g k) (List.range p)).length=(kerL p r g k).length*p:=by rw[P2_,List.length_range]
 rw[←hl];apply Nat.le_antisymm
 ·refine J8_ (φ:=fun x=>(can p k (fun b=>at0 x b+(- at0 x k)*x0 b),(at0 x k).toNat)) (j5_ _ _ _ _) ?_ ?_
  ·intro x hx y hy e;obtain⟨hxv,_⟩:=d2_.1 hx;obtain⟨hyv,_⟩:=d2_.1 hy;have ax:=v_at hxv (m0_ k);have ay:=v_at hyv (m0_ k);injection e with e1 e2
   have e3:at0 x k=at0 y k:=by omega
   refine P4_ hxv hyv fun t ht=>?_
   by_cases e4:t<k
   ·have c1:=p3_ p (fun b=>at0 x b+(- at0 x k)*x0 b) e4;have c2:=p3_ p (fun b=>at0 y b+(- at0 y k)*x0 b) e4;rw[e1]at c1;have:=Int.dvd_sub c2 c1;simp only[e3]at this;rwa[show ∀ a b c d:Int,a-(b+c)-(a-(d+c))=d-b by intros;omega]at this
   ·obtain rfl:t=k:=by omega
    rw[e3,Int.sub_self];exact Int.dvd_zero _
  ·intro x hx;obtain⟨hv,hK⟩:=d2_.1 hx;have ax:=v_at hv (m0_ k);refine u8_.2 ⟨d2_.2 ⟨V4_ hp0 _ _,?_⟩,by rw[List.mem_range];omega⟩;rw[K9_ fun t ht=>p3_ p _ ht];intro i hi;rw[lin i hi];have h3:=hK i hi;simp only[sgF]at h3;rw[Int.mul_neg,Int.sub_neg];exact h3
 ·refine J8_ (φ:=fun z=>can p k (fun b=>at0 z.1 b+(z.2:Int)*x0 b) ++ [(z.2:Int)]) (B7_ List.nodup_range (j5_ _ _ _ _)) ?_ ?_
  ·rintro⟨x,a⟩ hx ⟨y,b⟩ hy e;obtain⟨hxv,_⟩:=d2_.1 (u8_.1 hx).1;obtain⟨hyv,_⟩:=d2_.1 (u8_.1 hy).1;have e2:=List.append_inj_right' e rfl;have e1:=List.append_inj_left' e rfl;simp only[List.cons.injEq,Int.natCast_inj,and_true]at e2;subst e2;have:x=y:=P4_ hxv hyv fun t ht=>by
    have c1:=p3_ p (fun b=>at0 x b+(a:Int)*x0 b) ht;have c2:=p3_ p (fun b=>at0 y b+(a:Int)*x0 b) ht;rw[show can p k (fun b=>at0 x b+(a:Int)*x0 b)=can p k (fun b=>at0 y b+(a:Int)*x0 b) from e1]at c1;have:=Int.dvd_sub c2 c1;try simp only at this
    rwa[show ∀ a b c d:Int,a-(b+c)-(a-(d+c))=d-b by intros;omega]at this
   rw[this]
  ·rintro⟨x,a⟩ hx;obtain⟨h1,h2⟩:=u8_.1 hx;obtain⟨hv,hK⟩:=d2_.1 h1;rw[List.mem_range]at h2;have hcv:=V4_ hp0 k (fun b=>at0 x b+(a:Int)*x0 b);refine d2_.2 ⟨a1Z hcv (by omega) (by omega),fun i hi=>?_⟩;simp only[sgF];rw[a3Q hcv.1,a5_ fun b hb=>by rw[b0Z (by rw[hcv.1];exact hb)]];have h3:(p:Int)∣sgF (fun b=>g i b*at0 (can p k fun b=>at0 x b+(a:Int)*x0 b) b) k-sgF (fun b=>g i b*(at0 x b+(a:Int)*x0 b)) k:=j9_ fun t ht=>j2_ _ (p3_ p _ ht)
   rw[lin i hi]at h3;have:=Int.dvd_add h3 (hK i hi);rwa[show ∀ a b c:Int,a-(b-c)+b=a+c by intros;omega]at this
theorem D7_ {p r k:Nat} {f g:Nat→Nat→Int} (h:∀ x,Ker p r f k x↔Ker p r g k x):(kerL p r f k).length=(kerL p r g k).length:=by
 apply Nat.le_antisymm <;> refine q9_ (j5_ _ _ _ _) fun x hx=>?_
 ·obtain⟨a,b⟩:=d2_.1 hx;exact d2_.2 ⟨a,(h _).1 b⟩
 ·obtain⟨a,b⟩:=d2_.1 hx;exact d2_.2 ⟨a,(h _).2 b⟩
theorem v6_ {p r c:Nat} {f:Nat→Nat→Int} (hp:f2_ p=true) (hp2:2≤p) (hf:InF p r c f):∀ k,k≤c→(kerL p r f k).length*p ^ (rdTo p r f k).2.length=p ^ k
 | 0,_=>by
  have:kerL p r f 0=[[]]:=by
   simp only[kerL,vecs];rw[List.filter_cons_of_pos,List.filter_nil];rw[c9Q];intro i _;exact Int.dvd_zero _
  rw[this];simp[rdTo]
 | k+1,hk=>by
  have ih:=v6_ hp hp2 hf k (by omega);have hR:=G2_ hp (by omega) hf k (by omega);have hg:=p6_ (show (2:Int)≤p by omega) hf k;have hl:=(f6_ p r f k).1;have e1:=D7_ (p:=p) (r:=r) (k:=k) (f:=(rdTo p r f k).1) (g:=f) fun x=>z7_ hp (by omega) hf k (by omega) k x
  have e2:=D7_ (p:=p) (r:=r) (k:=k+1) (f:=(rdTo p r f k).1) (g:=f) fun x=>z7_ hp (by omega) hf k (by omega) (k+1) x
  rw[←e1]at ih;rw[←e2];simp only[rdTo];split
  ·rename_i h1
   have hn:=w2_ (f:=(rdTo p r f k).1) (k:=k) hl;rw[d7z hp hp2 hg (by omega) hR hn.1 h1 (I5_ hl h1),List.length_append,List.length_singleton,Nat.pow_succ,←Nat.mul_assoc,ih,Nat.pow_succ]
  ·rename_i h1
   obtain⟨x0,hx⟩:=b1z hR fun i h2 h3=>b8Z h1 h2 h3
   rw[c5q hp2 hx,Nat.mul_right_comm,ih,Nat.pow_succ]
theorem O9_ {p:Int} {r c k:Nat} {g:Nat→Nat→Int} {ps:List Int} (hp2:2≤p) (hg:InF p r c g) (hk:k<c) (h:Rd r g ps k) (ht:nzF g k ps.length r<r) (hn:ps.length≤r):∀ i b,i<r→b<k→rdF p r g ps.length k i b=g i b:=by
 intro i b hi hb;have hnt:=(w2_ (f:=g) (k:=k) hn).1;have h01:(0:Int) % p=0:=Int.zero_emod p;generalize hT:nzF g k ps.length r=t at *;generalize hN:ps.length=n at *;have hlow:∀ i b,n≤i→i<r→b<k→g i b=0:=fun i b h1 h2 h3=>h.low i b (by omega) h2 h3
 have sw_lo:∀ i,n≤i→i<r→swA n t g i b=0:=by
  intro i h2 h3;simp only[swA];split
  ·exact hlow t b hnt ht hb
  ·split
   ·exact hlow _ b (l_ _) (by omega) hb
   ·exact hlow i b h2 h3 hb
 have sc_lo:∀ s i,n≤i→i<r→scA p n s (swA n t g) i b=0:=by
  intro s i h2 h3;simp only[scA];split
  ·rw[sw_lo i h2 h3,Int.zero_mul,h01]
  ·exact sw_lo i h2 h3
 simp only[rdF,hT,elA];rcases Nat.lt_or_ge i n with h1 | h1
 ·have e:scA p n (invP p (swA n t g n k)) (swA n t g) i b=g i b:=by
   simp only[scA,swA];rw[if_neg (by omega),if_neg (by omega),if_neg (by omega)]
  rw[if_pos (by omega),e,sc_lo _ n (l_ _) (by omega),Int.mul_zero,Int.add_zero];have:=hg i b hi (by omega);exact Int.emod_eq_of_lt (by omega) (by omega)
 ·rw[sc_lo _ i h1 hi,hlow i b h1 hi hb,sc_lo _ n (l_ _) (by omega),Int.mul_zero,Int.add_zero,h01,ite_self]
theorem J3_ {p:Int} {r:Nat} {f:Nat→Nat→Int} {k:Nat}:rdTo p r f (k+1)=if nzF (rdTo p r f k).1 k (rdTo p r f k).2.length r<r then (rdF p r (rdTo p r f k).1 (rdTo p r f k).2.length k,(rdTo p r f k).2 ++ [(k:Int)]) else rdTo p r f k:=C0_ p r f k
theorem B8_ {p:Int} {r c:Nat} {f:Nat→Nat→Int} (hp:f2_ p=true) (hp2:2≤p) (hf:InF p r c f):∀ k,k≤c→∀ (j b:Nat),(rdTo p r f k).2[j]?=some (b:Int)→∀ t:Nat,t<b→(rdTo p r f k).1 j t=0
 | 0,_,j,b,h,_,_=>by simp[rdTo]at h
 | k+1,hk,j,b,h,t,ht=>by
  have hl:=(f6_ p r f k).1;rw[J3_]at h⊢;split at h
  ·rename_i h1
   rw[if_pos h1];have hrd:=G2_ hp hp2 hf k (by omega);have hjr:j<r:=by
    have:=b0_ h;have hn:=(w2_ (f:=(rdTo p r f k).1) (k:=k) hl).1;simp only[List.length_append,List.length_singleton]at this;omega
   rcases Nat.lt_or_ge j (rdTo p r f k).2.length with h2 | h2
   ·rw[List.getElem?_append_left h2]at h;have hb:=(G8_ p r f k b (l4_ h)).2;show rdF p r (rdTo p r f k).1 (rdTo p r f k).2.length k j t=0;rw[O9_ hp2 (p6_ hp2 hf k) (by omega) hrd h1 hl j t hjr (by omega)];exact B8_ hp hp2 hf k (by omega) j b h t ht
   ·have hj:j=(rdTo p r f k).2.length:=by
     have:=b0_ h;simp only[List.length_append,List.length_singleton]at this;omega
    rw[List.getElem?_append_right h2,hj,Nat.sub_self]at h;simp only[List.getElem?_cons_zero,Option.some.injEq]at h;show rdF p r (rdTo p r f k).1 (rdTo p r f k).2.length k j t=0;rw[O9_ hp2 (p6_ hp2 hf k) (by omega) hrd h1 hl j t hjr (by omega)];exact hrd.low j t (by omega) hjr (by omega)
  ·rename_i h1
   rw[if_neg h1];exact B8_ hp hp2 hf k (by omega) j b h t ht
theorem a0J {p:Int} {r m c:Nat} {f:Nat→Nat→Int} {x:Nat→Int} (hm:m≤c) (hx:∀ t,m≤t→x t=0):Ker p r f c x↔Ker p r f m x:=by
 have e:∀ d i,sgF (fun t=>f i t*x t) (m+d)=sgF (fun t=>f i t*x t) m:=by
  intro d i;induction d with
  | zero=>rfl
  | succ d ih=>rw[←Nat.add_assoc,sgF,ih,hx _ (by omega),Int.mul_zero,Int.add_zero]
 obtain⟨d,rfl⟩:=Nat.exists_eq_add_of_le hm;exact forall_congr' fun i=>by rw[e d i]
theorem d4j {p:Int} {r r' c:Nat} {f f':Nat→Nat→Int} (h:∀ x,Ker p r f c x↔Ker p r' f' c x) {m:Nat} (hm:m≤c) (x:Nat→Int):Ker p r f m x↔Ker p r' f' m x:=by
 have e:∀ (r:Nat) (f:Nat→Nat→Int),Ker p r f m x↔Ker p r f m (fun t=>if t<m then x t else 0):=fun r f=>f7Q fun t ht=>by rw[if_pos ht]
 rw[e r f,e r' f',←a0J hm fun t ht=>if_neg (by omega),←a0J (r:=r') (f:=f') hm fun t ht=>if_neg (by omega)];exact h _
theorem d2q {p a b:Int} (ha:0≤a∧a≤p-1) (hb:0≤b∧b≤p-1) (h:p∣a-b):a=b:=by
 have:=Int.emod_emod_of_dvd;have h1:a % p=b % p:=Int.emod_eq_emod_iff_emod_sub_eq_zero.2 (Int.emod_eq_zero_of_dvd h);rwa[Int.emod_eq_of_lt ha.1 (by omega),Int.emod_eq_of_lt hb.1 (by omega)]at h1
theorem Z4_ {p:Int} {r r' c k:Nat} {g g':Nat→Nat→Int} {ps:List Int} (hp2:2≤p) (hg:InF p r c g) (hg':InF p r' c g') (hk:k<c) (h:Rd r g ps k) (he:∀ i,i<ps.length→∀ b,b<k→g i b=g' i b) (h':Rd r' g' ps k) (hr:ps.length≤r) (hr':ps.length≤r')
  (hK:∀ x,Ker p r g (k+1) x→Ker p r' g' (k+1) x) (hc:∀ i,ps.length≤i→i<r→g i k=0):(∀ i,ps.length≤i→i<r'→g' i k=0)∧∀ i,i<ps.length→g i k=g' i k:=by
 obtain⟨x0,hx0⟩:=b1z h hc;have hin:=hK (fun t=>if t<k then x0 t else 1) fun i hi=>by
  simp only[sgF,Nat.lt_irrefl,if_false,Int.mul_one];rw[a5_ (b:=fun t=>g i t*x0 t) fun t ht=>by rw[if_pos ht],hx0 i hi];exact⟨0,by omega⟩
 have e:∀ i,i<r'→p∣sgF (fun t=>g' i t*x0 t) k+g' i k:=fun i hi=>by
  have:=hin i hi;simp only[sgF,Nat.lt_irrefl,if_false,Int.mul_one]at this;rwa[a5_ (b:=fun t=>g' i t*x0 t) fun t ht=>by rw[if_pos ht]]at this
 constructor
 ·intro i h1 h2;have:=e i h2;rw[a5_ (b:=fun _=>0) fun t ht=>by rw[h'.low i t h1 h2 ht,Int.zero_mul],sg_0,Int.zero_add]at this;have hb:=hg' i k h2 hk;exact d2q hb ⟨by omega,by omega⟩ (by rwa[Int.sub_zero])
 ·intro i h1;have:=e i (by omega);rw[a5_ (b:=fun t=>g i t*x0 t) fun t ht=>by rw[he i h1 t ht],hx0 i (by omega)]at this;exact (d2q (hg' i k (by omega) hk) (hg i k (by omega) hk) (by rwa[Int.add_comm,←Int.sub_eq_add_neg]at this)).symm
theorem b5Q {p:Int} {r r' c:Nat} {f f':Nat→Nat→Int} (hp:f2_ p=true) (hp2:2≤p) (hf:InF p r c f) (hf':InF p r' c f') (hK:∀ x,Ker p r f c x↔Ker p r' f' c x) :
  ∀ k,k≤c→(rdTo p r f k).2=(rdTo p r' f' k).2∧∀ i,i<(rdTo p r f k).2.length→∀ b,b<k→(rdTo p r f k).1 i b=(rdTo p r' f' k).1 i b
 | 0,_=>⟨rfl,fun i hi=>absurd hi (by simp[rdTo])⟩
 | k+1,hk=>by
  obtain⟨ih1,ih2⟩:=b5Q hp hp2 hf hf' hK k (by omega);have g1:=p6_ hp2 hf k;have g2:=p6_ hp2 hf' k;have d1:=G2_ hp hp2 hf k (by omega);have d2:=G2_ hp hp2 hf' k (by omega);have l1:=(f6_ p r f k).1;have l2:=(f6_ p r' f' k).1;rw[←ih1]at d2 l2;have hk1:∀ x,Ker p r (rdTo p r f k).1 (k+1) x↔Ker p r' (rdTo p r' f' k).1 (k+1) x:=fun x=>by
   rw[z7_ hp hp2 hf k (by omega),z7_ hp hp2 hf' k (by omega)];exact d4j hK hk x
  have hz:∀ (r:Nat) (g:Nat→Nat→Int) (n:Nat),n≤r→(∀ i,n≤i→i<r→g i k=0)→¬ nzF g k n r<r:=fun r g n hn h hlt=>I5_ hn hlt (h _ (w2_ hn).1 hlt)
  rw[J3_,J3_ (f:=f'),←ih1];by_cases h1:nzF (rdTo p r f k).1 k (rdTo p r f k).2.length r<r
  ·have h2:nzF (rdTo p r' f' k).1 k (rdTo p r f k).2.length r'<r':=by
    apply Classical.byContradiction
    intro h2;have:=(Z4_ hp2 g2 g1 (by omega) d2 (fun i hi b hb=>(ih2 i hi b hb).symm) d1 l2 l1 (fun x hx=>(hk1 x).2 hx) fun i a b=>b8Z h2 a b).1;exact hz r _ _ l1 this h1
   rw[if_pos h1,if_pos h2];refine⟨rfl,fun i hi b hb=>?_⟩;simp only[List.length_append,List.length_singleton]at hi;have n1:=(w2_ (f:=(rdTo p r f k).1) (k:=k) l1).1;have n2:=(w2_ (f:=(rdTo p r' f' k).1) (k:=k) l2).1;show rdF p r (rdTo p r f k).1 (rdTo p r f k).2.length k i b=rdF p r' (rdTo p r' f' k).1 (rdTo p r f k).2.length k i b;rcases Nat.lt_or_ge b k with hbk | hbk
   ·rw[O9_ hp2 g1 (by omega) d1 h1 l1 i b (by omega) hbk,O9_ hp2 g2 (by omega) d2 h2 l2 i b (by omega) hbk];rcases Nat.lt_or_ge i (rdTo p r f k).2.length with hin | hin
    ·exact ih2 i hin b hbk
    ·rw[d1.low i b hin (by omega) hbk,d2.low i b hin (by omega) hbk]
   ·obtain rfl:b=k:=by omega
    have s1:=X0_ hp hp2 g1 (by omega) d1 n1 h1 (I5_ l1 h1);have s2:=X0_ hp hp2 g2 (by omega) d2 n2 h2 (I5_ l2 h2);obtain⟨b1,e1,_,u1⟩:=s1.pos (rdTo p r f b).2.length (by simp);obtain⟨b2,e2,_,u2⟩:=s2.pos (rdTo p r f b).2.length (by simp);rw[List.getElem?_append_right (l_ _),Nat.sub_self]at e1 e2;simp only[List.getElem?_cons_zero,Option.some.injEq,Int.natCast_inj]at e1 e2;subst e1;subst e2;have v1:=u1 i (by omega);have v2:=u2 i (by omega);simp only[rdF];rw[v1,v2]
  ·have h2:¬ nzF (rdTo p r' f' k).1 k (rdTo p r f k).2.length r'<r':=by
    have:=(Z4_ hp2 g1 g2 (by omega) d1 ih2 d2 l1 l2 (fun x hx=>(hk1 x).1 hx) fun i a b=>b8Z h1 a b).1;exact hz r' _ _ l2 this
   rw[if_neg h1,if_neg h2];refine⟨ih1,fun i hi b hb=>?_⟩;rcases Nat.lt_or_ge b k with hbk | hbk
   ·exact ih2 i hi b hbk
   ·obtain rfl:b=k:=by omega
    exact (Z4_ hp2 g1 g2 (by omega) d1 ih2 d2 l1 l2 (fun x hx=>(hk1 x).1 hx) fun i a b=>b8Z h1 a b).2 i hi
def kvG (p:Int) (g:Nat→Nat→Int) (ps:List Int) (k:Nat):Nat→Nat→Int
 | 0,t=>if t=k then 1 else 0
 | i+1,t=>if (t:Int)=ps.getD i 0 then (- g i k) % p else kvG p g ps k i t
theorem X8_ {p:Int} (hp2:2≤p) (g:Nat→Nat→Int) (ps:List Int) (k:Nat):∀ i t,0≤kvG p g ps k i t∧kvG p g ps k i t≤p-1
 | 0,t=>by simp only[kvG];split <;> omega
 | i+1,t=>by
  simp only[kvG];split
  ·exact g6_ hp2
  ·exact X8_ hp2 g ps k i t
theorem b6x {p:Int} {g:Nat→Nat→Int} {ps:List Int} {k i b c:Nat} (hb:ps[i]?=some (b:Int)):(rowF c (kvG p g ps k i)).set b ((- g i k) % p)=rowF c (kvG p g ps k (i+1)):=by
 rw[q4_];apply b6_
 intro a _;simp only[kvG,l1_,hb,Option.getD_some,Int.natCast_inj]
theorem f1z (p:Int) (g:Nat→Nat→Int) (ps:List Int) (k c:Nat):(List.replicate c (0:Int)).set k 1=rowF c (kvG p g ps k 0):=by
 have:List.replicate c (0:Int)=rowF c fun _=>0:=by
  symm
  rw[List.eq_replicate_iff];refine⟨a1_ _ _,fun x hx=>?_⟩;simp only[rowF,List.mem_map]at hx;obtain⟨_,_,rfl⟩:=hx;rfl
 rw[this,q4_];rfl
theorem c5X {p x:Int} (hp:2≤p) (h:0≤x∧x≤p-1):(p-x).tmod p=(- x) % p:=by
 rw[Int.tmod_eq_emod_of_nonneg (by omega),show p-x = -x+p*1 by omega,Int.add_mul_emod_self_left]
def kerM (p:Int) (c:Nat) (g:Nat→Nat→Int) (ps L:List Int):List (List Int):=L.map fun k=>rowF c (kvG p g ps k.toNat ps.length)
theorem U3_ (p:Int) (c:Nat) (g:Nat→Nat→Int) (ps L:List Int) (k:Nat):kerM p c g ps (L ++ [(k:Int)])=kerM p c g ps L ++ [rowF c (kvG p g ps k ps.length)]:=by simp[kerM]
theorem j1_ (p:Int) (c:Nat) (g:Nat→Nat→Int) (ps L:List Int):(kerM p c g ps L).length=L.length:=by simp[kerM]
def kerR (p:Int) (r c:Nat) (f:Nat→Nat→Int):List (List Int):=kerM p c (rdTo p r f c).1 (rdTo p r f c).2 (b2_ (rdTo p r f c).2 c)
theorem y4_ {l:List Int} {k j:Nat} {x:Int} (h:(b2_ l k)[j]?=some x):∃ n:Nat,x=(n:Int)∧n<k∧x ∉ l:=by
 have:=l4_ h;simp only[b2_,List.mem_filter,List.mem_map,List.mem_range,Bool.not_eq_true',decide_eq_false_iff_not]at this;obtain⟨⟨n,hn,rfl⟩,h2⟩:=this;exact⟨n,rfl,hn,h2⟩
def dmN (d:List Int) (v:Nat):Nat:=(d.getD v 0).toNat
theorem F5_ {d:List Int} {v n:Nat} (h:d[v]?=some (n:Int)):dmN d v=n:=by simp[dmN,l1_,h]
def hOff (x y:List Int):Nat→Nat
 | 0=>0
 | v+1=>hOff x y v+dmN y v*dmN x v
theorem b8J (x y:List Int) {a b:Nat} (h:a≤b):hOff x y a≤hOff x y b:=by
 induction b with
 | zero =>
  obtain rfl:a=0:=by omega
  exact l_ _
 | succ b ih =>
  by_cases e:a=b+1
  ·subst e;exact l_ _
  ·simp only[hOff];have:=ih (by omega);omega
def srN (q:Qv) (k:Nat):Nat:=(q.f.getD k 0).toNat
def tgN (q:Qv) (k:Nat):Nat:=(q.t.getD k 0).toNat
theorem a5j {q:Qv} {k n:Nat} (h:q.f[k]?=some (n:Int)):srN q k=n:=by simp[srN,l1_,h]
theorem b3z {q:Qv} {k n:Nat} (h:q.t[k]?=some (n:Int)):tgN q k=n:=by simp[tgN,l1_,h]
def arF (x:Rp) (k:Nat):Nat→Nat→Int:=q6_ (x.m.getD k mx0).a (dmN x.d (srN x.q k))
def hInd (a b:Nat):Int:=if a=b then 1 else 0
theorem c7X (a b:Nat):0≤hInd a b∧hInd a b≤1:=by unfold hInd;split <;> omega
def eqS (x y:Rp) (k r c j n:Nat):Int:=sgF (fun s=>arF y k r s*hInd (hOff x.d y.d (srN x.q k)+s*dmN x.d (srN x.q k)+c) j) n
def eqT (x y:Rp) (k r c j n:Nat):Int:=sgF (fun s=>arF x k s c*hInd (hOff x.d y.d (tgN x.q k)+r*dmN x.d (tgN x.q k)+s) j) n
def eqE (x y:Rp) (k r c j:Nat):Int:=(eqS x y k r c j (dmN y.d (srN x.q k))-eqT x y k r c j (dmN x.d (tgN x.q k))) % x.p
def eqRw (x y:Rp) (n k:Nat):List (List Int):=b5_ (dmN y.d (tgN x.q k)*dmN x.d (srN x.q k)) n (fun i=>eqE x y k (i / dmN x.d (srN x.q k)) (i % dmN x.d (srN x.q k)))
def eqL (x y:Rp) (n:Nat):Nat→List (List Int)
 | 0=>[]
 | k+1=>eqL x y n k ++ eqRw x y n k
theorem d8z {x y:Rp} {n K:Nat} {l:List Int} (h:l∈eqL x y n K):l.length=n∧∃ k r c,l=rowF n (eqE x y k r c):=by
 induction K with
 | zero=>simp[eqL]at h
 | succ K ih =>
  simp only[eqL,List.mem_append]at h;rcases h with h | h
  ·exact ih h
  ·simp only[eqRw,b5_,List.mem_map,List.mem_range]at h;obtain⟨i,_,rfl⟩:=h;exact⟨a1_ _ _,_,_,_,rfl⟩
def hmN (x y:Rp):Nat:=hOff x.d y.d x.d.length
def eqR (x y:Rp):Nat:=(eqL x y (hmN x y) x.q.f.length).length
def lsF (L:List (List Int)) (i j:Nat):Int:=(L.getD i []).getD j 0
def eqG (x y:Rp):Nat→Nat→Int:=lsF (eqL x y (hmN x y) x.q.f.length)
theorem d3X (L:List (List Int)) (a:Nat):rowF L.length (fun i=>lsF L i a)=L.map fun l=>l.getD a 0:=by
 refine List.ext_getElem? fun i=>?_
 by_cases hi:i<L.length
 ·rw[d1_ _ hi,List.getElem?_map,l2_ hi];simp[lsF,l1_,hi]
 ·rw[l6_ (by rw[a1_];omega),l6_ (by rw[List.length_map];omega)]
def cbF (x y:Rp) (F:Nat→Nat→Nat→Int) (k:Nat):Nat→Nat→Int :=
 plF x.p (x.p-1) (muP x.p (dmN y.d (srN x.q k)) (arF y k) (F (srN x.q k))) (muP x.p (dmN x.d (tgN x.q k)) (F (tgN x.q k)) (arF x k))
def cbL (x y:Rp) (F:Nat→Nat→Nat→Int) (K:Nat):List Mx:=(List.range K).map fun k=>mxF (dmN y.d (tgN x.q k)) (dmN x.d (srN x.q k)) (cbF x y F k)
def flM (ms:List Mx):List Int:=(ms.map Mx.a).flatten
theorem b4J (a b:List Mx):flM (a ++ b)=flM a ++ flM b:=by simp[flM]
theorem a8J (m:Mx):flM [m]=m.a:=by simp[flM]
theorem y8_ (ms:List Mx):(flM ms).length=totA ms:=by simp[flM,totA,tot,List.length_flatten]
theorem y9_ (a b:List Mx):totA (a ++ b)=totA a+totA b:=by simp[totA,tot]
theorem I1_ (m:Mx):totA [m]=m.a.length:=by simp[totA,tot]
theorem a1x (x y:Rp) (F:Nat→Nat→Nat→Int) (K:Nat):cbL x y F (K+1)=cbL x y F K ++ [mxF (dmN y.d (tgN x.q K)) (dmN x.d (srN x.q K)) (cbF x y F K)]:=by simp[cbL,List.range_succ]
theorem D6_ (x y:Rp) (F:Nat→Nat→Nat→Int) (K:Nat):(cbL x y F K).length=K:=by simp[cbL]
def uF (x y:Rp) (j v s t:Nat):Int:=hInd (hOff x.d y.d v+s*dmN x.d v+t) j
theorem c1j {p:Int} (a b:Int):(a % p+(p-1)*(b % p)) % p=(a-b) % p:=by
 have e1:=Int.emod_def a p;have e2:=Int.emod_def b p;rw[show a % p+(p-1)*(b % p)=(a-b)+p*(-(a / p)+b % p+b / p) by rw[e1,e2];grind,Int.add_mul_emod_self_left]
theorem W1_ {h g:Nat→Int}:∀ {n:Nat},(∀ i,i<n→h i=g i)→sgF h n=sgF g n
 | 0,_=>rfl
 | n+1,e=>by simp only[sgF];rw[W1_ fun i hi=>e i (by omega),e n (by omega)]
theorem d4Z (x y:Rp) (j k r c:Nat):cbF x y (uF x y j) k r c=eqE x y k r c j:=by
 simp only[cbF,plF,muP,eqE];rw[c1j];congr 2
 exact W1_ fun i _=>Int.mul_comm _ _
theorem d2J (x y:Rp) (n a:Nat) (ha:a<n):∀ K,(eqL x y n K).map (fun l=>l.getD a 0)=flM (cbL x y (uF x y a) K)
 | 0=>rfl
 | K+1=>by
  rw[eqL,List.map_append,d2J x y n a ha K,a1x,b4J,a8J];congr 1
  simp only[eqRw,b5_,mxF,flat,List.map_map];refine List.map_congr_left fun i _=>?_
  rw[Function.comp,c9_ _ ha,d4Z]
theorem d7x (x y:Rp) (a:Nat) (ha:a<hmN x y):rowF (eqR x y) (fun i=>eqG x y i a)=flM (cbL x y (uF x y a) x.q.f.length):=by
 rw[eqR,eqG,d3X,d2J x y _ a ha]
theorem Q2_ {x:Rp} (y:Rp) (hp:2≤x.p):InF x.p (eqR x y) (hmN x y) (eqG x y):=by
 intro a b ha hb;have h1:(eqL x y (hmN x y) x.q.f.length)[a]?=some (eqL x y (hmN x y) x.q.f.length)[a]:=l2_ ha;obtain⟨_,k,r,c,e⟩:=d8z (l4_ h1);rw[e]at h1;have h2:(eqL x y (hmN x y) x.q.f.length).getD a []=rowF (hmN x y) (eqE x y k r c):=by rw[l1_,h1];rfl
 have:eqG x y a b=eqE x y k r c b:=by rw[eqG,lsF,h2,c9_ _ hb]
 rw[this,eqE];exact g6_ hp
def shL:List Mx→List Int→List Mx
 | [],_=>[]
 | m :: ms,cs=>⟨m.r,m.c,cs.take m.a.length⟩ :: shL ms (cs.drop m.a.length)
theorem Q1_:∀ (ms:List Mx) (m:Mx) (cs:List Int),shL (ms ++ [m]) cs=shL ms cs ++ [⟨m.r,m.c,(cs.drop (totA ms)).take m.a.length⟩]
 | [],m,cs=>by simp[shL,totA,tot]
 | a :: ms,m,cs=>by
  simp only[List.cons_append,shL,Q1_ ms m,List.drop_drop];have:totA (a :: ms)=a.a.length+totA ms:=by simp[totA,tot]
  rw[this]
theorem N5_:∀ (ms:List Mx) (cs:List Int),(shL ms cs).length=ms.length
 | [],_=>rfl
 | m :: ms,cs=>by simp[shL,N5_ ms]
def zrL (x y:List Int) (V:Nat):List Mx:=(List.range V).map fun v=>mxF (dmN y v) (dmN x v) fun _ _=>0
theorem P1_ (x y:List Int) (V:Nat):zrL x y (V+1)=zrL x y V ++ [mxF (dmN y V) (dmN x V) fun _ _=>0]:=by simp[zrL,List.range_succ]
theorem o1_ (x y:List Int) (V:Nat):(zrL x y V).length=V:=by simp[zrL]
theorem E9_ (x y:List Int):∀ V,totA (zrL x y V)=hOff x y V
 | 0=>rfl
 | V+1=>by rw[P1_,y9_,E9_ x y V,I1_,mxF,a0_,hOff]
def shF (x y:List Int) (e:Nat→Int) (V:Nat):List Mx:=(List.range V).map fun v=>mxF (dmN y v) (dmN x v) fun s t=>e (hOff x y v+s*dmN x v+t)
theorem c4z (x y:List Int) (e:Nat→Int) (V:Nat):shF x y e (V+1)=shF x y e V ++ [mxF (dmN y V) (dmN x V) fun s t=>e (hOff x y V+s*dmN x V+t)]:=by simp[shF,List.range_succ]
theorem b1Q (n o k:Nat) (e:Nat→Int) (h:o+k≤n):((rowF n e).drop o).take k=rowF k fun i=>e (o+i):=by
 refine List.ext_getElem? fun i=>?_
 by_cases hi:i<k
 ·rw[List.getElem?_take_of_lt hi,List.getElem?_drop,d1_ _ (by omega),d1_ _ hi]
 ·rw[l6_ (by rw[List.length_take];omega),l6_ (by rw[a1_];omega)]
theorem b9z (x y:List Int) (n:Nat) (e:Nat→Int):∀ V,hOff x y V≤n→shL (zrL x y V) (rowF n e)=shF x y e V
 | 0,_=>rfl
 | V+1,h=>by
  simp only[hOff]at h;rw[P1_,Q1_,b9z x y n e V (by omega),E9_,c4z];congr 2
  simp only[mxF,a0_];rw[b1Q _ _ _ _ h];congr 1
  rw[flat,rowF];refine List.map_congr_left fun i _=>?_
  by_cases hc:dmN x V=0
  ·rename_i hi
   rw[List.mem_range,hc,Nat.mul_zero]at hi;omega
  ·congr 1
   rw[Nat.add_assoc,Nat.mul_comm (i / dmN x V),Nat.div_add_mod]
def c4j (j:Nat) (i:Nat):Int:=hInd i j
theorem c3j (n j:Nat):(List.replicate n (0:Int)).set j 1=rowF n (c4j j):=by
 have:List.replicate n (0:Int)=rowF n fun _=>0:=by rw[rowF,List.map_const',List.length_range]
 rw[this,q4_];exact b6_ fun a _=>by simp[c4j,hInd]
theorem d3_.wider {w:World} {lo hi lo' hi':Nat} {v:Value} {ms:List Mx} (h:d3_ w lo hi v ms) (h1:lo'≤lo) (h2:hi≤hi'):d3_ w lo' hi' v ms:=by
 obtain⟨vs,a,b,c,d⟩:=h;exact⟨vs,a.mono h1 h2,b,c.mono h1 h2,d⟩
theorem d3_.nil (w:World) (lo hi:Nat):d3_ w lo hi (.slice none 0 0) []:=⟨[],RowO.nil _ _ _ _,rfl,⟨fun p hp=>by simp at hp,by simp⟩,by simp⟩
theorem d3_.form2 {w:World} {lo hi:Nat} {v:Value} {ms:List Mx} (h:d3_ w lo hi v ms):∃ A c,v = .slice A ms.length c∧ms.length≤c∧c≤9223372036854775807:=by
 obtain⟨vs,a,b,c,d⟩:=h;exact RowO.form a
theorem o7_ {w:World} {ops:Array Oper} {rest:List Oper} {o:Oper} {a:Act} {Q:Exit→Act→World→Prop} (hgd:o.guard=none) (s x:Operand)
  (ho:o.op = .call { callee:=.builtin .append,args:=#[s,x],argTypes:=#[27,27] })
  (lo hi:Nat) (v:Value) (ms:List Mx) (hs:a.eval s=v) (hown:d3_ w lo hi v ms) (g c l1 h1:Nat) (m:Mx) (u:Value) (hx:a.eval x = .slice (some ⟨g,0,none⟩) 1 c) (hg:Blk w g 41 #[.int .i64 m.r,.int .i64 m.c,u]) (hu:a9_ w l1 h1 u m.a) (hI:I64 m.r∧I64 m.c)
  (hd:hi≤l1) (hl:lo≤hi) (hh:h1≤w.heap.size) (hw:hi≤w.heap.size) (hn:ms.length≤1000000)
  (h:∀ v' w',d3_ w' lo w'.heap.size v' (ms ++ [m])→AppT 41 lo w w'→wpList Tryz.prog ops Q rest (a.put o.dst v') w'):wpList Tryz.prog ops Q (o :: rest) a w:=by
 obtain⟨vs,hO,hvl,hF,hI2⟩:=hown;refine u6_ hgd s x ho lo hi v vs ms hs hO hvl g c m u hx hg hu.cell hn (by omega) fun v' w' k1 k2=>h v' w' ⟨vs ++ [u],k1,by simp[hvl],?_,?_⟩ k2
 ·have hF3:Fam w lo w.heap.size (vs.zip (ms.map Mx.a) ++ [(u,m.a)]):=hF.snoc (hu.wider hd hh) hl hw;have hF4:=(hF3.appT (by decide) k2).mono (l_ lo) k2.size;rw[List.map_append,List.zip_append (by rw[List.length_map,hvl])];exact hF4
 ·intro y hy;rcases List.mem_append.1 hy with hy | hy
  ·exact hI2 y hy
  ·rw[List.mem_singleton]at hy;subst hy;exact hI
theorem d3_.at_ {w:World} {lo hi k:Nat} {v:Value} {ms:List Mx} (h:d3_ w lo hi v ms) (hk:k<ms.length):∃ b o m A' c' A c,v = .slice A ms.length c∧A=some ⟨b,o,none⟩∧b<w.heap.size∧Hid (ms[k]?=some m)∧w.cell? ⟨b,o+k*3,none⟩=some (.int .i64 m.r)∧w.cell? ⟨b,o+k*3+1,none⟩=some (.int .i64 m.c)∧w.cell? ⟨b,o+k*3+2,none⟩=some (.slice A' m.a.length c')∧SlI w w.heap.size (.slice A' m.a.length c') m.a:=by
 obtain⟨A,c,rfl,_,_⟩:=h.form2;obtain⟨b,o,m,A',c',h1,h2,h3,h4,h5,h6,h7,_⟩:=SlM.at_ h.rd hk;exact⟨b,o,m,A',c',A,c,rfl,h1,h2,h3,h4,h5,h6,h7⟩
structure Fit2 (x y:Rp):Prop where
 hx:f1_ x=true
 hy:f1_ y=true
 hp:x.p=y.p
 hq:x.q=y.q
theorem Fit2.len {x y:Rp} (h:Fit2 x y):y.d.length=x.d.length∧x.d.length≤5:=by
 have h1:=(b7_.1 (b8_.1 h.hx).2.1);have h2:=(b7_.1 (b8_.1 h.hy).2.1);have h3:=g4_.1 h1.1;rw[←h.hq]at h2;omega
theorem Fit2.dim {x y:Rp} (h:Fit2 x y) {k:Nat} (hk:k<x.d.length):x.d[k]?=some (dmN x.d k:Int)∧y.d[k]?=some (dmN y.d k:Int)∧dmN x.d k≤4∧dmN y.d k≤4:=by
 have one:∀ (d:List Int),(∀ e∈d,0≤e∧e≤4)→k<d.length→d[k]?=some (dmN d k:Int)∧dmN d k≤4:=by
  intro d hd hl;have e:=l2_ hl;have:=hd _ (l4_ e);rw[dmN,l1_,e,Option.getD_some];exact⟨by congr 1;omega,by omega⟩
 have h1:=one x.d (b7_.1 (b8_.1 h.hx).2.1).2.2.1 hk;have h2:=one y.d (b7_.1 (b8_.1 h.hy).2.1).2.2.1 (by have:=h.len;omega);exact⟨h1.1,h2.1,h1.2,h2.2⟩
theorem Fit2.p2 {x y:Rp} (h:Fit2 x y):2≤x.p∧x.p≤5:=f4_ (b8_.1 h.hx).1
theorem Fit2.arr {x y:Rp} (h:Fit2 x y) {k:Nat} (hk:k<x.q.f.length):x.q.f[k]?=some (srN x.q k:Int)∧x.q.t[k]?=some (tgN x.q k:Int)∧srN x.q k<x.d.length∧tgN x.q k<x.d.length∧k<x.q.t.length ∧
  x.m[k]?=some (mxF (dmN x.d (tgN x.q k)) (dmN x.d (srN x.q k)) (arF x k))∧y.m[k]?=some (mxF (dmN y.d (tgN x.q k)) (dmN y.d (srN x.q k)) (arF y k)) ∧
  InF x.p (dmN x.d (tgN x.q k)) (dmN x.d (srN x.q k)) (arF x k)∧InF x.p (dmN y.d (tgN x.q k)) (dmN y.d (srN x.q k)) (arF y k):=by
 obtain⟨m,nf,nt,yf,yt,em,ef,et,df,dt,hm,hr,_,_,_,_,l1,l2,l3,_⟩:=g9_ h.hx hk;obtain⟨m',nf',nt',yf',yt',em',ef',et',df',dt',hm',hr',_⟩:=g9_ h.hy (k:=k) (by rw[←h.hq];exact hk);have s1:=a5j ef;have s2:=b3z et;have s3:=a5j ef';have s4:=b3z et';have e1:=F5_ df;have e2:=F5_ dt;have e3:=F5_ df';have e4:=F5_ dt';have q1:=h.hq;rw[←q1,s1]at s3;rw[←q1,s2]at s4;subst s3 s4;have A1:arF x k=q6_ m.a yf:=by rw[arF,l1_,em,Option.getD_some,s1,e1]
 have A2:arF y k=q6_ m'.a yf':=by rw[arF,l1_,em',Option.getD_some,←q1,s1,e3]
 rw[s1,s2,e1,e2,e3,e4,A1,A2];refine⟨ef,et,l1,l2,l3,by rw[em,←hm],by rw[em',←hm'],fun a b ha hb=>hr a b ha hb,fun a b ha hb=>?_⟩;have:=hr' a b ha hb;rwa[←h.hp]at this
theorem Fit2.arrs {x y:Rp} (h:Fit2 x y):x.q.f.length≤6∧x.m.length=x.q.f.length∧y.m.length=x.q.f.length∧x.q.t.length=x.q.f.length:=by
 have h1:=g4_.1 (b7_.1 (b8_.1 h.hx).2.1).1;have h2:=(b8_.1 h.hx).2.2.1;have h3:=(b8_.1 h.hy).2.2.1;rw[←h.hq]at h3;exact⟨h1.2.2.1,h2,h3,h1.2.1.symm⟩
theorem b0q {x y:Rp} (h:Fit2 x y):∀ {v:Nat},v≤x.d.length→hOff x.d y.d v≤v*16
 | 0,_=>l0_ _
 | v+1,hv=>by
  have:=b0q h (v:=v) (by omega);obtain⟨_,_,h1,h2⟩:=h.dim (k:=v) (by omega);have:dmN y.d v*dmN x.d v≤4*4:=Nat.mul_le_mul h2 h1;simp only[hOff];omega
theorem N2_ {x y:Rp} (h:Fit2 x y):hmN x y≤80:=by
 have:=b0q h (l_ _);have:=h.len.2;unfold hmN;omega
theorem Fit2.dims {x y:Rp} (h:Fit2 x y) (k:Nat):dmN x.d k≤4∧dmN y.d k≤4:=by
 by_cases hk:k<x.d.length
 ·exact (h.dim hk).2.2
 ·have h1:x.d.length≤k:=by omega
  have h2:y.d.length≤k:=by have:=h.len;omega
  simp[dmN,l1_,h1,h2]
theorem b3Q {x y:Rp} (h:Fit2 x y):eqR x y≤96:=by
 have one:∀ K,(eqL x y (hmN x y) K).length≤K*16:=by
  intro K;induction K with
  | zero=>simp[eqL]
  | succ K ih =>
   rw[eqL,List.length_append,eqRw,a3_];have:dmN y.d (tgN x.q K)*dmN x.d (srN x.q K)≤4*4:=Nat.mul_le_mul (h.dims _).2 (h.dims _).1;omega
 have:=one x.q.f.length;have:=h.arrs.1;unfold eqR;omega
theorem Q5_ (u:Value) (ms:List Mx) (w:World) (hu:SlM w w.heap.size u ms) (hn:ms.length≤1000) (ht:totA ms≤100000) :
  Calls Tryz.prog 121 #[u] w fun e w'=>∃ v,e = .returned v∧a9_ w' w.heap.size w'.heap.size v (flM ms)∧Below w.heap.size w w':=by
 obtain⟨A,c,rfl,_,_,_,hx⟩:=hu.open_;clear hu;have HX:=h_ hx;have HT:=h_ ht;obtain⟨n,hnl⟩:=e_ (ms.length);have HNL:=h_ hnl;rw[hnl]at hn⊢;clear hx ht hnl;go_enter Tryz.func121,Tryz.ntmps121
 go_wp2;go_loopw [3,8] (fun out i wr=>∃ k:Nat,k≤n∧i = .int .i64 k∧OwnI wr w.heap.size out (flM (ms.take k))∧Below w.heap.size w wr) (fun _ i _=>n-(intOf i).toNat)
 case atStart=>exact⟨0,l0_ _,rfl,by simpa [flM] using OwnI.nil _ _,Below.refl _ _⟩
 case round =>
  obtain⟨k,hk,rfl,hO,hbel⟩:=hrel;have hbs:=hbel.size;obtain⟨OA,oc,eo,_,_⟩:=hO.form;subst eo;by_cases hlt:k<n
  ·have hx:=HX.out;obtain⟨b,o,m,A',c',rfl,hb,HX2,x1,x2,x3,hsl,_,_,_⟩:=SlM.at_ hx (by rw[HNL.out];exact hlt);have d1:=a7_ hbel hb x1;have d2:=a7_ hbel hb x2;have d3:=a7_ hbel hb x3;have e1:flM (ms.take (k+1))=flM (ms.take k) ++ m.a:=by rw[c8_ HX2.out,b4J,a8J]
   have hle:(flM (ms.take (k+1))).length≤100000:=by
    have h1:ms=ms.take (k+1) ++ ms.drop (k+1):=(List.take_append_drop _ _).symm;have h2:=congrArg totA h1;rw[y9_]at h2;have:=HT.out;rw[y8_];omega
   rw[e1,List.length_append]at hle;have E1:=h_ e1;obtain⟨W1,hW1,ga,kW⟩:=b_1 wr #[.int .i64 m.r,.int .i64 m.c,.slice A' m.a.length c'] 41;have z2:=kW.cell' (i:=2) rfl;have GW:=h_ (hbel.trans (ga.mono hbs));have HS:=h_ (SlI.below GW.out hsl);have HO:=h_ (hO.below ga);have HLE:=h_ hle;have sa:=ga.size;obtain⟨fl,hfl⟩:=e_ ((flM (ms.take k)).length);rw[hfl]at hO⊢;have HFL:=h_ hfl;clear e1 hx hsl HX2 x1 x2 x3 hO hle hbel ga kW hfl
   (go_wp2_with (at_builtin;refine Hold.stop ?_));unfold Hold
   clear hW1;have hO1:=HO.out;rw[HFL.out]at hO1;have hlo2:=hO1.lt;refine c3_ rfl (.tmp 12) (.tmp 14) rfl w.heap.size w.heap.size _ _ rfl hO1 A' m.a.length c' m.a rfl rfl HS.out (by have:=HLE.out;omega) (by omega) ?_;intro v' w' h1 h2 h3;rw[←E1.out]at h1;have g2:=(GW.out).trans (b9_ h2 (fun k hk=>(hlo2 k hk).1) (by omega));have H1:=h_ h1;have G2:=h_ g2;clear h1 h2 h3 g2 hlo2 hO1;go_wp2;go_roundw
   case rel=>exact⟨k+1,by omega,by go_num,H1.out,G2.out⟩
   case measure=>simp[intOf];omega
  ·obtain rfl:k=n:=by omega
   have e0:ms.take k=ms:=l7_ (by have:=HNL.out;omega);rw[e0]at hO⊢;have HO:=h_ (a9_.of_own hO);have HB:=h_ hbel;obtain⟨fl,hfl⟩:=e_ ((flM ms).length);rw[hfl];have HFL:=h_ hfl;clear hO hbel e0 hfl;go_wp2;go_ret
   exact⟨_,rfl,by have:=HO.out;rw[HFL.out]at this;exact this,HB.out⟩
theorem I6_ (ua ub:Value) (X Y:Rp) (w0:World) (ha:RpR w0 w0.heap.size ua X) (hb:RpR w0 w0.heap.size ub Y) (hf:Fit2 X Y) :
  Calls Tryz.prog 95 #[ua,ub] w0 fun e w'=>∃ v,e = .returned v∧d3_ w' w0.heap.size w'.heap.size v (zrL X.d Y.d X.d.length)∧Below w0.heap.size w0 w':=by
 have ha':=ha;have hb':=hb;obtain⟨A,a,C,c,Ea,ea,Ha,ha_,rfl,hqa,hda,hma,hpa,lda,lma⟩:=ha.open_;obtain⟨A2,a2,C2,c2,Eb,eb,Hb,hb_,rfl,hqb,hdb,hmb,hpb,ldb,lmb⟩:=hb.open_;clear ha hb;obtain⟨W,hW,g0,k1,k2⟩:=b_4 w0 #[.int .i64 X.p,.int .i64 X.q.v,.slice A X.q.f.length a,.slice C X.q.t.length c,.slice Ea X.d.length ea,.slice Ha X.m.length ha_] 29 #[.int .i64 Y.p,.int .i64 Y.q.v,.slice A2 Y.q.f.length a2,.slice C2 Y.q.t.length c2,.slice Eb Y.d.length eb,.slice Hb Y.m.length hb_] 29;have HXA:=h_ (RpR.next g0 ha');have HXB:=h_ (RpR.next g0 hb');have HQA:=h_ (QvR.next g0 hqa);have HDA:=h_ (SlI.next g0 hda);have HDB:=h_ (SlI.next g0 hdb);have HMA:=h_ (SlM.next g0 hma);have HMB:=h_ (SlM.next g0 hmb);have G0:=h_ g0;clear ha' hb' hqa hqb hda hdb hma hmb hpa hpb g0;have HF:=h_ hf;have hl5:=hf.len.2;have HLY:=h_ hf.len.1;obtain⟨V,hV⟩:=e_ (X.d.length);obtain⟨VY,hVY⟩:=e_ (Y.d.length);rw[hV]at hl5 k1 hW⊢;rw[hVY]at k2 hW⊢;have hVV:VY=V:=by have:=HLY.out;omega
 subst hVV;have HV:=h_ hV;have HVY:=h_ hVY;have c4:=k1.cell' (i:=4) rfl;clear hf hV hVY;go_enter Tryz.func95,Tryz.ntmps95
 go_wp2;rw[←hW];clear hW;go_loopw [5,11] (fun out i wr=>∃ k:Nat,k≤VY∧i = .int .i64 k∧d3_ wr W.heap.size wr.heap.size out (zrL X.d Y.d k)∧Below W.heap.size W wr) (fun _ i _=>VY-(intOf i).toNat)
 case atStart=>exact⟨0,l0_ _,rfl,d3_.nil _ _ _,Below.refl _ _⟩
 case round =>
  obtain⟨k,hk,rfl,hO,hbel⟩:=hrel;have hbs:=hbel.size;obtain⟨OA,oc,eo,_,_⟩:=hO.form2;rw[o1_]at eo;subst eo;by_cases hlt:k<VY
  ·obtain⟨dx,dy,bx,by_⟩:=HF.out.dim (k:=k) (by rw[HV.out];exact hlt);obtain⟨b1,o1,x1,e1,hb1,HX1,z1,_,_⟩:=SlI.at_ HDA.out (k:=k) (by rw[HV.out];exact hlt);obtain⟨b2,o2,x2,e2,hb2,HX2,z2,_,_⟩:=SlI.at_ HDB.out (k:=k) (by rw[HVY.out];exact hlt);subst e1 e2;have q1:=HX1.out;rw[dx]at q1;injection q1 with q1
   subst q1;have q2:=HX2.out;rw[dy]at q2;injection q2 with q2
   subst q2;have HZS:=h_ (P1_ X.d Y.d k);obtain⟨DX,hDX⟩:=e_ (dmN X.d k);obtain⟨DY,hDY⟩:=e_ (dmN Y.d k);rw[hDX]at z1 bx HZS;rw[hDY]at z2 by_ HZS;clear HX1 HX2 dx dy hDX hDY;have z1r:=a7_ hbel hb1 z1;have z2r:=a7_ hbel hb2 z2;have kBr:=k2.call hbel;have z4r:=kBr.cell' (i:=4) rfl;have HO:=h_ hO;have HB:=h_ hbel;clear hO hbel z1 z2 kBr c4;go_wp2_with fail
   refine (v9_ (DY:Int) (DX:Int) _ (by omega) (by omega) (by omega) (by omega)).mono ?_;rintro e w5 ⟨v5,rfl,⟨s,rfl,hs,hI⟩,hb5⟩;rw[m6_]at hs hI⊢;obtain⟨sA,sc,es⟩:=hs.form;obtain⟨sn,hsn⟩:=e_ ((mxF DY DX fun _ _=>0).a.length);rw[hsn]at es;subst es;clear hsn;simp only[mxF]at hs hI⊢;obtain⟨Z,hZ⟩:=e_ (w5.alloc (.cells #[.int .i64 DY,.int .i64 DX,.slice sA sn sc] 41));obtain⟨gz,hgz⟩:=e_ (w5.heap.size);have bZ:Below w5.heap.size w5 Z:=by rw[←hZ];exact a2_ _ _
   have kZ:Blk Z gz 41 #[.int .i64 DY,.int .i64 DX,.slice sA sn sc]:=by rw[←hZ,←hgz];exact Blk.new _ _ _
   have s5:=hb5.size;have sZ:=bZ.size;have HOZ:=h_ ((HO.out.below hb5).below bZ);have HSZ:=h_ (hs.below bZ);have HKZ:=h_ kZ;have HBZ:=h_ ((HB.out.trans (hb5.mono hbs)).trans (bZ.mono (by omega)));have HI:=h_ hI;have hgz2:w5.heap.size≤gz:=Nat.le_of_eq hgz;clear hs hI hb5 bZ kZ z1r z2r z4r
   (go_wp2_with (at_builtin;refine Hold.stop ?_));unfold Hold
   clear hZ hgz;refine o7_ (by rfl) (.tmp 16) (.tmp 24) (by rfl) W.heap.size wr.heap.size _ (zrL X.d Y.d k) (by rfl) HOZ.out gz 1 wr.heap.size w5.heap.size (mxF DY DX fun _ _=>0) (.slice sA sn sc) (by rfl) HKZ.out HSZ.out HI.out (l_ _) hbs (by omega) (by omega) (by rw[o1_];omega) ?_;intro v' w' h1 h2;rw[←HZS.out]at h1;have H1:=h_ h1;have H2:=h_ (HBZ.out.trans (h2.below (l_ _) (by omega)));clear h1 h2;go_wp2;go_roundw
   case rel=>exact⟨k+1,by omega,by go_num,H1.out,H2.out⟩
   case measure=>simp[intOf];omega
  ·obtain rfl:k=VY:=by omega
   have HO:=h_ hO;have GF:=h_ (G0.out.trans (hbel.mono G0.out.size));have hgs:=G0.out.size;clear hO hbel;go_wp2;go_ret
   exact⟨_,rfl,HO.out.wider hgs (l_ _),GF.out⟩
def czL (X Y:Rp) (K:Nat):List Mx:=(List.range K).map fun k=>mxF (dmN Y.d (tgN X.q k)) (dmN X.d (srN X.q k)) fun _ _=>0
theorem a4X (X Y:Rp) (K:Nat):czL X Y (K+1)=czL X Y K ++ [mxF (dmN Y.d (tgN X.q K)) (dmN X.d (srN X.q K)) fun _ _=>0]:=by simp[czL,List.range_succ]
theorem y2_ (X Y:Rp) (K:Nat):(czL X Y K).length=K:=by simp[czL]
theorem X9_ (X Y:Rp) (n:Nat):∀ K,totA (czL X Y K)=(eqL X Y n K).length
 | 0=>rfl
 | K+1=>by rw[a4X,y9_,X9_ X Y n K,I1_,eqL,List.length_append,eqRw,a3_,mxF,a0_]
theorem G6_ (ua ub:Value) (X Y:Rp) (w0:World) (ha:RpR w0 w0.heap.size ua X) (hb:RpR w0 w0.heap.size ub Y) (hf:Fit2 X Y) :
  Calls Tryz.prog 123 #[ua,ub] w0 fun e w'=>∃ v,e = .returned v∧d3_ w' w0.heap.size w'.heap.size v (czL X Y X.q.f.length)∧Below w0.heap.size w0 w':=by
 have ha':=ha;have hb':=hb;obtain⟨A,a,C,c,Ea,ea,Ha,ha_,rfl,hqa,hda,hma,hpa,lda,lma⟩:=ha.open_;obtain⟨A2,a2,C2,c2,Eb,eb,Hb,hb_,rfl,hqb,hdb,hmb,hpb,ldb,lmb⟩:=hb.open_;clear ha hb;obtain⟨W,hW,g0,k1,k2⟩:=b_4 w0 #[.int .i64 X.p,.int .i64 X.q.v,.slice A X.q.f.length a,.slice C X.q.t.length c,.slice Ea X.d.length ea,.slice Ha X.m.length ha_] 29 #[.int .i64 Y.p,.int .i64 Y.q.v,.slice A2 Y.q.f.length a2,.slice C2 Y.q.t.length c2,.slice Eb Y.d.length eb,.slice Hb Y.m.length hb_] 29;have HXA:=h_ (RpR.next g0 ha');have HXB:=h_ (RpR.next g0 hb');have HQA:=h_ (QvR.next g0 hqa);have HDA:=h_ (SlI.next g0 hda);have HDB:=h_ (SlI.next g0 hdb);have HMA:=h_ (SlM.next g0 hma);have HMB:=h_ (SlM.next g0 hmb);have G0:=h_ g0;clear ha' hb' hqa hqb hda hdb hma hmb hpa hpb g0;have HF:=h_ hf;have hN6:=hf.arrs.1;have HLEN:=h_ hf.len;obtain⟨_,_,_,_,eqq,hfs,hts,_⟩:=HQA.out.open_;simp only[Value.agg.injEq,Array.mk.injEq,List.cons.injEq,and_true,Value.slice.injEq,true_and]at eqq;obtain⟨⟨rfl,rfl⟩,rfl,rfl⟩:=eqq;have HFS:=h_ hfs;have HTS:=h_ hts;have c2_:=k1.cell' (i:=2) rfl;clear hf hfs hts;go_enter Tryz.func123,Tryz.ntmps123
 go_wp2;rw[←hW];clear hW;go_loopw [5,12] (fun out i wr=>∃ k:Nat,k≤X.q.f.length∧i = .int .i64 k∧d3_ wr W.heap.size wr.heap.size out (czL X Y k)∧Below W.heap.size W wr) (fun _ i _=>X.q.f.length-(intOf i).toNat)
 case atStart=>exact⟨0,l0_ _,rfl,d3_.nil _ _ _,Below.refl _ _⟩
 case round =>
  obtain⟨k,hk,rfl,hO,hbel⟩:=hrel;have hbs:=hbel.size;obtain⟨OA,oc,eo,_,_⟩:=hO.form2;rw[y2_]at eo;subst eo;by_cases hlt:k<X.q.f.length
  ·obtain⟨ef,et,lf,lt,hkt,_⟩:=HF.out.arr hlt;obtain⟨dfx,_,bfx,_⟩:=HF.out.dim lf;obtain⟨_,dty,_,bty⟩:=HF.out.dim lt;have HZS:=h_ (a4X X Y k);obtain⟨nf,hnf⟩:=e_ (srN X.q k);obtain⟨nt,hnt⟩:=e_ (tgN X.q k);rw[hnf]at ef lf dfx bfx HZS;rw[hnt]at et lt dty bty HZS;obtain⟨YF,hYF⟩:=e_ (dmN X.d nf);obtain⟨YT,hYT⟩:=e_ (dmN Y.d nt);rw[hYF]at dfx bfx HZS;rw[hYT]at dty bty HZS;clear hnf hnt hYF hYT;obtain⟨bf,of_,x1,e1,hbf,HX1,z1,_,_⟩:=SlI.at_ HFS.out hlt;obtain⟨bt,ot,x2,e2,hbt,HX2,z2,_,_⟩:=SlI.at_ HTS.out hkt;obtain⟨bd,od,x3,e3,hbd,HX3,z3,_,_⟩:=SlI.at_ HDA.out lf;have lty:nt<Y.d.length:=by have:=HLEN.out;omega
   obtain⟨be,oe,x4,e4,hbe,HX4,z4,_,_⟩:=SlI.at_ HDB.out lty;subst e1 e2 e3 e4;have q1:=HX1.out;rw[ef]at q1;injection q1 with q1
   subst q1;have q2:=HX2.out;rw[et]at q2;injection q2 with q2
   subst q2;have q3:=HX3.out;rw[dfx]at q3;injection q3 with q3
   subst q3;have q4:=HX4.out;rw[dty]at q4;injection q4 with q4
   subst q4;clear HX1 HX2 HX3 HX4 ef et dfx dty;have K1:=h_ (k1.call hbel);have K2:=h_ (k2.call hbel);have y1:=a7_ hbel hbf z1;have y2:=a7_ hbel hbt z2;have y3:=a7_ hbel hbd z3;have y4:=a7_ hbel hbe z4;have Y2:=h_ y2;have Y3:=h_ y3;have Y4:=h_ y4;have HO:=h_ hO;have HB:=h_ hbel;clear hO hbel y2 y3 y4 z1 z2 z3 z4 c2_;have a1':(0:Int)≤(nt:Int):=by omega
   have a2':(nt:Int)<Y.d.length:=by omega
   have a3':(0:Int)≤(nf:Int):=by omega
   have a4':(nf:Int)<X.d.length:=by omega
   have a5':(k:Int)<X.q.t.length:=by omega
   go_wp2;clear y1;refine a8_ (by kernel_rfl) [.eq (.slice OA k oc),.eq (.pointer (some ⟨w0.heap.size+1,4,none⟩)),.eq (.slice (some ⟨be,oe,none⟩) Y.d.length eb),.eq (.pointer (some ⟨w0.heap.size,1,none⟩)),.eq (.pointer (some ⟨w0.heap.size,3,none⟩)),.eq (.slice (some ⟨bt,ot,none⟩) X.q.t.length c),.eq (.int .i64 k),.eq (.pointer (some ⟨bt,ot+k,none⟩)),.eq (.int .i64 nt),.eq (.pointer (some ⟨be,oe+nt,none⟩)),.eq (.int .i64 YT),.eq (.pointer (some ⟨w0.heap.size,4,none⟩)),.eq (.slice (some ⟨bd,od,none⟩) X.d.length ea),.eq (.int .i64 nf),.eq (.pointer (some ⟨bd,od+nf,none⟩)),.eq (.int .i64 YF),rel 16 (fun u lo hi w=>MxO w lo hi u (mxF YT YF fun _ _=>0)),.rel (fun x w=>∃ g s,x.v 17 = .slice (some ⟨g,0,none⟩) 1 1∧x.v 16 = .agg #[.int .i64 YT,.int .i64 YF,s]∧Blk w g 41 #[.int .i64 YT,.int .i64 YF,s])] [[],[],[1],[],[3],[3,4],[],[3,4,5,6],[3,4,5,6,7],[1,2,3,4,5,6,7,8],[1,2,3,4,5,6,7,8,9],[],[11],[],[11,12,13],[11,12,13,14],[1,2,3,4,5,6,7,8,9,10,11,12,13,14,15],[1,2,3,4,5,6,7,8,9,10,11,12,13,14,15,16],[0,1,2,3,4,5,6,7,8,9,10,11,12,13,14,15,16,17],[0,1,2,3,4,5,6,7,8,9,10,11,12,13,14,15,16,17,18]] 18 (by kernel_rfl) ⟨trivial,trivial,trivial,trivial,trivial,trivial,trivial,trivial,trivial,trivial,trivial,trivial,trivial,trivial,trivial,trivial,a4_ (fun u lo hi w w' h hb=>h.below hb),fun x w w' ⟨g,s,e1,e2,h⟩ hb=>⟨g,s,e1,e2,h.call hb⟩,trivial⟩ ⟨?_,?_,?_,?_,?_,?_,?_,?_,?_,?_,?_,?_,?_,?_,?_,?_,?_,?_,trivial⟩ ?_;iterate 18 (intro x w hb hk Q' hQ;have he:=k_e hk;simp only[k_s]at he;simp only[netE]at hQ⊢;(try simp only[he]at hQ⊢);(try clear he);rotate_left)
   rotate_left
   iterate 2 (· clear hk;go_wp2;exact hQ _ _ br_ rfl)
   ·clear hk;have z:=(K2.out.call hb).cell' (i:=4) rfl;go_wp2;exact hQ _ _ br_ rfl
   iterate 2 (· clear hk;go_wp2;exact hQ _ _ br_ rfl)
   ·clear hk;have z:=(K1.out.call hb).cell' (i:=3) rfl;go_wp2;exact hQ _ _ br_ rfl
   iterate 2 (· clear hk;go_wp2;exact hQ _ _ br_ rfl)
   ·clear hk;have z:=a7_ hb (by omega) Y2.out;go_wp2;exact hQ _ _ br_ rfl
   ·clear hk;go_wp2;exact hQ _ _ br_ rfl
   ·clear hk;have z:=a7_ hb (by omega) Y4.out;go_wp2;exact hQ _ _ br_ rfl
   ·clear hk;go_wp2;exact hQ _ _ br_ rfl
   ·clear hk;have z:=(K1.out.call hb).cell' (i:=4) rfl;go_wp2;exact hQ _ _ br_ rfl
   iterate 2 (· clear hk;go_wp2;exact hQ _ _ br_ rfl)
   ·clear hk;have z:=a7_ hb (by omega) Y3.out;go_wp2;exact hQ _ _ br_ rfl
   ·clear hk;go_wp2_with fail
    refine (v9_ (YT:Int) (YF:Int) _ (by omega) (by omega) (by omega) (by omega)).mono ?_;rintro e w3 ⟨v3,rfl,hZ,hb3⟩;rw[m6_]at hZ;go_wp2;exact hQ _ _ hb3 hZ
   ·have h16:MxO w (x.lo 16) (x.hi 16) (x.v 16) (mxF YT YF fun _ _=>0):=(hk 16 (by decide)).1;have s16:=(hk 16 (by decide)).2;clear hk;obtain⟨s,e16,hs⟩:=h16;obtain⟨sA,sc,es⟩:=hs.1.form;obtain⟨sn,hsn⟩:=e_ ((mxF YT YF fun _ _=>0).a.length);rw[hsn]at es;clear hsn hs;subst es;have hQ':=hQ (.slice (some ⟨w.heap.size,0,none⟩) 1 1) (w.alloc (.cells #[.int .i64 (mxF YT YF fun _ _=>0).r,.int .i64 (mxF YT YF fun _ _=>0).c,.slice sA sn sc] 41)) (a2_ _ _) ⟨_,_,rfl,e16,Blk.new _ _ _⟩;simp only[mxF]at e16 hQ';rw[e16]at hQ'⊢;go_wp2;exact hQ'
   ·intro x w hb hk hiv hdj;have h16:MxO w (x.lo 16) (x.hi 16) (x.v 16) (mxF YT YF fun _ _=>0):=hk 16 (by decide);have h17:∃ g s,x.v 17 = .slice (some ⟨g,0,none⟩) 1 1∧x.v 16 = .agg #[.int .i64 YT,.int .i64 YF,s]∧Blk w g 41 #[.int .i64 YT,.int .i64 YF,s]:=hk 17 (by decide);have he:=k_g hk [0,1,2,3,4,5,6,7,8,9,10,11,12,13,14,15];simp only[k_s]at he;simp only[netE,he];clear he hk;obtain⟨g,s,ej,ei,hg⟩:=h17;have li:=(hiv 16 (by decide)).1;have hi_:=(hiv 16 (by decide)).2.2;obtain⟨s',ei',hs,hI⟩:=h16;rw[ei]at ei';simp only[Value.agg.injEq,Array.mk.injEq,List.cons.injEq,and_true,mxF,true_and]at ei';subst ei';rw[ej];have hbs2:=hb.size;have HOZ:=h_ (HO.out.below hb);have HKZ:=h_ hg;have HSZ:=h_ (hs.wider li hi_);have HI:=h_ hI;have HBZ:=h_ (HB.out.trans (hb.mono hbs));clear hiv hdj hs hI ej ei hg hb;refine o7_ (by rfl) (.tmp 17) (.tmp 34) (by rfl) W.heap.size wr.heap.size _ (czL X Y k) (by rfl) HOZ.out g 1 wr.heap.size w.heap.size (mxF YT YF fun _ _=>0) s (by rfl) HKZ.out HSZ.out HI.out (l_ _) hbs (l_ _) (by omega) (by rw[y2_];omega) ?_;intro v' w' h1 h2;rw[←HZS.out]at h1;have H1:=h_ h1;have H2:=h_ (HBZ.out.trans (h2.below (l_ _) (by omega)));clear h1 h2;go_wp2;go_roundw
    case rel=>exact⟨k+1,by omega,by go_num,H1.out,H2.out⟩
    case measure=>simp[intOf];omega
  ·obtain rfl:k=X.q.f.length:=by omega
   have HO:=h_ hO;have GF:=h_ (G0.out.trans (hbel.mono G0.out.size));have hgs:=G0.out.size;clear hO hbel;go_wp2;go_ret
   exact⟨_,rfl,HO.out.wider hgs (l_ _),GF.out⟩
def tch (q:Qv) (v:Int) (i:Nat):Bool:=decide (q.f.getD i 0=v) || decide (q.t.getD i 0=v)
def rvF (q:Qv) (v:Int) (k i:Nat):Int:=if i<k∧tch q v i=true then q.t.getD i 0 else q.f.getD i 0
def rvT (q:Qv) (v:Int) (k i:Nat):Int:=if i<k∧tch q v i=true then q.f.getD i 0 else q.t.getD i 0
def rvK (q:Qv) (v:Int) (k:Nat):Qv:=⟨q.v,rowF q.f.length (rvF q v k),rowF q.f.length (rvT q v k)⟩
def rvQ (q:Qv) (v:Int):Qv:=rvK q v q.f.length
theorem E4_ (l:List Int):rowF l.length (fun i=>l.getD i 0)=l:=by
 apply List.ext_getElem
 ·rw[a1_]
 ·intro i h1 h2;have:=d1_ (fun i=>l.getD i 0) h2;rw[l2_ h1]at this;injection this with this
  rw[this,l1_,l2_ h2];rfl
theorem c3Z {q:Qv} (h:q.t.length=q.f.length) (v:Int):rvK q v 0=q:=by
 have e1:rowF q.f.length (rvF q v 0)=q.f:=by
  conv=>rhs;rw[←E4_ q.f]
  exact b6_ fun a _=>by simp[rvF]
 have e2:rowF q.f.length (rvT q v 0)=q.t:=by
  conv=>rhs;rw[←E4_ q.t]
  rw[h];exact b6_ fun a _=>by simp[rvT]
 rw[rvK,e1,e2]
theorem P0_ {q:Qv} {v:Int} {k:Nat} (h:tch q v k=true):rvK q v (k+1)=⟨q.v,(rvK q v k).f.set k (q.t.getD k 0),(rvK q v k).t.set k (q.f.getD k 0)⟩:=by
 simp only[rvK,q4_];congr 1
 ·refine b6_ fun a _=>?_
  by_cases e:a=k
  ·subst e;rw[if_pos rfl,rvF,if_pos ⟨by omega,h⟩]
  ·rw[if_neg e];unfold rvF;by_cases e2:a<k∧tch q v a=true
   ·rw[if_pos e2,if_pos ⟨by omega,e2.2⟩]
   ·rw[if_neg e2,if_neg fun e3=>e2 ⟨by omega,e3.2⟩]
 ·refine b6_ fun a _=>?_
  by_cases e:a=k
  ·subst e;rw[if_pos rfl,rvT,if_pos ⟨by omega,h⟩]
  ·rw[if_neg e];unfold rvT;by_cases e2:a<k∧tch q v a=true
   ·rw[if_pos e2,if_pos ⟨by omega,e2.2⟩]
   ·rw[if_neg e2,if_neg fun e3=>e2 ⟨by omega,e3.2⟩]
theorem a3z {q:Qv} {v:Int} {k:Nat} (h:tch q v k=false):rvK q v (k+1)=rvK q v k:=by
 simp only[rvK];congr 1
 ·refine b6_ fun a _=>?_
  unfold rvF;by_cases e2:a<k∧tch q v a=true
  ·rw[if_pos e2,if_pos ⟨by omega,e2.2⟩]
  ·rw[if_neg e2,if_neg fun e3=>e2 ⟨Nat.lt_of_le_of_ne (by omega) (by rintro rfl;rw[h]at e3;exact absurd e3.2 (by decide)),e3.2⟩]
 ·refine b6_ fun a _=>?_
  unfold rvT;by_cases e2:a<k∧tch q v a=true
  ·rw[if_pos e2,if_pos ⟨by omega,e2.2⟩]
  ·rw[if_neg e2,if_neg fun e3=>e2 ⟨Nat.lt_of_le_of_ne (by omega) (by rintro rfl;rw[h]at e3;exact absurd e3.2 (by decide)),e3.2⟩]
theorem p8_ {q:Qv} {v x y:Int} {k:Nat} (hf:q.f[k]?=some x) (ht:q.t[k]?=some y):tch q v k=(decide (x=v) || decide (y=v)):=by
 simp[tch,l1_,hf,ht]
theorem d5_.putF {w:World} {lo hi g n c k:Nat} {x v:Int} {b:Value} {q:Qv} (h:d5_ w lo hi (.agg #[.int .i64 v,.slice (some ⟨g,0,none⟩) n c,b]) q) (hx:I64 x) :
  d5_ (w.setCell ⟨g,k,none⟩ (.int .i64 x)) lo hi (.agg #[.int .i64 v,.slice (some ⟨g,0,none⟩) n c,b]) ⟨q.v,q.f.set k x,q.t⟩∧lo≤g∧g<hi:=by
 obtain⟨a',b',e,hF,hr⟩:=h;simp only[Value.agg.injEq,Array.mk.injEq,List.cons.injEq,and_true,Value.int.injEq,true_and]at e;obtain⟨rfl,rfl,rfl⟩:=e;have h1:=hF.1 (.slice (some ⟨g,0,none⟩) n c,q.f) (by simp);have hp:=h1.1.put (j:=k) hx;have:=Fam.turn (L1:=[]) (L2:=[(b,q.t)]) (v:=.slice (some ⟨g,0,none⟩) n c) (l:=q.f) (l':=q.f.set k x) (by simpa using hF) hp.1 hp.2;exact⟨⟨_,_,rfl,by simpa using this,hr⟩,(h1.1.lt g rfl).1,h1.2 g rfl⟩
theorem d5_.putT {w:World} {lo hi g n c k:Nat} {x v:Int} {a:Value} {q:Qv} (h:d5_ w lo hi (.agg #[.int .i64 v,a,.slice (some ⟨g,0,none⟩) n c]) q) (hx:I64 x) :
  d5_ (w.setCell ⟨g,k,none⟩ (.int .i64 x)) lo hi (.agg #[.int .i64 v,a,.slice (some ⟨g,0,none⟩) n c]) ⟨q.v,q.f,q.t.set k x⟩∧lo≤g∧g<hi:=by
 obtain⟨a',b',e,hF,hr⟩:=h;simp only[Value.agg.injEq,Array.mk.injEq,List.cons.injEq,and_true,Value.int.injEq,true_and]at e;obtain⟨rfl,rfl,rfl⟩:=e;have h1:=hF.1 (.slice (some ⟨g,0,none⟩) n c,q.t) (by simp);have hp:=h1.1.put (j:=k) hx;have:=Fam.turn (L1:=[(a,q.f)]) (L2:=[]) (v:=.slice (some ⟨g,0,none⟩) n c) (l:=q.t) (l':=q.t.set k x) (by simpa using hF) hp.1 hp.2;exact⟨⟨_,_,rfl,by simpa using this,hr⟩,(h1.1.lt g rfl).1,h1.2 g rfl⟩
theorem d5_.cellF {w:World} {lo hi g n c k:Nat} {v:Int} {b:Value} {q:Qv} (h:d5_ w lo hi (.agg #[.int .i64 v,.slice (some ⟨g,0,none⟩) n c,b]) q) (hk:k<q.f.length) :
  w.cell? ⟨g,k,none⟩=some (.int .i64 (q.f.getD k 0))∧w.frozen? ⟨g,k,none⟩=false:=by
 obtain⟨a',b',e,hF,hr⟩:=h;simp only[Value.agg.injEq,Array.mk.injEq,List.cons.injEq,and_true,Value.int.injEq,true_and]at e;obtain⟨rfl,rfl,rfl⟩:=e;have h1:=hF.1 (.slice (some ⟨g,0,none⟩) n c,q.f) (by simp);exact⟨(h1.1.cellG hk).1,h1.1.frozenG k⟩
theorem d5_.cellT {w:World} {lo hi g n c k:Nat} {v:Int} {a:Value} {q:Qv} (h:d5_ w lo hi (.agg #[.int .i64 v,a,.slice (some ⟨g,0,none⟩) n c]) q) (hk:k<q.t.length) :
  w.cell? ⟨g,k,none⟩=some (.int .i64 (q.t.getD k 0))∧w.frozen? ⟨g,k,none⟩=false:=by
 obtain⟨a',b',e,hF,hr⟩:=h;simp only[Value.agg.injEq,Array.mk.injEq,List.cons.injEq,and_true,Value.int.injEq,true_and]at e;obtain⟨rfl,rfl,rfl⟩:=e;have h1:=hF.1 (.slice (some ⟨g,0,none⟩) n c,q.t) (by simp);exact⟨(h1.1.cellG hk).1,h1.1.frozenG k⟩
theorem d5_.addr {w:World} {lo hi n m c d:Nat} {v:Int} {A C:Option Addr} {q:Qv} (h:d5_ w lo hi (.agg #[.int .i64 v,.slice A n c,.slice C m d]) q) (hf:0<q.f.length) (ht:0<q.t.length) :
  ∃ g g',A=some ⟨g,0,none⟩∧C=some ⟨g',0,none⟩∧lo≤g∧g<hi∧lo≤g'∧g'<hi:=by
 obtain⟨a',b',e,hF,hr⟩:=h;simp only[Value.agg.injEq,Array.mk.injEq,List.cons.injEq,and_true,Value.int.injEq,true_and]at e;obtain⟨rfl,rfl,rfl⟩:=e;have h1:=hF.1 (.slice A n c,q.f) (by simp);have h2:=hF.1 (.slice C m d,q.t) (by simp);obtain⟨g,k,e1,l1,l2,_⟩:=h1.at_ hf;obtain⟨g',k',e2,l3,l4,_⟩:=h2.at_ ht;injection e1 with e1
 injection e2 with e2
 exact⟨g,g',e1,e2,l1,l2,l3,l4⟩
theorem D9_ (u:Value) (q:Qv) (v:Int) (w0:World) (hu:QvR w0 w0.heap.size u q) (hq:isQ q=true) (hs:endV q.t q v=true∨endV q.f q v=true) :
  Calls Tryz.prog 78 #[u,.int .i64 v] w0 fun e w'=>∃ r,e = .returned (.tuple #[r,.bool true])∧d5_ w' w0.heap.size w'.heap.size r (rvQ q v)∧Below w0.heap.size w0 w':=by
 have hu':=hu;obtain⟨A,c,C,d,rfl,hf,hT,hr,lf,lt⟩:=hu.open_;clear hu;have hlen:=(g4_.1 hq).2.1;have hl6:=(g4_.1 hq).2.2.1;obtain⟨W,hW,g0,k1,k2⟩:=b_4 w0 #[.int .i64 q.v,.slice A q.f.length c,.slice C q.t.length d] 26 #[.int .i64 0,.slice none 0 0,.slice none 0 0] 26;have sz:W.heap.size=w0.heap.size+1+1:=by rw[hW];simp
 have SZ:=h_ sz;have HQV:=h_ (QvR.next g0 hu');have HF:=h_ (SlI.next g0 hf);have HT:=h_ (SlI.next g0 hT);have HQ:=h_ hq;have HL:=h_ hlen;obtain⟨c0,c1,c2⟩:=c_3 k1;clear hu' hf hT sz hq hlen;rcases h1:endV q.t q v with _ | _
 ·have h2:endV q.f q v=true:=by rw[h1]at hs;simpa using hs
  have H1:=h_ h1;have H2:=h_ h2;clear h1 h2 hs;go_enter Tryz.func78,Tryz.ntmps78
  go_wp2_with fail
  rw[←hW];clear hW;refine (s5_ _ q v _ HQV.out HQ.out).mono ?_;rintro e wa ⟨rfl,hba⟩;rw[H1.out];have ka:=k1.call hba;clear c0 c1 c2;obtain⟨c0,c1,c2⟩:=c_3 ka;clear ka;go_wp2_with fail
  refine (D4_ _ q v _ (QvR.next hba HQV.out) HQ.out).mono ?_;rintro e wb ⟨rfl,hbb⟩;rw[H2.out];have GZ:=h_ (a6_ hba hbb);clear hba hbb;have kz1:=k1.call GZ.out;clear c0 c1 c2;obtain⟨c0,c1,c2⟩:=c_3 kz1;clear kz1;go_wp2_with fail
  refine (B3_ _ q _ (QvR.next GZ.out HQV.out)).mono ?_;rintro e w3 ⟨v3,rfl,hC,hb3⟩;obtain⟨FA,fc,TA,tc,ev⟩:=hC.form;subst ev;obtain⟨W4,hW4,ga,kO⟩:=b_1 w3 #[.int .i64 q.v,.slice FA q.f.length fc,.slice TA q.t.length tc] 26;have hC4:d5_ W4 wb.heap.size w3.heap.size (.agg #[.int .i64 q.v,.slice FA q.f.length fc,.slice TA q.t.length tc]) (rvK q v 0):=by rw[c3Z HL.out.symm v];exact hC.below ga
  have gz4:=a6_ hb3 ga;have gW4:=GZ.out.trans (gz4.mono GZ.out.size);have sz4:=GZ.out.size;have s3:=hb3.size;have lO:=kO.lt;have k14:=k1.call gW4;have c1':=k14.cell' (i:=1) rfl;clear c0 c1 c2 hC ga hb3;go_wp2;clear hW4 c1' k14;go_loopw [24] (fun i wr=>∃ k:Nat,k≤q.f.length∧i = .int .i64 k∧Below W.heap.size W wr∧Blk wr w3.heap.size 26 #[.int .i64 q.v,.slice FA q.f.length fc,.slice TA q.t.length tc]∧d5_ wr wb.heap.size w3.heap.size (.agg #[.int .i64 q.v,.slice FA q.f.length fc,.slice TA q.t.length tc]) (rvK q v k)∧w3.heap.size≤wr.heap.size) (fun i _=>q.f.length-(intOf i).toNat)
  case atStart=>exact⟨0,l0_ _,rfl,gW4,kO,hC4,by omega⟩
  case round =>
   clear gW4 kO hC4;obtain⟨k,hk,rfl,gW,hB,hO,hs⟩:=hrel;by_cases hlt:k<q.f.length
   ·have hlt2:k<q.t.length:=by have:=HL.out;omega
    obtain⟨bf,of_,xf,eA,hbf,HXF,f1,rf⟩:=SlI.at_ HF.out hlt;obtain⟨bt,ot,xt,eC,hbt,HXT,t1,rt⟩:=SlI.at_ HT.out hlt2;subst eA eC;have f1':=a7_ gW hbf f1;have t1':=a7_ gW hbt t1;have HT0:=h_ (p8_ (v:=v) HXF.out HXT.out);have kB:=k1.call gW;have c1:=kB.cell' (i:=1) rfl;have c2:=kB.cell' (i:=2) rfl;have o1:=hB.cell' (i:=1) rfl;have o2:=hB.cell' (i:=2) rfl;obtain⟨gF,gT,eF,eT,l1,l2,l3,l4⟩:=hO.addr (by simp only[rvK,a1_];omega) (by simp only[rvK,a1_];omega);subst eF eT;have hyes:tch q v k=true→∃ Y,Y=(wr.setCell ⟨gF,k,none⟩ (.int .i64 xt)).setCell ⟨gT,k,none⟩ (.int .i64 xf)∧d5_ Y wb.heap.size w3.heap.size (.agg #[.int .i64 q.v,.slice (some ⟨gF,0,none⟩) q.f.length fc,.slice (some ⟨gT,0,none⟩) q.t.length tc]) (rvK q v (k+1))∧Chg wb.heap.size w3.heap.size wr Y∧(∃ u,wr.cell? ⟨gF,k,none⟩=some u)∧wr.frozen? ⟨gF,k,none⟩=false∧(∃ u,(wr.setCell ⟨gF,k,none⟩ (.int .i64 xt)).cell? ⟨gT,k,none⟩=some u)∧(wr.setCell ⟨gF,k,none⟩ (.int .i64 xt)).frozen? ⟨gT,k,none⟩=false:=by
     intro ht;have p1:=hO.putF (k:=k) (x:=xt) rt;have p2:=p1.1.putT (k:=k) (x:=xf) rf;have z1:=hO.cellF (k:=k) (by simp only[rvK,a1_];omega);have z2:=p1.1.cellT (k:=k) (by simp only[rvK,a1_];omega);refine⟨_,rfl,?_,?_,⟨_,z1.1⟩,z1.2,⟨_,z2.1⟩,z2.2⟩
     ·rw[P0_ ht];have e1:q.t.getD k 0=xt:=by rw[l1_,HXT.out];rfl
      have e2:q.f.getD k 0=xf:=by rw[l1_,HXF.out];rfl
      rw[e1,e2];exact p2.1
     ·exact (b4_ l1 l2).trans (b4_ l3 l4)
    have HYES:=h_ hyes;have HNO:=h_ (fun h:tch q v k=false=>a3z (q:=q) (v:=v) h);have HO:=h_ hO;have HB:=h_ hB;have GW:=h_ gW;have gws:=gW.size;clear f1 t1 hyes hO hB gW kB HXF HXT;have hne1:gF≠w3.heap.size:=by omega
    have hne2:gT≠w3.heap.size:=by omega
    by_cases h1:xf=v
    ·have hd:(xf == v)=true:=by rw[h1];exact beq_self_eq_true v
     have htc:tch q v k=true:=by rw[HT0.out,h1];simp
     obtain⟨Y,eY,hOY,hcY,⟨u1,z1⟩,z2,⟨u2,z3⟩,z4⟩:=HYES.out htc;have HOY:=h_ hOY;have HCY:=h_ hcY;have hmo:Tryz.prog.follows .mixedOrders=true:=by kernel_rfl
     clear HT0 HYES HNO hOY hcY h1 htc;go_wp2_with fail
     go_region_o
     rw[←eY];have HOY2:=h_ (HOY.out.below (d9_ _));have HCY2:=h_ (HCY.out.trans (Chg.of_below (d9_ _)));have hsY:=HCY2.out.size;have HBY:=h_ (HB.out.chg HCY2.out (.inr (l_ _)));have GWY:=h_ (GW.out.trans (HCY2.out.below (B:=W.heap.size) (by omega) (by omega)));clear eY z1 z2 z3 z4 c1 c2 o1 o2 f1' t1';go_wp2;go_roundw
     case rel=>exact⟨k+1,by omega,by go_num,GWY.out,HBY.out,HOY2.out,by omega⟩
     case measure=>simp[intOf];omega
    ·have hd:(xf == v)=false:=by rw[beq_eq_false_iff_ne];exact h1
     by_cases h2:xt=v
     ·have hd2:(xt == v)=true:=by rw[h2];exact beq_self_eq_true v
      have htc:tch q v k=true:=by rw[HT0.out,h2];simp
      obtain⟨Y,eY,hOY,hcY,⟨u1,z1⟩,z2,⟨u2,z3⟩,z4⟩:=HYES.out htc;have HOY:=h_ hOY;have HCY:=h_ hcY;have hmo:Tryz.prog.follows .mixedOrders=true:=by kernel_rfl
      clear HT0 HYES HNO hOY hcY h1 h2 htc;go_wp2_with fail
      go_region_o
      rw[←eY];have HOY2:=h_ (HOY.out.below (d9_ _));have HCY2:=h_ (HCY.out.trans (Chg.of_below (d9_ _)));have hsY:=HCY2.out.size;have HBY:=h_ (HB.out.chg HCY2.out (.inr (l_ _)));have GWY:=h_ (GW.out.trans (HCY2.out.below (B:=W.heap.size) (by omega) (by omega)));clear eY z1 z2 z3 z4 c1 c2 o1 o2 f1' t1';go_wp2;go_roundw
      case rel=>exact⟨k+1,by omega,by go_num,GWY.out,HBY.out,HOY2.out,by omega⟩
      case measure=>simp[intOf];omega
     ·have hd2:(xt == v)=false:=by rw[beq_eq_false_iff_ne];exact h2
      have HN:=h_ (HNO.out (by rw[HT0.out];simp[h1,h2]));clear HT0 HYES HNO h1 h2;go_wp2;go_roundw
      case rel=>exact⟨k+1,by omega,by go_num,GW.out,HB.out,by rw[HN.out];exact HO.out,hs⟩
      case measure=>simp[intOf];omega
   ·obtain rfl:k=q.f.length:=by omega
    have gf:=g0.trans (gW.mono g0.size);have kz:=k2.call gW;have fr:=kz.frozen;obtain⟨s0,s1,s2⟩:=c_3 kz;obtain⟨r0,r1,r2⟩:=c_3 hB;have sz:=SZ.out;have hc:=chg3 wr (w0.heap.size+1) (.int .i64 q.v) (.slice FA q.f.length fc) (.slice TA q.t.length tc);have OF:=h_ ((hO.chg hc (.inr (by omega))).wider (lo':=w0.heap.size) (hi':=wr.heap.size) (by omega) (by omega));have GF:=h_ (gf.trans (hc.below (by omega) gf.size));clear hO hB kz gf hc;go_wp2;exact bodyPost_ret (v:=.tuple #[.agg #[.int .i64 q.v,.slice FA q.f.length fc,.slice TA q.t.length tc],.bool true]) (by simp[results,go_sem,s0,s1,s2]) rfl ⟨_,rfl,by have:=OF.out.wider (l_ _) (l_ _);simpa [rvQ] using this,GF.out⟩
 ·have H1:=h_ h1;clear h1 hs;go_enter Tryz.func78,Tryz.ntmps78
  go_wp2_with fail
  rw[←hW];clear hW;refine (s5_ _ q v _ HQV.out HQ.out).mono ?_;rintro e wa ⟨rfl,hba⟩;rw[H1.out];have GZ:=h_ hba;clear hba;have kz1:=k1.call GZ.out;clear c0 c1 c2;obtain⟨c0,c1,c2⟩:=c_3 kz1;clear kz1;go_wp2_with fail
  refine (B3_ _ q _ (QvR.next GZ.out HQV.out)).mono ?_;rintro e w3 ⟨v3,rfl,hC,hb3⟩;obtain⟨FA,fc,TA,tc,ev⟩:=hC.form;subst ev;obtain⟨W4,hW4,ga,kO⟩:=b_1 w3 #[.int .i64 q.v,.slice FA q.f.length fc,.slice TA q.t.length tc] 26;have hC4:d5_ W4 wa.heap.size w3.heap.size (.agg #[.int .i64 q.v,.slice FA q.f.length fc,.slice TA q.t.length tc]) (rvK q v 0):=by rw[c3Z HL.out.symm v];exact hC.below ga
  have gz4:=a6_ hb3 ga;have gW4:=GZ.out.trans (gz4.mono GZ.out.size);have sz4:=GZ.out.size;have s3:=hb3.size;have lO:=kO.lt;have k14:=k1.call gW4;have c1':=k14.cell' (i:=1) rfl;clear c0 c1 c2 hC ga hb3;go_wp2;clear hW4 c1' k14;go_loopw [24] (fun i wr=>∃ k:Nat,k≤q.f.length∧i = .int .i64 k∧Below W.heap.size W wr∧Blk wr w3.heap.size 26 #[.int .i64 q.v,.slice FA q.f.length fc,.slice TA q.t.length tc]∧d5_ wr wa.heap.size w3.heap.size (.agg #[.int .i64 q.v,.slice FA q.f.length fc,.slice TA q.t.length tc]) (rvK q v k)∧w3.heap.size≤wr.heap.size) (fun i _=>q.f.length-(intOf i).toNat)
  case atStart=>exact⟨0,l0_ _,rfl,gW4,kO,hC4,by omega⟩
  case round =>
   clear gW4 kO hC4;obtain⟨k,hk,rfl,gW,hB,hO,hs⟩:=hrel;by_cases hlt:k<q.f.length
   ·have hlt2:k<q.t.length:=by have:=HL.out;omega
    obtain⟨bf,of_,xf,eA,hbf,HXF,f1,rf⟩:=SlI.at_ HF.out hlt;obtain⟨bt,ot,xt,eC,hbt,HXT,t1,rt⟩:=SlI.at_ HT.out hlt2;subst eA eC;have f1':=a7_ gW hbf f1;have t1':=a7_ gW hbt t1;have HT0:=h_ (p8_ (v:=v) HXF.out HXT.out);have kB:=k1.call gW;have c1:=kB.cell' (i:=1) rfl;have c2:=kB.cell' (i:=2) rfl;have o1:=hB.cell' (i:=1) rfl;have o2:=hB.cell' (i:=2) rfl;obtain⟨gF,gT,eF,eT,l1,l2,l3,l4⟩:=hO.addr (by simp only[rvK,a1_];omega) (by simp only[rvK,a1_];omega);subst eF eT;have hyes:tch q v k=true→∃ Y,Y=(wr.setCell ⟨gF,k,none⟩ (.int .i64 xt)).setCell ⟨gT,k,none⟩ (.int .i64 xf)∧d5_ Y wa.heap.size w3.heap.size (.agg #[.int .i64 q.v,.slice (some ⟨gF,0,none⟩) q.f.length fc,.slice (some ⟨gT,0,none⟩) q.t.length tc]) (rvK q v (k+1))∧Chg wa.heap.size w3.heap.size wr Y∧(∃ u,wr.cell? ⟨gF,k,none⟩=some u)∧wr.frozen? ⟨gF,k,none⟩=false∧(∃ u,(wr.setCell ⟨gF,k,none⟩ (.int .i64 xt)).cell? ⟨gT,k,none⟩=some u)∧(wr.setCell ⟨gF,k,none⟩ (.int .i64 xt)).frozen? ⟨gT,k,none⟩=false:=by
     intro ht;have p1:=hO.putF (k:=k) (x:=xt) rt;have p2:=p1.1.putT (k:=k) (x:=xf) rf;have z1:=hO.cellF (k:=k) (by simp only[rvK,a1_];omega);have z2:=p1.1.cellT (k:=k) (by simp only[rvK,a1_];omega);refine⟨_,rfl,?_,?_,⟨_,z1.1⟩,z1.2,⟨_,z2.1⟩,z2.2⟩
     ·rw[P0_ ht];have e1:q.t.getD k 0=xt:=by rw[l1_,HXT.out];rfl
      have e2:q.f.getD k 0=xf:=by rw[l1_,HXF.out];rfl
      rw[e1,e2];exact p2.1
     ·exact (b4_ l1 l2).trans (b4_ l3 l4)
    have HYES:=h_ hyes;have HNO:=h_ (fun h:tch q v k=false=>a3z (q:=q) (v:=v) h);have HO:=h_ hO;have HB:=h_ hB;have GW:=h_ gW;have gws:=gW.size;clear f1 t1 hyes hO hB gW kB HXF HXT;have hne1:gF≠w3.heap.size:=by omega
    have hne2:gT≠w3.heap.size:=by omega
    by_cases h1:xf=v
    ·have hd:(xf == v)=true:=by rw[h1];exact beq_self_eq_true v
     have htc:tch q v k=true:=by rw[HT0.out,h1];simp
     obtain⟨Y,eY,hOY,hcY,⟨u1,z1⟩,z2,⟨u2,z3⟩,z4⟩:=HYES.out htc;have HOY:=h_ hOY;have HCY:=h_ hcY;have hmo:Tryz.prog.follows .mixedOrders=true:=by kernel_rfl
     clear HT0 HYES HNO hOY hcY h1 htc;go_wp2_with fail
     go_region_o
     rw[←eY];have HOY2:=h_ (HOY.out.below (d9_ _));have HCY2:=h_ (HCY.out.trans (Chg.of_below (d9_ _)));have hsY:=HCY2.out.size;have HBY:=h_ (HB.out.chg HCY2.out (.inr (l_ _)));have GWY:=h_ (GW.out.trans (HCY2.out.below (B:=W.heap.size) (by omega) (by omega)));clear eY z1 z2 z3 z4 c1 c2 o1 o2 f1' t1';go_wp2;go_roundw
     case rel=>exact⟨k+1,by omega,by go_num,GWY.out,HBY.out,HOY2.out,by omega⟩
     case measure=>simp[intOf];omega
    ·have hd:(xf == v)=false:=by rw[beq_eq_false_iff_ne];exact h1
     by_cases h2:xt=v
     ·have hd2:(xt == v)=true:=by rw[h2];exact beq_self_eq_true v
      have htc:tch q v k=true:=by rw[HT0.out,h2];simp
      obtain⟨Y,eY,hOY,hcY,⟨u1,z1⟩,z2,⟨u2,z3⟩,z4⟩:=HYES.out htc;have HOY:=h_ hOY;have HCY:=h_ hcY;have hmo:Tryz.prog.follows .mixedOrders=true:=by kernel_rfl
      clear HT0 HYES HNO hOY hcY h1 h2 htc;go_wp2_with fail
      go_region_o
      rw[←eY];have HOY2:=h_ (HOY.out.below (d9_ _));have HCY2:=h_ (HCY.out.trans (Chg.of_below (d9_ _)));have hsY:=HCY2.out.size;have HBY:=h_ (HB.out.chg HCY2.out (.inr (l_ _)));have GWY:=h_ (GW.out.trans (HCY2.out.below (B:=W.heap.size) (by omega) (by omega)));clear eY z1 z2 z3 z4 c1 c2 o1 o2 f1' t1';go_wp2;go_roundw
      case rel=>exact⟨k+1,by omega,by go_num,GWY.out,HBY.out,HOY2.out,by omega⟩
      case measure=>simp[intOf];omega
     ·have hd2:(xt == v)=false:=by rw[beq_eq_false_iff_ne];exact h2
      have HN:=h_ (HNO.out (by rw[HT0.out];simp[h1,h2]));clear HT0 HYES HNO h1 h2;go_wp2;go_roundw
      case rel=>exact⟨k+1,by omega,by go_num,GW.out,HB.out,by rw[HN.out];exact HO.out,hs⟩
      case measure=>simp[intOf];omega
   ·obtain rfl:k=q.f.length:=by omega
    have gf:=g0.trans (gW.mono g0.size);have kz:=k2.call gW;have fr:=kz.frozen;obtain⟨s0,s1,s2⟩:=c_3 kz;obtain⟨r0,r1,r2⟩:=c_3 hB;have sz:=SZ.out;have hc:=chg3 wr (w0.heap.size+1) (.int .i64 q.v) (.slice FA q.f.length fc) (.slice TA q.t.length tc);have OF:=h_ ((hO.chg hc (.inr (by omega))).wider (lo':=w0.heap.size) (hi':=wr.heap.size) (by omega) (by omega));have GF:=h_ (gf.trans (hc.below (by omega) gf.size));clear hO hB kz gf hc;go_wp2;exact bodyPost_ret (v:=.tuple #[.agg #[.int .i64 q.v,.slice FA q.f.length fc,.slice TA q.t.length tc],.bool true]) (by simp[results,go_sem,s0,s1,s2]) rfl ⟨_,rfl,by have:=OF.out.wider (l_ _) (l_ _);simpa [rvQ] using this,GF.out⟩
def outS (x:Rp) (v:Int) (C:Nat):Nat→Nat×(Nat→Nat→Int)
 | 0=>(0,fun _ _=>0)
 | k+1=>if x.q.f.getD k 0=v then ((outS x v C k).1+(x.m.getD k ⟨0,0,[]⟩).r.toNat,blF (outS x v C k).1 (outS x v C k).2 (q6_ (x.m.getD k ⟨0,0,[]⟩).a C)) else outS x v C k
def inS (x:Rp) (v:Int) (R:Nat):Nat→Nat×(Nat→Nat→Int)
 | 0=>(0,fun _ _=>0)
 | k+1=>if x.q.t.getD k 0=v then ((inS x v R k).1+(x.m.getD k ⟨0,0,[]⟩).c.toNat,bsF (inS x v R k).1 (inS x v R k).2 (q6_ (x.m.getD k ⟨0,0,[]⟩).a (x.m.getD k ⟨0,0,[]⟩).c.toNat)) else inS x v R k
theorem D0_ {x:Rp} {v:Int} {C k:Nat} {y:Int} (hf:x.q.f[k]?=some y) (h:y≠v):outS x v C (k+1)=outS x v C k:=by
 rw[outS,if_neg];rw[l1_,hf];exact h
theorem N6_ {x:Rp} {v:Int} {C k:Nat} {y:Int} (hf:x.q.t[k]?=some y) (h:y≠v):inS x v C (k+1)=inS x v C k:=by
 rw[inS,if_neg];rw[l1_,hf];exact h
theorem y6_ {x:Rp} {v:Int} {C k yt:Nat} {m:Mx} (hf:x.q.f[k]?=some v) (hm:x.m[k]?=some m) (hr:m.r=(yt:Int)):outS x v C (k+1)=((outS x v C k).1+yt,blF (outS x v C k).1 (outS x v C k).2 (q6_ m.a C)):=by
 rw[outS,if_pos]
 ·simp only[l1_,hm,Option.getD_some,hr,l5_]
 ·rw[l1_,hf];rfl
theorem E0_ {x:Rp} {v:Int} {R k yf:Nat} {m:Mx} (hf:x.q.t[k]?=some v) (hm:x.m[k]?=some m) (hc:m.c=(yf:Int)):inS x v R (k+1)=((inS x v R k).1+yf,bsF (inS x v R k).1 (inS x v R k).2 (q6_ m.a yf)):=by
 rw[inS,if_pos]
 ·simp only[l1_,hm,Option.getD_some,hc,l5_]
 ·rw[l1_,hf];rfl
def k0_ (x:Rp) (v:Int):Bool:=f1_ x && endV x.q.t x.q v
def inOk (x:Rp) (v:Int):Bool:=f1_ x && endV x.q.f x.q v
def outP (x:Rp) (v:Int):Mx×Bool:=if k0_ x v then (mxF (outS x v (dAt x.d v).toNat x.q.f.length).1 (dAt x.d v).toNat (outS x v (dAt x.d v).toNat x.q.f.length).2,true) else (mx0,false)
def inP (x:Rp) (v:Int):Mx×Bool:=if inOk x v then (mxF (dAt x.d v).toNat (inS x v (dAt x.d v).toNat x.q.f.length).1 (inS x v (dAt x.d v).toNat x.q.f.length).2,true) else (mx0,false)
theorem B0_ {x:Rp} {v:Int} {C:Nat} (hx:f1_ x=true):∀ k,k≤x.q.f.length→(outS x v C k).1≤4*k
 | 0,_=>by simp[outS]
 | k+1,hk=>by
  have ih:=B0_ (v:=v) (C:=C) hx k (by omega);obtain⟨m,nf,nt,yf,yt,em,ef,et,df,dt,eM,_,b1,b2,_⟩:=g9_ hx (show k<x.q.f.length by omega);by_cases h:(nf:Int)=v
  ·rw[h]at ef;rw[y6_ ef em (yt:=yt) (by rw[eM];rfl)];simp only;omega
  ·rw[D0_ ef h];omega
theorem L6_ {x:Rp} {v:Int} {C:Nat} (hx:f1_ x=true):∀ k,k≤x.q.f.length→(inS x v C k).1≤4*k
 | 0,_=>by simp[inS]
 | k+1,hk=>by
  have ih:=L6_ (v:=v) (C:=C) hx k (by omega);obtain⟨m,nf,nt,yf,yt,em,ef,et,df,dt,eM,_,b1,b2,_⟩:=g9_ hx (show k<x.q.f.length by omega);by_cases h:(nt:Int)=v
  ·rw[h]at et;rw[E0_ et em (yf:=yf) (by rw[eM];rfl)];simp only;omega
  ·rw[N6_ et h];omega
def outM (x:Rp) (v:Int) (C k:Nat):Mx:=mxF (outS x v C k).1 C (outS x v C k).2
def inM (x:Rp) (v:Int) (C k:Nat):Mx:=mxF C (inS x v C k).1 (inS x v C k).2
theorem d2Z (x:Rp) (v:Int) (C:Nat):zmx 0 C=outM x v C 0:=m6_ 0 C
theorem f2Q (x:Rp) (v:Int) (C:Nat):zmx C 0=inM x v C 0:=m6_ C 0
theorem y5_ {x:Rp} {v:Int} {C:Nat} (h:k0_ x v=true) (hC:dAt x.d v=(C:Int)):outP x v=(outM x v C x.q.f.length,true):=by
 rw[outP,if_pos h,hC,l5_];rfl
theorem E2_ {x:Rp} {v:Int} {C:Nat} (h:inOk x v=true) (hC:dAt x.d v=(C:Int)):inP x v=(inM x v C x.q.f.length,true):=by
 rw[inP,if_pos h,hC,l5_];rfl
theorem k5_ {x:Rp} {v:Int} {l:List Int} (hx:f1_ x=true) (hv:endV l x.q v=true):∃ n C:Nat,v=(n:Int)∧n<x.d.length∧x.d[n]?=some (C:Int)∧dAt x.d v=(C:Int)∧C≤4∧n≤5:=by
 obtain⟨h1,h2,h3,h4⟩:=b7_.1 (b8_.1 hx).2.1;have hV:=(g4_.1 h1).1;simp only[endV,l9_,t0_]at hv;obtain⟨n,rfl⟩:=Int.eq_ofNat_of_zero_le hv.1.1;have hl:n<x.d.length:=by omega
 have e:=l2_ hl;have b:=h3 _ (l4_ e);obtain⟨C,hC⟩:=Int.eq_ofNat_of_zero_le b.1;rw[hC]at e b;exact⟨n,C,rfl,hl,e,r4_ e,by omega,by omega⟩
def othN (x:Rp) (v:Int) (i:Nat):Nat:=(dAt x.d (x.q.f.getD i 0+x.q.t.getD i 0-v)).toNat
def atN (x:Rp) (v:Int):Nat→Nat
 | 0=>0
 | k+1=>if tch x.q v k=true then atN x v k+othN x v k else atN x v k
def rfM (x:Rp) (v:Int) (G:Nat→Mx) (k i:Nat):Mx:=if i<k∧tch x.q v i=true then G i else x.m.getD i mx0
def rfK (x:Rp) (v:Int) (K:Nat) (G:Nat→Mx) (k:Nat):Rp:=⟨x.p,rvQ x.q v,x.d.set v.toNat K,msF x.q.f.length (rfM x v G k)⟩
def rfP (x:Rp) (v:Int) (K:Nat) (G:Nat→Mx):Rp×Bool:=if d4_ (rvQ x.q v) (x.d.set v.toNat K) then (rfK x v K G x.q.f.length,true) else (rp0,false)
theorem f9z {x:Rp} (h:x.m.length=x.q.f.length) (v:Int) (G:Nat→Mx):msF x.q.f.length (rfM x v G 0)=x.m:=by
 apply List.ext_getElem
 ·rw[d0_,h]
 ·intro i h1 h2;have:=x8_ (rfM x v G 0) (show i<x.q.f.length by omega);rw[l2_ h1]at this;injection this with this
  rw[this,rfM,if_neg (by omega),l1_,l2_ h2];rfl
theorem d5q {x:Rp} {v:Int} {G:Nat→Mx} {k:Nat} (h:tch x.q v k=true):(msF x.q.f.length (rfM x v G k)).set k (G k)=msF x.q.f.length (rfM x v G (k+1)):=by
 rw[I8_];refine i5_ fun i _=>?_
 by_cases e:i=k
 ·subst e;rw[if_pos rfl,rfM,if_pos ⟨by omega,h⟩]
 ·rw[if_neg e];unfold rfM;by_cases e2:i<k∧tch x.q v i=true
  ·rw[if_pos e2,if_pos ⟨by omega,e2.2⟩]
  ·rw[if_neg e2,if_neg fun e3=>e2 ⟨by omega,e3.2⟩]
theorem f0X {x:Rp} {v:Int} {G:Nat→Mx} {k:Nat} (h:tch x.q v k=false):rfM x v G (k+1)=rfM x v G k:=by
 funext i
 unfold rfM;by_cases e2:i<k∧tch x.q v i=true
 ·rw[if_pos e2,if_pos ⟨by omega,e2.2⟩]
 ·rw[if_neg e2,if_neg fun e3=>e2 ⟨Nat.lt_of_le_of_ne (by omega) (by rintro rfl;rw[h]at e3;exact absurd e3.2 (by decide)),e3.2⟩]
theorem q2_ {l:List Int} {q:Qv} {v:Int} (h:endV l q v=true):v ∉ l∧0≤v∧v≤q.v-1:=by
 simp only[endV,l9_,t0_,Bool.not_eq_true',decide_eq_false_iff_not]at h;exact⟨h.2,h.1⟩
theorem L5_ {x:Rp} {v:Int} {k nf nt yf yt:Nat} (ef:x.q.f[k]?=some (nf:Int)) (et:x.q.t[k]?=some (nt:Int)) (df:x.d[nf]?=some (yf:Int)) (dt:x.d[nt]?=some (yt:Int)) :
  ((nt:Int)=v→othN x v k=yf)∧((nf:Int)=v→othN x v k=yt):=by
 constructor
 ·rintro rfl;rw[othN,l1_,ef,l1_,et];simp only[Option.getD_some];rw[show (nf:Int)+nt-nt=nf by omega,dAt,l5_,l1_,df];simp
 ·rintro rfl;rw[othN,l1_,ef,l1_,et];simp only[Option.getD_some];rw[show (nf:Int)+nt-nf=nt by omega,dAt,l5_,l1_,dt];simp
theorem U8_ {x:Rp} {v:Int} {C:Nat} (hx:f1_ x=true) (hv:endV x.q.f x.q v=true):∀ k,k≤x.q.f.length→atN x v k=(inS x v C k).1
 | 0,_=>rfl
 | k+1,hk=>by
  have ih:=U8_ (C:=C) hx hv k (by omega);obtain⟨m,nf,nt,yf,yt,em,ef,et,df,dt,eM,_⟩:=g9_ hx (show k<x.q.f.length by omega);have hnf:(nf:Int)≠v:=fun e=>(q2_ hv).1 (e ▸ l4_ ef)
  obtain⟨o1,o2⟩:=L5_ (v:=v) ef et df dt;rw[atN,p8_ ef et];by_cases h:(nt:Int)=v
  ·rw[if_pos (by simp[h]),o1 h];rw[h]at et;rw[E0_ et em (yf:=yf) (by rw[eM];rfl),ih]
  ·rw[if_neg (by simp[h,hnf]),N6_ et h,ih]
theorem E6_ {x:Rp} {v:Int} {C:Nat} (hx:f1_ x=true) (hv:endV x.q.t x.q v=true):∀ k,k≤x.q.f.length→atN x v k=(outS x v C k).1
 | 0,_=>rfl
 | k+1,hk=>by
  have ih:=E6_ (C:=C) hx hv k (by omega);obtain⟨m,nf,nt,yf,yt,em,ef,et,df,dt,eM,_⟩:=g9_ hx (show k<x.q.f.length by omega);have hnt:(nt:Int)≠v:=fun e=>(q2_ hv).1 (e ▸ l4_ et)
  obtain⟨o1,o2⟩:=L5_ (v:=v) ef et df dt;rw[atN,p8_ ef et];by_cases h:(nf:Int)=v
  ·rw[if_pos (by simp[h]),o2 h];rw[h]at ef;rw[y6_ ef em (yt:=yt) (by rw[eM];rfl),ih]
  ·rw[if_neg (by simp[h,hnt]),D0_ ef h,ih]
theorem a3X {x:Rp} {v:Int}:∀ m k,atN x v k≤atN x v (k+m)
 | 0,_=>l_ _
 | m+1,k=>by
  have:=a3X (x:=x) (v:=v) m k;rw[←Nat.add_assoc,atN];split <;> omega
theorem A4_ {x:Rp} {v:Int} {k n:Nat} (h:tch x.q v k=true) (hk:k<n):atN x v k+othN x v k≤atN x v n:=by
 have h1:atN x v (k+1)=atN x v k+othN x v k:=by rw[atN,if_pos h]
 obtain⟨m,rfl⟩:=Nat.exists_eq_add_of_lt hk;have:=a3X (x:=x) (v:=v) m (k+1);rw[h1]at this;rwa[show k+m+1=k+1+m by omega]
def s0_ (x:Rp) (v:Int) (K:Nat) (F:Nat→Nat→Int) (i:Nat):Mx:=mxF (othN x v i) K fun a b=>F b (atN x v i+a)
def gSrc (x:Rp) (v:Int) (K:Nat) (F:Nat→Nat→Int) (i:Nat):Mx:=mxF K (othN x v i) fun b a=>F b (atN x v i+a)
theorem N3_ (r c k:Nat) (f:Nat→Nat→Int):(b5_ r c f).drop k=b5_ (r-k) c fun a b=>f (k+a) b:=by
 apply List.ext_getElem?
 intro i;rw[List.getElem?_drop];by_cases h:k+i<r
 ·rw[g2_ _ h,g2_ _ (show i<r-k by omega)]
 ·rw[l6_ (by rw[a3_];omega),l6_ (by rw[a3_];omega)]
theorem O7_ (r c k:Nat) (f:Nat→Nat→Int) (hk:k≤r):(b5_ r c f).take k=b5_ k c f:=by
 apply List.ext_getElem?
 intro i;rw[List.getElem?_take];by_cases h:i<k
 ·rw[if_pos h,g2_ _ h,g2_ _ (by omega)]
 ·rw[if_neg h,l6_ (by rw[a3_];omega)]
theorem SlG.cut {α:Type} {R:World→Nat→Nat→Nat→α→Prop} {w:World} {B c:Nat} {A:Option Addr} {xs:List α} {i k:Nat} (h:SlG 1 R w B (.slice A xs.length c) xs) (hik:i≤k) (hk:k≤xs.length) :
  ∃ A',(if c=i then A else A.map (·.add (i*1)))=A'∧SlG 1 R w B (.slice A' (k-i) (c-i)) ((xs.drop i).take (k-i)):=by
 obtain⟨A2,c2,e,h1,h2,h3,h4⟩:=h;injection e with e1 e2 e3
 subst e1 e3;refine⟨_,rfl,?_⟩;have hl:((xs.drop i).take (k-i)).length=k-i:=by simp;omega
 refine⟨_,c-i,by rw[hl],by rw[hl];omega,by omega,by rw[hl];omega,fun hp=>?_⟩;rw[hl]at hp;obtain⟨b,o,rfl,hb,hc⟩:=h4 (by omega);rw[if_neg (by omega)];refine⟨b,o+i,?_,hb,fun j x hx=>?_⟩
 ·have e:(⟨b,o,none⟩:Addr).add i=⟨b,o+i,none⟩:=by unfold Addr.add;split <;> simp_all
  simp[e]
 ·rw[List.getElem?_take]at hx;split at hx
  ·rw[List.getElem?_drop]at hx;have:=hc (i+j) x hx;rwa[show o+(i+j)*1=o+i+j*1 by omega]at this
  ·cases hx
theorem SlG.takeG {α:Type} {R:World→Nat→Nat→Nat→α→Prop} {w:World} {B c k:Nat} {A:Option Addr} {xs:List α} (h:SlG 1 R w B (.slice A xs.length c) xs) (hk:k≤xs.length):SlG 1 R w B (.slice A k c) (xs.take k):=by
 obtain⟨A2,c2,e,h1,h2,h3,h4⟩:=h;injection e with e1 e2 e3
 subst e1 e3;have hl:(xs.take k).length=k:=by simp;omega
 refine⟨_,c,by rw[hl],by rw[hl];omega,h2,by rw[hl];omega,fun hp=>?_⟩;rw[hl]at hp;obtain⟨b,o,rfl,hb,hc⟩:=h4 (by omega);refine⟨b,o,rfl,hb,fun j x hx=>?_⟩;rw[List.getElem?_take]at hx;split at hx
 ·exact hc j x hx
 ·cases hx
theorem RepO.setQ {w:World} {lo hi lo' hi':Nat} {p v v':Int} {f t d m f' t':Value} {x:Rp} {q:Qv} (h:RepO w lo hi (.agg #[.int .i64 p,.int .i64 v,f,t,d,m]) x) (hq:d5_ w lo' hi' (.agg #[.int .i64 v',f',t']) q) (h1:hi'≤lo) (h2:lo'≤lo) (h3:lo≤hi) :
  RepO w lo' hi (.agg #[.int .i64 p,.int .i64 v',f',t',d,m]) ⟨x.p,q,x.d,x.m⟩:=by
 obtain⟨f1,t1,d1,m1,vs,e,hO,hvl,hF,hi1,hi2⟩:=h;simp only[Value.agg.injEq,Array.mk.injEq,List.cons.injEq,and_true,Value.int.injEq,true_and]at e;obtain⟨e1,e2,rfl,rfl,rfl,rfl⟩:=e;obtain⟨a,b,e,hF2,hr⟩:=hq;simp only[Value.agg.injEq,Array.mk.injEq,List.cons.injEq,and_true,Value.int.injEq,true_and]at e;obtain⟨e3,rfl,rfl⟩:=e;have hL2:Fam w lo hi ((d,x.d) :: vs.zip (x.m.map Mx.a)):=⟨fun p hp=>hF.1 p (by simp only[List.cons_append,List.nil_append,List.mem_cons]at hp⊢;rcases hp with hp | hp <;> simp[hp]),by
  have:=hF.2;simp only[List.cons_append,List.nil_append,List.pairwise_cons]at this;rw[List.pairwise_cons];exact⟨this.2.2.1,this.2.2.2⟩⟩
 refine⟨f',t',d,m,vs,by rw[e1,e3],hO.mono h2 (l_ _),hvl,?_,⟨hi1.1,hr⟩,hi2⟩;refine⟨fun p hp=>?_,?_⟩
 ·simp only[List.cons_append,List.nil_append,List.mem_cons]at hp;rcases hp with rfl | rfl | hp
  ·exact (hF2.1 (f',q.f) (by simp)).wider (l_ _) (by omega)
  ·exact (hF2.1 (t',q.t) (by simp)).wider (l_ _) (by omega)
  ·exact (hL2.1 p (by rw[List.mem_cons];exact hp)).wider h2 (l_ _)
 ·have hc:∀ a∈[(f',q.f),(t',q.t)],∀ b∈(d,x.d) :: vs.zip (x.m.map Mx.a),a.1.ownBlock=none∨a.1.ownBlock≠b.1.ownBlock:=fun a ha b hb=>by
   have g1:=hF2.1 a ha;have g2:=hL2.1 b hb;rcases hA:a.1.ownBlock with _ | y
   ·exact .inl rfl
   ·refine .inr fun e=>?_
    have:=g1.2 y hA;have:=(g2.1.lt y e.symm).1;omega
  have:=List.pairwise_append.2 ⟨hF2.2,hL2.2,hc⟩;simpa using this
theorem f6j (r:Int) (d L i cap:Nat) (A:Option Addr) (w:World) (hd:d=0) (hL:L=0) (hb:cap≤9223372036854775807) (hi:i≤1000) :
  Calls Tryz.prog 77 #[.agg #[.int .i64 r,.int .i64 d,.slice A L cap],.int .i64 i] w fun e w'=>∃ A',e = .returned (.slice A' 0 cap)∧Below w.heap.size w w':=by
 subst hd hL;exact R8_ r i cap A w hb hi
theorem z6_ (p k:Int) (va vb:Value) (B:Option Addr) (d c:Nat) (w:World) (hd:d=0) (hv:∃ A n m,va = .slice A n m) (hvb:vb = .slice B d c) (hc:c≤9223372036854775807) :
  Calls Tryz.prog 115 #[.int .i64 p,va,.int .i64 k,vb] w fun e w'=>e = .returned va∧w'=w:=by
 subst hd hvb;exact w4_ p k va B c w hv hc
theorem c0q {p:Int} {r c:Nat} {f:Nat→Nat→Int} (hp:2≤p∧p≤5) (h:InF p r c f) {a b:Nat} (ha:a<r) (hb:b<c):0≤f a b∧f a b≤4:=by
 have:=h a b ha hb;omega
theorem W4_ (p:Int) (u v:Value) (r c d:Nat) (f g:Nat→Nat→Int) (w0:World) (hp:2≤p∧p≤5) (hr:r≤1000) (hc:c≤1000) (hd:d≤1000) (hu:MxR w0 w0.heap.size u (mxF r c f)) (hv:MxR w0 w0.heap.size v (mxF c d g)) (hf:InF p r c f) (hg:InF p c d g) :
  Calls Tryz.prog 140 #[.int .i64 p,u,v] w0 fun e w'=>∃ m,e = .returned m∧MxO w' w0.heap.size w'.heap.size m (mxF r d (muP p c f g))∧Below w0.heap.size w0 w':=by
 have hu':=hu;have hv':=hv;obtain⟨U,uc,rfl⟩:=hu.form;obtain⟨V,vc,rfl⟩:=hv.form;simp only[mxF,a0_]at hu hu' hv hv'⊢;obtain⟨UL,hUL⟩:=e_ (r*c);obtain⟨VL,hVL⟩:=e_ (c*d);rw[hUL]at hu hu'⊢;rw[hVL]at hv hv'⊢;have HUL:=h_ hUL;have HVL:=h_ hVL;clear hu hv hUL hVL;obtain⟨W,hW⟩:∃ W,W=((w0.alloc (.cells #[.int .i64 r,.int .i64 c,.slice U UL uc] 41)).alloc (.cells #[.int .i64 c,.int .i64 d,.slice V VL vc] 41)).alloc (.cells #[.int .i64 0,.int .i64 0,.slice none 0 0] 41):=⟨_,rfl⟩;have g0:Below w0.heap.size w0 W:=by rw[hW];exact (((Below.refl _ _).alloc (l_ _) _).alloc (by simp) _).alloc (by simp;omega) _
 have k1:Blk W w0.heap.size 41 #[.int .i64 r,.int .i64 c,.slice U UL uc]:=by rw[hW];exact ((Blk.new _ _ _).alloc _).alloc _
 have k2:Blk W (w0.heap.size+1) 41 #[.int .i64 c,.int .i64 d,.slice V VL vc]:=by
  rw[hW];have:=(Blk.new (w0.alloc (.cells #[.int .i64 r,.int .i64 c,.slice U UL uc] 41)) 41 #[.int .i64 c,.int .i64 d,.slice V VL vc]).alloc (.cells #[.int .i64 0,.int .i64 0,.slice none 0 0] 41);simpa only[l3_] using this
 have k3:Blk W (w0.heap.size+1+1) 41 #[.int .i64 0,.int .i64 0,.slice none 0 0]:=by
  rw[hW];have:=Blk.new ((w0.alloc (.cells #[.int .i64 r,.int .i64 c,.slice U UL uc] 41)).alloc (.cells #[.int .i64 c,.int .i64 d,.slice V VL vc] 41)) 41 #[.int .i64 0,.int .i64 0,.slice none 0 0];simpa only[l3_] using this
 have sz:W.heap.size=w0.heap.size+1+1+1:=by rw[hW];simp
 have SZ:=h_ sz;have HU:=h_ hu';have HV:=h_ hv';have HF:=h_ hf;have HG:=h_ hg;obtain⟨a0,a1,a2⟩:=c_3 k1;obtain⟨b0,b1,b2⟩:=c_3 k2;clear hu' hv' hf hg sz;go_enter Tryz.func140,Tryz.ntmps140
 go_wp2_with fail
 rw[←hW];clear hW;refine (v9_ r d _ (by omega) (by omega) (by omega) (by omega)).mono ?_;rintro e w1 ⟨v1,rfl,hZ,hb1⟩;rw[m6_]at hZ;obtain⟨A,cap,e1⟩:=hZ.form;subst e1;simp only[mxF,a0_]at hZ⊢;obtain⟨sA,esA,oZ,hr1,hr2⟩:=hZ;simp only[Value.agg.injEq,Array.mk.injEq,List.cons.injEq,and_true,true_and]at esA;subst esA;obtain⟨L,hL⟩:=e_ (r*d);rw[hL]at oZ⊢;have HL:=h_ hL;clear hL;have s1:=hb1.size;obtain⟨w2,hw2⟩:∃ u,u=w1.alloc (.cells #[.int .i64 r,.int .i64 d,.slice A L cap] 41):=⟨_,rfl⟩;have b2':Below w1.heap.size w1 w2:=by rw[hw2];exact a2_ _ _
 have k4:Blk w2 w1.heap.size 41 #[.int .i64 r,.int .i64 d,.slice A L cap]:=by rw[hw2];exact Blk.new _ _ _
 have oZ2:=oZ.below b2';rw[f6Q p c r d f g]at oZ2;have s2:=b2'.size;have l4:=k4.lt;have gW2:=a6_ hb1 b2';have K1:=h_ k1;have K2:=h_ k2;have K3:=h_ k3;have G0:=h_ g0;have hWs:=SZ.out;clear a0 a1 a2 b0 b1 b2 oZ b2' hb1 k1 k2 k3 g0;have k1:=(K1.out).below gW2 (by omega);have a0:=k1.cell' (i:=0) rfl;rw[hw2]at a0;go_wp2;rw[←hw2];clear hw2 a0 k1;go_loopw [18] (fun i wr=>∃ i':Nat,i'≤r∧i = .int .i64 i'∧Blk wr w1.heap.size 41 #[.int .i64 r,.int .i64 d,.slice A L cap]∧a9_ wr W.heap.size w1.heap.size (.slice A L cap) (flat r d (muS p c i' 0 f g))∧Below W.heap.size W wr) (fun i _=>r-(intOf i).toNat)
 case atStart=>exact⟨0,l0_ _,rfl,k4,oZ2,gW2⟩
 case round =>
  clear k4 oZ2 gW2;obtain⟨i,hi,rfl,k4,oA,gW⟩:=hrel;have sW:=gW.size;by_cases hlr:i<r
  ·have k1:=K1.out.below gW (by omega);have k2:=K2.out.below gW (by omega);obtain⟨a0,a1,a2⟩:=c_3 k1;obtain⟨b0,b1,b2⟩:=c_3 k2;have gw:=G0.out.trans (gW.mono (by omega));have hUr:MxR wr w0.heap.size (.agg #[.int .i64 r,.int .i64 c,.slice U UL uc]) (mxF r c f):=MxR.below gw HU.out;have HUR:=h_ hUr;clear hUr;go_wp2_with fail
   refine (b5J _ r c i w0.heap.size f _ HUR.out gw.size hr hc hlr).mono ?_;rintro e w3 ⟨vr,rfl,hR,hb3⟩;obtain⟨RA,rc,ev,hrc1,hrc2,_,hR⟩:=hR.open_;subst ev;rw[a1_]at hR⊢;have s3:=hb3.size;have HR3:=h_ hR;have k43:=k4.call hb3;have oA3:=oA.below hb3;have gW3:=gW.trans (hb3.mono sW);clear a0 a1 a2 b0 b1 b2 k1 k2 hR k4 oA gW gw hb3;go_wp2;go_loopw [25] (fun k wr=>∃ k':Nat,k'≤c∧k = .int .i64 k'∧Blk wr w1.heap.size 41 #[.int .i64 r,.int .i64 d,.slice A L cap]∧a9_ wr W.heap.size w1.heap.size (.slice A L cap) (flat r d (muS p c i k' f g))∧Below W.heap.size W wr∧SlI wr w0.heap.size (.slice RA c rc) (rowF c (f i))) (fun k _=>c-(intOf k).toNat)
   case atStart=>exact⟨0,l0_ _,rfl,k43,oA3,gW3,HR3.out⟩
   case round =>
    clear k43 oA3 gW3;obtain⟨k,hk,rfl,k4,oA,gW,hR⟩:=hrel;have sW':=gW.size;by_cases hlc:k<c
    ·have hR2:SlI wr w0.heap.size (.slice RA (rowF c (f i)).length rc) (rowF c (f i)):=by rw[a1_];exact hR
     obtain⟨b,o,x,rfl,hbl,HXX,x1,_⟩:=SlI.at_ (k:=k) hR2 (by rw[a1_];exact hlc);have hxx:=HXX.out;rw[d1_ _ hlc]at hxx;injection hxx with hxx
     subst hxx;have hfx:=c0q hp HF.out hlr hlc;obtain⟨xk,hx⟩:=e_ (f i k);rw[hx]at x1 hfx;have HX:=h_ hx;have HRR:=h_ hR;have hOA:=h_ oA;have hK4:=h_ k4;have hGW:=h_ gW;clear hx hR hR2 HXX oA k4 gW;go_wp2;clear x1;rcases Nat.eq_zero_or_pos d with hd0 | hd0
     ·have hL0:L=0:=by have:=HL.out;rw[hd0,Nat.mul_zero]at this;exact this.symm
      have e0:∀ h,flat r d h=[]:=fun h=>by simp[flat,hd0]
      have E0:=h_ e0;have HD0:=h_ hd0;have HL0:=h_ hL0;have hcap:cap≤9223372036854775807:=by
       obtain⟨_,cL,eL,lA1,lA2⟩:=(hOA.out).1.form;injection eL with eLx eLy eL3
       omega
      clear hd0 hL0 e0;refine a8_ (by kernel_rfl) [.eq (.int .i64 p),.eq (.agg #[.int .i64 r,.int .i64 d,.slice A L cap]),.eq (.int .i64 i),rel 3 (fun u lo hi w=>∃ A n m,u = .slice A n m),.eq (.int .i64 xk),.eq (.agg #[.int .i64 c,.int .i64 d,.slice V VL vc]),.eq (.int .i64 k),rel 7 (fun u lo hi w=>∃ A m,m≤9223372036854775807∧u = .slice A d m)] [[],[],[],[1,2],[],[],[],[1,2,3,5,6],[0,1,2,3,4,5,6,7]] 8 (by kernel_rfl) ⟨trivial,trivial,trivial,a4_ (fun u lo hi w w' h hb=>h),trivial,trivial,trivial,a4_ (fun u lo hi w w' h hb=>h),trivial⟩ ⟨?_,?_,?_,?_,?_,?_,?_,?_,trivial⟩ ?_;iterate 8 (intro x w hb hk Q' hQ;have he:=k_e hk;simp only[k_s]at he;simp only[netE]at hQ⊢;(try simp only[he]at hQ⊢);(try clear he);rotate_left)
      rotate_left
      ·clear hk;go_wp2;exact hQ _ _ br_ rfl
      ·clear hk;have kq:=hK4.out.call hb;obtain⟨z0,z1,z2⟩:=c_3 kq;go_wp2;exact hQ _ _ br_ rfl
      ·clear hk;go_wp2;exact hQ _ _ br_ rfl
      ·clear hk;go_wp2_with fail
       refine (f6j (r:Int) d L i cap A _ HD0.out HL0.out hcap (by omega)).mono ?_;rintro e w5 ⟨A5,rfl,hb5⟩;go_wp2;exact hQ _ _ hb5 ⟨_,_,_,rfl⟩
      ·clear hk;go_wp2;exact hQ _ _ br_ rfl
      ·clear hk;have kq:=(K2.out.below hGW.out (by omega)).call hb;obtain⟨z0,z1,z2⟩:=c_3 kq;go_wp2;exact hQ _ _ br_ rfl
      ·clear hk;go_wp2;exact hQ _ _ br_ rfl
      ·have h3:∃ A n m,(x.v 3) = .slice A n m:=(hk 3 (by decide)).1;have s3:=(hk 3 (by decide)).2;clear hk;have gz:=(G0.out.trans (hGW.out.mono (by omega))).trans (hb.mono (by omega));have HVR:=h_ (MxR.below gz HV.out);have gzs:=gz.size;clear gz;go_wp2_with fail
       refine (b5J _ c d k w0.heap.size g _ HVR.out gzs hc hd hlc).mono ?_;rintro e w5 ⟨v5,rfl,hR5,hb5⟩;obtain⟨A5,c5,e5,_,hc5,_⟩:=hR5.open_;subst e5;rw[a1_];go_wp2;exact hQ _ _ hb5 ⟨_,_,hc5,rfl⟩
      ·intro x w hb hk hiv hdj;have h3:∃ A n m,(x.v 3) = .slice A n m:=hk 3 (by decide);have h7:∃ A m,m≤9223372036854775807∧(x.v 7) = .slice A d m:=hk 7 (by decide);have he:=k_g hk [0,1,2,4,5,6];simp only[k_s]at he;simp only[netE,he];clear he hk;obtain⟨A3,n3,m3,e3⟩:=h3;obtain⟨A7,m7,hm7,e7⟩:=h7;have HB:=h_ hb;have HGW2:=h_ ((hGW.out).trans (hb.mono (by omega)));have hR6:=SlI.below (hb.mono (by omega)) HRR.out;have hA2:=(hOA.out).below hb;have k46:=(hK4.out).call hb;rw[E0.out]at hA2;have HA2:=h_ (show a9_ w W.heap.size w1.heap.size (.slice A L cap) (flat r d (muS p c i (k+1) f g)) by rw[E0.out];exact hA2);have E3:=h_ e3;have E7:=h_ e7;clear hb hiv hdj hA2 e3 e7;go_wp2_with fail
       refine (z6_ p xk _ _ A7 d m7 _ HD0.out ⟨_,_,_,E3.out⟩ E7.out hm7).mono ?_;rintro e w6 ⟨rfl,hww⟩;replace hww:=hww.symm;subst hww;go_wp2;go_roundw
       ·exact⟨k+1,by omega,by simp,k46,HA2.out,HGW2.out,hR6⟩
       ·show c-(k+1)<c-k;omega
     ·obtain⟨P,hP⟩:∃ P,P=i*d:=⟨_,rfl⟩;have hrp:=rowP hlr hd0 hr hd hP;rw[HL.out]at hrp;obtain⟨gA,cA,eA,q1,q2,q3⟩:=(hOA.out).at_ (by rw[a0_,HL.out];omega);rw[a0_,HL.out]at eA;injection eA with eA1 eA2 eA3
      subst eA1 eA3;obtain⟨_,cL,eL,lA1,lA2⟩:=(hOA.out).1.form;injection eL with eLx eLy eL3
      rw[←eL3,a0_,HL.out]at lA1;rw[←eL3]at lA2;clear eLx eLy eL3;have q5:flat r d (muS p c i k f g)=rowF L (fun a=>muS p c i k f g (a / d) (a % d)):=by rw[←HL.out];rfl
      have HP:=h_ hP;clear hP;refine a8_ (by kernel_rfl) [.eq (.int .i64 p),.eq (.agg #[.int .i64 r,.int .i64 d,.slice (some ⟨gA,0,none⟩) L cap]),.eq (.int .i64 i),.eq (.slice (some ⟨gA,P,none⟩) d (cap-P)),.eq (.int .i64 xk),.eq (.agg #[.int .i64 c,.int .i64 d,.slice V VL vc]),.eq (.int .i64 k),rel 7 (fun u lo hi w=>w0.heap.size≤w.heap.size∧SlI w w0.heap.size u (rowF d (g k)))] [[],[],[],[1,2],[],[],[],[1,2,3,5,6],[0,1,2,3,4,5,6,7]] 8 (by kernel_rfl) ⟨trivial,trivial,trivial,trivial,trivial,trivial,trivial,a4_ (fun u lo hi w w' ⟨h1,h2⟩ hb=>⟨Nat.le_trans h1 hb.size,SlI.below (hb.mono h1) h2⟩),trivial⟩ ⟨?_,?_,?_,?_,?_,?_,?_,?_,trivial⟩ ?_;iterate 8 (intro x w hb hk Q' hQ;have he:=k_e hk;simp only[k_s]at he;simp only[netE]at hQ⊢;(try simp only[he]at hQ⊢);(try clear he);rotate_left)
      rotate_left
      ·clear hk;go_wp2;exact hQ _ _ br_ rfl
      ·clear hk;have kq:=hK4.out.call hb;obtain⟨z0,z1,z2⟩:=c_3 kq;go_wp2;exact hQ _ _ br_ rfl
      ·clear hk;go_wp2;exact hQ _ _ br_ rfl
      ·clear hk;go_wp2_with fail
       refine (K4_ (g:=gA) _ hlr hd0 hr hd HL.out.symm lA1 lA2 HP.out).mono ?_;rintro e w5 ⟨rfl,hb5⟩;go_wp2;exact hQ _ _ hb5 rfl
      ·clear hk;go_wp2;exact hQ _ _ br_ rfl
      ·clear hk;have kq:=(K2.out.below hGW.out (by omega)).call hb;obtain⟨z0,z1,z2⟩:=c_3 kq;go_wp2;exact hQ _ _ br_ rfl
      ·clear hk;go_wp2;exact hQ _ _ br_ rfl
      ·clear hk;have gz:=(G0.out.trans (hGW.out.mono (by omega))).trans (hb.mono (by omega));have HVR:=h_ (MxR.below gz HV.out);have gzs:=gz.size;clear gz;go_wp2_with fail
       refine (b5J _ c d k w0.heap.size g _ HVR.out gzs hc hd hlc).mono ?_;rintro e w5 ⟨v5,rfl,hR5,hb5⟩;have h6:=hb5.size;go_wp2;exact hQ _ _ hb5 ⟨by omega,hR5⟩
      ·intro x w hb hk hiv hdj;have h7:w0.heap.size≤w.heap.size∧SlI w w0.heap.size (x.v 7) (rowF d (g k)):=hk 7 (by decide);have he:=k_g hk [0,1,2,3,4,5,6];simp only[k_s]at he;simp only[netE,he];clear he hk;obtain⟨h71,h72⟩:=h7;have HB:=h_ hb;have HGW2:=h_ ((hGW.out).trans (hb.mono (by omega)));have hbs:=hb.size;have hA':=hOA.out;rw[q5]at hA';have hA2:=hA'.below hb;have hPd:P+d≤L:=by rw[←HL.out];exact (rowP hlr hd0 hr hd HP.out).2.1
       have hrng:∀ a,a<L→0≤muS p c i k f g (a / d) (a % d)∧muS p c i k f g (a / d) (a % d)≤4:=fun a _=>by
        have:=d6z (p:=p) hp.1 c i k f g (a / d) (a % d);omega
       have hrg:∀ b,b<d→0≤g k b∧g k b≤4:=fun b hb=>c0q hp HG.out hlc hb
       have HRNG:=h_ hrng;have HRG:=h_ hrg;have HK6:=h_ ((hK4.out).call hb);clear hA' hb hiv hdj hrng hrg;go_wp2_with fail
       refine (o0_ p xk gA P d L cap (cap-P) W.heap.size w1.heap.size (fun a=>muS p c i k f g (a / d) (a % d)) (g k) _ _ hp (by omega) hA2 ⟨q1,q2⟩ hPd (by omega) ⟨by omega,by omega⟩ (by omega) (SlI.up (by omega) h72) HRNG.out HRG.out).mono ?_;rintro e w6 ⟨rfl,hO5,hc5,hs5⟩;rw[←HX.out,HP.out,←HL.out,d9q,HL.out]at hO5;have hO5':=hO5;have k46:=(HK6.out).chg hc5 (.inr (l_ _));have gW6:=(HGW2.out).trans (hc5.below (l_ _) (by omega));have hR6:=SlI.below (((HB.out).mono (by omega)).trans (hc5.below (by omega) (by omega))) HRR.out;clear hO5;go_wp2;go_roundw
       ·exact⟨k+1,by omega,by simp,k46,hO5',gW6,hR6⟩
       ·show c-(k+1)<c-k;omega
    ·have hk':k=c:=by omega
     subst hk';rw[c4q]at oA;go_wp2;go_roundw
     ·exact⟨i+1,by omega,by simp,k4,oA,gW⟩
     ·show r-(i+1)<r-i;omega
  ·have hi':i=r:=by omega
   subst hi';rw[d4X]at oA;have k3':=(K3.out).below gW (by have:=SZ.out;omega);have hlt:=k4.lt;obtain⟨z0,z1,z2⟩:=c_3 k4;obtain⟨p0,p1,p2⟩:=c_3 k3';have f2:=k3'.frozen;have h2:=chg3 wr (w0.heap.size+1+1) (.int .i64 (i:Int)) (.int .i64 d) (.slice A L cap);have gw:Below w0.heap.size w0 wr:=(G0.out).trans (gW.mono (G0.out).size);have gs:=gw.size;have oA2:=(oA.chg h2 (.inr (by have:=SZ.out;omega))).wider (lo':=w0.heap.size) (hi':=wr.heap.size) (by have:=SZ.out;omega) (by omega);have fg:=gw.trans (h2.below (by omega) gs);have OA2:=h_ oA2;have FG:=h_ fg;clear oA oA2 fg gw h2 k3' k4 gW;go_wp2;exact bodyPost_ret (v:=.agg #[.int .i64 (i:Int),.int .i64 d,.slice A L cap]) (by simp[results,go_sem,p0,p1,p2]) rfl ⟨_,rfl,⟨_,rfl,(OA2.out).wider (l_ _) (by simp),hr1,hr2⟩,FG.out⟩
theorem SlM.atF {w:World} {B c n k R C:Nat} {A:Option Addr} {ms:List Mx} {f:Nat→Nat→Int} (h:SlM w B (.slice A n c) ms) (hn:ms.length=n) (hm:ms[k]?=some (mxF R C f)) :
  ∃ b o A' L c',A=some ⟨b,o,none⟩∧b<B∧w.cell? ⟨b,o+k*3,none⟩=some (.int .i64 R)∧w.cell? ⟨b,o+k*3+1,none⟩=some (.int .i64 C)∧w.cell? ⟨b,o+k*3+2,none⟩=some (.slice A' L c')∧MxR w B (.agg #[.int .i64 R,.int .i64 C,.slice A' L c']) (mxF R C f):=by
 subst hn;obtain⟨b,o,m,A',c',h1,h2,HX,h4,h5,h6,h7,h8,h9,_⟩:=SlM.at_ h (b0_ hm);have:=HX.out;rw[hm]at this;injection this with this
 subst this;exact⟨b,o,A',_,c',h1,h2,h4,h5,h6,_,rfl,h7,h8,h9⟩
def mvL (X Y:Rp) (F:Nat→Nat→Nat→Int) (V:Nat):List Mx:=(List.range V).map fun v=>mxF (dmN Y.d v) (dmN X.d v) (F v)
theorem g1_ (X Y:Rp) (F:Nat→Nat→Nat→Int) (V:Nat):(mvL X Y F V).length=V:=by simp[mvL]
theorem A6_ (X Y:Rp) (F:Nat→Nat→Nat→Int) {V k:Nat} (h:k<V):(mvL X Y F V)[k]?=some (mxF (dmN Y.d k) (dmN X.d k) (F k)):=by simp[mvL,h]
theorem O8_ (u cv:Value) (ms:List Mx) (cs:List Int) (w0:World) (hu:SlM w0 w0.heap.size u ms) (hc:SlI w0 w0.heap.size cv cs) (hn:ms.length≤1000) (ht:totA ms≤cs.length) :
  Calls Tryz.prog 94 #[u,cv] w0 fun e w'=>∃ v,e = .returned v∧d3_ w' w0.heap.size w'.heap.size v (shL ms cs)∧Below w0.heap.size w0 w':=by
 obtain⟨A,c,rfl,_,_,_,hx⟩:=hu.open_;clear hu;obtain⟨CA,cc,rfl,hc1,hc2,hc3,hcx⟩:=hc.open_;have HX:=h_ hx;have HT:=h_ ht;obtain⟨n,hnl⟩:=e_ (ms.length);have HNL:=h_ hnl;rw[hnl]at hn⊢;have hst:∃ (L k0:Nat) (A':Option Addr) (c':Nat),(.slice CA cs.length cc:Value) = .slice A' L c'∧L+totA (ms.take 0)=cs.length∧SlI w0 w0.heap.size (.slice A' L c') (cs.drop (totA (ms.take 0)))∧k0=0:=⟨cs.length,0,CA,cc,rfl,by simp[totA,tot],by simpa [totA,tot] using hcx,rfl⟩;obtain⟨L0,_,A0,c0,e0,l0,s0,_⟩:=hst;have HL0:=h_ l0;have HS0:=h_ s0;rw[e0];clear hx ht hnl hc hcx hc1 hc2 hc3 e0 l0 s0;go_enter Tryz.func94,Tryz.ntmps94
 go_wp2;go_loopw [1,5,11] (fun cv out i wr=>∃ (k L c':Nat) (CB:Option Addr),k≤n∧i = .int .i64 k∧cv = .slice CB L c'∧Hid (L+totA (ms.take k)=cs.length)∧Hid (∀ w2,Below w0.heap.size w0 w2→SlI w2 w0.heap.size (.slice CB L c') (cs.drop (totA (ms.take k))))∧d3_ wr w0.heap.size wr.heap.size out (shL (ms.take k) cs)∧Below w0.heap.size w0 wr) (fun _ _ i _=>n-(intOf i).toNat)
 case atStart=>exact⟨0,L0,c0,A0,l0_ _,rfl,rfl,HL0.out,fun w2 hb=>SlI.below hb HS0.out,by simpa [shL] using d3_.nil _ _ _,Below.refl _ _⟩
 case round =>
  obtain⟨k,L,c',CB,hk,rfl,rfl,HL,HCB,hO,hbel⟩:=hrel;have hbs:=hbel.size;have hln:=N5_ (ms.take k) cs;rw[List.length_take,show min k ms.length=k by have:=HNL.out;omega]at hln;have HLN:=h_ hln;obtain⟨OA,oc,eo,_,_⟩:=hO.form2;rw[hln]at eo;subst eo;clear hln;by_cases hlt:k<n
  ·have hx:=HX.out;obtain⟨b,o,m,A',c'',rfl,hb,HX2,x1,x2,x3,hsl,i1,i2,_⟩:=SlM.at_ hx (by rw[HNL.out];exact hlt);have d1:=a7_ hbel hb x1;have d2:=a7_ hbel hb x2;have d3:=a7_ hbel hb x3;have e1:ms.take (k+1)=ms.take k ++ [m]:=by rw[c8_ HX2.out]
   have hle:totA (ms.take k)+m.a.length≤cs.length:=by
    have h1:ms=ms.take (k+1) ++ ms.drop (k+1):=(List.take_append_drop _ _).symm;have h2:=congrArg totA h1;rw[y9_,e1,y9_,I1_]at h2;have:=HT.out;omega
   obtain⟨S,hS⟩:=e_ (m.a.length);obtain⟨T,hT⟩:=e_ (totA (ms.take k));have hL:=HL.out;rw[hT]at hL;rw[hS,hT]at hle;rw[hS]at d3;have HSH:=h_ (show shL (ms.take (k+1)) cs=shL (ms.take k) cs ++ [⟨m.r,m.c,(cs.drop T).take S⟩] by rw[e1,Q1_,hS,hT]);have HTS:=h_ (show totA (ms.take (k+1))=T+S by rw[e1,y9_,I1_,hS,hT]);have HCT:=h_ (show ∀ w2,Below w0.heap.size w0 w2→SlI w2 w0.heap.size (.slice CB L c') (cs.drop T) by have:=HCB.out;rw[hT]at this;exact this);have hLc:L≤c'∧c'≤9223372036854775807:=by
    obtain⟨_,_,e,g1,g2,_⟩:=HCT.out wr hbel;injection e with _ e2 e3
    rw[e3];omega
   have HDL:=h_ (show (cs.drop T).length=L by rw[List.length_drop];omega);have hSL:S≤L:=by omega
   have hL44:L≤17592186044416:=by
    obtain⟨_,_,_,_,_,g3,_⟩:=(HCT.out wr hbel).open_;have:=HDL.out;omega
   obtain⟨W1,hW1,ga,kW⟩:=b_1 wr #[.int .i64 m.r,.int .i64 m.c,.slice A' S c''] 41;have z2:=kW.cell' (i:=2) rfl;have KW:=h_ kW;have HO:=h_ (hO.below ga);have HB:=h_ (hbel.trans (ga.mono hbs));have hsa:=ga.size;have hbs1:w0.heap.size≤W1.heap.size:=by omega
   have HI:=h_ (show I64 m.r∧I64 m.c from ⟨i1,i2⟩);clear hx hsl HX2 x1 x2 x3 hO hle hbel ga kW hS hT e1 i1 i2 HCB HL;go_wp2;clear hW1 d1 d2 d3 z2;refine a8_ (by kernel_rfl) [.eq (.slice OA k oc),.eq (.pointer (some ⟨wr.heap.size,0,none⟩)),.eq (.int .i64 m.r),.eq (.pointer (some ⟨wr.heap.size,1,none⟩)),.eq (.int .i64 m.c),.eq (.slice CB L c'),.eq (.int .i64 S),.eq (.slice CB S c'),rel 8 (fun u lo hi w=>a9_ w lo hi u ((cs.drop T).take S)),.rel (fun x w=>x.v 9 = .agg #[.int .i64 m.r,.int .i64 m.c,x.v 8]∧a9_ w (x.lo 8) (x.hi 8) (x.v 8) ((cs.drop T).take S)),.rel (fun x w=>∃ g s,x.v 10 = .slice (some ⟨g,0,none⟩) 1 1∧x.v 9 = .agg #[.int .i64 m.r,.int .i64 m.c,s]∧Blk w g 41 #[.int .i64 m.r,.int .i64 m.c,s])] [[],[],[1],[],[3],[],[],[5,6],[5,6,7],[1,2,3,4,5,6,7,8],[1,2,3,4,5,6,7,8,9],[0,1,2,3,4,5,6,7,8,9,10],[0,1,2,3,4,5,6,7,8,9,10,11]] 11 (by kernel_rfl) ⟨trivial,trivial,trivial,trivial,trivial,trivial,trivial,trivial,a4_ (fun u lo hi w w' h hb=>h.below hb),fun x w w' h hb=>⟨h.1,h.2.below hb⟩,fun x w w' ⟨g,s,e1,e2,h⟩ hb=>⟨g,s,e1,e2,h.call hb⟩,trivial⟩ ⟨?_,?_,?_,?_,?_,?_,?_,?_,?_,?_,?_,trivial⟩ ?_;iterate 11 (intro x w hb hk Q' hQ;have he:=k_e hk;simp only[k_s]at he;simp only[netE]at hQ⊢;(try simp only[he]at hQ⊢);(try clear he);rotate_left)
   rotate_left
   iterate 2 (· clear hk;go_wp2;exact hQ _ _ br_ rfl)
   ·clear hk;have z:=(KW.out.call hb).cell' (i:=0) rfl;go_wp2;exact hQ _ _ br_ rfl
   ·clear hk;go_wp2;exact hQ _ _ br_ rfl
   ·clear hk;have z:=(KW.out.call hb).cell' (i:=1) rfl;go_wp2;exact hQ _ _ br_ rfl
   iterate 3 (· clear hk;go_wp2;exact hQ _ _ br_ rfl)
   ·clear hk;have hcw:=HCT.out w (HB.out.trans (hb.mono hbs1));rw[←HDL.out]at hcw;have HCW:=h_ (SlI.more (show w0.heap.size≤w.heap.size by have:=hb.size;omega) (SlG.takeG (k:=S) hcw (by rw[HDL.out];exact hSL)));clear hcw;go_wp2_with fail
    refine (o9_ _ ((cs.drop T).take S) _ HCW.out).mono ?_;rintro e w6 ⟨v6,rfl,hR,hb6⟩;go_wp2;exact hQ _ _ hb6 hR
   ·have h8:a9_ w (x.lo 8) (x.hi 8) (x.v 8) ((cs.drop T).take S):=(hk 8 (by decide)).1;have s8:=(hk 8 (by decide)).2;clear hk;have hQ':=hQ (.agg #[.int .i64 m.r,.int .i64 m.c,x.v 8]) w br_ ⟨rfl,h8⟩;obtain⟨sA,sc,es⟩:=h8.form;obtain⟨sn,hsn⟩:=e_ (((cs.drop T).take S).length);rw[hsn]at es;rw[es]at hQ'⊢;clear hsn h8 es hQ;go_wp2;exact hQ'
   ·have h8:a9_ w (x.lo 8) (x.hi 8) (x.v 8) ((cs.drop T).take S):=(hk 8 (by decide)).1;have h9:x.v 9 = .agg #[.int .i64 m.r,.int .i64 m.c,x.v 8]∧a9_ w (x.lo 8) (x.hi 8) (x.v 8) ((cs.drop T).take S):=(hk 9 (by decide)).1;have s8:=(hk 8 (by decide)).2;have s9:=(hk 9 (by decide)).2;clear hk;obtain⟨e9,h9s⟩:=h9;obtain⟨sA,sc,es⟩:=h9s.form;obtain⟨sn,hsn⟩:=e_ (((cs.drop T).take S).length);rw[hsn]at es;rw[es]at e9;clear hsn h9s es;have hQ':=hQ (.slice (some ⟨w.heap.size,0,none⟩) 1 1) (w.alloc (.cells #[.int .i64 m.r,.int .i64 m.c,.slice sA sn sc] 41)) (a2_ _ _) ⟨_,_,rfl,e9,Blk.new _ _ _⟩;rw[e9]at hQ'⊢;go_wp2;exact hQ'
   ·intro x w hb hk hiv hdj;have h8:a9_ w (x.lo 8) (x.hi 8) (x.v 8) ((cs.drop T).take S):=hk 8 (by decide);have h9:x.v 9 = .agg #[.int .i64 m.r,.int .i64 m.c,x.v 8]∧a9_ w (x.lo 8) (x.hi 8) (x.v 8) ((cs.drop T).take S):=hk 9 (by decide);have h10:∃ g s,x.v 10 = .slice (some ⟨g,0,none⟩) 1 1∧x.v 9 = .agg #[.int .i64 m.r,.int .i64 m.c,s]∧Blk w g 41 #[.int .i64 m.r,.int .i64 m.c,s]:=hk 10 (by decide);have he:=k_g hk [0,1,2,3,4,5,6,7];simp only[k_s]at he;simp only[netE,he];clear he hk;obtain⟨g,s,ej,ei,hg⟩:=h10;have li:=(hiv 8 (by decide)).1;have hi_:=(hiv 8 (by decide)).2.2;obtain⟨e9,hs⟩:=h9;rw[e9]at ei;simp only[Value.agg.injEq,Array.mk.injEq,List.cons.injEq,and_true,true_and]at ei;rw[ei]at hs;rw[ej];have hbs2:=hb.size;have HOZ:=h_ (HO.out.below hb);have HKZ:=h_ hg;have HSZ:=h_ (hs.wider li hi_);have HBZ:=h_ (HB.out.trans (hb.mono hbs1));clear hiv hdj hs ej ei hg hb e9 h8;refine o7_ (by rfl) (.tmp 18) (.tmp 28) (by rfl) w0.heap.size wr.heap.size _ (shL (ms.take k) cs) (by rfl) HOZ.out g 1 W1.heap.size w.heap.size ⟨m.r,m.c,(cs.drop T).take S⟩ s (by rfl) HKZ.out HSZ.out HI.out hsa hbs (l_ _) (by omega) (by rw[HLN.out];omega) ?_;intro v' w' h1 h2;rw[←HSH.out]at h1;have H1:=h_ h1;have H2:=h_ (HBZ.out.trans (h2.below (l_ _) (by omega)));clear h1 h2;go_wp2;go_roundw
    case rel =>
     refine⟨k+1,L-S,c'-S,_,by omega,by go_num,rfl,by have:=HTS.out;show L-S+_=_;omega,fun w2 hb2=>?_,H1.out,H2.out⟩;have h2:=HCT.out w2 hb2;have hcl:=HDL.out;rw[←hcl]at h2;obtain⟨CB',eCB,h3⟩:=SlG.cut (i:=S) (k:=L) h2 hSL (Nat.le_of_eq hcl.symm);rw[l7_ (by rw[List.length_drop,hcl];exact l_ _),List.drop_drop,←HTS.out]at h3;rw[←eCB,Nat.mul_one]at h3;exact h3
    case measure=>simp[intOf];omega
  ·obtain rfl:k=n:=by omega
   have e0:ms.take k=ms:=l7_ (by have:=HNL.out;omega);rw[e0]at hO;have HO:=h_ hO;have HB:=h_ hbel;clear hO hbel e0;go_wp2;go_ret
   exact⟨_,rfl,HO.out,HB.out⟩
end Go.Proofs.YtnohdlkailpnoaaGreat

