/- FnBars: the law holds for every argument. Part 9 of 16 of the proof: RankT, RTab, Mul2, RTab2, Mul3, Red2, SVec, AVec, SMat, Rank2. No condition. -/
import Derived.Test.YtbgccbmdiolhbaaGreatBBars8
set_option linter.unusedVariables false
set_option linter.unusedSimpArgs false
set_option maxHeartbeats 12800000
set_option maxRecDepth 100000
namespace Go.Proofs.YtbgccbmdiolhbaaGreat
open Go.RowKit
theorem w4_ (a b:Nat→Int):∀ n,sgF (fun t=>a t+b t) n=sgF a n+sgF b n
 | 0=>rfl
 | n+1=>by simp only[sgF];rw[w4_ a b n];omega
theorem k5_ (s:Int) (a:Nat→Int):∀ n,sgF (fun t=>s*a t) n=s*sgF a n
 | 0=>by simp[sgF]
 | n+1=>by simp only[sgF];rw[k5_ s a n,Int.mul_add]
theorem a3_ {a b:Nat→Int}:∀ {n},(∀ t,t<n→a t=b t)→sgF a n=sgF b n
 | 0,_=>rfl
 | n+1,h=>by simp only[sgF];rw[a3_ fun t ht=>h t (by omega),h n (by omega)]
theorem sg_0:∀ n,sgF (fun _=>0) n=0
 | 0=>rfl
 | n+1=>by simp only[sgF];rw[sg_0 n];rfl
theorem n3_ {p:Int} {a:Nat→Int}:∀ {n},(∀ t,t<n→p∣a t)→p∣sgF a n
 | 0,_=>⟨0,by simp[sgF]⟩
 | n+1,h=>Int.dvd_add (n3_ fun t ht=>h t (by omega)) (h n (by omega))
theorem t7_ (a b:Nat→Int):∀ n,sgF (fun t=>a t-b t) n=sgF a n-sgF b n
 | 0=>rfl
 | n+1=>by simp only[sgF];rw[t7_ a b n];omega
theorem p0_ (h:Nat→Nat→Int) (m:Nat):∀ n,sgF (fun s=>sgF (fun t=>h s t) m) n=sgF (fun t=>sgF (fun s=>h s t) n) m
 | 0=>by simp only[sgF];rw[sg_0]
 | n+1=>by
  simp only[sgF];rw[p0_ h m n,←w4_]
theorem r6_ {h:Nat→Int} {b0:Nat}:∀ {n},b0<n→sgF (fun b=>if b=b0 then h b else 0) n=h b0
 | n+1,hb=>by
  simp only[sgF];by_cases e:n=b0
  ·rw[if_pos e,a3_ (b:=fun _=>0) fun t ht=>if_neg (by omega),sg_0,e];omega
  ·rw[if_neg e,r6_ (by omega)];omega
theorem n4_ (p a:Int):p∣a % p-a:=⟨-(a / p),by rw[Int.emod_def,Int.mul_neg];omega⟩
theorem i2_ {p a b:Int} (h:p∣a-b):p∣a↔p∣b:=by
 constructor
 ·intro k;have:=Int.dvd_sub k h;rwa[show a-(a-b)=b by omega]at this
 ·intro k;have:=Int.dvd_add h k;rwa[show a-b+b=a by omega]at this
theorem f8_ {p a b:Int} (x:Int) (h:p∣a-b):p∣a*x-b*x:=by
 rw[←Int.sub_mul];exact Int.dvd_mul_of_dvd_left h
theorem i3_ {p a b:Int} (x:Int) (h:p∣a-b):p∣x*a-x*b:=by
 rw[←Int.mul_sub];exact Int.dvd_mul_of_dvd_right h
theorem i4_ {p:Int} {a b:Nat→Int} {n:Nat} (h:∀ t,t<n→p∣a t-b t):p∣sgF a n-sgF b n:=by
 rw[←t7_];exact n3_ h
def Ker (p:Int) (r:Nat) (f:Nat→Nat→Int) (k:Nat) (x:Nat→Int):Prop:=∀ i,i<r→p∣sgF (fun t=>f i t*x t) k
theorem v7_ {p:Int} {r k:Nat} {f:Nat→Nat→Int} {x y:Nat→Int} (h:∀ t,t<k→p∣x t-y t):Ker p r f k x↔Ker p r f k y :=
 ⟨fun hx i hi=>(i2_ (i4_ fun t ht=>i3_ (f i t) (h t ht))).1 (hx i hi),fun hx i hi=>(i2_ (i4_ fun t ht=>i3_ (f i t) (h t ht))).2 (hx i hi)⟩
theorem g9J {p:Int} {r n t k:Nat} {f:Nat→Nat→Int} {x:Nat→Int} (hn:n<r) (ht:t<r):Ker p r (swA n t f) k x↔Ker p r f k x:=by
 constructor
 ·intro h i hi;by_cases e:i=t
  ·subst e;have:=h n hn;simpa only[swA,if_true] using this
  ·by_cases e2:i=n
   ·subst e2;have:=h t ht;simp only[swA]at this;by_cases e3:t=i
    ·exact absurd e3.symm e
    ·simpa only[if_neg e3,if_true] using this
   ·have:=h i hi;simpa only[swA,if_neg e,if_neg e2] using this
 ·intro h i hi;simp only[swA];by_cases e:i=n
  ·simp only[if_pos e];exact h t ht
  ·by_cases e2:i=t
   ·simp only[if_neg e,if_pos e2];exact h n hn
   ·simp only[if_neg e,if_neg e2];exact h i hi
theorem g9x {p s y:Int} {r n k:Nat} {f:Nat→Nat→Int} {x:Nat→Int} (hs:p∣s*y-1):Ker p r (scA p n s f) k x↔Ker p r f k x:=by
 have key:∀ i,(p∣sgF (fun t=>scA p n s f i t*x t) k)↔p∣sgF (fun t=>f i t*x t) k:=by
  intro i;by_cases e:i=n
  ·have h1:p∣sgF (fun t=>scA p n s f i t*x t) k-s*sgF (fun t=>f i t*x t) k:=by
    rw[←k5_];refine i4_ fun t _=>?_
    simp only[scA,if_pos e];rw[←Int.mul_assoc,Int.mul_comm s];exact f8_ _ (n4_ _ _)
   rw[i2_ h1];constructor
   ·intro h;obtain⟨c,hc⟩:=h;obtain⟨d,hd⟩:=hs;refine⟨c*y-d*sgF (fun t=>f i t*x t) k,?_⟩;rw[Int.mul_sub,←Int.mul_assoc,←hc,←Int.mul_assoc,←hd,Int.sub_mul,Int.one_mul];rw[show s*sgF (fun t=>f i t*x t) k*y=s*y*sgF (fun t=>f i t*x t) k by rw[Int.mul_right_comm]];omega
   ·exact fun h=>Int.dvd_mul_of_dvd_right h
  ·simp only[scA,if_neg e]
 exact⟨fun h i hi=>(key i).1 (h i hi),fun h i hi=>(key i).2 (h i hi)⟩
theorem g9j {p:Int} {r n k m:Nat} {f:Nat→Nat→Int} {x:Nat→Int} (hn:n<r):Ker p r (elA p n k f) m x↔Ker p r f m x:=by
 have key:∀ i,i≠n→p∣sgF (fun t=>elA p n k f i t*x t) m-(sgF (fun t=>f i t*x t) m+(p-f i k)*sgF (fun t=>f n t*x t) m):=by
  intro i hi;rw[←k5_,←w4_];refine i4_ fun t _=>?_
  simp only[elA,if_pos hi];rw[←Int.mul_assoc,←Int.add_mul];exact f8_ _ (n4_ _ _)
 constructor
 ·intro h i hi;have hn':=h n hn;simp only[elA,ne_eq,not_true_eq_false,if_false]at hn';by_cases e:i=n
  ·rw[e];exact hn'
  ·have h1:=(i2_ (key i e)).1 (h i hi);have:=Int.dvd_sub h1 (Int.dvd_mul_of_dvd_right (b:=p-f i k) hn');rwa[Int.add_sub_cancel]at this
 ·intro h i hi;by_cases e:i=n
  ·subst e;simp only[elA,ne_eq,not_true_eq_false,if_false];exact h i hi
  ·exact (i2_ (key i e)).2 (Int.dvd_add (h i hi) (Int.dvd_mul_of_dvd_right (h n hn)))
theorem f1J {p x:Int} (hp:c8_ p=true) (h1:1≤x) (h2:x≤p-1):p∣invP p x*x-1:=by
 obtain⟨_,_,h,_⟩:=a2J hp h1 h2;rw[Int.mul_comm];have:=n4_ p (x*invP p x);rw[h]at this;have:=Int.dvd_neg.2 this;rwa[Int.neg_sub]at this
theorem Q2_ {p:Int} {r c:Nat} {f:Nat→Nat→Int} (hp:c8_ p=true) (hp2:2≤p) (hf:InF p r c f):∀ k,k≤c→∀ m x,Ker p r (rdTo p r f k).1 m x↔Ker p r f m x
 | 0,_,_,_=>Iff.rfl
 | k+1,hk,m,x=>by
  have ih:=Q2_ hp hp2 hf k (by omega) m x;have hg:=L3_ hp2 hf k;have hl:=(n1_ p r f k).1;simp only[rdTo];split
  ·rename_i h1
   have hn:=G5_ (f:=(rdTo p r f k).1) (k:=k) hl;have hne:=b0X hl h1;have hr:=hg _ k h1 (by omega);rw[←ih,rdF,g9j (by omega),g9x (y:=swA (rdTo p r f k).2.length (nzF (rdTo p r f k).1 k (rdTo p r f k).2.length r) (rdTo p r f k).1 (rdTo p r f k).2.length k),g9J (by omega) h1];simp only[swA,if_true];exact f1J hp (by omega) hr.2
  ·exact ih
structure Rd (r:Nat) (g:Nat→Nat→Int) (ps:List Int) (k:Nat):Prop where
 pos:∀ j,j<ps.length→∃ b:Nat,ps[j]?=some (b:Int)∧b<k∧∀ i,i<r→g i b=if i=j then 1 else 0
 low:∀ i b,ps.length≤i→i<r→b<k→g i b=0
theorem i0X {f:Nat→Nat→Int} {k n r:Nat} (h:¬ nzF f k n r<r) {i:Nat} (h1:n≤i) (h2:i<r):f i k=0:=by
 apply Classical.byContradiction
 intro hne;apply h
 have key:∀ m a,a≤i→i<a+m→nzGo f k a m<a+m:=by
  intro m;induction m with
  | zero=>intro a h3 h4;omega
  | succ m ih =>
   intro a h3 h4;simp only[nzGo];split
   ·rename_i h5
    have:a≠i:=by rintro rfl;exact hne h5
    have:=ih (a+1) (by omega) (by omega);omega
   ·omega
 have:=key (r-n) n h1 (by omega);unfold nzF;omega
theorem g2Q {p:Int} {r c k t:Nat} {g:Nat→Nat→Int} {ps:List Int} (hp:c8_ p=true) (hp2:2≤p) (hg:InF p r c g) (hk:k<c) (ih:Rd r g ps k) (hn:ps.length≤t) (ht:t<r) (hne:g t k≠0) :
  Rd r (elA p ps.length k (scA p ps.length (invP p (swA ps.length t g ps.length k)) (swA ps.length t g))) (ps ++ [(k:Int)]) (k+1):=by
 obtain⟨hpos,hlow⟩:=ih;have hr:=hg t k ht hk;have h01:(0:Int) % p=0:=Int.zero_emod p;have h11:(1:Int) % p=1:=Int.emod_eq_of_lt (by omega) (by omega);generalize hN:ps.length=n at *;have hs:swA n t g n k=g t k:=by simp[swA]
 rw[hs];obtain⟨_,_,hi1,_⟩:=a2J hp (show 1≤g t k by omega) hr.2;generalize hS:invP p (g t k)=s at *;have e_nk:scA p n s (swA n t g) n k=1:=by simp only[scA,if_true,swA];exact hi1
 have sw_lo:∀ i b,n≤i→i<r→b<k→swA n t g i b=0:=by
  intro i b h2 h3 h4;simp only[swA];split
  ·exact hlow t b hn ht h4
  ·split
   ·exact hlow _ b (l_ _) (by omega) h4
   ·exact hlow i b h2 h3 h4
 have sc_lo:∀ i b,n≤i→i<r→b<k→scA p n s (swA n t g) i b=0:=by
  intro i b h2 h3 h4;simp only[scA];split
  ·rw[sw_lo i b h2 h3 h4,Int.zero_mul,h01]
  ·exact sw_lo i b h2 h3 h4
 constructor
 ·intro j hj;rw[List.length_append,List.length_singleton,hN]at hj;by_cases e:j<n
  ·obtain⟨b,h5,h6,h7⟩:=hpos j e;refine⟨b,by rw[List.getElem?_append_left (by omega)];exact h5,by omega,fun i hi=>?_⟩;have hnb:scA p n s (swA n t g) n b=0:=sc_lo n b (l_ _) (by omega) h6;simp only[elA];by_cases hin:i=n
   ·rw[if_neg (by simpa using hin),hin,hnb,if_neg (by omega)]
   ·rw[if_pos hin,hnb,Int.mul_zero,Int.add_zero];rcases Nat.lt_or_ge i n with hlt | hge
    ·have:scA p n s (swA n t g) i b=g i b:=by simp only[scA,if_neg hin,swA];rw[if_neg (by omega)]
     rw[this,h7 i hi];split
     ·exact h11
     ·exact h01
    ·rw[sc_lo i b hge hi h6,h01,if_neg (by omega)]
  ·obtain rfl:j=n:=by omega
   refine⟨k,by rw[List.getElem?_append_right (by omega),hN];simp,by omega,fun i hi=>?_⟩;simp only[elA];by_cases hin:i=j
   ·rw[if_neg (by simpa using hin),hin,e_nk,if_pos rfl]
   ·rw[if_pos hin,e_nk,if_neg hin,Int.mul_one];rw[show scA p j s (swA j t g) i k+(p-scA p j s (swA j t g) i k)=p by omega,Int.emod_self]
 ·intro i b h2 h3 h4;rw[List.length_append,List.length_singleton,hN]at h2;simp only[elA];rw[if_pos (by omega)];rcases Nat.lt_or_ge b k with hlt | hge
  ·rw[sc_lo i b (by omega) h3 hlt,sc_lo n b (l_ _) (by omega) hlt,Int.mul_zero,Int.add_zero,h01]
  ·obtain rfl:b=k:=by omega
   rw[e_nk,Int.mul_one,show scA p n s (swA n t g) i b+(p-scA p n s (swA n t g) i b)=p by omega,Int.emod_self]
theorem c6J {p:Int} {r c:Nat} {f:Nat→Nat→Int} (hp:c8_ p=true) (hp2:2≤p) (hf:InF p r c f):∀ k,k≤c→Rd r (rdTo p r f k).1 (rdTo p r f k).2 k
 | 0,_=>⟨fun j hj=>absurd hj (by simp[rdTo]),fun i b _ _ hb=>absurd hb (by omega)⟩
 | k+1,hk=>by
  have ih:=c6J hp hp2 hf k (by omega);have hg:=L3_ hp2 hf k;have hl:=(n1_ p r f k).1;simp only[rdTo];split
  ·rename_i h1
   have hn:=G5_ (f:=(rdTo p r f k).1) (k:=k) hl;have hne:=b0X hl h1;exact g2Q hp hp2 hg (by omega) ih hn.1 h1 hne
  ·rename_i h1
   refine⟨fun j hj=>?_,fun i b h2 h3 h4=>?_⟩
   ·obtain⟨b,h5,h6,h7⟩:=ih.pos j hj;exact⟨b,h5,by omega,h7⟩
   ·rcases Nat.lt_or_ge b k with h | h
    ·exact ih.low i b h2 h3 h
    ·obtain rfl:b=k:=by omega
     exact i0X h1 h2 h3
theorem t3_ {α:Type}:∀ {l m:List α},l.Nodup→(∀ x∈l,x∈m)→l.length≤m.length
 | [],_,_,_=>l0_ _
 | a :: l,m,hn,hs=>by
  obtain⟨s,t,rfl⟩:=List.append_of_mem (hs a (by simp));rw[List.nodup_cons]at hn;have:=t3_ (l:=l) (m:=s ++ t) hn.2 (fun x hx=>by
   have h1:=hs x (by simp[hx]);have h2:x≠a:=fun e=>hn.1 (e ▸ hx)
   simp only[List.mem_append,List.mem_cons]at h1⊢;rcases h1 with h1 | h1 | h1
   ·exact .inl h1
   ·exact absurd h1 h2
   ·exact .inr h1)
  simp only[List.length_cons,List.length_append]at this⊢;omega
theorem w0_ {α β:Type} {φ:α→β}:∀ {l:List α},l.Nodup→(∀ x∈l,∀ y∈l,φ x=φ y→x=y)→(l.map φ).Nodup
 | [],_,_=>by simp
 | a :: l,hn,hi=>by
  rw[List.nodup_cons]at hn;rw[List.map_cons,List.nodup_cons];refine⟨fun h=>?_,w0_ hn.2 fun x hx y hy=>hi x (by simp[hx]) y (by simp[hy])⟩;obtain⟨y,hy,e⟩:=List.mem_map.1 h;have:=hi y (by simp[hy]) a (by simp) e;exact hn.1 (this ▸ hy)
theorem L4_ {α β:Type} {φ:α→β} {l:List α} {m:List β} (hn:l.Nodup) (hi:∀ x∈l,∀ y∈l,φ x=φ y→x=y) (hm:∀ x∈l,φ x∈m):l.length≤m.length:=by
 rw[←List.length_map (f:=φ)];exact t3_ (w0_ hn hi) fun y hy=>by obtain⟨x,hx,rfl⟩:=List.mem_map.1 hy;exact hm x hx
def prs {α β:Type} (l:List α) (m:List β):List (α×β):=l.flatMap fun x=>m.map fun y=>(x,y)
theorem n6_ {α β:Type} {l:List α} {m:List β} {x:α} {y:β}:(x,y)∈prs l m↔x∈l∧y∈m:=by
 simp only[prs,List.mem_flatMap,List.mem_map,Prod.mk.injEq];constructor
 ·rintro⟨a,ha,b,hb,rfl,rfl⟩;exact⟨ha,hb⟩
 ·rintro⟨h1,h2⟩;exact⟨x,h1,y,h2,rfl,rfl⟩
theorem E8_ {α β:Type} (m:List β):∀ l:List α,(prs l m).length=l.length*m.length
 | []=>by simp[prs]
 | a :: l=>by
  have ih:=E8_ m l;simp only[prs,List.flatMap_cons,List.length_append,List.length_map,List.length_cons]at ih⊢;rw[ih,Nat.add_mul];omega
theorem Y9_ {α:Type} {l m:List α} (h1:l.Nodup) (h2:m.Nodup) (h:∀ x∈l,x ∉ m):(l ++ m).Nodup:=by
 rw[List.nodup_append];exact⟨h1,h2,fun x hx y hy e=>h x hx (e ▸ hy)⟩
theorem w1_ {α β:Type} {m:List β} (hm:m.Nodup):∀ {l:List α},l.Nodup→(prs l m).Nodup
 | [],_=>by simp[prs]
 | a :: l,hn=>by
  rw[List.nodup_cons]at hn;have ih:=w1_ hm hn.2;show (m.map (fun y=>(a,y)) ++ prs l m).Nodup;refine Y9_ (w0_ hm fun x _ y _ e=>by injection e) ih ?_;rintro⟨x,y⟩ hx hy;obtain⟨z,_,e⟩:=List.mem_map.1 hx;injection e with e1 e2
  exact hn.1 (e1 ▸ (n6_.1 hy).1)
def vecs (p:Nat):Nat→List (List Int)
 | 0=>[[]]
 | n+1=>(prs (vecs p n) (List.range p)).map fun z=>z.1 ++ [(z.2:Int)]
def IsV (p:Nat) (n:Nat) (x:List Int):Prop:=x.length=n∧∀ e∈x,0≤e∧e<p
theorem y0_ {p:Nat}:∀ {n:Nat} {x:List Int},x∈vecs p n↔IsV p n x
 | 0,x=>by
  simp only[vecs,List.mem_singleton,IsV];constructor
  ·rintro rfl;simp
  ·rintro⟨h,_⟩;exact m1_ h
 | n+1,x=>by
  simp only[vecs,List.mem_map];constructor
  ·rintro⟨⟨y,e⟩,h,rfl⟩;obtain⟨h1,h2⟩:=n6_.1 h;obtain⟨h3,h4⟩:=y0_.1 h1;rw[List.mem_range]at h2;refine⟨by simp[h3],fun z hz=>?_⟩;simp only[List.mem_append,List.mem_singleton]at hz;rcases hz with hz | rfl
   ·exact h4 z hz
   ·omega
  ·rintro⟨h1,h2⟩;have hne:x≠[]:=by rintro rfl;simp at h1
   have hl:=h2 (x.getLast hne) (List.getLast_mem hne);refine⟨(x.dropLast,(x.getLast hne).toNat),n6_.2 ⟨y0_.2 ⟨by simp[h1],fun e he=>h2 e (List.dropLast_subset x he)⟩,by rw[List.mem_range];omega⟩,?_⟩;simp only;rw[show (((x.getLast hne).toNat:Nat):Int)=x.getLast hne by omega,List.dropLast_concat_getLast]
theorem F5_ (p:Nat):∀ n,(vecs p n).Nodup
 | 0=>by simp[vecs]
 | n+1=>by
  refine w0_ (w1_ List.nodup_range (F5_ p n)) ?_;rintro⟨x,a⟩ _ ⟨y,b⟩ _ e;simp only at e;have:=List.append_inj_right' e rfl;have h2:=List.append_inj_left' e rfl;simp only[List.cons.injEq,Int.natCast_inj,and_true]at this;rw[h2,this]
theorem V3_ (p:Nat):∀ n,(vecs p n).length=p ^ n
 | 0=>rfl
 | n+1=>by rw[vecs,List.length_map,E8_,V3_ p n,List.length_range,Nat.pow_succ]
def at0 (x:List Int) (t:Nat):Int:=x.getD t 0
def can (p:Nat) (k:Nat) (v:Nat→Int):List Int:=(List.range k).map fun b=>v b % (p:Int)
theorem b3X {p:Nat} (hp:0<p) (k:Nat) (v:Nat→Int):IsV p k (can p k v):=by
 refine⟨by simp[can],fun e he=>?_⟩;simp only[can,List.mem_map]at he;obtain⟨b,_,rfl⟩:=he;exact⟨Int.emod_nonneg _ (by omega),Int.emod_lt_of_pos _ (by omega)⟩
theorem g5Z {p k t:Nat} (v:Nat→Int) (h:t<k):at0 (can p k v) t=v t % (p:Int):=by simp[at0,can,h]
theorem v_at {p n t:Nat} {x:List Int} (h:IsV p n x) (ht:t<n):0≤at0 x t∧at0 x t<p:=by
 have hl:t<x.length:=by rw[h.1];exact ht
 rw[at0,l1_,l2_ hl];exact h.2 _ (List.getElem_mem hl)
theorem P1_ {p n:Nat} {x y:List Int} (hx:IsV p n x) (hy:IsV p n y) (h:∀ t,t<n→(p:Int)∣at0 x t-at0 y t):x=y:=by
 apply List.ext_getElem (by rw[hx.1,hy.1])
 intro t h1 h2;have ht:t<n:=by rw[←hx.1];exact h1
 have a:=v_at hx ht;have b:=v_at hy ht;have e:at0 x t=at0 y t:=by
  obtain⟨c,hc⟩:=h t ht;have:c=0:=by
   rcases Int.lt_trichotomy c 0 with h | h | h
   ·have:(p:Int)*c≤(p:Int)*(-1):=Int.mul_le_mul_of_nonneg_left (by omega) (by omega);omega
   ·exact h
   ·have:(p:Int)*1≤(p:Int)*c:=Int.mul_le_mul_of_nonneg_left (by omega) (by omega);omega
  rw[this,Int.mul_zero]at hc;omega
 rw[at0,at0,l1_,l1_,l2_ h1,l2_ h2]at e;exact e
theorem p1_ (p:Nat) {k t:Nat} (v:Nat→Int) (h:t<k):(p:Int)∣at0 (can p k v) t-v t:=by rw[g5Z v h];exact n4_ _ _
def kerB (p:Nat) (r:Nat) (f:Nat→Nat→Int) (k:Nat) (x:List Int):Bool:=(List.range r).all fun i=>decide ((p:Int)∣sgF (fun t=>f i t*at0 x t) k)
theorem a9j {p r k:Nat} {f:Nat→Nat→Int} {x:List Int}:kerB p r f k x=true↔Ker p r f k (at0 x):=by
 simp only[kerB,List.all_eq_true,List.mem_range,decide_eq_true_eq];rfl
def kerL (p:Nat) (r:Nat) (f:Nat→Nat→Int) (k:Nat):List (List Int):=(vecs p k).filter (kerB p r f k)
theorem c4_ {p r k:Nat} {f:Nat→Nat→Int} {x:List Int}:x∈kerL p r f k↔IsV p k x∧Ker p r f k (at0 x):=by
 simp only[kerL,List.mem_filter,y0_,a9j]
theorem j3_ (p r:Nat) (f:Nat→Nat→Int) (k:Nat):(kerL p r f k).Nodup:=List.Pairwise.filter _ (F5_ p k)
theorem b6X {x:List Int} {e:Int} {t:Nat} (h:t<x.length):at0 (x ++ [e]) t=at0 x t:=by
 simp only[at0,l1_];rw[List.getElem?_append_left h]
theorem a6q {x:List Int} {e:Int} {k:Nat} (h:x.length=k):at0 (x ++ [e]) k=e:=by
 simp only[at0,l1_];rw[List.getElem?_append_right (by omega),h];simp
theorem a8Z {p k:Nat} {x:List Int} {e:Int} (h:IsV p k x) (h0:0≤e) (h1:e<p):IsV p (k+1) (x ++ [e]):=by
 refine⟨by simp[h.1],fun z hz=>?_⟩;simp only[List.mem_append,List.mem_singleton]at hz;rcases hz with hz | rfl
 ·exact h.2 z hz
 ·exact⟨h0,h1⟩
theorem d4j {p k:Nat} {x:List Int} (h:IsV p (k+1) x):IsV p k (x.take k):=⟨by simp[h.1],fun e he=>h.2 e (List.mem_of_mem_take he)⟩
theorem R2_ {x:List Int} {k t:Nat} (h:t<k):at0 (x.take k) t=at0 x t:=by
 simp only[at0,l1_];rw[List.getElem?_take,if_pos h]
theorem i2J {r k:Nat} {g:Nat→Nat→Int} {ps:List Int} (h:Rd r g ps k) (hc:∀ i,ps.length≤i→i<r→g i k=0):∃ x0:Nat→Int,∀ i,i<r→sgF (fun b=>g i b*x0 b) k =-g i k:=by
 have hps:∀ j,j<ps.length→∃ b:Nat,ps.getD j 0=(b:Int)∧b<k∧∀ i,i<r→g i b=if i=j then 1 else 0:=fun j hj=>by
  obtain⟨b,h1,h2⟩:=h.pos j hj;exact⟨b,by rw[l1_,h1];rfl,h2⟩
 refine⟨fun b=>sgF (fun j=>if (b:Int)=ps.getD j 0 then-g j k else 0) ps.length,fun i hi=>?_⟩;have e1:∀ b,g i b*sgF (fun j=>if (b:Int)=ps.getD j 0 then-g j k else 0) ps.length=sgF (fun j=>if (b:Int)=ps.getD j 0 then g i b*- g j k else 0) ps.length:=by
  intro b;rw[←k5_];refine a3_ fun j _=>?_
  split <;> simp
 rw[a3_ fun b _=>e1 b,p0_];have e2:∀ j,j<ps.length→sgF (fun b:Nat=>if (b:Int)=ps.getD j 0 then g i b*- g j k else 0) k=if j=i then-g j k else 0:=by
  intro j hj;obtain⟨b,h1,h2,h3⟩:=hps j hj;rw[a3_ (b:=fun t=>if t=b then g i t*- g j k else 0) fun t _=>by rw[h1];simp only[Int.natCast_inj]];rw[r6_ h2,h3 i hi];by_cases e:i=j
  ·subst e;simp
  ·rw[if_neg e,if_neg (by omega)];simp
 rw[a3_ e2];rcases Nat.lt_or_ge i ps.length with hlt | hge
 ·rw[r6_ (h:=fun j => - g j k) hlt]
 ·rw[a3_ (b:=fun _=>0) fun t ht=>if_neg (by omega),sg_0,hc i hge hi];rfl
theorem f6z {p r c k t:Nat} {g:Nat→Nat→Int} (hp:c8_ p=true) (hp2:2≤p) (hg:InF p r c g) (hk:k<c) {ps:List Int} (h:Rd r g ps k) (h1:ps.length≤t) (h2:t<r) (hne:g t k≠0):(kerL p r g (k+1)).length=(kerL p r g k).length:=by
 have hr:=hg t k h2 hk;have last0:∀ x,x∈kerL p r g (k+1)→at0 x k=0:=by
  intro x hx;obtain⟨hv,hK⟩:=c4_.1 hx;have h3:=hK t h2;simp only[sgF]at h3;rw[a3_ (b:=fun _=>0) (fun b hb=>by rw[h.low t b h1 h2 hb,Int.zero_mul]),sg_0,Int.zero_add]at h3;have h4:=f1J hp (show 1≤g t k by omega) hr.2;have h5:(p:Int)∣at0 x k:=by
   have h6:(p:Int)∣invP p (g t k)*(g t k*at0 x k):=Int.dvd_mul_of_dvd_right h3;rw[←Int.mul_assoc]at h6;have h7:=f8_ (at0 x k) h4;rw[Int.one_mul]at h7;exact (i2_ h7).1 h6
  have h6:=v_at hv (m0_ k);obtain⟨m,hm⟩:=h5;have:m=0:=by
   rcases Int.lt_trichotomy m 0 with h | h | h
   ·have:(p:Int)*m≤(p:Int)*(-1):=Int.mul_le_mul_of_nonneg_left (by omega) (by omega);omega
   ·exact h
   ·have:(p:Int)*1≤(p:Int)*m:=Int.mul_le_mul_of_nonneg_left (by omega) (by omega);omega
  rw[this,Int.mul_zero]at hm;exact hm
 apply Nat.le_antisymm
 ·refine L4_ (φ:=fun x=>x.take k) (j3_ _ _ _ _) ?_ ?_
  ·intro x hx y hy e;obtain⟨hxv,_⟩:=c4_.1 hx;obtain⟨hyv,_⟩:=c4_.1 hy;refine P1_ hxv hyv fun t ht=>?_
   by_cases e3:t<k
   ·rw[←R2_ (x:=x) e3,←R2_ (x:=y) e3];rw[show x.take k=y.take k from e,Int.sub_self];exact Int.dvd_zero _
   ·obtain rfl:t=k:=by omega
    rw[last0 x hx,last0 y hy];exact Int.dvd_zero _
  ·intro x hx;obtain⟨hv,hK⟩:=c4_.1 hx;refine c4_.2 ⟨d4j hv,fun i hi=>?_⟩;have h3:=hK i hi;simp only[sgF]at h3;rw[last0 x hx,Int.mul_zero,Int.add_zero]at h3;rw[a3_ fun b hb=>by rw[R2_ hb]];exact h3
 ·refine L4_ (φ:=fun x=>x ++ [0]) (j3_ _ _ _ _) (fun x _ y _ e=>List.append_inj_left' e rfl) ?_;intro x hx;obtain⟨hv,hK⟩:=c4_.1 hx;refine c4_.2 ⟨a8Z hv (by omega) (by omega),fun i hi=>?_⟩;simp only[sgF];rw[a6q hv.1,Int.mul_zero,Int.add_zero,a3_ fun b hb=>by rw[b6X (by rw[hv.1];exact hb)]];exact hK i hi
theorem d2z {p r k:Nat} {g:Nat→Nat→Int} (hp2:2≤p) {x0:Nat→Int} (h:∀ i,i<r→sgF (fun b=>g i b*x0 b) k =-g i k):(kerL p r g (k+1)).length=(kerL p r g k).length*p:=by
 have hp0:0<p:=by omega
 have lin:∀ i,i<r→∀ (x:Nat→Int) (y:Int),sgF (fun b=>g i b*(x b+y*x0 b)) k=sgF (fun b=>g i b*x b) k-g i k*y:=by
  intro i hi x y;have:∀ b,g i b*(x b+y*x0 b)=g i b*x b+y*(g i b*x0 b):=fun b=>by
   rw[Int.mul_add,←Int.mul_assoc,←Int.mul_assoc,Int.mul_comm (g i b) y]
  rw[a3_ fun b _=>this b,w4_,k5_,h i hi,Int.mul_neg,Int.mul_comm y];omega
 have hl:(prs (kerL p r g k) (List.range p)).length=(kerL p r g k).length*p:=by rw[E8_,List.length_range]
 rw[←hl];apply Nat.le_antisymm
 ·refine L4_ (φ:=fun x=>(can p k (fun b=>at0 x b+(- at0 x k)*x0 b),(at0 x k).toNat)) (j3_ _ _ _ _) ?_ ?_
  ·intro x hx y hy e;obtain⟨hxv,_⟩:=c4_.1 hx;obtain⟨hyv,_⟩:=c4_.1 hy;have ax:=v_at hxv (m0_ k);have ay:=v_at hyv (m0_ k);injection e with e1 e2
   have e3:at0 x k=at0 y k:=by omega
   refine P1_ hxv hyv fun t ht=>?_
   by_cases e4:t<k
   ·have c1:=p1_ p (fun b=>at0 x b+(- at0 x k)*x0 b) e4;have c2:=p1_ p (fun b=>at0 y b+(- at0 y k)*x0 b) e4;rw[e1]at c1;have:=Int.dvd_sub c2 c1;simp only[e3]at this;rwa[show ∀ a b c d:Int,a-(b+c)-(a-(d+c))=d-b by intros;omega]at this
   ·obtain rfl:t=k:=by omega
    rw[e3,Int.sub_self];exact Int.dvd_zero _
  ·intro x hx;obtain⟨hv,hK⟩:=c4_.1 hx;have ax:=v_at hv (m0_ k);refine n6_.2 ⟨c4_.2 ⟨b3X hp0 _ _,?_⟩,by rw[List.mem_range];omega⟩;rw[v7_ fun t ht=>p1_ p _ ht];intro i hi;rw[lin i hi];have h3:=hK i hi;simp only[sgF]at h3;rw[Int.mul_neg,Int.sub_neg];exact h3
 ·refine L4_ (φ:=fun z=>can p k (fun b=>at0 z.1 b+(z.2:Int)*x0 b) ++ [(z.2:Int)]) (w1_ List.nodup_range (j3_ _ _ _ _)) ?_ ?_
  ·rintro⟨x,a⟩ hx ⟨y,b⟩ hy e;obtain⟨hxv,_⟩:=c4_.1 (n6_.1 hx).1;obtain⟨hyv,_⟩:=c4_.1 (n6_.1 hy).1;have e2:=List.append_inj_right' e rfl;have e1:=List.append_inj_left' e rfl;simp only[List.cons.injEq,Int.natCast_inj,and_true]at e2;subst e2;have:x=y:=P1_ hxv hyv fun t ht=>by
    have c1:=p1_ p (fun b=>at0 x b+(a:Int)*x0 b) ht;have c2:=p1_ p (fun b=>at0 y b+(a:Int)*x0 b) ht;rw[show can p k (fun b=>at0 x b+(a:Int)*x0 b)=can p k (fun b=>at0 y b+(a:Int)*x0 b) from e1]at c1;have:=Int.dvd_sub c2 c1;try simp only at this
    rwa[show ∀ a b c d:Int,a-(b+c)-(a-(d+c))=d-b by intros;omega]at this
   rw[this]
  ·rintro⟨x,a⟩ hx;obtain⟨h1,h2⟩:=n6_.1 hx;obtain⟨hv,hK⟩:=c4_.1 h1;rw[List.mem_range]at h2;have hcv:=b3X hp0 k (fun b=>at0 x b+(a:Int)*x0 b);refine c4_.2 ⟨a8Z hcv (by omega) (by omega),fun i hi=>?_⟩;simp only[sgF];rw[a6q hcv.1,a3_ fun b hb=>by rw[b6X (by rw[hcv.1];exact hb)]];have h3:(p:Int)∣sgF (fun b=>g i b*at0 (can p k fun b=>at0 x b+(a:Int)*x0 b) b) k-sgF (fun b=>g i b*(at0 x b+(a:Int)*x0 b)) k:=i4_ fun t ht=>i3_ _ (p1_ p _ ht)
   rw[lin i hi]at h3;have:=Int.dvd_add h3 (hK i hi);rwa[show ∀ a b c:Int,a-(b-c)+b=a+c by intros;omega]at this
theorem Q1_ {p r k:Nat} {f g:Nat→Nat→Int} (h:∀ x,Ker p r f k x↔Ker p r g k x):(kerL p r f k).length=(kerL p r g k).length:=by
 apply Nat.le_antisymm <;> refine t3_ (j3_ _ _ _ _) fun x hx=>?_
 ·obtain⟨a,b⟩:=c4_.1 hx;exact c4_.2 ⟨a,(h _).1 b⟩
 ·obtain⟨a,b⟩:=c4_.1 hx;exact c4_.2 ⟨a,(h _).2 b⟩
theorem L7_ {p r c:Nat} {f:Nat→Nat→Int} (hp:c8_ p=true) (hp2:2≤p) (hf:InF p r c f):∀ k,k≤c→(kerL p r f k).length*p ^ (rdTo p r f k).2.length=p ^ k
 | 0,_=>by
  have:kerL p r f 0=[[]]:=by
   simp only[kerL,vecs];rw[List.filter_cons_of_pos,List.filter_nil];rw[a9j];intro i _;exact Int.dvd_zero _
  rw[this];simp[rdTo]
 | k+1,hk=>by
  have ih:=L7_ hp hp2 hf k (by omega);have hR:=c6J hp (by omega) hf k (by omega);have hg:=L3_ (show (2:Int)≤p by omega) hf k;have hl:=(n1_ p r f k).1;have e1:=Q1_ (p:=p) (r:=r) (k:=k) (f:=(rdTo p r f k).1) (g:=f) fun x=>Q2_ hp (by omega) hf k (by omega) k x
  have e2:=Q1_ (p:=p) (r:=r) (k:=k+1) (f:=(rdTo p r f k).1) (g:=f) fun x=>Q2_ hp (by omega) hf k (by omega) (k+1) x
  rw[←e1]at ih;rw[←e2];simp only[rdTo];split
  ·rename_i h1
   have hn:=G5_ (f:=(rdTo p r f k).1) (k:=k) hl;rw[f6z hp hp2 hg (by omega) hR hn.1 h1 (b0X hl h1),List.length_append,List.length_singleton,Nat.pow_succ,←Nat.mul_assoc,ih,Nat.pow_succ]
  ·rename_i h1
   obtain⟨x0,hx⟩:=i2J hR fun i h2 h3=>i0X h1 h2 h3
   rw[d2z hp2 hx,Nat.mul_right_comm,ih,Nat.pow_succ]
theorem M6_ {p r c:Nat} {f:Nat→Nat→Int} (hp:c8_ p=true) (hp2:2≤p) (hf:InF p r c f):(kerL p r f c).length*p ^ rkF p r c f=p ^ c:=L7_ hp hp2 hf c (l_ c)
def appF (f:Nat→Nat→Int) (c:Nat) (x:Nat→Int) (i:Nat):Int:=sgF (fun t=>f i t*x t) c
theorem W3_ {p:Int} {d c:Nat} {f g:Nat→Nat→Int} {x:Nat→Int} (i:Nat):p∣sgF (fun t=>muP p d f g i t*x t) c-sgF (fun s=>f i s*appF g c x s) d:=by
 have e:sgF (fun s=>f i s*appF g c x s) d=sgF (fun t=>sgF (fun s=>f i s*g s t) d*x t) c:=by
  rw[a3_ (b:=fun s=>sgF (fun t=>f i s*g s t*x t) c) fun s _=>by
   rw[appF,←k5_];exact a3_ fun t _=>by rw[Int.mul_assoc]]
  rw[p0_];refine a3_ fun t _=>?_
  rw[Int.mul_comm (sgF _ d),←k5_];exact a3_ fun s _=>by rw[Int.mul_comm]
 rw[e];exact i4_ fun t _=>f8_ _ (n4_ _ _)
theorem g9z {p:Int} {r d c:Nat} {f g:Nat→Nat→Int} {x:Nat→Int}:Ker p r (muP p d f g) c x↔Ker p r f d (appF g c x) :=
 ⟨fun h i hi=>(i2_ (W3_ i)).1 (h i hi),fun h i hi=>(i2_ (W3_ i)).2 (h i hi)⟩
theorem f4X (f:Nat→Nat→Int) (c:Nat) (x y:Nat→Int) (i:Nat):appF f c (fun t=>x t-y t) i=appF f c x i-appF f c y i:=by
 rw[appF,appF,appF,←t7_];exact a3_ fun t _=>Int.mul_sub _ _ _
theorem g0j {p:Int} {r k:Nat} {f:Nat→Nat→Int} {x y:Nat→Int} (hx:Ker p r f k x) (hy:Ker p r f k y):Ker p r f k fun t=>x t+y t:=fun i hi=>by
 rw[a3_ fun t _=>Int.mul_add _ _ _,w4_];exact Int.dvd_add (hx i hi) (hy i hi)
theorem g0q {p:Int} {r k:Nat} {f:Nat→Nat→Int} {x y:Nat→Int} (hx:Ker p r f k x) (hy:Ker p r f k y):Ker p r f k fun t=>x t-y t:=fun i hi=>by
 rw[a3_ fun t _=>Int.mul_sub _ _ _,t7_];exact Int.dvd_sub (hx i hi) (hy i hi)
theorem frob {p v u rB rD rE rG:Nat} {B D E G C:Nat→Nat→Int} (hp:c8_ p=true) (hp2:2≤p) (fB:InF p rB v B) (fD:InF p rD v D) (fE:InF p rE u E) (fG:InF p rG u G)
  (hBD:∀ x,Ker p rB B v x→Ker p rD D v x) (hE:∀ x,Ker p rE E u x↔Ker p rB B v (appF C u x)) (hG:∀ x,Ker p rG G u x↔Ker p rD D v (appF C u x)) :
  rkF p rD v D+rkF p rE u E≤rkF p rB v B+rkF p rG u G:=by
 have hp0:0<p:=by omega
 have key:∃ rep:List Int→List Int,∀ z,(∃ x∈kerL p rG G u,Ker p rB B v fun t=>at0 z t-appF C u (at0 x) t)→rep z∈kerL p rG G u∧Ker p rB B v fun t=>at0 z t-appF C u (at0 (rep z)) t:=by
  refine Classical.axiomOfChoice (r:=fun z x=>(∃ x∈kerL p rG G u,Ker p rB B v fun t=>at0 z t-appF C u (at0 x) t)→x∈kerL p rG G u∧Ker p rB B v fun t=>at0 z t-appF C u (at0 x) t) fun z=>?_
  rcases Classical.em (∃ x∈kerL p rG G u,Ker p rB B v fun t=>at0 z t-appF C u (at0 x) t) with ⟨x,h1,h2⟩ | h
  ·exact⟨x,fun _=>⟨h1,h2⟩⟩
  ·exact⟨[],fun h2=>absurd h2 h⟩
 obtain⟨rep,hrep⟩:=key;have main:(kerL p rG G u).length*(kerL p rB B v).length≤(kerL p rD D v).length*(kerL p rE E u).length:=by
  rw[←E8_,←E8_];have hz:∀ x y,x∈kerL p rG G u→y∈kerL p rB B v→Ker p rB B v fun t=>at0 (can p v fun t=>appF C u (at0 x) t+at0 y t) t-appF C u (at0 x) t:=by
   intro x y hx hy;have h1:=(c4_.1 hy).2;refine (v7_ fun t ht=>?_).2 h1;have:=p1_ p (fun t=>appF C u (at0 x) t+at0 y t) ht;rwa[show ∀ a b c:Int,a-(b+c)=a-b-c by intros;omega]at this
  refine L4_ (φ:=fun w=>(can p v fun t=>appF C u (at0 w.1) t+at0 w.2 t,can p u fun t=>at0 w.1 t-at0 (rep (can p v fun t=>appF C u (at0 w.1) t+at0 w.2 t)) t)) (w1_ (j3_ _ _ _ _) (j3_ _ _ _ _)) ?_ ?_
  ·rintro⟨x,y⟩ h1 ⟨x',y'⟩ h2 e;obtain⟨hx,hy⟩:=n6_.1 h1;obtain⟨hx',hy'⟩:=n6_.1 h2;simp only[Prod.mk.injEq]at e;obtain⟨e1,e2⟩:=e;have ex:x=x':=P1_ (c4_.1 hx).1 (c4_.1 hx').1 fun t ht=>by
    have c1:=p1_ p (fun t=>at0 x t-at0 (rep (can p v fun t=>appF C u (at0 x) t+at0 y t)) t) ht;have c2:=p1_ p (fun t=>at0 x' t-at0 (rep (can p v fun t=>appF C u (at0 x') t+at0 y' t)) t) ht;rw[e2]at c1;rw[e1]at c1;have:=Int.dvd_sub c2 c1;try simp only at this
    rwa[show ∀ a b c d:Int,a-(b-c)-(a-(d-c))=d-b by intros;omega]at this
   subst ex;have ey:y=y':=P1_ (c4_.1 hy).1 (c4_.1 hy').1 fun t ht=>by
    have c1:=p1_ p (fun t=>appF C u (at0 x) t+at0 y t) ht;have c2:=p1_ p (fun t=>appF C u (at0 x) t+at0 y' t) ht;rw[e1]at c1;have:=Int.dvd_sub c2 c1;try simp only at this
    rwa[show ∀ a b c d:Int,a-(b+c)-(a-(b+d))=d-c by intros;omega]at this
   rw[ey]
  ·rintro⟨x,y⟩ h1;obtain⟨hx,hy⟩:=n6_.1 h1;have hr:=hrep (can p v fun t=>appF C u (at0 x) t+at0 y t) ⟨x,hx,hz x y hx hy⟩;refine n6_.2 ⟨c4_.2 ⟨b3X hp0 _ _,?_⟩,c4_.2 ⟨b3X hp0 _ _,?_⟩⟩
   ·rw[v7_ fun t ht=>p1_ p _ ht];exact g0j ((hG _).1 (c4_.1 hx).2) (hBD _ (c4_.1 hy).2)
   ·rw[v7_ fun t ht=>p1_ p _ ht,hE];have h3:=g0q hr.2 (hz x y hx hy);refine (v7_ fun t _=>?_).2 h3;rw[f4X,show ∀ a b c:Int,a-b-(c-b-(c-a))=0 by intros;omega];exact Int.dvd_zero _
 have cB:=M6_ hp hp2 fB;have cD:=M6_ hp hp2 fD;have cE:=M6_ hp hp2 fE;have cG:=M6_ hp hp2 fG;generalize (kerL p rB B v).length=b at *;generalize (kerL p rD D v).length=d at *;generalize (kerL p rE E u).length=e at *;generalize (kerL p rG G u).length=g at *;generalize rkF p rB v B=kB at *;generalize rkF p rD v D=kD at *;generalize rkF p rE u E=kE at *;generalize rkF p rG u G=kG at *;have h1:g*b*(p ^ (kD+kE)*p ^ (kB+kG))≤d*e*(p ^ (kD+kE)*p ^ (kB+kG)):=Nat.mul_le_mul_right _ main;have e1:g*b*(p ^ (kD+kE)*p ^ (kB+kG))=p ^ (kD+kE)*((g*p ^ kG)*(b*p ^ kB)):=by
  rw[Nat.pow_add p kB kG];ac_rfl
 have e2:d*e*(p ^ (kD+kE)*p ^ (kB+kG))=p ^ (kB+kG)*((d*p ^ kD)*(e*p ^ kE)):=by
  rw[Nat.pow_add p kD kE];ac_rfl
 rw[e1,e2,cB,cD,cE,cG,Nat.mul_comm (p ^ u)]at h1;have h2:p ^ (kD+kE)≤p ^ (kB+kG):=Nat.le_of_mul_le_mul_right h1 (Nat.mul_pos (Nat.pow_pos hp0) (Nat.pow_pos hp0));exact (Nat.pow_le_pow_iff_right (by omega)).1 h2
def dN (x:Rp) (j:Nat):Nat:=(x.d.getD j 0).toNat
def mpF (x:Rp) (j:Nat):Nat→Nat→Int:=B5_ (x.m.getD j mx0).a (dN x j)
def pdF (x:Rp) (v:Nat):Nat→Nat→Nat→Int
 | 0=>idF
 | n+1=>muP x.p (dN x (v+n)) (mpF x (v+n)) (pdF x v n)
def rtF (x:Rp) (v w:Nat):Int:=if w<v then 0 else (rkF x.p (dN x w) (dN x v) (pdF x v (w-v)):Int)
def okL (x:Rp):Bool:=m9_ x && isL x.q
def rtM (x:Rp):List (List Int)×Bool:=if okL x then (matF x.d.length (rtF x),true) else ([],false)
def rtA (L:Nat) (f:Nat→Nat→Int) (v:Nat):List (List Int):=(List.range L).map fun a=>if a<v then rowF L (f a) else []
def rtR (L:Nat) (f:Nat→Nat→Int) (v k:Nat):List Int:=rowF L fun b=>if b<k then f v b else 0
def rtBB (L:Nat) (f:Nat→Nat→Int) (v k:Nat):List (List Int):=(List.range L).map fun a=>if a<v then rowF L (f a) else if a=v then rtR L f v k else []
theorem i6z (L:Nat) (f:Nat→Nat→Int):rtA L f 0=List.replicate L []:=by
 simp only[rtA];rw[←List.length_range (n:=L),←List.map_const',List.length_range];refine List.map_congr_left fun a _=>?_
 rw[if_neg (by omega)]
theorem b6q (L:Nat) (f:Nat→Nat→Int) (v:Nat):(rtA L f v).length=L:=by simp[rtA]
theorem U5_ {L v:Nat} (f:Nat→Nat→Int) (k:Nat) (h:v<L):(rtBB L f v k)[v]?=some (rtR L f v k):=by
 simp[rtBB,h]
theorem i2j (L:Nat) (f:Nat→Nat→Int) (v:Nat):List.replicate L 0=rtR L f v 0:=by
 rw[show List.replicate L (0:Int)=rowF L (fun _=>0) from by rw[rowF,List.map_const',List.length_range]];exact d1_ fun b _=>by rw[if_neg (by omega)]
theorem a4Q {L v k:Nat} (f:Nat→Nat→Int):(rtR L f v k).set k (f v k)=rtR L f v (k+1):=by
 rw[rtR,o4_];refine d1_ fun b _=>?_
 by_cases e:b=k
 ·rw[if_pos e,if_pos (by omega),e]
 ·rw[if_neg e];by_cases h:b<k
  ·rw[if_pos h,if_pos (by omega)]
  ·rw[if_neg h,if_neg (by omega)]
theorem d8j {L v:Nat} (f:Nat→Nat→Int) (h0:∀ w,w<v→f v w=0):(rtR L f v 0).set v (f v v)=rtR L f v (v+1):=by
 rw[rtR,o4_];refine d1_ fun b _=>?_
 by_cases e:b=v
 ·rw[if_pos e,if_pos (by omega),e]
 ·rw[if_neg e,if_neg (by omega)];by_cases h:b<v
  ·rw[if_pos (by omega),h0 b h]
  ·rw[if_neg (by omega)]
theorem f3z {L v:Nat} {F G:Nat→List Int} {r:List Int} (h:∀ a,a≠v→F a=G a) (hv:G v=r):((List.range L).map F).set v r=(List.range L).map G:=by
 apply List.ext_getElem?
 intro a;rw[List.getElem?_set,List.length_map,List.length_range];by_cases ha:a<L
 ·by_cases e:v=a
  ·subst e;rw[if_pos rfl,if_pos ha];simp[ha,hv]
  ·rw[if_neg e];simp[ha,h a (fun h=>e h.symm)]
 ·by_cases e:v=a
  ·subst e;rw[if_pos rfl,if_neg ha];simp[Nat.le_of_not_lt ha]
  ·rw[if_neg e];simp[Nat.le_of_not_lt ha]
theorem g3q {L v:Nat} (f:Nat→Nat→Int):(rtA L f v).set v (List.replicate L 0)=rtBB L f v 0:=by
 refine f3z (fun a ha=>?_) ?_
 ·by_cases h:a<v
  ·rw[if_pos h,if_pos h]
  ·rw[if_neg h,if_neg h,if_neg ha]
 ·rw[if_neg (by omega),if_pos rfl];exact (i2j L f v).symm
theorem b2x {L v k k':Nat} (f:Nat→Nat→Int):(rtBB L f v k).set v (rtR L f v k')=rtBB L f v k':=by
 refine f3z (fun a ha=>?_) ?_
 ·by_cases h:a<v
  ·rw[if_pos h,if_pos h]
  ·rw[if_neg h,if_neg h,if_neg ha,if_neg ha]
 ·rw[if_neg (by omega),if_pos rfl]
theorem c8j (L:Nat) (f:Nat→Nat→Int) (v:Nat):rtR L f v L=rowF L (f v):=d1_ fun b hb=>by rw[if_pos hb]
theorem d7X (L:Nat) (f:Nat→Nat→Int) (v:Nat):rtBB L f v L=rtA L f (v+1):=by
 refine List.map_congr_left fun a _=>?_
 by_cases h:a<v
 ·rw[if_pos h,if_pos (by omega)]
 ·rw[if_neg h];by_cases e:a=v
  ·rw[if_pos e,if_pos (by omega),c8j,e]
  ·rw[if_neg e,if_neg (by omega)]
theorem g3j (L:Nat) (f:Nat→Nat→Int):rtA L f L=matF L f:=List.map_congr_left fun a ha=>by rw[if_pos (List.mem_range.1 ha)]
theorem i6j {p:Nat} (hp:c8_ p=true) (d:Nat):rkF p d d idF=d:=by
 have hp2:2≤p:=by have:=f9_ hp;omega
 have hf:InF p d d idF:=fun a b _ _=>by unfold idF;split <;> omega
 have hc:=M6_ hp hp2 hf;have h1:(kerL p d idF d).length=1:=by
  have hK:∀ x,x∈kerL p d idF d→∀ t,t<d→(p:Int)∣at0 x t-0:=by
   intro x hx t ht;have h:=(c4_.1 hx).2 t ht;rw[a3_ (b:=fun s=>if s=t then at0 x s else 0) fun s _=>by
    unfold idF;by_cases e:t=s
    ·rw[if_pos e,if_pos e.symm,Int.one_mul]
    ·rw[if_neg e,if_neg (fun h=>e h.symm),Int.zero_mul],r6_ (h:=fun s=>at0 x s) ht]at h
   rwa[Int.sub_zero]
  have hz:List.replicate d (0:Int)∈kerL p d idF d:=by
   refine c4_.2 ⟨⟨by simp,fun e he=>?_⟩,fun i hi=>?_⟩
   ·obtain⟨_,rfl⟩:=List.mem_replicate.1 he;omega
   ·refine n3_ fun t ht=>?_
    have:at0 (List.replicate d (0:Int)) t=0:=by simp[at0,ht]
    rw[this,Int.mul_zero];exact Int.dvd_zero _
  apply Nat.le_antisymm
  ·refine t3_ (m:=[List.replicate d (0:Int)]) (j3_ _ _ _ _) fun x hx=>?_
   rw[List.mem_singleton];refine P1_ (c4_.1 hx).1 (c4_.1 hz).1 fun t ht=>?_
   have:at0 (List.replicate d (0:Int)) t=0:=by simp[at0,ht]
   rw[this];exact hK x hx t ht
  ·exact List.length_pos_of_mem hz
 rw[h1,Nat.one_mul]at hc;exact (Nat.pow_right_inj (by omega)).1 hc
theorem T8_ {x:Rp} (h:okL x=true):m9_ x=true∧isL x.q=true∧c8_ x.p=true∧1≤x.d.length∧x.d.length≤5∧x.m.length+1=x.d.length∧(∀ j,j<x.d.length→x.d[j]?=some (dN x j:Int)∧dN x j≤4) ∧
  ∀ j,j+1<x.d.length→x.m[j]?=some (mxF (dN x (j+1)) (dN x j) (mpF x j))∧InF x.p (dN x (j+1)) (dN x j) (mpF x j):=by
 simp only[okL,l9_]at h;obtain⟨h1,h2⟩:=h;obtain⟨a1,a2,a3,_⟩:=j0_.1 h1;obtain⟨b1,b2,b3,_⟩:=c3_.1 a2;obtain⟨⟨c1,c2⟩,c3,_⟩:=j2_.1 b1;have hL:=h2;simp only[isL,l9_,decide_eq_true_eq,List.all_eq_true,List.mem_range]at hL;obtain⟨⟨_,d1⟩,d2⟩:=hL;have hd:∀ j,j<x.d.length→x.d[j]?=some (dN x j:Int)∧dN x j≤4:=fun j hj=>by
  have e:=l2_ hj;have:=b3 _ (l4_ e);have e2:dN x j=(x.d[j]).toNat:=by rw[dN,l1_,e];rfl
  refine⟨by rw[e,e2];congr 1;omega,by omega⟩
 refine⟨h1,h2,a1,by omega,by omega,by omega,hd,fun j hj=>?_⟩;have hk:j<x.q.f.length:=by omega
 obtain⟨m,nf,nt,yf,yt,em,ef,et,df,dt,hm,hr,_⟩:=T3_ h1 hk;have h3:=d2 j hk;simp only[l1_,ef,et,Option.getD_some,lnAt,decide_eq_true_eq]at h3;obtain rfl:nf=j:=by omega
 obtain rfl:nt=nf+1:=by omega
 have e1:=(hd nf (by omega)).1;have e2:=(hd (nf+1) (by omega)).1;rw[df]at e1;rw[dt]at e2;injection e1 with e1
 injection e2 with e2
 have e1':yf=dN x nf:=by omega
 have e2':yt=dN x (nf+1):=by omega
 have e3:mpF x nf=B5_ m.a yf:=by rw[mpF,l1_,em,e1'];rfl
 rw[e3,←e1',←e2'];exact⟨by rw[em];congr 1,hr⟩
theorem s4_ {x:Rp} (hp:c8_ x.p=true) (v:Nat):∀ n,InF x.p (dN x (v+n)) (dN x v) (pdF x v n)
 | 0=>fun a b _ _=>by
  have:=f9_ hp;simp only[pdF,idF];split <;> omega
 | n+1=>fun a b _ _=>by
  have:=f9_ hp;exact L8_ this.1 _ _ _ _ _
theorem b2J {x:Rp} (hp:c8_ x.p=true) (v:Nat):rtF x v v=dN x v:=by
 obtain⟨P,hP⟩:=Int.eq_ofNat_of_zero_le (show 0≤x.p by have:=f9_ hp;omega);rw[rtF,if_neg (by omega),Nat.sub_self,pdF];have hp':=hp;rw[hP]at hp'⊢;rw[i6j hp']
theorem c7X (x:Rp) {v w:Nat} (h:w<v):rtF x v w=0:=if_pos h
theorem a4J {x:Rp} (hd:∀ j,dN x j≤4) (v w:Nat):0≤rtF x v w∧rtF x v w≤4:=by
 unfold rtF;split
 ·omega
 ·have:=r5_ x.p (dN x w) (dN x v) (pdF x v (w-v));have:=hd w;omega
theorem a7x {x:Rp} (h:okL x=true) (j:Nat):dN x j≤4:=by
 obtain⟨_,_,_,_,_,_,h1,_⟩:=T8_ h;by_cases hj:j<x.d.length
 ·exact (h1 j hj).2
 ·simp[dN,l1_,l6_ (Nat.le_of_not_lt hj)]
theorem i1X (r:Int) (d L i cap:Nat) (A:Option Addr) (w:World) (hd:d=0) (hL:L=0) (hb:cap≤9223372036854775807) (hi:i≤1000) :
  Calls Tryz.prog 83 #[.agg #[.int .i64 r,.int .i64 d,.slice A L cap],.int .i64 i] w fun e w'=>∃ A',e = .returned (.slice A' 0 cap)∧Below w.heap.size w w':=by
 subst hd hL;exact U4_ r i cap A w hb hi
theorem y2_ (p k:Int) (va vb:Value) (B:Option Addr) (d c:Nat) (w:World) (hd:d=0) (hv:∃ A n m,va = .slice A n m) (hvb:vb = .slice B d c) (hc:c≤9223372036854775807) :
  Calls Tryz.prog 84 #[.int .i64 p,va,.int .i64 k,vb] w fun e w'=>e = .returned va∧w'=w:=by
 subst hd hvb;exact u5_ p k va B c w hv hc
theorem E7_ {p:Int} {r c:Nat} {f:Nat→Nat→Int} (hp:2≤p∧p≤5) (h:InF p r c f) {a b:Nat} (ha:a<r) (hb:b<c):0≤f a b∧f a b≤4:=by
 have:=h a b ha hb;omega
theorem N1_ (p:Int) (u v:Value) (r c d:Nat) (f g:Nat→Nat→Int) (w0:World) (hp:2≤p∧p≤5) (hr:r≤1000) (hc:c≤1000) (hd:d≤1000) (hu:MxR w0 w0.heap.size u (mxF r c f)) (hv:MxR w0 w0.heap.size v (mxF c d g)) (hf:InF p r c f) (hg:InF p c d g) :
  Calls Tryz.prog 38 #[.int .i64 p,u,v] w0 fun e w'=>∃ m,e = .returned m∧MxO w' w0.heap.size w'.heap.size m (mxF r d (muP p c f g))∧Below w0.heap.size w0 w':=by
 have hu':=hu;have hv':=hv;obtain⟨U,uc,rfl⟩:=hu.form;obtain⟨V,vc,rfl⟩:=hv.form;simp only[mxF,a1_]at hu hu' hv hv'⊢;obtain⟨UL,hUL⟩:=e_ (r*c);obtain⟨VL,hVL⟩:=e_ (c*d);rw[hUL]at hu hu'⊢;rw[hVL]at hv hv'⊢;have HUL:=h_ hUL;have HVL:=h_ hVL;clear hu hv hUL hVL;obtain⟨W,hW⟩:∃ W,W=((w0.alloc (.cells #[.int .i64 r,.int .i64 c,.slice U UL uc] 65)).alloc (.cells #[.int .i64 c,.int .i64 d,.slice V VL vc] 65)).alloc (.cells #[.int .i64 0,.int .i64 0,.slice none 0 0] 65):=⟨_,rfl⟩;have g0:Below w0.heap.size w0 W:=by rw[hW];exact (((Below.refl _ _).alloc (l_ _) _).alloc (by simp) _).alloc (by simp;omega) _
 have k1:Blk W w0.heap.size 65 #[.int .i64 r,.int .i64 c,.slice U UL uc]:=by rw[hW];exact ((Blk.new _ _ _).alloc _).alloc _
 have k2:Blk W (w0.heap.size+1) 65 #[.int .i64 c,.int .i64 d,.slice V VL vc]:=by
  rw[hW];have:=(Blk.new (w0.alloc (.cells #[.int .i64 r,.int .i64 c,.slice U UL uc] 65)) 65 #[.int .i64 c,.int .i64 d,.slice V VL vc]).alloc (.cells #[.int .i64 0,.int .i64 0,.slice none 0 0] 65);simpa only[l3_] using this
 have k3:Blk W (w0.heap.size+1+1) 65 #[.int .i64 0,.int .i64 0,.slice none 0 0]:=by
  rw[hW];have:=Blk.new ((w0.alloc (.cells #[.int .i64 r,.int .i64 c,.slice U UL uc] 65)).alloc (.cells #[.int .i64 c,.int .i64 d,.slice V VL vc] 65)) 65 #[.int .i64 0,.int .i64 0,.slice none 0 0];simpa only[l3_] using this
 have sz:W.heap.size=w0.heap.size+1+1+1:=by rw[hW];simp
 have SZ:=h_ sz;have HU:=h_ hu';have HV:=h_ hv';have HF:=h_ hf;have HG:=h_ hg;obtain⟨a0,a1,a2⟩:=c_3 k1;obtain⟨b0,b1,b2⟩:=c_3 k2;clear hu' hv' hf hg sz;go_enter Tryz.func38,Tryz.ntmps38
 go_wp2_with fail
 rw[←hW];clear hW;refine (r8_ r d _ (by omega) (by omega) (by omega) (by omega)).mono ?_;rintro e w1 ⟨v1,rfl,hZ,hb1⟩;rw[o6_]at hZ;obtain⟨A,cap,e1⟩:=hZ.form;subst e1;simp only[mxF,a1_]at hZ⊢;obtain⟨sA,esA,oZ,hr1,hr2⟩:=hZ;simp only[Value.agg.injEq,Array.mk.injEq,List.cons.injEq,and_true,true_and]at esA;subst esA;obtain⟨L,hL⟩:=e_ (r*d);rw[hL]at oZ⊢;have HL:=h_ hL;clear hL;have s1:=hb1.size;obtain⟨w2,hw2⟩:∃ u,u=w1.alloc (.cells #[.int .i64 r,.int .i64 d,.slice A L cap] 65):=⟨_,rfl⟩;have b2':Below w1.heap.size w1 w2:=by rw[hw2];exact a0_ _ _
 have k4:Blk w2 w1.heap.size 65 #[.int .i64 r,.int .i64 d,.slice A L cap]:=by rw[hw2];exact Blk.new _ _ _
 have oZ2:=oZ.below b2';rw[i5q p c r d f g]at oZ2;have s2:=b2'.size;have l4:=k4.lt;have gW2:=b0_ hb1 b2';have K1:=h_ k1;have K2:=h_ k2;have K3:=h_ k3;have G0:=h_ g0;have hWs:=SZ.out;clear a0 a1 a2 b0 b1 b2 oZ b2' hb1 k1 k2 k3 g0;have k1:=(K1.out).below gW2 (by omega);have a0:=k1.cell' (i:=0) rfl;rw[hw2]at a0;go_wp2;rw[←hw2];clear hw2 a0 k1;go_loopw [18] (fun i wr=>∃ i':Nat,i'≤r∧i = .int .i64 i'∧Blk wr w1.heap.size 65 #[.int .i64 r,.int .i64 d,.slice A L cap]∧a8_ wr W.heap.size w1.heap.size (.slice A L cap) (flat r d (muS p c i' 0 f g))∧Below W.heap.size W wr) (fun i _=>r-(intOf i).toNat)
 case atStart=>exact⟨0,l0_ _,rfl,k4,oZ2,gW2⟩
 case round =>
  clear k4 oZ2 gW2;obtain⟨i,hi,rfl,k4,oA,gW⟩:=hrel;have sW:=gW.size;by_cases hlr:i<r
  ·have k1:=K1.out.below gW (by omega);have k2:=K2.out.below gW (by omega);obtain⟨a0,a1,a2⟩:=c_3 k1;obtain⟨b0,b1,b2⟩:=c_3 k2;have gw:=G0.out.trans (gW.mono (by omega));have hUr:MxR wr w0.heap.size (.agg #[.int .i64 r,.int .i64 c,.slice U UL uc]) (mxF r c f):=MxR.below gw HU.out;have HUR:=h_ hUr;clear hUr;go_wp2_with fail
   refine (c7Q _ r c i w0.heap.size f _ HUR.out gw.size hr hc hlr).mono ?_;rintro e w3 ⟨vr,rfl,hR,hb3⟩;obtain⟨RA,rc,ev,hrc1,hrc2,_,hR⟩:=hR.open_;subst ev;rw[a2_]at hR⊢;have s3:=hb3.size;have HR3:=h_ hR;have k43:=k4.call hb3;have oA3:=oA.below hb3;have gW3:=gW.trans (hb3.mono sW);clear a0 a1 a2 b0 b1 b2 k1 k2 hR k4 oA gW gw hb3;go_wp2;go_loopw [25] (fun k wr=>∃ k':Nat,k'≤c∧k = .int .i64 k'∧Blk wr w1.heap.size 65 #[.int .i64 r,.int .i64 d,.slice A L cap]∧a8_ wr W.heap.size w1.heap.size (.slice A L cap) (flat r d (muS p c i k' f g))∧Below W.heap.size W wr∧SlI wr w0.heap.size (.slice RA c rc) (rowF c (f i))) (fun k _=>c-(intOf k).toNat)
   case atStart=>exact⟨0,l0_ _,rfl,k43,oA3,gW3,HR3.out⟩
   case round =>
    clear k43 oA3 gW3;obtain⟨k,hk,rfl,k4,oA,gW,hR⟩:=hrel;have sW':=gW.size;by_cases hlc:k<c
    ·have hR2:SlI wr w0.heap.size (.slice RA (rowF c (f i)).length rc) (rowF c (f i)):=by rw[a2_];exact hR
     obtain⟨b,o,x,rfl,hbl,HXX,x1,_⟩:=SlI.at_ (k:=k) hR2 (by rw[a2_];exact hlc);have hxx:=HXX.out;rw[c0_ _ hlc]at hxx;injection hxx with hxx
     subst hxx;have hfx:=E7_ hp HF.out hlr hlc;obtain⟨xk,hx⟩:=e_ (f i k);rw[hx]at x1 hfx;have HX:=h_ hx;have HRR:=h_ hR;have hOA:=h_ oA;have hK4:=h_ k4;have hGW:=h_ gW;clear hx hR hR2 HXX oA k4 gW;go_wp2;clear x1;rcases Nat.eq_zero_or_pos d with hd0 | hd0
     ·have hL0:L=0:=by have:=HL.out;rw[hd0,Nat.mul_zero]at this;exact this.symm
      have e0:∀ h,flat r d h=[]:=fun h=>by simp[flat,hd0]
      have E0:=h_ e0;have HD0:=h_ hd0;have HL0:=h_ hL0;have hcap:cap≤9223372036854775807:=by
       obtain⟨_,cL,eL,lA1,lA2⟩:=(hOA.out).1.form;injection eL with eLx eLy eL3
       omega
      clear hd0 hL0 e0;refine a9_ (by kernel_rfl) [.eq (.int .i64 p),.eq (.agg #[.int .i64 r,.int .i64 d,.slice A L cap]),.eq (.int .i64 i),rel 3 (fun u lo hi w=>∃ A n m,u = .slice A n m),.eq (.int .i64 xk),.eq (.agg #[.int .i64 c,.int .i64 d,.slice V VL vc]),.eq (.int .i64 k),rel 7 (fun u lo hi w=>∃ A m,m≤9223372036854775807∧u = .slice A d m)] [[],[],[],[1,2],[],[],[],[1,2,3,5,6],[0,1,2,3,4,5,6,7]] 8 (by kernel_rfl) ⟨trivial,trivial,trivial,a7_ (fun u lo hi w w' h hb=>h),trivial,trivial,trivial,a7_ (fun u lo hi w w' h hb=>h),trivial⟩ ⟨?_,?_,?_,?_,?_,?_,?_,?_,trivial⟩ ?_;iterate 8 (intro x w hb hk Q' hQ;have he:=k_e hk;simp only[k_s]at he;simp only[netE]at hQ⊢;(try simp only[he]at hQ⊢);(try clear he);rotate_left)
      rotate_left
      ·clear hk;go_wp2;exact hQ _ _ br_ rfl
      ·clear hk;have kq:=hK4.out.call hb;obtain⟨z0,z1,z2⟩:=c_3 kq;go_wp2;exact hQ _ _ br_ rfl
      ·clear hk;go_wp2;exact hQ _ _ br_ rfl
      ·clear hk;go_wp2_with fail
       refine (i1X (r:Int) d L i cap A _ HD0.out HL0.out hcap (by omega)).mono ?_;rintro e w5 ⟨A5,rfl,hb5⟩;go_wp2;exact hQ _ _ hb5 ⟨_,_,_,rfl⟩
      ·clear hk;go_wp2;exact hQ _ _ br_ rfl
      ·clear hk;have kq:=(K2.out.below hGW.out (by omega)).call hb;obtain⟨z0,z1,z2⟩:=c_3 kq;go_wp2;exact hQ _ _ br_ rfl
      ·clear hk;go_wp2;exact hQ _ _ br_ rfl
      ·have h3:∃ A n m,(x.v 3) = .slice A n m:=(hk 3 (by decide)).1;have s3:=(hk 3 (by decide)).2;clear hk;have gz:=(G0.out.trans (hGW.out.mono (by omega))).trans (hb.mono (by omega));have HVR:=h_ (MxR.below gz HV.out);have gzs:=gz.size;clear gz;go_wp2_with fail
       refine (c7Q _ c d k w0.heap.size g _ HVR.out gzs hc hd hlc).mono ?_;rintro e w5 ⟨v5,rfl,hR5,hb5⟩;obtain⟨A5,c5,e5,_,hc5,_⟩:=hR5.open_;subst e5;rw[a2_];go_wp2;exact hQ _ _ hb5 ⟨_,_,hc5,rfl⟩
      ·intro x w hb hk hiv hdj;have h3:∃ A n m,(x.v 3) = .slice A n m:=hk 3 (by decide);have h7:∃ A m,m≤9223372036854775807∧(x.v 7) = .slice A d m:=hk 7 (by decide);have he:=k_g hk [0,1,2,4,5,6];simp only[k_s]at he;simp only[netE,he];clear he hk;obtain⟨A3,n3,m3,e3⟩:=h3;obtain⟨A7,m7,hm7,e7⟩:=h7;have HB:=h_ hb;have HGW2:=h_ ((hGW.out).trans (hb.mono (by omega)));have hR6:=SlI.below (hb.mono (by omega)) HRR.out;have hA2:=(hOA.out).below hb;have k46:=(hK4.out).call hb;rw[E0.out]at hA2;have HA2:=h_ (show a8_ w W.heap.size w1.heap.size (.slice A L cap) (flat r d (muS p c i (k+1) f g)) by rw[E0.out];exact hA2);have E3:=h_ e3;have E7:=h_ e7;clear hb hiv hdj hA2 e3 e7;go_wp2_with fail
       refine (y2_ p xk _ _ A7 d m7 _ HD0.out ⟨_,_,_,E3.out⟩ E7.out hm7).mono ?_;rintro e w6 ⟨rfl,hww⟩;replace hww:=hww.symm;subst hww;go_wp2;go_roundw
       ·exact⟨k+1,by omega,by simp,k46,HA2.out,HGW2.out,hR6⟩
       ·show c-(k+1)<c-k;omega
     ·obtain⟨P,hP⟩:∃ P,P=i*d:=⟨_,rfl⟩;have hrp:=rowP hlr hd0 hr hd hP;rw[HL.out]at hrp;obtain⟨gA,cA,eA,q1,q2,q3⟩:=(hOA.out).at_ (by rw[a1_,HL.out];omega);rw[a1_,HL.out]at eA;injection eA with eA1 eA2 eA3
      subst eA1 eA3;obtain⟨_,cL,eL,lA1,lA2⟩:=(hOA.out).1.form;injection eL with eLx eLy eL3
      rw[←eL3,a1_,HL.out]at lA1;rw[←eL3]at lA2;clear eLx eLy eL3;have q5:flat r d (muS p c i k f g)=rowF L (fun a=>muS p c i k f g (a / d) (a % d)):=by rw[←HL.out];rfl
      have HP:=h_ hP;clear hP;refine a9_ (by kernel_rfl) [.eq (.int .i64 p),.eq (.agg #[.int .i64 r,.int .i64 d,.slice (some ⟨gA,0,none⟩) L cap]),.eq (.int .i64 i),.eq (.slice (some ⟨gA,P,none⟩) d (cap-P)),.eq (.int .i64 xk),.eq (.agg #[.int .i64 c,.int .i64 d,.slice V VL vc]),.eq (.int .i64 k),rel 7 (fun u lo hi w=>w0.heap.size≤w.heap.size∧SlI w w0.heap.size u (rowF d (g k)))] [[],[],[],[1,2],[],[],[],[1,2,3,5,6],[0,1,2,3,4,5,6,7]] 8 (by kernel_rfl) ⟨trivial,trivial,trivial,trivial,trivial,trivial,trivial,a7_ (fun u lo hi w w' ⟨h1,h2⟩ hb=>⟨Nat.le_trans h1 hb.size,SlI.below (hb.mono h1) h2⟩),trivial⟩ ⟨?_,?_,?_,?_,?_,?_,?_,?_,trivial⟩ ?_;iterate 8 (intro x w hb hk Q' hQ;have he:=k_e hk;simp only[k_s]at he;simp only[netE]at hQ⊢;(try simp only[he]at hQ⊢);(try clear he);rotate_left)
      rotate_left
      ·clear hk;go_wp2;exact hQ _ _ br_ rfl
      ·clear hk;have kq:=hK4.out.call hb;obtain⟨z0,z1,z2⟩:=c_3 kq;go_wp2;exact hQ _ _ br_ rfl
      ·clear hk;go_wp2;exact hQ _ _ br_ rfl
      ·clear hk;go_wp2_with fail
       refine (M7_ (g:=gA) _ hlr hd0 hr hd HL.out.symm lA1 lA2 HP.out).mono ?_;rintro e w5 ⟨rfl,hb5⟩;go_wp2;exact hQ _ _ hb5 rfl
      ·clear hk;go_wp2;exact hQ _ _ br_ rfl
      ·clear hk;have kq:=(K2.out.below hGW.out (by omega)).call hb;obtain⟨z0,z1,z2⟩:=c_3 kq;go_wp2;exact hQ _ _ br_ rfl
      ·clear hk;go_wp2;exact hQ _ _ br_ rfl
      ·clear hk;have gz:=(G0.out.trans (hGW.out.mono (by omega))).trans (hb.mono (by omega));have HVR:=h_ (MxR.below gz HV.out);have gzs:=gz.size;clear gz;go_wp2_with fail
       refine (c7Q _ c d k w0.heap.size g _ HVR.out gzs hc hd hlc).mono ?_;rintro e w5 ⟨v5,rfl,hR5,hb5⟩;have h6:=hb5.size;go_wp2;exact hQ _ _ hb5 ⟨by omega,hR5⟩
      ·intro x w hb hk hiv hdj;have h7:w0.heap.size≤w.heap.size∧SlI w w0.heap.size (x.v 7) (rowF d (g k)):=hk 7 (by decide);have he:=k_g hk [0,1,2,3,4,5,6];simp only[k_s]at he;simp only[netE,he];clear he hk;obtain⟨h71,h72⟩:=h7;have HB:=h_ hb;have HGW2:=h_ ((hGW.out).trans (hb.mono (by omega)));have hbs:=hb.size;have hA':=hOA.out;rw[q5]at hA';have hA2:=hA'.below hb;have hPd:P+d≤L:=by rw[←HL.out];exact (rowP hlr hd0 hr hd HP.out).2.1
       have hrng:∀ a,a<L→0≤muS p c i k f g (a / d) (a % d)∧muS p c i k f g (a / d) (a % d)≤4:=fun a _=>by
        have:=g1z (p:=p) hp.1 c i k f g (a / d) (a % d);omega
       have hrg:∀ b,b<d→0≤g k b∧g k b≤4:=fun b hb=>E7_ hp HG.out hlc hb
       have HRNG:=h_ hrng;have HRG:=h_ hrg;have HK6:=h_ ((hK4.out).call hb);clear hA' hb hiv hdj hrng hrg;go_wp2_with fail
       refine (p9_ p xk gA P d L cap (cap-P) W.heap.size w1.heap.size (fun a=>muS p c i k f g (a / d) (a % d)) (g k) _ _ hp (by omega) hA2 ⟨q1,q2⟩ hPd (by omega) ⟨by omega,by omega⟩ (by omega) (SlI.up (by omega) h72) HRNG.out HRG.out).mono ?_;rintro e w6 ⟨rfl,hO5,hc5,hs5⟩;rw[←HX.out,HP.out,←HL.out,g1x,HL.out]at hO5;have hO5':=hO5;have k46:=(HK6.out).chg hc5 (.inr (l_ _));have gW6:=(HGW2.out).trans (hc5.below (l_ _) (by omega));have hR6:=SlI.below (((HB.out).mono (by omega)).trans (hc5.below (by omega) (by omega))) HRR.out;clear hO5;go_wp2;go_roundw
       ·exact⟨k+1,by omega,by simp,k46,hO5',gW6,hR6⟩
       ·show c-(k+1)<c-k;omega
    ·have hk':k=c:=by omega
     subst hk';rw[d5Q]at oA;go_wp2;go_roundw
     ·exact⟨i+1,by omega,by simp,k4,oA,gW⟩
     ·show r-(i+1)<r-i;omega
  ·have hi':i=r:=by omega
   subst hi';rw[g1q]at oA;have k3':=(K3.out).below gW (by have:=SZ.out;omega);have hlt:=k4.lt;obtain⟨z0,z1,z2⟩:=c_3 k4;obtain⟨p0,p1,p2⟩:=c_3 k3';have f2:=k3'.frozen;have h2:=chg3 wr (w0.heap.size+1+1) (.int .i64 (i:Int)) (.int .i64 d) (.slice A L cap);have gw:Below w0.heap.size w0 wr:=(G0.out).trans (gW.mono (G0.out).size);have gs:=gw.size;have oA2:=(oA.chg h2 (.inr (by have:=SZ.out;omega))).wider (lo':=w0.heap.size) (hi':=wr.heap.size) (by have:=SZ.out;omega) (by omega);have fg:=gw.trans (h2.below (by omega) gs);have OA2:=h_ oA2;have FG:=h_ fg;clear oA oA2 fg gw h2 k3' k4 gW;go_wp2;exact bodyPost_ret (v:=.agg #[.int .i64 (i:Int),.int .i64 d,.slice A L cap]) (by simp[results,go_sem,p0,p1,p2]) rfl ⟨_,rfl,⟨_,rfl,(OA2.out).wider (l_ _) (by simp),hr1,hr2⟩,FG.out⟩
theorem I4_ (u:Value) (x:Rp) (w0:World) (hu:RpR w0 w0.heap.size u x) (hno:okL x=false) :
  Calls Tryz.prog 8 #[u] w0 fun e w'=>∃ v,e = .returned (.tuple #[v,.bool (rtM x).2])∧b4_ w' w0.heap.size w'.heap.size v (rtM x).1∧Below w0.heap.size w0 w':=by
 have hu':=hu;obtain⟨A,a,C,c,E,e,H,h,rfl,hq,hd,hm,hp,ld,lm⟩:=hu.open_;clear hu hd hm;obtain⟨W,hW,g0,kB⟩:=b_3 w0 #[.int .i64 x.p,.int .i64 x.q.v,.slice A x.q.f.length a,.slice C x.q.t.length c,.slice E x.d.length e,.slice H x.m.length h] 29;have HXR:=h_ (RpR.next g0 hu');have HF:=h_ (show rtM x=([],false) by rw[rtM,if_neg (by simp[hno])]);have HQ:=h_ (QvR.next g0 hq);rcases h1:m9_ x with _ | _
 ·have H1:=h_ h1;clear h1 hu' hq;obtain⟨c0,c1,c2,c3,c4,c5⟩:=c_6 kB;go_enter Tryz.func8,Tryz.ntmps8
  go_wp2_with fail
  rw[←hW];clear hW;refine (j4_ _ x _ HXR.out).mono ?_;rintro e w1 ⟨rfl,hb1⟩;rw[H1.out];have g1:=b0_ g0 hb1;clear c0 c1 c2 c3 c4 c5 hb1 kB;go_wp2;go_ret2
  exact⟨.slice none 0 0,by rw[HF.out];rfl,by rw[HF.out];exact b4_.nil _ _ _,g1⟩
 ·have H1:=h_ h1;have H2:=h_ (show isL x.q=false by simpa [okL,h1] using hno);clear h1 hu' hq hno;obtain⟨c0,c1,c2,c3,c4,c5⟩:=c_6 kB;go_enter Tryz.func8,Tryz.ntmps8
  go_wp2_with fail
  rw[←hW];clear hW;refine (j4_ _ x _ HXR.out).mono ?_;rintro e w1 ⟨rfl,hb1⟩;rw[H1.out];have g1:=b0_ g0 hb1;have kB1:=kB.call hb1;have HQ1:=h_ (QvR.next hb1 HQ.out);clear c0 c1 c2 c3 c4 c5 hb1 kB g0;obtain⟨c0,c1,c2,c3,c4,c5⟩:=c_6 kB1;go_wp2_with fail
  refine (g1_ _ x.q _ HQ1.out).mono ?_;rintro e w2 ⟨rfl,hb2⟩;rw[H2.out];have g2:=b0_ g1 hb2;clear c0 c1 c2 c3 c4 c5 hb2 kB1 g1;go_wp2;go_ret2
  exact⟨.slice none 0 0,by rw[HF.out];rfl,by rw[HF.out];exact b4_.nil _ _ _,g2⟩
theorem E2_ (u:Value) (x:Rp) (w0:World) (hu:RpR w0 w0.heap.size u x) (hok:okL x=true) :
  Calls Tryz.prog 8 #[u] w0 fun e w'=>∃ v,e = .returned (.tuple #[v,.bool (rtM x).2])∧b4_ w' w0.heap.size w'.heap.size v (rtM x).1∧Below w0.heap.size w0 w':=by
 have hu':=hu;obtain⟨A,a,C,c,E,e,H,h,rfl,hq,hd,hm,hp,ld,lm⟩:=hu.open_;clear hu lm;obtain⟨W,hW,g0,kB⟩:=b_3 w0 #[.int .i64 x.p,.int .i64 x.q.v,.slice A x.q.f.length a,.slice C x.q.t.length c,.slice E x.d.length e,.slice H x.m.length h] 29;have HXR:=h_ (RpR.next g0 hu');have HQ1:=h_ (QvR.next g0 hq);clear hu';obtain⟨h1,h2,h3,l1,l5,lm,hds,hms⟩:=T8_ hok;have hpr:=f9_ h3;have HF:=h_ (show rtM x=(matF x.d.length (rtF x),true) by rw[rtM,if_pos hok]);have H1:=h_ h1;have H2:=h_ h2;have H3:=h_ h3;have HDS:=h_ hds;have HMS:=h_ hms;have HDA:=h_ (a7x hok);have HQ:=h_ hq;have HM:=h_ hm;have HD:=h_ hd;have LM:=h_ lm;clear h1 h2 h3 hds hms hok hq hm hd lm;obtain⟨bd,od,ed,hbd⟩:∃ b o,E=some ⟨b,o,none⟩∧b<w0.heap.size:=by
  obtain⟨b,o,_,h1,h2,_⟩:=SlI.at_ (k:=0) HD.out (by omega);exact⟨b,o,h1,h2⟩
 subst ed;obtain⟨c0,c1,c2,c3,c4,c5⟩:=c_6 kB;go_enter Tryz.func8,Tryz.ntmps8
 go_wp2_with fail
 rw[←hW];clear hW;refine (j4_ _ x _ HXR.out).mono ?_;rintro e w1 ⟨rfl,hb1⟩;rw[H1.out];have g1:=b0_ g0 hb1;have kB1:=kB.call hb1;have HQ2:=h_ (QvR.next hb1 HQ1.out);clear c0 c1 c2 c3 c4 c5 hb1 kB g0;obtain⟨c0,c1,c2,c3,c4,c5⟩:=c_6 kB1;go_wp2_with fail
 refine (g1_ _ x.q _ HQ2.out).mono ?_;rintro e w2 ⟨rfl,hb2⟩;rw[H2.out];have g2:=b0_ g1 hb2;have kB2:=kB1.call hb2;clear c0 c1 c2 c3 c4 c5 hb2 kB1 g1;obtain⟨w3,hw3⟩:∃ u,u=w2.alloc (.cells (f4_ (.slice none 0 0) x.d.length) 24):=⟨_,rfl⟩;have b3:Below w2.heap.size w2 w3:=by rw[hw3];exact a0_ _ _
 have iO:b4_ w3 w2.heap.size w3.heap.size (.slice (some ⟨w2.heap.size,0,none⟩) x.d.length x.d.length) (rtA x.d.length (rtF x) 0):=by rw[hw3,i6z];exact b4_.made w2 (l_ _) (by omega)
 have kB3:=kB2.call b3;have g3:=b0_ g2 b3;have sg2:=g2.size;have kBlt:=kB2.lt;have s23:w2.heap.size<w3.heap.size:=by rw[hw3];simp
 have p2:=kB2.cell' (i:=4) rfl;clear kB2 g2;have hmk2:=d8z w2 (n:=x.d.length) (by omega);rw[←hw3]at hmk2;have c2:=kB3.cell' (i:=4) rfl;clear hw3;go_wp2;clear hmk2 p2 c2;go_loopw [25] (fun i wr=>∃ v:Nat,v≤x.d.length∧i = .int .i64 v∧Below w2.heap.size w3 wr∧b4_ wr w2.heap.size wr.heap.size (.slice (some ⟨w2.heap.size,0,none⟩) x.d.length x.d.length) (rtA x.d.length (rtF x) v)) (fun i _=>x.d.length-(intOf i).toNat)
 case atStart=>exact⟨0,l0_ _,rfl,Below.refl _ _,iO⟩
 case round =>
  clear iO;obtain⟨v,hv,rfl,hbel,hO⟩:=hrel;have ws:=hbel.size;have kBr:=kB3.below hbel (by omega);have gw:=g3.trans (hbel.mono (by omega));by_cases hlt:v<x.d.length
  ·obtain⟨bd',od',D0,ed,hbd',HX,x1,_⟩:=SlI.at_ (k:=v) HD.out hlt;injection ed with ed
   injection ed with ed1 ed2
   subst ed1 ed2;have hx:=HX.out;rw[(HDS.out v hlt).1]at hx;injection hx with hx
   subst hx;have hDv:=HDA.out v;have x2:=a4_ gw hbd x1;obtain⟨X,hX⟩:∃ u,u=wr.alloc (.cells (f4_ (.int .i64 0) x.d.length) 3):=⟨_,rfl⟩;have hmkX:=A5_ wr (n:=x.d.length) (by omega);rw[←hX]at hmkX;have bX:Below wr.heap.size wr X:=by rw[hX];exact a0_ _ _
   have rX:a8_ X wr.heap.size X.heap.size (.slice (some ⟨wr.heap.size,0,none⟩) x.d.length x.d.length) (List.replicate x.d.length 0):=by
    rw[hX];exact a8_.of_own (OwnI.made0 (l_ _) (by omega))
   have sX:X.heap.size=wr.heap.size+1:=by rw[hX];simp
   have hOX:=hO.below bX;obtain⟨u0,y1,_,y2⟩:=hOX.row (j:=v) (l:=[]) (by rw[rtA,List.getElem?_map,List.getElem?_range hlt];simp);have y3:=(rX.1.cellG (j:=v) (by simpa using hlt)).1;have y4:=rX.1.frozenG v;have st1:=hOX.setRow (j:=v) (by rw[b6q];exact hlt) rX (l_ _) (by omega) (by omega);rw[g3q]at st1;have st2:=st1.1.put (i:=v) (x:=rtF x v v) (U5_ (rtF x) 0 hlt) (World.cell?_setCell_same _ _ _ y1) (by have:=a4J HDA.out v v;constructor <;> omega);rw[d8j (rtF x) (fun w hw=>c7X x hw),b2x,b2J H3.out]at st2;obtain⟨Z,hZ⟩:∃ u,u=(X.setCell ⟨w2.heap.size,v,none⟩ (.slice (some ⟨wr.heap.size,0,none⟩) x.d.length x.d.length)).setCell ⟨wr.heap.size,v,none⟩ (.int .i64 (dN x v)):=⟨_,rfl⟩;have hOZ:b4_ Z w2.heap.size X.heap.size (.slice (some ⟨w2.heap.size,0,none⟩) x.d.length x.d.length) (rtBB x.d.length (rtF x) v (v+1)):=by rw[hZ];exact st2.1
   have sZ:Z.heap.size=wr.heap.size+1:=by rw[hZ];simpa using sX
   have bZ:Below w2.heap.size w3 Z:=by
    rw[hZ];exact (hbel.trans (bX.mono (by omega))).trans ((st1.2.below (l_ _) (by omega)).trans (c9_ st2.2 (fun k hk=>by injection hk with hk;omega) (by simp;omega)))
   have rZ:Z.cell? ⟨w2.heap.size,v,none⟩=some (.slice (some ⟨wr.heap.size,0,none⟩) x.d.length x.d.length):=by
    rw[hZ,World.cell?_setCell_far _ _ _ _ (show wr.heap.size≠w2.heap.size by omega)];exact World.cell?_setCell_same _ _ _ y1
   have p2:=kBr.cell' (i:=4) rfl;have HOZ:=h_ hOZ;have BZ:=h_ bZ;have RZ:=h_ rZ;have q2:=(kBr.call bX).cell' (i:=4) rfl;clear hO hOX st1 st2 rX bX hX hbel HX x1 hOZ bZ rZ;go_wp2_with fail
   rw[←hZ];clear hZ hmkX y1 y2 y3 y4 p2 q2 x2;refine (X8_ (dN x v) _ (by omega)).mono ?_;rintro e w4 ⟨m4,rfl,hI,hb4⟩;obtain⟨MA,mc,em⟩:=hI.form;subst em;simp only[mxF,a1_]at hI⊢;obtain⟨MN,hMN⟩:=e_ (dN x v*dN x v);rw[hMN]at hI⊢;obtain⟨s4,es,oI,_,_⟩:=hI;simp only[Value.agg.injEq,Array.mk.injEq,List.cons.injEq,and_true,true_and]at es;subst es;obtain⟨w5,hw5,b5,k5⟩:=b_3 w4 #[.int .i64 (dN x v),.int .i64 (dN x v),.slice MA MN mc] 65;have b45:=b0_ hb4 b5;have s45:=b45.size;have s4:=hb4.size;have s5:w5.heap.size=w4.heap.size+1:=by rw[hw5];simp
   have oI5:a8_ w5 Z.heap.size w4.heap.size (.slice MA MN mc) (flat (dN x (v+0)) (dN x v) (pdF x v 0)):=by
    have:=oI.below b5;exact this
   have hO5:=HOZ.out.below b45;have B5:=BZ.out.trans (b45.mono (by omega));have r5:=a4_ b45 (by omega) RZ.out;obtain⟨G,hG⟩:∃ z,z=wr.heap.size:=⟨_,rfl⟩;rw[←hG]at r5 sZ sX;have hG2:w2.heap.size<G:=by omega
   clear hG;clear oI b5 hb4 hMN b45;go_wp2;rw[←hw5];clear hw5;go_loopw [8] (fun i wr=>∃ (n NN K:Nat) (MA:Option Addr) (mc:Nat),v+1+n≤x.d.length∧i = .int .i64 (K:Int)∧Hid (K=v+1+n)∧Below w2.heap.size w3 wr∧w5.heap.size≤wr.heap.size∧b4_ wr w2.heap.size Z.heap.size (.slice (some ⟨w2.heap.size,0,none⟩) x.d.length x.d.length) (rtBB x.d.length (rtF x) v (v+1+n)) ∧
    wr.cell? ⟨w2.heap.size,v,none⟩=some (.slice (some ⟨G,0,none⟩) x.d.length x.d.length) ∧
    Blk wr w4.heap.size 65 #[.int .i64 (dN x (v+n)),.int .i64 (dN x v),.slice MA NN mc]∧a8_ wr Z.heap.size wr.heap.size (.slice MA NN mc) (flat (dN x (v+n)) (dN x v) (pdF x v n))) (fun i _=>x.d.length-(intOf i).toNat)
   case atStart=>exact⟨0,MN,v+1,MA,mc,by omega,by simp,rfl,B5,l_ _,hO5.wider (l_ _) (by omega),r5,k5,oI5.wider (l_ _) (by omega)⟩
   case round =>
    clear hO5 r5 k5 oI5 B5 ws kBr gw;obtain⟨n,NN,K,MA,mc,hn,rfl,HK,hbel,hs,hO,hr,k5,oM⟩:=hrel;have kBr:=kB3.below hbel (by omega);have gw:=g3.trans (hbel.mono (by omega));have k4:=kBr.cell' (i:=4) rfl;have hK1:K≤v+1+n:=Nat.le_of_eq HK.out;have hK2:v+1+n≤K:=Nat.le_of_eq HK.out.symm;by_cases hlw:K<x.d.length
    ·obtain⟨J,hJ⟩:∃ z,z=v+n:=⟨_,rfl⟩;have hJ1:J+1≤K:=by omega
     have hJ2:K≤J+1:=by omega
     obtain⟨hm1,hm2⟩:=HMS.out (v+n) (by omega);have hml:v+n<x.m.length:=by have:=LM.out;omega
     obtain⟨bm,om,m1,A1,c1',eH,hbm,HM1,z0,z1,z2,hs1,i1,i2,_⟩:=SlM.at_ (k:=v+n) HM.out hml;subst eH;have em1:=HM1.out;rw[hm1]at em1;injection em1 with em1
     subst em1;have hMB:MxR w0 w0.heap.size (.agg #[.int .i64 (dN x (v+n+1)),.int .i64 (dN x (v+n)),.slice A1 (flat (dN x (v+n+1)) (dN x (v+n)) (mpF x (v+n))).length c1']) (mxF (dN x (v+n+1)) (dN x (v+n)) (mpF x (v+n))):=⟨_,rfl,hs1,i1,i2⟩;simp only[mxF,a1_]at hMB z0 z1 z2;obtain⟨ML,hML⟩:=e_ (dN x (v+n+1)*dN x (v+n));rw[hML]at hMB z2;obtain⟨y,hy⟩:∃ y,y=x:=⟨_,rfl⟩;subst hy;obtain⟨D0,hD0⟩:=e_ (dN y v);obtain⟨D1,hD1⟩:=e_ (dN y (v+n));obtain⟨D2,hD2⟩:=e_ (dN y (v+n+1));have inP:=s4_ H3.out v n;have inP1:=s4_ H3.out v (n+1);have hp1:pdF y v (n+1)=muP y.p D1 (mpF y (v+n)) (pdF y v n):=by rw[pdF,hD1]
     have hrt:rtF y v K=(rkF y.p D2 D0 (pdF y v (n+1)):Int):=by
      rw[rtF,if_neg (by omega),show K-v=n+1 by omega,show K=v+n+1 by omega,hD2,hD0]
     have hd0:=HDA.out v;have hd1:=HDA.out (v+n);have hd2:=HDA.out (v+n+1);rw[hD0]at oM k5 hd0 inP inP1;rw[hD1]at oM k5 hd1 inP hm2 hMB z1;rw[hD2]at hd2 hm2 hMB z0;rw[show v+(n+1)=v+n+1 from rfl,hD2,hp1]at inP1;rw[←hJ]at z0 z1 z2;have HJ:=h_ hJ;have hJm:J<y.m.length:=by omega
     have HP1:=h_ hp1;have HRT:=h_ hrt;have HMB:=h_ hMB;have HIN1:=h_ hm2;have HINP:=h_ inP;have HINP1:=h_ inP1;have HOM:=h_ oM;have HBEL:=h_ hbel;have HOO:=h_ hO;have HGW:=h_ gw;have gws:=gw.size;have HD2:=h_ hD2;have HD0:=h_ hD0;have k0:=kBr.cell' (i:=0) rfl;clear hm1 hm2 hml hs1 i1 i2 HM1 hMB hML hD0 hD1 hD2 inP inP1 hp1 hrt oM hbel hO gw k0 hJ;go_wp2;clear k4;refine a9_ (by kernel_rfl) [.eq (.pointer (some ⟨w0.heap.size,0,none⟩)),.eq (.int .i64 y.p),.eq (.pointer (some ⟨w0.heap.size,5,none⟩)),.eq (.slice (some ⟨bm,om,none⟩) y.m.length h),.eq (.int .i64 (K:Int)),.eq (.int .i64 (J:Int)),.eq (.pointer (some ⟨bm,om+J*3,none⟩)),.eq (.agg #[.int .i64 D2,.int .i64 D1,.slice A1 ML c1']),.eq (.agg #[.int .i64 D1,.int .i64 D0,.slice MA NN mc]),rel 9 (fun u lo hi w=>MxO w lo hi u (mxF D2 D0 (muP y.p D1 (mpF y (v+n)) (pdF y v n))))] [[],[0],[],[2],[],[4],[2,3,4,5],[2,3,4,5,6],[],[0,1,2,3,4,5,6,7,8],[0,1,2,3,4,5,6,7,8,9]] 10 (by kernel_rfl) ⟨trivial,trivial,trivial,trivial,trivial,trivial,trivial,trivial,trivial,a7_ (fun u lo hi w w' h hb=>h.below hb),trivial⟩ ⟨?_,?_,?_,?_,?_,?_,?_,?_,?_,?_,trivial⟩ ?_;iterate 10 (intro x w hb hk Q' hQ;have he:=k_e hk;simp only[k_s]at he;simp only[netE]at hQ⊢;(try simp only[he]at hQ⊢);(try clear he);rotate_left)
     rotate_left
     ·clear hk;go_wp2;exact hQ _ _ br_ rfl
     ·clear hk;have q0:=(kBr.call hb).cell' (i:=0) rfl;go_wp2;exact hQ _ _ br_ rfl
     ·clear hk;go_wp2;exact hQ _ _ br_ rfl
     ·clear hk;have q0:=(kBr.call hb).cell' (i:=5) rfl;go_wp2;exact hQ _ _ br_ rfl
     ·clear hk;go_wp2;exact hQ _ _ br_ rfl
     ·clear hk;go_wp2;rw[show (K:Int)-1=(J:Int) by omega];exact hQ _ _ br_ rfl
     ·clear hk;go_wp2;exact hQ _ _ br_ rfl
     ·clear hk;have gq:=(HGW.out).trans (hb.mono (HGW.out).size);have q0:=a4_ gq hbm z0;have q1:=a4_ gq hbm z1;have q2:=a4_ gq hbm z2;go_wp2;exact hQ _ _ br_ rfl
     ·clear hk;have kq:=k5.call hb;obtain⟨q0,q1,q2⟩:=c_3 kq;go_wp2;exact hQ _ _ br_ rfl
     ·clear hk;have gq:=(HGW.out).trans (hb.mono (HGW.out).size);have HMR:=h_ (MxR.more gq.size (MxR.below gq HMB.out));have hM:=(HOM.out.below hb).rd;have HMM:Hid (MxR w w.heap.size (.agg #[.int .i64 D1,.int .i64 D0,.slice MA NN mc]) (mxF D1 D0 (pdF y v n))):=⟨_,rfl,hM,by constructor <;> simp[mxF] <;> omega,by constructor <;> simp[mxF] <;> omega⟩;clear gq hM;go_wp2_with fail
      refine (N1_ y.p _ _ D2 D1 D0 _ _ _ hpr (by omega) (by omega) (by omega) HMR.out HMM.out HIN1.out HINP.out).mono ?_;rintro e w6 ⟨m6,rfl,hM6,hb6⟩;go_wp2;exact hQ _ _ hb6 hM6
     ·intro x w hb hk hiv hdj;have h9:MxO w (x.lo 9) (x.hi 9) (x.v 9) (mxF D2 D0 (muP y.p D1 (mpF y (v+n)) (pdF y v n))):=hk 9 (by decide);have he:=k_g hk [0,1,2,3,4,5,6,7,8];simp only[k_s]at he;simp only[netE,he];clear he hk;obtain⟨i9a,i9b,i9c⟩:=hiv 9 (by decide);obtain⟨MB,mb,e9⟩:=h9.form;have h9':=h9;rw[e9]at h9'⊢;simp only[mxF,a1_]at h9'⊢;obtain⟨MS,hMS⟩:=e_ (D2*D0);rw[hMS]at h9'⊢;obtain⟨sq,eq,oN,_,_⟩:=h9';simp only[Value.agg.injEq,Array.mk.injEq,List.cons.injEq,and_true,true_and]at eq;subst eq;have kq:=k5.call hb;obtain⟨q0,q1,q2⟩:=c_3 kq;have qf:=kq.frozen;have hws:=hb.size;have hc:=chg3 w w4.heap.size (.int .i64 D2) (.int .i64 D0) (.slice MB MS mb);obtain⟨Y,hY⟩:∃ u,u=((w.setCell ⟨w4.heap.size,0,none⟩ (.int .i64 D2)).setCell ⟨w4.heap.size,1,none⟩ (.int .i64 D0)).setCell ⟨w4.heap.size,2,none⟩ (.slice MB MS mb):=⟨_,rfl⟩;rw[←hY]at hc;have kY:Blk Y w4.heap.size 65 #[.int .i64 D2,.int .i64 D0,.slice MB MS mb]:=by
       rw[hY];exact ((kq.set_ 0 (.int .i64 D2)).set_ 1 (.int .i64 D0)).set_ 2 (.slice MB MS mb)
      have hOY:=(HOO.out.below hb).chg hc (.inl (by omega));have hbY:=(HBEL.out.trans (hb.mono (by omega))).trans (hc.below (by omega) (by omega));have hrY:=a4_ (hc.below (l_ _) (by omega)) (show w2.heap.size<w4.heap.size by omega) (a4_ hb (by omega) hr);have oNY:=oN.chg hc (.inr (by omega));have hsY:Y.heap.size=w.heap.size:=by rw[hY];simp
      have HSY:=h_ hsY;have kBY:=kB3.below hbY (by omega);clear hMS h9 e9 oN hc hiv hdj kq hb k5 hr;go_wp2;rw[←hY];clear hY q0 q1 q2 qf;have hRKL:=r5_ y.p D2 D0 (pdF y v (n+1));obtain⟨rk,hrk⟩:=e_ (rkF y.p D2 D0 (pdF y v (n+1)));rw[hrk]at hRKL;have HRK:=h_ hrk;have HHR:=h_ (show rtF y v K=(rk:Int) by rw[HRT.out,hrk]);have HOY:=h_ hOY;have HBY:=h_ hbY;have HRY:=h_ hrY;have ONY:=h_ oNY;have hsY1:w.heap.size≤Y.heap.size:=Nat.le_of_eq HSY.out.symm;clear hrk hOY hbY hrY oNY hsY;refine a9_ (by kernel_rfl) [.eq (.slice (some ⟨w2.heap.size,0,none⟩) y.d.length y.d.length),.eq (.int .i64 v),.eq (.pointer (some ⟨w2.heap.size,v,none⟩)),.eq (.slice (some ⟨G,0,none⟩) y.d.length y.d.length),.eq (.int .i64 (K:Int)),.eq (.pointer (some ⟨w0.heap.size,0,none⟩)),.eq (.int .i64 y.p),.eq (.agg #[.int .i64 D2,.int .i64 D0,.slice MB MS mb]),.eq (.int .i64 (rk:Int)),.eq (.pointer (some ⟨G,K,none⟩))] [[],[],[0,1],[0,1,2],[],[],[5],[],[5,6,7],[0,1,2,3,4,5,6,7,8],[0,1,2,3,4,5,6,7,8,9]] 10 (by kernel_rfl) ⟨trivial,trivial,trivial,trivial,trivial,trivial,trivial,trivial,trivial,trivial,trivial⟩ ⟨?_,?_,?_,?_,?_,?_,?_,?_,?_,?_,trivial⟩ ?_;iterate 10 (intro x w hb hk Q' hQ;have he:=k_e hk;simp only[k_s]at he;simp only[netE]at hQ⊢;(try simp only[he]at hQ⊢);(try clear he);rotate_left)
      rotate_left
      iterate 3 (· clear hk;go_wp2;exact hQ _ _ br_ rfl)
      ·clear hk;have q0:=a4_ hb (by omega) HRY.out;go_wp2;exact hQ _ _ br_ rfl
      iterate 2 (· clear hk;go_wp2;exact hQ _ _ br_ rfl)
      ·clear hk;have q0:=(kBY.call hb).cell' (i:=0) rfl;go_wp2;exact hQ _ _ br_ rfl
      ·clear hk;have kq:=kY.call hb;obtain⟨q0,q1,q2⟩:=c_3 kq;go_wp2;exact hQ _ _ br_ rfl
      ·clear hk;have hM:=(ONY.out.below hb).rd;have HMM:Hid (MxR w w.heap.size (.agg #[.int .i64 D2,.int .i64 D0,.slice MB MS mb]) (mxF D2 D0 (pdF y v (n+1)))):=⟨_,rfl,by rw[HP1.out];exact hM,by constructor <;> simp[mxF] <;> omega,by constructor <;> simp[mxF] <;> omega⟩;clear hM;go_wp2_with fail
       refine (v5_ y.p _ D2 D0 (pdF y v (n+1)) _ H3.out (by omega) (by omega) HMM.out (by rw[HP1.out];exact HINP1.out)).mono ?_;rintro e w6 ⟨rfl,hb6⟩;rw[HRK.out];go_wp2;exact hQ _ _ hb6 rfl
      ·clear hk;go_wp2;exact hQ _ _ br_ rfl
      ·intro x w hb hk hiv hdj;have he:=k_g hk [0,1,2,3,4,5,6,7,8,9];simp only[k_s]at he;simp only[netE,he];clear he hk;have hws2:=hb.size;have hO2:=HOY.out.below hb;have hr2:=a4_ hb (show w2.heap.size<Y.heap.size by omega) HRY.out;have st:=hO2.put (i:=K) (x:=(rk:Int)) (U5_ (rtF y) (v+1+n) hlt) hr2 (by constructor <;> omega);obtain⟨uu,cs1,io1,_⟩:=hO2.row (U5_ (rtF y) (v+1+n) hlt);rw[hr2]at cs1;injection cs1 with cs1
       subst cs1;have y3:=(io1.1.cellG (j:=K) (by rw[rtR,a2_];exact hlw)).1;have y4:=io1.1.frozenG K;rw[←HHR.out,HK.out,a4Q,b2x,←HK.out,HHR.out]at st;have hg:=st.2;have hc3:Chg G (G+1) w (w.setCell ⟨G,K,none⟩ (.int .i64 (rk:Int))):=a5_ (l_ _) (m0_ _);have kY2:=(kY.call hb).chg hc3 (.inr (by omega));have oN2:=(ONY.out.below hb).chg hc3 (.inr (by omega));have bY2:=(HBY.out.trans (hb.mono (by omega))).trans (hc3.below (by omega) (by omega));have rY2:=a4_ (hc3.below (l_ _) (by omega)) hG2 hr2;have HST:=h_ st.1;have HK2':=h_ kY2;have HON2:=h_ oN2;have HB2:=h_ bY2;have HR2:=h_ rY2;clear st hg hc3 kY2 oN2 bY2 rY2 hr2 hO2 io1 kY hb hiv hdj kBY;go_wp2;go_roundw
       case rel=>exact⟨n+1,MS,K+1,MB,mb,by omega,by go_num,(by show K+1=v+1+(n+1);omega),HB2.out,by simp;omega,by rw[show v+1+(n+1)=K+1 by omega];exact HST.out,HR2.out,by rw[show v+(n+1)=v+n+1 from rfl,HD2.out,HD0.out];exact HK2'.out,by rw[show v+(n+1)=v+n+1 from rfl,HD2.out,HD0.out,HP1.out];exact HON2.out.wider (by omega) (by simp;omega)⟩
       case measure=>simp[intOf];omega
    ·have hKL:K=x.d.length:=by omega
     have e1:v+1+n=x.d.length:=by omega
     rw[e1,d7X]at hO;have HO:=h_ (hO.wider (l_ _) (show Z.heap.size≤wr.heap.size by omega));have HB:=h_ hbel;clear hO hbel hKL e1 k5 oM hr gw kBr;go_wp2;go_roundw
     case rel=>exact⟨v+1,by omega,by go_num,HB.out,HO.out⟩
     case measure=>simp[intOf];omega
  ·have hvL:v=x.d.length:=by omega
   rw[hvL,g3j]at hO;have HO:=h_ (hO.wider (show w0.heap.size≤w2.heap.size by omega) (l_ _));have HG:=h_ gw;clear hO hbel hvL kBr gw;go_wp2;go_ret2
   exact⟨.slice (some ⟨w2.heap.size,0,none⟩) x.d.length x.d.length,by rw[HF.out];rfl,by rw[HF.out];exact HO.out,HG.out⟩
theorem n5_ (u:Value) (x:Rp) (w0:World) (hu:RpR w0 w0.heap.size u x) :
  Calls Tryz.prog 8 #[u] w0 fun e w'=>∃ v,e = .returned (.tuple #[v,.bool (rtM x).2])∧b4_ w' w0.heap.size w'.heap.size v (rtM x).1∧Below w0.heap.size w0 w':=by
 rcases h:okL x with _ | _
 ·exact I4_ u x w0 hu h
 ·exact E2_ u x w0 hu h
def muK (p:Int) (c i k:Nat) (f g:Nat→Nat→Int) (a b:Nat):Int:=if a<i then muP p c f g a b else if a=i then (if b<k then muP p c f g a b else 0) else 0
theorem i5j (p:Int) (c r d:Nat) (f g:Nat→Nat→Int):flat r d (fun _ _=>0)=flat r d (muK p c 0 0 f g):=c1_ fun a b _ _=>by
 simp only[muK];rw[if_neg (by omega)];split
 ·rw[if_neg (by omega)]
 ·rfl
theorem d5x (p:Int) (c i r d:Nat) (f g:Nat→Nat→Int):flat r d (muK p c i d f g)=flat r d (muK p c (i+1) 0 f g):=c1_ fun a b _ hb=>by
 simp only[muK];rw[if_pos hb,if_neg (show ¬ b<0 by omega)];by_cases h1:a<i
 ·rw[if_pos h1,if_pos (by omega)]
 ·rw[if_neg h1];by_cases h2:a=i
  ·rw[if_pos h2,if_pos (by omega)]
  ·rw[if_neg h2,if_neg (by omega)];split <;> rfl
theorem g0X (p:Int) (c r d:Nat) (f g:Nat→Nat→Int):flat r d (muK p c r 0 f g)=flat r d (muP p c f g):=c1_ fun a b ha _=>by
 simp only[muK];rw[if_pos ha]
theorem g1j {p:Int} {c i k r d:Nat} (f g:Nat→Nat→Int) (hi:i<r) (hk:k<d):(flat r d (muK p c i k f g)).set (i*d+k) (muP p c f g i k)=flat r d (muK p c i (k+1) f g):=by
 rw[k8_ _ _ hi hk];refine c1_ fun a b _ _=>?_
 simp only[muK];by_cases e:a=i∧b=k
 ·rw[if_pos e,e.1,e.2,if_neg (by omega),if_pos rfl,if_pos (by omega)]
 ·rw[if_neg e];by_cases h1:a<i
  ·rw[if_pos h1,if_pos h1]
  ·rw[if_neg h1,if_neg h1];by_cases h2:a=i
   ·rw[if_pos h2,if_pos h2];by_cases h3:b<k
    ·rw[if_pos h3,if_pos (by omega)]
    ·rw[if_neg h3,if_neg (by omega)]
   ·rw[if_neg h2,if_neg h2]
theorem f3Z {h:Nat→Int}:∀ {n},(∀ t,t<n→0≤h t∧h t≤16)→0≤sgF h n∧sgF h n≤16*n
 | 0,_=>by simp[sgF]
 | n+1,H=>by
  have h1:=f3Z (h:=h) (n:=n) fun t ht=>H t (by omega)
  have h2:=H n (by omega);simp only[sgF];omega
theorem b0q {a b:Int} (ha:0≤a∧a≤4) (hb:0≤b∧b≤4):0≤a*b∧a*b≤16:=by
 have h1:a=0∨a=1∨a=2∨a=3∨a=4:=by omega
 rcases h1 with rfl | rfl | rfl | rfl | rfl <;> omega
theorem O7_ (p:Int) (u v:Value) (r c d:Nat) (f g:Nat→Nat→Int) (w0:World) (hp:2≤p∧p≤5) (hr:r≤1000) (hc:c≤1000) (hd:d≤1000) (hu:MxR w0 w0.heap.size u (mxF r c f)) (hv:MxR w0 w0.heap.size v (mxF c d g)) (hf:InF p r c f) (hg:InF p c d g) :
  Calls Tryz.prog 42 #[.int .i64 p,u,v] w0 fun e w'=>∃ m,e = .returned m∧MxO w' w0.heap.size w'.heap.size m (mxF r d (muP p c f g))∧Below w0.heap.size w0 w':=by
 have hu':=hu;have hv':=hv;obtain⟨U,uc,rfl⟩:=hu.form;obtain⟨V,vc,rfl⟩:=hv.form;simp only[mxF,a1_]at hu hu' hv hv'⊢;obtain⟨UL,hUL⟩:=e_ (r*c);obtain⟨VL,hVL⟩:=e_ (c*d);rw[hUL]at hu hu'⊢;rw[hVL]at hv hv'⊢;have HUL:=h_ hUL;have HVL:=h_ hVL;clear hu hv hUL hVL;obtain⟨W,hW⟩:∃ W,W=((w0.alloc (.cells #[.int .i64 r,.int .i64 c,.slice U UL uc] 65)).alloc (.cells #[.int .i64 c,.int .i64 d,.slice V VL vc] 65)).alloc (.cells #[.int .i64 0,.int .i64 0,.slice none 0 0] 65):=⟨_,rfl⟩;have g0:Below w0.heap.size w0 W:=by rw[hW];exact (((Below.refl _ _).alloc (l_ _) _).alloc (by simp) _).alloc (by simp;omega) _
 have k1:Blk W w0.heap.size 65 #[.int .i64 r,.int .i64 c,.slice U UL uc]:=by rw[hW];exact ((Blk.new _ _ _).alloc _).alloc _
 have k2:Blk W (w0.heap.size+1) 65 #[.int .i64 c,.int .i64 d,.slice V VL vc]:=by
  rw[hW];have:=(Blk.new (w0.alloc (.cells #[.int .i64 r,.int .i64 c,.slice U UL uc] 65)) 65 #[.int .i64 c,.int .i64 d,.slice V VL vc]).alloc (.cells #[.int .i64 0,.int .i64 0,.slice none 0 0] 65);simpa only[l3_] using this
 have k3:Blk W (w0.heap.size+1+1) 65 #[.int .i64 0,.int .i64 0,.slice none 0 0]:=by
  rw[hW];have:=Blk.new ((w0.alloc (.cells #[.int .i64 r,.int .i64 c,.slice U UL uc] 65)).alloc (.cells #[.int .i64 c,.int .i64 d,.slice V VL vc] 65)) 65 #[.int .i64 0,.int .i64 0,.slice none 0 0];simpa only[l3_] using this
 have sz:W.heap.size=w0.heap.size+1+1+1:=by rw[hW];simp
 have SZ:=h_ sz;have HU:=h_ hu';have HV:=h_ hv';have HF:=h_ hf;have HG:=h_ hg;obtain⟨a0,a1,a2⟩:=c_3 k1;obtain⟨b0,b1,b2⟩:=c_3 k2;clear hu' hv' hf hg sz;go_enter Tryz.func42,Tryz.ntmps42
 go_wp2_with fail
 rw[←hW];clear hW;refine (p7_ r d _ (by omega) (by omega) (by omega) (by omega)).mono ?_;rintro e w1 ⟨v1,rfl,hZ,hb1⟩;rw[o6_]at hZ;obtain⟨A,cap,e1⟩:=hZ.form;subst e1;simp only[mxF,a1_]at hZ⊢;obtain⟨sA,esA,oZ,hr1,hr2⟩:=hZ;simp only[Value.agg.injEq,Array.mk.injEq,List.cons.injEq,and_true,true_and]at esA;subst esA;obtain⟨L,hL⟩:=e_ (r*d);rw[hL]at oZ⊢;have HL:=h_ hL;clear hL;have s1:=hb1.size;obtain⟨w2,hw2⟩:∃ u,u=w1.alloc (.cells #[.int .i64 r,.int .i64 d,.slice A L cap] 65):=⟨_,rfl⟩;have b2':Below w1.heap.size w1 w2:=by rw[hw2];exact a0_ _ _
 have k4:Blk w2 w1.heap.size 65 #[.int .i64 r,.int .i64 d,.slice A L cap]:=by rw[hw2];exact Blk.new _ _ _
 have oZ2:=oZ.below b2';rw[i5j p c r d f g]at oZ2;have s2:=b2'.size;have l4:=k4.lt;have gW2:=b0_ hb1 b2';have K1:=h_ k1;have K2:=h_ k2;have K3:=h_ k3;have G0:=h_ g0;have hWs:=SZ.out;clear a0 a1 a2 b0 b1 b2 oZ b2' hb1 k1 k2 k3 g0;go_wp2;rw[←hw2];clear hw2;go_loopw [8] (fun i wr=>∃ i':Nat,i'≤r∧i = .int .i64 i'∧Blk wr w1.heap.size 65 #[.int .i64 r,.int .i64 d,.slice A L cap]∧a8_ wr W.heap.size w1.heap.size (.slice A L cap) (flat r d (muK p c i' 0 f g))∧Below W.heap.size W wr) (fun i _=>r-(intOf i).toNat)
 case atStart=>exact⟨0,l0_ _,rfl,k4,oZ2,gW2⟩
 case round =>
  clear k4 oZ2 gW2;obtain⟨i,hi,rfl,k4,oA,gW⟩:=hrel;have sW:=gW.size;by_cases hlr:i<r
  ·have k1:=K1.out.below gW (by omega);have a0:=k1.cell' (i:=0) rfl;go_wp2;clear k1 a0;go_loopw [9] (fun k wr=>∃ k':Nat,k'≤d∧k = .int .i64 k'∧Blk wr w1.heap.size 65 #[.int .i64 r,.int .i64 d,.slice A L cap]∧a8_ wr W.heap.size w1.heap.size (.slice A L cap) (flat r d (muK p c i k' f g))∧Below W.heap.size W wr) (fun k _=>d-(intOf k).toNat)
   case atStart=>exact⟨0,l0_ _,rfl,k4,oA,gW⟩
   case round =>
    clear k4 oA gW sW;obtain⟨k,hk,rfl,k4,oA,gW⟩:=hrel;have sW:=gW.size;have k2:=K2.out.below gW (by omega);have b1:=k2.cell' (i:=1) rfl;by_cases hlk:k<d
    ·have HS0:=h_ (show (0:Int)=sgF (fun t=>f i t*g t k) 0 from rfl);go_wp2;clear k2 b1;go_loopw [10,11] (fun s j wr=>∃ (j':Nat) (S:Int),j'≤c∧j = .int .i64 j'∧s = .int .i64 S∧Hid (S=sgF (fun t=>f i t*g t k) j')∧Blk wr w1.heap.size 65 #[.int .i64 r,.int .i64 d,.slice A L cap]∧a8_ wr W.heap.size w1.heap.size (.slice A L cap) (flat r d (muK p c i k f g))∧Below W.heap.size W wr) (fun _ j _=>c-(intOf j).toNat)
     case atStart=>exact⟨0,0,l0_ _,rfl,rfl,HS0,k4,oA,gW⟩
     case round =>
      clear k4 oA gW sW;obtain⟨j,S,hj,rfl,rfl,HS,k4,oA,gW⟩:=hrel;have sW:=gW.size;have k1:=K1.out.below gW (by omega);have k2:=K2.out.below gW (by omega);have srng:=f3Z (h:=fun t=>f i t*g t k) (n:=j) fun t ht=>b0q (E7_ hp HF.out hlr (show t<c by omega)) (E7_ hp HG.out (show t<c by omega) hlk)
      rw[←(HS.out:S=_)]at srng;by_cases hlj:j<c
      ·obtain⟨P,J,hP,hPJ,hJ,hJN,hJb⟩:=m3_ hlr hlj hr hc;obtain⟨P2,J2,hP2,hPJ2,hJ2,hJN2,hJb2⟩:=m3_ hlj hlk hc hd;have gww:Below w0.heap.size w0 wr:=(G0.out).trans (gW.mono (G0.out).size);obtain⟨_,eU,sU,_⟩:=HU.out;obtain⟨_,eV,sV,_⟩:=HV.out;simp only[mxF,Value.agg.injEq,Array.mk.injEq,List.cons.injEq,and_true,true_and]at eU eV sU sV;subst eU eV;rw[←HUL.out,←a1_ r c f]at sU;rw[←HVL.out,←a1_ c d g]at sV;obtain⟨b,o,x,rfl,hb,HX,x1,xr⟩:=SlI.at_ (k:=P+j) sU (by rw[a1_];omega);obtain⟨b2,o2,y,rfl,hb2,HY,y1,yr⟩:=SlI.at_ (k:=P2+k) sV (by rw[a1_];omega);have hx:=HX.out;rw[hPJ,hJ,k3_ f hlr hlj]at hx;injection hx with hx
       have hy:=HY.out;rw[hPJ2,hJ2,k3_ g hlj hlk]at hy;injection hy with hy
       have hX:=E7_ hp HF.out hlr hlj;have hY:=E7_ hp HG.out hlj hlk;rw[hx]at hX;rw[hy]at hY;have hXY:=b0q hX hY;have HS2:=h_ (show S+x*y=sgF (fun t=>f i t*g t k) (j+1) by simp only[sgF];rw[hx,hy,HS.out]);have x2:=a4_ gww hb x1;have y2:=a4_ gww hb2 y1;have hUJ:P+j<UL:=by rw[←HUL.out];omega
       have hVJ:P2+k<VL:=by rw[←HVL.out];omega
       have gws:=gww.size;have hP':=h_ hP;have hP2':=h_ hP2;have OA:=h_ oA;have GW:=h_ gW;have K4:=h_ k4;obtain⟨Z,hZ⟩:=e_ (x*y);rw[hZ]at HS2 hXY;have HZ:=h_ hZ;have hPb:P+j≤1000000:=by omega
       have hPb2:P2+k≤1000000:=by omega
       clear sU sV HX HY x1 y1 hx hy hP hP2 hJ hJ2 hPJ hPJ2 hJN hJN2 hZ oA gW k4 gww;have a1:=k1.cell' (i:=1) rfl;go_wp2;clear a1;obtain⟨xx,hxx⟩:∃ z,z=x:=⟨_,rfl⟩;subst hxx;refine a9_ (by kernel_rfl) [.eq (.int .i64 S),.eq (.pointer (some ⟨w0.heap.size,2,none⟩)),.eq (.slice (some ⟨b,o,none⟩) UL uc),.eq (.int .i64 i),.eq (.pointer (some ⟨w0.heap.size,1,none⟩)),.eq (.int .i64 c),.eq (.int .i64 P),.eq (.int .i64 j),.eq (.int .i64 ((P:Int)+j)),.eq (.pointer (some ⟨b,o+(P+j),none⟩)),.eq (.int .i64 xx),.eq (.pointer (some ⟨w0.heap.size+1,2,none⟩)),.eq (.slice (some ⟨b2,o2,none⟩) VL vc),.eq (.int .i64 j),.eq (.pointer (some ⟨w0.heap.size+1,1,none⟩)),.eq (.int .i64 d),.eq (.int .i64 P2),.eq (.int .i64 k),.eq (.int .i64 ((P2:Int)+k)),.eq (.pointer (some ⟨b2,o2+(P2+k),none⟩)),.eq (.int .i64 y),.eq (.int .i64 Z)] [[],[],[1],[],[],[4],[3,4,5],[],[3,4,5,6,7],[1,2,3,4,5,6,7,8],[1,2,3,4,5,6,7,8,9],[],[11],[],[],[14],[13,14,15],[],[13,14,15,16,17],[11,12,13,14,15,16,17,18],[11,12,13,14,15,16,17,18,19],[1,2,3,4,5,6,7,8,9,10,11,12,13,14,15,16,17,18,19,20],[0,1,2,3,4,5,6,7,8,9,10,11,12,13,14,15,16,17,18,19,20,21],[0,1,2,3,4,5,6,7,8,9,10,11,12,13,14,15,16,17,18,19,20,21,22]] 22 (by kernel_rfl) ⟨trivial,trivial,trivial,trivial,trivial,trivial,trivial,trivial,trivial,trivial,trivial,trivial,trivial,trivial,trivial,trivial,trivial,trivial,trivial,trivial,trivial,trivial,trivial⟩ ⟨?_,?_,?_,?_,?_,?_,?_,?_,?_,?_,?_,?_,?_,?_,?_,?_,?_,?_,?_,?_,?_,?_,trivial⟩ ?_;iterate 22 (intro x w hb hk Q' hQ;have he:=k_e hk;simp only[k_s]at he;simp only[netE]at hQ⊢;(try simp only[he]at hQ⊢);(try clear he);rotate_left)
       rotate_left
       iterate 2 (· clear hk;go_wp2;exact hQ _ _ br_ rfl)
       ·clear hk;have z2:=(k1.call hb).cell' (i:=2) rfl;go_wp2;exact hQ _ _ br_ rfl
       iterate 2 (· clear hk;go_wp2;exact hQ _ _ br_ rfl)
       ·clear hk;have z2:=(k1.call hb).cell' (i:=1) rfl;go_wp2;exact hQ _ _ br_ rfl
       ·clear hk;go_wp2;rw[hP'.out];exact hQ _ _ br_ rfl
       iterate 3 (· clear hk;go_wp2;exact hQ _ _ br_ rfl)
       ·clear hk;have z2:=a4_ hb (by omega) x2;go_wp2;exact hQ _ _ br_ rfl
       ·clear hk;go_wp2;exact hQ _ _ br_ rfl
       ·clear hk;have z2:=(k2.call hb).cell' (i:=2) rfl;go_wp2;exact hQ _ _ br_ rfl
       iterate 2 (· clear hk;go_wp2;exact hQ _ _ br_ rfl)
       ·clear hk;have z2:=(k2.call hb).cell' (i:=1) rfl;go_wp2;exact hQ _ _ br_ rfl
       ·clear hk;go_wp2;rw[hP2'.out];exact hQ _ _ br_ rfl
       iterate 3 (· clear hk;go_wp2;exact hQ _ _ br_ rfl)
       ·clear hk;have z2:=a4_ hb (by omega) y2;go_wp2;exact hQ _ _ br_ rfl
       ·clear hk;go_wp2;rw[HZ.out,IntWalk.wrap64_in _ ⟨by omega,by omega⟩];exact hQ _ _ br_ rfl
       ·intro x w hb hk hiv hdj;have he:=k_g hk [0,1,2,3,4,5,6,7,8,9,10,11,12,13,14,15,16,17,18,19,20,21];simp only[k_s]at he;simp only[netE,he];clear he hk;have K42:=h_ ((K4.out).call hb);have OA2:=h_ ((OA.out).below hb);have GW2:=h_ ((GW.out).trans (hb.mono (by omega)));clear hb hiv hdj k1 k2;go_wp2;go_roundw
        case rel=>exact⟨j+1,S+Z,by omega,by go_num,rfl,HS2,K42.out,OA2.out,GW2.out⟩
        case measure=>simp[intOf];omega
      ·have hjc:j=c:=by omega
       have HSC:=h_ (show S % p=muP p c f g i k by rw[HS.out,hjc];rfl);have a1:=k1.cell' (i:=1) rfl;clear HS;go_wp2;clear hjc;obtain⟨P,J,hP,hPJ,hJ,hJN,hJb⟩:=m3_ hlr hlk hr hd;have HST:=h_ (g1j (p:=p) (c:=c) f g hlr hlk);rw[HL.out]at hJN;obtain⟨gA,cA,eA,q1,q2,q3⟩:=oA.at_ (by rw[a1_,HL.out];omega);rw[a1_,HL.out]at eA;injection eA with eA1 eA2 eA3
       subst eA1 eA3;have hmr:=i6_ (x:=S) hp.1;obtain⟨M,hM⟩:=e_ (S % p);rw[hM]at HSC hmr;have HM:=h_ hM;have hP':=h_ hP;have hj':=h_ (show P+k=i*d+k by rw[hPJ,hJ]);have OA:=h_ oA;have GW:=h_ gW;have K4:=h_ k4;have hPL:P+k<L:=by omega
       have hPb:P+k≤1000000:=by omega
       clear a1 hM hP hPJ hJ hJN oA gW k4 k1;refine a9_ (by kernel_rfl) [.eq (.pointer (some ⟨w1.heap.size,2,none⟩)),.eq (.slice (some ⟨gA,0,none⟩) L cap),.eq (.int .i64 i),.eq (.pointer (some ⟨w0.heap.size+1,1,none⟩)),.eq (.int .i64 d),.eq (.int .i64 P),.eq (.int .i64 k),.eq (.int .i64 ((P:Int)+k)),.eq (.int .i64 p),.eq (.int .i64 S),.eq (.int .i64 M),.eq (.pointer (some ⟨gA,P+k,none⟩))] [[],[0],[],[],[3],[2,3,4],[],[2,3,4,5,6],[],[],[8,9],[0,1,2,3,4,5,6,7,8,9,10],[0,1,2,3,4,5,6,7,8,9,10,11]] 12 (by kernel_rfl) ⟨trivial,trivial,trivial,trivial,trivial,trivial,trivial,trivial,trivial,trivial,trivial,trivial,trivial⟩ ⟨?_,?_,?_,?_,?_,?_,?_,?_,?_,?_,?_,?_,trivial⟩ ?_;iterate 12 (intro x w hb hk Q' hQ;have he:=k_e hk;simp only[k_s]at he;simp only[netE]at hQ⊢;(try simp only[he]at hQ⊢);(try clear he);rotate_left)
       rotate_left
       ·clear hk;go_wp2;exact hQ _ _ br_ rfl
       ·clear hk;have z2:=((K4.out).call hb).cell' (i:=2) rfl;go_wp2;exact hQ _ _ br_ rfl
       iterate 2 (· clear hk;go_wp2;exact hQ _ _ br_ rfl)
       ·clear hk;have z2:=(k2.call hb).cell' (i:=1) rfl;go_wp2;exact hQ _ _ br_ rfl
       ·clear hk;go_wp2;rw[hP'.out];exact hQ _ _ br_ rfl
       iterate 4 (· clear hk;go_wp2;exact hQ _ _ br_ rfl)
       ·clear hk;go_wp2_with fail
        refine (q6_ p S _ hp ⟨by omega,by omega⟩).mono ?_;rintro e w5 ⟨rfl,hww⟩;replace hww:=hww.symm;subst hww;rw[HM.out];go_wp2;exact hQ _ _ br_ rfl
       ·clear hk;go_wp2;exact hQ _ _ br_ rfl
       ·intro x w hb hk hiv hdj;have he:=k_g hk [0,1,2,3,4,5,6,7,8,9,10,11];simp only[k_s]at he;simp only[netE,he];clear he hk;have oB:=(OA.out).below hb;have k4b:=(K4.out).call hb;have fA:=oB.1.frozenG (P+k);have cA:=(oB.1.cellG (j:=P+k) (by rw[a1_,HL.out];omega)).1;have hws:=hb.size;have hc1:Chg W.heap.size w1.heap.size w (w.setCell ⟨gA,P+k,none⟩ (.int .i64 M)):=a5_ q1 q2;have oA2:=oB.put (j:=P+k) (x:=M) ⟨by omega,by omega⟩;rw[hj'.out,HSC.out,HST.out]at oA2;have OA2:=h_ oA2;have K42:=h_ (k4b.chg hc1 (by omega));have GW2:=h_ (((GW.out).trans (hb.mono (by omega))).trans (hc1.below (l_ _) (by omega)));clear oA2 hc1 oB k4b hiv hdj hb k2;go_wp2;go_roundw
        case rel=>exact⟨k+1,by omega,by go_num,K42.out,by have:=OA2.out;rwa[←hj'.out,←HSC.out]at this,GW2.out⟩
        case measure=>simp[intOf];omega
    ·have hkd:k=d:=by omega
     rw[hkd,d5x]at oA;have OA:=h_ oA;have K4:=h_ k4;have GW:=h_ gW;clear oA k4 gW k2 hkd;go_wp2;go_roundw
     case rel=>exact⟨i+1,by omega,by go_num,K4.out,OA.out,GW.out⟩
     case measure=>simp[intOf];omega
  ·have hi':i=r:=by omega
   have k1:=K1.out.below gW (by omega);have a0:=k1.cell' (i:=0) rfl;subst hi';rw[g0X]at oA;have k3':=(K3.out).below gW (by have:=SZ.out;omega);have hlt:=k4.lt;clear k1;obtain⟨z0,z1,z2⟩:=c_3 k4;obtain⟨p0,p1,p2⟩:=c_3 k3';have f2:=k3'.frozen;have h2:=chg3 wr (w0.heap.size+1+1) (.int .i64 (i:Int)) (.int .i64 d) (.slice A L cap);have gw:Below w0.heap.size w0 wr:=(G0.out).trans (gW.mono (G0.out).size);have gs:=gw.size;have oA2:=(oA.chg h2 (.inr (by have:=SZ.out;omega))).wider (lo':=w0.heap.size) (hi':=wr.heap.size) (by have:=SZ.out;omega) (by omega);have fg:=gw.trans (h2.below (by omega) gs);have OA2:=h_ oA2;have FG:=h_ fg;clear oA oA2 fg gw h2 k3' k4 gW;go_wp2;exact bodyPost_ret (v:=.agg #[.int .i64 (i:Int),.int .i64 d,.slice A L cap]) (by simp[results,go_sem,p0,p1,p2]) rfl ⟨_,rfl,⟨_,rfl,(OA2.out).wider (l_ _) (by simp),hr1,hr2⟩,FG.out⟩
def RT (bm B:Nat) (w1:World) (A:Option Addr) (r c L cap:Nat) (w:World) (f:Nat→Nat→Int) (pv:Value) (ps:List Int):Prop :=
 RS B w1 A r c L cap w f pv ps∧Blk w bm 65 #[.int .i64 r,.int .i64 c,.slice A L cap]
section
variable {bm B:Nat} {w1 w w':World} {A:Option Addr} {r c L cap:Nat} {f:Nat→Nat→Int} {pv:Value} {ps:List Int}
theorem RT.call (h:RT bm B w1 A r c L cap w f pv ps) (hB:B≤w1.heap.size) (hb:Below w.heap.size w w'):RT bm B w1 A r c L cap w' f pv ps:=⟨h.1.call hB hb,h.2.call hb⟩
theorem RT.congr {f2:Nat→Nat→Int} (h:RT bm B w1 A r c L cap w f pv ps) (e:flat r c f=flat r c f2):RT bm B w1 A r c L cap w f2 pv ps:=⟨h.1.congr e,h.2⟩
theorem RT.put {g J:Nat} {x:Int} {f2:Nat→Nat→Int} (h:RT bm B w1 (some ⟨g,0,none⟩) r c L cap w f pv ps) (hg:B≤g) (hs:B≤w.heap.size) (hx:I64 x) (e:(flat r c f).set J x=flat r c f2) :
  RT bm B w1 (some ⟨g,0,none⟩) r c L cap (w.setCell ⟨g,J,none⟩ (.int .i64 x)) f2 pv ps:=by
 refine⟨h.1.put hg hs hx e,h.2.far ?_ _⟩;have:=h.1.own.blkne h.2 (by decide);intro e2;exact this (by simp[Value.ownBlock,e2])
theorem RT.app {pv':Value} {ps':List Int} (h:RT bm B w1 A r c L cap w f pv ps) (hs:B≤w.heap.size) (ho:OwnI w' B pv' ps') (hg:w.grownBy w' pv.ownBlock) (hv:pv'.ownBlock=pv.ownBlock∨pv'.ownBlock=some w.heap.size) :
  RT bm B w1 A r c L cap w' f pv' ps':=⟨h.1.app hs ho hg hv,h.2.grown hg (h.1.ownP.1.blkne h.2 (by decide))⟩
end
theorem ixP {i k r c P:Nat} (hi:i<r) (hk:k<c) (hr:r≤1000) (hc:c≤1000) (hP:P=i*c):wrap64 ((i:Int)*(c:Int))=(P:Int):=by
 obtain⟨P',J,h1,_⟩:=m3_ hi hk hr hc;have:=(T4_ hi hr hc h1).1;rw[h1,this,hP]
theorem b1j {f:Nat→Nat→Int} {k m r:Nat} (h:m<r):nzF f k m r=if f m k=0 then nzF f k (m+1) r else m:=by
 unfold nzF;rw[show r-m=(r-(m+1))+1 by omega,nzGo]
theorem d6Z (f:Nat→Nat→Int) (k r:Nat):nzF f k r r=r:=by unfold nzF;rw[Nat.sub_self,nzGo]
def atI (f:Nat→Nat→Int) (k m r:Nat):Int:=if nzF f k m r=r then -1 else (nzF f k m r:Int)
theorem d0X (f:Nat→Nat→Int) (k r:Nat):atI f k r r = -1:=by rw[atI,if_pos (d6Z f k r)]
theorem d1j {f:Nat→Nat→Int} {k m r:Nat} (h:m<r) (h0:f m k=0):atI f k m r=atI f k (m+1) r:=by rw[atI,atI,b1j h,if_pos h0]
theorem g5J {f:Nat→Nat→Int} {k m r:Nat} (h:m<r) (h0:f m k≠0):atI f k m r=m:=by rw[atI,b1j h,if_neg h0,if_neg (by omega)]
theorem Y1_ (p:Int) (u:Value) (r c:Nat) (f:Nat→Nat→Int) (w0:World) (hp:c8_ p=true) (hr:r≤1000) (hc:c≤1000) (hu:MxR w0 w0.heap.size u (mxF r c f)) (hf:InF p r c f) :
  Calls Tryz.prog 124 #[.int .i64 p,u] w0 fun e w'=>∃ m v,e = .returned (.tuple #[m,v])∧MxO w' w0.heap.size w'.heap.size m (mxF r c (rdTo p r f c).1)∧a8_ w' w0.heap.size w'.heap.size v (rdTo p r f c).2∧Below w0.heap.size w0 w':=by
 have hpr:=f9_ hp;have hu':=hu;obtain⟨UA,uc,rfl⟩:=hu.form;simp only[mxF]at hu hu'⊢;rw[a1_]at hu hu'⊢;obtain⟨UL,hUL⟩:=e_ (r*c);rw[hUL]at hu hu'⊢;have HUL:=h_ hUL;clear hUL hu;obtain⟨W,hW,g0,kB,kR⟩:=b_4 w0 #[.int .i64 r,.int .i64 c,.slice UA UL uc] 65 #[.int .i64 0,.int .i64 0,.slice none 0 0] 65;have sz:W.heap.size=w0.heap.size+1+1:=by rw[hW];simp
 have SZ:=h_ sz;have HU:=h_ (MxR.next g0 hu');have HF:=h_ hf;have HP:=h_ hp;obtain⟨c0,c1,c2⟩:=c_3 kB;clear hu' sz hf hp;go_enter Tryz.func124,Tryz.ntmps124
 go_wp2_with fail
 rw[←hW];clear hW;refine (b5z _ _ _ HU.out).mono ?_;rintro e w1 ⟨v1,rfl,hM,hb1⟩;obtain⟨A,cap,ev⟩:=hM.form;subst ev;simp only[a1_]at hM⊢;obtain⟨L,hL⟩:=e_ (r*c);rw[hL]at hM⊢;have HL:=h_ hL;clear hL;have kR1:=kR.call hb1;have g1:=b0_ g0 hb1;clear c0 c1 c2;have s1:=hb1.size;have sz:=SZ.out;obtain⟨w2,hw2⟩:∃ w2,w2=(w1.alloc (.cells #[.int .i64 r,.int .i64 c,.slice A L cap] 65)).alloc (.cells #[] 3):=⟨_,rfl⟩;have b2:Below w1.heap.size w1 w2:=by rw[hw2];exact ((Below.refl _ _).alloc (l_ _) _).alloc (by simp) _
 have kA2:Blk w2 w1.heap.size 65 #[.int .i64 r,.int .i64 c,.slice A L cap]:=by rw[hw2];exact (Blk.new _ _ _).alloc _
 have kR2:=kR1.call b2;have g2:=b0_ g1 b2;have s2:w2.heap.size=w1.heap.size+1+1:=by rw[hw2];simp
 obtain⟨sA,esA,hIA,_,_⟩:=hM;simp only[Value.agg.injEq,Array.mk.injEq,List.cons.injEq,and_true,true_and]at esA;subst esA;have hI2:=hIA.below b2;have hPv:a8_ w2 w1.heap.size w2.heap.size (.slice (some ⟨w1.heap.size+1,0,none⟩) 0 0) []:=by
  have:=OwnI.made (w:=w1.alloc (.cells #[.int .i64 r,.int .i64 c,.slice A L cap] 65)) (base:=w1.heap.size) 3 rfl (by simp);rw[←hw2]at this;simp only[l3_]at this;exact a8_.of_own this
 have hS0:RT w1.heap.size W.heap.size w2 A r c L cap w2 (rdTo p r f 0).1 (.slice (some ⟨w1.heap.size+1,0,none⟩) 0 0) (rdTo p r f 0).2 :=
  ⟨⟨Below.refl _ _,b9J hI2 hPv s1 (by omega)⟩,kA2⟩
 have KR:=h_ kR2;have G2:=h_ g2;have hWB:W.heap.size≤w2.heap.size:=by omega
 have HB0:Hid (w0.heap.size<W.heap.size):=by show _<_;omega
 have HWB:=h_ hWB;clear kB kR kR1 g0 g1 hIA hI2 kR2 kA2 g2 s1 s2 sz hb1 hWB b2 hPv;go_wp2;rw[←hw2];clear hw2;go_loopw [7,8,9] (fun pv nv i wr=>∃ k:Nat,k≤c∧i = .int .i64 k∧nv = .int .i64 ((rdTo p r f k).2.length:Int)∧RT w1.heap.size W.heap.size w2 A r c L cap wr (rdTo p r f k).1 pv (rdTo p r f k).2) (fun _ _ i _=>c-(intOf i).toNat)
 case atStart=>exact⟨0,l0_ _,rfl,rfl,hS0⟩
 case round =>
  clear hS0;obtain⟨k,hk,rfl,rfl,S⟩:=hrel;obtain⟨PA,pc,ev,_,_⟩:=S.1.ownP.1.form;subst ev;have hln:=n1_ p r f k;have hin:=L3_ hpr.1 HF.out k;have hrs:=M5_ p r f k;have hrest:=h_ (fun h=>Z5_ (p:=p) (r:=r) (f:=f) (k:=k) h (c-k));obtain⟨F,hFF⟩:=e_ ((rdTo p r f k).1);obtain⟨ps,hps⟩:=e_ ((rdTo p r f k).2);rw[hFF,hps]at S hrs;rw[hps]at hln;rw[hFF]at hin;rw[hps];obtain⟨n,hn⟩:=e_ (ps.length);rw[hn]at hln hrs S⊢;have HRS:=h_ hrs;have HN:=h_ hn;have HIN:=h_ hin;have HFF:=h_ hFF;have HPS:=h_ hps;clear hFF hps hn hin hrs;by_cases hgo:k<c∧n<r
  ·obtain⟨hlt,hnr⟩:=hgo;have kb:=(S).2;obtain⟨c0,c1,c2⟩:=c_3 kb;go_wp2;clear kb c0 c1 c2;have ha0:=d0X F k r;go_loopw [10,11] (fun a i wr=>∃ m:Nat,n≤m∧m≤r∧i = .int .i64 ((m:Int)-1)∧a = .int .i64 (atI F k m r)∧RT w1.heap.size W.heap.size w2 A r c L cap wr F (.slice PA n pc) ps) (fun _ i _=>(intOf i+1).toNat)
   case atStart=>exact⟨r,by omega,l_ _,rfl,by rw[ha0],S⟩
   case round =>
    clear S ha0;obtain⟨m,hnm,hmr,rfl,rfl,S⟩:=hrel;obtain⟨g,eA,eL,hLc,hcb,hBg,hgw⟩:=S.1.addr (Nat.mul_pos (by omega) (by omega));subst eA;have EL:=h_ eL;clear eL;by_cases hlm:n<m
    ·obtain⟨m',rfl⟩:∃ m',m=m'+1:=⟨m-1,by omega⟩;have em:((m'+1:Nat):Int)-1=(m':Int):=by omega
     rw[em];clear em;have hlr:m'<r:=by omega
     obtain⟨Q,hQ⟩:∃ Q,Q=m'*c:=⟨_,rfl⟩;have hQw:∀ [Inhabited Unit],wrap64 ((m':Int)*(c:Int))=(Q:Int):=fun {_}=>ixP hlr hlt hr hc hQ
     obtain⟨a1,a2,a3⟩:=rowP hlr hlt hr hc hQ;rw[←EL.out]at a1 a2 a3;obtain⟨z1,_,_⟩:=S.1.cellP hlr hlt hQ;clear hQ;have kb:=(S).2;obtain⟨c0,c1,c2⟩:=c_3 kb;by_cases hz0:F m' k=0
     ·rw[hz0]at z1;have HA:=h_ (d1j hlr hz0);clear hz0;go_wp2;go_roundw
      case rel=>exact⟨m',by omega,by omega,by go_num,by rw[HA.out],S⟩
      case measure=>simp[intOf]
     ·have hzb:(F m' k != 0)=true:=by simpa using hz0
      have HA:=h_ (g5J hlr hz0);clear hz0;go_wp2;go_roundw
      case rel=>exact⟨m',by omega,by omega,by go_num,by rw[HA.out],S⟩
      case measure=>simp[intOf]
    ·have hmn:m=n:=by omega
     subst hmn;by_cases hfull:nzF F k m r=r
     ·have HRS2:=h_ (HRS.out.trans (if_neg (by rw[hfull];omega)));have hat:atI F k m r = -1:=by rw[atI,if_pos hfull]
      rw[hat];clear hat hfull;go_wp2;go_roundw
      case rel=>exact⟨k+1,by omega,by go_num,by rw[HRS2.out,HN.out],by rw[HRS2.out];exact S⟩
      case measure=>simp[intOf];omega
     ·have hle:=G5_ (f:=F) (k:=k) hmr;have hlr0:nzF F k m r<r:=by omega
      have HRS2:=h_ (HRS.out.trans (if_pos hlr0));have hne:=b0X hmr hlr0;have hat:atI F k m r=(nzF F k m r:Int):=by rw[atI,if_neg hfull]
      rw[hat];clear hat hfull;obtain⟨n,hnn⟩:∃ n,n=m:=⟨_,rfl⟩;subst hnn;obtain⟨a,ha⟩:=e_ (nzF F k n r);rw[ha]at hle hlr0 hne⊢;have HZA:=h_ ha;have HNE:=h_ hne;clear ha hne;obtain⟨P,hP⟩:∃ P,P=n*c:=⟨_,rfl⟩;obtain⟨Q,hQ⟩:∃ Q,Q=a*c:=⟨_,rfl⟩;have hPw:=h_ (ixP hnr hlt hr hc hP);have hQw:=h_ (ixP hlr0 hlt hr hc hQ);have hrp:=rowP hnr hlt hr hc hP;rw[←EL.out]at hrp;have HPP:=h_ hP;have HQQ:=h_ hQ;clear hP hQ;rw[←sw_0 n a F]at S;have hdn:decide ((n:Int)≤(n:Int)-1)=false:=decide_eq_false (by omega);go_wp2;clear hdn;go_loopw [12] (fun i wr=>∃ j:Nat,j≤c∧i = .int .i64 j∧RT w1.heap.size W.heap.size w2 (some ⟨g,0,none⟩) r c L cap wr (swJ n a j F) (.slice PA n pc) ps) (fun i _=>c-(intOf i).toNat)
      case atStart=>exact⟨0,l0_ _,rfl,S⟩
      case round =>
       as_aux_lemma =>
        clear S;obtain⟨j,hj,rfl,S⟩:=hrel;have kb:=(S).2;obtain⟨c0,c1,c2⟩:=c_3 kb;by_cases hljc:j<c
        ·obtain⟨a1,a2,a3⟩:=rowP hlr0 hljc hr hc HQQ.out;obtain⟨b1,b2,b3⟩:=rowP hnr hljc hr hc HPP.out;rw[←EL.out]at a1 a2 a3 b1 b2 b3;have hst:=c9Z F hnr hlr0 hljc;rw[←HQQ.out,←HPP.out]at hst;have HST:=h_ hst;obtain⟨z1,_,z2⟩:=S.1.cellP hnr hljc HPP.out;rw[A7_]at z1;have hSS:=h_ S;have hpw:∀ [Inhabited Unit],wrap64 ((n:Int)*(c:Int))=(P:Int):=fun {_}=>hPw.out
         clear hst S kb;go_wp2;rw[hPw.out];clear c0 c1 c2 z1 z2 hpw;refine a9_ (by kernel_rfl) [.eq (.pointer (some ⟨w1.heap.size,2,none⟩)),.eq (.slice (some ⟨g,0,none⟩) L cap),.eq (.int .i64 n),.eq (.pointer (some ⟨w1.heap.size,1,none⟩)),.eq (.int .i64 c),.eq (.int .i64 P),.eq (.int .i64 j),.eq (.int .i64 ((P:Int)+j)),.eq (.pointer (some ⟨w1.heap.size,2,none⟩)),.eq (.slice (some ⟨g,0,none⟩) L cap),.eq (.int .i64 a),.eq (.pointer (some ⟨w1.heap.size,1,none⟩)),.eq (.int .i64 c),.eq (.int .i64 Q),.eq (.int .i64 j),.eq (.int .i64 ((Q:Int)+j)),.eq (.pointer (some ⟨g,Q+j,none⟩)),.eq (.int .i64 (F a j)),.eq (.pointer (some ⟨g,P+j,none⟩))] [[],[0],[],[],[3],[2,3,4],[],[2,3,4,5,6],[],[8],[],[],[11],[10,11,12],[],[10,11,12,13,14],[8,9,10,11,12,13,14,15],[8,9,10,11,12,13,14,15,16],[0,1,2,3,4,5,6,7,8,9,10,11,12,13,14,15,16,17],[0,1,2,3,4,5,6,7,8,9,10,11,12,13,14,15,16,17,18]] 19 (by kernel_rfl) ⟨trivial,trivial,trivial,trivial,trivial,trivial,trivial,trivial,trivial,trivial,trivial,trivial,trivial,trivial,trivial,trivial,trivial,trivial,trivial,trivial⟩ ⟨?_,?_,?_,?_,?_,?_,?_,?_,?_,?_,?_,?_,?_,?_,?_,?_,?_,?_,?_,trivial⟩ ?_;iterate 19 (intro x w hb hk Q' hQ;have he:=k_e hk;simp only[k_s]at he;simp only[netE]at hQ⊢;(try simp only[he]at hQ⊢);(try clear he);rotate_left)
         rotate_left
         ·clear hk;go_wp2;exact hQ _ _ br_ rfl
         ·clear hk;have q:=(hSS.out.call HWB.out hb).2.cell' (i:=2) rfl;go_wp2;exact hQ _ _ br_ rfl
         iterate 2 (· clear hk;go_wp2;exact hQ _ _ br_ rfl)
         ·clear hk;have q:=(hSS.out.call HWB.out hb).2.cell' (i:=1) rfl;go_wp2;exact hQ _ _ br_ rfl
         ·clear hk;go_wp2;rw[hPw.out];exact hQ _ _ br_ rfl
         iterate 3 (· clear hk;go_wp2;exact hQ _ _ br_ rfl)
         ·clear hk;have q:=(hSS.out.call HWB.out hb).2.cell' (i:=2) rfl;go_wp2;exact hQ _ _ br_ rfl
         iterate 2 (· clear hk;go_wp2;exact hQ _ _ br_ rfl)
         ·clear hk;have q:=(hSS.out.call HWB.out hb).2.cell' (i:=1) rfl;go_wp2;exact hQ _ _ br_ rfl
         ·clear hk;go_wp2;rw[hQw.out];exact hQ _ _ br_ rfl
         iterate 3 (· clear hk;go_wp2;exact hQ _ _ br_ rfl)
         ·clear hk;have z:=((hSS.out.call HWB.out hb).1.cellP hlr0 hljc HQQ.out).1;rw[A7_]at z;go_wp2;exact hQ _ _ br_ rfl
         ·clear hk;go_wp2;exact hQ _ _ br_ rfl
         ·intro x w hb hk hiv hdj;have he:=k_g hk [0,1,2,3,4,5,6,7,8,9,10,11,12,13,14,15,16,17,18];simp only[k_s]at he;simp only[netE,he];clear he hk;have S:=hSS.out.call HWB.out hb;have ia:=(S.1.cellP hlr0 hljc HQQ.out);have ib:=(S.1.cellP hnr hljc HPP.out);rw[A7_]at ia ib;have hst1:(flat r c (swJ n a j F)).set (P+j) (F a j)=flat r c (fun x b=>if x=n∧b=j then F a j else swJ n a j F x b):=by rw[HPP.out];exact k8_ _ _ hnr hljc
          have hst2:=HST.out;rw[hst1]at hst2;have S1:=S.put (J:=P+j) (x:=F a j) hBg (S.1.size HWB.out) ia.2.1 hst1;have S2:=S1.put (J:=Q+j) (x:=F n j) hBg (S1.1.size HWB.out) ib.2.1 hst2;obtain⟨q1,_,q2⟩:=S1.1.cellP hlr0 hljc HQQ.out;obtain⟨p1,_,p2⟩:=ib;have kb:=S1.2;obtain⟨c0,c1,c2⟩:=c_3 kb;have HS2:=h_ S2;have hqw:∀ [Inhabited Unit],wrap64 ((a:Int)*(c:Int))=(Q:Int):=fun {_}=>hQw.out
          clear ia S S1 S2 hiv hdj hst1 hst2 kb;go_wp2;go_roundw
          case rel=>exact⟨j+1,by omega,by go_num,HS2.out⟩
          case measure=>simp[intOf];omega
        ·have hjc:j=c:=by omega
         subst hjc;have S:=S.congr (f4x n a r j F);have hin1:=c1Q HIN.out hnr hlr0;have hx0:swA n a F n k=F a k:=by rw[swA,if_pos rfl]
         obtain⟨F1,hF1⟩:=e_ (swA n a F);rw[hF1]at S hin1 hx0;obtain⟨x,hx⟩:=e_ (F1 n k);obtain⟨z1,hxI,_⟩:=S.1.cellP hnr hlt HPP.out;have hxr:=hin1 n k hnr hlt;rw[hx]at z1 hxr hx0;have hxn:1≤x:=by
          have:=HNE.out;rw[←hx0]at this;omega
         obtain⟨s,hs⟩:=e_ (invP p x);have hsr:=f1x (x:=x) hpr;rw[hs]at hsr;have HS:=h_ hs;have HX:=h_ hx;have HF1:=h_ hF1;have HIN1:=h_ hin1;have hSS:=h_ S;have hpw:∀ [Inhabited Unit],wrap64 ((n:Int)*(j:Int))=(P:Int):=fun {_}=>hPw.out
         clear hs hx hxI hF1 hin1 hx0 S kb c0 c1 c2;obtain⟨c0,c1,c2⟩:=c_3 hSS.out.2;obtain⟨b1,b2,b3⟩:=hrp;go_wp2_with fail
         refine (C7_ p x _ HP.out hxn hxr.2).mono ?_;rintro e w5 ⟨rfl,hww⟩;replace hww:=hww.symm;subst hww;rw[HS.out];have S:=hSS.out;rw[←sc_0 p n s F1]at S;clear c0 c1 c2 z1;go_wp2;try rw[hPw.out]
         clear hpw;go_loopw [15] (fun i wr=>∃ j':Nat,j'≤j∧i = .int .i64 j'∧RT w1.heap.size W.heap.size w2 (some ⟨g,0,none⟩) r j L cap wr (scJ p n s j' F1) (.slice PA n pc) ps) (fun i _=>j-(intOf i).toNat)
         case atStart=>exact⟨0,l0_ _,rfl,S⟩
         case round =>
          as_aux_lemma =>
           clear S hSS;obtain⟨j',hj',rfl,S⟩:=hrel;have kb:=(S).2;obtain⟨c0,c1,c2⟩:=c_3 kb;by_cases hl4:j'<j
           ·obtain⟨b1,b2,b3⟩:=rowP hnr hl4 hr hc HPP.out;rw[←EL.out]at b1 b2 b3;have hi1:=HIN1.out n j' hnr hl4;have hst:=c8z (p:=p) (s:=s) F1 hnr hl4;obtain⟨a4,ha4⟩:=e_ (F1 n j');rw[ha4]at hi1 hst;rw[←HPP.out]at hst;have k0:0≤a4*s:=Int.mul_nonneg hi1.1 hsr.1;have k1:a4*s≤4*4:=Int.mul_le_mul (by omega) hsr.2 hsr.1 (by omega);obtain⟨K,hK⟩:=e_ (a4*s);rw[hK]at k0 k1 hst;have hKw:=h_ (show wrap64 (s*a4)=K by rw[Int.mul_comm,hK];exact IntWalk.wrap64_in _ ⟨by omega,by omega⟩);have hr1:=i6_ (x:=K) hpr.1;have HST:=h_ hst;have HA4:=h_ ha4;have hSS:=h_ S;have hKI:Hid (I64 K):=by show _∧_;omega
            have hRI:Hid (I64 (K % p)):=by show _∧_;omega
            clear ha4 hK hst S kb hi1 k0 k1;go_wp2;clear c0 c1 c2;refine a9_ (by kernel_rfl) [.eq (.pointer (some ⟨w1.heap.size,2,none⟩)),.eq (.slice (some ⟨g,0,none⟩) L cap),.eq (.int .i64 n),.eq (.pointer (some ⟨w1.heap.size,1,none⟩)),.eq (.int .i64 j),.eq (.int .i64 P),.eq (.int .i64 j'),.eq (.int .i64 ((P:Int)+j')),.eq (.int .i64 p),.eq (.int .i64 s),.eq (.pointer (some ⟨w1.heap.size,2,none⟩)),.eq (.slice (some ⟨g,0,none⟩) L cap),.eq (.int .i64 n),.eq (.pointer (some ⟨w1.heap.size,1,none⟩)),.eq (.int .i64 j),.eq (.int .i64 P),.eq (.int .i64 j'),.eq (.int .i64 ((P:Int)+j')),.eq (.pointer (some ⟨g,P+j',none⟩)),.eq (.int .i64 a4),.eq (.int .i64 K),.eq (.int .i64 (K % p)),.eq (.pointer (some ⟨g,P+j',none⟩))] [[],[0],[],[],[3],[2,3,4],[],[2,3,4,5,6],[],[],[],[10],[],[],[13],[12,13,14],[],[12,13,14,15,16],[10,11,12,13,14,15,16,17],[10,11,12,13,14,15,16,17,18],[9,10,11,12,13,14,15,16,17,18,19],[8,9,10,11,12,13,14,15,16,17,18,19,20],[0,1,2,3,4,5,6,7,8,9,10,11,12,13,14,15,16,17,18,19,20,21],[0,1,2,3,4,5,6,7,8,9,10,11,12,13,14,15,16,17,18,19,20,21,22]] 23 (by kernel_rfl) ⟨trivial,trivial,trivial,trivial,trivial,trivial,trivial,trivial,trivial,trivial,trivial,trivial,trivial,trivial,trivial,trivial,trivial,trivial,trivial,trivial,trivial,trivial,trivial,trivial⟩ ⟨?_,?_,?_,?_,?_,?_,?_,?_,?_,?_,?_,?_,?_,?_,?_,?_,?_,?_,?_,?_,?_,?_,?_,trivial⟩ ?_;iterate 23 (intro x w hb hk Q' hQ;have he:=k_e hk;simp only[k_s]at he;simp only[netE]at hQ⊢;(try simp only[he]at hQ⊢);(try clear he);rotate_left)
            rotate_left
            ·clear hk;go_wp2;exact hQ _ _ br_ rfl
            ·clear hk;have q:=(hSS.out.call HWB.out hb).2.cell' (i:=2) rfl;go_wp2;exact hQ _ _ br_ rfl
            iterate 2 (· clear hk;go_wp2;exact hQ _ _ br_ rfl)
            ·clear hk;have q:=(hSS.out.call HWB.out hb).2.cell' (i:=1) rfl;go_wp2;exact hQ _ _ br_ rfl
            ·clear hk;go_wp2;rw[hPw.out];exact hQ _ _ br_ rfl
            iterate 5 (· clear hk;go_wp2;exact hQ _ _ br_ rfl)
            ·clear hk;have q:=(hSS.out.call HWB.out hb).2.cell' (i:=2) rfl;go_wp2;exact hQ _ _ br_ rfl
            iterate 2 (· clear hk;go_wp2;exact hQ _ _ br_ rfl)
            ·clear hk;have q:=(hSS.out.call HWB.out hb).2.cell' (i:=1) rfl;go_wp2;exact hQ _ _ br_ rfl
            ·clear hk;go_wp2;rw[hPw.out];exact hQ _ _ br_ rfl
            iterate 3 (· clear hk;go_wp2;exact hQ _ _ br_ rfl)
            ·clear hk;have z:=((hSS.out.call HWB.out hb).1.cellP hnr hl4 HPP.out).1;rw[c8q,HA4.out]at z;go_wp2;exact hQ _ _ br_ rfl
            ·clear hk;go_wp2;rw[hKw.out];exact hQ _ _ br_ rfl
            ·clear hk;go_wp2_with fail
             refine (q6_ p K _ hpr hKI.out).mono ?_;rintro e w5 ⟨rfl,hww⟩;replace hww:=hww.symm;subst hww;go_wp2;exact hQ _ _ br_ rfl
            ·clear hk;go_wp2;exact hQ _ _ br_ rfl
            ·intro x w hb hk hiv hdj;have he:=k_g hk [0,1,2,3,4,5,6,7,8,9,10,11,12,13,14,15,16,17,18,19,20,21,22];simp only[k_s]at he;simp only[netE,he];clear he hk;have S:=hSS.out.call HWB.out hb;obtain⟨p1,_,p2⟩:=S.1.cellP hnr hl4 HPP.out;have S2:=S.put (J:=P+j') (x:=K % p) hBg (S.1.size HWB.out) hRI.out HST.out;have HS2:=h_ S2;clear S S2 hiv hdj;go_wp2;go_roundw
             case rel=>exact⟨j'+1,by omega,by go_num,HS2.out⟩
             case measure=>simp[intOf];omega
           ·have hje:j'=j:=by omega
            subst hje;have S:=S.congr (f3J p n r j' s F1);have hin2:=c1J (s:=s) (n:=n) hpr.1 HIN1.out;obtain⟨F2,hF2⟩:=e_ (scA p n s F1);rw[hF2]at S hin2;have hfin:Hid (rdF p r F n k=elA p n k F2):=by
             show _=_;rw[rdF,HZA.out,HF1.out,HX.out,HS.out,hF2]
            have HIN2:=h_ hin2;clear hF2 hin2 kb;rw[←el_0 p n k F2]at S;go_wp2;clear c0 c1 c2;go_loopw [16] (fun i wr=>∃ i':Nat,i'≤r∧i = .int .i64 i'∧RT w1.heap.size W.heap.size w2 (some ⟨g,0,none⟩) r j' L cap wr (elI p n k i' F2) (.slice PA n pc) ps) (fun i _=>r-(intOf i).toNat)
            case atStart=>exact⟨0,l0_ _,rfl,S⟩
            case round =>
             as_aux_lemma =>
              clear S;obtain⟨i,hi,rfl,S⟩:=hrel;have kb:=(S).2;obtain⟨c0,c1,c2⟩:=c_3 kb;by_cases hl5:i<r
              ·obtain⟨R,hR⟩:∃ R,R=i*j':=⟨_,rfl⟩;have hRw:=h_ (ixP hl5 hlt hr hc hR);obtain⟨a1,a2,a3⟩:=rowP hl5 hlt hr hc hR;rw[←EL.out]at a1 a2 a3;obtain⟨z1,_,_⟩:=S.1.cellP hl5 hlt hR;rw[R8_]at z1;have hr5:=HIN2.out i k hl5 hlt;obtain⟨q,hq⟩:=e_ (F2 i k);rw[hq]at hr5 z1;have HR:=h_ hR;have HQ5:=h_ hq;have hrw:∀ [Inhabited Unit],wrap64 ((i:Int)*(j':Int))=(R:Int):=fun {_}=>hRw.out
               clear hR hq;rw[←g7j]at S;go_wp2;try rw[hRw.out]
               clear z1 c0 c1 c2 kb hrw;go_loopw [18] (fun x wr=>∃ y:Nat,y≤j'∧x = .int .i64 y∧RT w1.heap.size W.heap.size w2 (some ⟨g,0,none⟩) r j' L cap wr (elJ p n k i y F2) (.slice PA n pc) ps∧(i=n→y=0)) (fun x _=>j'-(intOf x).toNat)
               case atStart=>exact⟨0,l0_ _,rfl,S,fun _=>rfl⟩
               case round =>
                as_aux_lemma =>
                 clear S;obtain⟨y,hy,rfl,S,hyn⟩:=hrel;have kb:=(S).2;obtain⟨c0,c1,c2⟩:=c_3 kb;by_cases hin:i=n
                 ·have hy0:=hyn hin;subst hy0;have hne:((i:Int) != n)=false:=by rw[bne_eq_false_iff_eq];omega
                  have S:=S.congr (show flat r j' (elJ p n k i 0 F2)=flat r j' (elI p n k (i+1) F2) by rw[g7j,hin,b9q]);have hS2:=h_ S;have hk0:0<j':=by omega
                  clear hin hyn S;go_wp2;go_roundw
                  case rel=>exact⟨i+1,by omega,by go_num,hS2.out⟩
                  case measure=>simp[intOf];omega
                 ·have hne:((i:Int) != n)=true:=by rw[bne_iff_ne];omega
                  clear hyn;by_cases hl6:y<j'
                  ·obtain⟨d1,d2,d3⟩:=rowP hl5 hl6 hr hc HR.out;obtain⟨b1,b2,b3⟩:=rowP hnr hl6 hr hc HPP.out;rw[←EL.out]at d1 d2 d3 b1 b2 b3;have hiy:=HIN2.out i y hl5 hl6;have hny:=HIN2.out n y hnr hl6;have hst:=d3j (p:=p) (n:=n) (k:=k) (i:=i) (j:=y) F2 hl5 hl6;rw[←g7q]at hst;obtain⟨v,hv⟩:=e_ (F2 i y);obtain⟨t,ht⟩:=e_ (F2 n y);rw[hv,ht,HQ5.out,←HR.out]at hst;rw[hv]at hiy;rw[ht]at hny;have k0:0≤q*t:=Int.mul_nonneg hr5.1 hny.1;have k1:q*t≤4*4:=Int.mul_le_mul (by omega) (by omega) hny.1 (by omega);obtain⟨K,hK⟩:=e_ (q*t);rw[hK]at k0 k1 hst;have hKw:=h_ (show wrap64 (q*t)=K by rw[hK];exact IntWalk.wrap64_in _ ⟨by omega,by omega⟩);have hr1:=i6_ (x:=v-K) hpr.1;have HST:=h_ hst;have HV:=h_ hv;have HT:=h_ ht;have HNI:=h_ hin;have hSS:=h_ S;have hKI:Hid (I64 (v-K)):=by show _∧_;omega
                   have hRI:Hid (I64 ((v-K) % p)):=by show _∧_;omega
                   clear hv ht hK hst S kb hin;go_wp2;clear c0 c1 c2;refine a9_ (by kernel_rfl) (.eq (.pointer (some ⟨w1.heap.size,2,none⟩)) :: .eq (.slice (some ⟨g,0,none⟩) L cap) :: .eq (.int .i64 i) :: .eq (.pointer (some ⟨w1.heap.size,1,none⟩)) :: .eq (.int .i64 j') :: .eq (.int .i64 R) :: .eq (.int .i64 y) :: .eq (.int .i64 ((R:Int)+y)) :: .eq (.int .i64 p) :: .eq (.pointer (some ⟨w1.heap.size,2,none⟩)) :: .eq (.slice (some ⟨g,0,none⟩) L cap) :: .eq (.int .i64 i) :: .eq (.pointer (some ⟨w1.heap.size,1,none⟩)) :: .eq (.int .i64 j') :: .eq (.int .i64 R) :: .eq (.int .i64 y) :: .eq (.int .i64 ((R:Int)+y)) :: .eq (.pointer (some ⟨g,R+y,none⟩)) :: .eq (.int .i64 v) :: .eq (.int .i64 q) :: .eq (.pointer (some ⟨w1.heap.size,2,none⟩)) :: .eq (.slice (some ⟨g,0,none⟩) L cap) :: .eq (.int .i64 n) :: .eq (.pointer (some ⟨w1.heap.size,1,none⟩)) :: .eq (.int .i64 j') :: .eq (.int .i64 P) :: .eq (.int .i64 y) :: .eq (.int .i64 ((P:Int)+y)) :: .eq (.pointer (some ⟨g,P+y,none⟩)) :: .eq (.int .i64 t) :: .eq (.int .i64 K) :: .eq (.int .i64 (v-K)) :: .eq (.int .i64 ((v-K) % p)) :: .eq (.pointer (some ⟨g,R+y,none⟩)) :: []) [[],[0],[],[],[3],[2,3,4],[],[2,3,4,5,6],[],[],[9],[],[],[12],[11,12,13],[],[11,12,13,14,15],[9,10,11,12,13,14,15,16],[9,10,11,12,13,14,15,16,17],[],[],[20],[],[],[23],[22,23,24],[],[22,23,24,25,26],[20,21,22,23,24,25,26,27],[20,21,22,23,24,25,26,27,28],[19,20,21,22,23,24,25,26,27,28,29],[9,10,11,12,13,14,15,16,17,18,19,20,21,22,23,24,25,26,27,28,29,30],[8,9,10,11,12,13,14,15,16,17,18,19,20,21,22,23,24,25,26,27,28,29,30,31],[0,1,2,3,4,5,6,7,8,9,10,11,12,13,14,15,16,17,18,19,20,21,22,23,24,25,26,27,28,29,30,31,32],[0,1,2,3,4,5,6,7,8,9,10,11,12,13,14,15,16,17,18,19,20,21,22,23,24,25,26,27,28,29,30,31,32,33]] 34 (by kernel_rfl) ⟨trivial,trivial,trivial,trivial,trivial,trivial,trivial,trivial,trivial,trivial,trivial,trivial,trivial,trivial,trivial,trivial,trivial,trivial,trivial,trivial,trivial,trivial,trivial,trivial,trivial,trivial,trivial,trivial,trivial,trivial,trivial,trivial,trivial,trivial,trivial⟩ ⟨?_,?_,?_,?_,?_,?_,?_,?_,?_,?_,?_,?_,?_,?_,?_,?_,?_,?_,?_,?_,?_,?_,?_,?_,?_,?_,?_,?_,?_,?_,?_,?_,?_,?_,trivial⟩ ?_;iterate 34 (intro x w hb hk Q' hQ;have he:=k_e hk;simp only[k_s]at he;simp only[netE]at hQ⊢;(try simp only[he]at hQ⊢);(try clear he);rotate_left)
                   rotate_left
                   ·clear hk;go_wp2;exact hQ _ _ br_ rfl
                   ·clear hk;have q9:=(hSS.out.call HWB.out hb).2.cell' (i:=2) rfl;go_wp2;exact hQ _ _ br_ rfl
                   iterate 2 (· clear hk;go_wp2;exact hQ _ _ br_ rfl)
                   ·clear hk;have q9:=(hSS.out.call HWB.out hb).2.cell' (i:=1) rfl;go_wp2;exact hQ _ _ br_ rfl
                   ·clear hk;go_wp2;rw[hRw.out];exact hQ _ _ br_ rfl
                   iterate 4 (· clear hk;go_wp2;exact hQ _ _ br_ rfl)
                   ·clear hk;have q9:=(hSS.out.call HWB.out hb).2.cell' (i:=2) rfl;go_wp2;exact hQ _ _ br_ rfl
                   iterate 2 (· clear hk;go_wp2;exact hQ _ _ br_ rfl)
                   ·clear hk;have q9:=(hSS.out.call HWB.out hb).2.cell' (i:=1) rfl;go_wp2;exact hQ _ _ br_ rfl
                   ·clear hk;go_wp2;rw[hRw.out];exact hQ _ _ br_ rfl
                   iterate 3 (· clear hk;go_wp2;exact hQ _ _ br_ rfl)
                   ·clear hk;have z:=((hSS.out.call HWB.out hb).1.cellP hl5 hl6 HR.out).1;rw[d2X,HV.out]at z;go_wp2;exact hQ _ _ br_ rfl
                   iterate 2 (· clear hk;go_wp2;exact hQ _ _ br_ rfl)
                   ·clear hk;have q9:=(hSS.out.call HWB.out hb).2.cell' (i:=2) rfl;go_wp2;exact hQ _ _ br_ rfl
                   iterate 2 (· clear hk;go_wp2;exact hQ _ _ br_ rfl)
                   ·clear hk;have q9:=(hSS.out.call HWB.out hb).2.cell' (i:=1) rfl;go_wp2;exact hQ _ _ br_ rfl
                   ·clear hk;go_wp2;rw[hPw.out];exact hQ _ _ br_ rfl
                   iterate 3 (· clear hk;go_wp2;exact hQ _ _ br_ rfl)
                   ·clear hk;have z:=((hSS.out.call HWB.out hb).1.cellP hnr hl6 HPP.out).1;rw[i4q _ HNI.out,HT.out]at z;go_wp2;exact hQ _ _ br_ rfl
                   ·clear hk;go_wp2;rw[hKw.out];exact hQ _ _ br_ rfl
                   ·clear hk;go_wp2;exact hQ _ _ br_ rfl
                   ·clear hk;go_wp2_with fail
                    refine (q6_ p (v-K) _ hpr hKI.out).mono ?_;rintro e w5 ⟨rfl,hww⟩;replace hww:=hww.symm;subst hww;go_wp2;exact hQ (.int .i64 ((v-K) % p)) _ br_ rfl
                   ·clear hk;go_wp2;exact hQ _ _ br_ rfl
                   ·intro x w hb hk hiv hdj;have he:=k_g hk [0,1,2,3,4,5,6,7,8,9,10,11,12,13,14,15,16,17,18,19,20,21,22,23,24,25,26,27,28,29,30,31,32,33];simp only[k_s]at he;simp only[netE,he];clear he hk;have S:=hSS.out.call HWB.out hb;obtain⟨p1,_,p2⟩:=S.1.cellP hl5 hl6 HR.out;have S2:=S.put (J:=R+y) (x:=(v-K) % p) hBg (S.1.size HWB.out) hRI.out HST.out;have HS2:=h_ S2;have hni:=HNI.out;clear S S2 hiv hdj;go_wp2;go_roundw
                    case rel=>exact⟨y+1,by omega,by go_num,HS2.out,fun h=>absurd h hni⟩
                    case measure=>simp[intOf];omega
                  ·have hyj:y=j':=by omega
                   have S:=S.congr (show flat r j' (elJ p n k i y F2)=flat r j' (elI p n k (i+1) F2) by rw[hyj,f6Z F2 hin]);have hS2:=h_ S;clear hin S hyj;go_wp2;go_roundw
                   case rel=>exact⟨i+1,by omega,by go_num,hS2.out⟩
                   case measure=>simp[intOf];omega
              ·have hir:i=r:=by omega
               subst hir;have S:=S.congr (f0Z p n k i j' F2);rw[←hfin.out]at S;have hS8:=S.call HWB.out (a0_ wr (.cells #[.int .i64 k] 3));have hsz8:=hS8.1.size HWB.out;have HS8:=h_ hS8;clear S hS8 kb
               (go_wp2_with (at_builtin;refine Hold.stop ?_));unfold Hold
               refine d7_ rfl (.tmp 203) (.tmp 205) rfl W.heap.size _ (.slice PA n pc) ps rfl HS8.out.1.ownP.1 _ _ _ [(k:Int)] rfl rfl (SlI.one wr _ k ⟨by omega,by omega⟩) (by rw[HN.out];simp;omega) hsz8 ?_;intro v9 w9 ho9 hg9 hv9;have S9:=HS8.out.app hsz8 ho9 hg9 hv9;clear ho9 hg9 hv9;go_wp2;go_roundw
               case rel=>exact⟨k+1,by omega,by go_num,by rw[HRS2.out,List.length_append,HN.out];go_num,by rw[HRS2.out];exact S9⟩
               case measure=>simp[intOf];omega
  ·have hend:Hid (rdTo p r f c=(F,ps)):=by
    show _=_;by_cases hkc:k<c
    ·have hnr:n=r:=by omega
     have h1:=hrest.out (by rw[HPS.out,HN.out,hnr]);rw[show k+(c-k)=c by omega]at h1;rw[h1,←HFF.out,←HPS.out]
    ·rw[show c=k by omega,←HFF.out,←HPS.out]
   have sz:=SZ.out;have sB:=S.1.size HWB.out;have k4:=S.2;have k3':=KR.out.below S.1.bel (by omega);obtain⟨z0,z1,z2⟩:=c_3 k4;obtain⟨p0,p1,p2⟩:=c_3 k3';have f2:=k3'.frozen;have h2:=chg3 wr (w0.heap.size+1) (.int .i64 (r:Int)) (.int .i64 c) (.slice A L cap);have gw:Below w0.heap.size w0 wr:=(G2.out).trans (S.1.bel.mono (by omega));have gs:=gw.size;have oA:a8_ wr W.heap.size wr.heap.size (.slice A L cap) (flat r c F):=S.1.fam.1 (_,flat r c F) (by simp);have oA2:=(oA.chg h2 (.inr (by omega))).wider (lo':=w0.heap.size) (hi':=wr.heap.size) (by omega) (l_ _);have oP2:=(S.1.ownP.chg h2 (.inr (by omega))).wider (lo':=w0.heap.size) (hi':=wr.heap.size) (by omega) (l_ _);have fg:=gw.trans (h2.below (by omega) gs);have OA2:=h_ oA2;have OP2:=h_ oP2;have FG:=h_ fg;clear oA oA2 oP2 fg gw h2 k3' k4 S;by_cases hkc:k<c
   ·have hnr:¬ n<r:=by omega
    clear hgo;go_wp2;refine bodyPost_ret (v:=.tuple #[.agg #[.int .i64 (r:Int),.int .i64 c,.slice A L cap],.slice PA n pc]) (by simp[results,go_sem,p0,p1,p2]) rfl ⟨_,_,rfl,?_,?_,FG.out⟩
    ·refine⟨_,rfl,?_,by simp only[I64];omega,by simp only[I64];omega⟩;rw[hend.out];exact (OA2.out).wider (l_ _) (by simp)
    ·rw[hend.out];exact (OP2.out).wider (l_ _) (by simp)
   ·clear hgo;go_wp2;refine bodyPost_ret (v:=.tuple #[.agg #[.int .i64 (r:Int),.int .i64 c,.slice A L cap],.slice PA n pc]) (by simp[results,go_sem,p0,p1,p2]) rfl ⟨_,_,rfl,?_,?_,FG.out⟩
    ·refine⟨_,rfl,?_,by simp only[I64];omega,by simp only[I64];omega⟩;rw[hend.out];exact (OA2.out).wider (l_ _) (by simp)
    ·rw[hend.out];exact (OP2.out).wider (l_ _) (by simp)
theorem c2x {p:Int} {r c:Nat} {f:Nat→Nat→Int} (hp:c8_ p=true) (hr:r≤8) (hc:c≤8) (hf:∀ i j,i<r→j<c→0≤f i j∧f i j≤p-1):L5_ p (mxF r c f)=true:=by
 rw[a2Q];refine⟨by simp only[mxF];omega,by simp only[mxF];omega,by simp[mxF,a1_],c2Z.2 ⟨hp,?_,fun x hx=>?_⟩⟩
 ·simp only[mxF,a1_];exact Nat.mul_le_mul hr hc
 ·obtain⟨i,j,hi,hj,rfl⟩:=d3z hx;exact hf i j hi hj
theorem U3_ (p:Int) (u:Value) (r c:Nat) (f:Nat→Nat→Int) (w0:World) (hp:c8_ p=true) (hr:r≤8) (hc:c≤8) (hu:MxR w0 w0.heap.size u (mxF r c f)) (hf:InF p r c f) :
  Calls Tryz.prog 90 #[.int .i64 p,u] w0 fun e w'=>∃ m v,e = .returned (.tuple #[m,v,.bool true])∧MxO w' w0.heap.size w'.heap.size m (mxF r c (rdTo p r f c).1)∧a8_ w' w0.heap.size w'.heap.size v (rdTo p r f c).2∧Below w0.heap.size w0 w':=by
 have hu':=hu;have hmat:=c2x hp hr hc hf;obtain⟨UA,uc,rfl⟩:=hu.form;simp only[mxF]at hu hu'⊢;rw[a1_]at hu hu'⊢;obtain⟨UL,hUL⟩:=e_ (r*c);rw[hUL]at hu hu'⊢;clear hUL hu;obtain⟨W,hW,g0,kB,kR⟩:=b_4 w0 #[.int .i64 r,.int .i64 c,.slice UA UL uc] 65 #[.int .i64 0,.int .i64 0,.slice none 0 0] 65;have sz:W.heap.size=w0.heap.size+1+1:=by rw[hW];simp
 have SZ:=h_ sz;have hU:=MxR.next g0 hu';have HF:=h_ hf;have HP:=h_ hp;have HMT:=h_ hmat
 obtain⟨c0,c1,c2⟩:=c_3 kB;clear hu' hf hp hmat sz;go_enter Tryz.func90,Tryz.ntmps90
 go_wp2_with fail
 rw[←hW];clear hW;refine (j8_ p _ (mxF r c f) _ hU).mono ?_;rintro e w1 ⟨rfl,hb1⟩;rw[HMT.out];have HU1:=h_ (MxR.next hb1 hU);have kB1:=kB.call hb1;have kR1:=kR.call hb1;have g1:=b0_ g0 hb1;have s1:=hb1.size;clear c0 c1 c2 hU kB kR g0 hb1;obtain⟨c0,c1,c2⟩:=c_3 kB1;go_wp2_with fail
 refine (Y1_ p _ r c f _ HP.out (by omega) (by omega) HU1.out HF.out).mono ?_;rintro e w2 ⟨m,v,rfl,hM,hI,hb2⟩;obtain⟨MA,mc,em⟩:=hM.form;obtain⟨PA,pc,ev⟩:=hI.form;subst em ev;simp only[mxF,a1_]at hM⊢;obtain⟨ML,hML⟩:=e_ (r*c);rw[hML]at hM⊢;have g2:=b0_ g1 hb2;have kR2:=kR1.call hb2;have s2:=hb2.size;obtain⟨X,hX,bX,kX⟩:=b_3 w2 #[.int .i64 r,.int .i64 c,.slice MA ML mc] 65;have kRX:=kR2.call bX;have gX:=b0_ g2 bX;have sX:=bX.size;have fr:=kRX.frozen;obtain⟨p0,p1,p2⟩:=c_3 kRX;obtain⟨d0,d1,d2⟩:=c_3 kX;have sz:=SZ.out;have hc3:=chg3 X (w0.heap.size+1) (.int .i64 (r:Int)) (.int .i64 c) (.slice MA ML mc);have hMX:=hM.below bX;have hIX:=hI.below bX;have OM:=h_ ((hMX.chg hc3 (.inr (by omega))).wider (lo':=w0.heap.size) (hi':=X.heap.size) (by omega) (by omega));have OI:=h_ ((hIX.chg hc3 (.inr (by omega))).wider (lo':=w0.heap.size) (hi':=X.heap.size) (by omega) (by omega));have GF:=h_ (gX.trans (hc3.below (by omega) gX.size));rw[hX]at fr p0 p1 p2 d0 d1 d2;clear hM hI hMX hIX hc3 gX kRX kX bX kR2 g2 hb2 kR1 g1 s1 s2 sX c0 c1 c2 kB1 sz;go_wp2;rw[←hX];rw[←hX]at p0 p1 p2;exact bodyPost_ret (v:=.tuple #[.agg #[.int .i64 (r:Int),.int .i64 c,.slice MA ML mc],.slice PA (rdTo p r f c).2.length pc,.bool true]) (by simp[results,go_sem,p0,p1,p2]) rfl ⟨_,_,rfl,MxO.wider OM.out (l_ _) (by simp),a8_.wider OI.out (l_ _) (by simp),GF.out⟩
theorem Q6_ (p:Int) (u:Value) (r c:Nat) (f:Nat→Nat→Int) (w0:World) (hp:c8_ p=true) (hr:r≤8) (hc:c≤8) (hu:MxR w0 w0.heap.size u (mxF r c f)) (hf:InF p r c f) :
  Calls Tryz.prog 43 #[.int .i64 p,u] w0 fun e w'=>e = .returned (.int .i64 (rkF p r c f:Int))∧Below w0.heap.size w0 w':=by
 have hu':=hu;obtain⟨UA,uc,rfl⟩:=hu.form;simp only[mxF]at hu hu'⊢;rw[a1_]at hu hu'⊢;obtain⟨UL,hUL⟩:=e_ (r*c);rw[hUL]at hu hu'⊢;clear hUL hu;obtain⟨W,hW,g0,kB⟩:=b_3 w0 #[.int .i64 r,.int .i64 c,.slice UA UL uc] 65;have HU:=h_ (MxR.next g0 hu');have HF:=h_ hf;have HP:=h_ hp;obtain⟨c0,c1,c2⟩:=c_3 kB;clear hu' hf hp kB;go_enter Tryz.func43,Tryz.ntmps43
 go_wp2_with fail
 rw[←hW];clear hW;refine (U3_ p _ r c f _ HP.out hr hc HU.out HF.out).mono ?_;rintro e w1 ⟨m,v,rfl,hM,hI,hb1⟩;obtain⟨MA,mc,em⟩:=hM.form;obtain⟨PA,pc,ev⟩:=hI.form;subst em ev;have g1:=b0_ g0 hb1;simp only[mxF];obtain⟨rk,hrk⟩:=e_ (rkF p r c f);have hrk2:=hrk;unfold rkF at hrk2;rw[hrk2];have HRK:=h_ hrk;clear hM hI hb1 g0 c0 c1 c2 hrk hrk2;go_wp2;go_ret
 exact⟨by rw[HRK.out];rfl,g1.alloc g1.size _⟩
end Go.Proofs.YtbgccbmdiolhbaaGreat

