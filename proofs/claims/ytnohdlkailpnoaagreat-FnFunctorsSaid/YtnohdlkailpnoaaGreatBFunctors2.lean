/- FnFunctors: the law holds for every argument. Part 2 of 14 of the proof: IsQ, SS, Num, Symm, Symm2, Refl, FmtQ, LineOf, QvG, PrsQ, NmQ, NetK, AcyQ, AnyQ, Kit3, Mat, Mat2. No condition. -/
import Derived.Test.YtnohdlkailpnoaaGreatBFunctors1
import Derived.Shelf.RegionOpenPlain
set_option linter.unusedVariables false
set_option linter.unusedSimpArgs false
set_option maxHeartbeats 12800000
set_option maxRecDepth 100000
namespace Go.Proofs.YtnohdlkailpnoaaGreat
open Go.RowKit
def isQ (q:Qv):Bool:=inR q.v 1 5 && decide (q.f.length=q.t.length) && decide (q.f.length≤6) && allR q.f 0 (q.v-1) && allR q.t 0 (q.v-1)
theorem g4_ {q:Qv}:isQ q=true↔(1≤q.v∧q.v≤5)∧q.f.length=q.t.length∧q.f.length≤6∧(∀ x∈q.f,0≤x∧x≤q.v-1)∧(∀ x∈q.t,0≤x∧x≤q.v-1):=by
 simp only[isQ,l9_,t0_,T3_,decide_eq_true_eq,and_assoc]
theorem f9_ (u:Value) (q:Qv) (w:World) (hu:QvR w w.heap.size u q) :
  Calls Tryz.prog 103 #[u] w fun e w'=>e = .returned (.bool (isQ q))∧Below w.heap.size w w':=by
 obtain⟨A,c,C,d,rfl,hf,ht,hr,lf,lt⟩:=hu.open_;clear hu;obtain⟨W,hW,g0,kB⟩:=b_3 w #[.int .i64 q.v,.slice A q.f.length c,.slice C q.t.length d] 26;obtain⟨c0,c1,c2⟩:=c_3 kB;unfold isQ;rcases h1:inR q.v 1 5 with _ | _
 ·go_enter Tryz.func103,Tryz.ntmps103
  go_wp2_with fail
  rw[←hW];clear hW;refine (g0_ _ _ _ _).mono ?_;rintro e w' ⟨rfl,rfl⟩;rw[h1];go_wp2;go_ret
  exact⟨rfl,g0⟩
 have hb:=t0_.1 h1;obtain⟨hb1,hb2⟩:=hb;by_cases h2:q.f.length=q.t.length
 ·have e2:((q.f.length:Int) == q.t.length)=true:=by rw[beq_iff_eq];omega
  by_cases h3:q.f.length≤6
  ·have e3:decide (q.f.length≤6)=true:=by simpa using h3
   have e2':decide (q.f.length=q.t.length)=true:=by simpa using h2
   rw[e2',e3];clear h2 e2' e3;obtain⟨B1,hB1⟩:=e_ (allR q.f 0 (q.v-1));obtain⟨B2,hB2⟩:=e_ (allR q.t 0 (q.v-1));rw[hB1,hB2];have HB1:=h_ hB1;have HB2:=h_ hB2;clear hB1 hB2;cases B1
   ·go_enter Tryz.func103,Tryz.ntmps103
    go_wp2_with fail
    rw[←hW];clear hW;refine (g0_ _ _ _ _).mono ?_;rintro e w' ⟨rfl,rfl⟩;rw[h1];go_wp2_with fail
    refine (k7_ _ q.f _ _ _ (SlI.next g0 hf)).mono ?_;rintro e w1 ⟨rfl,hb1⟩;rw[HB1.out];go_wp2;go_ret
    exact⟨rfl,a6_ g0 hb1⟩
   ·go_enter Tryz.func103,Tryz.ntmps103
    go_wp2_with fail
    rw[←hW];clear hW;refine (g0_ _ _ _ _).mono ?_;rintro e w' ⟨rfl,rfl⟩;rw[h1];go_wp2_with fail
    refine (k7_ _ q.f _ _ _ (SlI.next g0 hf)).mono ?_;rintro e w1 ⟨rfl,hb1⟩;rw[HB1.out];have d0:=(kB.call hb1).cell' (i:=0) rfl;have d2:=(kB.call hb1).cell' (i:=2) rfl;have g1:=a6_ g0 hb1;clear c0 c1 c2;go_wp2_with fail
    refine (k7_ _ q.t _ _ _ (SlI.next g1 ht)).mono ?_;rintro e w2 ⟨rfl,hb2⟩;rw[HB2.out];go_wp2;go_ret
    exact⟨rfl,a6_ g1 hb2⟩
  ·have e3:decide (q.f.length≤6)=false:=by simpa using h3
   rw[e3];have e3':¬ ((q.f.length:Int)≤6):=by omega
   clear h2;simp only[Bool.and_false,Bool.false_and];go_enter Tryz.func103,Tryz.ntmps103
   go_wp2_with fail
   rw[←hW];clear hW;refine (g0_ _ _ _ _).mono ?_;rintro e w' ⟨rfl,rfl⟩;rw[h1];go_wp2;go_ret
   exact⟨rfl,g0⟩
 ·have e2:((q.f.length:Int) == q.t.length)=false:=by rw[beq_eq_false_iff_ne];omega
  have e2':decide (q.f.length=q.t.length)=false:=by simpa using h2
  rw[e2'];simp only[Bool.and_false,Bool.false_and];go_enter Tryz.func103,Tryz.ntmps103
  go_wp2_with fail
  rw[←hW];clear hW;refine (g0_ _ _ _ _).mono ?_;rintro e w' ⟨rfl,rfl⟩;rw[h1];go_wp2;go_ret
  exact⟨rfl,g0⟩
def okTo (q:Qv) (k:Nat):Prop:=(∀ x∈q.f.take k,inR x 0 (wrap64 (q.v-1))=true)∧∀ x∈q.t.take k,inR x 0 (wrap64 (q.v-1))=true
theorem b9J {q:Qv} {x:Int} (hx:x∈q.f∨x∈q.t) (hr:inR x 0 (wrap64 (q.v-1))=false):isQ q=false:=by
 by_cases h:isQ q=true
 ·obtain⟨hv,_,_,hf,ht⟩:=g4_.1 h;have e:wrap64 (q.v-1)=q.v-1:=IntWalk.wrap64_in _ ⟨by omega,by omega⟩;rw[e,b9Z]at hr;rcases hx with hx | hx
  ·exact absurd (hf x hx) hr
  ·exact absurd (ht x hx) hr
 ·simpa using h
theorem d6X {q:Qv} {k:Nat} (h:okTo q k) (hk:¬ (k<q.f.length∧k<q.t.length)):isQ q=(inR q.v 1 5 && decide (q.f.length≤6) && decide (q.t.length=q.f.length)):=by
 rw[Bool.eq_iff_iff,g4_];simp only[l9_,t0_,decide_eq_true_eq];constructor
 ·rintro⟨h1,h2,h3,_⟩;exact⟨⟨h1,h3⟩,h2.symm⟩
 ·rintro⟨⟨h1,h3⟩,h2⟩;have e:wrap64 (q.v-1)=q.v-1:=IntWalk.wrap64_in _ ⟨by omega,by omega⟩;unfold okTo at h;rw[e,l7_ (by omega),l7_ (by omega)]at h;exact⟨h1,h2.symm,h3,fun x hx=>t0_.1 (h.1 x hx),fun x hx=>t0_.1 (h.2 x hx)⟩
theorem b4x {q:Qv} {k:Nat} {x y:Int} (h:okTo q k) (hx:q.f[k]?=some x) (hy:q.t[k]?=some y) (h1:inR x 0 (wrap64 (q.v-1))=true) (h2:inR y 0 (wrap64 (q.v-1))=true):okTo q (k+1):=by
 refine⟨fun z hz=>?_,fun z hz=>?_⟩
 ·rw[c8_ hx,List.mem_append,List.mem_singleton]at hz;rcases hz with hz | rfl
  ·exact h.1 z hz
  ·exact h1
 ·rw[c8_ hy,List.mem_append,List.mem_singleton]at hz;rcases hz with hz | rfl
  ·exact h.2 z hz
  ·exact h2
theorem c0_ (u:Value) (q:Qv) (w:World) (hu:QvR w w.heap.size u q) :
  Calls Tryz.prog 85 #[u] w fun e w'=>e = .returned (.bool (isQ q))∧Below w.heap.size w w':=by
 obtain⟨A,c,C,d,rfl,hf,ht,hr,lf,lt⟩:=hu.open_;clear hu;have g0:Below w.heap.size w (w.alloc (.cells #[.int .i64 q.v,.slice A q.f.length c,.slice C q.t.length d] 26)):=a2_ _ _;have kB:=Blk.new w 26 #[.int .i64 q.v,.slice A q.f.length c,.slice C q.t.length d];go_enter Tryz.func85,Tryz.ntmps85
 go_wp2;go_loopw [3] (fun i wr=>∃ k:Nat,k≤q.f.length∧i = .int .i64 k∧Below w.heap.size w wr∧Blk wr w.heap.size 26 #[.int .i64 q.v,.slice A q.f.length c,.slice C q.t.length d]∧Hid (okTo q k)) (fun i _=>q.f.length-(intOf i).toNat)
 case atStart=>exact⟨0,l0_ _,rfl,g0,kB,by intro x hx;simp at hx,by intro x hx;simp at hx⟩
 case round =>
  clear g0 kB;obtain⟨k,hk,rfl,hbel,kB,hok⟩:=hrel;obtain⟨c0,c1,c2⟩:=c_3 kB;by_cases hlt:k<q.f.length∧k<q.t.length
  ·obtain⟨hlt1,hlt2⟩:=hlt;obtain⟨b,o,x,rfl,hb,HX,x1,_⟩:=SlI.at_ hf hlt1;obtain⟨b',o',y,rfl,hb',HY,y1,_⟩:=SlI.at_ ht hlt2;have s:=hbel.size;have d0:=InB.cell kB.lt c0;have d1:=InB.cell kB.lt c1;have d2:=InB.cell kB.lt c2;have d3:=InB.cell (by omega) (a7_ hbel hb x1);have d4:=InB.cell (by omega) (a7_ hbel hb' y1);obtain⟨u,hU⟩:=e_ (wrap64 (q.v-1));have HU:=h_ hU;clear x1 y1 hf ht c0;rcases hB1:inR x 0 u with _ | _
   ·have hfin:=h_ (b9J (q:=q) (.inl (l4_ HX.out)) (by rw[HU.out];exact hB1));go_wp2
    (refine c7_ (by kernel_rfl) (by kernel_rfl) ?_;(repeat (go_big_quiet_step ((go_at_call 42;exact InB.call_same (f3_ _ _ _ _)))));refine wpQuiet_nil ?_;intro w1 hw';obtain⟨s1,hw1⟩:=hw';have hb1:=s1.below;rw[←hw1]at hb1;clear hw1 s1)
    go_wp2;go_ret
    exact⟨by rw[hfin.out];rfl,hbel.trans (hb1.mono s)⟩
   ·rcases hB2:inR y 0 u with _ | _
    ·have hfin:=h_ (b9J (q:=q) (.inr (l4_ HY.out)) (by rw[HU.out];exact hB2));go_wp2
     (refine c7_ (by kernel_rfl) (by kernel_rfl) ?_;(repeat (go_big_quiet_step ((go_at_call 42;exact InB.call_same (f3_ _ _ _ _)))));refine wpQuiet_nil ?_;intro w1 hw';obtain⟨s1,hw1⟩:=hw';have hb1:=s1.below;rw[←hw1]at hb1;clear hw1 s1)
     go_wp2;go_ret
     exact⟨by rw[hfin.out];rfl,hbel.trans (hb1.mono s)⟩
    ·go_wp2
     (refine c7_ (by kernel_rfl) (by kernel_rfl) ?_;(repeat (go_big_quiet_step ((go_at_call 42;exact InB.call_same (f3_ _ _ _ _)))));refine wpQuiet_nil ?_;intro w1 hw';obtain⟨s1,hw1⟩:=hw';have hb1:=s1.below;rw[←hw1]at hb1;clear hw1 s1)
     go_wp2;go_roundw
     case rel=>exact⟨k+1,by omega,by go_num,hbel.trans (hb1.mono s),kB.call hb1,b4x hok.out HX.out HY.out (by rw[HU.out];exact hB1) (by rw[HU.out];exact hB2)⟩
     case measure=>simp[intOf];omega
  ·have hE:=d6X hok.out hlt;have hx:k<q.f.length→¬ k<q.t.length:=fun a b=>hlt ⟨a,b⟩
   clear hlt hf ht;rcases hB1:inR q.v 1 5 with _ | _
   ·rw[hB1]at hE;have hfin:=h_ hE;clear hE;by_cases ha:k<q.f.length;all_goals
     first | have hb:=hx ha | skip
     clear hx;go_wp2_with (go_at_call 42;refine (f3_ _ _ _ _).mono ?_;rintro e w' ⟨rfl,rfl⟩;rw[hB1])
     go_ret
     exact⟨by rw[hfin.out];rfl,hbel⟩
   ·rw[hB1]at hE;by_cases h6:q.f.length≤6
    ·by_cases hl:q.t.length=q.f.length
     ·have hfin:Hid (isQ q=true):=by show _=_;rw[hE];simp[h6,hl]
      have he:((q.t.length:Int) == q.f.length)=true:=by rw[beq_iff_eq];omega
      have h6':(q.f.length:Int)≤6:=by omega
      clear hE hl;by_cases ha:k<q.f.length;all_goals
       first | have hb:=hx ha | skip
       clear hx;go_wp2_with (go_at_call 42;refine (f3_ _ _ _ _).mono ?_;rintro e w' ⟨rfl,rfl⟩;rw[hB1])
       go_ret
       exact⟨by rw[hfin.out];rfl,hbel⟩
     ·have hfin:Hid (isQ q=false):=by show _=_;rw[hE];simp[hl]
      have he:((q.t.length:Int) == q.f.length)=false:=by rw[beq_eq_false_iff_ne];omega
      have h6':(q.f.length:Int)≤6:=by omega
      clear hE hl;by_cases ha:k<q.f.length;all_goals
       first | have hb:=hx ha | skip
       clear hx;go_wp2_with (go_at_call 42;refine (f3_ _ _ _ _).mono ?_;rintro e w' ⟨rfl,rfl⟩;rw[hB1])
       go_ret
       exact⟨by rw[hfin.out];rfl,hbel⟩
    ·have hfin:Hid (isQ q=false):=by show _=_;rw[hE];simp[h6]
     have h6':¬ ((q.f.length:Int)≤6):=by omega
     clear hE h6;by_cases ha:k<q.f.length;all_goals
      first | have hb:=hx ha | skip
      clear hx;go_wp2_with (go_at_call 42;refine (f3_ _ _ _ _).mono ?_;rintro e w' ⟨rfl,rfl⟩;rw[hB1])
      go_ret
      exact⟨by rw[hfin.out];rfl,hbel⟩
def rowF (V:Nat) (g:Nat→Int):List Int:=(List.range V).map g
def matF (V:Nat) (g:Nat→Nat→Int):List (List Int):=(List.range V).map fun a=>rowF V (g a)
theorem a1_ (V:Nat) (g:Nat→Int):(rowF V g).length=V:=by simp[rowF]
theorem r9_ (V:Nat) (g:Nat→Nat→Int):(matF V g).length=V:=by simp[matF]
theorem d1_ {V j:Nat} (g:Nat→Int) (h:j<V):(rowF V g)[j]?=some (g j):=by simp[rowF,h]
theorem a1J {V j:Nat} (g:Nat→Nat→Int) (h:j<V):(matF V g)[j]?=some (rowF V (g j)):=by simp[matF,h]
theorem c9_ {V j:Nat} (g:Nat→Int) (h:j<V):(rowF V g).getD j 0=g j:=by rw[l1_,d1_ g h];rfl
theorem b6_ {V:Nat} {g h:Nat→Int} (e:∀ a,a<V→g a=h a):rowF V g=rowF V h:=by
 apply List.ext_getElem?
 intro i;by_cases hi:i<V
 ·rw[d1_ g hi,d1_ h hi,e i hi]
 ·rw[l6_ (by rw[a1_];omega),l6_ (by rw[a1_];omega)]
theorem q4_ {V j:Nat} (g:Nat→Int) (x:Int):(rowF V g).set j x=rowF V fun b=>if b=j then x else g b:=by
 apply List.ext_getElem?
 intro i;rw[List.getElem?_set,a1_];by_cases hi:i<V
 ·rw[d1_ (fun b=>if b=j then x else g b) hi];by_cases e:j=i
  ·rw[if_pos e,if_pos (by omega),if_pos e.symm]
  ·rw[if_neg e,d1_ _ hi,if_neg (fun h=>e h.symm)]
 ·rw[l6_ (l:=rowF V fun b=>if b=j then x else g b) (by rw[a1_];omega)];split
  ·rw[if_neg (by omega)]
  ·rw[l6_ (by rw[a1_];omega)]
theorem OutO.cellS {w:World} {lo hi g n c j:Nat} {vs:List Value} {v:Value} (ho:OutO w lo hi (.slice (some ⟨g,0,none⟩) n c) vs) (hv:vs[j]?=some v):w.cell? ⟨g,j,none⟩=some v:=by
 have hj:=b0_ hv;have hn:n=vs.length:=by
  rcases ho.1.2 with ⟨e,_⟩ | ⟨g',cap',cur,e,_⟩
  ·cases e
  ·injection e with _ e _
 subst hn;have hc:=ho.1.cellAt j (by omega);rw[hc,hv]
theorem OutO.frozenS {w:World} {lo hi g n c:Nat} {vs:List Value} (ho:OutO w lo hi (.slice (some ⟨g,0,none⟩) n c) vs) (j:Nat):w.frozen? ⟨g,j,none⟩=false:=by
 have hn:n=vs.length:=by
  rcases ho.1.2 with ⟨e,_⟩ | ⟨g',cap',cur,e,_⟩
  ·cases e
  ·injection e with _ e _
 subst hn;exact ho.1.frozenAt j
theorem d8Q {vs:List Value} {ll:List (List Int)} {j:Nat} {v:Value} {l l':List Int} (hv:vs[j]?=some v) (hl:ll[j]?=some l):vs.zip (ll.set j l')=(vs.take j).zip (ll.take j) ++ (v,l') :: (vs.drop (j+1)).zip (ll.drop (j+1)):=by
 have hj:=b0_ hl;rw[p0_ hv (l:=l') (by rw[List.getElem?_set,if_pos rfl,if_pos hj]),List.take_set_of_le (l_ j),List.drop_set_of_lt (by omega)]
theorem Fam.putAt {w:World} {lo hi j i g c:Nat} {vs:List Value} {ll:List (List Int)} {l:List Int} {x:Int} (hF:Fam w lo hi (vs.zip ll)) (hv:vs[j]?=some (.slice (some ⟨g,0,none⟩) l.length c)) (hl:ll[j]?=some l)
  (ho:OwnI w lo (.slice (some ⟨g,0,none⟩) l.length c) l) (hx:I64 x):Fam (w.setCell ⟨g,i,none⟩ (.int .i64 x)) lo hi (vs.zip (ll.set j (l.set i x))):=by
 rw[d8Q hv hl];rw[p0_ hv hl]at hF;have hp:=ho.put (j:=i) hx;exact hF.turn hp.1 hp.2
def C9_ (q:Qv) (x:List Int):Bool:=isQ q && decide ((x.length:Int)=q.v) && allR x (-100) 100
theorem X3_ {q:Qv} {x:List Int}:C9_ q x=true↔isQ q=true∧(x.length:Int)=q.v∧∀ y∈x,-100≤y∧y≤100:=by
 simp only[C9_,l9_,decide_eq_true_eq,T3_,and_assoc]
theorem q0_ (u xv:Value) (q:Qv) (xs:List Int) (w:World) (hu:QvR w w.heap.size u q) (hx:SlI w w.heap.size xv xs) :
  Calls Tryz.prog 41 #[u,xv] w fun e w'=>e = .returned (.bool (C9_ q xs))∧Below w.heap.size w w':=by
 have hu':=hu;obtain⟨A,c,C,d,rfl,hf,hT,hr,lf,lt⟩:=hu.open_;obtain⟨XA,xc,rfl,_,_,lx,hx'⟩:=hx.open_;clear hu hx hf hT;have g0:Below w.heap.size w (w.alloc (.cells #[.int .i64 q.v,.slice A q.f.length c,.slice C q.t.length d] 26)):=a2_ _ _;have kB:=Blk.new w 26 #[.int .i64 q.v,.slice A q.f.length c,.slice C q.t.length d];go_enter Tryz.func41,Tryz.ntmps41
 go_wp2;go_loopw [5] (fun i wr=>∃ k:Nat,k≤xs.length∧i = .int .i64 k∧Below w.heap.size w wr∧Blk wr w.heap.size 26 #[.int .i64 q.v,.slice A q.f.length c,.slice C q.t.length d]∧Hid (∀ y∈xs.take k,inR y (-100) 100=true)) (fun i _=>xs.length-(intOf i).toNat)
 case atStart=>exact⟨0,l0_ _,rfl,g0,kB,by intro y hy;simp at hy⟩
 case round =>
  clear g0 kB;obtain⟨k,hk,rfl,hbel,hkB,hok⟩:=hrel;obtain⟨e0,e1,e2⟩:=c_3 hkB;by_cases hlt:k<xs.length
  ·obtain⟨b,o,x,rfl,hb,HX,x1,_⟩:=SlI.at_ hx' hlt;have x2:=a7_ hbel hb x1;clear x1;rcases hB1:inR x (-100) 100 with _ | _
   ·have hfin:Hid (C9_ q xs=false):=by
     show _=_;have:allR xs (-100) 100=false:=by
      rw[allR,List.all_eq_false];exact⟨x,l4_ HX.out,by simp[hB1]⟩
     simp[C9_,this]
    go_wp2_with fail
    refine (f3_ _ _ _ _).mono ?_;rintro e w9 ⟨rfl,rfl⟩;rw[hB1];go_wp2;go_ret
    exact⟨by rw[hfin.out];rfl,hbel⟩
   ·have hst:Hid (∀ y∈xs.take (k+1),inR y (-100) 100=true):=by
     intro y hy;rw[c8_ HX.out,List.mem_append,List.mem_singleton]at hy;rcases hy with hy | rfl
     ·exact hok.out y hy
     ·exact hB1
    go_wp2_with fail
    refine (f3_ _ _ _ _).mono ?_;rintro e w9 ⟨rfl,rfl⟩;rw[hB1];go_wp2;go_roundw
    case rel=>exact⟨k+1,by omega,by go_num,hbel,hkB,hst.out⟩
    case measure=>simp[intOf];omega
  ·have hrq:=QvR.more (B':=wr.heap.size) (by have:=hbel.size;omega) (QvR.below hbel hu');have hall:allR xs (-100) 100=true:=by
    have h:=hok.out;rw[l7_ (by omega)]at h;exact List.all_eq_true.2 h
   rcases hq:isQ q with _ | _
   ·have hfin:Hid (C9_ q xs=false):=by show _=_;simp[C9_,hq]
    clear hall;go_wp2_with fail
    refine (c0_ _ _ _ hrq).mono ?_;rintro e w1 ⟨rfl,hb1⟩;rw[hq];go_wp2;go_ret
    exact⟨by rw[hfin.out];rfl,hbel.trans (hb1.mono hbel.size)⟩
   ·obtain⟨B,hB⟩:=e_ (((xs.length:Int) == q.v));have hfin:Hid (C9_ q xs=B):=by show _=_;rw[←hB,C9_,hq,hall,Bool.and_true,Bool.true_and,Bool.eq_iff_iff,decide_eq_true_eq,beq_iff_eq]
    clear hall;go_wp2_with fail
    refine (c0_ _ _ _ hrq).mono ?_;rintro e w1 ⟨rfl,hb1⟩;rw[hq];have f0:=(hkB.call hb1).cell' (i:=0) rfl;clear e0 e1 e2;cases B;all_goals
     go_wp2;go_ret
     exact⟨by rw[hfin.out];rfl,hbel.trans (hb1.mono hbel.size)⟩
theorem q7_ (u:Value) (q:Qv) (v:Int) (w:World) (hu:QvR w w.heap.size u q) (hv:1≤q.v∧q.v≤5) :
  Calls Tryz.prog 104 #[u,.int .i64 v] w fun e w'=>e = .returned (.bool (inR v 0 (q.v-1)))∧Below w.heap.size w w':=by
 obtain⟨A,c,C,d,rfl,hf,hT,hr,lf,lt⟩:=hu.open_;obtain⟨hv1,hv2⟩:=hv;have g0:=a2_ w (.cells #[.int .i64 q.v,.slice A q.f.length c,.slice C q.t.length d] 26);go_enter Tryz.func104,Tryz.ntmps104
 go_wp2_with fail
 refine (g0_ _ _ _ _).mono ?_;rintro e w' ⟨rfl,rfl⟩;go_wp2;go_ret
 exact⟨rfl,g0⟩
def G3_ (q:Qv) (v:Int):Bool:=(q.f.zip q.t).any fun p=>p.1 == v && p.2 == v
theorem b1J {q:Qv} {v x y:Int} {k:Nat} (hx:q.f[k]?=some x) (hy:q.t[k]?=some y) (h1:(x == v)=true) (h2:(y == v)=true):G3_ q v=true:=by
 rw[G3_,List.any_eq_true];refine⟨(x,y),?_,by simp[h1,h2]⟩;rw[List.mem_iff_getElem?];exact⟨k,by rw[List.getElem?_zip_eq_some];exact⟨hx,hy⟩⟩
theorem c2Z {q:Qv} {v:Int} (h:∀ (j:Nat) (x y:Int),q.f[j]?=some x→q.t[j]?=some y→(x == v && y == v)=false):G3_ q v=false:=by
 rw[G3_,List.any_eq_false];rintro⟨x,y⟩ hp;rw[List.mem_iff_getElem?]at hp;obtain⟨j,hj⟩:=hp;rw[List.getElem?_zip_eq_some]at hj;simp[h j x y hj.1 hj.2]
theorem L3_ (u:Value) (q:Qv) (v:Int) (w:World) (hu:QvR w w.heap.size u q) (hl:q.f.length=q.t.length) :
  Calls Tryz.prog 43 #[u,.int .i64 v] w fun e w'=>e = .returned (.bool (G3_ q v))∧Below w.heap.size w w':=by
 obtain⟨A,c,C,d,rfl,hf,hT,hr,lf,lt⟩:=hu.open_;clear hu;have HL:=h_ hl;clear hl;have g0:Below w.heap.size w (w.alloc (.cells #[.int .i64 q.v,.slice A q.f.length c,.slice C q.t.length d] 26)):=a2_ _ _;have kB:=Blk.new w 26 #[.int .i64 q.v,.slice A q.f.length c,.slice C q.t.length d];go_enter Tryz.func43,Tryz.ntmps43
 go_wp2;go_loopw [5] (fun i wr=>∃ k n:Nat,k≤q.f.length∧i = .int .i64 k∧wr=(w.alloc (.cells #[.int .i64 q.v,.slice A q.f.length c,.slice C q.t.length d] 26)).drewN n∧Hid (∀ (j:Nat) (x y:Int),j<k→q.f[j]?=some x→q.t[j]?=some y→(x == v && y == v)=false)) (fun i _=>q.f.length-(intOf i).toNat)
 case atStart=>exact⟨0,0,l0_ _,rfl,rfl,fun j x y h=>absurd h (by omega)⟩
 case round =>
  obtain⟨k,n,hk,rfl,hwr,hok⟩:=hrel;have hbel:Below w.heap.size w wr:=by rw[hwr];exact g7_ g0 n
  have hkB:Blk wr w.heap.size 26 #[.int .i64 q.v,.slice A q.f.length c,.slice C q.t.length d]:=by rw[hwr];exact kB.drewN n
  have HW:=h_ hwr;have e1:=hkB.cell' (i:=1) rfl;have e2:=hkB.cell' (i:=2) rfl;clear hwr;by_cases hlt:k<q.f.length
  ·have hlt':k<q.t.length:=by have:=HL.out;omega
   obtain⟨b,o,x,rfl,hb,HX,x1,_⟩:=SlI.at_ hf hlt;obtain⟨b2,o2,y,rfl,hb2,HY,y1,_⟩:=SlI.at_ hT hlt';have x2:=a7_ hbel hb x1;have y2:=a7_ hbel hb2 y1;clear x1 y1 hf hT;rcases hxv:(x == v) with _ | _
   ·have hst:Hid (∀ (j:Nat) (x y:Int),j<k+1→q.f[j]?=some x→q.t[j]?=some y→(x == v && y == v)=false):=by
     intro j x' y' hj h1 h2;by_cases e:j=k
     ·subst e;rw[HX.out]at h1;injection h1 with h1
      rw[←h1,hxv];rfl
     ·exact hok.out j x' y' (by omega) h1 h2
    go_wp2;go_roundw
    case rel=>exact⟨k+1,n,by omega,by go_num,HW.out,hst.out⟩
    case measure=>simp[intOf];omega
   ·rcases hyv:(y == v) with _ | _
    ·have hst:Hid (∀ (j:Nat) (x y:Int),j<k+1→q.f[j]?=some x→q.t[j]?=some y→(x == v && y == v)=false):=by
      intro j x' y' hj h1 h2;by_cases e:j=k
      ·subst e;rw[HY.out]at h2;injection h2 with h2
       rw[←h2,hyv,Bool.and_false]
      ·exact hok.out j x' y' (by omega) h1 h2
     go_wp2;go_roundw
     case rel=>exact⟨k+1,n,by omega,by go_num,HW.out,hst.out⟩
     case measure=>simp[intOf];omega
    ·have hfin:Hid (G3_ q v=true):=b1J HX.out HY.out hxv hyv;go_wp2;go_ret
     exact⟨by rw[hfin.out];rfl,hbel⟩
  ·have hfin:Hid (G3_ q v=false):=c2Z fun j x y h1 h2=>hok.out j x y (by have:=b0_ h1;omega) h1 h2
   go_wp2;go_ret
   exact⟨by rw[hfin.out];rfl,hbel⟩
def arr (q:Qv) (a b k:Nat):Nat:=((q.f.zip q.t).take k).countP fun p=>p.1 == (a:Int) && p.2 == (b:Int)
def ent (q:Qv) (k a b:Nat):Int:=(if a=b then 2 else 0)-arr q a b k-arr q b a k
def symM (q:Qv):List (List Int):=matF q.v.toNat (ent q q.f.length)
theorem d0q (q:Qv) (a b k:Nat):arr q a b k≤q.f.length:=by
 refine Nat.le_trans List.countP_le_length ?_;simp;omega
theorem c4J (q:Qv) (a b:Nat):arr q a b 0=0:=by simp[arr]
theorem a3x {q:Qv} {k a b x y:Nat} (hx:q.f[k]?=some (x:Int)) (hy:q.t[k]?=some (y:Int)):arr q a b (k+1)=arr q a b k+if x=a∧y=b then 1 else 0:=by
 have e:(q.f.zip q.t)[k]?=some ((x:Int),(y:Int)):=by rw[List.getElem?_zip_eq_some];exact⟨hx,hy⟩
 rw[arr,c8_ e,List.countP_append,arr];congr 1
 rw[List.countP_singleton];by_cases h:x=a∧y=b
 ·rw[if_pos h,if_pos (by simp[h.1,h.2])]
 ·rw[if_neg h,if_neg];simp only[l9_,beq_iff_eq];omega
theorem J0_ (q:Qv) (k a b:Nat) (h:q.f.length≤6):-12≤ent q k a b∧ent q k a b≤2:=by
 have h1:=d0q q a b k;have h2:=d0q q b a k;unfold ent;split <;> omega
theorem R1_ (q:Qv) (a b:Nat):ent q 0 a b=if a=b then 2 else 0:=by simp[ent,c4J]
theorem C7_ {q:Qv} {k x y:Nat} (hx:q.f[k]?=some (x:Int)) (hy:q.t[k]?=some (y:Int)) (a b:Nat):ent q (k+1) a b=ent q k a b-(if a=x∧b=y then 1 else 0)-(if a=y∧b=x then 1 else 0):=by
 rw[ent,a3x hx hy,a3x hx hy,ent];by_cases h1:x=a∧y=b
 ·rw[if_pos h1,if_pos (c:=a=x∧b=y) ⟨h1.1.symm,h1.2.symm⟩];by_cases h2:x=b∧y=a
  ·rw[if_pos h2,if_pos (c:=a=y∧b=x) ⟨h2.2.symm,h2.1.symm⟩];split <;> omega
  ·rw[if_neg h2,if_neg (c:=a=y∧b=x) (fun h=>h2 ⟨h.2.symm,h.1.symm⟩)];split <;> omega
 ·rw[if_neg h1,if_neg (c:=a=x∧b=y) (fun h=>h1 ⟨h.1.symm,h.2.symm⟩)];by_cases h2:x=b∧y=a
  ·rw[if_pos h2,if_pos (c:=a=y∧b=x) ⟨h2.2.symm,h2.1.symm⟩];split <;> omega
  ·rw[if_neg h2,if_neg (c:=a=y∧b=x) (fun h=>h2 ⟨h.2.symm,h.1.symm⟩)];split <;> omega
theorem OwnI.newBlk {w:World} {base N:Nat} {cs:Array Value} {l:List Int} (hb:base≤w.heap.size) (hN:N≤17592186044416) (hl:l.length=N) (hc:cs.toList=l.map (Value.int .i64)) (hr:∀ x∈l,I64 x):OwnI (w.alloc (.cells cs 3)) base (.slice (some ⟨w.heap.size,0,none⟩) N N) l:=by
 have hs:cs.size=N:=by rw[←Array.length_toList,hc,List.length_map,hl]
 have h:=(Blk.new w 3 cs).own (base:=base) (n:=N) (cap:=N) (size:=1) hb (l_ _) (by simp only[maxLen];omega) (by omega);rw[hc,l7_ (by simp;omega)]at h;exact⟨by rw[hl];exact h,by omega,hr⟩
theorem Fam.far {w:World} {lo hi:Nat} {L:List (Value×List Int)} (h:Fam w lo hi L) {p:Addr} (hp:hi≤p.block) (u:Value):Fam (w.setCell p u) lo hi L :=
 ⟨fun x hx=>⟨(h.1 x hx).1.setCell (fun e=>by have:=(h.1 x hx).2 _ e;omega) u,(h.1 x hx).2⟩,h.2⟩
theorem G9_ {V:Nat} (g:Nat→Int) (j:Nat):(rowF V g).set j (g j-1)=rowF V fun b=>g b-if b=j then 1 else 0:=by
 rw[q4_];apply b6_
 intro b _;by_cases e:b=j
 ·subst e;rw[if_pos rfl,if_pos rfl]
 ·rw[if_neg e,if_neg e];omega
theorem y0_ {p r:Prop} [Decidable p] [Decidable r] (h:p):(if p∧r then (1:Int) else 0)=if r then 1 else 0:=by
 by_cases hr:r
 ·rw[if_pos ⟨h,hr⟩,if_pos hr]
 ·rw[if_neg (fun x=>hr x.2),if_neg hr]
theorem E3_ (u:Value) (q:Qv) (w:World) (hu:QvR w w.heap.size u q) (hq:isQ q=true) :
  Calls Tryz.prog 45 #[u] w fun e w'=>∃ v,e = .returned v∧b1_ w' w.heap.size w'.heap.size v (symM q)∧Below w.heap.size w w':=by
 obtain⟨qv,qf,qt⟩:=q;have hu':=hu;obtain⟨A,c,C,d,rfl,hf,hT,hr,lf,lt⟩:=hu.open_;clear hu;obtain⟨⟨hv1,hv2⟩,hlen,hl6,hfr,htr⟩:=g4_.1 hq
 dsimp only at *
 obtain⟨V,rfl⟩:∃ V:Nat,qv=V:=⟨qv.toNat,by omega⟩;have hV5:V≤5:=by omega
 have HLE:=h_ hlen;have HR:=h_ (And.intro hfr htr);clear hlen hfr htr;obtain⟨i1,hi,hz0,hz1,hz2⟩:=info_parts v5_;have hmk1:=V8_ (P:=Tryz.prog) Tryz.underlying24 hi hz0 (n:=V) (by rw[hz2];omega) (by omega);rw[hz1]at hmk1;clear hi hz0 hz1 hz2;have g0:Below w.heap.size w ((w.alloc (.cells #[.int .i64 V,.slice A qf.length c,.slice C qt.length d] 26)).alloc (.cells #[] 24)):=((Below.refl _ _).alloc (l_ _) _).alloc (by simp) _;have kB:Blk ((w.alloc (.cells #[.int .i64 V,.slice A qf.length c,.slice C qt.length d] 26)).alloc (.cells #[] 24)) w.heap.size 26 #[.int .i64 V,.slice A qf.length c,.slice C qt.length d]:=(Blk.new _ _ _).alloc _;go_enter Tryz.func45,Tryz.ntmps45
 go_wp2;have hmo:Tryz.prog.follows .mixedOrders=true:=by kernel_rfl
 have ho0:OutO ((w.alloc (.cells #[.int .i64 V,.slice A qf.length c,.slice C qt.length d] 26)).alloc (.cells #[] 24)) w.heap.size ((w.alloc (.cells #[.int .i64 V,.slice A qf.length c,.slice C qt.length d] 26)).alloc (.cells #[] 24)).heap.size (.slice (some ⟨w.heap.size+1,0,none⟩) 0 0) []:=by
  have hb:=Blk.new (w.alloc (.cells #[.int .i64 V,.slice A qf.length c,.slice C qt.length d] 26)) 24 #[];have h:=a5q.own (lo:=w.heap.size) (vs:=[]) ⟨rfl,by simp,fun j v h=>by simp at h⟩ hb (by simp) (by simp);simpa only[l3_,List.length_nil] using h
 go_loopw [3,4] (fun a i wr=>∃ vs:List Value,vs.length≤V∧i = .int .i64 vs.length∧Below w.heap.size w wr∧Blk wr w.heap.size 26 #[.int .i64 V,.slice A qf.length c,.slice C qt.length d]∧OutO wr w.heap.size wr.heap.size a vs∧Fam wr w.heap.size wr.heap.size (vs.zip ((symM ⟨V,qf,qt⟩).take vs.length))) (fun _ i _=>V-(intOf i).toNat)
 case atStart=>exact⟨[],l0_ _,rfl,g0,kB,ho0,⟨fun p hp=>by simp at hp,by simp⟩⟩
 case round =>
  clear g0 kB ho0;obtain⟨vs,hk,rfl,hbel,hkB,ho,hF⟩:=hrel;obtain⟨e0,e1,e2⟩:=c_3 hkB;obtain⟨OA,oc,rfl,_,_⟩:=ho.form;obtain⟨N,hN⟩:=e_ (vs.length);have HN:=h_ hN;rw[hN]at hk hF⊢;rw[hN]at ho;clear hN;by_cases hlt:N<V
  ·have hN5:N≤5:=by omega
   have hrq:=QvR.more (B':=wr.heap.size) (by have:=hbel.size;omega) (QvR.below hbel hu');go_wp2_with fail
   refine (c0_ _ _ _ hrq).mono ?_;rintro e w5 ⟨rfl,hb5⟩;rw[hq];have hkB':=hkB.call hb5;have ho':=(ho.below hb5).mono (l_ _) hb5.size;have hF':=(hF.below hb5).mono (l_ _) hb5.size;have hbel':=hbel.trans (hb5.mono hbel.size);clear hkB ho hF hbel e0 e1 e2 hrq hb5;have hkB:=hkB';clear hkB';obtain⟨e0,e1,e2⟩:=c_3 hkB;have hs5:=hbel'.size;have hv1:=OwnI.made0 (w:=w5) (base:=w5.heap.size) (N:=V) (l_ _) (by omega);have c3:=(hv1.cellG (j:=N) (by simpa using hlt)).1;have f3:=hv1.frozenG N;rw[show (List.replicate V (0:Int)).getD N 0=0 by rw[l1_,List.getElem?_replicate,if_pos hlt];rfl]at c3;have hv3:OwnI (w5.alloc (.cells ((g8_ (.int .i64 0) V).setIfInBounds N (.int .i64 2)) 3)) w5.heap.size (Value.slice (some ⟨w5.heap.size,0,none⟩) V V) ((List.replicate V (0:Int)).set N 2) :=
    OwnI.newBlk (w:=w5) (base:=w5.heap.size) (N:=V) (l_ _) (by omega) (by simp) (by
     rw[Array.toList_setIfInBounds,show (g8_ (.int .i64 0) V).toList=List.replicate V (.int .i64 0) from toList_madeCells_one _ _,List.map_set,List.map_replicate]) (fun x hx=>by
     rcases List.mem_or_eq_of_mem_set hx with hx | rfl
     ·obtain⟨_,rfl⟩:=List.mem_replicate.1 hx;exact⟨by decide,by decide⟩
     ·exact⟨by decide,by decide⟩)
   have hrow:(List.replicate V (0:Int)).set N 2=rowF V (ent ⟨V,qf,qt⟩ 0 N):=by
    rw[show List.replicate V (0:Int)=rowF V (fun _=>0) from by rw[rowF,List.map_const',List.length_range],q4_];apply b6_
    intro b _;rw[R1_];by_cases e:b=N
    ·rw[if_pos e,if_pos e.symm]
    ·rw[if_neg e,if_neg (fun h=>e h.symm)]
   rw[hrow]at hv3;have hb3:=a2_ w5 (.cells ((g8_ (.int .i64 0) V).setIfInBounds N (.int .i64 2)) 3);have zs3:(w5.alloc (.cells ((g8_ (.int .i64 0) V).setIfInBounds N (.int .i64 2)) 3)).heap.size=w5.heap.size+1:=by simp
   clear hrow hv1;go_wp2;clear c3 f3 e0 e1 e2;go_loopw [6] (fun i wr=>∃ k:Nat,k≤qf.length∧i = .int .i64 k∧OwnI wr w5.heap.size (Value.slice (some ⟨w5.heap.size,0,none⟩) V V) (rowF V (ent ⟨V,qf,qt⟩ k N))∧Below w5.heap.size w5 wr∧wr.heap.size=w5.heap.size+1) (fun i _=>qf.length-(intOf i).toNat)
   case atStart=>exact⟨0,l0_ _,rfl,hv3,hb3,zs3⟩
   case round =>
    clear hv3 hb3 zs3;obtain⟨k,hk,rfl,hown,hbel,hsz⟩:=hrel;have hSZ:=h_ hsz;have e1:=(hkB.call hbel).cell' (i:=1) rfl;have e2:=(hkB.call hbel).cell' (i:=2) rfl;by_cases hltk:k<qf.length
    ·have hltT:k<qt.length:=by have:=HLE.out;omega
     obtain⟨b,o,x',rfl,hb,HX,x1,_⟩:=SlI.at_ hf hltk;obtain⟨b2,o2,y',rfl,hb2,HY,y1,_⟩:=SlI.at_ hT hltT;have hxr:=HR.out.1 x' (l4_ HX.out);have hyr:=HR.out.2 y' (l4_ HY.out);obtain⟨x,rfl⟩:∃ x:Nat,x'=x:=⟨x'.toNat,by omega⟩;obtain⟨y,rfl⟩:∃ y:Nat,y'=y:=⟨y'.toNat,by omega⟩;have hxV:x<V:=by omega
     have hyV:y<V:=by omega
     clear hxr hyr;have x2:=a7_ (hbel'.trans (hbel.mono hs5)) hb x1;have y2:=a7_ (hbel'.trans (hbel.mono hs5)) hb2 y1;by_cases ex:x=N
     ·have exb:((x:Int) == (N:Int))=true:=by rw[beq_iff_eq];omega
      by_cases ey:y=N
      ·have eyb:((y:Int) == (N:Int))=true:=by rw[beq_iff_eq];omega
       have EX:=h_ ex;have EY:=h_ ey;clear ex ey;obtain⟨m1,hm1⟩:=e_ ((ent ⟨V,qf,qt⟩ k N) y);have hmr1:-13≤m1∧m1≤2:=by
        rw[←hm1];have:=J0_ ⟨V,qf,qt⟩ k N y hl6;first | omega | (dsimp only;split <;> omega)
       have r21:=(hown.cellG (j:=y) (by rw[a1_];exact hyV)).1;rw[c9_ _ hyV,hm1]at r21;have r31:=hown.frozenG y;have hp1:=hown.put (j:=y) (x:=m1-1) ⟨by omega,by omega⟩;rw[←hm1,G9_,hm1]at hp1;have hz1:=hbel.grown hp1.2 (by have:=hbel.size;omega) (fun j hj=>by injection hj with hj;omega);have HP1:=h_ hp1.1;have HZ1:=h_ hz1;clear hp1 hz1 hm1 hown;go_wp2_with fail
       go_region_o
       obtain⟨Wq1,hWq1⟩:∃ Wq,Wq=(wr.setCell ⟨w5.heap.size,y,none⟩ (.int .i64 (m1-1))).drew:=⟨_,rfl⟩;rw[←hWq1];have hown1:OwnI Wq1 w5.heap.size (Value.slice (some ⟨w5.heap.size,0,none⟩) V V) (rowF V (fun b=>(ent ⟨V,qf,qt⟩ k N) b-if b=y then 1 else 0)):=by rw[hWq1];exact HP1.out.drewN 1
       have hbel1:Below w5.heap.size w5 Wq1:=by rw[hWq1];exact g7_ HZ1.out 1
       have hsz1:Wq1.heap.size=wr.heap.size:=by rw[hWq1];simp
       have SZ1:=h_ hsz1;clear hWq1 hsz1 r21 r31;clear e1 e2 x2 y2;have e1:=(hkB.call hbel1).cell' (i:=1) rfl;have e2:=(hkB.call hbel1).cell' (i:=2) rfl;have x2:=a7_ (hbel'.trans (hbel1.mono hs5)) hb x1;have y2:=a7_ (hbel'.trans (hbel1.mono hs5)) hb2 y1;obtain⟨G1,hG1⟩:∃ G:Nat→Int,G=fun b=>(ent ⟨V,qf,qt⟩ k N) b-if b=y then 1 else 0:=⟨_,rfl⟩
       rw[←hG1]at hown1;have HG1:=h_ hG1;clear hG1;obtain⟨m2,hm2⟩:=e_ ((G1) x);have hmr2:-13≤m2∧m2≤2:=by
        rw[←hm2,HG1.out];have:=J0_ ⟨V,qf,qt⟩ k N x hl6;first | omega | (dsimp only;split <;> omega)
       have r22:=(hown1.cellG (j:=x) (by rw[a1_];exact hxV)).1;rw[c9_ _ hxV,hm2]at r22;have r32:=hown1.frozenG x;have hp2:=hown1.put (j:=x) (x:=m2-1) ⟨by omega,by omega⟩;rw[←hm2,G9_,hm2]at hp2;have hz2:=hbel1.grown hp2.2 (by have:=hbel1.size;omega) (fun j hj=>by injection hj with hj;omega);have HP2:=h_ hp2.1;have HZ2:=h_ hz2;clear hp2 hz2 hm2 hown1;go_wp2_with fail
       go_region_o
       obtain⟨Wq2,hWq2⟩:∃ Wq,Wq=(Wq1.setCell ⟨w5.heap.size,x,none⟩ (.int .i64 (m2-1))).drew:=⟨_,rfl⟩;rw[←hWq2];have hown2:OwnI Wq2 w5.heap.size (Value.slice (some ⟨w5.heap.size,0,none⟩) V V) (rowF V (fun b=>(G1) b-if b=x then 1 else 0)):=by rw[hWq2];exact HP2.out.drewN 1
       have hbel2:Below w5.heap.size w5 Wq2:=by rw[hWq2];exact g7_ HZ2.out 1
       have hsz2:Wq2.heap.size=Wq1.heap.size:=by rw[hWq2];simp
       have SZ2:=h_ hsz2;clear hWq2 hsz2 r22 r32;have hst:Hid (rowF V (fun b=>(G1) b-if b=x then 1 else 0)=rowF V (ent ⟨V,qf,qt⟩ (k+1) N)):=by
        show rowF V (fun b=>(G1) b-if b=x then 1 else 0)=_;apply b6_
        intro b _;rw[C7_ HX.out HY.out];rw[HG1.out,y0_ EX.out.symm,y0_ EY.out.symm]
       rw[hst.out]at hown2;go_wp2;go_roundw
       case rel=>exact⟨k+1,by omega,by go_num,hown2,hbel2,(SZ2.out.trans (SZ1.out.trans hsz))⟩
       case measure=>simp[intOf];omega
      ·have eyb:((y:Int) == (N:Int))=false:=by rw[beq_eq_false_iff_ne];omega
       have hyn:=ey;have EX:=h_ ex;clear ex ey;obtain⟨m1,hm1⟩:=e_ ((ent ⟨V,qf,qt⟩ k N) y);have hmr1:-13≤m1∧m1≤2:=by
        rw[←hm1];have:=J0_ ⟨V,qf,qt⟩ k N y hl6;first | omega | (dsimp only;split <;> omega)
       have r21:=(hown.cellG (j:=y) (by rw[a1_];exact hyV)).1;rw[c9_ _ hyV,hm1]at r21;have r31:=hown.frozenG y;have hp1:=hown.put (j:=y) (x:=m1-1) ⟨by omega,by omega⟩;rw[←hm1,G9_,hm1]at hp1;have hz1:=hbel.grown hp1.2 (by have:=hbel.size;omega) (fun j hj=>by injection hj with hj;omega);have HP1:=h_ hp1.1;have HZ1:=h_ hz1;clear hp1 hz1 hm1 hown;go_wp2_with fail
       go_region_o
       obtain⟨Wq1,hWq1⟩:∃ Wq,Wq=(wr.setCell ⟨w5.heap.size,y,none⟩ (.int .i64 (m1-1))).drew:=⟨_,rfl⟩;rw[←hWq1];have hown1:OwnI Wq1 w5.heap.size (Value.slice (some ⟨w5.heap.size,0,none⟩) V V) (rowF V (fun b=>(ent ⟨V,qf,qt⟩ k N) b-if b=y then 1 else 0)):=by rw[hWq1];exact HP1.out.drewN 1
       have hbel1:Below w5.heap.size w5 Wq1:=by rw[hWq1];exact g7_ HZ1.out 1
       have hsz1:Wq1.heap.size=wr.heap.size:=by rw[hWq1];simp
       have SZ1:=h_ hsz1;clear hWq1 hsz1 r21 r31;clear e1 e2 x2 y2;have e1:=(hkB.call hbel1).cell' (i:=1) rfl;have e2:=(hkB.call hbel1).cell' (i:=2) rfl;have x2:=a7_ (hbel'.trans (hbel1.mono hs5)) hb x1;have y2:=a7_ (hbel'.trans (hbel1.mono hs5)) hb2 y1;have hst:Hid (rowF V (fun b=>(ent ⟨V,qf,qt⟩ k N) b-if b=y then 1 else 0)=rowF V (ent ⟨V,qf,qt⟩ (k+1) N)):=by
        show rowF V (fun b=>(ent ⟨V,qf,qt⟩ k N) b-if b=y then 1 else 0)=_;apply b6_
        intro b _;rw[C7_ HX.out HY.out];rw[y0_ EX.out.symm,if_neg (c:=N=y∧b=x) (fun h=>hyn h.1.symm)];omega
       rw[hst.out]at hown1;go_wp2;go_roundw
       case rel=>exact⟨k+1,by omega,by go_num,hown1,hbel1,(SZ1.out.trans hsz)⟩
       case measure=>simp[intOf];omega
     ·have exb:((x:Int) == (N:Int))=false:=by rw[beq_eq_false_iff_ne];omega
      have hxn:=ex;clear ex;by_cases ey:y=N
      ·have eyb:((y:Int) == (N:Int))=true:=by rw[beq_iff_eq];omega
       have EY:=h_ ey;clear ey;obtain⟨m1,hm1⟩:=e_ ((ent ⟨V,qf,qt⟩ k N) x);have hmr1:-13≤m1∧m1≤2:=by
        rw[←hm1];have:=J0_ ⟨V,qf,qt⟩ k N x hl6;first | omega | (dsimp only;split <;> omega)
       have r21:=(hown.cellG (j:=x) (by rw[a1_];exact hxV)).1;rw[c9_ _ hxV,hm1]at r21;have r31:=hown.frozenG x;have hp1:=hown.put (j:=x) (x:=m1-1) ⟨by omega,by omega⟩;rw[←hm1,G9_,hm1]at hp1;have hz1:=hbel.grown hp1.2 (by have:=hbel.size;omega) (fun j hj=>by injection hj with hj;omega);have HP1:=h_ hp1.1;have HZ1:=h_ hz1;clear hp1 hz1 hm1 hown;go_wp2_with fail
       go_region_o
       obtain⟨Wq1,hWq1⟩:∃ Wq,Wq=(wr.setCell ⟨w5.heap.size,x,none⟩ (.int .i64 (m1-1))).drew:=⟨_,rfl⟩;rw[←hWq1];have hown1:OwnI Wq1 w5.heap.size (Value.slice (some ⟨w5.heap.size,0,none⟩) V V) (rowF V (fun b=>(ent ⟨V,qf,qt⟩ k N) b-if b=x then 1 else 0)):=by rw[hWq1];exact HP1.out.drewN 1
       have hbel1:Below w5.heap.size w5 Wq1:=by rw[hWq1];exact g7_ HZ1.out 1
       have hsz1:Wq1.heap.size=wr.heap.size:=by rw[hWq1];simp
       have SZ1:=h_ hsz1;clear hWq1 hsz1 r21 r31;have hst:Hid (rowF V (fun b=>(ent ⟨V,qf,qt⟩ k N) b-if b=x then 1 else 0)=rowF V (ent ⟨V,qf,qt⟩ (k+1) N)):=by
        show rowF V (fun b=>(ent ⟨V,qf,qt⟩ k N) b-if b=x then 1 else 0)=_;apply b6_
        intro b _;rw[C7_ HX.out HY.out];rw[if_neg (c:=N=x∧b=y) (fun h=>hxn h.1.symm),y0_ EY.out.symm];omega
       rw[hst.out]at hown1;go_wp2;go_roundw
       case rel=>exact⟨k+1,by omega,by go_num,hown1,hbel1,(SZ1.out.trans hsz)⟩
       case measure=>simp[intOf];omega
      ·have eyb:((y:Int) == (N:Int))=false:=by rw[beq_eq_false_iff_ne];omega
       have hyn:=ey;clear ey;have hst:Hid (rowF V (ent ⟨V,qf,qt⟩ k N)=rowF V (ent ⟨V,qf,qt⟩ (k+1) N)):=by
        show rowF V (ent ⟨V,qf,qt⟩ k N)=_;apply b6_
        intro b _;rw[C7_ HX.out HY.out];rw[if_neg (c:=N=x∧b=y) (fun h=>hxn h.1.symm),if_neg (c:=N=y∧b=x) (fun h=>hyn h.1.symm)];omega
       rw[hst.out]at hown;go_wp2;go_roundw
       case rel=>exact⟨k+1,by omega,by go_num,hown,hbel,hsz⟩
       case measure=>simp[intOf];omega
    ·have hst:Hid (ent ⟨V,qf,qt⟩ k N=ent ⟨V,qf,qt⟩ qf.length N):=by show _=_;rw[show k=qf.length by omega]
     rw[hst.out]at hown;have ho1:=ho'.below hbel;have hF1:=hF'.below hbel;have hkB1:=hkB.call hbel;have hb1:=hbel'.trans (hbel.mono hs5);have hsz':=hSZ.out;have hF2:=hF1.snoc (hi:=wr.heap.size) ⟨hown,fun k hk=>by simp[Value.ownBlock]at hk;omega⟩ hs5 (by omega);have hzip:vs.zip ((symM ⟨V,qf,qt⟩).take N) ++ [((Value.slice (some ⟨w5.heap.size,0,none⟩) V V),rowF V (ent ⟨V,qf,qt⟩ qf.length N))]=(vs ++ [(Value.slice (some ⟨w5.heap.size,0,none⟩) V V)]).zip ((symM ⟨V,qf,qt⟩).take (vs ++ [(Value.slice (some ⟨w5.heap.size,0,none⟩) V V)]).length):=by
      rw[List.length_append,List.length_singleton,HN.out,c8_ (show (symM ⟨V,qf,qt⟩)[N]?=some (rowF V (ent ⟨V,qf,qt⟩ qf.length N)) from a1J (V:=V) _ hlt),List.zip_append (by rw[HN.out,List.length_take,symM,r9_];show N=min N V;omega)];rfl
     rw[hzip]at hF2;have hoA:=ho1.below (a2_ wr (.cells #[(Value.slice (some ⟨w5.heap.size,0,none⟩) V V)] 24));have hFA:=hF2.below (a2_ wr (.cells #[(Value.slice (some ⟨w5.heap.size,0,none⟩) V V)] 24));have hkA:=hkB1.call (a2_ wr (.cells #[(Value.slice (some ⟨w5.heap.size,0,none⟩) V V)] 24));clear hF2 hF1 hzip ho1 hown hkB1 hsz hsz'
     (go_wp2_with (at_builtin;refine Hold.stop ?_));unfold Hold
     refine v1_ rfl (.tmp 77) (.tmp 79) rfl w.heap.size (.slice OA N oc) vs rfl hoA.1 _ _ (Value.slice (some ⟨w5.heap.size,0,none⟩) V V) rfl ⟨wr.heap.size,0,rfl,(Blk.new wr 24 #[(Value.slice (some ⟨w5.heap.size,0,none⟩) V V)]).cell' (i:=0) rfl⟩ rfl (by have:=HN.out;omega) (by rw[l3_];have:=hb1.size;omega) ?_;intro v1 w2 ho2 hg hv;have hF3:=(hFA.grownO hoA.1 hg).mono (l_ _) (show wr.heap.size≤w2.heap.size by have:=hg.size;simp at this;omega);have hk3:=hkA.grown hg (hoA.blkne hkA (by decide));have hb3:=(hb1.alloc hb1.size (.cells #[(Value.slice (some ⟨w5.heap.size,0,none⟩) V V)] 24)).grown hg (by have:=hb1.size;simp;omega) (fun j hj=>(hoA.1.lt j hj).1);have ho3:OutO w2 w.heap.size w2.heap.size v1 (vs ++ [(Value.slice (some ⟨w5.heap.size,0,none⟩) V V)]):=⟨ho2,fun k hk=>(ho2.lt k hk).2,by have:=HN.out;simp;omega⟩;have HF3:=h_ hF3;have HL:Hid ((vs ++ [(Value.slice (some ⟨w5.heap.size,0,none⟩) V V)]).length=N+1):=by show _=_;rw[List.length_append,HN.out];rfl
     clear hF3 hFA hoA hkA hg hv ho2;go_wp2;go_roundw
     case rel=>exact⟨vs ++ [(Value.slice (some ⟨w5.heap.size,0,none⟩) V V)],by rw[HL.out];omega,by rw[HL.out];go_num,hb3,hk3,ho3,HF3.out⟩
     case measure=>simp[intOf];omega
  ·have hrq:=QvR.more (B':=wr.heap.size) (by have:=hbel.size;omega) (QvR.below hbel hu');have hNV:N=V:=by omega
   go_wp2;refine bodyPost_ret (v:=.slice OA N oc) (by simp[results,go_sem]) rfl ⟨_,rfl,⟨vs,ho,by rw[symM,r9_,HN.out,hNV];rfl,?_⟩,hbel⟩;rwa[l7_ (by rw[symM,r9_];show V≤N;omega)]at hF
def dotS (g:Nat→Int) (x:List Int):Nat→Int
 | 0=>0
 | k+1=>dotS g x k+g k*x.getD k 0
theorem b5z {a b:Int} (ha:-12≤a∧a≤12) (hb:-100≤b∧b≤100):-1200≤a*b∧a*b≤1200:=by
 obtain⟨a1,a2⟩:=ha;obtain⟨b1,b2⟩:=hb;have h1:0≤(12-a)*(100-b):=Int.mul_nonneg (by omega) (by omega);have h2:0≤(12+a)*(100+b):=Int.mul_nonneg (by omega) (by omega);have h3:0≤(12-a)*(100+b):=Int.mul_nonneg (by omega) (by omega);have h4:0≤(12+a)*(100-b):=Int.mul_nonneg (by omega) (by omega);simp only[Int.sub_mul,Int.add_mul,Int.mul_sub,Int.mul_add]at h1 h2 h3 h4;omega
theorem a3j {x:List Int} (hx:∀ y∈x,-100≤y∧y≤100) (k:Nat):-100≤x.getD k 0∧x.getD k 0≤100:=by
 rw[l1_];rcases h:x[k]? with _ | y
 ·simp
 ·exact hx y (l4_ h)
theorem a4Q {g:Nat→Int} {x:List Int} (hg:∀ k,-12≤g k∧g k≤12) (hx:∀ y∈x,-100≤y∧y≤100):∀ k:Nat,-(1200*(k:Int))≤dotS g x k∧dotS g x k≤1200*k
 | 0=>by simp[dotS]
 | k+1=>by
  have ih:=a4Q hg hx k;have h:=b5z (hg k) (a3j hx k);unfold dotS;omega
def a5z (q:Qv) (x:List Int) (v:Nat):List Int:=x.set v (x.getD v 0-dotS (ent q q.f.length v) x x.length)
def w6_ (q:Qv) (x:List Int) (v:Int):List Int×Bool:=if C9_ q x && inR v 0 (q.v-1) && !G3_ q v then (a5z q x v.toNat,true) else ([],false)
theorem SlI.atN {w:World} {B n c:Nat} {A:Option Addr} {xs:List Int} {k:Nat} (h:SlI w B (.slice A n c) xs) (hn:xs.length=n) (hk:k<n) :
  ∃ b o x,A=some ⟨b,o,none⟩∧b<B∧Hid (xs[k]?=some x)∧w.cell? ⟨b,o+k,none⟩=some (.int .i64 x)∧-9223372036854775808≤x∧x≤9223372036854775807:=by
 subst hn;exact SlI.at_ h hk
theorem L9_ (mv xv:Value) (q:Qv) (x:List Int) (v:Nat) (w:World) (hm:SlII w w.heap.size mv (symM q)) (hx:SlI w w.heap.size xv x) (hq:C9_ q x=true) (hv:v<q.v.toNat) :
  Calls Tryz.prog 44 #[mv,xv,.int .i64 v] w fun e w'=>∃ u,e = .returned u∧a9_ w' w.heap.size w'.heap.size u (a5z q x v)∧Below w.heap.size w w':=by
 obtain⟨hq1,hq2,hq3⟩:=X3_.1 hq;obtain⟨⟨hv1,hv2⟩,hlen,hl6,_,_⟩:=g4_.1 hq1;obtain⟨V,hV⟩:∃ V:Nat,q.v.toNat=V:=⟨_,rfl⟩;have hxV:x.length=V:=by omega
 have hV5:V≤5:=by omega
 rw[hV]at hv;have hmv:(symM q)[v]?=some (rowF V (ent q q.f.length v)):=by rw[symM,hV];exact a1J _ hv
 have hml:v<(symM q).length:=by rw[symM,hV,r9_];exact hv
 obtain⟨MA,mc,rfl,_,_,lm,hm'⟩:=hm.open_;obtain⟨XA,xc,rfl,_,_,lx,hx'⟩:=hx.open_;clear hm hx;obtain⟨mb,mo,l,LA,lc,rfl,hmb,HL,ml,hl⟩:=SlII.at_ hm' hml;have el:l=rowF V (ent q q.f.length v):=by
  have h:=HL.out;rw[hmv]at h;injection h with h
  exact h.symm
 have hll:l.length=V:=by rw[el,a1_]
 have HEL:=h_ el;have HLL:=h_ hll;have HXV:=h_ hxV;have HX3:=h_ hq3;have hmlen:(symM q).length=V:=by rw[symM,hV,r9_]
 have HML:=h_ hmlen;clear el hll hmv hq hq1 hq2 hq3 hlen hm' hv1 hv2 hV hmlen;rw[HLL.out]at ml hl;rw[HML.out]at hml⊢;rw[HXV.out]at hx' lx⊢;have hxs:=hx';go_enter Tryz.func44,Tryz.ntmps44
 (go_wp2_with (at_builtin;refine Hold.stop ?_));unfold Hold
 have ho0:OwnI (w.alloc (.cells #[] 3)) w.heap.size (.slice (some ⟨w.heap.size,0,none⟩) 0 0) []:=OwnI.made _ rfl (l_ _);refine c3_ rfl (.tmp 10) (.tmp 11) rfl w.heap.size w.heap.size (.slice (some ⟨w.heap.size,0,none⟩) 0 0) [] rfl ho0 _ _ _ x rfl HXV.out.symm (by rw[HXV.out];exact SlI.below (a2_ _ _) hx') (by simp;omega) (by simp) ?_;intro v1 w1 ho1 hg1 hvv;rw[List.nil_append]at ho1;have hb1:Below w.heap.size w w1:=((Below.refl _ _).alloc (l_ _) (.cells #[] 3)).grown hg1 (by simp) (fun j hj=>(ho0.lt j hj).1);obtain⟨OA,oc,rfl,_,_⟩:=ho1.form;rw[HXV.out]at ho1⊢;clear hg1 hvv ho0;go_wp2;have hmo:Tryz.prog.follows .mixedOrders=true:=by kernel_rfl
 have hgr:∀ i,-12≤ent q q.f.length v i∧ent q q.f.length v i≤12:=fun i=>by have:=J0_ q q.f.length v i hl6;omega
 have HGR:=h_ hgr;have hsr:=h_ (a4Q hgr HX3.out);clear hgr hxV;go_loopw [8,9] (fun s i wr=>∃ k:Nat,k≤V∧i = .int .i64 k∧s = .int .i64 (dotS (ent q q.f.length v) x k)∧OwnI wr w.heap.size (.slice OA V oc) x∧Below w.heap.size w wr) (fun _ i _=>V-(intOf i).toNat)
 case atStart=>exact⟨0,l0_ _,rfl,rfl,ho1,hb1⟩
 case round =>
  clear ho1 hb1;obtain⟨k,hk,rfl,rfl,hown,hbel⟩:=hrel;have hsk:=hsr.out k;obtain⟨s,hs⟩:=e_ (dotS (ent q q.f.length v) x k);rw[hs]at hsk⊢;have HS:=h_ hs;clear hs;by_cases hlt:k<V
  ·obtain⟨b1,o1,y,rfl,hb1,HY,y1,_⟩:=SlI.atN hl HLL.out hlt;obtain⟨b2,o2,z,rfl,hb2,HZ,z1,_⟩:=SlI.atN hx' HXV.out hlt;have m2:=a7_ hbel hmb ml;have y2:=a7_ hbel hb1 y1;have z2:=a7_ hbel hb2 z1;have hye:y=ent q q.f.length v k:=by
    have h:=HY.out;rw[HEL.out,d1_ _ hlt]at h;injection h with h
    exact h.symm
   have hze:x.getD k 0=z:=by rw[l1_,HZ.out];rfl
   have hyr:-12≤y∧y≤12:=by rw[hye];exact HGR.out k
   have hzr:=HX3.out z (l4_ HZ.out);have hpr:=b5z hyr hzr;obtain⟨p,hp⟩:=e_ (y*z);rw[hp]at hpr;have hst:Hid (dotS (ent q q.f.length v) x (k+1)=s+p):=by show _=_;rw[dotS,HS.out,←hye,hze,hp]
   clear hye hze y1 z1;go_wp2_with fail
   go_quiet (fail)
   go_wp2;go_roundw
   case rel=>exact⟨k+1,by omega,by go_num,by rw[hst.out],hown.drewN nq,g7_ hbel nq⟩
   case measure=>simp[intOf];omega
  ·have HKV:=h_ (show k=V by omega);obtain⟨g,rfl,hgl⟩:∃ g,OA=some ⟨g,0,none⟩∧w.heap.size≤g:=by
    rcases hown.1.2 with ⟨e,_⟩ | ⟨g,cap,cur,e,hg,_⟩
    ·injection e with _ e _
     omega
    ·injection e with e _ _
     exact⟨g,e,hg⟩
   have hzr:=a3j HX3.out v;have ci:=(hown.cellG (j:=v) (by rw[HXV.out];exact hv)).1;have fi:=hown.frozenG v;have HR:Hid (a5z q x v=x.set v (x.getD v 0-s)):=by show _=_;rw[a5z,HXV.out,←HKV.out,HS.out]
   obtain⟨z,hz⟩:=e_ (x.getD v 0);rw[hz]at hzr ci;have hR:=HR.out;rw[hz]at hR;have HR2:=h_ hR;have hp:=hown.put (j:=v) (x:=z-s) ⟨by omega,by omega⟩;rw[←hR]at hp;have hb2:=hbel.grown hp.2 (by have:=hbel.size;omega) (fun j hj=>by injection hj with hj;omega);have HP:=h_ hp.1;clear hz hR HR hp hown;go_wp2;exact bodyPost_ret (v:=.slice (some ⟨g,0,none⟩) V oc) (by simp[results,go_sem]) rfl ⟨_,rfl,a9_.of_own HP.out,hb2⟩
theorem G4_ (u:Value) (q:Qv) (w0:World) (hu:QvR w0 w0.heap.size u q) :
  Calls Tryz.prog 147 #[u] w0 fun e w'=>∃ s:ByteArray,s.size≤100∧e = .returned (.string s)∧Below w0.heap.size w0 w':=by
 have hu':=hu;obtain⟨A,c,C,d,rfl,hf,hT,hr,lf,lt⟩:=hu.open_;clear hu;obtain⟨W,hW,g0,kB⟩:=b_3 w0 #[.int .i64 q.v,.slice A q.f.length c,.slice C q.t.length d] 26;obtain⟨c0,c1,c2⟩:=c_3 kB;have h0:=QvR.next g0 hu';clear hu';rcases hq:isQ q with _ | _
 ·go_enter Tryz.func147,Tryz.ntmps147
  go_wp2_with fail
  rw[←hW];clear hW;refine (c0_ _ _ _ h0).mono ?_;rintro e w1 ⟨rfl,hb1⟩;rw[hq];go_wp2;go_ret
  exact⟨⟨#[]⟩,l0_ _,rfl,a6_ g0 hb1⟩
 ·obtain⟨hv,hlen,h6,hfr,htr⟩:=g4_.1 hq;have HFR:=h_ hfr;have HTR:=h_ htr;obtain⟨n,hn⟩:=e_ (q.f.length);have hnt:q.t.length=n:=by omega
  have HN:=h_ hn;have HNT:=h_ hnt;rw[hn]at h6 hf;rw[hnt]at hT;have HF:=h_ hf;have HT:=h_ hT;clear hf hT hfr htr hlen hn hnt;go_enter Tryz.func147,Tryz.ntmps147
  go_wp2_with fail
  rw[←hW];clear hW;refine (c0_ _ _ _ h0).mono ?_;rintro e w1 ⟨rfl,hb1⟩;rw[hq];rw[HN.out,HNT.out]at kB;clear hq;have k1:=kB.call hb1;have G1:=h_ (a6_ g0 hb1);have d0:=k1.cell' (i:=0) rfl;have KB:=h_ k1;clear c0 c1 c2 kB g0 hb1 h0 k1;go_wp2_with fail
  refine (w0_ q.v _ (by omega) (by omega)).mono ?_;rintro e w2 ⟨rfl,hb2⟩;have hd:=y3_ q.v;have hds:(dgS q.v).size≤17592186044416:=by omega
  have KB2:=h_ (KB.out.call hb2);have G2:=h_ (a6_ G1.out hb2);have sG:=G2.out.size;clear d0 hb2;go_wp2;have hs0:(dgS q.v ++ (⟨#[58]⟩:ByteArray)).size=2:=by rw[ByteArray.size_append,hd];rfl
  go_loopw [3,4] (fun sv i wr=>∃ (k:Nat) (s:ByteArray),k≤n∧i = .int .i64 k∧sv = .string s∧s.size=2+3*k∧Below w2.heap.size w2 wr) (fun _ i _=>n-(intOf i).toNat)
  case atStart=>exact⟨0,_,l0_ _,rfl,rfl,hs0,Below.refl _ _⟩
  case round =>
   clear hs0 hd hds;obtain⟨k,s,hk,rfl,rfl,hs,hb⟩:=hrel;have kr:=KB2.out.call hb;have d1:=kr.cell' (i:=1) rfl;by_cases hlt:k<n
   ·obtain⟨bf,of_,x,rfl,hbf,HX,x1,_⟩:=SlI.atN HF.out HN.out hlt;obtain⟨bt,ot,y,rfl,hbt,HY,y1,_⟩:=SlI.atN HT.out HNT.out hlt;have hxr:=HFR.out x (l4_ HX.out);have hyr:=HTR.out y (l4_ HY.out);have hbs:=hb.size;have X1:=h_ (a7_ (G2.out.trans (hb.mono sG)) hbf x1);have Y1:=h_ (a7_ (G2.out.trans (hb.mono sG)) hbt y1);have KR:=h_ kr;have HB:=h_ hb;have hbf2:bf<wr.heap.size:=by omega
    have hbt2:bt<wr.heap.size:=by omega
    have hx1:=y3_ x;have hy1:=y3_ y;have hs1:(s ++ (⟨#[32]⟩:ByteArray)).size=2+3*k+1:=by rw[ByteArray.size_append,hs];rfl
    have hs2:(s ++ (⟨#[32]⟩:ByteArray) ++ dgS x).size=2+3*k+2:=by rw[ByteArray.size_append,hs1,hx1]
    have hs3:(s ++ (⟨#[32]⟩:ByteArray) ++ dgS x ++ dgS y).size=2+3*k+3:=by rw[ByteArray.size_append,hs2,hy1]
    clear kr hb x1 y1 HX HY;go_wp2;clear d1;obtain⟨wx,hwx⟩:∃ z,z=wr:=⟨_,rfl⟩;subst hwx;obtain⟨xx,hxx⟩:∃ z,z=x:=⟨_,rfl⟩;subst hxx;have hsz:s.size≤17592186044416:=by omega
    refine a8_ (by kernel_rfl) [.eq (.string s),.eq (.string (s ++ (⟨#[32]⟩:ByteArray))),.eq (.pointer (some ⟨w0.heap.size,1,none⟩)),.eq (.slice (some ⟨bf,of_,none⟩) n c),.eq (.int .i64 k),.eq (.pointer (some ⟨bf,of_+k,none⟩)),.eq (.int .i64 xx),.eq (.string (dgS xx)),.eq (.string (s ++ (⟨#[32]⟩:ByteArray) ++ dgS xx)),.eq (.pointer (some ⟨w0.heap.size,2,none⟩)),.eq (.slice (some ⟨bt,ot,none⟩) n d),.eq (.int .i64 k),.eq (.pointer (some ⟨bt,ot+k,none⟩)),.eq (.int .i64 y),.eq (.string (dgS y)),.eq (.string (s ++ (⟨#[32]⟩:ByteArray) ++ dgS xx ++ dgS y))] [[],[0],[],[2],[],[2,3,4],[2,3,4,5],[2,3,4,5,6],[0,1,2,3,4,5,6,7],[],[9],[],[9,10,11],[9,10,11,12],[2,3,4,5,6,7,9,10,11,12,13],[0,1,2,3,4,5,6,7,8,9,10,11,12,13,14],[0,1,2,3,4,5,6,7,8,9,10,11,12,13,14,15]] 16 (by kernel_rfl) ⟨trivial,trivial,trivial,trivial,trivial,trivial,trivial,trivial,trivial,trivial,trivial,trivial,trivial,trivial,trivial,trivial,trivial⟩ ⟨?_,?_,?_,?_,?_,?_,?_,?_,?_,?_,?_,?_,?_,?_,?_,?_,trivial⟩ ?_;iterate 16 (intro x w hb hk Q' hQ;have he:=k_e hk;simp only[k_s]at he;simp only[netE]at hQ⊢;(try simp only[he]at hQ⊢);(try clear he);rotate_left)
    rotate_left
    iterate 3 (· clear hk;go_wp2;exact hQ _ _ br_ rfl)
    ·clear hk;have z:=(KR.out.call hb).cell' (i:=1) rfl;go_wp2;exact hQ _ _ br_ rfl
    iterate 2 (· clear hk;go_wp2;exact hQ _ _ br_ rfl)
    ·clear hk;have z:=a7_ hb hbf2 X1.out;go_wp2;exact hQ _ _ br_ rfl
    ·clear hk;go_wp2_with fail
     refine (w0_ xx _ (by omega) (by omega)).mono ?_;rintro e w4 ⟨rfl,hb4⟩;go_wp2;exact hQ _ _ hb4 rfl
    iterate 2 (· clear hk;go_wp2;exact hQ _ _ br_ rfl)
    ·clear hk;have z:=(KR.out.call hb).cell' (i:=2) rfl;go_wp2;exact hQ _ _ br_ rfl
    iterate 2 (· clear hk;go_wp2;exact hQ _ _ br_ rfl)
    ·clear hk;have z:=a7_ hb hbt2 Y1.out;go_wp2;exact hQ _ _ br_ rfl
    ·clear hk;go_wp2_with fail
     refine (w0_ y _ (by omega) (by omega)).mono ?_;rintro e w4 ⟨rfl,hb4⟩;go_wp2;exact hQ _ _ hb4 rfl
    ·clear hk;go_wp2;exact hQ _ _ br_ rfl
    ·intro x w hb hk hiv hdj;have he:=k_g hk [0,1,2,3,4,5,6,7,8,9,10,11,12,13,14,15];simp only[k_s]at he;simp only[netE,he];clear he hk;have HB3:=h_ (HB.out.trans (hb.mono hbs));clear hb hiv hdj;go_wp2;go_roundw
     case rel=>exact⟨k+1,_,by omega,by go_num,rfl,by rw[hs3];omega,HB3.out⟩
     case measure=>simp[intOf];omega
   ·obtain rfl:k=n:=by omega
    have GF:=h_ (a6_ G2.out hb);clear hb kr;go_wp2;go_ret
    exact⟨s,by omega,rfl,GF.out⟩
theorem I2_ {w:World} {lo hi:Nat}:Fam w lo hi [(.slice none 0 0,[]),(.slice none 0 0,[])]:=by
 refine⟨fun p hp=>?_,?_⟩
 ·simp only[List.mem_cons,List.not_mem_nil,or_false,or_self]at hp;subst hp;exact⟨OwnI.nil _ _,fun k hk=>by simp[Value.ownBlock]at hk⟩
 ·simp[Value.ownBlock]
theorem U9_ (w:World) {lo:Nat} (h:lo≤w.heap.size):Fam ((w.alloc (.cells #[] 3)).alloc (.cells #[] 3)) lo (w.heap.size+1+1) [(.slice (some ⟨w.heap.size,0,none⟩) 0 0,[]),(.slice (some ⟨w.heap.size+1,0,none⟩) 0 0,[])]:=by
 refine b4Q (mi:=w.heap.size+1) ⟨(OwnI.made _ rfl h).alloc _,fun k hk=>by simp[Value.ownBlock]at hk;omega⟩ ⟨?_,fun k hk=>by simp[Value.ownBlock]at hk;omega⟩ (by omega) (by omega);have:=OwnI.made (w:=w.alloc (.cells #[] 3)) (base:=w.heap.size+1) _ rfl (by simp);simpa only[l3_] using this
theorem Q3_ {w:World} {g:Nat} {x:Int} (hk:Blk w g 3 #[.int .i64 x]) (hx:I64 x):SlI w w.heap.size (.slice (some ⟨g,0,none⟩) 1 1) [x]:=by
 refine⟨_,1,rfl,by simp,by omega,by simp,fun _=>⟨g,0,rfl,hk.lt,fun j y hj=>?_⟩⟩
 match j,hj with
 | 0,hj =>
  simp at hj;subst hj;exact⟨by rw[hk.cell];rfl,hx⟩
 | j+1,hj=>simp at hj
theorem Cur.below {w w':World} {c lo:Nat} (h:Cur w c) (k:Below lo w w') (hc:c<lo):Cur w' c:=by
 obtain⟨A,cc,i,hh,l,hB,h1,h2,h3⟩:=h;exact⟨A,cc,i,hh,l,hB.below k hc,h1,h2,SlY.below (k.mono (Nat.le_of_lt hc)) h3⟩
theorem Ck.low {w0 w w':World} {c lo:Nat} (h:Ck c w0 w) (k:Below lo w w') (h1:w0.heap.size≤lo) (h2:c<lo):Ck c w0 w' :=
 ⟨k.os.trans h.os,k.tape.trans h.tape,k.output.trans h.output,Nat.le_trans h.size k.size,fun i hi hn=>(k.block i (by omega)).trans (h.block i hi hn),fun h0=>(h.keep h0).below k h2⟩
theorem Cur.lt {w:World} {c:Nat} (h:Cur w c):c<w.heap.size:=by obtain⟨_,_,_,_,_,hB,_⟩:=h;exact hB.lt
theorem d5_.wid {w:World} {lo hi lo' hi':Nat} {v:Value} {q:Qv} (h:d5_ w lo hi v q) (h1:lo'≤lo) (h2:hi≤hi'):d5_ w lo' hi' v q:=by
 obtain⟨a,b,e,hF,hr⟩:=h;exact⟨a,b,e,hF.mono h1 h2,hr⟩
def GQ (w:World) (lo gq:Nat) (V:Int) (A:Option Addr) (c:Nat) (C:Option Addr) (d:Nat) (F T:List Int):Prop :=
 Blk w gq 26 #[.int .i64 V,.slice A F.length c,.slice C T.length d]∧Fam w lo w.heap.size [(.slice A F.length c,F),(.slice C T.length d,T)]∧I64 V∧lo≤w.heap.size
section
variable {w w':World} {lo gq c d:Nat} {V:Int} {A C:Option Addr} {F T:List Int}
theorem GQ.below (h:GQ w lo gq V A c C d F T) (hb:Below w.heap.size w w'):GQ w' lo gq V A c C d F T :=
 ⟨h.1.call hb,(h.2.1.below hb).mono (l_ _) hb.size,h.2.2.1,Nat.le_trans h.2.2.2 hb.size⟩
theorem GQ.ck {k:Nat} (h:GQ w lo gq V A c C d F T) (hb:Ck k w w') (hk:k<lo) (hg:gq≠k):GQ w' lo gq V A c C d F T :=
 ⟨h.1.ck hb hg,(h.2.1.chg hb.chg (.inr (by omega))).mono (l_ _) hb.size,h.2.2.1,Nat.le_trans h.2.2.2 hb.size⟩
theorem GQ.setF {w1:World} {A1:Option Addr} {c1 n1:Nat} {F1:List Int} (h:GQ w lo gq V A c C d F T) (ho:OwnI w1 lo (.slice A1 n1 c1) F1) (hn:n1=F1.length) (hg:w.grownBy w1 (Value.slice A F.length c).ownBlock) (hv:(Value.slice A1 n1 c1).ownBlock=(Value.slice A F.length c).ownBlock∨(Value.slice A1 n1 c1).ownBlock=some w.heap.size) :
  Blk w1 gq 26 #[.int .i64 V,.slice A F.length c,.slice C T.length d]∧GQ (w1.setCell ⟨gq,1,none⟩ (.slice A1 n1 c1)) lo gq V A1 c1 C d F1 T∧Below lo w w1:=by
 subst hn;have hfa:OwnI w lo (.slice A F.length c) F:=(h.2.1.1 (_,F) (by simp)).1;have hB1:=h.1.grown hg (hfa.blkne h.1 (by decide));have hF1:=h.2.1.app (w':=w1) (L1:=[]) hg.size ho hg hv;refine⟨hB1,⟨hB1.set_ 1 _,?_,h.2.2.1,?_⟩,b9_ hg (fun j hj=>(hfa.lt j hj).1) h.2.2.2⟩
 ·have:=hF1.setBlk (i:=1) hB1 (by decide) (.slice A1 F1.length c1);exact this.mono (l_ _) (by simp)
 ·have:=hg.size;simp;have:=h.2.2.2;omega
theorem GQ.setT {w1:World} {A1:Option Addr} {c1 n1:Nat} {F1:List Int} (h:GQ w lo gq V A c C d F T) (ho:OwnI w1 lo (.slice A1 n1 c1) F1) (hn:n1=F1.length) (hg:w.grownBy w1 (Value.slice C T.length d).ownBlock) (hv:(Value.slice A1 n1 c1).ownBlock=(Value.slice C T.length d).ownBlock∨(Value.slice A1 n1 c1).ownBlock=some w.heap.size) :
  Blk w1 gq 26 #[.int .i64 V,.slice A F.length c,.slice C T.length d]∧GQ (w1.setCell ⟨gq,2,none⟩ (.slice A1 n1 c1)) lo gq V A c A1 c1 F F1∧Below lo w w1:=by
 subst hn;have hfa:OwnI w lo (.slice C T.length d) T:=(h.2.1.1 (_,T) (by simp)).1;have hB1:=h.1.grown hg (hfa.blkne h.1 (by decide));have hF1:=h.2.1.app (w':=w1) (L1:=[(_,F)]) hg.size ho hg hv;refine⟨hB1,⟨hB1.set_ 2 _,?_,h.2.2.1,?_⟩,b9_ hg (fun j hj=>(hfa.lt j hj).1) h.2.2.2⟩
 ·have:=hF1.setBlk (i:=2) hB1 (by decide) (.slice A1 F1.length c1);exact this.mono (l_ _) (by simp)
 ·have:=hg.size;simp;have:=h.2.2.2;omega
theorem GQ.rd (h:GQ w lo gq V A c C d F T):QvR w w.heap.size (.agg #[.int .i64 V,.slice A F.length c,.slice C T.length d]) ⟨V,F,T⟩ :=
 d5_.rd (lo:=lo) (hi:=w.heap.size) ⟨_,_,rfl,h.2.1,h.2.2.1⟩
theorem GQ.quiv (h:GQ w lo gq V A c C d F T):d5_ w lo w.heap.size (.agg #[.int .i64 V,.slice A F.length c,.slice C T.length d]) ⟨V,F,T⟩:=⟨_,_,rfl,h.2.1,h.2.2.1⟩
end
theorem D2_ (x:Int):I64 (wrap64 x):=by unfold I64 wrap64;omega
theorem K6_ (s:ByteArray) (w0:World) (hs:s.size≤60) :
  Calls Tryz.prog 144 #[.string s] w0 fun e w'=>∃ v b q,e = .returned (.tuple #[v,.bool b])∧d5_ w' w0.heap.size w'.heap.size v q∧q.f.length≤61∧q.t.length≤61∧Below w0.heap.size w0 w':=by
 obtain⟨W,hW,g0,kR⟩:=b_3 w0 #[.int .i64 0,.slice none 0 0,.slice none 0 0] 26;have sW:W.heap.size=w0.heap.size+1:=by rw[hW];simp
 go_enter Tryz.func144,Tryz.ntmps144
 go_wp2_with fail
 rw[←hW];clear hW;refine (b6j s 32 _ (by omega) (by omega)).mono ?_;rintro e w1 ⟨v1,L,rfl,hL,hL0,hL1,hb1⟩;obtain⟨LA,lc,rfl,hcell⟩:=hL.form;obtain⟨gl,rfl,hgl,hgl2,hel⟩:=hcell hL0;have g1:=a6_ g0 hb1;have kR1:=kR.call hb1;have s1:=hb1.size;obtain⟨N,hN⟩:=e_ (L.length);have HN:=h_ hN;rw[hN]at hL0 hL1⊢;have HEL:=h_ hel;have e0:L[0]?=some (L[0]'(by rw[HN.out];exact hL0)):=l2_ _;obtain⟨s0,hs0⟩:=e_ (L[0]'(by rw[HN.out];exact hL0));rw[hs0]at e0;have l0:=hel 0 s0 e0;obtain⟨r0,r1,r2⟩:=c_3 kR1;have fr:=kR1.frozen;have KR1:=h_ kR1;have G1:=h_ g1;clear hel e0 hs0 hL hcell hb1 kR g0 hN kR1 g1;by_cases h2:s0.size=2
 ·by_cases h30:s.size≤30
  ·have hbyte:s0.size=2:=h2;go_wp2;obtain⟨V,hV⟩:=e_ (wrap64 (wrap64 ((s0[0]'(by omega)).toNat:Int)-48));have hVr:I64 V:=by rw[←hV];exact D2_ _
   rw[hV];clear hV;obtain⟨W2,hW2⟩:=e_ (((w1.alloc (.cells #[] 3)).alloc (.cells #[] 3)).alloc (.cells #[.int .i64 V,.slice (some ⟨w1.heap.size,0,none⟩) 0 0,.slice (some ⟨w1.heap.size+1,0,none⟩) 0 0] 26));have gb:Below w1.heap.size w1 W2:=by rw[←hW2];exact (((Below.refl _ _).alloc (l_ _) _).alloc (by simp) _).alloc (by simp;omega) _
   have hG:GQ W2 w1.heap.size (w1.heap.size+1+1) V (some ⟨w1.heap.size,0,none⟩) 0 (some ⟨w1.heap.size+1,0,none⟩) 0 [] []:=by
    rw[←hW2];refine⟨?_,?_,hVr,by simp;omega⟩
    ·have:=Blk.new ((w1.alloc (.cells #[] 3)).alloc (.cells #[] 3)) 26 #[.int .i64 V,.slice (some ⟨w1.heap.size,0,none⟩) 0 0,.slice (some ⟨w1.heap.size+1,0,none⟩) 0 0];simp only[l3_]at this;exact this
    ·have h:=U9_ w1 (lo:=w1.heap.size) (l_ _);exact (h.below (a2_ _ _)).mono (l_ _) (by simp)
   rw[hW2];clear hW2 r0 r1 r2 fr l0;go_loopw [6] (fun i wr=>∃ (k c d:Nat) (A C:Option Addr) (F T:List Int),1≤k∧k≤N∧i = .int .i64 k∧F.length≤k∧T.length≤k∧Below w1.heap.size w1 wr∧GQ wr w1.heap.size (w1.heap.size+1+1) V A c C d F T) (fun i _=>N-(intOf i).toNat)
   case atStart=>exact⟨1,0,0,_,_,[],[],l_ _,by omega,rfl,by simp,by simp,gb,hG⟩
   case round =>
    clear gb hG;obtain⟨k,c,d,A,C,F,T,hk1,hk,rfl,hF,hT,hb,hG⟩:=hrel;have kRr:=KR1.out.below hb (by omega);have hbs:=hb.size;by_cases hlt:k<N
    ·obtain⟨u,hu⟩:∃ u,L[k]?=some u:=⟨_,l2_ (by rw[HN.out];exact hlt)⟩;have lk:=a7_ hb (show gl<w1.heap.size from hgl2) (HEL.out k u hu);by_cases hu2:u.size=2
     ·have H0:=h_ (show wrap64 (wrap64 ((u[0]'(by omega)).toNat:Int)-48)=wrap64 (wrap64 ((u[0]'(by omega)).toNat:Int)-48) from rfl);have HG:=h_ hG;have HB:=h_ hb;have LK:=h_ lk;have LU:=h_ hu;have GB:=h_ hG.1;have hgk:gl<wr.heap.size:=by omega
      clear hG hb kRr hu;go_wp2;clear lk;obtain⟨wx,hwx⟩:∃ z,z=wr:=⟨_,rfl⟩;subst hwx;obtain⟨y0,hy0⟩:=e_ (wrap64 (wrap64 ((u[0]'(by omega)).toNat:Int)-48));obtain⟨y1,hy1⟩:=e_ (wrap64 (wrap64 ((u[1]'(by omega)).toNat:Int)-48));have hy0r:I64 y0:=by rw[←hy0];exact D2_ _
      have hy1r:I64 y1:=by rw[←hy1];exact D2_ _
      have HY0:=h_ hy0;have HY1:=h_ hy1;clear hy0 hy1;refine a8_ (by kernel_rfl) [.eq (.pointer (some ⟨w1.heap.size+1+1,1,none⟩)),.eq (.slice A F.length c),.eq (.slice (some ⟨gl,0,none⟩) N lc),.eq (.int .i64 k),.eq (.pointer (some ⟨gl,k,none⟩)),.eq (.string u),.eq (.int .u8 ((u[0]'(by omega)).toNat:Int)),.eq (.int .i64 (wrap64 ((u[0]'(by omega)).toNat:Int))),.eq (.int .i64 y0),rel 9 (fun u lo hi w=>∃ g,u = .slice (some ⟨g,0,none⟩) 1 1∧Blk w g 3 #[.int .i64 y0])] [[],[0],[],[],[2,3],[2,3,4],[2,3,4,5],[2,3,4,5,6],[2,3,4,5,6,7],[2,3,4,5,6,7,8],[0,1,2,3,4,5,6,7,8,9],[0,1,2,3,4,5,6,7,8,9,10],[0,1,2,3,4,5,6,7,8,9,10,11]] 10 (by kernel_rfl) ⟨trivial,trivial,trivial,trivial,trivial,trivial,trivial,trivial,trivial,a4_ (fun u lo hi w w' ⟨g,e,h⟩ hb=>⟨g,e,h.call hb⟩),trivial⟩ ⟨?_,?_,?_,?_,?_,?_,?_,?_,?_,?_,trivial⟩ ?_;iterate 10 (intro x w hb hk Q' hQ;have he:=k_e hk;simp only[k_s]at he;simp only[netE]at hQ⊢;(try simp only[he]at hQ⊢);(try clear he);rotate_left)
      rotate_left
      ·clear hk;go_wp2;exact hQ _ _ br_ rfl
      ·clear hk;have z:=(GB.out.call hb).cell' (i:=1) rfl;go_wp2;exact hQ _ _ br_ rfl
      iterate 3 (· clear hk;go_wp2;exact hQ _ _ br_ rfl)
      ·clear hk;have z:=a7_ hb hgk LK.out;go_wp2;exact hQ _ _ br_ rfl
      iterate 2 (· clear hk;go_wp2;exact hQ _ _ br_ rfl)
      ·clear hk;go_wp2;rw[HY0.out];exact hQ _ _ br_ rfl
      ·clear hk;go_wp2;exact hQ _ _ (a2_ _ _) ⟨_,rfl,Blk.new _ _ _⟩
      ·intro x w hb hk hiv hdj;have h9:∃ g,(x.v 9) = .slice (some ⟨g,0,none⟩) 1 1∧Blk w g 3 #[.int .i64 y0]:=hk 9 (by decide);have he:=k_g hk [0,1,2,3,4,5,6,7,8];simp only[k_s]at he;simp only[netE,he];clear he hk;obtain⟨gn,e9,hN⟩:=h9;rw[e9];have hGw:=HG.out.below hb;have hfa:OwnI w w1.heap.size (.slice A F.length c) F:=(hGw.2.1.1 (_,F) (by simp)).1;refine c3_ (by rfl) (.tmp 43) (.tmp 51) (by rfl) w1.heap.size w.heap.size _ F (by rfl) hfa (some ⟨gn,0,none⟩) 1 1 [y0] (by rfl) rfl (Q3_ hN hy0r) (by simp;omega) hGw.2.2.2 ?_;intro v3 w3 ho3 hg3 hv3;obtain⟨A3,c3,rfl,_⟩:=ho3.form;obtain⟨nA3,hnA3⟩:=e_ ((F ++ [y0]).length);rw[hnA3]at ho3 hv3⊢;obtain⟨hB3,hG3,hb3⟩:=hGw.setF ho3 hnA3.symm hg3 hv3;have z1:=hB3.cell' (i:=1) rfl;have fz:=hB3.frozen;obtain⟨W3,hW3⟩:=e_ (w3.setCell ⟨w1.heap.size+1+1,1,none⟩ (.slice A3 nA3 c3));rw[hW3]at hG3;have hch:Chg (w1.heap.size+1+1) (w1.heap.size+1+1+1) w3 W3:=by rw[←hW3];exact b4_ (l_ _) (m0_ _)
       have hbw:=hb.size;have hbw3:=hb3.size;have hb13:Below w1.heap.size w1 W3:=((HB.out.trans (hb.mono hbs)).trans hb3).trans (hch.below (by omega) (by omega));have hl3:=a7_ hb13 hgl2 (HEL.out k u LU.out);have hsW:w1.heap.size≤W3.heap.size:=hb13.size;have HG3:=h_ hG3;have HB13:=h_ hb13;have LK3:=h_ hl3;have hgk3:gl<W3.heap.size:=by omega
       have GB3:=h_ hG3.1;clear hnA3 hB3 hG3 hb3 ho3 hg3 hv3 hch hb13 hl3 hfa hGw hN e9 hiv hdj GB LK HG HB;go_wp2;clear hW3 z1 fz;refine a8_ (by kernel_rfl) [.eq (.pointer (some ⟨w1.heap.size+1+1,2,none⟩)),.eq (.slice C T.length d),.eq (.slice (some ⟨gl,0,none⟩) N lc),.eq (.int .i64 k),.eq (.pointer (some ⟨gl,k,none⟩)),.eq (.string u),.eq (.int .u8 ((u[1]'(by omega)).toNat:Int)),.eq (.int .i64 (wrap64 ((u[1]'(by omega)).toNat:Int))),.eq (.int .i64 y1),rel 9 (fun u lo hi w=>∃ g,u = .slice (some ⟨g,0,none⟩) 1 1∧Blk w g 3 #[.int .i64 y1])] [[],[0],[],[],[2,3],[2,3,4],[2,3,4,5],[2,3,4,5,6],[2,3,4,5,6,7],[2,3,4,5,6,7,8],[0,1,2,3,4,5,6,7,8,9],[0,1,2,3,4,5,6,7,8,9,10],[0,1,2,3,4,5,6,7,8,9,10,11]] 10 (by kernel_rfl) ⟨trivial,trivial,trivial,trivial,trivial,trivial,trivial,trivial,trivial,a4_ (fun u lo hi w w' ⟨g,e,h⟩ hb=>⟨g,e,h.call hb⟩),trivial⟩ ⟨?_,?_,?_,?_,?_,?_,?_,?_,?_,?_,trivial⟩ ?_;iterate 10 (intro x w hb hk Q' hQ;have he:=k_e hk;simp only[k_s]at he;simp only[netE]at hQ⊢;(try simp only[he]at hQ⊢);(try clear he);rotate_left)
       rotate_left
       ·clear hk;go_wp2;exact hQ _ _ br_ rfl
       ·clear hk;have z:=(GB3.out.call hb).cell' (i:=2) rfl;go_wp2;exact hQ _ _ br_ rfl
       iterate 3 (· clear hk;go_wp2;exact hQ _ _ br_ rfl)
       ·clear hk;have z:=a7_ hb hgk3 LK3.out;go_wp2;exact hQ _ _ br_ rfl
       iterate 2 (· clear hk;go_wp2;exact hQ _ _ br_ rfl)
       ·clear hk;go_wp2;rw[HY1.out];exact hQ _ _ br_ rfl
       ·clear hk;go_wp2;exact hQ _ _ (a2_ _ _) ⟨_,rfl,Blk.new _ _ _⟩
       ·intro x w hb hk hiv hdj;have h9:∃ g,(x.v 9) = .slice (some ⟨g,0,none⟩) 1 1∧Blk w g 3 #[.int .i64 y1]:=hk 9 (by decide);have he:=k_g hk [0,1,2,3,4,5,6,7,8];simp only[k_s]at he;simp only[netE,he];clear he hk;obtain⟨gn,e9,hN⟩:=h9;rw[e9];have hGw:=HG3.out.below hb;have hfa:OwnI w w1.heap.size (.slice C T.length d) T:=(hGw.2.1.1 (_,T) (by simp)).1;refine c3_ (by rfl) (.tmp 55) (.tmp 63) (by rfl) w1.heap.size w.heap.size _ T (by rfl) hfa (some ⟨gn,0,none⟩) 1 1 [y1] (by rfl) rfl (Q3_ hN hy1r) (by simp;omega) hGw.2.2.2 ?_;intro v3 w3 ho3 hg3 hv3;obtain⟨A4,c4,rfl,_⟩:=ho3.form;obtain⟨nA4,hnA4⟩:=e_ ((T ++ [y1]).length);rw[hnA4]at ho3 hv3⊢;obtain⟨hB3,hG3,hb3⟩:=hGw.setT ho3 hnA4.symm hg3 hv3;have z1:=hB3.cell' (i:=2) rfl;have fz:=hB3.frozen;obtain⟨W4,hW4⟩:=e_ (w3.setCell ⟨w1.heap.size+1+1,2,none⟩ (.slice A4 nA4 c4));rw[hW4]at hG3;have hch:Chg (w1.heap.size+1+1) (w1.heap.size+1+1+1) w3 W4:=by rw[←hW4];exact b4_ (l_ _) (m0_ _)
        have hbw:=hb.size;have hbw3:=hb3.size;have hb13:Below w1.heap.size w1 W4:=((HB13.out.trans (hb.mono hsW)).trans hb3).trans (hch.below (by omega) (by omega));have HG4:=h_ hG3;have HB4:=h_ hb13;have hF1:(F ++ [y0]).length≤k+1:=by simp;omega
        have hT1:(T ++ [y1]).length≤k+1:=by simp;omega
        clear hnA4 hB3 hG3 hb3 ho3 hg3 hv3 hch hb13 hfa hGw hN e9 hiv hdj;go_wp2;clear hW4 z1 fz;go_roundw
        case rel=>exact⟨k+1,c3,c4,A3,A4,_,_,by omega,by omega,by go_num,hF1,hT1,HB4.out,HG4.out⟩
        case measure=>simp[intOf];omega
     ·obtain⟨r0,r1,r2⟩:=c_3 kRr;have fr:=kRr.frozen;have GF:=h_ ((((G1.out.trans (hb.mono (by omega))).setCell (p:=⟨w0.heap.size,0,none⟩) (by simp) (.int .i64 0)).setCell (p:=⟨w0.heap.size,1,none⟩) (by simp) (.slice none 0 0)).setCell (p:=⟨w0.heap.size,2,none⟩) (by simp) (.slice none 0 0));clear hG hb kRr hu;go_wp2;exact bodyPost_ret (v:=.tuple #[.agg #[.int .i64 0,.slice none 0 0,.slice none 0 0],.bool false]) (by simp[results,go_sem,r0,r1,r2]) rfl ⟨_,_,⟨0,[],[]⟩,rfl,⟨_,_,rfl,I2_,⟨by decide,by decide⟩⟩,by simp,by simp,GF.out⟩
    ·obtain rfl:k=N:=by omega
     have hB:=hG.1;obtain⟨q0,q1,q2⟩:=c_3 hB;have HG:=h_ hG;have HB:=h_ hb;clear hG hb kRr hB;go_wp2_with fail
     refine (G4_ _ ⟨V,F,T⟩ _ HG.out.rd).mono ?_;rintro e w3 ⟨s3,hs3,rfl,hb3⟩;have HG3:=h_ (HG.out.below hb3);have hB3:=HB.out.trans (hb3.mono hbs);have kR3:=KR1.out.below hB3 (by omega);have fr:=kR3.frozen;obtain⟨r0,r1,r2⟩:=c_3 kR3;have q0':=HG3.out.1.cell' (i:=0) rfl;have q1':=HG3.out.1.cell' (i:=1) rfl;have q2':=HG3.out.1.cell' (i:=2) rfl;have gw:=G1.out.trans (hB3.mono (by omega));clear q0 q1 q2 hb3 hB3 kR3;have hne:w0.heap.size<w1.heap.size+1+1:=by omega
     have gws:=gw.size;have hc3:=((b4_ (lo:=w0.heap.size) (hi:=w0.heap.size+1) (w:=w3) (p:=⟨w0.heap.size,0,none⟩) (u:=.int .i64 V) (l_ _) (m0_ _)).trans (b4_ (p:=⟨w0.heap.size,1,none⟩) (u:=.slice A F.length c) (l_ _) (m0_ _))).trans (b4_ (p:=⟨w0.heap.size,2,none⟩) (u:=.slice C T.length d) (l_ _) (m0_ _));have OF:=h_ ((HG3.out.quiv.chg hc3 (.inr (by omega))).wid (lo':=w0.heap.size) (hi':=w3.heap.size) (by omega) (l_ _));have GS:=h_ (gw.trans (hc3.below (l_ _) gws));have GF:=h_ (((gw.setCell (p:=⟨w0.heap.size,0,none⟩) (by simp) (.int .i64 0)).setCell (p:=⟨w0.heap.size,1,none⟩) (by simp) (.slice none 0 0)).setCell (p:=⟨w0.heap.size,2,none⟩) (by simp) (.slice none 0 0));have HLF:=h_ (And.intro hF hT);have hk61:k≤61:=by omega
     clear gw hc3 hF hT;go_wp2
     ·exact bodyPost_ret (v:=.tuple #[.agg #[.int .i64 0,.slice none 0 0,.slice none 0 0],.bool false]) (by simp[results,go_sem,r0,r1,r2]) rfl ⟨_,_,⟨0,[],[]⟩,rfl,⟨_,_,rfl,I2_,⟨by decide,by decide⟩⟩,by simp,by simp,GF.out⟩
     ·exact bodyPost_ret (v:=.tuple #[.agg #[.int .i64 V,.slice A F.length c,.slice C T.length d],.bool true]) (by simp[results,go_sem,r0,r1,r2]) rfl ⟨_,_,⟨V,F,T⟩,rfl,by simpa using OF.out,by have:=HLF.out;show F.length≤61;omega,by have:=HLF.out;show T.length≤61;omega,GS.out⟩
  ·have GF:=h_ (((G1.out.setCell (p:=⟨w0.heap.size,0,none⟩) (by simp) (.int .i64 0)).setCell (p:=⟨w0.heap.size,1,none⟩) (by simp) (.slice none 0 0)).setCell (p:=⟨w0.heap.size,2,none⟩) (by simp) (.slice none 0 0));go_wp2;exact bodyPost_ret (v:=.tuple #[.agg #[.int .i64 0,.slice none 0 0,.slice none 0 0],.bool false]) (by simp[results,go_sem,r0,r1,r2]) rfl ⟨_,_,⟨0,[],[]⟩,rfl,⟨_,_,rfl,I2_,⟨by decide,by decide⟩⟩,by simp,by simp,GF.out⟩
 ·have GF:=h_ (((G1.out.setCell (p:=⟨w0.heap.size,0,none⟩) (by simp) (.int .i64 0)).setCell (p:=⟨w0.heap.size,1,none⟩) (by simp) (.slice none 0 0)).setCell (p:=⟨w0.heap.size,2,none⟩) (by simp) (.slice none 0 0));go_wp2;exact bodyPost_ret (v:=.tuple #[.agg #[.int .i64 0,.slice none 0 0,.slice none 0 0],.bool false]) (by simp[results,go_sem,r0,r1,r2]) rfl ⟨_,_,⟨0,[],[]⟩,rfl,⟨_,_,rfl,I2_,⟨by decide,by decide⟩⟩,by simp,by simp,GF.out⟩
theorem J7_ (s:ByteArray) (w0:World) :
  Calls Tryz.prog 133 #[.string s] w0 fun e w'=>∃ v b q,e = .returned (.tuple #[v,.bool b])∧d5_ w' w0.heap.size w'.heap.size v q∧q.f.length≤61∧q.t.length≤61∧Below w0.heap.size w0 w':=by
 obtain⟨W,hW,g0,kR⟩:=b_3 w0 #[.int .i64 0,.slice none 0 0,.slice none 0 0] 26;have sW:W.heap.size=w0.heap.size+1:=by rw[hW];simp
 have KR:=h_ kR;have G0:=h_ g0;clear kR g0;go_enter Tryz.func133,Tryz.ntmps133
 go_wp2_with fail
 all_goals rw[←hW];clear hW
 all_goals (refine (K6_ _ _ (by decide)).mono ?_;rintro e w1 ⟨v1,b1,q,rfl,hQ1,hf,ht,hb1⟩)
 all_goals (
  obtain⟨A,c,C,d,rfl⟩:=hQ1.form;obtain⟨W2,hW2,ga,kq⟩:=b_1 w1 #[.int .i64 q.v,.slice A q.f.length c,.slice C q.t.length d] 26;have g2:=a6_ hb1 ga;have k2:=KR.out.call g2;have fr:=k2.frozen;obtain⟨r0,r1,r2⟩:=c_3 k2;obtain⟨q0,q1,q2⟩:=c_3 kq;have s1:=hb1.size;have hne:w0.heap.size<w1.heap.size:=by omega
  have gw:=G0.out.trans (g2.mono (by omega));have hc3:=((b4_ (lo:=w0.heap.size) (hi:=w0.heap.size+1) (w:=W2) (p:=⟨w0.heap.size,0,none⟩) (u:=.int .i64 q.v) (l_ _) (m0_ _)).trans (b4_ (p:=⟨w0.heap.size,1,none⟩) (u:=.slice A q.f.length c) (l_ _) (m0_ _))).trans (b4_ (p:=⟨w0.heap.size,2,none⟩) (u:=.slice C q.t.length d) (l_ _) (m0_ _));have OF:=h_ (((hQ1.below ga).chg hc3 (.inr (by omega))).wid (lo':=w0.heap.size) (hi':=W2.heap.size) (by omega) ga.size);have GS:=h_ (gw.trans (hc3.below (l_ _) gw.size));have HL:=h_ (And.intro hf ht);clear gw hc3 hf ht k2 kq g2 ga hb1 hQ1;go_wp2;clear hW2;exact bodyPost_ret (v:=.tuple #[.agg #[.int .i64 q.v,.slice A q.f.length c,.slice C q.t.length d],.bool b1]) (by simp[results,go_sem,r0,r1,r2]) rfl ⟨_,_,q,rfl,by simpa using OF.out,HL.out.1,HL.out.2,GS.out⟩)
def NS.stableK (s:NS) (kc:Nat):Prop :=
 match s with
 | .eq _=>True
 | .rel R=>∀ x w w',R x w→Ck kc w w'→R x w'
theorem NS.holds_stableK {kc:Nat} {s:NS} (h:s.stableK kc) {i:Nat} {D:List Nat} {x:Gh} {w w':World} (hh:s.holds i D x w) (hb:Ck kc w w'):s.holds i D x w':=by
 cases s with
 | eq f=>exact hh
 | rel R=>exact h _ _ _ hh hb
section
variable {P:Program}
section
variable {ops:Array Oper} {Q:Exit→Act→World→Prop} {sp:List NS} {D:List (List Nat)} {m:Nat} {a0:Act} {w0:World}
def a1Q (kc:Nat) (P:Program) (ops:Array Oper) (sp:List NS) (D:List (List Nat)) (a0:Act) (w0:World) (i:Nat) (o:Oper):Prop :=
 ∀ (x:Gh) (w:World),Ck kc w0 w→(∀ j∈D.getD i [],k3_ sp D x j w∧x.hi j≤w.heap.size)→∀ Q':Exit→Act→World→Prop,
  (∀ u w',Ck kc w w'→(sp.getD i (.eq undef)).holds i (D.getD i []) (x.set i u w.heap.size w'.heap.size) w'→Q' .normal ((c4_ ops a0 x.v i).put o.dst u) w')→wpList P ops Q' [o] (c4_ ops a0 x.v i) w
theorem c6x {kc:Nat} (hB:netB ops D m=true) (hst:∀ s∈sp,s.stableK kc) (hdo:∀ i o,i<m→ops[i]?=some o→a1Q kc P ops sp D a0 w0 i o)
  (hend:∀ x w,Ck kc w0 w→(∀ i,i<m→k3_ sp D x i w)→(∀ i,i<m→w0.heap.size≤x.lo i∧x.lo i≤x.hi i∧x.hi i≤w.heap.size)→(∀ i j,i<m→j<m→i≠j→x.hi i≤x.lo j∨x.hi j≤x.lo i)→wpList P ops Q (ops.toList.drop m) (c4_ ops a0 x.v m) w) :
  ∀ (fuel:Nat) (listed:Array Bool) (x:Gh) (w:World),((List.range ops.size).filter fun j=>!listed.getD j false).length=fuel→listed.size=ops.size→(∀ j,m≤j→listed.getD j false=false) →
   (∀ i,listed.getD i false=true→∀ j∈D.getD i [],listed.getD j false=true)→Ck kc w0 w→(∀ i,listed.getD i false=true→k3_ sp D x i w)→(∀ i,listed.getD i false=true→w0.heap.size≤x.lo i∧x.lo i≤x.hi i∧x.hi i≤w.heap.size) →
   (∀ i j,listed.getD i false=true→listed.getD j false=true→i≠j→x.hi i≤x.lo j∨x.hi j≤x.lo i) →
   wpAny P .any ops Q fuel listed (actP ops a0 x.v (fun j=>listed.getD j false) ops.size) w:=by
 simp only[netB,l9_,decide_eq_true_eq]at hB;obtain⟨⟨hm,hns⟩,hnf⟩:=hB;have hok:∀ i o,ops[i]?=some o→NetOk ops D m i o:=fun i o ho=>t5_ (by
  have:=n5_ ops.toList 0 hnf i o (by simpa using ho);simpa using this)
 have hst':∀ i,(sp.getD i (.eq undef)).stableK kc:=fun i=>by
  rw[l1_];rcases h:sp[i]? with _ | s
  ·trivial
  ·exact hst s (l4_ h)
 intro fuel;induction fuel with
 | zero =>
  intro listed x w hc hls hlm hcl hb hkn hiv hdj;have hall:∀ j,j<ops.size→listed.getD j false=true:=fun j hj=>by
   rw[List.length_eq_zero_iff,List.filter_eq_nil_iff]at hc;have:=hc j (List.mem_range.2 hj);simpa using this
  have hms:m=ops.size:=by
   rcases Nat.lt_or_ge m ops.size with h | h
   ·have:=hall m h;rw[hlm m (l_ _)]at this;cases this
   ·omega
  refine q3_ hok 0 ops.size listed _ w (by omega) (by omega) hls (fun j=>?_) ?_
  ·by_cases hj:j<ops.size
   ·rw[hall j hj];simp[hj]
   ·rw[hlm j (by omega)];simp[hj]
  ·have:=hend x w hb (fun i hi=>hkn i (hall i (by omega))) (fun i hi=>hiv i (hall i (by omega))) (fun i j hi hj=>hdj i j (hall i (by omega)) (hall j (by omega)));rw[←f0_ (p:=fun j=>listed.getD j false) m (fun j hj=>hall j (by omega))]at this;rwa[hms]at this
 | succ fuel ih =>
  intro listed x w hc hls hlm hcl hb hkn hiv hdj;by_cases hfull:∀ j,j<m→listed.getD j false=true
  · -- the tail
   have hl:∀ j,listed.getD j false=decide (j<m):=fun j=>by
    by_cases hj:j<m
    ·rw[hfull j hj];simp[hj]
    ·rw[hlm j (by omega)];simp[hj]
   have hcnt:fuel+1+m=ops.size:=by
    rw[←hc];have e:(List.range ops.size).filter (fun j=>!listed.getD j false)=(List.range' m (ops.size-m)):=by
     have e1:(List.range ops.size)=List.range m ++ List.range' m (ops.size-m):=by
      have h:=List.range'_append_1 (s:=0) (m:=m) (n:=ops.size-m);rw[Nat.zero_add]at h;rw[List.range_eq_range',List.range_eq_range',h];congr 1
      omega
     rw[e1,List.filter_append];rw[List.filter_eq_nil_iff.2 (fun j hj=>by rw[hl];simp at hj⊢;exact hj),List.nil_append];rw[List.filter_eq_self.2 (fun j hj=>by rw[hl];simp[List.mem_range']at hj⊢;omega)]
    rw[e,List.length_range'];omega
   refine q3_ hok (fuel+1) m listed _ w (by omega) (l_ _) hls hl ?_;have:=hend x w hb (fun i hi=>hkn i (hfull i hi)) (fun i hi=>hiv i (hfull i hi)) (fun i j hi hj=>hdj i j (hfull i hi) (hfull j hj));rw[←f0_ (p:=fun j=>listed.getD j false) m hfull]at this;rwa[d8_ (p:=fun j=>listed.getD j false) ops.size m hm (fun j h1 _=>hlm j h1)]
  · -- one of the net
   have hne:Region.ready .any ops listed≠[]:=by
    intro h0;have:∀ n,∀ j,j<n→j<m→listed.getD j false=true:=by
     intro n;induction n with
     | zero=>intro j hj;omega
     | succ n ihn =>
      intro j hj hjm;by_cases e:j<n
      ·exact ihn j e hjm
      ·rcases hlj:listed.getD j false with _ | _
       ·exfalso
        have hjs:j<ops.size:=by omega
        have hje:=l8_ hjs;have:j∈Region.ready .any ops listed:=mem_ready.2 ⟨by
         rw[←hlj];simp[m2_,l8_ (show j<listed.size by omega)],_,hje,fun e he hb=>by
         have:=(hok j _ hje).direct e he hb;exact ihn e.on (by omega) (by omega)⟩
        rw[h0]at this;cases this
       ·rfl
    exact hfull fun j hj=>this (j+1) j (by omega) hj
   refine⟨fun h0=>absurd h0 hne,fun i hi=>?_⟩;obtain⟨h0,o,ho,hall⟩:=mem_ready.1 hi;have his:=(Array.getElem?_eq_some_iff.1 ho).1;have hO:=hok i o ho;have hDl:∀ j∈D.getD i [],listed.getD j false=true:=hO.danc (fun j=>listed.getD j false=true) hall (fun k hk j hj=>hcl k hk j hj);have him:i<m:=by
    rcases Nat.lt_or_ge i m with h | h
    ·exact h
    ·exact absurd (fun j hj=>hDl j (hO.tail h j (by omega))) hfull
   have hli:listed.getD i false=false:=by
    rw[←h0];simp[m2_,l8_ (show i<listed.size by omega)]
   have hpre:=hdo i o him ho x w hb (fun j hj=>⟨hkn j (hDl j hj),(hiv j (hDl j hj)).2.2⟩) (fun e b w'=>e = .normal∧∃ u,b=(c4_ ops a0 x.v i).put o.dst u∧(Ck kc w w'∧(sp.getD i (.eq undef)).holds i (D.getD i []) (x.set i u w.heap.size w'.heap.size) w'))
    (fun u w' h1 h2=>⟨rfl,u,rfl,h1,h2⟩)
   have hwant:∀ b:Act,Region.wanted o (yielded ops b.tmps)=true:=fun b=>by simp[Region.wanted,hO.guard]
   have hnl:¬ LetsOut (fun (e:Exit) (b:Act) (w':World)=>e = .normal∧∃ u,b=(c4_ ops a0 x.v i).put o.dst u∧(Ck kc w w'∧(sp.getD i (.eq undef)).holds i (D.getD i []) (x.set i u w.heap.size w'.heap.size) w')):=by
    rintro⟨b,w',h,_⟩;cases h
   simp only[wpList,hwant,if_true]at hpre;rcases hpre with hpre | hpre
   case inr=>exact absurd hpre.2 hnl
   simp only[true_and]at hpre;have hexec:execOp (actP ops a0 x.v (fun j=>listed.getD j false) ops.size).eval o=execOp (c4_ ops a0 x.v i).eval o:=by
    refine execOp_congr o (fun cs b=>Region.noSelect_spec hns i o cs b ho) fun y hx=>?_
    by_cases hxt:∃ t,y = .tmp t
    ·obtain⟨t,rfl⟩:=hxt;have hlook:t∈o.looksAt ops:=List.mem_append_left _ (List.mem_filterMap.2 ⟨.tmp t,by simpa using hx,rfl⟩);have e1:c4_ ops a0 x.v i=actP ops a0 x.v (fun j=>decide (j<i)) ops.size:=by
      rw[d8_ (p:=fun j=>decide (j<i)) ops.size i (by omega) (fun j h1 _=>by simp;omega)];exact (f0_ (p:=fun j=>decide (j<i)) i (fun j hj=>by simp[hj])).symm
     rw[e1];refine r5_ t ops.size fun j hj hd=>?_
     rcases hO.looks j t hd hlook with h | h
     ·rw[hDl j h];have:=hO.dlt j h;simp[this]
     ·have hlt:=(hok j _ (l8_ hj)).dlt i h;have:listed.getD j false=false:=by
       rcases hlj:listed.getD j false with _ | _
       ·rfl
       ·have:=hcl j hlj i h;rw[hli]at this;cases this
      rw[this];simp;omega
    ·exact r1_ y (fun t h=>hxt ⟨t,h⟩) _ _
   have hsz:(c4_ ops a0 x.v i).tmps.size=(actP ops a0 x.v (fun j=>listed.getD j false) ops.size).tmps.size:=by
    rw[g5_,←f0_ (p:=fun _=>true) i (fun _ _=>rfl),g5_]
   have hT:=o2_ (Q2:=Q) hexec hsz (fun c b w' h=>by cases h.1) hnl hpre;unfold wpOp;simp only[ho,hwant,if_true];refine .inl (Oper.wp_mono ?_ hT);rintro b w' ⟨u,rfl,hbw,hh⟩;have hdst:o.dst=j4_ ops i:=by simp[j4_,ho]
   have hlq:∀ j,(listed.setIfInBounds i true).getD j false=(listed.getD j false || j == i):=fun j=>by
    by_cases e:i=j
    ·subst e;simp[m2_,Array.getElem?_setIfInBounds,hls,his]
    ·rw[getD_set_ne _ e];simp[Ne.symm e]
   rw[hdst,u9_ (v':=(x.set i u w.heap.size w'.heap.size).v) (q:=fun j=>(listed.setIfInBounds i true).getD j false) (fun j hj _=>by simp[Gh.set,hj]) (by simp[Gh.set]) hli hlq (fun j d hij hlj hdj hdi=>by
    rcases hO.dsts j d (by omega) hdj hdi with h | h
    ·have:=hO.dlt j h;omega
    ·have:=hcl j hlj i h;rw[hli]at this;cases this) ops.size his]
   refine ih _ _ _ ?_ (by simpa using hls) (fun j hj=>by rw[hlq,hlm j hj];simp;omega) (fun k hk j hj=>?_) (hb.trans hbw) (fun k hk=>?_) (fun k hk=>?_) (fun k j hk hj hkj=>?_)
   · -- the count
    have hmem:i∈(List.range ops.size).filter fun j=>!listed.getD j false:=by
     rw[List.mem_filter];exact⟨List.mem_range.2 his,by rw[hli];rfl⟩
    have e:(List.range ops.size).filter (fun j=>!(listed.setIfInBounds i true).getD j false)=((List.range ops.size).filter fun j=>!listed.getD j false).filter (fun j=>j != i):=by
     rw[List.filter_filter];congr 1
     funext j
     rw[hlq];simp[Bool.not_or,Bool.and_comm,bne]
    have hnd:((List.range ops.size).filter fun j=>!listed.getD j false).Nodup:=List.nodup_range.filter _;rw[e];have:=List.length_erase_of_mem hmem;rw[hnd.erase_eq_filter,hc]at this;simpa using this
   ·rw[hlq]at hk⊢;simp only[Bool.or_eq_true,beq_iff_eq]at hk⊢;rcases hk with hk | rfl
    ·exact .inl (hcl k hk j hj)
    ·exact .inl (hDl j hj)
   ·rw[hlq]at hk;simp only[Bool.or_eq_true,beq_iff_eq]at hk;unfold k3_;by_cases e:k=i
    ·subst e;exact hh
    ·rcases hk with hk | hk
     ·refine NS.holds_congr (x:=x) (fun j hj=>?_) (NS.holds_stableK (hst' k) (hkn k hk) hbw);have hji:j≠i:=by
       rcases hj with rfl | hj
       ·exact e
       ·rintro rfl;have:=hcl k hk j hj;rw[hli]at this;cases this
      simp[Gh.set,hji]
     ·exact absurd hk e
   ·rw[hlq]at hk;simp only[Bool.or_eq_true,beq_iff_eq]at hk;by_cases e:k=i
    ·subst e;simp only[Gh.set,if_true];exact⟨hb.size,hbw.size,l_ _⟩
    ·have:=hiv k (hk.resolve_right e);have:=hbw.size;simp only[Gh.set,if_neg e];omega
   ·rw[hlq]at hk hj;simp only[Bool.or_eq_true,beq_iff_eq]at hk hj;by_cases e:k=i
    ·subst e;have:=hiv j (hj.resolve_right (Ne.symm hkj));simp only[Gh.set,if_true,if_neg (Ne.symm hkj)];exact .inr (by omega)
    ·by_cases e':j=i
     ·subst e';have:=hiv k (hk.resolve_right e);simp only[Gh.set,if_true,if_neg e];exact .inl (by omega)
     ·simp only[Gh.set,if_neg e,if_neg e'];exact hdj k j (hk.resolve_right e) (hj.resolve_right e') hkj
def D1_ (kc:Nat):List NS→Prop
 | []=>True
 | s :: l=>s.stableK kc∧D1_ kc l
theorem x0_ {kc:Nat}:∀ {l:List NS},D1_ kc l→∀ s∈l,s.stableK kc
 | [],_,s,hs=>by simp at hs
 | a :: l,h,s,hs=>by
  rcases List.mem_cons.1 hs with rfl | hs
  ·exact h.1
  ·exact x0_ h.2 s hs
def Y9_ (kc:Nat) (P:Program) (ops:Array Oper) (sp:List NS) (D:List (List Nat)) (a0:Act) (w0:World):Nat→List Oper→Prop
 | _,[]=>True
 | i,o :: l=>a1Q kc P ops sp D a0 w0 i o∧Y9_ kc P ops sp D a0 w0 (i+1) l
theorem F4_ {kc:Nat} {ops:Array Oper} {sp:List NS} {D:List (List Nat)} {a0:Act} {w0:World}:∀ (l:List Oper) (k:Nat),Y9_ kc P ops sp D a0 w0 k l→∀ j o,l[j]?=some o→a1Q kc P ops sp D a0 w0 (k+j) o
 | [],_,_,_,_,h=>by simp at h
 | x :: l,k,h,0,o,hj=>by
  simp at hj;subst hj;exact h.1
 | x :: l,k,h,j+1,o,hj=>by
  have:=F4_ l (k+1) h.2 j o (by simpa using hj);rwa[show k+1+j=k+(j+1) by omega]at this
theorem k4_ {kc:Nat} {i:Nat} {R:Value→Nat→Nat→World→Prop} (h:∀ u lo hi w w',R u lo hi w→Ck kc w w'→R u lo hi w'):(rel i R).stableK kc:=fun v w w' hr hb=>h _ _ _ _ _ hr hb
theorem o6_ (kc:Nat) {id:Nat} {l:List Oper} {w:World} (hmo:P.follows .mixedOrders=true) (sp:List NS) (D:List (List Nat)) (m:Nat) (hB:netB l.toArray D m=true) (hst:D1_ kc sp)
  (hdo:Y9_ kc P l.toArray sp D a0 w 0 (l.take m))
  (hend:∀ x w',Ck kc w w'→(∀ i,i<m→k3_ sp D x i w')→(∀ i,i<m→w.heap.size≤x.lo i∧x.lo i≤x.hi i∧x.hi i≤w'.heap.size)→(∀ i j,i<m→j<m→i≠j→x.hi i≤x.lo j∨x.hi j≤x.lo i)→wpList P l.toArray Q (l.drop m) (c4_ l.toArray a0 x.v m) w'):(Code.region id l.toArray true).wp P Q a0 w:=by
 replace hst:=x0_ hst;have hdo:∀ i o,i<m→l[i]?=some o→a1Q kc P l.toArray sp D a0 w.drew i o:=fun i o hi ho=>by
  have:=F4_ (l.take m) 0 hdo i o (by rw[List.getElem?_take,if_pos hi];exact ho);rw[Nat.zero_add]at this;exact fun v w1 hb=>this v w1 ⟨hb.os,hb.tape,hb.output,hb.size,hb.block,hb.keep⟩
 refine wp_region_any hmo ?_;have h:=c6x (w0:=w.drew) (a0:=a0) (Q:=Q) (P:=P) (sp:=sp) hB hst (fun i o hi ho=>hdo i o hi (by simpa using ho)) (fun x w' hb hk hiv hdj=>by simpa using hend x w' (show Ck kc w w' from ⟨hb.os,hb.tape,hb.output,hb.size,hb.block,hb.keep⟩) hk hiv hdj)
  l.toArray.size (Array.replicate l.toArray.size false) ⟨fun _=>undef,fun _=>0,fun _=>0⟩ w.drew
  (by rw[List.filter_eq_self.2 (fun j _=>by rw[b3_];rfl),List.length_range])
  (by simp) (fun j _=>b3_ _ _)
  (fun i hi=>by rw[b3_]at hi;cases hi)
  (Ck.refl _ _)
  (fun i hi=>by rw[b3_]at hi;cases hi)
  (fun i hi=>by rw[b3_]at hi;cases hi)
  (fun i j hi=>by rw[b3_]at hi;cases hi)
 have e:actP l.toArray a0 (fun _=>undef) (fun j=>(Array.replicate l.toArray.size false).getD j false) l.toArray.size=a0 :=
  d8_ l.toArray.size 0 (by omega) (fun j _ _=>b3_ _ _)
 rw[e]at h;exact h
end
end
theorem X6_ (w0:World) :
  Calls Tryz.prog 134 #[] w0 fun e w'=>∃ g cs,e = .returned (.slice (some ⟨g,0,none⟩) 12 12)∧w0.heap.size≤g∧Blk w' g 9 cs∧(∀ i,i<12→∃ s:ByteArray,cs[i]?=some (.string s))∧Below w0.heap.size w0 w':=by
 go_enter Tryz.func134,Tryz.ntmps134
 go_wp2;go_ret
 refine⟨_,_,rfl,l_ _,Blk.new _ _ _,fun i hi=>?_,a2_ _ _⟩
 match i,hi with
 | 0,_=>exact⟨_,rfl⟩
 | 1,_=>exact⟨_,rfl⟩
 | 2,_=>exact⟨_,rfl⟩
 | 3,_=>exact⟨_,rfl⟩
 | 4,_=>exact⟨_,rfl⟩
 | 5,_=>exact⟨_,rfl⟩
 | 6,_=>exact⟨_,rfl⟩
 | 7,_=>exact⟨_,rfl⟩
 | 8,_=>exact⟨_,rfl⟩
 | 9,_=>exact⟨_,rfl⟩
 | 10,_=>exact⟨_,rfl⟩
 | 11,_=>exact⟨_,rfl⟩
 | i+12,h=>omega
theorem P9_ (c:Nat) (w0:World) (hc:Cur w0 c) :
  Calls Tryz.prog 110 #[.pointer (some ⟨c,0,none⟩)] w0 fun e w'=>∃ v q,e = .returned v∧d5_ w' w0.heap.size w'.heap.size v q∧q.f.length≤61∧q.t.length≤61∧Ck c w0 w':=by
 have hcl:=hc.lt;obtain⟨W,hW⟩:∃ W,W=w0.alloc (.cells #[.int .i64 0,.slice none 0 0,.slice none 0 0] 26):=⟨_,rfl⟩;have g0:Ck c w0 W:=by rw[hW];exact Ck.of_below (a2_ _ _)
 have kR:Blk W w0.heap.size 26 #[.int .i64 0,.slice none 0 0,.slice none 0 0]:=by rw[hW];exact Blk.new _ _ _
 have sW:W.heap.size=w0.heap.size+1:=by rw[hW];simp
 have hcw:w0.heap.size≠c:=by omega
 have KR:=h_ kR;have G0:=h_ g0;have HC:=h_ hc;clear kR hc;go_enter Tryz.func110,Tryz.ntmps110
 go_wp2_with fail
 rw[←hW];clear hW;refine (O5_ c 2 _ (g0.keep HC.out) ⟨by omega,by omega⟩).mono ?_;rintro e w1 ⟨b,rfl,hb1⟩;have hC1:=h_ ((g0.trans hb1).keep HC.out);have s1:=hb1.size;have HB1:=h_ hb1;clear hb1 g0;rcases b with _ | _
 · -- by arrows
  go_wp2_with fail
  refine (g3_ c 4 _ hC1.out ⟨by omega,by omega⟩).mono ?_;rintro e w2 ⟨r,hr,_,rfl,hb2⟩;have hr4:r<4:=by omega
  have hC2:=h_ (hb2.keep hC1.out);have HB2:=h_ (HB1.out.trans hb2);have s2:=hb2.size;obtain⟨V,hV⟩:∃ V:Nat,V=1+r:=⟨_,rfl⟩;obtain⟨W3,hW3⟩:=e_ (((w2.alloc (.cells #[] 3)).alloc (.cells #[] 3)).alloc (.cells #[.int .i64 (1+(r:Int)),.slice (some ⟨w2.heap.size,0,none⟩) 0 0,.slice (some ⟨w2.heap.size+1,0,none⟩) 0 0] 26));have gb:Below w2.heap.size w2 W3:=by rw[←hW3];exact (((Below.refl _ _).alloc (l_ _) _).alloc (by simp) _).alloc (by simp;omega) _
  have hG:GQ W3 w2.heap.size (w2.heap.size+1+1) (1+(r:Int)) (some ⟨w2.heap.size,0,none⟩) 0 (some ⟨w2.heap.size+1,0,none⟩) 0 [] []:=by
   rw[←hW3];refine⟨?_,?_,⟨by omega,by omega⟩,by simp;omega⟩
   ·have:=Blk.new ((w2.alloc (.cells #[] 3)).alloc (.cells #[] 3)) 26 #[.int .i64 (1+(r:Int)),.slice (some ⟨w2.heap.size,0,none⟩) 0 0,.slice (some ⟨w2.heap.size+1,0,none⟩) 0 0];simp only[l3_]at this;exact this
   ·have h:=U9_ w2 (lo:=w2.heap.size) (l_ _);exact (h.below (a2_ _ _)).mono (l_ _) (by simp)
  have hC3:=h_ ((Ck.of_below (c:=c) gb).keep hC2.out);have HB3:=h_ (HB2.out.trans (Ck.of_below gb));have HG3:=h_ hG;clear hb2 gb hG;go_wp2_with fail
  refine (g3_ c 5 _ hC3.out ⟨by omega,by omega⟩).mono ?_;rintro e w4 ⟨m,hm,_,rfl,hb4⟩;clear hW3;have hm4:m≤4:=by omega
  have hcl2:c<w2.heap.size:=by have:=HB2.out.size;omega
  have hgc:w2.heap.size+1+1≠c:=by omega
  have hC4:=hb4.keep hC3.out;have hG4:=HG3.out.ck hb4 hcl2 hgc;have hB4:=HB3.out.trans hb4;clear hb4;go_wp2;go_loopw [6] (fun nv wr=>∃ (k cA d:Nat) (A C:Option Addr) (F T:List Int),k≤4∧nv = .int .i64 k∧F.length+k≤4∧T.length+k≤4∧Cur wr c∧Ck c W wr∧GQ wr w2.heap.size (w2.heap.size+1+1) (1+(r:Int)) A cA C d F T) (fun nv _=>(intOf nv).toNat)
  case atStart=>exact⟨m,0,0,_,_,[],[],hm4,rfl,by simpa using hm4,by simpa using hm4,hC4,hB4,hG4⟩
  case round =>
   clear hC4 hB4 hG4 hm;obtain⟨k,cA,d,A,C,F,T,hk,rfl,hF,hT,hC,hB,hG⟩:=hrel;have q0:=hG.1.cell' (i:=0) rfl;by_cases hgo:0<k∧0<r
   ·obtain⟨hk0,hr0⟩:=hgo;have HC:=h_ hC;have HB:=h_ hB;have HG:=h_ hG;clear hC hB hG;go_wp2_with fail
    refine (g3_ c _ _ HC.out ⟨by omega,by omega⟩).mono ?_;rintro e w5 ⟨a,ha,_,rfl,hb5⟩;have ha4:a≤4:=by omega
    have HC5:=h_ (hb5.keep HC.out);have HB5:=h_ (HB.out.trans hb5);have hG5:=HG.out.ck hb5 hcl2 hgc;have gX:=a2_ w5 (.cells #[.int .i64 (a:Int)] 3);have kX:=Blk.new w5 3 #[.int .i64 (a:Int)];have hGX:=hG5.below gX;have HGX:=h_ hGX;have hfa:OwnI (w5.alloc (.cells #[.int .i64 (a:Int)] 3)) w2.heap.size (.slice A F.length cA) F:=(hGX.2.1.1 (_,F) (by simp)).1;have HFA:=h_ hfa;have HKX:=h_ kX;have q1:=hG5.1.cell' (i:=1) rfl;have HBX:=h_ (HB5.out.trans (Ck.of_below gX));have HCX:=h_ ((Ck.of_below (c:=c) gX).keep HC5.out);clear q0 hb5 hG5 gX kX hGX hfa
    (go_wp2_with (at_builtin;refine Hold.stop ?_));unfold Hold
    refine c3_ (by rfl) (.tmp 43) (.tmp 45) (by rfl) w2.heap.size (w5.alloc (.cells #[.int .i64 (a:Int)] 3)).heap.size _ F (by rfl) HFA.out (some ⟨w5.heap.size,0,none⟩) 1 1 [(a:Int)] (by rfl) rfl (Q3_ HKX.out ⟨by omega,by omega⟩) (by simp;omega) HGX.out.2.2.2 ?_;intro v3 w3 ho3 hg3 hv3;obtain⟨A3,c3,rfl,_⟩:=ho3.form;obtain⟨nA3,hnA3⟩:=e_ ((F ++ [(a:Int)]).length);rw[hnA3]at ho3 hv3⊢;obtain⟨hB3,hG3,hb3⟩:=HGX.out.setF ho3 hnA3.symm hg3 hv3;have z1:=hB3.cell' (i:=1) rfl;have fz:=hB3.frozen;obtain⟨W3',hW3⟩:=e_ (w3.setCell ⟨w2.heap.size+1+1,1,none⟩ (.slice A3 nA3 c3));rw[hW3]at hG3;have hch:Chg (w2.heap.size+1+1) (w2.heap.size+1+1+1) w3 W3':=by rw[←hW3];exact b4_ (l_ _) (m0_ _)
    have hbw3:=hb3.size;have hlow:Below w2.heap.size (w5.alloc (.cells #[.int .i64 (a:Int)] 3)) W3':=hb3.trans (hch.below (by omega) (by have:=HGX.out.2.2.2;omega));have HB6:=h_ (HBX.out.low hlow (by have:=HB2.out.size;omega) hcl2);have HC6:=h_ (HCX.out.below hlow hcl2);have HG6:=h_ hG3;have hF1:(F ++ [(a:Int)]).length+(k-1)≤4:=by simp;omega
    have HF1:=h_ hF1;have GB6:=h_ hG3.1;clear hnA3 hB3 hG3 hb3 ho3 hg3 hv3 hch hlow q1 HGX HFA HKX HBX HCX hF1 hF;go_wp2;clear hW3 z1 fz;refine o6_ (c) (by kernel_rfl) [.eq (.pointer (some ⟨w2.heap.size+1+1,2,none⟩)),.eq (.slice C T.length d),.eq (.int .i64 a),.eq (.int .i64 ((a:Int)+1)),.eq (.pointer (some ⟨c,0,none⟩)),.eq (.pointer (some ⟨w2.heap.size+1+1,0,none⟩)),.eq (.int .i64 (1+(r:Int))),.eq (.int .i64 (1+(r:Int)-1)),.eq (.int .i64 a),.eq (.int .i64 (1+(r:Int)-1-a)),rel 10 (fun u lo hi w=>∃ i:Nat,u = .int .i64 i∧i≤10),rel 11 (fun u lo hi w=>∃ i:Nat,u = .int .i64 i∧i≤20),rel 12 (fun u lo hi w=>∃ (g i:Nat),u = .slice (some ⟨g,0,none⟩) 1 1∧Blk w g 3 #[.int .i64 i]∧i≤20∧c<g)] [[],[0],[],[2],[],[],[5],[5,6],[],[5,6,7,8],[4,5,6,7,8,9],[2,3,4,5,6,7,8,9,10],[2,3,4,5,6,7,8,9,10,11],[0,1,2,3,4,5,6,7,8,9,10,11,12],[0,1,2,3,4,5,6,7,8,9,10,11,12,13],[0,1,2,3,4,5,6,7,8,9,10,11,12,13,14]] 13 (by kernel_rfl) ⟨trivial,trivial,trivial,trivial,trivial,trivial,trivial,trivial,trivial,trivial,k4_ (fun u lo hi w w' h hb=>h),k4_ (fun u lo hi w w' h hb=>h),k4_ (fun u lo hi w w' ⟨g,i,e,h,h2,h3⟩ hb=>⟨g,i,e,h.ck hb (by omega),h2,h3⟩),trivial⟩ ⟨?_,?_,?_,?_,?_,?_,?_,?_,?_,?_,?_,?_,?_,trivial⟩ ?_;iterate 13 (intro x w hb hk Q' hQ;have he:=k_e hk;simp only[k_s]at he;simp only[netE]at hQ⊢;(try simp only[he]at hQ⊢);(try clear he);rotate_left)
    rotate_left
    ·clear hk;go_wp2;exact hQ _ _ (Ck.refl _ _) rfl
    ·clear hk;have z:=(GB6.out.ck hb hgc).cell' (i:=2) rfl;go_wp2;exact hQ (.slice C T.length d) _ (Ck.refl _ _) rfl
    iterate 4 (· clear hk;go_wp2;exact hQ _ _ (Ck.refl _ _) rfl)
    ·clear hk;have z:=(GB6.out.ck hb hgc).cell' (i:=0) rfl;go_wp2;exact hQ (.int .i64 (1+(r:Int))) _ (Ck.refl _ _) rfl
    iterate 3 (· clear hk;go_wp2;exact hQ _ _ (Ck.refl _ _) rfl)
    ·clear hk;go_wp2_with fail
     refine (g3_ c _ _ (hb.keep HC6.out) ⟨by omega,by omega⟩).mono ?_;rintro e w7 ⟨i,hi,_,rfl,hb7⟩;go_wp2;exact hQ _ _ hb7 ⟨i,rfl,by omega⟩
    ·have h10:∃ i:Nat,(x.v 10) = .int .i64 i∧i≤10:=(hk 10 (by decide)).1;have s10:=(hk 10 (by decide)).2;clear hk;obtain⟨i,e,hi⟩:=h10;have hQ':=hQ (.int .i64 ((a:Int)+1+i)) w (Ck.refl _ _) ⟨a+1+i,by push_cast;rfl,by omega⟩;rw[e]at hQ'⊢;go_wp2;exact hQ'
    ·have h10:∃ i:Nat,(x.v 10) = .int .i64 i∧i≤10:=(hk 10 (by decide)).1;have h11:∃ i:Nat,(x.v 11) = .int .i64 i∧i≤20:=(hk 11 (by decide)).1;have s10:=(hk 10 (by decide)).2;have s11:=(hk 11 (by decide)).2;clear hk;obtain⟨i,e,hi⟩:=h11;have hcw:c<w.heap.size:=(hb.keep HC6.out).lt;rw[e]at hQ⊢;go_wp2;exact hQ _ _ (Ck.of_below (a2_ _ _)) ⟨_,_,rfl,Blk.new _ _ _,hi,hcw⟩
    ·intro x w hb hk hiv hdj;have h10:∃ i:Nat,(x.v 10) = .int .i64 i∧i≤10:=hk 10 (by decide);have h11:∃ i:Nat,(x.v 11) = .int .i64 i∧i≤20:=hk 11 (by decide);have h12:∃ (g i:Nat),(x.v 12) = .slice (some ⟨g,0,none⟩) 1 1∧Blk w g 3 #[.int .i64 i]∧i≤20∧c<g:=hk 12 (by decide);have he:=k_g hk [0,1,2,3,4,5,6,7,8,9];simp only[k_s]at he;simp only[netE,he];clear he hk;obtain⟨gn,i,e12,hN,hi,_⟩:=h12;rw[e12];have hGw:=HG6.out.ck hb hcl2 hgc;have hfa:OwnI w w2.heap.size (.slice C T.length d) T:=(hGw.2.1.1 (_,T) (by simp)).1;refine c3_ (by rfl) (.tmp 49) (.tmp 60) (by rfl) w2.heap.size w.heap.size _ T (by rfl) hfa (some ⟨gn,0,none⟩) 1 1 [(i:Int)] (by rfl) rfl (Q3_ hN ⟨by omega,by omega⟩) (by simp;omega) hGw.2.2.2 ?_;intro v3 w3 ho3 hg3 hv3;obtain⟨A4,c4,rfl,_⟩:=ho3.form;obtain⟨nA4,hnA4⟩:=e_ ((T ++ [(i:Int)]).length);rw[hnA4]at ho3 hv3⊢;obtain⟨hB3,hG3,hb3⟩:=hGw.setT ho3 hnA4.symm hg3 hv3;have z1:=hB3.cell' (i:=2) rfl;have fz:=hB3.frozen;obtain⟨W4,hW4⟩:=e_ (w3.setCell ⟨w2.heap.size+1+1,2,none⟩ (.slice A4 nA4 c4));rw[hW4]at hG3;have hch:Chg (w2.heap.size+1+1) (w2.heap.size+1+1+1) w3 W4:=by rw[←hW4];exact b4_ (l_ _) (m0_ _)
     have hbw3:=hb3.size;have hlow:Below w2.heap.size w W4:=hb3.trans (hch.below (by omega) (by have:=hGw.2.2.2;omega));have HB7:=h_ ((HB6.out.trans hb).low hlow (by have:=HB2.out.size;omega) hcl2);have HC7:=h_ ((hb.keep HC6.out).below hlow hcl2);have HG7:=h_ hG3;have hT1:(T ++ [(i:Int)]).length+(k-1)≤4:=by simp;omega
     have HT1:=h_ hT1;clear hnA4 hB3 hG3 hb3 ho3 hg3 hv3 hch hlow hfa hGw hN e12 hiv hdj hT1 hT;go_wp2;clear hW4 z1 fz;go_roundw
     case rel=>exact⟨k-1,c3,c4,A3,A4,_,_,by omega,by rw[show ((k-1:Nat):Int)=(k:Int)-1 by omega],HF1.out,HT1.out,HC7.out,HB7.out,HG7.out⟩
     case measure=>simp[intOf];omega
   ·have q1:=hG.1.cell' (i:=1) rfl;have q2:=hG.1.cell' (i:=2) rfl;have hne:w0.heap.size<w2.heap.size+1+1:=by have:=HB2.out.size;omega
    have hbz:=hB.size;have hlw:=hG.2.2.2;have hQq:d5_ wr w2.heap.size wr.heap.size (.agg #[.int .i64 (1+(r:Int)),.slice A F.length cA,.slice C T.length d]) ⟨1+(r:Int),F,T⟩:=hG.quiv;have hs2:=HB2.out.size;have k2:=KR.out.ck hB hcw;have fr:=k2.frozen;obtain⟨r0,r1,r2⟩:=c_3 k2;have hc3:=((b4_ (lo:=w0.heap.size) (hi:=w0.heap.size+1) (w:=wr) (p:=⟨w0.heap.size,0,none⟩) (u:=.int .i64 (1+(r:Int))) (l_ _) (m0_ _)).trans (b4_ (p:=⟨w0.heap.size,1,none⟩) (u:=.slice A F.length cA) (l_ _) (m0_ _))).trans (b4_ (p:=⟨w0.heap.size,2,none⟩) (u:=.slice C T.length d) (l_ _) (m0_ _));have OF:=h_ (((hQq).chg hc3 (.inr (by omega))).wid (lo':=w0.heap.size) (hi':=wr.heap.size) (by omega) (l_ _));have GS:=h_ ((G0.out.trans hB).low (lo:=w0.heap.size) (hc3.below (l_ _) (by omega)) (l_ _) hcl);have HL:=h_ (show F.length≤61∧T.length≤61 by omega);clear hc3 k2 hQq hG hB hC hF hT;by_cases hk0:0<k
    ·have hr0:¬ 0<r:=fun h=>hgo ⟨hk0,h⟩
     clear hgo;go_wp2;exact bodyPost_ret (v:=.agg #[.int .i64 (1+(r:Int)),.slice A F.length cA,.slice C T.length d]) (by simp[results,go_sem,r0,r1,r2]) rfl ⟨_,⟨1+(r:Int),F,T⟩,rfl,by simpa using OF.out,HL.out.1,HL.out.2,GS.out⟩
    ·clear hgo;go_wp2;exact bodyPost_ret (v:=.agg #[.int .i64 (1+(r:Int)),.slice A F.length cA,.slice C T.length d]) (by simp[results,go_sem,r0,r1,r2]) rfl ⟨_,⟨1+(r:Int),F,T⟩,rfl,by simpa using OF.out,HL.out.1,HL.out.2,GS.out⟩
 · -- by name
  go_wp2_with fail
  refine (X6_ _).mono ?_;rintro e w2 ⟨g,cs,rfl,hg,kN,hcs,hb2⟩;have hC2:=h_ ((Ck.of_below (c:=c) hb2).keep hC1.out);have HB2:=h_ (HB1.out.trans (Ck.of_below hb2));have KN:=h_ kN;have hgc:g≠c:=by omega
  clear hb2 kN;go_wp2_with fail
  refine (g3_ c 10 _ hC2.out ⟨by omega,by omega⟩).mono ?_;rintro e w3 ⟨r,hr,_,rfl,hb3⟩;have hr10:r<12:=by omega
  obtain⟨s,hs⟩:=hcs r hr10;have n0:=(KN.out.ck hb3 hgc).cell' hs;have hC3:=h_ (hb3.keep hC2.out);have HB3:=h_ (HB2.out.trans hb3);clear hb3 hcs hs;go_wp2_with fail
  refine (J7_ s _).mono ?_;rintro e w4 ⟨v,b,q,rfl,hQ4,hf4,ht4,hb4⟩;obtain⟨A,cA,C,d,rfl⟩:=hQ4.form;obtain⟨W5,hW5,ga,kq⟩:=b_1 w4 #[.int .i64 q.v,.slice A q.f.length cA,.slice C q.t.length d] 26;have hb5:=HB3.out.trans ((Ck.of_below hb4).trans (Ck.of_below ga));have hQ5:=hQ4.below ga;obtain⟨q0,q1,q2⟩:=c_3 kq;have hs3:=HB3.out.size;have hs4:=hb4.size;have hne:w0.heap.size<w4.heap.size:=by omega
  have hsa:=ga.size;have k2:=KR.out.ck hb5 hcw;have fr:=k2.frozen;obtain⟨r0,r1,r2⟩:=c_3 k2;have hc3:=((b4_ (lo:=w0.heap.size) (hi:=w0.heap.size+1) (w:=W5) (p:=⟨w0.heap.size,0,none⟩) (u:=.int .i64 q.v) (l_ _) (m0_ _)).trans (b4_ (p:=⟨w0.heap.size,1,none⟩) (u:=.slice A q.f.length cA) (l_ _) (m0_ _))).trans (b4_ (p:=⟨w0.heap.size,2,none⟩) (u:=.slice C q.t.length d) (l_ _) (m0_ _));have hsz:=(hb5).size;have OF:=h_ ((hQ5).chg hc3 (.inr (by omega)));have GS:=h_ ((G0.out.trans hb5).low (lo:=w0.heap.size) (hc3.below (l_ _) (by omega)) (l_ _) hcl);have HL:=h_ (And.intro hf4 ht4);clear hc3 hf4 ht4 k2 kq ga hb4 hQ4 hQ5 hb5 n0;go_wp2;clear hW5;exact bodyPost_ret (v:=.agg #[.int .i64 q.v,.slice A q.f.length cA,.slice C q.t.length d]) (by simp[results,go_sem,r0,r1,r2]) rfl ⟨_,q,rfl,by have:=OF.out.wid (lo':=w0.heap.size) (hi':=W5.heap.size) (by omega) (by omega);simpa using this,HL.out.1,HL.out.2,GS.out⟩
structure Filt where
 stages:Int
 birth:List Int
 ends:List (List Int)
deriving DecidableEq
def Filt.size (f:Filt):Nat:=f.birth.length+szSS f.ends
def FiR (w:World) (B:Nat) (val:Value) (f:Filt):Prop:=∃ a b,val = .agg #[.int .i64 f.stages,a,b]∧SlI w B a f.birth∧SlII w B b f.ends∧I64 f.stages
theorem FiR.next {w w':World} {v:Value} {q:Filt} (hb:Below w.heap.size w w') (h:FiR w w.heap.size v q):FiR w' w'.heap.size v q:=by
 obtain⟨a,b,e,h1,h2,h3⟩:=h;exact⟨a,b,e,SlI.next hb h1,SlII.next hb h2,h3⟩
theorem FiR.below {w w':World} {B:Nat} {v:Value} {q:Filt} (hb:Below B w w') (h:FiR w B v q):FiR w' B v q:=by
 obtain⟨a,b,e,h1,h2,h3⟩:=h;exact⟨a,b,e,SlI.below hb h1,SlII.below hb h2,h3⟩
theorem FiR.more {w:World} {B B':Nat} {v:Value} {q:Filt} (hB:B≤B') (h:FiR w B v q):FiR w B' v q:=by
 obtain⟨a,b,e,h1,h2,h3⟩:=h;exact⟨a,b,e,SlI.more hB h1,SlII.more hB h2,h3⟩
theorem FiR.chg {w w':World} {B lo hi:Nat} {v:Value} {q:Filt} (h:FiR w B v q) (hc:Chg lo hi w w') (hB:B≤lo) (hs:B≤w.heap.size):FiR w' B v q:=FiR.below (hc.below hB hs) h
theorem FiR.open_ {w:World} {B:Nat} {v:Value} {q:Filt} (h:FiR w B v q):∃ A c C d,v = .agg #[.int .i64 q.stages,.slice A q.birth.length c,.slice C q.ends.length d]∧SlI w B (.slice A q.birth.length c) q.birth∧SlII w B (.slice C q.ends.length d) q.ends∧I64 q.stages∧q.birth.length≤17592186044416∧q.ends.length≤17592186044416:=by
 obtain⟨a,b,rfl,h1,h2,h3⟩:=h;obtain⟨A,c,rfl,_,_,h4,h1⟩:=h1.open_;obtain⟨C,d,rfl,_,_,h5,h2⟩:=h2.open_;exact⟨A,c,C,d,rfl,h1,h2,h3,h4,h5⟩
theorem FiR.form {w:World} {B:Nat} {v:Value} {q:Filt} (h:FiR w B v q):∃ A c C d,v = .agg #[.int .i64 q.stages,.slice A q.birth.length c,.slice C q.ends.length d]:=by
 obtain⟨A,c,C,d,e,_⟩:=h.open_;exact⟨A,c,C,d,e⟩
theorem FiR.lens {w:World} {B:Nat} {v:Value} {q:Filt} (h:FiR w B v q):q.birth.length≤17592186044416∧q.ends.length≤17592186044416:=by
 obtain⟨A,c,C,d,e,_,_,_,h1,h2⟩:=h.open_;exact⟨h1,h2⟩
def FiO (w:World) (lo hi:Nat) (val:Value) (f:Filt):Prop:=∃ a b vs,val = .agg #[.int .i64 f.stages,a,b]∧OutO w lo hi b vs∧vs.length=f.ends.length∧Fam w lo hi ([(a,f.birth)] ++ vs.zip f.ends)∧I64 f.stages
theorem FiO.rd {w:World} {lo hi:Nat} {v:Value} {q:Filt} (h:FiO w lo hi v q):FiR w w.heap.size v q:=by
 obtain⟨a,b,vs,e,h1,h2,h3,h4⟩:=h;exact⟨a,b,e,(h3.1 (a,q.birth) (by simp)).rd,h1.rd h2 fun p hp=>(h3.1 p (by simp[hp])).rd,h4⟩
theorem FiO.form {w:World} {lo hi:Nat} {v:Value} {q:Filt} (h:FiO w lo hi v q):∃ A c C d,v = .agg #[.int .i64 q.stages,.slice A q.birth.length c,.slice C q.ends.length d]:=h.rd.form
theorem FiO.chg {w w':World} {lo hi lo' hi':Nat} {v:Value} {q:Filt} (h:FiO w lo hi v q) (hc:Chg lo' hi' w w') (hd:hi≤lo'∨hi'≤lo):FiO w' lo hi v q:=by
 obtain⟨a,b,vs,e,h1,h2,h3,h4⟩:=h;exact⟨a,b,vs,e,h1.chg hc hd,h2,h3.chg hc hd,h4⟩
theorem FiO.below {w w':World} {lo hi:Nat} {v:Value} {q:Filt} (h:FiO w lo hi v q) (hb:Below w.heap.size w w'):FiO w' lo hi v q:=by
 obtain⟨a,b,vs,e,h1,h2,h3,h4⟩:=h;exact⟨a,b,vs,e,h1.below hb,h2,h3.below hb,h4⟩
def FiO.mk (k:Int) (q:Filt):Filt:=⟨q.stages,mkI k q.birth.length,mkSS (k+q.birth.length) q.ends⟩
def f2_ (p:Int):Bool:=decide (p=2∨p=3∨p=5)
theorem X4_ {p:Int}:f2_ p=true↔p=2∨p=3∨p=5:=by simp[f2_]
theorem a9Q {p:Int}:f2_ p=false↔p≠2∧p≠3∧p≠5:=by simp[f2_]
theorem f4_ {p:Int} (h:f2_ p=true):2≤p∧p≤5:=by have:=X4_.1 h;omega
def M1_ (p:Int) (v:List Int):Bool:=f2_ p && decide (v.length≤64) && allR v 0 (p-1)
theorem b9q {p:Int} {v:List Int}:M1_ p v=true↔f2_ p=true∧v.length≤64∧∀ x∈v,0≤x∧x≤p-1:=by
 simp only[M1_,l9_,decide_eq_true_eq,T3_,and_assoc]
def M8_ (p:Int) (m:Mx):Bool:=inR m.r 0 8 && inR m.c 0 8 && decide ((m.a.length:Int)=m.r*m.c) && M1_ p m.a
theorem b8q {p:Int} {m:Mx}:M8_ p m=true↔(0≤m.r∧m.r≤8)∧(0≤m.c∧m.c≤8)∧(m.a.length:Int)=m.r*m.c∧M1_ p m.a=true:=by
 simp only[M8_,l9_,t0_,decide_eq_true_eq,and_assoc]
def d4_ (q:Qv) (d:List Int):Bool:=isQ q && decide ((d.length:Int)=q.v) && allR d 0 4 && decide (d.sum≤8)
theorem b7_ {q:Qv} {d:List Int}:d4_ q d=true↔isQ q=true∧(d.length:Int)=q.v∧(∀ x∈d,0≤x∧x≤4)∧d.sum≤8:=by
 simp only[d4_,l9_,decide_eq_true_eq,T3_,and_assoc]
theorem d1X {a b:Int} (ha:0≤a∧a≤8) (hb:0≤b∧b≤8):0≤a*b∧a*b≤64:=by
 obtain⟨n,rfl⟩:=Int.eq_ofNat_of_zero_le ha.1;obtain⟨m,rfl⟩:=Int.eq_ofNat_of_zero_le hb.1;have h1:n*m≤8*8:=Nat.mul_le_mul (by omega) (by omega);have e:(n:Int)*m=((n*m:Nat):Int):=by simp
 rw[e];omega
theorem d6_ (p:Int) (w:World):Calls Tryz.prog 101 #[.int .i64 p] w fun e w'=>e = .returned (.bool (f2_ p))∧w'=w:=by
 by_cases h2:p=2
 ·subst h2;go_enter Tryz.func101,Tryz.ntmps101
  go_wp2;go_ret
  exact⟨rfl,rfl⟩
 by_cases h3:p=3
 ·subst h3;go_enter Tryz.func101,Tryz.ntmps101
  go_wp2;go_ret
  exact⟨rfl,rfl⟩
 by_cases h5:p=5
 ·subst h5;go_enter Tryz.func101,Tryz.ntmps101
  go_wp2;go_ret
  exact⟨rfl,rfl⟩
 have e:f2_ p=false:=a9Q.2 ⟨h2,h3,h5⟩;have e2:(p == 2)=false:=by rw[beq_eq_false_iff_ne];exact h2
 have e3:(p == 3)=false:=by rw[beq_eq_false_iff_ne];exact h3
 have e5:(p == 5)=false:=by rw[beq_eq_false_iff_ne];exact h5
 rw[e];clear e h2 h3 h5;go_enter Tryz.func101,Tryz.ntmps101
 go_wp2;go_ret
 exact⟨rfl,rfl⟩
theorem f7_ (p:Int) (w:World):Calls Tryz.prog 106 #[.int .i64 p] w fun e w'=>e = .returned (.bool (f2_ p))∧w'=w:=by
 by_cases h2:p=2
 ·subst h2;go_enter Tryz.func106,Tryz.ntmps106
  go_wp2;go_ret
  exact⟨rfl,rfl⟩
 by_cases h3:p=3
 ·subst h3;go_enter Tryz.func106,Tryz.ntmps106
  go_wp2;go_ret
  exact⟨rfl,rfl⟩
 by_cases h5:p=5
 ·subst h5;go_enter Tryz.func106,Tryz.ntmps106
  go_wp2;go_ret
  exact⟨rfl,rfl⟩
 have e:f2_ p=false:=a9Q.2 ⟨h2,h3,h5⟩;have e2:(p == 2)=false:=by rw[beq_eq_false_iff_ne];exact h2
 have e3:(p == 3)=false:=by rw[beq_eq_false_iff_ne];exact h3
 have e5:(p == 5)=false:=by rw[beq_eq_false_iff_ne];exact h5
 rw[e];clear e h2 h3 h5;go_enter Tryz.func106,Tryz.ntmps106
 go_wp2;go_ret
 exact⟨rfl,rfl⟩
theorem G7_ (p:Int) (u:Value) (v:List Int) (w:World) (hu:SlI w w.heap.size u v) :
  Calls Tryz.prog 129 #[.int .i64 p,u] w fun e w'=>e = .returned (.bool (M1_ p v))∧Below w.heap.size w w':=by
 have hv:=hu;obtain⟨A,c,rfl,_,_,_,_⟩:=hu.open_;clear hu;unfold M1_;rcases h1:f2_ p with _ | _
 ·go_enter Tryz.func129,Tryz.ntmps129
  go_wp2_with fail
  refine (d6_ _ _).mono ?_;rintro e w' ⟨rfl,rfl⟩;rw[h1];go_wp2;go_ret
  exact⟨rfl,Below.refl _ _⟩
 have hp:=f4_ h1;by_cases h2:v.length≤64
 ·have e2:decide (v.length≤64)=true:=by simpa using h2
  rw[e2];clear e2;obtain⟨B,hB⟩:=e_ (allR v 0 (p-1));rw[hB];have HB:=h_ hB;clear hB;go_enter Tryz.func129,Tryz.ntmps129
  go_wp2_with fail
  refine (d6_ _ _).mono ?_;rintro e w' ⟨rfl,rfl⟩;rw[h1];go_wp2_with fail
  refine (k7_ _ v _ _ _ hv).mono ?_;rintro e w1 ⟨rfl,hb1⟩;rw[HB.out];go_wp2;go_ret
  exact⟨rfl,hb1⟩
 ·have e2:decide (v.length≤64)=false:=by simpa using h2
  have e2':¬ ((v.length:Int)≤64):=by omega
  rw[e2];clear e2;go_enter Tryz.func129,Tryz.ntmps129
  go_wp2_with fail
  refine (d6_ _ _).mono ?_;rintro e w' ⟨rfl,rfl⟩;rw[h1];go_wp2;go_ret
  exact⟨rfl,Below.refl _ _⟩
theorem a4Z {v:List Int} {lo hi:Int} {k:Nat} (h:∀ x∈v.take k,inR x lo hi=true) (hk:v.length≤k):allR v lo hi=true:=by
 rw[l7_ hk]at h;simpa [allR] using h
theorem a2Q {v:List Int} {lo hi x:Int} {k:Nat} (h:v[k]?=some x) (hx:inR x lo hi=false):allR v lo hi=false:=by
 rw[Bool.eq_false_iff];intro h2;have:=List.all_eq_true.1 h2 x (l4_ h);rw[hx]at this;cases this
theorem S3_ {v:List Int} {lo hi x:Int} {k:Nat} (h:∀ x∈v.take k,inR x lo hi=true) (hx:v[k]?=some x) (h2:inR x lo hi=true):∀ x∈v.take (k+1),inR x lo hi=true:=by
 intro y hy;rw[c8_ hx,List.mem_append,List.mem_singleton]at hy;rcases hy with hy | rfl
 ·exact h y hy
 ·exact h2
theorem G1_ (p:Int) (u:Value) (v:List Int) (w:World) (hu:SlI w w.heap.size u v) :
  Calls Tryz.prog 131 #[.int .i64 p,u] w fun e w'=>e = .returned (.bool (M1_ p v))∧Below w.heap.size w w':=by
 obtain⟨A,c,rfl,_,_,_,hv⟩:=hu.open_;clear hu;unfold M1_;rcases h1:f2_ p with _ | _
 ·go_enter Tryz.func131,Tryz.ntmps131
  go_wp2_with fail
  refine (f7_ _ _).mono ?_;rintro e w ⟨rfl,rfl⟩;rw[h1];go_wp2;go_ret
  exact⟨rfl,Below.refl _ _⟩
 have hp:=f4_ h1;by_cases h2:v.length≤64
 ·have e2:decide (v.length≤64)=true:=by simpa using h2
  have e2':¬ ((64:Int)<v.length):=by omega
  rw[e2];clear e2;go_enter Tryz.func131,Tryz.ntmps131
  go_wp2_with fail
  refine (f7_ _ _).mono ?_;rintro e w ⟨rfl,rfl⟩;rw[h1];go_wp2;go_loopw [5] (fun i wr=>∃ k:Nat,k≤v.length∧i = .int .i64 k∧Below w.heap.size w wr∧Hid (∀ x∈v.take k,inR x 0 (p-1)=true)) (fun i _=>v.length-(intOf i).toNat)
  case atStart=>exact⟨0,l0_ _,rfl,Below.refl _ _,by show ∀ x∈_,_;simp⟩
  case round =>
   obtain⟨k,hk,rfl,hbel,hall⟩:=hrel;by_cases hlt:k<v.length
   ·obtain⟨b,o,x,rfl,hb,HX,x1,_⟩:=SlI.at_ hv hlt;have x2:=a7_ hbel hb x1;clear x1 hv;rcases h3:inR x 0 (p-1) with _ | _
    ·have HF:=h_ (a2Q HX.out h3);have H3:=h_ h3;clear h3;go_wp2_with fail
     refine (f3_ _ _ _ _).mono ?_;rintro e w ⟨rfl,rfl⟩;rw[H3.out];go_wp2;go_ret
     exact⟨by rw[HF.out];rfl,hbel⟩
    ·have HS:=h_ (S3_ hall.out HX.out h3);have H3:=h_ h3;clear h3;go_wp2_with fail
     refine (f3_ _ _ _ _).mono ?_;rintro e w ⟨rfl,rfl⟩;rw[H3.out];go_wp2;go_roundw
     case rel=>exact⟨k+1,by omega,by go_num,hbel,HS.out⟩
     case measure=>simp[intOf];omega
   ·have HF:=h_ (a4Z hall.out (by omega));go_wp2;go_ret
    exact⟨by rw[HF.out];rfl,hbel⟩
 ·have e2:decide (v.length≤64)=false:=by simpa using h2
  have e2':(64:Int)<v.length:=by omega
  rw[e2];clear e2;go_enter Tryz.func131,Tryz.ntmps131
  go_wp2_with fail
  refine (f7_ _ _).mono ?_;rintro e w ⟨rfl,rfl⟩;rw[h1];go_wp2;go_ret
  exact⟨rfl,Below.refl _ _⟩
theorem m8_ (p:Int) (u:Value) (m:Mx) (w:World) (hu:MxR w w.heap.size u m) :
  Calls Tryz.prog 102 #[.int .i64 p,u] w fun e w'=>e = .returned (.bool (M8_ p m))∧Below w.heap.size w w':=by
 obtain⟨A,c,rfl,hf,_,_,lf⟩:=hu.open_;clear hu;obtain⟨W,hW,g0,kB⟩:=b_3 w #[.int .i64 m.r,.int .i64 m.c,.slice A m.a.length c] 41;obtain⟨c0,c1,c2⟩:=c_3 kB;replace hf:=SlI.next g0 hf;unfold M8_
 rcases h1:inR m.r 0 8 with _ | _
 ·go_enter Tryz.func102,Tryz.ntmps102
  go_wp2_with fail
  rw[←hW];clear hW;refine (g0_ _ _ _ _).mono ?_;rintro e w' ⟨rfl,rfl⟩;rw[h1];go_wp2;go_ret
  exact⟨rfl,g0⟩
 have b1:=t0_.1 h1;rcases h2:inR m.c 0 8 with _ | _
 ·go_enter Tryz.func102,Tryz.ntmps102
  go_wp2_with fail
  rw[←hW];clear hW;refine (g0_ _ _ _ _).mono ?_;rintro e w' ⟨rfl,rfl⟩;rw[h1];go_wp2_with fail
  refine (g0_ _ _ _ _).mono ?_;rintro e w' ⟨rfl,rfl⟩;rw[h2];go_wp2;go_ret
  exact⟨rfl,g0⟩
 have b2:=t0_.1 h2;have b3:=d1X b1 b2;obtain⟨b11,b12⟩:=b1;obtain⟨b21,b22⟩:=b2;obtain⟨b31,b32⟩:=b3;rcases h3:decide ((m.a.length:Int)=m.r*m.c) with _ | _
 ·have e3:((m.a.length:Int) == m.r*m.c)=false:=by rw[beq_eq_false_iff_ne];exact of_decide_eq_false h3
  clear h3;go_enter Tryz.func102,Tryz.ntmps102
  go_wp2_with fail
  rw[←hW];clear hW;refine (g0_ _ _ _ _).mono ?_;rintro e w' ⟨rfl,rfl⟩;rw[h1];go_wp2_with fail
  refine (g0_ _ _ _ _).mono ?_;rintro e w' ⟨rfl,rfl⟩;rw[h2];go_wp2;go_ret
  exact⟨rfl,g0⟩
 have e3:((m.a.length:Int) == m.r*m.c)=true:=by rw[beq_iff_eq];exact of_decide_eq_true h3
 clear h3;obtain⟨B,hB⟩:=e_ (M1_ p m.a);rw[hB];have HB:=h_ hB;clear hB;go_enter Tryz.func102,Tryz.ntmps102
 go_wp2_with fail
 rw[←hW];clear hW;refine (g0_ _ _ _ _).mono ?_;rintro e w' ⟨rfl,rfl⟩;rw[h1];go_wp2_with fail
 refine (g0_ _ _ _ _).mono ?_;rintro e w' ⟨rfl,rfl⟩;rw[h2];go_wp2_with fail
 refine (G7_ _ _ m.a _ hf).mono ?_;rintro e w1 ⟨rfl,hb1⟩;rw[HB.out];go_wp2;go_ret
 exact⟨rfl,a6_ g0 hb1⟩
theorem m7_ (p:Int) (u:Value) (m:Mx) (w:World) (hu:MxR w w.heap.size u m) :
  Calls Tryz.prog 107 #[.int .i64 p,u] w fun e w'=>e = .returned (.bool (M8_ p m))∧Below w.heap.size w w':=by
 obtain⟨A,c,rfl,hf,_,_,lf⟩:=hu.open_;clear hu;obtain⟨W,hW,g0,kB⟩:=b_3 w #[.int .i64 m.r,.int .i64 m.c,.slice A m.a.length c] 41;obtain⟨c0,c1,c2⟩:=c_3 kB;replace hf:=SlI.next g0 hf;unfold M8_
 rcases h1:inR m.r 0 8 with _ | _
 ·go_enter Tryz.func107,Tryz.ntmps107
  go_wp2_with fail
  rw[←hW];clear hW;refine (f3_ _ _ _ _).mono ?_;rintro e w' ⟨rfl,rfl⟩;rw[h1];go_wp2;go_ret
  exact⟨rfl,g0⟩
 have b1:=t0_.1 h1;rcases h2:inR m.c 0 8 with _ | _
 ·go_enter Tryz.func107,Tryz.ntmps107
  go_wp2_with fail
  rw[←hW];clear hW;refine (f3_ _ _ _ _).mono ?_;rintro e w' ⟨rfl,rfl⟩;rw[h1];go_wp2_with fail
  refine (f3_ _ _ _ _).mono ?_;rintro e w' ⟨rfl,rfl⟩;rw[h2];go_wp2;go_ret
  exact⟨rfl,g0⟩
 have b2:=t0_.1 h2;have b3:=d1X b1 b2;obtain⟨b11,b12⟩:=b1;obtain⟨b21,b22⟩:=b2;obtain⟨b31,b32⟩:=b3;rcases h3:decide ((m.a.length:Int)=m.r*m.c) with _ | _
 ·have e3:((m.a.length:Int) == m.r*m.c)=false:=by rw[beq_eq_false_iff_ne];exact of_decide_eq_false h3
  clear h3;go_enter Tryz.func107,Tryz.ntmps107
  go_wp2_with fail
  rw[←hW];clear hW;refine (f3_ _ _ _ _).mono ?_;rintro e w' ⟨rfl,rfl⟩;rw[h1];go_wp2_with fail
  refine (f3_ _ _ _ _).mono ?_;rintro e w' ⟨rfl,rfl⟩;rw[h2];go_wp2;go_ret
  exact⟨rfl,g0⟩
 have e3:((m.a.length:Int) == m.r*m.c)=true:=by rw[beq_iff_eq];exact of_decide_eq_true h3
 clear h3;obtain⟨B,hB⟩:=e_ (M1_ p m.a);rw[hB];have HB:=h_ hB;clear hB;go_enter Tryz.func107,Tryz.ntmps107
 go_wp2_with fail
 rw[←hW];clear hW;refine (f3_ _ _ _ _).mono ?_;rintro e w' ⟨rfl,rfl⟩;rw[h1];go_wp2_with fail
 refine (f3_ _ _ _ _).mono ?_;rintro e w' ⟨rfl,rfl⟩;rw[h2];go_wp2_with fail
 refine (G1_ _ _ m.a _ hf).mono ?_;rintro e w1 ⟨rfl,hb1⟩;rw[HB.out];go_wp2;go_ret
 exact⟨rfl,a6_ g0 hb1⟩
theorem a9z {d:List Int} (h:∀ x∈d,0≤x∧x≤4) (hl:d.length≤5):sumW d=d.sum∧0≤d.sum∧d.sum≤20:=by
 obtain⟨h1,h2,h3⟩:=a5J d 0 4 (by omega) (by omega) h (by omega) (by omega);exact⟨h1,by omega,by omega⟩
theorem c9X:∀ (l:List Int),(∀ x∈l,0≤x∧x≤4)→0≤l.sum∧l.sum≤4*l.length
 | [],_=>by simp
 | a :: l,h=>by
  have:=c9X l (fun x hx=>h x (by simp[hx]));have:=h a (by simp);simp only[List.sum_cons,List.length_cons];omega
theorem Z5_ (d:List Int) (k:Nat) (h:∀ x∈d.take k,0≤x∧x≤4):0≤(d.take k).sum∧(d.take k).sum≤4*k:=by
 have h1:=c9X _ h;have h2:(d.take k).length≤k:=List.length_take_le _ _;omega
theorem n9_ (u xv:Value) (q:Qv) (d:List Int) (w:World) (hu:QvR w w.heap.size u q) (hx:SlI w w.heap.size xv d) :
  Calls Tryz.prog 80 #[u,xv] w fun e w'=>e = .returned (.bool (d4_ q d))∧Below w.heap.size w w':=by
 obtain⟨A,c,C,d',eu⟩:=hu.form;subst eu;have lx:=hx;obtain⟨XA,xc,rfl,_,_,lx,_⟩:=lx.open_;obtain⟨W,hW,g0,kB⟩:=b_3 w #[.int .i64 q.v,.slice A q.f.length c,.slice C q.t.length d'] 26;obtain⟨c0,c1,c2⟩:=c_3 kB;replace hu:=QvR.next g0 hu;replace hx:=SlI.next g0 hx;unfold d4_;rcases hq:isQ q with _ | _
 ·go_enter Tryz.func80,Tryz.ntmps80
  go_wp2_with fail
  rw[←hW];clear hW;refine (f9_ _ _ _ hu).mono ?_;rintro e w1 ⟨rfl,hb1⟩;rw[hq];clear hu;replace g0:=a6_ g0 hb1;replace hx:=SlI.next hb1 hx;replace kB:=kB.call hb1;replace c0:=kB.cell' (i:=0) rfl;replace c1:=kB.cell' (i:=1) rfl;replace c2:=kB.cell' (i:=2) rfl;clear hb1;go_wp2;go_ret
  exact⟨rfl,g0⟩
 obtain⟨hv1,hv2⟩:=(g4_.1 hq).1;rcases h2:decide ((d.length:Int)=q.v) with _ | _
 ·have e2:((d.length:Int) == q.v)=false:=by rw[beq_eq_false_iff_ne];exact of_decide_eq_false h2
  clear h2;go_enter Tryz.func80,Tryz.ntmps80
  go_wp2_with fail
  rw[←hW];clear hW;refine (f9_ _ _ _ hu).mono ?_;rintro e w1 ⟨rfl,hb1⟩;rw[hq];clear hu;replace g0:=a6_ g0 hb1;replace hx:=SlI.next hb1 hx;replace kB:=kB.call hb1;replace c0:=kB.cell' (i:=0) rfl;replace c1:=kB.cell' (i:=1) rfl;replace c2:=kB.cell' (i:=2) rfl;clear hb1;go_wp2;go_ret
  exact⟨rfl,g0⟩
 have e2:((d.length:Int) == q.v)=true:=by rw[beq_iff_eq];exact of_decide_eq_true h2
 have hl5:d.length≤5:=by have:=of_decide_eq_true h2;omega
 clear h2;rcases h3:allR d 0 4 with _ | _
 ·have H3:=h_ h3;clear h3;go_enter Tryz.func80,Tryz.ntmps80
  go_wp2_with fail
  rw[←hW];clear hW;refine (f9_ _ _ _ hu).mono ?_;rintro e w1 ⟨rfl,hb1⟩;rw[hq];clear hu;replace g0:=a6_ g0 hb1;replace hx:=SlI.next hb1 hx;replace kB:=kB.call hb1;replace c0:=kB.cell' (i:=0) rfl;replace c1:=kB.cell' (i:=1) rfl;replace c2:=kB.cell' (i:=2) rfl;clear hb1;go_wp2_with fail
  refine (k7_ _ d _ _ _ hx).mono ?_;rintro e w_1 ⟨rfl,hb_1⟩;replace g0:=a6_ g0 hb_1;replace hx:=SlI.next hb_1 hx;replace kB:=kB.call hb_1;replace c0:=kB.cell' (i:=0) rfl;replace c1:=kB.cell' (i:=1) rfl;replace c2:=kB.cell' (i:=2) rfl;rw[H3.out];go_wp2;go_ret
  exact⟨rfl,g0⟩
 obtain⟨s1,s2,s3⟩:=a9z (T3_.1 h3) hl5;have H3:=h_ h3;have H1:=h_ s1;clear h3 s1;obtain⟨s,hs⟩:=e_ (d.sum);rw[hs]at H1 s2 s3⊢;clear hs;go_enter Tryz.func80,Tryz.ntmps80
 go_wp2_with fail
 rw[←hW];clear hW;refine (f9_ _ _ _ hu).mono ?_;rintro e w1 ⟨rfl,hb1⟩;rw[hq];clear hu;replace g0:=a6_ g0 hb1;replace hx:=SlI.next hb1 hx;replace kB:=kB.call hb1;replace c0:=kB.cell' (i:=0) rfl;replace c1:=kB.cell' (i:=1) rfl;replace c2:=kB.cell' (i:=2) rfl;clear hb1;go_wp2_with fail
 refine (k7_ _ d _ _ _ hx).mono ?_;rintro e w_2 ⟨rfl,hb_2⟩;replace g0:=a6_ g0 hb_2;replace hx:=SlI.next hb_2 hx;replace kB:=kB.call hb_2;replace c0:=kB.cell' (i:=0) rfl;replace c1:=kB.cell' (i:=1) rfl;replace c2:=kB.cell' (i:=2) rfl;rw[H3.out];go_wp2_with fail
 refine (b5q _ d _ hx).mono ?_;rintro e w2 ⟨rfl,rfl⟩;rw[H1.out];go_wp2;go_ret
 exact⟨by simp,g0⟩
theorem k1_ (u xv:Value) (q:Qv) (d:List Int) (w:World) (hu:QvR w w.heap.size u q) (hx:SlI w w.heap.size xv d) :
  Calls Tryz.prog 34 #[u,xv] w fun e w'=>e = .returned (.bool (d4_ q d))∧Below w.heap.size w w':=by
 obtain⟨A,c,C,d',eu⟩:=hu.form;subst eu;have lx:=hx;obtain⟨XA,xc,rfl,_,_,lx,_⟩:=lx.open_;obtain⟨W,hW,g0,kB⟩:=b_3 w #[.int .i64 q.v,.slice A q.f.length c,.slice C q.t.length d'] 26;obtain⟨c0,c1,c2⟩:=c_3 kB;replace hu:=QvR.next g0 hu;replace hx:=SlI.next g0 hx;unfold d4_;rcases hq:isQ q with _ | _
 ·go_enter Tryz.func34,Tryz.ntmps34
  go_wp2_with fail
  rw[←hW];clear hW;refine (c0_ _ _ _ hu).mono ?_;rintro e w1 ⟨rfl,hb1⟩;rw[hq];clear hu;replace g0:=a6_ g0 hb1;replace hx:=SlI.next hb1 hx;replace kB:=kB.call hb1;replace c0:=kB.cell' (i:=0) rfl;replace c1:=kB.cell' (i:=1) rfl;replace c2:=kB.cell' (i:=2) rfl;clear hb1;go_wp2;go_ret
  exact⟨rfl,g0⟩
 obtain⟨hv1,hv2⟩:=(g4_.1 hq).1;rcases h2:decide ((d.length:Int)=q.v) with _ | _
 ·have e2:((d.length:Int) != q.v)=true:=by rw[bne_iff_ne];exact of_decide_eq_false h2
  clear h2;go_enter Tryz.func34,Tryz.ntmps34
  go_wp2_with fail
  rw[←hW];clear hW;refine (c0_ _ _ _ hu).mono ?_;rintro e w1 ⟨rfl,hb1⟩;rw[hq];clear hu;replace g0:=a6_ g0 hb1;replace hx:=SlI.next hb1 hx;replace kB:=kB.call hb1;replace c0:=kB.cell' (i:=0) rfl;replace c1:=kB.cell' (i:=1) rfl;replace c2:=kB.cell' (i:=2) rfl;clear hb1;go_wp2;go_ret
  exact⟨rfl,g0⟩
 have e2:((d.length:Int) != q.v)=false:=by rw[bne_eq_false_iff_eq];exact of_decide_eq_true h2
 have hl5:d.length≤5:=by have:=of_decide_eq_true h2;omega
 clear h2;go_enter Tryz.func34,Tryz.ntmps34
 go_wp2_with fail
 rw[←hW];clear hW;refine (c0_ _ _ _ hu).mono ?_;rintro e w1 ⟨rfl,hb1⟩;rw[hq];clear hu;replace g0:=a6_ g0 hb1;replace hx:=SlI.next hb1 hx;replace kB:=kB.call hb1;replace c0:=kB.cell' (i:=0) rfl;replace c1:=kB.cell' (i:=1) rfl;replace c2:=kB.cell' (i:=2) rfl;clear hb1;go_wp2;go_loopw [5,6] (fun n i wr=>∃ k:Nat,k≤d.length∧i = .int .i64 k∧n = .int .i64 (d.take k).sum∧wr=w1∧Hid (∀ x∈d.take k,inR x 0 4=true)) (fun _ i _=>d.length-(intOf i).toNat)
 case atStart=>exact⟨0,l0_ _,rfl,by simp,rfl,by show ∀ x∈_,_;simp⟩
 case round =>
  obtain⟨k,hk,rfl,rfl,rfl,hall⟩:=hrel;have hsm:=Z5_ d k (fun x hx=>t0_.1 (hall.out x hx));obtain⟨hs1,hs2⟩:=hsm;obtain⟨s,hs⟩:=e_ ((d.take k).sum);rw[hs]at hs1 hs2⊢;have HS:=h_ hs;clear hs;by_cases hlt:k<d.length
  ·obtain⟨b,o,x,rfl,hb,HX,x1,_⟩:=SlI.at_ hx hlt;clear hx;rcases h3:inR x 0 4 with _ | _
   ·have HF:=h_ (a2Q HX.out h3);have H3:=h_ h3;clear h3;go_wp2_with fail
    refine (f3_ _ _ _ _).mono ?_;rintro e w' ⟨rfl,rfl⟩;rw[H3.out];go_wp2;go_ret
    exact⟨by rw[HF.out];rfl,g0⟩
   ·have HT:=h_ (S3_ hall.out HX.out h3);have HSU:=h_ (show (d.take (k+1)).sum=s+x by rw[c8_ HX.out,List.sum_append,HS.out];simp);obtain⟨x3,x4⟩:=t0_.1 h3;have H3:=h_ h3;clear h3;go_wp2_with fail
    refine (f3_ _ _ _ _).mono ?_;rintro e w' ⟨rfl,rfl⟩;rw[H3.out];go_wp2;go_roundw
    case rel=>exact⟨k+1,by omega,by go_num,by rw[HSU.out],trivial,HT.out⟩
    case measure=>simp[intOf];omega
  ·have HF:=h_ (a4Z hall.out (by omega));have HE:=h_ (show d.sum=s by rw[←HS.out,l7_ (by omega)]);go_wp2;go_ret
   exact⟨by rw[HF.out,HE.out];simp,g0⟩
def dAt (d:List Int) (v:Int):Int:=d.getD v.toNat 0
def okM (x:Rp) (m:Mx) (f t:Int):Bool:=M8_ x.p m && decide (m.c=dAt x.d f) && decide (m.r=dAt x.d t)
def okMs (x:Rp) (k:Nat):Bool:=(List.range k).all fun i=>okM x (x.m.getD i ⟨0,0,[]⟩) (x.q.f.getD i 0) (x.q.t.getD i 0)
def f1_ (x:Rp):Bool:=f2_ x.p && d4_ x.q x.d && decide (x.m.length=x.q.f.length) && okMs x x.m.length
theorem U7_ {x:Rp} {k:Nat} {m:Mx} {f t:Int} (hm:x.m[k]?=some m) (hf:x.q.f[k]?=some f) (ht:x.q.t[k]?=some t):okMs x (k+1)=(okMs x k && okM x m f t):=by
 simp[okMs,List.range_succ,l1_,hm,hf,ht]
theorem u3_ {x:Rp} {k n:Nat} (h:okMs x k=false) (hk:k≤n):okMs x n=false:=by
 simp only[okMs,List.all_eq_false,List.mem_range]at h⊢;obtain⟨i,hi,h⟩:=h;exact⟨i,by omega,h⟩
theorem r4_ {d:List Int} {n:Nat} {y:Int} (h:d[n]?=some y):dAt d (n:Int)=y:=by
 simp[dAt,l1_,h]
theorem K0_ {x:Rp} (hq:d4_ x.q x.d=true) {k:Nat} (hk:k<x.q.f.length):∃ (nf nt:Nat) (yf yt:Int),x.q.f[k]?=some (nf:Int)∧x.q.t[k]?=some (nt:Int)∧x.d[nf]?=some yf∧x.d[nt]?=some yt∧nf<x.d.length∧nt<x.d.length∧nf≤5∧nt≤5∧k<x.q.t.length:=by
 obtain⟨h1,h2,h3,h4⟩:=b7_.1 hq;obtain⟨hv,hl,h6,hf,ht⟩:=g4_.1 h1;have ef:=l2_ hk;have et:=l2_ (show k<x.q.t.length by omega);have bf:=hf _ (l4_ ef);have bt:=ht _ (l4_ et);obtain⟨nf,enf⟩:=Int.eq_ofNat_of_zero_le bf.1;obtain⟨nt,ent⟩:=Int.eq_ofNat_of_zero_le bt.1;rw[enf]at ef bf;rw[ent]at et bt;exact⟨nf,nt,x.d[nf]'(by omega),x.d[nt]'(by omega),ef,et,l2_ _,l2_ _,by omega,by omega,by omega,by omega,by omega⟩
end Go.Proofs.YtnohdlkailpnoaaGreat

