/- FnBars: the law holds for every argument. Part 1 of 16 of the proof: Base, Ints, App, Quiv, Small, Find, IsQ, Zig, Line. No condition. -/
import Derived.Test.YtbgccbmdiolhbaaGreatChecked
import Derived.WalkKit
import Derived.WalkLawsBesides
import Derived.WalkSpells
import Derived.RegionTactic
import Derived.Outline
import Derived.BigQuiet
import Derived.Deep.QuietTactic
import Derived.Deep.RegionHeld3
import Derived.StillTailTactics
import Derived.Deep.DeepCutAuto
import Derived.Deep.DeepMust
import Derived.Deep.DeepFit
import Derived.Lib.Hide
import Derived.Laws.StructEq
import Derived.Laws.OwnMore
import Derived.Laws.MakeOwn
import Derived.Laws.Rows
import Derived.Maps.AppendAt
import Derived.Deep.AppendLies
set_option linter.unusedVariables false
set_option linter.unusedSimpArgs false
set_option maxHeartbeats 12800000
set_option maxRecDepth 100000
namespace Go.Proofs.YtbgccbmdiolhbaaGreat
open Go.RowKit
def I64 (x:Int):Prop:=-9223372036854775808≤x∧x≤9223372036854775807
def SlG {α:Type} (sz:Nat) (R:World→Nat→Nat→Nat→α→Prop) (w:World) (B:Nat) (val:Value) (xs:List α):Prop :=
 ∃ A c,val = .slice A xs.length c∧xs.length≤c∧c≤9223372036854775807∧xs.length≤17592186044416 ∧
  (0<xs.length→∃ b o,A=some ⟨b,o,none⟩∧b<B∧∀ j x,xs[j]?=some x→R w B b (o+j*sz) x)
theorem SlG.mono {α:Type} {sz:Nat} {R:World→Nat→Nat→Nat→α→Prop} {w w':World} {B B':Nat} {val:Value} {xs:List α} (hR:∀ b o x,b<B→R w B b o x→R w' B' b o x) (hB:B≤B')
  (h:SlG sz R w B val xs):SlG sz R w' B' val xs:=by
 obtain⟨A,c,e,h1,h2,h3,h4⟩:=h;refine⟨A,c,e,h1,h2,h3,fun hp=>?_⟩;obtain⟨b,o,e2,hb,hc⟩:=h4 hp;exact⟨b,o,e2,by omega,fun j x hx=>hR _ _ _ hb (hc j x hx)⟩
def RI (w:World) (_B b o:Nat) (x:Int):Prop:=w.cell? ⟨b,o,none⟩=some (.int .i64 x)∧I64 x
abbrev SlI:=SlG 1 RI
abbrev Bar:=Int×Int×Int
def RBar (w:World) (_B b o:Nat) (x:Bar):Prop:=(w.cell? ⟨b,o,none⟩=some (.int .i64 x.1)∧w.cell? ⟨b,o+1,none⟩=some (.int .i64 x.2.1)∧w.cell? ⟨b,o+2,none⟩=some (.int .i64 x.2.2))∧I64 x.1∧I64 x.2.1∧I64 x.2.2
abbrev SlB:=SlG 3 RBar
def RSlI (w:World) (B b o:Nat) (l:List Int):Prop:=∃ v,w.cell? ⟨b,o,none⟩=some v∧SlI w B v l
abbrev SlII:=SlG 1 RSlI
theorem a4_ {B:Nat} {w w':World} (h:Below B w w') {b o:Nat} {v:Value} (hb:b<B) (hc:w.cell? ⟨b,o,none⟩=some v):w'.cell? ⟨b,o,none⟩=some v :=
 (h.cell (p:=⟨b,o,none⟩) hb).trans hc
theorem SlI.below {w w':World} {B:Nat} {v:Value} {l:List Int} (hb:Below B w w') (h:SlI w B v l):SlI w' B v l :=
 SlG.mono (fun _ _ _ hlt ⟨hc,hx⟩=>⟨a4_ hb hlt hc,hx⟩) (Nat.le_refl _) h
theorem SlI.more {w:World} {B B':Nat} {v:Value} {l:List Int} (hB:B≤B') (h:SlI w B v l):SlI w B' v l :=
 SlG.mono (B:=B) (B':=B') (fun _ _ _ _ h=>h) hB h
theorem SlB.below {w w':World} {B:Nat} {v:Value} {l:List Bar} (hb:Below B w w') (h:SlB w B v l):SlB w' B v l :=
 SlG.mono (fun _ _ _ hlt ⟨⟨h0,h1,h2⟩,hx⟩=>⟨⟨a4_ hb hlt h0,a4_ hb hlt h1,a4_ hb hlt h2⟩,hx⟩) (Nat.le_refl _) h
theorem SlB.more {w:World} {B B':Nat} {v:Value} {l:List Bar} (hB:B≤B') (h:SlB w B v l):SlB w B' v l :=
 SlG.mono (B:=B) (B':=B') (fun _ _ _ _ h=>h) hB h
theorem SlII.below {w w':World} {B:Nat} {v:Value} {l:List (List Int)} (hb:Below B w w') (h:SlII w B v l):SlII w' B v l :=
 SlG.mono (fun _ _ _ hlt ⟨u,hc,hu⟩=>⟨u,a4_ hb hlt hc,SlI.below hb hu⟩) (Nat.le_refl _) h
theorem SlII.more {w:World} {B B':Nat} {v:Value} {l:List (List Int)} (hB:B≤B') (h:SlII w B v l):SlII w B' v l :=
 SlG.mono (fun _ _ _ _ ⟨u,hc,hu⟩=>⟨u,hc,SlI.more hB hu⟩) hB h
theorem SlI.next {w w':World} {v:Value} {l:List Int} (hb:Below w.heap.size w w') (h:SlI w w.heap.size v l):SlI w' w'.heap.size v l:=SlI.more hb.size (SlI.below hb h)
theorem SlB.next {w w':World} {v:Value} {l:List Bar} (hb:Below w.heap.size w w') (h:SlB w w.heap.size v l):SlB w' w'.heap.size v l:=SlB.more hb.size (SlB.below hb h)
theorem SlII.next {w w':World} {v:Value} {l:List (List Int)} (hb:Below w.heap.size w w') (h:SlII w w.heap.size v l):SlII w' w'.heap.size v l:=SlII.more hb.size (SlII.below hb h)
theorem b0_ {w w' w'':World} (h:Below w.heap.size w w') (k:Below w'.heap.size w' w''):Below w.heap.size w w'':=h.trans (k.mono h.size)
theorem SlI.at_ {w:World} {B c:Nat} {A:Option Addr} {xs:List Int} {k:Nat} (h:SlI w B (.slice A xs.length c) xs) (hk:k<xs.length) :
  ∃ b o x,A=some ⟨b,o,none⟩∧b<B∧Hid (xs[k]?=some x)∧w.cell? ⟨b,o+k,none⟩=some (.int .i64 x)∧-9223372036854775808≤x∧x≤9223372036854775807:=by
 obtain⟨A',c',e,h1,h2,h3,h4⟩:=h;injection e with e1 e2 e3;subst e1
 obtain⟨b,o,rfl,hb,hc⟩:=h4 (by omega);have hx:xs[k]?=some xs[k]:=List.getElem?_eq_getElem hk;obtain⟨h0,hr⟩:=hc k _ hx;exact⟨b,o,xs[k],rfl,hb,hx,by simpa using h0,hr.1,hr.2⟩
theorem SlB.at_ {w:World} {B c:Nat} {A:Option Addr} {xs:List Bar} {k:Nat} (h:SlB w B (.slice A xs.length c) xs) (hk:k<xs.length) :
  ∃ b o x y z,A=some ⟨b,o,none⟩∧b<B∧Hid (xs[k]?=some (x,y,z))∧w.cell? ⟨b,o+k*3,none⟩=some (.int .i64 x)∧w.cell? ⟨b,o+k*3+1,none⟩=some (.int .i64 y)∧w.cell? ⟨b,o+k*3+2,none⟩=some (.int .i64 z) ∧
   (-9223372036854775808≤x∧x≤9223372036854775807)∧(-9223372036854775808≤y∧y≤9223372036854775807)∧(-9223372036854775808≤z∧z≤9223372036854775807):=by
 obtain⟨A',c',e,h1,h2,h3,h4⟩:=h;injection e with e1 e2 e3;subst e1
 obtain⟨b,o,rfl,hb,hc⟩:=h4 (by omega);have hx:xs[k]?=some xs[k]:=List.getElem?_eq_getElem hk;obtain⟨⟨c0,c1,c2⟩,r0,r1,r2⟩:=hc k _ hx;exact⟨b,o,xs[k].1,xs[k].2.1,xs[k].2.2,rfl,hb,hx,c0,c1,c2,r0,r1,r2⟩
theorem SlII.at_ {w:World} {B c:Nat} {A:Option Addr} {xs:List (List Int)} {k:Nat} (h:SlII w B (.slice A xs.length c) xs) (hk:k<xs.length) :
  ∃ b o l A' c',A=some ⟨b,o,none⟩∧b<B∧Hid (xs[k]?=some l)∧w.cell? ⟨b,o+k,none⟩=some (.slice A' l.length c')∧SlI w B (.slice A' l.length c') l:=by
 obtain⟨A',c',e,h1,h2,h3,h4⟩:=h;injection e with e1 e2 e3;subst e1
 obtain⟨b,o,rfl,hb,hc⟩:=h4 (by omega);have hx:xs[k]?=some xs[k]:=List.getElem?_eq_getElem hk;obtain⟨v,hv,hs⟩:=hc k _ hx;have hs':=hs;obtain⟨A2,c2,rfl,_⟩:=hs;exact⟨b,o,xs[k],A2,c2,rfl,hb,hx,by simpa using hv,hs'⟩
theorem SlG.open_ {α:Type} {sz:Nat} {R:World→Nat→Nat→Nat→α→Prop} {w:World} {B:Nat} {val:Value} {xs:List α} (h:SlG sz R w B val xs) :
  ∃ A c,val = .slice A xs.length c∧xs.length≤c∧c≤9223372036854775807∧xs.length≤17592186044416∧SlG sz R w B (.slice A xs.length c) xs:=by
 have h':=h;obtain⟨A,c,rfl,h1,h2,h3,_⟩:=h;exact⟨A,c,rfl,h1,h2,h3,h'⟩
theorem SlG.nil {α:Type} {sz:Nat} {R:World→Nat→Nat→Nat→α→Prop} {w:World} {B:Nat}:SlG sz R w B (.slice none 0 0) ([]:List α) :=
 ⟨none,0,rfl,by simp,by omega,by simp,fun h=>absurd h (by simp)⟩
theorem c6_ {α:Type} {l:List α} {k:Nat} {x:α} (h:l[k]?=some x):l.take (k+1)=l.take k ++ [x]:=by
 rw[List.take_add_one,h];rfl
theorem a6_ {α:Type} {l:List α} {k:Nat} {x:α} (h:l[k]?=some x):k<l.length:=(List.getElem?_eq_some_iff.1 h).1
theorem d2_ {B:Nat} {a w:World} (h:Below B a w) (n:Nat):Below B a (w.drewN n):=⟨h.os,h.tape,h.output,h.size,h.block⟩
theorem d5_ (B:Nat) (w:World) (n:Nat):Below B w (w.drewN n):=d2_ (Below.refl _ _) n
def InB (w:World):Type:={ W:World // Below w.heap.size w W }
instance instNonemptyInB (w:World):Nonempty (InB w):=⟨⟨w,Below.refl _ _⟩⟩
def InB.val {w:World} (s:InB w):World:=s.1
theorem InB.cell {w:World} {b o:Nat} {v:Value} (hb:b<w.heap.size) (hc:w.cell? ⟨b,o,none⟩=some v) (s:InB w):s.val.cell? ⟨b,o,none⟩=some v:=a4_ s.2 hb hc
theorem InB.below {w:World} (s:InB w):Below w.heap.size w s.val:=s.2
theorem InB.size {w:World} (s:InB w):w.heap.size≤s.val.heap.size:=s.2.size
theorem b1_ {P:Program} {id:Nat} {Q:Exit→Act→World→Prop} {a:Act} {w:World} {l:List Oper} (hm:P.follows .mixedOrders=true) (hB:Region.lexB .any l.toArray=true)
  (h:wpQuiet P l.toArray (fun w'=>∃ s:InB w,w'=s.val) (fun a'=>∀ w',(∃ s:InB w,w'=s.val)→Q .normal a' w') l a):(Code.region id l.toArray true).wp P Q a w :=
 wp_region_quiet (C:=fun w'=>∃ s:InB w,w'=s.val) hm hB ⟨⟨{ w with drawn:=w.drawn+1 },d5_ _ _ 1⟩,rfl⟩ (by simpa using h)
theorem InB.call {P:Program} {f:FuncId} {args:Array Value} {w:World} {s:InB w} {v:Value} (h:Calls P f args s.val fun e w'=>e = .returned v∧Below s.val.heap.size s.val w') :
  Calls P f args s.val fun e w''=>e = .returned v∧∃ s':InB w,w''=s'.val :=
 h.mono fun _ w'' ⟨he,hb⟩=>⟨he,⟨⟨w'',s.2.trans (hb.mono s.2.size)⟩,rfl⟩⟩
theorem InB.call_same {P:Program} {f:FuncId} {args:Array Value} {w:World} {s:InB w} {v:Value} (h:Calls P f args s.val fun e w'=>e = .returned v∧w'=s.val) :
  Calls P f args s.val fun e w''=>e = .returned v∧∃ s':InB w,w''=s'.val :=
 h.mono fun _ w'' ⟨he,hb⟩=>⟨he,⟨s,hb⟩⟩
def Blk (w:World) (g:Nat) (t:TypeId) (cs:Array Value):Prop:=w.heap[g]?=some (.cells cs t (0,0))
section
variable {w w':World} {g:Nat} {t:TypeId} {cs:Array Value}
theorem Blk.lt (h:Blk w g t cs):g<w.heap.size:=by
 rcases Nat.lt_or_ge g w.heap.size with hlt | hge
 ·exact hlt
 ·unfold Blk at h;rw[Array.getElem?_eq_none hge]at h;cases h
theorem Blk.cell (h:Blk w g t cs) (i:Nat):w.cell? ⟨g,i,none⟩=cs[i]?:=cell_of_row w g i cs t (0,0) h
theorem Blk.cell' (h:Blk w g t cs) {i:Nat} {v:Value} (hv:cs[i]?=some v):w.cell? ⟨g,i,none⟩=some v:=(h.cell i).trans hv
theorem Blk.call (h:Blk w g t cs) (hb:Below w.heap.size w w'):Blk w' g t cs:=(hb.block g h.lt).trans h
theorem Blk.frozen (h:Blk w g t cs) (i:Nat):w.frozen? ⟨g,i,none⟩=false:=by
 unfold Blk at h;simp[World.frozen?,h]
theorem Blk.new (w:World) (t:TypeId) (cs:Array Value):Blk (w.alloc (.cells cs t)) w.heap.size t cs:=heap_alloc_new w _
theorem Blk.drewN (h:Blk w g t cs) (n:Nat):Blk (w.drewN n) g t cs:=h
theorem Blk.alloc (h:Blk w g t cs) (o:Obj):Blk (w.alloc o) g t cs:=(Below.heap_alloc w o g h.lt).trans h
theorem Blk.set_ (h:Blk w g t cs) (i:Nat) (u:Value):Blk (w.setCell ⟨g,i,none⟩ u) g t (cs.setIfInBounds i u):=by
 unfold Blk at h⊢;simp[World.setCell,Array.getElem?_modify,h]
theorem Blk.far (h:Blk w g t cs) {p:Addr} (hp:g≠p.block) (u:Value):Blk (w.setCell p u) g t cs:=(Below.heap_setCell w p u g hp).trans h
theorem Blk.below {B:Nat} (h:Blk w g t cs) (hb:Below B w w') (hg:g<B):Blk w' g t cs:=(hb.block g hg).trans h
theorem Blk.grown {row:Option Nat} (h:Blk w g t cs) (hb:w.grownBy w' row) (hg:some g≠row):Blk w' g t cs:=(hb.block g h.lt hg).trans h
theorem Blk.own (h:Blk w g t cs) {base n cap size:Nat} (hb:base≤g) (hnc:n≤cap) (hm:cap≤maxLen) (hs:cs.size=cap*size) :
  w.ownsRow base t size (.slice (some ⟨g,0,none⟩) n cap) n (cs.toList.take (n*size)) :=
 ⟨by rw[List.length_take,Array.length_toList,hs];exact Nat.min_eq_left (Nat.mul_le_mul_right _ hnc),.inr ⟨g,cap,cs,rfl,hb,h,hnc,hm,hs,rfl⟩⟩
end
def f4_ (z:Value) (n:Nat):Array Value:=madeCells z.cells n
theorem v9_ (z:Value) (n:Nat):(f4_ z n).size=n:=by simp[f4_,madeCells]
theorem C3_ {P:Program} {t e:TypeId} {i:TypeInfo} {z:Value} (ht:P.underlying t=some (.slice e)) (hi:P.info? e=some i) (hz:i.zero=some z) {n:Nat} (hb:i.bytes*n≤281474976710656) (h63:n≤9223372036854775807) (W:World) :
  (Instr.makeSlice t (.int .i64 (n:Int)) (.int .i64 (n:Int))).run P W = .ok (.slice (some ⟨W.heap.size,0,none⟩) n n) (W.alloc (.cells (f4_ z (n*i.size)) e)):=by
 have hb':(i.bytes:Int)*(n:Int)≤281474976710656:=by
  have h:((i.bytes*n:Nat):Int)≤281474976710656:=by omega
  rwa[Int.natCast_mul]at h
 have hr:=run_make (P:=P) W t e i z ht hi hz .i64 .i64 n n (by omega) (by omega) hb' (by omega);simp only[Int.toNat_natCast]at hr;exact hr
structure Chg (lo hi:Nat) (w w':World):Prop where
 os:w'.os=w.os
 tape:w'.tape=w.tape
 output:w'.output=w.output
 size:w.heap.size≤w'.heap.size
 block:∀ k,k<w.heap.size→(k<lo∨hi≤k)→w'.heap[k]?=w.heap[k]?
theorem Chg.refl (lo hi:Nat) (w:World):Chg lo hi w w:=⟨rfl,rfl,rfl,Nat.le_refl _,fun _ _ _=>rfl⟩
theorem Chg.trans {lo hi:Nat} {a b c:World} (h:Chg lo hi a b) (k:Chg lo hi b c):Chg lo hi a c :=
 ⟨k.os.trans h.os,k.tape.trans h.tape,k.output.trans h.output,Nat.le_trans h.size k.size,fun i hi' hne=>(k.block i (Nat.lt_of_lt_of_le hi' h.size) hne).trans (h.block i hi' hne)⟩
theorem Chg.of_below {lo hi:Nat} {w w':World} (h:Below w.heap.size w w'):Chg lo hi w w':=⟨h.os,h.tape,h.output,h.size,fun k hk _=>h.block k hk⟩
theorem Chg.wider {lo hi lo' hi':Nat} {w w':World} (h:Chg lo hi w w') (h1:lo'≤lo) (h2:hi≤hi'):Chg lo' hi' w w' :=
 ⟨h.os,h.tape,h.output,h.size,fun k hk hne=>h.block k hk (by omega)⟩
theorem Chg.below {lo hi B:Nat} {w w':World} (h:Chg lo hi w w') (hB:B≤lo) (hs:B≤w.heap.size):Below B w w':=⟨h.os,h.tape,h.output,h.size,fun k hk=>h.block k (by omega) (by omega)⟩
theorem Blk.chg {w w':World} {g lo hi:Nat} {t:TypeId} {cs:Array Value} (h:Blk w g t cs) (hc:Chg lo hi w w') (hg:g<lo∨hi≤g):Blk w' g t cs:=(hc.block g h.lt hg).trans h
theorem a0_ (w:World) (o:Obj):Below w.heap.size w (w.alloc o):=(Below.refl _ _).alloc (Nat.le_refl _) _
def Hold (p:Prop):Prop:=p
theorem Hold.stop {p:Prop} (h:Hold p):p:=h
theorem N2_ {p:Prop} (h:Hid p):p:=h
theorem b4J (w:World):Below w.heap.size w w.drew:=(Below.refl _ _).drew
theorem br_ {B:Nat} {w:World}:Below B w w:=Below.refl B w
theorem h_ {p:Prop} (h:p):Hid p:=Lib.hid h
theorem e_ {α:Sort _} (a:α):∃ b,a=b:=⟨a,rfl⟩
theorem c_6 {w:World} {g:Nat} {t:TypeId} {a b c d e f:Value} (h:Blk w g t #[a,b,c,d,e,f]):w.cell? ⟨g,0,none⟩=some a∧w.cell? ⟨g,1,none⟩=some b∧w.cell? ⟨g,2,none⟩=some c∧w.cell? ⟨g,3,none⟩=some d∧w.cell? ⟨g,4,none⟩=some e∧w.cell? ⟨g,5,none⟩=some f:=⟨h.cell' (i:=0) rfl,h.cell' (i:=1) rfl,h.cell' (i:=2) rfl,h.cell' (i:=3) rfl,h.cell' (i:=4) rfl,h.cell' (i:=5) rfl⟩
theorem c_3 {w:World} {g:Nat} {t:TypeId} {a b c:Value} (h:Blk w g t #[a,b,c]):w.cell? ⟨g,0,none⟩=some a∧w.cell? ⟨g,1,none⟩=some b∧w.cell? ⟨g,2,none⟩=some c:=⟨h.cell' (i:=0) rfl,h.cell' (i:=1) rfl,h.cell' (i:=2) rfl⟩
theorem b_1 (w:World) (cs:Array Value) (t:TypeId):∃ z,w.alloc (.cells cs t)=z∧Below w.heap.size w z∧Blk z w.heap.size t cs:=⟨_,rfl,a0_ _ _,Blk.new _ _ _⟩
theorem b_2 (w:World) (cs:Array Value) (t:TypeId):∃ z,w.alloc (.cells cs t)=z∧Below w.heap.size w z∧∃ b,w.heap.size=b∧Blk z b t cs:=⟨_,rfl,a0_ _ _,_,rfl,Blk.new _ _ _⟩
theorem b_3 (w:World) (cs:Array Value) (t:TypeId):∃ z,z=w.alloc (.cells cs t)∧Below w.heap.size w z∧Blk z w.heap.size t cs:=⟨_,rfl,a0_ _ _,Blk.new _ _ _⟩
theorem b_4 (w:World) (cs:Array Value) (t:TypeId) (ds:Array Value) (s:TypeId):∃ z,z=(w.alloc (.cells cs t)).alloc (.cells ds s)∧Below w.heap.size w z∧Blk z w.heap.size t cs∧Blk z (w.heap.size+1) s ds:=⟨_,rfl,((Below.refl _ _).alloc (Nat.le_refl _) _).alloc (by simp) _,(Blk.new _ _ _).alloc _,by
 have:=Blk.new (w.alloc (.cells cs t)) s ds;simpa only[World.size_alloc] using this⟩
theorem l_ (n:Nat):n≤n:=Nat.le_refl n
theorem l0_ (n:Nat):0≤n:=Nat.zero_le n
abbrev l1_:=@List.getD_eq_getElem?_getD
abbrev l2_:=@List.getElem?_eq_getElem
abbrev l3_:=@World.size_alloc
abbrev l4_:=@List.mem_of_getElem?
abbrev l5_:=@Int.toNat_natCast
abbrev l6_:=@List.getElem?_eq_none
abbrev l7_:=@List.take_of_length_le
abbrev l8_:=@Array.getElem?_eq_getElem
abbrev l9_:=@Bool.and_eq_true
abbrev m0_:=@Nat.lt_succ_self
abbrev m1_:=@List.eq_nil_of_length_eq_zero
abbrev m2_:=@Array.getD_eq_getD_getElem?
theorem u1_:(Tryz.prog.info? 3).map (fun i=>(i.zero,i.size,i.bytes))=some (some (.int .i64 0),1,8):=by kernel_rfl
def d0z (cs:Array Value) (xs:List Int) (k:Nat):Prop:=cs.size=xs.length∧∀ j x,j<k→xs[j]?=some x→cs[j]?=some (.int .i64 x)
theorem d0z.step {cs:Array Value} {xs:List Int} {k:Nat} {x:Int} (h:d0z cs xs k) (hx:xs[k]?=some x):d0z (cs.setIfInBounds k (.int .i64 x)) xs (k+1):=by
 obtain⟨hs,h⟩:=h;have hk:=a6_ hx;refine⟨by simpa using hs,fun j u hj hu=>?_⟩;by_cases e:j=k
 ·subst e;rw[hx]at hu;injection hu with hu
  subst hu;simp[Array.getElem?_setIfInBounds];omega
 ·rw[Array.getElem?_setIfInBounds,if_neg (by omega)];exact h j u (by omega) hu
def OwnI (w:World) (base:Nat) (v:Value) (l:List Int):Prop :=
 w.ownsRow base 3 1 v l.length (l.map (Value.int .i64))∧l.length≤17592186044416∧∀ x∈l,I64 x
theorem OwnI.nil (w:World) (base:Nat):OwnI w base (.slice none 0 0) []:=⟨World.ownsRow_nil _ _ _ _,by simp,by simp⟩
theorem OwnI.rd {w:World} {base:Nat} {v:Value} {l:List Int} (h:OwnI w base v l):SlI w w.heap.size v l:=by
 obtain⟨h1,h2,h3⟩:=h;rcases h1.2 with ⟨rfl,h0⟩ | ⟨g,cap,cur,rfl,_,hg,hnc,hcm,hcs,htake⟩
 ·obtain rfl:l=[]:=m1_ h0;exact SlG.nil
 ·refine⟨_,_,rfl,hnc,by simp only[maxLen]at hcm;omega,h2,fun hp=>⟨g,0,rfl,(Array.getElem?_eq_some_iff.1 hg).1,fun j x hj=>⟨?_,h3 x (l4_ hj)⟩⟩⟩;have hc:=h1.cellAt j (by have:=a6_ hj;omega);rw[show 0+j*1=j by omega,hc];simp[hj]
theorem OwnI.below {w w':World} {base:Nat} {v:Value} {l:List Int} (h:OwnI w base v l) (hb:Below w.heap.size w w'):OwnI w' base v l :=
 ⟨h.1.kept (row:=none) ⟨hb.os,hb.tape,hb.output,hb.size,fun k hk _=>hb.block k hk⟩ (by cases v.ownBlock <;> simp),h.2⟩
theorem OwnI.lower {w:World} {base base':Nat} {v:Value} {l:List Int} (h:OwnI w base v l) (hb:base'≤base):OwnI w base' v l:=by
 obtain⟨⟨h0,h1⟩,h2⟩:=h;refine⟨⟨h0,?_⟩,h2⟩;rcases h1 with h1 | ⟨g,cap,cur,e,hg,rest⟩
 ·exact .inl h1
 ·exact .inr ⟨g,cap,cur,e,by omega,rest⟩
theorem OwnI.of_blk {w:World} {base g:Nat} {cs:Array Value} {xs:List Int} (hb:Blk w g 3 cs) (hg:base≤g) (hcs:d0z cs xs xs.length) (hn:xs.length≤17592186044416) (hr:∀ x∈xs,I64 x) :
  OwnI w base (.slice (some ⟨g,0,none⟩) xs.length xs.length) xs:=by
 refine⟨⟨by simp,.inr ⟨g,xs.length,cs,rfl,hg,hb,l_ _,by simp only[maxLen];omega,by rw[hcs.1];omega,?_⟩⟩,hn,hr⟩;apply List.ext_getElem?
 intro j;by_cases hj:j<xs.length
 ·rw[List.getElem?_take,if_pos (by omega),Array.getElem?_toList,hcs.2 j _ hj (l2_ hj)];simp[hj]
 ·rw[List.getElem?_take,if_neg (by omega)];simp[Nat.le_of_not_lt hj]
theorem SlI.i64 {w:World} {B:Nat} {v:Value} {l:List Int} (h:SlI w B v l):∀ x∈l,I64 x:=by
 obtain⟨A,c,_,_,_,_,h4⟩:=h;intro x hx;obtain⟨j,hj⟩:=List.getElem?_of_mem hx;obtain⟨_,_,_,_,hr⟩:=h4 (by have:=a6_ hj;omega);exact (hr j x hj).2
def mkI (k:Int) (n:Nat):List Int:=(List.range n).map fun i:Nat=>k+(i:Int)
section
variable {P:Program} (w:World)
theorem M8_ (base:Nat) (t ty e:TypeId) (i:TypeInfo) (size:Nat) (ht:P.underlying t=some (.slice e)) (hi:P.info? e=some i)
  (v:Value) (n:Nat) (xs:List Value) (hown:w.ownsRow base e size v n xs) (c:Nat):(Builtin.append_ #[t,t] ty #[v,.slice none 0 c]).run P w = .ok v w:=by
 rcases hown.2 with ⟨rfl,rfl⟩ | ⟨g,cap,cur,rfl,_,_,hnc,_⟩
 ·simp[Builtin.append_,run_underlying ht,sizeOf,typeInfo,hi,Builtin.lenOf,Builtin.firstCells]
 ·simp[Builtin.append_,run_underlying ht,sizeOf,typeInfo,hi,Builtin.lenOf,Builtin.firstCells,hnc,storeCells]
def r2_ (w:World) (A:Option Addr) (m:Nat) (news:List Value) (size:Nat):Prop:=news.length=m*size∧(m=0∨∃ b o,A=some ⟨b,o,none⟩∧∀ j u,news[j]?=some u→w.cell? ⟨b,o+j,none⟩=some u)
theorem Z9_ (base:Nat) (t ty e:TypeId) (i:TypeInfo) (z:Value) (size bytes:Nat) (ht:P.underlying t=some (.slice e)) (hi:P.info? e=some i) (hz:i.zero=some z)
  (hsize:i.size=size) (hby:i.bytes=bytes) (hzs:z.cells.size=size) (hsz:0<size)
  (v:Value) (n:Nat) (xs:List Value) (hown:w.ownsRow base e size v n xs)
  (A:Option Addr) (m c:Nat) (news:List Value) (hnews:r2_ w A m news size) (h1:∀ u∈news,u.oneCell'=true)
  (h63:n+m≤maxLen) (hbytes:(n+m)*bytes≤140737488355328) (hbase:base≤w.heap.size) :
  ∃ v' w',(Builtin.append_ #[t,t] ty #[v,.slice A m c]).run P w = .ok v' w'∧w'.ownsRow base e size v' (n+m) (xs ++ news)∧w.grownBy w' v.ownBlock ∧
   (v'.ownBlock=v.ownBlock∨v'.ownBlock=some w.heap.size):=by
 obtain⟨hl,hn⟩:=hnews;rcases A with _ | ad
 ·have hm:m=0:=by
   rcases hn with h | ⟨b,o,h,_⟩
   ·exact h
   ·cases h
  subst hm;obtain rfl:news=[]:=m1_ (by simpa using hl);exact⟨v,w,M8_ w base t ty e i size ht hi v n xs hown c,by simpa using hown,World.grownBy.refl w _,.inl rfl⟩
 ·have hcells:∀ j u,news[j]?=some u→w.cell? (ad.add j)=some u:=by
   intro j u hu;rcases hn with h | ⟨b,o,h,hc⟩
   ·subst h;obtain rfl:news=[]:=m1_ (by simpa using hl);simp at hu
   ·injection h with h
    subst h;have e:(⟨b,o,none⟩:Addr).add j=⟨b,o+j,none⟩:=by unfold Addr.add;split <;> simp_all
    rw[e];exact hc j u hu
  obtain⟨v',w',hrun,h2,h3,_,h5⟩:=run_append_own_at (P:=P) w base t ty e i z size bytes ht hi hz hsize hby hzs hsz v n xs hown ad m c news hl hcells h1 h63 hbytes hbase;exact⟨v',w',hrun,h2,h3,h5⟩
theorem f1_ {ops:Array Oper} {rest:List Oper} {o:Oper} {a:Act} {Q:Exit→Act→World→Prop} (hgd:o.guard=none) (s x:Operand) (t:TypeId)
  (ho:o.op = .call { callee:=.builtin .append,args:=#[s,x],argTypes:=#[t,t] })
  (base:Nat) (e:TypeId) (i:TypeInfo) (z:Value) (size bytes:Nat) (ht:P.underlying t=some (.slice e)) (hi:P.info? e=some i) (hz:i.zero=some z)
  (hsize:i.size=size) (hby:i.bytes=bytes) (hzs:z.cells.size=size) (hsz:0<size)
  (v:Value) (n:Nat) (xs:List Value) (hs:a.eval s=v) (hown:w.ownsRow base e size v n xs)
  (A:Option Addr) (m c:Nat) (news:List Value) (hx:a.eval x = .slice A m c) (hnews:r2_ w A m news size) (h1:∀ u∈news,u.oneCell'=true)
  (h63:n+m≤maxLen) (hbytes:(n+m)*bytes≤140737488355328) (hbase:base≤w.heap.size)
  (h:∀ v' w',w'.ownsRow base e size v' (n+m) (xs ++ news)→w.grownBy w' v.ownBlock→(v'.ownBlock=v.ownBlock∨v'.ownBlock=some w.heap.size)→wpList P ops Q rest (a.put o.dst v') w'):wpList P ops Q (o :: rest) a w:=by
 refine wpList_plain hgd fun K hK=>?_
 obtain⟨v',w',hrun,h2,h3,h4⟩:=Z9_ (P:=P) w base t o.type e i z size bytes ht hi hz hsize hby hzs hsz v n xs hown A m c news hnews h1 h63 hbytes hbase;unfold Oper.wp execOp;simp only[ho,resolve,invoke,builtin,Sem.run_bind,Sem.run_pure,Result.andThen_ok,List.map_toArray,List.map_cons,List.map_nil,hs,hx,hrun];exact hK _ _ (h v' w' h2 h3 h4)
end
theorem r2_.of_sl {w:World} {B:Nat} {A:Option Addr} {c:Nat} {l:List Int} (h:SlI w B (.slice A l.length c) l):r2_ w A l.length (l.map (Value.int .i64)) 1:=by
 refine⟨by simp,?_⟩;obtain⟨A',c',e,h1,h2,h3,h4⟩:=h;injection e with e1 e2 e3;subst e1
 rcases Nat.eq_zero_or_pos l.length with h0 | h0
 ·exact .inl h0
 ·obtain⟨b,o,rfl,_,hc⟩:=h4 h0;refine .inr ⟨b,o,rfl,fun j u hu=>?_⟩;rw[List.getElem?_map,Option.map_eq_some_iff]at hu;obtain⟨x,hx,rfl⟩:=hu;have:=(hc j x hx).1;simpa using this
theorem a2x (l:List Int):∀ u∈l.map (Value.int .i64),u.oneCell'=true:=by
 intro u hu;obtain⟨x,_,rfl⟩:=List.mem_map.1 hu;rfl
theorem d7_ {w:World} {ops:Array Oper} {rest:List Oper} {o:Oper} {a:Act} {Q:Exit→Act→World→Prop} (hgd:o.guard=none) (s x:Operand)
  (ho:o.op = .call { callee:=.builtin .append,args:=#[s,x],argTypes:=#[24,24] })
  (base B:Nat) (v:Value) (l:List Int) (hs:a.eval s=v) (hown:OwnI w base v l) (A:Option Addr) (m c:Nat) (news:List Int) (hx:a.eval x = .slice A m c) (hm:m=news.length) (hr:SlI w B (.slice A news.length c) news)
  (hn:l.length+news.length≤17592186044416) (hbase:base≤w.heap.size)
  (h:∀ v' w',OwnI w' base v' (l ++ news)→w.grownBy w' v.ownBlock→(v'.ownBlock=v.ownBlock∨v'.ownBlock=some w.heap.size)→wpList Tryz.prog ops Q rest (a.put o.dst v') w'):wpList Tryz.prog ops Q (o :: rest) a w:=by
 subst hm;obtain⟨i0,hi,hz0,hz1,hz2⟩:=info_parts u1_;refine f1_ w hgd s x _ ho base 3 i0 _ 1 8 Tryz.underlying24 hi hz0 hz1 hz2 rfl (by decide) v l.length _ hs hown.1 A _ c _ hx (r2_.of_sl hr) (a2x news) (by simp only[maxLen];omega) (by omega) hbase fun v' w' h1 h2 h3=>?_
 refine h v' w' ⟨by simpa using h1,by simpa using hn,fun y hy=>?_⟩ h2 h3;rcases List.mem_append.1 hy with hy | hy
 ·exact hown.2.2 y hy
 ·exact SlI.i64 hr y hy
theorem SlI.one (w:World) (t:TypeId) (x:Int) (hx:I64 x):SlI (w.alloc (.cells #[.int .i64 x] t)) (w.alloc (.cells #[.int .i64 x] t)).heap.size (.slice (some ⟨w.heap.size,0,none⟩) 1 1) [x]:=by
 refine⟨_,1,rfl,by simp,by omega,by simp,fun _=>⟨w.heap.size,0,rfl,by simp,fun j y hj=>?_⟩⟩
 match j,hj with
 | 0,hj =>
  simp at hj;subst hj;exact⟨by simp,hx⟩
 | j+1,hj=>simp at hj
theorem SlI.one' (w:World) (t:TypeId) (x:Int) (hx:I64 x) {g:Nat} (hg:w.heap.size=g):SlI (w.alloc (.cells #[.int .i64 x] t)) (w.alloc (.cells #[.int .i64 x] t)).heap.size (.slice (some ⟨g,0,none⟩) 1 1) [x]:=by
 subst hg;exact SlI.one w t x hx
theorem OwnI.form {w:World} {base:Nat} {v:Value} {l:List Int} (h:OwnI w base v l):∃ A c,v = .slice A l.length c∧l.length≤c∧c≤9223372036854775807:=by
 rcases h.1.2 with ⟨rfl,h0⟩ | ⟨g,cap,cur,rfl,_,_,hnc,hcm,_⟩
 ·exact⟨none,0,by rw[h0],by omega,by omega⟩
 ·exact⟨_,_,rfl,hnc,by simp only[maxLen]at hcm;omega⟩
theorem OwnI.alloc {w:World} {base:Nat} {v:Value} {l:List Int} (h:OwnI w base v l) (o:Obj):OwnI (w.alloc o) base v l:=⟨h.1.alloc o,h.2⟩
theorem OwnI.drewN {w:World} {base:Nat} {v:Value} {l:List Int} (h:OwnI w base v l) (n:Nat):OwnI (w.drewN n) base v l:=h
theorem OwnI.kept {w w':World} {base:Nat} {v:Value} {l:List Int} {row:Option Nat} (h:OwnI w base v l) (hg:w.grownBy w' row) (hne:v.ownBlock=none∨v.ownBlock≠row):OwnI w' base v l:=⟨h.1.kept hg hne,h.2⟩
theorem OwnI.blkne {w:World} {base g:Nat} {v:Value} {l:List Int} {t:TypeId} {cs:Array Value} (h:OwnI w base v l) (hb:Blk w g t cs) (ht:3≠t):some g≠v.ownBlock:=by
 rcases h.1.2 with ⟨rfl,_⟩ | ⟨g',cap,cur,rfl,_,hh,_⟩
 ·simp[Value.ownBlock]
 ·intro he;have:g=g':=by simpa [Value.ownBlock] using he
  subst this;unfold Blk at hb;rw[hh]at hb;injection hb with hb
  injection hb with _ hb
  exact ht hb
theorem OwnI.setCell {w:World} {base:Nat} {v:Value} {l:List Int} (h:OwnI w base v l) {p:Addr} (hp:v.ownBlock≠some p.block) (u:Value):OwnI (w.setCell p u) base v l :=
 h.kept (row:=some p.block) ⟨rfl,rfl,rfl,by simp[World.setCell],fun k _ hne=>Below.heap_setCell _ _ _ _ (fun e=>hne (by rw[e]))⟩ (.inr hp)
theorem OwnI.made {w:World} {base:Nat} (t:TypeId) (ht:t=3) (hb:base≤w.heap.size):OwnI (w.alloc (.cells #[] t)) base (.slice (some ⟨w.heap.size,0,none⟩) 0 0) []:=by
 subst ht;exact⟨World.ownsRow_made w #[] 0 hb (l0_ _) (by simp),by simp,by simp⟩
theorem OwnI.lt {w:World} {base:Nat} {v:Value} {l:List Int} (h:OwnI w base v l):∀ k,v.ownBlock=some k→base≤k∧k<w.heap.size:=h.1.lt
structure Qv where
 v:Int
 f:List Int
 t:List Int
deriving DecidableEq
def QvR (w:World) (B:Nat) (val:Value) (q:Qv):Prop:=∃ a b,val = .agg #[.int .i64 q.v,a,b]∧SlI w B a q.f∧SlI w B b q.t∧I64 q.v
def QvO (w:World) (base:Nat) (val:Value) (q:Qv):Prop:=∃ a b,val = .agg #[.int .i64 q.v,a,b]∧OwnI w base a q.f∧OwnI w base b q.t∧(a.ownBlock=none∨a.ownBlock≠b.ownBlock)∧I64 q.v
theorem QvR.next {w w':World} {v:Value} {q:Qv} (hb:Below w.heap.size w w') (h:QvR w w.heap.size v q):QvR w' w'.heap.size v q:=by
 obtain⟨a,b,e,h1,h2,h3⟩:=h;exact⟨a,b,e,SlI.next hb h1,SlI.next hb h2,h3⟩
theorem QvR.below {w w':World} {B:Nat} {v:Value} {q:Qv} (hb:Below B w w') (h:QvR w B v q):QvR w' B v q:=by
 obtain⟨a,b,e,h1,h2,h3⟩:=h;exact⟨a,b,e,SlI.below hb h1,SlI.below hb h2,h3⟩
theorem QvR.more {w:World} {B B':Nat} {v:Value} {q:Qv} (hB:B≤B') (h:QvR w B v q):QvR w B' v q:=by
 obtain⟨a,b,e,h1,h2,h3⟩:=h;exact⟨a,b,e,SlI.more hB h1,SlI.more hB h2,h3⟩
theorem QvO.rd {w:World} {base:Nat} {v:Value} {q:Qv} (h:QvO w base v q):QvR w w.heap.size v q:=by
 obtain⟨a,b,e,h1,h2,_,h3⟩:=h;exact⟨a,b,e,h1.rd,h2.rd,h3⟩
theorem QvO.below {w w':World} {base:Nat} {v:Value} {q:Qv} (h:QvO w base v q) (hb:Below w.heap.size w w'):QvO w' base v q:=by
 obtain⟨a,b,e,h1,h2,h4,h3⟩:=h;exact⟨a,b,e,h1.below hb,h2.below hb,h4,h3⟩
theorem QvO.lower {w:World} {base base':Nat} {v:Value} {q:Qv} (h:QvO w base v q) (hb:base'≤base):QvO w base' v q:=by
 obtain⟨a,b,e,h1,h2,h4,h3⟩:=h;exact⟨a,b,e,h1.lower hb,h2.lower hb,h4,h3⟩
theorem QvR.open_ {w:World} {B:Nat} {v:Value} {q:Qv} (h:QvR w B v q):∃ A c C d,v = .agg #[.int .i64 q.v,.slice A q.f.length c,.slice C q.t.length d]∧SlI w B (.slice A q.f.length c) q.f∧SlI w B (.slice C q.t.length d) q.t∧I64 q.v∧q.f.length≤17592186044416∧q.t.length≤17592186044416:=by
 obtain⟨a,b,rfl,h1,h2,h3⟩:=h;obtain⟨A,c,rfl,_,_,h4,h1⟩:=h1.open_;obtain⟨C,d,rfl,_,_,h5,h2⟩:=h2.open_;exact⟨A,c,C,d,rfl,h1,h2,h3,h4,h5⟩
theorem Q5_ (p q:Qv):(p=q)↔(p.v=q.v∧p.f=q.f∧p.t=q.t):=by
 cases p;cases q;simp
def inR (n lo hi:Int):Bool:=decide (lo≤n∧n≤hi)
theorem j1_ {n lo hi:Int}:inR n lo hi=true↔lo≤n∧n≤hi:=by simp[inR]
theorem b5j {n lo hi:Int}:inR n lo hi=false↔¬ (lo≤n∧n≤hi):=by simp[inR]
theorem b7_ (n lo hi:Int) (w:World):Calls Tryz.prog 61 #[.int .i64 n,.int .i64 lo,.int .i64 hi] w fun e w'=>e = .returned (.bool (inR n lo hi))∧w'=w:=by
 by_cases h1:n<lo
 ·go_enter Tryz.func61,Tryz.ntmps61
  go_wp2;go_ret
  exact⟨by rw[b5j.2 (by omega)];rfl,rfl⟩
 ·have h1':lo≤n:=by omega
  by_cases h2:n≤hi
  ·go_enter Tryz.func61,Tryz.ntmps61
   go_wp2;go_ret
   exact⟨by rw[j1_.2 (by omega)];rfl,rfl⟩
  ·have h2':hi<n:=by omega
   go_enter Tryz.func61,Tryz.ntmps61
   go_wp2;go_ret
   exact⟨by rw[b5j.2 (by omega)];rfl,rfl⟩
theorem d4_ (n lo hi:Int) (w:World):Calls Tryz.prog 63 #[.int .i64 n,.int .i64 lo,.int .i64 hi] w fun e w'=>e = .returned (.bool (inR n lo hi))∧w'=w:=by
 by_cases h1:n<lo
 ·go_enter Tryz.func63,Tryz.ntmps63
  go_wp2;go_ret
  exact⟨by rw[b5j.2 (by omega)];rfl,rfl⟩
 ·have h1':lo≤n:=by omega
  by_cases h2:n≤hi
  ·go_enter Tryz.func63,Tryz.ntmps63
   go_wp2;go_ret
   exact⟨by rw[j1_.2 (by omega)];rfl,rfl⟩
  ·have h2':hi<n:=by omega
   go_enter Tryz.func63,Tryz.ntmps63
   go_wp2;go_ret
   exact⟨by rw[b5j.2 (by omega)];rfl,rfl⟩
def fidx (p:Int→Bool) (l:List Int):Int:=if l.findIdx p<l.length then (l.findIdx p:Int) else -1
theorem X3_ {p:Int→Bool} {l:List Int} (h:∀ x∈l,p x=false):fidx p l = -1:=by
 unfold fidx;rw[if_neg];intro hlt;have h1:=List.findIdx_getElem (w:=hlt);have h2:=h _ (List.getElem_mem hlt);rw[h1]at h2;cases h2
theorem X4_ {p:Int→Bool} {l:List Int} {k:Nat} {x:Int} (hx:l[k]?=some x) (hp:p x=true) (hb:∀ y∈l.take k,p y=false):fidx p l=k:=by
 have hk:=a6_ hx;have hxk:l[k]=x:=by rw[l2_ hk]at hx;injection hx
 have e:l.findIdx p=k:=by
  rw[List.findIdx_eq hk];refine⟨by rw[hxk];exact hp,fun j hj=>?_⟩;have:=hb l[j] (by rw[List.mem_take_iff_getElem];exact⟨j,by omega,rfl⟩);simp[this]
 unfold fidx;rw[e,if_pos hk]
theorem a7Z (p:Int→Bool) (l:List Int):decide (0≤fidx p l)=l.any p:=by
 unfold fidx;by_cases h:l.findIdx p<l.length
 ·rw[if_pos h];have h1:=List.findIdx_getElem (w:=h);have:l.any p=true:=List.any_eq_true.2 ⟨_,List.getElem_mem h,h1⟩;rw[this];simp
 ·rw[if_neg h];have:l.any p=false:=by
   rw[List.any_eq_false];intro x hx hpx;exact h (List.findIdx_lt_length_of_exists ⟨x,hx,hpx⟩)
  rw[this];simp
theorem c1Z (u:Value) (xs:List Int) (v:Int) (w:World) (hu:SlI w w.heap.size u xs) :
  Calls Tryz.prog 161 #[u,.int .i64 v] w fun e w'=>e = .returned (.int .i64 (fidx (fun x=>v == x) xs))∧w'=w:=by
 obtain⟨A,c,rfl,_,_,hn,hx⟩:=hu.open_;clear hu;go_enter Tryz.func161,Tryz.ntmps161
 go_wp2
 go_loop [8] (fun i=>∃ k:Nat,k≤xs.length∧i = .int .i64 k∧Hid (∀ y∈xs.take k,(v == y)=false)) (fun i=>xs.length-(intOf i).toNat)
 case atStart=>exact⟨0,l0_ _,rfl,by intro y hy;simp at hy⟩
 case round =>
  obtain⟨k,hk,rfl,hno⟩:=hrel;by_cases hlt:k<xs.length
  ·obtain⟨b,o,x,rfl,hb,HX,c1,_⟩:=SlI.at_ hx hlt;clear hx;rcases hvx:(v == x) with _ | _
   ·go_wp2;go_round
    case rel =>
     refine⟨k+1,by omega,by go_num,fun y hy=>?_⟩;rw[c6_ HX.out,List.mem_append,List.mem_singleton]at hy;rcases hy with hy | rfl
     ·exact hno.out y hy
     ·exact hvx
    case measure=>simp[intOf];omega
   ·have hfin:=h_ (X4_ HX.out hvx hno.out);go_wp2;go_ret
    exact⟨by rw[hfin.out];rfl,rfl⟩
  ·go_wp2;go_ret
   have h1:=hno.out;rw[l7_ (by omega)]at h1;exact⟨by rw[X3_ h1];rfl,rfl⟩
theorem X0_ (u:Value) (xs:List Int) (v:Int) (w:World) (hu:SlI w w.heap.size u xs) :
  Calls Tryz.prog 152 #[u,.int .i64 v] w fun e w'=>e = .returned (.bool (decide (v∈xs)))∧w'=w:=by
 have hd:decide (v∈xs)=decide (0≤fidx (fun x=>v == x) xs):=by
  rw[a7Z,Bool.eq_iff_iff];simp
 have HC:=c1Z u xs v w hu;rw[hd];generalize fidx (fun x=>v == x) xs=r at *;clear hd;have HC:=h_ HC;by_cases h:0≤r
 ·have e:decide (0≤r)=true:=by simpa using h
  rw[e];go_enter Tryz.func152,Tryz.ntmps152
  go_wp2_with fail
  refine (N2_ HC).mono ?_;rintro e w' ⟨rfl,rfl⟩;go_wp2;go_ret
  exact⟨rfl,rfl⟩
 ·have e:decide (0≤r)=false:=by simpa using h
  rw[e];go_enter Tryz.func152,Tryz.ntmps152
  go_wp2_with fail
  refine (N2_ HC).mono ?_;rintro e w' ⟨rfl,rfl⟩;go_wp2;go_ret
  exact⟨rfl,rfl⟩
theorem S9_ (p1 p2:Value) (p:Int→Bool) (u:Value) (xs:List Int) (w:World) (hu:SlI w w.heap.size u xs)
  (hF:∀ (W:World) (x:Int),Below w.heap.size w W→Calls Tryz.prog 144 #[.int .i64 x,p1,p2] W fun e w'=>e = .returned (.bool (p x))∧Below W.heap.size W w') :
  Calls Tryz.prog 156 #[u,.func (Fn.func 144) #[] #[p1,p2]] w fun e w'=>e = .returned (.int .i64 (fidx p xs))∧Below w.heap.size w w':=by
 obtain⟨A,c,rfl,_,_,hn,hx⟩:=hu.open_;clear hu;have HF:=h_ hF;clear hF;go_enter Tryz.func156,Tryz.ntmps156
 go_wp2;go_loopw [8] (fun i wr=>∃ k:Nat,k≤xs.length∧i = .int .i64 k∧Below w.heap.size w wr∧Hid (∀ y∈xs.take k,p y=false)) (fun i _=>xs.length-(intOf i).toNat)
 case atStart=>exact⟨0,l0_ _,rfl,Below.refl _ _,by intro y hy;simp at hy⟩
 case round =>
  obtain⟨k,hk,rfl,hbel,hno⟩:=hrel;by_cases hlt:k<xs.length
  ·obtain⟨b,o,x,rfl,hb,HX,c1,_⟩:=SlI.at_ hx hlt;have d1:=a4_ hbel hb c1;clear hx c1;have HC:=HF.out wr x hbel;obtain⟨B,hB⟩:=e_ (p x);rw[hB]at HC;have HC:=h_ HC;have HB:=h_ hB;clear hB;cases B
   ·go_wp2_with fail
    refine (N2_ HC).mono ?_;rintro e w1 ⟨rfl,hb1⟩;go_wp2;go_roundw
    case rel =>
     refine⟨k+1,by omega,by go_num,hbel.trans (hb1.mono hbel.size),fun y hy=>?_⟩;rw[c6_ HX.out,List.mem_append,List.mem_singleton]at hy;rcases hy with hy | rfl
     ·exact hno.out y hy
     ·exact HB.out
    case measure=>simp[intOf];omega
   ·have hfin:=h_ (X4_ HX.out HB.out hno.out);go_wp2_with fail
    refine (N2_ HC).mono ?_;rintro e w1 ⟨rfl,hb1⟩;go_wp2;go_ret
    exact⟨by rw[hfin.out];rfl,hbel.trans (hb1.mono hbel.size)⟩
  ·go_wp2;go_ret
   have h1:=hno.out;rw[l7_ (by omega)]at h1;exact⟨by rw[X3_ h1];rfl,hbel⟩
theorem I0_ (p1 p2:Value) (p:Int→Bool) (u:Value) (xs:List Int) (w:World) (hu:SlI w w.heap.size u xs)
  (hF:∀ (W:World) (x:Int),Below w.heap.size w W→Calls Tryz.prog 144 #[.int .i64 x,p1,p2] W fun e w'=>e = .returned (.bool (p x))∧Below W.heap.size W w') :
  Calls Tryz.prog 143 #[u,.func (Fn.func 144) #[] #[p1,p2]] w fun e w'=>e = .returned (.bool (xs.any p))∧Below w.heap.size w w':=by
 have hd:=a7Z p xs;have HC:=S9_ p1 p2 p u xs w hu hF;rw[←hd];generalize fidx p xs=r at *;clear hd hF;have HC:=h_ HC;by_cases h:0≤r
 ·have e:decide (0≤r)=true:=by simpa using h
  rw[e];go_enter Tryz.func143,Tryz.ntmps143
  go_wp2_with fail
  refine (N2_ HC).mono ?_;rintro e w1 ⟨rfl,hb1⟩;go_wp2;go_ret
  exact⟨rfl,hb1⟩
 ·have e:decide (0≤r)=false:=by simpa using h
  rw[e];go_enter Tryz.func143,Tryz.ntmps143
  go_wp2_with fail
  refine (N2_ HC).mono ?_;rintro e w1 ⟨rfl,hb1⟩;go_wp2;go_ret
  exact⟨rfl,hb1⟩
theorem N9_ (g1 g2:Nat) (lo hi x:Int) (W:World) (h1:W.cell? ⟨g1,0,none⟩=some (.int .i64 lo)) (h2:W.cell? ⟨g2,0,none⟩=some (.int .i64 hi)) :
  Calls Tryz.prog 144 #[.int .i64 x,.pointer (some ⟨g1,0,none⟩),.pointer (some ⟨g2,0,none⟩)] W fun e w'=>e = .returned (.bool (!inR x lo hi))∧Below W.heap.size W w':=by
 go_enter Tryz.func144,Tryz.ntmps144
 go_wp2_with fail
 refine (b7_ _ _ _ _).mono ?_;rintro e w' ⟨rfl,rfl⟩;go_wp2;go_ret
 exact⟨rfl,Below.refl _ _⟩
def allR (l:List Int) (lo hi:Int):Bool:=l.all fun x=>inR x lo hi
theorem W2_ {l:List Int} {lo hi:Int}:allR l lo hi=true↔∀ x∈l,lo≤x∧x≤hi:=by simp[allR,inR]
theorem k2_ (u:Value) (xs:List Int) (lo hi:Int) (w:World) (hu:SlI w w.heap.size u xs) :
  Calls Tryz.prog 119 #[u,.int .i64 lo,.int .i64 hi] w fun e w'=>e = .returned (.bool (allR xs lo hi))∧Below w.heap.size w w':=by
 obtain⟨W,hW,g0,k1,k2⟩:=b_4 w #[.int .i64 lo] 3 #[.int .i64 hi] 3;have HC:=I0_ (.pointer (some ⟨w.heap.size,0,none⟩)) (.pointer (some ⟨w.heap.size+1,0,none⟩)) (fun x=>!inR x lo hi) u xs W (SlI.next g0 hu) (fun W' x hb =>
  N9_ _ _ lo hi x W' ((k1.below hb k1.lt).cell' (i:=0) rfl) ((k2.below hb k2.lt).cell' (i:=0) rfl))
 have e:allR xs lo hi = !(xs.any fun x=>!inR x lo hi):=by simp[allR,List.any_eq_not_all_not]
 rw[e];generalize (xs.any fun x=>!inR x lo hi)=B at *;obtain⟨A,c,rfl,_,_,_,_⟩:=hu.open_;clear hu e k1 k2;have HC:=h_ HC;have hmf:∀ (fn:Fn) (first cap:Array Value) (w:World),(Instr.makeFunc fn first cap).run Tryz.prog w = .ok (.func fn first cap) w:=fun _ _ _ _=>rfl
 go_enter Tryz.func119,Tryz.ntmps119
 go_wp2_with fail
 rw[←hW];refine (N2_ HC).mono ?_;rintro e w1 ⟨rfl,hb1⟩;go_wp2;go_ret
 exact⟨rfl,b0_ g0 hb1⟩
def sumW (l:List Int):Int:=l.foldl (fun s x=>wrap64 (s+x)) 0
theorem c9J (l:List Int) (x:Int):sumW (l ++ [x])=wrap64 (sumW l+x):=by simp[sumW]
theorem g7z (lo hi:Int) (h0:lo≤0) (h1:0≤hi):∀ (l:List Int) (acc:Int) (m:Nat),(∀ x∈l,lo≤x∧x≤hi)→lo*m≤acc→acc≤hi*m→hi*((m+l.length:Nat):Int)≤9223372036854775807→-9223372036854775808≤lo*((m+l.length:Nat):Int) →
  l.foldl (fun s x=>wrap64 (s+x)) acc=acc+l.sum∧lo*((m+l.length:Nat):Int)≤acc+l.sum∧acc+l.sum≤hi*((m+l.length:Nat):Int)
 | [],acc,m,_,ha,hb,_,_=>by simp;exact⟨ha,hb⟩
 | x :: l,acc,m,hl,ha,hb,hc,hd=>by
  obtain⟨hx1,hx2⟩:=hl x (by simp);have e:((m+(x :: l).length:Nat):Int)=(((m+1)+l.length:Nat):Int):=by simp;omega
  rw[e]at hc hd⊢;have m1:lo*((m+1:Nat):Int)=lo*m+lo:=by rw[Int.natCast_add,Int.mul_add];simp
  have m2:hi*((m+1:Nat):Int)=hi*m+hi:=by rw[Int.natCast_add,Int.mul_add];simp
  have n1:lo*(((m+1)+l.length:Nat):Int)≤lo*((m+1:Nat):Int):=Int.mul_le_mul_of_nonpos_left h0 (by omega);have n2:hi*((m+1:Nat):Int)≤hi*(((m+1)+l.length:Nat):Int):=Int.mul_le_mul_of_nonneg_left (by omega) h1;have hw:wrap64 (acc+x)=acc+x:=IntWalk.wrap64_in _ ⟨by omega,by omega⟩;have ih:=g7z lo hi h0 h1 l (acc+x) (m+1) (fun y hy=>hl y (by simp[hy])) (by omega) (by omega) hc hd;rw[List.foldl_cons,hw,List.sum_cons];rw[←Int.add_assoc];exact ih
theorem R0_ (l:List Int) (lo hi:Int) (h0:lo≤0) (h1:0≤hi) (hl:∀ x∈l,lo≤x∧x≤hi) (hb:hi*l.length≤9223372036854775807) (hb':-9223372036854775808≤lo*l.length):sumW l=l.sum∧lo*l.length≤l.sum∧l.sum≤hi*l.length:=by
 have:=g7z lo hi h0 h1 l 0 0 hl (by simp) (by simp) (by simpa using hb) (by simpa using hb');simpa [sumW] using this
theorem a0J (u:Value) (xs:List Int) (w:World) (hu:SlI w w.heap.size u xs) :
  Calls Tryz.prog 50 #[u] w fun e w'=>e = .returned (.int .i64 (sumW xs))∧w'=w:=by
 obtain⟨A,c,rfl,_,_,hn,hx⟩:=hu.open_;clear hu;go_enter Tryz.func50,Tryz.ntmps50
 go_wp2
 go_loop [3,8] (fun s i=>∃ k:Nat,k≤xs.length∧i = .int .i64 k∧s = .int .i64 (sumW (xs.take k))) (fun _ i=>xs.length-(intOf i).toNat)
 case atStart=>exact⟨0,l0_ _,rfl,rfl⟩
 case round =>
  obtain⟨k,hk,rfl,rfl⟩:=hrel;by_cases hlt:k<xs.length
  ·obtain⟨b,o,x,rfl,hb,HX,c1,_⟩:=SlI.at_ hx hlt;clear hx;have HS:=h_ (show sumW (xs.take (k+1))=wrap64 (sumW (xs.take k)+x) by rw[c6_ HX.out,c9J]);generalize sumW (xs.take k)=s at *;go_wp2;go_round
   case rel=>exact⟨k+1,by omega,by go_num,by rw[HS.out]⟩
   case measure=>simp[intOf];omega
  ·go_wp2;go_ret
   exact⟨by rw[l7_ (by omega)];rfl,rfl⟩
def isQ (q:Qv):Bool:=inR q.v 1 5 && decide (q.f.length=q.t.length) && decide (q.f.length≤6) && allR q.f 0 (q.v-1) && allR q.t 0 (q.v-1)
theorem j2_ {q:Qv}:isQ q=true↔(1≤q.v∧q.v≤5)∧q.f.length=q.t.length∧q.f.length≤6∧(∀ x∈q.f,0≤x∧x≤q.v-1)∧(∀ x∈q.t,0≤x∧x≤q.v-1):=by
 simp only[isQ,l9_,j1_,W2_,decide_eq_true_eq,and_assoc]
theorem g6_ (u:Value) (q:Qv) (w:World) (hu:QvR w w.heap.size u q) :
  Calls Tryz.prog 112 #[u] w fun e w'=>e = .returned (.bool (isQ q))∧Below w.heap.size w w':=by
 obtain⟨A,c,C,d,rfl,hf,ht,hr,lf,lt⟩:=hu.open_;clear hu;obtain⟨W,hW,g0,kB⟩:=b_3 w #[.int .i64 q.v,.slice A q.f.length c,.slice C q.t.length d] 26;obtain⟨c0,c1,c2⟩:=c_3 kB;unfold isQ;rcases h1:inR q.v 1 5 with _ | _
 ·go_enter Tryz.func112,Tryz.ntmps112
  go_wp2_with fail
  rw[←hW];clear hW;refine (b7_ _ _ _ _).mono ?_;rintro e w' ⟨rfl,rfl⟩;rw[h1];go_wp2;go_ret
  exact⟨rfl,g0⟩
 have hb:=j1_.1 h1;obtain⟨hb1,hb2⟩:=hb;by_cases h2:q.f.length=q.t.length
 ·have e2:((q.f.length:Int) == q.t.length)=true:=by rw[beq_iff_eq];omega
  by_cases h3:q.f.length≤6
  ·have e3:decide (q.f.length≤6)=true:=by simpa using h3
   have e2':decide (q.f.length=q.t.length)=true:=by simpa using h2
   rw[e2',e3];clear h2 e2' e3;obtain⟨B1,hB1⟩:=e_ (allR q.f 0 (q.v-1));obtain⟨B2,hB2⟩:=e_ (allR q.t 0 (q.v-1));rw[hB1,hB2];have HB1:=h_ hB1;have HB2:=h_ hB2;clear hB1 hB2;cases B1
   ·go_enter Tryz.func112,Tryz.ntmps112
    go_wp2_with fail
    rw[←hW];clear hW;refine (b7_ _ _ _ _).mono ?_;rintro e w' ⟨rfl,rfl⟩;rw[h1];go_wp2_with fail
    refine (k2_ _ q.f _ _ _ (SlI.next g0 hf)).mono ?_;rintro e w1 ⟨rfl,hb1⟩;rw[HB1.out];go_wp2;go_ret
    exact⟨rfl,b0_ g0 hb1⟩
   ·go_enter Tryz.func112,Tryz.ntmps112
    go_wp2_with fail
    rw[←hW];clear hW;refine (b7_ _ _ _ _).mono ?_;rintro e w' ⟨rfl,rfl⟩;rw[h1];go_wp2_with fail
    refine (k2_ _ q.f _ _ _ (SlI.next g0 hf)).mono ?_;rintro e w1 ⟨rfl,hb1⟩;rw[HB1.out];have d0:=(kB.call hb1).cell' (i:=0) rfl;have d2:=(kB.call hb1).cell' (i:=2) rfl;have g1:=b0_ g0 hb1;clear c0 c1 c2;go_wp2_with fail
    refine (k2_ _ q.t _ _ _ (SlI.next g1 ht)).mono ?_;rintro e w2 ⟨rfl,hb2⟩;rw[HB2.out];go_wp2;go_ret
    exact⟨rfl,b0_ g1 hb2⟩
  ·have e3:decide (q.f.length≤6)=false:=by simpa using h3
   rw[e3];have e3':¬ ((q.f.length:Int)≤6):=by omega
   clear h2;simp only[Bool.and_false,Bool.false_and];go_enter Tryz.func112,Tryz.ntmps112
   go_wp2_with fail
   rw[←hW];clear hW;refine (b7_ _ _ _ _).mono ?_;rintro e w' ⟨rfl,rfl⟩;rw[h1];go_wp2;go_ret
   exact⟨rfl,g0⟩
 ·have e2:((q.f.length:Int) == q.t.length)=false:=by rw[beq_eq_false_iff_ne];omega
  have e2':decide (q.f.length=q.t.length)=false:=by simpa using h2
  rw[e2'];simp only[Bool.and_false,Bool.false_and];go_enter Tryz.func112,Tryz.ntmps112
  go_wp2_with fail
  rw[←hW];clear hW;refine (b7_ _ _ _ _).mono ?_;rintro e w' ⟨rfl,rfl⟩;rw[h1];go_wp2;go_ret
  exact⟨rfl,g0⟩
def okTo (q:Qv) (k:Nat):Prop:=(∀ x∈q.f.take k,inR x 0 (wrap64 (q.v-1))=true)∧∀ x∈q.t.take k,inR x 0 (wrap64 (q.v-1))=true
theorem c2Q {q:Qv} {x:Int} (hx:x∈q.f∨x∈q.t) (hr:inR x 0 (wrap64 (q.v-1))=false):isQ q=false:=by
 by_cases h:isQ q=true
 ·obtain⟨hv,_,_,hf,ht⟩:=j2_.1 h;have e:wrap64 (q.v-1)=q.v-1:=IntWalk.wrap64_in _ ⟨by omega,by omega⟩;rw[e,b5j]at hr;rcases hx with hx | hx
  ·exact absurd (hf x hx) hr
  ·exact absurd (ht x hx) hr
 ·simpa using h
theorem f8Q {q:Qv} {k:Nat} (h:okTo q k) (hk:¬ (k<q.f.length∧k<q.t.length)):isQ q=(inR q.v 1 5 && decide (q.f.length≤6) && decide (q.t.length=q.f.length)):=by
 rw[Bool.eq_iff_iff,j2_];simp only[l9_,j1_,decide_eq_true_eq];constructor
 ·rintro⟨h1,h2,h3,_⟩;exact⟨⟨h1,h3⟩,h2.symm⟩
 ·rintro⟨⟨h1,h3⟩,h2⟩;have e:wrap64 (q.v-1)=q.v-1:=IntWalk.wrap64_in _ ⟨by omega,by omega⟩;unfold okTo at h;rw[e,l7_ (by omega),l7_ (by omega)]at h;exact⟨h1,h2.symm,h3,fun x hx=>j1_.1 (h.1 x hx),fun x hx=>j1_.1 (h.2 x hx)⟩
theorem c5Q {q:Qv} {k:Nat} {x y:Int} (h:okTo q k) (hx:q.f[k]?=some x) (hy:q.t[k]?=some y) (h1:inR x 0 (wrap64 (q.v-1))=true) (h2:inR y 0 (wrap64 (q.v-1))=true):okTo q (k+1):=by
 refine⟨fun z hz=>?_,fun z hz=>?_⟩
 ·rw[c6_ hx,List.mem_append,List.mem_singleton]at hz;rcases hz with hz | rfl
  ·exact h.1 z hz
  ·exact h1
 ·rw[c6_ hy,List.mem_append,List.mem_singleton]at hz;rcases hz with hz | rfl
  ·exact h.2 z hz
  ·exact h2
theorem f3_ (u:Value) (q:Qv) (w:World) (hu:QvR w w.heap.size u q) :
  Calls Tryz.prog 71 #[u] w fun e w'=>e = .returned (.bool (isQ q))∧Below w.heap.size w w':=by
 obtain⟨A,c,C,d,rfl,hf,ht,hr,lf,lt⟩:=hu.open_;clear hu;have g0:Below w.heap.size w (w.alloc (.cells #[.int .i64 q.v,.slice A q.f.length c,.slice C q.t.length d] 26)):=a0_ _ _;have kB:=Blk.new w 26 #[.int .i64 q.v,.slice A q.f.length c,.slice C q.t.length d];go_enter Tryz.func71,Tryz.ntmps71
 go_wp2;go_loopw [3] (fun i wr=>∃ k:Nat,k≤q.f.length∧i = .int .i64 k∧Below w.heap.size w wr∧Blk wr w.heap.size 26 #[.int .i64 q.v,.slice A q.f.length c,.slice C q.t.length d]∧Hid (okTo q k)) (fun i _=>q.f.length-(intOf i).toNat)
 case atStart=>exact⟨0,l0_ _,rfl,g0,kB,by intro x hx;simp at hx,by intro x hx;simp at hx⟩
 case round =>
  clear g0 kB;obtain⟨k,hk,rfl,hbel,kB,hok⟩:=hrel;obtain⟨c0,c1,c2⟩:=c_3 kB;by_cases hlt:k<q.f.length∧k<q.t.length
  ·obtain⟨hlt1,hlt2⟩:=hlt;obtain⟨b,o,x,rfl,hb,HX,x1,_⟩:=SlI.at_ hf hlt1;obtain⟨b',o',y,rfl,hb',HY,y1,_⟩:=SlI.at_ ht hlt2;have s:=hbel.size;have d0:=InB.cell kB.lt c0;have d1:=InB.cell kB.lt c1;have d2:=InB.cell kB.lt c2;have d3:=InB.cell (by omega) (a4_ hbel hb x1);have d4:=InB.cell (by omega) (a4_ hbel hb' y1);obtain⟨u,hU⟩:=e_ (wrap64 (q.v-1));have HU:=h_ hU;clear x1 y1 hf ht c0;rcases hB1:inR x 0 u with _ | _
   ·have hfin:=h_ (c2Q (q:=q) (.inl (l4_ HX.out)) (by rw[HU.out];exact hB1));go_wp2
    (refine b1_ (by kernel_rfl) (by kernel_rfl) ?_;(repeat (go_big_quiet_step ((go_at_call 63;exact InB.call_same (d4_ _ _ _ _)))));refine wpQuiet_nil ?_;intro w1 hw';obtain⟨s1,hw1⟩:=hw';have hb1:=s1.below;rw[←hw1]at hb1;clear hw1 s1)
    go_wp2;go_ret
    exact⟨by rw[hfin.out];rfl,hbel.trans (hb1.mono s)⟩
   ·rcases hB2:inR y 0 u with _ | _
    ·have hfin:=h_ (c2Q (q:=q) (.inr (l4_ HY.out)) (by rw[HU.out];exact hB2));go_wp2
     (refine b1_ (by kernel_rfl) (by kernel_rfl) ?_;(repeat (go_big_quiet_step ((go_at_call 63;exact InB.call_same (d4_ _ _ _ _)))));refine wpQuiet_nil ?_;intro w1 hw';obtain⟨s1,hw1⟩:=hw';have hb1:=s1.below;rw[←hw1]at hb1;clear hw1 s1)
     go_wp2;go_ret
     exact⟨by rw[hfin.out];rfl,hbel.trans (hb1.mono s)⟩
    ·go_wp2
     (refine b1_ (by kernel_rfl) (by kernel_rfl) ?_;(repeat (go_big_quiet_step ((go_at_call 63;exact InB.call_same (d4_ _ _ _ _)))));refine wpQuiet_nil ?_;intro w1 hw';obtain⟨s1,hw1⟩:=hw';have hb1:=s1.below;rw[←hw1]at hb1;clear hw1 s1)
     go_wp2;go_roundw
     case rel=>exact⟨k+1,by omega,by go_num,hbel.trans (hb1.mono s),kB.call hb1,c5Q hok.out HX.out HY.out (by rw[HU.out];exact hB1) (by rw[HU.out];exact hB2)⟩
     case measure=>simp[intOf];omega
  ·have hE:=f8Q hok.out hlt;have hx:k<q.f.length→¬ k<q.t.length:=fun a b=>hlt ⟨a,b⟩
   clear hlt hf ht;rcases hB1:inR q.v 1 5 with _ | _
   ·rw[hB1]at hE;have hfin:=h_ hE;clear hE;by_cases ha:k<q.f.length;all_goals
     first | have hb:=hx ha | skip
     clear hx;go_wp2_with (go_at_call 63;refine (d4_ _ _ _ _).mono ?_;rintro e w' ⟨rfl,rfl⟩;rw[hB1])
     go_ret
     exact⟨by rw[hfin.out];rfl,hbel⟩
   ·rw[hB1]at hE;by_cases h6:q.f.length≤6
    ·by_cases hl:q.t.length=q.f.length
     ·have hfin:Hid (isQ q=true):=by show _=_;rw[hE];simp[h6,hl]
      have he:((q.t.length:Int) == q.f.length)=true:=by rw[beq_iff_eq];omega
      have h6':(q.f.length:Int)≤6:=by omega
      clear hE hl;by_cases ha:k<q.f.length;all_goals
       first | have hb:=hx ha | skip
       clear hx;go_wp2_with (go_at_call 63;refine (d4_ _ _ _ _).mono ?_;rintro e w' ⟨rfl,rfl⟩;rw[hB1])
       go_ret
       exact⟨by rw[hfin.out];rfl,hbel⟩
     ·have hfin:Hid (isQ q=false):=by show _=_;rw[hE];simp[hl]
      have he:((q.t.length:Int) == q.f.length)=false:=by rw[beq_eq_false_iff_ne];omega
      have h6':(q.f.length:Int)≤6:=by omega
      clear hE hl;by_cases ha:k<q.f.length;all_goals
       first | have hb:=hx ha | skip
       clear hx;go_wp2_with (go_at_call 63;refine (d4_ _ _ _ _).mono ?_;rintro e w' ⟨rfl,rfl⟩;rw[hB1])
       go_ret
       exact⟨by rw[hfin.out];rfl,hbel⟩
    ·have hfin:Hid (isQ q=false):=by show _=_;rw[hE];simp[h6]
     have h6':¬ ((q.f.length:Int)≤6):=by omega
     clear hE h6;by_cases ha:k<q.f.length;all_goals
      first | have hb:=hx ha | skip
      clear hx;go_wp2_with (go_at_call 63;refine (d4_ _ _ _ _).mono ?_;rintro e w' ⟨rfl,rfl⟩;rw[hB1])
      go_ret
      exact⟨by rw[hfin.out];rfl,hbel⟩
def zzAt (k:Nat) (x y:Int):Bool:=decide ((x=k∧y=k+1)∨(x=k+1∧y=k))
def zzTo (q:Qv) (k:Nat):Prop:=∀ (j:Nat) (x y:Int),j<k→q.f[j]?=some x→q.t[j]?=some y→zzAt j x y=true
def isZ (q:Qv):Bool:=isQ q && decide ((q.f.length:Int)=q.v-1) && (List.range q.f.length).all fun j=>zzAt j (q.f.getD j 0) (q.t.getD j 0)
theorem f9j {q:Qv} (h:isQ q=false):isZ q=false:=by simp[isZ,h]
theorem f8X {q:Qv} (h:¬ (q.f.length:Int)=q.v-1):isZ q=false:=by simp[isZ,h]
theorem f8Z {q:Qv} {k:Nat} {x y:Int} (hx:q.f[k]?=some x) (hy:q.t[k]?=some y) (h:zzAt k x y=false):isZ q=false:=by
 have hk:=a6_ hx;have e1:q.f.getD k 0=x:=by simp[List.getD,hx]
 have e2:q.t.getD k 0=y:=by simp[List.getD,hy]
 have:((List.range q.f.length).all fun j=>zzAt j (q.f.getD j 0) (q.t.getD j 0))=false:=by
  rw[List.all_eq_false];exact⟨k,List.mem_range.2 hk,by rw[e1,e2,h];simp⟩
 simp only[isZ,this,Bool.and_false]
theorem c2X {q:Qv} (h1:isQ q=true) (h2:(q.f.length:Int)=q.v-1) (h:zzTo q q.f.length):isZ q=true:=by
 have hl:=(j2_.1 h1).2.1;simp only[isZ,h1,h2,decide_true,Bool.true_and];rw[List.all_eq_true];intro j hj;have hj:=List.mem_range.1 hj;have hj':j<q.t.length:=by omega
 exact h j _ _ hj (by simp[List.getD,hj]) (by simp[List.getD,hj'])
theorem d0q {q:Qv} {k:Nat} {x y:Int} (h:zzTo q k) (hx:q.f[k]?=some x) (hy:q.t[k]?=some y) (hz:zzAt k x y=true):zzTo q (k+1):=by
 intro j a b hj ha hb;by_cases e:j=k
 ·subst e;rw[hx]at ha;rw[hy]at hb;injection ha with ha
  injection hb with hb
  subst ha hb;exact hz
 ·exact h j a b (by omega) ha hb
theorem f2_ (u:Value) (q:Qv) (w:World) (hu:QvR w w.heap.size u q) :
  Calls Tryz.prog 70 #[u] w fun e w'=>e = .returned (.bool (isZ q))∧Below w.heap.size w w':=by
 have hu':=hu;obtain⟨A,c,C,d,rfl,hf,ht,hr,lf,lt⟩:=hu.open_;clear hu;obtain⟨W,hW,g0,kB⟩:=b_3 w #[.int .i64 q.v,.slice A q.f.length c,.slice C q.t.length d] 26;rcases hQ:isQ q with _ | _
 ·rw[f9j hQ];go_enter Tryz.func70,Tryz.ntmps70
  go_wp2_with fail
  rw[←hW];clear hW;refine (g6_ _ q _ (hu'.next g0)).mono ?_;rintro e w1 ⟨rfl,hb1⟩;rw[hQ];go_wp2;go_ret
  exact⟨rfl,b0_ g0 hb1⟩
 obtain⟨⟨v1,v2⟩,hl,h6,_,_⟩:=j2_.1 hQ;have HL:=h_ hl;have hl':q.f.length≤q.t.length:=by omega
 clear hl;by_cases hn:(q.f.length:Int)=q.v-1
 ·have hn':((q.f.length:Int) != q.v-1)=false:=by rw[bne_eq_false_iff_eq];exact hn
  have HN:=h_ hn;clear hn;go_enter Tryz.func70,Tryz.ntmps70
  go_wp2_with fail
  rw[←hW];clear hW;refine (g6_ _ q _ (hu'.next g0)).mono ?_;rintro e w1 ⟨rfl,hb1⟩;rw[hQ];have g1:=b0_ g0 hb1;have kB1:=kB.call hb1;obtain⟨c0,c1,c2⟩:=c_3 kB1;clear kB g0 hb1 hu';go_wp2;go_loopw [20] (fun i wr=>∃ (k m:Nat),k≤q.f.length∧i = .int .i64 k∧wr=w1.drewN m∧Hid (zzTo q k)) (fun i _=>q.f.length-(intOf i).toNat)
  case atStart=>exact⟨0,0,l0_ _,rfl,rfl,fun j x y hj=>absurd hj (by omega)⟩
  case round =>
   obtain⟨k,m,hk,rfl,rfl,hz⟩:=hrel;by_cases hlt:k<q.f.length
   ·obtain⟨b,o,x,rfl,hb,HX,x1,hx1,hx2⟩:=SlI.at_ hf hlt;obtain⟨b',o',y,rfl,hb',HY,y1,hy1,hy2⟩:=SlI.at_ ht (show k<q.t.length by omega);have d1:=a4_ g1 hb x1;have d2:=a4_ g1 hb' y1;clear hf ht x1 y1;rcases hzz:zzAt k x y with _ | _
    ·have hfin:=h_ (f8Z HX.out HY.out hzz);have hno:¬ ((x=k∧y=k+1)∨(x=k+1∧y=k)):=by simpa [zzAt] using hzz
     have HNo:=h_ hno;clear hno hzz;rcases Int.lt_trichotomy x y with hxy | hxy | hxy
     ·by_cases h1:x=k
      ·have e1:(x != (k:Int))=false:=by simpa using h1
       have e2:(y != (k:Int)+1)=true:=by rw[bne_iff_ne];exact fun h=>HNo.out (.inl ⟨h1,h⟩)
       have hle:x≤y:=by omega
       have hle':¬ y<x:=by omega
       clear h1;go_wp2;go_ret
       exact⟨by rw[hfin.out];rfl,d2_ g1 _⟩
      ·have e1:(x != (k:Int))=true:=by simpa using h1
       have hle:x≤y:=by omega
       have hle':¬ y<x:=by omega
       clear h1;go_wp2;go_ret
       exact⟨by rw[hfin.out];rfl,d2_ g1 _⟩
     ·subst hxy;by_cases h1:x=k
      ·have e1:(x != (k:Int))=false:=by simpa using h1
       have e2:(x != (k:Int)+1)=true:=by rw[bne_iff_ne];omega
       clear h1;go_wp2;go_ret
       exact⟨by rw[hfin.out];rfl,d2_ g1 _⟩
      ·have e1:(x != (k:Int))=true:=by simpa using h1
       clear h1;go_wp2;go_ret
       exact⟨by rw[hfin.out];rfl,d2_ g1 _⟩
     ·by_cases h1:y=k
      ·have e1:(y != (k:Int))=false:=by simpa using h1
       have e2:(x != (k:Int)+1)=true:=by rw[bne_iff_ne];exact fun h=>HNo.out (.inr ⟨h,h1⟩)
       have hle:y≤x:=by omega
       have hle':¬ x<y:=by omega
       clear h1;go_wp2;go_ret
       exact⟨by rw[hfin.out];rfl,d2_ g1 _⟩
      ·have e1:(y != (k:Int))=true:=by simpa using h1
       have hle:y≤x:=by omega
       have hle':¬ x<y:=by omega
       clear h1;go_wp2;go_ret
       exact⟨by rw[hfin.out];rfl,d2_ g1 _⟩
    ·have hyes:(x=k∧y=k+1)∨(x=k+1∧y=k):=by simpa [zzAt] using hzz
     have hst:=h_ (d0q hz.out HX.out HY.out hzz);clear hzz HX HY;rcases hyes with ⟨rfl,rfl⟩ | ⟨rfl,rfl⟩
     all_goals
      go_wp2;go_roundw
      case rel=>exact⟨k+1,m,by omega,by go_num,rfl,hst.out⟩
      case measure=>simp[intOf];omega
   ·go_wp2;go_ret
    have hfin:=c2X hQ HN.out (fun j x y hj=>hz.out j x y (by omega));exact⟨by rw[hfin];rfl,d2_ g1 _⟩
 ·have hn':((q.f.length:Int) != q.v-1)=true:=by rw[bne_iff_ne];exact hn
  rw[f8X hn];clear hn;go_enter Tryz.func70,Tryz.ntmps70
  go_wp2_with fail
  rw[←hW];clear hW;refine (g6_ _ q _ (hu'.next g0)).mono ?_;rintro e w1 ⟨rfl,hb1⟩;rw[hQ];have c0:=(kB.call hb1).cell' (i:=0) rfl;have c1:=(kB.call hb1).cell' (i:=1) rfl;go_wp2;go_ret
  exact⟨rfl,b0_ g0 hb1⟩
def lnAt (k:Nat) (x y:Int):Bool:=decide (x=k∧y=k+1)
def lnTo (q:Qv) (k:Nat):Prop:=∀ (j:Nat) (x y:Int),j<k→q.f[j]?=some x→q.t[j]?=some y→lnAt j x y=true
def isL (q:Qv):Bool:=isQ q && decide ((q.f.length:Int)=q.v-1) && (List.range q.f.length).all fun j=>lnAt j (q.f.getD j 0) (q.t.getD j 0)
theorem f8x {q:Qv} (h:isQ q=false):isL q=false:=by simp[isL,h]
theorem f8z {q:Qv} (h:¬ (q.f.length:Int)=q.v-1):isL q=false:=by simp[isL,h]
theorem c2q {q:Qv} {k:Nat} {x y:Int} (hx:q.f[k]?=some x) (hy:q.t[k]?=some y) (h:lnAt k x y=false):isL q=false:=by
 have hk:=a6_ hx;have e1:q.f.getD k 0=x:=by simp[List.getD,hx]
 have e2:q.t.getD k 0=y:=by simp[List.getD,hy]
 have:((List.range q.f.length).all fun j=>lnAt j (q.f.getD j 0) (q.t.getD j 0))=false:=by
  rw[List.all_eq_false];exact⟨k,List.mem_range.2 hk,by rw[e1,e2,h];simp⟩
 simp only[isL,this,Bool.and_false]
theorem c2z {q:Qv} (h1:isQ q=true) (h2:(q.f.length:Int)=q.v-1) (h:lnTo q q.f.length):isL q=true:=by
 have hl:=(j2_.1 h1).2.1;simp only[isL,h1,h2,decide_true,Bool.true_and];rw[List.all_eq_true];intro j hj;have hj:=List.mem_range.1 hj;have hj':j<q.t.length:=by omega
 exact h j _ _ hj (by simp[List.getD,hj]) (by simp[List.getD,hj'])
theorem u9_ {q:Qv} (h:isZ q=true):isQ q=true∧(q.f.length:Int)=q.v-1∧zzTo q q.f.length:=by
 simp only[isZ,l9_,decide_eq_true_eq,List.all_eq_true]at h;refine⟨h.1.1,h.1.2,fun j x y hj hx hy=>?_⟩;have:=h.2 j (List.mem_range.2 hj);simpa [List.getD,hx,hy] using this
theorem T1_ {q:Qv} (h:isZ q=false):isL q=false:=by
 rcases h1:isL q with _ | _
 ·rfl
 ·simp only[isL,l9_,decide_eq_true_eq,List.all_eq_true]at h1;have:isZ q=true:=c2X h1.1.1 h1.1.2 (fun j x y hj hx hy=>by
   have:=h1.2 j (List.mem_range.2 hj);simp only[List.getD,hx,hy,Option.getD_some,lnAt,decide_eq_true_eq]at this;simp[zzAt,this])
  rw[h]at this;cases this
def c0z (q:Qv) (k:Nat):Prop:=∀ (j:Nat) (x:Int),j<k→q.f[j]?=some x→x=j
theorem f8J {q:Qv} (h:isZ q=true) (hf:c0z q q.f.length):isL q=true:=by
 obtain⟨h1,h2,h3⟩:=u9_ h;refine c2z h1 h2 fun j x y hj hx hy=>?_
 have e:=hf j x hj hx;have:=h3 j x y hj hx hy;simp only[zzAt,decide_eq_true_eq]at this;simp only[lnAt,decide_eq_true_eq];omega
theorem d3X {q:Qv} {k:Nat} {x:Int} (h:isZ q=true) (hx:q.f[k]?=some x) (hne:x≠k):isL q=false:=by
 obtain⟨h1,h2,h3⟩:=u9_ h;have hl:=(j2_.1 h1).2.1;have hk:=a6_ hx;obtain⟨y,hy⟩:∃ y,q.t[k]?=some y:=⟨_,l2_ (by omega)⟩;exact c2q hx hy (by simp[lnAt,hne])
theorem g1_ (u:Value) (q:Qv) (w:World) (hu:QvR w w.heap.size u q) :
  Calls Tryz.prog 27 #[u] w fun e w'=>e = .returned (.bool (isL q))∧Below w.heap.size w w':=by
 have hu':=hu;obtain⟨A,c,C,d,rfl,hf,ht,hr,lf,lt⟩:=hu.open_;clear hu;obtain⟨W,hW,g0,kB⟩:=b_3 w #[.int .i64 q.v,.slice A q.f.length c,.slice C q.t.length d] 26;rcases hQ:isZ q with _ | _
 ·rw[T1_ hQ];go_enter Tryz.func27,Tryz.ntmps27
  go_wp2_with fail
  rw[←hW];clear hW;refine (f2_ _ q _ (hu'.next g0)).mono ?_;rintro e w1 ⟨rfl,hb1⟩;rw[hQ];go_wp2;go_ret
  exact⟨rfl,b0_ g0 hb1⟩
 ·go_enter Tryz.func27,Tryz.ntmps27
  go_wp2_with fail
  rw[←hW];clear hW;refine (f2_ _ q _ (hu'.next g0)).mono ?_;rintro e w1 ⟨rfl,hb1⟩;rw[hQ];have g1:=b0_ g0 hb1;have kB1:=kB.call hb1;have c1:=kB1.cell' (i:=1) rfl;clear kB g0 hb1 hu';go_wp2;go_loopw [11] (fun i wr=>∃ (k m:Nat),k≤q.f.length∧i = .int .i64 k∧wr=w1.drewN m∧Hid (c0z q k)) (fun i _=>q.f.length-(intOf i).toNat)
  case atStart=>exact⟨0,0,l0_ _,rfl,rfl,fun j x hj=>absurd hj (by omega)⟩
  case round =>
   obtain⟨k,m,hk,rfl,rfl,hz⟩:=hrel;by_cases hlt:k<q.f.length
   ·obtain⟨b,o,x,rfl,hb,HX,x1,hx1,hx2⟩:=SlI.at_ hf hlt;have d1:=a4_ g1 hb x1;clear hf ht x1;by_cases h1:x=k
    ·have hst:=h_ (show c0z q (k+1) from fun j z hj hz'=>by
      by_cases e:j=k
      ·subst e;have:=HX.out;rw[this]at hz';injection hz' with hz'
       omega
      ·exact hz.out j z (by omega) hz')
     subst h1;go_wp2;go_roundw
     case rel=>exact⟨k+1,m,by omega,by go_num,rfl,hst.out⟩
     case measure=>simp[intOf];omega
    ·have e1:(x != (k:Int))=true:=by simpa using h1
     have hfin:=h_ (d3X hQ HX.out h1);clear h1;go_wp2;go_ret
     exact⟨by rw[hfin.out];rfl,d2_ g1 _⟩
   ·go_wp2;go_ret
    have hfin:=f8J hQ (fun j x hj=>hz.out j x (by omega));exact⟨by rw[hfin];rfl,d2_ g1 _⟩
theorem c4Q {q:Qv} {k:Nat} {x y:Int} (h:lnTo q k) (hx:q.f[k]?=some x) (hy:q.t[k]?=some y) (hz:lnAt k x y=true):lnTo q (k+1):=by
 intro j a b hj ha hb;by_cases e:j=k
 ·subst e;rw[hx]at ha;rw[hy]at hb;injection ha with ha
  injection hb with hb
  subst ha hb;exact hz
 ·exact h j a b (by omega) ha hb
theorem g2_ (u:Value) (q:Qv) (w:World) (hu:QvR w w.heap.size u q) :
  Calls Tryz.prog 28 #[u] w fun e w'=>e = .returned (.bool (isL q))∧Below w.heap.size w w':=by
 have hu':=hu;obtain⟨A,c,C,d,rfl,hf,ht,hr,lf,lt⟩:=hu.open_;clear hu;obtain⟨W,hW,g0,kB⟩:=b_3 w #[.int .i64 q.v,.slice A q.f.length c,.slice C q.t.length d] 26;rcases hQ:isQ q with _ | _
 ·rw[f8x hQ];go_enter Tryz.func28,Tryz.ntmps28
  go_wp2_with fail
  rw[←hW];clear hW;refine (f3_ _ q _ (hu'.next g0)).mono ?_;rintro e w1 ⟨rfl,hb1⟩;rw[hQ];go_wp2;go_ret
  exact⟨rfl,b0_ g0 hb1⟩
 obtain⟨⟨v1,v2⟩,hl,h6,_,_⟩:=j2_.1 hQ;have HL:=h_ hl;have hl':q.f.length≤q.t.length:=by omega
 clear hl;by_cases hn:(q.f.length:Int)=q.v-1
 ·have hn':((q.f.length:Int) != q.v-1)=false:=by rw[bne_eq_false_iff_eq];exact hn
  have HN:=h_ hn;clear hn;go_enter Tryz.func28,Tryz.ntmps28
  go_wp2_with fail
  rw[←hW];clear hW;refine (f3_ _ q _ (hu'.next g0)).mono ?_;rintro e w1 ⟨rfl,hb1⟩;rw[hQ];have g1:=b0_ g0 hb1;have kB1:=kB.call hb1;obtain⟨c0,c1,c2⟩:=c_3 kB1;clear kB g0 hb1 hu';go_wp2;go_loopw [3] (fun i wr=>∃ (k m:Nat),k≤q.f.length∧i = .int .i64 k∧wr=w1.drewN m∧Hid (lnTo q k)) (fun i _=>q.f.length-(intOf i).toNat)
  case atStart=>exact⟨0,0,l0_ _,rfl,rfl,fun j x y hj=>absurd hj (by omega)⟩
  case round =>
   obtain⟨k,m,hk,rfl,rfl,hz⟩:=hrel;by_cases hlt:k<q.f.length
   ·obtain⟨b,o,x,rfl,hb,HX,x1,hx1,hx2⟩:=SlI.at_ hf hlt;obtain⟨b',o',y,rfl,hb',HY,y1,hy1,hy2⟩:=SlI.at_ ht (show k<q.t.length by omega);have d1:=a4_ g1 hb x1;have d2:=a4_ g1 hb' y1;clear hf ht x1 y1;rcases hzz:lnAt k x y with _ | _
    ·have hfin:=h_ (c2q HX.out HY.out hzz);have hno:¬ (x=k∧y=k+1):=by simpa [lnAt] using hzz
     clear hzz;by_cases h1:x=k
     ·have e1:(x != (k:Int))=false:=by simpa using h1
      have e2:(y != (k:Int)+1)=true:=by rw[bne_iff_ne];exact fun h=>hno ⟨h1,h⟩
      clear h1 hno;go_wp2;go_ret
      exact⟨by rw[hfin.out];rfl,d2_ g1 _⟩
     ·have e1:(x != (k:Int))=true:=by simpa using h1
      clear h1 hno;go_wp2;go_ret
      exact⟨by rw[hfin.out];rfl,d2_ g1 _⟩
    ·have hyes:x=k∧y=k+1:=by simpa [lnAt] using hzz
     have hst:=h_ (c4Q hz.out HX.out HY.out hzz);clear hzz HX HY;obtain⟨rfl,rfl⟩:=hyes;go_wp2;go_roundw
     case rel=>exact⟨k+1,m,by omega,by go_num,rfl,hst.out⟩
     case measure=>simp[intOf];omega
   ·go_wp2;go_ret
    have hfin:=c2z hQ HN.out (fun j x y hj=>hz.out j x y (by omega));exact⟨by rw[hfin];rfl,d2_ g1 _⟩
 ·have hn':((q.f.length:Int) != q.v-1)=true:=by rw[bne_iff_ne];exact hn
  rw[f8z hn];clear hn;go_enter Tryz.func28,Tryz.ntmps28
  go_wp2_with fail
  rw[←hW];clear hW;refine (f3_ _ q _ (hu'.next g0)).mono ?_;rintro e w1 ⟨rfl,hb1⟩;rw[hQ];have c0:=(kB.call hb1).cell' (i:=0) rfl;have c1:=(kB.call hb1).cell' (i:=1) rfl;go_wp2;go_ret
  exact⟨rfl,b0_ g0 hb1⟩
end Go.Proofs.YtbgccbmdiolhbaaGreat

