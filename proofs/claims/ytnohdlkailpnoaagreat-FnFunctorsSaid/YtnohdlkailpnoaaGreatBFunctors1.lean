/- FnFunctors: the law holds for every argument. Part 1 of 14 of the proof: Base, Ints, App, Quiv, Kit, Kit2, KitM, KitM2, KitR, Chgs, Drw, OwnI, AppS, Cut6, Small, Bars, BarsK, Net, CmpB, Fmt, Find. No condition. -/
import Derived.Test.YtnohdlkailpnoaaGreatChecked
import Derived.WalkKit
import Derived.WalkLawsBesides
import Derived.WalkSpells
import Derived.RegionTactic
import Derived.Outline
import Derived.BigQuiet
import Derived.Deep.QuietTactic
import Derived.Deep.RegionHeld3
import Derived.StillTailTactics
import Derived.Deep.DeepCutAuto
import Derived.Deep.DeepMust
import Derived.Deep.DeepFit
import Derived.Lib.Hide
import Derived.Laws.StructEq
import Derived.Laws.OwnMore
import Derived.Laws.MakeOwn
import Derived.Laws.Rows
import Derived.Maps.AppendAt
import Derived.Deep.AppendLies
import Derived.Orders
import Derived.Lib.SlBytesRow
set_option linter.unusedVariables false
set_option linter.unusedSimpArgs false
set_option maxHeartbeats 12800000
set_option maxRecDepth 100000
namespace Go.Proofs.YtnohdlkailpnoaaGreat
open Go.RowKit
def I64 (x:Int):Prop:=-9223372036854775808≤x∧x≤9223372036854775807
def SlG {α:Type} (sz:Nat) (R:World→Nat→Nat→Nat→α→Prop) (w:World) (B:Nat) (val:Value) (xs:List α):Prop :=
 ∃ A c,val = .slice A xs.length c∧xs.length≤c∧c≤9223372036854775807∧xs.length≤17592186044416 ∧
  (0<xs.length→∃ b o,A=some ⟨b,o,none⟩∧b<B∧∀ j x,xs[j]?=some x→R w B b (o+j*sz) x)
theorem SlG.mono {α:Type} {sz:Nat} {R:World→Nat→Nat→Nat→α→Prop} {w w':World} {B B':Nat} {val:Value} {xs:List α} (hR:∀ b o x,b<B→R w B b o x→R w' B' b o x) (hB:B≤B')
  (h:SlG sz R w B val xs):SlG sz R w' B' val xs:=by
 obtain⟨A,c,e,h1,h2,h3,h4⟩:=h;refine⟨A,c,e,h1,h2,h3,fun hp=>?_⟩;obtain⟨b,o,e2,hb,hc⟩:=h4 hp;exact⟨b,o,e2,by omega,fun j x hx=>hR _ _ _ hb (hc j x hx)⟩
def RI (w:World) (_B b o:Nat) (x:Int):Prop:=w.cell? ⟨b,o,none⟩=some (.int .i64 x)∧I64 x
abbrev SlI:=SlG 1 RI
abbrev Bar:=Int×Int×Int
def RBar (w:World) (_B b o:Nat) (x:Bar):Prop:=(w.cell? ⟨b,o,none⟩=some (.int .i64 x.1)∧w.cell? ⟨b,o+1,none⟩=some (.int .i64 x.2.1)∧w.cell? ⟨b,o+2,none⟩=some (.int .i64 x.2.2))∧I64 x.1∧I64 x.2.1∧I64 x.2.2
abbrev SlB:=SlG 3 RBar
def RSlI (w:World) (B b o:Nat) (l:List Int):Prop:=∃ v,w.cell? ⟨b,o,none⟩=some v∧SlI w B v l
abbrev SlII:=SlG 1 RSlI
theorem a7_ {B:Nat} {w w':World} (h:Below B w w') {b o:Nat} {v:Value} (hb:b<B) (hc:w.cell? ⟨b,o,none⟩=some v):w'.cell? ⟨b,o,none⟩=some v :=
 (h.cell (p:=⟨b,o,none⟩) hb).trans hc
theorem SlI.below {w w':World} {B:Nat} {v:Value} {l:List Int} (hb:Below B w w') (h:SlI w B v l):SlI w' B v l :=
 SlG.mono (fun _ _ _ hlt ⟨hc,hx⟩=>⟨a7_ hb hlt hc,hx⟩) (Nat.le_refl _) h
theorem SlI.more {w:World} {B B':Nat} {v:Value} {l:List Int} (hB:B≤B') (h:SlI w B v l):SlI w B' v l :=
 SlG.mono (B:=B) (B':=B') (fun _ _ _ _ h=>h) hB h
theorem SlB.below {w w':World} {B:Nat} {v:Value} {l:List Bar} (hb:Below B w w') (h:SlB w B v l):SlB w' B v l :=
 SlG.mono (fun _ _ _ hlt ⟨⟨h0,h1,h2⟩,hx⟩=>⟨⟨a7_ hb hlt h0,a7_ hb hlt h1,a7_ hb hlt h2⟩,hx⟩) (Nat.le_refl _) h
theorem SlB.more {w:World} {B B':Nat} {v:Value} {l:List Bar} (hB:B≤B') (h:SlB w B v l):SlB w B' v l :=
 SlG.mono (B:=B) (B':=B') (fun _ _ _ _ h=>h) hB h
theorem SlII.below {w w':World} {B:Nat} {v:Value} {l:List (List Int)} (hb:Below B w w') (h:SlII w B v l):SlII w' B v l :=
 SlG.mono (fun _ _ _ hlt ⟨u,hc,hu⟩=>⟨u,a7_ hb hlt hc,SlI.below hb hu⟩) (Nat.le_refl _) h
theorem SlII.more {w:World} {B B':Nat} {v:Value} {l:List (List Int)} (hB:B≤B') (h:SlII w B v l):SlII w B' v l :=
 SlG.mono (fun _ _ _ _ ⟨u,hc,hu⟩=>⟨u,hc,SlI.more hB hu⟩) hB h
theorem SlI.next {w w':World} {v:Value} {l:List Int} (hb:Below w.heap.size w w') (h:SlI w w.heap.size v l):SlI w' w'.heap.size v l:=SlI.more hb.size (SlI.below hb h)
theorem SlB.next {w w':World} {v:Value} {l:List Bar} (hb:Below w.heap.size w w') (h:SlB w w.heap.size v l):SlB w' w'.heap.size v l:=SlB.more hb.size (SlB.below hb h)
theorem SlII.next {w w':World} {v:Value} {l:List (List Int)} (hb:Below w.heap.size w w') (h:SlII w w.heap.size v l):SlII w' w'.heap.size v l:=SlII.more hb.size (SlII.below hb h)
theorem a6_ {w w' w'':World} (h:Below w.heap.size w w') (k:Below w'.heap.size w' w''):Below w.heap.size w w'':=h.trans (k.mono h.size)
theorem SlI.at_ {w:World} {B c:Nat} {A:Option Addr} {xs:List Int} {k:Nat} (h:SlI w B (.slice A xs.length c) xs) (hk:k<xs.length) :
  ∃ b o x,A=some ⟨b,o,none⟩∧b<B∧Hid (xs[k]?=some x)∧w.cell? ⟨b,o+k,none⟩=some (.int .i64 x)∧-9223372036854775808≤x∧x≤9223372036854775807:=by
 obtain⟨A',c',e,h1,h2,h3,h4⟩:=h;injection e with e1 e2 e3;subst e1
 obtain⟨b,o,rfl,hb,hc⟩:=h4 (by omega);have hx:xs[k]?=some xs[k]:=List.getElem?_eq_getElem hk;obtain⟨h0,hr⟩:=hc k _ hx;exact⟨b,o,xs[k],rfl,hb,hx,by simpa using h0,hr.1,hr.2⟩
theorem SlB.at_ {w:World} {B c:Nat} {A:Option Addr} {xs:List Bar} {k:Nat} (h:SlB w B (.slice A xs.length c) xs) (hk:k<xs.length) :
  ∃ b o x y z,A=some ⟨b,o,none⟩∧b<B∧Hid (xs[k]?=some (x,y,z))∧w.cell? ⟨b,o+k*3,none⟩=some (.int .i64 x)∧w.cell? ⟨b,o+k*3+1,none⟩=some (.int .i64 y)∧w.cell? ⟨b,o+k*3+2,none⟩=some (.int .i64 z) ∧
   (-9223372036854775808≤x∧x≤9223372036854775807)∧(-9223372036854775808≤y∧y≤9223372036854775807)∧(-9223372036854775808≤z∧z≤9223372036854775807):=by
 obtain⟨A',c',e,h1,h2,h3,h4⟩:=h;injection e with e1 e2 e3;subst e1
 obtain⟨b,o,rfl,hb,hc⟩:=h4 (by omega);have hx:xs[k]?=some xs[k]:=List.getElem?_eq_getElem hk;obtain⟨⟨c0,c1,c2⟩,r0,r1,r2⟩:=hc k _ hx;exact⟨b,o,xs[k].1,xs[k].2.1,xs[k].2.2,rfl,hb,hx,c0,c1,c2,r0,r1,r2⟩
theorem SlII.at_ {w:World} {B c:Nat} {A:Option Addr} {xs:List (List Int)} {k:Nat} (h:SlII w B (.slice A xs.length c) xs) (hk:k<xs.length) :
  ∃ b o l A' c',A=some ⟨b,o,none⟩∧b<B∧Hid (xs[k]?=some l)∧w.cell? ⟨b,o+k,none⟩=some (.slice A' l.length c')∧SlI w B (.slice A' l.length c') l:=by
 obtain⟨A',c',e,h1,h2,h3,h4⟩:=h;injection e with e1 e2 e3;subst e1
 obtain⟨b,o,rfl,hb,hc⟩:=h4 (by omega);have hx:xs[k]?=some xs[k]:=List.getElem?_eq_getElem hk;obtain⟨v,hv,hs⟩:=hc k _ hx;have hs':=hs;obtain⟨A2,c2,rfl,_⟩:=hs;exact⟨b,o,xs[k],A2,c2,rfl,hb,hx,by simpa using hv,hs'⟩
theorem SlG.open_ {α:Type} {sz:Nat} {R:World→Nat→Nat→Nat→α→Prop} {w:World} {B:Nat} {val:Value} {xs:List α} (h:SlG sz R w B val xs) :
  ∃ A c,val = .slice A xs.length c∧xs.length≤c∧c≤9223372036854775807∧xs.length≤17592186044416∧SlG sz R w B (.slice A xs.length c) xs:=by
 have h':=h;obtain⟨A,c,rfl,h1,h2,h3,_⟩:=h;exact⟨A,c,rfl,h1,h2,h3,h'⟩
theorem SlG.nil {α:Type} {sz:Nat} {R:World→Nat→Nat→Nat→α→Prop} {w:World} {B:Nat}:SlG sz R w B (.slice none 0 0) ([]:List α) :=
 ⟨none,0,rfl,by simp,by omega,by simp,fun h=>absurd h (by simp)⟩
theorem c8_ {α:Type} {l:List α} {k:Nat} {x:α} (h:l[k]?=some x):l.take (k+1)=l.take k ++ [x]:=by
 rw[List.take_add_one,h];rfl
theorem b0_ {α:Type} {l:List α} {k:Nat} {x:α} (h:l[k]?=some x):k<l.length:=(List.getElem?_eq_some_iff.1 h).1
theorem g7_ {B:Nat} {a w:World} (h:Below B a w) (n:Nat):Below B a (w.drewN n):=⟨h.os,h.tape,h.output,h.size,h.block⟩
theorem f5_ (B:Nat) (w:World) (n:Nat):Below B w (w.drewN n):=g7_ (Below.refl _ _) n
def InB (w:World):Type:={ W:World // Below w.heap.size w W }
instance instNonemptyInB (w:World):Nonempty (InB w):=⟨⟨w,Below.refl _ _⟩⟩
def InB.val {w:World} (s:InB w):World:=s.1
theorem InB.cell {w:World} {b o:Nat} {v:Value} (hb:b<w.heap.size) (hc:w.cell? ⟨b,o,none⟩=some v) (s:InB w):s.val.cell? ⟨b,o,none⟩=some v:=a7_ s.2 hb hc
theorem InB.below {w:World} (s:InB w):Below w.heap.size w s.val:=s.2
theorem InB.size {w:World} (s:InB w):w.heap.size≤s.val.heap.size:=s.2.size
theorem c7_ {P:Program} {id:Nat} {Q:Exit→Act→World→Prop} {a:Act} {w:World} {l:List Oper} (hm:P.follows .mixedOrders=true) (hB:Region.lexB .any l.toArray=true)
  (h:wpQuiet P l.toArray (fun w'=>∃ s:InB w,w'=s.val) (fun a'=>∀ w',(∃ s:InB w,w'=s.val)→Q .normal a' w') l a):(Code.region id l.toArray true).wp P Q a w :=
 wp_region_quiet (C:=fun w'=>∃ s:InB w,w'=s.val) hm hB ⟨⟨{ w with drawn:=w.drawn+1 },f5_ _ _ 1⟩,rfl⟩ (by simpa using h)
theorem InB.call {P:Program} {f:FuncId} {args:Array Value} {w:World} {s:InB w} {v:Value} (h:Calls P f args s.val fun e w'=>e = .returned v∧Below s.val.heap.size s.val w') :
  Calls P f args s.val fun e w''=>e = .returned v∧∃ s':InB w,w''=s'.val :=
 h.mono fun _ w'' ⟨he,hb⟩=>⟨he,⟨⟨w'',s.2.trans (hb.mono s.2.size)⟩,rfl⟩⟩
theorem InB.call_same {P:Program} {f:FuncId} {args:Array Value} {w:World} {s:InB w} {v:Value} (h:Calls P f args s.val fun e w'=>e = .returned v∧w'=s.val) :
  Calls P f args s.val fun e w''=>e = .returned v∧∃ s':InB w,w''=s'.val :=
 h.mono fun _ w'' ⟨he,hb⟩=>⟨he,⟨s,hb⟩⟩
def Blk (w:World) (g:Nat) (t:TypeId) (cs:Array Value):Prop:=w.heap[g]?=some (.cells cs t (0,0))
section
variable {w w':World} {g:Nat} {t:TypeId} {cs:Array Value}
theorem Blk.lt (h:Blk w g t cs):g<w.heap.size:=by
 rcases Nat.lt_or_ge g w.heap.size with hlt | hge
 ·exact hlt
 ·unfold Blk at h;rw[Array.getElem?_eq_none hge]at h;cases h
theorem Blk.cell (h:Blk w g t cs) (i:Nat):w.cell? ⟨g,i,none⟩=cs[i]?:=cell_of_row w g i cs t (0,0) h
theorem Blk.cell' (h:Blk w g t cs) {i:Nat} {v:Value} (hv:cs[i]?=some v):w.cell? ⟨g,i,none⟩=some v:=(h.cell i).trans hv
theorem Blk.call (h:Blk w g t cs) (hb:Below w.heap.size w w'):Blk w' g t cs:=(hb.block g h.lt).trans h
theorem Blk.frozen (h:Blk w g t cs) (i:Nat):w.frozen? ⟨g,i,none⟩=false:=by
 unfold Blk at h;simp[World.frozen?,h]
theorem Blk.new (w:World) (t:TypeId) (cs:Array Value):Blk (w.alloc (.cells cs t)) w.heap.size t cs:=heap_alloc_new w _
theorem Blk.drewN (h:Blk w g t cs) (n:Nat):Blk (w.drewN n) g t cs:=h
theorem Blk.alloc (h:Blk w g t cs) (o:Obj):Blk (w.alloc o) g t cs:=(Below.heap_alloc w o g h.lt).trans h
theorem Blk.set_ (h:Blk w g t cs) (i:Nat) (u:Value):Blk (w.setCell ⟨g,i,none⟩ u) g t (cs.setIfInBounds i u):=by
 unfold Blk at h⊢;simp[World.setCell,Array.getElem?_modify,h]
theorem Blk.far (h:Blk w g t cs) {p:Addr} (hp:g≠p.block) (u:Value):Blk (w.setCell p u) g t cs:=(Below.heap_setCell w p u g hp).trans h
theorem Blk.below {B:Nat} (h:Blk w g t cs) (hb:Below B w w') (hg:g<B):Blk w' g t cs:=(hb.block g hg).trans h
theorem Blk.grown {row:Option Nat} (h:Blk w g t cs) (hb:w.grownBy w' row) (hg:some g≠row):Blk w' g t cs:=(hb.block g h.lt hg).trans h
theorem Blk.own (h:Blk w g t cs) {base n cap size:Nat} (hb:base≤g) (hnc:n≤cap) (hm:cap≤maxLen) (hs:cs.size=cap*size) :
  w.ownsRow base t size (.slice (some ⟨g,0,none⟩) n cap) n (cs.toList.take (n*size)) :=
 ⟨by rw[List.length_take,Array.length_toList,hs];exact Nat.min_eq_left (Nat.mul_le_mul_right _ hnc),.inr ⟨g,cap,cs,rfl,hb,h,hnc,hm,hs,rfl⟩⟩
end
def g8_ (z:Value) (n:Nat):Array Value:=madeCells z.cells n
theorem F1_ (z:Value) (n:Nat):(g8_ z n).size=n:=by simp[g8_,madeCells]
theorem V8_ {P:Program} {t e:TypeId} {i:TypeInfo} {z:Value} (ht:P.underlying t=some (.slice e)) (hi:P.info? e=some i) (hz:i.zero=some z) {n:Nat} (hb:i.bytes*n≤281474976710656) (h63:n≤9223372036854775807) (W:World) :
  (Instr.makeSlice t (.int .i64 (n:Int)) (.int .i64 (n:Int))).run P W = .ok (.slice (some ⟨W.heap.size,0,none⟩) n n) (W.alloc (.cells (g8_ z (n*i.size)) e)):=by
 have hb':(i.bytes:Int)*(n:Int)≤281474976710656:=by
  have h:((i.bytes*n:Nat):Int)≤281474976710656:=by omega
  rwa[Int.natCast_mul]at h
 have hr:=run_make (P:=P) W t e i z ht hi hz .i64 .i64 n n (by omega) (by omega) hb' (by omega);simp only[Int.toNat_natCast]at hr;exact hr
structure Chg (lo hi:Nat) (w w':World):Prop where
 os:w'.os=w.os
 tape:w'.tape=w.tape
 output:w'.output=w.output
 size:w.heap.size≤w'.heap.size
 block:∀ k,k<w.heap.size→(k<lo∨hi≤k)→w'.heap[k]?=w.heap[k]?
theorem Chg.refl (lo hi:Nat) (w:World):Chg lo hi w w:=⟨rfl,rfl,rfl,Nat.le_refl _,fun _ _ _=>rfl⟩
theorem Chg.trans {lo hi:Nat} {a b c:World} (h:Chg lo hi a b) (k:Chg lo hi b c):Chg lo hi a c :=
 ⟨k.os.trans h.os,k.tape.trans h.tape,k.output.trans h.output,Nat.le_trans h.size k.size,fun i hi' hne=>(k.block i (Nat.lt_of_lt_of_le hi' h.size) hne).trans (h.block i hi' hne)⟩
theorem Chg.of_below {lo hi:Nat} {w w':World} (h:Below w.heap.size w w'):Chg lo hi w w':=⟨h.os,h.tape,h.output,h.size,fun k hk _=>h.block k hk⟩
theorem Chg.wider {lo hi lo' hi':Nat} {w w':World} (h:Chg lo hi w w') (h1:lo'≤lo) (h2:hi≤hi'):Chg lo' hi' w w' :=
 ⟨h.os,h.tape,h.output,h.size,fun k hk hne=>h.block k hk (by omega)⟩
theorem Chg.below {lo hi B:Nat} {w w':World} (h:Chg lo hi w w') (hB:B≤lo) (hs:B≤w.heap.size):Below B w w':=⟨h.os,h.tape,h.output,h.size,fun k hk=>h.block k (by omega) (by omega)⟩
theorem Blk.chg {w w':World} {g lo hi:Nat} {t:TypeId} {cs:Array Value} (h:Blk w g t cs) (hc:Chg lo hi w w') (hg:g<lo∨hi≤g):Blk w' g t cs:=(hc.block g h.lt hg).trans h
theorem a2_ (w:World) (o:Obj):Below w.heap.size w (w.alloc o):=(Below.refl _ _).alloc (Nat.le_refl _) _
def Hold (p:Prop):Prop:=p
theorem Hold.stop {p:Prop} (h:Hold p):p:=h
theorem B6_ {p:Prop} (h:Hid p):p:=h
theorem d9_ (w:World):Below w.heap.size w w.drew:=(Below.refl _ _).drew
theorem br_ {B:Nat} {w:World}:Below B w w:=Below.refl B w
theorem h_ {p:Prop} (h:p):Hid p:=Lib.hid h
theorem e_ {α:Sort _} (a:α):∃ b,a=b:=⟨a,rfl⟩
theorem c_6 {w:World} {g:Nat} {t:TypeId} {a b c d e f:Value} (h:Blk w g t #[a,b,c,d,e,f]):w.cell? ⟨g,0,none⟩=some a∧w.cell? ⟨g,1,none⟩=some b∧w.cell? ⟨g,2,none⟩=some c∧w.cell? ⟨g,3,none⟩=some d∧w.cell? ⟨g,4,none⟩=some e∧w.cell? ⟨g,5,none⟩=some f:=⟨h.cell' (i:=0) rfl,h.cell' (i:=1) rfl,h.cell' (i:=2) rfl,h.cell' (i:=3) rfl,h.cell' (i:=4) rfl,h.cell' (i:=5) rfl⟩
theorem c_3 {w:World} {g:Nat} {t:TypeId} {a b c:Value} (h:Blk w g t #[a,b,c]):w.cell? ⟨g,0,none⟩=some a∧w.cell? ⟨g,1,none⟩=some b∧w.cell? ⟨g,2,none⟩=some c:=⟨h.cell' (i:=0) rfl,h.cell' (i:=1) rfl,h.cell' (i:=2) rfl⟩
theorem b_1 (w:World) (cs:Array Value) (t:TypeId):∃ z,w.alloc (.cells cs t)=z∧Below w.heap.size w z∧Blk z w.heap.size t cs:=⟨_,rfl,a2_ _ _,Blk.new _ _ _⟩
theorem b_2 (w:World) (cs:Array Value) (t:TypeId):∃ z,w.alloc (.cells cs t)=z∧Below w.heap.size w z∧∃ b,w.heap.size=b∧Blk z b t cs:=⟨_,rfl,a2_ _ _,_,rfl,Blk.new _ _ _⟩
theorem b_3 (w:World) (cs:Array Value) (t:TypeId):∃ z,z=w.alloc (.cells cs t)∧Below w.heap.size w z∧Blk z w.heap.size t cs:=⟨_,rfl,a2_ _ _,Blk.new _ _ _⟩
theorem b_4 (w:World) (cs:Array Value) (t:TypeId) (ds:Array Value) (s:TypeId):∃ z,z=(w.alloc (.cells cs t)).alloc (.cells ds s)∧Below w.heap.size w z∧Blk z w.heap.size t cs∧Blk z (w.heap.size+1) s ds:=⟨_,rfl,((Below.refl _ _).alloc (Nat.le_refl _) _).alloc (by simp) _,(Blk.new _ _ _).alloc _,by
 have:=Blk.new (w.alloc (.cells cs t)) s ds;simpa only[World.size_alloc] using this⟩
theorem l_ (n:Nat):n≤n:=Nat.le_refl n
theorem l0_ (n:Nat):0≤n:=Nat.zero_le n
abbrev l1_:=@List.getD_eq_getElem?_getD
abbrev l2_:=@List.getElem?_eq_getElem
abbrev l3_:=@World.size_alloc
abbrev l4_:=@List.mem_of_getElem?
abbrev l5_:=@Int.toNat_natCast
abbrev l6_:=@List.getElem?_eq_none
abbrev l7_:=@List.take_of_length_le
abbrev l8_:=@Array.getElem?_eq_getElem
abbrev l9_:=@Bool.and_eq_true
abbrev m0_:=@Nat.lt_succ_self
abbrev m1_:=@List.eq_nil_of_length_eq_zero
abbrev m2_:=@Array.getD_eq_getD_getElem?
theorem v5_:(Tryz.prog.info? 3).map (fun i=>(i.zero,i.size,i.bytes))=some (some (.int .i64 0),1,8):=by kernel_rfl
def c0X (cs:Array Value) (xs:List Int) (k:Nat):Prop:=cs.size=xs.length∧∀ j x,j<k→xs[j]?=some x→cs[j]?=some (.int .i64 x)
theorem c0X.step {cs:Array Value} {xs:List Int} {k:Nat} {x:Int} (h:c0X cs xs k) (hx:xs[k]?=some x):c0X (cs.setIfInBounds k (.int .i64 x)) xs (k+1):=by
 obtain⟨hs,h⟩:=h;have hk:=b0_ hx;refine⟨by simpa using hs,fun j u hj hu=>?_⟩;by_cases e:j=k
 ·subst e;rw[hx]at hu;injection hu with hu
  subst hu;simp[Array.getElem?_setIfInBounds];omega
 ·rw[Array.getElem?_setIfInBounds,if_neg (by omega)];exact h j u (by omega) hu
def OwnI (w:World) (base:Nat) (v:Value) (l:List Int):Prop :=
 w.ownsRow base 3 1 v l.length (l.map (Value.int .i64))∧l.length≤17592186044416∧∀ x∈l,I64 x
theorem OwnI.nil (w:World) (base:Nat):OwnI w base (.slice none 0 0) []:=⟨World.ownsRow_nil _ _ _ _,by simp,by simp⟩
theorem OwnI.rd {w:World} {base:Nat} {v:Value} {l:List Int} (h:OwnI w base v l):SlI w w.heap.size v l:=by
 obtain⟨h1,h2,h3⟩:=h;rcases h1.2 with ⟨rfl,h0⟩ | ⟨g,cap,cur,rfl,_,hg,hnc,hcm,hcs,htake⟩
 ·obtain rfl:l=[]:=m1_ h0;exact SlG.nil
 ·refine⟨_,_,rfl,hnc,by simp only[maxLen]at hcm;omega,h2,fun hp=>⟨g,0,rfl,(Array.getElem?_eq_some_iff.1 hg).1,fun j x hj=>⟨?_,h3 x (l4_ hj)⟩⟩⟩;have hc:=h1.cellAt j (by have:=b0_ hj;omega);rw[show 0+j*1=j by omega,hc];simp[hj]
theorem OwnI.below {w w':World} {base:Nat} {v:Value} {l:List Int} (h:OwnI w base v l) (hb:Below w.heap.size w w'):OwnI w' base v l :=
 ⟨h.1.kept (row:=none) ⟨hb.os,hb.tape,hb.output,hb.size,fun k hk _=>hb.block k hk⟩ (by cases v.ownBlock <;> simp),h.2⟩
theorem OwnI.lower {w:World} {base base':Nat} {v:Value} {l:List Int} (h:OwnI w base v l) (hb:base'≤base):OwnI w base' v l:=by
 obtain⟨⟨h0,h1⟩,h2⟩:=h;refine⟨⟨h0,?_⟩,h2⟩;rcases h1 with h1 | ⟨g,cap,cur,e,hg,rest⟩
 ·exact .inl h1
 ·exact .inr ⟨g,cap,cur,e,by omega,rest⟩
theorem OwnI.of_blk {w:World} {base g:Nat} {cs:Array Value} {xs:List Int} (hb:Blk w g 3 cs) (hg:base≤g) (hcs:c0X cs xs xs.length) (hn:xs.length≤17592186044416) (hr:∀ x∈xs,I64 x) :
  OwnI w base (.slice (some ⟨g,0,none⟩) xs.length xs.length) xs:=by
 refine⟨⟨by simp,.inr ⟨g,xs.length,cs,rfl,hg,hb,l_ _,by simp only[maxLen];omega,by rw[hcs.1];omega,?_⟩⟩,hn,hr⟩;apply List.ext_getElem?
 intro j;by_cases hj:j<xs.length
 ·rw[List.getElem?_take,if_pos (by omega),Array.getElem?_toList,hcs.2 j _ hj (l2_ hj)];simp[hj]
 ·rw[List.getElem?_take,if_neg (by omega)];simp[Nat.le_of_not_lt hj]
theorem SlI.i64 {w:World} {B:Nat} {v:Value} {l:List Int} (h:SlI w B v l):∀ x∈l,I64 x:=by
 obtain⟨A,c,_,_,_,_,h4⟩:=h;intro x hx;obtain⟨j,hj⟩:=List.getElem?_of_mem hx;obtain⟨_,_,_,_,hr⟩:=h4 (by have:=b0_ hj;omega);exact (hr j x hj).2
def mkI (k:Int) (n:Nat):List Int:=(List.range n).map fun i:Nat=>k+(i:Int)
section
variable {P:Program} (w:World)
theorem K2_ (base:Nat) (t ty e:TypeId) (i:TypeInfo) (size:Nat) (ht:P.underlying t=some (.slice e)) (hi:P.info? e=some i)
  (v:Value) (n:Nat) (xs:List Value) (hown:w.ownsRow base e size v n xs) (c:Nat):(Builtin.append_ #[t,t] ty #[v,.slice none 0 c]).run P w = .ok v w:=by
 rcases hown.2 with ⟨rfl,rfl⟩ | ⟨g,cap,cur,rfl,_,_,hnc,_⟩
 ·simp[Builtin.append_,run_underlying ht,sizeOf,typeInfo,hi,Builtin.lenOf,Builtin.firstCells]
 ·simp[Builtin.append_,run_underlying ht,sizeOf,typeInfo,hi,Builtin.lenOf,Builtin.firstCells,hnc,storeCells]
def z8_ (w:World) (A:Option Addr) (m:Nat) (news:List Value) (size:Nat):Prop:=news.length=m*size∧(m=0∨∃ b o,A=some ⟨b,o,none⟩∧∀ j u,news[j]?=some u→w.cell? ⟨b,o+j,none⟩=some u)
theorem T4_ (base:Nat) (t ty e:TypeId) (i:TypeInfo) (z:Value) (size bytes:Nat) (ht:P.underlying t=some (.slice e)) (hi:P.info? e=some i) (hz:i.zero=some z)
  (hsize:i.size=size) (hby:i.bytes=bytes) (hzs:z.cells.size=size) (hsz:0<size)
  (v:Value) (n:Nat) (xs:List Value) (hown:w.ownsRow base e size v n xs)
  (A:Option Addr) (m c:Nat) (news:List Value) (hnews:z8_ w A m news size) (h1:∀ u∈news,u.oneCell'=true)
  (h63:n+m≤maxLen) (hbytes:(n+m)*bytes≤140737488355328) (hbase:base≤w.heap.size) :
  ∃ v' w',(Builtin.append_ #[t,t] ty #[v,.slice A m c]).run P w = .ok v' w'∧w'.ownsRow base e size v' (n+m) (xs ++ news)∧w.grownBy w' v.ownBlock ∧
   (v'.ownBlock=v.ownBlock∨v'.ownBlock=some w.heap.size):=by
 obtain⟨hl,hn⟩:=hnews;rcases A with _ | ad
 ·have hm:m=0:=by
   rcases hn with h | ⟨b,o,h,_⟩
   ·exact h
   ·cases h
  subst hm;obtain rfl:news=[]:=m1_ (by simpa using hl);exact⟨v,w,K2_ w base t ty e i size ht hi v n xs hown c,by simpa using hown,World.grownBy.refl w _,.inl rfl⟩
 ·have hcells:∀ j u,news[j]?=some u→w.cell? (ad.add j)=some u:=by
   intro j u hu;rcases hn with h | ⟨b,o,h,hc⟩
   ·subst h;obtain rfl:news=[]:=m1_ (by simpa using hl);simp at hu
   ·injection h with h
    subst h;have e:(⟨b,o,none⟩:Addr).add j=⟨b,o+j,none⟩:=by unfold Addr.add;split <;> simp_all
    rw[e];exact hc j u hu
  obtain⟨v',w',hrun,h2,h3,_,h5⟩:=run_append_own_at (P:=P) w base t ty e i z size bytes ht hi hz hsize hby hzs hsz v n xs hown ad m c news hl hcells h1 h63 hbytes hbase;exact⟨v',w',hrun,h2,h3,h5⟩
theorem i8_ {ops:Array Oper} {rest:List Oper} {o:Oper} {a:Act} {Q:Exit→Act→World→Prop} (hgd:o.guard=none) (s x:Operand) (t:TypeId)
  (ho:o.op = .call { callee:=.builtin .append,args:=#[s,x],argTypes:=#[t,t] })
  (base:Nat) (e:TypeId) (i:TypeInfo) (z:Value) (size bytes:Nat) (ht:P.underlying t=some (.slice e)) (hi:P.info? e=some i) (hz:i.zero=some z)
  (hsize:i.size=size) (hby:i.bytes=bytes) (hzs:z.cells.size=size) (hsz:0<size)
  (v:Value) (n:Nat) (xs:List Value) (hs:a.eval s=v) (hown:w.ownsRow base e size v n xs)
  (A:Option Addr) (m c:Nat) (news:List Value) (hx:a.eval x = .slice A m c) (hnews:z8_ w A m news size) (h1:∀ u∈news,u.oneCell'=true)
  (h63:n+m≤maxLen) (hbytes:(n+m)*bytes≤140737488355328) (hbase:base≤w.heap.size)
  (h:∀ v' w',w'.ownsRow base e size v' (n+m) (xs ++ news)→w.grownBy w' v.ownBlock→(v'.ownBlock=v.ownBlock∨v'.ownBlock=some w.heap.size)→wpList P ops Q rest (a.put o.dst v') w'):wpList P ops Q (o :: rest) a w:=by
 refine wpList_plain hgd fun K hK=>?_
 obtain⟨v',w',hrun,h2,h3,h4⟩:=T4_ (P:=P) w base t o.type e i z size bytes ht hi hz hsize hby hzs hsz v n xs hown A m c news hnews h1 h63 hbytes hbase;unfold Oper.wp execOp;simp only[ho,resolve,invoke,builtin,Sem.run_bind,Sem.run_pure,Result.andThen_ok,List.map_toArray,List.map_cons,List.map_nil,hs,hx,hrun];exact hK _ _ (h v' w' h2 h3 h4)
end
theorem z8_.of_sl {w:World} {B:Nat} {A:Option Addr} {c:Nat} {l:List Int} (h:SlI w B (.slice A l.length c) l):z8_ w A l.length (l.map (Value.int .i64)) 1:=by
 refine⟨by simp,?_⟩;obtain⟨A',c',e,h1,h2,h3,h4⟩:=h;injection e with e1 e2 e3;subst e1
 rcases Nat.eq_zero_or_pos l.length with h0 | h0
 ·exact .inl h0
 ·obtain⟨b,o,rfl,_,hc⟩:=h4 h0;refine .inr ⟨b,o,rfl,fun j u hu=>?_⟩;rw[List.getElem?_map,Option.map_eq_some_iff]at hu;obtain⟨x,hx,rfl⟩:=hu;have:=(hc j x hx).1;simpa using this
theorem Y0_ (l:List Int):∀ u∈l.map (Value.int .i64),u.oneCell'=true:=by
 intro u hu;obtain⟨x,_,rfl⟩:=List.mem_map.1 hu;rfl
theorem c3_ {w:World} {ops:Array Oper} {rest:List Oper} {o:Oper} {a:Act} {Q:Exit→Act→World→Prop} (hgd:o.guard=none) (s x:Operand)
  (ho:o.op = .call { callee:=.builtin .append,args:=#[s,x],argTypes:=#[24,24] })
  (base B:Nat) (v:Value) (l:List Int) (hs:a.eval s=v) (hown:OwnI w base v l) (A:Option Addr) (m c:Nat) (news:List Int) (hx:a.eval x = .slice A m c) (hm:m=news.length) (hr:SlI w B (.slice A news.length c) news)
  (hn:l.length+news.length≤17592186044416) (hbase:base≤w.heap.size)
  (h:∀ v' w',OwnI w' base v' (l ++ news)→w.grownBy w' v.ownBlock→(v'.ownBlock=v.ownBlock∨v'.ownBlock=some w.heap.size)→wpList Tryz.prog ops Q rest (a.put o.dst v') w'):wpList Tryz.prog ops Q (o :: rest) a w:=by
 subst hm;obtain⟨i0,hi,hz0,hz1,hz2⟩:=info_parts v5_;refine i8_ w hgd s x _ ho base 3 i0 _ 1 8 Tryz.underlying24 hi hz0 hz1 hz2 rfl (by decide) v l.length _ hs hown.1 A _ c _ hx (z8_.of_sl hr) (Y0_ news) (by simp only[maxLen];omega) (by omega) hbase fun v' w' h1 h2 h3=>?_
 refine h v' w' ⟨by simpa using h1,by simpa using hn,fun y hy=>?_⟩ h2 h3;rcases List.mem_append.1 hy with hy | hy
 ·exact hown.2.2 y hy
 ·exact SlI.i64 hr y hy
theorem SlI.one (w:World) (t:TypeId) (x:Int) (hx:I64 x):SlI (w.alloc (.cells #[.int .i64 x] t)) (w.alloc (.cells #[.int .i64 x] t)).heap.size (.slice (some ⟨w.heap.size,0,none⟩) 1 1) [x]:=by
 refine⟨_,1,rfl,by simp,by omega,by simp,fun _=>⟨w.heap.size,0,rfl,by simp,fun j y hj=>?_⟩⟩
 match j,hj with
 | 0,hj =>
  simp at hj;subst hj;exact⟨by simp,hx⟩
 | j+1,hj=>simp at hj
theorem OwnI.form {w:World} {base:Nat} {v:Value} {l:List Int} (h:OwnI w base v l):∃ A c,v = .slice A l.length c∧l.length≤c∧c≤9223372036854775807:=by
 rcases h.1.2 with ⟨rfl,h0⟩ | ⟨g,cap,cur,rfl,_,_,hnc,hcm,_⟩
 ·exact⟨none,0,by rw[h0],by omega,by omega⟩
 ·exact⟨_,_,rfl,hnc,by simp only[maxLen]at hcm;omega⟩
theorem OwnI.alloc {w:World} {base:Nat} {v:Value} {l:List Int} (h:OwnI w base v l) (o:Obj):OwnI (w.alloc o) base v l:=⟨h.1.alloc o,h.2⟩
theorem OwnI.drewN {w:World} {base:Nat} {v:Value} {l:List Int} (h:OwnI w base v l) (n:Nat):OwnI (w.drewN n) base v l:=h
theorem OwnI.kept {w w':World} {base:Nat} {v:Value} {l:List Int} {row:Option Nat} (h:OwnI w base v l) (hg:w.grownBy w' row) (hne:v.ownBlock=none∨v.ownBlock≠row):OwnI w' base v l:=⟨h.1.kept hg hne,h.2⟩
theorem OwnI.blkne {w:World} {base g:Nat} {v:Value} {l:List Int} {t:TypeId} {cs:Array Value} (h:OwnI w base v l) (hb:Blk w g t cs) (ht:3≠t):some g≠v.ownBlock:=by
 rcases h.1.2 with ⟨rfl,_⟩ | ⟨g',cap,cur,rfl,_,hh,_⟩
 ·simp[Value.ownBlock]
 ·intro he;have:g=g':=by simpa [Value.ownBlock] using he
  subst this;unfold Blk at hb;rw[hh]at hb;injection hb with hb
  injection hb with _ hb
  exact ht hb
theorem OwnI.setCell {w:World} {base:Nat} {v:Value} {l:List Int} (h:OwnI w base v l) {p:Addr} (hp:v.ownBlock≠some p.block) (u:Value):OwnI (w.setCell p u) base v l :=
 h.kept (row:=some p.block) ⟨rfl,rfl,rfl,by simp[World.setCell],fun k _ hne=>Below.heap_setCell _ _ _ _ (fun e=>hne (by rw[e]))⟩ (.inr hp)
theorem OwnI.made {w:World} {base:Nat} (t:TypeId) (ht:t=3) (hb:base≤w.heap.size):OwnI (w.alloc (.cells #[] t)) base (.slice (some ⟨w.heap.size,0,none⟩) 0 0) []:=by
 subst ht;exact⟨World.ownsRow_made w #[] 0 hb (l0_ _) (by simp),by simp,by simp⟩
theorem OwnI.lt {w:World} {base:Nat} {v:Value} {l:List Int} (h:OwnI w base v l):∀ k,v.ownBlock=some k→base≤k∧k<w.heap.size:=h.1.lt
structure Qv where
 v:Int
 f:List Int
 t:List Int
deriving DecidableEq
def QvR (w:World) (B:Nat) (val:Value) (q:Qv):Prop:=∃ a b,val = .agg #[.int .i64 q.v,a,b]∧SlI w B a q.f∧SlI w B b q.t∧I64 q.v
def QvO (w:World) (base:Nat) (val:Value) (q:Qv):Prop:=∃ a b,val = .agg #[.int .i64 q.v,a,b]∧OwnI w base a q.f∧OwnI w base b q.t∧(a.ownBlock=none∨a.ownBlock≠b.ownBlock)∧I64 q.v
theorem QvR.next {w w':World} {v:Value} {q:Qv} (hb:Below w.heap.size w w') (h:QvR w w.heap.size v q):QvR w' w'.heap.size v q:=by
 obtain⟨a,b,e,h1,h2,h3⟩:=h;exact⟨a,b,e,SlI.next hb h1,SlI.next hb h2,h3⟩
theorem QvR.below {w w':World} {B:Nat} {v:Value} {q:Qv} (hb:Below B w w') (h:QvR w B v q):QvR w' B v q:=by
 obtain⟨a,b,e,h1,h2,h3⟩:=h;exact⟨a,b,e,SlI.below hb h1,SlI.below hb h2,h3⟩
theorem QvR.more {w:World} {B B':Nat} {v:Value} {q:Qv} (hB:B≤B') (h:QvR w B v q):QvR w B' v q:=by
 obtain⟨a,b,e,h1,h2,h3⟩:=h;exact⟨a,b,e,SlI.more hB h1,SlI.more hB h2,h3⟩
theorem QvO.rd {w:World} {base:Nat} {v:Value} {q:Qv} (h:QvO w base v q):QvR w w.heap.size v q:=by
 obtain⟨a,b,e,h1,h2,_,h3⟩:=h;exact⟨a,b,e,h1.rd,h2.rd,h3⟩
theorem QvO.below {w w':World} {base:Nat} {v:Value} {q:Qv} (h:QvO w base v q) (hb:Below w.heap.size w w'):QvO w' base v q:=by
 obtain⟨a,b,e,h1,h2,h4,h3⟩:=h;exact⟨a,b,e,h1.below hb,h2.below hb,h4,h3⟩
theorem QvO.lower {w:World} {base base':Nat} {v:Value} {q:Qv} (h:QvO w base v q) (hb:base'≤base):QvO w base' v q:=by
 obtain⟨a,b,e,h1,h2,h4,h3⟩:=h;exact⟨a,b,e,h1.lower hb,h2.lower hb,h4,h3⟩
theorem QvR.open_ {w:World} {B:Nat} {v:Value} {q:Qv} (h:QvR w B v q):∃ A c C d,v = .agg #[.int .i64 q.v,.slice A q.f.length c,.slice C q.t.length d]∧SlI w B (.slice A q.f.length c) q.f∧SlI w B (.slice C q.t.length d) q.t∧I64 q.v∧q.f.length≤17592186044416∧q.t.length≤17592186044416:=by
 obtain⟨a,b,rfl,h1,h2,h3⟩:=h;obtain⟨A,c,rfl,_,_,h4,h1⟩:=h1.open_;obtain⟨C,d,rfl,_,_,h5,h2⟩:=h2.open_;exact⟨A,c,C,d,rfl,h1,h2,h3,h4,h5⟩
theorem N7_ (p q:Qv):(p=q)↔(p.v=q.v∧p.f=q.f∧p.t=q.t):=by
 cases p;cases q;simp
def a9_ (w:World) (lo hi:Nat) (v:Value) (l:List Int):Prop:=OwnI w lo v l∧∀ k,v.ownBlock=some k→k<hi
theorem a9_.of_own {w:World} {lo:Nat} {v:Value} {l:List Int} (h:OwnI w lo v l):a9_ w lo w.heap.size v l:=⟨h,fun k hk=>(h.lt k hk).2⟩
theorem a9_.rd {w:World} {lo hi:Nat} {v:Value} {l:List Int} (h:a9_ w lo hi v l):SlI w w.heap.size v l:=h.1.rd
theorem a9_.chg {w w':World} {lo hi lo' hi':Nat} {v:Value} {l:List Int} (h:a9_ w lo hi v l) (hc:Chg lo' hi' w w') (hd:hi≤lo'∨hi'≤lo):a9_ w' lo hi v l:=by
 refine⟨⟨⟨h.1.1.1,?_⟩,h.1.2⟩,h.2⟩;rcases h.1.1.2 with h1 | ⟨g,cap,cur,rfl,hg,hh,rest⟩
 ·exact .inl h1
 ·have:=h.2 g (by simp[Value.ownBlock]);exact .inr ⟨g,cap,cur,rfl,hg,(hc.block g (Array.getElem?_eq_some_iff.1 hh).1 (by omega)).trans hh,rest⟩
theorem a9_.below {w w':World} {lo hi:Nat} {v:Value} {l:List Int} (h:a9_ w lo hi v l) (hb:Below w.heap.size w w'):a9_ w' lo hi v l:=⟨h.1.below hb,h.2⟩
theorem SlI.chg {w w':World} {B lo hi:Nat} {v:Value} {l:List Int} (h:SlI w B v l) (hc:Chg lo hi w w') (hB:B≤lo) (hs:B≤w.heap.size):SlI w' B v l:=SlI.below (hc.below hB hs) h
def a9_.mk (k:Int) (l:List Int):List Int:=mkI k l.length
def Fam (w:World) (lo hi:Nat) (L:List (Value×List Int)):Prop:=(∀ p∈L,a9_ w lo hi p.1 p.2)∧L.Pairwise (fun p q=>p.1.ownBlock=none∨p.1.ownBlock≠q.1.ownBlock)
theorem Fam.chg {w w':World} {lo hi lo' hi':Nat} {L:List (Value×List Int)} (h:Fam w lo hi L) (hc:Chg lo' hi' w w') (hd:hi≤lo'∨hi'≤lo):Fam w' lo hi L:=⟨fun p hp=>(h.1 p hp).chg hc hd,h.2⟩
theorem Fam.below {w w':World} {lo hi:Nat} {L:List (Value×List Int)} (h:Fam w lo hi L) (hb:Below w.heap.size w w'):Fam w' lo hi L:=⟨fun p hp=>(h.1 p hp).below hb,h.2⟩
theorem Fam.turn {w w':World} {lo hi:Nat} {L1 L2:List (Value×List Int)} {v:Value} {l l':List Int} (h:Fam w lo hi (L1 ++ (v,l) :: L2)) (ho:OwnI w' lo v l') (hg:w.grownBy w' v.ownBlock):Fam w' lo hi (L1 ++ (v,l') :: L2):=by
 obtain⟨h1,h2⟩:=h;rw[List.pairwise_append,List.pairwise_cons]at h2;obtain⟨p1,⟨p2,p3⟩,p4⟩:=h2;refine⟨fun p hp=>?_,?_⟩
 ·rcases List.mem_append.1 hp with hp | hp
  ·have:=h1 p (by simp[hp]);have hne:=p4 p hp (v,l) (by simp);exact⟨this.1.kept hg hne,this.2⟩
  ·rcases List.mem_cons.1 hp with rfl | hp
   ·exact⟨ho,(h1 (v,l) (by simp)).2⟩
   ·have:=h1 p (by simp[hp]);have hne:=p2 p hp;refine⟨this.1.kept hg ?_,this.2⟩;rcases hne with hne | hne
    ·rcases hpb:p.1.ownBlock with _ | b
     ·exact .inl rfl
     ·exact .inr (by rw[show v.ownBlock=none from hne];simp)
    ·exact .inr (fun e=>hne e.symm)
 ·rw[List.pairwise_append,List.pairwise_cons];exact⟨p1,⟨p2,p3⟩,fun a ha b hb=>by
   rcases List.mem_cons.1 hb with rfl | hb
   ·exact p4 a ha (v,l) (by simp)
   ·exact p4 a ha b (by simp[hb])⟩
theorem Fam.app {w w':World} {lo hi:Nat} {L1 L2:List (Value×List Int)} {v v':Value} {l l':List Int} (h:Fam w lo hi (L1 ++ (v,l) :: L2)) (hh:hi≤w'.heap.size) (ho:OwnI w' lo v' l') (hg:w.grownBy w' v.ownBlock) (hv:v'.ownBlock=v.ownBlock∨v'.ownBlock=some w.heap.size) :
  Fam w' lo w'.heap.size (L1 ++ (v',l') :: L2):=by
 obtain⟨h1,h2⟩:=h;rw[List.pairwise_append,List.pairwise_cons]at h2;obtain⟨p1,⟨p2,p3⟩,p4⟩:=h2;have new:∀ p∈L1 ++ (v,l) :: L2,p.1.ownBlock≠some w.heap.size:=fun p hp e=>by
  have:=((h1 p hp).1.lt _ e).2;omega
 refine⟨fun p hp=>?_,?_⟩
 ·rcases List.mem_append.1 hp with hp | hp
  ·have:=h1 p (by simp[hp]);exact⟨this.1.kept hg (p4 p hp (v,l) (by simp)),fun k hk=>Nat.lt_of_lt_of_le (this.2 k hk) hh⟩
  ·rcases List.mem_cons.1 hp with rfl | hp
   ·exact a9_.of_own ho
   ·have:=h1 p (by simp[hp]);have hne:=p2 p hp;refine⟨this.1.kept hg ?_,fun k hk=>Nat.lt_of_lt_of_le (this.2 k hk) hh⟩;rcases hne with hne | hne
    ·rcases hpb:p.1.ownBlock with _ | b
     ·exact .inl rfl
     ·exact .inr (by rw[show v.ownBlock=none from hne];simp)
    ·exact .inr (fun e=>hne e.symm)
 ·rw[List.pairwise_append,List.pairwise_cons];refine⟨p1,⟨fun q hq=>?_,p3⟩,fun a ha b hb=>?_⟩
  ·show v'.ownBlock=none∨v'.ownBlock≠q.1.ownBlock;rcases hv with e | e <;> rw[e]
   ·exact p2 q hq
   ·exact .inr (fun e=>new q (by simp[hq]) e.symm)
  ·rcases List.mem_cons.1 hb with rfl | hb
   ·show a.1.ownBlock=none∨a.1.ownBlock≠v'.ownBlock;rcases hv with e | e <;> rw[e]
    ·exact p4 a ha (v,l) (by simp)
    ·exact .inr (new a (by simp[ha]))
   ·exact p4 a ha b (by simp[hb])
theorem Fam.setBlk {w:World} {lo hi g i:Nat} {L:List (Value×List Int)} {t:TypeId} {cs:Array Value} (h:Fam w lo hi L) (hb:Blk w g t cs) (ht:3≠t) (u:Value):Fam (w.setCell ⟨g,i,none⟩ u) lo hi L :=
 ⟨fun p hp=>⟨(h.1 p hp).1.setCell (p:=⟨g,i,none⟩) (fun e=>(h.1 p hp).1.blkne hb ht e.symm) u,(h.1 p hp).2⟩,h.2⟩
theorem Fam.mono {w:World} {lo hi lo' hi':Nat} {L:List (Value×List Int)} (h:Fam w lo hi L) (h1:lo'≤lo) (h2:hi≤hi'):Fam w lo' hi' L :=
 ⟨fun p hp=>⟨(h.1 p hp).1.lower h1,fun k hk=>Nat.lt_of_lt_of_le ((h.1 p hp).2 k hk) h2⟩,h.2⟩
def d5_ (w:World) (lo hi:Nat) (val:Value) (q:Qv):Prop:=∃ a b,val = .agg #[.int .i64 q.v,a,b]∧Fam w lo hi [(a,q.f),(b,q.t)]∧I64 q.v
theorem QvR.form {w:World} {B:Nat} {v:Value} {q:Qv} (h:QvR w B v q):∃ A c C d,v = .agg #[.int .i64 q.v,.slice A q.f.length c,.slice C q.t.length d]:=by
 obtain⟨A,c,C,d,e,_⟩:=h.open_;exact⟨A,c,C,d,e⟩
theorem QvR.lens {w:World} {B:Nat} {v:Value} {q:Qv} (h:QvR w B v q):q.f.length≤17592186044416∧q.t.length≤17592186044416:=by
 obtain⟨A,c,C,d,e,_,_,_,h1,h2⟩:=h.open_;exact⟨h1,h2⟩
theorem d5_.rd {w:World} {lo hi:Nat} {v:Value} {q:Qv} (h:d5_ w lo hi v q):QvR w w.heap.size v q:=by
 obtain⟨a,b,e,h1,h2⟩:=h;exact⟨a,b,e,(h1.1 (a,q.f) (by simp)).rd,(h1.1 (b,q.t) (by simp)).rd,h2⟩
theorem d5_.form {w:World} {lo hi:Nat} {v:Value} {q:Qv} (h:d5_ w lo hi v q):∃ A c C d,v = .agg #[.int .i64 q.v,.slice A q.f.length c,.slice C q.t.length d]:=h.rd.form
theorem d5_.chg {w w':World} {lo hi lo' hi':Nat} {v:Value} {q:Qv} (h:d5_ w lo hi v q) (hc:Chg lo' hi' w w') (hd:hi≤lo'∨hi'≤lo):d5_ w' lo hi v q:=by
 obtain⟨a,b,e,h1,h2⟩:=h;exact⟨a,b,e,h1.chg hc hd,h2⟩
theorem d5_.below {w w':World} {lo hi:Nat} {v:Value} {q:Qv} (h:d5_ w lo hi v q) (hb:Below w.heap.size w w'):d5_ w' lo hi v q:=by
 obtain⟨a,b,e,h1,h2⟩:=h;exact⟨a,b,e,h1.below hb,h2⟩
theorem QvR.chg {w w':World} {B lo hi:Nat} {v:Value} {q:Qv} (h:QvR w B v q) (hc:Chg lo hi w w') (hB:B≤lo) (hs:B≤w.heap.size):QvR w' B v q:=QvR.below (hc.below hB hs) h
def d5_.mk (k:Int) (q:Qv):Qv:=⟨q.v,mkI k q.f.length,mkI (k+q.f.length) q.t.length⟩
def Qv.size (q:Qv):Nat:=q.f.length+q.t.length
theorem a9_.wider {w:World} {lo hi lo' hi':Nat} {v:Value} {l:List Int} (h:a9_ w lo hi v l) (h1:lo'≤lo) (h2:hi≤hi'):a9_ w lo' hi' v l:=⟨h.1.lower h1,fun k hk=>Nat.lt_of_lt_of_le (h.2 k hk) h2⟩
theorem a9_.set {w:World} {lo hi:Nat} {v:Value} {l:List Int} (h:a9_ w lo hi v l) {p:Addr} (hp:p.block<lo) (u:Value):a9_ (w.setCell p u) lo hi v l :=
 ⟨h.1.setCell (fun e=>by have:=(h.1.lt _ e).1;omega) u,h.2⟩
theorem b4Q {w:World} {lo mi hi:Nat} {a b:Value} {l m:List Int} (ha:a9_ w lo mi a l) (hb:a9_ w mi hi b m) (h1:lo≤mi) (h2:mi≤hi):Fam w lo hi [(a,l),(b,m)]:=by
 refine⟨fun p hp=>?_,?_⟩
 ·simp only[List.mem_cons,List.not_mem_nil,or_false]at hp;rcases hp with rfl | rfl
  ·exact ha.wider (l_ _) h2
  ·exact hb.wider h1 (l_ _)
 ·refine List.pairwise_cons.2 ⟨fun q hq=>?_,List.pairwise_cons.2 ⟨fun q hq=>absurd hq (by simp),List.Pairwise.nil⟩⟩;simp only[List.mem_cons,List.not_mem_nil,or_false]at hq;subst hq;show a.ownBlock=none∨a.ownBlock≠b.ownBlock;rcases hA:a.ownBlock with _ | x
  ·exact .inl rfl
  ·right
   intro e;have:=ha.2 x hA;have:=(hb.1.lt x e.symm).1;omega
theorem a2j:(Tryz.prog.info? 24).map (fun i=>(i.zero,i.size,i.bytes))=some (some (.slice none 0 0),1,24):=by kernel_rfl
def OutO (w:World) (lo hi:Nat) (v:Value) (vs:List Value):Prop:=w.ownsRow lo 24 1 v vs.length vs∧(∀ k,v.ownBlock=some k→k<hi)∧vs.length≤17592186044416
theorem OutO.form {w:World} {lo hi:Nat} {v:Value} {vs:List Value} (h:OutO w lo hi v vs):∃ A c,v = .slice A vs.length c∧vs.length≤c∧c≤9223372036854775807:=by
 rcases h.1.2 with ⟨rfl,h0⟩ | ⟨g,cap,cur,rfl,_,_,hnc,hcm,_⟩
 ·exact⟨none,0,by rw[h0],by omega,by omega⟩
 ·exact⟨_,_,rfl,hnc,by simp only[maxLen]at hcm;omega⟩
theorem OutO.chg {w w':World} {lo hi lo' hi':Nat} {v:Value} {vs:List Value} (h:OutO w lo hi v vs) (hc:Chg lo' hi' w w') (hd:hi≤lo'∨hi'≤lo):OutO w' lo hi v vs:=by
 refine⟨⟨h.1.1,?_⟩,h.2⟩;rcases h.1.2 with h1 | ⟨g,cap,cur,rfl,hg,hh,rest⟩
 ·exact .inl h1
 ·have:=h.2.1 g (by simp[Value.ownBlock]);exact .inr ⟨g,cap,cur,rfl,hg,(hc.block g (Array.getElem?_eq_some_iff.1 hh).1 (by omega)).trans hh,rest⟩
theorem OutO.below {w w':World} {lo hi:Nat} {v:Value} {vs:List Value} (h:OutO w lo hi v vs) (hb:Below w.heap.size w w'):OutO w' lo hi v vs :=
 ⟨h.1.kept (row:=none) ⟨hb.os,hb.tape,hb.output,hb.size,fun k hk _=>hb.block k hk⟩ (by cases v.ownBlock <;> simp),h.2⟩
theorem OutO.grown {w w':World} {lo hi base:Nat} {v u:Value} {vs:List Value} {l:List Int} (h:OutO w lo hi v vs) (ho:OwnI w base u l) (hg:w.grownBy w' u.ownBlock):OutO w' lo hi v vs:=by
 refine⟨h.1.kept hg ?_,h.2⟩;rcases h.1.2 with ⟨rfl,_⟩ | ⟨g,cap,cur,rfl,_,hh,_⟩
 ·exact .inl rfl
 ·right
  exact fun e=>ho.blkne (g:=g) (t:=24) (cs:=cur) hh (by decide) e
theorem OutO.mono {w:World} {lo hi lo' hi':Nat} {v:Value} {vs:List Value} (h:OutO w lo hi v vs) (h1:lo'≤lo) (h2:hi≤hi'):OutO w lo' hi' v vs:=by
 refine⟨⟨h.1.1,?_⟩,fun k hk=>Nat.lt_of_lt_of_le (h.2.1 k hk) h2,h.2.2⟩;rcases h.1.2 with h3 | ⟨g,cap,cur,e,hg,rest⟩
 ·exact .inl h3
 ·exact .inr ⟨g,cap,cur,e,by omega,rest⟩
theorem OutO.set {w:World} {lo hi g:Nat} {v:Value} {vs:List Value} {t:TypeId} {cs:Array Value} (h:OutO w lo hi v vs) (hb:Blk w g t cs) (ht:24≠t) (i:Nat) (u:Value):OutO (w.setCell ⟨g,i,none⟩ u) lo hi v vs:=by
 refine⟨h.1.kept (row:=some g) ⟨rfl,rfl,rfl,by simp[World.setCell],fun k _ hne=>Below.heap_setCell _ _ _ _ (fun e=>hne (by rw[e]))⟩ ?_,h.2⟩;rcases h.1.2 with ⟨rfl,_⟩ | ⟨g',cap,cur,rfl,_,hh,_⟩
 ·exact .inl rfl
 ·right
  intro e;have:g'=g:=by simpa [Value.ownBlock] using e
  subst this;unfold Blk at hb;rw[hh]at hb;injection hb with hb
  injection hb with _ hb
  exact ht hb
def b1_ (w:World) (lo hi:Nat) (v:Value) (ll:List (List Int)):Prop:=∃ vs,OutO w lo hi v vs∧vs.length=ll.length∧Fam w lo hi (vs.zip ll)
theorem OutO.rd {w:World} {lo hi:Nat} {v:Value} {vs:List Value} {ll:List (List Int)} (h:OutO w lo hi v vs) (hl:vs.length=ll.length) (hr:∀ p∈vs.zip ll,SlI w w.heap.size p.1 p.2):SlII w w.heap.size v ll:=by
 obtain⟨h1,h2,h3⟩:=h;rcases h1.2 with ⟨rfl,h0⟩ | ⟨g,cap,cur,rfl,_,hg,hnc,hcm,hcs,htake⟩
 ·obtain rfl:ll=[]:=m1_ (by omega);exact SlG.nil
 ·rw[hl]at hnc h1 h3⊢;refine⟨_,_,rfl,hnc,by simp only[maxLen]at hcm;omega,h3,fun hp=>⟨g,0,rfl,(Array.getElem?_eq_some_iff.1 hg).1,fun j x hj=>?_⟩⟩;have hjl:=b0_ hj;have hc:=h1.cellAt j (by omega);rw[l2_ (by omega)]at hc;refine⟨vs[j]'(by omega),by rw[show 0+j*1=j by omega];exact hc,hr (vs[j]'(by omega),x) ?_⟩;rw[List.mem_iff_getElem?];exact⟨j,by rw[List.getElem?_zip_eq_some];exact⟨l2_ (by omega),hj⟩⟩
theorem b1_.rd {w:World} {lo hi:Nat} {v:Value} {ll:List (List Int)} (h:b1_ w lo hi v ll):SlII w w.heap.size v ll:=by
 obtain⟨vs,h1,h2,h3⟩:=h;exact h1.rd h2 fun p hp=>(h3.1 p hp).rd
theorem b1_.chg {w w':World} {lo hi lo' hi':Nat} {v:Value} {ll:List (List Int)} (h:b1_ w lo hi v ll) (hc:Chg lo' hi' w w') (hd:hi≤lo'∨hi'≤lo):b1_ w' lo hi v ll:=by
 obtain⟨vs,h1,h2,h3⟩:=h;exact⟨vs,h1.chg hc hd,h2,h3.chg hc hd⟩
theorem b1_.below {w w':World} {lo hi:Nat} {v:Value} {ll:List (List Int)} (h:b1_ w lo hi v ll) (hb:Below w.heap.size w w'):b1_ w' lo hi v ll:=by
 obtain⟨vs,h1,h2,h3⟩:=h;exact⟨vs,h1.below hb,h2,h3.below hb⟩
theorem SlII.chg {w w':World} {B lo hi:Nat} {v:Value} {ll:List (List Int)} (h:SlII w B v ll) (hc:Chg lo hi w w') (hB:B≤lo) (hs:B≤w.heap.size):SlII w' B v ll:=SlII.below (hc.below hB hs) h
theorem Fam.snoc {w:World} {lo mi hi:Nat} {L:List (Value×List Int)} {v:Value} {l:List Int} (h:Fam w lo mi L) (hv:a9_ w mi hi v l) (h1:lo≤mi) (h2:mi≤hi):Fam w lo hi (L ++ [(v,l)]):=by
 refine⟨fun p hp=>?_,?_⟩
 ·rcases List.mem_append.1 hp with hp | hp
  ·exact (h.1 p hp).wider (l_ _) h2
  ·rw[List.mem_singleton]at hp;subst hp;exact hv.wider h1 (l_ _)
 ·rw[List.pairwise_append];refine⟨h.2,by simp,fun a ha b hb=>?_⟩;rw[List.mem_singleton]at hb;subst hb;show a.1.ownBlock=none∨a.1.ownBlock≠v.ownBlock;rcases hA:a.1.ownBlock with _ | x
  ·exact .inl rfl
  ·right
   intro e;have:=(h.1 a ha).2 x hA;have:=(hv.1.lt x e.symm).1;omega
def tot (ll:List (List Int)):Nat:=(ll.map List.length).sum
def mkSS:Int→List (List Int)→List (List Int)
 | _,[]=>[]
 | k,l :: r=>mkI k l.length :: mkSS (k+l.length) r
def a5q (cs:Array Value) (n:Nat) (vs:List Value):Prop:=cs.size=n∧vs.length≤n∧∀ (j:Nat) (v:Value),vs[j]?=some v→cs[j]?=some v
theorem a5q.step {cs:Array Value} {n:Nat} {vs:List Value} {v:Value} (h:a5q cs n vs) (hn:vs.length<n):a5q (cs.setIfInBounds vs.length v) n (vs ++ [v]):=by
 obtain⟨h1,h2,h3⟩:=h;refine⟨by simpa using h1,by simp;omega,fun j u hu=>?_⟩;by_cases e:j=vs.length
 ·subst e;rw[List.getElem?_append_right (l_ _)]at hu;simp at hu;subst hu;simp[Array.getElem?_setIfInBounds];omega
 ·have hj:j<vs.length:=by have:=b0_ hu;simp at this;omega
  rw[List.getElem?_append_left hj]at hu;rw[Array.getElem?_setIfInBounds,if_neg (by omega)];exact h3 j u hu
theorem a5q.own {w:World} {g lo:Nat} {cs:Array Value} {vs:List Value} (h:a5q cs vs.length vs) (hb:Blk w g 24 cs) (hlo:lo≤g) (hn:vs.length≤17592186044416):OutO w lo w.heap.size (.slice (some ⟨g,0,none⟩) vs.length vs.length) vs:=by
 have e:cs.toList.take (vs.length*1)=vs:=by
  apply List.ext_getElem?
  intro j;by_cases hj:j<vs.length
  ·rw[List.getElem?_take,if_pos (by omega),Array.getElem?_toList,l2_ hj];exact h.2.2 j _ (l2_ hj)
  ·rw[List.getElem?_take,if_neg (by omega),l6_ (by omega)]
 have:=hb.own (base:=lo) (n:=vs.length) (cap:=vs.length) (size:=1) hlo (l_ _) (by simp only[maxLen];omega) (by rw[h.1];omega);rw[e]at this;exact⟨this,fun k hk=>by simp[Value.ownBlock]at hk;subst hk;exact hb.lt,hn⟩
def szSS (xs:List (List Int)):Nat:=xs.length+tot xs
theorem p0_ {vs:List Value} {ll:List (List Int)} {j:Nat} {v:Value} {l:List Int} (hv:vs[j]?=some v) (hl:ll[j]?=some l):vs.zip ll=(vs.take j).zip (ll.take j) ++ (v,l) :: (vs.drop (j+1)).zip (ll.drop (j+1)):=by
 have e1:vs=vs.take j ++ v :: vs.drop (j+1):=by
  conv=>lhs;rw[←List.take_append_drop j vs]
  rw[List.drop_eq_getElem_cons (b0_ hv)];have:vs[j]'(b0_ hv)=v:=by rw[l2_ (b0_ hv)]at hv;injection hv
  rw[this]
 have e2:ll=ll.take j ++ l :: ll.drop (j+1):=by
  conv=>lhs;rw[←List.take_append_drop j ll]
  rw[List.drop_eq_getElem_cons (b0_ hl)];have:ll[j]'(b0_ hl)=l:=by rw[l2_ (b0_ hl)]at hl;injection hl
  rw[this]
 conv=>lhs;rw[e1,e2]
 rw[List.zip_append (by simp;have:=b0_ hv;have:=b0_ hl;omega)];rfl
structure Mx where
 r:Int
 c:Int
 a:List Int
deriving DecidableEq
theorem f5j (p q:Mx):(p=q)↔(p.r=q.r∧p.c=q.c∧p.a=q.a):=by
 cases p;cases q;simp
def MxR (w:World) (B:Nat) (val:Value) (m:Mx):Prop:=∃ s,val = .agg #[.int .i64 m.r,.int .i64 m.c,s]∧SlI w B s m.a∧I64 m.r∧I64 m.c
theorem MxR.next {w w':World} {v:Value} {m:Mx} (hb:Below w.heap.size w w') (h:MxR w w.heap.size v m):MxR w' w'.heap.size v m:=by
 obtain⟨s,e,h1,h2⟩:=h;exact⟨s,e,SlI.next hb h1,h2⟩
theorem MxR.below {w w':World} {B:Nat} {v:Value} {m:Mx} (hb:Below B w w') (h:MxR w B v m):MxR w' B v m:=by
 obtain⟨s,e,h1,h2⟩:=h;exact⟨s,e,SlI.below hb h1,h2⟩
theorem MxR.more {w:World} {B B':Nat} {v:Value} {m:Mx} (hB:B≤B') (h:MxR w B v m):MxR w B' v m:=by
 obtain⟨s,e,h1,h2⟩:=h;exact⟨s,e,SlI.more hB h1,h2⟩
theorem MxR.chg {w w':World} {B lo hi:Nat} {v:Value} {m:Mx} (h:MxR w B v m) (hc:Chg lo hi w w') (hB:B≤lo) (hs:B≤w.heap.size):MxR w' B v m:=MxR.below (hc.below hB hs) h
theorem MxR.open_ {w:World} {B:Nat} {v:Value} {m:Mx} (h:MxR w B v m):∃ A c,v = .agg #[.int .i64 m.r,.int .i64 m.c,.slice A m.a.length c]∧SlI w B (.slice A m.a.length c) m.a∧I64 m.r∧I64 m.c∧m.a.length≤17592186044416:=by
 obtain⟨s,rfl,h1,h2,h3⟩:=h;obtain⟨A,c,rfl,_,_,h4,h1⟩:=h1.open_;exact⟨A,c,rfl,h1,h2,h3,h4⟩
theorem MxR.form {w:World} {B:Nat} {v:Value} {m:Mx} (h:MxR w B v m):∃ A c,v = .agg #[.int .i64 m.r,.int .i64 m.c,.slice A m.a.length c]:=by
 obtain⟨A,c,e,_⟩:=h.open_;exact⟨A,c,e⟩
theorem MxR.lens {w:World} {B:Nat} {v:Value} {m:Mx} (h:MxR w B v m):m.a.length≤17592186044416:=by
 obtain⟨A,c,e,_,_,_,h1⟩:=h.open_;exact h1
def RMx (w:World) (B b o:Nat) (m:Mx):Prop:=∃ s,w.cell? ⟨b,o,none⟩=some (.int .i64 m.r)∧w.cell? ⟨b,o+1,none⟩=some (.int .i64 m.c)∧w.cell? ⟨b,o+2,none⟩=some s∧SlI w B s m.a∧I64 m.r∧I64 m.c
abbrev SlM:=SlG 3 RMx
theorem SlM.below {w w':World} {B:Nat} {v:Value} {l:List Mx} (hb:Below B w w') (h:SlM w B v l):SlM w' B v l :=
 SlG.mono (fun _ _ _ hlt ⟨s,h0,h1,h2,hs,hx⟩=>⟨s,a7_ hb hlt h0,a7_ hb hlt h1,a7_ hb hlt h2,SlI.below hb hs,hx⟩) (l_ _) h
theorem SlM.more {w:World} {B B':Nat} {v:Value} {l:List Mx} (hB:B≤B') (h:SlM w B v l):SlM w B' v l :=
 SlG.mono (B:=B) (B':=B') (fun _ _ _ _ ⟨s,h0,h1,h2,hs,hx⟩=>⟨s,h0,h1,h2,SlI.more hB hs,hx⟩) hB h
theorem SlM.next {w w':World} {v:Value} {l:List Mx} (hb:Below w.heap.size w w') (h:SlM w w.heap.size v l):SlM w' w'.heap.size v l:=SlM.more hb.size (SlM.below hb h)
theorem SlM.chg {w w':World} {B lo hi:Nat} {v:Value} {l:List Mx} (h:SlM w B v l) (hc:Chg lo hi w w') (hB:B≤lo) (hs:B≤w.heap.size):SlM w' B v l:=SlM.below (hc.below hB hs) h
theorem SlM.at_ {w:World} {B c:Nat} {A:Option Addr} {xs:List Mx} {k:Nat} (h:SlM w B (.slice A xs.length c) xs) (hk:k<xs.length) :
  ∃ b o m A' c',A=some ⟨b,o,none⟩∧b<B∧Hid (xs[k]?=some m)∧w.cell? ⟨b,o+k*3,none⟩=some (.int .i64 m.r)∧w.cell? ⟨b,o+k*3+1,none⟩=some (.int .i64 m.c)∧w.cell? ⟨b,o+k*3+2,none⟩=some (.slice A' m.a.length c') ∧
   SlI w B (.slice A' m.a.length c') m.a∧(-9223372036854775808≤m.r∧m.r≤9223372036854775807)∧(-9223372036854775808≤m.c∧m.c≤9223372036854775807)∧m.a.length≤17592186044416:=by
 obtain⟨A',c',e,h1,h2,h3,h4⟩:=h;injection e with e1 e2 e3;subst e1
 obtain⟨b,o,rfl,hb,hc⟩:=h4 (by omega);have hx:xs[k]?=some xs[k]:=l2_ hk;obtain⟨s,c0,c1,c2,hs,hr,hcc⟩:=hc k _ hx;obtain⟨A2,c3,rfl,_,_,h5,hs⟩:=hs.open_;exact⟨b,o,xs[k],A2,c3,rfl,hb,hx,c0,c1,c2,hs,hr,hcc,h5⟩
def RowO (T:TypeId) (sz:Nat) (w:World) (lo hi:Nat) (v:Value) (n:Nat) (cs:List Value):Prop:=w.ownsRow lo T sz v n cs∧(∀ k,v.ownBlock=some k→k<hi)∧n≤17592186044416
section
variable {T:TypeId} {sz:Nat} {w w':World} {lo hi:Nat} {v:Value} {n:Nat} {cs:List Value}
theorem RowO.form (h:RowO T sz w lo hi v n cs):∃ A c,v = .slice A n c∧n≤c∧c≤9223372036854775807:=by
 rcases h.1.2 with ⟨rfl,h0⟩ | ⟨g,cap,cur,rfl,_,_,hnc,hcm,_⟩
 ·exact⟨none,0,by rw[h0],by omega,by omega⟩
 ·exact⟨_,_,rfl,hnc,by simp only[maxLen]at hcm;omega⟩
theorem RowO.at_ (h:RowO T sz w lo hi v n cs) (h0:0<n):∃ g c cur,v = .slice (some ⟨g,0,none⟩) n c∧lo≤g∧g<hi∧g<w.heap.size∧Blk w g T cur:=by
 rcases h.1.2 with ⟨rfl,h1⟩ | ⟨g,cap,cur,rfl,hg,hh,_⟩
 ·omega
 ·exact⟨g,cap,cur,rfl,hg,h.2.1 g rfl,(Array.getElem?_eq_some_iff.1 hh).1,hh⟩
theorem RowO.chg {lo' hi':Nat} (h:RowO T sz w lo hi v n cs) (hc:Chg lo' hi' w w') (hd:hi≤lo'∨hi'≤lo):RowO T sz w' lo hi v n cs:=by
 refine⟨⟨h.1.1,?_⟩,h.2⟩;rcases h.1.2 with h1 | ⟨g,cap,cur,rfl,hg,hh,rest⟩
 ·exact .inl h1
 ·have:=h.2.1 g (by simp[Value.ownBlock]);exact .inr ⟨g,cap,cur,rfl,hg,(hc.block g (Array.getElem?_eq_some_iff.1 hh).1 (by omega)).trans hh,rest⟩
theorem RowO.below (h:RowO T sz w lo hi v n cs) (hb:Below w.heap.size w w'):RowO T sz w' lo hi v n cs :=
 ⟨h.1.kept (row:=none) ⟨hb.os,hb.tape,hb.output,hb.size,fun k hk _=>hb.block k hk⟩ (by cases v.ownBlock <;> simp),h.2⟩
theorem RowO.mono {lo' hi':Nat} (h:RowO T sz w lo hi v n cs) (h1:lo'≤lo) (h2:hi≤hi'):RowO T sz w lo' hi' v n cs:=by
 refine⟨⟨h.1.1,?_⟩,fun k hk=>Nat.lt_of_lt_of_le (h.2.1 k hk) h2,h.2.2⟩;rcases h.1.2 with h3 | ⟨g,cap,cur,e,hg,rest⟩
 ·exact .inl h3
 ·exact .inr ⟨g,cap,cur,e,by omega,rest⟩
theorem RowO.set {g:Nat} {t:TypeId} {bs:Array Value} (h:RowO T sz w lo hi v n cs) (hb:Blk w g t bs) (ht:T≠t) (i:Nat) (u:Value):RowO T sz (w.setCell ⟨g,i,none⟩ u) lo hi v n cs:=by
 refine⟨h.1.kept (row:=some g) ⟨rfl,rfl,rfl,by simp[World.setCell],fun k _ hne=>Below.heap_setCell _ _ _ _ (fun e=>hne (by rw[e]))⟩ ?_,h.2⟩;rcases h.1.2 with ⟨rfl,_⟩ | ⟨g',cap,cur,rfl,_,hh,_⟩
 ·exact .inl rfl
 ·right
  intro e;have:g'=g:=by simpa [Value.ownBlock] using e
  subst this;unfold Blk at hb;rw[hh]at hb;injection hb with hb
  injection hb with _ hb
  exact ht hb
theorem RowO.grown {base:Nat} {u:Value} {l:List Int} (h:RowO T sz w lo hi v n cs) (hT:3≠T) (ho:OwnI w base u l) (hg:w.grownBy w' u.ownBlock):RowO T sz w' lo hi v n cs:=by
 refine⟨h.1.kept hg ?_,h.2⟩;rcases h.1.2 with ⟨rfl,_⟩ | ⟨g,cap,cur,rfl,_,hh,_⟩
 ·exact .inl rfl
 ·right
  exact fun e=>ho.blkne (g:=g) (t:=T) (cs:=cur) hh hT e
theorem RowO.stored {g c:Nat} (h:RowO T sz w lo hi (.slice (some ⟨g,0,none⟩) n c) n cs) (j:Nat) (u:Value):RowO T sz (w.setCell ⟨g,j,none⟩ u) lo hi (.slice (some ⟨g,0,none⟩) n c) n (cs.set j u)∧Chg lo hi w (w.setCell ⟨g,j,none⟩ u):=by
 have hs:=h.1.stored j u;refine⟨⟨hs.1,h.2⟩,⟨hs.2.os,hs.2.tape,hs.2.output,hs.2.size,fun k hk hne=>hs.2.block k hk (fun e=>?_)⟩⟩;have h1:=h.2.1 k (by simp[Value.ownBlock];injection e with e;exact e.symm);have h2:=(h.1.lt k (by simp[Value.ownBlock];injection e with e;exact e.symm)).1;omega
end
theorem RowO.nil (T:TypeId) {sz:Nat} (w:World) (lo hi:Nat):RowO T sz w lo hi (.slice none 0 0) 0 []:=⟨⟨by simp,.inl ⟨rfl,rfl⟩⟩,by simp[Value.ownBlock],by omega⟩
def mxCs:List Value→List Mx→List Value
 | v :: vs,m :: ms => .int .i64 m.r :: .int .i64 m.c :: v :: mxCs vs ms
 | _,_=>[]
theorem A1_:∀ (vs:List Value) (ms:List Mx),vs.length=ms.length→(mxCs vs ms).length=ms.length*3
 | [],[],_=>rfl
 | v :: vs,m :: ms,h=>by simp only[mxCs,List.length_cons]at h⊢;rw[A1_ vs ms (by omega)];omega
 | [],m :: ms,h=>by simp at h
 | v :: vs,[],h=>by simp at h
theorem y7_:∀ {vs:List Value} {ms:List Mx} {j:Nat} {v:Value} {m:Mx},vs[j]?=some v→ms[j]?=some m →
  (mxCs vs ms)[j*3]?=some (.int .i64 m.r)∧(mxCs vs ms)[j*3+1]?=some (.int .i64 m.c)∧(mxCs vs ms)[j*3+2]?=some v
 | [],_,_,_,_,h,_=>by simp at h
 | _ :: _,[],_,_,_,_,h=>by simp at h
 | v :: vs,m :: ms,0,_,_,h1,h2=>by
  simp at h1 h2;subst h1 h2;simp[mxCs]
 | v :: vs,m :: ms,j+1,_,_,h1,h2=>by
  simp only[List.getElem?_cons_succ]at h1 h2;obtain⟨a,b,c⟩:=y7_ h1 h2;simp only[mxCs,show (j+1)*3=j*3+1+1+1 by omega,show j*3+1+1+1+1=(j*3+1)+1+1+1 by omega,show j*3+1+1+1+2=(j*3+2)+1+1+1 by omega,List.getElem?_cons_succ];exact⟨a,b,c⟩
theorem T1_:∀ (vs:List Value) (ms:List Mx) (v:Value) (m:Mx),vs.length=ms.length→mxCs (vs ++ [v]) (ms ++ [m])=mxCs vs ms ++ [.int .i64 m.r,.int .i64 m.c,v]
 | [],[],_,_,_=>rfl
 | v :: vs,m :: ms,u,x,h=>by simp only[List.cons_append,mxCs];rw[T1_ vs ms u x (by simpa using h)]
 | [],m :: ms,_,_,h=>by simp at h
 | v :: vs,[],_,_,h=>by simp at h
abbrev OutM (w:World) (lo hi:Nat) (v:Value) (vs:List Value) (ms:List Mx):Prop:=RowO 41 3 w lo hi v ms.length (mxCs vs ms)
def d3_ (w:World) (lo hi:Nat) (v:Value) (ms:List Mx):Prop:=∃ vs,OutM w lo hi v vs ms∧vs.length=ms.length∧Fam w lo hi (vs.zip (ms.map Mx.a))∧∀ m∈ms,I64 m.r∧I64 m.c
theorem OutM.rd {w:World} {lo hi:Nat} {v:Value} {vs:List Value} {ms:List Mx} (h:OutM w lo hi v vs ms) (hl:vs.length=ms.length) (hr:∀ p∈vs.zip (ms.map Mx.a),SlI w w.heap.size p.1 p.2) (hi:∀ m∈ms,I64 m.r∧I64 m.c):SlM w w.heap.size v ms:=by
 obtain⟨h1,h2,h3⟩:=h;rcases h1.2 with ⟨rfl,h0⟩ | ⟨g,cap,cur,rfl,_,hg,hnc,hcm,hcs,htake⟩
 ·obtain rfl:ms=[]:=m1_ (by omega);exact SlG.nil
 ·refine⟨_,_,rfl,hnc,by simp only[maxLen]at hcm;omega,h3,fun hp=>⟨g,0,rfl,(Array.getElem?_eq_some_iff.1 hg).1,fun j x hj=>?_⟩⟩;have hjl:=b0_ hj;have hv:vs[j]?=some (vs[j]'(by omega)):=l2_ (by omega);obtain⟨a,b,c⟩:=y7_ hv hj;have e:=fun i (hi:i<3)=>h1.cellAt (j*3+i) (by omega)
  refine⟨vs[j]'(by omega),?_,?_,?_,hr (vs[j]'(by omega),x.a) ?_,hi x (l4_ hj)⟩
  ·rw[show 0+j*3=j*3+0 by omega,e 0 (by omega)];exact a
  ·rw[show 0+j*3+1=j*3+1 by omega,e 1 (by omega)];exact b
  ·rw[show 0+j*3+2=j*3+2 by omega,e 2 (by omega)];exact c
  ·rw[List.mem_iff_getElem?];exact⟨j,by rw[List.getElem?_zip_eq_some];exact⟨hv,by simp[hj]⟩⟩
theorem d3_.rd {w:World} {lo hi:Nat} {v:Value} {ms:List Mx} (h:d3_ w lo hi v ms):SlM w w.heap.size v ms:=by
 obtain⟨vs,h1,h2,h3,h4⟩:=h;exact OutM.rd h1 h2 (fun p hp=>(h3.1 p hp).rd) h4
theorem d3_.chg {w w':World} {lo hi lo' hi':Nat} {v:Value} {ms:List Mx} (h:d3_ w lo hi v ms) (hc:Chg lo' hi' w w') (hd:hi≤lo'∨hi'≤lo):d3_ w' lo hi v ms:=by
 obtain⟨vs,h1,h2,h3,h4⟩:=h;exact⟨vs,h1.chg hc hd,h2,h3.chg hc hd,h4⟩
theorem d3_.below {w w':World} {lo hi:Nat} {v:Value} {ms:List Mx} (h:d3_ w lo hi v ms) (hb:Below w.heap.size w w'):d3_ w' lo hi v ms:=by
 obtain⟨vs,h1,h2,h3,h4⟩:=h;exact⟨vs,h1.below hb,h2,h3.below hb,h4⟩
def MxO (w:World) (lo hi:Nat) (val:Value) (m:Mx):Prop:=∃ s,val = .agg #[.int .i64 m.r,.int .i64 m.c,s]∧a9_ w lo hi s m.a∧I64 m.r∧I64 m.c
theorem MxO.rd {w:World} {lo hi:Nat} {v:Value} {m:Mx} (h:MxO w lo hi v m):MxR w w.heap.size v m:=by
 obtain⟨s,e,h1,h2⟩:=h;exact⟨s,e,h1.rd,h2⟩
theorem MxO.form {w:World} {lo hi:Nat} {v:Value} {m:Mx} (h:MxO w lo hi v m):∃ A c,v = .agg #[.int .i64 m.r,.int .i64 m.c,.slice A m.a.length c]:=h.rd.form
theorem MxO.chg {w w':World} {lo hi lo' hi':Nat} {v:Value} {m:Mx} (h:MxO w lo hi v m) (hc:Chg lo' hi' w w') (hd:hi≤lo'∨hi'≤lo):MxO w' lo hi v m:=by
 obtain⟨s,e,h1,h2⟩:=h;exact⟨s,e,h1.chg hc hd,h2⟩
theorem MxO.below {w w':World} {lo hi:Nat} {v:Value} {m:Mx} (h:MxO w lo hi v m) (hb:Below w.heap.size w w'):MxO w' lo hi v m:=by
 obtain⟨s,e,h1,h2⟩:=h;exact⟨s,e,h1.below hb,h2⟩
theorem MxO.wider {w:World} {lo hi lo' hi':Nat} {v:Value} {m:Mx} (h:MxO w lo hi v m) (h1:lo'≤lo) (h2:hi≤hi'):MxO w lo' hi' v m:=by
 obtain⟨s,e,h3,h4⟩:=h;exact⟨s,e,h3.wider h1 h2,h4⟩
def MxO.mk (k:Int) (m:Mx):Mx:=⟨m.r,m.c,mkI k m.a.length⟩
def Mx.size (m:Mx):Nat:=m.a.length
theorem f5x:(Tryz.prog.info? 41).map (fun i=>(i.zero,i.size,i.bytes))=some (some (.agg #[.int .i64 0,.int .i64 0,.slice none 0 0]),3,40):=by kernel_rfl
def totA (ms:List Mx):Nat:=tot (ms.map Mx.a)
def szM (ms:List Mx):Nat:=ms.length+totA ms
def totM (ms:List Mx):Nat:=(ms.map fun m=>2+m.a.length).sum
def mkMS:Int→List Mx→List Mx
 | _,[]=>[]
 | k,m :: r=>⟨k,k+1,mkI (k+1+1) m.a.length⟩ :: mkMS (k+1+1+m.a.length) r
def b2j (cs:Array Value) (n:Nat) (vs:List Value) (ms:List Mx):Prop:=cs.size=n*3∧vs.length≤n∧∀ (j:Nat) (v:Value) (m:Mx),vs[j]?=some v→ms[j]?=some m→cs[j*3]?=some (.int .i64 m.r)∧cs[j*3+1]?=some (.int .i64 m.c)∧cs[j*3+2]?=some v
theorem b2j.step {cs:Array Value} {n:Nat} {vs:List Value} {ms:List Mx} {v:Value} {m:Mx} (h:b2j cs n vs ms) (hn:vs.length<n) (hm:ms[vs.length]?=some m) :
  b2j (((cs.setIfInBounds (vs.length*3) (.int .i64 m.r)).setIfInBounds (vs.length*3+1) (.int .i64 m.c)).setIfInBounds (vs.length*3+2) v) n (vs ++ [v]) ms:=by
 obtain⟨h1,h2,h3⟩:=h;refine⟨by simpa using h1,by simp;omega,fun j u x hu hx=>?_⟩;by_cases e:j=vs.length
 ·subst e;rw[List.getElem?_append_right (l_ _)]at hu;simp at hu;subst hu;rw[hm]at hx;injection hx with hx
  subst hx;refine⟨?_,?_,?_⟩ <;> simp[Array.getElem?_setIfInBounds] <;> omega
 ·have hj:j<vs.length:=by have:=b0_ hu;simp at this;omega
  rw[List.getElem?_append_left hj]at hu;obtain⟨a,b,c⟩:=h3 j u x hu hx;refine⟨?_,?_,?_⟩ <;> simp only[Array.getElem?_setIfInBounds] <;> (repeat rw[if_neg (by omega)]) <;> assumption
theorem b2j.own {w:World} {g lo:Nat} {cs:Array Value} {vs:List Value} {ms:List Mx} (h:b2j cs ms.length vs ms) (hl:vs.length=ms.length) (hb:Blk w g 41 cs) (hlo:lo≤g) (hn:ms.length≤17592186044416):OutM w lo w.heap.size (.slice (some ⟨g,0,none⟩) ms.length ms.length) vs ms:=by
 have e:cs.toList.take (ms.length*3)=mxCs vs ms:=by
  apply List.ext_getElem?
  intro i;by_cases hi:i<ms.length*3
  ·obtain⟨k,r,rfl,hr⟩:∃ k r,i=k*3+r∧r<3:=⟨i / 3,i % 3,by omega,by omega⟩;have hj:k<ms.length:=by omega
   obtain⟨a,b,c⟩:=h.2.2 k _ _ (l2_ (by omega:k<vs.length)) (l2_ hj);obtain⟨a',b',c'⟩:=y7_ (l2_ (by omega:k<vs.length)) (l2_ hj);rw[List.getElem?_take,if_pos hi,Array.getElem?_toList];rcases (show r=0∨r=1∨r=2 by omega) with rfl | rfl | rfl
   ·rw[Nat.add_zero,a,a']
   ·rw[b,b']
   ·rw[c,c']
  ·rw[List.getElem?_take,if_neg hi,l6_ (by rw[A1_ _ _ hl];omega)]
 have:=hb.own (base:=lo) (n:=ms.length) (cap:=ms.length) (size:=3) hlo (l_ _) (by simp only[maxLen];omega) (by rw[h.1]);rw[e]at this;exact⟨this,fun k hk=>by simp[Value.ownBlock]at hk;subst hk;exact hb.lt,hn⟩
theorem Fam.setAt {w w':World} {lo hi:Nat} {L0:List (Value×List Int)} {vs:List Value} {ll:List (List Int)} {j:Nat} {v:Value} {l l':List Int} (h:Fam w lo hi (L0 ++ vs.zip ll)) (hv:vs[j]?=some v) (hl:ll[j]?=some l) (ho:OwnI w' lo v l') (hg:w.grownBy w' v.ownBlock) :
  Fam w' lo hi (L0 ++ vs.zip (ll.set j l')):=by
 have h1:=p0_ hv hl;have hj:=b0_ hl;have h2:(ll.set j l')[j]?=some l':=by simp[hj]
 have h3:=p0_ hv h2;rw[h1,←List.append_assoc]at h;rw[h3,←List.append_assoc];have e1:(ll.set j l').take j=ll.take j:=by rw[List.take_set_of_le (by omega)]
 have e2:(ll.set j l').drop (j+1)=ll.drop (j+1):=by rw[List.drop_set_of_lt (by omega)]
 rw[e1,e2];exact h.turn ho hg
theorem Fam.getAt {w:World} {lo hi:Nat} {L0:List (Value×List Int)} {vs:List Value} {ll:List (List Int)} {j:Nat} {v:Value} {l:List Int} (h:Fam w lo hi (L0 ++ vs.zip ll)) (hv:vs[j]?=some v) (hl:ll[j]?=some l):a9_ w lo hi v l :=
 h.1 (v,l) (List.mem_append_right _ (by rw[List.mem_iff_getElem?];exact⟨j,by rw[List.getElem?_zip_eq_some];exact⟨hv,hl⟩⟩))
theorem b4_ {w:World} {lo hi:Nat} {p:Addr} {u:Value} (h1:lo≤p.block) (h2:p.block<hi):Chg lo hi w (w.setCell p u) :=
 ⟨rfl,rfl,rfl,by simp[World.setCell],fun k hk hne=>Below.heap_setCell _ _ _ _ (by intro e;omega)⟩
theorem Fam.one {w:World} {lo hi:Nat} {v:Value} {l:List Int} (h:a9_ w lo hi v l):Fam w lo hi [(v,l)]:=⟨fun p hp=>by rw[List.mem_singleton]at hp;subst hp;exact h,by simp⟩
structure Rp where
 p:Int
 q:Qv
 d:List Int
 m:List Mx
deriving DecidableEq
def Rp.size (x:Rp):Nat:=x.q.size+x.d.length+szM x.m
def RpR (w:World) (B:Nat) (val:Value) (x:Rp):Prop:=∃ f t d m,val = .agg #[.int .i64 x.p,.int .i64 x.q.v,f,t,d,m]∧SlI w B f x.q.f∧SlI w B t x.q.t∧SlI w B d x.d∧SlM w B m x.m∧I64 x.p∧I64 x.q.v
theorem RpR.below {w w':World} {B:Nat} {v:Value} {x:Rp} (hb:Below B w w') (h:RpR w B v x):RpR w' B v x:=by
 obtain⟨f,t,d,m,e,h1,h2,h3,h4,h5⟩:=h;exact⟨f,t,d,m,e,SlI.below hb h1,SlI.below hb h2,SlI.below hb h3,SlM.below hb h4,h5⟩
theorem RpR.more {w:World} {B B':Nat} {v:Value} {x:Rp} (hB:B≤B') (h:RpR w B v x):RpR w B' v x:=by
 obtain⟨f,t,d,m,e,h1,h2,h3,h4,h5⟩:=h;exact⟨f,t,d,m,e,SlI.more hB h1,SlI.more hB h2,SlI.more hB h3,SlM.more hB h4,h5⟩
theorem RpR.next {w w':World} {v:Value} {x:Rp} (hb:Below w.heap.size w w') (h:RpR w w.heap.size v x):RpR w' w'.heap.size v x:=RpR.more hb.size (RpR.below hb h)
theorem RpR.chg {w w':World} {B lo hi:Nat} {v:Value} {x:Rp} (h:RpR w B v x) (hc:Chg lo hi w w') (hB:B≤lo) (hs:B≤w.heap.size):RpR w' B v x:=RpR.below (hc.below hB hs) h
theorem RpR.open_ {w:World} {B:Nat} {v:Value} {x:Rp} (h:RpR w B v x):∃ A a C c E e H h,v = .agg #[.int .i64 x.p,.int .i64 x.q.v,.slice A x.q.f.length a,.slice C x.q.t.length c,.slice E x.d.length e,.slice H x.m.length h] ∧
  QvR w B (.agg #[.int .i64 x.q.v,.slice A x.q.f.length a,.slice C x.q.t.length c]) x.q∧SlI w B (.slice E x.d.length e) x.d∧SlM w B (.slice H x.m.length h) x.m∧I64 x.p∧x.d.length≤17592186044416∧x.m.length≤17592186044416:=by
 obtain⟨f,t,d,m,rfl,h1,h2,h3,h4,h5,h6⟩:=h;obtain⟨A,a,rfl,_,_,_,h1⟩:=h1.open_;obtain⟨C,c,rfl,_,_,_,h2⟩:=h2.open_;obtain⟨E,e,rfl,_,_,l1,h3⟩:=h3.open_;obtain⟨H,h,rfl,_,_,l2,h4⟩:=h4.open_;exact⟨A,a,C,c,E,e,H,h,rfl,⟨_,_,rfl,h1,h2,h6⟩,h3,h4,h5,l1,l2⟩
theorem RpR.form {w:World} {B:Nat} {v:Value} {x:Rp} (h:RpR w B v x):∃ A a C c E e H h,v = .agg #[.int .i64 x.p,.int .i64 x.q.v,.slice A x.q.f.length a,.slice C x.q.t.length c,.slice E x.d.length e,.slice H x.m.length h]:=by
 obtain⟨A,a,C,c,E,e,H,h,e,_⟩:=h.open_;exact⟨A,a,C,c,E,_,H,h,e⟩
theorem RpR.lens {w:World} {B:Nat} {v:Value} {x:Rp} (h:RpR w B v x):x.q.f.length≤17592186044416∧x.q.t.length≤17592186044416∧x.d.length≤17592186044416∧x.m.length≤17592186044416:=by
 obtain⟨A,a,C,c,E,e,H,h,_,hq,_,_,_,l1,l2⟩:=h.open_;obtain⟨l3,l4⟩:=hq.lens;exact⟨l3,l4,l1,l2⟩
def RepO (w:World) (lo hi:Nat) (val:Value) (x:Rp):Prop:=∃ f t d m vs,val = .agg #[.int .i64 x.p,.int .i64 x.q.v,f,t,d,m]∧OutM w lo hi m vs x.m∧vs.length=x.m.length ∧
 Fam w lo hi ([(f,x.q.f),(t,x.q.t),(d,x.d)] ++ vs.zip (x.m.map Mx.a))∧(I64 x.p∧I64 x.q.v)∧∀ m∈x.m,I64 m.r∧I64 m.c
theorem RepO.rd {w:World} {lo hi:Nat} {v:Value} {x:Rp} (h:RepO w lo hi v x):RpR w w.heap.size v x:=by
 obtain⟨f,t,d,m,vs,e,h1,h2,h3,h4,h5⟩:=h;exact⟨f,t,d,m,e,(h3.1 (f,_) (by simp)).rd,(h3.1 (t,_) (by simp)).rd,(h3.1 (d,_) (by simp)).rd,OutM.rd h1 h2 (fun p hp=>(h3.1 p (by simp[hp])).rd) h5,h4⟩
theorem RepO.form {w:World} {lo hi:Nat} {v:Value} {x:Rp} (h:RepO w lo hi v x):∃ A a C c E e H h,v = .agg #[.int .i64 x.p,.int .i64 x.q.v,.slice A x.q.f.length a,.slice C x.q.t.length c,.slice E x.d.length e,.slice H x.m.length h]:=h.rd.form
theorem RepO.chg {w w':World} {lo hi lo' hi':Nat} {v:Value} {x:Rp} (h:RepO w lo hi v x) (hc:Chg lo' hi' w w') (hd:hi≤lo'∨hi'≤lo):RepO w' lo hi v x:=by
 obtain⟨f,t,d,m,vs,e,h1,h2,h3,h4⟩:=h;exact⟨f,t,d,m,vs,e,h1.chg hc hd,h2,h3.chg hc hd,h4⟩
theorem RepO.below {w w':World} {lo hi:Nat} {v:Value} {x:Rp} (h:RepO w lo hi v x) (hb:Below w.heap.size w w'):RepO w' lo hi v x:=by
 obtain⟨f,t,d,m,vs,e,h1,h2,h3,h4⟩:=h;exact⟨f,t,d,m,vs,e,h1.below hb,h2,h3.below hb,h4⟩
theorem RepO.wider {w:World} {lo hi lo' hi':Nat} {v:Value} {x:Rp} (h:RepO w lo hi v x) (k1:lo'≤lo) (k2:hi≤hi'):RepO w lo' hi' v x:=by
 obtain⟨f,t,d,m,vs,e,h1,h2,h3,h4⟩:=h;exact⟨f,t,d,m,vs,e,h1.mono k1 k2,h2,h3.mono k1 k2,h4⟩
def RepO.mk (k:Int) (x:Rp):Rp:=⟨x.p,d5_.mk k x.q,mkI (k+x.q.size) x.d.length,mkMS (k+x.q.size+x.d.length) x.m⟩
def Rp.marks (x:Rp):Nat:=x.q.size+x.d.length+totM x.m
def rp0:Rp:=⟨0,⟨0,[],[]⟩,[],[]⟩
theorem RepO.zero (w:World) (lo hi:Nat):RepO w lo hi (.agg #[.int .i64 0,.int .i64 0,.slice none 0 0,.slice none 0 0,.slice none 0 0,.slice none 0 0]) rp0 :=
 ⟨_,_,_,_,[],rfl,RowO.nil _ w lo hi,rfl,⟨fun p hp=>by
  simp only[rp0,List.zip_nil_left,List.append_nil,List.mem_cons,List.not_mem_nil,or_false]at hp;rcases hp with rfl | rfl | rfl <;> exact⟨OwnI.nil _ _,by simp[Value.ownBlock]⟩,by simp[Value.ownBlock]⟩,by simp[rp0,I64],fun m hm=>by simp[rp0]at hm⟩
theorem chg3 (w:World) (g:Nat) (u0 u1 u2:Value):Chg g (g+1) w (((w.setCell ⟨g,0,none⟩ u0).setCell ⟨g,1,none⟩ u1).setCell ⟨g,2,none⟩ u2):=by
 have s:∀ (w:World) (i:Nat) (u:Value),Chg g (g+1) w (w.setCell ⟨g,i,none⟩ u):=fun w i u=>b4_ (l_ _) (m0_ _)
 exact ((s _ _ _).trans (s _ _ _)).trans (s _ _ _)
theorem chg6 (w:World) (g:Nat) (u0 u1 u2 u3 u4 u5:Value):Chg g (g+1) w ((((((w.setCell ⟨g,0,none⟩ u0).setCell ⟨g,1,none⟩ u1).setCell ⟨g,2,none⟩ u2).setCell ⟨g,3,none⟩ u3).setCell ⟨g,4,none⟩ u4).setCell ⟨g,5,none⟩ u5):=by
 have s:∀ (w:World) (i:Nat) (u:Value),Chg g (g+1) w (w.setCell ⟨g,i,none⟩ u):=fun w i u=>b4_ (l_ _) (m0_ _)
 exact (((((s _ _ _).trans (s _ _ _)).trans (s _ _ _)).trans (s _ _ _)).trans (s _ _ _)).trans (s _ _ _)
def RY (w:World) (_B b o:Nat) (x:Int):Prop:=w.cell? ⟨b,o,none⟩=some (.int .u8 x)∧0≤x∧x≤255
abbrev SlY:=SlG 1 RY
theorem SlY.below {w w':World} {B:Nat} {v:Value} {l:List Int} (hb:Below B w w') (h:SlY w B v l):SlY w' B v l :=
 SlG.mono (fun _ _ _ hlt ⟨hc,hx⟩=>⟨a7_ hb hlt hc,hx⟩) (l_ _) h
theorem SlY.more {w:World} {B B':Nat} {v:Value} {l:List Int} (hB:B≤B') (h:SlY w B v l):SlY w B' v l :=
 SlG.mono (B:=B) (B':=B') (fun _ _ _ _ h=>h) hB h
theorem SlY.next {w w':World} {v:Value} {l:List Int} (hb:Below w.heap.size w w') (h:SlY w w.heap.size v l):SlY w' w'.heap.size v l:=SlY.more hb.size (SlY.below hb h)
theorem SlY.at_ {w:World} {B c:Nat} {A:Option Addr} {xs:List Int} {k:Nat} (h:SlY w B (.slice A xs.length c) xs) (hk:k<xs.length) :
  ∃ b o x,A=some ⟨b,o,none⟩∧b<B∧w.cell? ⟨b,o+k,none⟩=some (.int .u8 x)∧0≤x∧x≤255:=by
 obtain⟨A',c',e,h1,h2,h3,h4⟩:=h;injection e with e1 e2 e3;subst e1
 obtain⟨b,o,rfl,hb,hc⟩:=h4 (by omega);obtain⟨h0,hr⟩:=hc k xs[k] (l2_ hk);exact⟨b,o,xs[k],rfl,hb,by simpa using h0,hr.1,hr.2⟩
def Cur (w:World) (g:Nat):Prop:=∃ (A:Option Addr) (c:Nat) (i h:Int) (l:List Int),Blk w g 103 #[.slice A l.length c,.int .i64 i,.int .i64 h]∧I64 h∧(0≤i∧i≤9223372036854775807)∧SlY w g (.slice A l.length c) l
structure Ck (c:Nat) (w w':World):Prop where
 os:w'.os=w.os
 tape:w'.tape=w.tape
 output:w'.output=w.output
 size:w.heap.size≤w'.heap.size
 block:∀ k,k<w.heap.size→k≠c→w'.heap[k]?=w.heap[k]?
 keep:Cur w c→Cur w' c
section
variable {c:Nat} {w w' w'':World}
theorem Ck.refl (c:Nat) (w:World):Ck c w w:=⟨rfl,rfl,rfl,l_ _,fun _ _ _=>rfl,id⟩
theorem Ck.trans (h:Ck c w w') (k:Ck c w' w''):Ck c w w'' :=
 ⟨k.os.trans h.os,k.tape.trans h.tape,k.output.trans h.output,Nat.le_trans h.size k.size,fun i hi hne=>(k.block i (Nat.lt_of_lt_of_le hi h.size) hne).trans (h.block i hi hne),fun h0=>k.keep (h.keep h0)⟩
theorem Ck.of_below (h:Below w.heap.size w w'):Ck c w w' :=
 ⟨h.os,h.tape,h.output,h.size,fun k hk _=>h.block k hk,fun ⟨A,cc,i,hh,l,hB,h1,h2,h3⟩=>⟨A,cc,i,hh,l,hB.call h,h1,h2,SlY.below (h.mono (Nat.le_of_lt hB.lt)) h3⟩⟩
theorem Ck.drew (h:Ck c w.drew w'):Ck c w w':=⟨h.os,h.tape,h.output,h.size,h.block,h.keep⟩
theorem Ck.below {B:Nat} (h:Ck c w w') (hB:B≤c) (hs:B≤w.heap.size):Below B w w':=⟨h.os,h.tape,h.output,h.size,fun k hk=>h.block k (by omega) (by omega)⟩
theorem Ck.chg (h:Ck c w w'):Chg c (c+1) w w':=⟨h.os,h.tape,h.output,h.size,fun k hk hn=>h.block k hk (by omega)⟩
theorem Ck.cell {b o:Nat} {v:Value} (h:Ck c w w') (hb:b<w.heap.size) (hn:b≠c) (hc:w.cell? ⟨b,o,none⟩=some v):w'.cell? ⟨b,o,none⟩=some v :=
 (World.cell?_of_block (w:=w) (h.block b hb hn)).trans hc
theorem Blk.ck {g:Nat} {t:TypeId} {cs:Array Value} (h:Blk w g t cs) (k:Ck c w w') (hn:g≠c):Blk w' g t cs:=(k.block g h.lt hn).trans h
theorem Ck.of_set {A:Option Addr} {cc:Nat} {i h i' h':Int} {l:List Int} (hB:Blk w c 103 #[.slice A l.length cc,.int .i64 i,.int .i64 h]) (hy:SlY w c (.slice A l.length cc) l)
  (hc:Chg c (c+1) w w') (hB':Blk w' c 103 #[.slice A l.length cc,.int .i64 i',.int .i64 h']) (h1:I64 h') (h2:0≤i'∧i'≤9223372036854775807):Ck c w w' :=
 ⟨hc.os,hc.tape,hc.output,hc.size,fun k hk hn=>hc.block k hk (by omega),fun _=>⟨A,cc,i',h',l,hB',h1,h2,SlY.below (hc.below (l_ _) (Nat.le_of_lt hB.lt)) hy⟩⟩
end
theorem d1x (a:Int):0≤bits .and .i64 a 255∧bits .and .i64 a 255≤255:=by
 have h2:(BitVec.ofInt 64 (255:Int)).toNat=255:=by decide
 have h3:(BitVec.ofInt 64 a &&& BitVec.ofInt 64 255).toNat≤255:=by rw[BitVec.toNat_and,h2];exact Nat.and_le_right
 have e:bits .and .i64 a 255=IntKind.i64.wrap ((BitVec.ofInt 64 a &&& BitVec.ofInt 64 255).toNat:Int):=rfl;rw[e,IntKind.wrap_i64];omega
theorem t8_ (c:Nat) (w0:World) (hc:Cur w0 c) :
  Calls Tryz.prog 112 #[.pointer (some ⟨c,0,none⟩)] w0 fun e w'=>∃ n:Nat,n≤255∧e = .returned (.int .i64 n)∧Ck c w0 w':=by
 obtain⟨A,cc,i,h,l,hB,hh,hi,hy⟩:=hc;obtain⟨k,rfl⟩:=Int.eq_ofNat_of_zero_le hi.1;obtain⟨c0,c1,c2⟩:=c_3 hB;have fr:=hB.frozen;have HB:=h_ hB;have HY:=h_ hy;clear hB hy;go_enter Tryz.func112,Tryz.ntmps112
 go_wp2;obtain⟨h1,hh1⟩:=e_ (wrap64 (wrap64 (h*6364136223846793005)+1442695040888963407));have h1r:I64 h1:=by rw[←hh1];unfold I64 wrap64;omega
 rw[hh1];obtain⟨W1,hW1⟩:=e_ (w0.setCell ⟨c,2,none⟩ (.int .i64 h1));rw[hW1];have hB1:Blk W1 c 103 #[.slice A l.length cc,.int .i64 k,.int .i64 h1]:=by rw[←hW1];exact HB.out.set_ 2 _
 have hc1:Chg c (c+1) w0 W1:=by rw[←hW1];exact b4_ (l_ _) (m0_ _)
 clear hW1 hh1 c0 c1 c2 fr;have c2:=hB1.cell' (i:=2) rfl;have HB1:=h_ hB1;have HC1:=h_ hc1;clear hB1 hc1;go_quiet (fail)
 obtain⟨x1,hx1⟩:=e_ (bits .and .i64 (bits .xor .i64 (h1 / 8589934592) (h1 / 35184372088832)) 255);have hx1r:=d1x (bits .xor .i64 (h1 / 8589934592) (h1 / 35184372088832));rw[hx1]at hx1r⊢;clear hx1 c2;obtain⟨W2,hW2⟩:=e_ (W1.drewN nq);rw[hW2];have HB2:=h_ (show Blk W2 c _ _ from by rw[←hW2];exact HB1.out.drewN nq);have HC2:=h_ (show Chg c (c+1) w0 W2 from by rw[←hW2];exact HC1.out.trans (Chg.of_below (f5_ _ _ nq)));clear hW2 HB1 HC1;have c0:=HB2.out.cell' (i:=0) rfl;have c1:=HB2.out.cell' (i:=1) rfl;by_cases hlt:k<l.length
 ·obtain⟨b,o,y,rfl,hb,y1,hy0,hy1⟩:=SlY.at_ HY.out hlt;go_wp2;go_quiet (fail)
  obtain⟨W3,hW3⟩:=e_ (W2.drewN nq);rw[hW3];have HB3:=h_ (show Blk W3 c _ _ from by rw[←hW3];exact HB2.out.drewN nq);have HC3:=h_ (show Chg c (c+1) w0 W3 from by rw[←hW3];exact HC2.out.trans (Chg.of_below (f5_ _ _ nq)));have y3:W3.cell? ⟨b,o+k,none⟩=some (.int .u8 y):=by rw[←hW3];exact a7_ (B:=c) (HC2.out.trans (Chg.of_below (f5_ _ _ nq)) |>.below (l_ _) (Nat.le_of_lt HB.out.lt) |> fun h=>by rw[hW3]at h⊢;exact h) hb y1
  clear hW3 HB2 HC2 c0 c1;have c0:=HB3.out.cell' (i:=0) rfl;have c1:=HB3.out.cell' (i:=1) rfl;go_wp2;go_quiet (fail)
  obtain⟨x2,hx2⟩:=e_ (bits .and .i64 (x1+y) 255);have hx2r:=d1x (x1+y);rw[hx2]at hx2r⊢;obtain⟨W4,hW4⟩:=e_ (W3.drewN nq);rw[hW4];have HB4:=h_ (show Blk W4 c _ _ from by rw[←hW4];exact HB3.out.drewN nq);have HC4:=h_ (show Chg c (c+1) w0 W4 from by rw[←hW4];exact HC3.out.trans (Chg.of_below (f5_ _ _ nq)));clear hW4 HB3 HC3 c0 c1 hx2 y3 y1;have c1:=HB4.out.cell' (i:=1) rfl;have fr:=HB4.out.frozen;have HL:=h_ (show (k:Int)+1≤9223372036854775807 by obtain⟨_,_,_,_,_,h3,_⟩:=HY.out;omega);have hkl:=HL.out;go_wp2;go_ret
  obtain⟨n,rfl⟩:=Int.eq_ofNat_of_zero_le hx2r.1;refine⟨n,by omega,rfl,?_⟩;have hb5:Blk (W4.setCell ⟨c,1,none⟩ (.int .i64 ((k:Int)+1))) c 103 #[.slice (some ⟨b,o,none⟩) l.length cc,.int .i64 ((k:Int)+1),.int .i64 h1]:=HB4.out.set_ 1 _;exact Ck.of_set HB.out HY.out (HC4.out.trans (b4_ (l_ _) (m0_ _))) hb5 h1r ⟨by omega,hkl⟩
 ·go_wp2;go_quiet (fail)
  go_wp2;go_ret
  obtain⟨n,rfl⟩:=Int.eq_ofNat_of_zero_le hx1r.1;refine⟨n,by omega,rfl,?_⟩;exact Ck.of_set HB.out HY.out (HC2.out.trans (Chg.of_below (f5_ _ _ nq))) (HB2.out.drewN nq) h1r ⟨by omega,hi.2⟩
theorem g3_ (c:Nat) (n:Int) (w0:World) (hc:Cur w0 c) (hn:I64 n) :
  Calls Tryz.prog 74 #[.pointer (some ⟨c,0,none⟩),.int .i64 n] w0 fun e w'=>∃ r:Nat,((r:Int)<n∨r=0)∧r≤9223372036854775807∧e = .returned (.int .i64 r)∧Ck c w0 w':=by
 obtain⟨n1,n2⟩:=hn;by_cases h0:n≤0
 ·go_enter Tryz.func74,Tryz.ntmps74
  go_wp2;go_ret
  exact⟨0,.inr rfl,by omega,rfl,Ck.refl _ _⟩
 ·by_cases h1:n≤256
  ·go_enter Tryz.func74,Tryz.ntmps74
   go_wp2_with fail
   refine (t8_ c _ hc).mono ?_;rintro e w1 ⟨r,hr,rfl,hb1⟩;go_wp2;go_ret
   obtain⟨m,rfl⟩:=Int.eq_ofNat_of_zero_le (show 0≤n by omega);have hlt:r % m<m:=Nat.mod_lt _ (by omega);exact⟨r % m,.inl (by omega),by omega,rfl,hb1⟩
  ·go_enter Tryz.func74,Tryz.ntmps74
   go_wp2_with fail
   refine (t8_ c _ hc).mono ?_;rintro e w1 ⟨r1,hr1,rfl,hb1⟩;go_wp2_with fail
   refine (t8_ c _ (hb1.keep hc)).mono ?_;rintro e w2 ⟨r2,hr2,rfl,hb2⟩;have hb12:=hb1.trans hb2;go_wp2_with fail
   refine (t8_ c _ (hb12.keep hc)).mono ?_;rintro e w3 ⟨r3,hr3,rfl,hb3⟩;have hb13:=hb12.trans hb3;go_wp2_with fail
   refine (t8_ c _ (hb13.keep hc)).mono ?_;rintro e w4 ⟨r4,hr4,rfl,hb4⟩;have hb14:=hb13.trans hb4;go_wp2;go_ret
   obtain⟨m,rfl⟩:=Int.eq_ofNat_of_zero_le (show 0≤n by omega);have hlt:(r1*16777216+r2*65536+r3*256+r4) % m<m:=Nat.mod_lt _ (by omega);exact⟨(r1*16777216+r2*65536+r3*256+r4) % m,.inl (by omega),by omega,rfl,hb14⟩
theorem O5_ (c:Nat) (n:Int) (w0:World) (hc:Cur w0 c) (hn:I64 n) :
  Calls Tryz.prog 73 #[.pointer (some ⟨c,0,none⟩),.int .i64 n] w0 fun e w'=>∃ b:Bool,e = .returned (.bool b)∧Ck c w0 w':=by
 go_enter Tryz.func73,Tryz.ntmps73
 go_wp2_with fail
 refine (g3_ c n _ hc hn).mono ?_;rintro e w1 ⟨r,_,_,rfl,hb1⟩;go_wp2;go_ret
 exact⟨_,rfl,hb1⟩
theorem Q0_ (P:Value→Prop) (c g n cap:Nat) (cs:Array Value) (w0:World) (hc:Cur w0 c) (hB:Blk w0 g 3 cs) (hg:g≠c) (hn:0<n) (hn2:n≤1000) (hcs:∀ i,i<n→∃ v,cs[i]?=some v∧P v) (hP:∀ v,P v→∃ x:Int,v = .int .i64 x) :
  Calls Tryz.prog 132 #[.pointer (some ⟨c,0,none⟩),.slice (some ⟨g,0,none⟩) n cap] w0 fun e w'=>∃ v,P v∧e = .returned v∧Ck c w0 w':=by
 go_enter Tryz.func132,Tryz.ntmps132
 go_wp2_with fail
 refine (g3_ c n _ hc ⟨by omega,by omega⟩).mono ?_;rintro e w1 ⟨r,hr,_,rfl,hb1⟩;have hrn:r<n:=by omega
 obtain⟨v,hv,hPv⟩:=hcs r hrn;have hx:=(hB.ck hb1 hg).cell' hv;obtain⟨x,hxv⟩:=hP v hPv;subst hxv;clear hcs hB hr hv;go_wp2;go_ret
 exact⟨_,hPv,rfl,hb1⟩
theorem b4q (u:Value) (l:List Int) (w0:World) (hu:SlY w0 w0.heap.size u l) :
  Calls Tryz.prog 71 #[u] w0 fun e w'=>∃ g,e = .returned (.pointer (some ⟨g,0,none⟩))∧w0.heap.size≤g∧Cur w' g∧Below w0.heap.size w0 w':=by
 obtain⟨A,c,rfl,_,_,hl,hy⟩:=hu.open_;clear hu;have HY:=h_ hy;clear hy;go_enter Tryz.func71,Tryz.ntmps71
 go_wp2;go_loopw [3,4] (fun h i wr=>∃ (k:Nat) (hh:Int),k≤l.length∧I64 hh∧i = .int .i64 k∧h = .int .i64 hh∧Below w0.heap.size w0 wr) (fun _ i _=>l.length-(intOf i).toNat)
 case atStart=>exact⟨0,10101+l.length,l0_ _,⟨by omega,by omega⟩,rfl,rfl,Below.refl _ _⟩
 case round =>
  obtain⟨k,hh,hk,hhr,rfl,rfl,hb⟩:=hrel;by_cases hlt:k<l.length
  ·obtain⟨b,o,y,rfl,hbl,y1,hy0,hy1⟩:=SlY.at_ HY.out hlt;have y2:=a7_ hb hbl y1;by_cases h4:k<4000
   ·go_wp2_with fail
    refine⟨⟨k+1,_,by omega,?_,by go_num,rfl,hb⟩,by simp[intOf];omega⟩;exact bits_within .and .i64 _ _
   ·go_wp2;go_ret
    refine⟨wr.heap.size,rfl,hb.size,⟨some ⟨b,o,none⟩,c,0,hh,l,Blk.new _ _ _,hhr,⟨by omega,by omega⟩,?_⟩,hb.alloc hb.size _⟩;exact SlY.more hb.size (SlY.below (hb.alloc hb.size _) HY.out)
  ·go_wp2;go_ret
   refine⟨wr.heap.size,rfl,hb.size,⟨A,c,0,hh,l,Blk.new _ _ _,hhr,⟨by omega,by omega⟩,?_⟩,hb.alloc hb.size _⟩;exact SlY.more hb.size (SlY.below (hb.alloc hb.size _) HY.out)
theorem OwnI.put {w:World} {base g n cap j:Nat} {l:List Int} {x:Int} (h:OwnI w base (.slice (some ⟨g,0,none⟩) n cap) l) (hx:I64 x):OwnI (w.setCell ⟨g,j,none⟩ (.int .i64 x)) base (.slice (some ⟨g,0,none⟩) n cap) (l.set j x)∧w.grownBy (w.setCell ⟨g,j,none⟩ (.int .i64 x)) (some g):=by
 obtain⟨h1,h2,h3⟩:=h;have hn:n=l.length:=by
  rcases h1.2 with ⟨e,_⟩ | ⟨g',cap',cur,e,_⟩
  ·cases e
  ·injection e with _ e _
 subst hn;have hst:=h1.stored j (.int .i64 x);refine⟨⟨?_,by simpa using h2,fun y hy=>?_⟩,hst.2⟩
 ·rw[List.map_set,List.length_set];exact hst.1
 ·rcases List.mem_or_eq_of_mem_set hy with hy | rfl
  ·exact h3 y hy
  ·exact hx
theorem OwnI.cellG {w:World} {base g n cap j:Nat} {l:List Int} (h:OwnI w base (.slice (some ⟨g,0,none⟩) n cap) l) (hj:j<l.length):w.cell? ⟨g,j,none⟩=some (.int .i64 (l.getD j 0))∧I64 (l.getD j 0):=by
 obtain⟨h1,h2,h3⟩:=h;have hn:n=l.length:=by
  rcases h1.2 with ⟨e,_⟩ | ⟨g',cap',cur,e,_⟩
  ·cases e
  ·injection e with _ e _
 subst hn;have hc:=h1.cellAt j (by omega);have e:l.getD j 0=l[j]:=by rw[l1_,l2_ hj];rfl
 rw[e];exact⟨by rw[hc];simp[hj],h3 _ (List.getElem_mem hj)⟩
theorem OwnI.frozenG {w:World} {base g n cap:Nat} {l:List Int} (h:OwnI w base (.slice (some ⟨g,0,none⟩) n cap) l) (j:Nat):w.frozen? ⟨g,j,none⟩=false:=by
 obtain⟨h1,h2,h3⟩:=h;have hn:n=l.length:=by
  rcases h1.2 with ⟨e,_⟩ | ⟨g',cap',cur,e,_⟩
  ·cases e
  ·injection e with _ e _
 subst hn;exact h1.frozenAt j
theorem OwnI.made0 {w:World} {base N:Nat} (hb:base≤w.heap.size) (hN:N≤17592186044416):OwnI (w.alloc (.cells (g8_ (.int .i64 0) N) 3)) base (.slice (some ⟨w.heap.size,0,none⟩) N N) (List.replicate N 0):=by
 have e:(g8_ (.int .i64 0) N).toList.take (N*1)=(List.replicate N (0:Int)).map (Value.int .i64):=by
  have:(g8_ (.int .i64 0) N).toList=List.replicate N (.int .i64 0):=toList_madeCells_one _ _;rw[this,Nat.mul_one,l7_ (by simp),List.map_replicate]
 have h:=(Blk.new w 3 (g8_ (.int .i64 0) N)).own (base:=base) (n:=N) (cap:=N) (size:=1) hb (l_ _) (by simp only[maxLen];omega) (by rw[F1_];omega);rw[e]at h;refine⟨by simpa using h,by simpa using hN,fun x hx=>?_⟩;obtain⟨_,rfl⟩:=List.mem_replicate.1 hx;exact⟨by decide,by decide⟩
theorem b9_ {B:Nat} {w w':World} {row:Option Nat} (hg:w.grownBy w' row) (hB:∀ k,row=some k→B≤k) (hs:B≤w.heap.size):Below B w w' :=
 ⟨hg.os,hg.tape,hg.output,hg.size,fun k hk=>hg.block k (by omega) (fun e=>by have:=hB k e.symm;omega)⟩
theorem v1_ {w:World} {ops:Array Oper} {rest:List Oper} {o:Oper} {a:Act} {Q:Exit→Act→World→Prop} (hgd:o.guard=none) (s x:Operand)
  (ho:o.op = .call { callee:=.builtin .append,args:=#[s,x],argTypes:=#[46,46] })
  (base:Nat) (v:Value) (vs:List Value) (hs:a.eval s=v) (hown:w.ownsRow base 24 1 v vs.length vs) (A:Option Addr) (c:Nat) (u:Value) (hx:a.eval x = .slice A 1 c) (hA:∃ b o,A=some ⟨b,o,none⟩∧w.cell? ⟨b,o,none⟩=some u) (h1:u.oneCell'=true)
  (hn:vs.length+1≤1048576) (hbase:base≤w.heap.size)
  (h:∀ v' w',w'.ownsRow base 24 1 v' (vs ++ [u]).length (vs ++ [u])→w.grownBy w' v.ownBlock→(v'.ownBlock=v.ownBlock∨v'.ownBlock=some w.heap.size)→wpList Tryz.prog ops Q rest (a.put o.dst v') w'):wpList Tryz.prog ops Q (o :: rest) a w:=by
 obtain⟨i0,hi,hz0,hz1,hz2⟩:=info_parts a2j;obtain⟨b,off,rfl,hc⟩:=hA;refine i8_ w hgd s x _ ho base 24 i0 _ 1 24 Tryz.underlying46 hi hz0 hz1 hz2 rfl (by decide) v vs.length _ hs hown (some ⟨b,off,none⟩) 1 c [u] hx ⟨by simp,.inr ⟨b,off,rfl,fun j u' hu=>?_⟩⟩ (by simpa using h1) (by simp only[maxLen];omega) (by omega) hbase fun v' w' h2 h3 h4=>?_
 ·match j,hu with
  | 0,hu =>
   simp at hu;subst hu;exact hc
 ·exact h v' w' (by simpa using h2) h3 h4
theorem Fam.grownO {w w':World} {lo hi base n:Nat} {L:List (Value×List Int)} {v:Value} {vs:List Value} (hF:Fam w lo hi L) (ho:w.ownsRow base 24 1 v n vs) (hg:w.grownBy w' v.ownBlock):Fam w' lo hi L:=by
 refine⟨fun p hp=>⟨(hF.1 p hp).1.kept hg ?_,(hF.1 p hp).2⟩,hF.2⟩;rcases ho.2 with ⟨rfl,_⟩ | ⟨g,cap,cur,rfl,_,hh,_⟩
 ·rcases hA:p.1.ownBlock with _ | x
  ·exact .inl rfl
  ·right
   simp[Value.ownBlock]
 ·right
  exact fun e=>(hF.1 p hp).1.blkne (g:=g) (t:=24) (cs:=cur) hh (by decide) (by rw[e];rfl)
theorem OutO.blkne {w:World} {lo hi g:Nat} {v:Value} {vs:List Value} {t:TypeId} {cs:Array Value} (h:OutO w lo hi v vs) (hb:Blk w g t cs) (ht:24≠t):some g≠v.ownBlock:=by
 rcases h.1.2 with ⟨rfl,_⟩ | ⟨g',cap,cur,rfl,_,hh,_⟩
 ·simp[Value.ownBlock]
 ·intro he;have:g=g':=by simpa [Value.ownBlock] using he
  subst this;unfold Blk at hb;rw[hh]at hb;injection hb with hb
  injection hb with _ hb
  exact ht hb
theorem c9q:(Tryz.prog.info? 9).map (fun i=>(i.zero,i.size,i.bytes))=some (some (.string ⟨#[]⟩),1,16):=by kernel_rfl
def OwnZ (w:World) (base:Nat) (v:Value) (L:List ByteArray):Prop:=w.ownsRow base 9 1 v L.length (L.map Value.string)∧L.length≤1000
theorem OwnZ.made {w:World} {base:Nat} (hb:base≤w.heap.size):OwnZ (w.alloc (.cells #[] 9)) base (.slice (some ⟨w.heap.size,0,none⟩) 0 0) [] :=
 ⟨World.ownsRow_made w #[] 0 hb (l0_ _) (by simp),by simp⟩
theorem OwnZ.alloc {w:World} {base:Nat} {v:Value} {L:List ByteArray} (h:OwnZ w base v L) (o:Obj):OwnZ (w.alloc o) base v L:=⟨h.1.alloc o,h.2⟩
theorem OwnZ.form {w:World} {base:Nat} {v:Value} {L:List ByteArray} (h:OwnZ w base v L):∃ A c,v = .slice A L.length c∧(0<L.length→∃ g,A=some ⟨g,0,none⟩∧base≤g∧g<w.heap.size∧∀ j s,L[j]?=some s→w.cell? ⟨g,j,none⟩=some (.string s)):=by
 rcases h.1.2 with ⟨rfl,h0⟩ | ⟨g,cap,cur,rfl,hg,hh,hnc,hcm,hsz,htk⟩
 ·exact⟨none,0,by rw[h0],fun hp=>by omega⟩
 ·have hB:Blk w g 9 cur:=hh;refine⟨_,_,rfl,fun hp=>⟨g,rfl,hg,hB.lt,fun j s hj=>?_⟩⟩;have hjl:=b0_ hj;have h1:(L.map Value.string)[j]?=some (.string s):=by rw[List.getElem?_map,hj];rfl
  have h2:(cur.toList.take (L.length*1))[j]?=some (.string s):=by first | rw[htk];exact h1 | rw[←htk];exact h1
  rw[List.getElem?_take,if_pos (by omega)]at h2;rw[hB.cell];simpa using h2
theorem L1_ {w:World} {ops:Array Oper} {rest:List Oper} {o:Oper} {a:Act} {Q:Exit→Act→World→Prop} (hgd:o.guard=none) (s x:Operand)
  (ho:o.op = .call { callee:=.builtin .append,args:=#[s,x],argTypes:=#[123,123] })
  (base:Nat) (v:Value) (L:List ByteArray) (hs:a.eval s=v) (hown:OwnZ w base v L) (g c:Nat) (u:ByteArray) (hx:a.eval x = .slice (some ⟨g,0,none⟩) 1 c) (hA:w.cell? ⟨g,0,none⟩=some (.string u))
  (hn:L.length+1≤1000) (hbase:base≤w.heap.size)
  (h:∀ v' w',OwnZ w' base v' (L ++ [u])→w.grownBy w' v.ownBlock→wpList Tryz.prog ops Q rest (a.put o.dst v') w'):wpList Tryz.prog ops Q (o :: rest) a w:=by
 obtain⟨i0,hi,hz0,hz1,hz2⟩:=info_parts c9q;refine i8_ w hgd s x _ ho base 9 i0 _ 1 16 Tryz.underlying123 hi hz0 hz1 hz2 rfl (by decide) v L.length _ hs hown.1 (some ⟨g,0,none⟩) 1 c [.string u] hx ⟨by simp,.inr ⟨g,0,rfl,fun j u' hu=>?_⟩⟩ (fun u' hu=>by rw[List.mem_singleton]at hu;subst hu;rfl) (by simp only[maxLen];omega) (by omega) hbase fun v' w' h2 h3 h4=>?_
 ·match j,hu with
  | 0,hu =>
   simp at hu;subst hu;exact hA
 ·exact h v' w' ⟨by simpa using h2,by simpa using hn⟩ h3
theorem OwnZ.lt {w:World} {base:Nat} {v:Value} {L:List ByteArray} (h:OwnZ w base v L):∀ k,v.ownBlock=some k→base≤k∧k<w.heap.size:=h.1.lt
theorem b6j (s:ByteArray) (y:Int) (w0:World) (hs:s.size≤100) (hy:0≤y∧y≤255) :
  Calls Tryz.prog 146 #[.string s,.int .u8 y] w0 fun e w'=>∃ (v:Value) (L:List ByteArray),e = .returned v∧OwnZ w' w0.heap.size v L∧0<L.length∧L.length≤s.size+1∧Below w0.heap.size w0 w':=by
 go_enter Tryz.func146,Tryz.ntmps146
 go_wp2;obtain⟨W,hW⟩:=e_ (w0.alloc (.cells #[] 9));have hO:OwnZ W w0.heap.size (.slice (some ⟨w0.heap.size,0,none⟩) 0 0) []:=by rw[←hW];exact OwnZ.made (l_ _)
 have hb:Below w0.heap.size w0 W:=by rw[←hW];exact a2_ _ _
 rw[hW];clear hW;go_loopw [5,6,7] (fun v p i wr=>∃ (k:Nat) (L:List ByteArray) (u:ByteArray),k≤s.size∧i = .int .i64 k∧p = .string u∧u.size≤k∧L.length≤k∧OwnZ wr w0.heap.size v L∧Below w0.heap.size w0 wr) (fun _ _ i _=>s.size-(intOf i).toNat)
 case atStart=>exact⟨0,[],⟨#[]⟩,l0_ _,rfl,rfl,l0_ _,l0_ _,hO,hb⟩
 case round =>
  clear hO hb;obtain⟨k,L,u,hk,rfl,rfl,hu,hL,hO,hb⟩:=hrel;obtain⟨A,cc,rfl,_⟩:=hO.form;have HO:=h_ hO;have HB:=h_ hb;clear hO hb;have hus:u.size≤17592186044416:=by omega
  by_cases hlt:k<s.size
  ·by_cases hy2:((s[k]'hlt).toNat:Int)=y
   ·(go_wp2_with (at_builtin;refine Hold.stop ?_));unfold Hold
    refine L1_ (by rfl) (.tmp 20) (.tmp 22) (by rfl) w0.heap.size _ L (by rfl) (HO.out.alloc _) wr.heap.size 1 u (by rfl) ((Blk.new wr 9 #[.string u]).cell' rfl) (by omega) (by have:=HB.out.size;simp;omega) ?_;intro v' w' ho' hg';have hb':Below w0.heap.size w0 w':=(HB.out.alloc HB.out.size (.cells #[.string u] 9)).grown hg' (by have:=HB.out.size;simp;omega) fun j hj=>(HO.out.lt j hj).1
    obtain⟨A',cc',rfl,_⟩:=ho'.form;rw[List.length_append,List.length_singleton]at ho'⊢;have HO':=h_ ho';have HB':=h_ hb';clear ho' hb' hg';go_wp2;refine⟨⟨k+1,L ++ [u],⟨#[]⟩,by omega,by go_num,rfl,l0_ _,by simp;omega,HO'.out,HB'.out⟩,by simp[intOf];omega⟩
   ·go_wp2;refine⟨⟨k+1,L,_,by omega,by go_num,rfl,?_,by omega,HO.out,HB.out⟩,by simp[intOf];omega⟩;rw[ByteArray.size_append,ByteArray.size_extract];omega
  ·(go_wp2_with (at_builtin;refine Hold.stop ?_));unfold Hold
   refine L1_ (by rfl) (.tmp 31) (.tmp 33) (by rfl) w0.heap.size _ L (by rfl) (HO.out.alloc _) wr.heap.size 1 u (by rfl) ((Blk.new wr 9 #[.string u]).cell' rfl) (by omega) (by have:=HB.out.size;simp;omega) ?_;intro v' w' ho' hg';have hb':Below w0.heap.size w0 w':=(HB.out.alloc HB.out.size (.cells #[.string u] 9)).grown hg' (by have:=HB.out.size;simp;omega) fun j hj=>(HO.out.lt j hj).1
   have HO':=h_ ho';have HB':=h_ hb';clear ho' hb' hg';go_wp2;go_ret
   exact⟨_,_,rfl,HO'.out,by simp,by simp;omega,HB'.out⟩
def inR (n lo hi:Int):Bool:=decide (lo≤n∧n≤hi)
theorem t0_ {n lo hi:Int}:inR n lo hi=true↔lo≤n∧n≤hi:=by simp[inR]
theorem b9Z {n lo hi:Int}:inR n lo hi=false↔¬ (lo≤n∧n≤hi):=by simp[inR]
theorem g0_ (n lo hi:Int) (w:World):Calls Tryz.prog 128 #[.int .i64 n,.int .i64 lo,.int .i64 hi] w fun e w'=>e = .returned (.bool (inR n lo hi))∧w'=w:=by
 by_cases h1:n<lo
 ·go_enter Tryz.func128,Tryz.ntmps128
  go_wp2;go_ret
  exact⟨by rw[b9Z.2 (by omega)];rfl,rfl⟩
 ·have h1':lo≤n:=by omega
  by_cases h2:n≤hi
  ·go_enter Tryz.func128,Tryz.ntmps128
   go_wp2;go_ret
   exact⟨by rw[t0_.2 (by omega)];rfl,rfl⟩
  ·have h2':hi<n:=by omega
   go_enter Tryz.func128,Tryz.ntmps128
   go_wp2;go_ret
   exact⟨by rw[b9Z.2 (by omega)];rfl,rfl⟩
theorem f3_ (n lo hi:Int) (w:World):Calls Tryz.prog 42 #[.int .i64 n,.int .i64 lo,.int .i64 hi] w fun e w'=>e = .returned (.bool (inR n lo hi))∧w'=w:=by
 by_cases h1:n<lo
 ·go_enter Tryz.func42,Tryz.ntmps42
  go_wp2;go_ret
  exact⟨by rw[b9Z.2 (by omega)];rfl,rfl⟩
 ·have h1':lo≤n:=by omega
  by_cases h2:n≤hi
  ·go_enter Tryz.func42,Tryz.ntmps42
   go_wp2;go_ret
   exact⟨by rw[t0_.2 (by omega)];rfl,rfl⟩
  ·have h2':hi<n:=by omega
   go_enter Tryz.func42,Tryz.ntmps42
   go_wp2;go_ret
   exact⟨by rw[b9Z.2 (by omega)];rfl,rfl⟩
def b6Q (cs:Array Value) (xs:List Bar) (k:Nat):Prop :=
 cs.size=xs.length*3∧∀ j x,j<k→xs[j]?=some x→cs[j*3]?=some (.int .i64 x.1)∧cs[j*3+1]?=some (.int .i64 x.2.1)∧cs[j*3+2]?=some (.int .i64 x.2.2)
theorem b6Q.step {cs:Array Value} {xs:List Bar} {k:Nat} {x y z:Int} (h:b6Q cs xs k) (hx:xs[k]?=some (x,y,z)) :
  b6Q (((cs.setIfInBounds (k*3) (.int .i64 x)).setIfInBounds (k*3+1) (.int .i64 y)).setIfInBounds (k*3+2) (.int .i64 z)) xs (k+1):=by
 obtain⟨hs,h⟩:=h;have hk:=b0_ hx;refine⟨by simpa using hs,fun j u hj hu=>?_⟩;by_cases e:j=k
 ·subst e;rw[hx]at hu;injection hu with hu
  subst hu;refine⟨?_,?_,?_⟩ <;> simp[Array.getElem?_setIfInBounds] <;> omega
 ·obtain⟨a,b,c⟩:=h j u (by omega) hu;refine⟨?_,?_,?_⟩ <;> simp only[Array.getElem?_setIfInBounds] <;> (repeat rw[if_neg (by omega)]) <;> assumption
def P5_:List Bar→List Value
 | x :: xs => .int .i64 x.1 :: .int .i64 x.2.1 :: .int .i64 x.2.2 :: P5_ xs
 | []=>[]
theorem F9_:∀ xs:List Bar,(P5_ xs).length=xs.length*3
 | []=>rfl
 | x :: xs=>by simp only[P5_,List.length_cons,F9_ xs];omega
theorem V7_:∀ {xs:List Bar} {j:Nat} {x:Bar},xs[j]?=some x→(P5_ xs)[j*3]?=some (.int .i64 x.1)∧(P5_ xs)[j*3+1]?=some (.int .i64 x.2.1)∧(P5_ xs)[j*3+2]?=some (.int .i64 x.2.2)
 | [],_,_,h=>by simp at h
 | x :: xs,0,_,h=>by
  simp at h;subst h;simp[P5_]
 | x :: xs,j+1,y,h=>by
  simp only[List.getElem?_cons_succ]at h;obtain⟨a,b,c⟩:=V7_ h;simp only[P5_,show (j+1)*3=j*3+1+1+1 by omega,show j*3+1+1+1+1=(j*3+1)+1+1+1 by omega,show j*3+1+1+1+2=(j*3+2)+1+1+1 by omega,List.getElem?_cons_succ];exact⟨a,b,c⟩
def IBar (x:Bar):Prop:=I64 x.1∧I64 x.2.1∧I64 x.2.2
theorem SlB.ib {w:World} {B:Nat} {v:Value} {xs:List Bar} (h:SlB w B v xs):∀ x∈xs,IBar x:=by
 obtain⟨A,c,_,_,_,_,h4⟩:=h;intro x hx;obtain⟨j,hj⟩:=List.getElem?_of_mem hx;obtain⟨_,_,_,_,hr⟩:=h4 (by have:=b0_ hj;omega);exact (hr j x hj).2
theorem SlB.chg {w w':World} {B lo hi:Nat} {v:Value} {xs:List Bar} (h:SlB w B v xs) (hc:Chg lo hi w w') (hB:B≤lo) (hs:B≤w.heap.size):SlB w' B v xs:=SlB.below (hc.below hB hs) h
theorem b6Q.list {cs:Array Value} {xs:List Bar} (h:b6Q cs xs xs.length):cs.toList=P5_ xs:=by
 have hl:=F9_ xs;apply List.ext_getElem?
 intro i;by_cases hi:i<xs.length*3
 ·obtain⟨j,r,hr,rfl⟩:∃ j r,r<3∧i=j*3+r:=⟨i / 3,i % 3,Nat.mod_lt _ (by omega),by omega⟩;have hj:j<xs.length:=by omega
  obtain⟨a,b,c⟩:=h.2 j _ hj (l2_ hj);obtain⟨a',b',c'⟩:=V7_ (l2_ hj);rw[Array.getElem?_toList]
  match r,hr with
  | 0,_=>rw[Nat.add_zero,a,a']
  | 1,_=>rw[b,b']
  | 2,_=>rw[c,c']
 ·rw[l6_ (by have:=h.1;simp;omega),l6_ (by omega)]
structure Gh where
 v:Nat→Value
 lo:Nat→Nat
 hi:Nat→Nat
inductive NS where
 | eq (u:Value)
 | rel (R:Gh→World→Prop)
def c6J (i:Nat) (D:List Nat) (x:Gh):Gh:=⟨fun j=>if j=i∨j∈D then x.v j else undef,fun j=>if j=i∨j∈D then x.lo j else 0,fun j=>if j=i∨j∈D then x.hi j else 0⟩
def NS.holds (s:NS) (i:Nat) (D:List Nat) (x:Gh) (w:World):Prop :=
 match s with
 | .eq u=>x.v i=u
 | .rel R=>R (c6J i D x) w
def NS.stable (s:NS):Prop :=
 match s with
 | .eq _=>True
 | .rel R=>∀ x w w',R x w→Below w.heap.size w w'→R x w'
theorem NS.holds_stable {s:NS} (h:s.stable) {i:Nat} {D:List Nat} {x:Gh} {w w':World} (hh:s.holds i D x w) (hb:Below w.heap.size w w'):s.holds i D x w':=by
 cases s with
 | eq f=>exact hh
 | rel R=>exact h _ _ _ hh hb
theorem NS.holds_congr {s:NS} {i:Nat} {D:List Nat} {x y:Gh} {w:World} (hv:∀ j,j=i∨j∈D→x.v j=y.v j∧x.lo j=y.lo j∧x.hi j=y.hi j) (hh:s.holds i D x w):s.holds i D y w:=by
 have e:c6J i D x=c6J i D y:=by
  unfold c6J;congr 1 <;> funext j <;> split
  ·rename_i h;exact (hv j h).1
  ·rfl
  ·rename_i h;exact (hv j h).2.1
  ·rfl
  ·rename_i h;exact (hv j h).2.2
  ·rfl
 cases s with
 | eq u=>exact (hv i (.inl rfl)).1.symm.trans hh
 | rel R =>
  show R _ w;rw[←e];exact hh
def Gh.set (x:Gh) (i:Nat) (u:Value) (a b:Nat):Gh:=⟨fun j=>if j=i then u else x.v j,fun j=>if j=i then a else x.lo j,fun j=>if j=i then b else x.hi j⟩
section
variable {P:Program}
theorem s2_ {a:Act} {dst:Option Tmp} {v:Value} {t:Tmp}:(a.put dst v).eval (.tmp t)=if dst=some t∧t<a.tmps.size then v else a.eval (.tmp t):=by
 cases dst with
 | none=>simp[Act.put]
 | some d =>
  by_cases e:d=t
  ·subst e;by_cases hl:d<a.tmps.size
   ·simp[Act.put,Act.eval,m2_,Array.getElem?_setIfInBounds,hl]
   ·simp[Act.put,Act.eval,m2_,Array.getElem?_setIfInBounds,hl]
  ·simp[Act.put,Act.eval,m2_,Array.getElem?_setIfInBounds,e]
theorem S5_ {a:Act} {dst:Option Tmp} {v:Value}:(a.put dst v).tmps.size=a.tmps.size:=by
 cases dst <;> simp[Act.put]
theorem N0_ {a:Act} {dst:Option Tmp} {v:Value}:(a.put dst v).defers=a.defers:=by
 cases dst <;> rfl
theorem t4_ {a b:Act} {dst:Option Tmp} {v u:Value} (h:a.put dst v=a.put dst u) (hs:a.tmps.size=b.tmps.size):b.put dst v=b.put dst u:=by
 cases dst with
 | none=>rfl
 | some d =>
  by_cases hl:d<a.tmps.size
  ·have h1:=congrArg (fun x:Act=>x.eval (.tmp d)) h;simp only[s2_,hl,and_self,if_true]at h1;rw[h1]
  ·have hb:b.tmps.size≤d:=hs ▸ Nat.le_of_not_lt hl;simp only[Act.put];rw[Array.setIfInBounds_eq_of_size_le hb,Array.setIfInBounds_eq_of_size_le hb]
theorem o2_ {o:Oper} {a b:Act} {w:World} {K:Value→World→Prop} {Q1 Q2:Exit→Act→World→Prop} (he:execOp b.eval o=execOp a.eval o) (hs:a.tmps.size=b.tmps.size)
  (hp:∀ c a w,¬ Q1 (.panic c) a w) (hl:¬ LetsOut Q1) (h:o.wp P a w (fun a' w'=>∃ u,a'=a.put o.dst u∧K u w') Q1):o.wp P b w (fun b' w'=>∃ u,b'=b.put o.dst u∧K u w') Q2:=by
 unfold Oper.wp at *;rw[he];generalize (execOp a.eval o).run P w=r at *;cases r with
 | ok n w' =>
  cases n <;> simp only[Oper.upon]at h⊢
  case value v =>
   obtain⟨u,e,k⟩:=h;exact⟨u,t4_ e hs,k⟩
  case skip =>
   obtain⟨u,e,k⟩:=h;exact⟨u,t4_ e hs,k⟩
  case defer d =>
   obtain⟨u,e,k⟩:=h;have:=congrArg (fun x:Act=>x.defers.length) e;simp[N0_]at this
  case enter f args =>
   refine Calls.mono h fun e w'' he=>?_
   cases e with
   | returned v =>
    obtain⟨u,e,k⟩:=he;exact⟨u,t4_ e hs,k⟩
   | panicked c=>exact absurd he (hp _ _ _)
   | outgrown=>exact absurd he hl
  case row row args =>
   refine Rows.mono h fun v w'' he=>?_
   obtain⟨u,e,k⟩:=he;exact⟨u,t4_ e hs,k⟩
 | halt x w' =>
  cases x <;> simp only[Oper.upon]at h⊢
  case panic u=>exact absurd h (hp _ _ _)
def j4_ (ops:Array Oper) (k:Nat):Option Tmp:=(ops[k]?).bind (·.dst)
def actP (ops:Array Oper) (a:Act) (v:Nat→Value) (p:Nat→Bool):Nat→Act
 | 0=>a
 | k+1=>if p k then (actP ops a v p k).put (j4_ ops k) (v k) else actP ops a v p k
def c4_ (ops:Array Oper) (a:Act) (v:Nat→Value):Nat→Act
 | 0=>a
 | k+1=>(c4_ ops a v k).put (j4_ ops k) (v k)
theorem netE:(∀ (ops:Array Oper) (a:Act) (v:Nat→Value),c4_ ops a v 0=a)∧(∀ (ops:Array Oper) (a:Act) (v:Nat→Value) (k:Nat),c4_ ops a v (k+1)=(c4_ ops a v k).put (j4_ ops k) (v k))∧(∀ (ops:Array Oper) (k:Nat),j4_ ops k=(ops[k]?).bind (·.dst)) ∧
  (∀ (l:List Oper) (i:Nat),l.toArray[i]?=l[i]?)∧(∀ (x:Oper) (l:List Oper),(x :: l)[0]?=some x)∧(∀ (x:Oper) (l:List Oper) (i:Nat),(x :: l)[i+1]?=l[i]?)∧(∀ (x:Oper) (f:Oper→Option Tmp),(some x).bind f=f x) ∧
  (∀ (a:Act) (v:Value),a.put none v=a)∧(∀ (a:Act) (d:Tmp) (v:Value),a.put (some d) v={ a with tmps:=a.tmps.setIfInBounds d v })∧(∀ (l:List Value) (i:Nat) (x:Value),l.toArray.setIfInBounds i x=(l.set i x).toArray)∧(∀ (a b:Value) (l:List Value),(a :: l).set 0 b=b :: l)∧(∀ (a b:Value) (l:List Value) (i:Nat),(a :: l).set (i+1) b=a :: l.set i b)∧(∀ (x:Oper) (l:List Oper) (i:Nat),(x :: l).drop (i+1)=l.drop i)∧(∀ (l:List Oper),l.drop 0=l) :=
 ⟨fun _ _ _=>rfl,fun _ _ _ _=>rfl,fun _ _=>rfl,fun _ _=>by simp,fun _ _=>rfl,fun _ _ _=>rfl,fun _ _=>rfl,fun _ _=>rfl,fun _ _ _=>rfl,fun _ _ _=>by simp,fun _ _ _=>rfl,fun _ _ _ _=>rfl,fun _ _ _=>rfl,fun _=>rfl⟩
section
variable {ops:Array Oper} {a:Act} {v v':Nat→Value} {p q:Nat→Bool}
theorem g5_:∀ k,(actP ops a v p k).tmps.size=a.tmps.size
 | 0=>rfl
 | k+1=>by
  unfold actP;split
  ·rw[S5_,g5_ k]
  ·exact g5_ k
theorem C8_:∀ k,(∀ j,j<k→p j=q j∧(p j=true→v j=v' j))→actP ops a v p k=actP ops a v' q k
 | 0,_=>rfl
 | k+1,h=>by
  have ih:=C8_ k (fun j hj=>h j (by omega));have hk:=h k (by omega);unfold actP;rw[←hk.1,ih];split
  ·rename_i hp;rw[hk.2 hp]
  ·rfl
theorem f0_:∀ k,(∀ j,j<k→p j=true)→actP ops a v p k=c4_ ops a v k
 | 0,_=>rfl
 | k+1,h=>by
  have ih:=f0_ k (fun j hj=>h j (by omega));unfold actP c4_;rw[h k (by omega),if_pos rfl,ih]
theorem d8_:∀ k i,i≤k→(∀ j,i≤j→j<k→p j=false)→actP ops a v p k=actP ops a v p i
 | 0,i,hi,_=>by
  have e:i=0:=by omega
  rw[e]
 | k+1,i,hi,h=>by
  by_cases e:i=k+1
  ·rw[e]
  ·have ih:=d8_ k i (by omega) (fun j h1 h2=>h j h1 (by omega));rw[←ih];conv=>lhs;unfold actP
   rw[h k (by omega) (by omega)];rfl
theorem r5_ (t:Tmp):∀ k,(∀ j,j<k→j4_ ops j=some t→p j=q j)→(actP ops a v p k).eval (.tmp t)=(actP ops a v q k).eval (.tmp t)
 | 0,_=>rfl
 | k+1,h=>by
  have ih:=r5_ t k (fun j hj=>h j (by omega));unfold actP;by_cases e:j4_ ops k=some t
  ·rw[←h k (by omega) e];split
   ·rw[s2_,s2_,g5_,g5_,ih]
   ·exact ih
  ·have h1:∀ (b:Act) (u:Value),(b.put (j4_ ops k) u).eval (.tmp t)=b.eval (.tmp t):=fun b u=>by rw[s2_,if_neg (by intro x;exact e x.1)]
   split <;> split <;> simp only[h1,ih]
theorem r1_ (x:Operand) (hx:∀ t,x≠.tmp t) (b c:Act):b.eval x=c.eval x:=by
 cases x with
 | tmp t=>exact absurd rfl (hx t)
 | _=>rfl
theorem u9_ {i:Nat} {u:Value} (hv:∀ j,j≠i→p j=true→v' j=v j) (hvi:v' i=u) (hp:p i=false) (hq:∀ j,q j=(p j || j == i)) (hd:∀ j d,i<j→p j=true→j4_ ops j=some d→j4_ ops i≠some d) :
  ∀ k,i<k→(actP ops a v p k).put (j4_ ops i) u=actP ops a v' q k
 | 0,h=>absurd h (by omega)
 | k+1,h=>by
  by_cases e:i=k
  ·subst e;have h0:actP ops a v p i=actP ops a v' q i:=C8_ i fun j hj=>⟨by rw[hq];simp;omega,fun hj'=>(hv j (by omega) hj').symm⟩
   conv=>lhs;unfold actP
   conv=>rhs;unfold actP
   rw[hp,hq,if_neg (by simp),if_pos (by simp),hvi,h0]
  ·have ih:=u9_ hv hvi hp hq hd k (by omega);conv=>lhs;unfold actP
   conv=>rhs;unfold actP
   have hqk:q k=p k:=by rw[hq];simp;omega
   rw[hqk,←ih];split
   ·rename_i hpk
    rw[hv k (by omega) hpk];rw[Act.put_comm _ (v k) u (fun d hdd=>hd k d (by omega) hpk hdd)]
   ·rfl
end
def j7_ (o:Oper):List Nat:=(o.after.toList.filter fun e=>Region.binds .any e).map (·.on)
def c1X (ops:Array Oper) (D:List (List Nat)) (m i:Nat) (o:Oper):Bool :=
 o.guard.isNone && (j7_ o).all (·<i) && (D.getD i []).all (fun j=>decide (j<i) && ((j7_ o).contains j || (j7_ o).any fun k=>(D.getD k []).contains j)) &&
 (List.range ops.size).all (fun k=>match j4_ ops k with
  | none=>true
  | some d=>(!(o.looksAt ops).contains d || (D.getD i []).contains k || (D.getD k []).contains i) && (k == i || j4_ ops i != some d || (D.getD i []).contains k || (D.getD k []).contains i)) &&
 (decide (i<m) || (List.range i).all fun j=>(D.getD i []).contains j)
def K8_ (ops:Array Oper) (D:List (List Nat)) (m:Nat):Nat→List Oper→Bool
 | _,[]=>true
 | i,o :: l=>c1X ops D m i o && K8_ ops D m (i+1) l
def netB (ops:Array Oper) (D:List (List Nat)) (m:Nat):Bool:=decide (m≤ops.size) && Region.noSelect ops && K8_ ops D m 0 ops.toList
theorem n5_ {ops:Array Oper} {D:List (List Nat)} {m:Nat}:∀ (l:List Oper) (k:Nat),K8_ ops D m k l=true→∀ j o,l[j]?=some o→c1X ops D m (k+j) o=true
 | [],_,_,_,_,h=>by simp at h
 | x :: l,k,h,0,o,hj=>by
  simp only[K8_,l9_]at h;simp at hj;subst hj;exact h.1
 | x :: l,k,h,j+1,o,hj=>by
  simp only[K8_,l9_]at h;have:=n5_ l (k+1) h.2 j o (by simpa using hj);rwa[show k+1+j=k+(j+1) by omega]at this
structure NetOk (ops:Array Oper) (D:List (List Nat)) (m i:Nat) (o:Oper):Prop where
 guard:o.guard=none
 direct:∀ e∈o.after,Region.binds .any e=true→e.on<i
 dlt:∀ j∈D.getD i [],j<i
 danc:∀ (S:Nat→Prop),(∀ e∈o.after,Region.binds .any e=true→S e.on)→(∀ k,S k→∀ j∈D.getD k [],S j)→∀ j∈D.getD i [],S j
 looks:∀ k d,j4_ ops k=some d→d∈o.looksAt ops→k∈D.getD i []∨i∈D.getD k []
 dsts:∀ k d,k≠i→j4_ ops k=some d→j4_ ops i=some d→k∈D.getD i []∨i∈D.getD k []
 tail:m≤i→∀ j,j<i→j∈D.getD i []
theorem t5_ {ops:Array Oper} {D:List (List Nat)} {m i:Nat} {o:Oper} (h:c1X ops D m i o=true):NetOk ops D m i o:=by
 simp only[c1X,l9_,List.all_eq_true,Bool.or_eq_true,decide_eq_true_eq,List.mem_range]at h;obtain⟨⟨⟨⟨h1,h2⟩,h3⟩,h4⟩,h5⟩:=h;have hdir:∀ e∈o.after,Region.binds .any e=true→e.on∈j7_ o:=fun e he hb=>by
  unfold j7_;rw[List.mem_map];exact⟨e,by rw[List.mem_filter];exact⟨by simpa using he,hb⟩,rfl⟩
 have hk:∀ {k:Nat} {d:Tmp},j4_ ops k=some d→k<ops.size:=fun {k d} hd=>by
  rcases Nat.lt_or_ge k ops.size with h | h
  ·exact h
  ·simp[j4_,Array.getElem?_eq_none h]at hd
 refine⟨by simpa using h1,fun e he hb=>h2 _ (hdir e he hb),fun j hj=>(h3 j hj).1,fun S hS hc j hj=>?_,fun k d hd hl=>?_,fun k d hne hd hdi=>?_,fun hm j hj=>?_⟩
 ·have hD:∀ k∈j7_ o,S k:=fun k hk=>by
   unfold j7_ at hk;rw[List.mem_map]at hk;obtain⟨e,he,rfl⟩:=hk;rw[List.mem_filter]at he;exact hS e (by simpa using he.1) he.2
  rcases (h3 j hj).2 with h | h
  ·exact hD j (by simpa using h)
  ·rw[List.any_eq_true]at h;obtain⟨k,hk,hkj⟩:=h;exact hc k (hD k hk) j (by simpa using hkj)
 ·have:=h4 k (hk hd);rw[hd]at this;simp only[l9_,Bool.or_eq_true,Bool.not_eq_true',List.contains_iff_mem,List.contains_eq_mem,decide_eq_true_eq,decide_eq_false_iff_not]at this;rcases this.1 with (h | h) | h
  ·exact absurd hl h
  ·exact .inl h
  ·exact .inr h
 ·have:=h4 k (hk hd);rw[hd]at this;simp only[l9_,Bool.or_eq_true,List.contains_eq_mem,decide_eq_true_eq,beq_iff_eq,bne_iff_ne]at this;rcases this.2 with ((h | h) | h) | h
  ·exact absurd h hne
  ·exact absurd hdi h
  ·exact .inl h
  ·exact .inr h
 ·rcases h5 with h | h
  ·omega
  ·simpa using h j hj
section
variable {ops:Array Oper} {Q:Exit→Act→World→Prop} {sp:List NS} {D:List (List Nat)} {m:Nat} {a0:Act} {w0:World}
def k3_ (sp:List NS) (D:List (List Nat)) (x:Gh) (i:Nat) (w:World):Prop:=(sp.getD i (.eq undef)).holds i (D.getD i []) x w
def U2_ (P:Program) (ops:Array Oper) (sp:List NS) (D:List (List Nat)) (a0:Act) (w0:World) (i:Nat) (o:Oper):Prop :=
 ∀ (x:Gh) (w:World),Below w0.heap.size w0 w→(∀ j∈D.getD i [],k3_ sp D x j w∧x.hi j≤w.heap.size)→∀ Q':Exit→Act→World→Prop,
  (∀ u w',Below w.heap.size w w'→(sp.getD i (.eq undef)).holds i (D.getD i []) (x.set i u w.heap.size w'.heap.size) w'→Q' .normal ((c4_ ops a0 x.v i).put o.dst u) w')→wpList P ops Q' [o] (c4_ ops a0 x.v i) w
theorem q3_ (hok:∀ i o,ops[i]?=some o→NetOk ops D m i o):∀ (fuel k:Nat) (listed:Array Bool) (a:Act) (w:World),fuel+k=ops.size→m≤k→listed.size=ops.size→(∀ j,listed.getD j false=decide (j<k)) →
  wpList P ops Q (ops.toList.drop k) a w→wpAny P .any ops Q fuel listed a w
 | fuel,k,listed,a,w,hf,hm,hls,hl,h=>by
  have hld:∀ j,j<ops.size→listed.getD j true=decide (j<k):=fun j hj=>by
   rw[←hl j];simp[m2_,l8_ (show j<listed.size by omega)]
  have hr:∀ i∈Region.ready .any ops listed,i=k∧k<ops.size:=fun i hi=>by
   obtain⟨h0,o,ho,hall⟩:=mem_ready.1 hi;have hin:=(Array.getElem?_eq_some_iff.1 ho).1;rw[hld i hin]at h0;have hik:k≤i:=by simpa using h0
   refine⟨?_,by omega⟩;have hcl:=(hok i o ho).danc (fun j=>j<k) (fun e he hb=>by have:=hall e he hb;rw[hl]at this;simpa using this) (fun j hj x hx=>by
    have hjs:j<ops.size:=by omega
    have:=(hok j _ (l8_ hjs)).dlt x hx;omega)
   rcases Nat.lt_or_ge k i with hlt | hge
   ·have:=hcl k ((hok i o ho).tail (by omega) k hlt);omega
   ·omega
  cases fuel with
  | zero =>
   refine⟨?_,?_⟩
   ·apply List.eq_nil_iff_forall_not_mem.2
    intro i hi;have:=hr i hi;omega
   ·rw[List.drop_of_length_le (by simp;omega)]at h;exact h
  | succ fuel =>
   have hks:k<ops.size:=by omega
   have hke:=l8_ hks;have hdrop:ops.toList.drop k=ops[k] :: ops.toList.drop (k+1):=by
    rw[List.drop_eq_getElem_cons (by simpa using hks)];simp
   rw[hdrop]at h;have hready:k∈Region.ready .any ops listed:=mem_ready.2 ⟨by rw[hld k hks];simp,_,hke,fun e he hb=>by rw[hl];simpa using (hok k _ hke).direct e he hb⟩;refine⟨fun h0=>(by rw[h0]at hready;cases hready),fun i hi=>?_⟩;obtain⟨rfl,_⟩:=hr i hi;unfold wpOp;simp only[hke];have hw:Region.wanted ops[i] (yielded ops a.tmps)=true:=by simp[Region.wanted,(hok i _ hke).guard]
   simp only[wpList,hw,if_true]at h⊢;have nxt:∀ a w,wpList P ops Q (ops.toList.drop (i+1)) a w→wpAny P .any ops Q fuel (listed.setIfInBounds i true) a w:=fun a w h =>
    q3_ hok fuel (i+1) _ a w (by omega) (by omega) (by simpa using hls) (fun j=>by
     by_cases e:i=j
     ·subst e;simp[m2_,Array.getElem?_setIfInBounds,hls,hks]
     ·rw[getD_set_ne _ e,hl];congr 1
      rw[eq_iff_iff];omega) h
   rcases h with h | h
   ·exact .inl (Oper.wp_mono nxt h)
   ·exact .inr h
theorem d6J (hB:netB ops D m=true) (hst:∀ s∈sp,s.stable) (hdo:∀ i o,i<m→ops[i]?=some o→U2_ P ops sp D a0 w0 i o)
  (hend:∀ x w,Below w0.heap.size w0 w→(∀ i,i<m→k3_ sp D x i w)→(∀ i,i<m→w0.heap.size≤x.lo i∧x.lo i≤x.hi i∧x.hi i≤w.heap.size)→(∀ i j,i<m→j<m→i≠j→x.hi i≤x.lo j∨x.hi j≤x.lo i)→wpList P ops Q (ops.toList.drop m) (c4_ ops a0 x.v m) w) :
  ∀ (fuel:Nat) (listed:Array Bool) (x:Gh) (w:World),((List.range ops.size).filter fun j=>!listed.getD j false).length=fuel→listed.size=ops.size→(∀ j,m≤j→listed.getD j false=false) →
   (∀ i,listed.getD i false=true→∀ j∈D.getD i [],listed.getD j false=true)→Below w0.heap.size w0 w→(∀ i,listed.getD i false=true→k3_ sp D x i w)→(∀ i,listed.getD i false=true→w0.heap.size≤x.lo i∧x.lo i≤x.hi i∧x.hi i≤w.heap.size) →
   (∀ i j,listed.getD i false=true→listed.getD j false=true→i≠j→x.hi i≤x.lo j∨x.hi j≤x.lo i) →
   wpAny P .any ops Q fuel listed (actP ops a0 x.v (fun j=>listed.getD j false) ops.size) w:=by
 simp only[netB,l9_,decide_eq_true_eq]at hB;obtain⟨⟨hm,hns⟩,hnf⟩:=hB;have hok:∀ i o,ops[i]?=some o→NetOk ops D m i o:=fun i o ho=>t5_ (by
  have:=n5_ ops.toList 0 hnf i o (by simpa using ho);simpa using this)
 have hst':∀ i,(sp.getD i (.eq undef)).stable:=fun i=>by
  rw[l1_];rcases h:sp[i]? with _ | s
  ·trivial
  ·exact hst s (l4_ h)
 intro fuel;induction fuel with
 | zero =>
  intro listed x w hc hls hlm hcl hb hkn hiv hdj;have hall:∀ j,j<ops.size→listed.getD j false=true:=fun j hj=>by
   rw[List.length_eq_zero_iff,List.filter_eq_nil_iff]at hc;have:=hc j (List.mem_range.2 hj);simpa using this
  have hms:m=ops.size:=by
   rcases Nat.lt_or_ge m ops.size with h | h
   ·have:=hall m h;rw[hlm m (l_ _)]at this;cases this
   ·omega
  refine q3_ hok 0 ops.size listed _ w (by omega) (by omega) hls (fun j=>?_) ?_
  ·by_cases hj:j<ops.size
   ·rw[hall j hj];simp[hj]
   ·rw[hlm j (by omega)];simp[hj]
  ·have:=hend x w hb (fun i hi=>hkn i (hall i (by omega))) (fun i hi=>hiv i (hall i (by omega))) (fun i j hi hj=>hdj i j (hall i (by omega)) (hall j (by omega)));rw[←f0_ (p:=fun j=>listed.getD j false) m (fun j hj=>hall j (by omega))]at this;rwa[hms]at this
 | succ fuel ih =>
  intro listed x w hc hls hlm hcl hb hkn hiv hdj;by_cases hfull:∀ j,j<m→listed.getD j false=true
  · -- the tail
   have hl:∀ j,listed.getD j false=decide (j<m):=fun j=>by
    by_cases hj:j<m
    ·rw[hfull j hj];simp[hj]
    ·rw[hlm j (by omega)];simp[hj]
   have hcnt:fuel+1+m=ops.size:=by
    rw[←hc];have e:(List.range ops.size).filter (fun j=>!listed.getD j false)=(List.range' m (ops.size-m)):=by
     have e1:(List.range ops.size)=List.range m ++ List.range' m (ops.size-m):=by
      have h:=List.range'_append_1 (s:=0) (m:=m) (n:=ops.size-m);rw[Nat.zero_add]at h;rw[List.range_eq_range',List.range_eq_range',h];congr 1
      omega
     rw[e1,List.filter_append];rw[List.filter_eq_nil_iff.2 (fun j hj=>by rw[hl];simp at hj⊢;exact hj),List.nil_append];rw[List.filter_eq_self.2 (fun j hj=>by rw[hl];simp[List.mem_range']at hj⊢;omega)]
    rw[e,List.length_range'];omega
   refine q3_ hok (fuel+1) m listed _ w (by omega) (l_ _) hls hl ?_;have:=hend x w hb (fun i hi=>hkn i (hfull i hi)) (fun i hi=>hiv i (hfull i hi)) (fun i j hi hj=>hdj i j (hfull i hi) (hfull j hj));rw[←f0_ (p:=fun j=>listed.getD j false) m hfull]at this;rwa[d8_ (p:=fun j=>listed.getD j false) ops.size m hm (fun j h1 _=>hlm j h1)]
  · -- one of the net
   have hne:Region.ready .any ops listed≠[]:=by
    intro h0;have:∀ n,∀ j,j<n→j<m→listed.getD j false=true:=by
     intro n;induction n with
     | zero=>intro j hj;omega
     | succ n ihn =>
      intro j hj hjm;by_cases e:j<n
      ·exact ihn j e hjm
      ·rcases hlj:listed.getD j false with _ | _
       ·exfalso
        have hjs:j<ops.size:=by omega
        have hje:=l8_ hjs;have:j∈Region.ready .any ops listed:=mem_ready.2 ⟨by
         rw[←hlj];simp[m2_,l8_ (show j<listed.size by omega)],_,hje,fun e he hb=>by
         have:=(hok j _ hje).direct e he hb;exact ihn e.on (by omega) (by omega)⟩
        rw[h0]at this;cases this
       ·rfl
    exact hfull fun j hj=>this (j+1) j (by omega) hj
   refine⟨fun h0=>absurd h0 hne,fun i hi=>?_⟩;obtain⟨h0,o,ho,hall⟩:=mem_ready.1 hi;have his:=(Array.getElem?_eq_some_iff.1 ho).1;have hO:=hok i o ho;have hDl:∀ j∈D.getD i [],listed.getD j false=true:=hO.danc (fun j=>listed.getD j false=true) hall (fun k hk j hj=>hcl k hk j hj);have him:i<m:=by
    rcases Nat.lt_or_ge i m with h | h
    ·exact h
    ·exact absurd (fun j hj=>hDl j (hO.tail h j (by omega))) hfull
   have hli:listed.getD i false=false:=by
    rw[←h0];simp[m2_,l8_ (show i<listed.size by omega)]
   have hpre:=hdo i o him ho x w hb (fun j hj=>⟨hkn j (hDl j hj),(hiv j (hDl j hj)).2.2⟩) (fun e b w'=>e = .normal∧∃ u,b=(c4_ ops a0 x.v i).put o.dst u∧(Below w.heap.size w w'∧(sp.getD i (.eq undef)).holds i (D.getD i []) (x.set i u w.heap.size w'.heap.size) w'))
    (fun u w' h1 h2=>⟨rfl,u,rfl,h1,h2⟩)
   have hwant:∀ b:Act,Region.wanted o (yielded ops b.tmps)=true:=fun b=>by simp[Region.wanted,hO.guard]
   have hnl:¬ LetsOut (fun (e:Exit) (b:Act) (w':World)=>e = .normal∧∃ u,b=(c4_ ops a0 x.v i).put o.dst u∧(Below w.heap.size w w'∧(sp.getD i (.eq undef)).holds i (D.getD i []) (x.set i u w.heap.size w'.heap.size) w')):=by
    rintro⟨b,w',h,_⟩;cases h
   simp only[wpList,hwant,if_true]at hpre;rcases hpre with hpre | hpre
   case inr=>exact absurd hpre.2 hnl
   simp only[true_and]at hpre;have hexec:execOp (actP ops a0 x.v (fun j=>listed.getD j false) ops.size).eval o=execOp (c4_ ops a0 x.v i).eval o:=by
    refine execOp_congr o (fun cs b=>Region.noSelect_spec hns i o cs b ho) fun y hx=>?_
    by_cases hxt:∃ t,y = .tmp t
    ·obtain⟨t,rfl⟩:=hxt;have hlook:t∈o.looksAt ops:=List.mem_append_left _ (List.mem_filterMap.2 ⟨.tmp t,by simpa using hx,rfl⟩);have e1:c4_ ops a0 x.v i=actP ops a0 x.v (fun j=>decide (j<i)) ops.size:=by
      rw[d8_ (p:=fun j=>decide (j<i)) ops.size i (by omega) (fun j h1 _=>by simp;omega)];exact (f0_ (p:=fun j=>decide (j<i)) i (fun j hj=>by simp[hj])).symm
     rw[e1];refine r5_ t ops.size fun j hj hd=>?_
     rcases hO.looks j t hd hlook with h | h
     ·rw[hDl j h];have:=hO.dlt j h;simp[this]
     ·have hlt:=(hok j _ (l8_ hj)).dlt i h;have:listed.getD j false=false:=by
       rcases hlj:listed.getD j false with _ | _
       ·rfl
       ·have:=hcl j hlj i h;rw[hli]at this;cases this
      rw[this];simp;omega
    ·exact r1_ y (fun t h=>hxt ⟨t,h⟩) _ _
   have hsz:(c4_ ops a0 x.v i).tmps.size=(actP ops a0 x.v (fun j=>listed.getD j false) ops.size).tmps.size:=by
    rw[g5_,←f0_ (p:=fun _=>true) i (fun _ _=>rfl),g5_]
   have hT:=o2_ (Q2:=Q) hexec hsz (fun c b w' h=>by cases h.1) hnl hpre;unfold wpOp;simp only[ho,hwant,if_true];refine .inl (Oper.wp_mono ?_ hT);rintro b w' ⟨u,rfl,hbw,hh⟩;have hdst:o.dst=j4_ ops i:=by simp[j4_,ho]
   have hlq:∀ j,(listed.setIfInBounds i true).getD j false=(listed.getD j false || j == i):=fun j=>by
    by_cases e:i=j
    ·subst e;simp[m2_,Array.getElem?_setIfInBounds,hls,his]
    ·rw[getD_set_ne _ e];simp[Ne.symm e]
   rw[hdst,u9_ (v':=(x.set i u w.heap.size w'.heap.size).v) (q:=fun j=>(listed.setIfInBounds i true).getD j false) (fun j hj _=>by simp[Gh.set,hj]) (by simp[Gh.set]) hli hlq (fun j d hij hlj hdj hdi=>by
    rcases hO.dsts j d (by omega) hdj hdi with h | h
    ·have:=hO.dlt j h;omega
    ·have:=hcl j hlj i h;rw[hli]at this;cases this) ops.size his]
   refine ih _ _ _ ?_ (by simpa using hls) (fun j hj=>by rw[hlq,hlm j hj];simp;omega) (fun k hk j hj=>?_) (hb.trans (hbw.mono hb.size)) (fun k hk=>?_) (fun k hk=>?_) (fun k j hk hj hkj=>?_)
   · -- the count
    have hmem:i∈(List.range ops.size).filter fun j=>!listed.getD j false:=by
     rw[List.mem_filter];exact⟨List.mem_range.2 his,by rw[hli];rfl⟩
    have e:(List.range ops.size).filter (fun j=>!(listed.setIfInBounds i true).getD j false)=((List.range ops.size).filter fun j=>!listed.getD j false).filter (fun j=>j != i):=by
     rw[List.filter_filter];congr 1
     funext j
     rw[hlq];simp[Bool.not_or,Bool.and_comm,bne]
    have hnd:((List.range ops.size).filter fun j=>!listed.getD j false).Nodup:=List.nodup_range.filter _;rw[e];have:=List.length_erase_of_mem hmem;rw[hnd.erase_eq_filter,hc]at this;simpa using this
   ·rw[hlq]at hk⊢;simp only[Bool.or_eq_true,beq_iff_eq]at hk⊢;rcases hk with hk | rfl
    ·exact .inl (hcl k hk j hj)
    ·exact .inl (hDl j hj)
   ·rw[hlq]at hk;simp only[Bool.or_eq_true,beq_iff_eq]at hk;unfold k3_;by_cases e:k=i
    ·subst e;exact hh
    ·rcases hk with hk | hk
     ·refine NS.holds_congr (x:=x) (fun j hj=>?_) (NS.holds_stable (hst' k) (hkn k hk) hbw);have hji:j≠i:=by
       rcases hj with rfl | hj
       ·exact e
       ·rintro rfl;have:=hcl k hk j hj;rw[hli]at this;cases this
      simp[Gh.set,hji]
     ·exact absurd hk e
   ·rw[hlq]at hk;simp only[Bool.or_eq_true,beq_iff_eq]at hk;by_cases e:k=i
    ·subst e;simp only[Gh.set,if_true];exact⟨hb.size,hbw.size,l_ _⟩
    ·have:=hiv k (hk.resolve_right e);have:=hbw.size;simp only[Gh.set,if_neg e];omega
   ·rw[hlq]at hk hj;simp only[Bool.or_eq_true,beq_iff_eq]at hk hj;by_cases e:k=i
    ·subst e;have:=hiv j (hj.resolve_right (Ne.symm hkj));simp only[Gh.set,if_true,if_neg (Ne.symm hkj)];exact .inr (by omega)
    ·by_cases e':j=i
     ·subst e';have:=hiv k (hk.resolve_right e);simp only[Gh.set,if_true,if_neg e];exact .inl (by omega)
     ·simp only[Gh.set,if_neg e,if_neg e'];exact hdj k j (hk.resolve_right e) (hj.resolve_right e') hkj
theorem b3_ (n j:Nat):(Array.replicate n false).getD j false=false:=by
 rw[m2_,Array.getElem?_replicate];split <;> rfl
def t7_:List NS→Prop
 | []=>True
 | s :: l=>s.stable∧t7_ l
theorem m4_:∀ {l:List NS},t7_ l→∀ s∈l,s.stable
 | [],_,s,hs=>by simp at hs
 | a :: l,h,s,hs=>by
  rcases List.mem_cons.1 hs with rfl | hs
  ·exact h.1
  ·exact m4_ h.2 s hs
def U0_ (P:Program) (ops:Array Oper) (sp:List NS) (D:List (List Nat)) (a0:Act) (w0:World):Nat→List Oper→Prop
 | _,[]=>True
 | i,o :: l=>U2_ P ops sp D a0 w0 i o∧U0_ P ops sp D a0 w0 (i+1) l
theorem u5_ {ops:Array Oper} {sp:List NS} {D:List (List Nat)} {a0:Act} {w0:World}:∀ (l:List Oper) (k:Nat),U0_ P ops sp D a0 w0 k l→∀ j o,l[j]?=some o→U2_ P ops sp D a0 w0 (k+j) o
 | [],_,_,_,_,h=>by simp at h
 | x :: l,k,h,0,o,hj=>by
  simp at hj;subst hj;exact h.1
 | x :: l,k,h,j+1,o,hj=>by
  have:=u5_ l (k+1) h.2 j o (by simpa using hj);rwa[show k+1+j=k+(j+1) by omega]at this
def rel (i:Nat) (R:Value→Nat→Nat→World→Prop):NS:=.rel fun x w=>R (x.v i) (x.lo i) (x.hi i) w
theorem a4_ {i:Nat} {R:Value→Nat→Nat→World→Prop} (h:∀ u lo hi w w',R u lo hi w→Below w.heap.size w w'→R u lo hi w'):(rel i R).stable:=fun v w w' hr hb=>h _ _ _ _ _ hr hb
theorem a8_ {id:Nat} {l:List Oper} {w:World} (hmo:P.follows .mixedOrders=true) (sp:List NS) (D:List (List Nat)) (m:Nat) (hB:netB l.toArray D m=true) (hst:t7_ sp)
  (hdo:U0_ P l.toArray sp D a0 w 0 (l.take m))
  (hend:∀ x w',Below w.heap.size w w'→(∀ i,i<m→k3_ sp D x i w')→(∀ i,i<m→w.heap.size≤x.lo i∧x.lo i≤x.hi i∧x.hi i≤w'.heap.size)→(∀ i j,i<m→j<m→i≠j→x.hi i≤x.lo j∨x.hi j≤x.lo i)→wpList P l.toArray Q (l.drop m) (c4_ l.toArray a0 x.v m) w'):(Code.region id l.toArray true).wp P Q a0 w:=by
 replace hst:=m4_ hst;have hdo:∀ i o,i<m→l[i]?=some o→U2_ P l.toArray sp D a0 w.drew i o:=fun i o hi ho=>by
  have:=u5_ (l.take m) 0 hdo i o (by rw[List.getElem?_take,if_pos hi];exact ho);rw[Nat.zero_add]at this;exact fun v w1 hb=>this v w1 ⟨hb.os,hb.tape,hb.output,hb.size,hb.block⟩
 refine wp_region_any hmo ?_;have h:=d6J (w0:=w.drew) (a0:=a0) (Q:=Q) (P:=P) (sp:=sp) hB hst (fun i o hi ho=>hdo i o hi (by simpa using ho)) (fun x w' hb hk hiv hdj=>by simpa using hend x w' (show Below w.heap.size w w' from ⟨hb.os,hb.tape,hb.output,hb.size,hb.block⟩) hk hiv hdj)
  l.toArray.size (Array.replicate l.toArray.size false) ⟨fun _=>undef,fun _=>0,fun _=>0⟩ w.drew
  (by rw[List.filter_eq_self.2 (fun j _=>by rw[b3_];rfl),List.length_range])
  (by simp) (fun j _=>b3_ _ _)
  (fun i hi=>by rw[b3_]at hi;cases hi)
  br_
  (fun i hi=>by rw[b3_]at hi;cases hi)
  (fun i hi=>by rw[b3_]at hi;cases hi)
  (fun i j hi=>by rw[b3_]at hi;cases hi)
 have e:actP l.toArray a0 (fun _=>undef) (fun j=>(Array.replicate l.toArray.size false).getD j false) l.toArray.size=a0 :=
  d8_ l.toArray.size 0 (by omega) (fun j _ _=>b3_ _ _)
 rw[e]at h;exact h
end
end
def q_O:NS→Nat→Gh→Prop
 | .eq u,j,x=>x.v j=u
 | .rel _,_,_=>True
def q_L (sp:List NS) (x:Gh):List Nat→Prop
 | []=>True
 | j :: r=>q_O (sp.getD j (.eq undef)) j x∧q_L sp x r
theorem k_l {sp:List NS} {D:List (List Nat)} {x:Gh} {w:World} {P:Nat→Prop}:∀ {l:List Nat},(∀ j∈l,k3_ sp D x j w∧P j)→q_L sp x l
 | [],_=>trivial
 | j :: r,h=>by
  refine⟨?_,k_l fun i hi=>h i (List.mem_cons_of_mem _ hi)⟩;have h1:=(h j List.mem_cons_self).1;unfold k3_ at h1;cases e:sp.getD j (.eq undef) with
  | eq u=>rw[e]at h1;exact h1
  | rel R=>trivial
theorem k_e {sp:List NS} {D:List (List Nat)} {x:Gh} {w:World} {l:List Nat} (h:∀ j∈l,k3_ sp D x j w∧x.hi j≤w.heap.size):q_L sp x l:=k_l h
theorem k_s:(∀ sp x,q_L sp x []=True)∧(∀ sp x j r,q_L sp x (j :: r)=(q_O (sp.getD j (.eq undef)) j x∧q_L sp x r))∧(∀ u j x,q_O (.eq u) j x=(x.v j=u))∧(∀ R j x,q_O (.rel R) j x=True)∧(∀ i R j x,q_O (rel i R) j x=True)∧(∀ (a:List Nat) l d,(a :: l).getD 0 d=a)∧(∀ (a:List Nat) l n d,(a :: l).getD (n+1) d=l.getD n d)∧(∀ (a:NS) l d,(a :: l).getD 0 d=a)∧(∀ (a:NS) l n d,(a :: l).getD (n+1) d=l.getD n d)∧(∀ p:Prop,(p∧True)=p)∧(∀ p:Prop,(True∧p)=p) :=
 ⟨fun _ _=>rfl,fun _ _ _ _=>rfl,fun _ _ _=>rfl,fun _ _ _=>rfl,fun _ _ _ _=>rfl,fun _ _ _=>rfl,fun _ _ _ _=>rfl,fun _ _ _=>rfl,fun _ _ _ _=>rfl,fun p=>by simp,fun p=>by simp⟩
theorem k_g {sp:List NS} {D:List (List Nat)} {x:Gh} {w:World} {M:Nat→Prop} (hk:∀ j,M j→k3_ sp D x j w) (l:List Nat) (h:∀ j∈l,M j:=by decide):q_L sp x l:=k_l (P:=fun _=>True) fun j hj=>⟨hk j (h j hj),trivial⟩
theorem n_e {x:Gh} {i:Nat} {u:Value} (h:x.v i=u):x.v i=u:=h
theorem n_f {M P Q:Nat→Prop} (hk:∀ j,M j→P j∧Q j) (j:Nat) (h:M j:=by decide):P j:=(hk j h).1
theorem n_g {M P:Nat→Prop} (hk:∀ j,M j→P j) (j:Nat) (h:M j:=by decide):P j:=hk j h
def dgN (x:Int):Int:=if x<0 then 0 else if 9<x then 9 else x
def dgS (x:Int):ByteArray:=⟨#[UInt8.ofNat (48+(dgN x).toNat)]⟩
theorem f6Z (x:Int):0≤dgN x∧dgN x≤9:=by unfold dgN;split;omega;split <;> omega
theorem f5z {n:Int} (h0:0≤n) (h9:n≤9):dgN n=n:=by unfold dgN;rw[if_neg (by omega),if_neg (by omega)]
theorem b3J (s:ByteArray):s ++ (⟨#[]⟩:ByteArray)=s:=by
 apply ByteArray.ext
 simp
theorem y3_ (x:Int):(dgS x).size=1:=rfl
theorem c9J {x:Int} {k:Int} (hk:k=48+dgN x) (W:World) (g:Nat) (c:Nat) (hg:Blk W g 5 #[.int .u8 k]) :
  (convert 22 9 (.slice (some ⟨g,0,none⟩) 1 c)).run Tryz.prog W = .ok (.string (dgS x)) W:=by
 have h:=Lib.run_convert_whole (P:=Tryz.prog) W 22 5 9 Tryz.underlying22 Tryz.underlying5 Tryz.underlying9 g 0 (dgS x) (fun i hi=>by
  have hi0:i=0:=by have:=y3_ x;omega
  subst hi0;rw[hg.cell];have hr:=f6Z x;have:((dgS x)[0]'hi)=UInt8.ofNat (48+(dgN x).toNat):=rfl;rw[this,hk];have e:((UInt8.ofNat (48+(dgN x).toNat)).toNat:Int)=48+dgN x:=by
   rw[UInt8.toNat_ofNat'];omega
  rw[e];rfl) c
 rw[y3_]at h;exact h
theorem w0_ (n:Int) (w:World) (h0:0≤n) (h9:n≤9) :
  Calls Tryz.prog 148 #[.int .i64 n] w fun e w'=>e = .returned (.string (dgS n))∧Below w.heap.size w w':=by
 by_cases hz:n=0
 ·subst hz;go_enter Tryz.func148,Tryz.ntmps148
  go_wp2;go_ret
  exact⟨rfl,Below.refl _ _⟩
 ·have hb:(n == 0)=false:=by simpa using hz
  have hne:(n != 0)=true:=by simpa using hz
  have hneg:¬ n<0:=by omega
  have hd:decide (n<0)=false:=by simp;omega
  have hc:=fun W:World=>c9J (x:=n) (k:=48+n) (by rw[f5z h0 h9]) (W.alloc (.cells #[.int .u8 (48+n)] 5)) W.heap.size 1 (Blk.new _ _ _)
  have hw8:IntKind.u8.wrap (48+n)=48+n:=by
   have:n=1∨n=2∨n=3∨n=4∨n=5∨n=6∨n=7∨n=8∨n=9:=by omega
   rcases this with rfl | rfl | rfl | rfl | rfl | rfl | rfl | rfl | rfl <;> decide
  have e1:n % 10=n:=by omega
  have e2:n / 10=0:=by omega
  have HN:=b3J (dgS n);have hsz:(dgS n).size≤17592186044416:=by rw[y3_];omega
  clear hz;go_enter Tryz.func148,Tryz.ntmps148
  go_wp2;refine wp_loop_rounds 2 ?_;rw[rounds_succ];go_wp2;rw[rounds_succ];go_wp2;go_ret
  exact⟨rfl,a2_ _ _⟩
def fidx (p:Int→Bool) (l:List Int):Int:=if l.findIdx p<l.length then (l.findIdx p:Int) else -1
theorem L7_ {p:Int→Bool} {l:List Int} (h:∀ x∈l,p x=false):fidx p l = -1:=by
 unfold fidx;rw[if_neg];intro hlt;have h1:=List.findIdx_getElem (w:=hlt);have h2:=h _ (List.getElem_mem hlt);rw[h1]at h2;cases h2
theorem C3_ {p:Int→Bool} {l:List Int} {k:Nat} {x:Int} (hx:l[k]?=some x) (hp:p x=true) (hb:∀ y∈l.take k,p y=false):fidx p l=k:=by
 have hk:=b0_ hx;have hxk:l[k]=x:=by rw[l2_ hk]at hx;injection hx
 have e:l.findIdx p=k:=by
  rw[List.findIdx_eq hk];refine⟨by rw[hxk];exact hp,fun j hj=>?_⟩;have:=hb l[j] (by rw[List.mem_take_iff_getElem];exact⟨j,by omega,rfl⟩);simp[this]
 unfold fidx;rw[e,if_pos hk]
theorem a2x (p:Int→Bool) (l:List Int):decide (0≤fidx p l)=l.any p:=by
 unfold fidx;by_cases h:l.findIdx p<l.length
 ·rw[if_pos h];have h1:=List.findIdx_getElem (w:=h);have:l.any p=true:=List.any_eq_true.2 ⟨_,List.getElem_mem h,h1⟩;rw[this];simp
 ·rw[if_neg h];have:l.any p=false:=by
   rw[List.any_eq_false];intro x hx hpx;exact h (List.findIdx_lt_length_of_exists ⟨x,hx,hpx⟩)
  rw[this];simp
theorem b2x (u:Value) (xs:List Int) (v:Int) (w:World) (hu:SlI w w.heap.size u xs) :
  Calls Tryz.prog 130 #[u,.int .i64 v] w fun e w'=>e = .returned (.int .i64 (fidx (fun x=>v == x) xs))∧w'=w:=by
 obtain⟨A,c,rfl,_,_,hn,hx⟩:=hu.open_;clear hu;go_enter Tryz.func130,Tryz.ntmps130
 go_wp2
 go_loop [8] (fun i=>∃ k:Nat,k≤xs.length∧i = .int .i64 k∧Hid (∀ y∈xs.take k,(v == y)=false)) (fun i=>xs.length-(intOf i).toNat)
 case atStart=>exact⟨0,l0_ _,rfl,by intro y hy;simp at hy⟩
 case round =>
  obtain⟨k,hk,rfl,hno⟩:=hrel;by_cases hlt:k<xs.length
  ·obtain⟨b,o,x,rfl,hb,HX,c1,_⟩:=SlI.at_ hx hlt;clear hx;rcases hvx:(v == x) with _ | _
   ·go_wp2;go_round
    case rel =>
     refine⟨k+1,by omega,by go_num,fun y hy=>?_⟩;rw[c8_ HX.out,List.mem_append,List.mem_singleton]at hy;rcases hy with hy | rfl
     ·exact hno.out y hy
     ·exact hvx
    case measure=>simp[intOf];omega
   ·have hfin:=h_ (C3_ HX.out hvx hno.out);go_wp2;go_ret
    exact⟨by rw[hfin.out];rfl,rfl⟩
  ·go_wp2;go_ret
   have h1:=hno.out;rw[l7_ (by omega)]at h1;exact⟨by rw[L7_ h1];rfl,rfl⟩
theorem x6_ (u:Value) (xs:List Int) (v:Int) (w:World) (hu:SlI w w.heap.size u xs) :
  Calls Tryz.prog 105 #[u,.int .i64 v] w fun e w'=>e = .returned (.bool (decide (v∈xs)))∧w'=w:=by
 have hd:decide (v∈xs)=decide (0≤fidx (fun x=>v == x) xs):=by
  rw[a2x,Bool.eq_iff_iff];simp
 have HC:=b2x u xs v w hu;rw[hd];generalize fidx (fun x=>v == x) xs=r at *;clear hd;have HC:=h_ HC;by_cases h:0≤r
 ·have e:decide (0≤r)=true:=by simpa using h
  rw[e];go_enter Tryz.func105,Tryz.ntmps105
  go_wp2_with fail
  refine (B6_ HC).mono ?_;rintro e w' ⟨rfl,rfl⟩;go_wp2;go_ret
  exact⟨rfl,rfl⟩
 ·have e:decide (0≤r)=false:=by simpa using h
  rw[e];go_enter Tryz.func105,Tryz.ntmps105
  go_wp2_with fail
  refine (B6_ HC).mono ?_;rintro e w' ⟨rfl,rfl⟩;go_wp2;go_ret
  exact⟨rfl,rfl⟩
theorem Q9_ (p1 p2:Value) (p:Int→Bool) (u:Value) (xs:List Int) (w:World) (hu:SlI w w.heap.size u xs)
  (hF:∀ (W:World) (x:Int),Below w.heap.size w W→Calls Tryz.prog 139 #[.int .i64 x,p1,p2] W fun e w'=>e = .returned (.bool (p x))∧Below W.heap.size W w') :
  Calls Tryz.prog 142 #[u,.func (Fn.func 139) #[] #[p1,p2]] w fun e w'=>e = .returned (.int .i64 (fidx p xs))∧Below w.heap.size w w':=by
 obtain⟨A,c,rfl,_,_,hn,hx⟩:=hu.open_;clear hu;have HF:=h_ hF;clear hF;go_enter Tryz.func142,Tryz.ntmps142
 go_wp2;go_loopw [8] (fun i wr=>∃ k:Nat,k≤xs.length∧i = .int .i64 k∧Below w.heap.size w wr∧Hid (∀ y∈xs.take k,p y=false)) (fun i _=>xs.length-(intOf i).toNat)
 case atStart=>exact⟨0,l0_ _,rfl,Below.refl _ _,by intro y hy;simp at hy⟩
 case round =>
  obtain⟨k,hk,rfl,hbel,hno⟩:=hrel;by_cases hlt:k<xs.length
  ·obtain⟨b,o,x,rfl,hb,HX,c1,_⟩:=SlI.at_ hx hlt;have d1:=a7_ hbel hb c1;clear hx c1;have HC:=HF.out wr x hbel;obtain⟨B,hB⟩:=e_ (p x);rw[hB]at HC;have HC:=h_ HC;have HB:=h_ hB;clear hB;cases B
   ·go_wp2_with fail
    refine (B6_ HC).mono ?_;rintro e w1 ⟨rfl,hb1⟩;go_wp2;go_roundw
    case rel =>
     refine⟨k+1,by omega,by go_num,hbel.trans (hb1.mono hbel.size),fun y hy=>?_⟩;rw[c8_ HX.out,List.mem_append,List.mem_singleton]at hy;rcases hy with hy | rfl
     ·exact hno.out y hy
     ·exact HB.out
    case measure=>simp[intOf];omega
   ·have hfin:=h_ (C3_ HX.out HB.out hno.out);go_wp2_with fail
    refine (B6_ HC).mono ?_;rintro e w1 ⟨rfl,hb1⟩;go_wp2;go_ret
    exact⟨by rw[hfin.out];rfl,hbel.trans (hb1.mono hbel.size)⟩
  ·go_wp2;go_ret
   have h1:=hno.out;rw[l7_ (by omega)]at h1;exact⟨by rw[L7_ h1];rfl,hbel⟩
theorem G5_ (p1 p2:Value) (p:Int→Bool) (u:Value) (xs:List Int) (w:World) (hu:SlI w w.heap.size u xs)
  (hF:∀ (W:World) (x:Int),Below w.heap.size w W→Calls Tryz.prog 139 #[.int .i64 x,p1,p2] W fun e w'=>e = .returned (.bool (p x))∧Below W.heap.size W w') :
  Calls Tryz.prog 138 #[u,.func (Fn.func 139) #[] #[p1,p2]] w fun e w'=>e = .returned (.bool (xs.any p))∧Below w.heap.size w w':=by
 have hd:=a2x p xs;have HC:=Q9_ p1 p2 p u xs w hu hF;rw[←hd];generalize fidx p xs=r at *;clear hd hF;have HC:=h_ HC;by_cases h:0≤r
 ·have e:decide (0≤r)=true:=by simpa using h
  rw[e];go_enter Tryz.func138,Tryz.ntmps138
  go_wp2_with fail
  refine (B6_ HC).mono ?_;rintro e w1 ⟨rfl,hb1⟩;go_wp2;go_ret
  exact⟨rfl,hb1⟩
 ·have e:decide (0≤r)=false:=by simpa using h
  rw[e];go_enter Tryz.func138,Tryz.ntmps138
  go_wp2_with fail
  refine (B6_ HC).mono ?_;rintro e w1 ⟨rfl,hb1⟩;go_wp2;go_ret
  exact⟨rfl,hb1⟩
theorem M3_ (g1 g2:Nat) (lo hi x:Int) (W:World) (h1:W.cell? ⟨g1,0,none⟩=some (.int .i64 lo)) (h2:W.cell? ⟨g2,0,none⟩=some (.int .i64 hi)) :
  Calls Tryz.prog 139 #[.int .i64 x,.pointer (some ⟨g1,0,none⟩),.pointer (some ⟨g2,0,none⟩)] W fun e w'=>e = .returned (.bool (!inR x lo hi))∧Below W.heap.size W w':=by
 go_enter Tryz.func139,Tryz.ntmps139
 go_wp2_with fail
 refine (g0_ _ _ _ _).mono ?_;rintro e w' ⟨rfl,rfl⟩;go_wp2;go_ret
 exact⟨rfl,Below.refl _ _⟩
def allR (l:List Int) (lo hi:Int):Bool:=l.all fun x=>inR x lo hi
theorem T3_ {l:List Int} {lo hi:Int}:allR l lo hi=true↔∀ x∈l,lo≤x∧x≤hi:=by simp[allR,inR]
theorem k7_ (u:Value) (xs:List Int) (lo hi:Int) (w:World) (hu:SlI w w.heap.size u xs) :
  Calls Tryz.prog 118 #[u,.int .i64 lo,.int .i64 hi] w fun e w'=>e = .returned (.bool (allR xs lo hi))∧Below w.heap.size w w':=by
 obtain⟨W,hW,g0,k1,k2⟩:=b_4 w #[.int .i64 lo] 3 #[.int .i64 hi] 3;have HC:=G5_ (.pointer (some ⟨w.heap.size,0,none⟩)) (.pointer (some ⟨w.heap.size+1,0,none⟩)) (fun x=>!inR x lo hi) u xs W (SlI.next g0 hu) (fun W' x hb =>
  M3_ _ _ lo hi x W' ((k1.below hb k1.lt).cell' (i:=0) rfl) ((k2.below hb k2.lt).cell' (i:=0) rfl))
 have e:allR xs lo hi = !(xs.any fun x=>!inR x lo hi):=by simp[allR,List.any_eq_not_all_not]
 rw[e];generalize (xs.any fun x=>!inR x lo hi)=B at *;obtain⟨A,c,rfl,_,_,_,_⟩:=hu.open_;clear hu e k1 k2;have HC:=h_ HC;have hmf:∀ (fn:Fn) (first cap:Array Value) (w:World),(Instr.makeFunc fn first cap).run Tryz.prog w = .ok (.func fn first cap) w:=fun _ _ _ _=>rfl
 go_enter Tryz.func118,Tryz.ntmps118
 go_wp2_with fail
 rw[←hW];refine (B6_ HC).mono ?_;rintro e w1 ⟨rfl,hb1⟩;go_wp2;go_ret
 exact⟨rfl,a6_ g0 hb1⟩
def sumW (l:List Int):Int:=l.foldl (fun s x=>wrap64 (s+x)) 0
theorem b5X (l:List Int) (x:Int):sumW (l ++ [x])=wrap64 (sumW l+x):=by simp[sumW]
theorem f6q (lo hi:Int) (h0:lo≤0) (h1:0≤hi):∀ (l:List Int) (acc:Int) (m:Nat),(∀ x∈l,lo≤x∧x≤hi)→lo*m≤acc→acc≤hi*m→hi*((m+l.length:Nat):Int)≤9223372036854775807→-9223372036854775808≤lo*((m+l.length:Nat):Int) →
  l.foldl (fun s x=>wrap64 (s+x)) acc=acc+l.sum∧lo*((m+l.length:Nat):Int)≤acc+l.sum∧acc+l.sum≤hi*((m+l.length:Nat):Int)
 | [],acc,m,_,ha,hb,_,_=>by simp;exact⟨ha,hb⟩
 | x :: l,acc,m,hl,ha,hb,hc,hd=>by
  obtain⟨hx1,hx2⟩:=hl x (by simp);have e:((m+(x :: l).length:Nat):Int)=(((m+1)+l.length:Nat):Int):=by simp;omega
  rw[e]at hc hd⊢;have m1:lo*((m+1:Nat):Int)=lo*m+lo:=by rw[Int.natCast_add,Int.mul_add];simp
  have m2:hi*((m+1:Nat):Int)=hi*m+hi:=by rw[Int.natCast_add,Int.mul_add];simp
  have n1:lo*(((m+1)+l.length:Nat):Int)≤lo*((m+1:Nat):Int):=Int.mul_le_mul_of_nonpos_left h0 (by omega);have n2:hi*((m+1:Nat):Int)≤hi*(((m+1)+l.length:Nat):Int):=Int.mul_le_mul_of_nonneg_left (by omega) h1;have hw:wrap64 (acc+x)=acc+x:=IntWalk.wrap64_in _ ⟨by omega,by omega⟩;have ih:=f6q lo hi h0 h1 l (acc+x) (m+1) (fun y hy=>hl y (by simp[hy])) (by omega) (by omega) hc hd;rw[List.foldl_cons,hw,List.sum_cons];rw[←Int.add_assoc];exact ih
theorem a5J (l:List Int) (lo hi:Int) (h0:lo≤0) (h1:0≤hi) (hl:∀ x∈l,lo≤x∧x≤hi) (hb:hi*l.length≤9223372036854775807) (hb':-9223372036854775808≤lo*l.length):sumW l=l.sum∧lo*l.length≤l.sum∧l.sum≤hi*l.length:=by
 have:=f6q lo hi h0 h1 l 0 0 hl (by simp) (by simp) (by simpa using hb) (by simpa using hb');simpa [sumW] using this
theorem b5q (u:Value) (xs:List Int) (w:World) (hu:SlI w w.heap.size u xs) :
  Calls Tryz.prog 119 #[u] w fun e w'=>e = .returned (.int .i64 (sumW xs))∧w'=w:=by
 obtain⟨A,c,rfl,_,_,hn,hx⟩:=hu.open_;clear hu;go_enter Tryz.func119,Tryz.ntmps119
 go_wp2
 go_loop [3,8] (fun s i=>∃ k:Nat,k≤xs.length∧i = .int .i64 k∧s = .int .i64 (sumW (xs.take k))) (fun _ i=>xs.length-(intOf i).toNat)
 case atStart=>exact⟨0,l0_ _,rfl,rfl⟩
 case round =>
  obtain⟨k,hk,rfl,rfl⟩:=hrel;by_cases hlt:k<xs.length
  ·obtain⟨b,o,x,rfl,hb,HX,c1,_⟩:=SlI.at_ hx hlt;clear hx;have HS:=h_ (show sumW (xs.take (k+1))=wrap64 (sumW (xs.take k)+x) by rw[c8_ HX.out,b5X]);generalize sumW (xs.take k)=s at *;go_wp2;go_round
   case rel=>exact⟨k+1,by omega,by go_num,by rw[HS.out]⟩
   case measure=>simp[intOf];omega
  ·go_wp2;go_ret
   exact⟨by rw[l7_ (by omega)];rfl,rfl⟩
end Go.Proofs.YtnohdlkailpnoaaGreat

