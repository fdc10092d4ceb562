/- FnBars: the law holds for every argument. Part 7 of 16 of the proof: Row, RowY. No condition. -/
import Derived.Test.YtbgccbmdiolhbaaGreatBBars6
import Derived.Test.YtbgccbmdiolhbaaGreatRows
import Derived.ProofKit
import Derived.SizedLaws
import Derived.OpenShut
import Derived.Deep.Slices
set_option linter.unusedVariables false
set_option linter.unusedSimpArgs false
set_option maxHeartbeats 12800000
set_option maxRecDepth 100000
namespace Go.Proofs.YtbgccbmdiolhbaaGreat
open Go.RowKit Go.ChangeShapes Go.WideShapes Go.ChangeAt Go.Deep
theorem i1z:ownKnob Tryz.prog.godebug=none:=by kernel_rfl
theorem b5J:laidOutB Tryz.prog=true:=by kernel_rfl
section
variable {H:Type} {enc:TypeId×Value→H} {w:World}
def Wt (t:TypeId) (d:DataW H):Prop:=∀ n∈d.weights Tryz.prog t,n≤reachBytes
theorem Wt.slice {t e:TypeId} {elems spare:List (DataW H)} (h:Wt t (.slice elems spare)) (ht:Tryz.prog.underlying t=some (.slice e)) :
  (elems.length+spare.length)*Tryz.prog.bytesOf e≤reachBytes∧∀ d∈elems,Wt e d:=by
 have hall:∀ (l:List (DataW H)) (d:DataW H),d∈l→∀ n∈d.weights Tryz.prog e,n∈DataW.weightsAll Tryz.prog e l:=by
  intro l;induction l with
  | nil=>intro d hd;simp at hd
  | cons a l ih =>
   intro d hd n hn;simp only[DataW.weightsAll,List.mem_append];rcases List.mem_cons.1 hd with rfl | hd
   ·exact .inl hn
   ·exact .inr (ih d hd n hn)
 refine⟨h _ (by simp[DataW.weights,ht]),fun d hd n hn=>h n ?_⟩;simp only[DataW.weights,ht,List.mem_cons,List.mem_append];exact .inr (.inl (hall _ _ hd _ hn))
theorem w7_ {P:Program}:∀ {ts:List TypeId} {ds:List (DataW H)} {j:Nat} {t:TypeId} {d:DataW H},ts[j]?=some t→ds[j]?=some d→∀ n∈d.weights P t,n∈DataW.weightsEach P ts ds:=DataW.weights_mem_each
theorem Wt.struct {t:TypeId} {fs:Array Field} {ds:List (DataW H)} (h:Wt t (.agg ds)) (ht:Tryz.prog.underlying t=some (.struct fs)) {j:Nat} {f:Field} {d:DataW H} (hf:fs[j]?=some f) (hd:ds[j]?=some d):Wt f.type d:=by
 intro n hn;refine h n ?_;simp only[DataW.weights,ht];exact w7_ (j:=j) (t:=f.type) (by simp[hf]) hd n hn
abbrev a1J (enc:TypeId×Value→H) (w:World) (fuel:Nat) (t:TypeId) (cs:List Value) (x:DataW H×List MemPlace):Prop:=DataW.trod enc Tryz.prog w 0 (fun _=>true) true fuel t cs=some x
end
theorem G7_ {H:Type} {enc:TypeId×Value→H} {W W':World} {sp:Nat→Bool} (hb:Below W.heap.size W W'):∀ {ts:List TypeId} {vs:List Value} {ds:List (DataW H)} {ps:List MemPlace},
  (∀ t∈ts,Tryz.prog.readableRec t=true∧t<Tryz.prog.types.size)→DataW.TrodAll enc Tryz.prog W 0 (fun _=>true) true ts vs ds ps→(∀ x∈ps,x.block<W.heap.size)→(∀ x∈ps,sp x.block=true)→DataW.TrodAll enc Tryz.prog W' 0 sp true ts vs ds ps
 | [],_,_,_,_,h,_,_=>by
  obtain⟨rfl,rfl,rfl⟩:=trodAll_nil h;exact trodAll_mk0
 | t :: ts,vs,ds,ps,hr,h,hlt,hsp=>by
  obtain⟨v,vs',d,ds',p,q,rfl,rfl,rfl,h0,h1⟩:=trodAll_cons h;have hr0:=hr t (by simp);refine trodAll_cons_mk ?_ ?_
  ·exact WideElems.Trod_stays b5J hr0.1 hr0.2 h0 (fun x hx=>hb.same (hlt x (by simp[hx]))) (fun x hx=>hsp x (by simp[hx]))
  ·exact G7_ hb (fun t ht=>hr t (by simp[ht])) h1 (fun x hx=>hlt x (by simp[hx])) (fun x hx=>hsp x (by simp[hx]))
theorem d5j {H:Type} {enc:TypeId×Value→H} {os:Os} {f:FuncId} {fn:Func} {s:ChangeSpec} (started:os.Started) (noInit:Tryz.checked.prog.inits.idxOf? f=none) (hfn:Tryz.checked.prog.funcs[f]?=some fn)
  (witness:∃ (w:World) (tape:Tape) (i:Input),w.os=os∧(w.forCall tape i).Shaped Tryz.checked.prog∧i.vars=[]∧Input.okWide Tryz.checked.prog (w.forCall tape i) .any w.heap.size f i ∧
   s.pre6 enc Tryz.checked.prog fn [] false (w.forCall tape i).memory i.args∧({}:Assume).holds Tryz.checked.prog (lone (Frame.enter Tryz.checked.prog f i.args .normal) [] (w.forCall tape i)))
  (hvars:s.vars=[]) (hres:fn.resultTypes=#[4])
  (hread:∀ t∈fn.params.toList,Tryz.prog.readableRec t=true∧t<Tryz.prog.types.size)
  (hspec:∀ ds:List (DataW H),ds.length=fn.params.size→s.fn H (ds ++ [])={ results:=[.lit (.bool true)],args:=ds })
  (hcalls:∀ (W:World) (args:Array Value) (ds:List (DataW H)) (ps:List MemPlace) (base:Nat),(∀ (j:Nat) t v,fn.params[j]?=some t→args[j]?=some v→Value.okWide Tryz.prog W .any base t v)→DataW.TrodAll enc Tryz.prog W 0 (fun _=>true) true fn.params.toList args.toList ds ps →
   (∀ (j:Nat) t d,fn.params.toList[j]?=some t→ds[j]?=some d→Wt t d)→Calls Tryz.prog f args W fun e W'=>e = .returned (.bool true)∧Below W.heap.size W W') :
  ReturnsInHanded {} Tryz.checked os f .any (s.pre6 enc Tryz.prog fn [] false) (s.post enc Tryz.prog fn false true false false):=by
 refine returnsInHanded_of_change_sized (C:=Tryz.checked) i1z started noInit hfn witness ?_;intro W base args ds gs before hval hW _ hsz _;have hW':=hW;obtain⟨p,q,hA,hV,rfl,hfz,hnd⟩:=hW;rw[hvars]at hV;obtain⟨rfl,rfl⟩:=trodVars_none hV;have hA':DataW.TrodAll enc Tryz.prog W 0 (fun _=>true) true fn.params.toList args.toList ds p:=hA;have hlen:ds.length=fn.params.size:=by
  have h:∀ {ts:List TypeId} {vs:List Value} {ds:List (DataW H)} {ps:List MemPlace},DataW.TrodAll enc Tryz.prog W 0 (fun _=>true) true ts vs ds ps→ds.length=ts.length:=by
   intro ts;induction ts with
   | nil=>intro vs ds ps h;obtain⟨_,rfl,_⟩:=trodAll_nil h;rfl
   | cons t ts ih=>intro vs ds ps h;obtain⟨v,vs',d,ds',p,q,_,rfl,_,_,h1⟩:=trodAll_cons h;simp[ih h1]
  simpa using h hA'
 have hwt:∀ (j:Nat) t d,fn.params.toList[j]?=some t→ds[j]?=some d→Wt t d:=by
  intro j t d hj hd n hn;have h:=List.all_eq_true.1 hsz n (w7_ (j:=j) (t:=t) (d:=d) (by rw[List.getElem?_append_left (a6_ hj)];exact hj) (by rw[List.getElem?_append_left (a6_ hd)];exact hd) n hn);exact (decide_eq_true_iff (p:=n≤reachBytes)).1 h
 refine (hcalls W args ds p base hval hA' hwt).mono fun e W' ⟨he,hb⟩=>⟨_,he,?_⟩
 have hlt:∀ x∈p,x.block<W.heap.size:=fun x hx=>hW'.lt x (by simp[hx])
 have hsp:=hspec ds hlen;refine⟨ds,[],_,[],p,[],hW',?_,?_,?_,World.keptBut_mono (fun x hx=>⟨hx,?_⟩) (hb.frame (·∈p ++ [])),fun h=>by cases h⟩
 ·rw[hres,hsp];exact trodAll_mk1 (shut_bool Tryz.underlying4 _)
 ·rw[hsp];exact G7_ hb hread hA' hlt (fun x hx=>by simpa using hlt x hx)
 ·rw[hvars,hsp];rfl
 ·simpa using hx
theorem d8Z {H:Type} {enc:TypeId×Value→H} {w:World} {t T off fuel:Nat} {fs:Array Field} {cs:List Value} {x:DataW H×List MemPlace} (ht:Tryz.prog.underlying t=some (.struct fs)) (h:a1J enc w fuel t cs x) (hw:Wt t x.1) (j:Nat)
  (hj:(fs[j]?).map (fun f=>(f.type,f.offset))=some (T,off)):∃ n y,a1J enc w n T ((cs.drop off).take (Tryz.prog.cellsOf T)) y∧Wt T y.1:=by
 obtain⟨xs,n,_,hx,_,hxl,hf⟩:=DataW.trod_struct ht h;obtain⟨f,hfj,e⟩:=Option.map_eq_some_iff.1 hj;injection e with e1 e2
 subst e1 e2;have hjl:j<xs.length:=by rw[hxl];exact (Array.getElem?_eq_some_iff.1 hfj).1
 have h1:=hf j f hfj;rw[l2_ hjl]at h1;refine⟨n,xs[j],h1,?_⟩;rw[hx]at hw;exact Wt.struct hw ht hfj (by simp[l2_ hjl])
theorem i3Z {H:Type} {enc:TypeId×Value→H} {w:World} {t e base:Nat} {v:Value} {d:DataW H} {p:List MemPlace} (ht:Tryz.prog.underlying t=some (.slice e)) (hv:Value.okWide Tryz.prog w .any base t v) (h:DataW.Trod enc Tryz.prog w 0 (fun _=>true) true t v d p) :
  ∃ fuel,a1J enc w fuel t [v] (d,p):=by
 obtain⟨a,l,c,rfl⟩:=okWide_slice ht hv;obtain⟨fuel,h⟩:=h;have e:(Value.slice a l c).cells.toList=[.slice a l c]:=rfl;rw[e]at h;exact⟨fuel,h⟩
theorem i7z {H:Type} {enc:TypeId×Value→H} {w:World} {t T off fuel:Nat} {fs:Array Field} {cs:List Value} {x:DataW H×List MemPlace} (ht:Tryz.prog.underlying t=some (.struct fs)) (h:a1J enc w fuel t cs x) (hw:Wt t x.1) (j:Nat)
  (hj:(fs[j]?).map (fun f=>(f.type,f.offset))=some (T,off)) (hT:Tryz.prog.cellsOf T=1) {α:Type} {R:Value→α→Prop} (hR:∀ n cs' y,a1J enc w n T cs' y→Wt T y.1→∃ v a,cs'=[v]∧R v a):∃ v a,cs[off]?=some v∧R v a:=by
 obtain⟨n,y,h1,h2⟩:=d8Z ht h hw j hj;rw[hT]at h1;obtain⟨v,a,e,r⟩:=hR n _ y h1 h2;refine⟨v,a,?_,r⟩;have:((cs.drop off).take 1)[0]?=some v:=by rw[e];rfl
 simpa [List.getElem?_take,List.getElem?_drop] using this
section
variable {H:Type} {enc:TypeId×Value→H} {w:World}
theorem d9z {n:Int} (h:(Lit.int .u8 n).wf=true):0≤n∧n≤255:=by
 simp only[Lit.wf,l9_,decide_eq_true_eq]at h;have e1:IntKind.min .u8=0:=by decide
 have e2:IntKind.max .u8=255:=by decide
 rw[e1,e2]at h;exact h
theorem g6X (fuel b o:Nat) (cs:List Value) (y:DataW H×List MemPlace) (hc:∀ j,j<1→w.cell? ⟨b,o+j,none⟩=cs[j]?) (hl:cs.length=1) (h:a1J enc w fuel 5 cs y):∃ a,RY w w.heap.size b o a:=by
 obtain⟨n,rfl,_,h3⟩:=DataW.trod_int Tryz.underlying5 h;obtain⟨h1,h2⟩:=d9z h3;exact⟨n,by simpa using hc 0 (by omega),h1,h2⟩
theorem i5x {fuel:Nat} {cs:List Value} {x:DataW H×List MemPlace} (h:a1J enc w fuel 22 cs x) :
  ∃ v,cs=[v]∧((∃ (A:Option Addr) (n c:Nat),v = .slice A n c∧1048576<n∧n≤9223372036854775807)∨∃ xs,SlY w w.heap.size v xs):=by
 have hsz:Tryz.prog.cellsOf 5=1:=by kernel_rfl
 rcases open_slice Tryz.underlying22 h with ⟨rfl,rfl⟩ | ⟨a,len,cap,m,n,D,Pl,rfl,_,hl,hm,hmm,hx,hi⟩
 ·exact⟨_,rfl,.inr ⟨[],SlG.nil⟩⟩
 simp only[if_true]at hmm;subst hmm;rw[hsz]at hi;have hm':m≤9223372036854775807:=by simp only[maxLen]at hm;omega
 by_cases hbig:1048576<len
 ·exact⟨_,rfl,.inl ⟨_,_,_,rfl,hbig,by omega⟩⟩
 have hlen:len≤17592186044416:=by omega
 rcases Nat.eq_zero_or_pos len with h0 | h0
 ·subst h0;exact⟨_,rfl,.inr ⟨[],some a,m,rfl,by simp,by simp only[maxLen]at hm;omega,by simp,fun h=>absurd h (by simp)⟩⟩
 ·have hspot:a.spot=none:=by
   obtain⟨cs',hc,_⟩:=hi 0 (by omega);obtain⟨_,hlc,hat⟩:=World.cells?_some hc;have h4:=hat 0 (by omega);rw[l2_ (by omega)]at h4;have e:(a.add (0*1)).add 0=a:=by simp[Addr.add]
   rw[e]at h4;unfold World.cell? at h4;split at h4
   ·by_cases hs:a.spot.isSome
    ·rw[if_pos hs]at h4;cases h4
    ·simpa using hs
   ·cases h4
  obtain⟨b,o,sp⟩:=a;simp only at hspot;subst hspot;have hadd:∀ i,(⟨b,o,none⟩:Addr).add i=⟨b,o+i,none⟩:=by
   intro i;unfold Addr.add;split <;> simp_all
  have hR:∀ i,i<len→∃ y:Int,RY w w.heap.size b (o+i*1) y:=by
   intro i hil;obtain⟨cs',hc,htr⟩:=hi i (by omega);obtain⟨_,hlc,hat⟩:=World.cells?_some hc;refine g6X n b (o+i*1) cs' _ (fun j hj=>?_) hlc htr;have:=hat j hj;rwa[hadd,show (⟨b,o+i*1,none⟩:Addr).add j=⟨b,o+i*1+j,none⟩ from by unfold Addr.add;split <;> simp_all]at this
  obtain⟨f,hf⟩:=choose_lt hR;have hb:b<w.heap.size:=by
   obtain⟨cs',hc,_⟩:=hi 0 (by omega);obtain⟨_,hlc,hat⟩:=World.cells?_some hc;have h4:=hat 0 (by omega);rw[l2_ (by omega)]at h4;have:=World.block_lt_of_cell? _ _ h4;simpa [hadd,Addr.add] using this
  refine⟨_,rfl,.inr ⟨(List.range len).map f,some ⟨b,o,none⟩,m,by simp,by simpa using hl,by simp only[maxLen]at hm;omega,by simpa using hlen,fun _=>⟨b,o,rfl,hb,fun j y hj=>?_⟩⟩⟩;rw[List.getElem?_map,Option.map_eq_some_iff]at hj;obtain⟨i,hi',rfl⟩:=hj;have hjl:=a6_ hi';simp only[List.length_range]at hjl;rw[List.getElem?_range hjl]at hi';injection hi' with hi'
  subst hi';exact hf j hjl
end
end Go.Proofs.YtbgccbmdiolhbaaGreat

