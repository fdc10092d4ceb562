/- FnReflections: the law holds for every argument. Part 8 of 13 of the proof: Row. No condition. -/
import Derived.Test.YtaefpblpfjhgoaaBReflections7
import Derived.Test.YtaefpblpfjhgoaaRows
import Derived.ProofKit
import Derived.SizedLaws
import Derived.OpenShut
import Derived.Deep.Slices
/- From a law's contract to its row, for every law of this seat: the arguments are opened, what is handed back is shut. -/
namespace Go.Proofs.Ytaefpblpfjhgoaa
set_option linter.unusedVariables false
set_option linter.unusedSimpArgs false
open Go.RowKit Go.ChangeShapes Go.WideShapes Go.ChangeAt Go.Deep

theorem ownLaw : ownKnob Try.prog.godebug = none := by kernel_rfl
theorem laidOutLaw : laidOutB Try.prog = true := by kernel_rfl

section
variable {H : Type} {enc : TypeId × Value → H} {w : World}

/-- What is read of weights: each slice lies within the form's reach. -/
def Wt (t : TypeId) (d : DataW H) : Prop := ∀ n ∈ d.weights Try.prog t, n ≤ reachBytes
theorem Wt.slice {t e : TypeId} {elems spare : List (DataW H)} (h : Wt t (.slice elems spare)) (ht : Try.prog.underlying t = some (.slice e)) :
    (elems.length + spare.length) * Try.prog.bytesOf e ≤ reachBytes ∧ ∀ d ∈ elems, Wt e d := by
  have hall : ∀ (l : List (DataW H)) (d : DataW H), d ∈ l → ∀ n ∈ d.weights Try.prog e, n ∈ DataW.weightsAll Try.prog e l := by
    intro l
    induction l with
    | nil => intro d hd; simp at hd
    | cons a l ih =>
      intro d hd n hn
      simp only [DataW.weightsAll, List.mem_append]
      rcases List.mem_cons.1 hd with rfl | hd
      · exact .inl hn
      · exact .inr (ih d hd n hn)
  refine ⟨h _ (by simp [DataW.weights, ht]), fun d hd n hn => h n ?_⟩
  simp only [DataW.weights, ht, List.mem_cons, List.mem_append]
  exact .inr (.inl (hall _ _ hd _ hn))
theorem weightsEach_get {P : Program} : ∀ {ts : List TypeId} {ds : List (DataW H)} {j : Nat} {t : TypeId} {d : DataW H}, ts[j]? = some t → ds[j]? = some d → ∀ n ∈ d.weights P t, n ∈ DataW.weightsEach P ts ds := DataW.weights_mem_each
theorem Wt.struct {t : TypeId} {fs : Array Field} {ds : List (DataW H)} (h : Wt t (.agg ds)) (ht : Try.prog.underlying t = some (.struct fs)) {j : Nat} {f : Field} {d : DataW H} (hf : fs[j]? = some f) (hd : ds[j]? = some d) : Wt f.type d := by
  intro n hn
  refine h n ?_
  simp only [DataW.weights, ht]
  exact weightsEach_get (j := j) (t := f.type) (by simp [hf]) hd n hn

/-- The reading of an argument. -/
abbrev TrodA (enc : TypeId × Value → H) (w : World) (fuel : Nat) (t : TypeId) (cs : List Value) (x : DataW H × List MemPlace) : Prop := DataW.trod enc Try.prog w 0 (fun _ => true) true fuel t cs = some x

end

/-- The arguments read behind the call as before it. -/
theorem trodAll_kept {H : Type} {enc : TypeId × Value → H} {W W' : World} {sp : Nat → Bool} (hb : Below W.heap.size W W') : ∀ {ts : List TypeId} {vs : List Value} {ds : List (DataW H)} {ps : List MemPlace},
    (∀ t ∈ ts, Try.prog.readableRec t = true ∧ t < Try.prog.types.size) → DataW.TrodAll enc Try.prog W 0 (fun _ => true) true ts vs ds ps → (∀ x ∈ ps, x.block < W.heap.size) → (∀ x ∈ ps, sp x.block = true) → DataW.TrodAll enc Try.prog W' 0 sp true ts vs ds ps
  | [], _, _, _, _, h, _, _ => by
    obtain ⟨rfl, rfl, rfl⟩ := trodAll_nil h
    exact trodAll_mk0
  | t :: ts, vs, ds, ps, hr, h, hlt, hsp => by
    obtain ⟨v, vs', d, ds', p, q, rfl, rfl, rfl, h0, h1⟩ := trodAll_cons h
    have hr0 := hr t (by simp)
    refine trodAll_cons_mk ?_ ?_
    · exact WideElems.Trod_stays laidOutLaw hr0.1 hr0.2 h0 (fun x hx => hb.same (hlt x (by simp [hx]))) (fun x hx => hsp x (by simp [hx]))
    · exact trodAll_kept hb (fun t ht => hr t (by simp [ht])) h1 (fun x hx => hlt x (by simp [hx])) (fun x hx => hsp x (by simp [hx]))

set_option maxRecDepth 100000 in
/-- The row's step for a law: true comes back, and nothing that was there has turned. -/
theorem lift_law {H : Type} {enc : TypeId × Value → H} {os : Os} {f : FuncId} {fn : Func} {s : ChangeSpec} (started : os.Started) (noInit : Try.checked.prog.inits.idxOf? f = none) (hfn : Try.checked.prog.funcs[f]? = some fn)
    (witness : ∃ (w : World) (tape : Tape) (i : Input), w.os = os ∧ (w.forCall tape i).Shaped Try.checked.prog ∧ i.vars = [] ∧ Input.okWide Try.checked.prog (w.forCall tape i) .any w.heap.size f i ∧
      s.pre6 enc Try.checked.prog fn [] false (w.forCall tape i).memory i.args ∧ ({} : Assume).holds Try.checked.prog (lone (Frame.enter Try.checked.prog f i.args .normal) [] (w.forCall tape i)))
    (hvars : s.vars = []) (hres : fn.resultTypes = #[4])
    (hread : ∀ t ∈ fn.params.toList, Try.prog.readableRec t = true ∧ t < Try.prog.types.size)
    (hspec : ∀ ds : List (DataW H), ds.length = fn.params.size → s.fn H (ds ++ []) = { results := [.lit (.bool true)], args := ds })
    (hcalls : ∀ (W : World) (args : Array Value) (ds : List (DataW H)) (ps : List MemPlace) (base : Nat), (∀ (j : Nat) t v, fn.params[j]? = some t → args[j]? = some v → Value.okWide Try.prog W .any base t v) → DataW.TrodAll enc Try.prog W 0 (fun _ => true) true fn.params.toList args.toList ds ps →
      (∀ (j : Nat) t d, fn.params.toList[j]? = some t → ds[j]? = some d → Wt t d) → Calls Try.prog f args W fun e W' => e = .returned (.bool true) ∧ Below W.heap.size W W') :
    ReturnsInHanded {} Try.checked os f .any (s.pre6 enc Try.prog fn [] false) (s.post enc Try.prog fn false true false false) := by
  refine returnsInHanded_of_change_sized (C := Try.checked) ownLaw started noInit hfn witness ?_
  intro W base args ds gs before hval hW _ hsz _
  have hW' := hW
  obtain ⟨p, q, hA, hV, rfl, hfz, hnd⟩ := hW
  rw [hvars] at hV
  obtain ⟨rfl, rfl⟩ := trodVars_none hV
  have hA' : DataW.TrodAll enc Try.prog W 0 (fun _ => true) true fn.params.toList args.toList ds p := hA
  have hlen : ds.length = fn.params.size := by
    have h : ∀ {ts : List TypeId} {vs : List Value} {ds : List (DataW H)} {ps : List MemPlace}, DataW.TrodAll enc Try.prog W 0 (fun _ => true) true ts vs ds ps → ds.length = ts.length := by
      intro ts
      induction ts with
      | nil => intro vs ds ps h; obtain ⟨_, rfl, _⟩ := trodAll_nil h; rfl
      | cons t ts ih => intro vs ds ps h; obtain ⟨v, vs', d, ds', p, q, _, rfl, _, _, h1⟩ := trodAll_cons h; simp [ih h1]
    simpa using h hA'
  have hwt : ∀ (j : Nat) t d, fn.params.toList[j]? = some t → ds[j]? = some d → Wt t d := by
    intro j t d hj hd n hn
    have h := List.all_eq_true.1 hsz n (weightsEach_get (j := j) (t := t) (d := d) (by rw [List.getElem?_append_left (lt_of_some hj)]; exact hj) (by rw [List.getElem?_append_left (lt_of_some hd)]; exact hd) n hn)
    exact (decide_eq_true_iff (p := n ≤ reachBytes)).1 h
  refine (hcalls W args ds p base hval hA' hwt).mono fun e W' ⟨he, hb⟩ => ⟨_, he, ?_⟩
  have hlt : ∀ x ∈ p, x.block < W.heap.size := fun x hx => hW'.lt x (by simp [hx])
  have hsp := hspec ds hlen
  refine ⟨ds, [], _, [], p, [], hW', ?_, ?_, ?_, World.keptBut_mono (fun x hx => ⟨hx, ?_⟩) (hb.frame (· ∈ p ++ [])), fun h => by cases h⟩
  · rw [hres, hsp]
    exact trodAll_mk1 (shut_bool Try.underlying4 _)
  · rw [hsp]
    exact trodAll_kept hb hread hA' hlt (fun x hx => by simpa using hlt x hx)
  · rw [hvars, hsp]; rfl
  · simpa using hx

/-- A field of a struct. -/
theorem structAt {H : Type} {enc : TypeId × Value → H} {w : World} {t T off fuel : Nat} {fs : Array Field} {cs : List Value} {x : DataW H × List MemPlace} (ht : Try.prog.underlying t = some (.struct fs)) (h : TrodA enc w fuel t cs x) (hw : Wt t x.1) (j : Nat)
    (hj : (fs[j]?).map (fun f => (f.type, f.offset)) = some (T, off)) : ∃ n y, TrodA enc w n T ((cs.drop off).take (Try.prog.cellsOf T)) y ∧ Wt T y.1 := by
  obtain ⟨xs, n, _, hx, _, hxl, hf⟩ := DataW.trod_struct ht h
  obtain ⟨f, hfj, e⟩ := Option.map_eq_some_iff.1 hj
  injection e with e1 e2
  subst e1 e2
  have hjl : j < xs.length := by rw [hxl]; exact (Array.getElem?_eq_some_iff.1 hfj).1
  have h1 := hf j f hfj
  rw [List.getElem?_eq_getElem hjl] at h1
  refine ⟨n, xs[j], h1, ?_⟩
  rw [hx] at hw
  exact Wt.struct hw ht hfj (by simp [List.getElem?_eq_getElem hjl])
set_option maxRecDepth 100000 in
/-- Arguments are values of their types; their cells are read. -/
theorem argSl {H : Type} {enc : TypeId × Value → H} {w : World} {t e base : Nat} {v : Value} {d : DataW H} {p : List MemPlace} (ht : Try.prog.underlying t = some (.slice e)) (hv : Value.okWide Try.prog w .any base t v) (h : DataW.Trod enc Try.prog w 0 (fun _ => true) true t v d p) :
    ∃ fuel, TrodA enc w fuel t [v] (d, p) := by
  obtain ⟨a, l, c, rfl⟩ := okWide_slice ht hv
  obtain ⟨fuel, h⟩ := h
  have e : (Value.slice a l c).cells.toList = [.slice a l c] := rfl
  rw [e] at h
  exact ⟨fuel, h⟩

set_option maxRecDepth 100000 in
/-- A field of one cell. -/
theorem cellAt {H : Type} {enc : TypeId × Value → H} {w : World} {t T off fuel : Nat} {fs : Array Field} {cs : List Value} {x : DataW H × List MemPlace} (ht : Try.prog.underlying t = some (.struct fs)) (h : TrodA enc w fuel t cs x) (hw : Wt t x.1) (j : Nat)
    (hj : (fs[j]?).map (fun f => (f.type, f.offset)) = some (T, off)) (hT : Try.prog.cellsOf T = 1) {α : Type} {R : Value → α → Prop} (hR : ∀ n cs' y, TrodA enc w n T cs' y → Wt T y.1 → ∃ v a, cs' = [v] ∧ R v a) : ∃ v a, cs[off]? = some v ∧ R v a := by
  obtain ⟨n, y, h1, h2⟩ := structAt ht h hw j hj
  rw [hT] at h1
  obtain ⟨v, a, e, r⟩ := hR n _ y h1 h2
  refine ⟨v, a, ?_, r⟩
  have : ((cs.drop off).take 1)[0]? = some v := by rw [e]; rfl
  simpa [List.getElem?_take, List.getElem?_drop] using this
end Go.Proofs.Ytaefpblpfjhgoaa
