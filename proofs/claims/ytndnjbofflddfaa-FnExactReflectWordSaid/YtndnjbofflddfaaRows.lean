/-
  No cell of these rows narrows 'for every input' (looked for: loops, veiled, ifaces, maps, wideKeys, modest, calm, conditions, laid).
  DERIVED. THE GIVEN ROWS OF THIS SEAT. 12 by the template 'for every input the law returns true; each argument reads behind the call as it read before'; 0 by the template 'total and deterministic' (their statements: YtndnjbofflddfaaTotals.lean).
  GIVEN WITH THE SEED: the statements are not yours to turn. If you find one false, say at which input.
  Laid BY PROGRAM, IN A SANDBOX (cutbox-rows.mjs): the forced cells as the released guide's own fill.sh prints them over the translation f6b44250ddfab525… (all of the seat's roots in one cut). By AI agents, Wed Nov 11 2026. No macro, syntax, notation, axiom, sorry.
-/
import Derived.Test.YtndnjbofflddfaaChecked
import GoSem.Claim
import GoSem.ClaimJoined
import GoSem.ClaimMapViews
import Derived.JoinedTies
import Derived.KernelRfl
namespace Go.Proofs.Ytndnjbofflddfaa
/- THE CELL 'sum', in the pinned program and in every row, IS THE sha256 OF THE DUMP (.gsa) THAT YtndnjbofflddfaaProg.lean LOADS. Nothing in Lean hashes anything: it is a label: what it is worth is what the hold of that sum in a sandbox is worth. -/
noncomputable def Try.pinned : Pinned := { name := "ytndnjbofflddfaa", sum := "f6b44250ddfab525e7d048502d39793a9cbd4591ed4ab0295291d1deb78ea6dc", checked := Try.checked }
namespace Rows
def none {H : Type} : Left H := { results := [], args := [] }

/-- 'laws.FnExactEqualBars': WHATEVER THE INPUT: true; the input reads as it did. -/
def fnExactEqualBarsSpec : ChangeSpec := { name := "fnExactEqualBars", fn := fun _ => fun
  | [d1, d2] => { results := [.lit (.bool true)], args := [d1, d2] }
  | _ => none }
def fnExactEqualBarsRow : OpenClaim := { program := "ytndnjbofflddfaa", sum := "f6b44250ddfab525e7d048502d39793a9cbd4591ed4ab0295291d1deb78ea6dc", func := "loop.example/g03404/laws.FnExactEqualBars", spec := "fnExactEqualBars", apart := false }
def FnExactEqualBarsSaid : Prop := fnExactEqualBarsRow.holds Try.pinned (OpenSpec.ofChange fnExactEqualBarsSpec)

/-- ITS FALSE NEIGHBOUR: 'it returns false'. Refute it at one input. -/
def fnExactEqualBarsWrong : ChangeSpec := { name := "fnExactEqualBars", fn := fun _ => fun
  | [d1, d2] => { results := [.lit (.bool false)], args := [d1, d2] }
  | _ => none }
def FnExactEqualBarsWrongFalsely : Prop := fnExactEqualBarsRow.holds Try.pinned (OpenSpec.ofChange fnExactEqualBarsWrong)

/-- 'laws.FnExactLineOf': WHATEVER THE INPUT: true; the input reads as it did. -/
def fnExactLineOfSpec : ChangeSpec := { name := "fnExactLineOf", fn := fun _ => fun
  | [d] => { results := [.lit (.bool true)], args := [d] }
  | _ => none }
def fnExactLineOfRow : OpenClaim := { program := "ytndnjbofflddfaa", sum := "f6b44250ddfab525e7d048502d39793a9cbd4591ed4ab0295291d1deb78ea6dc", func := "loop.example/g03404/laws.FnExactLineOf", spec := "fnExactLineOf", apart := false }
def FnExactLineOfSaid : Prop := fnExactLineOfRow.holds Try.pinned (OpenSpec.ofChange fnExactLineOfSpec)

/-- ITS FALSE NEIGHBOUR: 'it returns false'. Refute it at one input. -/
def fnExactLineOfWrong : ChangeSpec := { name := "fnExactLineOf", fn := fun _ => fun
  | [d] => { results := [.lit (.bool false)], args := [d] }
  | _ => none }
def FnExactLineOfWrongFalsely : Prop := fnExactLineOfRow.holds Try.pinned (OpenSpec.ofChange fnExactLineOfWrong)

/-- 'laws.FnExactIntervalOf': WHATEVER THE INPUT: true; the input reads as it did. -/
def fnExactIntervalOfSpec : ChangeSpec := { name := "fnExactIntervalOf", fn := fun _ => fun
  | [d] => { results := [.lit (.bool true)], args := [d] }
  | _ => none }
def fnExactIntervalOfRow : OpenClaim := { program := "ytndnjbofflddfaa", sum := "f6b44250ddfab525e7d048502d39793a9cbd4591ed4ab0295291d1deb78ea6dc", func := "loop.example/g03404/laws.FnExactIntervalOf", spec := "fnExactIntervalOf", unfollowed := true, recurses := true, apart := false }
def FnExactIntervalOfSaid : Prop := fnExactIntervalOfRow.holds Try.pinned (OpenSpec.ofChange fnExactIntervalOfSpec)

/-- ITS FALSE NEIGHBOUR: 'it returns false'. Refute it at one input. -/
def fnExactIntervalOfWrong : ChangeSpec := { name := "fnExactIntervalOf", fn := fun _ => fun
  | [d] => { results := [.lit (.bool false)], args := [d] }
  | _ => none }
def FnExactIntervalOfWrongFalsely : Prop := fnExactIntervalOfRow.holds Try.pinned (OpenSpec.ofChange fnExactIntervalOfWrong)

/-- 'laws.FnExactIsZigzag': WHATEVER THE INPUT: true; the input reads as it did. -/
def fnExactIsZigzagSpec : ChangeSpec := { name := "fnExactIsZigzag", fn := fun _ => fun
  | [d] => { results := [.lit (.bool true)], args := [d] }
  | _ => none }
def fnExactIsZigzagRow : OpenClaim := { program := "ytndnjbofflddfaa", sum := "f6b44250ddfab525e7d048502d39793a9cbd4591ed4ab0295291d1deb78ea6dc", func := "loop.example/g03404/laws.FnExactIsZigzag", spec := "fnExactIsZigzag", unfollowed := true, recurses := true, apart := false }
def FnExactIsZigzagSaid : Prop := fnExactIsZigzagRow.holds Try.pinned (OpenSpec.ofChange fnExactIsZigzagSpec)

/-- ITS FALSE NEIGHBOUR: 'it returns false'. Refute it at one input. -/
def fnExactIsZigzagWrong : ChangeSpec := { name := "fnExactIsZigzag", fn := fun _ => fun
  | [d] => { results := [.lit (.bool false)], args := [d] }
  | _ => none }
def FnExactIsZigzagWrongFalsely : Prop := fnExactIsZigzagRow.holds Try.pinned (OpenSpec.ofChange fnExactIsZigzagWrong)

/-- 'laws.FnExactIsLine': WHATEVER THE INPUT: true; the input reads as it did. -/
def fnExactIsLineSpec : ChangeSpec := { name := "fnExactIsLine", fn := fun _ => fun
  | [d] => { results := [.lit (.bool true)], args := [d] }
  | _ => none }
def fnExactIsLineRow : OpenClaim := { program := "ytndnjbofflddfaa", sum := "f6b44250ddfab525e7d048502d39793a9cbd4591ed4ab0295291d1deb78ea6dc", func := "loop.example/g03404/laws.FnExactIsLine", spec := "fnExactIsLine", unfollowed := true, recurses := true, apart := false }
def FnExactIsLineSaid : Prop := fnExactIsLineRow.holds Try.pinned (OpenSpec.ofChange fnExactIsLineSpec)

/-- ITS FALSE NEIGHBOUR: 'it returns false'. Refute it at one input. -/
def fnExactIsLineWrong : ChangeSpec := { name := "fnExactIsLine", fn := fun _ => fun
  | [d] => { results := [.lit (.bool false)], args := [d] }
  | _ => none }
def FnExactIsLineWrongFalsely : Prop := fnExactIsLineRow.holds Try.pinned (OpenSpec.ofChange fnExactIsLineWrong)

/-- 'laws.FnExactDirectionsOf': WHATEVER THE INPUT: true; the input reads as it did. -/
def fnExactDirectionsOfSpec : ChangeSpec := { name := "fnExactDirectionsOf", fn := fun _ => fun
  | [d] => { results := [.lit (.bool true)], args := [d] }
  | _ => none }
def fnExactDirectionsOfRow : OpenClaim := { program := "ytndnjbofflddfaa", sum := "f6b44250ddfab525e7d048502d39793a9cbd4591ed4ab0295291d1deb78ea6dc", func := "loop.example/g03404/laws.FnExactDirectionsOf", spec := "fnExactDirectionsOf", unfollowed := true, recurses := true, apart := false }
def FnExactDirectionsOfSaid : Prop := fnExactDirectionsOfRow.holds Try.pinned (OpenSpec.ofChange fnExactDirectionsOfSpec)

/-- ITS FALSE NEIGHBOUR: 'it returns false'. Refute it at one input. -/
def fnExactDirectionsOfWrong : ChangeSpec := { name := "fnExactDirectionsOf", fn := fun _ => fun
  | [d] => { results := [.lit (.bool false)], args := [d] }
  | _ => none }
def FnExactDirectionsOfWrongFalsely : Prop := fnExactDirectionsOfRow.holds Try.pinned (OpenSpec.ofChange fnExactDirectionsOfWrong)

/-- 'laws.FnExactIsFiltration': WHATEVER THE INPUT: true; the input reads as it did. -/
def fnExactIsFiltrationSpec : ChangeSpec := { name := "fnExactIsFiltration", fn := fun _ => fun
  | [d] => { results := [.lit (.bool true)], args := [d] }
  | _ => none }
def fnExactIsFiltrationRow : OpenClaim := { program := "ytndnjbofflddfaa", sum := "f6b44250ddfab525e7d048502d39793a9cbd4591ed4ab0295291d1deb78ea6dc", func := "loop.example/g03404/laws.FnExactIsFiltration", spec := "fnExactIsFiltration", unfollowed := true, recurses := true, apart := false }
def FnExactIsFiltrationSaid : Prop := fnExactIsFiltrationRow.holds Try.pinned (OpenSpec.ofChange fnExactIsFiltrationSpec)

/-- ITS FALSE NEIGHBOUR: 'it returns false'. Refute it at one input. -/
def fnExactIsFiltrationWrong : ChangeSpec := { name := "fnExactIsFiltration", fn := fun _ => fun
  | [d] => { results := [.lit (.bool false)], args := [d] }
  | _ => none }
def FnExactIsFiltrationWrongFalsely : Prop := fnExactIsFiltrationRow.holds Try.pinned (OpenSpec.ofChange fnExactIsFiltrationWrong)

/-- 'laws.FnExactFormatBars': WHATEVER THE INPUT: true; the input reads as it did. -/
def fnExactFormatBarsSpec : ChangeSpec := { name := "fnExactFormatBars", fn := fun _ => fun
  | [d] => { results := [.lit (.bool true)], args := [d] }
  | _ => none }
def fnExactFormatBarsRow : OpenClaim := { program := "ytndnjbofflddfaa", sum := "f6b44250ddfab525e7d048502d39793a9cbd4591ed4ab0295291d1deb78ea6dc", func := "loop.example/g03404/laws.FnExactFormatBars", spec := "fnExactFormatBars", inPlace := ["internal/abi.NoEscape", "internal/bytealg.MakeNoZero"], apart := false }
def FnExactFormatBarsSaid : Prop := fnExactFormatBarsRow.holds Try.pinned (OpenSpec.ofChange fnExactFormatBarsSpec)

/-- ITS FALSE NEIGHBOUR: 'it returns false'. Refute it at one input. -/
def fnExactFormatBarsWrong : ChangeSpec := { name := "fnExactFormatBars", fn := fun _ => fun
  | [d] => { results := [.lit (.bool false)], args := [d] }
  | _ => none }
def FnExactFormatBarsWrongFalsely : Prop := fnExactFormatBarsRow.holds Try.pinned (OpenSpec.ofChange fnExactFormatBarsWrong)

/-- 'laws.FnExactCoxeterOrder': WHATEVER THE INPUT: true; the input reads as it did. -/
def fnExactCoxeterOrderSpec : ChangeSpec := { name := "fnExactCoxeterOrder", fn := fun _ => fun
  | [d] => { results := [.lit (.bool true)], args := [d] }
  | _ => none }
def fnExactCoxeterOrderRow : OpenClaim := { program := "ytndnjbofflddfaa", sum := "f6b44250ddfab525e7d048502d39793a9cbd4591ed4ab0295291d1deb78ea6dc", func := "loop.example/g03404/laws.FnExactCoxeterOrder", spec := "fnExactCoxeterOrder", unfollowed := true, recurses := true, apart := false }
def FnExactCoxeterOrderSaid : Prop := fnExactCoxeterOrderRow.holds Try.pinned (OpenSpec.ofChange fnExactCoxeterOrderSpec)

/-- ITS FALSE NEIGHBOUR: 'it returns false'. Refute it at one input. -/
def fnExactCoxeterOrderWrong : ChangeSpec := { name := "fnExactCoxeterOrder", fn := fun _ => fun
  | [d] => { results := [.lit (.bool false)], args := [d] }
  | _ => none }
def FnExactCoxeterOrderWrongFalsely : Prop := fnExactCoxeterOrderRow.holds Try.pinned (OpenSpec.ofChange fnExactCoxeterOrderWrong)

/-- 'laws.FnExactReflectDims': WHATEVER THE INPUT: true; the input reads as it did. -/
def fnExactReflectDimsSpec : ChangeSpec := { name := "fnExactReflectDims", fn := fun _ => fun
  | [d1, d2, d3] => { results := [.lit (.bool true)], args := [d1, d2, d3] }
  | _ => none }
def fnExactReflectDimsRow : OpenClaim := { program := "ytndnjbofflddfaa", sum := "f6b44250ddfab525e7d048502d39793a9cbd4591ed4ab0295291d1deb78ea6dc", func := "loop.example/g03404/laws.FnExactReflectDims", spec := "fnExactReflectDims", unfollowed := true, recurses := true, apart := false }
def FnExactReflectDimsSaid : Prop := fnExactReflectDimsRow.holds Try.pinned (OpenSpec.ofChange fnExactReflectDimsSpec)

/-- ITS FALSE NEIGHBOUR: 'it returns false'. Refute it at one input. -/
def fnExactReflectDimsWrong : ChangeSpec := { name := "fnExactReflectDims", fn := fun _ => fun
  | [d1, d2, d3] => { results := [.lit (.bool false)], args := [d1, d2, d3] }
  | _ => none }
def FnExactReflectDimsWrongFalsely : Prop := fnExactReflectDimsRow.holds Try.pinned (OpenSpec.ofChange fnExactReflectDimsWrong)

/-- 'laws.FnExactComponentsAt': WHATEVER THE INPUT: true; the input reads as it did. -/
def fnExactComponentsAtSpec : ChangeSpec := { name := "fnExactComponentsAt", fn := fun _ => fun
  | [d1, d2] => { results := [.lit (.bool true)], args := [d1, d2] }
  | _ => none }
def fnExactComponentsAtRow : OpenClaim := { program := "ytndnjbofflddfaa", sum := "f6b44250ddfab525e7d048502d39793a9cbd4591ed4ab0295291d1deb78ea6dc", func := "loop.example/g03404/laws.FnExactComponentsAt", spec := "fnExactComponentsAt", unfollowed := true, recurses := true, apart := false }
def FnExactComponentsAtSaid : Prop := fnExactComponentsAtRow.holds Try.pinned (OpenSpec.ofChange fnExactComponentsAtSpec)

/-- ITS FALSE NEIGHBOUR: 'it returns false'. Refute it at one input. -/
def fnExactComponentsAtWrong : ChangeSpec := { name := "fnExactComponentsAt", fn := fun _ => fun
  | [d1, d2] => { results := [.lit (.bool false)], args := [d1, d2] }
  | _ => none }
def FnExactComponentsAtWrongFalsely : Prop := fnExactComponentsAtRow.holds Try.pinned (OpenSpec.ofChange fnExactComponentsAtWrong)

/-- 'laws.FnExactReflectWord': WHATEVER THE INPUT: true; the input reads as it did. -/
def fnExactReflectWordSpec : ChangeSpec := { name := "fnExactReflectWord", fn := fun _ => fun
  | [d1, d2, d3] => { results := [.lit (.bool true)], args := [d1, d2, d3] }
  | _ => none }
def fnExactReflectWordRow : OpenClaim := { program := "ytndnjbofflddfaa", sum := "f6b44250ddfab525e7d048502d39793a9cbd4591ed4ab0295291d1deb78ea6dc", func := "loop.example/g03404/laws.FnExactReflectWord", spec := "fnExactReflectWord", unfollowed := true, recurses := true, apart := false }
def FnExactReflectWordSaid : Prop := fnExactReflectWordRow.holds Try.pinned (OpenSpec.ofChange fnExactReflectWordSpec)

/-- ITS FALSE NEIGHBOUR: 'it returns false'. Refute it at one input. -/
def fnExactReflectWordWrong : ChangeSpec := { name := "fnExactReflectWord", fn := fun _ => fun
  | [d1, d2, d3] => { results := [.lit (.bool false)], args := [d1, d2, d3] }
  | _ => none }
def FnExactReflectWordWrongFalsely : Prop := fnExactReflectWordRow.holds Try.pinned (OpenSpec.ofChange fnExactReflectWordWrong)

/- THE SECOND FORM. 'bulk': how many values and letters a reading holds, each counted each time it is reached (what is shared counts as often as it is met; a slice's spare places count too). A statement '..UptoSaid' is the law's where the arguments, and the package variables that the reading takes, are together of bulk at most 1048576: NARROWER than '..Said'. Prove '..Said' where nothing that the law and all that it calls make is longer than what came in: it says more and counts as full. Else prove '..UptoSaid'. A law counts once. -/
mutual
def uptoBulk {H : Type} : DataW H → Nat
  | .lit (.string bytes) => bytes.length + 1
  | .lit _ => 1
  | .nil => 1
  | .ptr d => uptoBulk d + 1
  | .slice elems spare => uptoBulkAll elems + uptoBulkAll spare + 1
  | .agg parts => uptoBulkAll parts + 1
  | .iface _ d => uptoBulk d + 1
  | .map entries => uptoBulkEntries entries + 1
  | .held _ => 1
def uptoBulkAll {H : Type} : List (DataW H) → Nat
  | [] => 0
  | d :: r => uptoBulk d + uptoBulkAll r
def uptoBulkEntries {H : Type} : List (Lit × DataW H) → Nat
  | [] => 0
  | x :: r => uptoBulkEntry x + uptoBulkEntries r
def uptoBulkEntry {H : Type} : Lit × DataW H → Nat
  | (.string bytes, d) => bytes.length + uptoBulk d + 1
  | (_, d) => uptoBulk d + 1
 end
def uptoSmall : (H : Type) → List (DataW H) → Bool := fun _ ds => decide (uptoBulkAll ds ≤ 1048576)
def OpenSpec.upto (s : _root_.Go.ChangeSpec) : _root_.Go.OpenSpec := { _root_.Go.OpenSpec.ofChange s with cond := some uptoSmall }

/-- 'laws.FnExactEqualBars', WHERE WHAT IT READS IS OF BULK AT MOST 1048576: true; the input reads as it did. -/
def fnExactEqualBarsUptoRow : OpenClaim := { program := "ytndnjbofflddfaa", sum := "f6b44250ddfab525e7d048502d39793a9cbd4591ed4ab0295291d1deb78ea6dc", func := "loop.example/g03404/laws.FnExactEqualBars", spec := "fnExactEqualBars", apart := false, narrowed := true }
def FnExactEqualBarsUptoSaid : Prop := fnExactEqualBarsUptoRow.holds Try.pinned (OpenSpec.upto fnExactEqualBarsSpec)

/-- 'laws.FnExactLineOf', WHERE WHAT IT READS IS OF BULK AT MOST 1048576: true; the input reads as it did. -/
def fnExactLineOfUptoRow : OpenClaim := { program := "ytndnjbofflddfaa", sum := "f6b44250ddfab525e7d048502d39793a9cbd4591ed4ab0295291d1deb78ea6dc", func := "loop.example/g03404/laws.FnExactLineOf", spec := "fnExactLineOf", apart := false, narrowed := true }
def FnExactLineOfUptoSaid : Prop := fnExactLineOfUptoRow.holds Try.pinned (OpenSpec.upto fnExactLineOfSpec)

/-- 'laws.FnExactIntervalOf', WHERE WHAT IT READS IS OF BULK AT MOST 1048576: true; the input reads as it did. -/
def fnExactIntervalOfUptoRow : OpenClaim := { program := "ytndnjbofflddfaa", sum := "f6b44250ddfab525e7d048502d39793a9cbd4591ed4ab0295291d1deb78ea6dc", func := "loop.example/g03404/laws.FnExactIntervalOf", spec := "fnExactIntervalOf", unfollowed := true, recurses := true, apart := false, narrowed := true }
def FnExactIntervalOfUptoSaid : Prop := fnExactIntervalOfUptoRow.holds Try.pinned (OpenSpec.upto fnExactIntervalOfSpec)

/-- 'laws.FnExactIsZigzag', WHERE WHAT IT READS IS OF BULK AT MOST 1048576: true; the input reads as it did. -/
def fnExactIsZigzagUptoRow : OpenClaim := { program := "ytndnjbofflddfaa", sum := "f6b44250ddfab525e7d048502d39793a9cbd4591ed4ab0295291d1deb78ea6dc", func := "loop.example/g03404/laws.FnExactIsZigzag", spec := "fnExactIsZigzag", unfollowed := true, recurses := true, apart := false, narrowed := true }
def FnExactIsZigzagUptoSaid : Prop := fnExactIsZigzagUptoRow.holds Try.pinned (OpenSpec.upto fnExactIsZigzagSpec)

/-- 'laws.FnExactIsLine', WHERE WHAT IT READS IS OF BULK AT MOST 1048576: true; the input reads as it did. -/
def fnExactIsLineUptoRow : OpenClaim := { program := "ytndnjbofflddfaa", sum := "f6b44250ddfab525e7d048502d39793a9cbd4591ed4ab0295291d1deb78ea6dc", func := "loop.example/g03404/laws.FnExactIsLine", spec := "fnExactIsLine", unfollowed := true, recurses := true, apart := false, narrowed := true }
def FnExactIsLineUptoSaid : Prop := fnExactIsLineUptoRow.holds Try.pinned (OpenSpec.upto fnExactIsLineSpec)

/-- 'laws.FnExactDirectionsOf', WHERE WHAT IT READS IS OF BULK AT MOST 1048576: true; the input reads as it did. -/
def fnExactDirectionsOfUptoRow : OpenClaim := { program := "ytndnjbofflddfaa", sum := "f6b44250ddfab525e7d048502d39793a9cbd4591ed4ab0295291d1deb78ea6dc", func := "loop.example/g03404/laws.FnExactDirectionsOf", spec := "fnExactDirectionsOf", unfollowed := true, recurses := true, apart := false, narrowed := true }
def FnExactDirectionsOfUptoSaid : Prop := fnExactDirectionsOfUptoRow.holds Try.pinned (OpenSpec.upto fnExactDirectionsOfSpec)

/-- 'laws.FnExactIsFiltration', WHERE WHAT IT READS IS OF BULK AT MOST 1048576: true; the input reads as it did. -/
def fnExactIsFiltrationUptoRow : OpenClaim := { program := "ytndnjbofflddfaa", sum := "f6b44250ddfab525e7d048502d39793a9cbd4591ed4ab0295291d1deb78ea6dc", func := "loop.example/g03404/laws.FnExactIsFiltration", spec := "fnExactIsFiltration", unfollowed := true, recurses := true, apart := false, narrowed := true }
def FnExactIsFiltrationUptoSaid : Prop := fnExactIsFiltrationUptoRow.holds Try.pinned (OpenSpec.upto fnExactIsFiltrationSpec)

/-- 'laws.FnExactFormatBars', WHERE WHAT IT READS IS OF BULK AT MOST 1048576: true; the input reads as it did. -/
def fnExactFormatBarsUptoRow : OpenClaim := { program := "ytndnjbofflddfaa", sum := "f6b44250ddfab525e7d048502d39793a9cbd4591ed4ab0295291d1deb78ea6dc", func := "loop.example/g03404/laws.FnExactFormatBars", spec := "fnExactFormatBars", inPlace := ["internal/abi.NoEscape", "internal/bytealg.MakeNoZero"], apart := false, narrowed := true }
def FnExactFormatBarsUptoSaid : Prop := fnExactFormatBarsUptoRow.holds Try.pinned (OpenSpec.upto fnExactFormatBarsSpec)

/-- 'laws.FnExactCoxeterOrder', WHERE WHAT IT READS IS OF BULK AT MOST 1048576: true; the input reads as it did. -/
def fnExactCoxeterOrderUptoRow : OpenClaim := { program := "ytndnjbofflddfaa", sum := "f6b44250ddfab525e7d048502d39793a9cbd4591ed4ab0295291d1deb78ea6dc", func := "loop.example/g03404/laws.FnExactCoxeterOrder", spec := "fnExactCoxeterOrder", unfollowed := true, recurses := true, apart := false, narrowed := true }
def FnExactCoxeterOrderUptoSaid : Prop := fnExactCoxeterOrderUptoRow.holds Try.pinned (OpenSpec.upto fnExactCoxeterOrderSpec)

/-- 'laws.FnExactReflectDims', WHERE WHAT IT READS IS OF BULK AT MOST 1048576: true; the input reads as it did. -/
def fnExactReflectDimsUptoRow : OpenClaim := { program := "ytndnjbofflddfaa", sum := "f6b44250ddfab525e7d048502d39793a9cbd4591ed4ab0295291d1deb78ea6dc", func := "loop.example/g03404/laws.FnExactReflectDims", spec := "fnExactReflectDims", unfollowed := true, recurses := true, apart := false, narrowed := true }
def FnExactReflectDimsUptoSaid : Prop := fnExactReflectDimsUptoRow.holds Try.pinned (OpenSpec.upto fnExactReflectDimsSpec)

/-- 'laws.FnExactComponentsAt', WHERE WHAT IT READS IS OF BULK AT MOST 1048576: true; the input reads as it did. -/
def fnExactComponentsAtUptoRow : OpenClaim := { program := "ytndnjbofflddfaa", sum := "f6b44250ddfab525e7d048502d39793a9cbd4591ed4ab0295291d1deb78ea6dc", func := "loop.example/g03404/laws.FnExactComponentsAt", spec := "fnExactComponentsAt", unfollowed := true, recurses := true, apart := false, narrowed := true }
def FnExactComponentsAtUptoSaid : Prop := fnExactComponentsAtUptoRow.holds Try.pinned (OpenSpec.upto fnExactComponentsAtSpec)

/-- 'laws.FnExactReflectWord', WHERE WHAT IT READS IS OF BULK AT MOST 1048576: true; the input reads as it did. -/
def fnExactReflectWordUptoRow : OpenClaim := { program := "ytndnjbofflddfaa", sum := "f6b44250ddfab525e7d048502d39793a9cbd4591ed4ab0295291d1deb78ea6dc", func := "loop.example/g03404/laws.FnExactReflectWord", spec := "fnExactReflectWord", unfollowed := true, recurses := true, apart := false, narrowed := true }
def FnExactReflectWordUptoSaid : Prop := fnExactReflectWordUptoRow.holds Try.pinned (OpenSpec.upto fnExactReflectWordSpec)

end Rows
end Go.Proofs.Ytndnjbofflddfaa
