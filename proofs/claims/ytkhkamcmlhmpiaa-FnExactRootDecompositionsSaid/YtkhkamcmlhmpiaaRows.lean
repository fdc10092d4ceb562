/-
  No cell of these rows narrows 'for every input' (looked for: loops, veiled, ifaces, maps, wideKeys, modest, calm, conditions, laid).
  DERIVED. THE GIVEN ROWS OF THIS SEAT. 12 by the template 'for every input the law returns true; each argument reads behind the call as it read before'; 0 by the template 'total and deterministic' (their statements: YtkhkamcmlhmpiaaTotals.lean).
  GIVEN WITH THE SEED: the statements are not yours to turn. If you find one false, say at which input.
  Laid BY PROGRAM, IN A SANDBOX (cutbox-rows.mjs): the forced cells as the released guide's own fill.sh prints them over the translation b44481532b402ebc… (all of the seat's roots in one cut). By AI agents, Wed Nov 11 2026. No macro, syntax, notation, axiom, sorry.
-/
import Derived.Test.YtkhkamcmlhmpiaaChecked
import GoSem.Claim
import GoSem.ClaimJoined
import GoSem.ClaimMapViews
import Derived.JoinedTies
import Derived.KernelRfl
namespace Go.Proofs.Ytkhkamcmlhmpiaa
/- THE CELL 'sum', in the pinned program and in every row, IS THE sha256 OF THE DUMP (.gsa) THAT YtkhkamcmlhmpiaaProg.lean LOADS. Nothing in Lean hashes anything: it is a label: what it is worth is what the hold of that sum in a sandbox is worth. -/
noncomputable def Try.pinned : Pinned := { name := "ytkhkamcmlhmpiaa", sum := "b44481532b402ebcb2ab5d1269bd13f1d1cbb9ca13e5676c09541e2807d91d13", checked := Try.checked }
namespace Rows
def none {H : Type} : Left H := { results := [], args := [] }

/-- 'laws.FnExactDefectOf': WHATEVER THE INPUT: true; the input reads as it did. -/
def fnExactDefectOfSpec : ChangeSpec := { name := "fnExactDefectOf", fn := fun _ => fun
  | [d1, d2] => { results := [.lit (.bool true)], args := [d1, d2] }
  | _ => none }
def fnExactDefectOfRow : OpenClaim := { program := "ytkhkamcmlhmpiaa", sum := "b44481532b402ebcb2ab5d1269bd13f1d1cbb9ca13e5676c09541e2807d91d13", func := "loop.example/g03404/laws.FnExactDefectOf", spec := "fnExactDefectOf", unfollowed := true, recurses := true, apart := false }
def FnExactDefectOfSaid : Prop := fnExactDefectOfRow.holds Try.pinned (OpenSpec.ofChange fnExactDefectOfSpec)

/-- ITS FALSE NEIGHBOUR: 'it returns false'. Refute it at one input. -/
def fnExactDefectOfWrong : ChangeSpec := { name := "fnExactDefectOf", fn := fun _ => fun
  | [d1, d2] => { results := [.lit (.bool false)], args := [d1, d2] }
  | _ => none }
def FnExactDefectOfWrongFalsely : Prop := fnExactDefectOfRow.holds Try.pinned (OpenSpec.ofChange fnExactDefectOfWrong)

/-- 'laws.FnExactCountRoots': WHATEVER THE INPUT: true; the input reads as it did. -/
def fnExactCountRootsSpec : ChangeSpec := { name := "fnExactCountRoots", fn := fun _ => fun
  | [d] => { results := [.lit (.bool true)], args := [d] }
  | _ => none }
def fnExactCountRootsRow : OpenClaim := { program := "ytkhkamcmlhmpiaa", sum := "b44481532b402ebcb2ab5d1269bd13f1d1cbb9ca13e5676c09541e2807d91d13", func := "loop.example/g03404/laws.FnExactCountRoots", spec := "fnExactCountRoots", unfollowed := true, recurses := true, apart := false }
def FnExactCountRootsSaid : Prop := fnExactCountRootsRow.holds Try.pinned (OpenSpec.ofChange fnExactCountRootsSpec)

/-- ITS FALSE NEIGHBOUR: 'it returns false'. Refute it at one input. -/
def fnExactCountRootsWrong : ChangeSpec := { name := "fnExactCountRoots", fn := fun _ => fun
  | [d] => { results := [.lit (.bool false)], args := [d] }
  | _ => none }
def FnExactCountRootsWrongFalsely : Prop := fnExactCountRootsRow.holds Try.pinned (OpenSpec.ofChange fnExactCountRootsWrong)

/-- 'laws.FnExactIsRoot': WHATEVER THE INPUT: true; the input reads as it did. -/
def fnExactIsRootSpec : ChangeSpec := { name := "fnExactIsRoot", fn := fun _ => fun
  | [d1, d2] => { results := [.lit (.bool true)], args := [d1, d2] }
  | _ => none }
def fnExactIsRootRow : OpenClaim := { program := "ytkhkamcmlhmpiaa", sum := "b44481532b402ebcb2ab5d1269bd13f1d1cbb9ca13e5676c09541e2807d91d13", func := "loop.example/g03404/laws.FnExactIsRoot", spec := "fnExactIsRoot", unfollowed := true, recurses := true, apart := false }
def FnExactIsRootSaid : Prop := fnExactIsRootRow.holds Try.pinned (OpenSpec.ofChange fnExactIsRootSpec)

/-- ITS FALSE NEIGHBOUR: 'it returns false'. Refute it at one input. -/
def fnExactIsRootWrong : ChangeSpec := { name := "fnExactIsRoot", fn := fun _ => fun
  | [d1, d2] => { results := [.lit (.bool false)], args := [d1, d2] }
  | _ => none }
def FnExactIsRootWrongFalsely : Prop := fnExactIsRootRow.holds Try.pinned (OpenSpec.ofChange fnExactIsRootWrong)

/-- 'laws.FnExactPositiveRoots': WHATEVER THE INPUT: true; the input reads as it did. -/
def fnExactPositiveRootsSpec : ChangeSpec := { name := "fnExactPositiveRoots", fn := fun _ => fun
  | [d] => { results := [.lit (.bool true)], args := [d] }
  | _ => none }
def fnExactPositiveRootsRow : OpenClaim := { program := "ytkhkamcmlhmpiaa", sum := "b44481532b402ebcb2ab5d1269bd13f1d1cbb9ca13e5676c09541e2807d91d13", func := "loop.example/g03404/laws.FnExactPositiveRoots", spec := "fnExactPositiveRoots", unfollowed := true, recurses := true, apart := false }
def FnExactPositiveRootsSaid : Prop := fnExactPositiveRootsRow.holds Try.pinned (OpenSpec.ofChange fnExactPositiveRootsSpec)

/-- ITS FALSE NEIGHBOUR: 'it returns false'. Refute it at one input. -/
def fnExactPositiveRootsWrong : ChangeSpec := { name := "fnExactPositiveRoots", fn := fun _ => fun
  | [d] => { results := [.lit (.bool false)], args := [d] }
  | _ => none }
def FnExactPositiveRootsWrongFalsely : Prop := fnExactPositiveRootsRow.holds Try.pinned (OpenSpec.ofChange fnExactPositiveRootsWrong)

/-- 'laws.FnExactHighestRoot': WHATEVER THE INPUT: true; the input reads as it did. -/
def fnExactHighestRootSpec : ChangeSpec := { name := "fnExactHighestRoot", fn := fun _ => fun
  | [d] => { results := [.lit (.bool true)], args := [d] }
  | _ => none }
def fnExactHighestRootRow : OpenClaim := { program := "ytkhkamcmlhmpiaa", sum := "b44481532b402ebcb2ab5d1269bd13f1d1cbb9ca13e5676c09541e2807d91d13", func := "loop.example/g03404/laws.FnExactHighestRoot", spec := "fnExactHighestRoot", unfollowed := true, recurses := true, apart := false }
def FnExactHighestRootSaid : Prop := fnExactHighestRootRow.holds Try.pinned (OpenSpec.ofChange fnExactHighestRootSpec)

/-- ITS FALSE NEIGHBOUR: 'it returns false'. Refute it at one input. -/
def fnExactHighestRootWrong : ChangeSpec := { name := "fnExactHighestRoot", fn := fun _ => fun
  | [d] => { results := [.lit (.bool false)], args := [d] }
  | _ => none }
def FnExactHighestRootWrongFalsely : Prop := fnExactHighestRootRow.holds Try.pinned (OpenSpec.ofChange fnExactHighestRootWrong)

/-- 'laws.FnExactCountRootDecompositions': WHATEVER THE INPUT: true; the input reads as it did. -/
def fnExactCountRootDecompositionsSpec : ChangeSpec := { name := "fnExactCountRootDecompositions", fn := fun _ => fun
  | [d1, d2] => { results := [.lit (.bool true)], args := [d1, d2] }
  | _ => none }
def fnExactCountRootDecompositionsRow : OpenClaim := { program := "ytkhkamcmlhmpiaa", sum := "b44481532b402ebcb2ab5d1269bd13f1d1cbb9ca13e5676c09541e2807d91d13", func := "loop.example/g03404/laws.FnExactCountRootDecompositions", spec := "fnExactCountRootDecompositions", unfollowed := true, recurses := true, apart := false }
def FnExactCountRootDecompositionsSaid : Prop := fnExactCountRootDecompositionsRow.holds Try.pinned (OpenSpec.ofChange fnExactCountRootDecompositionsSpec)

/-- ITS FALSE NEIGHBOUR: 'it returns false'. Refute it at one input. -/
def fnExactCountRootDecompositionsWrong : ChangeSpec := { name := "fnExactCountRootDecompositions", fn := fun _ => fun
  | [d1, d2] => { results := [.lit (.bool false)], args := [d1, d2] }
  | _ => none }
def FnExactCountRootDecompositionsWrongFalsely : Prop := fnExactCountRootDecompositionsRow.holds Try.pinned (OpenSpec.ofChange fnExactCountRootDecompositionsWrong)

/-- 'laws.FnExactRootDecompositions': WHATEVER THE INPUT: true; the input reads as it did. -/
def fnExactRootDecompositionsSpec : ChangeSpec := { name := "fnExactRootDecompositions", fn := fun _ => fun
  | [d1, d2] => { results := [.lit (.bool true)], args := [d1, d2] }
  | _ => none }
def fnExactRootDecompositionsRow : OpenClaim := { program := "ytkhkamcmlhmpiaa", sum := "b44481532b402ebcb2ab5d1269bd13f1d1cbb9ca13e5676c09541e2807d91d13", func := "loop.example/g03404/laws.FnExactRootDecompositions", spec := "fnExactRootDecompositions", unfollowed := true, recurses := true, apart := false }
def FnExactRootDecompositionsSaid : Prop := fnExactRootDecompositionsRow.holds Try.pinned (OpenSpec.ofChange fnExactRootDecompositionsSpec)

/-- ITS FALSE NEIGHBOUR: 'it returns false'. Refute it at one input. -/
def fnExactRootDecompositionsWrong : ChangeSpec := { name := "fnExactRootDecompositions", fn := fun _ => fun
  | [d1, d2] => { results := [.lit (.bool false)], args := [d1, d2] }
  | _ => none }
def FnExactRootDecompositionsWrongFalsely : Prop := fnExactRootDecompositionsRow.holds Try.pinned (OpenSpec.ofChange fnExactRootDecompositionsWrong)

/-- 'laws.FnExactIsInjectiveRoot': WHATEVER THE INPUT: true; the input reads as it did. -/
def fnExactIsInjectiveRootSpec : ChangeSpec := { name := "fnExactIsInjectiveRoot", fn := fun _ => fun
  | [d1, d2] => { results := [.lit (.bool true)], args := [d1, d2] }
  | _ => none }
def fnExactIsInjectiveRootRow : OpenClaim := { program := "ytkhkamcmlhmpiaa", sum := "b44481532b402ebcb2ab5d1269bd13f1d1cbb9ca13e5676c09541e2807d91d13", func := "loop.example/g03404/laws.FnExactIsInjectiveRoot", spec := "fnExactIsInjectiveRoot", unfollowed := true, recurses := true, apart := false }
def FnExactIsInjectiveRootSaid : Prop := fnExactIsInjectiveRootRow.holds Try.pinned (OpenSpec.ofChange fnExactIsInjectiveRootSpec)

/-- ITS FALSE NEIGHBOUR: 'it returns false'. Refute it at one input. -/
def fnExactIsInjectiveRootWrong : ChangeSpec := { name := "fnExactIsInjectiveRoot", fn := fun _ => fun
  | [d1, d2] => { results := [.lit (.bool false)], args := [d1, d2] }
  | _ => none }
def FnExactIsInjectiveRootWrongFalsely : Prop := fnExactIsInjectiveRootRow.holds Try.pinned (OpenSpec.ofChange fnExactIsInjectiveRootWrong)

/-- 'laws.FnExactIsProjectiveRoot': WHATEVER THE INPUT: true; the input reads as it did. -/
def fnExactIsProjectiveRootSpec : ChangeSpec := { name := "fnExactIsProjectiveRoot", fn := fun _ => fun
  | [d1, d2] => { results := [.lit (.bool true)], args := [d1, d2] }
  | _ => none }
def fnExactIsProjectiveRootRow : OpenClaim := { program := "ytkhkamcmlhmpiaa", sum := "b44481532b402ebcb2ab5d1269bd13f1d1cbb9ca13e5676c09541e2807d91d13", func := "loop.example/g03404/laws.FnExactIsProjectiveRoot", spec := "fnExactIsProjectiveRoot", unfollowed := true, recurses := true, apart := false }
def FnExactIsProjectiveRootSaid : Prop := fnExactIsProjectiveRootRow.holds Try.pinned (OpenSpec.ofChange fnExactIsProjectiveRootSpec)

/-- ITS FALSE NEIGHBOUR: 'it returns false'. Refute it at one input. -/
def fnExactIsProjectiveRootWrong : ChangeSpec := { name := "fnExactIsProjectiveRoot", fn := fun _ => fun
  | [d1, d2] => { results := [.lit (.bool false)], args := [d1, d2] }
  | _ => none }
def FnExactIsProjectiveRootWrongFalsely : Prop := fnExactIsProjectiveRootRow.holds Try.pinned (OpenSpec.ofChange fnExactIsProjectiveRootWrong)

/-- 'laws.FnExactKnitPlace': WHATEVER THE INPUT: true; the input reads as it did. -/
def fnExactKnitPlaceSpec : ChangeSpec := { name := "fnExactKnitPlace", fn := fun _ => fun
  | [d1, d2] => { results := [.lit (.bool true)], args := [d1, d2] }
  | _ => none }
def fnExactKnitPlaceRow : OpenClaim := { program := "ytkhkamcmlhmpiaa", sum := "b44481532b402ebcb2ab5d1269bd13f1d1cbb9ca13e5676c09541e2807d91d13", func := "loop.example/g03404/laws.FnExactKnitPlace", spec := "fnExactKnitPlace", unfollowed := true, recurses := true, apart := false }
def FnExactKnitPlaceSaid : Prop := fnExactKnitPlaceRow.holds Try.pinned (OpenSpec.ofChange fnExactKnitPlaceSpec)

/-- ITS FALSE NEIGHBOUR: 'it returns false'. Refute it at one input. -/
def fnExactKnitPlaceWrong : ChangeSpec := { name := "fnExactKnitPlace", fn := fun _ => fun
  | [d1, d2] => { results := [.lit (.bool false)], args := [d1, d2] }
  | _ => none }
def FnExactKnitPlaceWrongFalsely : Prop := fnExactKnitPlaceRow.holds Try.pinned (OpenSpec.ofChange fnExactKnitPlaceWrong)

/-- 'laws.FnExactKnitRow': WHATEVER THE INPUT: true; the input reads as it did. -/
def fnExactKnitRowSpec : ChangeSpec := { name := "fnExactKnitRow", fn := fun _ => fun
  | [d1, d2] => { results := [.lit (.bool true)], args := [d1, d2] }
  | _ => none }
def fnExactKnitRowRow : OpenClaim := { program := "ytkhkamcmlhmpiaa", sum := "b44481532b402ebcb2ab5d1269bd13f1d1cbb9ca13e5676c09541e2807d91d13", func := "loop.example/g03404/laws.FnExactKnitRow", spec := "fnExactKnitRow", unfollowed := true, recurses := true, apart := false }
def FnExactKnitRowSaid : Prop := fnExactKnitRowRow.holds Try.pinned (OpenSpec.ofChange fnExactKnitRowSpec)

/-- ITS FALSE NEIGHBOUR: 'it returns false'. Refute it at one input. -/
def fnExactKnitRowWrong : ChangeSpec := { name := "fnExactKnitRow", fn := fun _ => fun
  | [d1, d2] => { results := [.lit (.bool false)], args := [d1, d2] }
  | _ => none }
def FnExactKnitRowWrongFalsely : Prop := fnExactKnitRowRow.holds Try.pinned (OpenSpec.ofChange fnExactKnitRowWrong)

/-- 'laws.FnExactElderBars': WHATEVER THE INPUT: true; the input reads as it did. -/
def fnExactElderBarsSpec : ChangeSpec := { name := "fnExactElderBars", fn := fun _ => fun
  | [d] => { results := [.lit (.bool true)], args := [d] }
  | _ => none }
def fnExactElderBarsRow : OpenClaim := { program := "ytkhkamcmlhmpiaa", sum := "b44481532b402ebcb2ab5d1269bd13f1d1cbb9ca13e5676c09541e2807d91d13", func := "loop.example/g03404/laws.FnExactElderBars", spec := "fnExactElderBars", inPlace := ["slices.overlaps[loop.example/g03404/impl.Bar]"], unfollowed := true, recurses := true, apart := false }
def FnExactElderBarsSaid : Prop := fnExactElderBarsRow.holds Try.pinned (OpenSpec.ofChange fnExactElderBarsSpec)

/-- ITS FALSE NEIGHBOUR: 'it returns false'. Refute it at one input. -/
def fnExactElderBarsWrong : ChangeSpec := { name := "fnExactElderBars", fn := fun _ => fun
  | [d] => { results := [.lit (.bool false)], args := [d] }
  | _ => none }
def FnExactElderBarsWrongFalsely : Prop := fnExactElderBarsRow.holds Try.pinned (OpenSpec.ofChange fnExactElderBarsWrong)

/- THE SECOND FORM. 'bulk': how many values and letters a reading holds, each counted each time it is reached (what is shared counts as often as it is met; a slice's spare places count too). A statement '..UptoSaid' is the law's where the arguments, and the package variables that the reading takes, are together of bulk at most 1048576: NARROWER than '..Said'. Prove '..Said' where nothing that the law and all that it calls make is longer than what came in: it says more and counts as full. Else prove '..UptoSaid'. A law counts once. -/
mutual
def uptoBulk {H : Type} : DataW H → Nat
  | .lit (.string bytes) => bytes.length + 1
  | .lit _ => 1
  | .nil => 1
  | .ptr d => uptoBulk d + 1
  | .slice elems spare => uptoBulkAll elems + uptoBulkAll spare + 1
  | .agg parts => uptoBulkAll parts + 1
  | .iface _ d => uptoBulk d + 1
  | .map entries => uptoBulkEntries entries + 1
  | .held _ => 1
def uptoBulkAll {H : Type} : List (DataW H) → Nat
  | [] => 0
  | d :: r => uptoBulk d + uptoBulkAll r
def uptoBulkEntries {H : Type} : List (Lit × DataW H) → Nat
  | [] => 0
  | x :: r => uptoBulkEntry x + uptoBulkEntries r
def uptoBulkEntry {H : Type} : Lit × DataW H → Nat
  | (.string bytes, d) => bytes.length + uptoBulk d + 1
  | (_, d) => uptoBulk d + 1
 end
def uptoSmall : (H : Type) → List (DataW H) → Bool := fun _ ds => decide (uptoBulkAll ds ≤ 1048576)
def OpenSpec.upto (s : _root_.Go.ChangeSpec) : _root_.Go.OpenSpec := { _root_.Go.OpenSpec.ofChange s with cond := some uptoSmall }

/-- 'laws.FnExactDefectOf', WHERE WHAT IT READS IS OF BULK AT MOST 1048576: true; the input reads as it did. -/
def fnExactDefectOfUptoRow : OpenClaim := { program := "ytkhkamcmlhmpiaa", sum := "b44481532b402ebcb2ab5d1269bd13f1d1cbb9ca13e5676c09541e2807d91d13", func := "loop.example/g03404/laws.FnExactDefectOf", spec := "fnExactDefectOf", unfollowed := true, recurses := true, apart := false, narrowed := true }
def FnExactDefectOfUptoSaid : Prop := fnExactDefectOfUptoRow.holds Try.pinned (OpenSpec.upto fnExactDefectOfSpec)

/-- 'laws.FnExactCountRoots', WHERE WHAT IT READS IS OF BULK AT MOST 1048576: true; the input reads as it did. -/
def fnExactCountRootsUptoRow : OpenClaim := { program := "ytkhkamcmlhmpiaa", sum := "b44481532b402ebcb2ab5d1269bd13f1d1cbb9ca13e5676c09541e2807d91d13", func := "loop.example/g03404/laws.FnExactCountRoots", spec := "fnExactCountRoots", unfollowed := true, recurses := true, apart := false, narrowed := true }
def FnExactCountRootsUptoSaid : Prop := fnExactCountRootsUptoRow.holds Try.pinned (OpenSpec.upto fnExactCountRootsSpec)

/-- 'laws.FnExactIsRoot', WHERE WHAT IT READS IS OF BULK AT MOST 1048576: true; the input reads as it did. -/
def fnExactIsRootUptoRow : OpenClaim := { program := "ytkhkamcmlhmpiaa", sum := "b44481532b402ebcb2ab5d1269bd13f1d1cbb9ca13e5676c09541e2807d91d13", func := "loop.example/g03404/laws.FnExactIsRoot", spec := "fnExactIsRoot", unfollowed := true, recurses := true, apart := false, narrowed := true }
def FnExactIsRootUptoSaid : Prop := fnExactIsRootUptoRow.holds Try.pinned (OpenSpec.upto fnExactIsRootSpec)

/-- 'laws.FnExactPositiveRoots', WHERE WHAT IT READS IS OF BULK AT MOST 1048576: true; the input reads as it did. -/
def fnExactPositiveRootsUptoRow : OpenClaim := { program := "ytkhkamcmlhmpiaa", sum := "b44481532b402ebcb2ab5d1269bd13f1d1cbb9ca13e5676c09541e2807d91d13", func := "loop.example/g03404/laws.FnExactPositiveRoots", spec := "fnExactPositiveRoots", unfollowed := true, recurses := true, apart := false, narrowed := true }
def FnExactPositiveRootsUptoSaid : Prop := fnExactPositiveRootsUptoRow.holds Try.pinned (OpenSpec.upto fnExactPositiveRootsSpec)

/-- 'laws.FnExactHighestRoot', WHERE WHAT IT READS IS OF BULK AT MOST 1048576: true; the input reads as it did. -/
def fnExactHighestRootUptoRow : OpenClaim := { program := "ytkhkamcmlhmpiaa", sum := "b44481532b402ebcb2ab5d1269bd13f1d1cbb9ca13e5676c09541e2807d91d13", func := "loop.example/g03404/laws.FnExactHighestRoot", spec := "fnExactHighestRoot", unfollowed := true, recurses := true, apart := false, narrowed := true }
def FnExactHighestRootUptoSaid : Prop := fnExactHighestRootUptoRow.holds Try.pinned (OpenSpec.upto fnExactHighestRootSpec)

/-- 'laws.FnExactCountRootDecompositions', WHERE WHAT IT READS IS OF BULK AT MOST 1048576: true; the input reads as it did. -/
def fnExactCountRootDecompositionsUptoRow : OpenClaim := { program := "ytkhkamcmlhmpiaa", sum := "b44481532b402ebcb2ab5d1269bd13f1d1cbb9ca13e5676c09541e2807d91d13", func := "loop.example/g03404/laws.FnExactCountRootDecompositions", spec := "fnExactCountRootDecompositions", unfollowed := true, recurses := true, apart := false, narrowed := true }
def FnExactCountRootDecompositionsUptoSaid : Prop := fnExactCountRootDecompositionsUptoRow.holds Try.pinned (OpenSpec.upto fnExactCountRootDecompositionsSpec)

/-- 'laws.FnExactRootDecompositions', WHERE WHAT IT READS IS OF BULK AT MOST 1048576: true; the input reads as it did. -/
def fnExactRootDecompositionsUptoRow : OpenClaim := { program := "ytkhkamcmlhmpiaa", sum := "b44481532b402ebcb2ab5d1269bd13f1d1cbb9ca13e5676c09541e2807d91d13", func := "loop.example/g03404/laws.FnExactRootDecompositions", spec := "fnExactRootDecompositions", unfollowed := true, recurses := true, apart := false, narrowed := true }
def FnExactRootDecompositionsUptoSaid : Prop := fnExactRootDecompositionsUptoRow.holds Try.pinned (OpenSpec.upto fnExactRootDecompositionsSpec)

/-- 'laws.FnExactIsInjectiveRoot', WHERE WHAT IT READS IS OF BULK AT MOST 1048576: true; the input reads as it did. -/
def fnExactIsInjectiveRootUptoRow : OpenClaim := { program := "ytkhkamcmlhmpiaa", sum := "b44481532b402ebcb2ab5d1269bd13f1d1cbb9ca13e5676c09541e2807d91d13", func := "loop.example/g03404/laws.FnExactIsInjectiveRoot", spec := "fnExactIsInjectiveRoot", unfollowed := true, recurses := true, apart := false, narrowed := true }
def FnExactIsInjectiveRootUptoSaid : Prop := fnExactIsInjectiveRootUptoRow.holds Try.pinned (OpenSpec.upto fnExactIsInjectiveRootSpec)

/-- 'laws.FnExactIsProjectiveRoot', WHERE WHAT IT READS IS OF BULK AT MOST 1048576: true; the input reads as it did. -/
def fnExactIsProjectiveRootUptoRow : OpenClaim := { program := "ytkhkamcmlhmpiaa", sum := "b44481532b402ebcb2ab5d1269bd13f1d1cbb9ca13e5676c09541e2807d91d13", func := "loop.example/g03404/laws.FnExactIsProjectiveRoot", spec := "fnExactIsProjectiveRoot", unfollowed := true, recurses := true, apart := false, narrowed := true }
def FnExactIsProjectiveRootUptoSaid : Prop := fnExactIsProjectiveRootUptoRow.holds Try.pinned (OpenSpec.upto fnExactIsProjectiveRootSpec)

/-- 'laws.FnExactKnitPlace', WHERE WHAT IT READS IS OF BULK AT MOST 1048576: true; the input reads as it did. -/
def fnExactKnitPlaceUptoRow : OpenClaim := { program := "ytkhkamcmlhmpiaa", sum := "b44481532b402ebcb2ab5d1269bd13f1d1cbb9ca13e5676c09541e2807d91d13", func := "loop.example/g03404/laws.FnExactKnitPlace", spec := "fnExactKnitPlace", unfollowed := true, recurses := true, apart := false, narrowed := true }
def FnExactKnitPlaceUptoSaid : Prop := fnExactKnitPlaceUptoRow.holds Try.pinned (OpenSpec.upto fnExactKnitPlaceSpec)

/-- 'laws.FnExactKnitRow', WHERE WHAT IT READS IS OF BULK AT MOST 1048576: true; the input reads as it did. -/
def fnExactKnitRowUptoRow : OpenClaim := { program := "ytkhkamcmlhmpiaa", sum := "b44481532b402ebcb2ab5d1269bd13f1d1cbb9ca13e5676c09541e2807d91d13", func := "loop.example/g03404/laws.FnExactKnitRow", spec := "fnExactKnitRow", unfollowed := true, recurses := true, apart := false, narrowed := true }
def FnExactKnitRowUptoSaid : Prop := fnExactKnitRowUptoRow.holds Try.pinned (OpenSpec.upto fnExactKnitRowSpec)

/-- 'laws.FnExactElderBars', WHERE WHAT IT READS IS OF BULK AT MOST 1048576: true; the input reads as it did. -/
def fnExactElderBarsUptoRow : OpenClaim := { program := "ytkhkamcmlhmpiaa", sum := "b44481532b402ebcb2ab5d1269bd13f1d1cbb9ca13e5676c09541e2807d91d13", func := "loop.example/g03404/laws.FnExactElderBars", spec := "fnExactElderBars", inPlace := ["slices.overlaps[loop.example/g03404/impl.Bar]"], unfollowed := true, recurses := true, apart := false, narrowed := true }
def FnExactElderBarsUptoSaid : Prop := fnExactElderBarsUptoRow.holds Try.pinned (OpenSpec.upto fnExactElderBarsSpec)

end Rows
end Go.Proofs.Ytkhkamcmlhmpiaa
