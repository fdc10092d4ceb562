/-
  No cell of these rows narrows 'for every input' (looked for: loops, veiled, ifaces, maps, wideKeys, modest, calm, conditions, laid).
  DERIVED. THE GIVEN ROWS OF THIS SEAT. 12 by the template 'for every input the law returns true; each argument reads behind the call as it read before'; 0 by the template 'total and deterministic' (their statements: YtjlgijdkfihhlaaTotals.lean).
  GIVEN WITH THE SEED: the statements are not yours to turn. If you find one false, say at which input.
  Laid BY PROGRAM, IN A SANDBOX (cutbox-rows.mjs): the forced cells as the released guide's own fill.sh prints them over the translation b521cddca812d970… (all of the seat's roots in one cut). By AI agents, Wed Nov 11 2026. No macro, syntax, notation, axiom, sorry.
-/
import Derived.Test.YtjlgijdkfihhlaaChecked
import GoSem.Claim
import GoSem.ClaimJoined
import GoSem.ClaimMapViews
import Derived.JoinedTies
import Derived.KernelRfl
namespace Go.Proofs.Ytjlgijdkfihhlaa
/- THE CELL 'sum', in the pinned program and in every row, IS THE sha256 OF THE DUMP (.gsa) THAT YtjlgijdkfihhlaaProg.lean LOADS. Nothing in Lean hashes anything: it is a label: what it is worth is what the hold of that sum in a sandbox is worth. -/
noncomputable def Try.pinned : Pinned := { name := "ytjlgijdkfihhlaa", sum := "b521cddca812d970a4dbae3bfbfc26feefd1454e10cd55b590c9c8fe7a60e7fe", checked := Try.checked }
namespace Rows
def none {H : Type} : Left H := { results := [], args := [] }

/-- 'laws.FnExactBarsOf': WHATEVER THE INPUT: true; the input reads as it did. -/
def fnExactBarsOfSpec : ChangeSpec := { name := "fnExactBarsOf", fn := fun _ => fun
  | [d] => { results := [.lit (.bool true)], args := [d] }
  | _ => none }
def fnExactBarsOfRow : OpenClaim := { program := "ytjlgijdkfihhlaa", sum := "b521cddca812d970a4dbae3bfbfc26feefd1454e10cd55b590c9c8fe7a60e7fe", func := "loop.example/g03404/laws.FnExactBarsOf", spec := "fnExactBarsOf", unfollowed := true, recurses := true, apart := false }
def FnExactBarsOfSaid : Prop := fnExactBarsOfRow.holds Try.pinned (OpenSpec.ofChange fnExactBarsOfSpec)

/-- ITS FALSE NEIGHBOUR: 'it returns false'. Refute it at one input. -/
def fnExactBarsOfWrong : ChangeSpec := { name := "fnExactBarsOf", fn := fun _ => fun
  | [d] => { results := [.lit (.bool false)], args := [d] }
  | _ => none }
def FnExactBarsOfWrongFalsely : Prop := fnExactBarsOfRow.holds Try.pinned (OpenSpec.ofChange fnExactBarsOfWrong)

/-- 'laws.FnExactCountComponents': WHATEVER THE INPUT: true; the input reads as it did. -/
def fnExactCountComponentsSpec : ChangeSpec := { name := "fnExactCountComponents", fn := fun _ => fun
  | [d1, d2] => { results := [.lit (.bool true)], args := [d1, d2] }
  | _ => none }
def fnExactCountComponentsRow : OpenClaim := { program := "ytjlgijdkfihhlaa", sum := "b521cddca812d970a4dbae3bfbfc26feefd1454e10cd55b590c9c8fe7a60e7fe", func := "loop.example/g03404/laws.FnExactCountComponents", spec := "fnExactCountComponents", unfollowed := true, recurses := true, apart := false }
def FnExactCountComponentsSaid : Prop := fnExactCountComponentsRow.holds Try.pinned (OpenSpec.ofChange fnExactCountComponentsSpec)

/-- ITS FALSE NEIGHBOUR: 'it returns false'. Refute it at one input. -/
def fnExactCountComponentsWrong : ChangeSpec := { name := "fnExactCountComponents", fn := fun _ => fun
  | [d1, d2] => { results := [.lit (.bool false)], args := [d1, d2] }
  | _ => none }
def FnExactCountComponentsWrongFalsely : Prop := fnExactCountComponentsRow.holds Try.pinned (OpenSpec.ofChange fnExactCountComponentsWrong)

/-- 'laws.FnExactCyclesAt': WHATEVER THE INPUT: true; the input reads as it did. -/
def fnExactCyclesAtSpec : ChangeSpec := { name := "fnExactCyclesAt", fn := fun _ => fun
  | [d1, d2] => { results := [.lit (.bool true)], args := [d1, d2] }
  | _ => none }
def fnExactCyclesAtRow : OpenClaim := { program := "ytjlgijdkfihhlaa", sum := "b521cddca812d970a4dbae3bfbfc26feefd1454e10cd55b590c9c8fe7a60e7fe", func := "loop.example/g03404/laws.FnExactCyclesAt", spec := "fnExactCyclesAt", unfollowed := true, recurses := true, apart := false }
def FnExactCyclesAtSaid : Prop := fnExactCyclesAtRow.holds Try.pinned (OpenSpec.ofChange fnExactCyclesAtSpec)

/-- ITS FALSE NEIGHBOUR: 'it returns false'. Refute it at one input. -/
def fnExactCyclesAtWrong : ChangeSpec := { name := "fnExactCyclesAt", fn := fun _ => fun
  | [d1, d2] => { results := [.lit (.bool false)], args := [d1, d2] }
  | _ => none }
def FnExactCyclesAtWrongFalsely : Prop := fnExactCyclesAtRow.holds Try.pinned (OpenSpec.ofChange fnExactCyclesAtWrong)

/-- 'laws.FnExactElderBars': WHATEVER THE INPUT: true; the input reads as it did. -/
def fnExactElderBarsSpec : ChangeSpec := { name := "fnExactElderBars", fn := fun _ => fun
  | [d] => { results := [.lit (.bool true)], args := [d] }
  | _ => none }
def fnExactElderBarsRow : OpenClaim := { program := "ytjlgijdkfihhlaa", sum := "b521cddca812d970a4dbae3bfbfc26feefd1454e10cd55b590c9c8fe7a60e7fe", func := "loop.example/g03404/laws.FnExactElderBars", spec := "fnExactElderBars", inPlace := ["slices.overlaps[loop.example/g03404/impl.Bar]"], unfollowed := true, recurses := true, apart := false }
def FnExactElderBarsSaid : Prop := fnExactElderBarsRow.holds Try.pinned (OpenSpec.ofChange fnExactElderBarsSpec)

/-- ITS FALSE NEIGHBOUR: 'it returns false'. Refute it at one input. -/
def fnExactElderBarsWrong : ChangeSpec := { name := "fnExactElderBars", fn := fun _ => fun
  | [d] => { results := [.lit (.bool false)], args := [d] }
  | _ => none }
def FnExactElderBarsWrongFalsely : Prop := fnExactElderBarsRow.holds Try.pinned (OpenSpec.ofChange fnExactElderBarsWrong)

/-- 'laws.FnExactCoxeterNumber': WHATEVER THE INPUT: true; the input reads as it did. -/
def fnExactCoxeterNumberSpec : ChangeSpec := { name := "fnExactCoxeterNumber", fn := fun _ => fun
  | [d] => { results := [.lit (.bool true)], args := [d] }
  | _ => none }
def fnExactCoxeterNumberRow : OpenClaim := { program := "ytjlgijdkfihhlaa", sum := "b521cddca812d970a4dbae3bfbfc26feefd1454e10cd55b590c9c8fe7a60e7fe", func := "loop.example/g03404/laws.FnExactCoxeterNumber", spec := "fnExactCoxeterNumber", unfollowed := true, recurses := true, apart := false }
def FnExactCoxeterNumberSaid : Prop := fnExactCoxeterNumberRow.holds Try.pinned (OpenSpec.ofChange fnExactCoxeterNumberSpec)

/-- ITS FALSE NEIGHBOUR: 'it returns false'. Refute it at one input. -/
def fnExactCoxeterNumberWrong : ChangeSpec := { name := "fnExactCoxeterNumber", fn := fun _ => fun
  | [d] => { results := [.lit (.bool false)], args := [d] }
  | _ => none }
def FnExactCoxeterNumberWrongFalsely : Prop := fnExactCoxeterNumberRow.holds Try.pinned (OpenSpec.ofChange fnExactCoxeterNumberWrong)

/-- 'laws.FnExactDefectOf': WHATEVER THE INPUT: true; the input reads as it did. -/
def fnExactDefectOfSpec : ChangeSpec := { name := "fnExactDefectOf", fn := fun _ => fun
  | [d1, d2] => { results := [.lit (.bool true)], args := [d1, d2] }
  | _ => none }
def fnExactDefectOfRow : OpenClaim := { program := "ytjlgijdkfihhlaa", sum := "b521cddca812d970a4dbae3bfbfc26feefd1454e10cd55b590c9c8fe7a60e7fe", func := "loop.example/g03404/laws.FnExactDefectOf", spec := "fnExactDefectOf", unfollowed := true, recurses := true, apart := false }
def FnExactDefectOfSaid : Prop := fnExactDefectOfRow.holds Try.pinned (OpenSpec.ofChange fnExactDefectOfSpec)

/-- ITS FALSE NEIGHBOUR: 'it returns false'. Refute it at one input. -/
def fnExactDefectOfWrong : ChangeSpec := { name := "fnExactDefectOf", fn := fun _ => fun
  | [d1, d2] => { results := [.lit (.bool false)], args := [d1, d2] }
  | _ => none }
def FnExactDefectOfWrongFalsely : Prop := fnExactDefectOfRow.holds Try.pinned (OpenSpec.ofChange fnExactDefectOfWrong)

/-- 'laws.FnExactCountRoots': WHATEVER THE INPUT: true; the input reads as it did. -/
def fnExactCountRootsSpec : ChangeSpec := { name := "fnExactCountRoots", fn := fun _ => fun
  | [d] => { results := [.lit (.bool true)], args := [d] }
  | _ => none }
def fnExactCountRootsRow : OpenClaim := { program := "ytjlgijdkfihhlaa", sum := "b521cddca812d970a4dbae3bfbfc26feefd1454e10cd55b590c9c8fe7a60e7fe", func := "loop.example/g03404/laws.FnExactCountRoots", spec := "fnExactCountRoots", unfollowed := true, recurses := true, apart := false }
def FnExactCountRootsSaid : Prop := fnExactCountRootsRow.holds Try.pinned (OpenSpec.ofChange fnExactCountRootsSpec)

/-- ITS FALSE NEIGHBOUR: 'it returns false'. Refute it at one input. -/
def fnExactCountRootsWrong : ChangeSpec := { name := "fnExactCountRoots", fn := fun _ => fun
  | [d] => { results := [.lit (.bool false)], args := [d] }
  | _ => none }
def FnExactCountRootsWrongFalsely : Prop := fnExactCountRootsRow.holds Try.pinned (OpenSpec.ofChange fnExactCountRootsWrong)

/-- 'laws.FnExactIsRoot': WHATEVER THE INPUT: true; the input reads as it did. -/
def fnExactIsRootSpec : ChangeSpec := { name := "fnExactIsRoot", fn := fun _ => fun
  | [d1, d2] => { results := [.lit (.bool true)], args := [d1, d2] }
  | _ => none }
def fnExactIsRootRow : OpenClaim := { program := "ytjlgijdkfihhlaa", sum := "b521cddca812d970a4dbae3bfbfc26feefd1454e10cd55b590c9c8fe7a60e7fe", func := "loop.example/g03404/laws.FnExactIsRoot", spec := "fnExactIsRoot", unfollowed := true, recurses := true, apart := false }
def FnExactIsRootSaid : Prop := fnExactIsRootRow.holds Try.pinned (OpenSpec.ofChange fnExactIsRootSpec)

/-- ITS FALSE NEIGHBOUR: 'it returns false'. Refute it at one input. -/
def fnExactIsRootWrong : ChangeSpec := { name := "fnExactIsRoot", fn := fun _ => fun
  | [d1, d2] => { results := [.lit (.bool false)], args := [d1, d2] }
  | _ => none }
def FnExactIsRootWrongFalsely : Prop := fnExactIsRootRow.holds Try.pinned (OpenSpec.ofChange fnExactIsRootWrong)

/-- 'laws.FnExactPositiveRoots': WHATEVER THE INPUT: true; the input reads as it did. -/
def fnExactPositiveRootsSpec : ChangeSpec := { name := "fnExactPositiveRoots", fn := fun _ => fun
  | [d] => { results := [.lit (.bool true)], args := [d] }
  | _ => none }
def fnExactPositiveRootsRow : OpenClaim := { program := "ytjlgijdkfihhlaa", sum := "b521cddca812d970a4dbae3bfbfc26feefd1454e10cd55b590c9c8fe7a60e7fe", func := "loop.example/g03404/laws.FnExactPositiveRoots", spec := "fnExactPositiveRoots", unfollowed := true, recurses := true, apart := false }
def FnExactPositiveRootsSaid : Prop := fnExactPositiveRootsRow.holds Try.pinned (OpenSpec.ofChange fnExactPositiveRootsSpec)

/-- ITS FALSE NEIGHBOUR: 'it returns false'. Refute it at one input. -/
def fnExactPositiveRootsWrong : ChangeSpec := { name := "fnExactPositiveRoots", fn := fun _ => fun
  | [d] => { results := [.lit (.bool false)], args := [d] }
  | _ => none }
def FnExactPositiveRootsWrongFalsely : Prop := fnExactPositiveRootsRow.holds Try.pinned (OpenSpec.ofChange fnExactPositiveRootsWrong)

/-- 'laws.FnExactHighestRoot': WHATEVER THE INPUT: true; the input reads as it did. -/
def fnExactHighestRootSpec : ChangeSpec := { name := "fnExactHighestRoot", fn := fun _ => fun
  | [d] => { results := [.lit (.bool true)], args := [d] }
  | _ => none }
def fnExactHighestRootRow : OpenClaim := { program := "ytjlgijdkfihhlaa", sum := "b521cddca812d970a4dbae3bfbfc26feefd1454e10cd55b590c9c8fe7a60e7fe", func := "loop.example/g03404/laws.FnExactHighestRoot", spec := "fnExactHighestRoot", unfollowed := true, recurses := true, apart := false }
def FnExactHighestRootSaid : Prop := fnExactHighestRootRow.holds Try.pinned (OpenSpec.ofChange fnExactHighestRootSpec)

/-- ITS FALSE NEIGHBOUR: 'it returns false'. Refute it at one input. -/
def fnExactHighestRootWrong : ChangeSpec := { name := "fnExactHighestRoot", fn := fun _ => fun
  | [d] => { results := [.lit (.bool false)], args := [d] }
  | _ => none }
def FnExactHighestRootWrongFalsely : Prop := fnExactHighestRootRow.holds Try.pinned (OpenSpec.ofChange fnExactHighestRootWrong)

/-- 'laws.FnExactKnitPlace': WHATEVER THE INPUT: true; the input reads as it did. -/
def fnExactKnitPlaceSpec : ChangeSpec := { name := "fnExactKnitPlace", fn := fun _ => fun
  | [d1, d2] => { results := [.lit (.bool true)], args := [d1, d2] }
  | _ => none }
def fnExactKnitPlaceRow : OpenClaim := { program := "ytjlgijdkfihhlaa", sum := "b521cddca812d970a4dbae3bfbfc26feefd1454e10cd55b590c9c8fe7a60e7fe", func := "loop.example/g03404/laws.FnExactKnitPlace", spec := "fnExactKnitPlace", unfollowed := true, recurses := true, apart := false }
def FnExactKnitPlaceSaid : Prop := fnExactKnitPlaceRow.holds Try.pinned (OpenSpec.ofChange fnExactKnitPlaceSpec)

/-- ITS FALSE NEIGHBOUR: 'it returns false'. Refute it at one input. -/
def fnExactKnitPlaceWrong : ChangeSpec := { name := "fnExactKnitPlace", fn := fun _ => fun
  | [d1, d2] => { results := [.lit (.bool false)], args := [d1, d2] }
  | _ => none }
def FnExactKnitPlaceWrongFalsely : Prop := fnExactKnitPlaceRow.holds Try.pinned (OpenSpec.ofChange fnExactKnitPlaceWrong)

/-- 'laws.FnExactKnitRow': WHATEVER THE INPUT: true; the input reads as it did. -/
def fnExactKnitRowSpec : ChangeSpec := { name := "fnExactKnitRow", fn := fun _ => fun
  | [d1, d2] => { results := [.lit (.bool true)], args := [d1, d2] }
  | _ => none }
def fnExactKnitRowRow : OpenClaim := { program := "ytjlgijdkfihhlaa", sum := "b521cddca812d970a4dbae3bfbfc26feefd1454e10cd55b590c9c8fe7a60e7fe", func := "loop.example/g03404/laws.FnExactKnitRow", spec := "fnExactKnitRow", unfollowed := true, recurses := true, apart := false }
def FnExactKnitRowSaid : Prop := fnExactKnitRowRow.holds Try.pinned (OpenSpec.ofChange fnExactKnitRowSpec)

/-- ITS FALSE NEIGHBOUR: 'it returns false'. Refute it at one input. -/
def fnExactKnitRowWrong : ChangeSpec := { name := "fnExactKnitRow", fn := fun _ => fun
  | [d1, d2] => { results := [.lit (.bool false)], args := [d1, d2] }
  | _ => none }
def FnExactKnitRowWrongFalsely : Prop := fnExactKnitRowRow.holds Try.pinned (OpenSpec.ofChange fnExactKnitRowWrong)

/- THE SECOND FORM. 'bulk': how many values and letters a reading holds, each counted each time it is reached (what is shared counts as often as it is met; a slice's spare places count too). A statement '..UptoSaid' is the law's where the arguments, and the package variables that the reading takes, are together of bulk at most 1048576: NARROWER than '..Said'. Prove '..Said' where nothing that the law and all that it calls make is longer than what came in: it says more and counts as full. Else prove '..UptoSaid'. A law counts once. -/
mutual
def uptoBulk {H : Type} : DataW H → Nat
  | .lit (.string bytes) => bytes.length + 1
  | .lit _ => 1
  | .nil => 1
  | .ptr d => uptoBulk d + 1
  | .slice elems spare => uptoBulkAll elems + uptoBulkAll spare + 1
  | .agg parts => uptoBulkAll parts + 1
  | .iface _ d => uptoBulk d + 1
  | .map entries => uptoBulkEntries entries + 1
  | .held _ => 1
def uptoBulkAll {H : Type} : List (DataW H) → Nat
  | [] => 0
  | d :: r => uptoBulk d + uptoBulkAll r
def uptoBulkEntries {H : Type} : List (Lit × DataW H) → Nat
  | [] => 0
  | x :: r => uptoBulkEntry x + uptoBulkEntries r
def uptoBulkEntry {H : Type} : Lit × DataW H → Nat
  | (.string bytes, d) => bytes.length + uptoBulk d + 1
  | (_, d) => uptoBulk d + 1
 end
def uptoSmall : (H : Type) → List (DataW H) → Bool := fun _ ds => decide (uptoBulkAll ds ≤ 1048576)
def OpenSpec.upto (s : _root_.Go.ChangeSpec) : _root_.Go.OpenSpec := { _root_.Go.OpenSpec.ofChange s with cond := some uptoSmall }

/-- 'laws.FnExactBarsOf', WHERE WHAT IT READS IS OF BULK AT MOST 1048576: true; the input reads as it did. -/
def fnExactBarsOfUptoRow : OpenClaim := { program := "ytjlgijdkfihhlaa", sum := "b521cddca812d970a4dbae3bfbfc26feefd1454e10cd55b590c9c8fe7a60e7fe", func := "loop.example/g03404/laws.FnExactBarsOf", spec := "fnExactBarsOf", unfollowed := true, recurses := true, apart := false, narrowed := true }
def FnExactBarsOfUptoSaid : Prop := fnExactBarsOfUptoRow.holds Try.pinned (OpenSpec.upto fnExactBarsOfSpec)

/-- 'laws.FnExactCountComponents', WHERE WHAT IT READS IS OF BULK AT MOST 1048576: true; the input reads as it did. -/
def fnExactCountComponentsUptoRow : OpenClaim := { program := "ytjlgijdkfihhlaa", sum := "b521cddca812d970a4dbae3bfbfc26feefd1454e10cd55b590c9c8fe7a60e7fe", func := "loop.example/g03404/laws.FnExactCountComponents", spec := "fnExactCountComponents", unfollowed := true, recurses := true, apart := false, narrowed := true }
def FnExactCountComponentsUptoSaid : Prop := fnExactCountComponentsUptoRow.holds Try.pinned (OpenSpec.upto fnExactCountComponentsSpec)

/-- 'laws.FnExactCyclesAt', WHERE WHAT IT READS IS OF BULK AT MOST 1048576: true; the input reads as it did. -/
def fnExactCyclesAtUptoRow : OpenClaim := { program := "ytjlgijdkfihhlaa", sum := "b521cddca812d970a4dbae3bfbfc26feefd1454e10cd55b590c9c8fe7a60e7fe", func := "loop.example/g03404/laws.FnExactCyclesAt", spec := "fnExactCyclesAt", unfollowed := true, recurses := true, apart := false, narrowed := true }
def FnExactCyclesAtUptoSaid : Prop := fnExactCyclesAtUptoRow.holds Try.pinned (OpenSpec.upto fnExactCyclesAtSpec)

/-- 'laws.FnExactElderBars', WHERE WHAT IT READS IS OF BULK AT MOST 1048576: true; the input reads as it did. -/
def fnExactElderBarsUptoRow : OpenClaim := { program := "ytjlgijdkfihhlaa", sum := "b521cddca812d970a4dbae3bfbfc26feefd1454e10cd55b590c9c8fe7a60e7fe", func := "loop.example/g03404/laws.FnExactElderBars", spec := "fnExactElderBars", inPlace := ["slices.overlaps[loop.example/g03404/impl.Bar]"], unfollowed := true, recurses := true, apart := false, narrowed := true }
def FnExactElderBarsUptoSaid : Prop := fnExactElderBarsUptoRow.holds Try.pinned (OpenSpec.upto fnExactElderBarsSpec)

/-- 'laws.FnExactCoxeterNumber', WHERE WHAT IT READS IS OF BULK AT MOST 1048576: true; the input reads as it did. -/
def fnExactCoxeterNumberUptoRow : OpenClaim := { program := "ytjlgijdkfihhlaa", sum := "b521cddca812d970a4dbae3bfbfc26feefd1454e10cd55b590c9c8fe7a60e7fe", func := "loop.example/g03404/laws.FnExactCoxeterNumber", spec := "fnExactCoxeterNumber", unfollowed := true, recurses := true, apart := false, narrowed := true }
def FnExactCoxeterNumberUptoSaid : Prop := fnExactCoxeterNumberUptoRow.holds Try.pinned (OpenSpec.upto fnExactCoxeterNumberSpec)

/-- 'laws.FnExactDefectOf', WHERE WHAT IT READS IS OF BULK AT MOST 1048576: true; the input reads as it did. -/
def fnExactDefectOfUptoRow : OpenClaim := { program := "ytjlgijdkfihhlaa", sum := "b521cddca812d970a4dbae3bfbfc26feefd1454e10cd55b590c9c8fe7a60e7fe", func := "loop.example/g03404/laws.FnExactDefectOf", spec := "fnExactDefectOf", unfollowed := true, recurses := true, apart := false, narrowed := true }
def FnExactDefectOfUptoSaid : Prop := fnExactDefectOfUptoRow.holds Try.pinned (OpenSpec.upto fnExactDefectOfSpec)

/-- 'laws.FnExactCountRoots', WHERE WHAT IT READS IS OF BULK AT MOST 1048576: true; the input reads as it did. -/
def fnExactCountRootsUptoRow : OpenClaim := { program := "ytjlgijdkfihhlaa", sum := "b521cddca812d970a4dbae3bfbfc26feefd1454e10cd55b590c9c8fe7a60e7fe", func := "loop.example/g03404/laws.FnExactCountRoots", spec := "fnExactCountRoots", unfollowed := true, recurses := true, apart := false, narrowed := true }
def FnExactCountRootsUptoSaid : Prop := fnExactCountRootsUptoRow.holds Try.pinned (OpenSpec.upto fnExactCountRootsSpec)

/-- 'laws.FnExactIsRoot', WHERE WHAT IT READS IS OF BULK AT MOST 1048576: true; the input reads as it did. -/
def fnExactIsRootUptoRow : OpenClaim := { program := "ytjlgijdkfihhlaa", sum := "b521cddca812d970a4dbae3bfbfc26feefd1454e10cd55b590c9c8fe7a60e7fe", func := "loop.example/g03404/laws.FnExactIsRoot", spec := "fnExactIsRoot", unfollowed := true, recurses := true, apart := false, narrowed := true }
def FnExactIsRootUptoSaid : Prop := fnExactIsRootUptoRow.holds Try.pinned (OpenSpec.upto fnExactIsRootSpec)

/-- 'laws.FnExactPositiveRoots', WHERE WHAT IT READS IS OF BULK AT MOST 1048576: true; the input reads as it did. -/
def fnExactPositiveRootsUptoRow : OpenClaim := { program := "ytjlgijdkfihhlaa", sum := "b521cddca812d970a4dbae3bfbfc26feefd1454e10cd55b590c9c8fe7a60e7fe", func := "loop.example/g03404/laws.FnExactPositiveRoots", spec := "fnExactPositiveRoots", unfollowed := true, recurses := true, apart := false, narrowed := true }
def FnExactPositiveRootsUptoSaid : Prop := fnExactPositiveRootsUptoRow.holds Try.pinned (OpenSpec.upto fnExactPositiveRootsSpec)

/-- 'laws.FnExactHighestRoot', WHERE WHAT IT READS IS OF BULK AT MOST 1048576: true; the input reads as it did. -/
def fnExactHighestRootUptoRow : OpenClaim := { program := "ytjlgijdkfihhlaa", sum := "b521cddca812d970a4dbae3bfbfc26feefd1454e10cd55b590c9c8fe7a60e7fe", func := "loop.example/g03404/laws.FnExactHighestRoot", spec := "fnExactHighestRoot", unfollowed := true, recurses := true, apart := false, narrowed := true }
def FnExactHighestRootUptoSaid : Prop := fnExactHighestRootUptoRow.holds Try.pinned (OpenSpec.upto fnExactHighestRootSpec)

/-- 'laws.FnExactKnitPlace', WHERE WHAT IT READS IS OF BULK AT MOST 1048576: true; the input reads as it did. -/
def fnExactKnitPlaceUptoRow : OpenClaim := { program := "ytjlgijdkfihhlaa", sum := "b521cddca812d970a4dbae3bfbfc26feefd1454e10cd55b590c9c8fe7a60e7fe", func := "loop.example/g03404/laws.FnExactKnitPlace", spec := "fnExactKnitPlace", unfollowed := true, recurses := true, apart := false, narrowed := true }
def FnExactKnitPlaceUptoSaid : Prop := fnExactKnitPlaceUptoRow.holds Try.pinned (OpenSpec.upto fnExactKnitPlaceSpec)

/-- 'laws.FnExactKnitRow', WHERE WHAT IT READS IS OF BULK AT MOST 1048576: true; the input reads as it did. -/
def fnExactKnitRowUptoRow : OpenClaim := { program := "ytjlgijdkfihhlaa", sum := "b521cddca812d970a4dbae3bfbfc26feefd1454e10cd55b590c9c8fe7a60e7fe", func := "loop.example/g03404/laws.FnExactKnitRow", spec := "fnExactKnitRow", unfollowed := true, recurses := true, apart := false, narrowed := true }
def FnExactKnitRowUptoSaid : Prop := fnExactKnitRowUptoRow.holds Try.pinned (OpenSpec.upto fnExactKnitRowSpec)

end Rows
end Go.Proofs.Ytjlgijdkfihhlaa
