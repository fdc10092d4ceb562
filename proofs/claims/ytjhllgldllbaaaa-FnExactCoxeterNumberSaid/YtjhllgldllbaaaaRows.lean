/-
  No cell of these rows narrows 'for every input' (looked for: loops, veiled, ifaces, maps, wideKeys, modest, calm, conditions, laid).
  DERIVED. THE GIVEN ROWS OF THIS SEAT. 12 by the template 'for every input the law returns true; each argument reads behind the call as it read before'; 0 by the template 'total and deterministic' (their statements: YtjhllgldllbaaaaTotals.lean).
  GIVEN WITH THE SEED: the statements are not yours to turn. If you find one false, say at which input.
  Laid BY PROGRAM, IN A SANDBOX (cutbox-rows.mjs): the forced cells as the released guide's own fill.sh prints them over the translation 7aa157cc7c4f66ff… (all of the seat's roots in one cut). By AI agents, Wed Nov 11 2026. No macro, syntax, notation, axiom, sorry.
-/
import Derived.Test.YtjhllgldllbaaaaChecked
import GoSem.Claim
import GoSem.ClaimJoined
import GoSem.ClaimMapViews
import Derived.JoinedTies
import Derived.KernelRfl
namespace Go.Proofs.Ytjhllgldllbaaaa
/- THE CELL 'sum', in the pinned program and in every row, IS THE sha256 OF THE DUMP (.gsa) THAT YtjhllgldllbaaaaProg.lean LOADS. Nothing in Lean hashes anything: it is a label: what it is worth is what the hold of that sum in a sandbox is worth. -/
noncomputable def Try.pinned : Pinned := { name := "ytjhllgldllbaaaa", sum := "7aa157cc7c4f66ff97efcd04d7b6e050ed039a8155560d393a44eb63ab5d3133", checked := Try.checked }
namespace Rows
def none {H : Type} : Left H := { results := [], args := [] }

/-- 'laws.FnExactZigzagInterval': WHATEVER THE INPUT: true; the input reads as it did. -/
def fnExactZigzagIntervalSpec : ChangeSpec := { name := "fnExactZigzagInterval", fn := fun _ => fun
  | [d1, d2, d3, d4] => { results := [.lit (.bool true)], args := [d1, d2, d3, d4] }
  | _ => none }
def fnExactZigzagIntervalRow : OpenClaim := { program := "ytjhllgldllbaaaa", sum := "7aa157cc7c4f66ff97efcd04d7b6e050ed039a8155560d393a44eb63ab5d3133", func := "loop.example/g03404/laws.FnExactZigzagInterval", spec := "fnExactZigzagInterval", unfollowed := true, recurses := true, apart := false }
def FnExactZigzagIntervalSaid : Prop := fnExactZigzagIntervalRow.holds Try.pinned (OpenSpec.ofChange fnExactZigzagIntervalSpec)

/-- ITS FALSE NEIGHBOUR: 'it returns false'. Refute it at one input. -/
def fnExactZigzagIntervalWrong : ChangeSpec := { name := "fnExactZigzagInterval", fn := fun _ => fun
  | [d1, d2, d3, d4] => { results := [.lit (.bool false)], args := [d1, d2, d3, d4] }
  | _ => none }
def FnExactZigzagIntervalWrongFalsely : Prop := fnExactZigzagIntervalRow.holds Try.pinned (OpenSpec.ofChange fnExactZigzagIntervalWrong)

/-- 'laws.FnExactIntervalRep': WHATEVER THE INPUT: true; the input reads as it did. -/
def fnExactIntervalRepSpec : ChangeSpec := { name := "fnExactIntervalRep", fn := fun _ => fun
  | [d1, d2, d3, d4] => { results := [.lit (.bool true)], args := [d1, d2, d3, d4] }
  | _ => none }
def fnExactIntervalRepRow : OpenClaim := { program := "ytjhllgldllbaaaa", sum := "7aa157cc7c4f66ff97efcd04d7b6e050ed039a8155560d393a44eb63ab5d3133", func := "loop.example/g03404/laws.FnExactIntervalRep", spec := "fnExactIntervalRep", unfollowed := true, recurses := true, apart := false }
def FnExactIntervalRepSaid : Prop := fnExactIntervalRepRow.holds Try.pinned (OpenSpec.ofChange fnExactIntervalRepSpec)

/-- ITS FALSE NEIGHBOUR: 'it returns false'. Refute it at one input. -/
def fnExactIntervalRepWrong : ChangeSpec := { name := "fnExactIntervalRep", fn := fun _ => fun
  | [d1, d2, d3, d4] => { results := [.lit (.bool false)], args := [d1, d2, d3, d4] }
  | _ => none }
def FnExactIntervalRepWrongFalsely : Prop := fnExactIntervalRepRow.holds Try.pinned (OpenSpec.ofChange fnExactIntervalRepWrong)

/-- 'laws.FnExactFormatBars': WHATEVER THE INPUT: true; the input reads as it did. -/
def fnExactFormatBarsSpec : ChangeSpec := { name := "fnExactFormatBars", fn := fun _ => fun
  | [d] => { results := [.lit (.bool true)], args := [d] }
  | _ => none }
def fnExactFormatBarsRow : OpenClaim := { program := "ytjhllgldllbaaaa", sum := "7aa157cc7c4f66ff97efcd04d7b6e050ed039a8155560d393a44eb63ab5d3133", func := "loop.example/g03404/laws.FnExactFormatBars", spec := "fnExactFormatBars", inPlace := ["internal/abi.NoEscape", "internal/bytealg.MakeNoZero"], apart := false }
def FnExactFormatBarsSaid : Prop := fnExactFormatBarsRow.holds Try.pinned (OpenSpec.ofChange fnExactFormatBarsSpec)

/-- ITS FALSE NEIGHBOUR: 'it returns false'. Refute it at one input. -/
def fnExactFormatBarsWrong : ChangeSpec := { name := "fnExactFormatBars", fn := fun _ => fun
  | [d] => { results := [.lit (.bool false)], args := [d] }
  | _ => none }
def FnExactFormatBarsWrongFalsely : Prop := fnExactFormatBarsRow.holds Try.pinned (OpenSpec.ofChange fnExactFormatBarsWrong)

/-- 'laws.FnExactAreBars': WHATEVER THE INPUT: true; the input reads as it did. -/
def fnExactAreBarsSpec : ChangeSpec := { name := "fnExactAreBars", fn := fun _ => fun
  | [d1, d2] => { results := [.lit (.bool true)], args := [d1, d2] }
  | _ => none }
def fnExactAreBarsRow : OpenClaim := { program := "ytjhllgldllbaaaa", sum := "7aa157cc7c4f66ff97efcd04d7b6e050ed039a8155560d393a44eb63ab5d3133", func := "loop.example/g03404/laws.FnExactAreBars", spec := "fnExactAreBars", unfollowed := true, recurses := true, apart := false }
def FnExactAreBarsSaid : Prop := fnExactAreBarsRow.holds Try.pinned (OpenSpec.ofChange fnExactAreBarsSpec)

/-- ITS FALSE NEIGHBOUR: 'it returns false'. Refute it at one input. -/
def fnExactAreBarsWrong : ChangeSpec := { name := "fnExactAreBars", fn := fun _ => fun
  | [d1, d2] => { results := [.lit (.bool false)], args := [d1, d2] }
  | _ => none }
def FnExactAreBarsWrongFalsely : Prop := fnExactAreBarsRow.holds Try.pinned (OpenSpec.ofChange fnExactAreBarsWrong)

/-- 'laws.FnExactIsInjectiveRoot': WHATEVER THE INPUT: true; the input reads as it did. -/
def fnExactIsInjectiveRootSpec : ChangeSpec := { name := "fnExactIsInjectiveRoot", fn := fun _ => fun
  | [d1, d2] => { results := [.lit (.bool true)], args := [d1, d2] }
  | _ => none }
def fnExactIsInjectiveRootRow : OpenClaim := { program := "ytjhllgldllbaaaa", sum := "7aa157cc7c4f66ff97efcd04d7b6e050ed039a8155560d393a44eb63ab5d3133", func := "loop.example/g03404/laws.FnExactIsInjectiveRoot", spec := "fnExactIsInjectiveRoot", unfollowed := true, recurses := true, apart := false }
def FnExactIsInjectiveRootSaid : Prop := fnExactIsInjectiveRootRow.holds Try.pinned (OpenSpec.ofChange fnExactIsInjectiveRootSpec)

/-- ITS FALSE NEIGHBOUR: 'it returns false'. Refute it at one input. -/
def fnExactIsInjectiveRootWrong : ChangeSpec := { name := "fnExactIsInjectiveRoot", fn := fun _ => fun
  | [d1, d2] => { results := [.lit (.bool false)], args := [d1, d2] }
  | _ => none }
def FnExactIsInjectiveRootWrongFalsely : Prop := fnExactIsInjectiveRootRow.holds Try.pinned (OpenSpec.ofChange fnExactIsInjectiveRootWrong)

/-- 'laws.FnExactIsProjectiveRoot': WHATEVER THE INPUT: true; the input reads as it did. -/
def fnExactIsProjectiveRootSpec : ChangeSpec := { name := "fnExactIsProjectiveRoot", fn := fun _ => fun
  | [d1, d2] => { results := [.lit (.bool true)], args := [d1, d2] }
  | _ => none }
def fnExactIsProjectiveRootRow : OpenClaim := { program := "ytjhllgldllbaaaa", sum := "7aa157cc7c4f66ff97efcd04d7b6e050ed039a8155560d393a44eb63ab5d3133", func := "loop.example/g03404/laws.FnExactIsProjectiveRoot", spec := "fnExactIsProjectiveRoot", unfollowed := true, recurses := true, apart := false }
def FnExactIsProjectiveRootSaid : Prop := fnExactIsProjectiveRootRow.holds Try.pinned (OpenSpec.ofChange fnExactIsProjectiveRootSpec)

/-- ITS FALSE NEIGHBOUR: 'it returns false'. Refute it at one input. -/
def fnExactIsProjectiveRootWrong : ChangeSpec := { name := "fnExactIsProjectiveRoot", fn := fun _ => fun
  | [d1, d2] => { results := [.lit (.bool false)], args := [d1, d2] }
  | _ => none }
def FnExactIsProjectiveRootWrongFalsely : Prop := fnExactIsProjectiveRootRow.holds Try.pinned (OpenSpec.ofChange fnExactIsProjectiveRootWrong)

/-- 'laws.FnExactDefectOf': WHATEVER THE INPUT: true; the input reads as it did. -/
def fnExactDefectOfSpec : ChangeSpec := { name := "fnExactDefectOf", fn := fun _ => fun
  | [d1, d2] => { results := [.lit (.bool true)], args := [d1, d2] }
  | _ => none }
def fnExactDefectOfRow : OpenClaim := { program := "ytjhllgldllbaaaa", sum := "7aa157cc7c4f66ff97efcd04d7b6e050ed039a8155560d393a44eb63ab5d3133", func := "loop.example/g03404/laws.FnExactDefectOf", spec := "fnExactDefectOf", unfollowed := true, recurses := true, apart := false }
def FnExactDefectOfSaid : Prop := fnExactDefectOfRow.holds Try.pinned (OpenSpec.ofChange fnExactDefectOfSpec)

/-- ITS FALSE NEIGHBOUR: 'it returns false'. Refute it at one input. -/
def fnExactDefectOfWrong : ChangeSpec := { name := "fnExactDefectOf", fn := fun _ => fun
  | [d1, d2] => { results := [.lit (.bool false)], args := [d1, d2] }
  | _ => none }
def FnExactDefectOfWrongFalsely : Prop := fnExactDefectOfRow.holds Try.pinned (OpenSpec.ofChange fnExactDefectOfWrong)

/-- 'laws.FnExactHasSimpleAtSink': WHATEVER THE INPUT: true; the input reads as it did. -/
def fnExactHasSimpleAtSinkSpec : ChangeSpec := { name := "fnExactHasSimpleAtSink", fn := fun _ => fun
  | [d1, d2] => { results := [.lit (.bool true)], args := [d1, d2] }
  | _ => none }
def fnExactHasSimpleAtSinkRow : OpenClaim := { program := "ytjhllgldllbaaaa", sum := "7aa157cc7c4f66ff97efcd04d7b6e050ed039a8155560d393a44eb63ab5d3133", func := "loop.example/g03404/laws.FnExactHasSimpleAtSink", spec := "fnExactHasSimpleAtSink", unfollowed := true, recurses := true, apart := false }
def FnExactHasSimpleAtSinkSaid : Prop := fnExactHasSimpleAtSinkRow.holds Try.pinned (OpenSpec.ofChange fnExactHasSimpleAtSinkSpec)

/-- ITS FALSE NEIGHBOUR: 'it returns false'. Refute it at one input. -/
def fnExactHasSimpleAtSinkWrong : ChangeSpec := { name := "fnExactHasSimpleAtSink", fn := fun _ => fun
  | [d1, d2] => { results := [.lit (.bool false)], args := [d1, d2] }
  | _ => none }
def FnExactHasSimpleAtSinkWrongFalsely : Prop := fnExactHasSimpleAtSinkRow.holds Try.pinned (OpenSpec.ofChange fnExactHasSimpleAtSinkWrong)

/-- 'laws.FnExactHasSimpleAtSource': WHATEVER THE INPUT: true; the input reads as it did. -/
def fnExactHasSimpleAtSourceSpec : ChangeSpec := { name := "fnExactHasSimpleAtSource", fn := fun _ => fun
  | [d1, d2] => { results := [.lit (.bool true)], args := [d1, d2] }
  | _ => none }
def fnExactHasSimpleAtSourceRow : OpenClaim := { program := "ytjhllgldllbaaaa", sum := "7aa157cc7c4f66ff97efcd04d7b6e050ed039a8155560d393a44eb63ab5d3133", func := "loop.example/g03404/laws.FnExactHasSimpleAtSource", spec := "fnExactHasSimpleAtSource", unfollowed := true, recurses := true, apart := false }
def FnExactHasSimpleAtSourceSaid : Prop := fnExactHasSimpleAtSourceRow.holds Try.pinned (OpenSpec.ofChange fnExactHasSimpleAtSourceSpec)

/-- ITS FALSE NEIGHBOUR: 'it returns false'. Refute it at one input. -/
def fnExactHasSimpleAtSourceWrong : ChangeSpec := { name := "fnExactHasSimpleAtSource", fn := fun _ => fun
  | [d1, d2] => { results := [.lit (.bool false)], args := [d1, d2] }
  | _ => none }
def FnExactHasSimpleAtSourceWrongFalsely : Prop := fnExactHasSimpleAtSourceRow.holds Try.pinned (OpenSpec.ofChange fnExactHasSimpleAtSourceWrong)

/-- 'laws.FnExactCoxeterNumber': WHATEVER THE INPUT: true; the input reads as it did. -/
def fnExactCoxeterNumberSpec : ChangeSpec := { name := "fnExactCoxeterNumber", fn := fun _ => fun
  | [d] => { results := [.lit (.bool true)], args := [d] }
  | _ => none }
def fnExactCoxeterNumberRow : OpenClaim := { program := "ytjhllgldllbaaaa", sum := "7aa157cc7c4f66ff97efcd04d7b6e050ed039a8155560d393a44eb63ab5d3133", func := "loop.example/g03404/laws.FnExactCoxeterNumber", spec := "fnExactCoxeterNumber", unfollowed := true, recurses := true, apart := false }
def FnExactCoxeterNumberSaid : Prop := fnExactCoxeterNumberRow.holds Try.pinned (OpenSpec.ofChange fnExactCoxeterNumberSpec)

/-- ITS FALSE NEIGHBOUR: 'it returns false'. Refute it at one input. -/
def fnExactCoxeterNumberWrong : ChangeSpec := { name := "fnExactCoxeterNumber", fn := fun _ => fun
  | [d] => { results := [.lit (.bool false)], args := [d] }
  | _ => none }
def FnExactCoxeterNumberWrongFalsely : Prop := fnExactCoxeterNumberRow.holds Try.pinned (OpenSpec.ofChange fnExactCoxeterNumberWrong)

/-- 'laws.FnExactPencilRanks': WHATEVER THE INPUT: true; the input reads as it did. -/
def fnExactPencilRanksSpec : ChangeSpec := { name := "fnExactPencilRanks", fn := fun _ => fun
  | [d] => { results := [.lit (.bool true)], args := [d] }
  | _ => none }
def fnExactPencilRanksRow : OpenClaim := { program := "ytjhllgldllbaaaa", sum := "7aa157cc7c4f66ff97efcd04d7b6e050ed039a8155560d393a44eb63ab5d3133", func := "loop.example/g03404/laws.FnExactPencilRanks", spec := "fnExactPencilRanks", unfollowed := true, recurses := true, apart := false }
def FnExactPencilRanksSaid : Prop := fnExactPencilRanksRow.holds Try.pinned (OpenSpec.ofChange fnExactPencilRanksSpec)

/-- ITS FALSE NEIGHBOUR: 'it returns false'. Refute it at one input. -/
def fnExactPencilRanksWrong : ChangeSpec := { name := "fnExactPencilRanks", fn := fun _ => fun
  | [d] => { results := [.lit (.bool false)], args := [d] }
  | _ => none }
def FnExactPencilRanksWrongFalsely : Prop := fnExactPencilRanksRow.holds Try.pinned (OpenSpec.ofChange fnExactPencilRanksWrong)

/-- 'laws.FnExactRankTable': WHATEVER THE INPUT: true; the input reads as it did. -/
def fnExactRankTableSpec : ChangeSpec := { name := "fnExactRankTable", fn := fun _ => fun
  | [d] => { results := [.lit (.bool true)], args := [d] }
  | _ => none }
def fnExactRankTableRow : OpenClaim := { program := "ytjhllgldllbaaaa", sum := "7aa157cc7c4f66ff97efcd04d7b6e050ed039a8155560d393a44eb63ab5d3133", func := "loop.example/g03404/laws.FnExactRankTable", spec := "fnExactRankTable", unfollowed := true, recurses := true, apart := false }
def FnExactRankTableSaid : Prop := fnExactRankTableRow.holds Try.pinned (OpenSpec.ofChange fnExactRankTableSpec)

/-- ITS FALSE NEIGHBOUR: 'it returns false'. Refute it at one input. -/
def fnExactRankTableWrong : ChangeSpec := { name := "fnExactRankTable", fn := fun _ => fun
  | [d] => { results := [.lit (.bool false)], args := [d] }
  | _ => none }
def FnExactRankTableWrongFalsely : Prop := fnExactRankTableRow.holds Try.pinned (OpenSpec.ofChange fnExactRankTableWrong)

/- THE SECOND FORM. 'bulk': how many values and letters a reading holds, each counted each time it is reached (what is shared counts as often as it is met; a slice's spare places count too). A statement '..UptoSaid' is the law's where the arguments, and the package variables that the reading takes, are together of bulk at most 1048576: NARROWER than '..Said'. Prove '..Said' where nothing that the law and all that it calls make is longer than what came in: it says more and counts as full. Else prove '..UptoSaid'. A law counts once. -/
mutual
def uptoBulk {H : Type} : DataW H → Nat
  | .lit (.string bytes) => bytes.length + 1
  | .lit _ => 1
  | .nil => 1
  | .ptr d => uptoBulk d + 1
  | .slice elems spare => uptoBulkAll elems + uptoBulkAll spare + 1
  | .agg parts => uptoBulkAll parts + 1
  | .iface _ d => uptoBulk d + 1
  | .map entries => uptoBulkEntries entries + 1
  | .held _ => 1
def uptoBulkAll {H : Type} : List (DataW H) → Nat
  | [] => 0
  | d :: r => uptoBulk d + uptoBulkAll r
def uptoBulkEntries {H : Type} : List (Lit × DataW H) → Nat
  | [] => 0
  | x :: r => uptoBulkEntry x + uptoBulkEntries r
def uptoBulkEntry {H : Type} : Lit × DataW H → Nat
  | (.string bytes, d) => bytes.length + uptoBulk d + 1
  | (_, d) => uptoBulk d + 1
 end
def uptoSmall : (H : Type) → List (DataW H) → Bool := fun _ ds => decide (uptoBulkAll ds ≤ 1048576)
def OpenSpec.upto (s : _root_.Go.ChangeSpec) : _root_.Go.OpenSpec := { _root_.Go.OpenSpec.ofChange s with cond := some uptoSmall }

/-- 'laws.FnExactZigzagInterval', WHERE WHAT IT READS IS OF BULK AT MOST 1048576: true; the input reads as it did. -/
def fnExactZigzagIntervalUptoRow : OpenClaim := { program := "ytjhllgldllbaaaa", sum := "7aa157cc7c4f66ff97efcd04d7b6e050ed039a8155560d393a44eb63ab5d3133", func := "loop.example/g03404/laws.FnExactZigzagInterval", spec := "fnExactZigzagInterval", unfollowed := true, recurses := true, apart := false, narrowed := true }
def FnExactZigzagIntervalUptoSaid : Prop := fnExactZigzagIntervalUptoRow.holds Try.pinned (OpenSpec.upto fnExactZigzagIntervalSpec)

/-- 'laws.FnExactIntervalRep', WHERE WHAT IT READS IS OF BULK AT MOST 1048576: true; the input reads as it did. -/
def fnExactIntervalRepUptoRow : OpenClaim := { program := "ytjhllgldllbaaaa", sum := "7aa157cc7c4f66ff97efcd04d7b6e050ed039a8155560d393a44eb63ab5d3133", func := "loop.example/g03404/laws.FnExactIntervalRep", spec := "fnExactIntervalRep", unfollowed := true, recurses := true, apart := false, narrowed := true }
def FnExactIntervalRepUptoSaid : Prop := fnExactIntervalRepUptoRow.holds Try.pinned (OpenSpec.upto fnExactIntervalRepSpec)

/-- 'laws.FnExactFormatBars', WHERE WHAT IT READS IS OF BULK AT MOST 1048576: true; the input reads as it did. -/
def fnExactFormatBarsUptoRow : OpenClaim := { program := "ytjhllgldllbaaaa", sum := "7aa157cc7c4f66ff97efcd04d7b6e050ed039a8155560d393a44eb63ab5d3133", func := "loop.example/g03404/laws.FnExactFormatBars", spec := "fnExactFormatBars", inPlace := ["internal/abi.NoEscape", "internal/bytealg.MakeNoZero"], apart := false, narrowed := true }
def FnExactFormatBarsUptoSaid : Prop := fnExactFormatBarsUptoRow.holds Try.pinned (OpenSpec.upto fnExactFormatBarsSpec)

/-- 'laws.FnExactAreBars', WHERE WHAT IT READS IS OF BULK AT MOST 1048576: true; the input reads as it did. -/
def fnExactAreBarsUptoRow : OpenClaim := { program := "ytjhllgldllbaaaa", sum := "7aa157cc7c4f66ff97efcd04d7b6e050ed039a8155560d393a44eb63ab5d3133", func := "loop.example/g03404/laws.FnExactAreBars", spec := "fnExactAreBars", unfollowed := true, recurses := true, apart := false, narrowed := true }
def FnExactAreBarsUptoSaid : Prop := fnExactAreBarsUptoRow.holds Try.pinned (OpenSpec.upto fnExactAreBarsSpec)

/-- 'laws.FnExactIsInjectiveRoot', WHERE WHAT IT READS IS OF BULK AT MOST 1048576: true; the input reads as it did. -/
def fnExactIsInjectiveRootUptoRow : OpenClaim := { program := "ytjhllgldllbaaaa", sum := "7aa157cc7c4f66ff97efcd04d7b6e050ed039a8155560d393a44eb63ab5d3133", func := "loop.example/g03404/laws.FnExactIsInjectiveRoot", spec := "fnExactIsInjectiveRoot", unfollowed := true, recurses := true, apart := false, narrowed := true }
def FnExactIsInjectiveRootUptoSaid : Prop := fnExactIsInjectiveRootUptoRow.holds Try.pinned (OpenSpec.upto fnExactIsInjectiveRootSpec)

/-- 'laws.FnExactIsProjectiveRoot', WHERE WHAT IT READS IS OF BULK AT MOST 1048576: true; the input reads as it did. -/
def fnExactIsProjectiveRootUptoRow : OpenClaim := { program := "ytjhllgldllbaaaa", sum := "7aa157cc7c4f66ff97efcd04d7b6e050ed039a8155560d393a44eb63ab5d3133", func := "loop.example/g03404/laws.FnExactIsProjectiveRoot", spec := "fnExactIsProjectiveRoot", unfollowed := true, recurses := true, apart := false, narrowed := true }
def FnExactIsProjectiveRootUptoSaid : Prop := fnExactIsProjectiveRootUptoRow.holds Try.pinned (OpenSpec.upto fnExactIsProjectiveRootSpec)

/-- 'laws.FnExactDefectOf', WHERE WHAT IT READS IS OF BULK AT MOST 1048576: true; the input reads as it did. -/
def fnExactDefectOfUptoRow : OpenClaim := { program := "ytjhllgldllbaaaa", sum := "7aa157cc7c4f66ff97efcd04d7b6e050ed039a8155560d393a44eb63ab5d3133", func := "loop.example/g03404/laws.FnExactDefectOf", spec := "fnExactDefectOf", unfollowed := true, recurses := true, apart := false, narrowed := true }
def FnExactDefectOfUptoSaid : Prop := fnExactDefectOfUptoRow.holds Try.pinned (OpenSpec.upto fnExactDefectOfSpec)

/-- 'laws.FnExactHasSimpleAtSink', WHERE WHAT IT READS IS OF BULK AT MOST 1048576: true; the input reads as it did. -/
def fnExactHasSimpleAtSinkUptoRow : OpenClaim := { program := "ytjhllgldllbaaaa", sum := "7aa157cc7c4f66ff97efcd04d7b6e050ed039a8155560d393a44eb63ab5d3133", func := "loop.example/g03404/laws.FnExactHasSimpleAtSink", spec := "fnExactHasSimpleAtSink", unfollowed := true, recurses := true, apart := false, narrowed := true }
def FnExactHasSimpleAtSinkUptoSaid : Prop := fnExactHasSimpleAtSinkUptoRow.holds Try.pinned (OpenSpec.upto fnExactHasSimpleAtSinkSpec)

/-- 'laws.FnExactHasSimpleAtSource', WHERE WHAT IT READS IS OF BULK AT MOST 1048576: true; the input reads as it did. -/
def fnExactHasSimpleAtSourceUptoRow : OpenClaim := { program := "ytjhllgldllbaaaa", sum := "7aa157cc7c4f66ff97efcd04d7b6e050ed039a8155560d393a44eb63ab5d3133", func := "loop.example/g03404/laws.FnExactHasSimpleAtSource", spec := "fnExactHasSimpleAtSource", unfollowed := true, recurses := true, apart := false, narrowed := true }
def FnExactHasSimpleAtSourceUptoSaid : Prop := fnExactHasSimpleAtSourceUptoRow.holds Try.pinned (OpenSpec.upto fnExactHasSimpleAtSourceSpec)

/-- 'laws.FnExactCoxeterNumber', WHERE WHAT IT READS IS OF BULK AT MOST 1048576: true; the input reads as it did. -/
def fnExactCoxeterNumberUptoRow : OpenClaim := { program := "ytjhllgldllbaaaa", sum := "7aa157cc7c4f66ff97efcd04d7b6e050ed039a8155560d393a44eb63ab5d3133", func := "loop.example/g03404/laws.FnExactCoxeterNumber", spec := "fnExactCoxeterNumber", unfollowed := true, recurses := true, apart := false, narrowed := true }
def FnExactCoxeterNumberUptoSaid : Prop := fnExactCoxeterNumberUptoRow.holds Try.pinned (OpenSpec.upto fnExactCoxeterNumberSpec)

/-- 'laws.FnExactPencilRanks', WHERE WHAT IT READS IS OF BULK AT MOST 1048576: true; the input reads as it did. -/
def fnExactPencilRanksUptoRow : OpenClaim := { program := "ytjhllgldllbaaaa", sum := "7aa157cc7c4f66ff97efcd04d7b6e050ed039a8155560d393a44eb63ab5d3133", func := "loop.example/g03404/laws.FnExactPencilRanks", spec := "fnExactPencilRanks", unfollowed := true, recurses := true, apart := false, narrowed := true }
def FnExactPencilRanksUptoSaid : Prop := fnExactPencilRanksUptoRow.holds Try.pinned (OpenSpec.upto fnExactPencilRanksSpec)

/-- 'laws.FnExactRankTable', WHERE WHAT IT READS IS OF BULK AT MOST 1048576: true; the input reads as it did. -/
def fnExactRankTableUptoRow : OpenClaim := { program := "ytjhllgldllbaaaa", sum := "7aa157cc7c4f66ff97efcd04d7b6e050ed039a8155560d393a44eb63ab5d3133", func := "loop.example/g03404/laws.FnExactRankTable", spec := "fnExactRankTable", unfollowed := true, recurses := true, apart := false, narrowed := true }
def FnExactRankTableUptoSaid : Prop := fnExactRankTableUptoRow.holds Try.pinned (OpenSpec.upto fnExactRankTableSpec)

end Rows
end Go.Proofs.Ytjhllgldllbaaaa
