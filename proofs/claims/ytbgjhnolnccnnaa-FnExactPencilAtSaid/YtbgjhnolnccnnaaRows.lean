/-
  No cell of these rows narrows 'for every input' (looked for: loops, veiled, ifaces, maps, wideKeys, modest, calm, conditions, laid).
  DERIVED. THE GIVEN ROWS OF THIS SEAT. 12 by the template 'for every input the law returns true; each argument reads behind the call as it read before'; 0 by the template 'total and deterministic' (their statements: YtbgjhnolnccnnaaTotals.lean).
  GIVEN WITH THE SEED: the statements are not yours to turn. If you find one false, say at which input.
  Laid BY PROGRAM, IN A SANDBOX (cutbox-rows.mjs): the forced cells as the released guide's own fill.sh prints them over the translation 25425f04e29049fc… (all of the seat's roots in one cut). By AI agents, Wed Nov 11 2026. No macro, syntax, notation, axiom, sorry.
-/
import Derived.Test.YtbgjhnolnccnnaaChecked
import GoSem.Claim
import GoSem.ClaimJoined
import GoSem.ClaimMapViews
import Derived.JoinedTies
import Derived.KernelRfl
namespace Go.Proofs.Ytbgjhnolnccnnaa
/- THE CELL 'sum', in the pinned program and in every row, IS THE sha256 OF THE DUMP (.gsa) THAT YtbgjhnolnccnnaaProg.lean LOADS. Nothing in Lean hashes anything: it is a label: what it is worth is what the hold of that sum in a sandbox is worth. -/
noncomputable def Try.pinned : Pinned := { name := "ytbgjhnolnccnnaa", sum := "25425f04e29049fc1a047b98aa4604846d9a1e1f03e455ade1ecda99d6cb5afa", checked := Try.checked }
namespace Rows
def none {H : Type} : Left H := { results := [], args := [] }

/-- 'laws.FnExactFormatBars': WHATEVER THE INPUT: true; the input reads as it did. -/
def fnExactFormatBarsSpec : ChangeSpec := { name := "fnExactFormatBars", fn := fun _ => fun
  | [d] => { results := [.lit (.bool true)], args := [d] }
  | _ => none }
def fnExactFormatBarsRow : OpenClaim := { program := "ytbgjhnolnccnnaa", sum := "25425f04e29049fc1a047b98aa4604846d9a1e1f03e455ade1ecda99d6cb5afa", func := "loop.example/g03404/laws.FnExactFormatBars", spec := "fnExactFormatBars", inPlace := ["internal/abi.NoEscape", "internal/bytealg.MakeNoZero"], apart := false }
def FnExactFormatBarsSaid : Prop := fnExactFormatBarsRow.holds Try.pinned (OpenSpec.ofChange fnExactFormatBarsSpec)

/-- ITS FALSE NEIGHBOUR: 'it returns false'. Refute it at one input. -/
def fnExactFormatBarsWrong : ChangeSpec := { name := "fnExactFormatBars", fn := fun _ => fun
  | [d] => { results := [.lit (.bool false)], args := [d] }
  | _ => none }
def FnExactFormatBarsWrongFalsely : Prop := fnExactFormatBarsRow.holds Try.pinned (OpenSpec.ofChange fnExactFormatBarsWrong)

/-- 'laws.FnExactAreBars': WHATEVER THE INPUT: true; the input reads as it did. -/
def fnExactAreBarsSpec : ChangeSpec := { name := "fnExactAreBars", fn := fun _ => fun
  | [d1, d2] => { results := [.lit (.bool true)], args := [d1, d2] }
  | _ => none }
def fnExactAreBarsRow : OpenClaim := { program := "ytbgjhnolnccnnaa", sum := "25425f04e29049fc1a047b98aa4604846d9a1e1f03e455ade1ecda99d6cb5afa", func := "loop.example/g03404/laws.FnExactAreBars", spec := "fnExactAreBars", unfollowed := true, recurses := true, apart := false }
def FnExactAreBarsSaid : Prop := fnExactAreBarsRow.holds Try.pinned (OpenSpec.ofChange fnExactAreBarsSpec)

/-- ITS FALSE NEIGHBOUR: 'it returns false'. Refute it at one input. -/
def fnExactAreBarsWrong : ChangeSpec := { name := "fnExactAreBars", fn := fun _ => fun
  | [d1, d2] => { results := [.lit (.bool false)], args := [d1, d2] }
  | _ => none }
def FnExactAreBarsWrongFalsely : Prop := fnExactAreBarsRow.holds Try.pinned (OpenSpec.ofChange fnExactAreBarsWrong)

/-- 'laws.FnExactZigzagInterval': WHATEVER THE INPUT: true; the input reads as it did. -/
def fnExactZigzagIntervalSpec : ChangeSpec := { name := "fnExactZigzagInterval", fn := fun _ => fun
  | [d1, d2, d3, d4] => { results := [.lit (.bool true)], args := [d1, d2, d3, d4] }
  | _ => none }
def fnExactZigzagIntervalRow : OpenClaim := { program := "ytbgjhnolnccnnaa", sum := "25425f04e29049fc1a047b98aa4604846d9a1e1f03e455ade1ecda99d6cb5afa", func := "loop.example/g03404/laws.FnExactZigzagInterval", spec := "fnExactZigzagInterval", unfollowed := true, recurses := true, apart := false }
def FnExactZigzagIntervalSaid : Prop := fnExactZigzagIntervalRow.holds Try.pinned (OpenSpec.ofChange fnExactZigzagIntervalSpec)

/-- ITS FALSE NEIGHBOUR: 'it returns false'. Refute it at one input. -/
def fnExactZigzagIntervalWrong : ChangeSpec := { name := "fnExactZigzagInterval", fn := fun _ => fun
  | [d1, d2, d3, d4] => { results := [.lit (.bool false)], args := [d1, d2, d3, d4] }
  | _ => none }
def FnExactZigzagIntervalWrongFalsely : Prop := fnExactZigzagIntervalRow.holds Try.pinned (OpenSpec.ofChange fnExactZigzagIntervalWrong)

/-- 'laws.FnExactIntervalRep': WHATEVER THE INPUT: true; the input reads as it did. -/
def fnExactIntervalRepSpec : ChangeSpec := { name := "fnExactIntervalRep", fn := fun _ => fun
  | [d1, d2, d3, d4] => { results := [.lit (.bool true)], args := [d1, d2, d3, d4] }
  | _ => none }
def fnExactIntervalRepRow : OpenClaim := { program := "ytbgjhnolnccnnaa", sum := "25425f04e29049fc1a047b98aa4604846d9a1e1f03e455ade1ecda99d6cb5afa", func := "loop.example/g03404/laws.FnExactIntervalRep", spec := "fnExactIntervalRep", unfollowed := true, recurses := true, apart := false }
def FnExactIntervalRepSaid : Prop := fnExactIntervalRepRow.holds Try.pinned (OpenSpec.ofChange fnExactIntervalRepSpec)

/-- ITS FALSE NEIGHBOUR: 'it returns false'. Refute it at one input. -/
def fnExactIntervalRepWrong : ChangeSpec := { name := "fnExactIntervalRep", fn := fun _ => fun
  | [d1, d2, d3, d4] => { results := [.lit (.bool false)], args := [d1, d2, d3, d4] }
  | _ => none }
def FnExactIntervalRepWrongFalsely : Prop := fnExactIntervalRepRow.holds Try.pinned (OpenSpec.ofChange fnExactIntervalRepWrong)

/-- 'laws.FnExactRegularPencil': WHATEVER THE INPUT: true; the input reads as it did. -/
def fnExactRegularPencilSpec : ChangeSpec := { name := "fnExactRegularPencil", fn := fun _ => fun
  | [d1, d2, d3] => { results := [.lit (.bool true)], args := [d1, d2, d3] }
  | _ => none }
def fnExactRegularPencilRow : OpenClaim := { program := "ytbgjhnolnccnnaa", sum := "25425f04e29049fc1a047b98aa4604846d9a1e1f03e455ade1ecda99d6cb5afa", func := "loop.example/g03404/laws.FnExactRegularPencil", spec := "fnExactRegularPencil", unfollowed := true, recurses := true, apart := false }
def FnExactRegularPencilSaid : Prop := fnExactRegularPencilRow.holds Try.pinned (OpenSpec.ofChange fnExactRegularPencilSpec)

/-- ITS FALSE NEIGHBOUR: 'it returns false'. Refute it at one input. -/
def fnExactRegularPencilWrong : ChangeSpec := { name := "fnExactRegularPencil", fn := fun _ => fun
  | [d1, d2, d3] => { results := [.lit (.bool false)], args := [d1, d2, d3] }
  | _ => none }
def FnExactRegularPencilWrongFalsely : Prop := fnExactRegularPencilRow.holds Try.pinned (OpenSpec.ofChange fnExactRegularPencilWrong)

/-- 'laws.FnExactIsInjectiveRoot': WHATEVER THE INPUT: true; the input reads as it did. -/
def fnExactIsInjectiveRootSpec : ChangeSpec := { name := "fnExactIsInjectiveRoot", fn := fun _ => fun
  | [d1, d2] => { results := [.lit (.bool true)], args := [d1, d2] }
  | _ => none }
def fnExactIsInjectiveRootRow : OpenClaim := { program := "ytbgjhnolnccnnaa", sum := "25425f04e29049fc1a047b98aa4604846d9a1e1f03e455ade1ecda99d6cb5afa", func := "loop.example/g03404/laws.FnExactIsInjectiveRoot", spec := "fnExactIsInjectiveRoot", unfollowed := true, recurses := true, apart := false }
def FnExactIsInjectiveRootSaid : Prop := fnExactIsInjectiveRootRow.holds Try.pinned (OpenSpec.ofChange fnExactIsInjectiveRootSpec)

/-- ITS FALSE NEIGHBOUR: 'it returns false'. Refute it at one input. -/
def fnExactIsInjectiveRootWrong : ChangeSpec := { name := "fnExactIsInjectiveRoot", fn := fun _ => fun
  | [d1, d2] => { results := [.lit (.bool false)], args := [d1, d2] }
  | _ => none }
def FnExactIsInjectiveRootWrongFalsely : Prop := fnExactIsInjectiveRootRow.holds Try.pinned (OpenSpec.ofChange fnExactIsInjectiveRootWrong)

/-- 'laws.FnExactIsProjectiveRoot': WHATEVER THE INPUT: true; the input reads as it did. -/
def fnExactIsProjectiveRootSpec : ChangeSpec := { name := "fnExactIsProjectiveRoot", fn := fun _ => fun
  | [d1, d2] => { results := [.lit (.bool true)], args := [d1, d2] }
  | _ => none }
def fnExactIsProjectiveRootRow : OpenClaim := { program := "ytbgjhnolnccnnaa", sum := "25425f04e29049fc1a047b98aa4604846d9a1e1f03e455ade1ecda99d6cb5afa", func := "loop.example/g03404/laws.FnExactIsProjectiveRoot", spec := "fnExactIsProjectiveRoot", unfollowed := true, recurses := true, apart := false }
def FnExactIsProjectiveRootSaid : Prop := fnExactIsProjectiveRootRow.holds Try.pinned (OpenSpec.ofChange fnExactIsProjectiveRootSpec)

/-- ITS FALSE NEIGHBOUR: 'it returns false'. Refute it at one input. -/
def fnExactIsProjectiveRootWrong : ChangeSpec := { name := "fnExactIsProjectiveRoot", fn := fun _ => fun
  | [d1, d2] => { results := [.lit (.bool false)], args := [d1, d2] }
  | _ => none }
def FnExactIsProjectiveRootWrongFalsely : Prop := fnExactIsProjectiveRootRow.holds Try.pinned (OpenSpec.ofChange fnExactIsProjectiveRootWrong)

/-- 'laws.FnExactPreinjectivePencil': WHATEVER THE INPUT: true; the input reads as it did. -/
def fnExactPreinjectivePencilSpec : ChangeSpec := { name := "fnExactPreinjectivePencil", fn := fun _ => fun
  | [d1, d2] => { results := [.lit (.bool true)], args := [d1, d2] }
  | _ => none }
def fnExactPreinjectivePencilRow : OpenClaim := { program := "ytbgjhnolnccnnaa", sum := "25425f04e29049fc1a047b98aa4604846d9a1e1f03e455ade1ecda99d6cb5afa", func := "loop.example/g03404/laws.FnExactPreinjectivePencil", spec := "fnExactPreinjectivePencil", unfollowed := true, recurses := true, apart := false }
def FnExactPreinjectivePencilSaid : Prop := fnExactPreinjectivePencilRow.holds Try.pinned (OpenSpec.ofChange fnExactPreinjectivePencilSpec)

/-- ITS FALSE NEIGHBOUR: 'it returns false'. Refute it at one input. -/
def fnExactPreinjectivePencilWrong : ChangeSpec := { name := "fnExactPreinjectivePencil", fn := fun _ => fun
  | [d1, d2] => { results := [.lit (.bool false)], args := [d1, d2] }
  | _ => none }
def FnExactPreinjectivePencilWrongFalsely : Prop := fnExactPreinjectivePencilRow.holds Try.pinned (OpenSpec.ofChange fnExactPreinjectivePencilWrong)

/-- 'laws.FnExactIncomingMatrix': WHATEVER THE INPUT: true; the input reads as it did. -/
def fnExactIncomingMatrixSpec : ChangeSpec := { name := "fnExactIncomingMatrix", fn := fun _ => fun
  | [d1, d2] => { results := [.lit (.bool true)], args := [d1, d2] }
  | _ => none }
def fnExactIncomingMatrixRow : OpenClaim := { program := "ytbgjhnolnccnnaa", sum := "25425f04e29049fc1a047b98aa4604846d9a1e1f03e455ade1ecda99d6cb5afa", func := "loop.example/g03404/laws.FnExactIncomingMatrix", spec := "fnExactIncomingMatrix", unfollowed := true, recurses := true, apart := false }
def FnExactIncomingMatrixSaid : Prop := fnExactIncomingMatrixRow.holds Try.pinned (OpenSpec.ofChange fnExactIncomingMatrixSpec)

/-- ITS FALSE NEIGHBOUR: 'it returns false'. Refute it at one input. -/
def fnExactIncomingMatrixWrong : ChangeSpec := { name := "fnExactIncomingMatrix", fn := fun _ => fun
  | [d1, d2] => { results := [.lit (.bool false)], args := [d1, d2] }
  | _ => none }
def FnExactIncomingMatrixWrongFalsely : Prop := fnExactIncomingMatrixRow.holds Try.pinned (OpenSpec.ofChange fnExactIncomingMatrixWrong)

/-- 'laws.FnExactOutgoingMatrix': WHATEVER THE INPUT: true; the input reads as it did. -/
def fnExactOutgoingMatrixSpec : ChangeSpec := { name := "fnExactOutgoingMatrix", fn := fun _ => fun
  | [d1, d2] => { results := [.lit (.bool true)], args := [d1, d2] }
  | _ => none }
def fnExactOutgoingMatrixRow : OpenClaim := { program := "ytbgjhnolnccnnaa", sum := "25425f04e29049fc1a047b98aa4604846d9a1e1f03e455ade1ecda99d6cb5afa", func := "loop.example/g03404/laws.FnExactOutgoingMatrix", spec := "fnExactOutgoingMatrix", unfollowed := true, recurses := true, apart := false }
def FnExactOutgoingMatrixSaid : Prop := fnExactOutgoingMatrixRow.holds Try.pinned (OpenSpec.ofChange fnExactOutgoingMatrixSpec)

/-- ITS FALSE NEIGHBOUR: 'it returns false'. Refute it at one input. -/
def fnExactOutgoingMatrixWrong : ChangeSpec := { name := "fnExactOutgoingMatrix", fn := fun _ => fun
  | [d1, d2] => { results := [.lit (.bool false)], args := [d1, d2] }
  | _ => none }
def FnExactOutgoingMatrixWrongFalsely : Prop := fnExactOutgoingMatrixRow.holds Try.pinned (OpenSpec.ofChange fnExactOutgoingMatrixWrong)

/-- 'laws.FnExactPencilAt': WHATEVER THE INPUT: true; the input reads as it did. -/
def fnExactPencilAtSpec : ChangeSpec := { name := "fnExactPencilAt", fn := fun _ => fun
  | [d1, d2, d3] => { results := [.lit (.bool true)], args := [d1, d2, d3] }
  | _ => none }
def fnExactPencilAtRow : OpenClaim := { program := "ytbgjhnolnccnnaa", sum := "25425f04e29049fc1a047b98aa4604846d9a1e1f03e455ade1ecda99d6cb5afa", func := "loop.example/g03404/laws.FnExactPencilAt", spec := "fnExactPencilAt", unfollowed := true, recurses := true, apart := false }
def FnExactPencilAtSaid : Prop := fnExactPencilAtRow.holds Try.pinned (OpenSpec.ofChange fnExactPencilAtSpec)

/-- ITS FALSE NEIGHBOUR: 'it returns false'. Refute it at one input. -/
def fnExactPencilAtWrong : ChangeSpec := { name := "fnExactPencilAt", fn := fun _ => fun
  | [d1, d2, d3] => { results := [.lit (.bool false)], args := [d1, d2, d3] }
  | _ => none }
def FnExactPencilAtWrongFalsely : Prop := fnExactPencilAtRow.holds Try.pinned (OpenSpec.ofChange fnExactPencilAtWrong)

/-- 'laws.FnExactDefectOf': WHATEVER THE INPUT: true; the input reads as it did. -/
def fnExactDefectOfSpec : ChangeSpec := { name := "fnExactDefectOf", fn := fun _ => fun
  | [d1, d2] => { results := [.lit (.bool true)], args := [d1, d2] }
  | _ => none }
def fnExactDefectOfRow : OpenClaim := { program := "ytbgjhnolnccnnaa", sum := "25425f04e29049fc1a047b98aa4604846d9a1e1f03e455ade1ecda99d6cb5afa", func := "loop.example/g03404/laws.FnExactDefectOf", spec := "fnExactDefectOf", unfollowed := true, recurses := true, apart := false }
def FnExactDefectOfSaid : Prop := fnExactDefectOfRow.holds Try.pinned (OpenSpec.ofChange fnExactDefectOfSpec)

/-- ITS FALSE NEIGHBOUR: 'it returns false'. Refute it at one input. -/
def fnExactDefectOfWrong : ChangeSpec := { name := "fnExactDefectOf", fn := fun _ => fun
  | [d1, d2] => { results := [.lit (.bool false)], args := [d1, d2] }
  | _ => none }
def FnExactDefectOfWrongFalsely : Prop := fnExactDefectOfRow.holds Try.pinned (OpenSpec.ofChange fnExactDefectOfWrong)

/- THE SECOND FORM. 'bulk': how many values and letters a reading holds, each counted each time it is reached (what is shared counts as often as it is met; a slice's spare places count too). A statement '..UptoSaid' is the law's where the arguments, and the package variables that the reading takes, are together of bulk at most 1048576: NARROWER than '..Said'. Prove '..Said' where nothing that the law and all that it calls make is longer than what came in: it says more and counts as full. Else prove '..UptoSaid'. A law counts once. -/
mutual
def uptoBulk {H : Type} : DataW H → Nat
  | .lit (.string bytes) => bytes.length + 1
  | .lit _ => 1
  | .nil => 1
  | .ptr d => uptoBulk d + 1
  | .slice elems spare => uptoBulkAll elems + uptoBulkAll spare + 1
  | .agg parts => uptoBulkAll parts + 1
  | .iface _ d => uptoBulk d + 1
  | .map entries => uptoBulkEntries entries + 1
  | .held _ => 1
def uptoBulkAll {H : Type} : List (DataW H) → Nat
  | [] => 0
  | d :: r => uptoBulk d + uptoBulkAll r
def uptoBulkEntries {H : Type} : List (Lit × DataW H) → Nat
  | [] => 0
  | x :: r => uptoBulkEntry x + uptoBulkEntries r
def uptoBulkEntry {H : Type} : Lit × DataW H → Nat
  | (.string bytes, d) => bytes.length + uptoBulk d + 1
  | (_, d) => uptoBulk d + 1
 end
def uptoSmall : (H : Type) → List (DataW H) → Bool := fun _ ds => decide (uptoBulkAll ds ≤ 1048576)
def OpenSpec.upto (s : _root_.Go.ChangeSpec) : _root_.Go.OpenSpec := { _root_.Go.OpenSpec.ofChange s with cond := some uptoSmall }

/-- 'laws.FnExactFormatBars', WHERE WHAT IT READS IS OF BULK AT MOST 1048576: true; the input reads as it did. -/
def fnExactFormatBarsUptoRow : OpenClaim := { program := "ytbgjhnolnccnnaa", sum := "25425f04e29049fc1a047b98aa4604846d9a1e1f03e455ade1ecda99d6cb5afa", func := "loop.example/g03404/laws.FnExactFormatBars", spec := "fnExactFormatBars", inPlace := ["internal/abi.NoEscape", "internal/bytealg.MakeNoZero"], apart := false, narrowed := true }
def FnExactFormatBarsUptoSaid : Prop := fnExactFormatBarsUptoRow.holds Try.pinned (OpenSpec.upto fnExactFormatBarsSpec)

/-- 'laws.FnExactAreBars', WHERE WHAT IT READS IS OF BULK AT MOST 1048576: true; the input reads as it did. -/
def fnExactAreBarsUptoRow : OpenClaim := { program := "ytbgjhnolnccnnaa", sum := "25425f04e29049fc1a047b98aa4604846d9a1e1f03e455ade1ecda99d6cb5afa", func := "loop.example/g03404/laws.FnExactAreBars", spec := "fnExactAreBars", unfollowed := true, recurses := true, apart := false, narrowed := true }
def FnExactAreBarsUptoSaid : Prop := fnExactAreBarsUptoRow.holds Try.pinned (OpenSpec.upto fnExactAreBarsSpec)

/-- 'laws.FnExactZigzagInterval', WHERE WHAT IT READS IS OF BULK AT MOST 1048576: true; the input reads as it did. -/
def fnExactZigzagIntervalUptoRow : OpenClaim := { program := "ytbgjhnolnccnnaa", sum := "25425f04e29049fc1a047b98aa4604846d9a1e1f03e455ade1ecda99d6cb5afa", func := "loop.example/g03404/laws.FnExactZigzagInterval", spec := "fnExactZigzagInterval", unfollowed := true, recurses := true, apart := false, narrowed := true }
def FnExactZigzagIntervalUptoSaid : Prop := fnExactZigzagIntervalUptoRow.holds Try.pinned (OpenSpec.upto fnExactZigzagIntervalSpec)

/-- 'laws.FnExactIntervalRep', WHERE WHAT IT READS IS OF BULK AT MOST 1048576: true; the input reads as it did. -/
def fnExactIntervalRepUptoRow : OpenClaim := { program := "ytbgjhnolnccnnaa", sum := "25425f04e29049fc1a047b98aa4604846d9a1e1f03e455ade1ecda99d6cb5afa", func := "loop.example/g03404/laws.FnExactIntervalRep", spec := "fnExactIntervalRep", unfollowed := true, recurses := true, apart := false, narrowed := true }
def FnExactIntervalRepUptoSaid : Prop := fnExactIntervalRepUptoRow.holds Try.pinned (OpenSpec.upto fnExactIntervalRepSpec)

/-- 'laws.FnExactRegularPencil', WHERE WHAT IT READS IS OF BULK AT MOST 1048576: true; the input reads as it did. -/
def fnExactRegularPencilUptoRow : OpenClaim := { program := "ytbgjhnolnccnnaa", sum := "25425f04e29049fc1a047b98aa4604846d9a1e1f03e455ade1ecda99d6cb5afa", func := "loop.example/g03404/laws.FnExactRegularPencil", spec := "fnExactRegularPencil", unfollowed := true, recurses := true, apart := false, narrowed := true }
def FnExactRegularPencilUptoSaid : Prop := fnExactRegularPencilUptoRow.holds Try.pinned (OpenSpec.upto fnExactRegularPencilSpec)

/-- 'laws.FnExactIsInjectiveRoot', WHERE WHAT IT READS IS OF BULK AT MOST 1048576: true; the input reads as it did. -/
def fnExactIsInjectiveRootUptoRow : OpenClaim := { program := "ytbgjhnolnccnnaa", sum := "25425f04e29049fc1a047b98aa4604846d9a1e1f03e455ade1ecda99d6cb5afa", func := "loop.example/g03404/laws.FnExactIsInjectiveRoot", spec := "fnExactIsInjectiveRoot", unfollowed := true, recurses := true, apart := false, narrowed := true }
def FnExactIsInjectiveRootUptoSaid : Prop := fnExactIsInjectiveRootUptoRow.holds Try.pinned (OpenSpec.upto fnExactIsInjectiveRootSpec)

/-- 'laws.FnExactIsProjectiveRoot', WHERE WHAT IT READS IS OF BULK AT MOST 1048576: true; the input reads as it did. -/
def fnExactIsProjectiveRootUptoRow : OpenClaim := { program := "ytbgjhnolnccnnaa", sum := "25425f04e29049fc1a047b98aa4604846d9a1e1f03e455ade1ecda99d6cb5afa", func := "loop.example/g03404/laws.FnExactIsProjectiveRoot", spec := "fnExactIsProjectiveRoot", unfollowed := true, recurses := true, apart := false, narrowed := true }
def FnExactIsProjectiveRootUptoSaid : Prop := fnExactIsProjectiveRootUptoRow.holds Try.pinned (OpenSpec.upto fnExactIsProjectiveRootSpec)

/-- 'laws.FnExactPreinjectivePencil', WHERE WHAT IT READS IS OF BULK AT MOST 1048576: true; the input reads as it did. -/
def fnExactPreinjectivePencilUptoRow : OpenClaim := { program := "ytbgjhnolnccnnaa", sum := "25425f04e29049fc1a047b98aa4604846d9a1e1f03e455ade1ecda99d6cb5afa", func := "loop.example/g03404/laws.FnExactPreinjectivePencil", spec := "fnExactPreinjectivePencil", unfollowed := true, recurses := true, apart := false, narrowed := true }
def FnExactPreinjectivePencilUptoSaid : Prop := fnExactPreinjectivePencilUptoRow.holds Try.pinned (OpenSpec.upto fnExactPreinjectivePencilSpec)

/-- 'laws.FnExactIncomingMatrix', WHERE WHAT IT READS IS OF BULK AT MOST 1048576: true; the input reads as it did. -/
def fnExactIncomingMatrixUptoRow : OpenClaim := { program := "ytbgjhnolnccnnaa", sum := "25425f04e29049fc1a047b98aa4604846d9a1e1f03e455ade1ecda99d6cb5afa", func := "loop.example/g03404/laws.FnExactIncomingMatrix", spec := "fnExactIncomingMatrix", unfollowed := true, recurses := true, apart := false, narrowed := true }
def FnExactIncomingMatrixUptoSaid : Prop := fnExactIncomingMatrixUptoRow.holds Try.pinned (OpenSpec.upto fnExactIncomingMatrixSpec)

/-- 'laws.FnExactOutgoingMatrix', WHERE WHAT IT READS IS OF BULK AT MOST 1048576: true; the input reads as it did. -/
def fnExactOutgoingMatrixUptoRow : OpenClaim := { program := "ytbgjhnolnccnnaa", sum := "25425f04e29049fc1a047b98aa4604846d9a1e1f03e455ade1ecda99d6cb5afa", func := "loop.example/g03404/laws.FnExactOutgoingMatrix", spec := "fnExactOutgoingMatrix", unfollowed := true, recurses := true, apart := false, narrowed := true }
def FnExactOutgoingMatrixUptoSaid : Prop := fnExactOutgoingMatrixUptoRow.holds Try.pinned (OpenSpec.upto fnExactOutgoingMatrixSpec)

/-- 'laws.FnExactPencilAt', WHERE WHAT IT READS IS OF BULK AT MOST 1048576: true; the input reads as it did. -/
def fnExactPencilAtUptoRow : OpenClaim := { program := "ytbgjhnolnccnnaa", sum := "25425f04e29049fc1a047b98aa4604846d9a1e1f03e455ade1ecda99d6cb5afa", func := "loop.example/g03404/laws.FnExactPencilAt", spec := "fnExactPencilAt", unfollowed := true, recurses := true, apart := false, narrowed := true }
def FnExactPencilAtUptoSaid : Prop := fnExactPencilAtUptoRow.holds Try.pinned (OpenSpec.upto fnExactPencilAtSpec)

/-- 'laws.FnExactDefectOf', WHERE WHAT IT READS IS OF BULK AT MOST 1048576: true; the input reads as it did. -/
def fnExactDefectOfUptoRow : OpenClaim := { program := "ytbgjhnolnccnnaa", sum := "25425f04e29049fc1a047b98aa4604846d9a1e1f03e455ade1ecda99d6cb5afa", func := "loop.example/g03404/laws.FnExactDefectOf", spec := "fnExactDefectOf", unfollowed := true, recurses := true, apart := false, narrowed := true }
def FnExactDefectOfUptoSaid : Prop := fnExactDefectOfUptoRow.holds Try.pinned (OpenSpec.upto fnExactDefectOfSpec)

end Rows
end Go.Proofs.Ytbgjhnolnccnnaa
