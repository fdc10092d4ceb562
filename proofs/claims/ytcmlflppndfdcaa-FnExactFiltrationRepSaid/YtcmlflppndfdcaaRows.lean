/-
  No cell of these rows narrows 'for every input' (looked for: loops, veiled, ifaces, maps, wideKeys, modest, calm, conditions, laid).
  DERIVED. THE GIVEN ROWS OF THIS SEAT. 4 by the template 'for every input the law returns true; each argument reads behind the call as it read before'; 0 by the template 'total and deterministic' (their statements: YtcmlflppndfdcaaTotals.lean).
  GIVEN WITH THE SEED: the statements are not yours to turn. If you find one false, say at which input.
  Laid BY PROGRAM, IN A SANDBOX (cutbox-rows.mjs): the forced cells as the released guide's own fill.sh prints them over the translation e83a73bd65f51129… (all of the seat's roots in one cut). By AI agents, Wed Nov 11 2026. No macro, syntax, notation, axiom, sorry.
-/
import Derived.Test.YtcmlflppndfdcaaChecked
import GoSem.Claim
import GoSem.ClaimJoined
import GoSem.ClaimMapViews
import Derived.JoinedTies
import Derived.KernelRfl
namespace Go.Proofs.Ytcmlflppndfdcaa
/- THE CELL 'sum', in the pinned program and in every row, IS THE sha256 OF THE DUMP (.gsa) THAT YtcmlflppndfdcaaProg.lean LOADS. Nothing in Lean hashes anything: it is a label: what it is worth is what the hold of that sum in a sandbox is worth. -/
noncomputable def Try.pinned : Pinned := { name := "ytcmlflppndfdcaa", sum := "e83a73bd65f5112998cf60bb020f03e5099519d82409f2ceb21b8051c135c751", checked := Try.checked }
namespace Rows
def none {H : Type} : Left H := { results := [], args := [] }

/-- 'laws.FnExactRepOfBars': WHATEVER THE INPUT: true; the input reads as it did. -/
def fnExactRepOfBarsSpec : ChangeSpec := { name := "fnExactRepOfBars", fn := fun _ => fun
  | [d1, d2, d3] => { results := [.lit (.bool true)], args := [d1, d2, d3] }
  | _ => none }
def fnExactRepOfBarsRow : OpenClaim := { program := "ytcmlflppndfdcaa", sum := "e83a73bd65f5112998cf60bb020f03e5099519d82409f2ceb21b8051c135c751", func := "loop.example/g03404/laws.FnExactRepOfBars", spec := "fnExactRepOfBars", unfollowed := true, recurses := true, apart := false }
def FnExactRepOfBarsSaid : Prop := fnExactRepOfBarsRow.holds Try.pinned (OpenSpec.ofChange fnExactRepOfBarsSpec)

/-- ITS FALSE NEIGHBOUR: 'it returns false'. Refute it at one input. -/
def fnExactRepOfBarsWrong : ChangeSpec := { name := "fnExactRepOfBars", fn := fun _ => fun
  | [d1, d2, d3] => { results := [.lit (.bool false)], args := [d1, d2, d3] }
  | _ => none }
def FnExactRepOfBarsWrongFalsely : Prop := fnExactRepOfBarsRow.holds Try.pinned (OpenSpec.ofChange fnExactRepOfBarsWrong)

/-- 'laws.FnExactRepOfZigzag': WHATEVER THE INPUT: true; the input reads as it did. -/
def fnExactRepOfZigzagSpec : ChangeSpec := { name := "fnExactRepOfZigzag", fn := fun _ => fun
  | [d1, d2, d3] => { results := [.lit (.bool true)], args := [d1, d2, d3] }
  | _ => none }
def fnExactRepOfZigzagRow : OpenClaim := { program := "ytcmlflppndfdcaa", sum := "e83a73bd65f5112998cf60bb020f03e5099519d82409f2ceb21b8051c135c751", func := "loop.example/g03404/laws.FnExactRepOfZigzag", spec := "fnExactRepOfZigzag", unfollowed := true, recurses := true, apart := false }
def FnExactRepOfZigzagSaid : Prop := fnExactRepOfZigzagRow.holds Try.pinned (OpenSpec.ofChange fnExactRepOfZigzagSpec)

/-- ITS FALSE NEIGHBOUR: 'it returns false'. Refute it at one input. -/
def fnExactRepOfZigzagWrong : ChangeSpec := { name := "fnExactRepOfZigzag", fn := fun _ => fun
  | [d1, d2, d3] => { results := [.lit (.bool false)], args := [d1, d2, d3] }
  | _ => none }
def FnExactRepOfZigzagWrongFalsely : Prop := fnExactRepOfZigzagRow.holds Try.pinned (OpenSpec.ofChange fnExactRepOfZigzagWrong)

/-- 'laws.FnExactReflectSink': WHATEVER THE INPUT: true; the input reads as it did. -/
def fnExactReflectSinkSpec : ChangeSpec := { name := "fnExactReflectSink", fn := fun _ => fun
  | [d1, d2] => { results := [.lit (.bool true)], args := [d1, d2] }
  | _ => none }
def fnExactReflectSinkRow : OpenClaim := { program := "ytcmlflppndfdcaa", sum := "e83a73bd65f5112998cf60bb020f03e5099519d82409f2ceb21b8051c135c751", func := "loop.example/g03404/laws.FnExactReflectSink", spec := "fnExactReflectSink", unfollowed := true, recurses := true, apart := false }
def FnExactReflectSinkSaid : Prop := fnExactReflectSinkRow.holds Try.pinned (OpenSpec.ofChange fnExactReflectSinkSpec)

/-- ITS FALSE NEIGHBOUR: 'it returns false'. Refute it at one input. -/
def fnExactReflectSinkWrong : ChangeSpec := { name := "fnExactReflectSink", fn := fun _ => fun
  | [d1, d2] => { results := [.lit (.bool false)], args := [d1, d2] }
  | _ => none }
def FnExactReflectSinkWrongFalsely : Prop := fnExactReflectSinkRow.holds Try.pinned (OpenSpec.ofChange fnExactReflectSinkWrong)

/-- 'laws.FnExactFiltrationRep': WHATEVER THE INPUT: true; the input reads as it did. -/
def fnExactFiltrationRepSpec : ChangeSpec := { name := "fnExactFiltrationRep", fn := fun _ => fun
  | [d1, d2] => { results := [.lit (.bool true)], args := [d1, d2] }
  | _ => none }
def fnExactFiltrationRepRow : OpenClaim := { program := "ytcmlflppndfdcaa", sum := "e83a73bd65f5112998cf60bb020f03e5099519d82409f2ceb21b8051c135c751", func := "loop.example/g03404/laws.FnExactFiltrationRep", spec := "fnExactFiltrationRep", unfollowed := true, recurses := true, apart := false }
def FnExactFiltrationRepSaid : Prop := fnExactFiltrationRepRow.holds Try.pinned (OpenSpec.ofChange fnExactFiltrationRepSpec)

/-- ITS FALSE NEIGHBOUR: 'it returns false'. Refute it at one input. -/
def fnExactFiltrationRepWrong : ChangeSpec := { name := "fnExactFiltrationRep", fn := fun _ => fun
  | [d1, d2] => { results := [.lit (.bool false)], args := [d1, d2] }
  | _ => none }
def FnExactFiltrationRepWrongFalsely : Prop := fnExactFiltrationRepRow.holds Try.pinned (OpenSpec.ofChange fnExactFiltrationRepWrong)

/- THE SECOND FORM. 'bulk': how many values and letters a reading holds, each counted each time it is reached (what is shared counts as often as it is met; a slice's spare places count too). A statement '..UptoSaid' is the law's where the arguments, and the package variables that the reading takes, are together of bulk at most 1048576: NARROWER than '..Said'. Prove '..Said' where nothing that the law and all that it calls make is longer than what came in: it says more and counts as full. Else prove '..UptoSaid'. A law counts once. -/
mutual
def uptoBulk {H : Type} : DataW H → Nat
  | .lit (.string bytes) => bytes.length + 1
  | .lit _ => 1
  | .nil => 1
  | .ptr d => uptoBulk d + 1
  | .slice elems spare => uptoBulkAll elems + uptoBulkAll spare + 1
  | .agg parts => uptoBulkAll parts + 1
  | .iface _ d => uptoBulk d + 1
  | .map entries => uptoBulkEntries entries + 1
  | .held _ => 1
def uptoBulkAll {H : Type} : List (DataW H) → Nat
  | [] => 0
  | d :: r => uptoBulk d + uptoBulkAll r
def uptoBulkEntries {H : Type} : List (Lit × DataW H) → Nat
  | [] => 0
  | x :: r => uptoBulkEntry x + uptoBulkEntries r
def uptoBulkEntry {H : Type} : Lit × DataW H → Nat
  | (.string bytes, d) => bytes.length + uptoBulk d + 1
  | (_, d) => uptoBulk d + 1
 end
def uptoSmall : (H : Type) → List (DataW H) → Bool := fun _ ds => decide (uptoBulkAll ds ≤ 1048576)
def OpenSpec.upto (s : _root_.Go.ChangeSpec) : _root_.Go.OpenSpec := { _root_.Go.OpenSpec.ofChange s with cond := some uptoSmall }

/-- 'laws.FnExactRepOfBars', WHERE WHAT IT READS IS OF BULK AT MOST 1048576: true; the input reads as it did. -/
def fnExactRepOfBarsUptoRow : OpenClaim := { program := "ytcmlflppndfdcaa", sum := "e83a73bd65f5112998cf60bb020f03e5099519d82409f2ceb21b8051c135c751", func := "loop.example/g03404/laws.FnExactRepOfBars", spec := "fnExactRepOfBars", unfollowed := true, recurses := true, apart := false, narrowed := true }
def FnExactRepOfBarsUptoSaid : Prop := fnExactRepOfBarsUptoRow.holds Try.pinned (OpenSpec.upto fnExactRepOfBarsSpec)

/-- 'laws.FnExactRepOfZigzag', WHERE WHAT IT READS IS OF BULK AT MOST 1048576: true; the input reads as it did. -/
def fnExactRepOfZigzagUptoRow : OpenClaim := { program := "ytcmlflppndfdcaa", sum := "e83a73bd65f5112998cf60bb020f03e5099519d82409f2ceb21b8051c135c751", func := "loop.example/g03404/laws.FnExactRepOfZigzag", spec := "fnExactRepOfZigzag", unfollowed := true, recurses := true, apart := false, narrowed := true }
def FnExactRepOfZigzagUptoSaid : Prop := fnExactRepOfZigzagUptoRow.holds Try.pinned (OpenSpec.upto fnExactRepOfZigzagSpec)

/-- 'laws.FnExactReflectSink', WHERE WHAT IT READS IS OF BULK AT MOST 1048576: true; the input reads as it did. -/
def fnExactReflectSinkUptoRow : OpenClaim := { program := "ytcmlflppndfdcaa", sum := "e83a73bd65f5112998cf60bb020f03e5099519d82409f2ceb21b8051c135c751", func := "loop.example/g03404/laws.FnExactReflectSink", spec := "fnExactReflectSink", unfollowed := true, recurses := true, apart := false, narrowed := true }
def FnExactReflectSinkUptoSaid : Prop := fnExactReflectSinkUptoRow.holds Try.pinned (OpenSpec.upto fnExactReflectSinkSpec)

/-- 'laws.FnExactFiltrationRep', WHERE WHAT IT READS IS OF BULK AT MOST 1048576: true; the input reads as it did. -/
def fnExactFiltrationRepUptoRow : OpenClaim := { program := "ytcmlflppndfdcaa", sum := "e83a73bd65f5112998cf60bb020f03e5099519d82409f2ceb21b8051c135c751", func := "loop.example/g03404/laws.FnExactFiltrationRep", spec := "fnExactFiltrationRep", unfollowed := true, recurses := true, apart := false, narrowed := true }
def FnExactFiltrationRepUptoSaid : Prop := fnExactFiltrationRepUptoRow.holds Try.pinned (OpenSpec.upto fnExactFiltrationRepSpec)

end Rows
end Go.Proofs.Ytcmlflppndfdcaa
