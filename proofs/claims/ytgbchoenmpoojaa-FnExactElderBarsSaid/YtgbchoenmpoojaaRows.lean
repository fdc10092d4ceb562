/-
  No cell of these rows narrows 'for every input' (looked for: loops, veiled, ifaces, maps, wideKeys, modest, calm, conditions, laid).
  DERIVED. THE GIVEN ROWS OF THIS SEAT. 6 by the template 'for every input the law returns true; each argument reads behind the call as it read before'; 0 by the template 'total and deterministic' (their statements: YtgbchoenmpoojaaTotals.lean).
  GIVEN WITH THE SEED: the statements are not yours to turn. If you find one false, say at which input.
  Laid BY PROGRAM, IN A SANDBOX (cutbox-rows.mjs): the forced cells as the released guide's own fill.sh prints them over the translation c1c141d30a11303e… (all of the seat's roots in one cut). By AI agents, Wed Nov 11 2026. No macro, syntax, notation, axiom, sorry.
-/
import Derived.Test.YtgbchoenmpoojaaChecked
import GoSem.Claim
import GoSem.ClaimJoined
import GoSem.ClaimMapViews
import Derived.JoinedTies
import Derived.KernelRfl
namespace Go.Proofs.Ytgbchoenmpoojaa
/- THE CELL 'sum', in the pinned program and in every row, IS THE sha256 OF THE DUMP (.gsa) THAT YtgbchoenmpoojaaProg.lean LOADS. Nothing in Lean hashes anything: it is a label: what it is worth is what the hold of that sum in a sandbox is worth. -/
noncomputable def Try.pinned : Pinned := { name := "ytgbchoenmpoojaa", sum := "c1c141d30a11303e78d36ae8b2391ecc863042ab3da1792d7d4db6b8d076b17e", checked := Try.checked }
namespace Rows
def none {H : Type} : Left H := { results := [], args := [] }

/-- 'laws.FnExactCountRootDecompositions': WHATEVER THE INPUT: true; the input reads as it did. -/
def fnExactCountRootDecompositionsSpec : ChangeSpec := { name := "fnExactCountRootDecompositions", fn := fun _ => fun
  | [d1, d2] => { results := [.lit (.bool true)], args := [d1, d2] }
  | _ => none }
def fnExactCountRootDecompositionsRow : OpenClaim := { program := "ytgbchoenmpoojaa", sum := "c1c141d30a11303e78d36ae8b2391ecc863042ab3da1792d7d4db6b8d076b17e", func := "loop.example/g03404/laws.FnExactCountRootDecompositions", spec := "fnExactCountRootDecompositions", unfollowed := true, recurses := true, apart := false }
def FnExactCountRootDecompositionsSaid : Prop := fnExactCountRootDecompositionsRow.holds Try.pinned (OpenSpec.ofChange fnExactCountRootDecompositionsSpec)

/-- ITS FALSE NEIGHBOUR: 'it returns false'. Refute it at one input. -/
def fnExactCountRootDecompositionsWrong : ChangeSpec := { name := "fnExactCountRootDecompositions", fn := fun _ => fun
  | [d1, d2] => { results := [.lit (.bool false)], args := [d1, d2] }
  | _ => none }
def FnExactCountRootDecompositionsWrongFalsely : Prop := fnExactCountRootDecompositionsRow.holds Try.pinned (OpenSpec.ofChange fnExactCountRootDecompositionsWrong)

/-- 'laws.FnExactIsInjectiveRoot': WHATEVER THE INPUT: true; the input reads as it did. -/
def fnExactIsInjectiveRootSpec : ChangeSpec := { name := "fnExactIsInjectiveRoot", fn := fun _ => fun
  | [d1, d2] => { results := [.lit (.bool true)], args := [d1, d2] }
  | _ => none }
def fnExactIsInjectiveRootRow : OpenClaim := { program := "ytgbchoenmpoojaa", sum := "c1c141d30a11303e78d36ae8b2391ecc863042ab3da1792d7d4db6b8d076b17e", func := "loop.example/g03404/laws.FnExactIsInjectiveRoot", spec := "fnExactIsInjectiveRoot", unfollowed := true, recurses := true, apart := false }
def FnExactIsInjectiveRootSaid : Prop := fnExactIsInjectiveRootRow.holds Try.pinned (OpenSpec.ofChange fnExactIsInjectiveRootSpec)

/-- ITS FALSE NEIGHBOUR: 'it returns false'. Refute it at one input. -/
def fnExactIsInjectiveRootWrong : ChangeSpec := { name := "fnExactIsInjectiveRoot", fn := fun _ => fun
  | [d1, d2] => { results := [.lit (.bool false)], args := [d1, d2] }
  | _ => none }
def FnExactIsInjectiveRootWrongFalsely : Prop := fnExactIsInjectiveRootRow.holds Try.pinned (OpenSpec.ofChange fnExactIsInjectiveRootWrong)

/-- 'laws.FnExactIsProjectiveRoot': WHATEVER THE INPUT: true; the input reads as it did. -/
def fnExactIsProjectiveRootSpec : ChangeSpec := { name := "fnExactIsProjectiveRoot", fn := fun _ => fun
  | [d1, d2] => { results := [.lit (.bool true)], args := [d1, d2] }
  | _ => none }
def fnExactIsProjectiveRootRow : OpenClaim := { program := "ytgbchoenmpoojaa", sum := "c1c141d30a11303e78d36ae8b2391ecc863042ab3da1792d7d4db6b8d076b17e", func := "loop.example/g03404/laws.FnExactIsProjectiveRoot", spec := "fnExactIsProjectiveRoot", unfollowed := true, recurses := true, apart := false }
def FnExactIsProjectiveRootSaid : Prop := fnExactIsProjectiveRootRow.holds Try.pinned (OpenSpec.ofChange fnExactIsProjectiveRootSpec)

/-- ITS FALSE NEIGHBOUR: 'it returns false'. Refute it at one input. -/
def fnExactIsProjectiveRootWrong : ChangeSpec := { name := "fnExactIsProjectiveRoot", fn := fun _ => fun
  | [d1, d2] => { results := [.lit (.bool false)], args := [d1, d2] }
  | _ => none }
def FnExactIsProjectiveRootWrongFalsely : Prop := fnExactIsProjectiveRootRow.holds Try.pinned (OpenSpec.ofChange fnExactIsProjectiveRootWrong)

/-- 'laws.FnExactKnitPlace': WHATEVER THE INPUT: true; the input reads as it did. -/
def fnExactKnitPlaceSpec : ChangeSpec := { name := "fnExactKnitPlace", fn := fun _ => fun
  | [d1, d2] => { results := [.lit (.bool true)], args := [d1, d2] }
  | _ => none }
def fnExactKnitPlaceRow : OpenClaim := { program := "ytgbchoenmpoojaa", sum := "c1c141d30a11303e78d36ae8b2391ecc863042ab3da1792d7d4db6b8d076b17e", func := "loop.example/g03404/laws.FnExactKnitPlace", spec := "fnExactKnitPlace", unfollowed := true, recurses := true, apart := false }
def FnExactKnitPlaceSaid : Prop := fnExactKnitPlaceRow.holds Try.pinned (OpenSpec.ofChange fnExactKnitPlaceSpec)

/-- ITS FALSE NEIGHBOUR: 'it returns false'. Refute it at one input. -/
def fnExactKnitPlaceWrong : ChangeSpec := { name := "fnExactKnitPlace", fn := fun _ => fun
  | [d1, d2] => { results := [.lit (.bool false)], args := [d1, d2] }
  | _ => none }
def FnExactKnitPlaceWrongFalsely : Prop := fnExactKnitPlaceRow.holds Try.pinned (OpenSpec.ofChange fnExactKnitPlaceWrong)

/-- 'laws.FnExactKnitRow': WHATEVER THE INPUT: true; the input reads as it did. -/
def fnExactKnitRowSpec : ChangeSpec := { name := "fnExactKnitRow", fn := fun _ => fun
  | [d1, d2] => { results := [.lit (.bool true)], args := [d1, d2] }
  | _ => none }
def fnExactKnitRowRow : OpenClaim := { program := "ytgbchoenmpoojaa", sum := "c1c141d30a11303e78d36ae8b2391ecc863042ab3da1792d7d4db6b8d076b17e", func := "loop.example/g03404/laws.FnExactKnitRow", spec := "fnExactKnitRow", unfollowed := true, recurses := true, apart := false }
def FnExactKnitRowSaid : Prop := fnExactKnitRowRow.holds Try.pinned (OpenSpec.ofChange fnExactKnitRowSpec)

/-- ITS FALSE NEIGHBOUR: 'it returns false'. Refute it at one input. -/
def fnExactKnitRowWrong : ChangeSpec := { name := "fnExactKnitRow", fn := fun _ => fun
  | [d1, d2] => { results := [.lit (.bool false)], args := [d1, d2] }
  | _ => none }
def FnExactKnitRowWrongFalsely : Prop := fnExactKnitRowRow.holds Try.pinned (OpenSpec.ofChange fnExactKnitRowWrong)

/-- 'laws.FnExactElderBars': WHATEVER THE INPUT: true; the input reads as it did. -/
def fnExactElderBarsSpec : ChangeSpec := { name := "fnExactElderBars", fn := fun _ => fun
  | [d] => { results := [.lit (.bool true)], args := [d] }
  | _ => none }
def fnExactElderBarsRow : OpenClaim := { program := "ytgbchoenmpoojaa", sum := "c1c141d30a11303e78d36ae8b2391ecc863042ab3da1792d7d4db6b8d076b17e", func := "loop.example/g03404/laws.FnExactElderBars", spec := "fnExactElderBars", inPlace := ["slices.overlaps[loop.example/g03404/impl.Bar]"], unfollowed := true, recurses := true, apart := false }
def FnExactElderBarsSaid : Prop := fnExactElderBarsRow.holds Try.pinned (OpenSpec.ofChange fnExactElderBarsSpec)

/-- ITS FALSE NEIGHBOUR: 'it returns false'. Refute it at one input. -/
def fnExactElderBarsWrong : ChangeSpec := { name := "fnExactElderBars", fn := fun _ => fun
  | [d] => { results := [.lit (.bool false)], args := [d] }
  | _ => none }
def FnExactElderBarsWrongFalsely : Prop := fnExactElderBarsRow.holds Try.pinned (OpenSpec.ofChange fnExactElderBarsWrong)

/- THE SECOND FORM. 'bulk': how many values and letters a reading holds, each counted each time it is reached (what is shared counts as often as it is met; a slice's spare places count too). A statement '..UptoSaid' is the law's where the arguments, and the package variables that the reading takes, are together of bulk at most 1048576: NARROWER than '..Said'. Prove '..Said' where nothing that the law and all that it calls make is longer than what came in: it says more and counts as full. Else prove '..UptoSaid'. A law counts once. -/
mutual
def uptoBulk {H : Type} : DataW H → Nat
  | .lit (.string bytes) => bytes.length + 1
  | .lit _ => 1
  | .nil => 1
  | .ptr d => uptoBulk d + 1
  | .slice elems spare => uptoBulkAll elems + uptoBulkAll spare + 1
  | .agg parts => uptoBulkAll parts + 1
  | .iface _ d => uptoBulk d + 1
  | .map entries => uptoBulkEntries entries + 1
  | .held _ => 1
def uptoBulkAll {H : Type} : List (DataW H) → Nat
  | [] => 0
  | d :: r => uptoBulk d + uptoBulkAll r
def uptoBulkEntries {H : Type} : List (Lit × DataW H) → Nat
  | [] => 0
  | x :: r => uptoBulkEntry x + uptoBulkEntries r
def uptoBulkEntry {H : Type} : Lit × DataW H → Nat
  | (.string bytes, d) => bytes.length + uptoBulk d + 1
  | (_, d) => uptoBulk d + 1
 end
def uptoSmall : (H : Type) → List (DataW H) → Bool := fun _ ds => decide (uptoBulkAll ds ≤ 1048576)
def OpenSpec.upto (s : _root_.Go.ChangeSpec) : _root_.Go.OpenSpec := { _root_.Go.OpenSpec.ofChange s with cond := some uptoSmall }

/-- 'laws.FnExactCountRootDecompositions', WHERE WHAT IT READS IS OF BULK AT MOST 1048576: true; the input reads as it did. -/
def fnExactCountRootDecompositionsUptoRow : OpenClaim := { program := "ytgbchoenmpoojaa", sum := "c1c141d30a11303e78d36ae8b2391ecc863042ab3da1792d7d4db6b8d076b17e", func := "loop.example/g03404/laws.FnExactCountRootDecompositions", spec := "fnExactCountRootDecompositions", unfollowed := true, recurses := true, apart := false, narrowed := true }
def FnExactCountRootDecompositionsUptoSaid : Prop := fnExactCountRootDecompositionsUptoRow.holds Try.pinned (OpenSpec.upto fnExactCountRootDecompositionsSpec)

/-- 'laws.FnExactIsInjectiveRoot', WHERE WHAT IT READS IS OF BULK AT MOST 1048576: true; the input reads as it did. -/
def fnExactIsInjectiveRootUptoRow : OpenClaim := { program := "ytgbchoenmpoojaa", sum := "c1c141d30a11303e78d36ae8b2391ecc863042ab3da1792d7d4db6b8d076b17e", func := "loop.example/g03404/laws.FnExactIsInjectiveRoot", spec := "fnExactIsInjectiveRoot", unfollowed := true, recurses := true, apart := false, narrowed := true }
def FnExactIsInjectiveRootUptoSaid : Prop := fnExactIsInjectiveRootUptoRow.holds Try.pinned (OpenSpec.upto fnExactIsInjectiveRootSpec)

/-- 'laws.FnExactIsProjectiveRoot', WHERE WHAT IT READS IS OF BULK AT MOST 1048576: true; the input reads as it did. -/
def fnExactIsProjectiveRootUptoRow : OpenClaim := { program := "ytgbchoenmpoojaa", sum := "c1c141d30a11303e78d36ae8b2391ecc863042ab3da1792d7d4db6b8d076b17e", func := "loop.example/g03404/laws.FnExactIsProjectiveRoot", spec := "fnExactIsProjectiveRoot", unfollowed := true, recurses := true, apart := false, narrowed := true }
def FnExactIsProjectiveRootUptoSaid : Prop := fnExactIsProjectiveRootUptoRow.holds Try.pinned (OpenSpec.upto fnExactIsProjectiveRootSpec)

/-- 'laws.FnExactKnitPlace', WHERE WHAT IT READS IS OF BULK AT MOST 1048576: true; the input reads as it did. -/
def fnExactKnitPlaceUptoRow : OpenClaim := { program := "ytgbchoenmpoojaa", sum := "c1c141d30a11303e78d36ae8b2391ecc863042ab3da1792d7d4db6b8d076b17e", func := "loop.example/g03404/laws.FnExactKnitPlace", spec := "fnExactKnitPlace", unfollowed := true, recurses := true, apart := false, narrowed := true }
def FnExactKnitPlaceUptoSaid : Prop := fnExactKnitPlaceUptoRow.holds Try.pinned (OpenSpec.upto fnExactKnitPlaceSpec)

/-- 'laws.FnExactKnitRow', WHERE WHAT IT READS IS OF BULK AT MOST 1048576: true; the input reads as it did. -/
def fnExactKnitRowUptoRow : OpenClaim := { program := "ytgbchoenmpoojaa", sum := "c1c141d30a11303e78d36ae8b2391ecc863042ab3da1792d7d4db6b8d076b17e", func := "loop.example/g03404/laws.FnExactKnitRow", spec := "fnExactKnitRow", unfollowed := true, recurses := true, apart := false, narrowed := true }
def FnExactKnitRowUptoSaid : Prop := fnExactKnitRowUptoRow.holds Try.pinned (OpenSpec.upto fnExactKnitRowSpec)

/-- 'laws.FnExactElderBars', WHERE WHAT IT READS IS OF BULK AT MOST 1048576: true; the input reads as it did. -/
def fnExactElderBarsUptoRow : OpenClaim := { program := "ytgbchoenmpoojaa", sum := "c1c141d30a11303e78d36ae8b2391ecc863042ab3da1792d7d4db6b8d076b17e", func := "loop.example/g03404/laws.FnExactElderBars", spec := "fnExactElderBars", inPlace := ["slices.overlaps[loop.example/g03404/impl.Bar]"], unfollowed := true, recurses := true, apart := false, narrowed := true }
def FnExactElderBarsUptoSaid : Prop := fnExactElderBarsUptoRow.holds Try.pinned (OpenSpec.upto fnExactElderBarsSpec)

end Rows
end Go.Proofs.Ytgbchoenmpoojaa
