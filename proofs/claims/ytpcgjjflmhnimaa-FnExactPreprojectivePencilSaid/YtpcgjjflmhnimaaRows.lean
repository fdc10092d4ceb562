/-
  No cell of these rows narrows 'for every input' (looked for: loops, veiled, ifaces, maps, wideKeys, modest, calm, conditions, laid).
  DERIVED. THE GIVEN ROWS OF THIS SEAT. 12 by the template 'for every input the law returns true; each argument reads behind the call as it read before'; 0 by the template 'total and deterministic' (their statements: YtpcgjjflmhnimaaTotals.lean).
  GIVEN WITH THE SEED: the statements are not yours to turn. If you find one false, say at which input.
  Laid BY PROGRAM, IN A SANDBOX (cutbox-rows.mjs): the forced cells as the released guide's own fill.sh prints them over the translation 807851d96fef003b… (all of the seat's roots in one cut). By AI agents, Wed Nov 11 2026. No macro, syntax, notation, axiom, sorry.
-/
import Derived.Test.YtpcgjjflmhnimaaChecked
import GoSem.Claim
import GoSem.ClaimJoined
import GoSem.ClaimMapViews
import Derived.JoinedTies
import Derived.KernelRfl
namespace Go.Proofs.Ytpcgjjflmhnimaa
/- THE CELL 'sum', in the pinned program and in every row, IS THE sha256 OF THE DUMP (.gsa) THAT YtpcgjjflmhnimaaProg.lean LOADS. Nothing in Lean hashes anything: it is a label: what it is worth is what the hold of that sum in a sandbox is worth. -/
noncomputable def Try.pinned : Pinned := { name := "ytpcgjjflmhnimaa", sum := "807851d96fef003bd9c398580d75ec33fac0af3f9196859f71fbb243eac8e096", checked := Try.checked }
namespace Rows
def none {H : Type} : Left H := { results := [], args := [] }

/-- 'laws.FnExactAreBars': WHATEVER THE INPUT: true; the input reads as it did. -/
def fnExactAreBarsSpec : ChangeSpec := { name := "fnExactAreBars", fn := fun _ => fun
  | [d1, d2] => { results := [.lit (.bool true)], args := [d1, d2] }
  | _ => none }
def fnExactAreBarsRow : OpenClaim := { program := "ytpcgjjflmhnimaa", sum := "807851d96fef003bd9c398580d75ec33fac0af3f9196859f71fbb243eac8e096", func := "loop.example/g03404/laws.FnExactAreBars", spec := "fnExactAreBars", unfollowed := true, recurses := true, apart := false }
def FnExactAreBarsSaid : Prop := fnExactAreBarsRow.holds Try.pinned (OpenSpec.ofChange fnExactAreBarsSpec)

/-- ITS FALSE NEIGHBOUR: 'it returns false'. Refute it at one input. -/
def fnExactAreBarsWrong : ChangeSpec := { name := "fnExactAreBars", fn := fun _ => fun
  | [d1, d2] => { results := [.lit (.bool false)], args := [d1, d2] }
  | _ => none }
def FnExactAreBarsWrongFalsely : Prop := fnExactAreBarsRow.holds Try.pinned (OpenSpec.ofChange fnExactAreBarsWrong)

/-- 'laws.FnExactIsPencil': WHATEVER THE INPUT: true; the input reads as it did. -/
def fnExactIsPencilSpec : ChangeSpec := { name := "fnExactIsPencil", fn := fun _ => fun
  | [d] => { results := [.lit (.bool true)], args := [d] }
  | _ => none }
def fnExactIsPencilRow : OpenClaim := { program := "ytpcgjjflmhnimaa", sum := "807851d96fef003bd9c398580d75ec33fac0af3f9196859f71fbb243eac8e096", func := "loop.example/g03404/laws.FnExactIsPencil", spec := "fnExactIsPencil", unfollowed := true, recurses := true, apart := false }
def FnExactIsPencilSaid : Prop := fnExactIsPencilRow.holds Try.pinned (OpenSpec.ofChange fnExactIsPencilSpec)

/-- ITS FALSE NEIGHBOUR: 'it returns false'. Refute it at one input. -/
def fnExactIsPencilWrong : ChangeSpec := { name := "fnExactIsPencil", fn := fun _ => fun
  | [d] => { results := [.lit (.bool false)], args := [d] }
  | _ => none }
def FnExactIsPencilWrongFalsely : Prop := fnExactIsPencilRow.holds Try.pinned (OpenSpec.ofChange fnExactIsPencilWrong)

/-- 'laws.FnExactZigzagInterval': WHATEVER THE INPUT: true; the input reads as it did. -/
def fnExactZigzagIntervalSpec : ChangeSpec := { name := "fnExactZigzagInterval", fn := fun _ => fun
  | [d1, d2, d3, d4] => { results := [.lit (.bool true)], args := [d1, d2, d3, d4] }
  | _ => none }
def fnExactZigzagIntervalRow : OpenClaim := { program := "ytpcgjjflmhnimaa", sum := "807851d96fef003bd9c398580d75ec33fac0af3f9196859f71fbb243eac8e096", func := "loop.example/g03404/laws.FnExactZigzagInterval", spec := "fnExactZigzagInterval", unfollowed := true, recurses := true, apart := false }
def FnExactZigzagIntervalSaid : Prop := fnExactZigzagIntervalRow.holds Try.pinned (OpenSpec.ofChange fnExactZigzagIntervalSpec)

/-- ITS FALSE NEIGHBOUR: 'it returns false'. Refute it at one input. -/
def fnExactZigzagIntervalWrong : ChangeSpec := { name := "fnExactZigzagInterval", fn := fun _ => fun
  | [d1, d2, d3, d4] => { results := [.lit (.bool false)], args := [d1, d2, d3, d4] }
  | _ => none }
def FnExactZigzagIntervalWrongFalsely : Prop := fnExactZigzagIntervalRow.holds Try.pinned (OpenSpec.ofChange fnExactZigzagIntervalWrong)

/-- 'laws.FnExactIntervalRep': WHATEVER THE INPUT: true; the input reads as it did. -/
def fnExactIntervalRepSpec : ChangeSpec := { name := "fnExactIntervalRep", fn := fun _ => fun
  | [d1, d2, d3, d4] => { results := [.lit (.bool true)], args := [d1, d2, d3, d4] }
  | _ => none }
def fnExactIntervalRepRow : OpenClaim := { program := "ytpcgjjflmhnimaa", sum := "807851d96fef003bd9c398580d75ec33fac0af3f9196859f71fbb243eac8e096", func := "loop.example/g03404/laws.FnExactIntervalRep", spec := "fnExactIntervalRep", unfollowed := true, recurses := true, apart := false }
def FnExactIntervalRepSaid : Prop := fnExactIntervalRepRow.holds Try.pinned (OpenSpec.ofChange fnExactIntervalRepSpec)

/-- ITS FALSE NEIGHBOUR: 'it returns false'. Refute it at one input. -/
def fnExactIntervalRepWrong : ChangeSpec := { name := "fnExactIntervalRep", fn := fun _ => fun
  | [d1, d2, d3, d4] => { results := [.lit (.bool false)], args := [d1, d2, d3, d4] }
  | _ => none }
def FnExactIntervalRepWrongFalsely : Prop := fnExactIntervalRepRow.holds Try.pinned (OpenSpec.ofChange fnExactIntervalRepWrong)

/-- 'laws.FnExactPencilOf': WHATEVER THE INPUT: true; the input reads as it did. -/
def fnExactPencilOfSpec : ChangeSpec := { name := "fnExactPencilOf", fn := fun _ => fun
  | [d1, d2, d3] => { results := [.lit (.bool true)], args := [d1, d2, d3] }
  | _ => none }
def fnExactPencilOfRow : OpenClaim := { program := "ytpcgjjflmhnimaa", sum := "807851d96fef003bd9c398580d75ec33fac0af3f9196859f71fbb243eac8e096", func := "loop.example/g03404/laws.FnExactPencilOf", spec := "fnExactPencilOf", unfollowed := true, recurses := true, apart := false }
def FnExactPencilOfSaid : Prop := fnExactPencilOfRow.holds Try.pinned (OpenSpec.ofChange fnExactPencilOfSpec)

/-- ITS FALSE NEIGHBOUR: 'it returns false'. Refute it at one input. -/
def fnExactPencilOfWrong : ChangeSpec := { name := "fnExactPencilOf", fn := fun _ => fun
  | [d1, d2, d3] => { results := [.lit (.bool false)], args := [d1, d2, d3] }
  | _ => none }
def FnExactPencilOfWrongFalsely : Prop := fnExactPencilOfRow.holds Try.pinned (OpenSpec.ofChange fnExactPencilOfWrong)

/-- 'laws.FnExactPreprojectivePencil': WHATEVER THE INPUT: true; the input reads as it did. -/
def fnExactPreprojectivePencilSpec : ChangeSpec := { name := "fnExactPreprojectivePencil", fn := fun _ => fun
  | [d1, d2] => { results := [.lit (.bool true)], args := [d1, d2] }
  | _ => none }
def fnExactPreprojectivePencilRow : OpenClaim := { program := "ytpcgjjflmhnimaa", sum := "807851d96fef003bd9c398580d75ec33fac0af3f9196859f71fbb243eac8e096", func := "loop.example/g03404/laws.FnExactPreprojectivePencil", spec := "fnExactPreprojectivePencil", unfollowed := true, recurses := true, apart := false }
def FnExactPreprojectivePencilSaid : Prop := fnExactPreprojectivePencilRow.holds Try.pinned (OpenSpec.ofChange fnExactPreprojectivePencilSpec)

/-- ITS FALSE NEIGHBOUR: 'it returns false'. Refute it at one input. -/
def fnExactPreprojectivePencilWrong : ChangeSpec := { name := "fnExactPreprojectivePencil", fn := fun _ => fun
  | [d1, d2] => { results := [.lit (.bool false)], args := [d1, d2] }
  | _ => none }
def FnExactPreprojectivePencilWrongFalsely : Prop := fnExactPreprojectivePencilRow.holds Try.pinned (OpenSpec.ofChange fnExactPreprojectivePencilWrong)

/-- 'laws.FnExactCoxeterOf': WHATEVER THE INPUT: true; the input reads as it did. -/
def fnExactCoxeterOfSpec : ChangeSpec := { name := "fnExactCoxeterOf", fn := fun _ => fun
  | [d1, d2] => { results := [.lit (.bool true)], args := [d1, d2] }
  | _ => none }
def fnExactCoxeterOfRow : OpenClaim := { program := "ytpcgjjflmhnimaa", sum := "807851d96fef003bd9c398580d75ec33fac0af3f9196859f71fbb243eac8e096", func := "loop.example/g03404/laws.FnExactCoxeterOf", spec := "fnExactCoxeterOf", unfollowed := true, recurses := true, apart := false }
def FnExactCoxeterOfSaid : Prop := fnExactCoxeterOfRow.holds Try.pinned (OpenSpec.ofChange fnExactCoxeterOfSpec)

/-- ITS FALSE NEIGHBOUR: 'it returns false'. Refute it at one input. -/
def fnExactCoxeterOfWrong : ChangeSpec := { name := "fnExactCoxeterOf", fn := fun _ => fun
  | [d1, d2] => { results := [.lit (.bool false)], args := [d1, d2] }
  | _ => none }
def FnExactCoxeterOfWrongFalsely : Prop := fnExactCoxeterOfRow.holds Try.pinned (OpenSpec.ofChange fnExactCoxeterOfWrong)

/-- 'laws.FnExactRegularPencil': WHATEVER THE INPUT: true; the input reads as it did. -/
def fnExactRegularPencilSpec : ChangeSpec := { name := "fnExactRegularPencil", fn := fun _ => fun
  | [d1, d2, d3] => { results := [.lit (.bool true)], args := [d1, d2, d3] }
  | _ => none }
def fnExactRegularPencilRow : OpenClaim := { program := "ytpcgjjflmhnimaa", sum := "807851d96fef003bd9c398580d75ec33fac0af3f9196859f71fbb243eac8e096", func := "loop.example/g03404/laws.FnExactRegularPencil", spec := "fnExactRegularPencil", unfollowed := true, recurses := true, apart := false }
def FnExactRegularPencilSaid : Prop := fnExactRegularPencilRow.holds Try.pinned (OpenSpec.ofChange fnExactRegularPencilSpec)

/-- ITS FALSE NEIGHBOUR: 'it returns false'. Refute it at one input. -/
def fnExactRegularPencilWrong : ChangeSpec := { name := "fnExactRegularPencil", fn := fun _ => fun
  | [d1, d2, d3] => { results := [.lit (.bool false)], args := [d1, d2, d3] }
  | _ => none }
def FnExactRegularPencilWrongFalsely : Prop := fnExactRegularPencilRow.holds Try.pinned (OpenSpec.ofChange fnExactRegularPencilWrong)

/-- 'laws.FnExactIsInjectiveRoot': WHATEVER THE INPUT: true; the input reads as it did. -/
def fnExactIsInjectiveRootSpec : ChangeSpec := { name := "fnExactIsInjectiveRoot", fn := fun _ => fun
  | [d1, d2] => { results := [.lit (.bool true)], args := [d1, d2] }
  | _ => none }
def fnExactIsInjectiveRootRow : OpenClaim := { program := "ytpcgjjflmhnimaa", sum := "807851d96fef003bd9c398580d75ec33fac0af3f9196859f71fbb243eac8e096", func := "loop.example/g03404/laws.FnExactIsInjectiveRoot", spec := "fnExactIsInjectiveRoot", unfollowed := true, recurses := true, apart := false }
def FnExactIsInjectiveRootSaid : Prop := fnExactIsInjectiveRootRow.holds Try.pinned (OpenSpec.ofChange fnExactIsInjectiveRootSpec)

/-- ITS FALSE NEIGHBOUR: 'it returns false'. Refute it at one input. -/
def fnExactIsInjectiveRootWrong : ChangeSpec := { name := "fnExactIsInjectiveRoot", fn := fun _ => fun
  | [d1, d2] => { results := [.lit (.bool false)], args := [d1, d2] }
  | _ => none }
def FnExactIsInjectiveRootWrongFalsely : Prop := fnExactIsInjectiveRootRow.holds Try.pinned (OpenSpec.ofChange fnExactIsInjectiveRootWrong)

/-- 'laws.FnExactIsProjectiveRoot': WHATEVER THE INPUT: true; the input reads as it did. -/
def fnExactIsProjectiveRootSpec : ChangeSpec := { name := "fnExactIsProjectiveRoot", fn := fun _ => fun
  | [d1, d2] => { results := [.lit (.bool true)], args := [d1, d2] }
  | _ => none }
def fnExactIsProjectiveRootRow : OpenClaim := { program := "ytpcgjjflmhnimaa", sum := "807851d96fef003bd9c398580d75ec33fac0af3f9196859f71fbb243eac8e096", func := "loop.example/g03404/laws.FnExactIsProjectiveRoot", spec := "fnExactIsProjectiveRoot", unfollowed := true, recurses := true, apart := false }
def FnExactIsProjectiveRootSaid : Prop := fnExactIsProjectiveRootRow.holds Try.pinned (OpenSpec.ofChange fnExactIsProjectiveRootSpec)

/-- ITS FALSE NEIGHBOUR: 'it returns false'. Refute it at one input. -/
def fnExactIsProjectiveRootWrong : ChangeSpec := { name := "fnExactIsProjectiveRoot", fn := fun _ => fun
  | [d1, d2] => { results := [.lit (.bool false)], args := [d1, d2] }
  | _ => none }
def FnExactIsProjectiveRootWrongFalsely : Prop := fnExactIsProjectiveRootRow.holds Try.pinned (OpenSpec.ofChange fnExactIsProjectiveRootWrong)

/-- 'laws.FnExactCoxeterPower': WHATEVER THE INPUT: true; the input reads as it did. -/
def fnExactCoxeterPowerSpec : ChangeSpec := { name := "fnExactCoxeterPower", fn := fun _ => fun
  | [d1, d2, d3] => { results := [.lit (.bool true)], args := [d1, d2, d3] }
  | _ => none }
def fnExactCoxeterPowerRow : OpenClaim := { program := "ytpcgjjflmhnimaa", sum := "807851d96fef003bd9c398580d75ec33fac0af3f9196859f71fbb243eac8e096", func := "loop.example/g03404/laws.FnExactCoxeterPower", spec := "fnExactCoxeterPower", unfollowed := true, recurses := true, apart := false }
def FnExactCoxeterPowerSaid : Prop := fnExactCoxeterPowerRow.holds Try.pinned (OpenSpec.ofChange fnExactCoxeterPowerSpec)

/-- ITS FALSE NEIGHBOUR: 'it returns false'. Refute it at one input. -/
def fnExactCoxeterPowerWrong : ChangeSpec := { name := "fnExactCoxeterPower", fn := fun _ => fun
  | [d1, d2, d3] => { results := [.lit (.bool false)], args := [d1, d2, d3] }
  | _ => none }
def FnExactCoxeterPowerWrongFalsely : Prop := fnExactCoxeterPowerRow.holds Try.pinned (OpenSpec.ofChange fnExactCoxeterPowerWrong)

/-- 'laws.FnExactPreinjectivePencil': WHATEVER THE INPUT: true; the input reads as it did. -/
def fnExactPreinjectivePencilSpec : ChangeSpec := { name := "fnExactPreinjectivePencil", fn := fun _ => fun
  | [d1, d2] => { results := [.lit (.bool true)], args := [d1, d2] }
  | _ => none }
def fnExactPreinjectivePencilRow : OpenClaim := { program := "ytpcgjjflmhnimaa", sum := "807851d96fef003bd9c398580d75ec33fac0af3f9196859f71fbb243eac8e096", func := "loop.example/g03404/laws.FnExactPreinjectivePencil", spec := "fnExactPreinjectivePencil", unfollowed := true, recurses := true, apart := false }
def FnExactPreinjectivePencilSaid : Prop := fnExactPreinjectivePencilRow.holds Try.pinned (OpenSpec.ofChange fnExactPreinjectivePencilSpec)

/-- ITS FALSE NEIGHBOUR: 'it returns false'. Refute it at one input. -/
def fnExactPreinjectivePencilWrong : ChangeSpec := { name := "fnExactPreinjectivePencil", fn := fun _ => fun
  | [d1, d2] => { results := [.lit (.bool false)], args := [d1, d2] }
  | _ => none }
def FnExactPreinjectivePencilWrongFalsely : Prop := fnExactPreinjectivePencilRow.holds Try.pinned (OpenSpec.ofChange fnExactPreinjectivePencilWrong)

/- THE SECOND FORM. 'bulk': how many values and letters a reading holds, each counted each time it is reached (what is shared counts as often as it is met; a slice's spare places count too). A statement '..UptoSaid' is the law's where the arguments, and the package variables that the reading takes, are together of bulk at most 1048576: NARROWER than '..Said'. Prove '..Said' where nothing that the law and all that it calls make is longer than what came in: it says more and counts as full. Else prove '..UptoSaid'. A law counts once. -/
mutual
def uptoBulk {H : Type} : DataW H → Nat
  | .lit (.string bytes) => bytes.length + 1
  | .lit _ => 1
  | .nil => 1
  | .ptr d => uptoBulk d + 1
  | .slice elems spare => uptoBulkAll elems + uptoBulkAll spare + 1
  | .agg parts => uptoBulkAll parts + 1
  | .iface _ d => uptoBulk d + 1
  | .map entries => uptoBulkEntries entries + 1
  | .held _ => 1
def uptoBulkAll {H : Type} : List (DataW H) → Nat
  | [] => 0
  | d :: r => uptoBulk d + uptoBulkAll r
def uptoBulkEntries {H : Type} : List (Lit × DataW H) → Nat
  | [] => 0
  | x :: r => uptoBulkEntry x + uptoBulkEntries r
def uptoBulkEntry {H : Type} : Lit × DataW H → Nat
  | (.string bytes, d) => bytes.length + uptoBulk d + 1
  | (_, d) => uptoBulk d + 1
 end
def uptoSmall : (H : Type) → List (DataW H) → Bool := fun _ ds => decide (uptoBulkAll ds ≤ 1048576)
def OpenSpec.upto (s : _root_.Go.ChangeSpec) : _root_.Go.OpenSpec := { _root_.Go.OpenSpec.ofChange s with cond := some uptoSmall }

/-- 'laws.FnExactAreBars', WHERE WHAT IT READS IS OF BULK AT MOST 1048576: true; the input reads as it did. -/
def fnExactAreBarsUptoRow : OpenClaim := { program := "ytpcgjjflmhnimaa", sum := "807851d96fef003bd9c398580d75ec33fac0af3f9196859f71fbb243eac8e096", func := "loop.example/g03404/laws.FnExactAreBars", spec := "fnExactAreBars", unfollowed := true, recurses := true, apart := false, narrowed := true }
def FnExactAreBarsUptoSaid : Prop := fnExactAreBarsUptoRow.holds Try.pinned (OpenSpec.upto fnExactAreBarsSpec)

/-- 'laws.FnExactIsPencil', WHERE WHAT IT READS IS OF BULK AT MOST 1048576: true; the input reads as it did. -/
def fnExactIsPencilUptoRow : OpenClaim := { program := "ytpcgjjflmhnimaa", sum := "807851d96fef003bd9c398580d75ec33fac0af3f9196859f71fbb243eac8e096", func := "loop.example/g03404/laws.FnExactIsPencil", spec := "fnExactIsPencil", unfollowed := true, recurses := true, apart := false, narrowed := true }
def FnExactIsPencilUptoSaid : Prop := fnExactIsPencilUptoRow.holds Try.pinned (OpenSpec.upto fnExactIsPencilSpec)

/-- 'laws.FnExactZigzagInterval', WHERE WHAT IT READS IS OF BULK AT MOST 1048576: true; the input reads as it did. -/
def fnExactZigzagIntervalUptoRow : OpenClaim := { program := "ytpcgjjflmhnimaa", sum := "807851d96fef003bd9c398580d75ec33fac0af3f9196859f71fbb243eac8e096", func := "loop.example/g03404/laws.FnExactZigzagInterval", spec := "fnExactZigzagInterval", unfollowed := true, recurses := true, apart := false, narrowed := true }
def FnExactZigzagIntervalUptoSaid : Prop := fnExactZigzagIntervalUptoRow.holds Try.pinned (OpenSpec.upto fnExactZigzagIntervalSpec)

/-- 'laws.FnExactIntervalRep', WHERE WHAT IT READS IS OF BULK AT MOST 1048576: true; the input reads as it did. -/
def fnExactIntervalRepUptoRow : OpenClaim := { program := "ytpcgjjflmhnimaa", sum := "807851d96fef003bd9c398580d75ec33fac0af3f9196859f71fbb243eac8e096", func := "loop.example/g03404/laws.FnExactIntervalRep", spec := "fnExactIntervalRep", unfollowed := true, recurses := true, apart := false, narrowed := true }
def FnExactIntervalRepUptoSaid : Prop := fnExactIntervalRepUptoRow.holds Try.pinned (OpenSpec.upto fnExactIntervalRepSpec)

/-- 'laws.FnExactPencilOf', WHERE WHAT IT READS IS OF BULK AT MOST 1048576: true; the input reads as it did. -/
def fnExactPencilOfUptoRow : OpenClaim := { program := "ytpcgjjflmhnimaa", sum := "807851d96fef003bd9c398580d75ec33fac0af3f9196859f71fbb243eac8e096", func := "loop.example/g03404/laws.FnExactPencilOf", spec := "fnExactPencilOf", unfollowed := true, recurses := true, apart := false, narrowed := true }
def FnExactPencilOfUptoSaid : Prop := fnExactPencilOfUptoRow.holds Try.pinned (OpenSpec.upto fnExactPencilOfSpec)

/-- 'laws.FnExactPreprojectivePencil', WHERE WHAT IT READS IS OF BULK AT MOST 1048576: true; the input reads as it did. -/
def fnExactPreprojectivePencilUptoRow : OpenClaim := { program := "ytpcgjjflmhnimaa", sum := "807851d96fef003bd9c398580d75ec33fac0af3f9196859f71fbb243eac8e096", func := "loop.example/g03404/laws.FnExactPreprojectivePencil", spec := "fnExactPreprojectivePencil", unfollowed := true, recurses := true, apart := false, narrowed := true }
def FnExactPreprojectivePencilUptoSaid : Prop := fnExactPreprojectivePencilUptoRow.holds Try.pinned (OpenSpec.upto fnExactPreprojectivePencilSpec)

/-- 'laws.FnExactCoxeterOf', WHERE WHAT IT READS IS OF BULK AT MOST 1048576: true; the input reads as it did. -/
def fnExactCoxeterOfUptoRow : OpenClaim := { program := "ytpcgjjflmhnimaa", sum := "807851d96fef003bd9c398580d75ec33fac0af3f9196859f71fbb243eac8e096", func := "loop.example/g03404/laws.FnExactCoxeterOf", spec := "fnExactCoxeterOf", unfollowed := true, recurses := true, apart := false, narrowed := true }
def FnExactCoxeterOfUptoSaid : Prop := fnExactCoxeterOfUptoRow.holds Try.pinned (OpenSpec.upto fnExactCoxeterOfSpec)

/-- 'laws.FnExactRegularPencil', WHERE WHAT IT READS IS OF BULK AT MOST 1048576: true; the input reads as it did. -/
def fnExactRegularPencilUptoRow : OpenClaim := { program := "ytpcgjjflmhnimaa", sum := "807851d96fef003bd9c398580d75ec33fac0af3f9196859f71fbb243eac8e096", func := "loop.example/g03404/laws.FnExactRegularPencil", spec := "fnExactRegularPencil", unfollowed := true, recurses := true, apart := false, narrowed := true }
def FnExactRegularPencilUptoSaid : Prop := fnExactRegularPencilUptoRow.holds Try.pinned (OpenSpec.upto fnExactRegularPencilSpec)

/-- 'laws.FnExactIsInjectiveRoot', WHERE WHAT IT READS IS OF BULK AT MOST 1048576: true; the input reads as it did. -/
def fnExactIsInjectiveRootUptoRow : OpenClaim := { program := "ytpcgjjflmhnimaa", sum := "807851d96fef003bd9c398580d75ec33fac0af3f9196859f71fbb243eac8e096", func := "loop.example/g03404/laws.FnExactIsInjectiveRoot", spec := "fnExactIsInjectiveRoot", unfollowed := true, recurses := true, apart := false, narrowed := true }
def FnExactIsInjectiveRootUptoSaid : Prop := fnExactIsInjectiveRootUptoRow.holds Try.pinned (OpenSpec.upto fnExactIsInjectiveRootSpec)

/-- 'laws.FnExactIsProjectiveRoot', WHERE WHAT IT READS IS OF BULK AT MOST 1048576: true; the input reads as it did. -/
def fnExactIsProjectiveRootUptoRow : OpenClaim := { program := "ytpcgjjflmhnimaa", sum := "807851d96fef003bd9c398580d75ec33fac0af3f9196859f71fbb243eac8e096", func := "loop.example/g03404/laws.FnExactIsProjectiveRoot", spec := "fnExactIsProjectiveRoot", unfollowed := true, recurses := true, apart := false, narrowed := true }
def FnExactIsProjectiveRootUptoSaid : Prop := fnExactIsProjectiveRootUptoRow.holds Try.pinned (OpenSpec.upto fnExactIsProjectiveRootSpec)

/-- 'laws.FnExactCoxeterPower', WHERE WHAT IT READS IS OF BULK AT MOST 1048576: true; the input reads as it did. -/
def fnExactCoxeterPowerUptoRow : OpenClaim := { program := "ytpcgjjflmhnimaa", sum := "807851d96fef003bd9c398580d75ec33fac0af3f9196859f71fbb243eac8e096", func := "loop.example/g03404/laws.FnExactCoxeterPower", spec := "fnExactCoxeterPower", unfollowed := true, recurses := true, apart := false, narrowed := true }
def FnExactCoxeterPowerUptoSaid : Prop := fnExactCoxeterPowerUptoRow.holds Try.pinned (OpenSpec.upto fnExactCoxeterPowerSpec)

/-- 'laws.FnExactPreinjectivePencil', WHERE WHAT IT READS IS OF BULK AT MOST 1048576: true; the input reads as it did. -/
def fnExactPreinjectivePencilUptoRow : OpenClaim := { program := "ytpcgjjflmhnimaa", sum := "807851d96fef003bd9c398580d75ec33fac0af3f9196859f71fbb243eac8e096", func := "loop.example/g03404/laws.FnExactPreinjectivePencil", spec := "fnExactPreinjectivePencil", unfollowed := true, recurses := true, apart := false, narrowed := true }
def FnExactPreinjectivePencilUptoSaid : Prop := fnExactPreinjectivePencilUptoRow.holds Try.pinned (OpenSpec.upto fnExactPreinjectivePencilSpec)

end Rows
end Go.Proofs.Ytpcgjjflmhnimaa
