/- FnExactFiltrationRep: for every argument the program's function returns what the reference's returns. Part 5 of 11 of the proof: Rev. No condition. -/
import Derived.Test.YtcmlflppndfdcaaBFiltrationRep4
import Derived.Ground.NamesProg
import Derived.Ground.Names2Prog
import Derived.Shelf.Lay
import Derived.Shelf.Slices.Reverse
import Derived.Lib.OwnBridge
/- slices.Reverse at []int, on a row of the call's own: the shelf's contract. -/
namespace Go.Proofs.Ytcmlflppndfdcaa
set_option linter.unusedVariables false
set_option linter.unusedSimpArgs false
open Go.RowKit

end Go.Proofs.Ytcmlflppndfdcaa
