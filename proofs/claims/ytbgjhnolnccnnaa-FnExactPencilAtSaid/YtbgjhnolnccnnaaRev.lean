/- slices.Reverse at []int, on a row of the call's own: the shelf's contract. -/
import Derived.Test.YtbgjhnolnccnnaaKit
import Derived.Ground.NamesProg
import Derived.Ground.Names2Prog
import Derived.Shelf.Lay
import Derived.Shelf.Slices.Reverse
import Derived.Lib.OwnBridge
namespace Go.Proofs.Ytbgjhnolnccnnaa
set_option linter.unusedVariables false
set_option linter.unusedSimpArgs false
open Go.RowKit

end Go.Proofs.Ytbgjhnolnccnnaa
