/- FnFiltrations: the law holds for every argument. Part 5 of 18 of the proof: Rev. No condition. -/
import Derived.Test.YtgabmemalaklbaaGreatBFiltrations4
import Derived.Ground.NamesProg
import Derived.Ground.Names2Prog
import Derived.Shelf.Lay
import Derived.Shelf.Slices.Reverse
import Derived.Lib.OwnBridge
/- slices.Reverse at []int, on a row of the call's own: the shelf's contract. -/
namespace Go.Proofs.YtgabmemalaklbaaGreat
set_option linter.unusedVariables false
set_option linter.unusedSimpArgs false
open Go.RowKit

end Go.Proofs.YtgabmemalaklbaaGreat
