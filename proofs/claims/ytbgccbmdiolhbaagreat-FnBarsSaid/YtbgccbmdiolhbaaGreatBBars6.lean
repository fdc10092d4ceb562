/- FnBars: the law holds for every argument. Part 6 of 16 of the proof: Rev. No condition. -/
import Derived.Test.YtbgccbmdiolhbaaGreatBBars5
import Derived.Ground.NamesProg
import Derived.Ground.Names2Prog
import Derived.Shelf.Lay
import Derived.Shelf.Slices.Reverse
import Derived.Lib.OwnBridge
set_option linter.unusedVariables false
set_option linter.unusedSimpArgs false
set_option maxHeartbeats 12800000
set_option maxRecDepth 100000
namespace Go.Proofs.YtbgccbmdiolhbaaGreat
open Go.RowKit
end Go.Proofs.YtbgccbmdiolhbaaGreat

