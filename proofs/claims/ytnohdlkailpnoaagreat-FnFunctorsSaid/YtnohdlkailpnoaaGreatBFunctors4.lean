/- FnFunctors: the law holds for every argument. Part 4 of 14 of the proof: Rev. No condition. -/
import Derived.Test.YtnohdlkailpnoaaGreatBFunctors3
import Derived.Ground.NamesProg
import Derived.Ground.Names2Prog
import Derived.Shelf.Lay
import Derived.Shelf.Slices.Reverse
import Derived.Lib.OwnBridge
set_option linter.unusedVariables false
set_option linter.unusedSimpArgs false
set_option maxHeartbeats 12800000
set_option maxRecDepth 100000
namespace Go.Proofs.YtnohdlkailpnoaaGreat
open Go.RowKit
end Go.Proofs.YtnohdlkailpnoaaGreat

