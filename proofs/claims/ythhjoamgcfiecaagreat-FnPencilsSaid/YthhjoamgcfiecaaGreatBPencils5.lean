/- FnPencils: the law holds for every argument. Part 5 of 18 of the proof: Rev. No condition. -/
import Derived.Test.YthhjoamgcfiecaaGreatBPencils4
import Derived.Ground.NamesProg
import Derived.Ground.Names2Prog
import Derived.Shelf.Lay
import Derived.Shelf.Slices.Reverse
import Derived.Lib.OwnBridge
set_option linter.unusedVariables false
set_option linter.unusedSimpArgs false
namespace Go.Proofs.YthhjoamgcfiecaaGreat
open Go.RowKit
end Go.Proofs.YthhjoamgcfiecaaGreat
