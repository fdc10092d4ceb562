/- FnExactReflectSource: for every argument the program's function returns what the reference's returns. Part 4 of 14 of the proof: Rev. No condition. -/
import Derived.Test.YtaefpblpfjhgoaaGreatBReflectSource3
import Derived.Ground.NamesProg
import Derived.Ground.Names2Prog
import Derived.Shelf.Lay
import Derived.Shelf.Slices.Reverse
import Derived.Lib.OwnBridge
/- slices.Reverse at []int, on a row of the call's own: the shelf's contract. -/
namespace Go.Proofs.YtaefpblpfjhgoaaGreat
set_option linter.unusedVariables false
set_option linter.unusedSimpArgs false
open Go.RowKit

end Go.Proofs.YtaefpblpfjhgoaaGreat
