/- PreprojectivePencil. -/
import Derived.Test.YtbgjhnolnccnnaaShift
namespace Go.Proofs.Ytbgjhnolnccnnaa
set_option linter.unusedVariables false
set_option linter.unusedSimpArgs false
open Go.RowKit

def prepP (p n : Int) : Rp × Bool := if inR n 0 3 then penOf p (shA n.toNat) (shB n.toNat) else (rp0, false)

end Go.Proofs.Ytbgjhnolnccnnaa
