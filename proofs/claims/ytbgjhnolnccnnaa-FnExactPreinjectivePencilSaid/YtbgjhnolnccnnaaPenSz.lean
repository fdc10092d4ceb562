/- What PencilOf hands back is small. -/
import Derived.Test.YtbgjhnolnccnnaaPenOf2
import Derived.Test.YtbgjhnolnccnnaaRepSz
namespace Go.Proofs.Ytbgjhnolnccnnaa
set_option linter.unusedVariables false
set_option linter.unusedSimpArgs false
open Go.RowKit
theorem penOf_size (p : Int) (a b : Mx) : (penOf p a b).1.size ≤ 1000 := by
  unfold penOf
  split
  · rename_i h; exact isRep_size h
  · decide
end Go.Proofs.Ytbgjhnolnccnnaa
