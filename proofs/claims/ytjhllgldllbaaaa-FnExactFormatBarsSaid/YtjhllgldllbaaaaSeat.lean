/- Facts of the whole program that every row asks for, each met once for the seat. -/
import Derived.Test.YtjhllgldllbaaaaBase
namespace Go.Proofs.Ytjhllgldllbaaaa
set_option linter.unusedVariables false
set_option linter.unusedSimpArgs false
open Go.RowKit

theorem seatEnter : Try.prog.mayEnter = true := by kernel_rfl
theorem seatLifts : (false == Try.prog.liftsFinal) = true := by kernel_rfl
theorem seatMake : (Try.prog.make == some .cut) = true := by kernel_rfl
theorem band {a b : Bool} (h : a = true) (k : b = true) : (a && b) = true := by rw [h, k]; rfl
end Go.Proofs.Ytjhllgldllbaaaa
