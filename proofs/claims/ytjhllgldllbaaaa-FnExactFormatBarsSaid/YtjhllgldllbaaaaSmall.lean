/- Small functions of numbers. -/
import Derived.Test.YtjhllgldllbaaaaInts
namespace Go.Proofs.Ytjhllgldllbaaaa
set_option linter.unusedVariables false
set_option linter.unusedSimpArgs false
open Go.RowKit

/-- Whether a number lies in a range. -/
def inR (n lo hi : Int) : Bool := decide (lo ≤ n ∧ n ≤ hi)
theorem inR_t {n lo hi : Int} : inR n lo hi = true ↔ lo ≤ n ∧ n ≤ hi := by simp [inR]
theorem inR_f {n lo hi : Int} : inR n lo hi = false ↔ ¬ (lo ≤ n ∧ n ≤ hi) := by simp [inR]
theorem within_any (n lo hi : Int) (w : World) : Calls Try.prog 65 #[.int .i64 n, .int .i64 lo, .int .i64 hi] w fun e w' => e = .returned (.bool (inR n lo hi)) ∧ w' = w := by
  by_cases h1 : n < lo
  · go_enter Try.func65, Try.ntmps65
    go_wp2
    go_ret
    exact ⟨by rw [inR_f.2 (by omega)]; rfl, rfl⟩
  · have h1' : lo ≤ n := by omega
    by_cases h2 : n ≤ hi
    · go_enter Try.func65, Try.ntmps65
      go_wp2
      go_ret
      exact ⟨by rw [inR_t.2 (by omega)]; rfl, rfl⟩
    · have h2' : hi < n := by omega
      go_enter Try.func65, Try.ntmps65
      go_wp2
      go_ret
      exact ⟨by rw [inR_f.2 (by omega)]; rfl, rfl⟩

theorem l1In_any (n lo hi : Int) (w : World) : Calls Try.prog 61 #[.int .i64 n, .int .i64 lo, .int .i64 hi] w fun e w' => e = .returned (.bool (inR n lo hi)) ∧ w' = w := by
  by_cases h1 : n < lo
  · go_enter Try.func61, Try.ntmps61
    go_wp2
    go_ret
    exact ⟨by rw [inR_f.2 (by omega)]; rfl, rfl⟩
  · have h1' : lo ≤ n := by omega
    by_cases h2 : n ≤ hi
    · go_enter Try.func61, Try.ntmps61
      go_wp2
      go_ret
      exact ⟨by rw [inR_t.2 (by omega)]; rfl, rfl⟩
    · have h2' : hi < n := by omega
      go_enter Try.func61, Try.ntmps61
      go_wp2
      go_ret
      exact ⟨by rw [inR_f.2 (by omega)]; rfl, rfl⟩

end Go.Proofs.Ytjhllgldllbaaaa
