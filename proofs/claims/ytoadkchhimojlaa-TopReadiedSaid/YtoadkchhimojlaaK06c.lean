/- Contracts of functions of the given program, without a condition beyond those that each theorem states; they lead to the given statement. -/
import Derived.Test.YtoadkchhimojlaaK06b
set_option linter.unusedSimpArgs false
set_option linter.unusedVariables false
set_option maxRecDepth 100000
namespace Go.Proofs.Ytoadkchhimojlaa.W5
open Go Go.Fl
open Classical
theorem w59 : PC Try.prog 19 [hS exS] (.tup [lN [1, 2, 0], .int .i64 0]) := by
  have h := c19 exS
  rw [check_yes exS_valid, if_pos rfl, w_rule] at h; exact h
end Go.Proofs.Ytoadkchhimojlaa.W5

