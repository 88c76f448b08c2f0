/- Contracts of functions of the given program, without a condition beyond those that each theorem states; they lead to the given statement. -/
import Derived.Test.YtoadkchhimojlaaGreatG02s
set_option linter.unusedSimpArgs false
set_option linter.unusedVariables false
set_option maxRecDepth 100000
namespace Go.Proofs.YtoadkchhimojlaaGreat.W2
open Go Go.Fl
open Classical
theorem aW_exS : aW exS = [[8, 9, 2, 4], [6, 9, 2, 6], [12, 7, 2, 3]] := by decide +kernel
theorem kn_exS : kn exS True = 0 := kn0.2 ⟨exS_valid, trivial, by rw [aW_exS]; simp⟩
theorem w23 : PC Tryz.prog 13 [exR] (.tup [lN [3, 2, 0, 3], .int .i64 0]) := by
  have h := PC.lo (args := [exR]) (c13 exS) rfl
  have e : rDivide exS = ([3, 2, 0, 3], 0) := by
    rw [show rDivide exS = _ from if_pos kn_exS]
    decide +kernel
  rw [e] at h; exact h
end Go.Proofs.YtoadkchhimojlaaGreat.W2

