/- Contracts of functions of the given program, without a condition beyond those that each theorem states; they lead to the given statement. -/
import Derived.Test.YtoadkchhimojlaaK02c
set_option linter.unusedSimpArgs false
set_option linter.unusedVariables false
set_option maxRecDepth 100000
namespace Go.Proofs.Ytoadkchhimojlaa.W2
open Go Go.Fl
open Classical
theorem check_no {s : Shop} (hv : ¬ valid s) : check s = 20 := by simp [check, hv]
end Go.Proofs.Ytoadkchhimojlaa.W2

