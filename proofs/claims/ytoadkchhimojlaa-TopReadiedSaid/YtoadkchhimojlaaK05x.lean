/- Contracts of functions of the given program, without a condition beyond those that each theorem states; they lead to the given statement. -/
import Derived.Test.YtoadkchhimojlaaK05w
set_option linter.unusedSimpArgs false
set_option linter.unusedVariables false
set_option maxRecDepth 100000
namespace Go.Proofs.Ytoadkchhimojlaa.W5
open Go Go.Fl
open Classical
def one (j : Job) : Job := ⟨j.beat, j.low, j.high, j.pour, j.due, 1⟩
end Go.Proofs.Ytoadkchhimojlaa.W5

