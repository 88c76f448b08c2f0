/- Contracts of functions of the given program, without a condition beyond those that each theorem states; they lead to the given statement. -/
import Derived.Test.YtoadkchhimojlaaK05t
set_option linter.unusedSimpArgs false
set_option linter.unusedVariables false
set_option maxRecDepth 100000
namespace Go.Proofs.Ytoadkchhimojlaa.W5
open Go Go.Fl
open Classical
theorem hiL_ok {s : List Job} (hv : valid s) : okDry s (hiL s) := ⟨by simp [hiL], fun x hx => by rw [hiL_gv]; exact hiD_ok hv x hx⟩
end Go.Proofs.Ytoadkchhimojlaa.W5

