/- Contracts of functions of the given program, without a condition beyond those that each theorem states; they lead to the given statement. -/
import Derived.Test.YtjjlcjibhjmhmaaU05x
set_option linter.unusedSimpArgs false
set_option linter.unusedVariables false
set_option maxRecDepth 100000
namespace Go.Proofs.Ytjjlcjibhjmhmaa
open Go Go.Fl
open Classical
def one (j : Job) : Job := ⟨j.beat, j.low, j.high, j.pour, j.due, 1⟩
theorem setJ {m : List Job} {i : Nat} {j : Job} : (m.map encJ).set i (encJ j) = (m.set i j).map encJ := by rw [List.map_set]
end Go.Proofs.Ytjjlcjibhjmhmaa

