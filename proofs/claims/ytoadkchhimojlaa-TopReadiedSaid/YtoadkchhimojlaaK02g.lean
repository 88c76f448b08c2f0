/- Contracts of functions of the given program, without a condition beyond those that each theorem states; they lead to the given statement. -/
import Derived.Test.YtoadkchhimojlaaK02f
set_option linter.unusedSimpArgs false
set_option linter.unusedVariables false
set_option maxRecDepth 100000
namespace Go.Proofs.Ytoadkchhimojlaa.W2
open Go Go.Fl
open Classical
def sp1 (s : Shop) (l : List Int) (k : Nat) (n : Int) : Int := if 0 < gv l k then min n (lo s k - gv l k) else n
end Go.Proofs.Ytoadkchhimojlaa.W2

