/- Contracts of functions of the given program, without a condition beyond those that each theorem states; they lead to the given statement. -/
import Derived.Test.YtoadkchhimojlaaGreatG02c
set_option linter.unusedSimpArgs false
set_option linter.unusedVariables false
set_option maxRecDepth 100000
namespace Go.Proofs.YtoadkchhimojlaaGreat.W2
open Go Go.Fl
open Classical
noncomputable def kn (s : Shop) (is : Prop) : Int := if valid s then if is then if aW s = [] then 3 else 0 else 1 else 20
theorem kn0 {s : Shop} {is : Prop} : kn s is = 0 ↔ valid s ∧ is ∧ aW s ≠ [] := by
  unfold kn
  by_cases hv : valid s <;> by_cases hi : is <;> by_cases hw : aW s = [] <;> simp [hv, hi, hw]
theorem check_valid {s : Shop} (hv : valid s) : check s = 0 := by simp [check, hv]
theorem check_no {s : Shop} (hv : ¬ valid s) : check s = 20 := by simp [check, hv]
end Go.Proofs.YtoadkchhimojlaaGreat.W2

