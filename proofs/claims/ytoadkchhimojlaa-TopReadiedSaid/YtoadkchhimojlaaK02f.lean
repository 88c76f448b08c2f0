/- Contracts of functions of the given program, without a condition beyond those that each theorem states; they lead to the given statement. -/
import Derived.Test.YtoadkchhimojlaaK02d
set_option linter.unusedSimpArgs false
set_option linter.unusedVariables false
set_option maxRecDepth 100000
namespace Go.Proofs.Ytoadkchhimojlaa.W2
open Go Go.Fl
open Classical
def holdsB (s : Shop) (l : List Int) (w : List Int) : Bool := (List.range l.length).all fun i => decide (gv l i ≤ lf s w i)
def cntP (p : List Int → Bool) (W : List (List Int)) : Int := (W.filter p).length
theorem take_succ {α : Type} {l : List α} {j : Nat} {x : α} (h : l[j]? = some x) : l.take (j + 1) = l.take j ++ [x] := by rw [List.take_add_one, h]; rfl
def cnt (s : Shop) (l : List Int) : Int := cntP (holdsB s l) (aW s)
def part (s : Shop) (l : List Int) : Int × Int := (((cnt s l).toNat / Nat.gcd (cnt s l).toNat (aW s).length : Nat), ((aW s).length / Nat.gcd (cnt s l).toNat (aW s).length : Nat))
end Go.Proofs.Ytoadkchhimojlaa.W2

