/- Contracts of functions of the given program, without a condition beyond those that each theorem states; they lead to the given statement. -/
import Derived.Test.YtoadkchhimojlaaGreatG02e
set_option linter.unusedSimpArgs false
set_option linter.unusedVariables false
set_option maxRecDepth 100000
namespace Go.Proofs.YtoadkchhimojlaaGreat.W2
open Go Go.Fl
open Classical
def holdsB (s : Shop) (l : List Int) (w : List Int) : Bool := (List.range l.length).all fun i => decide (gv l i ≤ lf s w i)
def cntP (p : List Int → Bool) (W : List (List Int)) : Int := (W.filter p).length
theorem take_succ {α : Type} {l : List α} {j : Nat} {x : α} (h : l[j]? = some x) : l.take (j + 1) = l.take j ++ [x] := by rw [List.take_add_one, h]; rfl
theorem aW_len {s : Shop} (hv : valid s) : (aW s).length ≤ 6 := by
  have h6 := hv.2.2.1
  have := List.length_filter_le (agrB s) s.ws
  unfold aW; omega
def cnt (s : Shop) (l : List Int) : Int := cntP (holdsB s l) (aW s)
def part (s : Shop) (l : List Int) : Int × Int := (((cnt s l).toNat / Nat.gcd (cnt s l).toNat (aW s).length : Nat), ((aW s).length / Nat.gcd (cnt s l).toNat (aW s).length : Nat))
end Go.Proofs.YtoadkchhimojlaaGreat.W2

