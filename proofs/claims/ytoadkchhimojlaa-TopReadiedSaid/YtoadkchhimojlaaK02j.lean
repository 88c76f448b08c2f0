/- Contracts of functions of the given program, without a condition beyond those that each theorem states; they lead to the given statement. -/
import Derived.Test.YtoadkchhimojlaaK02h
set_option linter.unusedSimpArgs false
set_option linter.unusedVariables false
set_option maxRecDepth 100000
namespace Go.Proofs.Ytoadkchhimojlaa.W2
open Go Go.Fl
open Classical
def arr (f : Nat → Int) : List Int := (List.range 5).map f
def lvF (s : Shop) (w : List Int) (k i : Nat) : Int := if i < k then lf s w i else 0
def lvT (s : Shop) (w : List Int) (k : Nat) : List Int := arr (lvF s w k)
def lv (s : Shop) (w : List Int) : List Int := lvT s w s.ms.length
def mxF (s : Shop) (W : List (List Int)) (w : List Int) (k i : Nat) : Int := if i < s.ms.length then (if i < k then loW s (W ++ [w]) i else loW s W i) else 0
def mx (s : Shop) (W : List (List Int)) (w : List Int) (k : Nat) : List Int := arr (mxF s W w k)
abbrev encL (s : Shop) (W : List (List Int)) : List (List AV) := (W.map (lv s)).map fun l => l.map I
end Go.Proofs.Ytoadkchhimojlaa.W2

