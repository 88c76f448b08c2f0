/- Contracts of functions of the given program, without a condition beyond those that each theorem states; they lead to the given statement. -/
import Derived.Test.YtoadkchhimojlaaK02b
set_option linter.unusedSimpArgs false
set_option linter.unusedVariables false
set_option maxRecDepth 100000
namespace Go.Proofs.Ytoadkchhimojlaa.W2
open Go Go.Fl
open Classical
theorem valid.want {s : Shop} (h : valid s) {i : Nat} {n : Int} (hn : s.wt[i]? = some n) : 0 ≤ n ∧ n ≤ 12 := h.2.2.2.2.1 n (List.mem_of_getElem? hn)
def agr1 (m : Mould) (x : Int) : Bool := decide (m.used ≤ x) && (!(decide (m.broke = 1)) || decide (x = m.used))
def agrB (s : Shop) (w : List Int) : Bool := (List.range s.ms.length).all fun i => match s.ms[i]? with
  | some m => agr1 m (gv w i)
  | none => true
def gw (s : Shop) (n : Int) : List Int := (s.ws[n.toNat]?).getD []
def gd (s : Shop) (n : Nat) : Bool := agrB s (gw s n)
def uo (s : Shop) (i : Int) : Int := match s.ms[i.toNat]? with | some m => m.used | none => 0
def lf (s : Shop) (w : List Int) (i : Int) : Int := gv w i - uo s i
def aW (s : Shop) : List (List Int) := s.ws.filter (agrB s)
def loW (s : Shop) (W : List (List Int)) (i : Int) : Int := low (W.map fun w => lf s w i)
def hiW (s : Shop) (W : List (List Int)) (i : Int) : Int := high (W.map fun w => lf s w i)
def lo (s : Shop) (i : Int) : Int := loW s (aW s) i
def hi (s : Shop) (i : Int) : Int := hiW s (aW s) i
end Go.Proofs.Ytoadkchhimojlaa.W2

