/- Contracts of functions of the given program, without a condition beyond those that each theorem states; they lead to the given statement. -/
import Derived.Test.YtoadkchhimojlaaK05c
set_option linter.unusedSimpArgs false
set_option linter.unusedVariables false
set_option maxRecDepth 100000
namespace Go.Proofs.Ytoadkchhimojlaa.W5
open Go Go.Fl
open Classical
def worT (s : List Job) (dr : Int → Int) (o : List Int) : Nat → Int
  | 0 => 0
  | k + 1 => worT s dr o k + if (fin s dr (o.take (k + 1))).2 ≤ (jb s (gv o k)).due then (jb s (gv o k)).worth else 0
def wor (s : List Job) (dr : Int → Int) (o : List Int) : Int := worT s dr o o.length
theorem worT_yes {s : List Job} {dr : Int → Int} {o : List Int} {k : Nat} {x : Int} (hx : o[k]? = some x) (h : (fin s dr (o.take (k + 1))).2 ≤ (jb s x).due) : worT s dr o (k + 1) = worT s dr o k + (jb s x).worth := by
  simp only [worT]; rw [gv_nat hx, if_pos h]
theorem worT_no {s : List Job} {dr : Int → Int} {o : List Int} {k : Nat} {x : Int} (hx : o[k]? = some x) (h : ¬ (fin s dr (o.take (k + 1))).2 ≤ (jb s x).due) : worT s dr o (k + 1) = worT s dr o k := by
  simp only [worT]; rw [gv_nat hx, if_neg h]; omega
theorem worT_bounds {s : List Job} (hv : valid s) {dr : Int → Int} {o : List Int} (ho : onJ s o) : ∀ k : Nat, k ≤ o.length → 0 ≤ worT s dr o k ∧ worT s dr o k ≤ 99 * k
  | 0, _ => by simp [worT]
  | k + 1, h => by
    have ih := worT_bounds hv (dr := dr) ho k (by omega)
    obtain ⟨x, hx⟩ := get_of (l := o) (j := k) (by omega)
    have hj := hv.jb (ho x (List.mem_of_getElem? hx))
    unfold okJob within at hj
    by_cases h1 : (fin s dr (o.take (k + 1))).2 ≤ (jb s x).due
    · rw [worT_yes hx h1]; omega
    · rw [worT_no hx h1]; omega
def snT (s : List Job) (o : List Int) : Nat → Int
  | 0 => 0
  | k + 1 => snT s o k + if (fin s (hiD s) (o.take (k + 1))).2 ≤ (jb s (gv o k)).due then 1 else 0
theorem snT_yes {s : List Job} {o : List Int} {k : Nat} {x : Int} (hx : o[k]? = some x) (h : (fin s (hiD s) (o.take (k + 1))).2 ≤ (jb s x).due) : snT s o (k + 1) = snT s o k + 1 := by
  simp only [snT]; rw [gv_nat hx, if_pos h]
theorem snT_no {s : List Job} {o : List Int} {k : Nat} {x : Int} (hx : o[k]? = some x) (h : ¬ (fin s (hiD s) (o.take (k + 1))).2 ≤ (jb s x).due) : snT s o (k + 1) = snT s o k := by
  simp only [snT]; rw [gv_nat hx, if_neg h]; omega
end Go.Proofs.Ytoadkchhimojlaa.W5

