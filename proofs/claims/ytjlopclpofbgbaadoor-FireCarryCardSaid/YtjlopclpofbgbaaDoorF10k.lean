/- Contracts of functions of the given program, without a condition beyond those that each theorem states; they lead to the given statement. -/
import Derived.Test.YtjlopclpofbgbaaDoorF10j
set_option linter.unusedSimpArgs false
set_option linter.unusedVariables false
set_option maxRecDepth 100000
namespace Go.Proofs.YtjlopclpofbgbaaDoor
open Go Go.Fl
open Classical
def pgP (t : Town) (i : Nat) : Prop := isPage t i ∧ thg t i ≠ []
noncomputable def pags (t : Town) : List Int := sel (pgP t) t.ts.length
def stays (t : Town) (b : Int) (j : Int) : Prop := there t j ∧ gv t.pl j ≠ b
noncomputable def lft (t : Town) (l : List Int) (b : Int) : List Int := fil (stays t b) l
theorem thg_len {t : Town} {p : Int} : (thg t p).length ≤ t.ts.length := sel_len _ _
theorem pags_len {t : Town} : (pags t).length ≤ t.ts.length := sel_len _ _
def losP (t : Town) (b p : Int) : Prop := lft t (thg t p) b = []
noncomputable def los (t : Town) (b : Int) : List Int := fil (losP t b) (pags t)
theorem len0' {l : List Int} : ((l.length : Int) = 0) ↔ l = [] := ⟨fun h => List.eq_nil_of_length_eq_zero (by omega), fun h => by rw [h]; rfl⟩
def staP (t : Town) (b p : Int) : Prop := lft t (thg t p) b ≠ [] ∧ ¬ ∃ x, x ∈ lft t (thg t p) b ∧ fr t x
noncomputable def sta (t : Town) (b : Int) : List Int := fil (staP t b) (pags t)
end Go.Proofs.YtjlopclpofbgbaaDoor

