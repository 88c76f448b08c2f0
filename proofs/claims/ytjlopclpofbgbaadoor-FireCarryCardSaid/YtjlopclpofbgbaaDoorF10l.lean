/- Contracts of functions of the given program, without a condition beyond those that each theorem states; they lead to the given statement. -/
import Derived.Test.YtjlopclpofbgbaaDoorF10k
set_option linter.unusedSimpArgs false
set_option linter.unusedVariables false
set_option maxRecDepth 100000
namespace Go.Proofs.YtjlopclpofbgbaaDoor
open Go Go.Fl
open Classical
abbrev house (t : Town) (b : Int) : Prop := within b 0 (t.rm.length - 1)
abbrev thing (t : Town) (i : Int) : Prop := within i 0 (t.ts.length - 1)
theorem ask_ne {t : Town} {is : Prop} (h : ¬ (validT t ∧ is)) : ¬ askT t is = 0 := fun e => h (by rwa [askT0] at e)
theorem validT.things {t : Town} (h : validT t) : okThings t.ts := h.1.things
theorem validT.len {t : Town} (h : validT t) : t.ts.length ≤ 8 := h.1.1
theorem validT.lp {t : Town} (h : validT t) : t.pl.length = t.ts.length := h.2.2.2.1
theorem validT.lc {t : Town} (h : validT t) : t.ca.length = t.ts.length := h.2.2.2.2.2.1
noncomputable def allI (n : Nat) : List Int := sel (fun _ => True) n
def safeP (t : Town) : Prop := ∀ b : Nat, b < t.rm.length → los t b = [] ∧ sta t b = []
theorem los_len {t : Town} {b : Int} : (los t b).length ≤ t.ts.length := Nat.le_trans fil_len pags_len
theorem sta_len {t : Town} {b : Int} : (sta t b).length ≤ t.ts.length := Nat.le_trans fil_len pags_len
end Go.Proofs.YtjlopclpofbgbaaDoor

