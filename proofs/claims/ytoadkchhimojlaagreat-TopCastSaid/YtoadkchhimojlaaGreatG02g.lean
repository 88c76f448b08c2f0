/- Contracts of functions of the given program, without a condition beyond those that each theorem states; they lead to the given statement. -/
import Derived.Test.YtoadkchhimojlaaGreatG02f
set_option linter.unusedSimpArgs false
set_option linter.unusedVariables false
set_option maxRecDepth 100000
namespace Go.Proofs.YtoadkchhimojlaaGreat.W2
open Go Go.Fl
open Classical
def sp1 (s : Shop) (l : List Int) (k : Nat) (n : Int) : Int := if 0 < gv l k then min n (lo s k - gv l k) else n
def spT (far : Int) (s : Shop) (l : List Int) : Nat → Int
  | 0 => far
  | k + 1 => sp1 s l k (spT far s l k)
theorem spT_bounds {s : Shop} (hv : valid s) {l : List Int} (hl : l.length = s.ms.length) (hx : ∀ n, n ∈ l → 0 ≤ n ∧ n ≤ 12) (far : Int) (hf : 0 ≤ far ∧ far ≤ 1000) : ∀ k : Nat, k ≤ l.length → -12 ≤ spT far s l k ∧ spT far s l k ≤ 1000
  | 0, _ => by simp only [spT]; omega
  | k + 1, hk => by
    have ih := spT_bounds hv hl hx far hf k (by omega)
    obtain ⟨x, hxx⟩ := get_of (l := l) (j := k) (by omega)
    have h1 := hx x (List.mem_of_getElem? hxx)
    have hlb := lo_bounds hv (W := aW s) (fun w hw => aW_mem hw) k (by omega)
    change 0 ≤ lo s k ∧ lo s k ≤ 12 ∧ _ at hlb
    simp only [spT, sp1, gv_nat hxx]
    split <;> omega
end Go.Proofs.YtoadkchhimojlaaGreat.W2

