/- Contracts of functions of the given program, without a condition beyond those that each theorem states; they lead to the given statement. -/
import Derived.Test.YtekdocalipchpaaV02e
set_option linter.unusedSimpArgs false
set_option linter.unusedVariables false
set_option maxRecDepth 100000
namespace Go.Proofs.Ytekdocalipchpaa
open Go Go.Fl
open Classical
def holdsB (s : Shop) (l : List Int) (w : List Int) : Bool := (List.range l.length).all fun i => decide (gv l i ≤ lf s w i)
theorem holdsB_iff {s : Shop} {l w : List Int} : holdsB s l w = true ↔ ∀ (i : Nat) (x : Int), l[i]? = some x → x ≤ lf s w i := by
  simp only [holdsB, List.all_eq_true, List.mem_range, decide_eq_true_eq]
  constructor
  · intro h i x hx
    have := h i (List.getElem?_eq_some_iff.1 hx).1
    rwa [gv_nat hx] at this
  · intro h i hi
    obtain ⟨x, hx⟩ := get_of hi
    rw [gv_nat hx]; exact h i x hx
def cntP (p : List Int → Bool) (W : List (List Int)) : Int := (W.filter p).length
theorem cntP_app {p : List Int → Bool} {W : List (List Int)} {w : List Int} : cntP p (W ++ [w]) = cntP p W + (if p w = true then 1 else 0) := by
  by_cases h : p w = true <;> simp [cntP, List.filter_append, h]
theorem cntP_bounds (p : List Int → Bool) (W : List (List Int)) : 0 ≤ cntP p W ∧ cntP p W ≤ W.length := by
  have := List.length_filter_le p W
  unfold cntP; omega
theorem take_succ {α : Type} {l : List α} {j : Nat} {x : α} (h : l[j]? = some x) : l.take (j + 1) = l.take j ++ [x] := by rw [List.take_add_one, h]; rfl
theorem aW_len {s : Shop} (hv : valid s) : (aW s).length ≤ 6 := by
  have h6 := hv.2.2.1
  have := List.length_filter_le (agrB s) s.ws
  unfold aW; omega
def cnt (s : Shop) (l : List Int) : Int := cntP (holdsB s l) (aW s)
noncomputable abbrev knS (s : Shop) (l : List Int) : Int := kn s (isShB s l = true)
def part (s : Shop) (l : List Int) : Int × Int := (((cnt s l).toNat / Nat.gcd (cnt s l).toNat (aW s).length : Nat), ((aW s).length / Nat.gcd (cnt s l).toNat (aW s).length : Nat))
noncomputable def rChance (s : Shop) (l : List Int) : (Int × Int) × Int := ans (knS s l) (0, 0) (part s l)
theorem sh_len {s : Shop} {l : List Int} (h : isShB s l = true) : l.length = s.ms.length := (isShB_iff.1 h).1
end Go.Proofs.Ytekdocalipchpaa

