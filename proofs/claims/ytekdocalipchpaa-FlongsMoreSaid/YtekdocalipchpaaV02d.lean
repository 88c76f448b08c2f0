/- Contracts of functions of the given program, without a condition beyond those that each theorem states; they lead to the given statement. -/
import Derived.Test.YtekdocalipchpaaV02c
set_option linter.unusedSimpArgs false
set_option linter.unusedVariables false
set_option maxRecDepth 100000
namespace Go.Proofs.Ytekdocalipchpaa
open Go Go.Fl
open Classical
noncomputable def kn (s : Shop) (is : Prop) : Int := if valid s then if is then if aW s = [] then 3 else 0 else 1 else 20
theorem kn0 {s : Shop} {is : Prop} : kn s is = 0 ↔ valid s ∧ is ∧ aW s ≠ [] := by
  unfold kn
  by_cases hv : valid s <;> by_cases hi : is <;> by_cases hw : aW s = [] <;> simp [hv, hi, hw]
theorem check_valid {s : Shop} (hv : valid s) : check s = 0 := by simp [check, hv]
theorem check_no {s : Shop} (hv : ¬ valid s) : check s = 20 := by simp [check, hv]
def isShB (s : Shop) (l : List Int) : Bool := decide (l.length = s.ms.length) && (List.range s.ms.length).all fun i => match s.ms[i]? with
  | some m => decide (0 ≤ gv l i) && decide (gv l i ≤ 12) && (!(decide (m.broke = 1)) || decide (gv l i = 0))
  | none => true
def sh1 (m : Mould) (x : Int) : Prop := 0 ≤ x ∧ x ≤ 12 ∧ (m.broke = 1 → x = 0)
theorem isShB_iff {s : Shop} {l : List Int} : isShB s l = true ↔ l.length = s.ms.length ∧ ∀ (i : Nat) (m : Mould), s.ms[i]? = some m → sh1 m (gv l i) := by
  simp only [isShB, Bool.and_eq_true, decide_eq_true_eq, List.all_eq_true, List.mem_range]
  refine and_congr_right fun _ => ⟨fun h i m hm => ?_, fun h i hi => ?_⟩
  · have := h i (List.getElem?_eq_some_iff.1 hm).1
    rw [hm] at this
    simp only [Bool.and_eq_true, decide_eq_true_eq, Bool.or_eq_true, Bool.not_eq_true', decide_eq_false_iff_not] at this
    refine ⟨this.1.1, this.1.2, fun hb => ?_⟩
    rcases this.2 with q | q
    · exact absurd hb q
    · exact q
  · obtain ⟨m, hm⟩ := get_of hi
    obtain ⟨q1, q2, q3⟩ := h i m hm
    rw [hm]
    simp only [Bool.and_eq_true, decide_eq_true_eq, Bool.or_eq_true, Bool.not_eq_true', decide_eq_false_iff_not]
    refine ⟨⟨q1, q2⟩, ?_⟩
    by_cases hb : m.broke = 1
    · exact .inr (q3 hb)
    · exact .inl hb
theorem isShB_no {s : Shop} {l : List Int} {i : Nat} {m : Mould} {x : Int} (hm : s.ms[i]? = some m) (hx : l[i]? = some x) (h : ¬ sh1 m x) : isShB s l ≠ true := fun q => h (by have := (isShB_iff.1 q).2 i m hm; rwa [gv_nat hx] at this)
end Go.Proofs.Ytekdocalipchpaa

