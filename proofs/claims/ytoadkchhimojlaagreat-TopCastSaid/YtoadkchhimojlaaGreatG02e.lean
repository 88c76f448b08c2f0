/- Contracts of functions of the given program, without a condition beyond those that each theorem states; they lead to the given statement. -/
import Derived.Test.YtoadkchhimojlaaGreatG02d
set_option linter.unusedSimpArgs false
set_option linter.unusedVariables false
set_option maxRecDepth 100000
namespace Go.Proofs.YtoadkchhimojlaaGreat.W2
open Go Go.Fl
open Classical
def ans {α : Type} (k : Int) (no x : α) : α × Int := if k = 0 then (x, 0) else (no, k)
theorem ans_yes {α : Type} {k : Int} {no x : α} (h : k = 0) : ans k no x = (x, 0) := if_pos h
theorem ans_no {α : Type} {k : Int} {no x : α} (h : ¬ k = 0) : ans k no x = (no, k) := if_neg h
def sur1 (s : Shop) (p : Int) (k : Nat) : Int := match s.ms[k]? with | some m => if m.page = p then lo s k else 0 | none => 0
def surT (s : Shop) (p : Int) : Nat → Int
  | 0 => 0
  | k + 1 => surT s p k + sur1 s p k
def sur (s : Shop) (p : Int) : Int := surT s p s.ms.length
theorem sur1_bounds {s : Shop} (hv : valid s) (p : Int) (k : Nat) : 0 ≤ sur1 s p k ∧ sur1 s p k ≤ 12 := by
  unfold sur1
  split
  · rename_i m hm
    have := lo_bounds hv (W := aW s) (fun w hw => aW_mem hw) k (List.getElem?_eq_some_iff.1 hm).1
    split
    · unfold lo; omega
    · omega
  · omega
theorem surT_bounds {s : Shop} (hv : valid s) (p : Int) : ∀ k : Nat, 0 ≤ surT s p k ∧ surT s p k ≤ 12 * k
  | 0 => by simp [surT]
  | k + 1 => by
    have := surT_bounds hv p k
    have := sur1_bounds hv p k
    simp only [surT]; omega
theorem sur_bounds {s : Shop} (hv : valid s) (p : Int) : 0 ≤ sur s p ∧ sur s p ≤ 60 := by
  have := surT_bounds hv p s.ms.length
  have := hv.2.1
  unfold sur; omega
def ne1 (s : Shop) (k : Nat) : Int := match s.wt[k]? with | some w => (max 0 (w - sur s k) + s.fr - 1) / s.fr | none => 0
def neT (s : Shop) : Nat → Int
  | 0 => 0
  | k + 1 => neT s k + ne1 s k
def neN (s : Shop) : Int := neT s s.wt.length
theorem ceil_bounds {d fr : Int} (hf : 1 ≤ fr) (hd : d ≤ 12) : 0 ≤ (max 0 d + fr - 1) / fr ∧ (max 0 d + fr - 1) / fr ≤ 12 := by
  have h1 := Int.mul_ediv_add_emod (max 0 d + fr - 1) fr
  have h2 := Int.emod_lt_of_pos (max 0 d + fr - 1) (show 0 < fr by omega)
  have h3 := Int.emod_nonneg (max 0 d + fr - 1) (show fr ≠ 0 by omega)
  have h4 : 0 ≤ (max 0 d + fr - 1) / fr := Int.ediv_nonneg (by omega) (by omega)
  generalize (max 0 d + fr - 1) / fr = q at h1 h4 ⊢
  generalize (max 0 d + fr - 1) % fr = r at h1 h2 h3
  refine ⟨h4, ?_⟩
  by_cases hq : q ≤ 12
  · exact hq
  · have : fr * 13 ≤ fr * q := Int.mul_le_mul_of_nonneg_left (by omega) (by omega)
    omega
theorem ne1_bounds {s : Shop} (hv : valid s) (k : Nat) : 0 ≤ ne1 s k ∧ ne1 s k ≤ 12 := by
  have hf := hv.2.2.2.1
  unfold within at hf
  unfold ne1
  split
  · rename_i w hw
    have h1 := hv.want hw
    have h2 := sur_bounds hv (k : Int)
    exact ceil_bounds hf.1 (by omega)
  · omega
theorem neT_bounds {s : Shop} (hv : valid s) : ∀ k : Nat, 0 ≤ neT s k ∧ neT s k ≤ 12 * k
  | 0 => by simp [neT]
  | k + 1 => by
    have := neT_bounds hv k
    have := ne1_bounds hv k
    simp only [neT]; omega
noncomputable def rSure (s : Shop) (p : Int) : Int × Int := ans (kn s (within p 0 (s.wt.length - 1))) 0 (sur s p)
noncomputable def rNew (s : Shop) : Int × Int := ans (kn s True) 0 (neN s)
end Go.Proofs.YtoadkchhimojlaaGreat.W2

