/- Contracts of functions of the given program, without a condition beyond those that each theorem states; they lead to the given statement. -/
import Derived.Test.YtekdocalipchpaaV03a
set_option linter.unusedSimpArgs false
set_option linter.unusedVariables false
set_option linter.unusedVariables false
set_option maxRecDepth 100000
namespace Go.Proofs.Ytekdocalipchpaa
open Go Go.Fl
open Classical
theorem gcd_parts {k n : Nat} (hn : 0 < n) (hk : k ≤ n) : Nat.gcd (k / Nat.gcd k n) (n / Nat.gcd k n) = 1 ∧ k / Nat.gcd k n ≤ n / Nat.gcd k n ∧ 1 ≤ n / Nat.gcd k n ∧ n / Nat.gcd k n ≤ n ∧
    (k / Nat.gcd k n = n / Nat.gcd k n ↔ k = n) ∧ (k / Nat.gcd k n = 0 ↔ k = 0) := by
  have hg : 0 < Nat.gcd k n := Nat.gcd_pos_of_pos_right _ hn
  obtain ⟨a, ha⟩ := Nat.gcd_dvd_left k n
  obtain ⟨b, hb⟩ := Nat.gcd_dvd_right k n
  have e1 : k / Nat.gcd k n = a := by rw [Nat.div_eq_of_eq_mul_right hg ha]
  have e2 : n / Nat.gcd k n = b := by rw [Nat.div_eq_of_eq_mul_right hg hb]
  refine ⟨Nat.coprime_div_gcd_div_gcd hg, Nat.div_le_div_right hk, ?_, Nat.div_le_self _ _, ?_, ?_⟩
  · exact Nat.div_pos (Nat.le_of_dvd hn (Nat.gcd_dvd_right k n)) hg
  · rw [e1, e2]
    exact ⟨fun h => by rw [h] at ha; exact ha.trans hb.symm, fun h => Nat.eq_of_mul_eq_mul_left hg (ha.symm.trans (h.trans hb))⟩
  · rw [e1]
    constructor
    · intro h; rw [h, Nat.mul_zero] at ha; exact ha
    · intro h
      rcases Nat.eq_zero_or_pos a with h1 | h1
      · exact h1
      · have := Nat.mul_pos hg h1
        omega
theorem cnt_mono {s : Shop} {a b : List Int} (hab : ∀ j : Nat, j < a.length → gv b j ≤ gv a j) (hl : a.length = b.length) : cnt s a ≤ cnt s b := by
  unfold cnt cntP
  have : ((aW s).filter (holdsB s a)).length ≤ ((aW s).filter (holdsB s b)).length := by
    induction aW s with
    | nil => simp
    | cons w W ih =>
      simp only [List.filter_cons]
      by_cases h1 : holdsB s a w = true
      · have h2 : holdsB s b w = true := by
          simp only [holdsB, List.all_eq_true, List.mem_range, decide_eq_true_eq] at h1 ⊢
          intro i hi
          have := h1 i (by omega)
          have := hab i (by omega)
          omega
        simp only [h1, h2, if_true, List.length_cons]
        omega
      · rw [if_neg h1]
        split
        · simp only [List.length_cons]; omega
        · exact ih
  omega
theorem part_le {a b n : Nat} (hn : 0 < n) (ha : a ≤ n) (hb : b ≤ n) (hab : a ≤ b) : (a / Nat.gcd a n) * (n / Nat.gcd b n) ≤ (b / Nat.gcd b n) * (n / Nat.gcd a n) := by
  have g1 : 0 < Nat.gcd a n := Nat.gcd_pos_of_pos_right _ hn
  have g2 : 0 < Nat.gcd b n := Nat.gcd_pos_of_pos_right _ hn
  obtain ⟨a1, h1⟩ := Nat.gcd_dvd_left a n
  obtain ⟨n1, h2⟩ := Nat.gcd_dvd_right a n
  obtain ⟨b2, h3⟩ := Nat.gcd_dvd_left b n
  obtain ⟨n2, h4⟩ := Nat.gcd_dvd_right b n
  rw [Nat.div_eq_of_eq_mul_right g1 h1, Nat.div_eq_of_eq_mul_right g1 h2, Nat.div_eq_of_eq_mul_right g2 h3, Nat.div_eq_of_eq_mul_right g2 h4]
  refine Nat.le_of_mul_le_mul_left (?_ : Nat.gcd a n * Nat.gcd b n * (a1 * n2) ≤ Nat.gcd a n * Nat.gcd b n * (b2 * n1)) (Nat.mul_pos g1 g2)
  calc Nat.gcd a n * Nat.gcd b n * (a1 * n2) = (Nat.gcd a n * a1) * (Nat.gcd b n * n2) := by ac_rfl
    _ = a * n := by rw [← h1, ← h4]
    _ ≤ b * n := Nat.mul_le_mul_right _ hab
    _ = (Nat.gcd b n * b2) * (Nat.gcd a n * n1) := by rw [← h3, ← h2]
    _ = Nat.gcd a n * Nat.gcd b n * (b2 * n1) := by ac_rfl
end Go.Proofs.Ytekdocalipchpaa
