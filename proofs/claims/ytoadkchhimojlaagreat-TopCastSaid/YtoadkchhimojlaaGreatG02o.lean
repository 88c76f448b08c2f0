/- Contracts of functions of the given program, without a condition beyond those that each theorem states; they lead to the given statement. -/
import Derived.Test.YtoadkchhimojlaaGreatG02l
import Derived.Test.YtoadkchhimojlaaGreatFlC
set_option linter.unusedSimpArgs false
set_option linter.unusedVariables false
set_option maxRecDepth 100000
namespace Go.Proofs.YtoadkchhimojlaaGreat.W2
open Go Go.Fl
open Classical
theorem h53 (l : List Int) (hl : l.length ≤ 1000) : HCH Tryz.prog 53 [lN l] [] fun r H' => r = .row 0 l.length ∧ H' = [.row 3 1 (l.map encN) false] := by
  refine HCH.bodyN Tryz.func53 (by kernel_rfl) rfl (by simp [Tryz.f53]) ?_
  simp only [Tryz.f53]
  refine CV.run ?_
  (repeat' (first | ((first | with_reducible refine vcG_split ?_ ?_ | with_reducible refine vcIf_split ?_ ?_ | with_reducible refine vcQ_split ?_ ?_ | with_reducible refine vcDG_split ?_ ?_) <;> intro hb <;> (try rw [hb]) <;> (try simp only [Bool.and_eq_true, Bool.or_eq_true, dtrue, dfalse, Bool.not_eq_true', Bool.not_eq_false', Bool.and_eq_false_iff, Bool.or_eq_false_iff, Bool.not_true, Bool.not_false] at hb) <;> (try simp only [within] at hb) <;> try (simp only [go_sem])) | refine And.intro (by (first | exact trivial | (simp only [I64]; omega) | omega)) ?_ | (simp only [go_sem])))
  · have : l = [] := by simpa using hb
    subst this
    exact ⟨_, .nilE 2 3 1 (by (simp only [go_sem])) (by omega) (.base (wk_same (env' := [(2, .row 0 0)]) (by (simp only [go_sem])))), rfl, rfl⟩
  · exact ⟨⟨by omega, by omega, .inl trivial⟩, _, .base (wk_same (env' := [(2, .row 0 l.length)]) (by (simp only [go_sem]))), rfl, rfl⟩
theorem h53r (H : Heap) (b : Nat) (l : List Int) (sl : Bool) (hl : l.length ≤ 1000) (hH : H[b]? = some (.row 3 1 (l.map encN) sl)) : HCH Tryz.prog 53 [.row b l.length] H fun r H' => r = .row H.length l.length ∧ H' = H ++ [.row 3 1 (l.map encN) false] := by
  refine HCH.bodyN Tryz.func53 (by kernel_rfl) rfl (by simp [Tryz.f53]) ?_
  simp only [Tryz.f53]
  refine CV.run ?_
  (repeat' (first | ((first | with_reducible refine vcG_split ?_ ?_ | with_reducible refine vcIf_split ?_ ?_ | with_reducible refine vcQ_split ?_ ?_ | with_reducible refine vcDG_split ?_ ?_) <;> intro hb <;> (try rw [hb]) <;> (try simp only [Bool.and_eq_true, Bool.or_eq_true, dtrue, dfalse, Bool.not_eq_true', Bool.not_eq_false', Bool.and_eq_false_iff, Bool.or_eq_false_iff, Bool.not_true, Bool.not_false] at hb) <;> (try simp only [within] at hb) <;> try (simp only [go_sem, hH])) | refine And.intro (by (first | exact trivial | (simp only [I64]; omega) | omega)) ?_ | (simp only [go_sem, hH])))
  · have h0 : l.length = 0 := by simpa using hb
    have : l = [] := List.eq_nil_of_length_eq_zero h0
    subst this
    exact ⟨_, .nilE 2 3 1 (by (simp only [go_sem])) (by omega) (.base (wk_same (env' := [(2, .row H.length 0)]) (by (simp only [go_sem])))), rfl, rfl⟩
  · trace_state
    exact ⟨⟨by omega, by omega, .inl trivial⟩, _, .base (wk_same (env' := [(2, .row H.length l.length)]) (by (simp only [go_sem]))), rfl, rfl⟩
end Go.Proofs.YtoadkchhimojlaaGreat.W2

