/- Contracts of functions of the given program, without a condition beyond those that each theorem states; they lead to the given statement. -/
import Derived.Test.YtjjlcjibhjmhmaaU06b
set_option linter.unusedSimpArgs false
set_option linter.unusedVariables false
set_option maxRecDepth 100000
namespace Go.Proofs.Ytjjlcjibhjmhmaa
open Go Go.Fl
open Classical
def exS : List Job := [⟨3, 2, 4, 2, 9, 10⟩, ⟨1, 1, 1, 4, 7, 6⟩, ⟨2, 0, 3, 3, 14, 8⟩]
theorem c64 : PC Try.prog 64 [] (hS exS) := by
  refine PC.body Try.func64 (by kernel_rfl) rfl (by simp [Try.f64]) rfl ?_
  simp only [Try.f64]
  intro hlen
  simp only [go_sem, List.length_map, and_true, true_and] at hlen
  refine CV.run ?_
  (repeat' (first | ((first | with_reducible refine vcG_split ?_ ?_ | with_reducible refine vcIf_split ?_ ?_ | with_reducible refine vcQ_split ?_ ?_ | with_reducible refine vcDG_split ?_ ?_) <;> intro hb <;> (try rw [hb]) <;> (try simp only [Bool.and_eq_true, Bool.or_eq_true, dtrue, dfalse, Bool.not_eq_true', Bool.not_eq_false', Bool.and_eq_false_iff, Bool.or_eq_false_iff, Bool.not_true, Bool.not_false] at hb) <;> (try simp only [within] at hb) <;> try (simp only [go_sem, exS, encJ, List.map_cons, List.map_nil])) | refine And.intro (by (first | exact trivial | (simp only [I64]; omega) | omega)) ?_ | fail | (simp only [go_sem, exS, encJ, List.map_cons, List.map_nil])))
theorem exS_valid : valid exS := by
  refine ⟨by decide, fun j hj => ?_⟩
  simp only [exS, List.mem_cons, List.mem_nil_iff, or_false] at hj
  rcases hj with rfl | rfl | rfl <;> (unfold okJob within; decide)
theorem w_best : bestM exS = 18 := by decide +kernel
theorem w_rule : ruleV exS = [1, 2, 0] := by decide +kernel
theorem w_wait : waitT exS 0 9 = 4 := by decide +kernel
theorem w_ord1 : isOrd 3 [0, 1, 2] := isOrd_of (by intro x hx; simp at hx; unfold within; omega) (by decide)
theorem w_ord2 : isOrd 3 [1, 0, 2] := isOrd_of (by intro x hx; simp at hx; unfold within; omega) (by decide)
theorem w_ready : rReady exS [0, 1, 2] 2 = ((14, 16), 0) := by
  have e0 : opn exS (isOrd exS.length [0, 1, 2] ∧ within 2 0 (exS.length - 1)) = 0 := opn_is exS_valid ⟨w_ord1, by unfold within; decide⟩
  rw [rReady, if_pos e0, if_pos (by decide)]
  have hp : preT [0, 1, 2] 2 = [0, 1, 2] := preT_at (q := 2) rfl (by intro n hn; match n, hn with | 0, _ => decide | 1, _ => decide)
  unfold loA hiA
  rw [hp]
  decide +kernel
theorem w_worth : rWorth exS [1, 0, 2] = ((14, 24), 0) := by
  rw [rWorth, if_pos (opn_is exS_valid (show isOrd exS.length [1, 0, 2] from w_ord2))]
  decide +kernel
theorem w_must : mustV exS 1 = 2 := by
  have key : ∀ l, l ∈ ords exS → ¬ (¬ swo exS l < 18 ∧ (sjT exS l l.length / 2 ^ 1) &&& 1 = 1) := by decide +kernel
  have k1 : ∀ o, isOrd exS.length o → ¬ swo exS o < bestM exS → ¬ bit exS 1 o := fun o ho hb q => key o (ords_mem.2 ho) ⟨by rw [w_best] at hb; exact hb, q⟩
  rw [must_spec, if_neg fun A => ?_, if_pos k1]
  obtain ⟨h1, h2, h3⟩ := best_spec exS_valid
  exact k1 _ h1 (by omega) (A _ h1 (by omega))
end Go.Proofs.Ytjjlcjibhjmhmaa

