/- Contracts of functions of the given program, without a condition beyond those that each theorem states; they lead to the given statement. -/
import Derived.Test.YtoadkchhimojlaaK05x
set_option linter.unusedSimpArgs false
set_option linter.unusedVariables false
set_option maxRecDepth 100000
namespace Go.Proofs.Ytoadkchhimojlaa.W5
open Go Go.Fl
open Classical
def exS : List Job := [⟨3, 2, 4, 2, 9, 10⟩, ⟨1, 1, 1, 4, 7, 6⟩, ⟨2, 0, 3, 3, 14, 8⟩]
theorem c44 : PC Try.prog 44 [] (hS exS) := by
  refine PC.body Try.func44 (by kernel_rfl) rfl (by simp [Try.f44]) rfl ?_
  simp only [Try.f44]
  intro hlen
  simp only [go_sem, List.length_map, and_true, true_and] at hlen
  refine CV.run ?_
  (repeat' (first | ((first | with_reducible refine vcG_split ?_ ?_ | with_reducible refine vcIf_split ?_ ?_ | with_reducible refine vcQ_split ?_ ?_ | with_reducible refine vcDG_split ?_ ?_) <;> intro hb <;> (try rw [hb]) <;> (try simp only [Bool.and_eq_true, Bool.or_eq_true, dtrue, dfalse, Bool.not_eq_true', Bool.not_eq_false', Bool.and_eq_false_iff, Bool.or_eq_false_iff, Bool.not_true, Bool.not_false] at hb) <;> (try simp only [within] at hb) <;> try (simp only [go_sem, exS, encJ, List.map_cons, List.map_nil])) | refine And.intro (by (first | exact trivial | (simp only [I64]; omega) | omega)) ?_ | (simp only [go_sem, exS, encJ, List.map_cons, List.map_nil])))
theorem exS_valid : valid exS := by
  refine ⟨by decide, fun j hj => ?_⟩
  simp only [exS, List.mem_cons, List.mem_nil_iff, or_false] at hj
  rcases hj with rfl | rfl | rfl <;> (unfold okJob within; decide)
theorem w_rule : ruleV exS = [1, 2, 0] := by decide +kernel
end Go.Proofs.Ytoadkchhimojlaa.W5

