/- Contracts of functions of the given program, without a condition beyond those that each theorem states; they lead to the given statement. -/
import Derived.Test.YtjjlcjibhjmhmaaU05L
import Derived.Test.YtjjlcjibhjmhmaaU06f
set_option linter.unusedSimpArgs false
set_option linter.unusedVariables false
set_option maxRecDepth 100000
namespace Go.Proofs.Ytjjlcjibhjmhmaa
open Go Go.Fl Go.ChangeShapes Go.WideShapes Go.RowKit Go.Deep
open Classical
theorem L.params13 : Try.f13.params = #[24, 34] := by kernel_rfl
theorem lifted13 (os : Os) (started : os.Started) (H : Type) (enc : TypeId × Value → H) :
    ReturnsInHanded {} Try.checked os 13 .any (Rows.poursRuleSpec.pre6 enc Try.prog Try.f13 Rows.poursRuleRow.domain false) (Rows.poursRuleSpec.post enc Try.prog Try.f13 false true false false) := by
  refine law_lifted (C := Try.checked) (tb := 4) L.own started (by kernel_rfl) Try.func13
    (ChangeSpec.witness6 (enc := enc) (C := Try.checked) false ⟨#[], #[.agg #[.slice none 0 0], .slice none 0 0], []⟩ 8 (by kernel_rfl) (by kernel_rfl) (by kernel_rfl) (by kernel_rfl))
    (by kernel_rfl) L.bool rfl (fun ds hd => ?_) L.laid (by kernel_rfl) ?_
  · rw [L.params13] at hd
    match ds, hd with
    | [a, b], _ => rfl
  · intro W base args ds p hval hA
    rw [L.params13] at hA hval
    obtain ⟨v0, v1, d0, d1, p0, p1, rfl, rfl, rfl, h0, h1⟩ := trodAll_two hA
    obtain ⟨s0, q0⟩ := lift_shop (hval 0 24 v0 rfl rfl) h0
    obtain ⟨l1, q1, i1⟩ := lift_list (hval 1 34 v1 rfl rfl) h1
    exact ⟨_, c13 s0 l1, _, _, rfl, q0, _, _, rfl, q1, rfl⟩
theorem poursRule : Rows.PoursRuleSaid :=
  OpenClaim.holds_of_wide 13 Try.f13 rfl rfl rfl rfl rfl rfl rfl ⟨rfl, rfl, rfl, rfl, rfl⟩ rfl rfl rfl rfl rfl (by kernel_rfl) Try.func13 (by kernel_rfl)
    (of_decide_eq_true (by kernel_rfl)) (by unfold Func.isWrapper; first | (rw [if_pos (by decide +kernel)]; kernel_rfl) | (rw [if_neg (by decide +kernel)]; exact ⟨rfl, rfl⟩))
    (fun os started H enc _ => lifted13 os started H enc)
end Go.Proofs.Ytjjlcjibhjmhmaa

