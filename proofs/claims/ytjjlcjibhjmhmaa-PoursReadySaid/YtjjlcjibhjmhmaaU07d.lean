/- Contracts of functions of the given program, without a condition beyond those that each theorem states; they lead to the given statement. -/
import Derived.Test.YtjjlcjibhjmhmaaU05L
import Derived.Test.YtjjlcjibhjmhmaaU06d
set_option linter.unusedSimpArgs false
set_option linter.unusedVariables false
set_option maxRecDepth 100000
namespace Go.Proofs.Ytjjlcjibhjmhmaa
open Go Go.Fl Go.ChangeShapes Go.WideShapes Go.RowKit Go.Deep
open Classical
theorem L.params7 : Try.f7.params = #[24, 34, 3] := by kernel_rfl
theorem lifted7 (os : Os) (started : os.Started) (H : Type) (enc : TypeId × Value → H) :
    ReturnsInHanded {} Try.checked os 7 .any (Rows.poursReadySpec.pre6 enc Try.prog Try.f7 Rows.poursReadyRow.domain false) (Rows.poursReadySpec.post enc Try.prog Try.f7 false true false false) := by
  refine law_lifted (C := Try.checked) (tb := 4) L.own started (by kernel_rfl) Try.func7
    (ChangeSpec.witness6 (enc := enc) (C := Try.checked) false ⟨#[], #[.agg #[.slice none 0 0], .slice none 0 0, .int .i64 0], []⟩ 8 (by kernel_rfl) (by kernel_rfl) (by kernel_rfl) (by kernel_rfl))
    (by kernel_rfl) L.bool rfl (fun ds hd => ?_) L.laid (by kernel_rfl) ?_
  · rw [L.params7] at hd
    match ds, hd with
    | [a, b, c], _ => rfl
  · intro W base args ds p hval hA
    rw [L.params7] at hA hval
    obtain ⟨v0, v1, v2, d0, d1, d2, p0, p1, p2, rfl, rfl, rfl, h0, h1, h2⟩ := trodAll_three hA
    obtain ⟨s0, q0⟩ := lift_shop (hval 0 24 v0 rfl rfl) h0
    obtain ⟨l1, q1, i1⟩ := lift_list (hval 1 34 v1 rfl rfl) h1
    obtain ⟨n2, q2⟩ := lift_n (hval 2 3 v2 rfl rfl) h2
    exact ⟨_, c7 s0 l1 n2 i1, _, _, rfl, q0, _, _, rfl, q1, _, _, rfl, q2, rfl⟩
theorem poursReady : Rows.PoursReadySaid :=
  OpenClaim.holds_of_wide 7 Try.f7 rfl rfl rfl rfl rfl rfl rfl ⟨rfl, rfl, rfl, rfl, rfl⟩ rfl rfl rfl rfl rfl (by kernel_rfl) Try.func7 (by kernel_rfl)
    (of_decide_eq_true (by kernel_rfl)) (by unfold Func.isWrapper; first | (rw [if_pos (by decide +kernel)]; kernel_rfl) | (rw [if_neg (by decide +kernel)]; exact ⟨rfl, rfl⟩))
    (fun os started H enc _ => lifted7 os started H enc)
end Go.Proofs.Ytjjlcjibhjmhmaa

