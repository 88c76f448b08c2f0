/- Contracts of functions of the given program, without a condition beyond those that each theorem states; they lead to the given statement. -/
import Derived.Test.YtjjlcjibhjmhmaaU05L
import Derived.Test.YtjjlcjibhjmhmaaU06d
set_option linter.unusedSimpArgs false
set_option linter.unusedVariables false
set_option maxRecDepth 100000
namespace Go.Proofs.Ytjjlcjibhjmhmaa
open Go Go.Fl Go.ChangeShapes Go.WideShapes Go.RowKit Go.Deep
open Classical
theorem L.params12 : Try.f12.params = #[24] := by kernel_rfl
theorem lifted12 (os : Os) (started : os.Started) (H : Type) (enc : TypeId × Value → H) :
    ReturnsInHanded {} Try.checked os 12 .any (Rows.poursQuickSpec.pre6 enc Try.prog Try.f12 Rows.poursQuickRow.domain false) (Rows.poursQuickSpec.post enc Try.prog Try.f12 false true false false) := by
  refine law_lifted (C := Try.checked) (tb := 4) L.own started (by kernel_rfl) Try.func12
    (ChangeSpec.witness6 (enc := enc) (C := Try.checked) false ⟨#[], #[.agg #[.slice none 0 0]], []⟩ 8 (by kernel_rfl) (by kernel_rfl) (by kernel_rfl) (by kernel_rfl))
    (by kernel_rfl) L.bool rfl (fun ds hd => ?_) L.laid (by kernel_rfl) ?_
  · rw [L.params12] at hd
    match ds, hd with
    | [a], _ => rfl
  · intro W base args ds p hval hA
    rw [L.params12] at hA hval
    obtain ⟨v0, d0, rfl, rfl, h0⟩ := trodAll_one hA
    obtain ⟨s0, q0⟩ := lift_shop (hval 0 24 v0 rfl rfl) h0
    exact ⟨_, c12 s0, _, _, rfl, q0, rfl⟩
theorem poursQuick : Rows.PoursQuickSaid :=
  OpenClaim.holds_of_wide 12 Try.f12 rfl rfl rfl rfl rfl rfl rfl ⟨rfl, rfl, rfl, rfl, rfl⟩ rfl rfl rfl rfl rfl (by kernel_rfl) Try.func12 (by kernel_rfl)
    (of_decide_eq_true (by kernel_rfl)) (by unfold Func.isWrapper; first | (rw [if_pos (by decide +kernel)]; kernel_rfl) | (rw [if_neg (by decide +kernel)]; exact ⟨rfl, rfl⟩))
    (fun os started H enc _ => lifted12 os started H enc)
end Go.Proofs.Ytjjlcjibhjmhmaa

