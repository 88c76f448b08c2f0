/- Contracts of functions of the given program, without a condition beyond those that each theorem states; they lead to the given statement. -/
import Derived.Test.YtekdocalipchpaaV02L
import Derived.Test.YtekdocalipchpaaV03v
set_option linter.unusedSimpArgs false
set_option linter.unusedVariables false
set_option maxRecDepth 100000
namespace Go.Proofs.Ytekdocalipchpaa
open Go Go.Fl Go.ChangeShapes Go.WideShapes Go.RowKit Go.Deep
open Classical
theorem L.params5 : Try.f5.params = #[26, 3, 24] := by kernel_rfl
theorem lifted5 (os : Os) (started : os.Started) (H : Type) (enc : TypeId × Value → H) :
    ReturnsInHanded {} Try.checked os 5 .any (Rows.flongsMoreSpec.pre6 enc Try.prog Try.f5 Rows.flongsMoreRow.domain false) (Rows.flongsMoreSpec.post enc Try.prog Try.f5 false true false false) := by
  refine law_lifted (C := Try.checked) (tb := 4) L.own started (by kernel_rfl) Try.func5
    (ChangeSpec.witness6 (enc := enc) (C := Try.checked) false ⟨#[], #[.agg #[.slice none 0 0, .slice none 0 0, .slice none 0 0, .int .i64 0], .int .i64 0, .slice none 0 0], []⟩ 8 (by kernel_rfl) (by kernel_rfl) (by kernel_rfl) (by kernel_rfl))
    (by kernel_rfl) L.bool rfl (fun ds hd => ?_) L.laid (by kernel_rfl) ?_
  · rw [L.params5] at hd
    match ds, hd with
    | [a, b, c], _ => rfl
  · intro W base args ds p hval hA
    rw [L.params5] at hA hval
    obtain ⟨v0, v1, v2, d0, d1, d2, p0, p1, p2, rfl, rfl, rfl, h0, h1, h2⟩ := trodAll_three hA
    obtain ⟨s0, q0⟩ := lift_shop (hval 0 26 v0 rfl rfl) h0
    obtain ⟨n1, q1⟩ := lift_n (hval 1 3 v1 rfl rfl) h1
    obtain ⟨l2, q2⟩ := lift_list (hval 2 24 v2 rfl rfl) h2
    exact ⟨_, c5 s0 n1 l2, _, _, rfl, q0, _, _, rfl, q1, _, _, rfl, q2, rfl⟩
theorem flongsMore : Rows.FlongsMoreSaid :=
  OpenClaim.holds_of_wide 5 Try.f5 rfl rfl rfl rfl rfl rfl rfl ⟨rfl, rfl, rfl, rfl, rfl⟩ rfl rfl rfl rfl rfl (by kernel_rfl) Try.func5 (by kernel_rfl)
    (of_decide_eq_true (by kernel_rfl)) (by unfold Func.isWrapper; first | (rw [if_pos (by decide +kernel)]; kernel_rfl) | (rw [if_neg (by decide +kernel)]; exact ⟨rfl, rfl⟩))
    (fun os started H enc _ => lifted5 os started H enc)
end Go.Proofs.Ytekdocalipchpaa

