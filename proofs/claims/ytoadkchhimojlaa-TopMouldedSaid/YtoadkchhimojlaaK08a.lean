/- Contracts of functions of the given program, without a condition beyond those that each theorem states; they lead to the given statement. -/
import Derived.Test.YtoadkchhimojlaaK08L
import Derived.Test.YtoadkchhimojlaaK04d
set_option linter.unusedSimpArgs false
set_option linter.unusedVariables false
set_option maxRecDepth 100000
namespace Go.Proofs.Ytoadkchhimojlaa
open Go Go.Fl Go.ChangeShapes Go.WideShapes Go.RowKit Go.Deep
open Classical
theorem L.params3 : Try.f3.params = #[26, 30, 3] := by kernel_rfl
theorem lifted3 (os : Os) (started : os.Started) (H : Type) (enc : TypeId × Value → H) :
    ReturnsInHanded {} Try.checked os 3 .any (Rows.topMouldedSpec.pre6 enc Try.prog Try.f3 Rows.topMouldedRow.domain false) (Rows.topMouldedSpec.post enc Try.prog Try.f3 false true false false) := by
  refine law_lifted (C := Try.checked) (tb := 4) L.own started (by kernel_rfl) Try.func3
    (ChangeSpec.witness6 (enc := enc) (C := Try.checked) false ⟨#[], #[.agg #[.slice none 0 0, .slice none 0 0, .slice none 0 0, .int .i64 0], .agg #[.slice none 0 0, .slice none 0 0, .slice none 0 0, .int .i64 0], .int .i64 0], []⟩ 8 (by kernel_rfl) (by kernel_rfl) (by kernel_rfl) (by kernel_rfl))
    (by kernel_rfl) L.bool rfl (fun ds hd => ?_) L.laid (by kernel_rfl) ?_
  · rw [L.params3] at hd
    match ds, hd with
    | [a, b, c], _ => rfl
  · intro W base args ds p hval hA
    rw [L.params3] at hA hval
    obtain ⟨v0, v1, v2, d0, d1, d2, p0, p1, p2, rfl, rfl, rfl, h0, h1, h2⟩ := trodAll_three hA
    obtain ⟨s0, q0⟩ := lift_shop (hval 0 26 v0 rfl rfl) h0
    obtain ⟨g1, q1⟩ := lift_house (hval 1 30 v1 rfl rfl) h1
    obtain ⟨n2, q2⟩ := lift_n (hval 2 3 v2 rfl rfl) h2
    exact ⟨_, c3 s0 g1 n2, _, _, rfl, q0, _, _, rfl, q1, _, _, rfl, q2, rfl⟩
theorem topMoulded : Rows.TopMouldedSaid :=
  OpenClaim.holds_of_wide 3 Try.f3 rfl rfl rfl rfl rfl rfl rfl ⟨rfl, rfl, rfl, rfl, rfl⟩ rfl rfl rfl rfl rfl (by kernel_rfl) Try.func3 (by kernel_rfl)
    (of_decide_eq_true (by kernel_rfl)) (by unfold Func.isWrapper; first | (rw [if_pos (by decide +kernel)]; kernel_rfl) | (rw [if_neg (by decide +kernel)]; exact ⟨rfl, rfl⟩))
    (fun os started H enc _ => lifted3 os started H enc)
end Go.Proofs.Ytoadkchhimojlaa

