/- Contracts of functions of the given program, without a condition beyond those that each theorem states; they lead to the given statement. -/
import Derived.Test.YtllmohmgakdbdaaW07y
import Derived.Test.YtllmohmgakdbdaaW16b
set_option linter.unusedSimpArgs false
set_option linter.unusedVariables false
set_option maxRecDepth 100000
namespace Go.Proofs.Ytllmohmgakdbdaa
open Go Go.Fl Go.ChangeShapes Go.WideShapes Go.RowKit Go.Deep
open Classical
theorem L.params12 : Try.f12.params = #[25, 27, 57] := by kernel_rfl
theorem lifted12 (os : Os) (started : os.Started) (H : Type) (enc : TypeId × Value → H) :
    ReturnsInHanded {} Try.checked os 12 .any (Rows.changesOtherSpec.pre6 enc Try.prog Try.f12 Rows.changesOtherRow.domain false) (Rows.changesOtherSpec.post enc Try.prog Try.f12 false true false false) := by
  refine law_lifted_sized (C := Try.checked) (tb := 4) L.own started (by kernel_rfl) Try.func12
    (ChangeSpec.witness6 (enc := enc) (C := Try.checked) false ⟨#[], #[.agg #[.slice none 0 0, .slice none 0 0], .agg #[.int .i64 0, .int .i64 0, .int .i64 0], .agg #[.int .i64 0, .int .i64 0, .int .i64 0]], []⟩ 8 (by kernel_rfl) (by kernel_rfl) (by kernel_rfl) (by kernel_rfl))
    (by kernel_rfl) L.bool rfl (fun ds hd => ?_) L.laid (by kernel_rfl) ?_
  · rw [L.params12] at hd
    match ds, hd with
    | [a, b, c], _ => rfl
  · intro W base args ds p hval hsz hA
    rw [L.params12] at hA hval hsz
    obtain ⟨v0, v1, v2, d0, d1, d2, p0, p1, p2, rfl, rfl, rfl, h0, h1, h2⟩ := trodAll_three hA
    have hz : ∀ n, n ∈ d0.weights Try.prog 25 → n ≤ reachBytes := fun n hn => by
      have := List.all_eq_true.1 hsz n (DataW.weights_mem_each (j := 0) (t := 25) rfl rfl n hn)
      simpa using this
    obtain ⟨ts, ms, q0, z0, z1⟩ := lift_house_sized (hval 0 25 v0 rfl rfl) h0 hz
    obtain ⟨x0, x1, x2, q1⟩ := lift_int3 L.h27 (hval 1 27 v1 rfl rfl) h1
    obtain ⟨m0, m1, m2, q2⟩ := lift_int3 L.h57 (hval 2 57 v2 rfl rfl) h2
    exact ⟨_, c12 ts ms z0 z1 x0 x1 x2 ⟨m0, m1, m2⟩, _, _, rfl, q0, _, _, rfl, q1, _, _, rfl, q2, rfl⟩
theorem changesOther : Rows.ChangesOtherSaid :=
  OpenClaim.holds_of_wide 12 Try.f12 rfl rfl rfl rfl rfl rfl rfl ⟨rfl, rfl, rfl, rfl, rfl⟩ rfl rfl rfl rfl rfl (by kernel_rfl) Try.func12 (by kernel_rfl)
    (of_decide_eq_true (by kernel_rfl)) (by unfold Func.isWrapper; first | (rw [if_pos (by decide +kernel)]; kernel_rfl) | (rw [if_neg (by decide +kernel)]; exact ⟨rfl, rfl⟩))
    (fun os started H enc _ => lifted12 os started H enc)
end Go.Proofs.Ytllmohmgakdbdaa
