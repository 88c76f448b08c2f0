/- Contracts of functions of the given program, without a condition beyond those that each theorem states; they lead to the given statement. -/
import Derived.Test.YtoadkchhimojlaaGreatG05d
set_option linter.unusedSimpArgs false
set_option linter.unusedVariables false
set_option maxRecDepth 100000
namespace Go.Proofs.YtoadkchhimojlaaGreat
open Go Go.Fl
open Classical
def sG05e_f81_1 : List (Nat × Nat) := [(0, 0), (0, 0), (0, 0), (0, 0), (0, 1), (0, 1), (0, 1), (0, 0), (0, 2), (0, 2), (0, 2), (0, 0), (0, 3), (0, 3), (3, 3), (0, 0)]
def exK : Hall := ⟨⟨[⟨0, 2, 1⟩, ⟨0, 2, 1⟩], [⟨0, 2, 0⟩, ⟨1, 3, 1⟩], [5, 12], 2⟩, [0, 1], [[0, 1], [0, 2]]⟩
theorem exK_ok : okH exK := by
  refine ⟨⟨by decide, by decide, by decide, by decide, ⟨by decide, by decide⟩, by simp [exK, okMa, within], by simp [exK, within], by simp [exK, okBu, within]⟩, rfl, by decide, by simp [exK, within], fun l hl => ?_, by simp [exK]⟩
  simp only [exK, List.mem_cons, List.not_mem_nil, or_false] at hl
  rcases hl with rfl | rfl
  · intro j hj
    have hc : j = 0 ∨ j = 1 := by simp at hj; omega
    rcases hc with rfl | rfl
    · exact ⟨0, rfl, ⟨by decide, by decide⟩, fun h => by omega⟩
    · exact ⟨1, rfl, ⟨by decide, by decide⟩, fun _ => ⟨0, rfl, by decide⟩⟩
  · intro j hj
    have hc : j = 0 ∨ j = 1 := by simp at hj; omega
    rcases hc with rfl | rfl
    · exact ⟨0, rfl, ⟨by decide, by decide⟩, fun h => by omega⟩
    · exact ⟨2, rfl, ⟨by decide, by decide⟩, fun _ => ⟨0, rfl, by decide⟩⟩
theorem exK_six : (fewL (canL exK) zer12).map List.sum = some 6 := by kernel_rfl
theorem not_hugeG {h : House} (q : ¬ hugeG h) : h.ms.length ≤ 40 ∧ h.bs.length ≤ 40 ∧ h.ts.length ≤ 40 := by unfold hugeG at q; omega
theorem c81 (h : House) (q : ¬ hugeG h) : PC Tryz.prog 81 [hG h] (hG h) := by
  have nh := not_hugeG q
  refine PC.body Tryz.func81 (by kernel_rfl) rfl (by simp [Tryz.f81]) rfl ?_
  simp only [Tryz.f81]
  intro hlen
  simp only [go_sem, List.length_map, and_true, true_and] at hlen
  refine CV.run ?_
  (repeat' (first | ((with_reducible first | refine vcG_split ?_ ?_ | refine vcIf_split ?_ ?_ | refine vcQ_split ?_ ?_ | refine vcDG_split ?_ ?_) <;> intro hb <;> (try rw [hb]) <;> (try simp only [bq, bz, dtrue, dfalse] at hb) <;> (try simp only [within] at hb) <;> try (simp only [go_sem])) | refine And.intro (by first | exact trivial | omega | (simp only [I64]; omega)) ?_ | (with_reducible rw [vc_draw_eq]; first | (refine CV.draw (id := 1) sG05e_f81_1 mixed rfl (by kernel_rfl) ?_; delta sG05e_f81_1)) | (simp only [go_sem])))
  exact ⟨⟨by omega, by omega, .inl trivial⟩, ⟨by omega, by omega, .inl trivial⟩, by omega, by omega, .inl trivial⟩
abbrev aK : List AV := [.lst false 3 [[.int .i64 0, .int .i64 2, .int .i64 1], [.int .i64 0, .int .i64 2, .int .i64 1]], .lst false 3 [[.int .i64 0, .int .i64 2, .int .i64 0], [.int .i64 1, .int .i64 3, .int .i64 1]], .lst false 1 [[.int .i64 5], [.int .i64 12]], .int .i64 2, .lst false 1 [[.int .i64 0], [.int .i64 1]], .lst false 1 [[.lst true 1 [[.int .i64 0], [.int .i64 1]]], [.lst true 1 [[.int .i64 0], [.int .i64 2]]]]]
end Go.Proofs.YtoadkchhimojlaaGreat

