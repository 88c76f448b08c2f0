/- Contracts of functions of the given program, without a condition beyond those that each theorem states; they lead to the given statement. -/
import Derived.Test.YtoadkchhimojlaaGreatG03c
set_option linter.unusedSimpArgs false
set_option linter.unusedVariables false
set_option maxRecDepth 100000
namespace Go.Proofs.YtoadkchhimojlaaGreat
open Go Go.Fl
open Classical
theorem eqL_I {a b : List Int} (h : a.length = b.length) : eqL (a.map I) (b.map I) = some (decide (a = b)) := by
  exact eqL_ints a b h
abbrev misS (s t : List Int) : List Int := zipS (fun a b => max 0 (b - a)) s t
set_option maxHeartbeats 1000000 in
theorem c69 (s t : List Int) (hs : s.length = 12) (ht : t.length = 12) (h : ∀ a b, a ∈ s → b ∈ t → I64 (b - a)) : PC Tryz.prog 69 [.agg (s.map I), .agg (t.map I)] (.bool (decide (misS s t = zer12))) := by
  have h99 := c99 s t hs ht h
  have hz : (misS s t).length = 12 := zipS_len hs ht
  have he : eqL ((misS s t).map I) [.int .i64 0, .int .i64 0, .int .i64 0, .int .i64 0, .int .i64 0, .int .i64 0, .int .i64 0, .int .i64 0, .int .i64 0, .int .i64 0, .int .i64 0, .int .i64 0] = some (decide (misS s t = zer12)) := eqL_I (b := zer12) hz
  refine PC.body Tryz.func69 (by kernel_rfl) rfl (by simp [Tryz.f69]) rfl ?_
  simp only [Tryz.f69]
  intro hlen
  simp only [go_sem, List.length_map, and_true, true_and] at hlen
  refine CV.run ?_
  (repeat' (first | ((with_reducible first | refine vcG_split ?_ ?_ | refine vcIf_split ?_ ?_ | refine vcQ_split ?_ ?_ | refine vcDG_split ?_ ?_) <;> intro hb <;> (try rw [hb]) <;> (try simp only [bq, bz, dtrue, dfalse] at hb) <;> (try simp only [within] at hb) <;> try (simp only [go_sem, allOne_mapI, tk12 hs, tk12 ht, tk12 hz, dr12 hs, dr12 ht, dr12 hz, hs, ht, hz, List.length_map, List.append_nil])) | refine And.intro (by first | exact trivial | omega | (simp only [I64]; omega)) ?_ | (simp only [go_sem, allOne_mapI, tk12 hs, tk12 ht, tk12 hz, dr12 hs, dr12 ht, dr12 hz, hs, ht, hz, List.length_map, List.append_nil])))
  refine vcP_pure h99 (pureL_mapI _) (by (simp only [go_sem, pureL_mapI, AV.pureL, AV.pure, Bool.and_self])) (by (simp only [go_sem, frzL_mapI])) ?_
  (repeat' (first | ((with_reducible first | refine vcG_split ?_ ?_ | refine vcIf_split ?_ ?_ | refine vcQ_split ?_ ?_ | refine vcDG_split ?_ ?_) <;> intro hb <;> (try rw [hb]) <;> (try simp only [bq, bz, dtrue, dfalse] at hb) <;> (try simp only [within] at hb) <;> try (simp only [go_sem, allOne_mapI, tk12 hz, dr12 hz, hz, he, List.length_map, List.append_nil, frzL_mapI, or_true, if_true])) | refine And.intro (by first | exact trivial | omega | (simp only [I64]; omega)) ?_ | (simp only [go_sem, allOne_mapI, tk12 hz, dr12 hz, hz, he, List.length_map, List.append_nil, frzL_mapI, or_true, if_true])))
  all_goals trace_state
end Go.Proofs.YtoadkchhimojlaaGreat

