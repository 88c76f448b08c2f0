/- Contracts of functions of the given program, without a condition beyond those that each theorem states; they lead to the given statement. -/
import Derived.Test.YtoadkchhimojlaaGreatG03b
set_option linter.unusedSimpArgs false
set_option linter.unusedVariables false
set_option maxRecDepth 100000
namespace Go.Proofs.YtoadkchhimojlaaGreat
open Go Go.Fl
open Classical
theorem c64 (a b : Int) : PC Tryz.prog 64 [.int .i64 a, .int .i64 b] (.int .i64 (max a b)) := by
  refine PC.body Tryz.func64 (by kernel_rfl) rfl (by simp [Tryz.f64]) rfl ?_
  simp only [Tryz.f64]
  intro hlen
  simp only [go_sem, List.length_map, and_true, true_and] at hlen
  refine CV.run ?_
  (repeat' (first | ((with_reducible first | refine vcG_split ?_ ?_ | refine vcIf_split ?_ ?_ | refine vcQ_split ?_ ?_ | refine vcDG_split ?_ ?_) <;> intro hb <;> (try rw [hb]) <;> (try simp only [bq, bz, dtrue, dfalse] at hb) <;> (try simp only [within] at hb) <;> try (simp only [go_sem])) | refine And.intro (by first | exact trivial | omega | (simp only [I64]; omega)) ?_ | (simp only [go_sem])))
theorem c98 (a b : Int) (h : I64 (a + b)) : PC Tryz.prog 98 [.int .i64 a, .int .i64 b] (.int .i64 (a + b)) := by
  have h := eq_true h
  refine PC.body Tryz.func98 (by kernel_rfl) rfl (by simp [Tryz.f98]) rfl ?_
  simp only [Tryz.f98]
  intro hlen
  simp only [go_sem, List.length_map, and_true, true_and] at hlen
  refine CV.run ?_
  (repeat' (first | ((with_reducible first | refine vcG_split ?_ ?_ | refine vcIf_split ?_ ?_ | refine vcQ_split ?_ ?_ | refine vcDG_split ?_ ?_) <;> intro hb <;> (try rw [hb]) <;> (try simp only [bq, bz, dtrue, dfalse] at hb) <;> (try simp only [within] at hb) <;> try (simp only [go_sem, h])) | refine And.intro (by first | exact trivial | omega | (simp only [I64]; omega)) ?_ | (simp only [go_sem, h])))
theorem c106 (a b : Int) (h : I64 (b - a)) : PC Tryz.prog 106 [.int .i64 a, .int .i64 b] (.int .i64 (max 0 (b - a))) := by
  have h := eq_true h
  refine PC.body Tryz.func106 (by kernel_rfl) rfl (by simp [Tryz.f106]) rfl ?_
  simp only [Tryz.f106]
  intro hlen
  simp only [go_sem, List.length_map, and_true, true_and] at hlen
  refine CV.run ?_
  (repeat' (first | ((with_reducible first | refine vcG_split ?_ ?_ | refine vcIf_split ?_ ?_ | refine vcQ_split ?_ ?_ | refine vcDG_split ?_ ?_) <;> intro hb <;> (try rw [hb]) <;> (try simp only [bq, bz, dtrue, dfalse] at hb) <;> (try simp only [within] at hb) <;> try (simp only [go_sem, h])) | refine And.intro (by first | exact trivial | omega | (simp only [I64]; omega)) ?_ | (simp only [go_sem, h])))
theorem zipS_len {φ : Int → Int → Int} {s t : List Int} (hs : s.length = 12) (ht : t.length = 12) : (zipS φ s t).length = 12 := by unfold zipS; simp [hs, ht]
theorem tk12 {s : List Int} (hs : s.length = 12) : List.take 12 (s.map I) = s.map I := List.take_of_length_le (by simp [hs])
theorem dr12 {s : List Int} (hs : s.length = 12) : List.drop 12 (s.map I) = [] := List.drop_eq_nil_of_le (by simp [hs])
set_option maxHeartbeats 1000000 in
theorem c44 (s t : List Int) (hs : s.length = 12) (ht : t.length = 12) : PC Tryz.prog 44 [.agg (s.map I), .agg (t.map I)] (.agg ((zipS max s t).map I)) := by
  have h63 := c63 64 max s t hs ht fun a b _ _ => c64 a b
  have hz := zipS_len (φ := max) hs ht
  refine PC.body Tryz.func44 (by kernel_rfl) rfl (by simp [Tryz.f44]) (pureL_mapI _) ?_
  simp only [Tryz.f44]
  intro hlen
  simp only [go_sem, List.length_map, and_true, true_and] at hlen
  refine CV.run ?_
  (repeat' (first | ((with_reducible first | refine vcG_split ?_ ?_ | refine vcIf_split ?_ ?_ | refine vcQ_split ?_ ?_ | refine vcDG_split ?_ ?_) <;> intro hb <;> (try rw [hb]) <;> (try simp only [bq, bz, dtrue, dfalse] at hb) <;> (try simp only [within] at hb) <;> try (simp only [go_sem, allOne_mapI, tk12 hs, tk12 ht, tk12 hz, dr12 hs, dr12 ht, dr12 hz, hs, ht, hz, List.length_map, List.append_nil])) | refine And.intro (by first | exact trivial | omega | (simp only [I64]; omega)) ?_ | (simp only [go_sem, allOne_mapI, tk12 hs, tk12 ht, tk12 hz, dr12 hs, dr12 ht, dr12 hz, hs, ht, hz, List.length_map, List.append_nil])))
  refine vcP_pure h63 (pureL_mapI _) (by (simp only [go_sem, pureL_mapI, AV.pureL, AV.pure, Bool.and_self])) (by (simp only [go_sem, frzL_mapI])) ?_
  (repeat' (first | ((with_reducible first | refine vcG_split ?_ ?_ | refine vcIf_split ?_ ?_ | refine vcQ_split ?_ ?_ | refine vcDG_split ?_ ?_) <;> intro hb <;> (try rw [hb]) <;> (try simp only [bq, bz, dtrue, dfalse] at hb) <;> (try simp only [within] at hb) <;> try (simp only [go_sem, allOne_mapI, tk12 hs, tk12 ht, tk12 hz, dr12 hs, dr12 ht, dr12 hz, hs, ht, hz, List.length_map, List.append_nil, frzL_mapI])) | refine And.intro (by first | exact trivial | omega | (simp only [I64]; omega)) ?_ | (simp only [go_sem, allOne_mapI, tk12 hs, tk12 ht, tk12 hz, dr12 hs, dr12 ht, dr12 hz, hs, ht, hz, List.length_map, List.append_nil, frzL_mapI])))
  all_goals trace_state
set_option maxHeartbeats 1000000 in
theorem c99 (s t : List Int) (hs : s.length = 12) (ht : t.length = 12) (h : ∀ a b, a ∈ s → b ∈ t → I64 (b - a)) : PC Tryz.prog 99 [.agg (s.map I), .agg (t.map I)] (.agg ((zipS (fun a b => max 0 (b - a)) s t).map I)) := by
  have h63 := c63 106 (fun a b => max 0 (b - a)) s t hs ht fun a b h1 h2 => c106 a b (h a b h1 h2)
  have hz := zipS_len (φ := fun a b => max 0 (b - a)) hs ht
  refine PC.body Tryz.func99 (by kernel_rfl) rfl (by simp [Tryz.f99]) (pureL_mapI _) ?_
  simp only [Tryz.f99]
  intro hlen
  simp only [go_sem, List.length_map, and_true, true_and] at hlen
  refine CV.run ?_
  (repeat' (first | ((with_reducible first | refine vcG_split ?_ ?_ | refine vcIf_split ?_ ?_ | refine vcQ_split ?_ ?_ | refine vcDG_split ?_ ?_) <;> intro hb <;> (try rw [hb]) <;> (try simp only [bq, bz, dtrue, dfalse] at hb) <;> (try simp only [within] at hb) <;> try (simp only [go_sem, allOne_mapI, tk12 hs, tk12 ht, tk12 hz, dr12 hs, dr12 ht, dr12 hz, hs, ht, hz, List.length_map, List.append_nil])) | refine And.intro (by first | exact trivial | omega | (simp only [I64]; omega)) ?_ | (simp only [go_sem, allOne_mapI, tk12 hs, tk12 ht, tk12 hz, dr12 hs, dr12 ht, dr12 hz, hs, ht, hz, List.length_map, List.append_nil])))
  refine vcP_pure h63 (pureL_mapI _) (by (simp only [go_sem, pureL_mapI, AV.pureL, AV.pure, Bool.and_self])) (by (simp only [go_sem, frzL_mapI])) ?_
  (repeat' (first | ((with_reducible first | refine vcG_split ?_ ?_ | refine vcIf_split ?_ ?_ | refine vcQ_split ?_ ?_ | refine vcDG_split ?_ ?_) <;> intro hb <;> (try rw [hb]) <;> (try simp only [bq, bz, dtrue, dfalse] at hb) <;> (try simp only [within] at hb) <;> try (simp only [go_sem, allOne_mapI, tk12 hs, tk12 ht, tk12 hz, dr12 hs, dr12 ht, dr12 hz, hs, ht, hz, List.length_map, List.append_nil, frzL_mapI])) | refine And.intro (by first | exact trivial | omega | (simp only [I64]; omega)) ?_ | (simp only [go_sem, allOne_mapI, tk12 hs, tk12 ht, tk12 hz, dr12 hs, dr12 ht, dr12 hz, hs, ht, hz, List.length_map, List.append_nil, frzL_mapI])))
  all_goals trace_state
def zer12 : List Int := [0, 0, 0, 0, 0, 0, 0, 0, 0, 0, 0, 0]
end Go.Proofs.YtoadkchhimojlaaGreat

