/- Contracts of functions of the given program, without a condition beyond those that each theorem states; they lead to the given statement. -/
import Derived.Test.YtjlopclpofbgbaaDoorF10l
import Derived.Test.YtjlopclpofbgbaaDoorF10k
import Derived.Test.YtjlopclpofbgbaaDoorF10jxa
import Derived.Test.YtjlopclpofbgbaaDoorF10j
import Derived.Test.YtjlopclpofbgbaaDoorF10ixa
import Derived.Test.YtjlopclpofbgbaaDoorF10i
import Derived.Test.YtjlopclpofbgbaaDoorF10h
import Derived.Test.YtjlopclpofbgbaaDoorF10g
import Derived.Test.YtjlopclpofbgbaaDoorF10f
import Derived.Test.YtjlopclpofbgbaaDoorF10e
import Derived.Test.YtjlopclpofbgbaaDoorF10d
import Derived.Test.YtjlopclpofbgbaaDoorF10c
import Derived.Test.YtjlopclpofbgbaaDoorF10b
import Derived.Test.YtjlopclpofbgbaaDoorF10a
import Derived.Test.YtjlopclpofbgbaaDoorTyp
import Derived.Test.YtjlopclpofbgbaaDoorFlB
import Derived.Test.YtjlopclpofbgbaaDoorFlA
import Derived.WalkKit
import Derived.OwnWalkIn
import Derived.OrdersIn
import Derived.LoopNIn
import Derived.LoopIn
import Derived.RangeFuncNested
import Derived.RangeFuncBound
import Derived.RangeFuncLeaves
import Derived.Maps.OwnSet
import Derived.Laws.Tables
import Derived.Great.BuildSlice
import Derived.Maps.Views
import Derived.WalkSpells
import Derived.Carry
import Derived.Test.YtjlopclpofbgbaaDoorProg
set_option linter.unusedSimpArgs false
set_option linter.unusedVariables false
set_option maxRecDepth 100000
namespace Go.Proofs.YtjlopclpofbgbaaDoor
open Go Go.Fl
open Classical
def sF10l_f52_1 : List (Nat × Nat) := [(0, 0), (0, 0), (0, 0), (0, 0), (0, 0), (0, 0)]
def sF10l_f53_1 : List (Nat × Nat) := [(0, 0), (0, 0), (0, 0), (0, 0), (0, 0), (0, 0)]
theorem c70y (t : Town) (hl2 : t.pl.length ≤ 1000) (h : validT t) : PC Tryd.prog 70 [hF t, .bool true] (.int .i64 0) := by
  have := c70 t hl2 True
  rw [askT_yes h trivial] at this
  simpa only [decide_true] using this
theorem c52n (t : Town) (hl2 : t.pl.length ≤ 1000) (b : Int) (h : ¬ (validT t ∧ thing t b)) : PC Tryd.prog 52 [hF t, .int .i64 b] (.tup [.int .i64 0, .int .i64 (askT t (thing t b))]) := by
  have h20 := c21 t b
  have h70 := c70 t hl2 (thing t b)
  have hne := ask_ne h
  refine PC.body Tryd.func52 (by kernel_rfl) rfl (by simp [Tryd.f52]) rfl ?_
  simp only [Tryd.f52]
  intro hlen
  simp only [go_sem, List.length_map, and_true, true_and] at hlen
  refine CV.run ?_
  (repeat' (first | ((with_reducible first | apply sg | apply si | apply sq | apply sd) <;> intro hb <;> (try rw [hb]) <;> (try simp only [bq, bz, dtrue, dfalse] at hb) <;> (try simp only [within] at hb) <;> try simp only [go_sem]) | refine And.intro (by first | exact ⟨⟩ | omega | (simp only [I64]; omega)) ?_ | (with_reducible rw [vc_draw_eq]; first | (refine CV.draw (id := 1) sF10l_f52_1 mixed rfl (by kernel_rfl) ?_; delta sF10l_f52_1)) | ((with_reducible first | refine vp h20 ?_ ?_ | refine dc h20 ?_ ?_ | refine vp h70 ?_ ?_ | refine dc h70 ?_ ?_); focus (first | exact ⟨rfl, .inl ⟨by first | rfl | (simp only [go_sem, hne, AV.pureL, AV.pure]; done), by first | (simp only [go_sem, hne, AV.pureL, AV.pure]; done) | rfl⟩⟩ | exact ⟨rfl, .inr ⟨rfl, by simp only [go_sem, hne]⟩⟩)) | ((with_reducible first | refine dp h20 ?_ ?_ | refine dp h70 ?_ ?_); focus (exact ⟨rfl, by first | rfl | (simp only [go_sem, hne, AV.pureL, AV.pure]; done), by first | (simp only [go_sem, hne, AV.pureL, AV.pure]; done) | rfl⟩)) | ((with_reducible first | refine ds h20 ?_ ?_ | refine ds h70 ?_ ?_); focus exact ⟨rfl, rfl⟩) | (simp only [go_sem, hne])))
theorem c52y (t : Town) (hl2 : t.pl.length ≤ 1000) (b : Int) (hv : validT t) (hb : thing t b) : PC Tryd.prog 52 [hF t, .int .i64 b] (.tup [.int .i64 (pg t b), .int .i64 0]) := by
  have h20 := (c21 t b).tru hb
  have h70 := c70y t hl2 hv
  unfold thing within at hb
  have h47 := c47 t hv.things b (by omega) (by omega)
  refine PC.body Tryd.func52 (by kernel_rfl) rfl (by simp [Tryd.f52]) rfl ?_
  simp only [Tryd.f52]
  intro hlen
  simp only [go_sem, List.length_map, and_true, true_and] at hlen
  refine CV.run ?_
  (repeat' (first | ((with_reducible first | apply sg | apply si | apply sq | apply sd) <;> intro hb <;> (try rw [hb]) <;> (try simp only [bq, bz, dtrue, dfalse] at hb) <;> (try simp only [within] at hb) <;> try simp only [go_sem]) | refine And.intro (by first | exact ⟨⟩ | omega | (simp only [I64]; omega)) ?_ | (with_reducible rw [vc_draw_eq]; first | (refine CV.draw (id := 1) sF10l_f52_1 mixed rfl (by kernel_rfl) ?_; delta sF10l_f52_1)) | ((with_reducible first | refine vp h20 ?_ ?_ | refine dc h20 ?_ ?_ | refine vp h70 ?_ ?_ | refine dc h70 ?_ ?_ | refine vp h47 ?_ ?_ | refine dc h47 ?_ ?_); focus (first | exact ⟨rfl, .inl ⟨by first | rfl | (simp only [go_sem, AV.pureL, AV.pure]; done), by first | (simp only [go_sem, AV.pureL, AV.pure]; done) | rfl⟩⟩ | exact ⟨rfl, .inr ⟨rfl, by simp only [go_sem]⟩⟩)) | ((with_reducible first | refine dp h20 ?_ ?_ | refine dp h70 ?_ ?_ | refine dp h47 ?_ ?_); focus (exact ⟨rfl, by first | rfl | (simp only [go_sem, AV.pureL, AV.pure]; done), by first | (simp only [go_sem, AV.pureL, AV.pure]; done) | rfl⟩)) | ((with_reducible first | refine ds h20 ?_ ?_ | refine ds h70 ?_ ?_ | refine ds h47 ?_ ?_); focus exact ⟨rfl, rfl⟩) | (simp only [go_sem])))
theorem c53n (t : Town) (hl2 : t.pl.length ≤ 1000) (b : Int) (h : ¬ (validT t ∧ thing t b)) : PC Tryd.prog 53 [hF t, .int .i64 b] (.tup [.bool false, .int .i64 (askT t (thing t b))]) := by
  have h20 := c21 t b
  have h70 := c70 t hl2 (thing t b)
  have hne := ask_ne h
  refine PC.body Tryd.func53 (by kernel_rfl) rfl (by simp [Tryd.f53]) rfl ?_
  simp only [Tryd.f53]
  intro hlen
  simp only [go_sem, List.length_map, and_true, true_and] at hlen
  refine CV.run ?_
  (repeat' (first | ((with_reducible first | apply sg | apply si | apply sq | apply sd) <;> intro hb <;> (try rw [hb]) <;> (try simp only [bq, bz, dtrue, dfalse] at hb) <;> (try simp only [within] at hb) <;> try simp only [go_sem]) | refine And.intro (by first | exact ⟨⟩ | omega | (simp only [I64]; omega)) ?_ | (with_reducible rw [vc_draw_eq]; first | (refine CV.draw (id := 1) sF10l_f53_1 mixed rfl (by kernel_rfl) ?_; delta sF10l_f53_1)) | ((with_reducible first | refine vp h20 ?_ ?_ | refine dc h20 ?_ ?_ | refine vp h70 ?_ ?_ | refine dc h70 ?_ ?_); focus (first | exact ⟨rfl, .inl ⟨by first | rfl | (simp only [go_sem, hne, AV.pureL, AV.pure]; done), by first | (simp only [go_sem, hne, AV.pureL, AV.pure]; done) | rfl⟩⟩ | exact ⟨rfl, .inr ⟨rfl, by simp only [go_sem, hne]⟩⟩)) | ((with_reducible first | refine dp h20 ?_ ?_ | refine dp h70 ?_ ?_); focus (exact ⟨rfl, by first | rfl | (simp only [go_sem, hne, AV.pureL, AV.pure]; done), by first | (simp only [go_sem, hne, AV.pureL, AV.pure]; done) | rfl⟩)) | ((with_reducible first | refine ds h20 ?_ ?_ | refine ds h70 ?_ ?_); focus exact ⟨rfl, rfl⟩) | (simp only [go_sem, hne])))
theorem c53y (t : Town) (hl2 : t.pl.length ≤ 1000) (b : Int) (hv : validT t) (hb : thing t b) : PC Tryd.prog 53 [hF t, .int .i64 b] (.tup [.bool (decide (fr t b)), .int .i64 0]) := by
  have h20 := (c21 t b).tru hb
  have h70 := c70y t hl2 hv
  unfold thing within at hb
  have h83 := c83 t hv.things (by have := hv.len; omega) b (by omega) (by omega)
  refine PC.body Tryd.func53 (by kernel_rfl) rfl (by simp [Tryd.f53]) rfl ?_
  simp only [Tryd.f53]
  intro hlen
  simp only [go_sem, List.length_map, and_true, true_and] at hlen
  refine CV.run ?_
  (repeat' (first | ((with_reducible first | apply sg | apply si | apply sq | apply sd) <;> intro hb <;> (try rw [hb]) <;> (try simp only [bq, bz, dtrue, dfalse] at hb) <;> (try simp only [within] at hb) <;> try simp only [go_sem]) | refine And.intro (by first | exact ⟨⟩ | omega | (simp only [I64]; omega)) ?_ | (with_reducible rw [vc_draw_eq]; first | (refine CV.draw (id := 1) sF10l_f53_1 mixed rfl (by kernel_rfl) ?_; delta sF10l_f53_1)) | ((with_reducible first | refine vp h20 ?_ ?_ | refine dc h20 ?_ ?_ | refine vp h70 ?_ ?_ | refine dc h70 ?_ ?_ | refine vp h83 ?_ ?_ | refine dc h83 ?_ ?_); focus (first | exact ⟨rfl, .inl ⟨by first | rfl | (simp only [go_sem, AV.pureL, AV.pure]; done), by first | (simp only [go_sem, AV.pureL, AV.pure]; done) | rfl⟩⟩ | exact ⟨rfl, .inr ⟨rfl, by simp only [go_sem]⟩⟩)) | ((with_reducible first | refine dp h20 ?_ ?_ | refine dp h70 ?_ ?_ | refine dp h83 ?_ ?_); focus (exact ⟨rfl, by first | rfl | (simp only [go_sem, AV.pureL, AV.pure]; done), by first | (simp only [go_sem, AV.pureL, AV.pure]; done) | rfl⟩)) | ((with_reducible first | refine ds h20 ?_ ?_ | refine ds h70 ?_ ?_ | refine ds h83 ?_ ?_); focus exact ⟨rfl, rfl⟩) | (simp only [go_sem])))
end Go.Proofs.YtjlopclpofbgbaaDoor

