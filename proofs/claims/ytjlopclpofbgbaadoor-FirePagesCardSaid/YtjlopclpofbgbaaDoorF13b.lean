/- Contracts of functions of the given program, without a condition beyond those that each theorem states; they lead to the given statement. -/
import Derived.Test.YtjlopclpofbgbaaDoorF13a
import Derived.Test.YtjlopclpofbgbaaDoorF12a
import Derived.Test.YtjlopclpofbgbaaDoorF11d
import Derived.Test.YtjlopclpofbgbaaDoorF11bxa
import Derived.Test.YtjlopclpofbgbaaDoorF11b
import Derived.Test.YtjlopclpofbgbaaDoorF11a
import Derived.Test.YtjlopclpofbgbaaDoorF10v
import Derived.Test.YtjlopclpofbgbaaDoorF10s
import Derived.Test.YtjlopclpofbgbaaDoorF10r
import Derived.Test.YtjlopclpofbgbaaDoorF10qxa
import Derived.Test.YtjlopclpofbgbaaDoorF10q
import Derived.Test.YtjlopclpofbgbaaDoorF10p
import Derived.Test.YtjlopclpofbgbaaDoorF10o
import Derived.Test.YtjlopclpofbgbaaDoorF10n
import Derived.Test.YtjlopclpofbgbaaDoorF10m
import Derived.Test.YtjlopclpofbgbaaDoorF10lxa
import Derived.Test.YtjlopclpofbgbaaDoorF10l
import Derived.Test.YtjlopclpofbgbaaDoorF10k
import Derived.Test.YtjlopclpofbgbaaDoorF10jxa
import Derived.Test.YtjlopclpofbgbaaDoorF10j
import Derived.Test.YtjlopclpofbgbaaDoorF10ixa
import Derived.Test.YtjlopclpofbgbaaDoorF10i
import Derived.Test.YtjlopclpofbgbaaDoorF10h
import Derived.Test.YtjlopclpofbgbaaDoorF10g
import Derived.Test.YtjlopclpofbgbaaDoorF10f
import Derived.Test.YtjlopclpofbgbaaDoorF10e
import Derived.Test.YtjlopclpofbgbaaDoorF10d
import Derived.Test.YtjlopclpofbgbaaDoorF10c
import Derived.Test.YtjlopclpofbgbaaDoorF10b
import Derived.Test.YtjlopclpofbgbaaDoorF10a
import Derived.Test.YtjlopclpofbgbaaDoorTyp
import Derived.Test.YtjlopclpofbgbaaDoorFlB
import Derived.Test.YtjlopclpofbgbaaDoorFlA
import Derived.WalkKit
import Derived.OwnWalkIn
import Derived.OrdersIn
import Derived.LoopNIn
import Derived.LoopIn
import Derived.RangeFuncNested
import Derived.RangeFuncBound
import Derived.RangeFuncLeaves
import Derived.Maps.OwnSet
import Derived.Laws.Tables
import Derived.Great.BuildSlice
import Derived.Maps.Views
import Derived.WalkSpells
import Derived.Carry
import Derived.Test.YtjlopclpofbgbaaDoorProg
import Derived.Test.YtjlopclpofbgbaaDoorF10u
import Derived.Test.YtjlopclpofbgbaaDoorF11c
import Derived.Test.YtjlopclpofbgbaaDoorF10z
import Derived.Test.YtjlopclpofbgbaaDoorF10y
import Derived.Test.YtjlopclpofbgbaaDoorF10t
import Derived.Test.YtjlopclpofbgbaaDoorF10w
import Derived.Test.YtjlopclpofbgbaaDoorF10x
set_option linter.unusedSimpArgs false
set_option linter.unusedVariables false
set_option maxRecDepth 100000
namespace Go.Proofs.YtjlopclpofbgbaaDoor
open Go Go.Fl
open Classical
def sF13b_f9_4 : List (Nat × Nat) := [(0, 0), (0, 0), (0, 0), (0, 0), (0, 0)]
set_option maxHeartbeats 1000000 in
theorem c9 (t : Town) (i : Int) : PC Tryd.prog 9 [hF t, .int .i64 i] (.bool true) := by
  have h22 := c22 t
  have h17 := c17
  by_cases h0 : hugeT t
  case pos =>
    replace h22 := h22.tru h0
    refine PC.body Tryd.func9 (by kernel_rfl) rfl (by simp [Tryd.f9]) rfl ?_
    simp only [Tryd.f9]
    intro hlen
    simp only [go_sem, List.length_map, and_true, true_and] at hlen
    (repeat' (first | (with_reducible refine CV.same ?_; (try subst hY); (first | refine CV.gcc 14 fun Y hY => ?_ | refine CV.gc 14 fun Y hY => ?_ | skip); refine CV.run ?_) | ((with_reducible first | refine vcG_split ?_ ?_ | refine vcIf_split ?_ ?_ | refine vcQ_split ?_ ?_ | refine vcDG_split ?_ ?_) <;> intro hb <;> (try rw [hb]) <;> (try simp only [bq, bz, dtrue, dfalse] at hb) <;> (try simp only [within] at hb) <;> try (simp only [go_sem])) | refine And.intro (by first | exact trivial | omega | (simp only [I64]; omega)) ?_ | (with_reducible rw [vc_draw_eq]; first | (refine CV.draw (id := 4) sF13b_f9_4 mixed rfl (by kernel_rfl) ?_; delta sF13b_f9_4)) | ((with_reducible first | refine vp h22 ?_ ?_ | refine dc h22 ?_ ?_ | refine vp h17 ?_ ?_ | refine dc h17 ?_ ?_); focus (first | exact ⟨rfl, .inl ⟨by first | rfl | simp only [go_sem, AV.pureL, AV.pure], by first | (simp only [go_sem]; done) | rfl⟩⟩ | exact ⟨rfl, .inr ⟨rfl, by simp only [go_sem]⟩⟩)) | ((with_reducible first | refine dp h22 ?_ ?_ | refine dp h17 ?_ ?_); focus exact ⟨rfl, by first | rfl | simp only [go_sem, AV.pureL, AV.pure], by first | (simp only [go_sem]; done) | rfl⟩) | ((with_reducible first | refine ds h22 ?_ ?_ | refine ds h17 ?_ ?_); focus exact ⟨rfl, rfl⟩) | (simp only [go_sem])))
  replace h22 := h22.fls h0
  have nh := not_huge h0
  have h19 := c19 t (by omega) (by omega) (by omega) (by omega) (by omega)
  have h32 := c32 t
  have h49 := c49 t
  have h50 := c50 t (by omega)
  by_cases h1 : validT t ∧ thing t i
  · obtain ⟨hv, hi⟩ := h1
    have a1 := c51y t i hv hi
    have a2 := c52y t (by omega) i hv hi
    have a3 := c46y t i hv hi
    have a4 := c53y t (by omega) i hv hi
    refine PC.body Tryd.func9 (by kernel_rfl) rfl (by simp [Tryd.f9]) rfl ?_
    simp only [Tryd.f9]
    intro hlen
    simp only [go_sem, List.length_map, and_true, true_and] at hlen
    (repeat' (first | (with_reducible refine CV.same ?_; (try subst hY); (first | refine CV.gcc 14 fun Y hY => ?_ | refine CV.gc 14 fun Y hY => ?_ | skip); refine CV.run ?_) | ((with_reducible first | refine vcG_split ?_ ?_ | refine vcIf_split ?_ ?_ | refine vcQ_split ?_ ?_ | refine vcDG_split ?_ ?_) <;> intro hb <;> (try rw [hb]) <;> (try simp only [bq, bz, dtrue, dfalse] at hb) <;> (try simp only [within] at hb) <;> try (simp only [go_sem])) | refine And.intro (by first | exact trivial | omega | (simp only [I64]; omega)) ?_ | (with_reducible rw [vc_draw_eq]; first | (refine CV.draw (id := 4) sF13b_f9_4 mixed rfl (by kernel_rfl) ?_; delta sF13b_f9_4)) | ((with_reducible first | refine vp h22 ?_ ?_ | refine dc h22 ?_ ?_ | refine vp h19 ?_ ?_ | refine dc h19 ?_ ?_ | refine vp h49 ?_ ?_ | refine dc h49 ?_ ?_ | refine vp h50 ?_ ?_ | refine dc h50 ?_ ?_ | refine vp a1 ?_ ?_ | refine dc a1 ?_ ?_ | refine vp a2 ?_ ?_ | refine dc a2 ?_ ?_ | refine vp a3 ?_ ?_ | refine dc a3 ?_ ?_ | refine vp a4 ?_ ?_ | refine dc a4 ?_ ?_ | refine vp h32 ?_ ?_ | refine dc h32 ?_ ?_ | refine vp h17 ?_ ?_ | refine dc h17 ?_ ?_); focus (first | exact ⟨rfl, .inl ⟨by first | rfl | simp only [go_sem, AV.pureL, AV.pure], by first | (simp only [go_sem]; done) | rfl⟩⟩ | exact ⟨rfl, .inr ⟨rfl, by simp only [go_sem]⟩⟩)) | ((with_reducible first | refine dp h22 ?_ ?_ | refine dp h19 ?_ ?_ | refine dp h49 ?_ ?_ | refine dp h50 ?_ ?_ | refine dp a1 ?_ ?_ | refine dp a2 ?_ ?_ | refine dp a3 ?_ ?_ | refine dp a4 ?_ ?_ | refine dp h32 ?_ ?_ | refine dp h17 ?_ ?_); focus exact ⟨rfl, by first | rfl | simp only [go_sem, AV.pureL, AV.pure], by first | (simp only [go_sem]; done) | rfl⟩) | ((with_reducible first | refine ds h22 ?_ ?_ | refine ds h19 ?_ ?_ | refine ds h49 ?_ ?_ | refine ds h50 ?_ ?_ | refine ds a1 ?_ ?_ | refine ds a2 ?_ ?_ | refine ds a3 ?_ ?_ | refine ds a4 ?_ ?_ | refine ds h32 ?_ ?_ | refine ds h17 ?_ ?_); focus exact ⟨rfl, rfl⟩) | (simp only [go_sem])))
    all_goals trace_state
  · have a1 := c51n t i h1
    have a2 := c52n t (by omega) i h1
    have a3 := c46n t i h1
    have a4 := c53n t (by omega) i h1
    refine PC.body Tryd.func9 (by kernel_rfl) rfl (by simp [Tryd.f9]) rfl ?_
    simp only [Tryd.f9]
    intro hlen
    simp only [go_sem, List.length_map, and_true, true_and] at hlen
    (repeat' (first | (with_reducible refine CV.same ?_; (try subst hY); (first | refine CV.gcc 14 fun Y hY => ?_ | refine CV.gc 14 fun Y hY => ?_ | skip); refine CV.run ?_) | ((with_reducible first | refine vcG_split ?_ ?_ | refine vcIf_split ?_ ?_ | refine vcQ_split ?_ ?_ | refine vcDG_split ?_ ?_) <;> intro hb <;> (try rw [hb]) <;> (try simp only [bq, bz, dtrue, dfalse] at hb) <;> (try simp only [within] at hb) <;> try (simp only [go_sem])) | refine And.intro (by first | exact trivial | omega | (simp only [I64]; omega)) ?_ | (with_reducible rw [vc_draw_eq]; first | (refine CV.draw (id := 4) sF13b_f9_4 mixed rfl (by kernel_rfl) ?_; delta sF13b_f9_4)) | ((with_reducible first | refine vp h22 ?_ ?_ | refine dc h22 ?_ ?_ | refine vp h19 ?_ ?_ | refine dc h19 ?_ ?_ | refine vp h49 ?_ ?_ | refine dc h49 ?_ ?_ | refine vp h50 ?_ ?_ | refine dc h50 ?_ ?_ | refine vp a1 ?_ ?_ | refine dc a1 ?_ ?_ | refine vp a2 ?_ ?_ | refine dc a2 ?_ ?_ | refine vp a3 ?_ ?_ | refine dc a3 ?_ ?_ | refine vp a4 ?_ ?_ | refine dc a4 ?_ ?_ | refine vp h32 ?_ ?_ | refine dc h32 ?_ ?_ | refine vp h17 ?_ ?_ | refine dc h17 ?_ ?_); focus (first | exact ⟨rfl, .inl ⟨by first | rfl | simp only [go_sem, AV.pureL, AV.pure], by first | (simp only [go_sem]; done) | rfl⟩⟩ | exact ⟨rfl, .inr ⟨rfl, by simp only [go_sem]⟩⟩)) | ((with_reducible first | refine dp h22 ?_ ?_ | refine dp h19 ?_ ?_ | refine dp h49 ?_ ?_ | refine dp h50 ?_ ?_ | refine dp a1 ?_ ?_ | refine dp a2 ?_ ?_ | refine dp a3 ?_ ?_ | refine dp a4 ?_ ?_ | refine dp h32 ?_ ?_ | refine dp h17 ?_ ?_); focus exact ⟨rfl, by first | rfl | simp only [go_sem, AV.pureL, AV.pure], by first | (simp only [go_sem]; done) | rfl⟩) | ((with_reducible first | refine ds h22 ?_ ?_ | refine ds h19 ?_ ?_ | refine ds h49 ?_ ?_ | refine ds h50 ?_ ?_ | refine ds a1 ?_ ?_ | refine ds a2 ?_ ?_ | refine ds a3 ?_ ?_ | refine ds a4 ?_ ?_ | refine ds h32 ?_ ?_ | refine ds h17 ?_ ?_); focus exact ⟨rfl, rfl⟩) | (simp only [go_sem])))
    all_goals trace_state
end Go.Proofs.YtjlopclpofbgbaaDoor

