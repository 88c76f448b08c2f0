/- Contracts of functions of the given program, without a condition beyond those that each theorem states; they lead to the given statement. -/
import Derived.Test.YtjlopclpofbgbaaDoorF13a
import Derived.Test.YtjlopclpofbgbaaDoorF12a
import Derived.Test.YtjlopclpofbgbaaDoorF11d
import Derived.Test.YtjlopclpofbgbaaDoorF11bxb
import Derived.Test.YtjlopclpofbgbaaDoorF11b
import Derived.Test.YtjlopclpofbgbaaDoorF11a
import Derived.Test.YtjlopclpofbgbaaDoorF10v
import Derived.Test.YtjlopclpofbgbaaDoorF10s
import Derived.Test.YtjlopclpofbgbaaDoorF10r
import Derived.Test.YtjlopclpofbgbaaDoorF10qxb
import Derived.Test.YtjlopclpofbgbaaDoorF10q
import Derived.Test.YtjlopclpofbgbaaDoorF10p
import Derived.Test.YtjlopclpofbgbaaDoorF10o
import Derived.Test.YtjlopclpofbgbaaDoorF10n
import Derived.Test.YtjlopclpofbgbaaDoorF10m
import Derived.Test.YtjlopclpofbgbaaDoorF10lxb
import Derived.Test.YtjlopclpofbgbaaDoorF10l
import Derived.Test.YtjlopclpofbgbaaDoorF10kxb
import Derived.Test.YtjlopclpofbgbaaDoorF10k
import Derived.Test.YtjlopclpofbgbaaDoorF10jxb
import Derived.Test.YtjlopclpofbgbaaDoorF10j
import Derived.Test.YtjlopclpofbgbaaDoorF10ixb
import Derived.Test.YtjlopclpofbgbaaDoorF10i
import Derived.Test.YtjlopclpofbgbaaDoorF10h
import Derived.Test.YtjlopclpofbgbaaDoorF10g
import Derived.Test.YtjlopclpofbgbaaDoorF10f
import Derived.Test.YtjlopclpofbgbaaDoorF10e
import Derived.Test.YtjlopclpofbgbaaDoorF10d
import Derived.Test.YtjlopclpofbgbaaDoorF10c
import Derived.Test.YtjlopclpofbgbaaDoorF10b
import Derived.Test.YtjlopclpofbgbaaDoorF10a
import Derived.Test.YtjlopclpofbgbaaDoorTyp
import Derived.Test.YtjlopclpofbgbaaDoorFlB
import Derived.Test.YtjlopclpofbgbaaDoorFlA
import Derived.WalkKit
import Derived.OwnWalkIn
import Derived.OrdersIn
import Derived.LoopNIn
import Derived.LoopIn
import Derived.RangeFuncNested
import Derived.RangeFuncBound
import Derived.RangeFuncLeaves
import Derived.Maps.OwnSet
import Derived.Laws.Tables
import Derived.Great.BuildSlice
import Derived.Maps.Views
import Derived.WalkSpells
import Derived.Carry
import Derived.Test.YtjlopclpofbgbaaDoorProg
import Derived.Test.YtjlopclpofbgbaaDoorF10u
import Derived.Test.YtjlopclpofbgbaaDoorF11c
import Derived.Test.YtjlopclpofbgbaaDoorF10z
import Derived.Test.YtjlopclpofbgbaaDoorF10y
import Derived.Test.YtjlopclpofbgbaaDoorF10t
import Derived.Test.YtjlopclpofbgbaaDoorF10wxb
import Derived.Test.YtjlopclpofbgbaaDoorF10w
import Derived.Test.YtjlopclpofbgbaaDoorF10xxb
import Derived.Test.YtjlopclpofbgbaaDoorF10x
set_option linter.unusedSimpArgs false
set_option linter.unusedVariables false
set_option maxRecDepth 100000
namespace Go.Proofs.YtjlopclpofbgbaaDoor
open Go Go.Fl
open Classical
set_option maxHeartbeats 1000000 in
theorem c15 (t : Town) (p : Int) : PC Tryd.prog 15 [hF t, .int .i64 p] (.bool true) := by
  have h22 := c22 t
  have h17 := c17
  by_cases h0 : hugeT t
  case pos =>
    replace h22 := h22.tru h0
    refine PC.body Tryd.func15 (by kernel_rfl) rfl (by simp [Tryd.f15]) rfl ?_
    simp only [Tryd.f15]
    intro hlen
    simp only [go_sem, List.length_map, and_true, true_and] at hlen
    (repeat' (first | (with_reducible refine CV.same ?_; (try subst hY); (first | refine CV.gcc 18 fun Y hY => ?_ | refine CV.gc 18 fun Y hY => ?_ | skip); refine CV.run ?_) | ((with_reducible first | refine vcG_split ?_ ?_ | refine vcIf_split ?_ ?_ | refine vcQ_split ?_ ?_ | refine vcDG_split ?_ ?_) <;> intro hb <;> (try rw [hb]) <;> (try simp only [bq, bz, dtrue, dfalse] at hb) <;> (try simp only [within] at hb) <;> try (simp only [go_sem])) | refine And.intro (by first | exact trivial | omega | (simp only [I64]; omega)) ?_ | ((with_reducible first | refine vp h22 ?_ ?_ | refine vp h17 ?_ ?_); focus (first | exact ⟨rfl, .inl ⟨by first | rfl | simp only [go_sem, AV.pureL, AV.pure], by first | (simp only [go_sem]; done) | rfl⟩⟩ | exact ⟨rfl, .inr ⟨rfl, by simp only [go_sem]⟩⟩)) | (simp only [go_sem])))
  replace h22 := h22.fls h0
  have nh := not_huge h0
  have h19 := c19 t (by omega) (by omega) (by omega) (by omega) (by omega)
  have h32 := c32 t
  by_cases hv : validT t
  · have a1 := c59y t hv
    have a2 := c60y t (by omega) hv
    have a3 := c54y t hv
    have a4 := c62y t hv
    by_cases hp : isPage t p
    · have a5 := c57y t p hv hp
      have a6 := c61y t p hv hp
      by_cases hn : thg t p = []
      · rw [if_pos hn] at a5 a6
        refine PC.body Tryd.func15 (by kernel_rfl) rfl (by simp [Tryd.f15]) rfl ?_
        simp only [Tryd.f15]
        intro hlen
        simp only [go_sem, List.length_map, and_true, true_and] at hlen
        (repeat' (first | (with_reducible refine CV.same ?_; (try subst hY); (first | refine CV.gcc 18 fun Y hY => ?_ | refine CV.gc 18 fun Y hY => ?_ | skip); refine CV.run ?_) | ((with_reducible first | refine vcG_split ?_ ?_ | refine vcIf_split ?_ ?_ | refine vcQ_split ?_ ?_ | refine vcDG_split ?_ ?_) <;> intro hb <;> (try rw [hb]) <;> (try simp only [bq, bz, dtrue, dfalse] at hb) <;> (try simp only [within] at hb) <;> try (simp only [go_sem])) | refine And.intro (by first | exact trivial | omega | (simp only [I64]; omega)) ?_ | ((with_reducible first | refine vp h22 ?_ ?_ | refine vp h19 ?_ ?_ | refine vp a1 ?_ ?_ | refine vp a2 ?_ ?_ | refine vp a3 ?_ ?_ | refine vp a4 ?_ ?_ | refine vp a5 ?_ ?_ | refine vp a6 ?_ ?_ | refine vp h32 ?_ ?_ | refine vp h17 ?_ ?_); focus (first | exact ⟨rfl, .inl ⟨by first | rfl | simp only [go_sem, AV.pureL, AV.pure], by first | (simp only [go_sem]; done) | rfl⟩⟩ | exact ⟨rfl, .inr ⟨rfl, by simp only [go_sem]⟩⟩)) | (simp only [go_sem])))
      · rw [if_neg hn] at a5 a6
        refine PC.body Tryd.func15 (by kernel_rfl) rfl (by simp [Tryd.f15]) rfl ?_
        simp only [Tryd.f15]
        intro hlen
        simp only [go_sem, List.length_map, and_true, true_and] at hlen
        (repeat' (first | (with_reducible refine CV.same ?_; (try subst hY); (first | refine CV.gcc 18 fun Y hY => ?_ | refine CV.gc 18 fun Y hY => ?_ | skip); refine CV.run ?_) | ((with_reducible first | refine vcG_split ?_ ?_ | refine vcIf_split ?_ ?_ | refine vcQ_split ?_ ?_ | refine vcDG_split ?_ ?_) <;> intro hb <;> (try rw [hb]) <;> (try simp only [bq, bz, dtrue, dfalse] at hb) <;> (try simp only [within] at hb) <;> try (simp only [go_sem])) | refine And.intro (by first | exact trivial | omega | (simp only [I64]; omega)) ?_ | ((with_reducible first | refine vp h22 ?_ ?_ | refine vp h19 ?_ ?_ | refine vp a1 ?_ ?_ | refine vp a2 ?_ ?_ | refine vp a3 ?_ ?_ | refine vp a4 ?_ ?_ | refine vp a5 ?_ ?_ | refine vp a6 ?_ ?_ | refine vp h32 ?_ ?_ | refine vp h17 ?_ ?_); focus (first | exact ⟨rfl, .inl ⟨by first | rfl | simp only [go_sem, AV.pureL, AV.pure], by first | (simp only [go_sem]; done) | rfl⟩⟩ | exact ⟨rfl, .inr ⟨rfl, by simp only [go_sem]⟩⟩)) | (simp only [go_sem])))
    · have hn : ¬ (validT t ∧ isPage t p) := fun h => hp h.2
      have a5 := c57n t p hn
      have a6 := c61n t (by omega) p hn
      refine PC.body Tryd.func15 (by kernel_rfl) rfl (by simp [Tryd.f15]) rfl ?_
      simp only [Tryd.f15]
      intro hlen
      simp only [go_sem, List.length_map, and_true, true_and] at hlen
      (repeat' (first | (with_reducible refine CV.same ?_; (try subst hY); (first | refine CV.gcc 18 fun Y hY => ?_ | refine CV.gc 18 fun Y hY => ?_ | skip); refine CV.run ?_) | ((with_reducible first | refine vcG_split ?_ ?_ | refine vcIf_split ?_ ?_ | refine vcQ_split ?_ ?_ | refine vcDG_split ?_ ?_) <;> intro hb <;> (try rw [hb]) <;> (try simp only [bq, bz, dtrue, dfalse] at hb) <;> (try simp only [within] at hb) <;> try (simp only [go_sem])) | refine And.intro (by first | exact trivial | omega | (simp only [I64]; omega)) ?_ | ((with_reducible first | refine vp h22 ?_ ?_ | refine vp h19 ?_ ?_ | refine vp a1 ?_ ?_ | refine vp a2 ?_ ?_ | refine vp a3 ?_ ?_ | refine vp a4 ?_ ?_ | refine vp a5 ?_ ?_ | refine vp a6 ?_ ?_ | refine vp h32 ?_ ?_ | refine vp h17 ?_ ?_); focus (first | exact ⟨rfl, .inl ⟨by first | rfl | simp only [go_sem, AV.pureL, AV.pure], by first | (simp only [go_sem]; done) | rfl⟩⟩ | exact ⟨rfl, .inr ⟨rfl, by simp only [go_sem]⟩⟩)) | (simp only [go_sem])))
  · have hn : ¬ (validT t ∧ isPage t p) := fun h => hv h.1
    have a1 := c59n t hv
    have a2 := c60n t (by omega) hv
    have a3 := c54n t hv
    have a4 := c62n t (by omega) hv
    have a5 := c57n t p hn
    have a6 := c61n t (by omega) p hn
    refine PC.body Tryd.func15 (by kernel_rfl) rfl (by simp [Tryd.f15]) rfl ?_
    simp only [Tryd.f15]
    intro hlen
    simp only [go_sem, List.length_map, and_true, true_and] at hlen
    (repeat' (first | (with_reducible refine CV.same ?_; (try subst hY); (first | refine CV.gcc 18 fun Y hY => ?_ | refine CV.gc 18 fun Y hY => ?_ | skip); refine CV.run ?_) | ((with_reducible first | refine vcG_split ?_ ?_ | refine vcIf_split ?_ ?_ | refine vcQ_split ?_ ?_ | refine vcDG_split ?_ ?_) <;> intro hb <;> (try rw [hb]) <;> (try simp only [bq, bz, dtrue, dfalse] at hb) <;> (try simp only [within] at hb) <;> try (simp only [go_sem])) | refine And.intro (by first | exact trivial | omega | (simp only [I64]; omega)) ?_ | ((with_reducible first | refine vp h22 ?_ ?_ | refine vp h19 ?_ ?_ | refine vp a1 ?_ ?_ | refine vp a2 ?_ ?_ | refine vp a3 ?_ ?_ | refine vp a4 ?_ ?_ | refine vp a5 ?_ ?_ | refine vp a6 ?_ ?_ | refine vp h32 ?_ ?_ | refine vp h17 ?_ ?_); focus (first | exact ⟨rfl, .inl ⟨by first | rfl | simp only [go_sem, AV.pureL, AV.pure], by first | (simp only [go_sem]; done) | rfl⟩⟩ | exact ⟨rfl, .inr ⟨rfl, by simp only [go_sem]⟩⟩)) | (simp only [go_sem])))
end Go.Proofs.YtjlopclpofbgbaaDoor

