/- Contracts of functions of the given program, without a condition beyond those that each theorem states; they lead to the given statement. -/
import Derived.Test.YtjlopclpofbgbaaDoorF13a
import Derived.Test.YtjlopclpofbgbaaDoorF12a
import Derived.Test.YtjlopclpofbgbaaDoorF11d
import Derived.Test.YtjlopclpofbgbaaDoorF11bxc
import Derived.Test.YtjlopclpofbgbaaDoorF11b
import Derived.Test.YtjlopclpofbgbaaDoorF11a
import Derived.Test.YtjlopclpofbgbaaDoorF10v
import Derived.Test.YtjlopclpofbgbaaDoorF10s
import Derived.Test.YtjlopclpofbgbaaDoorF10r
import Derived.Test.YtjlopclpofbgbaaDoorF10qxc
import Derived.Test.YtjlopclpofbgbaaDoorF10q
import Derived.Test.YtjlopclpofbgbaaDoorF10p
import Derived.Test.YtjlopclpofbgbaaDoorF10o
import Derived.Test.YtjlopclpofbgbaaDoorF10n
import Derived.Test.YtjlopclpofbgbaaDoorF10m
import Derived.Test.YtjlopclpofbgbaaDoorF10lxc
import Derived.Test.YtjlopclpofbgbaaDoorF10l
import Derived.Test.YtjlopclpofbgbaaDoorF10kxc
import Derived.Test.YtjlopclpofbgbaaDoorF10k
import Derived.Test.YtjlopclpofbgbaaDoorF10jxc
import Derived.Test.YtjlopclpofbgbaaDoorF10j
import Derived.Test.YtjlopclpofbgbaaDoorF10ixc
import Derived.Test.YtjlopclpofbgbaaDoorF10i
import Derived.Test.YtjlopclpofbgbaaDoorF10h
import Derived.Test.YtjlopclpofbgbaaDoorF10g
import Derived.Test.YtjlopclpofbgbaaDoorF10f
import Derived.Test.YtjlopclpofbgbaaDoorF10e
import Derived.Test.YtjlopclpofbgbaaDoorF10d
import Derived.Test.YtjlopclpofbgbaaDoorF10c
import Derived.Test.YtjlopclpofbgbaaDoorF10b
import Derived.Test.YtjlopclpofbgbaaDoorF10a
import Derived.Test.YtjlopclpofbgbaaDoorTyp
import Derived.Test.YtjlopclpofbgbaaDoorFlB
import Derived.Test.YtjlopclpofbgbaaDoorFlA
import Derived.WalkKit
import Derived.OwnWalkIn
import Derived.OrdersIn
import Derived.LoopNIn
import Derived.LoopIn
import Derived.RangeFuncNested
import Derived.RangeFuncBound
import Derived.RangeFuncLeaves
import Derived.Maps.OwnSet
import Derived.Laws.Tables
import Derived.Great.BuildSlice
import Derived.Maps.Views
import Derived.WalkSpells
import Derived.Carry
import Derived.Test.YtjlopclpofbgbaaDoorProg
import Derived.Test.YtjlopclpofbgbaaDoorF10u
import Derived.Test.YtjlopclpofbgbaaDoorF11c
import Derived.Test.YtjlopclpofbgbaaDoorF10zxc
import Derived.Test.YtjlopclpofbgbaaDoorF10z
import Derived.Test.YtjlopclpofbgbaaDoorF10y
import Derived.Test.YtjlopclpofbgbaaDoorF10t
import Derived.Test.YtjlopclpofbgbaaDoorF10w
import Derived.Test.YtjlopclpofbgbaaDoorF10x
set_option linter.unusedSimpArgs false
set_option linter.unusedVariables false
set_option maxRecDepth 100000
namespace Go.Proofs.YtjlopclpofbgbaaDoor
open Go Go.Fl
open Classical
set_option maxHeartbeats 1000000 in
theorem c4 (t : Town) (b p : Int) : PC Tryd.prog 4 [hF t, .int .i64 b, .int .i64 p] (.bool true) := by
  have h22 := c22 t
  have h17 := c17
  by_cases h0 : hugeT t
  case pos =>
    replace h22 := h22.tru h0
    refine PC.body Tryd.func4 (by kernel_rfl) rfl (by simp [Tryd.f4]) rfl ?_
    simp only [Tryd.f4]
    intro hlen
    simp only [go_sem, List.length_map, and_true, true_and] at hlen
    (repeat' (first | (with_reducible refine CV.same ?_; (try subst hY); (first | refine CV.gcc 16 fun Y hY => ?_ | refine CV.gc 16 fun Y hY => ?_ | skip); refine CV.run ?_) | ((with_reducible first | refine vcG_split ?_ ?_ | refine vcIf_split ?_ ?_ | refine vcQ_split ?_ ?_ | refine vcDG_split ?_ ?_) <;> intro hb <;> (try rw [hb]) <;> (try simp only [bq, bz, dtrue, dfalse] at hb) <;> (try simp only [within] at hb) <;> try (simp only [go_sem])) | refine And.intro (by first | exact trivial | omega | (simp only [I64]; omega)) ?_ | ((with_reducible first | refine vp h22 ?_ ?_ | refine vp h17 ?_ ?_); focus (first | exact ⟨rfl, .inl ⟨by first | rfl | simp only [go_sem, AV.pureL, AV.pure], by first | (simp only [go_sem]; done) | rfl⟩⟩ | exact ⟨rfl, .inr ⟨rfl, by simp only [go_sem]⟩⟩)) | (simp only [go_sem])))
  replace h22 := h22.fls h0
  have nh := not_huge h0
  have h19 := c19 t (by omega) (by omega) (by omega) (by omega) (by omega)
  have h32 := c32 t
  have z := c27nn
  by_cases h1 : validT t ∧ house t b
  · obtain ⟨hv, hb⟩ := h1
    have a1 := c23y t b hv hb
    have a2 := c24y t (by omega) b hv hb
    have a3 := c25y t b hv hb
    have a4 := c26y t (by omega) b hv hb
    have a5 := c28y t b hv hb
    have a6 := c29y t (by omega) b hv hb
    have e1 := c27s (lft t (allI t.ts.length) b)
    have e2 := c27s (los t b)
    have e3 := c27s (sta t b)
    by_cases hp : isPage t p
    · have a7 := c30y t b p hv hb hp
      have a8 := c31y t b p hv hb hp
      generalize ag t (lft t (thg t p) b) = Z at a7 a8
      rcases Z with _ | l
      · simp only [resA] at a7 a8
        refine PC.body Tryd.func4 (by kernel_rfl) rfl (by simp [Tryd.f4]) rfl ?_
        simp only [Tryd.f4]
        intro hlen
        simp only [go_sem, List.length_map, and_true, true_and] at hlen
        (repeat' (first | (with_reducible refine CV.same ?_; (try subst hY); (first | refine CV.gcc 16 fun Y hY => ?_ | refine CV.gc 16 fun Y hY => ?_ | skip); refine CV.run ?_) | ((with_reducible first | refine vcG_split ?_ ?_ | refine vcIf_split ?_ ?_ | refine vcQ_split ?_ ?_ | refine vcDG_split ?_ ?_) <;> intro hb <;> (try rw [hb]) <;> (try simp only [bq, bz, dtrue, dfalse] at hb) <;> (try simp only [within] at hb) <;> try (simp only [go_sem])) | refine And.intro (by first | exact trivial | omega | (simp only [I64]; omega)) ?_ | ((with_reducible first | refine vp h22 ?_ ?_ | refine vp h19 ?_ ?_ | refine vp a1 ?_ ?_ | refine vp a2 ?_ ?_ | refine vp a3 ?_ ?_ | refine vp a4 ?_ ?_ | refine vp a5 ?_ ?_ | refine vp a6 ?_ ?_ | refine vp a7 ?_ ?_ | refine vp a8 ?_ ?_ | refine vp e1 ?_ ?_ | refine vp e2 ?_ ?_ | refine vp e3 ?_ ?_ | refine vp z ?_ ?_ | refine vp h32 ?_ ?_ | refine vp h17 ?_ ?_); focus (first | exact ⟨rfl, .inl ⟨by first | rfl | simp only [go_sem, AV.pureL, AV.pure], by first | (simp only [go_sem]; done) | rfl⟩⟩ | exact ⟨rfl, .inr ⟨rfl, by simp only [go_sem]⟩⟩)) | (simp only [go_sem])))
      · simp only [resA] at a7 a8
        have e4 := c27s l
        refine PC.body Tryd.func4 (by kernel_rfl) rfl (by simp [Tryd.f4]) rfl ?_
        simp only [Tryd.f4]
        intro hlen
        simp only [go_sem, List.length_map, and_true, true_and] at hlen
        (repeat' (first | (with_reducible refine CV.same ?_; (try subst hY); (first | refine CV.gcc 16 fun Y hY => ?_ | refine CV.gc 16 fun Y hY => ?_ | skip); refine CV.run ?_) | ((with_reducible first | refine vcG_split ?_ ?_ | refine vcIf_split ?_ ?_ | refine vcQ_split ?_ ?_ | refine vcDG_split ?_ ?_) <;> intro hb <;> (try rw [hb]) <;> (try simp only [bq, bz, dtrue, dfalse] at hb) <;> (try simp only [within] at hb) <;> try (simp only [go_sem])) | refine And.intro (by first | exact trivial | omega | (simp only [I64]; omega)) ?_ | ((with_reducible first | refine vp h22 ?_ ?_ | refine vp h19 ?_ ?_ | refine vp a1 ?_ ?_ | refine vp a2 ?_ ?_ | refine vp a3 ?_ ?_ | refine vp a4 ?_ ?_ | refine vp a5 ?_ ?_ | refine vp a6 ?_ ?_ | refine vp a7 ?_ ?_ | refine vp a8 ?_ ?_ | refine vp e1 ?_ ?_ | refine vp e2 ?_ ?_ | refine vp e3 ?_ ?_ | refine vp e4 ?_ ?_ | refine vp h32 ?_ ?_ | refine vp h17 ?_ ?_); focus (first | exact ⟨rfl, .inl ⟨by first | rfl | simp only [go_sem, AV.pureL, AV.pure], by first | (simp only [go_sem]; done) | rfl⟩⟩ | exact ⟨rfl, .inr ⟨rfl, by simp only [go_sem]⟩⟩)) | (simp only [go_sem])))
    · have hn : ¬ (validT t ∧ (house t b ∧ isPage t p)) := fun h => hp h.2.2
      have a7 := c30n t b p hn
      have a8 := c31n t (by omega) b p hn
      refine PC.body Tryd.func4 (by kernel_rfl) rfl (by simp [Tryd.f4]) rfl ?_
      simp only [Tryd.f4]
      intro hlen
      simp only [go_sem, List.length_map, and_true, true_and] at hlen
      (repeat' (first | (with_reducible refine CV.same ?_; (try subst hY); (first | refine CV.gcc 16 fun Y hY => ?_ | refine CV.gc 16 fun Y hY => ?_ | skip); refine CV.run ?_) | ((with_reducible first | refine vcG_split ?_ ?_ | refine vcIf_split ?_ ?_ | refine vcQ_split ?_ ?_ | refine vcDG_split ?_ ?_) <;> intro hb <;> (try rw [hb]) <;> (try simp only [bq, bz, dtrue, dfalse] at hb) <;> (try simp only [within] at hb) <;> try (simp only [go_sem])) | refine And.intro (by first | exact trivial | omega | (simp only [I64]; omega)) ?_ | ((with_reducible first | refine vp h22 ?_ ?_ | refine vp h19 ?_ ?_ | refine vp a1 ?_ ?_ | refine vp a2 ?_ ?_ | refine vp a3 ?_ ?_ | refine vp a4 ?_ ?_ | refine vp a5 ?_ ?_ | refine vp a6 ?_ ?_ | refine vp a7 ?_ ?_ | refine vp a8 ?_ ?_ | refine vp e1 ?_ ?_ | refine vp e2 ?_ ?_ | refine vp e3 ?_ ?_ | refine vp z ?_ ?_ | refine vp h32 ?_ ?_ | refine vp h17 ?_ ?_); focus (first | exact ⟨rfl, .inl ⟨by first | rfl | simp only [go_sem, AV.pureL, AV.pure], by first | (simp only [go_sem]; done) | rfl⟩⟩ | exact ⟨rfl, .inr ⟨rfl, by simp only [go_sem]⟩⟩)) | (simp only [go_sem])))
  · have hn : ¬ (validT t ∧ (house t b ∧ isPage t p)) := fun h => h1 ⟨h.1, h.2.1⟩
    have a1 := c23n t b h1
    have a2 := c24n t (by omega) b h1
    have a3 := c25n t b h1
    have a4 := c26n t (by omega) b h1
    have a5 := c28n t b h1
    have a6 := c29n t (by omega) b h1
    have a7 := c30n t b p hn
    have a8 := c31n t (by omega) b p hn
    refine PC.body Tryd.func4 (by kernel_rfl) rfl (by simp [Tryd.f4]) rfl ?_
    simp only [Tryd.f4]
    intro hlen
    simp only [go_sem, List.length_map, and_true, true_and] at hlen
    (repeat' (first | (with_reducible refine CV.same ?_; (try subst hY); (first | refine CV.gcc 16 fun Y hY => ?_ | refine CV.gc 16 fun Y hY => ?_ | skip); refine CV.run ?_) | ((with_reducible first | refine vcG_split ?_ ?_ | refine vcIf_split ?_ ?_ | refine vcQ_split ?_ ?_ | refine vcDG_split ?_ ?_) <;> intro hb <;> (try rw [hb]) <;> (try simp only [bq, bz, dtrue, dfalse] at hb) <;> (try simp only [within] at hb) <;> try (simp only [go_sem])) | refine And.intro (by first | exact trivial | omega | (simp only [I64]; omega)) ?_ | ((with_reducible first | refine vp h22 ?_ ?_ | refine vp h19 ?_ ?_ | refine vp a1 ?_ ?_ | refine vp a2 ?_ ?_ | refine vp a3 ?_ ?_ | refine vp a4 ?_ ?_ | refine vp a5 ?_ ?_ | refine vp a6 ?_ ?_ | refine vp a7 ?_ ?_ | refine vp a8 ?_ ?_ | refine vp z ?_ ?_ | refine vp h32 ?_ ?_ | refine vp h17 ?_ ?_); focus (first | exact ⟨rfl, .inl ⟨by first | rfl | simp only [go_sem, AV.pureL, AV.pure], by first | (simp only [go_sem]; done) | rfl⟩⟩ | exact ⟨rfl, .inr ⟨rfl, by simp only [go_sem]⟩⟩)) | (simp only [go_sem])))
end Go.Proofs.YtjlopclpofbgbaaDoor

