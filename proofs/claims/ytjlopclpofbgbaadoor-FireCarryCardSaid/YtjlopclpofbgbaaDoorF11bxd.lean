/- Contracts of functions of the given program, without a condition beyond those that each theorem states; they lead to the given statement. -/
import Derived.Test.YtjlopclpofbgbaaDoorF11b
import Derived.Test.YtjlopclpofbgbaaDoorF11axd
import Derived.Test.YtjlopclpofbgbaaDoorF11a
import Derived.Test.YtjlopclpofbgbaaDoorF10v
import Derived.Test.YtjlopclpofbgbaaDoorF10s
import Derived.Test.YtjlopclpofbgbaaDoorF10r
import Derived.Test.YtjlopclpofbgbaaDoorF10qxd
import Derived.Test.YtjlopclpofbgbaaDoorF10q
import Derived.Test.YtjlopclpofbgbaaDoorF10p
import Derived.Test.YtjlopclpofbgbaaDoorF10o
import Derived.Test.YtjlopclpofbgbaaDoorF10n
import Derived.Test.YtjlopclpofbgbaaDoorF10m
import Derived.Test.YtjlopclpofbgbaaDoorF10l
import Derived.Test.YtjlopclpofbgbaaDoorF10kxd
import Derived.Test.YtjlopclpofbgbaaDoorF10k
import Derived.Test.YtjlopclpofbgbaaDoorF10jxd
import Derived.Test.YtjlopclpofbgbaaDoorF10j
import Derived.Test.YtjlopclpofbgbaaDoorF10i
import Derived.Test.YtjlopclpofbgbaaDoorF10h
import Derived.Test.YtjlopclpofbgbaaDoorF10g
import Derived.Test.YtjlopclpofbgbaaDoorF10f
import Derived.Test.YtjlopclpofbgbaaDoorF10e
import Derived.Test.YtjlopclpofbgbaaDoorF10d
import Derived.Test.YtjlopclpofbgbaaDoorF10c
import Derived.Test.YtjlopclpofbgbaaDoorF10b
import Derived.Test.YtjlopclpofbgbaaDoorF10a
import Derived.Test.YtjlopclpofbgbaaDoorTyp
import Derived.Test.YtjlopclpofbgbaaDoorFlB
import Derived.Test.YtjlopclpofbgbaaDoorFlA
import Derived.WalkKit
import Derived.OwnWalkIn
import Derived.OrdersIn
import Derived.LoopNIn
import Derived.LoopIn
import Derived.RangeFuncNested
import Derived.RangeFuncBound
import Derived.RangeFuncLeaves
import Derived.Maps.OwnSet
import Derived.Laws.Tables
import Derived.Great.BuildSlice
import Derived.Maps.Views
import Derived.WalkSpells
import Derived.Carry
import Derived.Test.YtjlopclpofbgbaaDoorProg
import Derived.Test.YtjlopclpofbgbaaDoorF10u
set_option linter.unusedSimpArgs false
set_option linter.unusedVariables false
set_option maxRecDepth 100000
namespace Go.Proofs.YtjlopclpofbgbaaDoor
open Go Go.Fl
open Classical
def sF11b_f80_6 : List (Nat × Nat) := [(0, 0), (0, 0), (0, 0), (0, 0), (0, 0), (0, 0), (0, 0), (0, 0), (0, 0), (0, 0), (0, 0)]
def sF11b_f80_11 : List (Nat × Nat) := [(0, 0), (0, 0), (0, 0), (0, 0), (0, 0), (0, 0), (0, 0), (0, 0), (0, 0), (0, 0), (0, 0)]
theorem c80 (ts : List Thing) (ms : List Mark) : PC Tryd.prog 80 [hT ts ms, hT ts ms] (.bool true) := by
  refine PC.body Tryd.func80 (by kernel_rfl) rfl (by simp [Tryd.f80]) rfl ?_
  simp only [Tryd.f80]
  intro hlen
  simp only [go_sem, List.length_map, and_true, true_and] at hlen
  refine CV.run ?_
  (repeat' (first | ((with_reducible first | apply sg | apply si | apply sq | apply sd) <;> intro hb <;> (try rw [hb]) <;> (try simp only [bq, bz, dtrue, dfalse] at hb) <;> (try simp only [within] at hb) <;> try simp only [go_sem]) | refine And.intro (by first | exact ⟨⟩ | omega | (simp only [I64]; omega)) ?_ | (with_reducible rw [vc_draw_eq]; first | (refine CV.draw (id := 6) sF11b_f80_6 mixed rfl (by kernel_rfl) ?_; delta sF11b_f80_6) | (refine CV.draw (id := 11) sF11b_f80_11 mixed rfl (by kernel_rfl) ?_; delta sF11b_f80_11)) | (simp only [go_sem])))
  refine vc_for (fun j => ⟨[(5, .int .i64 j), (4, .bool false), (3, .lp 1 0), (2, .lp 0 0)], [.box 25 [.lst false 4 (ts.map encT), .lst false 3 (ms.map encM)] false, .box 25 [.lst false 4 (ts.map encT), .lst false 3 (ms.map encM)] false]⟩) ts.length (fun _ => True) (by (first | exact wk_same (by simp only [go_sem, Int.natCast_add, cn, Int.cast_ofNat_Int]) | (refine wk_drop ?_ ?_ ?_ ?_ ?_ <;> simp only [go_sem, Int.natCast_add, cn, Int.cast_ofNat_Int]))) trivial ?_
  intro j hj _
  rcases Nat.lt_or_ge j ts.length with hlt | hge
  · obtain ⟨m, hm⟩ := get_of hlt
    have hlt' : (j : Int) < ts.length := by omega
    (repeat' (first | ((with_reducible first | apply sg | apply si | apply sq | apply sd) <;> intro hb <;> (try rw [hb]) <;> (try simp only [bq, bz, dtrue, dfalse] at hb) <;> (try simp only [within] at hb) <;> try simp only [go_sem]) | refine And.intro (by first | exact ⟨⟩ | omega | (simp only [I64]; omega)) ?_ | (with_reducible rw [vc_draw_eq]; first | (refine CV.draw (id := 6) sF11b_f80_6 mixed rfl (by kernel_rfl) ?_; delta sF11b_f80_6) | (refine CV.draw (id := 11) sF11b_f80_11 mixed rfl (by kernel_rfl) ?_; delta sF11b_f80_11)) | (simp only [go_sem, hlt', hm, encT])))
    exact (by (first | exact wk_same (by simp only [go_sem, Int.natCast_add, cn, Int.cast_ofNat_Int]) | (refine wk_drop ?_ ?_ ?_ ?_ ?_ <;> simp only [go_sem, Int.natCast_add, cn, Int.cast_ofNat_Int])))
  · have hge' : ¬ (j : Int) < ts.length := by omega
    (repeat' (first | ((with_reducible first | apply sg | apply si | apply sq | apply sd) <;> intro hb <;> (try rw [hb]) <;> (try simp only [bq, bz, dtrue, dfalse] at hb) <;> (try simp only [within] at hb) <;> try simp only [go_sem]) | refine And.intro (by first | exact ⟨⟩ | omega | (simp only [I64]; omega)) ?_ | (with_reducible rw [vc_draw_eq]; first | (refine CV.draw (id := 6) sF11b_f80_6 mixed rfl (by kernel_rfl) ?_; delta sF11b_f80_6) | (refine CV.draw (id := 11) sF11b_f80_11 mixed rfl (by kernel_rfl) ?_; delta sF11b_f80_11)) | (simp only [go_sem, hge'])))
    refine vc_for (fun j => ⟨[(6, .int .i64 j), (4, .bool false), (3, .lp 1 0), (2, .lp 0 0)], [.box 25 [.lst false 4 (ts.map encT), .lst false 3 (ms.map encM)] false, .box 25 [.lst false 4 (ts.map encT), .lst false 3 (ms.map encM)] false]⟩) ms.length (fun _ => True) (by (first | exact wk_same (by simp only [go_sem, Int.natCast_add, cn, Int.cast_ofNat_Int]) | (refine wk_drop ?_ ?_ ?_ ?_ ?_ <;> simp only [go_sem, Int.natCast_add, cn, Int.cast_ofNat_Int]))) trivial ?_
    intro k hk _
    rcases Nat.lt_or_ge k ms.length with hlt | hge
    · obtain ⟨w, hw⟩ := get_of hlt
      have hlt' : (k : Int) < ms.length := by omega
      (repeat' (first | ((with_reducible first | apply sg | apply si | apply sq | apply sd) <;> intro hb <;> (try rw [hb]) <;> (try simp only [bq, bz, dtrue, dfalse] at hb) <;> (try simp only [within] at hb) <;> try simp only [go_sem]) | refine And.intro (by first | exact ⟨⟩ | omega | (simp only [I64]; omega)) ?_ | (with_reducible rw [vc_draw_eq]; first | (refine CV.draw (id := 6) sF11b_f80_6 mixed rfl (by kernel_rfl) ?_; delta sF11b_f80_6) | (refine CV.draw (id := 11) sF11b_f80_11 mixed rfl (by kernel_rfl) ?_; delta sF11b_f80_11)) | (simp only [go_sem, hlt', hw, encM])))
      exact (by (first | exact wk_same (by simp only [go_sem, Int.natCast_add, cn, Int.cast_ofNat_Int]) | (refine wk_drop ?_ ?_ ?_ ?_ ?_ <;> simp only [go_sem, Int.natCast_add, cn, Int.cast_ofNat_Int])))
    · have hge' : ¬ (k : Int) < ms.length := by omega
      (repeat' (first | ((with_reducible first | apply sg | apply si | apply sq | apply sd) <;> intro hb <;> (try rw [hb]) <;> (try simp only [bq, bz, dtrue, dfalse] at hb) <;> (try simp only [within] at hb) <;> try simp only [go_sem]) | refine And.intro (by first | exact ⟨⟩ | omega | (simp only [I64]; omega)) ?_ | (with_reducible rw [vc_draw_eq]; first | (refine CV.draw (id := 6) sF11b_f80_6 mixed rfl (by kernel_rfl) ?_; delta sF11b_f80_6) | (refine CV.draw (id := 11) sF11b_f80_11 mixed rfl (by kernel_rfl) ?_; delta sF11b_f80_11)) | (simp only [go_sem, hge'])))
theorem c32 (t : Town) : PC Tryd.prog 32 [hF t, hF t] (.bool true) := by
  have h80 := c80 t.ts t.ms
  have h1 := (c27 t.pl t.pl).tru rfl
  have h2 := (c27 t.ca t.ca).tru rfl
  have h3 := (c27 t.rm t.rm).tru rfl
  refine PC.body Tryd.func32 (by kernel_rfl) rfl (by simp [Tryd.f32]) rfl ?_
  simp only [Tryd.f32]
  intro hlen
  simp only [go_sem, List.length_map, and_true, true_and] at hlen
  refine CV.run ?_
  (repeat' (first | ((with_reducible first | apply sg | apply si | apply sq | apply sd) <;> intro hb <;> (try rw [hb]) <;> (try simp only [bq, bz, dtrue, dfalse] at hb) <;> (try simp only [within] at hb) <;> try simp only [go_sem]) | refine And.intro (by first | exact ⟨⟩ | omega | (simp only [I64]; omega)) ?_ | ((with_reducible first | refine vp h80 ?_ ?_ | refine vp h1 ?_ ?_ | refine vp h2 ?_ ?_ | refine vp h3 ?_ ?_); focus (first | exact ⟨rfl, .inl ⟨by first | rfl | (simp only [go_sem, AV.pureL, AV.pure]; done), by first | (simp only [go_sem, AV.pureL, AV.pure]; done) | rfl⟩⟩ | exact ⟨rfl, .inr ⟨rfl, by simp only [go_sem]⟩⟩)) | (simp only [go_sem])))
end Go.Proofs.YtjlopclpofbgbaaDoor

