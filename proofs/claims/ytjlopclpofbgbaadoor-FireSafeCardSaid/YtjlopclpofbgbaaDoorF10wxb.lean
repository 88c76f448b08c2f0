/- Contracts of functions of the given program, without a condition beyond those that each theorem states; they lead to the given statement. -/
import Derived.Test.YtjlopclpofbgbaaDoorF10w
import Derived.Test.YtjlopclpofbgbaaDoorF10t
import Derived.Test.YtjlopclpofbgbaaDoorF10r
import Derived.Test.YtjlopclpofbgbaaDoorF10qxb
import Derived.Test.YtjlopclpofbgbaaDoorF10q
import Derived.Test.YtjlopclpofbgbaaDoorF10p
import Derived.Test.YtjlopclpofbgbaaDoorF10o
import Derived.Test.YtjlopclpofbgbaaDoorF10n
import Derived.Test.YtjlopclpofbgbaaDoorF10m
import Derived.Test.YtjlopclpofbgbaaDoorF10lxb
import Derived.Test.YtjlopclpofbgbaaDoorF10l
import Derived.Test.YtjlopclpofbgbaaDoorF10kxb
import Derived.Test.YtjlopclpofbgbaaDoorF10k
import Derived.Test.YtjlopclpofbgbaaDoorF10jxb
import Derived.Test.YtjlopclpofbgbaaDoorF10j
import Derived.Test.YtjlopclpofbgbaaDoorF10ixb
import Derived.Test.YtjlopclpofbgbaaDoorF10i
import Derived.Test.YtjlopclpofbgbaaDoorF10h
import Derived.Test.YtjlopclpofbgbaaDoorF10g
import Derived.Test.YtjlopclpofbgbaaDoorF10f
import Derived.Test.YtjlopclpofbgbaaDoorF10e
import Derived.Test.YtjlopclpofbgbaaDoorF10d
import Derived.Test.YtjlopclpofbgbaaDoorF10c
import Derived.Test.YtjlopclpofbgbaaDoorF10b
import Derived.Test.YtjlopclpofbgbaaDoorF10a
import Derived.Test.YtjlopclpofbgbaaDoorTyp
import Derived.Test.YtjlopclpofbgbaaDoorFlB
import Derived.Test.YtjlopclpofbgbaaDoorFlA
import Derived.WalkKit
import Derived.OwnWalkIn
import Derived.OrdersIn
import Derived.LoopNIn
import Derived.LoopIn
import Derived.RangeFuncNested
import Derived.RangeFuncBound
import Derived.RangeFuncLeaves
import Derived.Maps.OwnSet
import Derived.Laws.Tables
import Derived.Great.BuildSlice
import Derived.Maps.Views
import Derived.WalkSpells
import Derived.Carry
import Derived.Test.YtjlopclpofbgbaaDoorProg
set_option linter.unusedSimpArgs false
set_option linter.unusedVariables false
set_option maxRecDepth 100000
namespace Go.Proofs.YtjlopclpofbgbaaDoor
open Go Go.Fl
open Classical
def sF10w_f62_8 : List (Nat × Nat) := [(0, 0), (0, 0), (0, 0), (0, 0), (0, 0), (0, 0), (0, 0), (0, 0), (0, 0), (0, 0)]
def sF10w_f62_9 : List (Nat × Nat) := [(0, 0), (0, 0), (0, 0), (0, 0), (0, 0), (0, 0), (0, 0), (0, 0), (0, 0), (0, 0), (0, 0), (0, 0), (0, 0), (0, 0), (0, 0), (0, 0), (0, 0), (0, 0), (0, 0)]
theorem c54n (t : Town) (h : ¬ validT t) : PC Tryd.prog 54 [hF t] (.tup [.int .i64 0, .int .i64 100]) := by
  have h67 := c67T t h
  refine PC.body Tryd.func54 (by kernel_rfl) rfl (by simp [Tryd.f54]) rfl ?_
  simp only [Tryd.f54]
  intro hlen
  simp only [go_sem, List.length_map, and_true, true_and] at hlen
  refine CV.run ?_
  (repeat' (first | ((with_reducible first | apply sg | apply si | apply sq | apply sd) <;> intro hb <;> (try rw [hb]) <;> (try simp only [bq, bz, dtrue, dfalse] at hb) <;> (try simp only [within] at hb) <;> try simp only [go_sem]) | refine And.intro (by first | exact ⟨⟩ | omega | (simp only [I64]; omega)) ?_ | (with_reducible rw [vc_draw_eq]; first | (refine CV.draw (id := 11) sF10w_f54_11 mixed rfl (by kernel_rfl) ?_; delta sF10w_f54_11)) | ((with_reducible first | refine vp h67 ?_ ?_ | refine dc h67 ?_ ?_); focus (first | exact ⟨rfl, .inl ⟨by first | rfl | (simp only [go_sem, AV.pureL, AV.pure]; done), by first | (simp only [go_sem, AV.pureL, AV.pure]; done) | rfl⟩⟩ | exact ⟨rfl, .inr ⟨rfl, by simp only [go_sem]⟩⟩)) | ((with_reducible first | refine dp h67 ?_ ?_); focus (exact ⟨rfl, by first | rfl | (simp only [go_sem, AV.pureL, AV.pure]; done), by first | (simp only [go_sem, AV.pureL, AV.pure]; done) | rfl⟩)) | ((with_reducible first | refine ds h67 ?_ ?_); focus exact ⟨rfl, rfl⟩) | (simp only [go_sem])))
theorem c62n (t : Town) (hl2 : t.pl.length ≤ 1000) (h : ¬ validT t) : PC Tryd.prog 62 [hF t] (.tup [.int .i64 0, .int .i64 100]) := by
  have h50 := c50 t hl2
  rw [checkT_no h] at h50
  refine PC.body Tryd.func62 (by kernel_rfl) rfl (by simp [Tryd.f62]) rfl ?_
  simp only [Tryd.f62]
  intro hlen
  simp only [go_sem, List.length_map, and_true, true_and] at hlen
  refine CV.run ?_
  (repeat' (first | ((with_reducible first | apply sg | apply si | apply sq | apply sd) <;> intro hb <;> (try rw [hb]) <;> (try simp only [bq, bz, dtrue, dfalse] at hb) <;> (try simp only [within] at hb) <;> try simp only [go_sem]) | refine And.intro (by first | exact ⟨⟩ | omega | (simp only [I64]; omega)) ?_ | (with_reducible rw [vc_draw_eq]; first | (refine CV.draw (id := 8) sF10w_f62_8 mixed rfl (by kernel_rfl) ?_; delta sF10w_f62_8) | (refine CV.draw (id := 9) sF10w_f62_9 mixed rfl (by kernel_rfl) ?_; delta sF10w_f62_9)) | ((with_reducible first | refine vp h50 ?_ ?_ | refine dc h50 ?_ ?_); focus (first | exact ⟨rfl, .inl ⟨by first | rfl | (simp only [go_sem, AV.pureL, AV.pure]; done), by first | (simp only [go_sem, AV.pureL, AV.pure]; done) | rfl⟩⟩ | exact ⟨rfl, .inr ⟨rfl, by simp only [go_sem]⟩⟩)) | ((with_reducible first | refine dp h50 ?_ ?_); focus (exact ⟨rfl, by first | rfl | (simp only [go_sem, AV.pureL, AV.pure]; done), by first | (simp only [go_sem, AV.pureL, AV.pure]; done) | rfl⟩)) | ((with_reducible first | refine ds h50 ?_ ?_); focus exact ⟨rfl, rfl⟩) | (simp only [go_sem])))
set_option maxHeartbeats 1000000 in
theorem c62y (t : Town) (hv : validT t) : PC Tryd.prog 62 [hF t] (.tup [.int .i64 (wb t t.rm.length), .int .i64 0]) := by
  have h50 := c50 t (by have := hv.lp; have := hv.len; omega)
  rw [checkT_yes hv] at h50
  have hr := hv.2.1
  unfold within at hr
  have hl : t.ts.length ≤ 1000 := by have := hv.len; omega
  refine PC.body Tryd.func62 (by kernel_rfl) rfl (by simp [Tryd.f62]) rfl ?_
  simp only [Tryd.f62]
  intro hlen
  simp only [go_sem, List.length_map, and_true, true_and] at hlen
  refine CV.run ?_
  (repeat' (first | ((with_reducible first | apply sg | apply si | apply sq | apply sd) <;> intro hb <;> (try rw [hb]) <;> (try simp only [bq, bz, dtrue, dfalse] at hb) <;> (try simp only [within] at hb) <;> try simp only [go_sem]) | refine And.intro (by first | exact ⟨⟩ | omega | (simp only [I64]; omega)) ?_ | (with_reducible rw [vc_draw_eq]; first | (refine CV.draw (id := 8) sF10w_f62_8 mixed rfl (by kernel_rfl) ?_; delta sF10w_f62_8) | (refine CV.draw (id := 9) sF10w_f62_9 mixed rfl (by kernel_rfl) ?_; delta sF10w_f62_9)) | ((with_reducible first | refine vp h50 ?_ ?_ | refine dc h50 ?_ ?_); focus (first | exact ⟨rfl, .inl ⟨by first | rfl | (simp only [go_sem, AV.pureL, AV.pure]; done), by first | (simp only [go_sem, AV.pureL, AV.pure]; done) | rfl⟩⟩ | exact ⟨rfl, .inr ⟨rfl, by simp only [go_sem]⟩⟩)) | ((with_reducible first | refine dp h50 ?_ ?_); focus (exact ⟨rfl, by first | rfl | (simp only [go_sem, AV.pureL, AV.pure]; done), by first | (simp only [go_sem, AV.pureL, AV.pure]; done) | rfl⟩)) | ((with_reducible first | refine ds h50 ?_ ?_); focus exact ⟨rfl, rfl⟩) | (simp only [go_sem])))
  refine vc_for (fun j => ⟨[(6, .int .i64 (j + 1 : Nat)), (5, .int .i64 (wb t (j + 1))), (1, .lp 0 0), (2, .int .i64 0), (3, .int .i64 0)], [.box 28 (cT t) false]⟩) (t.rm.length - 1) (fun _ => True) (by (first | exact wk_same (by simp only [go_sem, Int.natCast_add, cn, Int.cast_ofNat_Int, wb_one]) | (refine wk_drop ?_ ?_ ?_ ?_ ?_ <;> simp only [go_sem, Int.natCast_add, cn, Int.cast_ofNat_Int, wb_one]))) trivial ?_
  intro j hj _
  rcases Nat.lt_or_ge (j + 1) t.rm.length with hlt | hge
  · have hlt' : ((j + 1 : Nat) : Int) < t.rm.length := by omega
    have a1 := c73 t hv.things hl hv.lp ((j + 1 : Nat) : Int)
    have a2 := c73 t hv.things hl hv.lp (wb t (j + 1))
    have b1 := c74 t hv.things hl hv.lp ((j + 1 : Nat) : Int)
    have b2 := c74 t hv.things hl hv.lp (wb t (j + 1))
    have hj2 : j + 1 < t.rm.length - 1 + 1 := by omega
    by_cases h1 : (los t (wb t (j + 1))).length < (los t ((j + 1 : Nat) : Int)).length
    · have e1 : wb t (j + 1 + 1) = j + 1 := by rw [wb, if_pos (.inl h1)]
      have h1' : ((los t (wb t (j + 1))).length : Int) < (los t ((j + 1 : Nat) : Int)).length := by omega
      (repeat' (first | ((with_reducible first | apply sg | apply si | apply sq | apply sd) <;> intro hb <;> (try rw [hb]) <;> (try simp only [bq, bz, dtrue, dfalse] at hb) <;> (try simp only [within] at hb) <;> try simp only [go_sem]) | refine And.intro (by first | exact ⟨⟩ | omega | (simp only [I64]; omega)) ?_ | (with_reducible rw [vc_draw_eq]; first | (refine CV.draw (id := 8) sF10w_f62_8 mixed rfl (by kernel_rfl) ?_; delta sF10w_f62_8) | (refine CV.draw (id := 9) sF10w_f62_9 mixed rfl (by kernel_rfl) ?_; delta sF10w_f62_9)) | ((with_reducible first | refine vp a1 ?_ ?_ | refine dc a1 ?_ ?_ | refine vp a2 ?_ ?_ | refine dc a2 ?_ ?_ | refine vp b1 ?_ ?_ | refine dc b1 ?_ ?_ | refine vp b2 ?_ ?_ | refine dc b2 ?_ ?_); focus (first | exact ⟨rfl, .inl ⟨by first | rfl | (simp only [go_sem, hlt', h1', List.length_map, AV.pureL, AV.pure]; done), by first | (simp only [go_sem, hlt', h1', List.length_map, AV.pureL, AV.pure]; done) | rfl⟩⟩ | exact ⟨rfl, .inr ⟨rfl, by simp only [go_sem, hlt', h1', List.length_map]⟩⟩)) | ((with_reducible first | refine dp a1 ?_ ?_ | refine dp a2 ?_ ?_ | refine dp b1 ?_ ?_ | refine dp b2 ?_ ?_); focus (exact ⟨rfl, by first | rfl | (simp only [go_sem, hlt', h1', List.length_map, AV.pureL, AV.pure]; done), by first | (simp only [go_sem, hlt', h1', List.length_map, AV.pureL, AV.pure]; done) | rfl⟩)) | ((with_reducible first | refine ds a1 ?_ ?_ | refine ds a2 ?_ ?_ | refine ds b1 ?_ ?_ | refine ds b2 ?_ ?_); focus exact ⟨rfl, rfl⟩) | (simp only [go_sem, hlt', h1', List.length_map])))
      exact (by (first | exact wk_same (by simp only [go_sem, Int.natCast_add, cn, Int.cast_ofNat_Int, e1, Int.natCast_add, Int.natCast_one]) | (refine wk_drop ?_ ?_ ?_ ?_ ?_ <;> simp only [go_sem, Int.natCast_add, cn, Int.cast_ofNat_Int, e1, Int.natCast_add, Int.natCast_one])))
    · have h1' : ¬ ((los t (wb t (j + 1))).length : Int) < (los t ((j + 1 : Nat) : Int)).length := by omega
      by_cases h2 : ((los t ((j + 1 : Nat) : Int)).length : Int) = (los t (wb t (j + 1))).length
      · have h2' := eq_true h2
        by_cases h3 : ((sta t (wb t (j + 1))).length : Int) < (sta t ((j + 1 : Nat) : Int)).length
        · have e1 : wb t (j + 1 + 1) = j + 1 := by rw [wb, if_pos (.inr ⟨by omega, by omega⟩)]
          (repeat' (first | ((with_reducible first | apply sg | apply si | apply sq | apply sd) <;> intro hb <;> (try rw [hb]) <;> (try simp only [bq, bz, dtrue, dfalse] at hb) <;> (try simp only [within] at hb) <;> try simp only [go_sem]) | refine And.intro (by first | exact ⟨⟩ | omega | (simp only [I64]; omega)) ?_ | (with_reducible rw [vc_draw_eq]; first | (refine CV.draw (id := 8) sF10w_f62_8 mixed rfl (by kernel_rfl) ?_; delta sF10w_f62_8) | (refine CV.draw (id := 9) sF10w_f62_9 mixed rfl (by kernel_rfl) ?_; delta sF10w_f62_9)) | ((with_reducible first | refine vp a1 ?_ ?_ | refine dc a1 ?_ ?_ | refine vp a2 ?_ ?_ | refine dc a2 ?_ ?_ | refine vp b1 ?_ ?_ | refine dc b1 ?_ ?_ | refine vp b2 ?_ ?_ | refine dc b2 ?_ ?_); focus (first | exact ⟨rfl, .inl ⟨by first | rfl | (simp only [go_sem, hlt', h1', h2', h3, List.length_map, AV.pureL, AV.pure]; done), by first | (simp only [go_sem, hlt', h1', h2', h3, List.length_map, AV.pureL, AV.pure]; done) | rfl⟩⟩ | exact ⟨rfl, .inr ⟨rfl, by simp only [go_sem, hlt', h1', h2', h3, List.length_map]⟩⟩)) | ((with_reducible first | refine dp a1 ?_ ?_ | refine dp a2 ?_ ?_ | refine dp b1 ?_ ?_ | refine dp b2 ?_ ?_); focus (exact ⟨rfl, by first | rfl | (simp only [go_sem, hlt', h1', h2', h3, List.length_map, AV.pureL, AV.pure]; done), by first | (simp only [go_sem, hlt', h1', h2', h3, List.length_map, AV.pureL, AV.pure]; done) | rfl⟩)) | ((with_reducible first | refine ds a1 ?_ ?_ | refine ds a2 ?_ ?_ | refine ds b1 ?_ ?_ | refine ds b2 ?_ ?_); focus exact ⟨rfl, rfl⟩) | (simp only [go_sem, hlt', h1', h2', h3, List.length_map])))
          exact (by (first | exact wk_same (by simp only [go_sem, Int.natCast_add, cn, Int.cast_ofNat_Int, e1, Int.natCast_add, Int.natCast_one]) | (refine wk_drop ?_ ?_ ?_ ?_ ?_ <;> simp only [go_sem, Int.natCast_add, cn, Int.cast_ofNat_Int, e1, Int.natCast_add, Int.natCast_one])))
        · have e1 : wb t (j + 1 + 1) = wb t (j + 1) := by rw [wb, if_neg (by unfold beats; omega)]
          (repeat' (first | ((with_reducible first | apply sg | apply si | apply sq | apply sd) <;> intro hb <;> (try rw [hb]) <;> (try simp only [bq, bz, dtrue, dfalse] at hb) <;> (try simp only [within] at hb) <;> try simp only [go_sem]) | refine And.intro (by first | exact ⟨⟩ | omega | (simp only [I64]; omega)) ?_ | (with_reducible rw [vc_draw_eq]; first | (refine CV.draw (id := 8) sF10w_f62_8 mixed rfl (by kernel_rfl) ?_; delta sF10w_f62_8) | (refine CV.draw (id := 9) sF10w_f62_9 mixed rfl (by kernel_rfl) ?_; delta sF10w_f62_9)) | ((with_reducible first | refine vp a1 ?_ ?_ | refine dc a1 ?_ ?_ | refine vp a2 ?_ ?_ | refine dc a2 ?_ ?_ | refine vp b1 ?_ ?_ | refine dc b1 ?_ ?_ | refine vp b2 ?_ ?_ | refine dc b2 ?_ ?_); focus (first | exact ⟨rfl, .inl ⟨by first | rfl | (simp only [go_sem, hlt', h1', h2', h3, List.length_map, AV.pureL, AV.pure]; done), by first | (simp only [go_sem, hlt', h1', h2', h3, List.length_map, AV.pureL, AV.pure]; done) | rfl⟩⟩ | exact ⟨rfl, .inr ⟨rfl, by simp only [go_sem, hlt', h1', h2', h3, List.length_map]⟩⟩)) | ((with_reducible first | refine dp a1 ?_ ?_ | refine dp a2 ?_ ?_ | refine dp b1 ?_ ?_ | refine dp b2 ?_ ?_); focus (exact ⟨rfl, by first | rfl | (simp only [go_sem, hlt', h1', h2', h3, List.length_map, AV.pureL, AV.pure]; done), by first | (simp only [go_sem, hlt', h1', h2', h3, List.length_map, AV.pureL, AV.pure]; done) | rfl⟩)) | ((with_reducible first | refine ds a1 ?_ ?_ | refine ds a2 ?_ ?_ | refine ds b1 ?_ ?_ | refine ds b2 ?_ ?_); focus exact ⟨rfl, rfl⟩) | (simp only [go_sem, hlt', h1', h2', h3, List.length_map])))
          exact (by (first | exact wk_same (by simp only [go_sem, Int.natCast_add, cn, Int.cast_ofNat_Int, e1, Int.natCast_add, Int.natCast_one]) | (refine wk_drop ?_ ?_ ?_ ?_ ?_ <;> simp only [go_sem, Int.natCast_add, cn, Int.cast_ofNat_Int, e1, Int.natCast_add, Int.natCast_one])))
      · have e1 : wb t (j + 1 + 1) = wb t (j + 1) := by rw [wb, if_neg (by unfold beats; omega)]
        (repeat' (first | ((with_reducible first | apply sg | apply si | apply sq | apply sd) <;> intro hb <;> (try rw [hb]) <;> (try simp only [bq, bz, dtrue, dfalse] at hb) <;> (try simp only [within] at hb) <;> try simp only [go_sem]) | refine And.intro (by first | exact ⟨⟩ | omega | (simp only [I64]; omega)) ?_ | (with_reducible rw [vc_draw_eq]; first | (refine CV.draw (id := 8) sF10w_f62_8 mixed rfl (by kernel_rfl) ?_; delta sF10w_f62_8) | (refine CV.draw (id := 9) sF10w_f62_9 mixed rfl (by kernel_rfl) ?_; delta sF10w_f62_9)) | ((with_reducible first | refine vp a1 ?_ ?_ | refine dc a1 ?_ ?_ | refine vp a2 ?_ ?_ | refine dc a2 ?_ ?_ | refine vp b1 ?_ ?_ | refine dc b1 ?_ ?_ | refine vp b2 ?_ ?_ | refine dc b2 ?_ ?_); focus (first | exact ⟨rfl, .inl ⟨by first | rfl | (simp only [go_sem, hlt', h1', h2, List.length_map, AV.pureL, AV.pure]; done), by first | (simp only [go_sem, hlt', h1', h2, List.length_map, AV.pureL, AV.pure]; done) | rfl⟩⟩ | exact ⟨rfl, .inr ⟨rfl, by simp only [go_sem, hlt', h1', h2, List.length_map]⟩⟩)) | ((with_reducible first | refine dp a1 ?_ ?_ | refine dp a2 ?_ ?_ | refine dp b1 ?_ ?_ | refine dp b2 ?_ ?_); focus (exact ⟨rfl, by first | rfl | (simp only [go_sem, hlt', h1', h2, List.length_map, AV.pureL, AV.pure]; done), by first | (simp only [go_sem, hlt', h1', h2, List.length_map, AV.pureL, AV.pure]; done) | rfl⟩)) | ((with_reducible first | refine ds a1 ?_ ?_ | refine ds a2 ?_ ?_ | refine ds b1 ?_ ?_ | refine ds b2 ?_ ?_); focus exact ⟨rfl, rfl⟩) | (simp only [go_sem, hlt', h1', h2, List.length_map])))
        exact (by (first | exact wk_same (by simp only [go_sem, Int.natCast_add, cn, Int.cast_ofNat_Int, e1, Int.natCast_add, Int.natCast_one]) | (refine wk_drop ?_ ?_ ?_ ?_ ?_ <;> simp only [go_sem, Int.natCast_add, cn, Int.cast_ofNat_Int, e1, Int.natCast_add, Int.natCast_one])))
  · have hge' : ¬ ((j + 1 : Nat) : Int) < t.rm.length := by omega
    have : j + 1 = t.rm.length := by omega
    have e : wb t (j + 1) = wb t t.rm.length := by rw [this]
    (repeat' (first | ((with_reducible first | apply sg | apply si | apply sq | apply sd) <;> intro hb <;> (try rw [hb]) <;> (try simp only [bq, bz, dtrue, dfalse] at hb) <;> (try simp only [within] at hb) <;> try simp only [go_sem]) | refine And.intro (by first | exact ⟨⟩ | omega | (simp only [I64]; omega)) ?_ | (with_reducible rw [vc_draw_eq]; first | (refine CV.draw (id := 8) sF10w_f62_8 mixed rfl (by kernel_rfl) ?_; delta sF10w_f62_8) | (refine CV.draw (id := 9) sF10w_f62_9 mixed rfl (by kernel_rfl) ?_; delta sF10w_f62_9)) | (simp only [go_sem, hge', e, List.length_map])))
end Go.Proofs.YtjlopclpofbgbaaDoor

