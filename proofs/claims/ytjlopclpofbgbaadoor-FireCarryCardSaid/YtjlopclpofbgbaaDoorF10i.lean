/- Contracts of functions of the given program, without a condition beyond those that each theorem states; they lead to the given statement. -/
import Derived.Test.YtjlopclpofbgbaaDoorF10h
set_option linter.unusedSimpArgs false
set_option linter.unusedVariables false
set_option maxRecDepth 100000
namespace Go.Proofs.YtjlopclpofbgbaaDoor
open Go Go.Fl
open Classical
def sF10i_f50_6 : List (Nat × Nat) := [(0, 0), (0, 0), (0, 0), (0, 0), (0, 0), (0, 0), (0, 0), (0, 0), (0, 0), (0, 0), (0, 0), (0, 0), (0, 0), (0, 0), (0, 0), (0, 0), (0, 0)]
set_option maxHeartbeats 4000000 in
theorem c50 (t : Town) (hl2 : t.pl.length ≤ 1000) : PC Tryd.prog 50 [hF t] (.int .i64 (checkT t)) := by
  have h95 := c95 t.ts t.ms
  have hw1 := c65 t.rm.length 1 3
  have hw2 := c65 t.mi 0 99
  by_cases a1 : valid t.ts t.ms
  case neg =>
    rw [check_no a1] at h95
    rw [checkT_no fun h => a1 h.1]
    refine PC.body Tryd.func50 (by kernel_rfl) rfl (by simp [Tryd.f50]) rfl ?_
    simp only [Tryd.f50]
    intro hlen
    simp only [go_sem, List.length_map, and_true, true_and] at hlen
    refine CV.run ?_
    (repeat' (first | ((with_reducible first | apply sg | apply si | apply sq | apply sd) <;> intro hb <;> (try rw [hb]) <;> (try simp only [bq, bz, dtrue, dfalse] at hb) <;> (try simp only [within] at hb) <;> try simp only [go_sem]) | refine And.intro (by first | exact ⟨⟩ | omega | (simp only [I64]; omega)) ?_ | (with_reducible rw [vc_draw_eq]; first | (refine CV.draw (id := 6) sF10i_f50_6 mixed rfl (by kernel_rfl) ?_; delta sF10i_f50_6)) | ((with_reducible first | refine vp h95 ?_ ?_ | refine dc h95 ?_ ?_); focus (first | exact ⟨rfl, .inl ⟨by first | rfl | (simp only [go_sem, AV.pureL, AV.pure]; done), by first | (simp only [go_sem, AV.pureL, AV.pure]; done) | rfl⟩⟩ | exact ⟨rfl, .inr ⟨rfl, by simp only [go_sem]⟩⟩)) | ((with_reducible first | refine dp h95 ?_ ?_); focus (exact ⟨rfl, by first | rfl | (simp only [go_sem, AV.pureL, AV.pure]; done), by first | (simp only [go_sem, AV.pureL, AV.pure]; done) | rfl⟩)) | ((with_reducible first | refine ds h95 ?_ ?_); focus exact ⟨rfl, rfl⟩) | (simp only [go_sem])))
  rw [check_yes a1] at h95
  by_cases a2 : within t.rm.length 1 3
  case neg =>
    rw [decide_eq_false a2] at hw1
    rw [checkT_no fun h => a2 h.2.1]
    refine PC.body Tryd.func50 (by kernel_rfl) rfl (by simp [Tryd.f50]) rfl ?_
    simp only [Tryd.f50]
    intro hlen
    simp only [go_sem, List.length_map, and_true, true_and] at hlen
    refine CV.run ?_
    (repeat' (first | ((with_reducible first | apply sg | apply si | apply sq | apply sd) <;> intro hb <;> (try rw [hb]) <;> (try simp only [bq, bz, dtrue, dfalse] at hb) <;> (try simp only [within] at hb) <;> try simp only [go_sem]) | refine And.intro (by first | exact ⟨⟩ | omega | (simp only [I64]; omega)) ?_ | (with_reducible rw [vc_draw_eq]; first | (refine CV.draw (id := 6) sF10i_f50_6 mixed rfl (by kernel_rfl) ?_; delta sF10i_f50_6)) | ((with_reducible first | refine vp h95 ?_ ?_ | refine dc h95 ?_ ?_ | refine vp hw1 ?_ ?_ | refine dc hw1 ?_ ?_); focus (first | exact ⟨rfl, .inl ⟨by first | rfl | (simp only [go_sem, List.length_map, AV.pureL, AV.pure]; done), by first | (simp only [go_sem, List.length_map, AV.pureL, AV.pure]; done) | rfl⟩⟩ | exact ⟨rfl, .inr ⟨rfl, by simp only [go_sem, List.length_map]⟩⟩)) | ((with_reducible first | refine dp h95 ?_ ?_ | refine dp hw1 ?_ ?_); focus (exact ⟨rfl, by first | rfl | (simp only [go_sem, List.length_map, AV.pureL, AV.pure]; done), by first | (simp only [go_sem, List.length_map, AV.pureL, AV.pure]; done) | rfl⟩)) | ((with_reducible first | refine ds h95 ?_ ?_ | refine ds hw1 ?_ ?_); focus exact ⟨rfl, rfl⟩) | (simp only [go_sem, List.length_map])))
  rw [decide_eq_true a2] at hw1
  by_cases a4 : t.pl.length = t.ts.length
  case neg =>
    have a4' : ¬ (t.pl.length : Int) = t.ts.length := by omega
    rw [checkT_no fun h => a4 h.2.2.2.1]
    refine PC.body Tryd.func50 (by kernel_rfl) rfl (by simp [Tryd.f50]) rfl ?_
    simp only [Tryd.f50]
    intro hlen
    simp only [go_sem, List.length_map, and_true, true_and] at hlen
    refine CV.run ?_
    (repeat' (first | ((with_reducible first | apply sg | apply si | apply sq | apply sd) <;> intro hb <;> (try rw [hb]) <;> (try simp only [bq, bz, dtrue, dfalse] at hb) <;> (try simp only [within] at hb) <;> try simp only [go_sem]) | refine And.intro (by first | exact ⟨⟩ | omega | (simp only [I64]; omega)) ?_ | (with_reducible rw [vc_draw_eq]; first | (refine CV.draw (id := 6) sF10i_f50_6 mixed rfl (by kernel_rfl) ?_; delta sF10i_f50_6)) | ((with_reducible first | refine vp h95 ?_ ?_ | refine dc h95 ?_ ?_ | refine vp hw1 ?_ ?_ | refine dc hw1 ?_ ?_); focus (first | exact ⟨rfl, .inl ⟨by first | rfl | (simp only [go_sem, List.length_map, a4', AV.pureL, AV.pure]; done), by first | (simp only [go_sem, List.length_map, a4', AV.pureL, AV.pure]; done) | rfl⟩⟩ | exact ⟨rfl, .inr ⟨rfl, by simp only [go_sem, List.length_map, a4']⟩⟩)) | ((with_reducible first | refine dp h95 ?_ ?_ | refine dp hw1 ?_ ?_); focus (exact ⟨rfl, by first | rfl | (simp only [go_sem, List.length_map, a4', AV.pureL, AV.pure]; done), by first | (simp only [go_sem, List.length_map, a4', AV.pureL, AV.pure]; done) | rfl⟩)) | ((with_reducible first | refine ds h95 ?_ ?_ | refine ds hw1 ?_ ?_); focus exact ⟨rfl, rfl⟩) | (simp only [go_sem, List.length_map, a4'])))
  have a4' : (t.pl.length : Int) = t.ts.length := by omega
  by_cases a6 : t.ca.length = t.ts.length
  case neg =>
    have a6' : ¬ (t.ca.length : Int) = t.ts.length := by omega
    rw [checkT_no fun h => a6 h.2.2.2.2.2.1]
    refine PC.body Tryd.func50 (by kernel_rfl) rfl (by simp [Tryd.f50]) rfl ?_
    simp only [Tryd.f50]
    intro hlen
    simp only [go_sem, List.length_map, and_true, true_and] at hlen
    refine CV.run ?_
    (repeat' (first | ((with_reducible first | apply sg | apply si | apply sq | apply sd) <;> intro hb <;> (try rw [hb]) <;> (try simp only [bq, bz, dtrue, dfalse] at hb) <;> (try simp only [within] at hb) <;> try simp only [go_sem]) | refine And.intro (by first | exact ⟨⟩ | omega | (simp only [I64]; omega)) ?_ | (with_reducible rw [vc_draw_eq]; first | (refine CV.draw (id := 6) sF10i_f50_6 mixed rfl (by kernel_rfl) ?_; delta sF10i_f50_6)) | ((with_reducible first | refine vp h95 ?_ ?_ | refine dc h95 ?_ ?_ | refine vp hw1 ?_ ?_ | refine dc hw1 ?_ ?_); focus (first | exact ⟨rfl, .inl ⟨by first | rfl | (simp only [go_sem, List.length_map, a4', a6', AV.pureL, AV.pure]; done), by first | (simp only [go_sem, List.length_map, a4', a6', AV.pureL, AV.pure]; done) | rfl⟩⟩ | exact ⟨rfl, .inr ⟨rfl, by simp only [go_sem, List.length_map, a4', a6']⟩⟩)) | ((with_reducible first | refine dp h95 ?_ ?_ | refine dp hw1 ?_ ?_); focus (exact ⟨rfl, by first | rfl | (simp only [go_sem, List.length_map, a4', a6', AV.pureL, AV.pure]; done), by first | (simp only [go_sem, List.length_map, a4', a6', AV.pureL, AV.pure]; done) | rfl⟩)) | ((with_reducible first | refine ds h95 ?_ ?_ | refine ds hw1 ?_ ?_); focus exact ⟨rfl, rfl⟩) | (simp only [go_sem, List.length_map, a4', a6'])))
  have a6' : (t.ca.length : Int) = t.ts.length := by omega
  by_cases a8 : within t.mi 0 99
  case neg =>
    rw [decide_eq_false a8] at hw2
    rw [checkT_no fun h => a8 h.2.2.2.2.2.2.2.1]
    refine PC.body Tryd.func50 (by kernel_rfl) rfl (by simp [Tryd.f50]) rfl ?_
    simp only [Tryd.f50]
    intro hlen
    simp only [go_sem, List.length_map, and_true, true_and] at hlen
    refine CV.run ?_
    (repeat' (first | ((with_reducible first | apply sg | apply si | apply sq | apply sd) <;> intro hb <;> (try rw [hb]) <;> (try simp only [bq, bz, dtrue, dfalse] at hb) <;> (try simp only [within] at hb) <;> try simp only [go_sem]) | refine And.intro (by first | exact ⟨⟩ | omega | (simp only [I64]; omega)) ?_ | (with_reducible rw [vc_draw_eq]; first | (refine CV.draw (id := 6) sF10i_f50_6 mixed rfl (by kernel_rfl) ?_; delta sF10i_f50_6)) | ((with_reducible first | refine vp h95 ?_ ?_ | refine dc h95 ?_ ?_ | refine vp hw1 ?_ ?_ | refine dc hw1 ?_ ?_ | refine vp hw2 ?_ ?_ | refine dc hw2 ?_ ?_); focus (first | exact ⟨rfl, .inl ⟨by first | rfl | (simp only [go_sem, List.length_map, a4', a6', AV.pureL, AV.pure]; done), by first | (simp only [go_sem, List.length_map, a4', a6', AV.pureL, AV.pure]; done) | rfl⟩⟩ | exact ⟨rfl, .inr ⟨rfl, by simp only [go_sem, List.length_map, a4', a6']⟩⟩)) | ((with_reducible first | refine dp h95 ?_ ?_ | refine dp hw1 ?_ ?_ | refine dp hw2 ?_ ?_); focus (exact ⟨rfl, by first | rfl | (simp only [go_sem, List.length_map, a4', a6', AV.pureL, AV.pure]; done), by first | (simp only [go_sem, List.length_map, a4', a6', AV.pureL, AV.pure]; done) | rfl⟩)) | ((with_reducible first | refine ds h95 ?_ ?_ | refine ds hw1 ?_ ?_ | refine ds hw2 ?_ ?_); focus exact ⟨rfl, rfl⟩) | (simp only [go_sem, List.length_map, a4', a6'])))
  rw [decide_eq_true a8] at hw2
  have h86 := c86 t t.pl (by omega) hl2
  refine PC.body Tryd.func50 (by kernel_rfl) rfl (by simp [Tryd.f50]) rfl ?_
  simp only [Tryd.f50]
  intro hlen
  simp only [go_sem, List.length_map, and_true, true_and] at hlen
  refine CV.run ?_
  (repeat' (first | ((with_reducible first | apply sg | apply si | apply sq | apply sd) <;> intro hb <;> (try rw [hb]) <;> (try simp only [bq, bz, dtrue, dfalse] at hb) <;> (try simp only [within] at hb) <;> try simp only [go_sem]) | refine And.intro (by first | exact ⟨⟩ | omega | (simp only [I64]; omega)) ?_ | (with_reducible rw [vc_draw_eq]; first | (refine CV.draw (id := 6) sF10i_f50_6 mixed rfl (by kernel_rfl) ?_; delta sF10i_f50_6)) | ((with_reducible first | refine vp h95 ?_ ?_ | refine dc h95 ?_ ?_ | refine vp hw1 ?_ ?_ | refine dc hw1 ?_ ?_ | refine vp hw2 ?_ ?_ | refine dc hw2 ?_ ?_); focus (first | exact ⟨rfl, .inl ⟨by first | rfl | (simp only [go_sem, List.length_map, a4', a6', AV.pureL, AV.pure]; done), by first | (simp only [go_sem, List.length_map, a4', a6', AV.pureL, AV.pure]; done) | rfl⟩⟩ | exact ⟨rfl, .inr ⟨rfl, by simp only [go_sem, List.length_map, a4', a6']⟩⟩)) | ((with_reducible first | refine dp h95 ?_ ?_ | refine dp hw1 ?_ ?_ | refine dp hw2 ?_ ?_); focus (exact ⟨rfl, by first | rfl | (simp only [go_sem, List.length_map, a4', a6', AV.pureL, AV.pure]; done), by first | (simp only [go_sem, List.length_map, a4', a6', AV.pureL, AV.pure]; done) | rfl⟩)) | ((with_reducible first | refine ds h95 ?_ ?_ | refine ds hw1 ?_ ?_ | refine ds hw2 ?_ ?_); focus exact ⟨rfl, rfl⟩) | (simp only [go_sem, List.length_map, a4', a6'])))
  refine vc_for (fun j => ⟨[(3, .int .i64 j), (1, .lp 0 0), (2, .int .i64 0)], [.box 28 (cT t) false]⟩) t.ts.length (fun j => allTo (fun _ p => within p 0 (t.rm.length - 1)) t.pl j ∧ allTo (fun _ c => within c 0 99) t.ca j) (by (first | exact wk_same (by simp only [go_sem, Int.natCast_add, cn, Int.cast_ofNat_Int]) | (refine wk_drop ?_ ?_ ?_ ?_ ?_ <;> simp only [go_sem, Int.natCast_add, cn, Int.cast_ofNat_Int]))) ⟨.zero, .zero⟩ ?_
  intro j hj hx
  rcases Nat.lt_or_ge j t.ts.length with hlt | hge
  · obtain ⟨p, hp⟩ := get_of (l := t.pl) (j := j) (by omega)
    obtain ⟨c, hc⟩ := get_of (l := t.ca) (j := j) (by omega)
    have hlt' : (j : Int) < t.ts.length := by omega
    have hj2 : (j : Int) < t.pl.length := by omega
    have hj3 : (j : Int) < t.ca.length := by omega
    have h20 := c20 t p
    have h65 := c65 c 0 99
    by_cases b1 : within p 0 (t.rm.length - 1)
    · rw [decide_eq_true b1] at h20
      by_cases b2 : within c 0 99
      · rw [decide_eq_true b2] at h65
        (repeat' (first | ((with_reducible first | apply sg | apply si | apply sq | apply sd) <;> intro hb <;> (try rw [hb]) <;> (try simp only [bq, bz, dtrue, dfalse] at hb) <;> (try simp only [within] at hb) <;> try simp only [go_sem]) | refine And.intro (by first | exact ⟨⟩ | omega | (simp only [I64]; omega)) ?_ | (with_reducible rw [vc_draw_eq]; first | (refine CV.draw (id := 6) sF10i_f50_6 mixed rfl (by kernel_rfl) ?_; delta sF10i_f50_6)) | ((with_reducible first | refine vp h20 ?_ ?_ | refine dc h20 ?_ ?_ | refine vp h65 ?_ ?_ | refine dc h65 ?_ ?_); focus (first | exact ⟨rfl, .inl ⟨by first | rfl | (simp only [go_sem, hlt', hj2, hj3, hp, hc, a4', a6', encN, List.length_map, AV.pureL, AV.pure]; done), by first | (simp only [go_sem, hlt', hj2, hj3, hp, hc, a4', a6', encN, List.length_map, AV.pureL, AV.pure]; done) | rfl⟩⟩ | exact ⟨rfl, .inr ⟨rfl, by simp only [go_sem, hlt', hj2, hj3, hp, hc, a4', a6', encN, List.length_map]⟩⟩)) | ((with_reducible first | refine dp h20 ?_ ?_ | refine dp h65 ?_ ?_); focus (exact ⟨rfl, by first | rfl | (simp only [go_sem, hlt', hj2, hj3, hp, hc, a4', a6', encN, List.length_map, AV.pureL, AV.pure]; done), by first | (simp only [go_sem, hlt', hj2, hj3, hp, hc, a4', a6', encN, List.length_map, AV.pureL, AV.pure]; done) | rfl⟩)) | ((with_reducible first | refine ds h20 ?_ ?_ | refine ds h65 ?_ ?_); focus exact ⟨rfl, rfl⟩) | (simp only [go_sem, hlt', hj2, hj3, hp, hc, a4', a6', encN, List.length_map])))
        exact ⟨by (first | exact wk_same (by simp only [go_sem, Int.natCast_add, cn, Int.cast_ofNat_Int]) | (refine wk_drop ?_ ?_ ?_ ?_ ?_ <;> simp only [go_sem, Int.natCast_add, cn, Int.cast_ofNat_Int])), hx.1.succ hp b1, hx.2.succ hc b2⟩
      · rw [decide_eq_false b2] at h65
        rw [checkT_no fun h => b2 (h.2.2.2.2.2.2.1 c (List.mem_of_getElem? hc))]
        (repeat' (first | ((with_reducible first | apply sg | apply si | apply sq | apply sd) <;> intro hb <;> (try rw [hb]) <;> (try simp only [bq, bz, dtrue, dfalse] at hb) <;> (try simp only [within] at hb) <;> try simp only [go_sem]) | refine And.intro (by first | exact ⟨⟩ | omega | (simp only [I64]; omega)) ?_ | (with_reducible rw [vc_draw_eq]; first | (refine CV.draw (id := 6) sF10i_f50_6 mixed rfl (by kernel_rfl) ?_; delta sF10i_f50_6)) | ((with_reducible first | refine vp h20 ?_ ?_ | refine dc h20 ?_ ?_ | refine vp h65 ?_ ?_ | refine dc h65 ?_ ?_); focus (first | exact ⟨rfl, .inl ⟨by first | rfl | (simp only [go_sem, hlt', hj2, hj3, hp, hc, a4', a6', encN, List.length_map, AV.pureL, AV.pure]; done), by first | (simp only [go_sem, hlt', hj2, hj3, hp, hc, a4', a6', encN, List.length_map, AV.pureL, AV.pure]; done) | rfl⟩⟩ | exact ⟨rfl, .inr ⟨rfl, by simp only [go_sem, hlt', hj2, hj3, hp, hc, a4', a6', encN, List.length_map]⟩⟩)) | ((with_reducible first | refine dp h20 ?_ ?_ | refine dp h65 ?_ ?_); focus (exact ⟨rfl, by first | rfl | (simp only [go_sem, hlt', hj2, hj3, hp, hc, a4', a6', encN, List.length_map, AV.pureL, AV.pure]; done), by first | (simp only [go_sem, hlt', hj2, hj3, hp, hc, a4', a6', encN, List.length_map, AV.pureL, AV.pure]; done) | rfl⟩)) | ((with_reducible first | refine ds h20 ?_ ?_ | refine ds h65 ?_ ?_); focus exact ⟨rfl, rfl⟩) | (simp only [go_sem, hlt', hj2, hj3, hp, hc, a4', a6', encN, List.length_map])))
    · rw [decide_eq_false b1] at h20
      rw [checkT_no fun h => b1 (h.2.2.2.2.1 p (List.mem_of_getElem? hp))]
      (repeat' (first | ((with_reducible first | apply sg | apply si | apply sq | apply sd) <;> intro hb <;> (try rw [hb]) <;> (try simp only [bq, bz, dtrue, dfalse] at hb) <;> (try simp only [within] at hb) <;> try simp only [go_sem]) | refine And.intro (by first | exact ⟨⟩ | omega | (simp only [I64]; omega)) ?_ | (with_reducible rw [vc_draw_eq]; first | (refine CV.draw (id := 6) sF10i_f50_6 mixed rfl (by kernel_rfl) ?_; delta sF10i_f50_6)) | ((with_reducible first | refine vp h20 ?_ ?_ | refine dc h20 ?_ ?_ | refine vp h65 ?_ ?_ | refine dc h65 ?_ ?_); focus (first | exact ⟨rfl, .inl ⟨by first | rfl | (simp only [go_sem, hlt', hj2, hj3, hp, hc, a4', a6', encN, List.length_map, AV.pureL, AV.pure]; done), by first | (simp only [go_sem, hlt', hj2, hj3, hp, hc, a4', a6', encN, List.length_map, AV.pureL, AV.pure]; done) | rfl⟩⟩ | exact ⟨rfl, .inr ⟨rfl, by simp only [go_sem, hlt', hj2, hj3, hp, hc, a4', a6', encN, List.length_map]⟩⟩)) | ((with_reducible first | refine dp h20 ?_ ?_ | refine dp h65 ?_ ?_); focus (exact ⟨rfl, by first | rfl | (simp only [go_sem, hlt', hj2, hj3, hp, hc, a4', a6', encN, List.length_map, AV.pureL, AV.pure]; done), by first | (simp only [go_sem, hlt', hj2, hj3, hp, hc, a4', a6', encN, List.length_map, AV.pureL, AV.pure]; done) | rfl⟩)) | ((with_reducible first | refine ds h20 ?_ ?_ | refine ds h65 ?_ ?_); focus exact ⟨rfl, rfl⟩) | (simp only [go_sem, hlt', hj2, hj3, hp, hc, a4', a6', encN, List.length_map])))
  · have hge' : ¬ (j : Int) < t.ts.length := by omega
    have a5 := hx.1.mem (by omega)
    have a7 := hx.2.mem (by omega)
    (repeat' (first | ((with_reducible first | apply sg | apply si | apply sq | apply sd) <;> intro hb <;> (try rw [hb]) <;> (try simp only [bq, bz, dtrue, dfalse] at hb) <;> (try simp only [within] at hb) <;> try simp only [go_sem]) | refine And.intro (by first | exact ⟨⟩ | omega | (simp only [I64]; omega)) ?_ | (with_reducible rw [vc_draw_eq]; first | (refine CV.draw (id := 6) sF10i_f50_6 mixed rfl (by kernel_rfl) ?_; delta sF10i_f50_6)) | (simp only [go_sem, hge', a4', List.length_map])))
    refine vc_for (fun j => ⟨[(4, .int .i64 j), (1, .lp 0 0), (2, .int .i64 0)], [.box 28 (cT t) false]⟩) t.rm.length (fun j => allTo (fun _ r => within r 0 9) t.rm j) (by (first | exact wk_same (by simp only [go_sem, Int.natCast_add, cn, Int.cast_ofNat_Int]) | (refine wk_drop ?_ ?_ ?_ ?_ ?_ <;> simp only [go_sem, Int.natCast_add, cn, Int.cast_ofNat_Int]))) .zero ?_
    intro k hk hy
    rcases Nat.lt_or_ge k t.rm.length with hkl | hkg
    · obtain ⟨r, hr⟩ := get_of hkl
      have hkl' : (k : Int) < t.rm.length := by omega
      have h65r := c65 r 0 9
      by_cases b3 : within r 0 9
      · rw [decide_eq_true b3] at h65r
        (repeat' (first | ((with_reducible first | apply sg | apply si | apply sq | apply sd) <;> intro hb <;> (try rw [hb]) <;> (try simp only [bq, bz, dtrue, dfalse] at hb) <;> (try simp only [within] at hb) <;> try simp only [go_sem]) | refine And.intro (by first | exact ⟨⟩ | omega | (simp only [I64]; omega)) ?_ | (with_reducible rw [vc_draw_eq]; first | (refine CV.draw (id := 6) sF10i_f50_6 mixed rfl (by kernel_rfl) ?_; delta sF10i_f50_6)) | ((with_reducible first | refine vp h65r ?_ ?_ | refine dc h65r ?_ ?_); focus (first | exact ⟨rfl, .inl ⟨by first | rfl | (simp only [go_sem, hkl', hr, encN, List.length_map, AV.pureL, AV.pure]; done), by first | (simp only [go_sem, hkl', hr, encN, List.length_map, AV.pureL, AV.pure]; done) | rfl⟩⟩ | exact ⟨rfl, .inr ⟨rfl, by simp only [go_sem, hkl', hr, encN, List.length_map]⟩⟩)) | ((with_reducible first | refine dp h65r ?_ ?_); focus (exact ⟨rfl, by first | rfl | (simp only [go_sem, hkl', hr, encN, List.length_map, AV.pureL, AV.pure]; done), by first | (simp only [go_sem, hkl', hr, encN, List.length_map, AV.pureL, AV.pure]; done) | rfl⟩)) | ((with_reducible first | refine ds h65r ?_ ?_); focus exact ⟨rfl, rfl⟩) | (simp only [go_sem, hkl', hr, encN, List.length_map])))
        exact ⟨by (first | exact wk_same (by simp only [go_sem, Int.natCast_add, cn, Int.cast_ofNat_Int]) | (refine wk_drop ?_ ?_ ?_ ?_ ?_ <;> simp only [go_sem, Int.natCast_add, cn, Int.cast_ofNat_Int])), hy.succ hr b3⟩
      · rw [decide_eq_false b3] at h65r
        rw [checkT_no fun h => b3 (h.2.2.1 r (List.mem_of_getElem? hr))]
        (repeat' (first | ((with_reducible first | apply sg | apply si | apply sq | apply sd) <;> intro hb <;> (try rw [hb]) <;> (try simp only [bq, bz, dtrue, dfalse] at hb) <;> (try simp only [within] at hb) <;> try simp only [go_sem]) | refine And.intro (by first | exact ⟨⟩ | omega | (simp only [I64]; omega)) ?_ | (with_reducible rw [vc_draw_eq]; first | (refine CV.draw (id := 6) sF10i_f50_6 mixed rfl (by kernel_rfl) ?_; delta sF10i_f50_6)) | ((with_reducible first | refine vp h65r ?_ ?_ | refine dc h65r ?_ ?_); focus (first | exact ⟨rfl, .inl ⟨by first | rfl | (simp only [go_sem, hkl', hr, encN, List.length_map, AV.pureL, AV.pure]; done), by first | (simp only [go_sem, hkl', hr, encN, List.length_map, AV.pureL, AV.pure]; done) | rfl⟩⟩ | exact ⟨rfl, .inr ⟨rfl, by simp only [go_sem, hkl', hr, encN, List.length_map]⟩⟩)) | ((with_reducible first | refine dp h65r ?_ ?_); focus (exact ⟨rfl, by first | rfl | (simp only [go_sem, hkl', hr, encN, List.length_map, AV.pureL, AV.pure]; done), by first | (simp only [go_sem, hkl', hr, encN, List.length_map, AV.pureL, AV.pure]; done) | rfl⟩)) | ((with_reducible first | refine ds h65r ?_ ?_); focus exact ⟨rfl, rfl⟩) | (simp only [go_sem, hkl', hr, encN, List.length_map])))
    · have hkg' : ¬ (k : Int) < t.rm.length := by omega
      have a3 := hy.mem hkg
      by_cases a9 : roomy t t.pl
      · rw [decide_eq_true a9] at h86
        rw [checkT_yes ⟨a1, a2, a3, a4, a5, a6, a7, a8, a9⟩]
        (repeat' (first | ((with_reducible first | apply sg | apply si | apply sq | apply sd) <;> intro hb <;> (try rw [hb]) <;> (try simp only [bq, bz, dtrue, dfalse] at hb) <;> (try simp only [within] at hb) <;> try simp only [go_sem]) | refine And.intro (by first | exact ⟨⟩ | omega | (simp only [I64]; omega)) ?_ | (with_reducible rw [vc_draw_eq]; first | (refine CV.draw (id := 6) sF10i_f50_6 mixed rfl (by kernel_rfl) ?_; delta sF10i_f50_6)) | ((with_reducible first | refine vp h86 ?_ ?_ | refine dc h86 ?_ ?_); focus (first | exact ⟨rfl, .inl ⟨by first | rfl | (simp only [go_sem, hkg', List.length_map, AV.pureL, AV.pure]; done), by first | (simp only [go_sem, hkg', List.length_map, AV.pureL, AV.pure]; done) | rfl⟩⟩ | exact ⟨rfl, .inr ⟨rfl, by simp only [go_sem, hkg', List.length_map]⟩⟩)) | ((with_reducible first | refine dp h86 ?_ ?_); focus (exact ⟨rfl, by first | rfl | (simp only [go_sem, hkg', List.length_map, AV.pureL, AV.pure]; done), by first | (simp only [go_sem, hkg', List.length_map, AV.pureL, AV.pure]; done) | rfl⟩)) | ((with_reducible first | refine ds h86 ?_ ?_); focus exact ⟨rfl, rfl⟩) | (simp only [go_sem, hkg', List.length_map])))
      · rw [decide_eq_false a9] at h86
        rw [checkT_no fun h => a9 h.2.2.2.2.2.2.2.2]
        (repeat' (first | ((with_reducible first | apply sg | apply si | apply sq | apply sd) <;> intro hb <;> (try rw [hb]) <;> (try simp only [bq, bz, dtrue, dfalse] at hb) <;> (try simp only [within] at hb) <;> try simp only [go_sem]) | refine And.intro (by first | exact ⟨⟩ | omega | (simp only [I64]; omega)) ?_ | (with_reducible rw [vc_draw_eq]; first | (refine CV.draw (id := 6) sF10i_f50_6 mixed rfl (by kernel_rfl) ?_; delta sF10i_f50_6)) | ((with_reducible first | refine vp h86 ?_ ?_ | refine dc h86 ?_ ?_); focus (first | exact ⟨rfl, .inl ⟨by first | rfl | (simp only [go_sem, hkg', List.length_map, AV.pureL, AV.pure]; done), by first | (simp only [go_sem, hkg', List.length_map, AV.pureL, AV.pure]; done) | rfl⟩⟩ | exact ⟨rfl, .inr ⟨rfl, by simp only [go_sem, hkg', List.length_map]⟩⟩)) | ((with_reducible first | refine dp h86 ?_ ?_); focus (exact ⟨rfl, by first | rfl | (simp only [go_sem, hkg', List.length_map, AV.pureL, AV.pure]; done), by first | (simp only [go_sem, hkg', List.length_map, AV.pureL, AV.pure]; done) | rfl⟩)) | ((with_reducible first | refine ds h86 ?_ ?_); focus exact ⟨rfl, rfl⟩) | (simp only [go_sem, hkg', List.length_map])))
noncomputable def askT (t : Town) (is : Prop) : Int := if validT t then (if is then 0 else 1) else 100
theorem askT_no {t : Town} {is : Prop} (h : ¬ validT t) : askT t is = 100 := if_neg h
theorem askT_arg {t : Town} {is : Prop} (h : validT t) (h2 : ¬ is) : askT t is = 1 := by rw [askT, if_pos h, if_neg h2]
theorem askT0 {t : Town} {is : Prop} : (askT t is = 0) = (validT t ∧ is) := by
  unfold askT; split <;> (try split) <;> simp_all
def ofT (t : Town) (i : Int) : Int := match t.ts[i.toNat]? with | some x => x.of | none => 0
theorem ofT_of {t : Town} {i : Int} {x : Thing} (h : t.ts[i.toNat]? = some x) : ofT t i = x.of := by simp [ofT, h]
def isPage (t : Town) (n : Int) : Prop := within n 0 (t.ts.length - 1) ∧ ofT t n = -1
theorem c44 (t : Town) (n : Int) : PC Tryd.prog 44 [hF t, .int .i64 n] (.bool (decide (isPage t n))) := by
  have h21 := c21 t n
  by_cases hw : within n 0 (t.ts.length - 1)
  · rw [decide_eq_true hw] at h21
    have hw' := hw
    unfold within at hw'
    obtain ⟨x, hx⟩ := get_of (l := t.ts) (j := n.toNat) (by omega)
    have e := ofT_of hx
    have hi : n < t.ts.length := by omega
    refine PC.body Tryd.func44 (by kernel_rfl) rfl (by simp [Tryd.f44]) rfl ?_
    simp only [Tryd.f44]
    intro hlen
    simp only [go_sem, List.length_map, and_true, true_and] at hlen
    refine CV.run ?_
    (repeat' (first | ((with_reducible first | apply sg | apply si | apply sq | apply sd) <;> intro hb <;> (try rw [hb]) <;> (try simp only [bq, bz, dtrue, dfalse] at hb) <;> (try simp only [within] at hb) <;> try simp only [go_sem]) | refine And.intro (by first | exact ⟨⟩ | omega | (simp only [I64]; omega)) ?_ | ((with_reducible first | refine vp h21 ?_ ?_); focus (first | exact ⟨rfl, .inl ⟨by first | rfl | (simp only [go_sem, hx, hi, encT, AV.pureL, AV.pure]; done), by first | (simp only [go_sem, hx, hi, encT, AV.pureL, AV.pure]; done) | rfl⟩⟩ | exact ⟨rfl, .inr ⟨rfl, by simp only [go_sem, hx, hi, encT]⟩⟩)) | (simp only [go_sem, hx, hi, encT])))
    all_goals first
      | omega
      | exact bd (by unfold isPage; rw [e]; exact ⟨fun h => ⟨hw, h⟩, fun h => h.2⟩)
  · rw [decide_eq_false hw] at h21
    refine PC.body Tryd.func44 (by kernel_rfl) rfl (by simp [Tryd.f44]) rfl ?_
    simp only [Tryd.f44]
    intro hlen
    simp only [go_sem, List.length_map, and_true, true_and] at hlen
    refine CV.run ?_
    (repeat' (first | ((with_reducible first | apply sg | apply si | apply sq | apply sd) <;> intro hb <;> (try rw [hb]) <;> (try simp only [bq, bz, dtrue, dfalse] at hb) <;> (try simp only [within] at hb) <;> try simp only [go_sem]) | refine And.intro (by first | exact ⟨⟩ | omega | (simp only [I64]; omega)) ?_ | ((with_reducible first | refine vp h21 ?_ ?_); focus (first | exact ⟨rfl, .inl ⟨by first | rfl | (simp only [go_sem, AV.pureL, AV.pure]; done), by first | (simp only [go_sem, AV.pureL, AV.pure]; done) | rfl⟩⟩ | exact ⟨rfl, .inr ⟨rfl, by simp only [go_sem]⟩⟩)) | (simp only [go_sem])))
    exact bf fun h => hw h.1
theorem c75 (t : Town) (n : Int) : PC Tryd.prog 75 [hF t, .int .i64 n] (.bool (decide (isPage t n))) := by
  have h87 := c87 t n
  by_cases hw : within n 0 (t.ts.length - 1)
  · rw [decide_eq_true hw] at h87
    have hw' := hw
    unfold within at hw'
    obtain ⟨x, hx⟩ := get_of (l := t.ts) (j := n.toNat) (by omega)
    have e := ofT_of hx
    have hi : n < t.ts.length := by omega
    refine PC.body Tryd.func75 (by kernel_rfl) rfl (by simp [Tryd.f75]) rfl ?_
    simp only [Tryd.f75]
    intro hlen
    simp only [go_sem, List.length_map, and_true, true_and] at hlen
    refine CV.run ?_
    (repeat' (first | ((with_reducible first | apply sg | apply si | apply sq | apply sd) <;> intro hb <;> (try rw [hb]) <;> (try simp only [bq, bz, dtrue, dfalse] at hb) <;> (try simp only [within] at hb) <;> try simp only [go_sem]) | refine And.intro (by first | exact ⟨⟩ | omega | (simp only [I64]; omega)) ?_ | ((with_reducible first | refine vp h87 ?_ ?_); focus (first | exact ⟨rfl, .inl ⟨by first | rfl | (simp only [go_sem, hx, hi, encT, AV.pureL, AV.pure]; done), by first | (simp only [go_sem, hx, hi, encT, AV.pureL, AV.pure]; done) | rfl⟩⟩ | exact ⟨rfl, .inr ⟨rfl, by simp only [go_sem, hx, hi, encT]⟩⟩)) | (simp only [go_sem, hx, hi, encT])))
    all_goals first
      | omega
      | exact bd (by unfold isPage; rw [e]; exact ⟨fun h => ⟨hw, h⟩, fun h => h.2⟩)
  · rw [decide_eq_false hw] at h87
    refine PC.body Tryd.func75 (by kernel_rfl) rfl (by simp [Tryd.f75]) rfl ?_
    simp only [Tryd.f75]
    intro hlen
    simp only [go_sem, List.length_map, and_true, true_and] at hlen
    refine CV.run ?_
    (repeat' (first | ((with_reducible first | apply sg | apply si | apply sq | apply sd) <;> intro hb <;> (try rw [hb]) <;> (try simp only [bq, bz, dtrue, dfalse] at hb) <;> (try simp only [within] at hb) <;> try simp only [go_sem]) | refine And.intro (by first | exact ⟨⟩ | omega | (simp only [I64]; omega)) ?_ | ((with_reducible first | refine vp h87 ?_ ?_); focus (first | exact ⟨rfl, .inl ⟨by first | rfl | (simp only [go_sem, AV.pureL, AV.pure]; done), by first | (simp only [go_sem, AV.pureL, AV.pure]; done) | rfl⟩⟩ | exact ⟨rfl, .inr ⟨rfl, by simp only [go_sem]⟩⟩)) | (simp only [go_sem])))
    exact bf fun h => hw h.1
end Go.Proofs.YtjlopclpofbgbaaDoor

