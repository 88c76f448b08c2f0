/- Contracts of functions of the given program, without a condition beyond those that each theorem states; they lead to the given statement. -/
import Derived.Test.YtjlopclpofbgbaaDoorF10l
import Derived.Test.YtjlopclpofbgbaaDoorF10kxc
import Derived.Test.YtjlopclpofbgbaaDoorF10k
import Derived.Test.YtjlopclpofbgbaaDoorF10jxc
import Derived.Test.YtjlopclpofbgbaaDoorF10j
import Derived.Test.YtjlopclpofbgbaaDoorF10ixc
import Derived.Test.YtjlopclpofbgbaaDoorF10i
import Derived.Test.YtjlopclpofbgbaaDoorF10h
import Derived.Test.YtjlopclpofbgbaaDoorF10g
import Derived.Test.YtjlopclpofbgbaaDoorF10f
import Derived.Test.YtjlopclpofbgbaaDoorF10e
import Derived.Test.YtjlopclpofbgbaaDoorF10d
import Derived.Test.YtjlopclpofbgbaaDoorF10c
import Derived.Test.YtjlopclpofbgbaaDoorF10b
import Derived.Test.YtjlopclpofbgbaaDoorF10a
import Derived.Test.YtjlopclpofbgbaaDoorTyp
import Derived.Test.YtjlopclpofbgbaaDoorFlB
import Derived.Test.YtjlopclpofbgbaaDoorFlA
import Derived.WalkKit
import Derived.OwnWalkIn
import Derived.OrdersIn
import Derived.LoopNIn
import Derived.LoopIn
import Derived.RangeFuncNested
import Derived.RangeFuncBound
import Derived.RangeFuncLeaves
import Derived.Maps.OwnSet
import Derived.Laws.Tables
import Derived.Great.BuildSlice
import Derived.Maps.Views
import Derived.WalkSpells
import Derived.Carry
import Derived.Test.YtjlopclpofbgbaaDoorProg
set_option linter.unusedSimpArgs false
set_option linter.unusedVariables false
set_option maxRecDepth 100000
namespace Go.Proofs.YtjlopclpofbgbaaDoor
open Go Go.Fl
open Classical
def sF10l_f24_1 : List (Nat × Nat) := [(0, 0), (0, 0), (0, 0), (0, 0), (0, 0), (0, 0)]
def sF10l_f26_1 : List (Nat × Nat) := [(0, 0), (0, 0), (0, 0), (0, 0), (0, 0), (0, 0)]
def sF10l_f29_1 : List (Nat × Nat) := [(0, 0), (0, 0), (0, 0), (0, 0), (0, 0), (0, 0)]
theorem c70y (t : Town) (hl2 : t.pl.length ≤ 1000) (h : validT t) : PC Tryd.prog 70 [hF t, .bool true] (.int .i64 0) := by
  have := c70 t hl2 True
  rw [askT_yes h trivial] at this
  simpa only [decide_true] using this
theorem allI_mem {n : Nat} {x : Int} : x ∈ allI n ↔ 0 ≤ x ∧ x < n := by
  unfold allI; rw [sel_mem]
  constructor
  · rintro ⟨i, h1, rfl, _⟩; omega
  · intro h; exact ⟨x.toNat, by omega, by omega, trivial⟩
theorem c24n (t : Town) (hl2 : t.pl.length ≤ 1000) (b : Int) (h : ¬ (validT t ∧ house t b)) : PC Tryd.prog 24 [hF t, .int .i64 b] (.tup [.nilS, .int .i64 (askT t (house t b))]) := by
  have h20 := c20 t b
  have h70 := c70 t hl2 (house t b)
  have hne := ask_ne h
  refine PC.body Tryd.func24 (by kernel_rfl) rfl (by simp [Tryd.f24]) rfl ?_
  simp only [Tryd.f24]
  intro hlen
  simp only [go_sem, List.length_map, and_true, true_and] at hlen
  refine CV.run ?_
  (repeat' (first | ((with_reducible first | apply sg | apply si | apply sq | apply sd) <;> intro hb <;> (try rw [hb]) <;> (try simp only [bq, bz, dtrue, dfalse] at hb) <;> (try simp only [within] at hb) <;> try simp only [go_sem]) | refine And.intro (by first | exact ⟨⟩ | omega | (simp only [I64]; omega)) ?_ | (with_reducible rw [vc_draw_eq]; first | (refine CV.draw (id := 1) sF10l_f24_1 mixed rfl (by kernel_rfl) ?_; delta sF10l_f24_1)) | ((with_reducible first | refine vp h20 ?_ ?_ | refine dc h20 ?_ ?_ | refine vp h70 ?_ ?_ | refine dc h70 ?_ ?_); focus (first | exact ⟨rfl, .inl ⟨by first | rfl | (simp only [go_sem, hne, AV.pureL, AV.pure]; done), by first | (simp only [go_sem, hne, AV.pureL, AV.pure]; done) | rfl⟩⟩ | exact ⟨rfl, .inr ⟨rfl, by simp only [go_sem, hne]⟩⟩)) | ((with_reducible first | refine dp h20 ?_ ?_ | refine dp h70 ?_ ?_); focus (exact ⟨rfl, by first | rfl | (simp only [go_sem, hne, AV.pureL, AV.pure]; done), by first | (simp only [go_sem, hne, AV.pureL, AV.pure]; done) | rfl⟩)) | ((with_reducible first | refine ds h20 ?_ ?_ | refine ds h70 ?_ ?_); focus exact ⟨rfl, rfl⟩) | (simp only [go_sem, hne])))
set_option maxHeartbeats 1000000 in
theorem c24y (t : Town) (hl2 : t.pl.length ≤ 1000) (b : Int) (hv : validT t) (hb : house t b) : PC Tryd.prog 24 [hF t, .int .i64 b] (.tup [lN (lft t (allI t.ts.length) b), .int .i64 0]) := by
  have h20 := (c20 t b).tru hb
  have h70 := c70y t hl2 hv
  have h8 := hv.len
  have h71 := c71 t (allI t.ts.length) b (fun x hx => allI_mem.1 hx) hv.lp (by have : (allI t.ts.length).length ≤ t.ts.length := sel_len _ _; omega)
  refine PC.body Tryd.func24 (by kernel_rfl) rfl (by simp [Tryd.f24]) rfl ?_
  simp only [Tryd.f24]
  intro hlen
  simp only [go_sem, List.length_map, and_true, true_and] at hlen
  refine CV.run ?_
  (repeat' (first | ((with_reducible first | apply sg | apply si | apply sq | apply sd) <;> intro hb <;> (try rw [hb]) <;> (try simp only [bq, bz, dtrue, dfalse] at hb) <;> (try simp only [within] at hb) <;> try simp only [go_sem]) | refine And.intro (by first | exact ⟨⟩ | omega | (simp only [I64]; omega)) ?_ | (with_reducible rw [vc_draw_eq]; first | (refine CV.draw (id := 1) sF10l_f24_1 mixed rfl (by kernel_rfl) ?_; delta sF10l_f24_1)) | ((with_reducible first | refine vp h20 ?_ ?_ | refine dc h20 ?_ ?_ | refine vp h70 ?_ ?_ | refine dc h70 ?_ ?_); focus (first | exact ⟨rfl, .inl ⟨by first | rfl | (simp only [go_sem, AV.pureL, AV.pure]; done), by first | (simp only [go_sem, AV.pureL, AV.pure]; done) | rfl⟩⟩ | exact ⟨rfl, .inr ⟨rfl, by simp only [go_sem]⟩⟩)) | ((with_reducible first | refine dp h20 ?_ ?_ | refine dp h70 ?_ ?_); focus (exact ⟨rfl, by first | rfl | (simp only [go_sem, AV.pureL, AV.pure]; done), by first | (simp only [go_sem, AV.pureL, AV.pure]; done) | rfl⟩)) | ((with_reducible first | refine ds h20 ?_ ?_ | refine ds h70 ?_ ?_); focus exact ⟨rfl, rfl⟩) | (simp only [go_sem])))
  refine vc_fw (fun j => ⟨[(8, .int .i64 j), (7, .row 1 (allI j).length), (1, .int .i64 b), (2, .lp 0 0), (4, .nilS), (5, .int .i64 0)], [.box 28 (cT t) false, .row 3 1 ((allI j).map encN) false]⟩) t.ts.length (fun _ => True) (.nilE 7 3 1 (by (simp only [go_sem])) (by omega) (.base (by (first | exact wk_same (by simp only [go_sem, Int.natCast_add, cn, Int.cast_ofNat_Int, allI, sel, List.map_nil]) | (refine wk_drop ?_ ?_ ?_ ?_ ?_ <;> simp only [go_sem, Int.natCast_add, cn, Int.cast_ofNat_Int, allI, sel, List.map_nil]))))) trivial ?_
  intro j hj _
  have hsl : (allI j).length ≤ j := sel_len _ _
  rcases Nat.lt_or_ge j t.ts.length with hlt | hge
  · have hlt' : (j : Int) < t.ts.length := by omega
    have e : allI (j + 1) = allI j ++ [(j : Int)] := sel_yes trivial
    (repeat' (first | ((with_reducible first | apply sg | apply si | apply sq | apply sd) <;> intro hb <;> (try rw [hb]) <;> (try simp only [bq, bz, dtrue, dfalse] at hb) <;> (try simp only [within] at hb) <;> try simp only [go_sem]) | refine And.intro (by first | exact ⟨⟩ | omega | (simp only [I64]; omega)) ?_ | (with_reducible rw [vc_draw_eq]; first | (refine CV.draw (id := 1) sF10l_f24_1 mixed rfl (by kernel_rfl) ?_; delta sF10l_f24_1)) | (simp only [go_sem, hlt', List.length_map])))
    all_goals first
      | omega
      | exact .base (by (first | exact wk_same (by simp only [go_sem, Int.natCast_add, cn, Int.cast_ofNat_Int, e, List.map_append, encN, List.length_append, List.length_cons, List.length_nil]) | (refine wk_drop ?_ ?_ ?_ ?_ ?_ <;> simp only [go_sem, Int.natCast_add, cn, Int.cast_ofNat_Int, e, List.map_append, encN, List.length_append, List.length_cons, List.length_nil])))
  · have hge' : ¬ (j : Int) < t.ts.length := by omega
    have : j = t.ts.length := by omega
    subst this
    (repeat' (first | ((with_reducible first | apply sg | apply si | apply sq | apply sd) <;> intro hb <;> (try rw [hb]) <;> (try simp only [bq, bz, dtrue, dfalse] at hb) <;> (try simp only [within] at hb) <;> try simp only [go_sem]) | refine And.intro (by first | exact ⟨⟩ | omega | (simp only [I64]; omega)) ?_ | (with_reducible rw [vc_draw_eq]; first | (refine CV.draw (id := 1) sF10l_f24_1 mixed rfl (by kernel_rfl) ?_; delta sF10l_f24_1)) | (first | refine vcP_row 1 rfl (by (simp only [go_sem, hge', List.length_map])) (vcP_pure (h71) rfl (by first | rfl | (simp only [go_sem, hge', List.length_map, AV.pureL, AV.pure, Bool.and_self, false_and, if_false])) (by (simp only [go_sem, hge', List.length_map, false_and, if_false])) ?_)) | (simp only [go_sem, hge', List.length_map])))
theorem c26n (t : Town) (hl2 : t.pl.length ≤ 1000) (b : Int) (h : ¬ (validT t ∧ house t b)) : PC Tryd.prog 26 [hF t, .int .i64 b] (.tup [.nilS, .int .i64 (askT t (house t b))]) := by
  have h20 := c20 t b
  have h70 := c70 t hl2 (house t b)
  have hne := ask_ne h
  refine PC.body Tryd.func26 (by kernel_rfl) rfl (by simp [Tryd.f26]) rfl ?_
  simp only [Tryd.f26]
  intro hlen
  simp only [go_sem, List.length_map, and_true, true_and] at hlen
  refine CV.run ?_
  (repeat' (first | ((with_reducible first | apply sg | apply si | apply sq | apply sd) <;> intro hb <;> (try rw [hb]) <;> (try simp only [bq, bz, dtrue, dfalse] at hb) <;> (try simp only [within] at hb) <;> try simp only [go_sem]) | refine And.intro (by first | exact ⟨⟩ | omega | (simp only [I64]; omega)) ?_ | (with_reducible rw [vc_draw_eq]; first | (refine CV.draw (id := 1) sF10l_f26_1 mixed rfl (by kernel_rfl) ?_; delta sF10l_f26_1)) | ((with_reducible first | refine vp h20 ?_ ?_ | refine dc h20 ?_ ?_ | refine vp h70 ?_ ?_ | refine dc h70 ?_ ?_); focus (first | exact ⟨rfl, .inl ⟨by first | rfl | (simp only [go_sem, hne, AV.pureL, AV.pure]; done), by first | (simp only [go_sem, hne, AV.pureL, AV.pure]; done) | rfl⟩⟩ | exact ⟨rfl, .inr ⟨rfl, by simp only [go_sem, hne]⟩⟩)) | ((with_reducible first | refine dp h20 ?_ ?_ | refine dp h70 ?_ ?_); focus (exact ⟨rfl, by first | rfl | (simp only [go_sem, hne, AV.pureL, AV.pure]; done), by first | (simp only [go_sem, hne, AV.pureL, AV.pure]; done) | rfl⟩)) | ((with_reducible first | refine ds h20 ?_ ?_ | refine ds h70 ?_ ?_); focus exact ⟨rfl, rfl⟩) | (simp only [go_sem, hne])))
theorem c26y (t : Town) (hl2 : t.pl.length ≤ 1000) (b : Int) (hv : validT t) (hb : house t b) : PC Tryd.prog 26 [hF t, .int .i64 b] (.tup [lN (los t b), .int .i64 0]) := by
  have h20 := (c20 t b).tru hb
  have h70 := c70y t hl2 hv
  have h73 := c73 t hv.things (by have := hv.len; omega) hv.lp b
  refine PC.body Tryd.func26 (by kernel_rfl) rfl (by simp [Tryd.f26]) rfl ?_
  simp only [Tryd.f26]
  intro hlen
  simp only [go_sem, List.length_map, and_true, true_and] at hlen
  refine CV.run ?_
  (repeat' (first | ((with_reducible first | apply sg | apply si | apply sq | apply sd) <;> intro hb <;> (try rw [hb]) <;> (try simp only [bq, bz, dtrue, dfalse] at hb) <;> (try simp only [within] at hb) <;> try simp only [go_sem]) | refine And.intro (by first | exact ⟨⟩ | omega | (simp only [I64]; omega)) ?_ | (with_reducible rw [vc_draw_eq]; first | (refine CV.draw (id := 1) sF10l_f26_1 mixed rfl (by kernel_rfl) ?_; delta sF10l_f26_1)) | ((with_reducible first | refine vp h20 ?_ ?_ | refine dc h20 ?_ ?_ | refine vp h70 ?_ ?_ | refine dc h70 ?_ ?_ | refine vp h73 ?_ ?_ | refine dc h73 ?_ ?_); focus (first | exact ⟨rfl, .inl ⟨by first | rfl | (simp only [go_sem, AV.pureL, AV.pure]; done), by first | (simp only [go_sem, AV.pureL, AV.pure]; done) | rfl⟩⟩ | exact ⟨rfl, .inr ⟨rfl, by simp only [go_sem]⟩⟩)) | ((with_reducible first | refine dp h20 ?_ ?_ | refine dp h70 ?_ ?_ | refine dp h73 ?_ ?_); focus (exact ⟨rfl, by first | rfl | (simp only [go_sem, AV.pureL, AV.pure]; done), by first | (simp only [go_sem, AV.pureL, AV.pure]; done) | rfl⟩)) | ((with_reducible first | refine ds h20 ?_ ?_ | refine ds h70 ?_ ?_ | refine ds h73 ?_ ?_); focus exact ⟨rfl, rfl⟩) | (simp only [go_sem])))
theorem c29n (t : Town) (hl2 : t.pl.length ≤ 1000) (b : Int) (h : ¬ (validT t ∧ house t b)) : PC Tryd.prog 29 [hF t, .int .i64 b] (.tup [.nilS, .int .i64 (askT t (house t b))]) := by
  have h20 := c20 t b
  have h70 := c70 t hl2 (house t b)
  have hne := ask_ne h
  refine PC.body Tryd.func29 (by kernel_rfl) rfl (by simp [Tryd.f29]) rfl ?_
  simp only [Tryd.f29]
  intro hlen
  simp only [go_sem, List.length_map, and_true, true_and] at hlen
  refine CV.run ?_
  (repeat' (first | ((with_reducible first | apply sg | apply si | apply sq | apply sd) <;> intro hb <;> (try rw [hb]) <;> (try simp only [bq, bz, dtrue, dfalse] at hb) <;> (try simp only [within] at hb) <;> try simp only [go_sem]) | refine And.intro (by first | exact ⟨⟩ | omega | (simp only [I64]; omega)) ?_ | (with_reducible rw [vc_draw_eq]; first | (refine CV.draw (id := 1) sF10l_f29_1 mixed rfl (by kernel_rfl) ?_; delta sF10l_f29_1)) | ((with_reducible first | refine vp h20 ?_ ?_ | refine dc h20 ?_ ?_ | refine vp h70 ?_ ?_ | refine dc h70 ?_ ?_); focus (first | exact ⟨rfl, .inl ⟨by first | rfl | (simp only [go_sem, hne, AV.pureL, AV.pure]; done), by first | (simp only [go_sem, hne, AV.pureL, AV.pure]; done) | rfl⟩⟩ | exact ⟨rfl, .inr ⟨rfl, by simp only [go_sem, hne]⟩⟩)) | ((with_reducible first | refine dp h20 ?_ ?_ | refine dp h70 ?_ ?_); focus (exact ⟨rfl, by first | rfl | (simp only [go_sem, hne, AV.pureL, AV.pure]; done), by first | (simp only [go_sem, hne, AV.pureL, AV.pure]; done) | rfl⟩)) | ((with_reducible first | refine ds h20 ?_ ?_ | refine ds h70 ?_ ?_); focus exact ⟨rfl, rfl⟩) | (simp only [go_sem, hne])))
theorem c29y (t : Town) (hl2 : t.pl.length ≤ 1000) (b : Int) (hv : validT t) (hb : house t b) : PC Tryd.prog 29 [hF t, .int .i64 b] (.tup [lN (sta t b), .int .i64 0]) := by
  have h20 := (c20 t b).tru hb
  have h70 := c70y t hl2 hv
  have h74 := c74 t hv.things (by have := hv.len; omega) hv.lp b
  refine PC.body Tryd.func29 (by kernel_rfl) rfl (by simp [Tryd.f29]) rfl ?_
  simp only [Tryd.f29]
  intro hlen
  simp only [go_sem, List.length_map, and_true, true_and] at hlen
  refine CV.run ?_
  (repeat' (first | ((with_reducible first | apply sg | apply si | apply sq | apply sd) <;> intro hb <;> (try rw [hb]) <;> (try simp only [bq, bz, dtrue, dfalse] at hb) <;> (try simp only [within] at hb) <;> try simp only [go_sem]) | refine And.intro (by first | exact ⟨⟩ | omega | (simp only [I64]; omega)) ?_ | (with_reducible rw [vc_draw_eq]; first | (refine CV.draw (id := 1) sF10l_f29_1 mixed rfl (by kernel_rfl) ?_; delta sF10l_f29_1)) | ((with_reducible first | refine vp h20 ?_ ?_ | refine dc h20 ?_ ?_ | refine vp h70 ?_ ?_ | refine dc h70 ?_ ?_ | refine vp h74 ?_ ?_ | refine dc h74 ?_ ?_); focus (first | exact ⟨rfl, .inl ⟨by first | rfl | (simp only [go_sem, AV.pureL, AV.pure]; done), by first | (simp only [go_sem, AV.pureL, AV.pure]; done) | rfl⟩⟩ | exact ⟨rfl, .inr ⟨rfl, by simp only [go_sem]⟩⟩)) | ((with_reducible first | refine dp h20 ?_ ?_ | refine dp h70 ?_ ?_ | refine dp h74 ?_ ?_); focus (exact ⟨rfl, by first | rfl | (simp only [go_sem, AV.pureL, AV.pure]; done), by first | (simp only [go_sem, AV.pureL, AV.pure]; done) | rfl⟩)) | ((with_reducible first | refine ds h20 ?_ ?_ | refine ds h70 ?_ ?_ | refine ds h74 ?_ ?_); focus exact ⟨rfl, rfl⟩) | (simp only [go_sem])))
end Go.Proofs.YtjlopclpofbgbaaDoor

