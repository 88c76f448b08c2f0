/- Contracts of functions of the given program, without a condition beyond those that each theorem states; they lead to the given statement. -/
import Derived.Test.YtjlopclpofbgbaaDoorF10j
import Derived.Test.YtjlopclpofbgbaaDoorF10i
import Derived.Test.YtjlopclpofbgbaaDoorF10h
import Derived.Test.YtjlopclpofbgbaaDoorF10g
import Derived.Test.YtjlopclpofbgbaaDoorF10f
import Derived.Test.YtjlopclpofbgbaaDoorF10e
import Derived.Test.YtjlopclpofbgbaaDoorF10d
import Derived.Test.YtjlopclpofbgbaaDoorF10c
import Derived.Test.YtjlopclpofbgbaaDoorF10b
import Derived.Test.YtjlopclpofbgbaaDoorF10a
import Derived.Test.YtjlopclpofbgbaaDoorTyp
import Derived.Test.YtjlopclpofbgbaaDoorFlB
import Derived.Test.YtjlopclpofbgbaaDoorFlA
import Derived.WalkKit
import Derived.OwnWalkIn
import Derived.OrdersIn
import Derived.LoopNIn
import Derived.LoopIn
import Derived.RangeFuncNested
import Derived.RangeFuncBound
import Derived.RangeFuncLeaves
import Derived.Maps.OwnSet
import Derived.Laws.Tables
import Derived.Great.BuildSlice
import Derived.Maps.Views
import Derived.WalkSpells
import Derived.Carry
import Derived.Test.YtjlopclpofbgbaaDoorProg
set_option linter.unusedSimpArgs false
set_option linter.unusedVariables false
set_option maxRecDepth 100000
namespace Go.Proofs.YtjlopclpofbgbaaDoor
open Go Go.Fl
open Classical
def sF10j_f79_1 : List (Nat × Nat) := [(0, 0), (0, 0), (0, 0), (0, 0), (0, 0), (0, 0)]
def sF10j_f79_10 : List (Nat × Nat) := [(0, 0), (0, 0), (0, 0), (0, 0), (0, 0), (0, 0), (0, 0), (0, 0), (0, 0), (0, 0), (0, 0), (0, 0), (0, 0), (0, 0)]
set_option maxHeartbeats 2000000 in
theorem c79 (t : Town) (hv : okThings t.ts) (hl : t.ts.length ≤ 1000) (i : Int) (h0 : 0 ≤ i) (h1 : i < t.ts.length) : PC Tryd.prog 79 [hF t, .int .i64 i] (lN (lks t i)) := by
  have h47 := c47 t hv i h0 h1
  have h45 := c45 t hv hl (pg t i)
  have hgl : (thg t (pg t i)).length ≤ t.ts.length := sel_len _ _
  refine PC.body Tryd.func79 (by kernel_rfl) rfl (by simp [Tryd.f79]) rfl ?_
  simp only [Tryd.f79]
  intro hlen
  simp only [go_sem, List.length_map, and_true, true_and] at hlen
  refine CV.run ?_
  (repeat' (first | ((with_reducible first | apply sg | apply si | apply sq | apply sd) <;> intro hb <;> (try rw [hb]) <;> (try simp only [bq, bz, dtrue, dfalse] at hb) <;> (try simp only [within] at hb) <;> try simp only [go_sem]) | refine And.intro (by first | exact ⟨⟩ | omega | (simp only [I64]; omega)) ?_ | (with_reducible rw [vc_draw_eq]; first | (refine CV.draw (id := 1) sF10j_f79_1 mixed rfl (by kernel_rfl) ?_; delta sF10j_f79_1) | (refine CV.draw (id := 10) sF10j_f79_10 mixed rfl (by kernel_rfl) ?_; delta sF10j_f79_10)) | ((with_reducible first | refine vp h47 ?_ ?_ | refine dc h47 ?_ ?_ | refine vp h45 ?_ ?_ | refine dc h45 ?_ ?_); focus (first | exact ⟨rfl, .inl ⟨by first | rfl | (simp only [go_sem, AV.pureL, AV.pure]; done), by first | (simp only [go_sem, AV.pureL, AV.pure]; done) | rfl⟩⟩ | exact ⟨rfl, .inr ⟨rfl, by simp only [go_sem]⟩⟩)) | ((with_reducible first | refine dp h47 ?_ ?_ | refine dp h45 ?_ ?_); focus (exact ⟨rfl, by first | rfl | (simp only [go_sem, AV.pureL, AV.pure]; done), by first | (simp only [go_sem, AV.pureL, AV.pure]; done) | rfl⟩)) | ((with_reducible first | refine ds h47 ?_ ?_ | refine ds h45 ?_ ?_); focus exact ⟨rfl, rfl⟩) | (simp only [go_sem])))
  refine vc_fw (fun c => ⟨[(7, .int .i64 c), (6, .row 1 (sel (lkP t i) c).length), (5, lN (thg t (pg t i))), (1, .int .i64 i), (2, .lp 0 0), (4, .nilS)], [.box 28 (cT t) false, .row 3 1 ((sel (lkP t i) c).map encN) false]⟩) 3 (fun _ => True) (.nilE 6 3 1 (by (simp only [go_sem])) (by omega) (.base (by (first | exact wk_same (by simp only [go_sem, Int.natCast_add, cn, Int.cast_ofNat_Int, sel, List.map_nil]) | (refine wk_drop ?_ ?_ ?_ ?_ ?_ <;> simp only [go_sem, Int.natCast_add, cn, Int.cast_ofNat_Int, sel, List.map_nil]))))) trivial ?_
  intro c hc _
  have hsl := sel_len (lkP t i) c
  rcases Nat.lt_or_ge c 3 with hlt | hge
  · have hlt' : (c : Int) < 3 := by omega
    (repeat' (first | ((with_reducible first | apply sg | apply si | apply sq | apply sd) <;> intro hb <;> (try rw [hb]) <;> (try simp only [bq, bz, dtrue, dfalse] at hb) <;> (try simp only [within] at hb) <;> try simp only [go_sem]) | refine And.intro (by first | exact ⟨⟩ | omega | (simp only [I64]; omega)) ?_ | (with_reducible rw [vc_draw_eq]; first | (refine CV.draw (id := 1) sF10j_f79_1 mixed rfl (by kernel_rfl) ?_; delta sF10j_f79_1) | (refine CV.draw (id := 10) sF10j_f79_10 mixed rfl (by kernel_rfl) ?_; delta sF10j_f79_10)) | (simp only [go_sem, hlt'])))
    refine vc_for (fun j => ⟨[(9, .int .i64 j), (8, .bool (decide (anyTo (fun x => hasAt t.ts t.ms c x t.mi) (thg t (pg t i)) j))), (7, .int .i64 c), (6, .row 1 (sel (lkP t i) c).length), (5, lN (thg t (pg t i))), (1, .int .i64 i), (2, .lp 0 0), (4, .nilS)], [.box 28 (cT t) false, .row 3 1 ((sel (lkP t i) c).map encN) false]⟩) (thg t (pg t i)).length (fun _ => True) (by (first | exact wk_same (by simp only [go_sem, Int.natCast_add, cn, Int.cast_ofNat_Int, decide_eq_false any_zero]) | (refine wk_drop ?_ ?_ ?_ ?_ ?_ <;> simp only [go_sem, Int.natCast_add, cn, Int.cast_ofNat_Int, decide_eq_false any_zero]))) trivial ?_
    intro j hj _
    rcases Nat.lt_or_ge j (thg t (pg t i)).length with hjl | hjg
    · have hjl' : (j : Int) < (thg t (pg t i)).length := by omega
      obtain ⟨x, hx⟩ := get_of hjl
      have hxm := thg_mem.1 (List.mem_of_getElem? hx)
      have h48 := cHas t.ts t.ms hv c x t.mi ⟨hxm.1, hxm.2.1⟩
      by_cases a1 : anyTo (fun x => hasAt t.ts t.ms c x t.mi) (thg t (pg t i)) j
      · have e1 := decide_eq_true a1
        have e2 := decide_eq_true (any_old a1)
        rw [e1]
        (repeat' (first | ((with_reducible first | apply sg | apply si | apply sq | apply sd) <;> intro hb <;> (try rw [hb]) <;> (try simp only [bq, bz, dtrue, dfalse] at hb) <;> (try simp only [within] at hb) <;> try simp only [go_sem]) | refine And.intro (by first | exact ⟨⟩ | omega | (simp only [I64]; omega)) ?_ | (with_reducible rw [vc_draw_eq]; first | (refine CV.draw (id := 1) sF10j_f79_1 mixed rfl (by kernel_rfl) ?_; delta sF10j_f79_1) | (refine CV.draw (id := 10) sF10j_f79_10 mixed rfl (by kernel_rfl) ?_; delta sF10j_f79_10)) | (simp only [go_sem, hjl', hx, encN, List.length_map])))
        exact (by (first | exact wk_same (by simp only [go_sem, Int.natCast_add, cn, Int.cast_ofNat_Int, e2]) | (refine wk_drop ?_ ?_ ?_ ?_ ?_ <;> simp only [go_sem, Int.natCast_add, cn, Int.cast_ofNat_Int, e2])))
      · have e1 := decide_eq_false a1
        rw [e1]
        by_cases a2 : hasAt t.ts t.ms c x t.mi
        · have e2 := decide_eq_true (any_new (q := fun x => hasAt t.ts t.ms c x t.mi) hx a2)
          replace h48 := h48.tru a2
          (repeat' (first | ((with_reducible first | apply sg | apply si | apply sq | apply sd) <;> intro hb <;> (try rw [hb]) <;> (try simp only [bq, bz, dtrue, dfalse] at hb) <;> (try simp only [within] at hb) <;> try simp only [go_sem]) | refine And.intro (by first | exact ⟨⟩ | omega | (simp only [I64]; omega)) ?_ | (with_reducible rw [vc_draw_eq]; first | (refine CV.draw (id := 1) sF10j_f79_1 mixed rfl (by kernel_rfl) ?_; delta sF10j_f79_1) | (refine CV.draw (id := 10) sF10j_f79_10 mixed rfl (by kernel_rfl) ?_; delta sF10j_f79_10)) | ((with_reducible first | refine vp h48 ?_ ?_ | refine dc h48 ?_ ?_); focus (first | exact ⟨rfl, .inl ⟨by first | rfl | (simp only [go_sem, hjl', hx, encN, List.length_map, AV.pureL, AV.pure]; done), by first | (simp only [go_sem, hjl', hx, encN, List.length_map, AV.pureL, AV.pure]; done) | rfl⟩⟩ | exact ⟨rfl, .inr ⟨rfl, by simp only [go_sem, hjl', hx, encN, List.length_map]⟩⟩)) | ((with_reducible first | refine dp h48 ?_ ?_); focus (exact ⟨rfl, by first | rfl | (simp only [go_sem, hjl', hx, encN, List.length_map, AV.pureL, AV.pure]; done), by first | (simp only [go_sem, hjl', hx, encN, List.length_map, AV.pureL, AV.pure]; done) | rfl⟩)) | ((with_reducible first | refine ds h48 ?_ ?_); focus exact ⟨rfl, rfl⟩) | (simp only [go_sem, hjl', hx, encN, List.length_map])))
          exact (by (first | exact wk_same (by simp only [go_sem, Int.natCast_add, cn, Int.cast_ofNat_Int, e2]) | (refine wk_drop ?_ ?_ ?_ ?_ ?_ <;> simp only [go_sem, Int.natCast_add, cn, Int.cast_ofNat_Int, e2])))
        · have e2 := decide_eq_false (any_no (q := fun x => hasAt t.ts t.ms c x t.mi) hx a2 a1)
          replace h48 := h48.fls a2
          (repeat' (first | ((with_reducible first | apply sg | apply si | apply sq | apply sd) <;> intro hb <;> (try rw [hb]) <;> (try simp only [bq, bz, dtrue, dfalse] at hb) <;> (try simp only [within] at hb) <;> try simp only [go_sem]) | refine And.intro (by first | exact ⟨⟩ | omega | (simp only [I64]; omega)) ?_ | (with_reducible rw [vc_draw_eq]; first | (refine CV.draw (id := 1) sF10j_f79_1 mixed rfl (by kernel_rfl) ?_; delta sF10j_f79_1) | (refine CV.draw (id := 10) sF10j_f79_10 mixed rfl (by kernel_rfl) ?_; delta sF10j_f79_10)) | ((with_reducible first | refine vp h48 ?_ ?_ | refine dc h48 ?_ ?_); focus (first | exact ⟨rfl, .inl ⟨by first | rfl | (simp only [go_sem, hjl', hx, encN, List.length_map, AV.pureL, AV.pure]; done), by first | (simp only [go_sem, hjl', hx, encN, List.length_map, AV.pureL, AV.pure]; done) | rfl⟩⟩ | exact ⟨rfl, .inr ⟨rfl, by simp only [go_sem, hjl', hx, encN, List.length_map]⟩⟩)) | ((with_reducible first | refine dp h48 ?_ ?_); focus (exact ⟨rfl, by first | rfl | (simp only [go_sem, hjl', hx, encN, List.length_map, AV.pureL, AV.pure]; done), by first | (simp only [go_sem, hjl', hx, encN, List.length_map, AV.pureL, AV.pure]; done) | rfl⟩)) | ((with_reducible first | refine ds h48 ?_ ?_); focus exact ⟨rfl, rfl⟩) | (simp only [go_sem, hjl', hx, encN, List.length_map])))
          exact (by (first | exact wk_same (by simp only [go_sem, Int.natCast_add, cn, Int.cast_ofNat_Int, e2]) | (refine wk_drop ?_ ?_ ?_ ?_ ?_ <;> simp only [go_sem, Int.natCast_add, cn, Int.cast_ofNat_Int, e2])))
    · have hjg' : ¬ (j : Int) < (thg t (pg t i)).length := by omega
      have hany := any_all (q := fun x => hasAt t.ts t.ms c x t.mi) hjg
      have h48 := cHas t.ts t.ms hv c i t.mi ⟨h0, h1⟩
      by_cases a1 : anyTo (fun x => hasAt t.ts t.ms c x t.mi) (thg t (pg t i)) j
      · have e1 := decide_eq_true a1
        rw [e1]
        by_cases a2 : hasAt t.ts t.ms c i t.mi
        · have e := sel_no (p := lkP t i) (n := c) fun h => h.2 a2
          replace h48 := h48.tru a2
          (repeat' (first | ((with_reducible first | apply sg | apply si | apply sq | apply sd) <;> intro hb <;> (try rw [hb]) <;> (try simp only [bq, bz, dtrue, dfalse] at hb) <;> (try simp only [within] at hb) <;> try simp only [go_sem]) | refine And.intro (by first | exact ⟨⟩ | omega | (simp only [I64]; omega)) ?_ | (with_reducible rw [vc_draw_eq]; first | (refine CV.draw (id := 1) sF10j_f79_1 mixed rfl (by kernel_rfl) ?_; delta sF10j_f79_1) | (refine CV.draw (id := 10) sF10j_f79_10 mixed rfl (by kernel_rfl) ?_; delta sF10j_f79_10)) | ((with_reducible first | refine vp h48 ?_ ?_ | refine dc h48 ?_ ?_); focus (first | exact ⟨rfl, .inl ⟨by first | rfl | (simp only [go_sem, hjg', List.length_map, AV.pureL, AV.pure]; done), by first | (simp only [go_sem, hjg', List.length_map, AV.pureL, AV.pure]; done) | rfl⟩⟩ | exact ⟨rfl, .inr ⟨rfl, by simp only [go_sem, hjg', List.length_map]⟩⟩)) | ((with_reducible first | refine dp h48 ?_ ?_); focus (exact ⟨rfl, by first | rfl | (simp only [go_sem, hjg', List.length_map, AV.pureL, AV.pure]; done), by first | (simp only [go_sem, hjg', List.length_map, AV.pureL, AV.pure]; done) | rfl⟩)) | ((with_reducible first | refine ds h48 ?_ ?_); focus exact ⟨rfl, rfl⟩) | (simp only [go_sem, hjg', List.length_map])))
          all_goals first
            | omega
            | exact .base (by (first | exact wk_same (by simp only [go_sem, Int.natCast_add, cn, Int.cast_ofNat_Int, e]) | (refine wk_drop ?_ ?_ ?_ ?_ ?_ <;> simp only [go_sem, Int.natCast_add, cn, Int.cast_ofNat_Int, e])))
        · have e := sel_yes (p := lkP t i) (n := c) ⟨hany.1 a1, a2⟩
          replace h48 := h48.fls a2
          (repeat' (first | ((with_reducible first | apply sg | apply si | apply sq | apply sd) <;> intro hb <;> (try rw [hb]) <;> (try simp only [bq, bz, dtrue, dfalse] at hb) <;> (try simp only [within] at hb) <;> try simp only [go_sem]) | refine And.intro (by first | exact ⟨⟩ | omega | (simp only [I64]; omega)) ?_ | (with_reducible rw [vc_draw_eq]; first | (refine CV.draw (id := 1) sF10j_f79_1 mixed rfl (by kernel_rfl) ?_; delta sF10j_f79_1) | (refine CV.draw (id := 10) sF10j_f79_10 mixed rfl (by kernel_rfl) ?_; delta sF10j_f79_10)) | ((with_reducible first | refine vp h48 ?_ ?_ | refine dc h48 ?_ ?_); focus (first | exact ⟨rfl, .inl ⟨by first | rfl | (simp only [go_sem, hjg', List.length_map, AV.pureL, AV.pure]; done), by first | (simp only [go_sem, hjg', List.length_map, AV.pureL, AV.pure]; done) | rfl⟩⟩ | exact ⟨rfl, .inr ⟨rfl, by simp only [go_sem, hjg', List.length_map]⟩⟩)) | ((with_reducible first | refine dp h48 ?_ ?_); focus (exact ⟨rfl, by first | rfl | (simp only [go_sem, hjg', List.length_map, AV.pureL, AV.pure]; done), by first | (simp only [go_sem, hjg', List.length_map, AV.pureL, AV.pure]; done) | rfl⟩)) | ((with_reducible first | refine ds h48 ?_ ?_); focus exact ⟨rfl, rfl⟩) | (simp only [go_sem, hjg', List.length_map])))
          all_goals first
            | omega
            | exact .base (by (first | exact wk_same (by simp only [go_sem, Int.natCast_add, cn, Int.cast_ofNat_Int, e, List.map_append, encN, List.length_append, List.length_cons, List.length_nil]) | (refine wk_drop ?_ ?_ ?_ ?_ ?_ <;> simp only [go_sem, Int.natCast_add, cn, Int.cast_ofNat_Int, e, List.map_append, encN, List.length_append, List.length_cons, List.length_nil])))
      · have e1 := decide_eq_false a1
        have e := sel_no (p := lkP t i) (n := c) fun h => a1 (hany.2 h.1)
        rw [e1]
        (repeat' (first | ((with_reducible first | apply sg | apply si | apply sq | apply sd) <;> intro hb <;> (try rw [hb]) <;> (try simp only [bq, bz, dtrue, dfalse] at hb) <;> (try simp only [within] at hb) <;> try simp only [go_sem]) | refine And.intro (by first | exact ⟨⟩ | omega | (simp only [I64]; omega)) ?_ | (with_reducible rw [vc_draw_eq]; first | (refine CV.draw (id := 1) sF10j_f79_1 mixed rfl (by kernel_rfl) ?_; delta sF10j_f79_1) | (refine CV.draw (id := 10) sF10j_f79_10 mixed rfl (by kernel_rfl) ?_; delta sF10j_f79_10)) | (simp only [go_sem, hjg', List.length_map])))
        all_goals first
          | omega
          | exact .base (by (first | exact wk_same (by simp only [go_sem, Int.natCast_add, cn, Int.cast_ofNat_Int, e]) | (refine wk_drop ?_ ?_ ?_ ?_ ?_ <;> simp only [go_sem, Int.natCast_add, cn, Int.cast_ofNat_Int, e])))
  · have hge' : ¬ (c : Int) < 3 := by omega
    have : c = 3 := by omega
    subst this
    (repeat' (first | ((with_reducible first | apply sg | apply si | apply sq | apply sd) <;> intro hb <;> (try rw [hb]) <;> (try simp only [bq, bz, dtrue, dfalse] at hb) <;> (try simp only [within] at hb) <;> try simp only [go_sem]) | refine And.intro (by first | exact ⟨⟩ | omega | (simp only [I64]; omega)) ?_ | (with_reducible rw [vc_draw_eq]; first | (refine CV.draw (id := 1) sF10j_f79_1 mixed rfl (by kernel_rfl) ?_; delta sF10j_f79_1) | (refine CV.draw (id := 10) sF10j_f79_10 mixed rfl (by kernel_rfl) ?_; delta sF10j_f79_10)) | (simp only [go_sem, hge', List.length_map])))
    all_goals exact frzN
theorem c83 (t : Town) (hv : okThings t.ts) (hl : t.ts.length ≤ 1000) (i : Int) (h0 : 0 ≤ i) (h1 : i < t.ts.length) : PC Tryd.prog 83 [hF t, .int .i64 i] (.bool (decide (fr t i))) := by
  have h55 := c55 t i (by unfold within; omega)
  have h79 := c79 t hv hl i h0 h1
  by_cases a1 : there t i
  · replace h55 := h55.tru a1
    refine PC.body Tryd.func83 (by kernel_rfl) rfl (by simp [Tryd.f83]) rfl ?_
    simp only [Tryd.f83]
    intro hlen
    simp only [go_sem, List.length_map, and_true, true_and] at hlen
    refine CV.run ?_
    (repeat' (first | ((with_reducible first | apply sg | apply si | apply sq | apply sd) <;> intro hb <;> (try rw [hb]) <;> (try simp only [bq, bz, dtrue, dfalse] at hb) <;> (try simp only [within] at hb) <;> try simp only [go_sem]) | refine And.intro (by first | exact ⟨⟩ | omega | (simp only [I64]; omega)) ?_ | ((with_reducible first | refine vp h55 ?_ ?_ | refine vp h79 ?_ ?_); focus (first | exact ⟨rfl, .inl ⟨by first | rfl | (simp only [go_sem, List.length_map, AV.pureL, AV.pure]; done), by first | (simp only [go_sem, List.length_map, AV.pureL, AV.pure]; done) | rfl⟩⟩ | exact ⟨rfl, .inr ⟨rfl, by simp only [go_sem, List.length_map]⟩⟩)) | (simp only [go_sem, List.length_map])))
    all_goals exact bd ⟨fun h => ⟨a1, List.eq_nil_of_length_eq_zero (by omega)⟩, fun h => by rw [h.2]; rfl⟩
  · replace h55 := h55.fls a1
    refine PC.body Tryd.func83 (by kernel_rfl) rfl (by simp [Tryd.f83]) rfl ?_
    simp only [Tryd.f83]
    intro hlen
    simp only [go_sem, List.length_map, and_true, true_and] at hlen
    refine CV.run ?_
    (repeat' (first | ((with_reducible first | apply sg | apply si | apply sq | apply sd) <;> intro hb <;> (try rw [hb]) <;> (try simp only [bq, bz, dtrue, dfalse] at hb) <;> (try simp only [within] at hb) <;> try simp only [go_sem]) | refine And.intro (by first | exact ⟨⟩ | omega | (simp only [I64]; omega)) ?_ | ((with_reducible first | refine vp h55 ?_ ?_); focus (first | exact ⟨rfl, .inl ⟨by first | rfl | (simp only [go_sem, List.length_map, AV.pureL, AV.pure]; done), by first | (simp only [go_sem, List.length_map, AV.pureL, AV.pure]; done) | rfl⟩⟩ | exact ⟨rfl, .inr ⟨rfl, by simp only [go_sem, List.length_map]⟩⟩)) | (simp only [go_sem, List.length_map])))
    all_goals exact bf fun h => a1 h.1
end Go.Proofs.YtjlopclpofbgbaaDoor

