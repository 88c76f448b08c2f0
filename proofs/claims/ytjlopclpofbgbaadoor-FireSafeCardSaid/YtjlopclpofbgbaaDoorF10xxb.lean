/- Contracts of functions of the given program, without a condition beyond those that each theorem states; they lead to the given statement. -/
import Derived.Test.YtjlopclpofbgbaaDoorF10x
import Derived.Test.YtjlopclpofbgbaaDoorF10t
import Derived.Test.YtjlopclpofbgbaaDoorF10r
import Derived.Test.YtjlopclpofbgbaaDoorF10qxb
import Derived.Test.YtjlopclpofbgbaaDoorF10q
import Derived.Test.YtjlopclpofbgbaaDoorF10p
import Derived.Test.YtjlopclpofbgbaaDoorF10o
import Derived.Test.YtjlopclpofbgbaaDoorF10n
import Derived.Test.YtjlopclpofbgbaaDoorF10m
import Derived.Test.YtjlopclpofbgbaaDoorF10lxb
import Derived.Test.YtjlopclpofbgbaaDoorF10l
import Derived.Test.YtjlopclpofbgbaaDoorF10kxb
import Derived.Test.YtjlopclpofbgbaaDoorF10k
import Derived.Test.YtjlopclpofbgbaaDoorF10jxb
import Derived.Test.YtjlopclpofbgbaaDoorF10j
import Derived.Test.YtjlopclpofbgbaaDoorF10ixb
import Derived.Test.YtjlopclpofbgbaaDoorF10i
import Derived.Test.YtjlopclpofbgbaaDoorF10h
import Derived.Test.YtjlopclpofbgbaaDoorF10g
import Derived.Test.YtjlopclpofbgbaaDoorF10f
import Derived.Test.YtjlopclpofbgbaaDoorF10e
import Derived.Test.YtjlopclpofbgbaaDoorF10d
import Derived.Test.YtjlopclpofbgbaaDoorF10c
import Derived.Test.YtjlopclpofbgbaaDoorF10b
import Derived.Test.YtjlopclpofbgbaaDoorF10a
import Derived.Test.YtjlopclpofbgbaaDoorTyp
import Derived.Test.YtjlopclpofbgbaaDoorFlB
import Derived.Test.YtjlopclpofbgbaaDoorFlA
import Derived.WalkKit
import Derived.OwnWalkIn
import Derived.OrdersIn
import Derived.LoopNIn
import Derived.LoopIn
import Derived.RangeFuncNested
import Derived.RangeFuncBound
import Derived.RangeFuncLeaves
import Derived.Maps.OwnSet
import Derived.Laws.Tables
import Derived.Great.BuildSlice
import Derived.Maps.Views
import Derived.WalkSpells
import Derived.Carry
import Derived.Test.YtjlopclpofbgbaaDoorProg
set_option linter.unusedSimpArgs false
set_option linter.unusedVariables false
set_option maxRecDepth 100000
namespace Go.Proofs.YtjlopclpofbgbaaDoor
open Go Go.Fl
open Classical
def sF10x_f100_10 : List (Nat × Nat) := [(0, 0), (0, 0), (0, 0), (0, 0), (0, 0), (0, 0), (0, 0), (0, 0), (0, 0), (0, 0), (0, 0), (0, 0), (0, 0), (0, 0), (0, 0), (0, 0), (0, 0), (0, 0), (0, 0), (0, 0), (0, 0), (0, 0)]
def sF10x_f61_1 : List (Nat × Nat) := [(0, 0), (0, 0), (0, 0), (0, 0), (0, 0), (0, 0)]
set_option maxHeartbeats 1000000 in
theorem c100 (t : Town) (hv : validT t) (p : Int) : PC Tryd.prog 100 [hF t, .int .i64 p] (.int .i64 (brs t p)) := by
  have h8 := hv.len
  have hpl := hv.lp
  have hr := hv.2.1
  unfold within at hr
  have hl : t.ts.length ≤ 1000 := by omega
  have h45 := c45 t hv.things hl p
  have hLr : ∀ y, y ∈ thg t p → 0 ≤ y ∧ y < t.ts.length := fun y hy => by have := thg_mem.1 hy; omega
  have hLl := thg_len (t := t) (p := p)
  unfold brs
  generalize thg t p = L at h45 hLr hLl
  have hs := fun k => sel_len (bearL t L) k
  refine PC.body Tryd.func100 (by kernel_rfl) rfl (by simp [Tryd.f100]) rfl ?_
  simp only [Tryd.f100]
  intro hlen
  simp only [go_sem, List.length_map, and_true, true_and] at hlen
  refine CV.run ?_
  (repeat' (first | ((with_reducible first | apply sg | apply si | apply sq | apply sd) <;> intro hb <;> (try rw [hb]) <;> (try simp only [bq, bz, dtrue, dfalse] at hb) <;> (try simp only [within] at hb) <;> try simp only [go_sem]) | refine And.intro (by first | exact ⟨⟩ | omega | (simp only [I64]; omega)) ?_ | (with_reducible rw [vc_draw_eq]; first | (refine CV.draw (id := 10) sF10x_f100_10 mixed rfl (by kernel_rfl) ?_; delta sF10x_f100_10)) | ((with_reducible first | refine vp h45 ?_ ?_ | refine dc h45 ?_ ?_); focus (first | exact ⟨rfl, .inl ⟨by first | rfl | (simp only [go_sem, AV.pureL, AV.pure]; done), by first | (simp only [go_sem, AV.pureL, AV.pure]; done) | rfl⟩⟩ | exact ⟨rfl, .inr ⟨rfl, by simp only [go_sem]⟩⟩)) | ((with_reducible first | refine dp h45 ?_ ?_); focus (exact ⟨rfl, by first | rfl | (simp only [go_sem, AV.pureL, AV.pure]; done), by first | (simp only [go_sem, AV.pureL, AV.pure]; done) | rfl⟩)) | ((with_reducible first | refine ds h45 ?_ ?_); focus exact ⟨rfl, rfl⟩) | (simp only [go_sem])))
  refine vc_for (fun k => ⟨[(7, .int .i64 k), (6, .int .i64 ((sel (bearL t L) k).length - 1)), (5, lN L), (4, .int .i64 0), (2, .lp 0 0)], [.box 28 (cT t) false]⟩) t.rm.length (fun _ => True) (by (first | exact wk_same (by simp only [go_sem, Int.natCast_add, cn, Int.cast_ofNat_Int, sel, List.length_nil]) | (refine wk_drop ?_ ?_ ?_ ?_ ?_ <;> simp only [go_sem, Int.natCast_add, cn, Int.cast_ofNat_Int, sel, List.length_nil]))) trivial ?_
  intro k hk _
  have hsk := hs k
  rcases Nat.lt_or_ge k t.rm.length with hlt | hge
  · have hlt' : (k : Int) < t.rm.length := by omega
    (repeat' (first | ((with_reducible first | apply sg | apply si | apply sq | apply sd) <;> intro hb <;> (try rw [hb]) <;> (try simp only [bq, bz, dtrue, dfalse] at hb) <;> (try simp only [within] at hb) <;> try simp only [go_sem]) | refine And.intro (by first | exact ⟨⟩ | omega | (simp only [I64]; omega)) ?_ | (with_reducible rw [vc_draw_eq]; first | (refine CV.draw (id := 10) sF10x_f100_10 mixed rfl (by kernel_rfl) ?_; delta sF10x_f100_10)) | (simp only [go_sem, hlt', List.length_map])))
    refine vc_for (fun i => ⟨[(9, .int .i64 i), (8, .bool (decide (anyTo (fun x => gv t.pl x = k ∧ fr t x) L i))), (7, .int .i64 k), (6, .int .i64 ((sel (bearL t L) k).length - 1)), (5, lN L), (4, .int .i64 0), (2, .lp 0 0)], [.box 28 (cT t) false]⟩) L.length (fun _ => True) (by (first | exact wk_same (by simp only [go_sem, Int.natCast_add, cn, Int.cast_ofNat_Int, decide_eq_false any_zero]) | (refine wk_drop ?_ ?_ ?_ ?_ ?_ <;> simp only [go_sem, Int.natCast_add, cn, Int.cast_ofNat_Int, decide_eq_false any_zero]))) trivial ?_
    intro i hi _
    rcases Nat.lt_or_ge i L.length with hil | hig
    · have hil' : (i : Int) < L.length := by omega
      obtain ⟨x, hx⟩ := get_of hil
      have hxr := hLr x (List.mem_of_getElem? hx)
      obtain ⟨y, hy⟩ := get_of (l := t.pl) (j := x.toNat) (by omega)
      have gy := gv_of hy
      have hxl : x < t.pl.length := by omega
      have h83 := c83 t hv.things hl x hxr.1 hxr.2
      by_cases a1 : anyTo (fun x => gv t.pl x = k ∧ fr t x) L i
      · have e1 := decide_eq_true a1
        have e2 := decide_eq_true (any_old a1)
        rw [e1]
        (repeat' (first | ((with_reducible first | apply sg | apply si | apply sq | apply sd) <;> intro hb <;> (try rw [hb]) <;> (try simp only [bq, bz, dtrue, dfalse] at hb) <;> (try simp only [within] at hb) <;> try simp only [go_sem]) | refine And.intro (by first | exact ⟨⟩ | omega | (simp only [I64]; omega)) ?_ | (with_reducible rw [vc_draw_eq]; first | (refine CV.draw (id := 10) sF10x_f100_10 mixed rfl (by kernel_rfl) ?_; delta sF10x_f100_10)) | (simp only [go_sem, hil', List.length_map])))
        exact (by (first | exact wk_same (by simp only [go_sem, Int.natCast_add, cn, Int.cast_ofNat_Int, e2]) | (refine wk_drop ?_ ?_ ?_ ?_ ?_ <;> simp only [go_sem, Int.natCast_add, cn, Int.cast_ofNat_Int, e2])))
      · have e1 := decide_eq_false a1
        rw [e1]
        by_cases b1 : y = (k : Int)
        · have b1' := eq_true b1
          by_cases b2 : fr t x
          · have e2 := decide_eq_true (any_new (q := fun x => gv t.pl x = k ∧ fr t x) hx ⟨by rw [gy]; exact b1, b2⟩)
            replace h83 := h83.tru b2
            (repeat' (first | ((with_reducible first | apply sg | apply si | apply sq | apply sd) <;> intro hb <;> (try rw [hb]) <;> (try simp only [bq, bz, dtrue, dfalse] at hb) <;> (try simp only [within] at hb) <;> try simp only [go_sem]) | refine And.intro (by first | exact ⟨⟩ | omega | (simp only [I64]; omega)) ?_ | (with_reducible rw [vc_draw_eq]; first | (refine CV.draw (id := 10) sF10x_f100_10 mixed rfl (by kernel_rfl) ?_; delta sF10x_f100_10)) | ((with_reducible first | refine vp h83 ?_ ?_ | refine dc h83 ?_ ?_); focus (first | exact ⟨rfl, .inl ⟨by first | rfl | (simp only [go_sem, hil', hx, hy, hxl, b1', encN, List.length_map, AV.pureL, AV.pure]; done), by first | (simp only [go_sem, hil', hx, hy, hxl, b1', encN, List.length_map, AV.pureL, AV.pure]; done) | rfl⟩⟩ | exact ⟨rfl, .inr ⟨rfl, by simp only [go_sem, hil', hx, hy, hxl, b1', encN, List.length_map]⟩⟩)) | ((with_reducible first | refine dp h83 ?_ ?_); focus (exact ⟨rfl, by first | rfl | (simp only [go_sem, hil', hx, hy, hxl, b1', encN, List.length_map, AV.pureL, AV.pure]; done), by first | (simp only [go_sem, hil', hx, hy, hxl, b1', encN, List.length_map, AV.pureL, AV.pure]; done) | rfl⟩)) | ((with_reducible first | refine ds h83 ?_ ?_); focus exact ⟨rfl, rfl⟩) | (simp only [go_sem, hil', hx, hy, hxl, b1', encN, List.length_map])))
            exact (by (first | exact wk_same (by simp only [go_sem, Int.natCast_add, cn, Int.cast_ofNat_Int, e2]) | (refine wk_drop ?_ ?_ ?_ ?_ ?_ <;> simp only [go_sem, Int.natCast_add, cn, Int.cast_ofNat_Int, e2])))
          · have e2 := decide_eq_false (any_no (q := fun x => gv t.pl x = k ∧ fr t x) hx (fun h => b2 h.2) a1)
            replace h83 := h83.fls b2
            (repeat' (first | ((with_reducible first | apply sg | apply si | apply sq | apply sd) <;> intro hb <;> (try rw [hb]) <;> (try simp only [bq, bz, dtrue, dfalse] at hb) <;> (try simp only [within] at hb) <;> try simp only [go_sem]) | refine And.intro (by first | exact ⟨⟩ | omega | (simp only [I64]; omega)) ?_ | (with_reducible rw [vc_draw_eq]; first | (refine CV.draw (id := 10) sF10x_f100_10 mixed rfl (by kernel_rfl) ?_; delta sF10x_f100_10)) | ((with_reducible first | refine vp h83 ?_ ?_ | refine dc h83 ?_ ?_); focus (first | exact ⟨rfl, .inl ⟨by first | rfl | (simp only [go_sem, hil', hx, hy, hxl, b1', encN, List.length_map, AV.pureL, AV.pure]; done), by first | (simp only [go_sem, hil', hx, hy, hxl, b1', encN, List.length_map, AV.pureL, AV.pure]; done) | rfl⟩⟩ | exact ⟨rfl, .inr ⟨rfl, by simp only [go_sem, hil', hx, hy, hxl, b1', encN, List.length_map]⟩⟩)) | ((with_reducible first | refine dp h83 ?_ ?_); focus (exact ⟨rfl, by first | rfl | (simp only [go_sem, hil', hx, hy, hxl, b1', encN, List.length_map, AV.pureL, AV.pure]; done), by first | (simp only [go_sem, hil', hx, hy, hxl, b1', encN, List.length_map, AV.pureL, AV.pure]; done) | rfl⟩)) | ((with_reducible first | refine ds h83 ?_ ?_); focus exact ⟨rfl, rfl⟩) | (simp only [go_sem, hil', hx, hy, hxl, b1', encN, List.length_map])))
            exact (by (first | exact wk_same (by simp only [go_sem, Int.natCast_add, cn, Int.cast_ofNat_Int, e2]) | (refine wk_drop ?_ ?_ ?_ ?_ ?_ <;> simp only [go_sem, Int.natCast_add, cn, Int.cast_ofNat_Int, e2])))
        · have e2 := decide_eq_false (any_no (q := fun x => gv t.pl x = k ∧ fr t x) hx (fun h => b1 (by rw [← gy]; exact h.1)) a1)
          (repeat' (first | ((with_reducible first | apply sg | apply si | apply sq | apply sd) <;> intro hb <;> (try rw [hb]) <;> (try simp only [bq, bz, dtrue, dfalse] at hb) <;> (try simp only [within] at hb) <;> try simp only [go_sem]) | refine And.intro (by first | exact ⟨⟩ | omega | (simp only [I64]; omega)) ?_ | (with_reducible rw [vc_draw_eq]; first | (refine CV.draw (id := 10) sF10x_f100_10 mixed rfl (by kernel_rfl) ?_; delta sF10x_f100_10)) | (simp only [go_sem, hil', hx, hy, hxl, b1, encN, List.length_map])))
          exact (by (first | exact wk_same (by simp only [go_sem, Int.natCast_add, cn, Int.cast_ofNat_Int, e2]) | (refine wk_drop ?_ ?_ ?_ ?_ ?_ <;> simp only [go_sem, Int.natCast_add, cn, Int.cast_ofNat_Int, e2])))
    · have hig' : ¬ (i : Int) < L.length := by omega
      have hany := any_all (q := fun x => gv t.pl x = (k : Int) ∧ fr t x) hig
      by_cases a1 : anyTo (fun x => gv t.pl x = k ∧ fr t x) L i
      · have e1 := decide_eq_true a1
        have e := sel_yes (p := bearL t L) (n := k) (hany.1 a1)
        have e' : ((sel (bearL t L) (k + 1)).length : Int) - 1 = (sel (bearL t L) k).length - 1 + 1 := by rw [e, List.length_append]; simp
        rw [e1]
        (repeat' (first | ((with_reducible first | apply sg | apply si | apply sq | apply sd) <;> intro hb <;> (try rw [hb]) <;> (try simp only [bq, bz, dtrue, dfalse] at hb) <;> (try simp only [within] at hb) <;> try simp only [go_sem]) | refine And.intro (by first | exact ⟨⟩ | omega | (simp only [I64]; omega)) ?_ | (with_reducible rw [vc_draw_eq]; first | (refine CV.draw (id := 10) sF10x_f100_10 mixed rfl (by kernel_rfl) ?_; delta sF10x_f100_10)) | (simp only [go_sem, hig', hlt', List.length_map])))
        exact (by (first | exact wk_same (by simp only [go_sem, Int.natCast_add, cn, Int.cast_ofNat_Int, e']) | (refine wk_drop ?_ ?_ ?_ ?_ ?_ <;> simp only [go_sem, Int.natCast_add, cn, Int.cast_ofNat_Int, e'])))
      · have e1 := decide_eq_false a1
        have e := sel_no (p := bearL t L) (n := k) (fun h => a1 (hany.2 h))
        rw [e1]
        (repeat' (first | ((with_reducible first | apply sg | apply si | apply sq | apply sd) <;> intro hb <;> (try rw [hb]) <;> (try simp only [bq, bz, dtrue, dfalse] at hb) <;> (try simp only [within] at hb) <;> try simp only [go_sem]) | refine And.intro (by first | exact ⟨⟩ | omega | (simp only [I64]; omega)) ?_ | (with_reducible rw [vc_draw_eq]; first | (refine CV.draw (id := 10) sF10x_f100_10 mixed rfl (by kernel_rfl) ?_; delta sF10x_f100_10)) | (simp only [go_sem, hig', hlt', List.length_map])))
        exact (by (first | exact wk_same (by simp only [go_sem, Int.natCast_add, cn, Int.cast_ofNat_Int, e]) | (refine wk_drop ?_ ?_ ?_ ?_ ?_ <;> simp only [go_sem, Int.natCast_add, cn, Int.cast_ofNat_Int, e])))
  · have hge' : ¬ (k : Int) < t.rm.length := by omega
    have : k = t.rm.length := by omega
    subst this
    (repeat' (first | ((with_reducible first | apply sg | apply si | apply sq | apply sd) <;> intro hb <;> (try rw [hb]) <;> (try simp only [bq, bz, dtrue, dfalse] at hb) <;> (try simp only [within] at hb) <;> try simp only [go_sem]) | refine And.intro (by first | exact ⟨⟩ | omega | (simp only [I64]; omega)) ?_ | (with_reducible rw [vc_draw_eq]; first | (refine CV.draw (id := 10) sF10x_f100_10 mixed rfl (by kernel_rfl) ?_; delta sF10x_f100_10)) | (simp only [go_sem, hge', List.length_map])))
theorem c61n (t : Town) (hl2 : t.pl.length ≤ 1000) (p : Int) (h : ¬ (validT t ∧ isPage t p)) : PC Tryd.prog 61 [hF t, .int .i64 p] (.tup [.int .i64 0, .int .i64 (askT t (isPage t p))]) := by
  have h44 := c44 t p
  have h70 := c70 t hl2 (isPage t p)
  have hne := ask_ne h
  refine PC.body Tryd.func61 (by kernel_rfl) rfl (by simp [Tryd.f61]) rfl ?_
  simp only [Tryd.f61]
  intro hlen
  simp only [go_sem, List.length_map, and_true, true_and] at hlen
  refine CV.run ?_
  (repeat' (first | ((with_reducible first | apply sg | apply si | apply sq | apply sd) <;> intro hb <;> (try rw [hb]) <;> (try simp only [bq, bz, dtrue, dfalse] at hb) <;> (try simp only [within] at hb) <;> try simp only [go_sem]) | refine And.intro (by first | exact ⟨⟩ | omega | (simp only [I64]; omega)) ?_ | (with_reducible rw [vc_draw_eq]; first | (refine CV.draw (id := 1) sF10x_f61_1 mixed rfl (by kernel_rfl) ?_; delta sF10x_f61_1)) | ((with_reducible first | refine vp h44 ?_ ?_ | refine dc h44 ?_ ?_ | refine vp h70 ?_ ?_ | refine dc h70 ?_ ?_); focus (first | exact ⟨rfl, .inl ⟨by first | rfl | (simp only [go_sem, hne, AV.pureL, AV.pure]; done), by first | (simp only [go_sem, hne, AV.pureL, AV.pure]; done) | rfl⟩⟩ | exact ⟨rfl, .inr ⟨rfl, by simp only [go_sem, hne]⟩⟩)) | ((with_reducible first | refine dp h44 ?_ ?_ | refine dp h70 ?_ ?_); focus (exact ⟨rfl, by first | rfl | (simp only [go_sem, hne, AV.pureL, AV.pure]; done), by first | (simp only [go_sem, hne, AV.pureL, AV.pure]; done) | rfl⟩)) | ((with_reducible first | refine ds h44 ?_ ?_ | refine ds h70 ?_ ?_); focus exact ⟨rfl, rfl⟩) | (simp only [go_sem, hne])))
theorem c61y (t : Town) (p : Int) (hv : validT t) (hp : isPage t p) : PC Tryd.prog 61 [hF t, .int .i64 p] (if thg t p = [] then .tup [.int .i64 0, .int .i64 3] else .tup [.int .i64 (brs t p), .int .i64 0]) := by
  have hl : t.ts.length ≤ 1000 := by have := hv.len; omega
  have h44 := (c44 t p).tru hp
  have h70 := c70y t (by have := hv.lp; omega) hv
  have h45 := c45 t hv.things hl p
  have h100 := c100 t hv p
  by_cases h : thg t p = []
  · rw [if_pos h]
    rw [h] at h45
    refine PC.body Tryd.func61 (by kernel_rfl) rfl (by simp [Tryd.f61]) rfl ?_
    simp only [Tryd.f61]
    intro hlen
    simp only [go_sem, List.length_map, and_true, true_and] at hlen
    refine CV.run ?_
    (repeat' (first | ((with_reducible first | apply sg | apply si | apply sq | apply sd) <;> intro hb <;> (try rw [hb]) <;> (try simp only [bq, bz, dtrue, dfalse] at hb) <;> (try simp only [within] at hb) <;> try simp only [go_sem]) | refine And.intro (by first | exact ⟨⟩ | omega | (simp only [I64]; omega)) ?_ | (with_reducible rw [vc_draw_eq]; first | (refine CV.draw (id := 1) sF10x_f61_1 mixed rfl (by kernel_rfl) ?_; delta sF10x_f61_1)) | ((with_reducible first | refine vp h44 ?_ ?_ | refine dc h44 ?_ ?_ | refine vp h70 ?_ ?_ | refine dc h70 ?_ ?_ | refine vp h45 ?_ ?_ | refine dc h45 ?_ ?_); focus (first | exact ⟨rfl, .inl ⟨by first | rfl | (simp only [go_sem, List.map_nil, List.length_nil, AV.pureL, AV.pure]; done), by first | (simp only [go_sem, List.map_nil, List.length_nil, AV.pureL, AV.pure]; done) | rfl⟩⟩ | exact ⟨rfl, .inr ⟨rfl, by simp only [go_sem, List.map_nil, List.length_nil]⟩⟩)) | ((with_reducible first | refine dp h44 ?_ ?_ | refine dp h70 ?_ ?_ | refine dp h45 ?_ ?_); focus (exact ⟨rfl, by first | rfl | (simp only [go_sem, List.map_nil, List.length_nil, AV.pureL, AV.pure]; done), by first | (simp only [go_sem, List.map_nil, List.length_nil, AV.pureL, AV.pure]; done) | rfl⟩)) | ((with_reducible first | refine ds h44 ?_ ?_ | refine ds h70 ?_ ?_ | refine ds h45 ?_ ?_); focus exact ⟨rfl, rfl⟩) | (simp only [go_sem, List.map_nil, List.length_nil])))
  · rw [if_neg h]
    have h0 : ¬ ((thg t p).length : Int) = 0 := fun e => h (len0'.1 e)
    refine PC.body Tryd.func61 (by kernel_rfl) rfl (by simp [Tryd.f61]) rfl ?_
    simp only [Tryd.f61]
    intro hlen
    simp only [go_sem, List.length_map, and_true, true_and] at hlen
    refine CV.run ?_
    (repeat' (first | ((with_reducible first | apply sg | apply si | apply sq | apply sd) <;> intro hb <;> (try rw [hb]) <;> (try simp only [bq, bz, dtrue, dfalse] at hb) <;> (try simp only [within] at hb) <;> try simp only [go_sem]) | refine And.intro (by first | exact ⟨⟩ | omega | (simp only [I64]; omega)) ?_ | (with_reducible rw [vc_draw_eq]; first | (refine CV.draw (id := 1) sF10x_f61_1 mixed rfl (by kernel_rfl) ?_; delta sF10x_f61_1)) | ((with_reducible first | refine vp h44 ?_ ?_ | refine dc h44 ?_ ?_ | refine vp h70 ?_ ?_ | refine dc h70 ?_ ?_ | refine vp h45 ?_ ?_ | refine dc h45 ?_ ?_ | refine vp h100 ?_ ?_ | refine dc h100 ?_ ?_); focus (first | exact ⟨rfl, .inl ⟨by first | rfl | (simp only [go_sem, h0, List.length_map, AV.pureL, AV.pure]; done), by first | (simp only [go_sem, h0, List.length_map, AV.pureL, AV.pure]; done) | rfl⟩⟩ | exact ⟨rfl, .inr ⟨rfl, by simp only [go_sem, h0, List.length_map]⟩⟩)) | ((with_reducible first | refine dp h44 ?_ ?_ | refine dp h70 ?_ ?_ | refine dp h45 ?_ ?_ | refine dp h100 ?_ ?_); focus (exact ⟨rfl, by first | rfl | (simp only [go_sem, h0, List.length_map, AV.pureL, AV.pure]; done), by first | (simp only [go_sem, h0, List.length_map, AV.pureL, AV.pure]; done) | rfl⟩)) | ((with_reducible first | refine ds h44 ?_ ?_ | refine ds h70 ?_ ?_ | refine ds h45 ?_ ?_ | refine ds h100 ?_ ?_); focus exact ⟨rfl, rfl⟩) | (simp only [go_sem, h0, List.length_map])))
end Go.Proofs.YtjlopclpofbgbaaDoor

