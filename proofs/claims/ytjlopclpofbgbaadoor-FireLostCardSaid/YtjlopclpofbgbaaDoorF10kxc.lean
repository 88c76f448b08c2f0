/- Contracts of functions of the given program, without a condition beyond those that each theorem states; they lead to the given statement. -/
import Derived.Test.YtjlopclpofbgbaaDoorF10k
import Derived.Test.YtjlopclpofbgbaaDoorF10jxc
import Derived.Test.YtjlopclpofbgbaaDoorF10j
import Derived.Test.YtjlopclpofbgbaaDoorF10ixc
import Derived.Test.YtjlopclpofbgbaaDoorF10i
import Derived.Test.YtjlopclpofbgbaaDoorF10h
import Derived.Test.YtjlopclpofbgbaaDoorF10g
import Derived.Test.YtjlopclpofbgbaaDoorF10f
import Derived.Test.YtjlopclpofbgbaaDoorF10e
import Derived.Test.YtjlopclpofbgbaaDoorF10d
import Derived.Test.YtjlopclpofbgbaaDoorF10c
import Derived.Test.YtjlopclpofbgbaaDoorF10b
import Derived.Test.YtjlopclpofbgbaaDoorF10a
import Derived.Test.YtjlopclpofbgbaaDoorTyp
import Derived.Test.YtjlopclpofbgbaaDoorFlB
import Derived.Test.YtjlopclpofbgbaaDoorFlA
import Derived.WalkKit
import Derived.OwnWalkIn
import Derived.OrdersIn
import Derived.LoopNIn
import Derived.LoopIn
import Derived.RangeFuncNested
import Derived.RangeFuncBound
import Derived.RangeFuncLeaves
import Derived.Maps.OwnSet
import Derived.Laws.Tables
import Derived.Great.BuildSlice
import Derived.Maps.Views
import Derived.WalkSpells
import Derived.Carry
import Derived.Test.YtjlopclpofbgbaaDoorProg
set_option linter.unusedSimpArgs false
set_option linter.unusedVariables false
set_option maxRecDepth 100000
namespace Go.Proofs.YtjlopclpofbgbaaDoor
open Go Go.Fl
open Classical
def sF10k_f71_5 : List (Nat × Nat) := [(0, 0), (0, 0), (0, 0), (0, 0), (0, 0), (0, 0), (0, 0), (0, 0), (0, 0), (0, 0), (0, 0), (0, 0), (0, 0), (0, 0), (0, 0), (0, 0), (0, 0), (0, 0)]
def sF10k_f73_6 : List (Nat × Nat) := [(0, 0), (0, 0), (0, 0), (0, 0), (0, 0), (0, 0), (0, 0), (0, 0), (0, 0), (0, 0), (0, 0)]
def sF10k_f74_6 : List (Nat × Nat) := [(0, 0), (0, 0), (0, 0), (0, 0), (0, 0), (0, 0), (0, 0), (0, 0), (0, 0), (0, 0)]
def sF10k_f74_11 : List (Nat × Nat) := [(0, 0), (0, 0), (0, 0), (0, 0), (0, 0), (0, 0), (0, 0), (0, 0), (0, 0), (0, 0)]
theorem len0 {l : List Int} : (0 : Int) < l.length ↔ l ≠ [] := by cases l <;> simp
set_option maxHeartbeats 1000000 in
theorem c82 (t : Town) (hv : okThings t.ts) (hl : t.ts.length ≤ 1000) : PC Tryd.prog 82 [hF t] (lN (pags t)) := by
  refine PC.body Tryd.func82 (by kernel_rfl) rfl (by simp [Tryd.f82]) rfl ?_
  simp only [Tryd.f82]
  intro hlen
  simp only [go_sem, List.length_map, and_true, true_and] at hlen
  refine CV.run ?_
  (repeat' (first | ((with_reducible first | apply sg | apply si | apply sq | apply sd) <;> intro hb <;> (try rw [hb]) <;> (try simp only [bq, bz, dtrue, dfalse] at hb) <;> (try simp only [within] at hb) <;> try simp only [go_sem]) | refine And.intro (by first | exact ⟨⟩ | omega | (simp only [I64]; omega)) ?_ | (simp only [go_sem])))
  refine vc_fw (fun j => ⟨[(4, .int .i64 j), (3, .row 1 (sel (pgP t) j).length), (1, .lp 0 0), (2, .nilS)], [.box 28 (cT t) false, .row 3 1 ((sel (pgP t) j).map encN) false]⟩) t.ts.length (fun _ => True) (.nilE 3 3 1 (by (simp only [go_sem])) (by omega) (.base (by (first | exact wk_same (by simp only [go_sem, Int.natCast_add, cn, Int.cast_ofNat_Int, sel, List.map_nil]) | (refine wk_drop ?_ ?_ ?_ ?_ ?_ <;> simp only [go_sem, Int.natCast_add, cn, Int.cast_ofNat_Int, sel, List.map_nil]))))) trivial ?_
  intro j hj _
  have hsl := sel_len (pgP t) j
  rcases Nat.lt_or_ge j t.ts.length with hlt | hge
  · have hlt' : (j : Int) < t.ts.length := by omega
    have h44 := c44 t j
    have h45 := c45 t hv hl j
    by_cases h1 : isPage t j
    · have h44' := h44.tru h1
      by_cases h2 : thg t j = []
      · have e := sel_no (p := pgP t) (n := j) fun h => h.2 h2
        rw [h2] at h45
        (repeat' (first | ((with_reducible first | apply sg | apply si | apply sq | apply sd) <;> intro hb <;> (try rw [hb]) <;> (try simp only [bq, bz, dtrue, dfalse] at hb) <;> (try simp only [within] at hb) <;> try simp only [go_sem]) | refine And.intro (by first | exact ⟨⟩ | omega | (simp only [I64]; omega)) ?_ | ((with_reducible first | refine vp h44' ?_ ?_ | refine vp h45 ?_ ?_); focus (first | exact ⟨rfl, .inl ⟨by first | rfl | (simp only [go_sem, hlt', List.length_map, AV.pureL, AV.pure]; done), by first | (simp only [go_sem, hlt', List.length_map, AV.pureL, AV.pure]; done) | rfl⟩⟩ | exact ⟨rfl, .inr ⟨rfl, by simp only [go_sem, hlt', List.length_map]⟩⟩)) | (simp only [go_sem, hlt', List.length_map])))
        all_goals first
          | omega
          | exact .base (by (first | exact wk_same (by simp only [go_sem, Int.natCast_add, cn, Int.cast_ofNat_Int, e]) | (refine wk_drop ?_ ?_ ?_ ?_ ?_ <;> simp only [go_sem, Int.natCast_add, cn, Int.cast_ofNat_Int, e])))
      · have e := sel_yes (p := pgP t) (n := j) ⟨h1, h2⟩
        have h3 := len0.2 h2
        (repeat' (first | ((with_reducible first | apply sg | apply si | apply sq | apply sd) <;> intro hb <;> (try rw [hb]) <;> (try simp only [bq, bz, dtrue, dfalse] at hb) <;> (try simp only [within] at hb) <;> try simp only [go_sem]) | refine And.intro (by first | exact ⟨⟩ | omega | (simp only [I64]; omega)) ?_ | ((with_reducible first | refine vp h44' ?_ ?_ | refine vp h45 ?_ ?_); focus (first | exact ⟨rfl, .inl ⟨by first | rfl | (simp only [go_sem, hlt', h3, List.length_map, AV.pureL, AV.pure]; done), by first | (simp only [go_sem, hlt', h3, List.length_map, AV.pureL, AV.pure]; done) | rfl⟩⟩ | exact ⟨rfl, .inr ⟨rfl, by simp only [go_sem, hlt', h3, List.length_map]⟩⟩)) | (simp only [go_sem, hlt', h3, List.length_map])))
        all_goals first
          | omega
          | exact .base (by (first | exact wk_same (by simp only [go_sem, Int.natCast_add, cn, Int.cast_ofNat_Int, e, List.map_append, encN, List.length_append, List.length_cons, List.length_nil]) | (refine wk_drop ?_ ?_ ?_ ?_ ?_ <;> simp only [go_sem, Int.natCast_add, cn, Int.cast_ofNat_Int, e, List.map_append, encN, List.length_append, List.length_cons, List.length_nil])))
    · have e := sel_no (p := pgP t) (n := j) fun h => h1 h.1
      have h44' := h44.fls h1
      (repeat' (first | ((with_reducible first | apply sg | apply si | apply sq | apply sd) <;> intro hb <;> (try rw [hb]) <;> (try simp only [bq, bz, dtrue, dfalse] at hb) <;> (try simp only [within] at hb) <;> try simp only [go_sem]) | refine And.intro (by first | exact ⟨⟩ | omega | (simp only [I64]; omega)) ?_ | ((with_reducible first | refine vp h44' ?_ ?_ | refine vp h45 ?_ ?_); focus (first | exact ⟨rfl, .inl ⟨by first | rfl | (simp only [go_sem, hlt', List.length_map, AV.pureL, AV.pure]; done), by first | (simp only [go_sem, hlt', List.length_map, AV.pureL, AV.pure]; done) | rfl⟩⟩ | exact ⟨rfl, .inr ⟨rfl, by simp only [go_sem, hlt', List.length_map]⟩⟩)) | (simp only [go_sem, hlt', List.length_map])))
      all_goals first
        | omega
        | exact .base (by (first | exact wk_same (by simp only [go_sem, Int.natCast_add, cn, Int.cast_ofNat_Int, e]) | (refine wk_drop ?_ ?_ ?_ ?_ ?_ <;> simp only [go_sem, Int.natCast_add, cn, Int.cast_ofNat_Int, e])))
  · have hge' : ¬ (j : Int) < t.ts.length := by omega
    have : j = t.ts.length := by omega
    subst this
    (repeat' (first | ((with_reducible first | apply sg | apply si | apply sq | apply sd) <;> intro hb <;> (try rw [hb]) <;> (try simp only [bq, bz, dtrue, dfalse] at hb) <;> (try simp only [within] at hb) <;> try simp only [go_sem]) | refine And.intro (by first | exact ⟨⟩ | omega | (simp only [I64]; omega)) ?_ | (simp only [go_sem, hge', List.length_map])))
    all_goals exact frzN
set_option maxHeartbeats 1000000 in
theorem c71 (t : Town) (l : List Int) (b : Int) (hr : ∀ x, x ∈ l → 0 ≤ x ∧ x < t.ts.length) (hp : t.pl.length = t.ts.length) (hl : l.length ≤ 1000) : PC Tryd.prog 71 [hF t, lN l, .int .i64 b] (lN (lft t l b)) := by
  refine PC.body Tryd.func71 (by kernel_rfl) rfl (by simp [Tryd.f71]) rfl ?_
  simp only [Tryd.f71]
  intro hlen
  simp only [go_sem, List.length_map, and_true, true_and] at hlen
  refine CV.run ?_
  (repeat' (first | ((with_reducible first | apply sg | apply si | apply sq | apply sd) <;> intro hb <;> (try rw [hb]) <;> (try simp only [bq, bz, dtrue, dfalse] at hb) <;> (try simp only [within] at hb) <;> try simp only [go_sem]) | refine And.intro (by first | exact ⟨⟩ | omega | (simp only [I64]; omega)) ?_ | (with_reducible rw [vc_draw_eq]; first | (refine CV.draw (id := 5) sF10k_f71_5 mixed rfl (by kernel_rfl) ?_; delta sF10k_f71_5)) | (simp only [go_sem])))
  refine vc_fw (fun j => ⟨[(8, .int .i64 j), (7, .row 1 (fil (stays t b) (l.take j)).length), (1, lN l), (2, .int .i64 b), (3, .lp 0 0), (6, .nilS)], [.box 28 (cT t) false, .row 3 1 ((fil (stays t b) (l.take j)).map encN) false]⟩) l.length (fun _ => True) (.nilE 7 3 1 (by (simp only [go_sem])) (by omega) (.base (by (first | exact wk_same (by simp only [go_sem, Int.natCast_add, cn, Int.cast_ofNat_Int, fil, List.take_zero, List.filter_nil, List.map_nil]) | (refine wk_drop ?_ ?_ ?_ ?_ ?_ <;> simp only [go_sem, Int.natCast_add, cn, Int.cast_ofNat_Int, fil, List.take_zero, List.filter_nil, List.map_nil]))))) trivial ?_
  intro j hj _
  have hsl : (fil (stays t b) (l.take j)).length ≤ j := Nat.le_trans fil_len (by rw [List.length_take]; omega)
  rcases Nat.lt_or_ge j l.length with hlt | hge
  · have hlt' : (j : Int) < l.length := by omega
    obtain ⟨x, hx⟩ := get_of hlt
    have hxr := hr x (List.mem_of_getElem? hx)
    obtain ⟨y, hy⟩ := get_of (l := t.pl) (j := x.toNat) (by omega)
    have ey := gv_of hy
    have hxl : x < t.pl.length := by omega
    have h55 := c55 t x (by unfold within; omega)
    by_cases h1 : there t x
    · have h55' := h55.tru h1
      by_cases h2 : y = b
      · have e := fil_no (q := stays t b) hx fun h => h.2 (by rw [ey, h2])
        (repeat' (first | ((with_reducible first | apply sg | apply si | apply sq | apply sd) <;> intro hb <;> (try rw [hb]) <;> (try simp only [bq, bz, dtrue, dfalse] at hb) <;> (try simp only [within] at hb) <;> try simp only [go_sem]) | refine And.intro (by first | exact ⟨⟩ | omega | (simp only [I64]; omega)) ?_ | (with_reducible rw [vc_draw_eq]; first | (refine CV.draw (id := 5) sF10k_f71_5 mixed rfl (by kernel_rfl) ?_; delta sF10k_f71_5)) | ((with_reducible first | refine vp h55' ?_ ?_ | refine dc h55' ?_ ?_); focus (first | exact ⟨rfl, .inl ⟨by first | rfl | (simp only [go_sem, hlt', hx, hy, hxl, h2, encN, List.length_map, AV.pureL, AV.pure]; done), by first | (simp only [go_sem, hlt', hx, hy, hxl, h2, encN, List.length_map, AV.pureL, AV.pure]; done) | rfl⟩⟩ | exact ⟨rfl, .inr ⟨rfl, by simp only [go_sem, hlt', hx, hy, hxl, h2, encN, List.length_map]⟩⟩)) | ((with_reducible first | refine dp h55' ?_ ?_); focus (exact ⟨rfl, by first | rfl | (simp only [go_sem, hlt', hx, hy, hxl, h2, encN, List.length_map, AV.pureL, AV.pure]; done), by first | (simp only [go_sem, hlt', hx, hy, hxl, h2, encN, List.length_map, AV.pureL, AV.pure]; done) | rfl⟩)) | ((with_reducible first | refine ds h55' ?_ ?_); focus exact ⟨rfl, rfl⟩) | (simp only [go_sem, hlt', hx, hy, hxl, h2, encN, List.length_map])))
        all_goals first
          | omega
          | exact .base (by (first | exact wk_same (by simp only [go_sem, Int.natCast_add, cn, Int.cast_ofNat_Int, e]) | (refine wk_drop ?_ ?_ ?_ ?_ ?_ <;> simp only [go_sem, Int.natCast_add, cn, Int.cast_ofNat_Int, e])))
      · have e := fil_yes (q := stays t b) hx ⟨h1, by rw [ey]; exact h2⟩
        (repeat' (first | ((with_reducible first | apply sg | apply si | apply sq | apply sd) <;> intro hb <;> (try rw [hb]) <;> (try simp only [bq, bz, dtrue, dfalse] at hb) <;> (try simp only [within] at hb) <;> try simp only [go_sem]) | refine And.intro (by first | exact ⟨⟩ | omega | (simp only [I64]; omega)) ?_ | (with_reducible rw [vc_draw_eq]; first | (refine CV.draw (id := 5) sF10k_f71_5 mixed rfl (by kernel_rfl) ?_; delta sF10k_f71_5)) | ((with_reducible first | refine vp h55' ?_ ?_ | refine dc h55' ?_ ?_); focus (first | exact ⟨rfl, .inl ⟨by first | rfl | (simp only [go_sem, hlt', hx, hy, hxl, h2, encN, List.length_map, AV.pureL, AV.pure]; done), by first | (simp only [go_sem, hlt', hx, hy, hxl, h2, encN, List.length_map, AV.pureL, AV.pure]; done) | rfl⟩⟩ | exact ⟨rfl, .inr ⟨rfl, by simp only [go_sem, hlt', hx, hy, hxl, h2, encN, List.length_map]⟩⟩)) | ((with_reducible first | refine dp h55' ?_ ?_); focus (exact ⟨rfl, by first | rfl | (simp only [go_sem, hlt', hx, hy, hxl, h2, encN, List.length_map, AV.pureL, AV.pure]; done), by first | (simp only [go_sem, hlt', hx, hy, hxl, h2, encN, List.length_map, AV.pureL, AV.pure]; done) | rfl⟩)) | ((with_reducible first | refine ds h55' ?_ ?_); focus exact ⟨rfl, rfl⟩) | (simp only [go_sem, hlt', hx, hy, hxl, h2, encN, List.length_map])))
        all_goals first
          | omega
          | exact .base (by (first | exact wk_same (by simp only [go_sem, Int.natCast_add, cn, Int.cast_ofNat_Int, e, List.map_append, encN, List.length_append, List.length_cons, List.length_nil]) | (refine wk_drop ?_ ?_ ?_ ?_ ?_ <;> simp only [go_sem, Int.natCast_add, cn, Int.cast_ofNat_Int, e, List.map_append, encN, List.length_append, List.length_cons, List.length_nil])))
    · have h55' := h55.fls h1
      have e := fil_no (q := stays t b) hx fun h => h1 h.1
      (repeat' (first | ((with_reducible first | apply sg | apply si | apply sq | apply sd) <;> intro hb <;> (try rw [hb]) <;> (try simp only [bq, bz, dtrue, dfalse] at hb) <;> (try simp only [within] at hb) <;> try simp only [go_sem]) | refine And.intro (by first | exact ⟨⟩ | omega | (simp only [I64]; omega)) ?_ | (with_reducible rw [vc_draw_eq]; first | (refine CV.draw (id := 5) sF10k_f71_5 mixed rfl (by kernel_rfl) ?_; delta sF10k_f71_5)) | ((with_reducible first | refine vp h55' ?_ ?_ | refine dc h55' ?_ ?_); focus (first | exact ⟨rfl, .inl ⟨by first | rfl | (simp only [go_sem, hlt', hx, encN, List.length_map, AV.pureL, AV.pure]; done), by first | (simp only [go_sem, hlt', hx, encN, List.length_map, AV.pureL, AV.pure]; done) | rfl⟩⟩ | exact ⟨rfl, .inr ⟨rfl, by simp only [go_sem, hlt', hx, encN, List.length_map]⟩⟩)) | ((with_reducible first | refine dp h55' ?_ ?_); focus (exact ⟨rfl, by first | rfl | (simp only [go_sem, hlt', hx, encN, List.length_map, AV.pureL, AV.pure]; done), by first | (simp only [go_sem, hlt', hx, encN, List.length_map, AV.pureL, AV.pure]; done) | rfl⟩)) | ((with_reducible first | refine ds h55' ?_ ?_); focus exact ⟨rfl, rfl⟩) | (simp only [go_sem, hlt', hx, encN, List.length_map])))
      all_goals first
        | omega
        | exact .base (by (first | exact wk_same (by simp only [go_sem, Int.natCast_add, cn, Int.cast_ofNat_Int, e]) | (refine wk_drop ?_ ?_ ?_ ?_ ?_ <;> simp only [go_sem, Int.natCast_add, cn, Int.cast_ofNat_Int, e])))
  · have hge' : ¬ (j : Int) < l.length := by omega
    have e := fil_all (q := stays t b) hge
    (repeat' (first | ((with_reducible first | apply sg | apply si | apply sq | apply sd) <;> intro hb <;> (try rw [hb]) <;> (try simp only [bq, bz, dtrue, dfalse] at hb) <;> (try simp only [within] at hb) <;> try simp only [go_sem]) | refine And.intro (by first | exact ⟨⟩ | omega | (simp only [I64]; omega)) ?_ | (with_reducible rw [vc_draw_eq]; first | (refine CV.draw (id := 5) sF10k_f71_5 mixed rfl (by kernel_rfl) ?_; delta sF10k_f71_5)) | (simp only [go_sem, hge', e, List.length_map])))
    all_goals exact frzN
theorem cLf (t : Town) (hp : t.pl.length = t.ts.length) (hl : t.ts.length ≤ 1000) (p b : Int) : PC Tryd.prog 71 [hF t, lN (thg t p), .int .i64 b] (lN (lft t (thg t p) b)) :=
  c71 t _ b (fun x hx => by have := thg_mem.1 hx; omega) hp (by have := thg_len (t := t) (p := p); omega)
set_option maxHeartbeats 1000000 in
theorem c73 (t : Town) (hv : okThings t.ts) (hl : t.ts.length ≤ 1000) (hp : t.pl.length = t.ts.length) (b : Int) : PC Tryd.prog 73 [hF t, .int .i64 b] (lN (los t b)) := by
  have h82 := c82 t hv hl
  have hpl := pags_len (t := t)
  refine PC.body Tryd.func73 (by kernel_rfl) rfl (by simp [Tryd.f73]) rfl ?_
  simp only [Tryd.f73]
  intro hlen
  simp only [go_sem, List.length_map, and_true, true_and] at hlen
  refine CV.run ?_
  (repeat' (first | ((with_reducible first | apply sg | apply si | apply sq | apply sd) <;> intro hb <;> (try rw [hb]) <;> (try simp only [bq, bz, dtrue, dfalse] at hb) <;> (try simp only [within] at hb) <;> try simp only [go_sem]) | refine And.intro (by first | exact ⟨⟩ | omega | (simp only [I64]; omega)) ?_ | (with_reducible rw [vc_draw_eq]; first | (refine CV.draw (id := 6) sF10k_f73_6 mixed rfl (by kernel_rfl) ?_; delta sF10k_f73_6)) | ((with_reducible first | refine vp h82 ?_ ?_ | refine dc h82 ?_ ?_); focus (first | exact ⟨rfl, .inl ⟨by first | rfl | (simp only [go_sem, AV.pureL, AV.pure]; done), by first | (simp only [go_sem, AV.pureL, AV.pure]; done) | rfl⟩⟩ | exact ⟨rfl, .inr ⟨rfl, by simp only [go_sem]⟩⟩)) | ((with_reducible first | refine dp h82 ?_ ?_); focus (exact ⟨rfl, by first | rfl | (simp only [go_sem, AV.pureL, AV.pure]; done), by first | (simp only [go_sem, AV.pureL, AV.pure]; done) | rfl⟩)) | ((with_reducible first | refine ds h82 ?_ ?_); focus exact ⟨rfl, rfl⟩) | (simp only [go_sem])))
  refine vc_fw (fun j => ⟨[(7, .int .i64 j), (6, .row 1 (fil (losP t b) ((pags t).take j)).length), (5, lN (pags t)), (1, .int .i64 b), (2, .lp 0 0), (4, .nilS)], [.box 28 (cT t) false, .row 3 1 ((fil (losP t b) ((pags t).take j)).map encN) false]⟩) (pags t).length (fun _ => True) (.nilE 6 3 1 (by (simp only [go_sem])) (by omega) (.base (by (first | exact wk_same (by simp only [go_sem, Int.natCast_add, cn, Int.cast_ofNat_Int, fil, List.take_zero, List.filter_nil, List.map_nil]) | (refine wk_drop ?_ ?_ ?_ ?_ ?_ <;> simp only [go_sem, Int.natCast_add, cn, Int.cast_ofNat_Int, fil, List.take_zero, List.filter_nil, List.map_nil]))))) trivial ?_
  intro j hj _
  have hsl : (fil (losP t b) ((pags t).take j)).length ≤ j := Nat.le_trans fil_len (by rw [List.length_take]; omega)
  rcases Nat.lt_or_ge j (pags t).length with hlt | hge
  · have hlt' : (j : Int) < (pags t).length := by omega
    obtain ⟨x, hx⟩ := get_of hlt
    have h45 := c45 t hv hl x
    have h71 := cLf t hp hl x b
    by_cases h1 : lft t (thg t x) b = []
    · have e := fil_yes (q := losP t b) hx h1
      rw [h1] at h71
      (repeat' (first | ((with_reducible first | apply sg | apply si | apply sq | apply sd) <;> intro hb <;> (try rw [hb]) <;> (try simp only [bq, bz, dtrue, dfalse] at hb) <;> (try simp only [within] at hb) <;> try simp only [go_sem]) | refine And.intro (by first | exact ⟨⟩ | omega | (simp only [I64]; omega)) ?_ | (with_reducible rw [vc_draw_eq]; first | (refine CV.draw (id := 6) sF10k_f73_6 mixed rfl (by kernel_rfl) ?_; delta sF10k_f73_6)) | ((with_reducible first | refine vp h45 ?_ ?_ | refine dc h45 ?_ ?_ | refine vp h71 ?_ ?_ | refine dc h71 ?_ ?_); focus (first | exact ⟨rfl, .inl ⟨by first | rfl | (simp only [go_sem, hlt', hx, encN, List.length_map, AV.pureL, AV.pure]; done), by first | (simp only [go_sem, hlt', hx, encN, List.length_map, AV.pureL, AV.pure]; done) | rfl⟩⟩ | exact ⟨rfl, .inr ⟨rfl, by simp only [go_sem, hlt', hx, encN, List.length_map]⟩⟩)) | ((with_reducible first | refine dp h45 ?_ ?_ | refine dp h71 ?_ ?_); focus (exact ⟨rfl, by first | rfl | (simp only [go_sem, hlt', hx, encN, List.length_map, AV.pureL, AV.pure]; done), by first | (simp only [go_sem, hlt', hx, encN, List.length_map, AV.pureL, AV.pure]; done) | rfl⟩)) | ((with_reducible first | refine ds h45 ?_ ?_ | refine ds h71 ?_ ?_); focus exact ⟨rfl, rfl⟩) | (simp only [go_sem, hlt', hx, encN, List.length_map])))
      all_goals first
        | omega
        | exact .base (by (first | exact wk_same (by simp only [go_sem, Int.natCast_add, cn, Int.cast_ofNat_Int, e, List.map_append, encN, List.length_append, List.length_cons, List.length_nil]) | (refine wk_drop ?_ ?_ ?_ ?_ ?_ <;> simp only [go_sem, Int.natCast_add, cn, Int.cast_ofNat_Int, e, List.map_append, encN, List.length_append, List.length_cons, List.length_nil])))
    · have e := fil_no (q := losP t b) hx h1
      have h2 : ¬ ((lft t (thg t x) b).length : Int) = 0 := fun h => h1 (len0'.1 h)
      (repeat' (first | ((with_reducible first | apply sg | apply si | apply sq | apply sd) <;> intro hb <;> (try rw [hb]) <;> (try simp only [bq, bz, dtrue, dfalse] at hb) <;> (try simp only [within] at hb) <;> try simp only [go_sem]) | refine And.intro (by first | exact ⟨⟩ | omega | (simp only [I64]; omega)) ?_ | (with_reducible rw [vc_draw_eq]; first | (refine CV.draw (id := 6) sF10k_f73_6 mixed rfl (by kernel_rfl) ?_; delta sF10k_f73_6)) | ((with_reducible first | refine vp h45 ?_ ?_ | refine dc h45 ?_ ?_ | refine vp h71 ?_ ?_ | refine dc h71 ?_ ?_); focus (first | exact ⟨rfl, .inl ⟨by first | rfl | (simp only [go_sem, hlt', hx, h2, encN, List.length_map, AV.pureL, AV.pure]; done), by first | (simp only [go_sem, hlt', hx, h2, encN, List.length_map, AV.pureL, AV.pure]; done) | rfl⟩⟩ | exact ⟨rfl, .inr ⟨rfl, by simp only [go_sem, hlt', hx, h2, encN, List.length_map]⟩⟩)) | ((with_reducible first | refine dp h45 ?_ ?_ | refine dp h71 ?_ ?_); focus (exact ⟨rfl, by first | rfl | (simp only [go_sem, hlt', hx, h2, encN, List.length_map, AV.pureL, AV.pure]; done), by first | (simp only [go_sem, hlt', hx, h2, encN, List.length_map, AV.pureL, AV.pure]; done) | rfl⟩)) | ((with_reducible first | refine ds h45 ?_ ?_ | refine ds h71 ?_ ?_); focus exact ⟨rfl, rfl⟩) | (simp only [go_sem, hlt', hx, h2, encN, List.length_map])))
      all_goals first
        | omega
        | exact .base (by (first | exact wk_same (by simp only [go_sem, Int.natCast_add, cn, Int.cast_ofNat_Int, e]) | (refine wk_drop ?_ ?_ ?_ ?_ ?_ <;> simp only [go_sem, Int.natCast_add, cn, Int.cast_ofNat_Int, e])))
  · have hge' : ¬ (j : Int) < (pags t).length := by omega
    have e := fil_all (q := losP t b) hge
    (repeat' (first | ((with_reducible first | apply sg | apply si | apply sq | apply sd) <;> intro hb <;> (try rw [hb]) <;> (try simp only [bq, bz, dtrue, dfalse] at hb) <;> (try simp only [within] at hb) <;> try simp only [go_sem]) | refine And.intro (by first | exact ⟨⟩ | omega | (simp only [I64]; omega)) ?_ | (with_reducible rw [vc_draw_eq]; first | (refine CV.draw (id := 6) sF10k_f73_6 mixed rfl (by kernel_rfl) ?_; delta sF10k_f73_6)) | (simp only [go_sem, hge', e, List.length_map])))
    all_goals exact frzN
set_option maxHeartbeats 2000000 in
theorem c74 (t : Town) (hv : okThings t.ts) (hl : t.ts.length ≤ 1000) (hp : t.pl.length = t.ts.length) (b : Int) : PC Tryd.prog 74 [hF t, .int .i64 b] (lN (sta t b)) := by
  have h82 := c82 t hv hl
  have hpl := pags_len (t := t)
  refine PC.body Tryd.func74 (by kernel_rfl) rfl (by simp [Tryd.f74]) rfl ?_
  simp only [Tryd.f74]
  intro hlen
  simp only [go_sem, List.length_map, and_true, true_and] at hlen
  refine CV.run ?_
  (repeat' (first | ((with_reducible first | apply sg | apply si | apply sq | apply sd) <;> intro hb <;> (try rw [hb]) <;> (try simp only [bq, bz, dtrue, dfalse] at hb) <;> (try simp only [within] at hb) <;> try simp only [go_sem]) | refine And.intro (by first | exact ⟨⟩ | omega | (simp only [I64]; omega)) ?_ | (with_reducible rw [vc_draw_eq]; first | (refine CV.draw (id := 6) sF10k_f74_6 mixed rfl (by kernel_rfl) ?_; delta sF10k_f74_6) | (refine CV.draw (id := 11) sF10k_f74_11 mixed rfl (by kernel_rfl) ?_; delta sF10k_f74_11)) | ((with_reducible first | refine vp h82 ?_ ?_ | refine dc h82 ?_ ?_); focus (first | exact ⟨rfl, .inl ⟨by first | rfl | (simp only [go_sem, AV.pureL, AV.pure]; done), by first | (simp only [go_sem, AV.pureL, AV.pure]; done) | rfl⟩⟩ | exact ⟨rfl, .inr ⟨rfl, by simp only [go_sem]⟩⟩)) | ((with_reducible first | refine dp h82 ?_ ?_); focus (exact ⟨rfl, by first | rfl | (simp only [go_sem, AV.pureL, AV.pure]; done), by first | (simp only [go_sem, AV.pureL, AV.pure]; done) | rfl⟩)) | ((with_reducible first | refine ds h82 ?_ ?_); focus exact ⟨rfl, rfl⟩) | (simp only [go_sem])))
  refine vc_fw (fun j => ⟨[(7, .int .i64 j), (6, .row 1 (fil (staP t b) ((pags t).take j)).length), (5, lN (pags t)), (1, .int .i64 b), (2, .lp 0 0), (4, .nilS)], [.box 28 (cT t) false, .row 3 1 ((fil (staP t b) ((pags t).take j)).map encN) false]⟩) (pags t).length (fun _ => True) (.nilE 6 3 1 (by (simp only [go_sem])) (by omega) (.base (by (first | exact wk_same (by simp only [go_sem, Int.natCast_add, cn, Int.cast_ofNat_Int, fil, List.take_zero, List.filter_nil, List.map_nil]) | (refine wk_drop ?_ ?_ ?_ ?_ ?_ <;> simp only [go_sem, Int.natCast_add, cn, Int.cast_ofNat_Int, fil, List.take_zero, List.filter_nil, List.map_nil]))))) trivial ?_
  intro j hj _
  have hsl : (fil (staP t b) ((pags t).take j)).length ≤ j := Nat.le_trans fil_len (by rw [List.length_take]; omega)
  rcases Nat.lt_or_ge j (pags t).length with hlt | hge
  · have hlt' : (j : Int) < (pags t).length := by omega
    obtain ⟨x, hx⟩ := get_of hlt
    have h45 := c45 t hv hl x
    have h71 := cLf t hp hl x b
    have hx1 : staP t b x ↔ lft t (thg t x) b ≠ [] ∧ ¬ ∃ y, y ∈ lft t (thg t x) b ∧ fr t y := Iff.rfl
    have hLr : ∀ y, y ∈ lft t (thg t x) b → 0 ≤ y ∧ y < t.ts.length := fun y hy => by have := thg_mem.1 (fil_mem.1 hy).1; omega
    have hLl : (lft t (thg t x) b).length ≤ t.ts.length := Nat.le_trans fil_len thg_len
    generalize lft t (thg t x) b = L at h71 hx1 hLr hLl
    (repeat' (first | ((with_reducible first | apply sg | apply si | apply sq | apply sd) <;> intro hb <;> (try rw [hb]) <;> (try simp only [bq, bz, dtrue, dfalse] at hb) <;> (try simp only [within] at hb) <;> try simp only [go_sem]) | refine And.intro (by first | exact ⟨⟩ | omega | (simp only [I64]; omega)) ?_ | (with_reducible rw [vc_draw_eq]; first | (refine CV.draw (id := 6) sF10k_f74_6 mixed rfl (by kernel_rfl) ?_; delta sF10k_f74_6) | (refine CV.draw (id := 11) sF10k_f74_11 mixed rfl (by kernel_rfl) ?_; delta sF10k_f74_11)) | ((with_reducible first | refine vp h45 ?_ ?_ | refine dc h45 ?_ ?_ | refine vp h71 ?_ ?_ | refine dc h71 ?_ ?_); focus (first | exact ⟨rfl, .inl ⟨by first | rfl | (simp only [go_sem, hlt', hx, encN, List.length_map, AV.pureL, AV.pure]; done), by first | (simp only [go_sem, hlt', hx, encN, List.length_map, AV.pureL, AV.pure]; done) | rfl⟩⟩ | exact ⟨rfl, .inr ⟨rfl, by simp only [go_sem, hlt', hx, encN, List.length_map]⟩⟩)) | ((with_reducible first | refine dp h45 ?_ ?_ | refine dp h71 ?_ ?_); focus (exact ⟨rfl, by first | rfl | (simp only [go_sem, hlt', hx, encN, List.length_map, AV.pureL, AV.pure]; done), by first | (simp only [go_sem, hlt', hx, encN, List.length_map, AV.pureL, AV.pure]; done) | rfl⟩)) | ((with_reducible first | refine ds h45 ?_ ?_ | refine ds h71 ?_ ?_); focus exact ⟨rfl, rfl⟩) | (simp only [go_sem, hlt', hx, encN, List.length_map])))
    refine vc_for (fun k => ⟨[(10, .int .i64 k), (9, .bool (decide (anyTo (fr t) L k))), (8, lN L), (7, .int .i64 j), (6, .row 1 (fil (staP t b) ((pags t).take j)).length), (5, lN (pags t)), (1, .int .i64 b), (2, .lp 0 0), (4, .nilS)], [.box 28 (cT t) false, .row 3 1 ((fil (staP t b) ((pags t).take j)).map encN) false]⟩) L.length (fun _ => True) (by (first | exact wk_same (by simp only [go_sem, Int.natCast_add, cn, Int.cast_ofNat_Int, decide_eq_false any_zero]) | (refine wk_drop ?_ ?_ ?_ ?_ ?_ <;> simp only [go_sem, Int.natCast_add, cn, Int.cast_ofNat_Int, decide_eq_false any_zero]))) trivial ?_
    intro k hk _
    rcases Nat.lt_or_ge k L.length with hkl | hkg
    · have hkl' : (k : Int) < L.length := by omega
      obtain ⟨y, hy⟩ := get_of hkl
      have hyr := hLr y (List.mem_of_getElem? hy)
      have h83 := c83 t hv hl y hyr.1 hyr.2
      by_cases a1 : anyTo (fr t) L k
      · have e1 := decide_eq_true a1
        have e2 := decide_eq_true (any_old a1)
        rw [e1]
        (repeat' (first | ((with_reducible first | apply sg | apply si | apply sq | apply sd) <;> intro hb <;> (try rw [hb]) <;> (try simp only [bq, bz, dtrue, dfalse] at hb) <;> (try simp only [within] at hb) <;> try simp only [go_sem]) | refine And.intro (by first | exact ⟨⟩ | omega | (simp only [I64]; omega)) ?_ | (with_reducible rw [vc_draw_eq]; first | (refine CV.draw (id := 6) sF10k_f74_6 mixed rfl (by kernel_rfl) ?_; delta sF10k_f74_6) | (refine CV.draw (id := 11) sF10k_f74_11 mixed rfl (by kernel_rfl) ?_; delta sF10k_f74_11)) | (simp only [go_sem, hkl', hy, encN, List.length_map])))
        exact (by (first | exact wk_same (by simp only [go_sem, Int.natCast_add, cn, Int.cast_ofNat_Int, e2]) | (refine wk_drop ?_ ?_ ?_ ?_ ?_ <;> simp only [go_sem, Int.natCast_add, cn, Int.cast_ofNat_Int, e2])))
      · have e1 := decide_eq_false a1
        rw [e1]
        by_cases a2 : fr t y
        · have e2 := decide_eq_true (any_new (q := fr t) hy a2)
          replace h83 := h83.tru a2
          (repeat' (first | ((with_reducible first | apply sg | apply si | apply sq | apply sd) <;> intro hb <;> (try rw [hb]) <;> (try simp only [bq, bz, dtrue, dfalse] at hb) <;> (try simp only [within] at hb) <;> try simp only [go_sem]) | refine And.intro (by first | exact ⟨⟩ | omega | (simp only [I64]; omega)) ?_ | (with_reducible rw [vc_draw_eq]; first | (refine CV.draw (id := 6) sF10k_f74_6 mixed rfl (by kernel_rfl) ?_; delta sF10k_f74_6) | (refine CV.draw (id := 11) sF10k_f74_11 mixed rfl (by kernel_rfl) ?_; delta sF10k_f74_11)) | ((with_reducible first | refine vp h83 ?_ ?_ | refine dc h83 ?_ ?_); focus (first | exact ⟨rfl, .inl ⟨by first | rfl | (simp only [go_sem, hkl', hy, encN, List.length_map, AV.pureL, AV.pure]; done), by first | (simp only [go_sem, hkl', hy, encN, List.length_map, AV.pureL, AV.pure]; done) | rfl⟩⟩ | exact ⟨rfl, .inr ⟨rfl, by simp only [go_sem, hkl', hy, encN, List.length_map]⟩⟩)) | ((with_reducible first | refine dp h83 ?_ ?_); focus (exact ⟨rfl, by first | rfl | (simp only [go_sem, hkl', hy, encN, List.length_map, AV.pureL, AV.pure]; done), by first | (simp only [go_sem, hkl', hy, encN, List.length_map, AV.pureL, AV.pure]; done) | rfl⟩)) | ((with_reducible first | refine ds h83 ?_ ?_); focus exact ⟨rfl, rfl⟩) | (simp only [go_sem, hkl', hy, encN, List.length_map])))
          exact (by (first | exact wk_same (by simp only [go_sem, Int.natCast_add, cn, Int.cast_ofNat_Int, e2]) | (refine wk_drop ?_ ?_ ?_ ?_ ?_ <;> simp only [go_sem, Int.natCast_add, cn, Int.cast_ofNat_Int, e2])))
        · have e2 := decide_eq_false (any_no (q := fr t) hy a2 a1)
          replace h83 := h83.fls a2
          (repeat' (first | ((with_reducible first | apply sg | apply si | apply sq | apply sd) <;> intro hb <;> (try rw [hb]) <;> (try simp only [bq, bz, dtrue, dfalse] at hb) <;> (try simp only [within] at hb) <;> try simp only [go_sem]) | refine And.intro (by first | exact ⟨⟩ | omega | (simp only [I64]; omega)) ?_ | (with_reducible rw [vc_draw_eq]; first | (refine CV.draw (id := 6) sF10k_f74_6 mixed rfl (by kernel_rfl) ?_; delta sF10k_f74_6) | (refine CV.draw (id := 11) sF10k_f74_11 mixed rfl (by kernel_rfl) ?_; delta sF10k_f74_11)) | ((with_reducible first | refine vp h83 ?_ ?_ | refine dc h83 ?_ ?_); focus (first | exact ⟨rfl, .inl ⟨by first | rfl | (simp only [go_sem, hkl', hy, encN, List.length_map, AV.pureL, AV.pure]; done), by first | (simp only [go_sem, hkl', hy, encN, List.length_map, AV.pureL, AV.pure]; done) | rfl⟩⟩ | exact ⟨rfl, .inr ⟨rfl, by simp only [go_sem, hkl', hy, encN, List.length_map]⟩⟩)) | ((with_reducible first | refine dp h83 ?_ ?_); focus (exact ⟨rfl, by first | rfl | (simp only [go_sem, hkl', hy, encN, List.length_map, AV.pureL, AV.pure]; done), by first | (simp only [go_sem, hkl', hy, encN, List.length_map, AV.pureL, AV.pure]; done) | rfl⟩)) | ((with_reducible first | refine ds h83 ?_ ?_); focus exact ⟨rfl, rfl⟩) | (simp only [go_sem, hkl', hy, encN, List.length_map])))
          exact (by (first | exact wk_same (by simp only [go_sem, Int.natCast_add, cn, Int.cast_ofNat_Int, e2]) | (refine wk_drop ?_ ?_ ?_ ?_ ?_ <;> simp only [go_sem, Int.natCast_add, cn, Int.cast_ofNat_Int, e2])))
    · have hkg' : ¬ (k : Int) < L.length := by omega
      have hany := any_all (q := fr t) hkg
      have hxe : (pags t)[(j : Int).toNat]? = some x := by simpa using hx
      by_cases b1 : L = []
      · subst b1
        have e := fil_no (q := staP t b) hx fun h => (hx1.1 h).1 rfl
        (repeat' (first | ((with_reducible first | apply sg | apply si | apply sq | apply sd) <;> intro hb <;> (try rw [hb]) <;> (try simp only [bq, bz, dtrue, dfalse] at hb) <;> (try simp only [within] at hb) <;> try simp only [go_sem]) | refine And.intro (by first | exact ⟨⟩ | omega | (simp only [I64]; omega)) ?_ | (with_reducible rw [vc_draw_eq]; first | (refine CV.draw (id := 6) sF10k_f74_6 mixed rfl (by kernel_rfl) ?_; delta sF10k_f74_6) | (refine CV.draw (id := 11) sF10k_f74_11 mixed rfl (by kernel_rfl) ?_; delta sF10k_f74_11)) | (simp only [go_sem, hkg', hlt', hx, encN, List.length_map, List.map_nil, List.length_nil])))
        all_goals first
          | omega
          | exact .base (by (first | exact wk_same (by simp only [go_sem, Int.natCast_add, cn, Int.cast_ofNat_Int, e]) | (refine wk_drop ?_ ?_ ?_ ?_ ?_ <;> simp only [go_sem, Int.natCast_add, cn, Int.cast_ofNat_Int, e])))
      · have b2 := len0.2 b1
        by_cases a1 : anyTo (fr t) L k
        · have e1 := decide_eq_true a1
          have e := fil_no (q := staP t b) hx fun h => (hx1.1 h).2 (hany.1 a1)
          rw [e1]
          (repeat' (first | ((with_reducible first | apply sg | apply si | apply sq | apply sd) <;> intro hb <;> (try rw [hb]) <;> (try simp only [bq, bz, dtrue, dfalse] at hb) <;> (try simp only [within] at hb) <;> try simp only [go_sem]) | refine And.intro (by first | exact ⟨⟩ | omega | (simp only [I64]; omega)) ?_ | (with_reducible rw [vc_draw_eq]; first | (refine CV.draw (id := 6) sF10k_f74_6 mixed rfl (by kernel_rfl) ?_; delta sF10k_f74_6) | (refine CV.draw (id := 11) sF10k_f74_11 mixed rfl (by kernel_rfl) ?_; delta sF10k_f74_11)) | (simp only [go_sem, hkg', hlt', hx, b2, encN, List.length_map])))
          all_goals first
            | omega
            | exact .base (by (first | exact wk_same (by simp only [go_sem, Int.natCast_add, cn, Int.cast_ofNat_Int, e]) | (refine wk_drop ?_ ?_ ?_ ?_ ?_ <;> simp only [go_sem, Int.natCast_add, cn, Int.cast_ofNat_Int, e])))
        · have e1 := decide_eq_false a1
          have e := fil_yes (q := staP t b) hx (hx1.2 ⟨b1, fun h => a1 (hany.2 h)⟩)
          rw [e1]
          (repeat' (first | ((with_reducible first | apply sg | apply si | apply sq | apply sd) <;> intro hb <;> (try rw [hb]) <;> (try simp only [bq, bz, dtrue, dfalse] at hb) <;> (try simp only [within] at hb) <;> try simp only [go_sem]) | refine And.intro (by first | exact ⟨⟩ | omega | (simp only [I64]; omega)) ?_ | (with_reducible rw [vc_draw_eq]; first | (refine CV.draw (id := 6) sF10k_f74_6 mixed rfl (by kernel_rfl) ?_; delta sF10k_f74_6) | (refine CV.draw (id := 11) sF10k_f74_11 mixed rfl (by kernel_rfl) ?_; delta sF10k_f74_11)) | (simp only [go_sem, hkg', hlt', hx, b2, encN, List.length_map])))
          all_goals first
            | omega
            | exact .base (by (first | exact wk_same (by simp only [go_sem, Int.natCast_add, cn, Int.cast_ofNat_Int, e, List.map_append, encN, List.length_append, List.length_cons, List.length_nil]) | (refine wk_drop ?_ ?_ ?_ ?_ ?_ <;> simp only [go_sem, Int.natCast_add, cn, Int.cast_ofNat_Int, e, List.map_append, encN, List.length_append, List.length_cons, List.length_nil])))
  · have hge' : ¬ (j : Int) < (pags t).length := by omega
    have e := fil_all (q := staP t b) hge
    (repeat' (first | ((with_reducible first | apply sg | apply si | apply sq | apply sd) <;> intro hb <;> (try rw [hb]) <;> (try simp only [bq, bz, dtrue, dfalse] at hb) <;> (try simp only [within] at hb) <;> try simp only [go_sem]) | refine And.intro (by first | exact ⟨⟩ | omega | (simp only [I64]; omega)) ?_ | (with_reducible rw [vc_draw_eq]; first | (refine CV.draw (id := 6) sF10k_f74_6 mixed rfl (by kernel_rfl) ?_; delta sF10k_f74_6) | (refine CV.draw (id := 11) sF10k_f74_11 mixed rfl (by kernel_rfl) ?_; delta sF10k_f74_11)) | (simp only [go_sem, hge', e, List.length_map])))
    all_goals exact frzN
end Go.Proofs.YtjlopclpofbgbaaDoor

