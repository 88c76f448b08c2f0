/- Contracts of functions of the given program, without a condition beyond those that each theorem states; they lead to the given statement. -/
import Derived.Test.YtjlopclpofbgbaaDoorF10l
import Derived.Test.YtjlopclpofbgbaaDoorF10kxb
import Derived.Test.YtjlopclpofbgbaaDoorF10k
import Derived.Test.YtjlopclpofbgbaaDoorF10jxb
import Derived.Test.YtjlopclpofbgbaaDoorF10j
import Derived.Test.YtjlopclpofbgbaaDoorF10ixb
import Derived.Test.YtjlopclpofbgbaaDoorF10i
import Derived.Test.YtjlopclpofbgbaaDoorF10h
import Derived.Test.YtjlopclpofbgbaaDoorF10g
import Derived.Test.YtjlopclpofbgbaaDoorF10f
import Derived.Test.YtjlopclpofbgbaaDoorF10e
import Derived.Test.YtjlopclpofbgbaaDoorF10d
import Derived.Test.YtjlopclpofbgbaaDoorF10c
import Derived.Test.YtjlopclpofbgbaaDoorF10b
import Derived.Test.YtjlopclpofbgbaaDoorF10a
import Derived.Test.YtjlopclpofbgbaaDoorTyp
import Derived.Test.YtjlopclpofbgbaaDoorFlB
import Derived.Test.YtjlopclpofbgbaaDoorFlA
import Derived.WalkKit
import Derived.OwnWalkIn
import Derived.OrdersIn
import Derived.LoopNIn
import Derived.LoopIn
import Derived.RangeFuncNested
import Derived.RangeFuncBound
import Derived.RangeFuncLeaves
import Derived.Maps.OwnSet
import Derived.Laws.Tables
import Derived.Great.BuildSlice
import Derived.Maps.Views
import Derived.WalkSpells
import Derived.Carry
import Derived.Test.YtjlopclpofbgbaaDoorProg
set_option linter.unusedSimpArgs false
set_option linter.unusedVariables false
set_option maxRecDepth 100000
namespace Go.Proofs.YtjlopclpofbgbaaDoor
open Go Go.Fl
open Classical
def sF10l_f99_4 : List (Nat × Nat) := [(0, 0), (0, 0), (0, 0), (0, 0), (0, 0), (0, 0), (0, 0), (0, 0), (0, 0), (0, 0)]
theorem c70y (t : Town) (hl2 : t.pl.length ≤ 1000) (h : validT t) : PC Tryd.prog 70 [hF t, .bool true] (.int .i64 0) := by
  have := c70 t hl2 True
  rw [askT_yes h trivial] at this
  simpa only [decide_true] using this
theorem c99 (t : Town) (hv : okThings t.ts) (hl : t.ts.length ≤ 1000) (hp : t.pl.length = t.ts.length) : PC Tryd.prog 99 [hF t] (.bool (decide (safeP t))) := by
  refine PC.body Tryd.func99 (by kernel_rfl) rfl (by simp [Tryd.f99]) rfl ?_
  simp only [Tryd.f99]
  intro hlen
  simp only [go_sem, List.length_map, and_true, true_and] at hlen
  refine CV.run ?_
  (repeat' (first | ((with_reducible first | apply sg | apply si | apply sq | apply sd) <;> intro hb <;> (try rw [hb]) <;> (try simp only [bq, bz, dtrue, dfalse] at hb) <;> (try simp only [within] at hb) <;> try simp only [go_sem]) | refine And.intro (by first | exact ⟨⟩ | omega | (simp only [I64]; omega)) ?_ | (with_reducible rw [vc_draw_eq]; first | (refine CV.draw (id := 4) sF10l_f99_4 mixed rfl (by kernel_rfl) ?_; delta sF10l_f99_4)) | (simp only [go_sem])))
  refine vc_for (fun b => ⟨[(3, .int .i64 b), (1, .lp 0 0), (2, .bool false)], [.box 28 (cT t) false]⟩) t.rm.length (fun b => ∀ k : Nat, k < b → los t k = [] ∧ sta t k = []) (by (first | exact wk_same (by simp only [go_sem, Int.natCast_add, cn, Int.cast_ofNat_Int]) | (refine wk_drop ?_ ?_ ?_ ?_ ?_ <;> simp only [go_sem, Int.natCast_add, cn, Int.cast_ofNat_Int]))) (fun k h => by omega) ?_
  intro b hb hx
  rcases Nat.lt_or_ge b t.rm.length with hlt | hge
  · have hlt' : (b : Int) < t.rm.length := by omega
    have h73 := c73 t hv hl hp b
    have h74 := c74 t hv hl hp b
    have h1 := los_len (t := t) (b := b)
    have h2 := sta_len (t := t) (b := b)
    by_cases h : los t b = [] ∧ sta t b = []
    · rw [h.1] at h73
      rw [h.2] at h74
      (repeat' (first | ((with_reducible first | apply sg | apply si | apply sq | apply sd) <;> intro hb <;> (try rw [hb]) <;> (try simp only [bq, bz, dtrue, dfalse] at hb) <;> (try simp only [within] at hb) <;> try simp only [go_sem]) | refine And.intro (by first | exact ⟨⟩ | omega | (simp only [I64]; omega)) ?_ | (with_reducible rw [vc_draw_eq]; first | (refine CV.draw (id := 4) sF10l_f99_4 mixed rfl (by kernel_rfl) ?_; delta sF10l_f99_4)) | ((with_reducible first | refine vp h73 ?_ ?_ | refine dc h73 ?_ ?_ | refine vp h74 ?_ ?_ | refine dc h74 ?_ ?_); focus (first | exact ⟨rfl, .inl ⟨by first | rfl | (simp only [go_sem, hlt', List.length_map, List.length_nil, AV.pureL, AV.pure]; done), by first | (simp only [go_sem, hlt', List.length_map, List.length_nil, AV.pureL, AV.pure]; done) | rfl⟩⟩ | exact ⟨rfl, .inr ⟨rfl, by simp only [go_sem, hlt', List.length_map, List.length_nil]⟩⟩)) | ((with_reducible first | refine dp h73 ?_ ?_ | refine dp h74 ?_ ?_); focus (exact ⟨rfl, by first | rfl | (simp only [go_sem, hlt', List.length_map, List.length_nil, AV.pureL, AV.pure]; done), by first | (simp only [go_sem, hlt', List.length_map, List.length_nil, AV.pureL, AV.pure]; done) | rfl⟩)) | ((with_reducible first | refine ds h73 ?_ ?_ | refine ds h74 ?_ ?_); focus exact ⟨rfl, rfl⟩) | (simp only [go_sem, hlt', List.length_map, List.length_nil])))
      all_goals first
        | (exfalso; omega)
        | (refine ⟨by (first | exact wk_same (by simp only [go_sem, Int.natCast_add, cn, Int.cast_ofNat_Int]) | (refine wk_drop ?_ ?_ ?_ ?_ ?_ <;> simp only [go_sem, Int.natCast_add, cn, Int.cast_ofNat_Int])), fun k hk => ?_⟩
           rcases Nat.lt_or_ge k b with q | q
           · exact hx k q
           · have : k = b := by omega
             subst this; exact h)
    · have h3 : (0 : Int) < (los t b).length + (sta t b).length := by
        rcases Nat.eq_zero_or_pos ((los t b).length + (sta t b).length) with q | q
        · exact absurd ⟨List.eq_nil_of_length_eq_zero (by omega), List.eq_nil_of_length_eq_zero (by omega)⟩ h
        · omega
      (repeat' (first | ((with_reducible first | apply sg | apply si | apply sq | apply sd) <;> intro hb <;> (try rw [hb]) <;> (try simp only [bq, bz, dtrue, dfalse] at hb) <;> (try simp only [within] at hb) <;> try simp only [go_sem]) | refine And.intro (by first | exact ⟨⟩ | omega | (simp only [I64]; omega)) ?_ | (with_reducible rw [vc_draw_eq]; first | (refine CV.draw (id := 4) sF10l_f99_4 mixed rfl (by kernel_rfl) ?_; delta sF10l_f99_4)) | ((with_reducible first | refine vp h73 ?_ ?_ | refine dc h73 ?_ ?_ | refine vp h74 ?_ ?_ | refine dc h74 ?_ ?_); focus (first | exact ⟨rfl, .inl ⟨by first | rfl | (simp only [go_sem, hlt', h3, List.length_map, AV.pureL, AV.pure]; done), by first | (simp only [go_sem, hlt', h3, List.length_map, AV.pureL, AV.pure]; done) | rfl⟩⟩ | exact ⟨rfl, .inr ⟨rfl, by simp only [go_sem, hlt', h3, List.length_map]⟩⟩)) | ((with_reducible first | refine dp h73 ?_ ?_ | refine dp h74 ?_ ?_); focus (exact ⟨rfl, by first | rfl | (simp only [go_sem, hlt', h3, List.length_map, AV.pureL, AV.pure]; done), by first | (simp only [go_sem, hlt', h3, List.length_map, AV.pureL, AV.pure]; done) | rfl⟩)) | ((with_reducible first | refine ds h73 ?_ ?_ | refine ds h74 ?_ ?_); focus exact ⟨rfl, rfl⟩) | (simp only [go_sem, hlt', h3, List.length_map])))
      all_goals first
        | omega
        | exact bf (p := safeP t) fun hs => h (hs b hlt)
  · have hge' : ¬ (b : Int) < t.rm.length := by omega
    (repeat' (first | ((with_reducible first | apply sg | apply si | apply sq | apply sd) <;> intro hb <;> (try rw [hb]) <;> (try simp only [bq, bz, dtrue, dfalse] at hb) <;> (try simp only [within] at hb) <;> try simp only [go_sem]) | refine And.intro (by first | exact ⟨⟩ | omega | (simp only [I64]; omega)) ?_ | (with_reducible rw [vc_draw_eq]; first | (refine CV.draw (id := 4) sF10l_f99_4 mixed rfl (by kernel_rfl) ?_; delta sF10l_f99_4)) | (simp only [go_sem, hge', List.length_map])))
    exact bt (p := safeP t) fun k hk => hx k (by omega)
theorem c60n (t : Town) (hl2 : t.pl.length ≤ 1000) (h : ¬ validT t) : PC Tryd.prog 60 [hF t] (.tup [.bool false, .int .i64 100]) := by
  have h50 := c50 t hl2
  rw [checkT_no h] at h50
  refine PC.body Tryd.func60 (by kernel_rfl) rfl (by simp [Tryd.f60]) rfl ?_
  simp only [Tryd.f60]
  intro hlen
  simp only [go_sem, List.length_map, and_true, true_and] at hlen
  refine CV.run ?_
  (repeat' (first | ((with_reducible first | apply sg | apply si | apply sq | apply sd) <;> intro hb <;> (try rw [hb]) <;> (try simp only [bq, bz, dtrue, dfalse] at hb) <;> (try simp only [within] at hb) <;> try simp only [go_sem]) | refine And.intro (by first | exact ⟨⟩ | omega | (simp only [I64]; omega)) ?_ | ((with_reducible first | refine vp h50 ?_ ?_); focus (first | exact ⟨rfl, .inl ⟨by first | rfl | (simp only [go_sem, AV.pureL, AV.pure]; done), by first | (simp only [go_sem, AV.pureL, AV.pure]; done) | rfl⟩⟩ | exact ⟨rfl, .inr ⟨rfl, by simp only [go_sem]⟩⟩)) | (simp only [go_sem])))
theorem c60y (t : Town) (hl2 : t.pl.length ≤ 1000) (hv : validT t) : PC Tryd.prog 60 [hF t] (.tup [.bool (decide (safeP t)), .int .i64 0]) := by
  have h50 := c50 t hl2
  rw [checkT_yes hv] at h50
  have h99 := c99 t hv.things (by have := hv.len; omega) hv.lp
  refine PC.body Tryd.func60 (by kernel_rfl) rfl (by simp [Tryd.f60]) rfl ?_
  simp only [Tryd.f60]
  intro hlen
  simp only [go_sem, List.length_map, and_true, true_and] at hlen
  refine CV.run ?_
  (repeat' (first | ((with_reducible first | apply sg | apply si | apply sq | apply sd) <;> intro hb <;> (try rw [hb]) <;> (try simp only [bq, bz, dtrue, dfalse] at hb) <;> (try simp only [within] at hb) <;> try simp only [go_sem]) | refine And.intro (by first | exact ⟨⟩ | omega | (simp only [I64]; omega)) ?_ | ((with_reducible first | refine vp h50 ?_ ?_ | refine vp h99 ?_ ?_); focus (first | exact ⟨rfl, .inl ⟨by first | rfl | (simp only [go_sem, AV.pureL, AV.pure]; done), by first | (simp only [go_sem, AV.pureL, AV.pure]; done) | rfl⟩⟩ | exact ⟨rfl, .inr ⟨rfl, by simp only [go_sem]⟩⟩)) | (simp only [go_sem])))
end Go.Proofs.YtjlopclpofbgbaaDoor

