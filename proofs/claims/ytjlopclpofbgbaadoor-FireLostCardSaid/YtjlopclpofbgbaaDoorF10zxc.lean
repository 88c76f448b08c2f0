/- Contracts of functions of the given program, without a condition beyond those that each theorem states; they lead to the given statement. -/
import Derived.Test.YtjlopclpofbgbaaDoorF10z
import Derived.Test.YtjlopclpofbgbaaDoorF10y
import Derived.Test.YtjlopclpofbgbaaDoorF10t
import Derived.Test.YtjlopclpofbgbaaDoorF10r
import Derived.Test.YtjlopclpofbgbaaDoorF10qxc
import Derived.Test.YtjlopclpofbgbaaDoorF10q
import Derived.Test.YtjlopclpofbgbaaDoorF10p
import Derived.Test.YtjlopclpofbgbaaDoorF10o
import Derived.Test.YtjlopclpofbgbaaDoorF10n
import Derived.Test.YtjlopclpofbgbaaDoorF10m
import Derived.Test.YtjlopclpofbgbaaDoorF10lxc
import Derived.Test.YtjlopclpofbgbaaDoorF10l
import Derived.Test.YtjlopclpofbgbaaDoorF10kxc
import Derived.Test.YtjlopclpofbgbaaDoorF10k
import Derived.Test.YtjlopclpofbgbaaDoorF10jxc
import Derived.Test.YtjlopclpofbgbaaDoorF10j
import Derived.Test.YtjlopclpofbgbaaDoorF10ixc
import Derived.Test.YtjlopclpofbgbaaDoorF10i
import Derived.Test.YtjlopclpofbgbaaDoorF10h
import Derived.Test.YtjlopclpofbgbaaDoorF10g
import Derived.Test.YtjlopclpofbgbaaDoorF10f
import Derived.Test.YtjlopclpofbgbaaDoorF10e
import Derived.Test.YtjlopclpofbgbaaDoorF10d
import Derived.Test.YtjlopclpofbgbaaDoorF10c
import Derived.Test.YtjlopclpofbgbaaDoorF10b
import Derived.Test.YtjlopclpofbgbaaDoorF10a
import Derived.Test.YtjlopclpofbgbaaDoorTyp
import Derived.Test.YtjlopclpofbgbaaDoorFlB
import Derived.Test.YtjlopclpofbgbaaDoorFlA
import Derived.WalkKit
import Derived.OwnWalkIn
import Derived.OrdersIn
import Derived.LoopNIn
import Derived.LoopIn
import Derived.RangeFuncNested
import Derived.RangeFuncBound
import Derived.RangeFuncLeaves
import Derived.Maps.OwnSet
import Derived.Laws.Tables
import Derived.Great.BuildSlice
import Derived.Maps.Views
import Derived.WalkSpells
import Derived.Carry
import Derived.Test.YtjlopclpofbgbaaDoorProg
set_option linter.unusedSimpArgs false
set_option linter.unusedVariables false
set_option maxRecDepth 100000
namespace Go.Proofs.YtjlopclpofbgbaaDoor
open Go Go.Fl
open Classical
def sF10z_f31_1 : List (Nat × Nat) := [(0, 0), (0, 0), (0, 0), (0, 0), (0, 0), (0, 0), (0, 0), (0, 0), (0, 0), (0, 0), (0, 0)]
def sF10z_f31_4 : List (Nat × Nat) := [(0, 0), (0, 0), (0, 0), (0, 0), (0, 0), (0, 0), (0, 0)]
def sF10z_f31_7 : List (Nat × Nat) := [(0, 0), (0, 0), (0, 0), (0, 0), (0, 0), (0, 0)]
def sF10z_f31_11 : List (Nat × Nat) := [(0, 0), (0, 0), (0, 0), (0, 0), (0, 0), (0, 0), (0, 0)]
set_option maxHeartbeats 1000000 in
theorem c30n (t : Town) (b p : Int) (h : ¬ (validT t ∧ (house t b ∧ isPage t p))) : PC Tryd.prog 30 [hF t, .int .i64 b, .int .i64 p] (.tup [.nilS, .int .i64 (askT t (house t b ∧ isPage t p))]) := by
  have h68 := c68 t b
  have h75 := c75 t p
  have h67 := c67n t (house t b ∧ isPage t p) h
  have hne := ask_ne h
  by_cases hb : house t b
  · replace h68 := h68.tru hb
    by_cases hp : isPage t p
    · replace h75 := h75.tru hp
      rw [eq_true (⟨hb, hp⟩ : house t b ∧ isPage t p)] at h67 hne ⊢
      simp only [decide_true] at h67
      refine PC.body Tryd.func30 (by kernel_rfl) rfl (by simp [Tryd.f30]) rfl ?_
      simp only [Tryd.f30]
      intro hlen
      simp only [go_sem, List.length_map, and_true, true_and] at hlen
      refine CV.run ?_
      (repeat' (first | ((with_reducible first | apply sg | apply si | apply sq | apply sd) <;> intro hb <;> (try rw [hb]) <;> (try simp only [bq, bz, dtrue, dfalse] at hb) <;> (try simp only [within] at hb) <;> try simp only [go_sem]) | refine And.intro (by first | exact ⟨⟩ | omega | (simp only [I64]; omega)) ?_ | (with_reducible rw [vc_draw_eq]; first | (refine CV.draw (id := 1) sF10z_f30_1 mixed rfl (by kernel_rfl) ?_; delta sF10z_f30_1) | (refine CV.draw (id := 9) sF10z_f30_9 mixed rfl (by kernel_rfl) ?_; delta sF10z_f30_9) | (refine CV.draw (id := 10) sF10z_f30_10 mixed rfl (by kernel_rfl) ?_; delta sF10z_f30_10) | (refine CV.draw (id := 12) sF10z_f30_12 mixed rfl (by kernel_rfl) ?_; delta sF10z_f30_12)) | ((with_reducible first | refine vp h68 ?_ ?_ | refine dc h68 ?_ ?_ | refine vp h75 ?_ ?_ | refine dc h75 ?_ ?_ | refine vp h67 ?_ ?_ | refine dc h67 ?_ ?_); focus (first | exact ⟨rfl, .inl ⟨by first | rfl | (simp only [go_sem, hne, AV.pureL, AV.pure]; done), by first | (simp only [go_sem, hne, AV.pureL, AV.pure]; done) | rfl⟩⟩ | exact ⟨rfl, .inr ⟨rfl, by simp only [go_sem, hne]⟩⟩)) | ((with_reducible first | refine dp h68 ?_ ?_ | refine dp h75 ?_ ?_ | refine dp h67 ?_ ?_); focus (exact ⟨rfl, by first | rfl | (simp only [go_sem, hne, AV.pureL, AV.pure]; done), by first | (simp only [go_sem, hne, AV.pureL, AV.pure]; done) | rfl⟩)) | ((with_reducible first | refine ds h68 ?_ ?_ | refine ds h75 ?_ ?_ | refine ds h67 ?_ ?_); focus exact ⟨rfl, rfl⟩) | (with_reducible refine vcM_some fun mg => ?_) | (simp only [go_sem, hne])))
    · replace h75 := h75.fls hp
      rw [eq_false (fun h => hp h.2 : ¬ (house t b ∧ isPage t p))] at h67 hne ⊢
      simp only [decide_false] at h67
      refine PC.body Tryd.func30 (by kernel_rfl) rfl (by simp [Tryd.f30]) rfl ?_
      simp only [Tryd.f30]
      intro hlen
      simp only [go_sem, List.length_map, and_true, true_and] at hlen
      refine CV.run ?_
      (repeat' (first | ((with_reducible first | apply sg | apply si | apply sq | apply sd) <;> intro hb <;> (try rw [hb]) <;> (try simp only [bq, bz, dtrue, dfalse] at hb) <;> (try simp only [within] at hb) <;> try simp only [go_sem]) | refine And.intro (by first | exact ⟨⟩ | omega | (simp only [I64]; omega)) ?_ | (with_reducible rw [vc_draw_eq]; first | (refine CV.draw (id := 1) sF10z_f30_1 mixed rfl (by kernel_rfl) ?_; delta sF10z_f30_1) | (refine CV.draw (id := 9) sF10z_f30_9 mixed rfl (by kernel_rfl) ?_; delta sF10z_f30_9) | (refine CV.draw (id := 10) sF10z_f30_10 mixed rfl (by kernel_rfl) ?_; delta sF10z_f30_10) | (refine CV.draw (id := 12) sF10z_f30_12 mixed rfl (by kernel_rfl) ?_; delta sF10z_f30_12)) | ((with_reducible first | refine vp h68 ?_ ?_ | refine dc h68 ?_ ?_ | refine vp h75 ?_ ?_ | refine dc h75 ?_ ?_ | refine vp h67 ?_ ?_ | refine dc h67 ?_ ?_); focus (first | exact ⟨rfl, .inl ⟨by first | rfl | (simp only [go_sem, hne, AV.pureL, AV.pure]; done), by first | (simp only [go_sem, hne, AV.pureL, AV.pure]; done) | rfl⟩⟩ | exact ⟨rfl, .inr ⟨rfl, by simp only [go_sem, hne]⟩⟩)) | ((with_reducible first | refine dp h68 ?_ ?_ | refine dp h75 ?_ ?_ | refine dp h67 ?_ ?_); focus (exact ⟨rfl, by first | rfl | (simp only [go_sem, hne, AV.pureL, AV.pure]; done), by first | (simp only [go_sem, hne, AV.pureL, AV.pure]; done) | rfl⟩)) | ((with_reducible first | refine ds h68 ?_ ?_ | refine ds h75 ?_ ?_ | refine ds h67 ?_ ?_); focus exact ⟨rfl, rfl⟩) | (with_reducible refine vcM_some fun mg => ?_) | (simp only [go_sem, hne])))
  · replace h68 := h68.fls hb
    rw [eq_false (fun h => hb h.1 : ¬ (house t b ∧ isPage t p))] at h67 hne ⊢
    simp only [decide_false] at h67
    refine PC.body Tryd.func30 (by kernel_rfl) rfl (by simp [Tryd.f30]) rfl ?_
    simp only [Tryd.f30]
    intro hlen
    simp only [go_sem, List.length_map, and_true, true_and] at hlen
    refine CV.run ?_
    (repeat' (first | ((with_reducible first | apply sg | apply si | apply sq | apply sd) <;> intro hb <;> (try rw [hb]) <;> (try simp only [bq, bz, dtrue, dfalse] at hb) <;> (try simp only [within] at hb) <;> try simp only [go_sem]) | refine And.intro (by first | exact ⟨⟩ | omega | (simp only [I64]; omega)) ?_ | (with_reducible rw [vc_draw_eq]; first | (refine CV.draw (id := 1) sF10z_f30_1 mixed rfl (by kernel_rfl) ?_; delta sF10z_f30_1) | (refine CV.draw (id := 9) sF10z_f30_9 mixed rfl (by kernel_rfl) ?_; delta sF10z_f30_9) | (refine CV.draw (id := 10) sF10z_f30_10 mixed rfl (by kernel_rfl) ?_; delta sF10z_f30_10) | (refine CV.draw (id := 12) sF10z_f30_12 mixed rfl (by kernel_rfl) ?_; delta sF10z_f30_12)) | ((with_reducible first | refine vp h68 ?_ ?_ | refine dc h68 ?_ ?_ | refine vp h75 ?_ ?_ | refine dc h75 ?_ ?_ | refine vp h67 ?_ ?_ | refine dc h67 ?_ ?_); focus (first | exact ⟨rfl, .inl ⟨by first | rfl | (simp only [go_sem, hne, AV.pureL, AV.pure]; done), by first | (simp only [go_sem, hne, AV.pureL, AV.pure]; done) | rfl⟩⟩ | exact ⟨rfl, .inr ⟨rfl, by simp only [go_sem, hne]⟩⟩)) | ((with_reducible first | refine dp h68 ?_ ?_ | refine dp h75 ?_ ?_ | refine dp h67 ?_ ?_); focus (exact ⟨rfl, by first | rfl | (simp only [go_sem, hne, AV.pureL, AV.pure]; done), by first | (simp only [go_sem, hne, AV.pureL, AV.pure]; done) | rfl⟩)) | ((with_reducible first | refine ds h68 ?_ ?_ | refine ds h75 ?_ ?_ | refine ds h67 ?_ ?_); focus exact ⟨rfl, rfl⟩) | (with_reducible refine vcM_some fun mg => ?_) | (simp only [go_sem, hne])))
set_option maxHeartbeats 1000000 in
theorem c31n (t : Town) (hl2 : t.pl.length ≤ 1000) (b p : Int) (h : ¬ (validT t ∧ (house t b ∧ isPage t p))) : PC Tryd.prog 31 [hF t, .int .i64 b, .int .i64 p] (.tup [.nilS, .int .i64 (askT t (house t b ∧ isPage t p))]) := by
  have h20 := c20 t b
  have h44 := c44 t p
  have h70 := c70 t hl2 (house t b ∧ isPage t p)
  have hne := ask_ne h
  by_cases hb : house t b
  · replace h20 := h20.tru hb
    by_cases hp : isPage t p
    · replace h44 := h44.tru hp
      rw [eq_true (⟨hb, hp⟩ : house t b ∧ isPage t p)] at h70 hne ⊢
      simp only [decide_true] at h70
      refine PC.body Tryd.func31 (by kernel_rfl) rfl (by simp [Tryd.f31]) rfl ?_
      simp only [Tryd.f31]
      intro hlen
      simp only [go_sem, List.length_map, and_true, true_and] at hlen
      refine CV.run ?_
      (repeat' (first | ((with_reducible first | apply sg | apply si | apply sq | apply sd) <;> intro hb <;> (try rw [hb]) <;> (try simp only [bq, bz, dtrue, dfalse] at hb) <;> (try simp only [within] at hb) <;> try simp only [go_sem]) | refine And.intro (by first | exact ⟨⟩ | omega | (simp only [I64]; omega)) ?_ | (with_reducible rw [vc_draw_eq]; first | (refine CV.draw (id := 1) sF10z_f31_1 mixed rfl (by kernel_rfl) ?_; delta sF10z_f31_1) | (refine CV.draw (id := 4) sF10z_f31_4 mixed rfl (by kernel_rfl) ?_; delta sF10z_f31_4) | (refine CV.draw (id := 7) sF10z_f31_7 mixed rfl (by kernel_rfl) ?_; delta sF10z_f31_7) | (refine CV.draw (id := 11) sF10z_f31_11 mixed rfl (by kernel_rfl) ?_; delta sF10z_f31_11)) | ((with_reducible first | refine vp h20 ?_ ?_ | refine dc h20 ?_ ?_ | refine vp h44 ?_ ?_ | refine dc h44 ?_ ?_ | refine vp h70 ?_ ?_ | refine dc h70 ?_ ?_); focus (first | exact ⟨rfl, .inl ⟨by first | rfl | (simp only [go_sem, hne, AV.pureL, AV.pure]; done), by first | (simp only [go_sem, hne, AV.pureL, AV.pure]; done) | rfl⟩⟩ | exact ⟨rfl, .inr ⟨rfl, by simp only [go_sem, hne]⟩⟩)) | ((with_reducible first | refine dp h20 ?_ ?_ | refine dp h44 ?_ ?_ | refine dp h70 ?_ ?_); focus (exact ⟨rfl, by first | rfl | (simp only [go_sem, hne, AV.pureL, AV.pure]; done), by first | (simp only [go_sem, hne, AV.pureL, AV.pure]; done) | rfl⟩)) | ((with_reducible first | refine ds h20 ?_ ?_ | refine ds h44 ?_ ?_ | refine ds h70 ?_ ?_); focus exact ⟨rfl, rfl⟩) | (with_reducible refine vcM_some fun mg => ?_) | (simp only [go_sem, hne])))
    · replace h44 := h44.fls hp
      rw [eq_false (fun h => hp h.2 : ¬ (house t b ∧ isPage t p))] at h70 hne ⊢
      simp only [decide_false] at h70
      refine PC.body Tryd.func31 (by kernel_rfl) rfl (by simp [Tryd.f31]) rfl ?_
      simp only [Tryd.f31]
      intro hlen
      simp only [go_sem, List.length_map, and_true, true_and] at hlen
      refine CV.run ?_
      (repeat' (first | ((with_reducible first | apply sg | apply si | apply sq | apply sd) <;> intro hb <;> (try rw [hb]) <;> (try simp only [bq, bz, dtrue, dfalse] at hb) <;> (try simp only [within] at hb) <;> try simp only [go_sem]) | refine And.intro (by first | exact ⟨⟩ | omega | (simp only [I64]; omega)) ?_ | (with_reducible rw [vc_draw_eq]; first | (refine CV.draw (id := 1) sF10z_f31_1 mixed rfl (by kernel_rfl) ?_; delta sF10z_f31_1) | (refine CV.draw (id := 4) sF10z_f31_4 mixed rfl (by kernel_rfl) ?_; delta sF10z_f31_4) | (refine CV.draw (id := 7) sF10z_f31_7 mixed rfl (by kernel_rfl) ?_; delta sF10z_f31_7) | (refine CV.draw (id := 11) sF10z_f31_11 mixed rfl (by kernel_rfl) ?_; delta sF10z_f31_11)) | ((with_reducible first | refine vp h20 ?_ ?_ | refine dc h20 ?_ ?_ | refine vp h44 ?_ ?_ | refine dc h44 ?_ ?_ | refine vp h70 ?_ ?_ | refine dc h70 ?_ ?_); focus (first | exact ⟨rfl, .inl ⟨by first | rfl | (simp only [go_sem, hne, AV.pureL, AV.pure]; done), by first | (simp only [go_sem, hne, AV.pureL, AV.pure]; done) | rfl⟩⟩ | exact ⟨rfl, .inr ⟨rfl, by simp only [go_sem, hne]⟩⟩)) | ((with_reducible first | refine dp h20 ?_ ?_ | refine dp h44 ?_ ?_ | refine dp h70 ?_ ?_); focus (exact ⟨rfl, by first | rfl | (simp only [go_sem, hne, AV.pureL, AV.pure]; done), by first | (simp only [go_sem, hne, AV.pureL, AV.pure]; done) | rfl⟩)) | ((with_reducible first | refine ds h20 ?_ ?_ | refine ds h44 ?_ ?_ | refine ds h70 ?_ ?_); focus exact ⟨rfl, rfl⟩) | (with_reducible refine vcM_some fun mg => ?_) | (simp only [go_sem, hne])))
  · replace h20 := h20.fls hb
    rw [eq_false (fun h => hb h.1 : ¬ (house t b ∧ isPage t p))] at h70 hne ⊢
    simp only [decide_false] at h70
    refine PC.body Tryd.func31 (by kernel_rfl) rfl (by simp [Tryd.f31]) rfl ?_
    simp only [Tryd.f31]
    intro hlen
    simp only [go_sem, List.length_map, and_true, true_and] at hlen
    refine CV.run ?_
    (repeat' (first | ((with_reducible first | apply sg | apply si | apply sq | apply sd) <;> intro hb <;> (try rw [hb]) <;> (try simp only [bq, bz, dtrue, dfalse] at hb) <;> (try simp only [within] at hb) <;> try simp only [go_sem]) | refine And.intro (by first | exact ⟨⟩ | omega | (simp only [I64]; omega)) ?_ | (with_reducible rw [vc_draw_eq]; first | (refine CV.draw (id := 1) sF10z_f31_1 mixed rfl (by kernel_rfl) ?_; delta sF10z_f31_1) | (refine CV.draw (id := 4) sF10z_f31_4 mixed rfl (by kernel_rfl) ?_; delta sF10z_f31_4) | (refine CV.draw (id := 7) sF10z_f31_7 mixed rfl (by kernel_rfl) ?_; delta sF10z_f31_7) | (refine CV.draw (id := 11) sF10z_f31_11 mixed rfl (by kernel_rfl) ?_; delta sF10z_f31_11)) | ((with_reducible first | refine vp h20 ?_ ?_ | refine dc h20 ?_ ?_ | refine vp h44 ?_ ?_ | refine dc h44 ?_ ?_ | refine vp h70 ?_ ?_ | refine dc h70 ?_ ?_); focus (first | exact ⟨rfl, .inl ⟨by first | rfl | (simp only [go_sem, hne, AV.pureL, AV.pure]; done), by first | (simp only [go_sem, hne, AV.pureL, AV.pure]; done) | rfl⟩⟩ | exact ⟨rfl, .inr ⟨rfl, by simp only [go_sem, hne]⟩⟩)) | ((with_reducible first | refine dp h20 ?_ ?_ | refine dp h44 ?_ ?_ | refine dp h70 ?_ ?_); focus (exact ⟨rfl, by first | rfl | (simp only [go_sem, hne, AV.pureL, AV.pure]; done), by first | (simp only [go_sem, hne, AV.pureL, AV.pure]; done) | rfl⟩)) | ((with_reducible first | refine ds h20 ?_ ?_ | refine ds h44 ?_ ?_ | refine ds h70 ?_ ?_); focus exact ⟨rfl, rfl⟩) | (with_reducible refine vcM_some fun mg => ?_) | (simp only [go_sem, hne])))
set_option maxHeartbeats 1000000 in
theorem c31y (t : Town) (b p : Int) (hv : validT t) (hb : house t b) (hp : isPage t p) : PC Tryd.prog 31 [hF t, .int .i64 b, .int .i64 p] (resA (ag t (lft t (thg t p) b))) := by
  have hl : t.ts.length ≤ 1000 := by have := hv.len; omega
  have h20 := (c20 t b).tru hb
  have h44 := (c44 t p).tru hp
  have h70 := c70y t (by have := hv.lp; omega) hv
  have h45 := c45 t hv.things hl p
  have h71 := cLf t hv.lp hl p b
  have hLr : ∀ y, y ∈ lft t (thg t p) b → 0 ≤ y ∧ y < t.ts.length := fun y hy => by have := thg_mem.1 (fil_mem.1 hy).1; omega
  have hLl : (lft t (thg t p) b).length ≤ t.ts.length := Nat.le_trans fil_len thg_len
  generalize lft t (thg t p) b = L at h71 hLr hLl
  rcases L with _ | ⟨x, r⟩
  · simp only [ag, List.foldl_nil, resA]
    refine PC.body Tryd.func31 (by kernel_rfl) rfl (by simp [Tryd.f31]) rfl ?_
    simp only [Tryd.f31]
    intro hlen
    simp only [go_sem, List.length_map, and_true, true_and] at hlen
    refine CV.run ?_
    (repeat' (first | ((with_reducible first | apply sg | apply si | apply sq | apply sd) <;> intro hb <;> (try rw [hb]) <;> (try simp only [bq, bz, dtrue, dfalse] at hb) <;> (try simp only [within] at hb) <;> try simp only [go_sem]) | refine And.intro (by first | exact ⟨⟩ | omega | (simp only [I64]; omega)) ?_ | (with_reducible rw [vc_draw_eq]; first | (refine CV.draw (id := 1) sF10z_f31_1 mixed rfl (by kernel_rfl) ?_; delta sF10z_f31_1) | (refine CV.draw (id := 4) sF10z_f31_4 mixed rfl (by kernel_rfl) ?_; delta sF10z_f31_4) | (refine CV.draw (id := 7) sF10z_f31_7 mixed rfl (by kernel_rfl) ?_; delta sF10z_f31_7) | (refine CV.draw (id := 11) sF10z_f31_11 mixed rfl (by kernel_rfl) ?_; delta sF10z_f31_11)) | ((with_reducible first | refine vp h20 ?_ ?_ | refine dc h20 ?_ ?_ | refine vp h44 ?_ ?_ | refine dc h44 ?_ ?_ | refine vp h70 ?_ ?_ | refine dc h70 ?_ ?_ | refine vp h45 ?_ ?_ | refine dc h45 ?_ ?_ | refine vp h71 ?_ ?_ | refine dc h71 ?_ ?_); focus (first | exact ⟨rfl, .inl ⟨by first | rfl | (simp only [go_sem, List.map_nil, List.length_nil, AV.pureL, AV.pure]; done), by first | (simp only [go_sem, List.map_nil, List.length_nil, AV.pureL, AV.pure]; done) | rfl⟩⟩ | exact ⟨rfl, .inr ⟨rfl, by simp only [go_sem, List.map_nil, List.length_nil]⟩⟩)) | ((with_reducible first | refine dp h20 ?_ ?_ | refine dp h44 ?_ ?_ | refine dp h70 ?_ ?_ | refine dp h45 ?_ ?_ | refine dp h71 ?_ ?_); focus (exact ⟨rfl, by first | rfl | (simp only [go_sem, List.map_nil, List.length_nil, AV.pureL, AV.pure]; done), by first | (simp only [go_sem, List.map_nil, List.length_nil, AV.pureL, AV.pure]; done) | rfl⟩)) | ((with_reducible first | refine ds h20 ?_ ?_ | refine ds h44 ?_ ?_ | refine ds h70 ?_ ?_ | refine ds h45 ?_ ?_ | refine ds h71 ?_ ?_); focus exact ⟨rfl, rfl⟩) | (with_reducible refine vcM_some fun mg => ?_) | (simp only [go_sem, List.map_nil, List.length_nil])))
  · have hxr := hLr x (by simp)
    have h79 := c79 t hv.things hl x hxr.1 hxr.2
    have hne : ¬ (((x :: r).length : Nat) : Int) = 0 := by simp only [List.length_cons]; omega
    have hpos : (0 : Int) < ((x :: r).length : Nat) := by simp only [List.length_cons]; omega
    have hL0 : (x :: r)[0]? = some x := rfl
    have hLL : (x :: r).length = r.length + 1 := rfl
    have htk0 : (x :: r).take 1 = [x] := rfl
    have hev : ∀ k, ag t ((x :: r).take (k + 1)) = some ((ag t ((x :: r).take (k + 1))).getD []) := fun k => by
      obtain ⟨y, hy⟩ := ag_cons (t := t) (x := x) (L := r.take k)
      rw [List.take_succ_cons, hy]; rfl
    have hz : ag t ((x :: r).take (0 + 1)) = some (lks t x) := rfl
    have hfin : ag t (x :: r) = ag t ((x :: r).take (r.length + 1)) := by rw [← hLL, List.take_length]
    rw [hfin]
    generalize hL : x :: r = L at *
    refine PC.body Tryd.func31 (by kernel_rfl) rfl (by simp [Tryd.f31]) pure_resA ?_
    simp only [Tryd.f31]
    intro hlen
    simp only [go_sem, List.length_map, and_true, true_and] at hlen
    refine CV.run ?_
    (repeat' (first | ((with_reducible first | apply sg | apply si | apply sq | apply sd) <;> intro hb <;> (try rw [hb]) <;> (try simp only [bq, bz, dtrue, dfalse] at hb) <;> (try simp only [within] at hb) <;> try simp only [go_sem]) | refine And.intro (by first | exact ⟨⟩ | omega | (simp only [I64]; omega)) ?_ | (with_reducible rw [vc_draw_eq]; first | (refine CV.draw (id := 1) sF10z_f31_1 mixed rfl (by kernel_rfl) ?_; delta sF10z_f31_1) | (refine CV.draw (id := 4) sF10z_f31_4 mixed rfl (by kernel_rfl) ?_; delta sF10z_f31_4) | (refine CV.draw (id := 7) sF10z_f31_7 mixed rfl (by kernel_rfl) ?_; delta sF10z_f31_7) | (refine CV.draw (id := 11) sF10z_f31_11 mixed rfl (by kernel_rfl) ?_; delta sF10z_f31_11)) | ((with_reducible first | refine vp h20 ?_ ?_ | refine dc h20 ?_ ?_ | refine vp h44 ?_ ?_ | refine dc h44 ?_ ?_ | refine vp h70 ?_ ?_ | refine dc h70 ?_ ?_ | refine vp h45 ?_ ?_ | refine dc h45 ?_ ?_ | refine vp h71 ?_ ?_ | refine dc h71 ?_ ?_ | refine vp h79 ?_ ?_ | refine dc h79 ?_ ?_); focus (first | exact ⟨rfl, .inl ⟨by first | rfl | (simp only [go_sem, hne, hpos, hL0, encN, List.length_map, AV.pureL, AV.pure]; done), by first | (simp only [go_sem, hne, hpos, hL0, encN, List.length_map, AV.pureL, AV.pure]; done) | rfl⟩⟩ | exact ⟨rfl, .inr ⟨rfl, by simp only [go_sem, hne, hpos, hL0, encN, List.length_map]⟩⟩)) | ((with_reducible first | refine dp h20 ?_ ?_ | refine dp h44 ?_ ?_ | refine dp h70 ?_ ?_ | refine dp h45 ?_ ?_ | refine dp h71 ?_ ?_ | refine dp h79 ?_ ?_); focus (exact ⟨rfl, by first | rfl | (simp only [go_sem, hne, hpos, hL0, encN, List.length_map, AV.pureL, AV.pure]; done), by first | (simp only [go_sem, hne, hpos, hL0, encN, List.length_map, AV.pureL, AV.pure]; done) | rfl⟩)) | ((with_reducible first | refine ds h20 ?_ ?_ | refine ds h44 ?_ ?_ | refine ds h70 ?_ ?_ | refine ds h45 ?_ ?_ | refine ds h71 ?_ ?_ | refine ds h79 ?_ ?_); focus exact ⟨rfl, rfl⟩) | (with_reducible refine vcM_some fun mg => ?_) | (simp only [go_sem, hne, hpos, hL0, encN, List.length_map])))
    refine vc_for (fun j => ⟨[(11, .int .i64 (j + 1 : Nat)), (10, lN ((ag t (L.take (j + 1))).getD [])), (9, lN L), (3, .lp 0 0), (6, .nilS), (7, .int .i64 0)], [.box 28 (cT t) false]⟩) r.length (fun _ => True) (by (first | exact wk_same (by simp only [go_sem, Int.natCast_add, cn, Int.cast_ofNat_Int, hz, Option.getD_some]) | (refine wk_drop ?_ ?_ ?_ ?_ ?_ <;> simp only [go_sem, Int.natCast_add, cn, Int.cast_ofNat_Int, hz, Option.getD_some]))) trivial ?_
    intro j hj _
    have hS := hev j
    generalize hyS : (ag t (L.take (j + 1))).getD [] = y at hS ⊢
    rcases Nat.lt_or_ge (j + 1) L.length with hlt | hge
    · have hlt' : ((j + 1 : Nat) : Int) < L.length := by omega
      obtain ⟨z, hz2⟩ := get_of hlt
      have hzr := hLr z (List.mem_of_getElem? hz2)
      have h79z := c79 t hv.things hl z hzr.1 hzr.2
      have h43 := c43 (lks t z) y
      have hzj : L[((j + 1 : Nat) : Int).toNat]? = some z := by rw [Int.toNat_natCast]; exact hz2
      have e1 : ag t (L.take (j + 1 + 1)) = agS t (some y) z := by rw [take_next hz2, ag_snoc, hS]
      have hjr : j < r.length := by omega
      by_cases b1 : (lks t z).length < y.length
      · have b1' : ((lks t z).length : Int) < y.length := by omega
        have e2 : (ag t (L.take (j + 1 + 1))).getD [] = lks t z := by rw [e1, agS, if_pos (.inl b1)]; rfl
        (repeat' (first | ((with_reducible first | apply sg | apply si | apply sq | apply sd) <;> intro hb <;> (try rw [hb]) <;> (try simp only [bq, bz, dtrue, dfalse] at hb) <;> (try simp only [within] at hb) <;> try simp only [go_sem]) | refine And.intro (by first | exact ⟨⟩ | omega | (simp only [I64]; omega)) ?_ | (with_reducible rw [vc_draw_eq]; first | (refine CV.draw (id := 1) sF10z_f31_1 mixed rfl (by kernel_rfl) ?_; delta sF10z_f31_1) | (refine CV.draw (id := 4) sF10z_f31_4 mixed rfl (by kernel_rfl) ?_; delta sF10z_f31_4) | (refine CV.draw (id := 7) sF10z_f31_7 mixed rfl (by kernel_rfl) ?_; delta sF10z_f31_7) | (refine CV.draw (id := 11) sF10z_f31_11 mixed rfl (by kernel_rfl) ?_; delta sF10z_f31_11)) | ((with_reducible first | refine vp h79z ?_ ?_ | refine dc h79z ?_ ?_ | refine vp h43 ?_ ?_ | refine dc h43 ?_ ?_); focus (first | exact ⟨rfl, .inl ⟨by first | rfl | (simp only [go_sem, hlt', hz2, hzj, b1', encN, List.length_map, AV.pureL, AV.pure]; done), by first | (simp only [go_sem, hlt', hz2, hzj, b1', encN, List.length_map, AV.pureL, AV.pure]; done) | rfl⟩⟩ | exact ⟨rfl, .inr ⟨rfl, by simp only [go_sem, hlt', hz2, hzj, b1', encN, List.length_map]⟩⟩)) | ((with_reducible first | refine dp h79z ?_ ?_ | refine dp h43 ?_ ?_); focus (exact ⟨rfl, by first | rfl | (simp only [go_sem, hlt', hz2, hzj, b1', encN, List.length_map, AV.pureL, AV.pure]; done), by first | (simp only [go_sem, hlt', hz2, hzj, b1', encN, List.length_map, AV.pureL, AV.pure]; done) | rfl⟩)) | ((with_reducible first | refine ds h79z ?_ ?_ | refine ds h43 ?_ ?_); focus exact ⟨rfl, rfl⟩) | (with_reducible refine vcM_some fun mg => ?_) | (simp only [go_sem, hlt', hz2, hzj, b1', encN, List.length_map])))
        exact (by (first | exact wk_same (by simp only [go_sem, Int.natCast_add, cn, Int.cast_ofNat_Int, e2, Int.natCast_add, Int.natCast_one]) | (refine wk_drop ?_ ?_ ?_ ?_ ?_ <;> simp only [go_sem, Int.natCast_add, cn, Int.cast_ofNat_Int, e2, Int.natCast_add, Int.natCast_one])))
      · have b1' : ¬ ((lks t z).length : Int) < y.length := by omega
        by_cases b2 : ((lks t z).length : Int) = y.length
        · have b2' := eq_true b2
          by_cases b3 : earlier (lks t z) y
          · replace h43 := h43.tru b3
            have e2 : (ag t (L.take (j + 1 + 1))).getD [] = lks t z := by rw [e1, agS, if_pos (.inr ⟨by omega, b3⟩)]; rfl
            (repeat' (first | ((with_reducible first | apply sg | apply si | apply sq | apply sd) <;> intro hb <;> (try rw [hb]) <;> (try simp only [bq, bz, dtrue, dfalse] at hb) <;> (try simp only [within] at hb) <;> try simp only [go_sem]) | refine And.intro (by first | exact ⟨⟩ | omega | (simp only [I64]; omega)) ?_ | (with_reducible rw [vc_draw_eq]; first | (refine CV.draw (id := 1) sF10z_f31_1 mixed rfl (by kernel_rfl) ?_; delta sF10z_f31_1) | (refine CV.draw (id := 4) sF10z_f31_4 mixed rfl (by kernel_rfl) ?_; delta sF10z_f31_4) | (refine CV.draw (id := 7) sF10z_f31_7 mixed rfl (by kernel_rfl) ?_; delta sF10z_f31_7) | (refine CV.draw (id := 11) sF10z_f31_11 mixed rfl (by kernel_rfl) ?_; delta sF10z_f31_11)) | ((with_reducible first | refine vp h79z ?_ ?_ | refine dc h79z ?_ ?_ | refine vp h43 ?_ ?_ | refine dc h43 ?_ ?_); focus (first | exact ⟨rfl, .inl ⟨by first | rfl | (simp only [go_sem, hlt', hz2, hzj, b1', b2', encN, List.length_map, AV.pureL, AV.pure]; done), by first | (simp only [go_sem, hlt', hz2, hzj, b1', b2', encN, List.length_map, AV.pureL, AV.pure]; done) | rfl⟩⟩ | exact ⟨rfl, .inr ⟨rfl, by simp only [go_sem, hlt', hz2, hzj, b1', b2', encN, List.length_map]⟩⟩)) | ((with_reducible first | refine dp h79z ?_ ?_ | refine dp h43 ?_ ?_); focus (exact ⟨rfl, by first | rfl | (simp only [go_sem, hlt', hz2, hzj, b1', b2', encN, List.length_map, AV.pureL, AV.pure]; done), by first | (simp only [go_sem, hlt', hz2, hzj, b1', b2', encN, List.length_map, AV.pureL, AV.pure]; done) | rfl⟩)) | ((with_reducible first | refine ds h79z ?_ ?_ | refine ds h43 ?_ ?_); focus exact ⟨rfl, rfl⟩) | (with_reducible refine vcM_some fun mg => ?_) | (simp only [go_sem, hlt', hz2, hzj, b1', b2', encN, List.length_map])))
            exact (by (first | exact wk_same (by simp only [go_sem, Int.natCast_add, cn, Int.cast_ofNat_Int, e2, Int.natCast_add, Int.natCast_one]) | (refine wk_drop ?_ ?_ ?_ ?_ ?_ <;> simp only [go_sem, Int.natCast_add, cn, Int.cast_ofNat_Int, e2, Int.natCast_add, Int.natCast_one])))
          · replace h43 := h43.fls b3
            have e2 : (ag t (L.take (j + 1 + 1))).getD [] = y := by rw [e1, agS, if_neg (fun h => h.elim b1 fun h => b3 h.2)]; rfl
            (repeat' (first | ((with_reducible first | apply sg | apply si | apply sq | apply sd) <;> intro hb <;> (try rw [hb]) <;> (try simp only [bq, bz, dtrue, dfalse] at hb) <;> (try simp only [within] at hb) <;> try simp only [go_sem]) | refine And.intro (by first | exact ⟨⟩ | omega | (simp only [I64]; omega)) ?_ | (with_reducible rw [vc_draw_eq]; first | (refine CV.draw (id := 1) sF10z_f31_1 mixed rfl (by kernel_rfl) ?_; delta sF10z_f31_1) | (refine CV.draw (id := 4) sF10z_f31_4 mixed rfl (by kernel_rfl) ?_; delta sF10z_f31_4) | (refine CV.draw (id := 7) sF10z_f31_7 mixed rfl (by kernel_rfl) ?_; delta sF10z_f31_7) | (refine CV.draw (id := 11) sF10z_f31_11 mixed rfl (by kernel_rfl) ?_; delta sF10z_f31_11)) | ((with_reducible first | refine vp h79z ?_ ?_ | refine dc h79z ?_ ?_ | refine vp h43 ?_ ?_ | refine dc h43 ?_ ?_); focus (first | exact ⟨rfl, .inl ⟨by first | rfl | (simp only [go_sem, hlt', hz2, hzj, b1', b2', encN, List.length_map, AV.pureL, AV.pure]; done), by first | (simp only [go_sem, hlt', hz2, hzj, b1', b2', encN, List.length_map, AV.pureL, AV.pure]; done) | rfl⟩⟩ | exact ⟨rfl, .inr ⟨rfl, by simp only [go_sem, hlt', hz2, hzj, b1', b2', encN, List.length_map]⟩⟩)) | ((with_reducible first | refine dp h79z ?_ ?_ | refine dp h43 ?_ ?_); focus (exact ⟨rfl, by first | rfl | (simp only [go_sem, hlt', hz2, hzj, b1', b2', encN, List.length_map, AV.pureL, AV.pure]; done), by first | (simp only [go_sem, hlt', hz2, hzj, b1', b2', encN, List.length_map, AV.pureL, AV.pure]; done) | rfl⟩)) | ((with_reducible first | refine ds h79z ?_ ?_ | refine ds h43 ?_ ?_); focus exact ⟨rfl, rfl⟩) | (with_reducible refine vcM_some fun mg => ?_) | (simp only [go_sem, hlt', hz2, hzj, b1', b2', encN, List.length_map])))
            exact (by (first | exact wk_same (by simp only [go_sem, Int.natCast_add, cn, Int.cast_ofNat_Int, e2, Int.natCast_add, Int.natCast_one]) | (refine wk_drop ?_ ?_ ?_ ?_ ?_ <;> simp only [go_sem, Int.natCast_add, cn, Int.cast_ofNat_Int, e2, Int.natCast_add, Int.natCast_one])))
        · have e2 : (ag t (L.take (j + 1 + 1))).getD [] = y := by rw [e1, agS, if_neg (fun h => h.elim b1 fun h => b2 (by omega))]; rfl
          (repeat' (first | ((with_reducible first | apply sg | apply si | apply sq | apply sd) <;> intro hb <;> (try rw [hb]) <;> (try simp only [bq, bz, dtrue, dfalse] at hb) <;> (try simp only [within] at hb) <;> try simp only [go_sem]) | refine And.intro (by first | exact ⟨⟩ | omega | (simp only [I64]; omega)) ?_ | (with_reducible rw [vc_draw_eq]; first | (refine CV.draw (id := 1) sF10z_f31_1 mixed rfl (by kernel_rfl) ?_; delta sF10z_f31_1) | (refine CV.draw (id := 4) sF10z_f31_4 mixed rfl (by kernel_rfl) ?_; delta sF10z_f31_4) | (refine CV.draw (id := 7) sF10z_f31_7 mixed rfl (by kernel_rfl) ?_; delta sF10z_f31_7) | (refine CV.draw (id := 11) sF10z_f31_11 mixed rfl (by kernel_rfl) ?_; delta sF10z_f31_11)) | ((with_reducible first | refine vp h79z ?_ ?_ | refine dc h79z ?_ ?_ | refine vp h43 ?_ ?_ | refine dc h43 ?_ ?_); focus (first | exact ⟨rfl, .inl ⟨by first | rfl | (simp only [go_sem, hlt', hz2, hzj, b1', b2, encN, List.length_map, AV.pureL, AV.pure]; done), by first | (simp only [go_sem, hlt', hz2, hzj, b1', b2, encN, List.length_map, AV.pureL, AV.pure]; done) | rfl⟩⟩ | exact ⟨rfl, .inr ⟨rfl, by simp only [go_sem, hlt', hz2, hzj, b1', b2, encN, List.length_map]⟩⟩)) | ((with_reducible first | refine dp h79z ?_ ?_ | refine dp h43 ?_ ?_); focus (exact ⟨rfl, by first | rfl | (simp only [go_sem, hlt', hz2, hzj, b1', b2, encN, List.length_map, AV.pureL, AV.pure]; done), by first | (simp only [go_sem, hlt', hz2, hzj, b1', b2, encN, List.length_map, AV.pureL, AV.pure]; done) | rfl⟩)) | ((with_reducible first | refine ds h79z ?_ ?_ | refine ds h43 ?_ ?_); focus exact ⟨rfl, rfl⟩) | (with_reducible refine vcM_some fun mg => ?_) | (simp only [go_sem, hlt', hz2, hzj, b1', b2, encN, List.length_map])))
          exact (by (first | exact wk_same (by simp only [go_sem, Int.natCast_add, cn, Int.cast_ofNat_Int, e2, Int.natCast_add, Int.natCast_one]) | (refine wk_drop ?_ ?_ ?_ ?_ ?_ <;> simp only [go_sem, Int.natCast_add, cn, Int.cast_ofNat_Int, e2, Int.natCast_add, Int.natCast_one])))
    · have hge' : ¬ ((j + 1 : Nat) : Int) < L.length := by omega
      have : j = r.length := by omega
      subst this
      rw [hS]
      (repeat' (first | ((with_reducible first | apply sg | apply si | apply sq | apply sd) <;> intro hb <;> (try rw [hb]) <;> (try simp only [bq, bz, dtrue, dfalse] at hb) <;> (try simp only [within] at hb) <;> try simp only [go_sem]) | refine And.intro (by first | exact ⟨⟩ | omega | (simp only [I64]; omega)) ?_ | (with_reducible rw [vc_draw_eq]; first | (refine CV.draw (id := 1) sF10z_f31_1 mixed rfl (by kernel_rfl) ?_; delta sF10z_f31_1) | (refine CV.draw (id := 4) sF10z_f31_4 mixed rfl (by kernel_rfl) ?_; delta sF10z_f31_4) | (refine CV.draw (id := 7) sF10z_f31_7 mixed rfl (by kernel_rfl) ?_; delta sF10z_f31_7) | (refine CV.draw (id := 11) sF10z_f31_11 mixed rfl (by kernel_rfl) ?_; delta sF10z_f31_11)) | (with_reducible refine vcM_some fun mg => ?_) | (simp only [go_sem, hge', resA, List.length_map])))
end Go.Proofs.YtjlopclpofbgbaaDoor

