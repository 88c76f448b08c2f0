/- Contracts of functions of the given program, without a condition beyond those that each theorem states; they lead to the given statement. -/
import Derived.Test.YtjlopclpofbgbaaDoorF11a
set_option linter.unusedSimpArgs false
set_option linter.unusedVariables false
set_option maxRecDepth 100000
namespace Go.Proofs.YtjlopclpofbgbaaDoor
open Go Go.Fl
open Classical
def sF11b_f64_1 : List (Nat × Nat) := [(0, 0), (0, 0), (0, 0), (99, 0), (0, 1), (0, 1), (0, 1), (99, 0), (2, 2), (0, 0)]
def sF11b_f19_1 : List (Nat × Nat) := [(0, 0), (0, 0), (0, 0), (0, 1), (0, 1), (0, 1), (99, 0), (0, 2), (0, 2), (0, 2), (99, 0), (0, 3), (0, 3), (0, 3), (99, 0), (0, 4), (0, 4), (4, 4), (0, 0)]
def hugeT (t : Town) : Prop := (40 < t.ts.length ∨ 40 < t.ms.length) ∨ 40 < t.pl.length ∨ 40 < t.ca.length ∨ 40 < t.rm.length
theorem c22 (t : Town) : PC Tryd.prog 22 [hF t] (.bool (decide (hugeT t))) := by
  have h66 := c66 t.ts t.ms
  by_cases h0 : 40 < t.ts.length ∨ 40 < t.ms.length
  · replace h66 := h66.tru h0
    rw [decide_eq_true (show hugeT t from .inl h0)]
    refine PC.body Tryd.func22 (by kernel_rfl) rfl (by simp [Tryd.f22]) rfl ?_
    simp only [Tryd.f22]
    intro hlen
    simp only [go_sem, List.length_map, and_true, true_and] at hlen
    refine CV.run ?_
    (repeat' (first | ((with_reducible first | apply sg | apply si | apply sq | apply sd) <;> intro hb <;> (try rw [hb]) <;> (try simp only [bq, bz, dtrue, dfalse] at hb) <;> (try simp only [within] at hb) <;> try simp only [go_sem]) | refine And.intro (by first | exact ⟨⟩ | omega | (simp only [I64]; omega)) ?_ | ((with_reducible first | refine vp h66 ?_ ?_); focus (first | exact ⟨rfl, .inl ⟨by first | rfl | (simp only [go_sem, AV.pureL, AV.pure]; done), by first | (simp only [go_sem, AV.pureL, AV.pure]; done) | rfl⟩⟩ | exact ⟨rfl, .inr ⟨rfl, by simp only [go_sem]⟩⟩)) | (simp only [go_sem])))
  · replace h66 := h66.fls h0
    by_cases h1 : 40 < t.pl.length
    · have h1' : (40 : Int) < t.pl.length := by omega
      rw [decide_eq_true (show hugeT t from .inr (.inl h1))]
      refine PC.body Tryd.func22 (by kernel_rfl) rfl (by simp [Tryd.f22]) rfl ?_
      simp only [Tryd.f22]
      intro hlen
      simp only [go_sem, List.length_map, and_true, true_and] at hlen
      refine CV.run ?_
      (repeat' (first | ((with_reducible first | apply sg | apply si | apply sq | apply sd) <;> intro hb <;> (try rw [hb]) <;> (try simp only [bq, bz, dtrue, dfalse] at hb) <;> (try simp only [within] at hb) <;> try simp only [go_sem]) | refine And.intro (by first | exact ⟨⟩ | omega | (simp only [I64]; omega)) ?_ | ((with_reducible first | refine vp h66 ?_ ?_); focus (first | exact ⟨rfl, .inl ⟨by first | rfl | (simp only [go_sem, h1', List.length_map, AV.pureL, AV.pure]; done), by first | (simp only [go_sem, h1', List.length_map, AV.pureL, AV.pure]; done) | rfl⟩⟩ | exact ⟨rfl, .inr ⟨rfl, by simp only [go_sem, h1', List.length_map]⟩⟩)) | (simp only [go_sem, h1', List.length_map])))
    · have h1' : ¬ (40 : Int) < t.pl.length := by omega
      by_cases h2 : 40 < t.ca.length
      · have h2' : (40 : Int) < t.ca.length := by omega
        rw [decide_eq_true (show hugeT t from .inr (.inr (.inl h2)))]
        refine PC.body Tryd.func22 (by kernel_rfl) rfl (by simp [Tryd.f22]) rfl ?_
        simp only [Tryd.f22]
        intro hlen
        simp only [go_sem, List.length_map, and_true, true_and] at hlen
        refine CV.run ?_
        (repeat' (first | ((with_reducible first | apply sg | apply si | apply sq | apply sd) <;> intro hb <;> (try rw [hb]) <;> (try simp only [bq, bz, dtrue, dfalse] at hb) <;> (try simp only [within] at hb) <;> try simp only [go_sem]) | refine And.intro (by first | exact ⟨⟩ | omega | (simp only [I64]; omega)) ?_ | ((with_reducible first | refine vp h66 ?_ ?_); focus (first | exact ⟨rfl, .inl ⟨by first | rfl | (simp only [go_sem, h1', h2', List.length_map, AV.pureL, AV.pure]; done), by first | (simp only [go_sem, h1', h2', List.length_map, AV.pureL, AV.pure]; done) | rfl⟩⟩ | exact ⟨rfl, .inr ⟨rfl, by simp only [go_sem, h1', h2', List.length_map]⟩⟩)) | (simp only [go_sem, h1', h2', List.length_map])))
      · have h2' : ¬ (40 : Int) < t.ca.length := by omega
        by_cases h3 : 40 < t.rm.length
        · have h3' : (40 : Int) < t.rm.length := by omega
          rw [decide_eq_true (show hugeT t from .inr (.inr (.inr h3)))]
          refine PC.body Tryd.func22 (by kernel_rfl) rfl (by simp [Tryd.f22]) rfl ?_
          simp only [Tryd.f22]
          intro hlen
          simp only [go_sem, List.length_map, and_true, true_and] at hlen
          refine CV.run ?_
          (repeat' (first | ((with_reducible first | apply sg | apply si | apply sq | apply sd) <;> intro hb <;> (try rw [hb]) <;> (try simp only [bq, bz, dtrue, dfalse] at hb) <;> (try simp only [within] at hb) <;> try simp only [go_sem]) | refine And.intro (by first | exact ⟨⟩ | omega | (simp only [I64]; omega)) ?_ | ((with_reducible first | refine vp h66 ?_ ?_); focus (first | exact ⟨rfl, .inl ⟨by first | rfl | (simp only [go_sem, h1', h2', h3', List.length_map, AV.pureL, AV.pure]; done), by first | (simp only [go_sem, h1', h2', h3', List.length_map, AV.pureL, AV.pure]; done) | rfl⟩⟩ | exact ⟨rfl, .inr ⟨rfl, by simp only [go_sem, h1', h2', h3', List.length_map]⟩⟩)) | (simp only [go_sem, h1', h2', h3', List.length_map])))
        · have h3' : ¬ (40 : Int) < t.rm.length := by omega
          rw [decide_eq_false (show ¬ hugeT t from fun h => h.elim h0 fun h => h.elim h1 fun h => h.elim h2 h3)]
          refine PC.body Tryd.func22 (by kernel_rfl) rfl (by simp [Tryd.f22]) rfl ?_
          simp only [Tryd.f22]
          intro hlen
          simp only [go_sem, List.length_map, and_true, true_and] at hlen
          refine CV.run ?_
          (repeat' (first | ((with_reducible first | apply sg | apply si | apply sq | apply sd) <;> intro hb <;> (try rw [hb]) <;> (try simp only [bq, bz, dtrue, dfalse] at hb) <;> (try simp only [within] at hb) <;> try simp only [go_sem]) | refine And.intro (by first | exact ⟨⟩ | omega | (simp only [I64]; omega)) ?_ | ((with_reducible first | refine vp h66 ?_ ?_); focus (first | exact ⟨rfl, .inl ⟨by first | rfl | (simp only [go_sem, h1', h2', h3', List.length_map, AV.pureL, AV.pure]; done), by first | (simp only [go_sem, h1', h2', h3', List.length_map, AV.pureL, AV.pure]; done) | rfl⟩⟩ | exact ⟨rfl, .inr ⟨rfl, by simp only [go_sem, h1', h2', h3', List.length_map]⟩⟩)) | (simp only [go_sem, h1', h2', h3', List.length_map])))
theorem not_huge {t : Town} (h : ¬ hugeT t) : t.ts.length ≤ 40 ∧ t.ms.length ≤ 40 ∧ t.pl.length ≤ 40 ∧ t.ca.length ≤ 40 ∧ t.rm.length ≤ 40 := by
  unfold hugeT at h; omega
def farT (t : Town) : Prop := hugeT t ∨ (6 < t.pl.length ∧ validT t)
theorem c33 (t : Town) : PC Tryd.prog 33 [hF t] (.bool (decide (farT t))) := by
  have h22 := c22 t
  by_cases h0 : hugeT t
  · replace h22 := h22.tru h0
    rw [decide_eq_true (show farT t from .inl h0)]
    refine PC.body Tryd.func33 (by kernel_rfl) rfl (by simp [Tryd.f33]) rfl ?_
    simp only [Tryd.f33]
    intro hlen
    simp only [go_sem, List.length_map, and_true, true_and] at hlen
    refine CV.run ?_
    (repeat' (first | ((with_reducible first | apply sg | apply si | apply sq | apply sd) <;> intro hb <;> (try rw [hb]) <;> (try simp only [bq, bz, dtrue, dfalse] at hb) <;> (try simp only [within] at hb) <;> try simp only [go_sem]) | refine And.intro (by first | exact ⟨⟩ | omega | (simp only [I64]; omega)) ?_ | ((with_reducible first | refine vp h22 ?_ ?_); focus (first | exact ⟨rfl, .inl ⟨by first | rfl | (simp only [go_sem, AV.pureL, AV.pure]; done), by first | (simp only [go_sem, AV.pureL, AV.pure]; done) | rfl⟩⟩ | exact ⟨rfl, .inr ⟨rfl, by simp only [go_sem]⟩⟩)) | (simp only [go_sem])))
  · replace h22 := h22.fls h0
    have h50 := c50 t (by have := not_huge h0; omega)
    by_cases h1 : 6 < t.pl.length
    · have h1' : (6 : Int) < t.pl.length := by omega
      by_cases h2 : validT t
      · rw [checkT_yes h2] at h50
        rw [decide_eq_true (show farT t from .inr ⟨h1, h2⟩)]
        refine PC.body Tryd.func33 (by kernel_rfl) rfl (by simp [Tryd.f33]) rfl ?_
        simp only [Tryd.f33]
        intro hlen
        simp only [go_sem, List.length_map, and_true, true_and] at hlen
        refine CV.run ?_
        (repeat' (first | ((with_reducible first | apply sg | apply si | apply sq | apply sd) <;> intro hb <;> (try rw [hb]) <;> (try simp only [bq, bz, dtrue, dfalse] at hb) <;> (try simp only [within] at hb) <;> try simp only [go_sem]) | refine And.intro (by first | exact ⟨⟩ | omega | (simp only [I64]; omega)) ?_ | ((with_reducible first | refine vp h22 ?_ ?_ | refine vp h50 ?_ ?_); focus (first | exact ⟨rfl, .inl ⟨by first | rfl | (simp only [go_sem, h1', List.length_map, AV.pureL, AV.pure]; done), by first | (simp only [go_sem, h1', List.length_map, AV.pureL, AV.pure]; done) | rfl⟩⟩ | exact ⟨rfl, .inr ⟨rfl, by simp only [go_sem, h1', List.length_map]⟩⟩)) | (simp only [go_sem, h1', List.length_map])))
      · rw [checkT_no h2] at h50
        rw [decide_eq_false (show ¬ farT t from fun h => h.elim h0 fun h => h2 h.2)]
        refine PC.body Tryd.func33 (by kernel_rfl) rfl (by simp [Tryd.f33]) rfl ?_
        simp only [Tryd.f33]
        intro hlen
        simp only [go_sem, List.length_map, and_true, true_and] at hlen
        refine CV.run ?_
        (repeat' (first | ((with_reducible first | apply sg | apply si | apply sq | apply sd) <;> intro hb <;> (try rw [hb]) <;> (try simp only [bq, bz, dtrue, dfalse] at hb) <;> (try simp only [within] at hb) <;> try simp only [go_sem]) | refine And.intro (by first | exact ⟨⟩ | omega | (simp only [I64]; omega)) ?_ | ((with_reducible first | refine vp h22 ?_ ?_ | refine vp h50 ?_ ?_); focus (first | exact ⟨rfl, .inl ⟨by first | rfl | (simp only [go_sem, h1', List.length_map, AV.pureL, AV.pure]; done), by first | (simp only [go_sem, h1', List.length_map, AV.pureL, AV.pure]; done) | rfl⟩⟩ | exact ⟨rfl, .inr ⟨rfl, by simp only [go_sem, h1', List.length_map]⟩⟩)) | (simp only [go_sem, h1', List.length_map])))
    · have h1' : ¬ (6 : Int) < t.pl.length := by omega
      rw [decide_eq_false (show ¬ farT t from fun h => h.elim h0 fun h => h1 h.1)]
      refine PC.body Tryd.func33 (by kernel_rfl) rfl (by simp [Tryd.f33]) rfl ?_
      simp only [Tryd.f33]
      intro hlen
      simp only [go_sem, List.length_map, and_true, true_and] at hlen
      refine CV.run ?_
      (repeat' (first | ((with_reducible first | apply sg | apply si | apply sq | apply sd) <;> intro hb <;> (try rw [hb]) <;> (try simp only [bq, bz, dtrue, dfalse] at hb) <;> (try simp only [within] at hb) <;> try simp only [go_sem]) | refine And.intro (by first | exact ⟨⟩ | omega | (simp only [I64]; omega)) ?_ | ((with_reducible first | refine vp h22 ?_ ?_ | refine vp h50 ?_ ?_); focus (first | exact ⟨rfl, .inl ⟨by first | rfl | (simp only [go_sem, h1', List.length_map, AV.pureL, AV.pure]; done), by first | (simp only [go_sem, h1', List.length_map, AV.pureL, AV.pure]; done) | rfl⟩⟩ | exact ⟨rfl, .inr ⟨rfl, by simp only [go_sem, h1', List.length_map]⟩⟩)) | (simp only [go_sem, h1', List.length_map])))
def readyT (t : Town) : Prop := ¬ farT t ∧ validT t
theorem c16 (t : Town) : PC Tryd.prog 16 [hF t] (.bool (decide (readyT t))) := by
  have h33 := c33 t
  by_cases h0 : farT t
  · replace h33 := h33.tru h0
    rw [decide_eq_false (show ¬ readyT t from fun h => h.1 h0)]
    refine PC.body Tryd.func16 (by kernel_rfl) rfl (by simp [Tryd.f16]) rfl ?_
    simp only [Tryd.f16]
    intro hlen
    simp only [go_sem, List.length_map, and_true, true_and] at hlen
    refine CV.run ?_
    (repeat' (first | ((with_reducible first | apply sg | apply si | apply sq | apply sd) <;> intro hb <;> (try rw [hb]) <;> (try simp only [bq, bz, dtrue, dfalse] at hb) <;> (try simp only [within] at hb) <;> try simp only [go_sem]) | refine And.intro (by first | exact ⟨⟩ | omega | (simp only [I64]; omega)) ?_ | ((with_reducible first | refine vp h33 ?_ ?_); focus (first | exact ⟨rfl, .inl ⟨by first | rfl | (simp only [go_sem, AV.pureL, AV.pure]; done), by first | (simp only [go_sem, AV.pureL, AV.pure]; done) | rfl⟩⟩ | exact ⟨rfl, .inr ⟨rfl, by simp only [go_sem]⟩⟩)) | (simp only [go_sem])))
  · replace h33 := h33.fls h0
    have h50 := c50 t (by have := not_huge (fun h => h0 (.inl h)); omega)
    by_cases h2 : validT t
    · rw [checkT_yes h2] at h50
      rw [decide_eq_true (show readyT t from ⟨h0, h2⟩)]
      refine PC.body Tryd.func16 (by kernel_rfl) rfl (by simp [Tryd.f16]) rfl ?_
      simp only [Tryd.f16]
      intro hlen
      simp only [go_sem, List.length_map, and_true, true_and] at hlen
      refine CV.run ?_
      (repeat' (first | ((with_reducible first | apply sg | apply si | apply sq | apply sd) <;> intro hb <;> (try rw [hb]) <;> (try simp only [bq, bz, dtrue, dfalse] at hb) <;> (try simp only [within] at hb) <;> try simp only [go_sem]) | refine And.intro (by first | exact ⟨⟩ | omega | (simp only [I64]; omega)) ?_ | ((with_reducible first | refine vp h33 ?_ ?_ | refine vp h50 ?_ ?_); focus (first | exact ⟨rfl, .inl ⟨by first | rfl | (simp only [go_sem, AV.pureL, AV.pure]; done), by first | (simp only [go_sem, AV.pureL, AV.pure]; done) | rfl⟩⟩ | exact ⟨rfl, .inr ⟨rfl, by simp only [go_sem]⟩⟩)) | (simp only [go_sem])))
    · rw [checkT_no h2] at h50
      rw [decide_eq_false (show ¬ readyT t from fun h => h2 h.2)]
      refine PC.body Tryd.func16 (by kernel_rfl) rfl (by simp [Tryd.f16]) rfl ?_
      simp only [Tryd.f16]
      intro hlen
      simp only [go_sem, List.length_map, and_true, true_and] at hlen
      refine CV.run ?_
      (repeat' (first | ((with_reducible first | apply sg | apply si | apply sq | apply sd) <;> intro hb <;> (try rw [hb]) <;> (try simp only [bq, bz, dtrue, dfalse] at hb) <;> (try simp only [within] at hb) <;> try simp only [go_sem]) | refine And.intro (by first | exact ⟨⟩ | omega | (simp only [I64]; omega)) ?_ | ((with_reducible first | refine vp h33 ?_ ?_ | refine vp h50 ?_ ?_); focus (first | exact ⟨rfl, .inl ⟨by first | rfl | (simp only [go_sem, AV.pureL, AV.pure]; done), by first | (simp only [go_sem, AV.pureL, AV.pure]; done) | rfl⟩⟩ | exact ⟨rfl, .inr ⟨rfl, by simp only [go_sem]⟩⟩)) | (simp only [go_sem])))
theorem c64 (ts : List Thing) (ms : List Mark) (h1 : ts.length ≤ 41) (h2 : ms.length ≤ 41) : PC Tryd.prog 64 [hT ts ms] (hT ts ms) := by
  refine PC.body Tryd.func64 (by kernel_rfl) rfl (by simp [Tryd.f64]) rfl ?_
  simp only [Tryd.f64]
  intro hlen
  simp only [go_sem, List.length_map, and_true, true_and] at hlen
  refine CV.run ?_
  (repeat' (first | ((with_reducible first | apply sg | apply si | apply sq | apply sd) <;> intro hb <;> (try rw [hb]) <;> (try simp only [bq, bz, dtrue, dfalse] at hb) <;> (try simp only [within] at hb) <;> try simp only [go_sem]) | refine And.intro (by first | exact ⟨⟩ | omega | (simp only [I64]; omega)) ?_ | (with_reducible rw [vc_draw_eq]; first | (refine CV.draw (id := 1) sF11b_f64_1 mixed rfl (by kernel_rfl) ?_; delta sF11b_f64_1)) | (simp only [go_sem, List.nil_append])))
  all_goals exact ⟨⟨by omega, by omega, .inl trivial⟩, by omega, by omega, .inl trivial⟩
theorem c19 (t : Town) (h1 : t.ts.length ≤ 41) (h2 : t.ms.length ≤ 41) (h3 : t.pl.length ≤ 41) (h4 : t.ca.length ≤ 41) (h5 : t.rm.length ≤ 41) : PC Tryd.prog 19 [hF t] (hF t) := by
  have h64 := c64 t.ts t.ms h1 h2
  refine PC.body Tryd.func19 (by kernel_rfl) rfl (by simp [Tryd.f19]) rfl ?_
  simp only [Tryd.f19]
  intro hlen
  simp only [go_sem, List.length_map, and_true, true_and] at hlen
  refine CV.run ?_
  (repeat' (first | ((with_reducible first | apply sg | apply si | apply sq | apply sd) <;> intro hb <;> (try rw [hb]) <;> (try simp only [bq, bz, dtrue, dfalse] at hb) <;> (try simp only [within] at hb) <;> try simp only [go_sem]) | refine And.intro (by first | exact ⟨⟩ | omega | (simp only [I64]; omega)) ?_ | (with_reducible rw [vc_draw_eq]; first | (refine CV.draw (id := 1) sF11b_f19_1 mixed rfl (by kernel_rfl) ?_; delta sF11b_f19_1)) | ((with_reducible first | refine vp h64 ?_ ?_ | refine dc h64 ?_ ?_); focus (first | exact ⟨rfl, .inl ⟨by first | rfl | (simp only [go_sem, List.nil_append, AV.pureL, AV.pure]; done), by first | (simp only [go_sem, List.nil_append, AV.pureL, AV.pure]; done) | rfl⟩⟩ | exact ⟨rfl, .inr ⟨rfl, by simp only [go_sem, List.nil_append]⟩⟩)) | ((with_reducible first | refine dp h64 ?_ ?_); focus (exact ⟨rfl, by first | rfl | (simp only [go_sem, List.nil_append, AV.pureL, AV.pure]; done), by first | (simp only [go_sem, List.nil_append, AV.pureL, AV.pure]; done) | rfl⟩)) | ((with_reducible first | refine ds h64 ?_ ?_); focus exact ⟨rfl, rfl⟩) | (simp only [go_sem, List.nil_append])))
  all_goals exact ⟨⟨by omega, by omega, .inl trivial⟩, ⟨by omega, by omega, .inl trivial⟩, by omega, by omega, .inl trivial⟩
def exT : Town := { ts := [⟨-1, 0, 5, 0⟩, ⟨0, 10, 3, 0⟩, ⟨1, 20, 2, 1⟩, ⟨-1, 5, 5, 0⟩, ⟨3, 30, 2, 1⟩], ms := [⟨0, 1, 15⟩, ⟨1, 3, 25⟩], pl := [0, 1, 1, 1, 1], ca := [9, 2, 4, 5, 3], rm := [3, 4, 1], mi := 40 }
theorem c63 : PC Tryd.prog 63 [] (hF exT) := by
  refine PC.body Tryd.func63 (by kernel_rfl) rfl (by simp [Tryd.f63]) rfl ?_
  simp only [Tryd.f63]
  intro hlen
  simp only [go_sem, List.length_map, and_true, true_and] at hlen
  refine CV.run ?_
  (repeat' (first | ((with_reducible first | apply sg | apply si | apply sq | apply sd) <;> intro hb <;> (try rw [hb]) <;> (try simp only [bq, bz, dtrue, dfalse] at hb) <;> (try simp only [within] at hb) <;> try simp only [go_sem]) | refine And.intro (by first | exact ⟨⟩ | omega | (simp only [I64]; omega)) ?_ | (simp only [go_sem, exT, encT, encM, encN, List.map_cons, List.map_nil, List.length_cons, List.length_nil])))
end Go.Proofs.YtjlopclpofbgbaaDoor

