/- Contracts of functions of the given program, without a condition beyond those that each theorem states; they lead to the given statement. -/
import Derived.Test.YtjlopclpofbgbaaDoorF10t
set_option linter.unusedSimpArgs false
set_option linter.unusedVariables false
set_option maxRecDepth 100000
namespace Go.Proofs.YtjlopclpofbgbaaDoor
open Go Go.Fl
open Classical
theorem c76_0 : PC Tryd.prog 76 [.int .u64 0] (lN []) := by
  refine PC.body Tryd.func76 (by kernel_rfl) rfl (by simp [Tryd.f76]) rfl ?_
  simp only [Tryd.f76]
  intro hlen
  simp only [go_sem, List.length_map, and_true, true_and] at hlen
  refine CV.run ?_
  (repeat' (first | ((with_reducible first | apply sg | apply si | apply sq | apply sd) <;> intro hb <;> (try rw [hb]) <;> (try simp only [bq, bz, dtrue, dfalse] at hb) <;> (try simp only [within] at hb) <;> try simp only [go_sem]) | refine And.intro (by first | exact ⟨⟩ | omega | (simp only [I64]; omega)) ?_ | (with_reducible refine vcM_some fun mg => ?_) | (simp only [go_sem])))
  refine vc_fw (fun j => ⟨[(0, .int .u64 0), (3, .row 0 0)], [.row 3 1 (([] : List Int).map encN) false]⟩) 0 (fun _ => True) (.nilE 3 3 1 (by (simp only [go_sem])) (by omega) (.base (by (first | exact wk_same (by simp only [go_sem, Int.natCast_add, cn, Int.cast_ofNat_Int, List.map_nil]) | (refine wk_drop ?_ ?_ ?_ ?_ ?_ <;> simp only [go_sem, Int.natCast_add, cn, Int.cast_ofNat_Int, List.map_nil]))))) trivial ?_
  intro j hj _
  (repeat' (first | ((with_reducible first | apply sg | apply si | apply sq | apply sd) <;> intro hb <;> (try rw [hb]) <;> (try simp only [bq, bz, dtrue, dfalse] at hb) <;> (try simp only [within] at hb) <;> try simp only [go_sem]) | refine And.intro (by first | exact ⟨⟩ | omega | (simp only [I64]; omega)) ?_ | (with_reducible refine vcM_some fun mg => ?_) | (simp only [go_sem, U64])))
  all_goals exact frzN
def M1 : Nat → Int
  | 0 => 1
  | _ => 0
def L1 : Nat → List Int
  | 0 => []
  | _ => [0]
theorem c76_1 : PC Tryd.prog 76 [.int .u64 1] (lN [0]) := by
  have h0 := c103 1 (by omega) (by omega)
  rw [show tz 1 = 0 from rfl] at h0
  refine PC.body Tryd.func76 (by kernel_rfl) rfl (by simp [Tryd.f76]) rfl ?_
  simp only [Tryd.f76]
  intro hlen
  simp only [go_sem, List.length_map, and_true, true_and] at hlen
  refine CV.run ?_
  (repeat' (first | ((with_reducible first | apply sg | apply si | apply sq | apply sd) <;> intro hb <;> (try rw [hb]) <;> (try simp only [bq, bz, dtrue, dfalse] at hb) <;> (try simp only [within] at hb) <;> try simp only [go_sem]) | refine And.intro (by first | exact ⟨⟩ | omega | (simp only [I64]; omega)) ?_ | (with_reducible refine vcM_some fun mg => ?_) | (simp only [go_sem])))
  refine vc_fw (fun j => ⟨[(0, .int .u64 (M1 j)), (3, .row 0 (L1 j).length)], [.row 3 1 ((L1 j).map encN) false]⟩) 1 (fun _ => True) (.nilE 3 3 1 (by (simp only [go_sem])) (by omega) (.base (by (first | exact wk_same (by simp only [go_sem, Int.natCast_add, cn, Int.cast_ofNat_Int, M1, L1, List.map_nil, List.length_nil]) | (refine wk_drop ?_ ?_ ?_ ?_ ?_ <;> simp only [go_sem, Int.natCast_add, cn, Int.cast_ofNat_Int, M1, L1, List.map_nil, List.length_nil]))))) trivial ?_
  intro j hj _
  have hc : j = 0 ∨ j = 1 := by omega
  rcases hc with rfl | rfl
  · (repeat' (first | ((with_reducible first | apply sg | apply si | apply sq | apply sd) <;> intro hb <;> (try rw [hb]) <;> (try simp only [bq, bz, dtrue, dfalse] at hb) <;> (try simp only [within] at hb) <;> try simp only [go_sem]) | refine And.intro (by first | exact ⟨⟩ | omega | (simp only [I64]; omega)) ?_ | ((with_reducible first | refine vp h0 ?_ ?_); focus (first | exact ⟨rfl, .inl ⟨by first | rfl | (simp only [go_sem, U64, M1, L1, encN, List.map_cons, List.map_nil, List.length_cons, List.length_nil, Nat.zero_add, Nat.reduceAdd, AV.pureL, AV.pure]; done), by first | (simp only [go_sem, U64, M1, L1, encN, List.map_cons, List.map_nil, List.length_cons, List.length_nil, Nat.zero_add, Nat.reduceAdd, AV.pureL, AV.pure]; done) | rfl⟩⟩ | exact ⟨rfl, .inr ⟨rfl, by simp only [go_sem, U64, M1, L1, encN, List.map_cons, List.map_nil, List.length_cons, List.length_nil, Nat.zero_add, Nat.reduceAdd]⟩⟩)) | (with_reducible refine vcM_some fun mg => ?_) | (simp only [go_sem, U64, M1, L1, encN, List.map_cons, List.map_nil, List.length_cons, List.length_nil, Nat.zero_add, Nat.reduceAdd])))
    all_goals first
      | omega
      | exact .base (by (first | exact wk_same (by simp only [go_sem, Int.natCast_add, cn, Int.cast_ofNat_Int, M1, L1, encN, List.map_cons, List.map_nil, List.length_cons, List.length_nil, List.nil_append, List.cons_append, Nat.zero_add, Nat.reduceAdd]) | (refine wk_drop ?_ ?_ ?_ ?_ ?_ <;> simp only [go_sem, Int.natCast_add, cn, Int.cast_ofNat_Int, M1, L1, encN, List.map_cons, List.map_nil, List.length_cons, List.length_nil, List.nil_append, List.cons_append, Nat.zero_add, Nat.reduceAdd])))
  · (repeat' (first | ((with_reducible first | apply sg | apply si | apply sq | apply sd) <;> intro hb <;> (try rw [hb]) <;> (try simp only [bq, bz, dtrue, dfalse] at hb) <;> (try simp only [within] at hb) <;> try simp only [go_sem]) | refine And.intro (by first | exact ⟨⟩ | omega | (simp only [I64]; omega)) ?_ | (with_reducible refine vcM_some fun mg => ?_) | (simp only [go_sem, U64, M1, L1, encN, List.map_cons, List.map_nil, List.length_cons, List.length_nil, Nat.zero_add, Nat.reduceAdd])))
    all_goals exact frzN
def M2 : Nat → Int
  | 0 => 2
  | _ => 0
def L2 : Nat → List Int
  | 0 => []
  | _ => [1]
theorem c76_2 : PC Tryd.prog 76 [.int .u64 2] (lN [1]) := by
  have h0 := c103 2 (by omega) (by omega)
  rw [show tz 2 = 1 from rfl] at h0
  refine PC.body Tryd.func76 (by kernel_rfl) rfl (by simp [Tryd.f76]) rfl ?_
  simp only [Tryd.f76]
  intro hlen
  simp only [go_sem, List.length_map, and_true, true_and] at hlen
  refine CV.run ?_
  (repeat' (first | ((with_reducible first | apply sg | apply si | apply sq | apply sd) <;> intro hb <;> (try rw [hb]) <;> (try simp only [bq, bz, dtrue, dfalse] at hb) <;> (try simp only [within] at hb) <;> try simp only [go_sem]) | refine And.intro (by first | exact ⟨⟩ | omega | (simp only [I64]; omega)) ?_ | (with_reducible refine vcM_some fun mg => ?_) | (simp only [go_sem])))
  refine vc_fw (fun j => ⟨[(0, .int .u64 (M2 j)), (3, .row 0 (L2 j).length)], [.row 3 1 ((L2 j).map encN) false]⟩) 1 (fun _ => True) (.nilE 3 3 1 (by (simp only [go_sem])) (by omega) (.base (by (first | exact wk_same (by simp only [go_sem, Int.natCast_add, cn, Int.cast_ofNat_Int, M2, L2, List.map_nil, List.length_nil]) | (refine wk_drop ?_ ?_ ?_ ?_ ?_ <;> simp only [go_sem, Int.natCast_add, cn, Int.cast_ofNat_Int, M2, L2, List.map_nil, List.length_nil]))))) trivial ?_
  intro j hj _
  have hc : j = 0 ∨ j = 1 := by omega
  rcases hc with rfl | rfl
  · (repeat' (first | ((with_reducible first | apply sg | apply si | apply sq | apply sd) <;> intro hb <;> (try rw [hb]) <;> (try simp only [bq, bz, dtrue, dfalse] at hb) <;> (try simp only [within] at hb) <;> try simp only [go_sem]) | refine And.intro (by first | exact ⟨⟩ | omega | (simp only [I64]; omega)) ?_ | ((with_reducible first | refine vp h0 ?_ ?_); focus (first | exact ⟨rfl, .inl ⟨by first | rfl | (simp only [go_sem, U64, M2, L2, encN, List.map_cons, List.map_nil, List.length_cons, List.length_nil, Nat.zero_add, Nat.reduceAdd, AV.pureL, AV.pure]; done), by first | (simp only [go_sem, U64, M2, L2, encN, List.map_cons, List.map_nil, List.length_cons, List.length_nil, Nat.zero_add, Nat.reduceAdd, AV.pureL, AV.pure]; done) | rfl⟩⟩ | exact ⟨rfl, .inr ⟨rfl, by simp only [go_sem, U64, M2, L2, encN, List.map_cons, List.map_nil, List.length_cons, List.length_nil, Nat.zero_add, Nat.reduceAdd]⟩⟩)) | (with_reducible refine vcM_some fun mg => ?_) | (simp only [go_sem, U64, M2, L2, encN, List.map_cons, List.map_nil, List.length_cons, List.length_nil, Nat.zero_add, Nat.reduceAdd])))
    all_goals first
      | omega
      | exact .base (by (first | exact wk_same (by simp only [go_sem, Int.natCast_add, cn, Int.cast_ofNat_Int, M2, L2, encN, List.map_cons, List.map_nil, List.length_cons, List.length_nil, List.nil_append, List.cons_append, Nat.zero_add, Nat.reduceAdd]) | (refine wk_drop ?_ ?_ ?_ ?_ ?_ <;> simp only [go_sem, Int.natCast_add, cn, Int.cast_ofNat_Int, M2, L2, encN, List.map_cons, List.map_nil, List.length_cons, List.length_nil, List.nil_append, List.cons_append, Nat.zero_add, Nat.reduceAdd])))
  · (repeat' (first | ((with_reducible first | apply sg | apply si | apply sq | apply sd) <;> intro hb <;> (try rw [hb]) <;> (try simp only [bq, bz, dtrue, dfalse] at hb) <;> (try simp only [within] at hb) <;> try simp only [go_sem]) | refine And.intro (by first | exact ⟨⟩ | omega | (simp only [I64]; omega)) ?_ | (with_reducible refine vcM_some fun mg => ?_) | (simp only [go_sem, U64, M2, L2, encN, List.map_cons, List.map_nil, List.length_cons, List.length_nil, Nat.zero_add, Nat.reduceAdd])))
    all_goals exact frzN
def M3 : Nat → Int
  | 0 => 3
  | 1 => 2
  | _ => 0
def L3 : Nat → List Int
  | 0 => []
  | 1 => [0]
  | _ => [0, 1]
theorem c76_3 : PC Tryd.prog 76 [.int .u64 3] (lN [0, 1]) := by
  have h0 := c103 3 (by omega) (by omega)
  rw [show tz 3 = 0 from rfl] at h0
  have h1 := c103 2 (by omega) (by omega)
  rw [show tz 2 = 1 from rfl] at h1
  refine PC.body Tryd.func76 (by kernel_rfl) rfl (by simp [Tryd.f76]) rfl ?_
  simp only [Tryd.f76]
  intro hlen
  simp only [go_sem, List.length_map, and_true, true_and] at hlen
  refine CV.run ?_
  (repeat' (first | ((with_reducible first | apply sg | apply si | apply sq | apply sd) <;> intro hb <;> (try rw [hb]) <;> (try simp only [bq, bz, dtrue, dfalse] at hb) <;> (try simp only [within] at hb) <;> try simp only [go_sem]) | refine And.intro (by first | exact ⟨⟩ | omega | (simp only [I64]; omega)) ?_ | (with_reducible refine vcM_some fun mg => ?_) | (simp only [go_sem])))
  refine vc_fw (fun j => ⟨[(0, .int .u64 (M3 j)), (3, .row 0 (L3 j).length)], [.row 3 1 ((L3 j).map encN) false]⟩) 2 (fun _ => True) (.nilE 3 3 1 (by (simp only [go_sem])) (by omega) (.base (by (first | exact wk_same (by simp only [go_sem, Int.natCast_add, cn, Int.cast_ofNat_Int, M3, L3, List.map_nil, List.length_nil]) | (refine wk_drop ?_ ?_ ?_ ?_ ?_ <;> simp only [go_sem, Int.natCast_add, cn, Int.cast_ofNat_Int, M3, L3, List.map_nil, List.length_nil]))))) trivial ?_
  intro j hj _
  have hc : j = 0 ∨ j = 1 ∨ j = 2 := by omega
  rcases hc with rfl | rfl | rfl
  · (repeat' (first | ((with_reducible first | apply sg | apply si | apply sq | apply sd) <;> intro hb <;> (try rw [hb]) <;> (try simp only [bq, bz, dtrue, dfalse] at hb) <;> (try simp only [within] at hb) <;> try simp only [go_sem]) | refine And.intro (by first | exact ⟨⟩ | omega | (simp only [I64]; omega)) ?_ | ((with_reducible first | refine vp h0 ?_ ?_); focus (first | exact ⟨rfl, .inl ⟨by first | rfl | (simp only [go_sem, U64, M3, L3, encN, List.map_cons, List.map_nil, List.length_cons, List.length_nil, Nat.zero_add, Nat.reduceAdd, AV.pureL, AV.pure]; done), by first | (simp only [go_sem, U64, M3, L3, encN, List.map_cons, List.map_nil, List.length_cons, List.length_nil, Nat.zero_add, Nat.reduceAdd, AV.pureL, AV.pure]; done) | rfl⟩⟩ | exact ⟨rfl, .inr ⟨rfl, by simp only [go_sem, U64, M3, L3, encN, List.map_cons, List.map_nil, List.length_cons, List.length_nil, Nat.zero_add, Nat.reduceAdd]⟩⟩)) | (with_reducible refine vcM_some fun mg => ?_) | (simp only [go_sem, U64, M3, L3, encN, List.map_cons, List.map_nil, List.length_cons, List.length_nil, Nat.zero_add, Nat.reduceAdd])))
    all_goals first
      | omega
      | exact .base (by (first | exact wk_same (by simp only [go_sem, Int.natCast_add, cn, Int.cast_ofNat_Int, M3, L3, encN, List.map_cons, List.map_nil, List.length_cons, List.length_nil, List.nil_append, List.cons_append, Nat.zero_add, Nat.reduceAdd]) | (refine wk_drop ?_ ?_ ?_ ?_ ?_ <;> simp only [go_sem, Int.natCast_add, cn, Int.cast_ofNat_Int, M3, L3, encN, List.map_cons, List.map_nil, List.length_cons, List.length_nil, List.nil_append, List.cons_append, Nat.zero_add, Nat.reduceAdd])))
  · (repeat' (first | ((with_reducible first | apply sg | apply si | apply sq | apply sd) <;> intro hb <;> (try rw [hb]) <;> (try simp only [bq, bz, dtrue, dfalse] at hb) <;> (try simp only [within] at hb) <;> try simp only [go_sem]) | refine And.intro (by first | exact ⟨⟩ | omega | (simp only [I64]; omega)) ?_ | ((with_reducible first | refine vp h1 ?_ ?_); focus (first | exact ⟨rfl, .inl ⟨by first | rfl | (simp only [go_sem, U64, M3, L3, encN, List.map_cons, List.map_nil, List.length_cons, List.length_nil, Nat.zero_add, Nat.reduceAdd, AV.pureL, AV.pure]; done), by first | (simp only [go_sem, U64, M3, L3, encN, List.map_cons, List.map_nil, List.length_cons, List.length_nil, Nat.zero_add, Nat.reduceAdd, AV.pureL, AV.pure]; done) | rfl⟩⟩ | exact ⟨rfl, .inr ⟨rfl, by simp only [go_sem, U64, M3, L3, encN, List.map_cons, List.map_nil, List.length_cons, List.length_nil, Nat.zero_add, Nat.reduceAdd]⟩⟩)) | (with_reducible refine vcM_some fun mg => ?_) | (simp only [go_sem, U64, M3, L3, encN, List.map_cons, List.map_nil, List.length_cons, List.length_nil, Nat.zero_add, Nat.reduceAdd])))
    all_goals first
      | omega
      | exact .base (by (first | exact wk_same (by simp only [go_sem, Int.natCast_add, cn, Int.cast_ofNat_Int, M3, L3, encN, List.map_cons, List.map_nil, List.length_cons, List.length_nil, List.nil_append, List.cons_append, Nat.zero_add, Nat.reduceAdd]) | (refine wk_drop ?_ ?_ ?_ ?_ ?_ <;> simp only [go_sem, Int.natCast_add, cn, Int.cast_ofNat_Int, M3, L3, encN, List.map_cons, List.map_nil, List.length_cons, List.length_nil, List.nil_append, List.cons_append, Nat.zero_add, Nat.reduceAdd])))
  · (repeat' (first | ((with_reducible first | apply sg | apply si | apply sq | apply sd) <;> intro hb <;> (try rw [hb]) <;> (try simp only [bq, bz, dtrue, dfalse] at hb) <;> (try simp only [within] at hb) <;> try simp only [go_sem]) | refine And.intro (by first | exact ⟨⟩ | omega | (simp only [I64]; omega)) ?_ | (with_reducible refine vcM_some fun mg => ?_) | (simp only [go_sem, U64, M3, L3, encN, List.map_cons, List.map_nil, List.length_cons, List.length_nil, Nat.zero_add, Nat.reduceAdd])))
    all_goals exact frzN
def M4 : Nat → Int
  | 0 => 4
  | _ => 0
def L4 : Nat → List Int
  | 0 => []
  | _ => [2]
theorem c76_4 : PC Tryd.prog 76 [.int .u64 4] (lN [2]) := by
  have h0 := c103 4 (by omega) (by omega)
  rw [show tz 4 = 2 from rfl] at h0
  refine PC.body Tryd.func76 (by kernel_rfl) rfl (by simp [Tryd.f76]) rfl ?_
  simp only [Tryd.f76]
  intro hlen
  simp only [go_sem, List.length_map, and_true, true_and] at hlen
  refine CV.run ?_
  (repeat' (first | ((with_reducible first | apply sg | apply si | apply sq | apply sd) <;> intro hb <;> (try rw [hb]) <;> (try simp only [bq, bz, dtrue, dfalse] at hb) <;> (try simp only [within] at hb) <;> try simp only [go_sem]) | refine And.intro (by first | exact ⟨⟩ | omega | (simp only [I64]; omega)) ?_ | (with_reducible refine vcM_some fun mg => ?_) | (simp only [go_sem])))
  refine vc_fw (fun j => ⟨[(0, .int .u64 (M4 j)), (3, .row 0 (L4 j).length)], [.row 3 1 ((L4 j).map encN) false]⟩) 1 (fun _ => True) (.nilE 3 3 1 (by (simp only [go_sem])) (by omega) (.base (by (first | exact wk_same (by simp only [go_sem, Int.natCast_add, cn, Int.cast_ofNat_Int, M4, L4, List.map_nil, List.length_nil]) | (refine wk_drop ?_ ?_ ?_ ?_ ?_ <;> simp only [go_sem, Int.natCast_add, cn, Int.cast_ofNat_Int, M4, L4, List.map_nil, List.length_nil]))))) trivial ?_
  intro j hj _
  have hc : j = 0 ∨ j = 1 := by omega
  rcases hc with rfl | rfl
  · (repeat' (first | ((with_reducible first | apply sg | apply si | apply sq | apply sd) <;> intro hb <;> (try rw [hb]) <;> (try simp only [bq, bz, dtrue, dfalse] at hb) <;> (try simp only [within] at hb) <;> try simp only [go_sem]) | refine And.intro (by first | exact ⟨⟩ | omega | (simp only [I64]; omega)) ?_ | ((with_reducible first | refine vp h0 ?_ ?_); focus (first | exact ⟨rfl, .inl ⟨by first | rfl | (simp only [go_sem, U64, M4, L4, encN, List.map_cons, List.map_nil, List.length_cons, List.length_nil, Nat.zero_add, Nat.reduceAdd, AV.pureL, AV.pure]; done), by first | (simp only [go_sem, U64, M4, L4, encN, List.map_cons, List.map_nil, List.length_cons, List.length_nil, Nat.zero_add, Nat.reduceAdd, AV.pureL, AV.pure]; done) | rfl⟩⟩ | exact ⟨rfl, .inr ⟨rfl, by simp only [go_sem, U64, M4, L4, encN, List.map_cons, List.map_nil, List.length_cons, List.length_nil, Nat.zero_add, Nat.reduceAdd]⟩⟩)) | (with_reducible refine vcM_some fun mg => ?_) | (simp only [go_sem, U64, M4, L4, encN, List.map_cons, List.map_nil, List.length_cons, List.length_nil, Nat.zero_add, Nat.reduceAdd])))
    all_goals first
      | omega
      | exact .base (by (first | exact wk_same (by simp only [go_sem, Int.natCast_add, cn, Int.cast_ofNat_Int, M4, L4, encN, List.map_cons, List.map_nil, List.length_cons, List.length_nil, List.nil_append, List.cons_append, Nat.zero_add, Nat.reduceAdd]) | (refine wk_drop ?_ ?_ ?_ ?_ ?_ <;> simp only [go_sem, Int.natCast_add, cn, Int.cast_ofNat_Int, M4, L4, encN, List.map_cons, List.map_nil, List.length_cons, List.length_nil, List.nil_append, List.cons_append, Nat.zero_add, Nat.reduceAdd])))
  · (repeat' (first | ((with_reducible first | apply sg | apply si | apply sq | apply sd) <;> intro hb <;> (try rw [hb]) <;> (try simp only [bq, bz, dtrue, dfalse] at hb) <;> (try simp only [within] at hb) <;> try simp only [go_sem]) | refine And.intro (by first | exact ⟨⟩ | omega | (simp only [I64]; omega)) ?_ | (with_reducible refine vcM_some fun mg => ?_) | (simp only [go_sem, U64, M4, L4, encN, List.map_cons, List.map_nil, List.length_cons, List.length_nil, Nat.zero_add, Nat.reduceAdd])))
    all_goals exact frzN
def M5 : Nat → Int
  | 0 => 5
  | 1 => 4
  | _ => 0
def L5 : Nat → List Int
  | 0 => []
  | 1 => [0]
  | _ => [0, 2]
theorem c76_5 : PC Tryd.prog 76 [.int .u64 5] (lN [0, 2]) := by
  have h0 := c103 5 (by omega) (by omega)
  rw [show tz 5 = 0 from rfl] at h0
  have h1 := c103 4 (by omega) (by omega)
  rw [show tz 4 = 2 from rfl] at h1
  refine PC.body Tryd.func76 (by kernel_rfl) rfl (by simp [Tryd.f76]) rfl ?_
  simp only [Tryd.f76]
  intro hlen
  simp only [go_sem, List.length_map, and_true, true_and] at hlen
  refine CV.run ?_
  (repeat' (first | ((with_reducible first | apply sg | apply si | apply sq | apply sd) <;> intro hb <;> (try rw [hb]) <;> (try simp only [bq, bz, dtrue, dfalse] at hb) <;> (try simp only [within] at hb) <;> try simp only [go_sem]) | refine And.intro (by first | exact ⟨⟩ | omega | (simp only [I64]; omega)) ?_ | (with_reducible refine vcM_some fun mg => ?_) | (simp only [go_sem])))
  refine vc_fw (fun j => ⟨[(0, .int .u64 (M5 j)), (3, .row 0 (L5 j).length)], [.row 3 1 ((L5 j).map encN) false]⟩) 2 (fun _ => True) (.nilE 3 3 1 (by (simp only [go_sem])) (by omega) (.base (by (first | exact wk_same (by simp only [go_sem, Int.natCast_add, cn, Int.cast_ofNat_Int, M5, L5, List.map_nil, List.length_nil]) | (refine wk_drop ?_ ?_ ?_ ?_ ?_ <;> simp only [go_sem, Int.natCast_add, cn, Int.cast_ofNat_Int, M5, L5, List.map_nil, List.length_nil]))))) trivial ?_
  intro j hj _
  have hc : j = 0 ∨ j = 1 ∨ j = 2 := by omega
  rcases hc with rfl | rfl | rfl
  · (repeat' (first | ((with_reducible first | apply sg | apply si | apply sq | apply sd) <;> intro hb <;> (try rw [hb]) <;> (try simp only [bq, bz, dtrue, dfalse] at hb) <;> (try simp only [within] at hb) <;> try simp only [go_sem]) | refine And.intro (by first | exact ⟨⟩ | omega | (simp only [I64]; omega)) ?_ | ((with_reducible first | refine vp h0 ?_ ?_); focus (first | exact ⟨rfl, .inl ⟨by first | rfl | (simp only [go_sem, U64, M5, L5, encN, List.map_cons, List.map_nil, List.length_cons, List.length_nil, Nat.zero_add, Nat.reduceAdd, AV.pureL, AV.pure]; done), by first | (simp only [go_sem, U64, M5, L5, encN, List.map_cons, List.map_nil, List.length_cons, List.length_nil, Nat.zero_add, Nat.reduceAdd, AV.pureL, AV.pure]; done) | rfl⟩⟩ | exact ⟨rfl, .inr ⟨rfl, by simp only [go_sem, U64, M5, L5, encN, List.map_cons, List.map_nil, List.length_cons, List.length_nil, Nat.zero_add, Nat.reduceAdd]⟩⟩)) | (with_reducible refine vcM_some fun mg => ?_) | (simp only [go_sem, U64, M5, L5, encN, List.map_cons, List.map_nil, List.length_cons, List.length_nil, Nat.zero_add, Nat.reduceAdd])))
    all_goals first
      | omega
      | exact .base (by (first | exact wk_same (by simp only [go_sem, Int.natCast_add, cn, Int.cast_ofNat_Int, M5, L5, encN, List.map_cons, List.map_nil, List.length_cons, List.length_nil, List.nil_append, List.cons_append, Nat.zero_add, Nat.reduceAdd]) | (refine wk_drop ?_ ?_ ?_ ?_ ?_ <;> simp only [go_sem, Int.natCast_add, cn, Int.cast_ofNat_Int, M5, L5, encN, List.map_cons, List.map_nil, List.length_cons, List.length_nil, List.nil_append, List.cons_append, Nat.zero_add, Nat.reduceAdd])))
  · (repeat' (first | ((with_reducible first | apply sg | apply si | apply sq | apply sd) <;> intro hb <;> (try rw [hb]) <;> (try simp only [bq, bz, dtrue, dfalse] at hb) <;> (try simp only [within] at hb) <;> try simp only [go_sem]) | refine And.intro (by first | exact ⟨⟩ | omega | (simp only [I64]; omega)) ?_ | ((with_reducible first | refine vp h1 ?_ ?_); focus (first | exact ⟨rfl, .inl ⟨by first | rfl | (simp only [go_sem, U64, M5, L5, encN, List.map_cons, List.map_nil, List.length_cons, List.length_nil, Nat.zero_add, Nat.reduceAdd, AV.pureL, AV.pure]; done), by first | (simp only [go_sem, U64, M5, L5, encN, List.map_cons, List.map_nil, List.length_cons, List.length_nil, Nat.zero_add, Nat.reduceAdd, AV.pureL, AV.pure]; done) | rfl⟩⟩ | exact ⟨rfl, .inr ⟨rfl, by simp only [go_sem, U64, M5, L5, encN, List.map_cons, List.map_nil, List.length_cons, List.length_nil, Nat.zero_add, Nat.reduceAdd]⟩⟩)) | (with_reducible refine vcM_some fun mg => ?_) | (simp only [go_sem, U64, M5, L5, encN, List.map_cons, List.map_nil, List.length_cons, List.length_nil, Nat.zero_add, Nat.reduceAdd])))
    all_goals first
      | omega
      | exact .base (by (first | exact wk_same (by simp only [go_sem, Int.natCast_add, cn, Int.cast_ofNat_Int, M5, L5, encN, List.map_cons, List.map_nil, List.length_cons, List.length_nil, List.nil_append, List.cons_append, Nat.zero_add, Nat.reduceAdd]) | (refine wk_drop ?_ ?_ ?_ ?_ ?_ <;> simp only [go_sem, Int.natCast_add, cn, Int.cast_ofNat_Int, M5, L5, encN, List.map_cons, List.map_nil, List.length_cons, List.length_nil, List.nil_append, List.cons_append, Nat.zero_add, Nat.reduceAdd])))
  · (repeat' (first | ((with_reducible first | apply sg | apply si | apply sq | apply sd) <;> intro hb <;> (try rw [hb]) <;> (try simp only [bq, bz, dtrue, dfalse] at hb) <;> (try simp only [within] at hb) <;> try simp only [go_sem]) | refine And.intro (by first | exact ⟨⟩ | omega | (simp only [I64]; omega)) ?_ | (with_reducible refine vcM_some fun mg => ?_) | (simp only [go_sem, U64, M5, L5, encN, List.map_cons, List.map_nil, List.length_cons, List.length_nil, Nat.zero_add, Nat.reduceAdd])))
    all_goals exact frzN
def M6 : Nat → Int
  | 0 => 6
  | 1 => 4
  | _ => 0
def L6 : Nat → List Int
  | 0 => []
  | 1 => [1]
  | _ => [1, 2]
theorem c76_6 : PC Tryd.prog 76 [.int .u64 6] (lN [1, 2]) := by
  have h0 := c103 6 (by omega) (by omega)
  rw [show tz 6 = 1 from rfl] at h0
  have h1 := c103 4 (by omega) (by omega)
  rw [show tz 4 = 2 from rfl] at h1
  refine PC.body Tryd.func76 (by kernel_rfl) rfl (by simp [Tryd.f76]) rfl ?_
  simp only [Tryd.f76]
  intro hlen
  simp only [go_sem, List.length_map, and_true, true_and] at hlen
  refine CV.run ?_
  (repeat' (first | ((with_reducible first | apply sg | apply si | apply sq | apply sd) <;> intro hb <;> (try rw [hb]) <;> (try simp only [bq, bz, dtrue, dfalse] at hb) <;> (try simp only [within] at hb) <;> try simp only [go_sem]) | refine And.intro (by first | exact ⟨⟩ | omega | (simp only [I64]; omega)) ?_ | (with_reducible refine vcM_some fun mg => ?_) | (simp only [go_sem])))
  refine vc_fw (fun j => ⟨[(0, .int .u64 (M6 j)), (3, .row 0 (L6 j).length)], [.row 3 1 ((L6 j).map encN) false]⟩) 2 (fun _ => True) (.nilE 3 3 1 (by (simp only [go_sem])) (by omega) (.base (by (first | exact wk_same (by simp only [go_sem, Int.natCast_add, cn, Int.cast_ofNat_Int, M6, L6, List.map_nil, List.length_nil]) | (refine wk_drop ?_ ?_ ?_ ?_ ?_ <;> simp only [go_sem, Int.natCast_add, cn, Int.cast_ofNat_Int, M6, L6, List.map_nil, List.length_nil]))))) trivial ?_
  intro j hj _
  have hc : j = 0 ∨ j = 1 ∨ j = 2 := by omega
  rcases hc with rfl | rfl | rfl
  · (repeat' (first | ((with_reducible first | apply sg | apply si | apply sq | apply sd) <;> intro hb <;> (try rw [hb]) <;> (try simp only [bq, bz, dtrue, dfalse] at hb) <;> (try simp only [within] at hb) <;> try simp only [go_sem]) | refine And.intro (by first | exact ⟨⟩ | omega | (simp only [I64]; omega)) ?_ | ((with_reducible first | refine vp h0 ?_ ?_); focus (first | exact ⟨rfl, .inl ⟨by first | rfl | (simp only [go_sem, U64, M6, L6, encN, List.map_cons, List.map_nil, List.length_cons, List.length_nil, Nat.zero_add, Nat.reduceAdd, AV.pureL, AV.pure]; done), by first | (simp only [go_sem, U64, M6, L6, encN, List.map_cons, List.map_nil, List.length_cons, List.length_nil, Nat.zero_add, Nat.reduceAdd, AV.pureL, AV.pure]; done) | rfl⟩⟩ | exact ⟨rfl, .inr ⟨rfl, by simp only [go_sem, U64, M6, L6, encN, List.map_cons, List.map_nil, List.length_cons, List.length_nil, Nat.zero_add, Nat.reduceAdd]⟩⟩)) | (with_reducible refine vcM_some fun mg => ?_) | (simp only [go_sem, U64, M6, L6, encN, List.map_cons, List.map_nil, List.length_cons, List.length_nil, Nat.zero_add, Nat.reduceAdd])))
    all_goals first
      | omega
      | exact .base (by (first | exact wk_same (by simp only [go_sem, Int.natCast_add, cn, Int.cast_ofNat_Int, M6, L6, encN, List.map_cons, List.map_nil, List.length_cons, List.length_nil, List.nil_append, List.cons_append, Nat.zero_add, Nat.reduceAdd]) | (refine wk_drop ?_ ?_ ?_ ?_ ?_ <;> simp only [go_sem, Int.natCast_add, cn, Int.cast_ofNat_Int, M6, L6, encN, List.map_cons, List.map_nil, List.length_cons, List.length_nil, List.nil_append, List.cons_append, Nat.zero_add, Nat.reduceAdd])))
  · (repeat' (first | ((with_reducible first | apply sg | apply si | apply sq | apply sd) <;> intro hb <;> (try rw [hb]) <;> (try simp only [bq, bz, dtrue, dfalse] at hb) <;> (try simp only [within] at hb) <;> try simp only [go_sem]) | refine And.intro (by first | exact ⟨⟩ | omega | (simp only [I64]; omega)) ?_ | ((with_reducible first | refine vp h1 ?_ ?_); focus (first | exact ⟨rfl, .inl ⟨by first | rfl | (simp only [go_sem, U64, M6, L6, encN, List.map_cons, List.map_nil, List.length_cons, List.length_nil, Nat.zero_add, Nat.reduceAdd, AV.pureL, AV.pure]; done), by first | (simp only [go_sem, U64, M6, L6, encN, List.map_cons, List.map_nil, List.length_cons, List.length_nil, Nat.zero_add, Nat.reduceAdd, AV.pureL, AV.pure]; done) | rfl⟩⟩ | exact ⟨rfl, .inr ⟨rfl, by simp only [go_sem, U64, M6, L6, encN, List.map_cons, List.map_nil, List.length_cons, List.length_nil, Nat.zero_add, Nat.reduceAdd]⟩⟩)) | (with_reducible refine vcM_some fun mg => ?_) | (simp only [go_sem, U64, M6, L6, encN, List.map_cons, List.map_nil, List.length_cons, List.length_nil, Nat.zero_add, Nat.reduceAdd])))
    all_goals first
      | omega
      | exact .base (by (first | exact wk_same (by simp only [go_sem, Int.natCast_add, cn, Int.cast_ofNat_Int, M6, L6, encN, List.map_cons, List.map_nil, List.length_cons, List.length_nil, List.nil_append, List.cons_append, Nat.zero_add, Nat.reduceAdd]) | (refine wk_drop ?_ ?_ ?_ ?_ ?_ <;> simp only [go_sem, Int.natCast_add, cn, Int.cast_ofNat_Int, M6, L6, encN, List.map_cons, List.map_nil, List.length_cons, List.length_nil, List.nil_append, List.cons_append, Nat.zero_add, Nat.reduceAdd])))
  · (repeat' (first | ((with_reducible first | apply sg | apply si | apply sq | apply sd) <;> intro hb <;> (try rw [hb]) <;> (try simp only [bq, bz, dtrue, dfalse] at hb) <;> (try simp only [within] at hb) <;> try simp only [go_sem]) | refine And.intro (by first | exact ⟨⟩ | omega | (simp only [I64]; omega)) ?_ | (with_reducible refine vcM_some fun mg => ?_) | (simp only [go_sem, U64, M6, L6, encN, List.map_cons, List.map_nil, List.length_cons, List.length_nil, Nat.zero_add, Nat.reduceAdd])))
    all_goals exact frzN
def M7 : Nat → Int
  | 0 => 7
  | 1 => 6
  | 2 => 4
  | _ => 0
def L7 : Nat → List Int
  | 0 => []
  | 1 => [0]
  | 2 => [0, 1]
  | _ => [0, 1, 2]
theorem c76_7 : PC Tryd.prog 76 [.int .u64 7] (lN [0, 1, 2]) := by
  have h0 := c103 7 (by omega) (by omega)
  rw [show tz 7 = 0 from rfl] at h0
  have h1 := c103 6 (by omega) (by omega)
  rw [show tz 6 = 1 from rfl] at h1
  have h2 := c103 4 (by omega) (by omega)
  rw [show tz 4 = 2 from rfl] at h2
  refine PC.body Tryd.func76 (by kernel_rfl) rfl (by simp [Tryd.f76]) rfl ?_
  simp only [Tryd.f76]
  intro hlen
  simp only [go_sem, List.length_map, and_true, true_and] at hlen
  refine CV.run ?_
  (repeat' (first | ((with_reducible first | apply sg | apply si | apply sq | apply sd) <;> intro hb <;> (try rw [hb]) <;> (try simp only [bq, bz, dtrue, dfalse] at hb) <;> (try simp only [within] at hb) <;> try simp only [go_sem]) | refine And.intro (by first | exact ⟨⟩ | omega | (simp only [I64]; omega)) ?_ | (with_reducible refine vcM_some fun mg => ?_) | (simp only [go_sem])))
  refine vc_fw (fun j => ⟨[(0, .int .u64 (M7 j)), (3, .row 0 (L7 j).length)], [.row 3 1 ((L7 j).map encN) false]⟩) 3 (fun _ => True) (.nilE 3 3 1 (by (simp only [go_sem])) (by omega) (.base (by (first | exact wk_same (by simp only [go_sem, Int.natCast_add, cn, Int.cast_ofNat_Int, M7, L7, List.map_nil, List.length_nil]) | (refine wk_drop ?_ ?_ ?_ ?_ ?_ <;> simp only [go_sem, Int.natCast_add, cn, Int.cast_ofNat_Int, M7, L7, List.map_nil, List.length_nil]))))) trivial ?_
  intro j hj _
  have hc : j = 0 ∨ j = 1 ∨ j = 2 ∨ j = 3 := by omega
  rcases hc with rfl | rfl | rfl | rfl
  · (repeat' (first | ((with_reducible first | apply sg | apply si | apply sq | apply sd) <;> intro hb <;> (try rw [hb]) <;> (try simp only [bq, bz, dtrue, dfalse] at hb) <;> (try simp only [within] at hb) <;> try simp only [go_sem]) | refine And.intro (by first | exact ⟨⟩ | omega | (simp only [I64]; omega)) ?_ | ((with_reducible first | refine vp h0 ?_ ?_); focus (first | exact ⟨rfl, .inl ⟨by first | rfl | (simp only [go_sem, U64, M7, L7, encN, List.map_cons, List.map_nil, List.length_cons, List.length_nil, Nat.zero_add, Nat.reduceAdd, AV.pureL, AV.pure]; done), by first | (simp only [go_sem, U64, M7, L7, encN, List.map_cons, List.map_nil, List.length_cons, List.length_nil, Nat.zero_add, Nat.reduceAdd, AV.pureL, AV.pure]; done) | rfl⟩⟩ | exact ⟨rfl, .inr ⟨rfl, by simp only [go_sem, U64, M7, L7, encN, List.map_cons, List.map_nil, List.length_cons, List.length_nil, Nat.zero_add, Nat.reduceAdd]⟩⟩)) | (with_reducible refine vcM_some fun mg => ?_) | (simp only [go_sem, U64, M7, L7, encN, List.map_cons, List.map_nil, List.length_cons, List.length_nil, Nat.zero_add, Nat.reduceAdd])))
    all_goals first
      | omega
      | exact .base (by (first | exact wk_same (by simp only [go_sem, Int.natCast_add, cn, Int.cast_ofNat_Int, M7, L7, encN, List.map_cons, List.map_nil, List.length_cons, List.length_nil, List.nil_append, List.cons_append, Nat.zero_add, Nat.reduceAdd]) | (refine wk_drop ?_ ?_ ?_ ?_ ?_ <;> simp only [go_sem, Int.natCast_add, cn, Int.cast_ofNat_Int, M7, L7, encN, List.map_cons, List.map_nil, List.length_cons, List.length_nil, List.nil_append, List.cons_append, Nat.zero_add, Nat.reduceAdd])))
  · (repeat' (first | ((with_reducible first | apply sg | apply si | apply sq | apply sd) <;> intro hb <;> (try rw [hb]) <;> (try simp only [bq, bz, dtrue, dfalse] at hb) <;> (try simp only [within] at hb) <;> try simp only [go_sem]) | refine And.intro (by first | exact ⟨⟩ | omega | (simp only [I64]; omega)) ?_ | ((with_reducible first | refine vp h1 ?_ ?_); focus (first | exact ⟨rfl, .inl ⟨by first | rfl | (simp only [go_sem, U64, M7, L7, encN, List.map_cons, List.map_nil, List.length_cons, List.length_nil, Nat.zero_add, Nat.reduceAdd, AV.pureL, AV.pure]; done), by first | (simp only [go_sem, U64, M7, L7, encN, List.map_cons, List.map_nil, List.length_cons, List.length_nil, Nat.zero_add, Nat.reduceAdd, AV.pureL, AV.pure]; done) | rfl⟩⟩ | exact ⟨rfl, .inr ⟨rfl, by simp only [go_sem, U64, M7, L7, encN, List.map_cons, List.map_nil, List.length_cons, List.length_nil, Nat.zero_add, Nat.reduceAdd]⟩⟩)) | (with_reducible refine vcM_some fun mg => ?_) | (simp only [go_sem, U64, M7, L7, encN, List.map_cons, List.map_nil, List.length_cons, List.length_nil, Nat.zero_add, Nat.reduceAdd])))
    all_goals first
      | omega
      | exact .base (by (first | exact wk_same (by simp only [go_sem, Int.natCast_add, cn, Int.cast_ofNat_Int, M7, L7, encN, List.map_cons, List.map_nil, List.length_cons, List.length_nil, List.nil_append, List.cons_append, Nat.zero_add, Nat.reduceAdd]) | (refine wk_drop ?_ ?_ ?_ ?_ ?_ <;> simp only [go_sem, Int.natCast_add, cn, Int.cast_ofNat_Int, M7, L7, encN, List.map_cons, List.map_nil, List.length_cons, List.length_nil, List.nil_append, List.cons_append, Nat.zero_add, Nat.reduceAdd])))
  · (repeat' (first | ((with_reducible first | apply sg | apply si | apply sq | apply sd) <;> intro hb <;> (try rw [hb]) <;> (try simp only [bq, bz, dtrue, dfalse] at hb) <;> (try simp only [within] at hb) <;> try simp only [go_sem]) | refine And.intro (by first | exact ⟨⟩ | omega | (simp only [I64]; omega)) ?_ | ((with_reducible first | refine vp h2 ?_ ?_); focus (first | exact ⟨rfl, .inl ⟨by first | rfl | (simp only [go_sem, U64, M7, L7, encN, List.map_cons, List.map_nil, List.length_cons, List.length_nil, Nat.zero_add, Nat.reduceAdd, AV.pureL, AV.pure]; done), by first | (simp only [go_sem, U64, M7, L7, encN, List.map_cons, List.map_nil, List.length_cons, List.length_nil, Nat.zero_add, Nat.reduceAdd, AV.pureL, AV.pure]; done) | rfl⟩⟩ | exact ⟨rfl, .inr ⟨rfl, by simp only [go_sem, U64, M7, L7, encN, List.map_cons, List.map_nil, List.length_cons, List.length_nil, Nat.zero_add, Nat.reduceAdd]⟩⟩)) | (with_reducible refine vcM_some fun mg => ?_) | (simp only [go_sem, U64, M7, L7, encN, List.map_cons, List.map_nil, List.length_cons, List.length_nil, Nat.zero_add, Nat.reduceAdd])))
    all_goals first
      | omega
      | exact .base (by (first | exact wk_same (by simp only [go_sem, Int.natCast_add, cn, Int.cast_ofNat_Int, M7, L7, encN, List.map_cons, List.map_nil, List.length_cons, List.length_nil, List.nil_append, List.cons_append, Nat.zero_add, Nat.reduceAdd]) | (refine wk_drop ?_ ?_ ?_ ?_ ?_ <;> simp only [go_sem, Int.natCast_add, cn, Int.cast_ofNat_Int, M7, L7, encN, List.map_cons, List.map_nil, List.length_cons, List.length_nil, List.nil_append, List.cons_append, Nat.zero_add, Nat.reduceAdd])))
  · (repeat' (first | ((with_reducible first | apply sg | apply si | apply sq | apply sd) <;> intro hb <;> (try rw [hb]) <;> (try simp only [bq, bz, dtrue, dfalse] at hb) <;> (try simp only [within] at hb) <;> try simp only [go_sem]) | refine And.intro (by first | exact ⟨⟩ | omega | (simp only [I64]; omega)) ?_ | (with_reducible refine vcM_some fun mg => ?_) | (simp only [go_sem, U64, M7, L7, encN, List.map_cons, List.map_nil, List.length_cons, List.length_nil, Nat.zero_add, Nat.reduceAdd])))
    all_goals exact frzN
theorem c76 (q : Nat → Prop) : PC Tryd.prog 76 [.int .u64 (msk q 3)] (lN (sel q 3)) := by
  rw [msk3]
  by_cases h0 : q 0 <;> by_cases h1 : q 1 <;> by_cases h2 : q 2
  · rw [if_pos h0, if_pos h1, if_pos h2, show sel q 3 = [0, 1, 2] from by rw [sel_yes (p := q) (n := 2) h2, sel_yes (p := q) (n := 1) h1, sel_yes (p := q) (n := 0) h0]; rfl]
    exact c76_7
  · rw [if_pos h0, if_pos h1, if_neg h2, show sel q 3 = [0, 1] from by rw [sel_no (p := q) (n := 2) h2, sel_yes (p := q) (n := 1) h1, sel_yes (p := q) (n := 0) h0]; rfl]
    exact c76_3
  · rw [if_pos h0, if_neg h1, if_pos h2, show sel q 3 = [0, 2] from by rw [sel_yes (p := q) (n := 2) h2, sel_no (p := q) (n := 1) h1, sel_yes (p := q) (n := 0) h0]; rfl]
    exact c76_5
  · rw [if_pos h0, if_neg h1, if_neg h2, show sel q 3 = [0] from by rw [sel_no (p := q) (n := 2) h2, sel_no (p := q) (n := 1) h1, sel_yes (p := q) (n := 0) h0]; rfl]
    exact c76_1
  · rw [if_neg h0, if_pos h1, if_pos h2, show sel q 3 = [1, 2] from by rw [sel_yes (p := q) (n := 2) h2, sel_yes (p := q) (n := 1) h1, sel_no (p := q) (n := 0) h0]; rfl]
    exact c76_6
  · rw [if_neg h0, if_pos h1, if_neg h2, show sel q 3 = [1] from by rw [sel_no (p := q) (n := 2) h2, sel_yes (p := q) (n := 1) h1, sel_no (p := q) (n := 0) h0]; rfl]
    exact c76_2
  · rw [if_neg h0, if_neg h1, if_pos h2, show sel q 3 = [2] from by rw [sel_yes (p := q) (n := 2) h2, sel_no (p := q) (n := 1) h1, sel_no (p := q) (n := 0) h0]; rfl]
    exact c76_4
  · rw [if_neg h0, if_neg h1, if_neg h2, show sel q 3 = [] from by rw [sel_no (p := q) (n := 2) h2, sel_no (p := q) (n := 1) h1, sel_no (p := q) (n := 0) h0]; rfl]
    exact c76_0
def cmpL : List Int → List Int → Int
  | [], [] => 0
  | [], _ :: _ => -1
  | _ :: _, [] => 1
  | x :: a, y :: b => if x < y then -1 else if y < x then 1 else cmpL a b
theorem cmpL_earlier : ∀ {a b : List Int}, a.length = b.length → (cmpL a b < 0 ↔ earlier a b)
  | [], [], _ => by simp [cmpL, earlier]
  | [], _ :: _, h => by simp at h
  | _ :: _, [], h => by simp at h
  | x :: a, y :: b, h => by
    have ih := cmpL_earlier (a := a) (b := b) (by simpa using h)
    simp only [cmpL, earlier]
    by_cases h1 : x < y
    · rw [if_pos h1, if_neg (by omega)]; omega
    · by_cases h2 : y < x
      · rw [if_neg h1, if_pos h2, if_neg (by omega)]; omega
      · have : x = y := by omega
        rw [if_neg h1, if_neg h2, if_pos this]; exact ih
theorem cmpL_bnd : ∀ {a b : List Int}, -1 ≤ cmpL a b ∧ cmpL a b ≤ 1
  | [], [] => by simp [cmpL]
  | [], _ :: _ => by simp [cmpL]
  | _ :: _, [] => by simp [cmpL]
  | x :: a, y :: b => by
    have ih := cmpL_bnd (a := a) (b := b)
    simp only [cmpL]
    split
    · omega
    · split <;> omega
theorem c78 (a b : List Int) : PC Tryd.prog 78 [lN a, lN b] (.int .i64 (cmpL a b)) := by
  refine PC.body Tryd.func78 (by kernel_rfl) rfl (by simp [Tryd.f78]) rfl ?_
  simp only [Tryd.f78]
  intro hlen
  simp only [go_sem, List.length_map, and_true, true_and] at hlen
  refine CV.run ?_
  (repeat' (first | ((with_reducible first | apply sg | apply si | apply sq | apply sd) <;> intro hb <;> (try rw [hb]) <;> (try simp only [bq, bz, dtrue, dfalse] at hb) <;> (try simp only [within] at hb) <;> try simp only [go_sem]) | refine And.intro (by first | exact ⟨⟩ | omega | (simp only [I64]; omega)) ?_ | (with_reducible refine vcM_some fun mg => ?_) | (simp only [go_sem])))
  refine vc_for (fun j => ⟨[(11, .int .i64 j), (10, .int .i64 a.length), (9, lN a), (0, lN a), (1, lN b), (4, .int .i64 0)], []⟩) a.length (fun j => j ≤ b.length ∧ cmpL a b = cmpL (a.drop j) (b.drop j)) (by (first | exact wk_same (by simp only [go_sem, Int.natCast_add, cn, Int.cast_ofNat_Int]) | (refine wk_drop ?_ ?_ ?_ ?_ ?_ <;> simp only [go_sem, Int.natCast_add, cn, Int.cast_ofNat_Int]))) ⟨by omega, rfl⟩ ?_
  rintro j hj ⟨hx1, hx2⟩
  rw [hx2]
  rcases Nat.lt_or_ge j a.length with hlt | hge
  · have hlt' : (j : Int) < a.length := by omega
    obtain ⟨x, hx⟩ := get_of hlt
    have da : a.drop j = x :: a.drop (j + 1) := by rw [List.drop_eq_getElem_cons hlt, ← Option.some.inj (hx.symm.trans (List.getElem?_eq_getElem hlt))]
    rcases Nat.lt_or_ge j b.length with hbl | hbg
    · have hbl' : ¬ (b.length : Int) ≤ j := by omega
      have hbl2 : (j : Int) < b.length := by omega
      obtain ⟨y, hy⟩ := get_of hbl
      have db : b.drop j = y :: b.drop (j + 1) := by rw [List.drop_eq_getElem_cons hbl, ← Option.some.inj (hy.symm.trans (List.getElem?_eq_getElem hbl))]
      have h104 := c104 x y
      rw [da, db] at hx2 ⊢
      simp only [cmpL] at hx2 ⊢
      by_cases h1 : x < y
      · rw [if_pos h1] at h104 ⊢
        (repeat' (first | ((with_reducible first | apply sg | apply si | apply sq | apply sd) <;> intro hb <;> (try rw [hb]) <;> (try simp only [bq, bz, dtrue, dfalse] at hb) <;> (try simp only [within] at hb) <;> try simp only [go_sem]) | refine And.intro (by first | exact ⟨⟩ | omega | (simp only [I64]; omega)) ?_ | ((with_reducible first | refine vp h104 ?_ ?_); focus (first | exact ⟨rfl, .inl ⟨by first | rfl | (simp only [go_sem, hlt', hbl', hbl2, hx, hy, encN, List.length_map, AV.pureL, AV.pure]; done), by first | (simp only [go_sem, hlt', hbl', hbl2, hx, hy, encN, List.length_map, AV.pureL, AV.pure]; done) | rfl⟩⟩ | exact ⟨rfl, .inr ⟨rfl, by simp only [go_sem, hlt', hbl', hbl2, hx, hy, encN, List.length_map]⟩⟩)) | (with_reducible refine vcM_some fun mg => ?_) | (simp only [go_sem, hlt', hbl', hbl2, hx, hy, encN, List.length_map])))
      · by_cases h2 : y < x
        · rw [if_neg h1, if_pos h2] at h104 ⊢
          (repeat' (first | ((with_reducible first | apply sg | apply si | apply sq | apply sd) <;> intro hb <;> (try rw [hb]) <;> (try simp only [bq, bz, dtrue, dfalse] at hb) <;> (try simp only [within] at hb) <;> try simp only [go_sem]) | refine And.intro (by first | exact ⟨⟩ | omega | (simp only [I64]; omega)) ?_ | ((with_reducible first | refine vp h104 ?_ ?_); focus (first | exact ⟨rfl, .inl ⟨by first | rfl | (simp only [go_sem, hlt', hbl', hbl2, hx, hy, encN, List.length_map, AV.pureL, AV.pure]; done), by first | (simp only [go_sem, hlt', hbl', hbl2, hx, hy, encN, List.length_map, AV.pureL, AV.pure]; done) | rfl⟩⟩ | exact ⟨rfl, .inr ⟨rfl, by simp only [go_sem, hlt', hbl', hbl2, hx, hy, encN, List.length_map]⟩⟩)) | (with_reducible refine vcM_some fun mg => ?_) | (simp only [go_sem, hlt', hbl', hbl2, hx, hy, encN, List.length_map])))
        · rw [if_neg h1, if_neg h2] at h104 hx2 ⊢
          (repeat' (first | ((with_reducible first | apply sg | apply si | apply sq | apply sd) <;> intro hb <;> (try rw [hb]) <;> (try simp only [bq, bz, dtrue, dfalse] at hb) <;> (try simp only [within] at hb) <;> try simp only [go_sem]) | refine And.intro (by first | exact ⟨⟩ | omega | (simp only [I64]; omega)) ?_ | ((with_reducible first | refine vp h104 ?_ ?_); focus (first | exact ⟨rfl, .inl ⟨by first | rfl | (simp only [go_sem, hlt', hbl', hbl2, hx, hy, encN, List.length_map, AV.pureL, AV.pure]; done), by first | (simp only [go_sem, hlt', hbl', hbl2, hx, hy, encN, List.length_map, AV.pureL, AV.pure]; done) | rfl⟩⟩ | exact ⟨rfl, .inr ⟨rfl, by simp only [go_sem, hlt', hbl', hbl2, hx, hy, encN, List.length_map]⟩⟩)) | (with_reducible refine vcM_some fun mg => ?_) | (simp only [go_sem, hlt', hbl', hbl2, hx, hy, encN, List.length_map])))
          exact ⟨by (first | exact wk_same (by simp only [go_sem, Int.natCast_add, cn, Int.cast_ofNat_Int]) | (refine wk_drop ?_ ?_ ?_ ?_ ?_ <;> simp only [go_sem, Int.natCast_add, cn, Int.cast_ofNat_Int])), by omega⟩
    · have hbg' : (b.length : Int) ≤ j := by omega
      rw [da, List.drop_eq_nil_of_le hbg]
      simp only [cmpL]
      (repeat' (first | ((with_reducible first | apply sg | apply si | apply sq | apply sd) <;> intro hb <;> (try rw [hb]) <;> (try simp only [bq, bz, dtrue, dfalse] at hb) <;> (try simp only [within] at hb) <;> try simp only [go_sem]) | refine And.intro (by first | exact ⟨⟩ | omega | (simp only [I64]; omega)) ?_ | (with_reducible refine vcM_some fun mg => ?_) | (simp only [go_sem, hlt', hbg', hx, encN, List.length_map])))
      all_goals omega
  · have hge' : ¬ (j : Int) < a.length := by omega
    have : j = a.length := by omega
    subst this
    rw [List.drop_length]
    rcases Nat.lt_or_ge a.length b.length with hbl | hbg
    · have hbl' : (a.length : Int) < b.length := by omega
      obtain ⟨y, hy⟩ := get_of hbl
      have db : b.drop a.length = y :: b.drop (a.length + 1) := by rw [List.drop_eq_getElem_cons hbl, ← Option.some.inj (hy.symm.trans (List.getElem?_eq_getElem hbl))]
      rw [db]
      simp only [cmpL]
      (repeat' (first | ((with_reducible first | apply sg | apply si | apply sq | apply sd) <;> intro hb <;> (try rw [hb]) <;> (try simp only [bq, bz, dtrue, dfalse] at hb) <;> (try simp only [within] at hb) <;> try simp only [go_sem]) | refine And.intro (by first | exact ⟨⟩ | omega | (simp only [I64]; omega)) ?_ | (with_reducible refine vcM_some fun mg => ?_) | (simp only [go_sem, hge', hbl', List.length_map])))
    · have hbg' : ¬ (a.length : Int) < b.length := by omega
      rw [List.drop_eq_nil_of_le hbg]
      simp only [cmpL]
      (repeat' (first | ((with_reducible first | apply sg | apply si | apply sq | apply sd) <;> intro hb <;> (try rw [hb]) <;> (try simp only [bq, bz, dtrue, dfalse] at hb) <;> (try simp only [within] at hb) <;> try simp only [go_sem]) | refine And.intro (by first | exact ⟨⟩ | omega | (simp only [I64]; omega)) ?_ | (with_reducible refine vcM_some fun mg => ?_) | (simp only [go_sem, hge', hbg', List.length_map])))
end Go.Proofs.YtjlopclpofbgbaaDoor

