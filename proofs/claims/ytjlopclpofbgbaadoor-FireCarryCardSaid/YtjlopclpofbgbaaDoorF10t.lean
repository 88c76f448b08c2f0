/- Contracts of functions of the given program, without a condition beyond those that each theorem states; they lead to the given statement. -/
import Derived.Test.YtjlopclpofbgbaaDoorF10r
set_option linter.unusedSimpArgs false
set_option linter.unusedVariables false
set_option maxRecDepth 100000
namespace Go.Proofs.YtjlopclpofbgbaaDoor
open Go Go.Fl
open Classical
attribute [go_sem] Nat.reduceAnd Nat.reduceOr Nat.reduceDiv Nat.reduceMod Nat.reducePow Int.reduceDiv Int.reduceMod Int.reduceAdd Int.reduceSub Int.reduceMul Int.reducePow Int.reduceLE Int.reduceLT Int.reduceEq Int.natCast_one Int.natCast_zero Int.cast_ofNat_Int
def tz (m : Int) : Int := if m % 2 = 1 then 0 else if m % 4 = 2 then 1 else 2
theorem c125 (m : Int) (h0 : 0 < m) (h1 : m < 8) : PC Tryd.prog 125 [.int .u64 m] (.int .i64 (tz m)) := by
  have : m = 1 ∨ m = 2 ∨ m = 3 ∨ m = 4 ∨ m = 5 ∨ m = 6 ∨ m = 7 := by omega
  rcases this with rfl | rfl | rfl | rfl | rfl | rfl | rfl
  · skip
    refine PC.body Tryd.func125 (by kernel_rfl) rfl (by simp [Tryd.f125]) rfl ?_
    simp only [Tryd.f125]
    intro hlen
    simp only [go_sem, List.length_map, and_true, true_and] at hlen
    refine CV.run ?_
    (repeat' (first | ((with_reducible first | apply sg | apply si | apply sq | apply sd) <;> intro hb <;> (try rw [hb]) <;> (try simp only [bq, bz, dtrue, dfalse] at hb) <;> (try simp only [within] at hb) <;> try simp only [go_sem]) | refine And.intro (by first | exact ⟨⟩ | omega | (simp only [I64]; omega)) ?_ | (simp only [go_sem, U64])))
    all_goals rfl
  · skip
    refine PC.body Tryd.func125 (by kernel_rfl) rfl (by simp [Tryd.f125]) rfl ?_
    simp only [Tryd.f125]
    intro hlen
    simp only [go_sem, List.length_map, and_true, true_and] at hlen
    refine CV.run ?_
    (repeat' (first | ((with_reducible first | apply sg | apply si | apply sq | apply sd) <;> intro hb <;> (try rw [hb]) <;> (try simp only [bq, bz, dtrue, dfalse] at hb) <;> (try simp only [within] at hb) <;> try simp only [go_sem]) | refine And.intro (by first | exact ⟨⟩ | omega | (simp only [I64]; omega)) ?_ | (simp only [go_sem, U64])))
    all_goals rfl
  · skip
    refine PC.body Tryd.func125 (by kernel_rfl) rfl (by simp [Tryd.f125]) rfl ?_
    simp only [Tryd.f125]
    intro hlen
    simp only [go_sem, List.length_map, and_true, true_and] at hlen
    refine CV.run ?_
    (repeat' (first | ((with_reducible first | apply sg | apply si | apply sq | apply sd) <;> intro hb <;> (try rw [hb]) <;> (try simp only [bq, bz, dtrue, dfalse] at hb) <;> (try simp only [within] at hb) <;> try simp only [go_sem]) | refine And.intro (by first | exact ⟨⟩ | omega | (simp only [I64]; omega)) ?_ | (simp only [go_sem, U64])))
    all_goals rfl
  · skip
    refine PC.body Tryd.func125 (by kernel_rfl) rfl (by simp [Tryd.f125]) rfl ?_
    simp only [Tryd.f125]
    intro hlen
    simp only [go_sem, List.length_map, and_true, true_and] at hlen
    refine CV.run ?_
    (repeat' (first | ((with_reducible first | apply sg | apply si | apply sq | apply sd) <;> intro hb <;> (try rw [hb]) <;> (try simp only [bq, bz, dtrue, dfalse] at hb) <;> (try simp only [within] at hb) <;> try simp only [go_sem]) | refine And.intro (by first | exact ⟨⟩ | omega | (simp only [I64]; omega)) ?_ | (simp only [go_sem, U64])))
    all_goals rfl
  · skip
    refine PC.body Tryd.func125 (by kernel_rfl) rfl (by simp [Tryd.f125]) rfl ?_
    simp only [Tryd.f125]
    intro hlen
    simp only [go_sem, List.length_map, and_true, true_and] at hlen
    refine CV.run ?_
    (repeat' (first | ((with_reducible first | apply sg | apply si | apply sq | apply sd) <;> intro hb <;> (try rw [hb]) <;> (try simp only [bq, bz, dtrue, dfalse] at hb) <;> (try simp only [within] at hb) <;> try simp only [go_sem]) | refine And.intro (by first | exact ⟨⟩ | omega | (simp only [I64]; omega)) ?_ | (simp only [go_sem, U64])))
    all_goals rfl
  · skip
    refine PC.body Tryd.func125 (by kernel_rfl) rfl (by simp [Tryd.f125]) rfl ?_
    simp only [Tryd.f125]
    intro hlen
    simp only [go_sem, List.length_map, and_true, true_and] at hlen
    refine CV.run ?_
    (repeat' (first | ((with_reducible first | apply sg | apply si | apply sq | apply sd) <;> intro hb <;> (try rw [hb]) <;> (try simp only [bq, bz, dtrue, dfalse] at hb) <;> (try simp only [within] at hb) <;> try simp only [go_sem]) | refine And.intro (by first | exact ⟨⟩ | omega | (simp only [I64]; omega)) ?_ | (simp only [go_sem, U64])))
    all_goals rfl
  · skip
    refine PC.body Tryd.func125 (by kernel_rfl) rfl (by simp [Tryd.f125]) rfl ?_
    simp only [Tryd.f125]
    intro hlen
    simp only [go_sem, List.length_map, and_true, true_and] at hlen
    refine CV.run ?_
    (repeat' (first | ((with_reducible first | apply sg | apply si | apply sq | apply sd) <;> intro hb <;> (try rw [hb]) <;> (try simp only [bq, bz, dtrue, dfalse] at hb) <;> (try simp only [within] at hb) <;> try simp only [go_sem]) | refine And.intro (by first | exact ⟨⟩ | omega | (simp only [I64]; omega)) ?_ | (simp only [go_sem, U64])))
    all_goals rfl
theorem c103 (m : Int) (h0 : 0 < m) (h1 : m < 8) : PC Tryd.prog 103 [.int .u64 m] (.int .i64 (tz m)) := by
  have h125 := c125 m h0 h1
  refine PC.body Tryd.func103 (by kernel_rfl) rfl (by simp [Tryd.f103]) rfl ?_
  simp only [Tryd.f103]
  intro hlen
  simp only [go_sem, List.length_map, and_true, true_and] at hlen
  refine CV.run ?_
  (repeat' (first | ((with_reducible first | apply sg | apply si | apply sq | apply sd) <;> intro hb <;> (try rw [hb]) <;> (try simp only [bq, bz, dtrue, dfalse] at hb) <;> (try simp only [within] at hb) <;> try simp only [go_sem]) | refine And.intro (by first | exact ⟨⟩ | omega | (simp only [I64]; omega)) ?_ | ((with_reducible first | refine vp h125 ?_ ?_); focus (first | exact ⟨rfl, .inl ⟨by first | rfl | (simp only [go_sem, AV.pureL, AV.pure]; done), by first | (simp only [go_sem, AV.pureL, AV.pure]; done) | rfl⟩⟩ | exact ⟨rfl, .inr ⟨rfl, by simp only [go_sem]⟩⟩)) | (simp only [go_sem])))
theorem c119 (m : Int) (h0 : 0 ≤ m) (h1 : m < 8) : PC Tryd.prog 119 [.int .u64 m] (.int .i64 (m % 2 + m / 2 % 2 + m / 4)) := by
  have : m = 0 ∨ m = 1 ∨ m = 2 ∨ m = 3 ∨ m = 4 ∨ m = 5 ∨ m = 6 ∨ m = 7 := by omega
  rcases this with rfl | rfl | rfl | rfl | rfl | rfl | rfl | rfl
  · skip
    refine PC.body Tryd.func119 (by kernel_rfl) rfl (by simp [Tryd.f119]) rfl ?_
    simp only [Tryd.f119]
    intro hlen
    simp only [go_sem, List.length_map, and_true, true_and] at hlen
    refine CV.run ?_
    (repeat' (first | ((with_reducible first | apply sg | apply si | apply sq | apply sd) <;> intro hb <;> (try rw [hb]) <;> (try simp only [bq, bz, dtrue, dfalse] at hb) <;> (try simp only [within] at hb) <;> try simp only [go_sem]) | refine And.intro (by first | exact ⟨⟩ | omega | (simp only [I64]; omega)) ?_ | (simp only [go_sem, U64])))
    all_goals rfl
  · skip
    refine PC.body Tryd.func119 (by kernel_rfl) rfl (by simp [Tryd.f119]) rfl ?_
    simp only [Tryd.f119]
    intro hlen
    simp only [go_sem, List.length_map, and_true, true_and] at hlen
    refine CV.run ?_
    (repeat' (first | ((with_reducible first | apply sg | apply si | apply sq | apply sd) <;> intro hb <;> (try rw [hb]) <;> (try simp only [bq, bz, dtrue, dfalse] at hb) <;> (try simp only [within] at hb) <;> try simp only [go_sem]) | refine And.intro (by first | exact ⟨⟩ | omega | (simp only [I64]; omega)) ?_ | (simp only [go_sem, U64])))
    all_goals rfl
  · skip
    refine PC.body Tryd.func119 (by kernel_rfl) rfl (by simp [Tryd.f119]) rfl ?_
    simp only [Tryd.f119]
    intro hlen
    simp only [go_sem, List.length_map, and_true, true_and] at hlen
    refine CV.run ?_
    (repeat' (first | ((with_reducible first | apply sg | apply si | apply sq | apply sd) <;> intro hb <;> (try rw [hb]) <;> (try simp only [bq, bz, dtrue, dfalse] at hb) <;> (try simp only [within] at hb) <;> try simp only [go_sem]) | refine And.intro (by first | exact ⟨⟩ | omega | (simp only [I64]; omega)) ?_ | (simp only [go_sem, U64])))
    all_goals rfl
  · skip
    refine PC.body Tryd.func119 (by kernel_rfl) rfl (by simp [Tryd.f119]) rfl ?_
    simp only [Tryd.f119]
    intro hlen
    simp only [go_sem, List.length_map, and_true, true_and] at hlen
    refine CV.run ?_
    (repeat' (first | ((with_reducible first | apply sg | apply si | apply sq | apply sd) <;> intro hb <;> (try rw [hb]) <;> (try simp only [bq, bz, dtrue, dfalse] at hb) <;> (try simp only [within] at hb) <;> try simp only [go_sem]) | refine And.intro (by first | exact ⟨⟩ | omega | (simp only [I64]; omega)) ?_ | (simp only [go_sem, U64])))
    all_goals rfl
  · skip
    refine PC.body Tryd.func119 (by kernel_rfl) rfl (by simp [Tryd.f119]) rfl ?_
    simp only [Tryd.f119]
    intro hlen
    simp only [go_sem, List.length_map, and_true, true_and] at hlen
    refine CV.run ?_
    (repeat' (first | ((with_reducible first | apply sg | apply si | apply sq | apply sd) <;> intro hb <;> (try rw [hb]) <;> (try simp only [bq, bz, dtrue, dfalse] at hb) <;> (try simp only [within] at hb) <;> try simp only [go_sem]) | refine And.intro (by first | exact ⟨⟩ | omega | (simp only [I64]; omega)) ?_ | (simp only [go_sem, U64])))
    all_goals rfl
  · skip
    refine PC.body Tryd.func119 (by kernel_rfl) rfl (by simp [Tryd.f119]) rfl ?_
    simp only [Tryd.f119]
    intro hlen
    simp only [go_sem, List.length_map, and_true, true_and] at hlen
    refine CV.run ?_
    (repeat' (first | ((with_reducible first | apply sg | apply si | apply sq | apply sd) <;> intro hb <;> (try rw [hb]) <;> (try simp only [bq, bz, dtrue, dfalse] at hb) <;> (try simp only [within] at hb) <;> try simp only [go_sem]) | refine And.intro (by first | exact ⟨⟩ | omega | (simp only [I64]; omega)) ?_ | (simp only [go_sem, U64])))
    all_goals rfl
  · skip
    refine PC.body Tryd.func119 (by kernel_rfl) rfl (by simp [Tryd.f119]) rfl ?_
    simp only [Tryd.f119]
    intro hlen
    simp only [go_sem, List.length_map, and_true, true_and] at hlen
    refine CV.run ?_
    (repeat' (first | ((with_reducible first | apply sg | apply si | apply sq | apply sd) <;> intro hb <;> (try rw [hb]) <;> (try simp only [bq, bz, dtrue, dfalse] at hb) <;> (try simp only [within] at hb) <;> try simp only [go_sem]) | refine And.intro (by first | exact ⟨⟩ | omega | (simp only [I64]; omega)) ?_ | (simp only [go_sem, U64])))
    all_goals rfl
  · skip
    refine PC.body Tryd.func119 (by kernel_rfl) rfl (by simp [Tryd.f119]) rfl ?_
    simp only [Tryd.f119]
    intro hlen
    simp only [go_sem, List.length_map, and_true, true_and] at hlen
    refine CV.run ?_
    (repeat' (first | ((with_reducible first | apply sg | apply si | apply sq | apply sd) <;> intro hb <;> (try rw [hb]) <;> (try simp only [bq, bz, dtrue, dfalse] at hb) <;> (try simp only [within] at hb) <;> try simp only [go_sem]) | refine And.intro (by first | exact ⟨⟩ | omega | (simp only [I64]; omega)) ?_ | (simp only [go_sem, U64])))
    all_goals rfl
theorem c96 (m : Int) (h0 : 0 ≤ m) (h1 : m < 8) : PC Tryd.prog 96 [.int .u64 m] (.int .i64 (m % 2 + m / 2 % 2 + m / 4)) := by
  have h119 := c119 m h0 h1
  refine PC.body Tryd.func96 (by kernel_rfl) rfl (by simp [Tryd.f96]) rfl ?_
  simp only [Tryd.f96]
  intro hlen
  simp only [go_sem, List.length_map, and_true, true_and] at hlen
  refine CV.run ?_
  (repeat' (first | ((with_reducible first | apply sg | apply si | apply sq | apply sd) <;> intro hb <;> (try rw [hb]) <;> (try simp only [bq, bz, dtrue, dfalse] at hb) <;> (try simp only [within] at hb) <;> try simp only [go_sem]) | refine And.intro (by first | exact ⟨⟩ | omega | (simp only [I64]; omega)) ?_ | ((with_reducible first | refine vp h119 ?_ ?_); focus (first | exact ⟨rfl, .inl ⟨by first | rfl | (simp only [go_sem, AV.pureL, AV.pure]; done), by first | (simp only [go_sem, AV.pureL, AV.pure]; done) | rfl⟩⟩ | exact ⟨rfl, .inr ⟨rfl, by simp only [go_sem]⟩⟩)) | (simp only [go_sem])))
theorem c126 (n : Int) : PC Tryd.prog 126 [.int .i64 n] (.bool false) := by
  refine PC.body Tryd.func126 (by kernel_rfl) rfl (by simp [Tryd.f126]) rfl ?_
  simp only [Tryd.f126]
  intro hlen
  simp only [go_sem, List.length_map, and_true, true_and] at hlen
  refine CV.run ?_
  (repeat' (first | ((with_reducible first | apply sg | apply si | apply sq | apply sd) <;> intro hb <;> (try rw [hb]) <;> (try simp only [bq, bz, dtrue, dfalse] at hb) <;> (try simp only [within] at hb) <;> try simp only [go_sem]) | refine And.intro (by first | exact ⟨⟩ | omega | (simp only [I64]; omega)) ?_ | (simp only [go_sem])))
theorem c104 (a b : Int) : PC Tryd.prog 104 [.int .i64 a, .int .i64 b] (.int .i64 (if a < b then -1 else if b < a then 1 else 0)) := by
  by_cases h1 : a < b
  · rw [if_pos h1]
    refine PC.body Tryd.func104 (by kernel_rfl) rfl (by simp [Tryd.f104]) rfl ?_
    simp only [Tryd.f104]
    intro hlen
    simp only [go_sem, List.length_map, and_true, true_and] at hlen
    refine CV.run ?_
    (repeat' (first | ((with_reducible first | apply sg | apply si | apply sq | apply sd) <;> intro hb <;> (try rw [hb]) <;> (try simp only [bq, bz, dtrue, dfalse] at hb) <;> (try simp only [within] at hb) <;> try simp only [go_sem]) | refine And.intro (by first | exact ⟨⟩ | omega | (simp only [I64]; omega)) ?_ | ((with_reducible first | refine vp (c126 _) ?_ ?_); focus (first | exact ⟨rfl, .inl ⟨by first | rfl | (simp only [go_sem, h1, AV.pureL, AV.pure]; done), by first | (simp only [go_sem, h1, AV.pureL, AV.pure]; done) | rfl⟩⟩ | exact ⟨rfl, .inr ⟨rfl, by simp only [go_sem, h1]⟩⟩)) | (simp only [go_sem, h1])))
  · rw [if_neg h1]
    by_cases h2 : b < a
    · rw [if_pos h2]
      refine PC.body Tryd.func104 (by kernel_rfl) rfl (by simp [Tryd.f104]) rfl ?_
      simp only [Tryd.f104]
      intro hlen
      simp only [go_sem, List.length_map, and_true, true_and] at hlen
      refine CV.run ?_
      (repeat' (first | ((with_reducible first | apply sg | apply si | apply sq | apply sd) <;> intro hb <;> (try rw [hb]) <;> (try simp only [bq, bz, dtrue, dfalse] at hb) <;> (try simp only [within] at hb) <;> try simp only [go_sem]) | refine And.intro (by first | exact ⟨⟩ | omega | (simp only [I64]; omega)) ?_ | ((with_reducible first | refine vp (c126 _) ?_ ?_); focus (first | exact ⟨rfl, .inl ⟨by first | rfl | (simp only [go_sem, h1, h2, AV.pureL, AV.pure]; done), by first | (simp only [go_sem, h1, h2, AV.pureL, AV.pure]; done) | rfl⟩⟩ | exact ⟨rfl, .inr ⟨rfl, by simp only [go_sem, h1, h2]⟩⟩)) | (simp only [go_sem, h1, h2])))
    · rw [if_neg h2]
      refine PC.body Tryd.func104 (by kernel_rfl) rfl (by simp [Tryd.f104]) rfl ?_
      simp only [Tryd.f104]
      intro hlen
      simp only [go_sem, List.length_map, and_true, true_and] at hlen
      refine CV.run ?_
      (repeat' (first | ((with_reducible first | apply sg | apply si | apply sq | apply sd) <;> intro hb <;> (try rw [hb]) <;> (try simp only [bq, bz, dtrue, dfalse] at hb) <;> (try simp only [within] at hb) <;> try simp only [go_sem]) | refine And.intro (by first | exact ⟨⟩ | omega | (simp only [I64]; omega)) ?_ | ((with_reducible first | refine vp (c126 _) ?_ ?_); focus (first | exact ⟨rfl, .inl ⟨by first | rfl | (simp only [go_sem, h1, h2, AV.pureL, AV.pure]; done), by first | (simp only [go_sem, h1, h2, AV.pureL, AV.pure]; done) | rfl⟩⟩ | exact ⟨rfl, .inr ⟨rfl, by simp only [go_sem, h1, h2]⟩⟩)) | (simp only [go_sem, h1, h2])))
end Go.Proofs.YtjlopclpofbgbaaDoor

