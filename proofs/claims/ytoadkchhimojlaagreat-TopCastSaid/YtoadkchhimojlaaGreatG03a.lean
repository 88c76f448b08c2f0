/- Contracts of functions of the given program, without a condition beyond those that each theorem states; they lead to the given statement. -/
import Derived.Test.YtoadkchhimojlaaGreatG02t
import Derived.Test.YtoadkchhimojlaaGreatFlC
set_option linter.unusedSimpArgs false
set_option linter.unusedVariables false
set_option maxRecDepth 100000
namespace Go.Proofs.YtoadkchhimojlaaGreat
open Go Go.Fl
open Classical
def sumTo (s : List Int) (k : Nat) : Int := (s.take k).sum
theorem shelf12 {s : List Int} (h : s.length = 12) : ∃ a b c d e f g i j k l m : Int, s = [a, b, c, d, e, f, g, i, j, k, l, m] := by
  match s, h with
  | [a, b, c, d, e, f, g, i, j, k, l, m], _ => exact ⟨a, b, c, d, e, f, g, i, j, k, l, m, rfl⟩
theorem sum_step {s : List Int} {k : Nat} {x : Int} (h : s[k]? = some x) : sumTo s (k + 1) = sumTo s k + x := by
  unfold sumTo; rw [List.take_add_one, h, List.sum_append]; simp
theorem sum_bd {s : List Int} (hb : ∀ n, n ∈ s → 0 ≤ n ∧ n ≤ 1000) : ∀ k : Nat, 0 ≤ sumTo s k ∧ sumTo s k ≤ 1000 * k
  | 0 => by simp [sumTo]
  | k + 1 => by
    have ih := sum_bd hb k
    cases h : s[k]? with
    | some x =>
      have := hb x (List.mem_of_getElem? h)
      rw [sum_step h]; omega
    | none =>
      have e : sumTo s (k + 1) = sumTo s k := by unfold sumTo; rw [List.take_add_one, h]; simp
      rw [e]; omega
set_option maxHeartbeats 8000000 in
theorem c46 (s : List Int) (hs : s.length = 12) (hb : ∀ n, n ∈ s → 0 ≤ n ∧ n ≤ 1000) : PC Tryz.prog 46 [.agg (s.map I)] (.int .i64 s.sum) := by
  have bd := sum_bd hb
  have eall : sumTo s 12 = s.sum := by unfold sumTo; rw [List.take_of_length_le (by omega)]
  have st := fun k x (h : s[k]? = some x) => sum_step h
  obtain ⟨a0, a1, a2, a3, a4, a5, a6, a7, a8, a9, a10, a11, rfl⟩ := shelf12 hs
  simp only [List.map_cons, List.map_nil, I]
  clear hs hb
  have e0 : sumTo [a0, a1, a2, a3, a4, a5, a6, a7, a8, a9, a10, a11] 0 = 0 := rfl
  have s0 : sumTo [a0, a1, a2, a3, a4, a5, a6, a7, a8, a9, a10, a11] 1 = sumTo [a0, a1, a2, a3, a4, a5, a6, a7, a8, a9, a10, a11] 0 + a0 := st 0 _ rfl
  have s1 : sumTo [a0, a1, a2, a3, a4, a5, a6, a7, a8, a9, a10, a11] 2 = sumTo [a0, a1, a2, a3, a4, a5, a6, a7, a8, a9, a10, a11] 1 + a1 := st 1 _ rfl
  have s2 : sumTo [a0, a1, a2, a3, a4, a5, a6, a7, a8, a9, a10, a11] 3 = sumTo [a0, a1, a2, a3, a4, a5, a6, a7, a8, a9, a10, a11] 2 + a2 := st 2 _ rfl
  have s3 : sumTo [a0, a1, a2, a3, a4, a5, a6, a7, a8, a9, a10, a11] 4 = sumTo [a0, a1, a2, a3, a4, a5, a6, a7, a8, a9, a10, a11] 3 + a3 := st 3 _ rfl
  have s4 : sumTo [a0, a1, a2, a3, a4, a5, a6, a7, a8, a9, a10, a11] 5 = sumTo [a0, a1, a2, a3, a4, a5, a6, a7, a8, a9, a10, a11] 4 + a4 := st 4 _ rfl
  have s5 : sumTo [a0, a1, a2, a3, a4, a5, a6, a7, a8, a9, a10, a11] 6 = sumTo [a0, a1, a2, a3, a4, a5, a6, a7, a8, a9, a10, a11] 5 + a5 := st 5 _ rfl
  have s6 : sumTo [a0, a1, a2, a3, a4, a5, a6, a7, a8, a9, a10, a11] 7 = sumTo [a0, a1, a2, a3, a4, a5, a6, a7, a8, a9, a10, a11] 6 + a6 := st 6 _ rfl
  have s7 : sumTo [a0, a1, a2, a3, a4, a5, a6, a7, a8, a9, a10, a11] 8 = sumTo [a0, a1, a2, a3, a4, a5, a6, a7, a8, a9, a10, a11] 7 + a7 := st 7 _ rfl
  have s8 : sumTo [a0, a1, a2, a3, a4, a5, a6, a7, a8, a9, a10, a11] 9 = sumTo [a0, a1, a2, a3, a4, a5, a6, a7, a8, a9, a10, a11] 8 + a8 := st 8 _ rfl
  have s9 : sumTo [a0, a1, a2, a3, a4, a5, a6, a7, a8, a9, a10, a11] 10 = sumTo [a0, a1, a2, a3, a4, a5, a6, a7, a8, a9, a10, a11] 9 + a9 := st 9 _ rfl
  have s10 : sumTo [a0, a1, a2, a3, a4, a5, a6, a7, a8, a9, a10, a11] 11 = sumTo [a0, a1, a2, a3, a4, a5, a6, a7, a8, a9, a10, a11] 10 + a10 := st 10 _ rfl
  have s11 : sumTo [a0, a1, a2, a3, a4, a5, a6, a7, a8, a9, a10, a11] 12 = sumTo [a0, a1, a2, a3, a4, a5, a6, a7, a8, a9, a10, a11] 11 + a11 := st 11 _ rfl
  generalize hS : sumTo [a0, a1, a2, a3, a4, a5, a6, a7, a8, a9, a10, a11] = S at *
  refine PC.body Tryz.func46 (by kernel_rfl) rfl (by simp [Tryz.f46]) rfl ?_
  simp only [Tryz.f46]
  intro hlen
  simp only [go_sem, List.length_map, and_true, true_and] at hlen
  refine CV.run ?_
  (repeat' (first | ((with_reducible first | refine vcG_split ?_ ?_ | refine vcIf_split ?_ ?_ | refine vcQ_split ?_ ?_ | refine vcDG_split ?_ ?_) <;> intro hb <;> (try rw [hb]) <;> (try simp only [bq, bz, dtrue, dfalse] at hb) <;> (try simp only [within] at hb) <;> try (simp only [go_sem])) | refine And.intro (by first | exact trivial | omega | (simp only [I64]; omega)) ?_ | (simp only [go_sem])))
  refine vc_for (fun i => ⟨[(9, .int .i64 i), (3, .int .i64 (S (3 * i))), (2, .int .i64 0), (8, .agg [.int .i64 a0, .int .i64 a1, .int .i64 a2, .int .i64 a3, .int .i64 a4, .int .i64 a5, .int .i64 a6, .int .i64 a7, .int .i64 a8, .int .i64 a9, .int .i64 a10, .int .i64 a11])], [.box 69 [.int .i64 a0, .int .i64 a1, .int .i64 a2, .int .i64 a3, .int .i64 a4, .int .i64 a5, .int .i64 a6, .int .i64 a7, .int .i64 a8, .int .i64 a9, .int .i64 a10, .int .i64 a11] false]⟩) 4 (fun _ => True) (by (first | exact wk_same (by (simp only [go_sem, Int.natCast_add, cn, Int.cast_ofNat_Int, e0])) | (refine wk_drop ?_ ?_ ?_ ?_ ?_ <;> (simp only [go_sem, Int.natCast_add, cn, Int.cast_ofNat_Int, e0])))) trivial ?_
  intro i hi _
  rcases Nat.lt_or_ge i 4 with hlt | hge
  · have hc : i = 0 ∨ i = 1 ∨ i = 2 ∨ i = 3 := by omega
    rcases hc with rfl | rfl | rfl | rfl
    · (repeat' (first | ((with_reducible first | refine vcG_split ?_ ?_ | refine vcIf_split ?_ ?_ | refine vcQ_split ?_ ?_ | refine vcDG_split ?_ ?_) <;> intro hb <;> (try rw [hb]) <;> (try simp only [bq, bz, dtrue, dfalse] at hb) <;> (try simp only [within] at hb) <;> try (simp only [go_sem])) | refine And.intro (by first | exact trivial | omega | (simp only [I64]; omega)) ?_ | (simp only [go_sem])))
      refine vc_for (fun j => ⟨[(13, .int .i64 j), (3, .int .i64 (S (0 + j))), (12, .agg [.int .i64 a0, .int .i64 a1, .int .i64 a2]), (9, .int .i64 0), (2, .int .i64 0), (8, .agg [.int .i64 a0, .int .i64 a1, .int .i64 a2, .int .i64 a3, .int .i64 a4, .int .i64 a5, .int .i64 a6, .int .i64 a7, .int .i64 a8, .int .i64 a9, .int .i64 a10, .int .i64 a11])], [.box 69 [.int .i64 a0, .int .i64 a1, .int .i64 a2, .int .i64 a3, .int .i64 a4, .int .i64 a5, .int .i64 a6, .int .i64 a7, .int .i64 a8, .int .i64 a9, .int .i64 a10, .int .i64 a11] false, .box 67 [.int .i64 a0, .int .i64 a1, .int .i64 a2] false]⟩) 3 (fun _ => True) (by (first | exact wk_same (by (simp only [go_sem, Int.natCast_add, cn, Int.cast_ofNat_Int, Nat.add_zero])) | (refine wk_drop ?_ ?_ ?_ ?_ ?_ <;> (simp only [go_sem, Int.natCast_add, cn, Int.cast_ofNat_Int, Nat.add_zero])))) trivial ?_
      intro j hj _
      rcases Nat.lt_or_ge j 3 with hjl | hjg
      · have hcj : j = 0 ∨ j = 1 ∨ j = 2 := by omega
        rcases hcj with rfl | rfl | rfl
        · have I1 : I64 (S 0 + a0) = True := eq_true (by have := bd 1; have := s0; unfold I64; omega)
          (repeat' (first | ((with_reducible first | refine vcG_split ?_ ?_ | refine vcIf_split ?_ ?_ | refine vcQ_split ?_ ?_ | refine vcDG_split ?_ ?_) <;> intro hb <;> (try rw [hb]) <;> (try simp only [bq, bz, dtrue, dfalse] at hb) <;> (try simp only [within] at hb) <;> try (simp only [go_sem, I1, Nat.reduceAdd])) | refine And.intro (by first | exact trivial | omega | (simp only [I64]; omega)) ?_ | (simp only [go_sem, I1, Nat.reduceAdd])))
          all_goals first | exact (by (first | exact wk_same (by (simp only [go_sem, Int.natCast_add, cn, Int.cast_ofNat_Int, s0])) | (refine wk_drop ?_ ?_ ?_ ?_ ?_ <;> (simp only [go_sem, Int.natCast_add, cn, Int.cast_ofNat_Int, s0])))) | trace_state
        · have I1 : I64 (S 1 + a1) = True := eq_true (by have := bd 2; have := s1; unfold I64; omega)
          (repeat' (first | ((with_reducible first | refine vcG_split ?_ ?_ | refine vcIf_split ?_ ?_ | refine vcQ_split ?_ ?_ | refine vcDG_split ?_ ?_) <;> intro hb <;> (try rw [hb]) <;> (try simp only [bq, bz, dtrue, dfalse] at hb) <;> (try simp only [within] at hb) <;> try (simp only [go_sem, I1, Nat.reduceAdd])) | refine And.intro (by first | exact trivial | omega | (simp only [I64]; omega)) ?_ | (simp only [go_sem, I1, Nat.reduceAdd])))
          all_goals first | exact (by (first | exact wk_same (by (simp only [go_sem, Int.natCast_add, cn, Int.cast_ofNat_Int, s1])) | (refine wk_drop ?_ ?_ ?_ ?_ ?_ <;> (simp only [go_sem, Int.natCast_add, cn, Int.cast_ofNat_Int, s1])))) | trace_state
        · have I1 : I64 (S 2 + a2) = True := eq_true (by have := bd 3; have := s2; unfold I64; omega)
          (repeat' (first | ((with_reducible first | refine vcG_split ?_ ?_ | refine vcIf_split ?_ ?_ | refine vcQ_split ?_ ?_ | refine vcDG_split ?_ ?_) <;> intro hb <;> (try rw [hb]) <;> (try simp only [bq, bz, dtrue, dfalse] at hb) <;> (try simp only [within] at hb) <;> try (simp only [go_sem, I1, Nat.reduceAdd])) | refine And.intro (by first | exact trivial | omega | (simp only [I64]; omega)) ?_ | (simp only [go_sem, I1, Nat.reduceAdd])))
          all_goals first | exact (by (first | exact wk_same (by (simp only [go_sem, Int.natCast_add, cn, Int.cast_ofNat_Int, s2])) | (refine wk_drop ?_ ?_ ?_ ?_ ?_ <;> (simp only [go_sem, Int.natCast_add, cn, Int.cast_ofNat_Int, s2])))) | trace_state
      · have : j = 3 := by omega
        subst this
        (repeat' (first | ((with_reducible first | refine vcG_split ?_ ?_ | refine vcIf_split ?_ ?_ | refine vcQ_split ?_ ?_ | refine vcDG_split ?_ ?_) <;> intro hb <;> (try rw [hb]) <;> (try simp only [bq, bz, dtrue, dfalse] at hb) <;> (try simp only [within] at hb) <;> try (simp only [go_sem])) | refine And.intro (by first | exact trivial | omega | (simp only [I64]; omega)) ?_ | (simp only [go_sem])))
        all_goals first | exact (by (first | exact wk_same (by (simp only [go_sem, Int.natCast_add, cn, Int.cast_ofNat_Int])) | (refine wk_drop ?_ ?_ ?_ ?_ ?_ <;> (simp only [go_sem, Int.natCast_add, cn, Int.cast_ofNat_Int])))) | trace_state
    · (repeat' (first | ((with_reducible first | refine vcG_split ?_ ?_ | refine vcIf_split ?_ ?_ | refine vcQ_split ?_ ?_ | refine vcDG_split ?_ ?_) <;> intro hb <;> (try rw [hb]) <;> (try simp only [bq, bz, dtrue, dfalse] at hb) <;> (try simp only [within] at hb) <;> try (simp only [go_sem])) | refine And.intro (by first | exact trivial | omega | (simp only [I64]; omega)) ?_ | (simp only [go_sem])))
      refine vc_for (fun j => ⟨[(13, .int .i64 j), (3, .int .i64 (S (3 + j))), (12, .agg [.int .i64 a3, .int .i64 a4, .int .i64 a5]), (9, .int .i64 1), (2, .int .i64 0), (8, .agg [.int .i64 a0, .int .i64 a1, .int .i64 a2, .int .i64 a3, .int .i64 a4, .int .i64 a5, .int .i64 a6, .int .i64 a7, .int .i64 a8, .int .i64 a9, .int .i64 a10, .int .i64 a11])], [.box 69 [.int .i64 a0, .int .i64 a1, .int .i64 a2, .int .i64 a3, .int .i64 a4, .int .i64 a5, .int .i64 a6, .int .i64 a7, .int .i64 a8, .int .i64 a9, .int .i64 a10, .int .i64 a11] false, .box 67 [.int .i64 a3, .int .i64 a4, .int .i64 a5] false]⟩) 3 (fun _ => True) (by (first | exact wk_same (by (simp only [go_sem, Int.natCast_add, cn, Int.cast_ofNat_Int, Nat.add_zero])) | (refine wk_drop ?_ ?_ ?_ ?_ ?_ <;> (simp only [go_sem, Int.natCast_add, cn, Int.cast_ofNat_Int, Nat.add_zero])))) trivial ?_
      intro j hj _
      rcases Nat.lt_or_ge j 3 with hjl | hjg
      · have hcj : j = 0 ∨ j = 1 ∨ j = 2 := by omega
        rcases hcj with rfl | rfl | rfl
        · have I1 : I64 (S 3 + a3) = True := eq_true (by have := bd 4; have := s3; unfold I64; omega)
          (repeat' (first | ((with_reducible first | refine vcG_split ?_ ?_ | refine vcIf_split ?_ ?_ | refine vcQ_split ?_ ?_ | refine vcDG_split ?_ ?_) <;> intro hb <;> (try rw [hb]) <;> (try simp only [bq, bz, dtrue, dfalse] at hb) <;> (try simp only [within] at hb) <;> try (simp only [go_sem, I1, Nat.reduceAdd])) | refine And.intro (by first | exact trivial | omega | (simp only [I64]; omega)) ?_ | (simp only [go_sem, I1, Nat.reduceAdd])))
          all_goals first | exact (by (first | exact wk_same (by (simp only [go_sem, Int.natCast_add, cn, Int.cast_ofNat_Int, s3])) | (refine wk_drop ?_ ?_ ?_ ?_ ?_ <;> (simp only [go_sem, Int.natCast_add, cn, Int.cast_ofNat_Int, s3])))) | trace_state
        · have I1 : I64 (S 4 + a4) = True := eq_true (by have := bd 5; have := s4; unfold I64; omega)
          (repeat' (first | ((with_reducible first | refine vcG_split ?_ ?_ | refine vcIf_split ?_ ?_ | refine vcQ_split ?_ ?_ | refine vcDG_split ?_ ?_) <;> intro hb <;> (try rw [hb]) <;> (try simp only [bq, bz, dtrue, dfalse] at hb) <;> (try simp only [within] at hb) <;> try (simp only [go_sem, I1, Nat.reduceAdd])) | refine And.intro (by first | exact trivial | omega | (simp only [I64]; omega)) ?_ | (simp only [go_sem, I1, Nat.reduceAdd])))
          all_goals first | exact (by (first | exact wk_same (by (simp only [go_sem, Int.natCast_add, cn, Int.cast_ofNat_Int, s4])) | (refine wk_drop ?_ ?_ ?_ ?_ ?_ <;> (simp only [go_sem, Int.natCast_add, cn, Int.cast_ofNat_Int, s4])))) | trace_state
        · have I1 : I64 (S 5 + a5) = True := eq_true (by have := bd 6; have := s5; unfold I64; omega)
          (repeat' (first | ((with_reducible first | refine vcG_split ?_ ?_ | refine vcIf_split ?_ ?_ | refine vcQ_split ?_ ?_ | refine vcDG_split ?_ ?_) <;> intro hb <;> (try rw [hb]) <;> (try simp only [bq, bz, dtrue, dfalse] at hb) <;> (try simp only [within] at hb) <;> try (simp only [go_sem, I1, Nat.reduceAdd])) | refine And.intro (by first | exact trivial | omega | (simp only [I64]; omega)) ?_ | (simp only [go_sem, I1, Nat.reduceAdd])))
          all_goals first | exact (by (first | exact wk_same (by (simp only [go_sem, Int.natCast_add, cn, Int.cast_ofNat_Int, s5])) | (refine wk_drop ?_ ?_ ?_ ?_ ?_ <;> (simp only [go_sem, Int.natCast_add, cn, Int.cast_ofNat_Int, s5])))) | trace_state
      · have : j = 3 := by omega
        subst this
        (repeat' (first | ((with_reducible first | refine vcG_split ?_ ?_ | refine vcIf_split ?_ ?_ | refine vcQ_split ?_ ?_ | refine vcDG_split ?_ ?_) <;> intro hb <;> (try rw [hb]) <;> (try simp only [bq, bz, dtrue, dfalse] at hb) <;> (try simp only [within] at hb) <;> try (simp only [go_sem])) | refine And.intro (by first | exact trivial | omega | (simp only [I64]; omega)) ?_ | (simp only [go_sem])))
        all_goals first | exact (by (first | exact wk_same (by (simp only [go_sem, Int.natCast_add, cn, Int.cast_ofNat_Int])) | (refine wk_drop ?_ ?_ ?_ ?_ ?_ <;> (simp only [go_sem, Int.natCast_add, cn, Int.cast_ofNat_Int])))) | trace_state
    · (repeat' (first | ((with_reducible first | refine vcG_split ?_ ?_ | refine vcIf_split ?_ ?_ | refine vcQ_split ?_ ?_ | refine vcDG_split ?_ ?_) <;> intro hb <;> (try rw [hb]) <;> (try simp only [bq, bz, dtrue, dfalse] at hb) <;> (try simp only [within] at hb) <;> try (simp only [go_sem])) | refine And.intro (by first | exact trivial | omega | (simp only [I64]; omega)) ?_ | (simp only [go_sem])))
      refine vc_for (fun j => ⟨[(13, .int .i64 j), (3, .int .i64 (S (6 + j))), (12, .agg [.int .i64 a6, .int .i64 a7, .int .i64 a8]), (9, .int .i64 2), (2, .int .i64 0), (8, .agg [.int .i64 a0, .int .i64 a1, .int .i64 a2, .int .i64 a3, .int .i64 a4, .int .i64 a5, .int .i64 a6, .int .i64 a7, .int .i64 a8, .int .i64 a9, .int .i64 a10, .int .i64 a11])], [.box 69 [.int .i64 a0, .int .i64 a1, .int .i64 a2, .int .i64 a3, .int .i64 a4, .int .i64 a5, .int .i64 a6, .int .i64 a7, .int .i64 a8, .int .i64 a9, .int .i64 a10, .int .i64 a11] false, .box 67 [.int .i64 a6, .int .i64 a7, .int .i64 a8] false]⟩) 3 (fun _ => True) (by (first | exact wk_same (by (simp only [go_sem, Int.natCast_add, cn, Int.cast_ofNat_Int, Nat.add_zero])) | (refine wk_drop ?_ ?_ ?_ ?_ ?_ <;> (simp only [go_sem, Int.natCast_add, cn, Int.cast_ofNat_Int, Nat.add_zero])))) trivial ?_
      intro j hj _
      rcases Nat.lt_or_ge j 3 with hjl | hjg
      · have hcj : j = 0 ∨ j = 1 ∨ j = 2 := by omega
        rcases hcj with rfl | rfl | rfl
        · have I1 : I64 (S 6 + a6) = True := eq_true (by have := bd 7; have := s6; unfold I64; omega)
          (repeat' (first | ((with_reducible first | refine vcG_split ?_ ?_ | refine vcIf_split ?_ ?_ | refine vcQ_split ?_ ?_ | refine vcDG_split ?_ ?_) <;> intro hb <;> (try rw [hb]) <;> (try simp only [bq, bz, dtrue, dfalse] at hb) <;> (try simp only [within] at hb) <;> try (simp only [go_sem, I1, Nat.reduceAdd])) | refine And.intro (by first | exact trivial | omega | (simp only [I64]; omega)) ?_ | (simp only [go_sem, I1, Nat.reduceAdd])))
          all_goals first | exact (by (first | exact wk_same (by (simp only [go_sem, Int.natCast_add, cn, Int.cast_ofNat_Int, s6])) | (refine wk_drop ?_ ?_ ?_ ?_ ?_ <;> (simp only [go_sem, Int.natCast_add, cn, Int.cast_ofNat_Int, s6])))) | trace_state
        · have I1 : I64 (S 7 + a7) = True := eq_true (by have := bd 8; have := s7; unfold I64; omega)
          (repeat' (first | ((with_reducible first | refine vcG_split ?_ ?_ | refine vcIf_split ?_ ?_ | refine vcQ_split ?_ ?_ | refine vcDG_split ?_ ?_) <;> intro hb <;> (try rw [hb]) <;> (try simp only [bq, bz, dtrue, dfalse] at hb) <;> (try simp only [within] at hb) <;> try (simp only [go_sem, I1, Nat.reduceAdd])) | refine And.intro (by first | exact trivial | omega | (simp only [I64]; omega)) ?_ | (simp only [go_sem, I1, Nat.reduceAdd])))
          all_goals first | exact (by (first | exact wk_same (by (simp only [go_sem, Int.natCast_add, cn, Int.cast_ofNat_Int, s7])) | (refine wk_drop ?_ ?_ ?_ ?_ ?_ <;> (simp only [go_sem, Int.natCast_add, cn, Int.cast_ofNat_Int, s7])))) | trace_state
        · have I1 : I64 (S 8 + a8) = True := eq_true (by have := bd 9; have := s8; unfold I64; omega)
          (repeat' (first | ((with_reducible first | refine vcG_split ?_ ?_ | refine vcIf_split ?_ ?_ | refine vcQ_split ?_ ?_ | refine vcDG_split ?_ ?_) <;> intro hb <;> (try rw [hb]) <;> (try simp only [bq, bz, dtrue, dfalse] at hb) <;> (try simp only [within] at hb) <;> try (simp only [go_sem, I1, Nat.reduceAdd])) | refine And.intro (by first | exact trivial | omega | (simp only [I64]; omega)) ?_ | (simp only [go_sem, I1, Nat.reduceAdd])))
          all_goals first | exact (by (first | exact wk_same (by (simp only [go_sem, Int.natCast_add, cn, Int.cast_ofNat_Int, s8])) | (refine wk_drop ?_ ?_ ?_ ?_ ?_ <;> (simp only [go_sem, Int.natCast_add, cn, Int.cast_ofNat_Int, s8])))) | trace_state
      · have : j = 3 := by omega
        subst this
        (repeat' (first | ((with_reducible first | refine vcG_split ?_ ?_ | refine vcIf_split ?_ ?_ | refine vcQ_split ?_ ?_ | refine vcDG_split ?_ ?_) <;> intro hb <;> (try rw [hb]) <;> (try simp only [bq, bz, dtrue, dfalse] at hb) <;> (try simp only [within] at hb) <;> try (simp only [go_sem])) | refine And.intro (by first | exact trivial | omega | (simp only [I64]; omega)) ?_ | (simp only [go_sem])))
        all_goals first | exact (by (first | exact wk_same (by (simp only [go_sem, Int.natCast_add, cn, Int.cast_ofNat_Int])) | (refine wk_drop ?_ ?_ ?_ ?_ ?_ <;> (simp only [go_sem, Int.natCast_add, cn, Int.cast_ofNat_Int])))) | trace_state
    · (repeat' (first | ((with_reducible first | refine vcG_split ?_ ?_ | refine vcIf_split ?_ ?_ | refine vcQ_split ?_ ?_ | refine vcDG_split ?_ ?_) <;> intro hb <;> (try rw [hb]) <;> (try simp only [bq, bz, dtrue, dfalse] at hb) <;> (try simp only [within] at hb) <;> try (simp only [go_sem])) | refine And.intro (by first | exact trivial | omega | (simp only [I64]; omega)) ?_ | (simp only [go_sem])))
      refine vc_for (fun j => ⟨[(13, .int .i64 j), (3, .int .i64 (S (9 + j))), (12, .agg [.int .i64 a9, .int .i64 a10, .int .i64 a11]), (9, .int .i64 3), (2, .int .i64 0), (8, .agg [.int .i64 a0, .int .i64 a1, .int .i64 a2, .int .i64 a3, .int .i64 a4, .int .i64 a5, .int .i64 a6, .int .i64 a7, .int .i64 a8, .int .i64 a9, .int .i64 a10, .int .i64 a11])], [.box 69 [.int .i64 a0, .int .i64 a1, .int .i64 a2, .int .i64 a3, .int .i64 a4, .int .i64 a5, .int .i64 a6, .int .i64 a7, .int .i64 a8, .int .i64 a9, .int .i64 a10, .int .i64 a11] false, .box 67 [.int .i64 a9, .int .i64 a10, .int .i64 a11] false]⟩) 3 (fun _ => True) (by (first | exact wk_same (by (simp only [go_sem, Int.natCast_add, cn, Int.cast_ofNat_Int, Nat.add_zero])) | (refine wk_drop ?_ ?_ ?_ ?_ ?_ <;> (simp only [go_sem, Int.natCast_add, cn, Int.cast_ofNat_Int, Nat.add_zero])))) trivial ?_
      intro j hj _
      rcases Nat.lt_or_ge j 3 with hjl | hjg
      · have hcj : j = 0 ∨ j = 1 ∨ j = 2 := by omega
        rcases hcj with rfl | rfl | rfl
        · have I1 : I64 (S 9 + a9) = True := eq_true (by have := bd 10; have := s9; unfold I64; omega)
          (repeat' (first | ((with_reducible first | refine vcG_split ?_ ?_ | refine vcIf_split ?_ ?_ | refine vcQ_split ?_ ?_ | refine vcDG_split ?_ ?_) <;> intro hb <;> (try rw [hb]) <;> (try simp only [bq, bz, dtrue, dfalse] at hb) <;> (try simp only [within] at hb) <;> try (simp only [go_sem, I1, Nat.reduceAdd])) | refine And.intro (by first | exact trivial | omega | (simp only [I64]; omega)) ?_ | (simp only [go_sem, I1, Nat.reduceAdd])))
          all_goals first | exact (by (first | exact wk_same (by (simp only [go_sem, Int.natCast_add, cn, Int.cast_ofNat_Int, s9])) | (refine wk_drop ?_ ?_ ?_ ?_ ?_ <;> (simp only [go_sem, Int.natCast_add, cn, Int.cast_ofNat_Int, s9])))) | trace_state
        · have I1 : I64 (S 10 + a10) = True := eq_true (by have := bd 11; have := s10; unfold I64; omega)
          (repeat' (first | ((with_reducible first | refine vcG_split ?_ ?_ | refine vcIf_split ?_ ?_ | refine vcQ_split ?_ ?_ | refine vcDG_split ?_ ?_) <;> intro hb <;> (try rw [hb]) <;> (try simp only [bq, bz, dtrue, dfalse] at hb) <;> (try simp only [within] at hb) <;> try (simp only [go_sem, I1, Nat.reduceAdd])) | refine And.intro (by first | exact trivial | omega | (simp only [I64]; omega)) ?_ | (simp only [go_sem, I1, Nat.reduceAdd])))
          all_goals first | exact (by (first | exact wk_same (by (simp only [go_sem, Int.natCast_add, cn, Int.cast_ofNat_Int, s10])) | (refine wk_drop ?_ ?_ ?_ ?_ ?_ <;> (simp only [go_sem, Int.natCast_add, cn, Int.cast_ofNat_Int, s10])))) | trace_state
        · have I1 : I64 (S 11 + a11) = True := eq_true (by have := bd 12; have := s11; unfold I64; omega)
          (repeat' (first | ((with_reducible first | refine vcG_split ?_ ?_ | refine vcIf_split ?_ ?_ | refine vcQ_split ?_ ?_ | refine vcDG_split ?_ ?_) <;> intro hb <;> (try rw [hb]) <;> (try simp only [bq, bz, dtrue, dfalse] at hb) <;> (try simp only [within] at hb) <;> try (simp only [go_sem, I1, Nat.reduceAdd])) | refine And.intro (by first | exact trivial | omega | (simp only [I64]; omega)) ?_ | (simp only [go_sem, I1, Nat.reduceAdd])))
          all_goals first | exact (by (first | exact wk_same (by (simp only [go_sem, Int.natCast_add, cn, Int.cast_ofNat_Int, s11])) | (refine wk_drop ?_ ?_ ?_ ?_ ?_ <;> (simp only [go_sem, Int.natCast_add, cn, Int.cast_ofNat_Int, s11])))) | trace_state
      · have : j = 3 := by omega
        subst this
        (repeat' (first | ((with_reducible first | refine vcG_split ?_ ?_ | refine vcIf_split ?_ ?_ | refine vcQ_split ?_ ?_ | refine vcDG_split ?_ ?_) <;> intro hb <;> (try rw [hb]) <;> (try simp only [bq, bz, dtrue, dfalse] at hb) <;> (try simp only [within] at hb) <;> try (simp only [go_sem])) | refine And.intro (by first | exact trivial | omega | (simp only [I64]; omega)) ?_ | (simp only [go_sem])))
        all_goals first | exact (by (first | exact wk_same (by (simp only [go_sem, Int.natCast_add, cn, Int.cast_ofNat_Int])) | (refine wk_drop ?_ ?_ ?_ ?_ ?_ <;> (simp only [go_sem, Int.natCast_add, cn, Int.cast_ofNat_Int])))) | trace_state
  · have : i = 4 := by omega
    subst this
    (repeat' (first | ((with_reducible first | refine vcG_split ?_ ?_ | refine vcIf_split ?_ ?_ | refine vcQ_split ?_ ?_ | refine vcDG_split ?_ ?_) <;> intro hb <;> (try rw [hb]) <;> (try simp only [bq, bz, dtrue, dfalse] at hb) <;> (try simp only [within] at hb) <;> try (simp only [go_sem])) | refine And.intro (by first | exact trivial | omega | (simp only [I64]; omega)) ?_ | (simp only [go_sem])))
    all_goals first | exact congrArg _ eall | trace_state
end Go.Proofs.YtoadkchhimojlaaGreat

