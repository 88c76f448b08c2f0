/- Contracts of functions of the given program, without a condition beyond those that each theorem states; they lead to the given statement. -/
import Derived.Test.YtoadkchhimojlaaGreatG03d
import Derived.Test.YtoadkchhimojlaaGreatFlC
set_option linter.unusedSimpArgs false
set_option linter.unusedVariables false
set_option maxRecDepth 100000
namespace Go.Proofs.YtoadkchhimojlaaGreat
open Go Go.Fl
open Classical
def encS (e : Int × Int × Int) : List AV := [.int .i64 e.1, .int .i64 e.2.1, .int .i64 e.2.2]
theorem pureS (l : List (Int × Int × Int)) : pureE (l.map encS) = True := pureE_map fun _ => rfl
attribute [go_sem] pureS
def setTo (s : List Int) : Nat → List (Int × Int × Int)
  | 0 => []
  | k + 1 => if 0 < gv s k then setTo s k ++ [(((k / 3 : Nat) : Int), ((k % 3 : Nat) : Int), gv s k)] else setTo s k
theorem setTo_len (s : List Int) : ∀ k, (setTo s k).length ≤ k
  | 0 => Nat.le_refl _
  | k + 1 => by have := setTo_len s k; rw [setTo]; split <;> simp <;> omega
theorem setTo_yes {s : List Int} {k : Nat} {q r x : Int} (hx : s[k]? = some x) (h : 0 < x) (hq : ((k / 3 : Nat) : Int) = q) (hr : ((k % 3 : Nat) : Int) = r) : (setTo s (k + 1)).map encS = (setTo s k).map encS ++ [[.int .i64 q, .int .i64 r, .int .i64 x]] ∧ (setTo s (k + 1)).length = (setTo s k).length + 1 := by
  have e := gv_nat hx
  rw [setTo, e, if_pos h, ← hq, ← hr]
  exact ⟨by rw [List.map_append]; rfl, by simp⟩
theorem setTo_no {s : List Int} {k : Nat} {x : Int} (hx : s[k]? = some x) (h : ¬ 0 < x) : (setTo s (k + 1)).map encS = (setTo s k).map encS ∧ (setTo s (k + 1)).length = (setTo s k).length := by
  rw [setTo, gv_nat hx, if_neg h]; exact ⟨rfl, rfl⟩
set_option maxHeartbeats 16000000 in
theorem c26 (s : List Int) (hs : s.length = 12) : PC Tryz.prog 26 [.agg (s.map I)] (.lst false 3 ((setTo s 12).map encS)) := by
  have bd := setTo_len s
  have yes := fun k q r x (hx : s[k]? = some x) (h : 0 < x) hq hr => setTo_yes (q := q) (r := r) hx h hq hr
  have no := fun k x (hx : s[k]? = some x) (h : ¬ 0 < x) => setTo_no hx h
  obtain ⟨a0, a1, a2, a3, a4, a5, a6, a7, a8, a9, a10, a11, rfl⟩ := shelf12 hs
  simp only [List.map_cons, List.map_nil, I]
  clear hs
  have y0 := fun h => yes 0 0 0 a0 rfl h rfl rfl
  have n0 := fun h => no 0 a0 rfl h
  have y1 := fun h => yes 1 0 1 a1 rfl h rfl rfl
  have n1 := fun h => no 1 a1 rfl h
  have y2 := fun h => yes 2 0 2 a2 rfl h rfl rfl
  have n2 := fun h => no 2 a2 rfl h
  have y3 := fun h => yes 3 1 0 a3 rfl h rfl rfl
  have n3 := fun h => no 3 a3 rfl h
  have y4 := fun h => yes 4 1 1 a4 rfl h rfl rfl
  have n4 := fun h => no 4 a4 rfl h
  have y5 := fun h => yes 5 1 2 a5 rfl h rfl rfl
  have n5 := fun h => no 5 a5 rfl h
  have y6 := fun h => yes 6 2 0 a6 rfl h rfl rfl
  have n6 := fun h => no 6 a6 rfl h
  have y7 := fun h => yes 7 2 1 a7 rfl h rfl rfl
  have n7 := fun h => no 7 a7 rfl h
  have y8 := fun h => yes 8 2 2 a8 rfl h rfl rfl
  have n8 := fun h => no 8 a8 rfl h
  have y9 := fun h => yes 9 3 0 a9 rfl h rfl rfl
  have n9 := fun h => no 9 a9 rfl h
  have y10 := fun h => yes 10 3 1 a10 rfl h rfl rfl
  have n10 := fun h => no 10 a10 rfl h
  have y11 := fun h => yes 11 3 2 a11 rfl h rfl rfl
  have n11 := fun h => no 11 a11 rfl h
  clear yes no
  have e0 : (setTo [a0, a1, a2, a3, a4, a5, a6, a7, a8, a9, a10, a11] 0).map encS = [] := rfl
  have l0 : (setTo [a0, a1, a2, a3, a4, a5, a6, a7, a8, a9, a10, a11] 0).length = 0 := rfl
  generalize hE : setTo [a0, a1, a2, a3, a4, a5, a6, a7, a8, a9, a10, a11] = E at *
  refine PC.body Tryz.func26 (by kernel_rfl) rfl (by simp [Tryz.f26]) rfl ?_
  simp only [Tryz.f26]
  intro hlen
  simp only [go_sem, List.length_map, and_true, true_and] at hlen
  refine CV.run ?_
  (repeat' (first | ((with_reducible first | refine vcG_split ?_ ?_ | refine vcIf_split ?_ ?_ | refine vcQ_split ?_ ?_ | refine vcDG_split ?_ ?_) <;> intro hb <;> (try rw [hb]) <;> (try simp only [bq, bz, dtrue, dfalse] at hb) <;> (try simp only [within] at hb) <;> try (simp only [go_sem])) | refine And.intro (by first | exact trivial | omega | (simp only [I64]; omega)) ?_ | (simp only [go_sem])))
  refine vc_fw (fun i => ⟨[(9, .int .i64 i), (3, .row 1 (E (3 * i)).length), (2, .nilS), (8, .agg [.int .i64 a0, .int .i64 a1, .int .i64 a2, .int .i64 a3, .int .i64 a4, .int .i64 a5, .int .i64 a6, .int .i64 a7, .int .i64 a8, .int .i64 a9, .int .i64 a10, .int .i64 a11])], [.box 69 [.int .i64 a0, .int .i64 a1, .int .i64 a2, .int .i64 a3, .int .i64 a4, .int .i64 a5, .int .i64 a6, .int .i64 a7, .int .i64 a8, .int .i64 a9, .int .i64 a10, .int .i64 a11] false, .row 44 3 ((E (3 * i)).map encS) false]⟩) 4 (fun _ => True) (.nilE 3 44 3 (by (simp only [go_sem])) (by omega) (.base (by (first | exact wk_same (by (simp only [go_sem, Int.natCast_add, cn, Int.cast_ofNat_Int, e0, l0])) | (refine wk_drop ?_ ?_ ?_ ?_ ?_ <;> (simp only [go_sem, Int.natCast_add, cn, Int.cast_ofNat_Int, e0, l0])))))) trivial ?_
  intro i hi _
  rcases Nat.lt_or_ge i 4 with hlt | hge
  · have hc : i = 0 ∨ i = 1 ∨ i = 2 ∨ i = 3 := by omega
    rcases hc with rfl | rfl | rfl | rfl
    · (repeat' (first | ((with_reducible first | refine vcG_split ?_ ?_ | refine vcIf_split ?_ ?_ | refine vcQ_split ?_ ?_ | refine vcDG_split ?_ ?_) <;> intro hb <;> (try rw [hb]) <;> (try simp only [bq, bz, dtrue, dfalse] at hb) <;> (try simp only [within] at hb) <;> try (simp only [go_sem])) | refine And.intro (by first | exact trivial | omega | (simp only [I64]; omega)) ?_ | (simp only [go_sem])))
      refine vc_for (fun j => ⟨[(14, .int .i64 j), (3, .row 1 (E (0 + j)).length), (13, .agg [.int .i64 a0, .int .i64 a1, .int .i64 a2]), (4, .int .i64 0), (9, .int .i64 0), (2, .nilS), (8, .agg [.int .i64 a0, .int .i64 a1, .int .i64 a2, .int .i64 a3, .int .i64 a4, .int .i64 a5, .int .i64 a6, .int .i64 a7, .int .i64 a8, .int .i64 a9, .int .i64 a10, .int .i64 a11])], [.box 69 [.int .i64 a0, .int .i64 a1, .int .i64 a2, .int .i64 a3, .int .i64 a4, .int .i64 a5, .int .i64 a6, .int .i64 a7, .int .i64 a8, .int .i64 a9, .int .i64 a10, .int .i64 a11] false, .row 44 3 ((E (0 + j)).map encS) false, .box 67 [.int .i64 a0, .int .i64 a1, .int .i64 a2] false]⟩) 3 (fun _ => True) (by (first | exact wk_same (by (simp only [go_sem, Int.natCast_add, cn, Int.cast_ofNat_Int, Nat.add_zero])) | (refine wk_drop ?_ ?_ ?_ ?_ ?_ <;> (simp only [go_sem, Int.natCast_add, cn, Int.cast_ofNat_Int, Nat.add_zero])))) trivial ?_
      intro j hj _
      rcases Nat.lt_or_ge j 3 with hjl | hjg
      · have hcj : j = 0 ∨ j = 1 ∨ j = 2 := by omega
        rcases hcj with rfl | rfl | rfl
        · have b := bd 0
          by_cases h : 0 < a0
          · obtain ⟨q1, q2⟩ := y0 h
            (repeat' (first | ((with_reducible first | refine vcG_split ?_ ?_ | refine vcIf_split ?_ ?_ | refine vcQ_split ?_ ?_ | refine vcDG_split ?_ ?_) <;> intro hb <;> (try rw [hb]) <;> (try simp only [bq, bz, dtrue, dfalse] at hb) <;> (try simp only [within] at hb) <;> try (simp only [go_sem, Nat.reduceAdd, h, List.length_map])) | refine And.intro (by first | exact trivial | omega | (simp only [I64]; omega)) ?_ | (simp only [go_sem, Nat.reduceAdd, h, List.length_map])))
            all_goals first | exact (by (first | exact wk_same (by (simp only [go_sem, Int.natCast_add, cn, Int.cast_ofNat_Int, q1, q2])) | (refine wk_drop ?_ ?_ ?_ ?_ ?_ <;> (simp only [go_sem, Int.natCast_add, cn, Int.cast_ofNat_Int, q1, q2])))) | exact ⟨⟨by omega, by omega⟩, by (first | exact wk_same (by (simp only [go_sem, Int.natCast_add, cn, Int.cast_ofNat_Int, q1, q2])) | (refine wk_drop ?_ ?_ ?_ ?_ ?_ <;> (simp only [go_sem, Int.natCast_add, cn, Int.cast_ofNat_Int, q1, q2])))⟩ | trace_state
          · obtain ⟨q1, q2⟩ := n0 h
            (repeat' (first | ((with_reducible first | refine vcG_split ?_ ?_ | refine vcIf_split ?_ ?_ | refine vcQ_split ?_ ?_ | refine vcDG_split ?_ ?_) <;> intro hb <;> (try rw [hb]) <;> (try simp only [bq, bz, dtrue, dfalse] at hb) <;> (try simp only [within] at hb) <;> try (simp only [go_sem, Nat.reduceAdd, h, List.length_map])) | refine And.intro (by first | exact trivial | omega | (simp only [I64]; omega)) ?_ | (simp only [go_sem, Nat.reduceAdd, h, List.length_map])))
            all_goals first | exact (by (first | exact wk_same (by (simp only [go_sem, Int.natCast_add, cn, Int.cast_ofNat_Int, q1, q2])) | (refine wk_drop ?_ ?_ ?_ ?_ ?_ <;> (simp only [go_sem, Int.natCast_add, cn, Int.cast_ofNat_Int, q1, q2])))) | trace_state
        · have b := bd 1
          by_cases h : 0 < a1
          · obtain ⟨q1, q2⟩ := y1 h
            (repeat' (first | ((with_reducible first | refine vcG_split ?_ ?_ | refine vcIf_split ?_ ?_ | refine vcQ_split ?_ ?_ | refine vcDG_split ?_ ?_) <;> intro hb <;> (try rw [hb]) <;> (try simp only [bq, bz, dtrue, dfalse] at hb) <;> (try simp only [within] at hb) <;> try (simp only [go_sem, Nat.reduceAdd, h, List.length_map])) | refine And.intro (by first | exact trivial | omega | (simp only [I64]; omega)) ?_ | (simp only [go_sem, Nat.reduceAdd, h, List.length_map])))
            all_goals first | exact (by (first | exact wk_same (by (simp only [go_sem, Int.natCast_add, cn, Int.cast_ofNat_Int, q1, q2])) | (refine wk_drop ?_ ?_ ?_ ?_ ?_ <;> (simp only [go_sem, Int.natCast_add, cn, Int.cast_ofNat_Int, q1, q2])))) | exact ⟨⟨by omega, by omega⟩, by (first | exact wk_same (by (simp only [go_sem, Int.natCast_add, cn, Int.cast_ofNat_Int, q1, q2])) | (refine wk_drop ?_ ?_ ?_ ?_ ?_ <;> (simp only [go_sem, Int.natCast_add, cn, Int.cast_ofNat_Int, q1, q2])))⟩ | trace_state
          · obtain ⟨q1, q2⟩ := n1 h
            (repeat' (first | ((with_reducible first | refine vcG_split ?_ ?_ | refine vcIf_split ?_ ?_ | refine vcQ_split ?_ ?_ | refine vcDG_split ?_ ?_) <;> intro hb <;> (try rw [hb]) <;> (try simp only [bq, bz, dtrue, dfalse] at hb) <;> (try simp only [within] at hb) <;> try (simp only [go_sem, Nat.reduceAdd, h, List.length_map])) | refine And.intro (by first | exact trivial | omega | (simp only [I64]; omega)) ?_ | (simp only [go_sem, Nat.reduceAdd, h, List.length_map])))
            all_goals first | exact (by (first | exact wk_same (by (simp only [go_sem, Int.natCast_add, cn, Int.cast_ofNat_Int, q1, q2])) | (refine wk_drop ?_ ?_ ?_ ?_ ?_ <;> (simp only [go_sem, Int.natCast_add, cn, Int.cast_ofNat_Int, q1, q2])))) | trace_state
        · have b := bd 2
          by_cases h : 0 < a2
          · obtain ⟨q1, q2⟩ := y2 h
            (repeat' (first | ((with_reducible first | refine vcG_split ?_ ?_ | refine vcIf_split ?_ ?_ | refine vcQ_split ?_ ?_ | refine vcDG_split ?_ ?_) <;> intro hb <;> (try rw [hb]) <;> (try simp only [bq, bz, dtrue, dfalse] at hb) <;> (try simp only [within] at hb) <;> try (simp only [go_sem, Nat.reduceAdd, h, List.length_map])) | refine And.intro (by first | exact trivial | omega | (simp only [I64]; omega)) ?_ | (simp only [go_sem, Nat.reduceAdd, h, List.length_map])))
            all_goals first | exact (by (first | exact wk_same (by (simp only [go_sem, Int.natCast_add, cn, Int.cast_ofNat_Int, q1, q2])) | (refine wk_drop ?_ ?_ ?_ ?_ ?_ <;> (simp only [go_sem, Int.natCast_add, cn, Int.cast_ofNat_Int, q1, q2])))) | exact ⟨⟨by omega, by omega⟩, by (first | exact wk_same (by (simp only [go_sem, Int.natCast_add, cn, Int.cast_ofNat_Int, q1, q2])) | (refine wk_drop ?_ ?_ ?_ ?_ ?_ <;> (simp only [go_sem, Int.natCast_add, cn, Int.cast_ofNat_Int, q1, q2])))⟩ | trace_state
          · obtain ⟨q1, q2⟩ := n2 h
            (repeat' (first | ((with_reducible first | refine vcG_split ?_ ?_ | refine vcIf_split ?_ ?_ | refine vcQ_split ?_ ?_ | refine vcDG_split ?_ ?_) <;> intro hb <;> (try rw [hb]) <;> (try simp only [bq, bz, dtrue, dfalse] at hb) <;> (try simp only [within] at hb) <;> try (simp only [go_sem, Nat.reduceAdd, h, List.length_map])) | refine And.intro (by first | exact trivial | omega | (simp only [I64]; omega)) ?_ | (simp only [go_sem, Nat.reduceAdd, h, List.length_map])))
            all_goals first | exact (by (first | exact wk_same (by (simp only [go_sem, Int.natCast_add, cn, Int.cast_ofNat_Int, q1, q2])) | (refine wk_drop ?_ ?_ ?_ ?_ ?_ <;> (simp only [go_sem, Int.natCast_add, cn, Int.cast_ofNat_Int, q1, q2])))) | trace_state
      · have : j = 3 := by omega
        subst this
        (repeat' (first | ((with_reducible first | refine vcG_split ?_ ?_ | refine vcIf_split ?_ ?_ | refine vcQ_split ?_ ?_ | refine vcDG_split ?_ ?_) <;> intro hb <;> (try rw [hb]) <;> (try simp only [bq, bz, dtrue, dfalse] at hb) <;> (try simp only [within] at hb) <;> try (simp only [go_sem])) | refine And.intro (by first | exact trivial | omega | (simp only [I64]; omega)) ?_ | (simp only [go_sem])))
        all_goals first | exact .base (by (first | exact wk_same (by (simp only [go_sem, Int.natCast_add, cn, Int.cast_ofNat_Int])) | (refine wk_drop ?_ ?_ ?_ ?_ ?_ <;> (simp only [go_sem, Int.natCast_add, cn, Int.cast_ofNat_Int])))) | trace_state
    · (repeat' (first | ((with_reducible first | refine vcG_split ?_ ?_ | refine vcIf_split ?_ ?_ | refine vcQ_split ?_ ?_ | refine vcDG_split ?_ ?_) <;> intro hb <;> (try rw [hb]) <;> (try simp only [bq, bz, dtrue, dfalse] at hb) <;> (try simp only [within] at hb) <;> try (simp only [go_sem])) | refine And.intro (by first | exact trivial | omega | (simp only [I64]; omega)) ?_ | (simp only [go_sem])))
      refine vc_for (fun j => ⟨[(14, .int .i64 j), (3, .row 1 (E (3 + j)).length), (13, .agg [.int .i64 a3, .int .i64 a4, .int .i64 a5]), (4, .int .i64 1), (9, .int .i64 1), (2, .nilS), (8, .agg [.int .i64 a0, .int .i64 a1, .int .i64 a2, .int .i64 a3, .int .i64 a4, .int .i64 a5, .int .i64 a6, .int .i64 a7, .int .i64 a8, .int .i64 a9, .int .i64 a10, .int .i64 a11])], [.box 69 [.int .i64 a0, .int .i64 a1, .int .i64 a2, .int .i64 a3, .int .i64 a4, .int .i64 a5, .int .i64 a6, .int .i64 a7, .int .i64 a8, .int .i64 a9, .int .i64 a10, .int .i64 a11] false, .row 44 3 ((E (3 + j)).map encS) false, .box 67 [.int .i64 a3, .int .i64 a4, .int .i64 a5] false]⟩) 3 (fun _ => True) (by (first | exact wk_same (by (simp only [go_sem, Int.natCast_add, cn, Int.cast_ofNat_Int, Nat.add_zero])) | (refine wk_drop ?_ ?_ ?_ ?_ ?_ <;> (simp only [go_sem, Int.natCast_add, cn, Int.cast_ofNat_Int, Nat.add_zero])))) trivial ?_
      intro j hj _
      rcases Nat.lt_or_ge j 3 with hjl | hjg
      · have hcj : j = 0 ∨ j = 1 ∨ j = 2 := by omega
        rcases hcj with rfl | rfl | rfl
        · have b := bd 3
          by_cases h : 0 < a3
          · obtain ⟨q1, q2⟩ := y3 h
            (repeat' (first | ((with_reducible first | refine vcG_split ?_ ?_ | refine vcIf_split ?_ ?_ | refine vcQ_split ?_ ?_ | refine vcDG_split ?_ ?_) <;> intro hb <;> (try rw [hb]) <;> (try simp only [bq, bz, dtrue, dfalse] at hb) <;> (try simp only [within] at hb) <;> try (simp only [go_sem, Nat.reduceAdd, h, List.length_map])) | refine And.intro (by first | exact trivial | omega | (simp only [I64]; omega)) ?_ | (simp only [go_sem, Nat.reduceAdd, h, List.length_map])))
            all_goals first | exact (by (first | exact wk_same (by (simp only [go_sem, Int.natCast_add, cn, Int.cast_ofNat_Int, q1, q2])) | (refine wk_drop ?_ ?_ ?_ ?_ ?_ <;> (simp only [go_sem, Int.natCast_add, cn, Int.cast_ofNat_Int, q1, q2])))) | exact ⟨⟨by omega, by omega⟩, by (first | exact wk_same (by (simp only [go_sem, Int.natCast_add, cn, Int.cast_ofNat_Int, q1, q2])) | (refine wk_drop ?_ ?_ ?_ ?_ ?_ <;> (simp only [go_sem, Int.natCast_add, cn, Int.cast_ofNat_Int, q1, q2])))⟩ | trace_state
          · obtain ⟨q1, q2⟩ := n3 h
            (repeat' (first | ((with_reducible first | refine vcG_split ?_ ?_ | refine vcIf_split ?_ ?_ | refine vcQ_split ?_ ?_ | refine vcDG_split ?_ ?_) <;> intro hb <;> (try rw [hb]) <;> (try simp only [bq, bz, dtrue, dfalse] at hb) <;> (try simp only [within] at hb) <;> try (simp only [go_sem, Nat.reduceAdd, h, List.length_map])) | refine And.intro (by first | exact trivial | omega | (simp only [I64]; omega)) ?_ | (simp only [go_sem, Nat.reduceAdd, h, List.length_map])))
            all_goals first | exact (by (first | exact wk_same (by (simp only [go_sem, Int.natCast_add, cn, Int.cast_ofNat_Int, q1, q2])) | (refine wk_drop ?_ ?_ ?_ ?_ ?_ <;> (simp only [go_sem, Int.natCast_add, cn, Int.cast_ofNat_Int, q1, q2])))) | trace_state
        · have b := bd 4
          by_cases h : 0 < a4
          · obtain ⟨q1, q2⟩ := y4 h
            (repeat' (first | ((with_reducible first | refine vcG_split ?_ ?_ | refine vcIf_split ?_ ?_ | refine vcQ_split ?_ ?_ | refine vcDG_split ?_ ?_) <;> intro hb <;> (try rw [hb]) <;> (try simp only [bq, bz, dtrue, dfalse] at hb) <;> (try simp only [within] at hb) <;> try (simp only [go_sem, Nat.reduceAdd, h, List.length_map])) | refine And.intro (by first | exact trivial | omega | (simp only [I64]; omega)) ?_ | (simp only [go_sem, Nat.reduceAdd, h, List.length_map])))
            all_goals first | exact (by (first | exact wk_same (by (simp only [go_sem, Int.natCast_add, cn, Int.cast_ofNat_Int, q1, q2])) | (refine wk_drop ?_ ?_ ?_ ?_ ?_ <;> (simp only [go_sem, Int.natCast_add, cn, Int.cast_ofNat_Int, q1, q2])))) | exact ⟨⟨by omega, by omega⟩, by (first | exact wk_same (by (simp only [go_sem, Int.natCast_add, cn, Int.cast_ofNat_Int, q1, q2])) | (refine wk_drop ?_ ?_ ?_ ?_ ?_ <;> (simp only [go_sem, Int.natCast_add, cn, Int.cast_ofNat_Int, q1, q2])))⟩ | trace_state
          · obtain ⟨q1, q2⟩ := n4 h
            (repeat' (first | ((with_reducible first | refine vcG_split ?_ ?_ | refine vcIf_split ?_ ?_ | refine vcQ_split ?_ ?_ | refine vcDG_split ?_ ?_) <;> intro hb <;> (try rw [hb]) <;> (try simp only [bq, bz, dtrue, dfalse] at hb) <;> (try simp only [within] at hb) <;> try (simp only [go_sem, Nat.reduceAdd, h, List.length_map])) | refine And.intro (by first | exact trivial | omega | (simp only [I64]; omega)) ?_ | (simp only [go_sem, Nat.reduceAdd, h, List.length_map])))
            all_goals first | exact (by (first | exact wk_same (by (simp only [go_sem, Int.natCast_add, cn, Int.cast_ofNat_Int, q1, q2])) | (refine wk_drop ?_ ?_ ?_ ?_ ?_ <;> (simp only [go_sem, Int.natCast_add, cn, Int.cast_ofNat_Int, q1, q2])))) | trace_state
        · have b := bd 5
          by_cases h : 0 < a5
          · obtain ⟨q1, q2⟩ := y5 h
            (repeat' (first | ((with_reducible first | refine vcG_split ?_ ?_ | refine vcIf_split ?_ ?_ | refine vcQ_split ?_ ?_ | refine vcDG_split ?_ ?_) <;> intro hb <;> (try rw [hb]) <;> (try simp only [bq, bz, dtrue, dfalse] at hb) <;> (try simp only [within] at hb) <;> try (simp only [go_sem, Nat.reduceAdd, h, List.length_map])) | refine And.intro (by first | exact trivial | omega | (simp only [I64]; omega)) ?_ | (simp only [go_sem, Nat.reduceAdd, h, List.length_map])))
            all_goals first | exact (by (first | exact wk_same (by (simp only [go_sem, Int.natCast_add, cn, Int.cast_ofNat_Int, q1, q2])) | (refine wk_drop ?_ ?_ ?_ ?_ ?_ <;> (simp only [go_sem, Int.natCast_add, cn, Int.cast_ofNat_Int, q1, q2])))) | exact ⟨⟨by omega, by omega⟩, by (first | exact wk_same (by (simp only [go_sem, Int.natCast_add, cn, Int.cast_ofNat_Int, q1, q2])) | (refine wk_drop ?_ ?_ ?_ ?_ ?_ <;> (simp only [go_sem, Int.natCast_add, cn, Int.cast_ofNat_Int, q1, q2])))⟩ | trace_state
          · obtain ⟨q1, q2⟩ := n5 h
            (repeat' (first | ((with_reducible first | refine vcG_split ?_ ?_ | refine vcIf_split ?_ ?_ | refine vcQ_split ?_ ?_ | refine vcDG_split ?_ ?_) <;> intro hb <;> (try rw [hb]) <;> (try simp only [bq, bz, dtrue, dfalse] at hb) <;> (try simp only [within] at hb) <;> try (simp only [go_sem, Nat.reduceAdd, h, List.length_map])) | refine And.intro (by first | exact trivial | omega | (simp only [I64]; omega)) ?_ | (simp only [go_sem, Nat.reduceAdd, h, List.length_map])))
            all_goals first | exact (by (first | exact wk_same (by (simp only [go_sem, Int.natCast_add, cn, Int.cast_ofNat_Int, q1, q2])) | (refine wk_drop ?_ ?_ ?_ ?_ ?_ <;> (simp only [go_sem, Int.natCast_add, cn, Int.cast_ofNat_Int, q1, q2])))) | trace_state
      · have : j = 3 := by omega
        subst this
        (repeat' (first | ((with_reducible first | refine vcG_split ?_ ?_ | refine vcIf_split ?_ ?_ | refine vcQ_split ?_ ?_ | refine vcDG_split ?_ ?_) <;> intro hb <;> (try rw [hb]) <;> (try simp only [bq, bz, dtrue, dfalse] at hb) <;> (try simp only [within] at hb) <;> try (simp only [go_sem])) | refine And.intro (by first | exact trivial | omega | (simp only [I64]; omega)) ?_ | (simp only [go_sem])))
        all_goals first | exact .base (by (first | exact wk_same (by (simp only [go_sem, Int.natCast_add, cn, Int.cast_ofNat_Int])) | (refine wk_drop ?_ ?_ ?_ ?_ ?_ <;> (simp only [go_sem, Int.natCast_add, cn, Int.cast_ofNat_Int])))) | trace_state
    · (repeat' (first | ((with_reducible first | refine vcG_split ?_ ?_ | refine vcIf_split ?_ ?_ | refine vcQ_split ?_ ?_ | refine vcDG_split ?_ ?_) <;> intro hb <;> (try rw [hb]) <;> (try simp only [bq, bz, dtrue, dfalse] at hb) <;> (try simp only [within] at hb) <;> try (simp only [go_sem])) | refine And.intro (by first | exact trivial | omega | (simp only [I64]; omega)) ?_ | (simp only [go_sem])))
      refine vc_for (fun j => ⟨[(14, .int .i64 j), (3, .row 1 (E (6 + j)).length), (13, .agg [.int .i64 a6, .int .i64 a7, .int .i64 a8]), (4, .int .i64 2), (9, .int .i64 2), (2, .nilS), (8, .agg [.int .i64 a0, .int .i64 a1, .int .i64 a2, .int .i64 a3, .int .i64 a4, .int .i64 a5, .int .i64 a6, .int .i64 a7, .int .i64 a8, .int .i64 a9, .int .i64 a10, .int .i64 a11])], [.box 69 [.int .i64 a0, .int .i64 a1, .int .i64 a2, .int .i64 a3, .int .i64 a4, .int .i64 a5, .int .i64 a6, .int .i64 a7, .int .i64 a8, .int .i64 a9, .int .i64 a10, .int .i64 a11] false, .row 44 3 ((E (6 + j)).map encS) false, .box 67 [.int .i64 a6, .int .i64 a7, .int .i64 a8] false]⟩) 3 (fun _ => True) (by (first | exact wk_same (by (simp only [go_sem, Int.natCast_add, cn, Int.cast_ofNat_Int, Nat.add_zero])) | (refine wk_drop ?_ ?_ ?_ ?_ ?_ <;> (simp only [go_sem, Int.natCast_add, cn, Int.cast_ofNat_Int, Nat.add_zero])))) trivial ?_
      intro j hj _
      rcases Nat.lt_or_ge j 3 with hjl | hjg
      · have hcj : j = 0 ∨ j = 1 ∨ j = 2 := by omega
        rcases hcj with rfl | rfl | rfl
        · have b := bd 6
          by_cases h : 0 < a6
          · obtain ⟨q1, q2⟩ := y6 h
            (repeat' (first | ((with_reducible first | refine vcG_split ?_ ?_ | refine vcIf_split ?_ ?_ | refine vcQ_split ?_ ?_ | refine vcDG_split ?_ ?_) <;> intro hb <;> (try rw [hb]) <;> (try simp only [bq, bz, dtrue, dfalse] at hb) <;> (try simp only [within] at hb) <;> try (simp only [go_sem, Nat.reduceAdd, h, List.length_map])) | refine And.intro (by first | exact trivial | omega | (simp only [I64]; omega)) ?_ | (simp only [go_sem, Nat.reduceAdd, h, List.length_map])))
            all_goals first | exact (by (first | exact wk_same (by (simp only [go_sem, Int.natCast_add, cn, Int.cast_ofNat_Int, q1, q2])) | (refine wk_drop ?_ ?_ ?_ ?_ ?_ <;> (simp only [go_sem, Int.natCast_add, cn, Int.cast_ofNat_Int, q1, q2])))) | exact ⟨⟨by omega, by omega⟩, by (first | exact wk_same (by (simp only [go_sem, Int.natCast_add, cn, Int.cast_ofNat_Int, q1, q2])) | (refine wk_drop ?_ ?_ ?_ ?_ ?_ <;> (simp only [go_sem, Int.natCast_add, cn, Int.cast_ofNat_Int, q1, q2])))⟩ | trace_state
          · obtain ⟨q1, q2⟩ := n6 h
            (repeat' (first | ((with_reducible first | refine vcG_split ?_ ?_ | refine vcIf_split ?_ ?_ | refine vcQ_split ?_ ?_ | refine vcDG_split ?_ ?_) <;> intro hb <;> (try rw [hb]) <;> (try simp only [bq, bz, dtrue, dfalse] at hb) <;> (try simp only [within] at hb) <;> try (simp only [go_sem, Nat.reduceAdd, h, List.length_map])) | refine And.intro (by first | exact trivial | omega | (simp only [I64]; omega)) ?_ | (simp only [go_sem, Nat.reduceAdd, h, List.length_map])))
            all_goals first | exact (by (first | exact wk_same (by (simp only [go_sem, Int.natCast_add, cn, Int.cast_ofNat_Int, q1, q2])) | (refine wk_drop ?_ ?_ ?_ ?_ ?_ <;> (simp only [go_sem, Int.natCast_add, cn, Int.cast_ofNat_Int, q1, q2])))) | trace_state
        · have b := bd 7
          by_cases h : 0 < a7
          · obtain ⟨q1, q2⟩ := y7 h
            (repeat' (first | ((with_reducible first | refine vcG_split ?_ ?_ | refine vcIf_split ?_ ?_ | refine vcQ_split ?_ ?_ | refine vcDG_split ?_ ?_) <;> intro hb <;> (try rw [hb]) <;> (try simp only [bq, bz, dtrue, dfalse] at hb) <;> (try simp only [within] at hb) <;> try (simp only [go_sem, Nat.reduceAdd, h, List.length_map])) | refine And.intro (by first | exact trivial | omega | (simp only [I64]; omega)) ?_ | (simp only [go_sem, Nat.reduceAdd, h, List.length_map])))
            all_goals first | exact (by (first | exact wk_same (by (simp only [go_sem, Int.natCast_add, cn, Int.cast_ofNat_Int, q1, q2])) | (refine wk_drop ?_ ?_ ?_ ?_ ?_ <;> (simp only [go_sem, Int.natCast_add, cn, Int.cast_ofNat_Int, q1, q2])))) | exact ⟨⟨by omega, by omega⟩, by (first | exact wk_same (by (simp only [go_sem, Int.natCast_add, cn, Int.cast_ofNat_Int, q1, q2])) | (refine wk_drop ?_ ?_ ?_ ?_ ?_ <;> (simp only [go_sem, Int.natCast_add, cn, Int.cast_ofNat_Int, q1, q2])))⟩ | trace_state
          · obtain ⟨q1, q2⟩ := n7 h
            (repeat' (first | ((with_reducible first | refine vcG_split ?_ ?_ | refine vcIf_split ?_ ?_ | refine vcQ_split ?_ ?_ | refine vcDG_split ?_ ?_) <;> intro hb <;> (try rw [hb]) <;> (try simp only [bq, bz, dtrue, dfalse] at hb) <;> (try simp only [within] at hb) <;> try (simp only [go_sem, Nat.reduceAdd, h, List.length_map])) | refine And.intro (by first | exact trivial | omega | (simp only [I64]; omega)) ?_ | (simp only [go_sem, Nat.reduceAdd, h, List.length_map])))
            all_goals first | exact (by (first | exact wk_same (by (simp only [go_sem, Int.natCast_add, cn, Int.cast_ofNat_Int, q1, q2])) | (refine wk_drop ?_ ?_ ?_ ?_ ?_ <;> (simp only [go_sem, Int.natCast_add, cn, Int.cast_ofNat_Int, q1, q2])))) | trace_state
        · have b := bd 8
          by_cases h : 0 < a8
          · obtain ⟨q1, q2⟩ := y8 h
            (repeat' (first | ((with_reducible first | refine vcG_split ?_ ?_ | refine vcIf_split ?_ ?_ | refine vcQ_split ?_ ?_ | refine vcDG_split ?_ ?_) <;> intro hb <;> (try rw [hb]) <;> (try simp only [bq, bz, dtrue, dfalse] at hb) <;> (try simp only [within] at hb) <;> try (simp only [go_sem, Nat.reduceAdd, h, List.length_map])) | refine And.intro (by first | exact trivial | omega | (simp only [I64]; omega)) ?_ | (simp only [go_sem, Nat.reduceAdd, h, List.length_map])))
            all_goals first | exact (by (first | exact wk_same (by (simp only [go_sem, Int.natCast_add, cn, Int.cast_ofNat_Int, q1, q2])) | (refine wk_drop ?_ ?_ ?_ ?_ ?_ <;> (simp only [go_sem, Int.natCast_add, cn, Int.cast_ofNat_Int, q1, q2])))) | exact ⟨⟨by omega, by omega⟩, by (first | exact wk_same (by (simp only [go_sem, Int.natCast_add, cn, Int.cast_ofNat_Int, q1, q2])) | (refine wk_drop ?_ ?_ ?_ ?_ ?_ <;> (simp only [go_sem, Int.natCast_add, cn, Int.cast_ofNat_Int, q1, q2])))⟩ | trace_state
          · obtain ⟨q1, q2⟩ := n8 h
            (repeat' (first | ((with_reducible first | refine vcG_split ?_ ?_ | refine vcIf_split ?_ ?_ | refine vcQ_split ?_ ?_ | refine vcDG_split ?_ ?_) <;> intro hb <;> (try rw [hb]) <;> (try simp only [bq, bz, dtrue, dfalse] at hb) <;> (try simp only [within] at hb) <;> try (simp only [go_sem, Nat.reduceAdd, h, List.length_map])) | refine And.intro (by first | exact trivial | omega | (simp only [I64]; omega)) ?_ | (simp only [go_sem, Nat.reduceAdd, h, List.length_map])))
            all_goals first | exact (by (first | exact wk_same (by (simp only [go_sem, Int.natCast_add, cn, Int.cast_ofNat_Int, q1, q2])) | (refine wk_drop ?_ ?_ ?_ ?_ ?_ <;> (simp only [go_sem, Int.natCast_add, cn, Int.cast_ofNat_Int, q1, q2])))) | trace_state
      · have : j = 3 := by omega
        subst this
        (repeat' (first | ((with_reducible first | refine vcG_split ?_ ?_ | refine vcIf_split ?_ ?_ | refine vcQ_split ?_ ?_ | refine vcDG_split ?_ ?_) <;> intro hb <;> (try rw [hb]) <;> (try simp only [bq, bz, dtrue, dfalse] at hb) <;> (try simp only [within] at hb) <;> try (simp only [go_sem])) | refine And.intro (by first | exact trivial | omega | (simp only [I64]; omega)) ?_ | (simp only [go_sem])))
        all_goals first | exact .base (by (first | exact wk_same (by (simp only [go_sem, Int.natCast_add, cn, Int.cast_ofNat_Int])) | (refine wk_drop ?_ ?_ ?_ ?_ ?_ <;> (simp only [go_sem, Int.natCast_add, cn, Int.cast_ofNat_Int])))) | trace_state
    · (repeat' (first | ((with_reducible first | refine vcG_split ?_ ?_ | refine vcIf_split ?_ ?_ | refine vcQ_split ?_ ?_ | refine vcDG_split ?_ ?_) <;> intro hb <;> (try rw [hb]) <;> (try simp only [bq, bz, dtrue, dfalse] at hb) <;> (try simp only [within] at hb) <;> try (simp only [go_sem])) | refine And.intro (by first | exact trivial | omega | (simp only [I64]; omega)) ?_ | (simp only [go_sem])))
      refine vc_for (fun j => ⟨[(14, .int .i64 j), (3, .row 1 (E (9 + j)).length), (13, .agg [.int .i64 a9, .int .i64 a10, .int .i64 a11]), (4, .int .i64 3), (9, .int .i64 3), (2, .nilS), (8, .agg [.int .i64 a0, .int .i64 a1, .int .i64 a2, .int .i64 a3, .int .i64 a4, .int .i64 a5, .int .i64 a6, .int .i64 a7, .int .i64 a8, .int .i64 a9, .int .i64 a10, .int .i64 a11])], [.box 69 [.int .i64 a0, .int .i64 a1, .int .i64 a2, .int .i64 a3, .int .i64 a4, .int .i64 a5, .int .i64 a6, .int .i64 a7, .int .i64 a8, .int .i64 a9, .int .i64 a10, .int .i64 a11] false, .row 44 3 ((E (9 + j)).map encS) false, .box 67 [.int .i64 a9, .int .i64 a10, .int .i64 a11] false]⟩) 3 (fun _ => True) (by (first | exact wk_same (by (simp only [go_sem, Int.natCast_add, cn, Int.cast_ofNat_Int, Nat.add_zero])) | (refine wk_drop ?_ ?_ ?_ ?_ ?_ <;> (simp only [go_sem, Int.natCast_add, cn, Int.cast_ofNat_Int, Nat.add_zero])))) trivial ?_
      intro j hj _
      rcases Nat.lt_or_ge j 3 with hjl | hjg
      · have hcj : j = 0 ∨ j = 1 ∨ j = 2 := by omega
        rcases hcj with rfl | rfl | rfl
        · have b := bd 9
          by_cases h : 0 < a9
          · obtain ⟨q1, q2⟩ := y9 h
            (repeat' (first | ((with_reducible first | refine vcG_split ?_ ?_ | refine vcIf_split ?_ ?_ | refine vcQ_split ?_ ?_ | refine vcDG_split ?_ ?_) <;> intro hb <;> (try rw [hb]) <;> (try simp only [bq, bz, dtrue, dfalse] at hb) <;> (try simp only [within] at hb) <;> try (simp only [go_sem, Nat.reduceAdd, h, List.length_map])) | refine And.intro (by first | exact trivial | omega | (simp only [I64]; omega)) ?_ | (simp only [go_sem, Nat.reduceAdd, h, List.length_map])))
            all_goals first | exact (by (first | exact wk_same (by (simp only [go_sem, Int.natCast_add, cn, Int.cast_ofNat_Int, q1, q2])) | (refine wk_drop ?_ ?_ ?_ ?_ ?_ <;> (simp only [go_sem, Int.natCast_add, cn, Int.cast_ofNat_Int, q1, q2])))) | exact ⟨⟨by omega, by omega⟩, by (first | exact wk_same (by (simp only [go_sem, Int.natCast_add, cn, Int.cast_ofNat_Int, q1, q2])) | (refine wk_drop ?_ ?_ ?_ ?_ ?_ <;> (simp only [go_sem, Int.natCast_add, cn, Int.cast_ofNat_Int, q1, q2])))⟩ | trace_state
          · obtain ⟨q1, q2⟩ := n9 h
            (repeat' (first | ((with_reducible first | refine vcG_split ?_ ?_ | refine vcIf_split ?_ ?_ | refine vcQ_split ?_ ?_ | refine vcDG_split ?_ ?_) <;> intro hb <;> (try rw [hb]) <;> (try simp only [bq, bz, dtrue, dfalse] at hb) <;> (try simp only [within] at hb) <;> try (simp only [go_sem, Nat.reduceAdd, h, List.length_map])) | refine And.intro (by first | exact trivial | omega | (simp only [I64]; omega)) ?_ | (simp only [go_sem, Nat.reduceAdd, h, List.length_map])))
            all_goals first | exact (by (first | exact wk_same (by (simp only [go_sem, Int.natCast_add, cn, Int.cast_ofNat_Int, q1, q2])) | (refine wk_drop ?_ ?_ ?_ ?_ ?_ <;> (simp only [go_sem, Int.natCast_add, cn, Int.cast_ofNat_Int, q1, q2])))) | trace_state
        · have b := bd 10
          by_cases h : 0 < a10
          · obtain ⟨q1, q2⟩ := y10 h
            (repeat' (first | ((with_reducible first | refine vcG_split ?_ ?_ | refine vcIf_split ?_ ?_ | refine vcQ_split ?_ ?_ | refine vcDG_split ?_ ?_) <;> intro hb <;> (try rw [hb]) <;> (try simp only [bq, bz, dtrue, dfalse] at hb) <;> (try simp only [within] at hb) <;> try (simp only [go_sem, Nat.reduceAdd, h, List.length_map])) | refine And.intro (by first | exact trivial | omega | (simp only [I64]; omega)) ?_ | (simp only [go_sem, Nat.reduceAdd, h, List.length_map])))
            all_goals first | exact (by (first | exact wk_same (by (simp only [go_sem, Int.natCast_add, cn, Int.cast_ofNat_Int, q1, q2])) | (refine wk_drop ?_ ?_ ?_ ?_ ?_ <;> (simp only [go_sem, Int.natCast_add, cn, Int.cast_ofNat_Int, q1, q2])))) | exact ⟨⟨by omega, by omega⟩, by (first | exact wk_same (by (simp only [go_sem, Int.natCast_add, cn, Int.cast_ofNat_Int, q1, q2])) | (refine wk_drop ?_ ?_ ?_ ?_ ?_ <;> (simp only [go_sem, Int.natCast_add, cn, Int.cast_ofNat_Int, q1, q2])))⟩ | trace_state
          · obtain ⟨q1, q2⟩ := n10 h
            (repeat' (first | ((with_reducible first | refine vcG_split ?_ ?_ | refine vcIf_split ?_ ?_ | refine vcQ_split ?_ ?_ | refine vcDG_split ?_ ?_) <;> intro hb <;> (try rw [hb]) <;> (try simp only [bq, bz, dtrue, dfalse] at hb) <;> (try simp only [within] at hb) <;> try (simp only [go_sem, Nat.reduceAdd, h, List.length_map])) | refine And.intro (by first | exact trivial | omega | (simp only [I64]; omega)) ?_ | (simp only [go_sem, Nat.reduceAdd, h, List.length_map])))
            all_goals first | exact (by (first | exact wk_same (by (simp only [go_sem, Int.natCast_add, cn, Int.cast_ofNat_Int, q1, q2])) | (refine wk_drop ?_ ?_ ?_ ?_ ?_ <;> (simp only [go_sem, Int.natCast_add, cn, Int.cast_ofNat_Int, q1, q2])))) | trace_state
        · have b := bd 11
          by_cases h : 0 < a11
          · obtain ⟨q1, q2⟩ := y11 h
            (repeat' (first | ((with_reducible first | refine vcG_split ?_ ?_ | refine vcIf_split ?_ ?_ | refine vcQ_split ?_ ?_ | refine vcDG_split ?_ ?_) <;> intro hb <;> (try rw [hb]) <;> (try simp only [bq, bz, dtrue, dfalse] at hb) <;> (try simp only [within] at hb) <;> try (simp only [go_sem, Nat.reduceAdd, h, List.length_map])) | refine And.intro (by first | exact trivial | omega | (simp only [I64]; omega)) ?_ | (simp only [go_sem, Nat.reduceAdd, h, List.length_map])))
            all_goals first | exact (by (first | exact wk_same (by (simp only [go_sem, Int.natCast_add, cn, Int.cast_ofNat_Int, q1, q2])) | (refine wk_drop ?_ ?_ ?_ ?_ ?_ <;> (simp only [go_sem, Int.natCast_add, cn, Int.cast_ofNat_Int, q1, q2])))) | exact ⟨⟨by omega, by omega⟩, by (first | exact wk_same (by (simp only [go_sem, Int.natCast_add, cn, Int.cast_ofNat_Int, q1, q2])) | (refine wk_drop ?_ ?_ ?_ ?_ ?_ <;> (simp only [go_sem, Int.natCast_add, cn, Int.cast_ofNat_Int, q1, q2])))⟩ | trace_state
          · obtain ⟨q1, q2⟩ := n11 h
            (repeat' (first | ((with_reducible first | refine vcG_split ?_ ?_ | refine vcIf_split ?_ ?_ | refine vcQ_split ?_ ?_ | refine vcDG_split ?_ ?_) <;> intro hb <;> (try rw [hb]) <;> (try simp only [bq, bz, dtrue, dfalse] at hb) <;> (try simp only [within] at hb) <;> try (simp only [go_sem, Nat.reduceAdd, h, List.length_map])) | refine And.intro (by first | exact trivial | omega | (simp only [I64]; omega)) ?_ | (simp only [go_sem, Nat.reduceAdd, h, List.length_map])))
            all_goals first | exact (by (first | exact wk_same (by (simp only [go_sem, Int.natCast_add, cn, Int.cast_ofNat_Int, q1, q2])) | (refine wk_drop ?_ ?_ ?_ ?_ ?_ <;> (simp only [go_sem, Int.natCast_add, cn, Int.cast_ofNat_Int, q1, q2])))) | trace_state
      · have : j = 3 := by omega
        subst this
        (repeat' (first | ((with_reducible first | refine vcG_split ?_ ?_ | refine vcIf_split ?_ ?_ | refine vcQ_split ?_ ?_ | refine vcDG_split ?_ ?_) <;> intro hb <;> (try rw [hb]) <;> (try simp only [bq, bz, dtrue, dfalse] at hb) <;> (try simp only [within] at hb) <;> try (simp only [go_sem])) | refine And.intro (by first | exact trivial | omega | (simp only [I64]; omega)) ?_ | (simp only [go_sem])))
        all_goals first | exact .base (by (first | exact wk_same (by (simp only [go_sem, Int.natCast_add, cn, Int.cast_ofNat_Int])) | (refine wk_drop ?_ ?_ ?_ ?_ ?_ <;> (simp only [go_sem, Int.natCast_add, cn, Int.cast_ofNat_Int])))) | trace_state
  · have : i = 4 := by omega
    subst this
    (repeat' (first | ((with_reducible first | refine vcG_split ?_ ?_ | refine vcIf_split ?_ ?_ | refine vcQ_split ?_ ?_ | refine vcDG_split ?_ ?_) <;> intro hb <;> (try rw [hb]) <;> (try simp only [bq, bz, dtrue, dfalse] at hb) <;> (try simp only [within] at hb) <;> try (simp only [go_sem, List.length_map])) | refine And.intro (by first | exact trivial | omega | (simp only [I64]; omega)) ?_ | (simp only [go_sem, List.length_map])))
    all_goals trace_state
end Go.Proofs.YtoadkchhimojlaaGreat

