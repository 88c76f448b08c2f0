/- Contracts of functions of the given program, without a condition beyond those that each theorem states; they lead to the given statement. -/
import Derived.Test.YtllmohmgakdbdaaW14b
set_option linter.unusedSimpArgs false
set_option linter.unusedVariables false
set_option linter.unusedVariables false
set_option maxRecDepth 100000
namespace Go.Proofs.Ytllmohmgakdbdaa
open Go Go.Fl
open Classical
theorem c98n (below d : Nat) (hb8 : below ≤ 8) (hd : d ≤ 8) : PC Try.prog 98 [lN [], .int .i64 d, .int .i64 below] (.lst false 1 ((listsOf below d 0 []).map encW)) := by
  have h := c98 below hb8 d 0 [] (.inl ⟨rfl, rfl⟩) (by omega) (by simp; omega)
  rwa [show (([] : List Int).length + d : Nat) = d from by simp] at h
noncomputable def remT (ts : List Thing) (ms : List Mark) (c now : Int) (k i : Nat) : List (List Int) := remL ts ms c now k ++ ((listsOf ts.length k 0 []).take i).filter fun l => decide (isRem ts ms c now l)
theorem remT_zero {ts : List Thing} {ms : List Mark} {c now : Int} {k : Nat} : remT ts ms c now k 0 = remL ts ms c now k := by simp [remT]
theorem remT_all {ts : List Thing} {ms : List Mark} {c now : Int} {k i : Nat} (h : (listsOf ts.length k 0 []).length ≤ i) : remT ts ms c now k i = remL ts ms c now (k + 1) := by
  unfold remT remL
  rw [List.take_of_length_le h, allL_succ, List.filter_append]
theorem remT_yes {ts : List Thing} {ms : List Mark} {c now : Int} {k i : Nat} {l : List Int} (hl : (listsOf ts.length k 0 [])[i]? = some l) (h : isRem ts ms c now l) : remT ts ms c now k (i + 1) = remT ts ms c now k i ++ [l] := by
  unfold remT
  rw [List.take_add_one, hl, List.filter_append]
  simp [h]
theorem remT_no {ts : List Thing} {ms : List Mark} {c now : Int} {k i : Nat} {l : List Int} (hl : (listsOf ts.length k 0 [])[i]? = some l) (h : ¬ isRem ts ms c now l) : remT ts ms c now k (i + 1) = remT ts ms c now k i := by
  unfold remT
  rw [List.take_add_one, hl, List.filter_append]
  simp [h]
theorem remL_zero {ts : List Thing} {ms : List Mark} {c now : Int} : remL ts ms c now 0 = [] := rfl
theorem allL_len (n : Nat) (h8 : n ≤ 8) : ∀ k, (allL n k).length ≤ 256 * k
  | 0 => by simp [allL]
  | k + 1 => by
    have ih := allL_len n h8 k
    have h1 := listsOf_len n k 0 [] (by omega)
    have h2 : (2 : Nat) ^ (n - 0) ≤ 2 ^ 8 := Nat.pow_le_pow_right (by omega) (by omega)
    rw [allL_succ, List.length_append]
    omega
theorem remT_len {ts : List Thing} {ms : List Mark} {c now : Int} (h8 : ts.length ≤ 8) (k i : Nat) (hk : k ≤ 9) : (remT ts ms c now k i).length ≤ 256 * 10 := by
  unfold remT
  rw [List.length_append]
  have h1 := List.length_filter_le (fun l => decide (isRem ts ms c now l)) (allL ts.length k)
  have h2 := List.length_filter_le (fun l => decide (isRem ts ms c now l)) ((listsOf ts.length k 0 []).take i)
  have h3 := allL_len ts.length h8 k
  have h4 := listsOf_len ts.length k 0 [] (by omega)
  have h5 : (2 : Nat) ^ (ts.length - 0) ≤ 2 ^ 8 := Nat.pow_le_pow_right (by omega) (by omega)
  have h6 : ((listsOf ts.length k 0 []).take i).length ≤ (listsOf ts.length k 0 []).length := by rw [List.length_take]; omega
  unfold remL
  omega
theorem listsOf_ok {n d : Nat} {l : List Int} (h : l ∈ listsOf n d 0 []) : l.length = d ∧ rising l 0 (n - 1) := by
  obtain ⟨t, h1, h2, h3⟩ := (listsOf_mem n d 0 [] l).1 h
  rw [List.nil_append] at h1
  subst h1
  exact ⟨h2, (upList_rising n l 0).1 h3⟩
set_option maxHeartbeats 2000000 in
theorem c85 (ts : List Thing) (ms : List Mark) (hv : valid ts ms) (c now : Int) : PC Try.prog 85 [hT ts ms, .int .i64 c, .int .i64 now] (.lst false 1 ((remL ts ms c now (ts.length + 1)).map encW)) := by
  have h8 := hv.1
  have hml := hv.2.1
  refine PC.body Try.func85 (by kernel_rfl) rfl (by simp [Try.f85]) rfl ?_
  simp only [Try.f85]
  intro hlen
  simp only [go_sem, List.length_map, and_true, true_and] at hlen
  refine CV.run ?_
  (repeat' (first | ((first | with_reducible refine vcG_split ?_ ?_ | with_reducible refine vcIf_split ?_ ?_ | with_reducible refine vcQ_split ?_ ?_ | with_reducible refine vcDG_split ?_ ?_) <;> intro hb <;> (try rw [hb]) <;> (try simp only [Bool.and_eq_true, Bool.or_eq_true, dtrue, dfalse, Bool.not_eq_true', Bool.not_eq_false', Bool.and_eq_false_iff, Bool.or_eq_false_iff, Bool.not_true, Bool.not_false] at hb) <;> (try simp only [within] at hb) <;> try (simp only [go_sem])) | refine And.intro (by (first | exact trivial | (simp only [I64]; omega) | omega)) ?_ | (with_reducible rw [vc_draw_eq]; first | refine CV.draw (id := 9) [(0, 0), (0, 0), (0, 0), (0, 0), (0, 0), (0, 0), (0, 0), (0, 0)] mixed rfl (by kernel_rfl) ?_) | fail | (simp only [go_sem])))
  refine vc_fw (fun j => ⟨[(8, .int .i64 j), (7, .row 1 (remL ts ms c now j).length), (6, .nilS), (3, .lp 0 0), (2, .int .i64 now), (1, .int .i64 c)], [.box 25 [.lst false 4 (ts.map encT), .lst false 3 (ms.map encM)] false, .row 28 1 ((remL ts ms c now j).map encW) false]⟩) (ts.length + 1) (fun _ => True) (.nilE 7 28 1 (by (simp only [go_sem])) (by omega) (.base (by (first | exact wk_same (by (simp only [go_sem, Int.natCast_add, Int.natCast_one, Int.natCast_zero, Int.cast_ofNat_Int, remL_zero])) | exact wk_drop (by (simp only [go_sem, Int.natCast_add, Int.natCast_one, Int.natCast_zero, Int.cast_ofNat_Int, remL_zero])) (by (simp only [go_sem, Int.natCast_add, Int.natCast_one, Int.natCast_zero, Int.cast_ofNat_Int, remL_zero])) (by (simp only [go_sem, Int.natCast_add, Int.natCast_one, Int.natCast_zero, Int.cast_ofNat_Int, remL_zero])) (by (simp only [go_sem, Int.natCast_add, Int.natCast_one, Int.natCast_zero, Int.cast_ofNat_Int, remL_zero])) (by (simp only [go_sem, Int.natCast_add, Int.natCast_one, Int.natCast_zero, Int.cast_ofNat_Int, remL_zero])))))) trivial ?_
  intro j hj _
  rcases Nat.lt_or_ge j (ts.length + 1) with hlt | hge
  · have hlt' : (j : Int) ≤ ts.length := by omega
    have h98 := c98n ts.length j h8 (by omega)
    have hll := listsOf_len ts.length j 0 [] (by omega)
    have hpow : (2 : Nat) ^ (ts.length - 0) ≤ 2 ^ 8 := Nat.pow_le_pow_right (by omega) (by omega)
    change PC Try.prog 98 [.lst false 1 [], _, _] _ at h98
    (repeat' (first | ((first | with_reducible refine vcG_split ?_ ?_ | with_reducible refine vcIf_split ?_ ?_ | with_reducible refine vcQ_split ?_ ?_ | with_reducible refine vcDG_split ?_ ?_) <;> intro hb <;> (try rw [hb]) <;> (try simp only [Bool.and_eq_true, Bool.or_eq_true, dtrue, dfalse, Bool.not_eq_true', Bool.not_eq_false', Bool.and_eq_false_iff, Bool.or_eq_false_iff, Bool.not_true, Bool.not_false] at hb) <;> (try simp only [within] at hb) <;> try (simp only [go_sem, hlt'])) | refine And.intro (by (first | exact trivial | (simp only [I64]; omega) | omega)) ?_ | (with_reducible rw [vc_draw_eq]; first | refine CV.draw (id := 9) [(0, 0), (0, 0), (0, 0), (0, 0), (0, 0), (0, 0), (0, 0), (0, 0)] mixed rfl (by kernel_rfl) ?_) | fail | (simp only [go_sem, hlt'])))
    refine vcP_as h98 (pureW_lst _) (by simp [AV.pureL, AV.pure]) (by simp [frzL, frz]) ?_
    (repeat' (first | ((first | with_reducible refine vcG_split ?_ ?_ | with_reducible refine vcIf_split ?_ ?_ | with_reducible refine vcQ_split ?_ ?_ | with_reducible refine vcDG_split ?_ ?_) <;> intro hb <;> (try rw [hb]) <;> (try simp only [Bool.and_eq_true, Bool.or_eq_true, dtrue, dfalse, Bool.not_eq_true', Bool.not_eq_false', Bool.and_eq_false_iff, Bool.or_eq_false_iff, Bool.not_true, Bool.not_false] at hb) <;> (try simp only [within] at hb) <;> try (simp only [go_sem])) | refine And.intro (by (first | exact trivial | (simp only [I64]; omega) | omega)) ?_ | (with_reducible rw [vc_draw_eq]; first | refine CV.draw (id := 9) [(0, 0), (0, 0), (0, 0), (0, 0), (0, 0), (0, 0), (0, 0), (0, 0)] mixed rfl (by kernel_rfl) ?_) | fail | (simp only [go_sem])))
    refine vc_fw (fun i => ⟨[(10, .int .i64 i), (9, .lst false 1 ((listsOf ts.length j 0 []).map encW)), (8, .int .i64 j), (7, .row 1 (remT ts ms c now j i).length), (6, .nilS), (3, .lp 0 0), (2, .int .i64 now), (1, .int .i64 c)], [.box 25 [.lst false 4 (ts.map encT), .lst false 3 (ms.map encM)] false, .row 28 1 ((remT ts ms c now j i).map encW) false]⟩) (listsOf ts.length j 0 []).length (fun _ => True) (.base (by (first | exact wk_same (by (simp only [go_sem, Int.natCast_add, Int.natCast_one, Int.natCast_zero, Int.cast_ofNat_Int, remT_zero])) | exact wk_drop (by (simp only [go_sem, Int.natCast_add, Int.natCast_one, Int.natCast_zero, Int.cast_ofNat_Int, remT_zero])) (by (simp only [go_sem, Int.natCast_add, Int.natCast_one, Int.natCast_zero, Int.cast_ofNat_Int, remT_zero])) (by (simp only [go_sem, Int.natCast_add, Int.natCast_one, Int.natCast_zero, Int.cast_ofNat_Int, remT_zero])) (by (simp only [go_sem, Int.natCast_add, Int.natCast_one, Int.natCast_zero, Int.cast_ofNat_Int, remT_zero])) (by (simp only [go_sem, Int.natCast_add, Int.natCast_one, Int.natCast_zero, Int.cast_ofNat_Int, remT_zero]))))) trivial ?_
    intro i hi _
    have hrl := remT_len (ts := ts) (ms := ms) (c := c) (now := now) h8 j i (by omega)
    rcases Nat.lt_or_ge i (listsOf ts.length j 0 []).length with ilt | ige
    · obtain ⟨l, hl⟩ := get_of ilt
      have ilt' : (i : Int) < (listsOf ts.length j 0 []).length := by omega
      obtain ⟨l1, l2⟩ := listsOf_ok (List.mem_of_getElem? hl)
      have h65 := c65 ts ms hv.things h8 (by omega) c now l (by omega)
      by_cases hr : isRem ts ms c now l
      · have e := remT_yes hl hr
        rw [decide_eq_true ⟨l2, hr⟩] at h65
        (repeat' (first | ((first | with_reducible refine vcG_split ?_ ?_ | with_reducible refine vcIf_split ?_ ?_ | with_reducible refine vcQ_split ?_ ?_ | with_reducible refine vcDG_split ?_ ?_) <;> intro hb <;> (try rw [hb]) <;> (try simp only [Bool.and_eq_true, Bool.or_eq_true, dtrue, dfalse, Bool.not_eq_true', Bool.not_eq_false', Bool.and_eq_false_iff, Bool.or_eq_false_iff, Bool.not_true, Bool.not_false] at hb) <;> (try simp only [within] at hb) <;> try (simp only [go_sem, ilt', hl, encW])) | refine And.intro (by (first | exact trivial | (simp only [I64]; omega) | omega)) ?_ | (with_reducible rw [vc_draw_eq]; first | refine CV.draw (id := 9) [(0, 0), (0, 0), (0, 0), (0, 0), (0, 0), (0, 0), (0, 0), (0, 0)] mixed rfl (by kernel_rfl) ?_) | (first | (refine vcP_pure (h65) rfl ?_ ?_ ?_; (focus (first | rfl | ((simp only [go_sem, ilt', hl, encW, AV.pureL, AV.pure, pureL_mapI, Bool.and_self]) <;> fail))); (focus (first | ((simp only [go_sem, ilt', hl, encW]) <;> fail) | rfl))) | (refine dCallP_pure (h65) rfl ?_ ?_ ?_; (focus (first | rfl | ((simp only [go_sem, ilt', hl, encW, AV.pureL, AV.pure, pureL_mapI, Bool.and_self]) <;> fail))); (focus (first | ((simp only [go_sem, ilt', hl, encW]) <;> fail) | rfl))) | refine vcP_safe (h65) rfl rfl (by (simp only [go_sem, ilt', hl, encW])) ?_ | refine dCallP_safe (h65) rfl rfl ?_) | (simp only [go_sem, ilt', hl, encW])))
        exact .base (by (first | exact wk_same (by (simp only [go_sem, Int.natCast_add, Int.natCast_one, Int.natCast_zero, Int.cast_ofNat_Int, e, encW, List.map_append, List.length_append])) | exact wk_drop (by (simp only [go_sem, Int.natCast_add, Int.natCast_one, Int.natCast_zero, Int.cast_ofNat_Int, e, encW, List.map_append, List.length_append])) (by (simp only [go_sem, Int.natCast_add, Int.natCast_one, Int.natCast_zero, Int.cast_ofNat_Int, e, encW, List.map_append, List.length_append])) (by (simp only [go_sem, Int.natCast_add, Int.natCast_one, Int.natCast_zero, Int.cast_ofNat_Int, e, encW, List.map_append, List.length_append])) (by (simp only [go_sem, Int.natCast_add, Int.natCast_one, Int.natCast_zero, Int.cast_ofNat_Int, e, encW, List.map_append, List.length_append])) (by (simp only [go_sem, Int.natCast_add, Int.natCast_one, Int.natCast_zero, Int.cast_ofNat_Int, e, encW, List.map_append, List.length_append]))))
      · have e := remT_no hl hr
        rw [decide_eq_false fun h => hr h.2] at h65
        (repeat' (first | ((first | with_reducible refine vcG_split ?_ ?_ | with_reducible refine vcIf_split ?_ ?_ | with_reducible refine vcQ_split ?_ ?_ | with_reducible refine vcDG_split ?_ ?_) <;> intro hb <;> (try rw [hb]) <;> (try simp only [Bool.and_eq_true, Bool.or_eq_true, dtrue, dfalse, Bool.not_eq_true', Bool.not_eq_false', Bool.and_eq_false_iff, Bool.or_eq_false_iff, Bool.not_true, Bool.not_false] at hb) <;> (try simp only [within] at hb) <;> try (simp only [go_sem, ilt', hl, encW])) | refine And.intro (by (first | exact trivial | (simp only [I64]; omega) | omega)) ?_ | (with_reducible rw [vc_draw_eq]; first | refine CV.draw (id := 9) [(0, 0), (0, 0), (0, 0), (0, 0), (0, 0), (0, 0), (0, 0), (0, 0)] mixed rfl (by kernel_rfl) ?_) | (first | (refine vcP_pure (h65) rfl ?_ ?_ ?_; (focus (first | rfl | ((simp only [go_sem, ilt', hl, encW, AV.pureL, AV.pure, pureL_mapI, Bool.and_self]) <;> fail))); (focus (first | ((simp only [go_sem, ilt', hl, encW]) <;> fail) | rfl))) | (refine dCallP_pure (h65) rfl ?_ ?_ ?_; (focus (first | rfl | ((simp only [go_sem, ilt', hl, encW, AV.pureL, AV.pure, pureL_mapI, Bool.and_self]) <;> fail))); (focus (first | ((simp only [go_sem, ilt', hl, encW]) <;> fail) | rfl))) | refine vcP_safe (h65) rfl rfl (by (simp only [go_sem, ilt', hl, encW])) ?_ | refine dCallP_safe (h65) rfl rfl ?_) | (simp only [go_sem, ilt', hl, encW])))
        exact .base (by (first | exact wk_same (by (simp only [go_sem, Int.natCast_add, Int.natCast_one, Int.natCast_zero, Int.cast_ofNat_Int, e])) | exact wk_drop (by (simp only [go_sem, Int.natCast_add, Int.natCast_one, Int.natCast_zero, Int.cast_ofNat_Int, e])) (by (simp only [go_sem, Int.natCast_add, Int.natCast_one, Int.natCast_zero, Int.cast_ofNat_Int, e])) (by (simp only [go_sem, Int.natCast_add, Int.natCast_one, Int.natCast_zero, Int.cast_ofNat_Int, e])) (by (simp only [go_sem, Int.natCast_add, Int.natCast_one, Int.natCast_zero, Int.cast_ofNat_Int, e])) (by (simp only [go_sem, Int.natCast_add, Int.natCast_one, Int.natCast_zero, Int.cast_ofNat_Int, e]))))
    · have ige' : ¬ (i : Int) < (listsOf ts.length j 0 []).length := by omega
      have e := remT_all (ts := ts) (ms := ms) (c := c) (now := now) ige
      (repeat' (first | ((first | with_reducible refine vcG_split ?_ ?_ | with_reducible refine vcIf_split ?_ ?_ | with_reducible refine vcQ_split ?_ ?_ | with_reducible refine vcDG_split ?_ ?_) <;> intro hb <;> (try rw [hb]) <;> (try simp only [Bool.and_eq_true, Bool.or_eq_true, dtrue, dfalse, Bool.not_eq_true', Bool.not_eq_false', Bool.and_eq_false_iff, Bool.or_eq_false_iff, Bool.not_true, Bool.not_false] at hb) <;> (try simp only [within] at hb) <;> try (simp only [go_sem, ige'])) | refine And.intro (by (first | exact trivial | (simp only [I64]; omega) | omega)) ?_ | (with_reducible rw [vc_draw_eq]; first | refine CV.draw (id := 9) [(0, 0), (0, 0), (0, 0), (0, 0), (0, 0), (0, 0), (0, 0), (0, 0)] mixed rfl (by kernel_rfl) ?_) | fail | (simp only [go_sem, ige'])))
      exact .base (by (first | exact wk_same (by (simp only [go_sem, Int.natCast_add, Int.natCast_one, Int.natCast_zero, Int.cast_ofNat_Int, e])) | exact wk_drop (by (simp only [go_sem, Int.natCast_add, Int.natCast_one, Int.natCast_zero, Int.cast_ofNat_Int, e])) (by (simp only [go_sem, Int.natCast_add, Int.natCast_one, Int.natCast_zero, Int.cast_ofNat_Int, e])) (by (simp only [go_sem, Int.natCast_add, Int.natCast_one, Int.natCast_zero, Int.cast_ofNat_Int, e])) (by (simp only [go_sem, Int.natCast_add, Int.natCast_one, Int.natCast_zero, Int.cast_ofNat_Int, e])) (by (simp only [go_sem, Int.natCast_add, Int.natCast_one, Int.natCast_zero, Int.cast_ofNat_Int, e]))))
  · have hge' : ¬ (j : Int) ≤ ts.length := by omega
    have : j = ts.length + 1 := by omega
    subst this
    (repeat' (first | ((first | with_reducible refine vcG_split ?_ ?_ | with_reducible refine vcIf_split ?_ ?_ | with_reducible refine vcQ_split ?_ ?_ | with_reducible refine vcDG_split ?_ ?_) <;> intro hb <;> (try rw [hb]) <;> (try simp only [Bool.and_eq_true, Bool.or_eq_true, dtrue, dfalse, Bool.not_eq_true', Bool.not_eq_false', Bool.and_eq_false_iff, Bool.or_eq_false_iff, Bool.not_true, Bool.not_false] at hb) <;> (try simp only [within] at hb) <;> try (simp only [go_sem, hge'])) | refine And.intro (by (first | exact trivial | (simp only [I64]; omega) | omega)) ?_ | (with_reducible rw [vc_draw_eq]; first | refine CV.draw (id := 9) [(0, 0), (0, 0), (0, 0), (0, 0), (0, 0), (0, 0), (0, 0), (0, 0)] mixed rfl (by kernel_rfl) ?_) | fail | (simp only [go_sem, hge'])))
end Go.Proofs.Ytllmohmgakdbdaa
