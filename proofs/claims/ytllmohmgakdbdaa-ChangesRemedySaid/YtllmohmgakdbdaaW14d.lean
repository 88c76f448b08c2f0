/- Contracts of functions of the given program, without a condition beyond those that each theorem states; they lead to the given statement. -/
import Derived.Test.YtllmohmgakdbdaaW14c
set_option linter.unusedSimpArgs false
set_option linter.unusedVariables false
set_option linter.unusedVariables false
set_option maxRecDepth 100000
namespace Go.Proofs.Ytllmohmgakdbdaa
open Go Go.Fl
open Classical
theorem rising_short {ts : List Thing} {l : List Int} (h : rising l 0 (ts.length - 1)) : (∀ n, n ∈ l → 0 ≤ n ∧ n < ts.length) := fun n hn => by have := h.range n hn; omega
theorem remL_short {ts : List Thing} {ms : List Mark} {c now : Int} {l : List Int} (h8 : ts.length ≤ 8) (h : l ∈ remL ts ms c now (ts.length + 1)) : (∀ n, n ∈ l → 0 ≤ n ∧ n < ts.length) ∧ l.length ≤ 1000 := by
  obtain ⟨h1, h2⟩ := (remL_mem ts ms c now l).1 h
  refine ⟨rising_short h1, ?_⟩
  obtain ⟨k, k1, k2⟩ := setOf_all ts.length l h1
  have := sel_len (bitOf k) ts.length
  rw [k2]
  unfold setOf
  omega
set_option maxHeartbeats 2000000 in
theorem c54 (ts : List Thing) (ms : List Mark) (c now : Int) : PC Try.prog 54 [hT ts ms, .int .i64 c, .int .i64 now] (.tup [lN (rRemedy ts ms c now).1, .int .i64 (rRemedy ts ms c now).2]) := by
  by_cases hq : valid ts ms ∧ within c 0 2 ∧ within now 0 99
  · obtain ⟨hv, hc, hn⟩ := id hq
    rw [show rRemedy ts ms c now = _ from answer_yes hq]
    have hk := askP_ok hv
    have h85 := c85 ts ms hv c now
    obtain ⟨b0, b1⟩ := bestS_eq (c := c) hv hn
    have hs := remL_sorted ts ms c now (ts.length + 1)
    have hok := fun l (hl : l ∈ remL ts ms c now (ts.length + 1)) => remL_short (ms := ms) (c := c) (now := now) hv.1 hl
    have hlen : (remL ts ms c now (ts.length + 1)).length ≤ 256 * 10 := by
      have := remT_len (ts := ts) (ms := ms) (c := c) (now := now) hv.1 (ts.length + 1) 0 (by have := hv.1; omega)
      rwa [remT_zero] at this
    rw [← b1]
    generalize remL ts ms c now (ts.length + 1) = L at *
    have hsp := bestS_spec ts L hs b0
    obtain ⟨l0, hl0⟩ := get_of b0
    have e0 : bestS ts L 0 = l0 := by simp [bestS, hl0]
    have b0' : (0 : Int) < L.length := by omega
    refine PC.body Try.func54 (by kernel_rfl) rfl (by simp [Try.f54]) rfl ?_
    simp only [Try.f54]
    intro hlen
    simp only [go_sem, List.length_map, and_true, true_and] at hlen
    refine CV.run ?_
    (repeat' (first | ((first | with_reducible refine vcG_split ?_ ?_ | with_reducible refine vcIf_split ?_ ?_ | with_reducible refine vcQ_split ?_ ?_ | with_reducible refine vcDG_split ?_ ?_) <;> intro hb <;> (try rw [hb]) <;> (try simp only [Bool.and_eq_true, Bool.or_eq_true, dtrue, dfalse, Bool.not_eq_true', Bool.not_eq_false', Bool.and_eq_false_iff, Bool.or_eq_false_iff, Bool.not_true, Bool.not_false] at hb) <;> (try simp only [within] at hb) <;> try (simp only [go_sem, hc, hn, hk, hl0, b0', encW])) | refine And.intro (by (first | exact trivial | (simp only [I64]; omega) | omega)) ?_ | (with_reducible rw [vc_draw_eq]; first | refine CV.draw (id := 1) [(0, 0), (0, 0), (0, 0), (0, 0), (0, 0), (0, 0), (0, 0), (0, 0), (0, 0)] mixed rfl (by kernel_rfl) ?_ | refine CV.draw (id := 9) [(0, 0), (0, 0), (0, 0), (0, 0), (0, 0), (0, 0), (0, 0), (0, 0), (0, 0), (0, 0)] mixed rfl (by kernel_rfl) ?_) | (first | (refine vcP_pure (c16 _) rfl ?_ ?_ ?_; (focus (first | rfl | ((simp only [go_sem, hc, hn, hk, hl0, b0', encW, AV.pureL, AV.pure, pureL_mapI, Bool.and_self]) <;> fail))); (focus (first | ((simp only [go_sem, hc, hn, hk, hl0, b0', encW]) <;> fail) | rfl))) | (refine dCallP_pure (c16 _) rfl ?_ ?_ ?_; (focus (first | rfl | ((simp only [go_sem, hc, hn, hk, hl0, b0', encW, AV.pureL, AV.pure, pureL_mapI, Bool.and_self]) <;> fail))); (focus (first | ((simp only [go_sem, hc, hn, hk, hl0, b0', encW]) <;> fail) | rfl))) | refine vcP_safe (c16 _) rfl rfl (by (simp only [go_sem, hc, hn, hk, hl0, b0', encW])) ?_ | refine dCallP_safe (c16 _) rfl rfl ?_ | (refine vcP_pure (c17 _) rfl ?_ ?_ ?_; (focus (first | rfl | ((simp only [go_sem, hc, hn, hk, hl0, b0', encW, AV.pureL, AV.pure, pureL_mapI, Bool.and_self]) <;> fail))); (focus (first | ((simp only [go_sem, hc, hn, hk, hl0, b0', encW]) <;> fail) | rfl))) | (refine dCallP_pure (c17 _) rfl ?_ ?_ ?_; (focus (first | rfl | ((simp only [go_sem, hc, hn, hk, hl0, b0', encW, AV.pureL, AV.pure, pureL_mapI, Bool.and_self]) <;> fail))); (focus (first | ((simp only [go_sem, hc, hn, hk, hl0, b0', encW]) <;> fail) | rfl))) | refine vcP_safe (c17 _) rfl rfl (by (simp only [go_sem, hc, hn, hk, hl0, b0', encW])) ?_ | refine dCallP_safe (c17 _) rfl rfl ?_ | (refine vcP_pure (c74p _ _ _) rfl ?_ ?_ ?_; (focus (first | rfl | ((simp only [go_sem, hc, hn, hk, hl0, b0', encW, AV.pureL, AV.pure, pureL_mapI, Bool.and_self]) <;> fail))); (focus (first | ((simp only [go_sem, hc, hn, hk, hl0, b0', encW]) <;> fail) | rfl))) | (refine dCallP_pure (c74p _ _ _) rfl ?_ ?_ ?_; (focus (first | rfl | ((simp only [go_sem, hc, hn, hk, hl0, b0', encW, AV.pureL, AV.pure, pureL_mapI, Bool.and_self]) <;> fail))); (focus (first | ((simp only [go_sem, hc, hn, hk, hl0, b0', encW]) <;> fail) | rfl))) | refine vcP_safe (c74p _ _ _) rfl rfl (by (simp only [go_sem, hc, hn, hk, hl0, b0', encW])) ?_ | refine dCallP_safe (c74p _ _ _) rfl rfl ?_ | (refine vcP_pure (h85) rfl ?_ ?_ ?_; (focus (first | rfl | ((simp only [go_sem, hc, hn, hk, hl0, b0', encW, AV.pureL, AV.pure, pureL_mapI, Bool.and_self]) <;> fail))); (focus (first | ((simp only [go_sem, hc, hn, hk, hl0, b0', encW]) <;> fail) | rfl))) | (refine dCallP_pure (h85) rfl ?_ ?_ ?_; (focus (first | rfl | ((simp only [go_sem, hc, hn, hk, hl0, b0', encW, AV.pureL, AV.pure, pureL_mapI, Bool.and_self]) <;> fail))); (focus (first | ((simp only [go_sem, hc, hn, hk, hl0, b0', encW]) <;> fail) | rfl))) | refine vcP_safe (h85) rfl rfl (by (simp only [go_sem, hc, hn, hk, hl0, b0', encW])) ?_ | refine dCallP_safe (h85) rfl rfl ?_) | (simp only [go_sem, hc, hn, hk, hl0, b0', encW])))
    refine vc_for (fun j => ⟨[(11, .int .i64 j), (10, lN (bestS ts L j)), (9, .lst false 1 (L.map encW)), (7, .int .i64 0), (6, .nilS), (3, .lp 0 0)], [.box 25 [.lst false 4 (ts.map encT), .lst false 3 (ms.map encM)] false]⟩) L.length (fun _ => True) (by (first | exact wk_same (by (simp only [go_sem, Int.natCast_add, Int.natCast_one, Int.natCast_zero, Int.cast_ofNat_Int, e0])) | exact wk_drop (by (simp only [go_sem, Int.natCast_add, Int.natCast_one, Int.natCast_zero, Int.cast_ofNat_Int, e0])) (by (simp only [go_sem, Int.natCast_add, Int.natCast_one, Int.natCast_zero, Int.cast_ofNat_Int, e0])) (by (simp only [go_sem, Int.natCast_add, Int.natCast_one, Int.natCast_zero, Int.cast_ofNat_Int, e0])) (by (simp only [go_sem, Int.natCast_add, Int.natCast_one, Int.natCast_zero, Int.cast_ofNat_Int, e0])) (by (simp only [go_sem, Int.natCast_add, Int.natCast_one, Int.natCast_zero, Int.cast_ofNat_Int, e0])))) trivial ?_
    intro j hj _
    rcases Nat.lt_or_ge j L.length with hlt | hge
    · obtain ⟨l, hl⟩ := get_of hlt
      have hlt' : (j : Int) < L.length := by omega
      obtain ⟨q, q1, _, _⟩ := hsp j hj
      obtain ⟨m1, m2⟩ := hok l (List.mem_of_getElem? hl)
      obtain ⟨m3, m4⟩ := hok _ (List.mem_of_getElem? q1)
      have h23 := c23 ts ms hv.things l m1 m2
      have g23 := c23 ts ms hv.things _ m3 m4
      by_cases hlt2 : costOf ts l < costOf ts (bestS ts L j)
      · have e : bestS ts L (j + 1) = l := by simp [bestS, hl, hlt2]
        (repeat' (first | ((first | with_reducible refine vcG_split ?_ ?_ | with_reducible refine vcIf_split ?_ ?_ | with_reducible refine vcQ_split ?_ ?_ | with_reducible refine vcDG_split ?_ ?_) <;> intro hb <;> (try rw [hb]) <;> (try simp only [Bool.and_eq_true, Bool.or_eq_true, dtrue, dfalse, Bool.not_eq_true', Bool.not_eq_false', Bool.and_eq_false_iff, Bool.or_eq_false_iff, Bool.not_true, Bool.not_false] at hb) <;> (try simp only [within] at hb) <;> try (simp only [go_sem, hlt', hl, encW, hlt2])) | refine And.intro (by (first | exact trivial | (simp only [I64]; omega) | omega)) ?_ | (with_reducible rw [vc_draw_eq]; first | refine CV.draw (id := 1) [(0, 0), (0, 0), (0, 0), (0, 0), (0, 0), (0, 0), (0, 0), (0, 0), (0, 0)] mixed rfl (by kernel_rfl) ?_ | refine CV.draw (id := 9) [(0, 0), (0, 0), (0, 0), (0, 0), (0, 0), (0, 0), (0, 0), (0, 0), (0, 0), (0, 0)] mixed rfl (by kernel_rfl) ?_) | (first | (refine vcP_pure (h23) rfl ?_ ?_ ?_; (focus (first | rfl | ((simp only [go_sem, hlt', hl, encW, hlt2, AV.pureL, AV.pure, pureL_mapI, Bool.and_self]) <;> fail))); (focus (first | ((simp only [go_sem, hlt', hl, encW, hlt2]) <;> fail) | rfl))) | (refine dCallP_pure (h23) rfl ?_ ?_ ?_; (focus (first | rfl | ((simp only [go_sem, hlt', hl, encW, hlt2, AV.pureL, AV.pure, pureL_mapI, Bool.and_self]) <;> fail))); (focus (first | ((simp only [go_sem, hlt', hl, encW, hlt2]) <;> fail) | rfl))) | refine vcP_safe (h23) rfl rfl (by (simp only [go_sem, hlt', hl, encW, hlt2])) ?_ | refine dCallP_safe (h23) rfl rfl ?_ | (refine vcP_pure (g23) rfl ?_ ?_ ?_; (focus (first | rfl | ((simp only [go_sem, hlt', hl, encW, hlt2, AV.pureL, AV.pure, pureL_mapI, Bool.and_self]) <;> fail))); (focus (first | ((simp only [go_sem, hlt', hl, encW, hlt2]) <;> fail) | rfl))) | (refine dCallP_pure (g23) rfl ?_ ?_ ?_; (focus (first | rfl | ((simp only [go_sem, hlt', hl, encW, hlt2, AV.pureL, AV.pure, pureL_mapI, Bool.and_self]) <;> fail))); (focus (first | ((simp only [go_sem, hlt', hl, encW, hlt2]) <;> fail) | rfl))) | refine vcP_safe (g23) rfl rfl (by (simp only [go_sem, hlt', hl, encW, hlt2])) ?_ | refine dCallP_safe (g23) rfl rfl ?_) | (simp only [go_sem, hlt', hl, encW, hlt2])))
        (first | exact wk_same (by (simp only [go_sem, Int.natCast_add, Int.natCast_one, Int.natCast_zero, Int.cast_ofNat_Int, e])) | exact wk_drop (by (simp only [go_sem, Int.natCast_add, Int.natCast_one, Int.natCast_zero, Int.cast_ofNat_Int, e])) (by (simp only [go_sem, Int.natCast_add, Int.natCast_one, Int.natCast_zero, Int.cast_ofNat_Int, e])) (by (simp only [go_sem, Int.natCast_add, Int.natCast_one, Int.natCast_zero, Int.cast_ofNat_Int, e])) (by (simp only [go_sem, Int.natCast_add, Int.natCast_one, Int.natCast_zero, Int.cast_ofNat_Int, e])) (by (simp only [go_sem, Int.natCast_add, Int.natCast_one, Int.natCast_zero, Int.cast_ofNat_Int, e])))
      · have e : bestS ts L (j + 1) = bestS ts L j := by simp [bestS, hl, hlt2]
        (repeat' (first | ((first | with_reducible refine vcG_split ?_ ?_ | with_reducible refine vcIf_split ?_ ?_ | with_reducible refine vcQ_split ?_ ?_ | with_reducible refine vcDG_split ?_ ?_) <;> intro hb <;> (try rw [hb]) <;> (try simp only [Bool.and_eq_true, Bool.or_eq_true, dtrue, dfalse, Bool.not_eq_true', Bool.not_eq_false', Bool.and_eq_false_iff, Bool.or_eq_false_iff, Bool.not_true, Bool.not_false] at hb) <;> (try simp only [within] at hb) <;> try (simp only [go_sem, hlt', hl, encW, hlt2])) | refine And.intro (by (first | exact trivial | (simp only [I64]; omega) | omega)) ?_ | (with_reducible rw [vc_draw_eq]; first | refine CV.draw (id := 1) [(0, 0), (0, 0), (0, 0), (0, 0), (0, 0), (0, 0), (0, 0), (0, 0), (0, 0)] mixed rfl (by kernel_rfl) ?_ | refine CV.draw (id := 9) [(0, 0), (0, 0), (0, 0), (0, 0), (0, 0), (0, 0), (0, 0), (0, 0), (0, 0), (0, 0)] mixed rfl (by kernel_rfl) ?_) | (first | (refine vcP_pure (h23) rfl ?_ ?_ ?_; (focus (first | rfl | ((simp only [go_sem, hlt', hl, encW, hlt2, AV.pureL, AV.pure, pureL_mapI, Bool.and_self]) <;> fail))); (focus (first | ((simp only [go_sem, hlt', hl, encW, hlt2]) <;> fail) | rfl))) | (refine dCallP_pure (h23) rfl ?_ ?_ ?_; (focus (first | rfl | ((simp only [go_sem, hlt', hl, encW, hlt2, AV.pureL, AV.pure, pureL_mapI, Bool.and_self]) <;> fail))); (focus (first | ((simp only [go_sem, hlt', hl, encW, hlt2]) <;> fail) | rfl))) | refine vcP_safe (h23) rfl rfl (by (simp only [go_sem, hlt', hl, encW, hlt2])) ?_ | refine dCallP_safe (h23) rfl rfl ?_ | (refine vcP_pure (g23) rfl ?_ ?_ ?_; (focus (first | rfl | ((simp only [go_sem, hlt', hl, encW, hlt2, AV.pureL, AV.pure, pureL_mapI, Bool.and_self]) <;> fail))); (focus (first | ((simp only [go_sem, hlt', hl, encW, hlt2]) <;> fail) | rfl))) | (refine dCallP_pure (g23) rfl ?_ ?_ ?_; (focus (first | rfl | ((simp only [go_sem, hlt', hl, encW, hlt2, AV.pureL, AV.pure, pureL_mapI, Bool.and_self]) <;> fail))); (focus (first | ((simp only [go_sem, hlt', hl, encW, hlt2]) <;> fail) | rfl))) | refine vcP_safe (g23) rfl rfl (by (simp only [go_sem, hlt', hl, encW, hlt2])) ?_ | refine dCallP_safe (g23) rfl rfl ?_) | (simp only [go_sem, hlt', hl, encW, hlt2])))
        (first | exact wk_same (by (simp only [go_sem, Int.natCast_add, Int.natCast_one, Int.natCast_zero, Int.cast_ofNat_Int, e])) | exact wk_drop (by (simp only [go_sem, Int.natCast_add, Int.natCast_one, Int.natCast_zero, Int.cast_ofNat_Int, e])) (by (simp only [go_sem, Int.natCast_add, Int.natCast_one, Int.natCast_zero, Int.cast_ofNat_Int, e])) (by (simp only [go_sem, Int.natCast_add, Int.natCast_one, Int.natCast_zero, Int.cast_ofNat_Int, e])) (by (simp only [go_sem, Int.natCast_add, Int.natCast_one, Int.natCast_zero, Int.cast_ofNat_Int, e])) (by (simp only [go_sem, Int.natCast_add, Int.natCast_one, Int.natCast_zero, Int.cast_ofNat_Int, e])))
    · have hge' : ¬ (j : Int) < L.length := by omega
      have : j = L.length := by omega
      subst this
      (repeat' (first | ((first | with_reducible refine vcG_split ?_ ?_ | with_reducible refine vcIf_split ?_ ?_ | with_reducible refine vcQ_split ?_ ?_ | with_reducible refine vcDG_split ?_ ?_) <;> intro hb <;> (try rw [hb]) <;> (try simp only [Bool.and_eq_true, Bool.or_eq_true, dtrue, dfalse, Bool.not_eq_true', Bool.not_eq_false', Bool.and_eq_false_iff, Bool.or_eq_false_iff, Bool.not_true, Bool.not_false] at hb) <;> (try simp only [within] at hb) <;> try (simp only [go_sem, hge'])) | refine And.intro (by (first | exact trivial | (simp only [I64]; omega) | omega)) ?_ | (with_reducible rw [vc_draw_eq]; first | refine CV.draw (id := 1) [(0, 0), (0, 0), (0, 0), (0, 0), (0, 0), (0, 0), (0, 0), (0, 0), (0, 0)] mixed rfl (by kernel_rfl) ?_ | refine CV.draw (id := 9) [(0, 0), (0, 0), (0, 0), (0, 0), (0, 0), (0, 0), (0, 0), (0, 0), (0, 0), (0, 0)] mixed rfl (by kernel_rfl) ?_) | fail | (simp only [go_sem, hge'])))
  · rw [show rRemedy ts ms c now = _ from answer_no hq]
    refine PC.body Try.func54 (by kernel_rfl) rfl (by simp [Try.f54]) rfl ?_
    simp only [Try.f54]
    intro hlen
    simp only [go_sem, List.length_map, and_true, true_and] at hlen
    refine CV.run ?_
    (repeat' (first | ((first | with_reducible refine vcG_split ?_ ?_ | with_reducible refine vcIf_split ?_ ?_ | with_reducible refine vcQ_split ?_ ?_ | with_reducible refine vcDG_split ?_ ?_) <;> intro hb <;> (try rw [hb]) <;> (try simp only [Bool.and_eq_true, Bool.or_eq_true, dtrue, dfalse, Bool.not_eq_true', Bool.not_eq_false', Bool.and_eq_false_iff, Bool.or_eq_false_iff, Bool.not_true, Bool.not_false] at hb) <;> (try simp only [within] at hb) <;> try (simp only [go_sem, dtrue])) | refine And.intro (by (first | exact trivial | (simp only [I64]; omega) | omega)) ?_ | (with_reducible rw [vc_draw_eq]; first | refine CV.draw (id := 1) [(0, 0), (0, 0), (0, 0), (0, 0), (0, 0), (0, 0), (0, 0), (0, 0), (0, 0)] mixed rfl (by kernel_rfl) ?_ | refine CV.draw (id := 9) [(0, 0), (0, 0), (0, 0), (0, 0), (0, 0), (0, 0), (0, 0), (0, 0), (0, 0), (0, 0)] mixed rfl (by kernel_rfl) ?_) | (first | (refine vcP_pure (c16 _) rfl ?_ ?_ ?_; (focus (first | rfl | ((simp only [go_sem, dtrue, AV.pureL, AV.pure, pureL_mapI, Bool.and_self]) <;> fail))); (focus (first | ((simp only [go_sem, dtrue]) <;> fail) | rfl))) | (refine dCallP_pure (c16 _) rfl ?_ ?_ ?_; (focus (first | rfl | ((simp only [go_sem, dtrue, AV.pureL, AV.pure, pureL_mapI, Bool.and_self]) <;> fail))); (focus (first | ((simp only [go_sem, dtrue]) <;> fail) | rfl))) | refine vcP_safe (c16 _) rfl rfl (by (simp only [go_sem, dtrue])) ?_ | refine dCallP_safe (c16 _) rfl rfl ?_ | (refine vcP_pure (c17 _) rfl ?_ ?_ ?_; (focus (first | rfl | ((simp only [go_sem, dtrue, AV.pureL, AV.pure, pureL_mapI, Bool.and_self]) <;> fail))); (focus (first | ((simp only [go_sem, dtrue]) <;> fail) | rfl))) | (refine dCallP_pure (c17 _) rfl ?_ ?_ ?_; (focus (first | rfl | ((simp only [go_sem, dtrue, AV.pureL, AV.pure, pureL_mapI, Bool.and_self]) <;> fail))); (focus (first | ((simp only [go_sem, dtrue]) <;> fail) | rfl))) | refine vcP_safe (c17 _) rfl rfl (by (simp only [go_sem, dtrue])) ?_ | refine dCallP_safe (c17 _) rfl rfl ?_ | (refine vcP_pure (c74p _ _ _) rfl ?_ ?_ ?_; (focus (first | rfl | ((simp only [go_sem, dtrue, AV.pureL, AV.pure, pureL_mapI, Bool.and_self]) <;> fail))); (focus (first | ((simp only [go_sem, dtrue]) <;> fail) | rfl))) | (refine dCallP_pure (c74p _ _ _) rfl ?_ ?_ ?_; (focus (first | rfl | ((simp only [go_sem, dtrue, AV.pureL, AV.pure, pureL_mapI, Bool.and_self]) <;> fail))); (focus (first | ((simp only [go_sem, dtrue]) <;> fail) | rfl))) | refine vcP_safe (c74p _ _ _) rfl rfl (by (simp only [go_sem, dtrue])) ?_ | refine dCallP_safe (c74p _ _ _) rfl rfl ?_) | (simp only [go_sem, dtrue])))
    all_goals first
      | exact askP_congr (by unfold within; first | omega | (constructor <;> intro h <;> first | exact h.elim | (exfalso; omega)))
      | (exfalso; obtain ⟨hv, hp⟩ := askP_0.1 hb; first | exact hp.elim | exact hq ⟨hv, by unfold within; omega⟩)
theorem c53 (ts : List Thing) (ms : List Mark) (c now : Int) : PC Try.prog 53 [hT ts ms, .int .i64 c, .int .i64 now] (.tup [.int .i64 (rCheap ts ms c now).1, .int .i64 (rCheap ts ms c now).2]) := by
  have h54 := c54 ts ms c now
  by_cases hq : valid ts ms ∧ within c 0 2 ∧ within now 0 99
  · obtain ⟨hv, hc, hn⟩ := id hq
    rw [show rCheap ts ms c now = _ from answer_yes hq]
    rw [show rRemedy ts ms c now = _ from answer_yes hq] at h54
    obtain ⟨r1, r2, _⟩ := best_all ts ms hv c now hn
    obtain ⟨m1, m2⟩ := remL_short (ms := ms) (c := c) (now := now) hv.1 ((remL_mem ts ms c now _).2 ⟨r1, r2⟩)
    have h23 := c23 ts ms hv.things _ m1 m2
    refine PC.body Try.func53 (by kernel_rfl) rfl (by simp [Try.f53]) rfl ?_
    simp only [Try.f53]
    intro hlen
    simp only [go_sem, List.length_map, and_true, true_and] at hlen
    refine CV.run ?_
    (repeat' (first | ((first | with_reducible refine vcG_split ?_ ?_ | with_reducible refine vcIf_split ?_ ?_ | with_reducible refine vcQ_split ?_ ?_ | with_reducible refine vcDG_split ?_ ?_) <;> intro hb <;> (try rw [hb]) <;> (try simp only [Bool.and_eq_true, Bool.or_eq_true, dtrue, dfalse, Bool.not_eq_true', Bool.not_eq_false', Bool.and_eq_false_iff, Bool.or_eq_false_iff, Bool.not_true, Bool.not_false] at hb) <;> (try simp only [within] at hb) <;> try (simp only [go_sem])) | refine And.intro (by (first | exact trivial | (simp only [I64]; omega) | omega)) ?_ | (first | (refine vcP_pure (h54) rfl ?_ ?_ ?_; (focus (first | rfl | ((simp only [go_sem, AV.pureL, AV.pure, pureL_mapI, Bool.and_self]) <;> fail))); (focus (first | ((simp only [go_sem]) <;> fail) | rfl))) | (refine dCallP_pure (h54) rfl ?_ ?_ ?_; (focus (first | rfl | ((simp only [go_sem, AV.pureL, AV.pure, pureL_mapI, Bool.and_self]) <;> fail))); (focus (first | ((simp only [go_sem]) <;> fail) | rfl))) | refine vcP_safe (h54) rfl rfl (by (simp only [go_sem])) ?_ | refine dCallP_safe (h54) rfl rfl ?_ | (refine vcP_pure (h23) rfl ?_ ?_ ?_; (focus (first | rfl | ((simp only [go_sem, AV.pureL, AV.pure, pureL_mapI, Bool.and_self]) <;> fail))); (focus (first | ((simp only [go_sem]) <;> fail) | rfl))) | (refine dCallP_pure (h23) rfl ?_ ?_ ?_; (focus (first | rfl | ((simp only [go_sem, AV.pureL, AV.pure, pureL_mapI, Bool.and_self]) <;> fail))); (focus (first | ((simp only [go_sem]) <;> fail) | rfl))) | refine vcP_safe (h23) rfl rfl (by (simp only [go_sem])) ?_ | refine dCallP_safe (h23) rfl rfl ?_) | (simp only [go_sem])))
  · rw [show rCheap ts ms c now = _ from answer_no hq]
    rw [show rRemedy ts ms c now = _ from answer_no hq] at h54
    have hne : ¬ askP ts ms (within c 0 2 ∧ within now 0 99) = 0 := fun h => hq (askP_0.1 h)
    refine PC.body Try.func53 (by kernel_rfl) rfl (by simp [Try.f53]) rfl ?_
    simp only [Try.f53]
    intro hlen
    simp only [go_sem, List.length_map, and_true, true_and] at hlen
    refine CV.run ?_
    (repeat' (first | ((first | with_reducible refine vcG_split ?_ ?_ | with_reducible refine vcIf_split ?_ ?_ | with_reducible refine vcQ_split ?_ ?_ | with_reducible refine vcDG_split ?_ ?_) <;> intro hb <;> (try rw [hb]) <;> (try simp only [Bool.and_eq_true, Bool.or_eq_true, dtrue, dfalse, Bool.not_eq_true', Bool.not_eq_false', Bool.and_eq_false_iff, Bool.or_eq_false_iff, Bool.not_true, Bool.not_false] at hb) <;> (try simp only [within] at hb) <;> try (simp only [go_sem, hne])) | refine And.intro (by (first | exact trivial | (simp only [I64]; omega) | omega)) ?_ | (first | (refine vcP_pure (h54) rfl ?_ ?_ ?_; (focus (first | rfl | ((simp only [go_sem, hne, AV.pureL, AV.pure, pureL_mapI, Bool.and_self]) <;> fail))); (focus (first | ((simp only [go_sem, hne]) <;> fail) | rfl))) | (refine dCallP_pure (h54) rfl ?_ ?_ ?_; (focus (first | rfl | ((simp only [go_sem, hne, AV.pureL, AV.pure, pureL_mapI, Bool.and_self]) <;> fail))); (focus (first | ((simp only [go_sem, hne]) <;> fail) | rfl))) | refine vcP_safe (h54) rfl rfl (by (simp only [go_sem, hne])) ?_ | refine dCallP_safe (h54) rfl rfl ?_) | (simp only [go_sem, hne])))
/-! ### Must -/
theorem cntK_L {ts : List Thing} {ms : List Mark} {c now : Int} {P : List Int → Prop} : cntK ts ms c now P (2 ^ ts.length) = 0 ↔ ∀ l, l ∈ remL ts ms c now (ts.length + 1) → ¬ P l := by
  constructor
  · intro h l hl hp
    obtain ⟨h1, h2⟩ := (remL_mem ts ms c now l).1 hl
    exact cntK_of h1 h2 hp h
  · intro h
    rw [cntK_pos]
    rintro ⟨j, _, h2, h3⟩
    exact h _ ((remL_mem ts ms c now _).2 ⟨sel_rising (bitOf j) ts.length, h2⟩) h3
noncomputable def nAll (ts : List Thing) (C : Int) (L : List (List Int)) : Int := (L.filter fun l => decide (¬ C < costOf ts l)).length
noncomputable def nSo (ts : List Thing) (C i : Int) (L : List (List Int)) : Int := (L.filter fun l => decide (isSo ts C i l)).length
theorem must_cnt {ts : List Thing} {ms : List Mark} (hv : valid ts ms) {c now i : Int} (hn : within now 0 99) :
    mustV ts ms c now i = if nSo ts (costOf ts (bestL ts ms c now)) i (remL ts ms c now (ts.length + 1)) = 0 then 2 else if nSo ts (costOf ts (bestL ts ms c now)) i (remL ts ms c now (ts.length + 1)) = nAll ts (costOf ts (bestL ts ms c now)) (remL ts ms c now (ts.length + 1)) then 1 else 3 := by
  obtain ⟨r1, r2, _⟩ := best_all ts ms hv c now hn
  have hm := (remL_mem ts ms c now _).2 ⟨r1, r2⟩
  unfold mustV
  have hS := cntK_L (ts := ts) (ms := ms) (c := c) (now := now) (P := isSo ts (costOf ts (bestL ts ms c now)) i)
  have hN := cntK_L (ts := ts) (ms := ms) (c := c) (now := now) (P := isNot ts (costOf ts (bestL ts ms c now)) i)
  generalize hCe : costOf ts (bestL ts ms c now) = C at *
  have hC : ¬ C < costOf ts (bestL ts ms c now) := by rw [hCe]; omega
  generalize remL ts ms c now (ts.length + 1) = L at *
  have e1 : nSo ts C i L = 0 ↔ ∀ l, l ∈ L → ¬ isSo ts C i l := by
    unfold nSo
    rw [show ((L.filter fun l => decide (isSo ts C i l)).length : Int) = 0 ↔ (L.filter fun l => decide (isSo ts C i l)) = [] from ⟨fun h => List.eq_nil_of_length_eq_zero (by omega), fun h => by rw [h]; rfl⟩, List.filter_eq_nil_iff]
    simp
  have e2 : nSo ts C i L = nAll ts C L ↔ ∀ l, l ∈ L → ¬ isNot ts C i l := by
    unfold nSo nAll
    have : (L.filter fun l => decide (isSo ts C i l)) = (L.filter fun l => decide (¬ C < costOf ts l)).filter fun l => decide (i ∈ l) := by
      rw [List.filter_filter]
      exact List.filter_congr fun l _ => by unfold isSo; rw [Bool.eq_iff_iff]; simp [and_comm]
    rw [this, Int.ofNat_inj, List.length_filter_eq_length_iff]
    constructor
    · intro h l hl hx
      have := h l (List.mem_filter.2 ⟨hl, decide_eq_true hx.1⟩)
      exact hx.2 (of_decide_eq_true this)
    · intro h l hl
      obtain ⟨h1, h2⟩ := List.mem_filter.1 hl
      exact decide_eq_true (Classical.byContradiction fun q => h l h1 ⟨of_decide_eq_true h2, q⟩)
  by_cases hA : ∀ l, l ∈ L → ¬ isNot ts C i l
  · rw [if_pos (hN.2 hA)]
    have hso : ¬ ∀ l, l ∈ L → ¬ isSo ts C i l := fun h => by
      have h1 := h _ hm
      have h2 := hA _ hm
      exact h1 ⟨hC, Classical.byContradiction fun q => h2 ⟨hC, q⟩⟩
    rw [if_neg (fun h => hso (e1.1 h)), if_pos (e2.2 hA)]
  · rw [if_neg (fun h => hA (hN.1 h))]
    by_cases hB : ∀ l, l ∈ L → ¬ isSo ts C i l
    · rw [if_pos (hS.2 hB), if_pos (e1.2 hB)]
    · rw [if_neg (fun h => hB (hS.1 h)), if_neg (fun h => hB (e1.1 h)), if_neg (fun h => hA (e2.1 h))]
end Go.Proofs.Ytllmohmgakdbdaa
