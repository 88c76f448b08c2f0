/- Contracts of functions of the given program, without a condition beyond those that each theorem states; they lead to the given statement. -/
import Derived.Test.YtekdocalipchpaaV02s
set_option linter.unusedSimpArgs false
set_option linter.unusedVariables false
set_option maxRecDepth 100000
namespace Go.Proofs.Ytekdocalipchpaa
open Go Go.Fl
open Classical
theorem aW_exS : aW exS = [[8, 9, 2, 4], [6, 9, 2, 6], [12, 7, 2, 3]] := by decide +kernel
theorem aW_exT : aW exT = [[8, 9, 2, 4], [6, 9, 2, 6], [12, 7, 2, 3]] := by decide +kernel
theorem kn_exS : kn exS True = 0 := kn0.2 ⟨exS_valid, trivial, by rw [aW_exS]; simp⟩
theorem kn_exT : kn exT True = 0 := kn0.2 ⟨exT_valid, trivial, by rw [aW_exT]; simp⟩
theorem w33 : PC Try.prog 33 [exR, .int .i64 0] (.tup [.agg [.int .i64 3, .int .i64 9], .int .i64 0]) := by
  have h := PC.lo (args := [exR, .int .i64 0]) (c33 exS 0) rfl
  have e : rLeft exS 0 = ((3, 9), 0) := by
    rw [show rLeft exS 0 = _ from ans_yes (kn0.2 ⟨exS_valid, ⟨by decide, by decide⟩, by rw [aW_exS]; simp⟩), lo, hi_def, aW_exS]
    decide +kernel
  rw [e] at h; exact h
theorem w36 : PC Try.prog 36 [exR, .int .i64 0] (.tup [.int .i64 5, .int .i64 0]) := by
  have h := PC.lo (args := [exR, .int .i64 0]) (c36 exS 0) rfl
  have e : rSure exS 0 = (5, 0) := by
    rw [show rSure exS 0 = _ from ans_yes (kn0.2 ⟨exS_valid, ⟨by decide, by decide⟩, by rw [aW_exS]; simp⟩)]
    decide +kernel
  rw [e] at h; exact h
theorem w38 : PC Try.prog 38 [hS exT] (.tup [.int .i64 1, .int .i64 0]) := by
  have h := c38 exT
  have e : rNew exT = (1, 0) := by
    rw [show rNew exT = _ from ans_yes kn_exT]
    decide +kernel
  rw [e] at h; exact h
theorem w47 : PC Try.prog 47 [exR, .lst false 1 [[.int .i64 5], [.int .i64 3], [.int .i64 0], [.int .i64 3]]] (.tup [.agg [.int .i64 1, .int .i64 3], .int .i64 0]) := by
  have h := PC.lo (args := [exR, .lst false 1 [[.int .i64 5], [.int .i64 3], [.int .i64 0], [.int .i64 3]]]) (c47 exS [5, 3, 0, 3]) rfl
  have e : rChance exS [5, 3, 0, 3] = ((1, 3), 0) := by
    rw [show rChance exS [5, 3, 0, 3] = _ from ans_yes (kn0.2 ⟨exS_valid, by decide +kernel, by rw [aW_exS]; simp⟩)]
    decide +kernel
  rw [e] at h; exact h
theorem w23 : PC Try.prog 23 [exR] (.tup [lN [3, 2, 0, 3], .int .i64 0]) := by
  have h := PC.lo (args := [exR]) (c23 exS) rfl
  have e : rDivide exS = ([3, 2, 0, 3], 0) := by
    rw [show rDivide exS = _ from if_pos kn_exS]
    decide +kernel
  rw [e] at h; exact h
theorem w24 : PC Try.prog 24 [hS exT] (.tup [lN [2, 4, 0, 3], .int .i64 0]) := by
  have h := c24 exT
  have e : rBold exT = ([2, 4, 0, 3], 0) := by
    rw [show rBold exT = _ from if_pos kn_exT]
    decide +kernel
  rw [e] at h; exact h
set_option maxHeartbeats 1000000 in
theorem c17 : PC Try.prog 17 [] (.bool true) := by
  have h69 := c69
  have h33 := w33
  have h36 := w36
  have h47 := w47
  have h23 := w23
  have h1 := c49 [3, 2, 0, 3] [3, 2, 0, 3]
  have h2 := c49 [2, 4, 0, 3] [2, 4, 0, 3]
  have h38 := w38
  have h24 := w24
  simp only [exR] at h69 h33 h36 h47 h23
  rw [decide_eq_true rfl] at h1 h2
  simp only [hS, cS, lN, exT, encD, encW, encN, List.map_cons, List.map_nil] at h69 h38 h24
  simp only [lN, encN, List.map_cons, List.map_nil] at h23 h24 h1 h2
  refine PC.body Try.func17 (by kernel_rfl) rfl (by simp [Try.f17]) rfl ?_
  simp only [Try.f17]
  intro hlen
  simp only [go_sem, List.length_map, and_true, true_and] at hlen
  refine CV.run ?_
  (repeat' (first | ((first | with_reducible refine vcG_split ?_ ?_ | with_reducible refine vcIf_split ?_ ?_ | with_reducible refine vcQ_split ?_ ?_ | with_reducible refine vcDG_split ?_ ?_) <;> intro hb <;> (try rw [hb]) <;> (try simp only [Bool.and_eq_true, Bool.or_eq_true, dtrue, dfalse, Bool.not_eq_true', Bool.not_eq_false', Bool.and_eq_false_iff, Bool.or_eq_false_iff, Bool.not_true, Bool.not_false] at hb) <;> (try simp only [within] at hb) <;> try (simp only [go_sem])) | refine And.intro (by (first | exact trivial | (simp only [I64]; omega) | omega)) ?_ | (first | (refine vcP_pure (h69) rfl ?_ ?_ ?_; (focus (first | rfl | ((simp only [go_sem, AV.pureL, AV.pure, pureL_mapI, Bool.and_self]) <;> fail))); (focus (first | ((simp only [go_sem]) <;> fail) | rfl))) | (refine dCallP_pure (h69) rfl ?_ ?_ ?_; (focus (first | rfl | ((simp only [go_sem, AV.pureL, AV.pure, pureL_mapI, Bool.and_self]) <;> fail))); (focus (first | ((simp only [go_sem]) <;> fail) | rfl))) | (refine dCallC_pure (h69) rfl ?_ ?_ ?_; (focus (first | rfl | ((simp only [go_sem, AV.pureL, AV.pure, pureL_mapI, Bool.and_self]) <;> fail))); (focus (first | ((simp only [go_sem]) <;> fail) | rfl))) | refine dCallC_safe (h69) rfl rfl (by (simp only [go_sem])) ?_ | refine vcP_safe (h69) rfl rfl (by (simp only [go_sem])) ?_ | refine dCallP_safe (h69) rfl rfl ?_ | (refine vcP_pure (h33) rfl ?_ ?_ ?_; (focus (first | rfl | ((simp only [go_sem, AV.pureL, AV.pure, pureL_mapI, Bool.and_self]) <;> fail))); (focus (first | ((simp only [go_sem]) <;> fail) | rfl))) | (refine dCallP_pure (h33) rfl ?_ ?_ ?_; (focus (first | rfl | ((simp only [go_sem, AV.pureL, AV.pure, pureL_mapI, Bool.and_self]) <;> fail))); (focus (first | ((simp only [go_sem]) <;> fail) | rfl))) | (refine dCallC_pure (h33) rfl ?_ ?_ ?_; (focus (first | rfl | ((simp only [go_sem, AV.pureL, AV.pure, pureL_mapI, Bool.and_self]) <;> fail))); (focus (first | ((simp only [go_sem]) <;> fail) | rfl))) | refine dCallC_safe (h33) rfl rfl (by (simp only [go_sem])) ?_ | refine vcP_safe (h33) rfl rfl (by (simp only [go_sem])) ?_ | refine dCallP_safe (h33) rfl rfl ?_ | (refine vcP_pure (h36) rfl ?_ ?_ ?_; (focus (first | rfl | ((simp only [go_sem, AV.pureL, AV.pure, pureL_mapI, Bool.and_self]) <;> fail))); (focus (first | ((simp only [go_sem]) <;> fail) | rfl))) | (refine dCallP_pure (h36) rfl ?_ ?_ ?_; (focus (first | rfl | ((simp only [go_sem, AV.pureL, AV.pure, pureL_mapI, Bool.and_self]) <;> fail))); (focus (first | ((simp only [go_sem]) <;> fail) | rfl))) | (refine dCallC_pure (h36) rfl ?_ ?_ ?_; (focus (first | rfl | ((simp only [go_sem, AV.pureL, AV.pure, pureL_mapI, Bool.and_self]) <;> fail))); (focus (first | ((simp only [go_sem]) <;> fail) | rfl))) | refine dCallC_safe (h36) rfl rfl (by (simp only [go_sem])) ?_ | refine vcP_safe (h36) rfl rfl (by (simp only [go_sem])) ?_ | refine dCallP_safe (h36) rfl rfl ?_ | (refine vcP_pure (h38) rfl ?_ ?_ ?_; (focus (first | rfl | ((simp only [go_sem, AV.pureL, AV.pure, pureL_mapI, Bool.and_self]) <;> fail))); (focus (first | ((simp only [go_sem]) <;> fail) | rfl))) | (refine dCallP_pure (h38) rfl ?_ ?_ ?_; (focus (first | rfl | ((simp only [go_sem, AV.pureL, AV.pure, pureL_mapI, Bool.and_self]) <;> fail))); (focus (first | ((simp only [go_sem]) <;> fail) | rfl))) | (refine dCallC_pure (h38) rfl ?_ ?_ ?_; (focus (first | rfl | ((simp only [go_sem, AV.pureL, AV.pure, pureL_mapI, Bool.and_self]) <;> fail))); (focus (first | ((simp only [go_sem]) <;> fail) | rfl))) | refine dCallC_safe (h38) rfl rfl (by (simp only [go_sem])) ?_ | refine vcP_safe (h38) rfl rfl (by (simp only [go_sem])) ?_ | refine dCallP_safe (h38) rfl rfl ?_ | (refine vcP_pure (h47) rfl ?_ ?_ ?_; (focus (first | rfl | ((simp only [go_sem, AV.pureL, AV.pure, pureL_mapI, Bool.and_self]) <;> fail))); (focus (first | ((simp only [go_sem]) <;> fail) | rfl))) | (refine dCallP_pure (h47) rfl ?_ ?_ ?_; (focus (first | rfl | ((simp only [go_sem, AV.pureL, AV.pure, pureL_mapI, Bool.and_self]) <;> fail))); (focus (first | ((simp only [go_sem]) <;> fail) | rfl))) | (refine dCallC_pure (h47) rfl ?_ ?_ ?_; (focus (first | rfl | ((simp only [go_sem, AV.pureL, AV.pure, pureL_mapI, Bool.and_self]) <;> fail))); (focus (first | ((simp only [go_sem]) <;> fail) | rfl))) | refine dCallC_safe (h47) rfl rfl (by (simp only [go_sem])) ?_ | refine vcP_safe (h47) rfl rfl (by (simp only [go_sem])) ?_ | refine dCallP_safe (h47) rfl rfl ?_ | (refine vcP_pure (h23) rfl ?_ ?_ ?_; (focus (first | rfl | ((simp only [go_sem, AV.pureL, AV.pure, pureL_mapI, Bool.and_self]) <;> fail))); (focus (first | ((simp only [go_sem]) <;> fail) | rfl))) | (refine dCallP_pure (h23) rfl ?_ ?_ ?_; (focus (first | rfl | ((simp only [go_sem, AV.pureL, AV.pure, pureL_mapI, Bool.and_self]) <;> fail))); (focus (first | ((simp only [go_sem]) <;> fail) | rfl))) | (refine dCallC_pure (h23) rfl ?_ ?_ ?_; (focus (first | rfl | ((simp only [go_sem, AV.pureL, AV.pure, pureL_mapI, Bool.and_self]) <;> fail))); (focus (first | ((simp only [go_sem]) <;> fail) | rfl))) | refine dCallC_safe (h23) rfl rfl (by (simp only [go_sem])) ?_ | refine vcP_safe (h23) rfl rfl (by (simp only [go_sem])) ?_ | refine dCallP_safe (h23) rfl rfl ?_ | (refine vcP_pure (h24) rfl ?_ ?_ ?_; (focus (first | rfl | ((simp only [go_sem, AV.pureL, AV.pure, pureL_mapI, Bool.and_self]) <;> fail))); (focus (first | ((simp only [go_sem]) <;> fail) | rfl))) | (refine dCallP_pure (h24) rfl ?_ ?_ ?_; (focus (first | rfl | ((simp only [go_sem, AV.pureL, AV.pure, pureL_mapI, Bool.and_self]) <;> fail))); (focus (first | ((simp only [go_sem]) <;> fail) | rfl))) | (refine dCallC_pure (h24) rfl ?_ ?_ ?_; (focus (first | rfl | ((simp only [go_sem, AV.pureL, AV.pure, pureL_mapI, Bool.and_self]) <;> fail))); (focus (first | ((simp only [go_sem]) <;> fail) | rfl))) | refine dCallC_safe (h24) rfl rfl (by (simp only [go_sem])) ?_ | refine vcP_safe (h24) rfl rfl (by (simp only [go_sem])) ?_ | refine dCallP_safe (h24) rfl rfl ?_ | (refine vcP_pure (h1) rfl ?_ ?_ ?_; (focus (first | rfl | ((simp only [go_sem, AV.pureL, AV.pure, pureL_mapI, Bool.and_self]) <;> fail))); (focus (first | ((simp only [go_sem]) <;> fail) | rfl))) | (refine dCallP_pure (h1) rfl ?_ ?_ ?_; (focus (first | rfl | ((simp only [go_sem, AV.pureL, AV.pure, pureL_mapI, Bool.and_self]) <;> fail))); (focus (first | ((simp only [go_sem]) <;> fail) | rfl))) | (refine dCallC_pure (h1) rfl ?_ ?_ ?_; (focus (first | rfl | ((simp only [go_sem, AV.pureL, AV.pure, pureL_mapI, Bool.and_self]) <;> fail))); (focus (first | ((simp only [go_sem]) <;> fail) | rfl))) | refine dCallC_safe (h1) rfl rfl (by (simp only [go_sem])) ?_ | refine vcP_safe (h1) rfl rfl (by (simp only [go_sem])) ?_ | refine dCallP_safe (h1) rfl rfl ?_ | (refine vcP_pure (h2) rfl ?_ ?_ ?_; (focus (first | rfl | ((simp only [go_sem, AV.pureL, AV.pure, pureL_mapI, Bool.and_self]) <;> fail))); (focus (first | ((simp only [go_sem]) <;> fail) | rfl))) | (refine dCallP_pure (h2) rfl ?_ ?_ ?_; (focus (first | rfl | ((simp only [go_sem, AV.pureL, AV.pure, pureL_mapI, Bool.and_self]) <;> fail))); (focus (first | ((simp only [go_sem]) <;> fail) | rfl))) | (refine dCallC_pure (h2) rfl ?_ ?_ ?_; (focus (first | rfl | ((simp only [go_sem, AV.pureL, AV.pure, pureL_mapI, Bool.and_self]) <;> fail))); (focus (first | ((simp only [go_sem]) <;> fail) | rfl))) | refine dCallC_safe (h2) rfl rfl (by (simp only [go_sem])) ?_ | refine vcP_safe (h2) rfl rfl (by (simp only [go_sem])) ?_ | refine dCallP_safe (h2) rfl rfl ?_) | (simp only [go_sem])))
  all_goals trace_state
end Go.Proofs.Ytekdocalipchpaa

