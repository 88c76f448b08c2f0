/- Contracts of functions of the given program, without a condition beyond those that each theorem states; they lead to the given statement. -/
import Derived.Test.YtllmohmgakdbdaaW10a
set_option linter.unusedSimpArgs false
set_option linter.unusedVariables false
set_option maxRecDepth 100000
namespace Go.Proofs.Ytllmohmgakdbdaa
open Go Go.Fl
open Classical
noncomputable def rSource (ts : List Thing) (ms : List Mark) (i c : Int) : Int × Int := answer ts ms (within i 0 (ts.length - 1) ∧ within c 0 2) 0 (if gv (sP ts ms c) i = 100 then (0, 3) else (srcOf ts ms c (i.toNat + 1) i, 0))
theorem c51 (ts : List Thing) (ms : List Mark) (i c : Int) : PC Try.prog 51 [hT ts ms, .int .i64 i, .int .i64 c] (.tup [.int .i64 (rSource ts ms i c).1, .int .i64 (rSource ts ms i c).2]) := by
  have h49 := c49 ts ms i c
  by_cases hq : valid ts ms ∧ within i 0 (ts.length - 1) ∧ within c 0 2
  · obtain ⟨hv, hi, hc⟩ := id hq
    rw [show rSource ts ms i c = _ from answer_yes hq]
    have hl := hv.1
    have hml := hv.2.1
    have hir : 0 ≤ i ∧ i < ts.length := by unfold within at hi; omega
    have hb0 := sv_bounds ts ms hv.things hv.marks hv.1 c i hir
    rw [rSince_gv hv hir hc] at h49
    by_cases hs : gv (sP ts ms c) i = 100
    · rw [if_pos hs] at h49 ⊢
      refine PC.body Try.func51 (by kernel_rfl) rfl (by simp [Try.f51]) rfl ?_
      simp only [Try.f51]
      intro hlen
      simp only [go_sem, List.length_map, and_true, true_and] at hlen
      refine CV.run ?_
      (repeat' (first | ((first | with_reducible refine vcG_split ?_ ?_ | with_reducible refine vcIf_split ?_ ?_ | with_reducible refine vcQ_split ?_ ?_ | with_reducible refine vcDG_split ?_ ?_) <;> intro hb <;> (try rw [hb]) <;> (try simp only [Bool.and_eq_true, Bool.or_eq_true, dtrue, dfalse, Bool.not_eq_true', Bool.not_eq_false', Bool.and_eq_false_iff, Bool.or_eq_false_iff, Bool.not_true, Bool.not_false] at hb) <;> (try simp only [within] at hb) <;> try (simp only [go_sem])) | refine And.intro (by (first | exact trivial | (simp only [I64]; omega) | omega)) ?_ | (first | (refine vcP_pure (h49) rfl ?_ ?_ ?_; (focus (first | rfl | ((simp only [go_sem, AV.pureL, AV.pure, pureL_mapI, Bool.and_self]) <;> fail))); (focus (first | ((simp only [go_sem]) <;> fail) | rfl))) | (refine dCallP_pure (h49) rfl ?_ ?_ ?_; (focus (first | rfl | ((simp only [go_sem, AV.pureL, AV.pure, pureL_mapI, Bool.and_self]) <;> fail))); (focus (first | ((simp only [go_sem]) <;> fail) | rfl))) | refine vcP_safe (h49) rfl rfl (by (simp only [go_sem])) ?_ | refine dCallP_safe (h49) rfl rfl ?_) | (simp only [go_sem])))
      all_goals (exfalso; omega)
    · rw [if_neg hs] at h49 ⊢
      have h84 := c84 ts ms hv.things hv.marks hl (by omega) c (i.toNat + 1) i hir.1 (by omega) hir.2 (by omega)
      refine PC.body Try.func51 (by kernel_rfl) rfl (by simp [Try.f51]) rfl ?_
      simp only [Try.f51]
      intro hlen
      simp only [go_sem, List.length_map, and_true, true_and] at hlen
      refine CV.run ?_
      (repeat' (first | ((first | with_reducible refine vcG_split ?_ ?_ | with_reducible refine vcIf_split ?_ ?_ | with_reducible refine vcQ_split ?_ ?_ | with_reducible refine vcDG_split ?_ ?_) <;> intro hb <;> (try rw [hb]) <;> (try simp only [Bool.and_eq_true, Bool.or_eq_true, dtrue, dfalse, Bool.not_eq_true', Bool.not_eq_false', Bool.and_eq_false_iff, Bool.or_eq_false_iff, Bool.not_true, Bool.not_false] at hb) <;> (try simp only [within] at hb) <;> try (simp only [go_sem])) | refine And.intro (by (first | exact trivial | (simp only [I64]; omega) | omega)) ?_ | (first | (refine vcP_pure (h49) rfl ?_ ?_ ?_; (focus (first | rfl | ((simp only [go_sem, AV.pureL, AV.pure, pureL_mapI, Bool.and_self]) <;> fail))); (focus (first | ((simp only [go_sem]) <;> fail) | rfl))) | (refine dCallP_pure (h49) rfl ?_ ?_ ?_; (focus (first | rfl | ((simp only [go_sem, AV.pureL, AV.pure, pureL_mapI, Bool.and_self]) <;> fail))); (focus (first | ((simp only [go_sem]) <;> fail) | rfl))) | refine vcP_safe (h49) rfl rfl (by (simp only [go_sem])) ?_ | refine dCallP_safe (h49) rfl rfl ?_ | (refine vcP_pure (h84) rfl ?_ ?_ ?_; (focus (first | rfl | ((simp only [go_sem, AV.pureL, AV.pure, pureL_mapI, Bool.and_self]) <;> fail))); (focus (first | ((simp only [go_sem]) <;> fail) | rfl))) | (refine dCallP_pure (h84) rfl ?_ ?_ ?_; (focus (first | rfl | ((simp only [go_sem, AV.pureL, AV.pure, pureL_mapI, Bool.and_self]) <;> fail))); (focus (first | ((simp only [go_sem]) <;> fail) | rfl))) | refine vcP_safe (h84) rfl rfl (by (simp only [go_sem])) ?_ | refine dCallP_safe (h84) rfl rfl ?_) | (simp only [go_sem])))
  · rw [show rSource ts ms i c = _ from answer_no hq]
    have hk : ¬ askP ts ms (within i 0 (ts.length - 1) ∧ within c 0 2) = 0 := fun h => hq (askP_0.1 h)
    rw [show rSince ts ms i c = _ from answer_no hq] at h49
    refine PC.body Try.func51 (by kernel_rfl) rfl (by simp [Try.f51]) rfl ?_
    simp only [Try.f51]
    intro hlen
    simp only [go_sem, List.length_map, and_true, true_and] at hlen
    refine CV.run ?_
    (repeat' (first | ((first | with_reducible refine vcG_split ?_ ?_ | with_reducible refine vcIf_split ?_ ?_ | with_reducible refine vcQ_split ?_ ?_ | with_reducible refine vcDG_split ?_ ?_) <;> intro hb <;> (try rw [hb]) <;> (try simp only [Bool.and_eq_true, Bool.or_eq_true, dtrue, dfalse, Bool.not_eq_true', Bool.not_eq_false', Bool.and_eq_false_iff, Bool.or_eq_false_iff, Bool.not_true, Bool.not_false] at hb) <;> (try simp only [within] at hb) <;> try (simp only [go_sem, hk])) | refine And.intro (by (first | exact trivial | (simp only [I64]; omega) | omega)) ?_ | (first | (refine vcP_pure (h49) rfl ?_ ?_ ?_; (focus (first | rfl | ((simp only [go_sem, hk, AV.pureL, AV.pure, pureL_mapI, Bool.and_self]) <;> fail))); (focus (first | ((simp only [go_sem, hk]) <;> fail) | rfl))) | (refine dCallP_pure (h49) rfl ?_ ?_ ?_; (focus (first | rfl | ((simp only [go_sem, hk, AV.pureL, AV.pure, pureL_mapI, Bool.and_self]) <;> fail))); (focus (first | ((simp only [go_sem, hk]) <;> fail) | rfl))) | refine vcP_safe (h49) rfl rfl (by (simp only [go_sem, hk])) ?_ | refine dCallP_safe (h49) rfl rfl ?_) | (simp only [go_sem, hk])))
theorem c50 (ts : List Thing) (ms : List Mark) (i c : Int) : PC Try.prog 50 [hT ts ms, .int .i64 i, .int .i64 c] (.tup [.int .i64 (rSource ts ms i c).1, .int .i64 (rSource ts ms i c).2]) := by
  have h48 := c48 ts ms i c
  by_cases hq : valid ts ms ∧ within i 0 (ts.length - 1) ∧ within c 0 2
  · obtain ⟨hv, hi, hc⟩ := id hq
    rw [show rSource ts ms i c = _ from answer_yes hq]
    have hl := hv.1
    have hml := hv.2.1
    have hir : 0 ≤ i ∧ i < ts.length := by unfold within at hi; omega
    have hb0 := sv_bounds ts ms hv.things hv.marks hv.1 c i hir
    have hi8 : 0 ≤ i ∧ i < 8 := by omega
    rw [rSince_gv hv hir hc] at h48
    by_cases hs : gv (sP ts ms c) i = 100
    · rw [if_pos hs] at h48 ⊢
      refine PC.body Try.func50 (by kernel_rfl) rfl (by simp [Try.f50]) rfl ?_
      simp only [Try.f50]
      intro hlen
      simp only [go_sem, List.length_map, and_true, true_and] at hlen
      refine CV.run ?_
      (repeat' (first | ((first | with_reducible refine vcG_split ?_ ?_ | with_reducible refine vcIf_split ?_ ?_ | with_reducible refine vcQ_split ?_ ?_ | with_reducible refine vcDG_split ?_ ?_) <;> intro hb <;> (try rw [hb]) <;> (try simp only [Bool.and_eq_true, Bool.or_eq_true, dtrue, dfalse, Bool.not_eq_true', Bool.not_eq_false', Bool.and_eq_false_iff, Bool.or_eq_false_iff, Bool.not_true, Bool.not_false] at hb) <;> (try simp only [within] at hb) <;> try (simp only [go_sem])) | refine And.intro (by (first | exact trivial | (simp only [I64]; omega) | omega)) ?_ | (first | (refine vcP_pure (h48) rfl ?_ ?_ ?_; (focus (first | rfl | ((simp only [go_sem, AV.pureL, AV.pure, pureL_mapI, Bool.and_self]) <;> fail))); (focus (first | ((simp only [go_sem]) <;> fail) | rfl))) | (refine dCallP_pure (h48) rfl ?_ ?_ ?_; (focus (first | rfl | ((simp only [go_sem, AV.pureL, AV.pure, pureL_mapI, Bool.and_self]) <;> fail))); (focus (first | ((simp only [go_sem]) <;> fail) | rfl))) | refine vcP_safe (h48) rfl rfl (by (simp only [go_sem])) ?_ | refine dCallP_safe (h48) rfl rfl ?_) | (simp only [go_sem])))
      all_goals (exfalso; omega)
    · rw [if_neg hs] at h48 ⊢
      obtain ⟨r1, k, m, r2, _⟩ := src_spec ts ms hv.things hv.marks hl c (i.toNat + 1) i.toNat (by omega) (by omega) (by rw [Int.toNat_of_nonneg hir.1]; omega)
      rw [Int.toNat_of_nonneg hir.1] at r1 r2
      rw [← r1]
      have hgs : (List.drop 8 ((sP ts ms c).map I ++ (bP ts ms c).map I))[i.toNat]? = some (.int .i64 (gv (bP ts ms c) i)) := by
        rw [drop_b (sP_len ts ms c), List.getElem?_map, gv_get (by rw [bP_len]; omega)]; rfl
      have hgs2 : ((bP ts ms c).map I)[i.toNat]? = some (.int .i64 (gv (bP ts ms c) i)) := by
        rw [List.getElem?_map, gv_get (by rw [bP_len]; omega)]; rfl
      refine PC.body Try.func50 (by kernel_rfl) rfl (by simp [Try.f50]) rfl ?_
      simp only [Try.f50]
      intro hlen
      simp only [go_sem, List.length_map, and_true, true_and] at hlen
      refine CV.run ?_
      (repeat' (first | ((first | with_reducible refine vcG_split ?_ ?_ | with_reducible refine vcIf_split ?_ ?_ | with_reducible refine vcQ_split ?_ ?_ | with_reducible refine vcDG_split ?_ ?_) <;> intro hb <;> (try rw [hb]) <;> (try simp only [Bool.and_eq_true, Bool.or_eq_true, dtrue, dfalse, Bool.not_eq_true', Bool.not_eq_false', Bool.and_eq_false_iff, Bool.or_eq_false_iff, Bool.not_true, Bool.not_false] at hb) <;> (try simp only [within] at hb) <;> try (simp only [go_sem, hgs, hgs2, hi8, drop_head, Nat.mul_one, pureL_I, frL_I, frzL_I])) | refine And.intro (by (first | exact trivial | (simp only [I64]; omega) | omega)) ?_ | (first | (refine vcP_pure (h48) rfl ?_ ?_ ?_; (focus (first | rfl | ((simp only [go_sem, hgs, hgs2, hi8, drop_head, Nat.mul_one, pureL_I, frL_I, frzL_I, AV.pureL, AV.pure, pureL_mapI, Bool.and_self]) <;> fail))); (focus (first | ((simp only [go_sem, hgs, hgs2, hi8, drop_head, Nat.mul_one, pureL_I, frL_I, frzL_I]) <;> fail) | rfl))) | (refine dCallP_pure (h48) rfl ?_ ?_ ?_; (focus (first | rfl | ((simp only [go_sem, hgs, hgs2, hi8, drop_head, Nat.mul_one, pureL_I, frL_I, frzL_I, AV.pureL, AV.pure, pureL_mapI, Bool.and_self]) <;> fail))); (focus (first | ((simp only [go_sem, hgs, hgs2, hi8, drop_head, Nat.mul_one, pureL_I, frL_I, frzL_I]) <;> fail) | rfl))) | refine vcP_safe (h48) rfl rfl (by (simp only [go_sem, hgs, hgs2, hi8, drop_head, Nat.mul_one, pureL_I, frL_I, frzL_I])) ?_ | refine dCallP_safe (h48) rfl rfl ?_ | (refine vcP_pure (c63 ts ms hv.things hv.1 _) rfl ?_ ?_ ?_; (focus (first | rfl | ((simp only [go_sem, hgs, hgs2, hi8, drop_head, Nat.mul_one, pureL_I, frL_I, frzL_I, AV.pureL, AV.pure, pureL_mapI, Bool.and_self]) <;> fail))); (focus (first | ((simp only [go_sem, hgs, hgs2, hi8, drop_head, Nat.mul_one, pureL_I, frL_I, frzL_I]) <;> fail) | rfl))) | (refine dCallP_pure (c63 ts ms hv.things hv.1 _) rfl ?_ ?_ ?_; (focus (first | rfl | ((simp only [go_sem, hgs, hgs2, hi8, drop_head, Nat.mul_one, pureL_I, frL_I, frzL_I, AV.pureL, AV.pure, pureL_mapI, Bool.and_self]) <;> fail))); (focus (first | ((simp only [go_sem, hgs, hgs2, hi8, drop_head, Nat.mul_one, pureL_I, frL_I, frzL_I]) <;> fail) | rfl))) | refine vcP_safe (c63 ts ms hv.things hv.1 _) rfl rfl (by (simp only [go_sem, hgs, hgs2, hi8, drop_head, Nat.mul_one, pureL_I, frL_I, frzL_I])) ?_ | refine dCallP_safe (c63 ts ms hv.things hv.1 _) rfl rfl ?_) | (simp only [go_sem, hgs, hgs2, hi8, drop_head, Nat.mul_one, pureL_I, frL_I, frzL_I])))
      all_goals omega
  · rw [show rSource ts ms i c = _ from answer_no hq]
    have hk : ¬ askP ts ms (within i 0 (ts.length - 1) ∧ within c 0 2) = 0 := fun h => hq (askP_0.1 h)
    rw [show rSince ts ms i c = _ from answer_no hq] at h48
    refine PC.body Try.func50 (by kernel_rfl) rfl (by simp [Try.f50]) rfl ?_
    simp only [Try.f50]
    intro hlen
    simp only [go_sem, List.length_map, and_true, true_and] at hlen
    refine CV.run ?_
    (repeat' (first | ((first | with_reducible refine vcG_split ?_ ?_ | with_reducible refine vcIf_split ?_ ?_ | with_reducible refine vcQ_split ?_ ?_ | with_reducible refine vcDG_split ?_ ?_) <;> intro hb <;> (try rw [hb]) <;> (try simp only [Bool.and_eq_true, Bool.or_eq_true, dtrue, dfalse, Bool.not_eq_true', Bool.not_eq_false', Bool.and_eq_false_iff, Bool.or_eq_false_iff, Bool.not_true, Bool.not_false] at hb) <;> (try simp only [within] at hb) <;> try (simp only [go_sem, hk])) | refine And.intro (by (first | exact trivial | (simp only [I64]; omega) | omega)) ?_ | (first | (refine vcP_pure (h48) rfl ?_ ?_ ?_; (focus (first | rfl | ((simp only [go_sem, hk, AV.pureL, AV.pure, pureL_mapI, Bool.and_self]) <;> fail))); (focus (first | ((simp only [go_sem, hk]) <;> fail) | rfl))) | (refine dCallP_pure (h48) rfl ?_ ?_ ?_; (focus (first | rfl | ((simp only [go_sem, hk, AV.pureL, AV.pure, pureL_mapI, Bool.and_self]) <;> fail))); (focus (first | ((simp only [go_sem, hk]) <;> fail) | rfl))) | refine vcP_safe (h48) rfl rfl (by (simp only [go_sem, hk])) ?_ | refine dCallP_safe (h48) rfl rfl ?_) | (simp only [go_sem, hk])))
end Go.Proofs.Ytllmohmgakdbdaa
