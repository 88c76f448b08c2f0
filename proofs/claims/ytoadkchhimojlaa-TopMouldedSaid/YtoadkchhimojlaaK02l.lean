/- Contracts of functions of the given program, without a condition beyond those that each theorem states; they lead to the given statement. -/
import Derived.Test.YtoadkchhimojlaaK02k
set_option linter.unusedSimpArgs false
set_option linter.unusedVariables false
set_option maxRecDepth 100000
namespace Go.Proofs.Ytoadkchhimojlaa.W2
open Go Go.Fl
open Classical
theorem o35t {s : Shop} (h : kn s True = 0) : PC Try.prog 35 [hS s, .bool true] (.tup [.pp (cX s), .int .i64 0]) := by
  have := o35 (i := instDecidableTrue) h
  rwa [decide_true] at this
theorem n35t {s : Shop} (h : ¬ kn s True = 0) : PC Try.prog 35 [hS s, .bool true] (.tup [.nilP, .int .i64 (kn s True)]) := by
  have := n35 (i := instDecidableTrue) h
  rwa [decide_true] at this
set_option maxHeartbeats 1000000 in
theorem c13 (s : Shop) : PC Try.prog 13 [hS s] (.tup [.int .i64 (rNew s).1, .int .i64 (rNew s).2]) := by
  by_cases hk : kn s True = 0
  · rw [show rNew s = _ from ans_yes hk]
    obtain ⟨hv, _, hne⟩ := kn0.1 hk
    have hf := hv.2.2.2.1
    unfold within at hf
    have h3 := hv.1
    refine PC.body Try.func13 (by kernel_rfl) rfl (by simp [Try.f13]) rfl ?_
    simp only [Try.f13]
    intro hlen
    simp only [go_sem, List.length_map, and_true, true_and] at hlen
    refine CV.run ?_
    (repeat' (first | ((first | with_reducible refine vcG_split ?_ ?_ | with_reducible refine vcIf_split ?_ ?_ | with_reducible refine vcQ_split ?_ ?_ | with_reducible refine vcDG_split ?_ ?_) <;> intro hb <;> (try rw [hb]) <;> (try simp only [Bool.and_eq_true, Bool.or_eq_true, dtrue, dfalse, Bool.not_eq_true', Bool.not_eq_false', Bool.and_eq_false_iff, Bool.or_eq_false_iff, Bool.not_true, Bool.not_false] at hb) <;> (try simp only [within] at hb) <;> try (simp only [go_sem, hk])) | refine And.intro (by (first | exact trivial | (simp only [I64]; omega) | omega)) ?_ | (with_reducible rw [vc_draw_eq]; first | refine CV.draw (id := 8) [(0, 0), (0, 0), (0, 0), (0, 0), (0, 0), (0, 0), (0, 0), (0, 0), (0, 0), (0, 0), (0, 0), (0, 0), (0, 0), (0, 0), (0, 0), (0, 0)] mixed rfl (by kernel_rfl) ?_) | (first | (refine vcP_pure (o35t hk) rfl ?_ ?_ ?_; (focus (first | rfl | ((simp only [go_sem, hk, AV.pureL, AV.pure, pureL_mapI, Bool.and_self]) <;> fail))); (focus (first | ((simp only [go_sem, hk]) <;> fail) | rfl))) | (refine dCallP_pure (o35t hk) rfl ?_ ?_ ?_; (focus (first | rfl | ((simp only [go_sem, hk, AV.pureL, AV.pure, pureL_mapI, Bool.and_self]) <;> fail))); (focus (first | ((simp only [go_sem, hk]) <;> fail) | rfl))) | (refine dCallC_pure (o35t hk) rfl ?_ ?_ ?_; (focus (first | rfl | ((simp only [go_sem, hk, AV.pureL, AV.pure, pureL_mapI, Bool.and_self]) <;> fail))); (focus (first | ((simp only [go_sem, hk]) <;> fail) | rfl))) | refine dCallC_safe (o35t hk) rfl rfl (by (simp only [go_sem, hk])) ?_ | refine vcP_safe (o35t hk) rfl rfl (by (simp only [go_sem, hk])) ?_ | refine dCallP_safe (o35t hk) rfl rfl ?_) | (simp only [go_sem, hk])))
    refine vc_for (fun j => ⟨[(20, .int .i64 j), (19, .int .i64 s.wt.length), (18, lN s.wt), (6, .int .i64 (neT s j)), (4, .pp (cX s)), (2, .int .i64 0), (3, .int .i64 0), (1, .lp 0 0)], [.box 26 (cS s) false]⟩) s.wt.length (fun j => True) (by (first | exact wk_same (by (simp only [go_sem, Int.natCast_add, Int.natCast_one, Int.natCast_zero, Int.cast_ofNat_Int, neT])) | exact wk_drop (by (simp only [go_sem, Int.natCast_add, Int.natCast_one, Int.natCast_zero, Int.cast_ofNat_Int, neT])) (by (simp only [go_sem, Int.natCast_add, Int.natCast_one, Int.natCast_zero, Int.cast_ofNat_Int, neT])) (by (simp only [go_sem, Int.natCast_add, Int.natCast_one, Int.natCast_zero, Int.cast_ofNat_Int, neT])) (by (simp only [go_sem, Int.natCast_add, Int.natCast_one, Int.natCast_zero, Int.cast_ofNat_Int, neT])) (by (simp only [go_sem, Int.natCast_add, Int.natCast_one, Int.natCast_zero, Int.cast_ofNat_Int, neT])))) trivial ?_
    intro j hj _
    have hb := neT_bounds hv j
    rcases Nat.lt_or_ge j s.wt.length with hlt | hge
    · obtain ⟨w, hw⟩ := get_of hlt
      have hlt' : (j : Int) < s.wt.length := by omega
      have hwb := hv.want hw
      have hsb := sur_bounds hv (j : Int)
      have e1 : ne1 s j = (max 0 (w - sur s j) + s.fr - 1) / s.fr := by simp [ne1, hw]
      have hKb := ne1_bounds hv j
      have e : neT s (j + 1) = neT s j + (max 0 (w - sur s j) + s.fr - 1) / s.fr := by simp only [neT, e1]
      rw [e1] at hKb
      (repeat' (first | ((first | with_reducible refine vcG_split ?_ ?_ | with_reducible refine vcIf_split ?_ ?_ | with_reducible refine vcQ_split ?_ ?_ | with_reducible refine vcDG_split ?_ ?_) <;> intro hb <;> (try rw [hb]) <;> (try simp only [Bool.and_eq_true, Bool.or_eq_true, dtrue, dfalse, Bool.not_eq_true', Bool.not_eq_false', Bool.and_eq_false_iff, Bool.or_eq_false_iff, Bool.not_true, Bool.not_false] at hb) <;> (try simp only [within] at hb) <;> try (simp only [go_sem, hlt', hw, encN])) | refine And.intro (by (first | exact trivial | (simp only [I64]; omega) | omega)) ?_ | (with_reducible rw [vc_draw_eq]; first | refine CV.draw (id := 8) [(0, 0), (0, 0), (0, 0), (0, 0), (0, 0), (0, 0), (0, 0), (0, 0), (0, 0), (0, 0), (0, 0), (0, 0), (0, 0), (0, 0), (0, 0), (0, 0)] mixed rfl (by kernel_rfl) ?_) | (first | (refine vcP_pure (c36 s hv j) rfl ?_ ?_ ?_; (focus (first | rfl | ((simp only [go_sem, hlt', hw, encN, AV.pureL, AV.pure, pureL_mapI, Bool.and_self]) <;> fail))); (focus (first | ((simp only [go_sem, hlt', hw, encN]) <;> fail) | rfl))) | (refine dCallP_pure (c36 s hv j) rfl ?_ ?_ ?_; (focus (first | rfl | ((simp only [go_sem, hlt', hw, encN, AV.pureL, AV.pure, pureL_mapI, Bool.and_self]) <;> fail))); (focus (first | ((simp only [go_sem, hlt', hw, encN]) <;> fail) | rfl))) | (refine dCallC_pure (c36 s hv j) rfl ?_ ?_ ?_; (focus (first | rfl | ((simp only [go_sem, hlt', hw, encN, AV.pureL, AV.pure, pureL_mapI, Bool.and_self]) <;> fail))); (focus (first | ((simp only [go_sem, hlt', hw, encN]) <;> fail) | rfl))) | refine dCallC_safe (c36 s hv j) rfl rfl (by (simp only [go_sem, hlt', hw, encN])) ?_ | refine vcP_safe (c36 s hv j) rfl rfl (by (simp only [go_sem, hlt', hw, encN])) ?_ | refine dCallP_safe (c36 s hv j) rfl rfl ?_) | (simp only [go_sem, hlt', hw, encN])))
      all_goals first
        | (first | exact wk_same (by (simp only [go_sem, Int.natCast_add, Int.natCast_one, Int.natCast_zero, Int.cast_ofNat_Int, e])) | exact wk_drop (by (simp only [go_sem, Int.natCast_add, Int.natCast_one, Int.natCast_zero, Int.cast_ofNat_Int, e])) (by (simp only [go_sem, Int.natCast_add, Int.natCast_one, Int.natCast_zero, Int.cast_ofNat_Int, e])) (by (simp only [go_sem, Int.natCast_add, Int.natCast_one, Int.natCast_zero, Int.cast_ofNat_Int, e])) (by (simp only [go_sem, Int.natCast_add, Int.natCast_one, Int.natCast_zero, Int.cast_ofNat_Int, e])) (by (simp only [go_sem, Int.natCast_add, Int.natCast_one, Int.natCast_zero, Int.cast_ofNat_Int, e])))
        | omega
        | trace_state
    · have hge' : ¬ (j : Int) < s.wt.length := by omega
      have : j = s.wt.length := by omega
      subst this
      (repeat' (first | ((first | with_reducible refine vcG_split ?_ ?_ | with_reducible refine vcIf_split ?_ ?_ | with_reducible refine vcQ_split ?_ ?_ | with_reducible refine vcDG_split ?_ ?_) <;> intro hb <;> (try rw [hb]) <;> (try simp only [Bool.and_eq_true, Bool.or_eq_true, dtrue, dfalse, Bool.not_eq_true', Bool.not_eq_false', Bool.and_eq_false_iff, Bool.or_eq_false_iff, Bool.not_true, Bool.not_false] at hb) <;> (try simp only [within] at hb) <;> try (simp only [go_sem, hge', neN])) | refine And.intro (by (first | exact trivial | (simp only [I64]; omega) | omega)) ?_ | (with_reducible rw [vc_draw_eq]; first | refine CV.draw (id := 8) [(0, 0), (0, 0), (0, 0), (0, 0), (0, 0), (0, 0), (0, 0), (0, 0), (0, 0), (0, 0), (0, 0), (0, 0), (0, 0), (0, 0), (0, 0), (0, 0)] mixed rfl (by kernel_rfl) ?_) | (simp only [go_sem, hge', neN])))
  · rw [show rNew s = _ from ans_no hk]
    refine PC.body Try.func13 (by kernel_rfl) rfl (by simp [Try.f13]) rfl ?_
    simp only [Try.f13]
    intro hlen
    simp only [go_sem, List.length_map, and_true, true_and] at hlen
    refine CV.run ?_
    (repeat' (first | ((first | with_reducible refine vcG_split ?_ ?_ | with_reducible refine vcIf_split ?_ ?_ | with_reducible refine vcQ_split ?_ ?_ | with_reducible refine vcDG_split ?_ ?_) <;> intro hb <;> (try rw [hb]) <;> (try simp only [Bool.and_eq_true, Bool.or_eq_true, dtrue, dfalse, Bool.not_eq_true', Bool.not_eq_false', Bool.and_eq_false_iff, Bool.or_eq_false_iff, Bool.not_true, Bool.not_false] at hb) <;> (try simp only [within] at hb) <;> try (simp only [go_sem, hk])) | refine And.intro (by (first | exact trivial | (simp only [I64]; omega) | omega)) ?_ | (with_reducible rw [vc_draw_eq]; first | refine CV.draw (id := 8) [(0, 0), (0, 0), (0, 0), (0, 0), (0, 0), (0, 0), (0, 0), (0, 0), (0, 0), (0, 0), (0, 0), (0, 0), (0, 0), (0, 0), (0, 0), (0, 0)] mixed rfl (by kernel_rfl) ?_) | (first | (refine vcP_pure (n35t hk) rfl ?_ ?_ ?_; (focus (first | rfl | ((simp only [go_sem, hk, AV.pureL, AV.pure, pureL_mapI, Bool.and_self]) <;> fail))); (focus (first | ((simp only [go_sem, hk]) <;> fail) | rfl))) | (refine dCallP_pure (n35t hk) rfl ?_ ?_ ?_; (focus (first | rfl | ((simp only [go_sem, hk, AV.pureL, AV.pure, pureL_mapI, Bool.and_self]) <;> fail))); (focus (first | ((simp only [go_sem, hk]) <;> fail) | rfl))) | (refine dCallC_pure (n35t hk) rfl ?_ ?_ ?_; (focus (first | rfl | ((simp only [go_sem, hk, AV.pureL, AV.pure, pureL_mapI, Bool.and_self]) <;> fail))); (focus (first | ((simp only [go_sem, hk]) <;> fail) | rfl))) | refine dCallC_safe (n35t hk) rfl rfl (by (simp only [go_sem, hk])) ?_ | refine vcP_safe (n35t hk) rfl rfl (by (simp only [go_sem, hk])) ?_ | refine dCallP_safe (n35t hk) rfl rfl ?_) | (simp only [go_sem, hk])))
end Go.Proofs.Ytoadkchhimojlaa.W2

