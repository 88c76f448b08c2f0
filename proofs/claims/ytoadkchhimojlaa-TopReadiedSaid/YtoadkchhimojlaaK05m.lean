/- Contracts of functions of the given program, without a condition beyond those that each theorem states; they lead to the given statement. -/
import Derived.Test.YtoadkchhimojlaaK05l
set_option linter.unusedSimpArgs false
set_option linter.unusedVariables false
set_option maxRecDepth 100000
namespace Go.Proofs.Ytoadkchhimojlaa.W5
open Go Go.Fl
open Classical
set_option maxHeartbeats 1000000 in
theorem h76 (s : List Job) (hv : valid s) (l : List Int) (hl : l.length ≤ 19) (hon : onJ s l) : HCH Try.prog 76 [.row 3 l.length, .int .i64 l.length, .fn 49 [.lp 2 0]] (H59 s l) fun r H' => r = .tup [] ∧ H' = H59 s (outT s l (l.length - 1)) := by
  have h20 : ¬ (20 : Int) ≤ l.length := by omega
  have h20' : ¬ (20 : Int) < l.length := by omega
  refine HCH.body Try.func76 (by kernel_rfl) rfl (by simp [Try.f76]) ?_
  simp only [Try.f76]
  refine CV.run ?_
  (repeat' (first | ((first | with_reducible refine vcG_split ?_ ?_ | with_reducible refine vcIf_split ?_ ?_ | with_reducible refine vcQ_split ?_ ?_ | with_reducible refine vcDG_split ?_ ?_) <;> intro hb <;> (try rw [hb]) <;> (try simp only [Bool.and_eq_true, Bool.or_eq_true, dtrue, dfalse, Bool.not_eq_true', Bool.not_eq_false', Bool.and_eq_false_iff, Bool.or_eq_false_iff, Bool.not_true, Bool.not_false] at hb) <;> (try simp only [within] at hb) <;> try (simp only [go_sem, argEnv])) | refine And.intro (by (first | exact trivial | (simp only [I64]; omega) | omega)) ?_ | (simp only [go_sem, argEnv])))
  refine vc_for (fun _ => ⟨[(0, .row 3 l.length), (1, .int .i64 l.length), (2, .fn 49 [.lp 2 0]), (6, .int .i64 20), (7, .int .i64 0), (8, .int .i64 20)], H59 s l⟩) 0 (fun _ => True) (by (first | exact wk_same (by (simp only [go_sem, Int.natCast_add, Int.natCast_one, Int.natCast_zero, Int.cast_ofNat_Int])) | exact wk_drop (by (simp only [go_sem, Int.natCast_add, Int.natCast_one, Int.natCast_zero, Int.cast_ofNat_Int])) (by (simp only [go_sem, Int.natCast_add, Int.natCast_one, Int.natCast_zero, Int.cast_ofNat_Int])) (by (simp only [go_sem, Int.natCast_add, Int.natCast_one, Int.natCast_zero, Int.cast_ofNat_Int])) (by (simp only [go_sem, Int.natCast_add, Int.natCast_one, Int.natCast_zero, Int.cast_ofNat_Int])) (by (simp only [go_sem, Int.natCast_add, Int.natCast_one, Int.natCast_zero, Int.cast_ofNat_Int])))) trivial ?_
  intro k hk _
  (repeat' (first | ((first | with_reducible refine vcG_split ?_ ?_ | with_reducible refine vcIf_split ?_ ?_ | with_reducible refine vcQ_split ?_ ?_ | with_reducible refine vcDG_split ?_ ?_) <;> intro hb <;> (try rw [hb]) <;> (try simp only [Bool.and_eq_true, Bool.or_eq_true, dtrue, dfalse, Bool.not_eq_true', Bool.not_eq_false', Bool.and_eq_false_iff, Bool.or_eq_false_iff, Bool.not_true, Bool.not_false] at hb) <;> (try simp only [within] at hb) <;> try (simp only [go_sem, h20])) | refine And.intro (by (first | exact trivial | (simp only [I64]; omega) | omega)) ?_ | (simp only [go_sem, h20])))
  refine vcP_here (h101 s hv l (by omega) hon) ?_
  rintro r H' ⟨rfl, rfl⟩
  (repeat' (first | ((first | with_reducible refine vcG_split ?_ ?_ | with_reducible refine vcIf_split ?_ ?_ | with_reducible refine vcQ_split ?_ ?_ | with_reducible refine vcDG_split ?_ ?_) <;> intro hb <;> (try rw [hb]) <;> (try simp only [Bool.and_eq_true, Bool.or_eq_true, dtrue, dfalse, Bool.not_eq_true', Bool.not_eq_false', Bool.and_eq_false_iff, Bool.or_eq_false_iff, Bool.not_true, Bool.not_false] at hb) <;> (try simp only [within] at hb) <;> try (simp only [go_sem])) | refine And.intro (by (first | exact trivial | (simp only [I64]; omega) | omega)) ?_ | (simp only [go_sem])))
  refine vc_for (fun _ => ⟨[(0, .row 3 l.length), (1, .int .i64 l.length), (2, .fn 49 [.lp 2 0]), (6, .int .i64 20), (7, .int .i64 0), (8, .int .i64 20)], H59 s (outT s l (l.length - 1))⟩) 0 (fun _ => True) (by (first | exact wk_same (by (simp only [go_sem, Int.natCast_add, Int.natCast_one, Int.natCast_zero, Int.cast_ofNat_Int])) | exact wk_drop (by (simp only [go_sem, Int.natCast_add, Int.natCast_one, Int.natCast_zero, Int.cast_ofNat_Int])) (by (simp only [go_sem, Int.natCast_add, Int.natCast_one, Int.natCast_zero, Int.cast_ofNat_Int])) (by (simp only [go_sem, Int.natCast_add, Int.natCast_one, Int.natCast_zero, Int.cast_ofNat_Int])) (by (simp only [go_sem, Int.natCast_add, Int.natCast_one, Int.natCast_zero, Int.cast_ofNat_Int])) (by (simp only [go_sem, Int.natCast_add, Int.natCast_one, Int.natCast_zero, Int.cast_ofNat_Int])))) trivial ?_
  intro k hk _
  (repeat' (first | ((first | with_reducible refine vcG_split ?_ ?_ | with_reducible refine vcIf_split ?_ ?_ | with_reducible refine vcQ_split ?_ ?_ | with_reducible refine vcDG_split ?_ ?_) <;> intro hb <;> (try rw [hb]) <;> (try simp only [Bool.and_eq_true, Bool.or_eq_true, dtrue, dfalse, Bool.not_eq_true', Bool.not_eq_false', Bool.and_eq_false_iff, Bool.or_eq_false_iff, Bool.not_true, Bool.not_false] at hb) <;> (try simp only [within] at hb) <;> try (simp only [go_sem, h20'])) | refine And.intro (by (first | exact trivial | (simp only [I64]; omega) | omega)) ?_ | (simp only [go_sem, h20'])))
theorem h48 (s : List Job) (hv : valid s) (l : List Int) (hl : l.length ≤ 19) (hon : onJ s l) : HCH Try.prog 48 [.row 3 l.length, .fn 49 [.lp 2 0]] (H59 s l) fun r H' => r = .tup [] ∧ H' = H59 s (outT s l (l.length - 1)) := by
  refine HCH.body Try.func48 (by kernel_rfl) rfl (by simp [Try.f48]) ?_
  simp only [Try.f48]
  refine CV.run ?_
  (repeat' (first | ((first | with_reducible refine vcG_split ?_ ?_ | with_reducible refine vcIf_split ?_ ?_ | with_reducible refine vcQ_split ?_ ?_ | with_reducible refine vcDG_split ?_ ?_) <;> intro hb <;> (try rw [hb]) <;> (try simp only [Bool.and_eq_true, Bool.or_eq_true, dtrue, dfalse, Bool.not_eq_true', Bool.not_eq_false', Bool.and_eq_false_iff, Bool.or_eq_false_iff, Bool.not_true, Bool.not_false] at hb) <;> (try simp only [within] at hb) <;> try (simp only [go_sem, argEnv])) | refine And.intro (by (first | exact trivial | (simp only [I64]; omega) | omega)) ?_ | (simp only [go_sem, argEnv])))
  refine vcP_here (h76 s hv l hl hon) ?_
  rintro r H' ⟨rfl, rfl⟩
  (repeat' (first | ((first | with_reducible refine vcG_split ?_ ?_ | with_reducible refine vcIf_split ?_ ?_ | with_reducible refine vcQ_split ?_ ?_ | with_reducible refine vcDG_split ?_ ?_) <;> intro hb <;> (try rw [hb]) <;> (try simp only [Bool.and_eq_true, Bool.or_eq_true, dtrue, dfalse, Bool.not_eq_true', Bool.not_eq_false', Bool.and_eq_false_iff, Bool.or_eq_false_iff, Bool.not_true, Bool.not_false] at hb) <;> (try simp only [within] at hb) <;> try (simp only [go_sem])) | refine And.intro (by (first | exact trivial | (simp only [I64]; omega) | omega)) ?_ | (simp only [go_sem])))
def upI (n : Nat) : List Int := (List.range n).map fun (i : Nat) => (i : Int)
theorem upI_zero : upI 0 = [] := rfl
theorem upI_succ {n : Nat} : upI (n + 1) = upI n ++ [(n : Int)] := by simp [upI, List.range_succ]
theorem upI_len {n : Nat} : (upI n).length = n := by simp [upI]
theorem upI_on {s : List Job} {n : Nat} (h : n ≤ s.length) : onJ s (upI n) := fun x hx => by
  unfold upI at hx
  obtain ⟨i, hi, rfl⟩ := List.mem_map.1 hx
  have := List.mem_range.1 hi
  unfold within; omega
def ruleV (s : List Job) : List Int := outT s (upI s.length) (s.length - 1)
set_option maxHeartbeats 1000000 in
theorem c19 (s : List Job) : PC Try.prog 19 [hS s] (.tup [lN (if check s = 0 then ruleV s else []), .int .i64 (check s)]) := by
  by_cases hv : valid s
  · have hc := check_yes hv
    have h6 := hv.1
    have h48' := h48 s hv (upI s.length) (by rw [upI_len]; omega) (upI_on (Nat.le_refl _))
    rw [upI_len] at h48'
    have hrl : (ruleV s).length = s.length := by unfold ruleV; rw [outT_len, upI_len]
    rw [hc, if_pos rfl]
    refine PC.body Try.func19 (by kernel_rfl) rfl (by simp [Try.f19]) rfl ?_
    simp only [Try.f19]
    intro hlen
    simp only [go_sem, List.length_map, and_true, true_and] at hlen
    refine CV.run ?_
    (repeat' (first | ((first | with_reducible refine vcG_split ?_ ?_ | with_reducible refine vcIf_split ?_ ?_ | with_reducible refine vcQ_split ?_ ?_ | with_reducible refine vcDG_split ?_ ?_) <;> intro hb <;> (try rw [hb]) <;> (try simp only [Bool.and_eq_true, Bool.or_eq_true, dtrue, dfalse, Bool.not_eq_true', Bool.not_eq_false', Bool.and_eq_false_iff, Bool.or_eq_false_iff, Bool.not_true, Bool.not_false] at hb) <;> (try simp only [within] at hb) <;> try (simp only [go_sem, hc])) | refine And.intro (by (first | exact trivial | (simp only [I64]; omega) | omega)) ?_ | (first | (refine vcP_pure (c46n _) rfl ?_ ?_ ?_; (focus (first | rfl | ((simp only [go_sem, hc, AV.pureL, AV.pure, pureL_mapI, Bool.and_self]) <;> fail))); (focus (first | ((simp only [go_sem, hc]) <;> fail) | rfl))) | (refine dCallP_pure (c46n _) rfl ?_ ?_ ?_; (focus (first | rfl | ((simp only [go_sem, hc, AV.pureL, AV.pure, pureL_mapI, Bool.and_self]) <;> fail))); (focus (first | ((simp only [go_sem, hc]) <;> fail) | rfl))) | (refine dCallC_pure (c46n _) rfl ?_ ?_ ?_; (focus (first | rfl | ((simp only [go_sem, hc, AV.pureL, AV.pure, pureL_mapI, Bool.and_self]) <;> fail))); (focus (first | ((simp only [go_sem, hc]) <;> fail) | rfl))) | refine dCallC_safe (c46n _) rfl rfl (by (simp only [go_sem, hc])) ?_ | refine vcP_safe (c46n _) rfl rfl (by (simp only [go_sem, hc])) ?_ | refine dCallP_safe (c46n _) rfl rfl ?_) | (simp only [go_sem, hc])))
    refine vc_fw (fun j => ⟨[(22, .int .i64 j), (21, .int .i64 s.length), (7, .row 3 j), (6, .lp 2 0), (2, .nilS), (3, .int .i64 0)], H59 s (upI j)⟩) s.length (fun _ => True) (.nilE 7 3 1 (by (simp only [go_sem])) (by omega) (.base (by (first | exact wk_same (by (simp only [go_sem, Int.natCast_add, Int.natCast_one, Int.natCast_zero, Int.cast_ofNat_Int, upI_zero, List.map_nil])) | exact wk_drop (by (simp only [go_sem, Int.natCast_add, Int.natCast_one, Int.natCast_zero, Int.cast_ofNat_Int, upI_zero, List.map_nil])) (by (simp only [go_sem, Int.natCast_add, Int.natCast_one, Int.natCast_zero, Int.cast_ofNat_Int, upI_zero, List.map_nil])) (by (simp only [go_sem, Int.natCast_add, Int.natCast_one, Int.natCast_zero, Int.cast_ofNat_Int, upI_zero, List.map_nil])) (by (simp only [go_sem, Int.natCast_add, Int.natCast_one, Int.natCast_zero, Int.cast_ofNat_Int, upI_zero, List.map_nil])) (by (simp only [go_sem, Int.natCast_add, Int.natCast_one, Int.natCast_zero, Int.cast_ofNat_Int, upI_zero, List.map_nil])))))) trivial ?_
    intro j hj _
    rcases Nat.lt_or_ge j s.length with hlt | hge
    · have hlt' : (j : Int) < s.length := by omega
      (repeat' (first | ((first | with_reducible refine vcG_split ?_ ?_ | with_reducible refine vcIf_split ?_ ?_ | with_reducible refine vcQ_split ?_ ?_ | with_reducible refine vcDG_split ?_ ?_) <;> intro hb <;> (try rw [hb]) <;> (try simp only [Bool.and_eq_true, Bool.or_eq_true, dtrue, dfalse, Bool.not_eq_true', Bool.not_eq_false', Bool.and_eq_false_iff, Bool.or_eq_false_iff, Bool.not_true, Bool.not_false] at hb) <;> (try simp only [within] at hb) <;> try (simp only [go_sem, hlt', upI_len, List.length_map, false_and, if_false])) | refine And.intro (by (first | exact trivial | (simp only [I64]; omega) | omega)) ?_ | (simp only [go_sem, hlt', upI_len, List.length_map, false_and, if_false])))
      exact .base (by (first | exact wk_same (by (simp only [go_sem, Int.natCast_add, Int.natCast_one, Int.natCast_zero, Int.cast_ofNat_Int, upI_succ, List.map_append, encN, List.map_cons, List.map_nil])) | exact wk_drop (by (simp only [go_sem, Int.natCast_add, Int.natCast_one, Int.natCast_zero, Int.cast_ofNat_Int, upI_succ, List.map_append, encN, List.map_cons, List.map_nil])) (by (simp only [go_sem, Int.natCast_add, Int.natCast_one, Int.natCast_zero, Int.cast_ofNat_Int, upI_succ, List.map_append, encN, List.map_cons, List.map_nil])) (by (simp only [go_sem, Int.natCast_add, Int.natCast_one, Int.natCast_zero, Int.cast_ofNat_Int, upI_succ, List.map_append, encN, List.map_cons, List.map_nil])) (by (simp only [go_sem, Int.natCast_add, Int.natCast_one, Int.natCast_zero, Int.cast_ofNat_Int, upI_succ, List.map_append, encN, List.map_cons, List.map_nil])) (by (simp only [go_sem, Int.natCast_add, Int.natCast_one, Int.natCast_zero, Int.cast_ofNat_Int, upI_succ, List.map_append, encN, List.map_cons, List.map_nil]))))
    · have hge' : ¬ (j : Int) < s.length := by omega
      have : j = s.length := by omega
      subst this
      (repeat' (first | ((first | with_reducible refine vcG_split ?_ ?_ | with_reducible refine vcIf_split ?_ ?_ | with_reducible refine vcQ_split ?_ ?_ | with_reducible refine vcDG_split ?_ ?_) <;> intro hb <;> (try rw [hb]) <;> (try simp only [Bool.and_eq_true, Bool.or_eq_true, dtrue, dfalse, Bool.not_eq_true', Bool.not_eq_false', Bool.and_eq_false_iff, Bool.or_eq_false_iff, Bool.not_true, Bool.not_false] at hb) <;> (try simp only [within] at hb) <;> try (simp only [go_sem, hge'])) | refine And.intro (by (first | exact trivial | (simp only [I64]; omega) | omega)) ?_ | (simp only [go_sem, hge'])))
      refine vcP_here h48' ?_
      rintro r H' ⟨rfl, rfl⟩
      (repeat' (first | ((first | with_reducible refine vcG_split ?_ ?_ | with_reducible refine vcIf_split ?_ ?_ | with_reducible refine vcQ_split ?_ ?_ | with_reducible refine vcDG_split ?_ ?_) <;> intro hb <;> (try rw [hb]) <;> (try simp only [Bool.and_eq_true, Bool.or_eq_true, dtrue, dfalse, Bool.not_eq_true', Bool.not_eq_false', Bool.and_eq_false_iff, Bool.or_eq_false_iff, Bool.not_true, Bool.not_false] at hb) <;> (try simp only [within] at hb) <;> try (simp only [go_sem])) | refine And.intro (by (first | exact trivial | (simp only [I64]; omega) | omega)) ?_ | (simp only [go_sem])))
      exact ⟨hrl, frzE_self _ _ (by rw [pureN]; trivial)⟩
  · have hc := check_no hv
    rw [hc, if_neg (by omega)]
    refine PC.body Try.func19 (by kernel_rfl) rfl (by simp [Try.f19]) rfl ?_
    simp only [Try.f19]
    intro hlen
    simp only [go_sem, List.length_map, and_true, true_and] at hlen
    refine CV.run ?_
    (repeat' (first | ((first | with_reducible refine vcG_split ?_ ?_ | with_reducible refine vcIf_split ?_ ?_ | with_reducible refine vcQ_split ?_ ?_ | with_reducible refine vcDG_split ?_ ?_) <;> intro hb <;> (try rw [hb]) <;> (try simp only [Bool.and_eq_true, Bool.or_eq_true, dtrue, dfalse, Bool.not_eq_true', Bool.not_eq_false', Bool.and_eq_false_iff, Bool.or_eq_false_iff, Bool.not_true, Bool.not_false] at hb) <;> (try simp only [within] at hb) <;> try (simp only [go_sem, hc, List.map_nil])) | refine And.intro (by (first | exact trivial | (simp only [I64]; omega) | omega)) ?_ | (first | (refine vcP_pure (c46n _) rfl ?_ ?_ ?_; (focus (first | rfl | ((simp only [go_sem, hc, List.map_nil, AV.pureL, AV.pure, pureL_mapI, Bool.and_self]) <;> fail))); (focus (first | ((simp only [go_sem, hc, List.map_nil]) <;> fail) | rfl))) | (refine dCallP_pure (c46n _) rfl ?_ ?_ ?_; (focus (first | rfl | ((simp only [go_sem, hc, List.map_nil, AV.pureL, AV.pure, pureL_mapI, Bool.and_self]) <;> fail))); (focus (first | ((simp only [go_sem, hc, List.map_nil]) <;> fail) | rfl))) | (refine dCallC_pure (c46n _) rfl ?_ ?_ ?_; (focus (first | rfl | ((simp only [go_sem, hc, List.map_nil, AV.pureL, AV.pure, pureL_mapI, Bool.and_self]) <;> fail))); (focus (first | ((simp only [go_sem, hc, List.map_nil]) <;> fail) | rfl))) | refine dCallC_safe (c46n _) rfl rfl (by (simp only [go_sem, hc, List.map_nil])) ?_ | refine vcP_safe (c46n _) rfl rfl (by (simp only [go_sem, hc, List.map_nil])) ?_ | refine dCallP_safe (c46n _) rfl rfl ?_) | (simp only [go_sem, hc, List.map_nil])))
end Go.Proofs.Ytoadkchhimojlaa.W5

