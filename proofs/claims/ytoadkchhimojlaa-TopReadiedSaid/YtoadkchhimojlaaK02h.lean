/- Contracts of functions of the given program, without a condition beyond those that each theorem states; they lead to the given statement. -/
import Derived.Test.YtoadkchhimojlaaK02g
set_option linter.unusedSimpArgs false
set_option linter.unusedVariables false
set_option maxRecDepth 100000
namespace Go.Proofs.Ytoadkchhimojlaa.W2
open Go Go.Fl
open Classical
theorem c90 (l : List Int) (g : Nat) (q : Int → Prop) (hf : ∀ n, n ∈ l → PC Try.prog g [.int .i64 n] (.bool (decide (q n)))) : PC Try.prog 90 [lN l, .fn g []] (.int .i64 (ix q l)) := by
  refine PC.body Try.func90 (by kernel_rfl) rfl (by simp [Try.f90]) rfl ?_
  simp only [Try.f90]
  intro hlen
  simp only [go_sem, List.length_map, and_true, true_and] at hlen
  refine CV.run ?_
  (repeat' (first | ((first | with_reducible refine vcG_split ?_ ?_ | with_reducible refine vcIf_split ?_ ?_ | with_reducible refine vcQ_split ?_ ?_ | with_reducible refine vcDG_split ?_ ?_) <;> intro hb <;> (try rw [hb]) <;> (try simp only [Bool.and_eq_true, Bool.or_eq_true, dtrue, dfalse, Bool.not_eq_true', Bool.not_eq_false', Bool.and_eq_false_iff, Bool.or_eq_false_iff, Bool.not_true, Bool.not_false] at hb) <;> (try simp only [within] at hb) <;> try (simp only [go_sem])) | refine And.intro (by (first | exact trivial | (simp only [I64]; omega) | omega)) ?_ | (simp only [go_sem])))
  refine vc_for (fun j => ⟨[(8, .int .i64 j), (7, .int .i64 l.length), (4, .int .i64 0), (0, lN l), (1, .fn g [])], []⟩) l.length (fun j => ∀ i, i < j → ∀ b, l[i]? = some b → ¬ q b) (by (first | exact wk_same (by (simp only [go_sem, Int.natCast_add, Int.natCast_one, Int.natCast_zero, Int.cast_ofNat_Int])) | exact wk_drop (by (simp only [go_sem, Int.natCast_add, Int.natCast_one, Int.natCast_zero, Int.cast_ofNat_Int])) (by (simp only [go_sem, Int.natCast_add, Int.natCast_one, Int.natCast_zero, Int.cast_ofNat_Int])) (by (simp only [go_sem, Int.natCast_add, Int.natCast_one, Int.natCast_zero, Int.cast_ofNat_Int])) (by (simp only [go_sem, Int.natCast_add, Int.natCast_one, Int.natCast_zero, Int.cast_ofNat_Int])) (by (simp only [go_sem, Int.natCast_add, Int.natCast_one, Int.natCast_zero, Int.cast_ofNat_Int])))) (fun i h => by omega) ?_
  intro j hj hx
  rcases Nat.lt_or_ge j l.length with hlt | hge
  · obtain ⟨m, hm⟩ := get_of hlt
    have hlt' : (j : Int) < l.length := by omega
    have hfm := hf m (List.mem_of_getElem? hm)
    (repeat' (first | ((first | with_reducible refine vcG_split ?_ ?_ | with_reducible refine vcIf_split ?_ ?_ | with_reducible refine vcQ_split ?_ ?_ | with_reducible refine vcDG_split ?_ ?_) <;> intro hb <;> (try rw [hb]) <;> (try simp only [Bool.and_eq_true, Bool.or_eq_true, dtrue, dfalse, Bool.not_eq_true', Bool.not_eq_false', Bool.and_eq_false_iff, Bool.or_eq_false_iff, Bool.not_true, Bool.not_false] at hb) <;> (try simp only [within] at hb) <;> try (simp only [go_sem, hlt', hm, encN])) | refine And.intro (by (first | exact trivial | (simp only [I64]; omega) | omega)) ?_ | (first | (refine vcP_pure (hfm) rfl ?_ ?_ ?_; (focus (first | rfl | ((simp only [go_sem, hlt', hm, encN, AV.pureL, AV.pure, pureL_mapI, Bool.and_self]) <;> fail))); (focus (first | ((simp only [go_sem, hlt', hm, encN]) <;> fail) | rfl))) | (refine dCallP_pure (hfm) rfl ?_ ?_ ?_; (focus (first | rfl | ((simp only [go_sem, hlt', hm, encN, AV.pureL, AV.pure, pureL_mapI, Bool.and_self]) <;> fail))); (focus (first | ((simp only [go_sem, hlt', hm, encN]) <;> fail) | rfl))) | (refine dCallC_pure (hfm) rfl ?_ ?_ ?_; (focus (first | rfl | ((simp only [go_sem, hlt', hm, encN, AV.pureL, AV.pure, pureL_mapI, Bool.and_self]) <;> fail))); (focus (first | ((simp only [go_sem, hlt', hm, encN]) <;> fail) | rfl))) | refine dCallC_safe (hfm) rfl rfl (by (simp only [go_sem, hlt', hm, encN])) ?_ | refine vcP_safe (hfm) rfl rfl (by (simp only [go_sem, hlt', hm, encN])) ?_ | refine dCallP_safe (hfm) rfl rfl ?_) | (simp only [go_sem, hlt', hm, encN])))
    · rw [ix_at ⟨⟨m, hm, hb⟩, hx⟩]
    · refine ⟨by (first | exact wk_same (by (simp only [go_sem, Int.natCast_add, Int.natCast_one, Int.natCast_zero, Int.cast_ofNat_Int])) | exact wk_drop (by (simp only [go_sem, Int.natCast_add, Int.natCast_one, Int.natCast_zero, Int.cast_ofNat_Int])) (by (simp only [go_sem, Int.natCast_add, Int.natCast_one, Int.natCast_zero, Int.cast_ofNat_Int])) (by (simp only [go_sem, Int.natCast_add, Int.natCast_one, Int.natCast_zero, Int.cast_ofNat_Int])) (by (simp only [go_sem, Int.natCast_add, Int.natCast_one, Int.natCast_zero, Int.cast_ofNat_Int])) (by (simp only [go_sem, Int.natCast_add, Int.natCast_one, Int.natCast_zero, Int.cast_ofNat_Int]))), fun i hi b hib => ?_⟩
      rcases Nat.lt_or_ge i j with h | h
      · exact hx i h b hib
      · have : i = j := by omega
        subst this
        rw [hm] at hib; cases hib; exact hb
  · have hge' : ¬ (j : Int) < l.length := by omega
    (repeat' (first | ((first | with_reducible refine vcG_split ?_ ?_ | with_reducible refine vcIf_split ?_ ?_ | with_reducible refine vcQ_split ?_ ?_ | with_reducible refine vcDG_split ?_ ?_) <;> intro hb <;> (try rw [hb]) <;> (try simp only [Bool.and_eq_true, Bool.or_eq_true, dtrue, dfalse, Bool.not_eq_true', Bool.not_eq_false', Bool.and_eq_false_iff, Bool.or_eq_false_iff, Bool.not_true, Bool.not_false] at hb) <;> (try simp only [within] at hb) <;> try (simp only [go_sem, hge'])) | refine And.intro (by (first | exact trivial | (simp only [I64]; omega) | omega)) ?_ | (simp only [go_sem, hge'])))
    rw [ix_no (fun i b hb => hx i (by have := (List.getElem?_eq_some_iff.1 hb).1; omega) b hb)]
theorem c64 (l : List Int) (g : Nat) (q : Int → Prop) (hf : ∀ n, n ∈ l → PC Try.prog g [.int .i64 n] (.bool (decide (q n)))) : PC Try.prog 64 [lN l, .fn g []] (.bool (decide (∃ n, n ∈ l ∧ q n))) := by
  refine PC.body Try.func64 (by kernel_rfl) rfl (by simp [Try.f64]) rfl ?_
  simp only [Try.f64]
  intro hlen
  simp only [go_sem, List.length_map, and_true, true_and] at hlen
  refine CV.run ?_
  (repeat' (first | ((first | with_reducible refine vcG_split ?_ ?_ | with_reducible refine vcIf_split ?_ ?_ | with_reducible refine vcQ_split ?_ ?_ | with_reducible refine vcDG_split ?_ ?_) <;> intro hb <;> (try rw [hb]) <;> (try simp only [Bool.and_eq_true, Bool.or_eq_true, dtrue, dfalse, Bool.not_eq_true', Bool.not_eq_false', Bool.and_eq_false_iff, Bool.or_eq_false_iff, Bool.not_true, Bool.not_false] at hb) <;> (try simp only [within] at hb) <;> try (simp only [go_sem])) | refine And.intro (by (first | exact trivial | (simp only [I64]; omega) | omega)) ?_ | (first | (refine vcP_pure (c90 l g q hf) rfl ?_ ?_ ?_; (focus (first | rfl | ((simp only [go_sem, AV.pureL, AV.pure, pureL_mapI, Bool.and_self]) <;> fail))); (focus (first | ((simp only [go_sem]) <;> fail) | rfl))) | (refine dCallP_pure (c90 l g q hf) rfl ?_ ?_ ?_; (focus (first | rfl | ((simp only [go_sem, AV.pureL, AV.pure, pureL_mapI, Bool.and_self]) <;> fail))); (focus (first | ((simp only [go_sem]) <;> fail) | rfl))) | (refine dCallC_pure (c90 l g q hf) rfl ?_ ?_ ?_; (focus (first | rfl | ((simp only [go_sem, AV.pureL, AV.pure, pureL_mapI, Bool.and_self]) <;> fail))); (focus (first | ((simp only [go_sem]) <;> fail) | rfl))) | refine dCallC_safe (c90 l g q hf) rfl rfl (by (simp only [go_sem])) ?_ | refine vcP_safe (c90 l g q hf) rfl rfl (by (simp only [go_sem])) ?_ | refine dCallP_safe (c90 l g q hf) rfl rfl ?_) | (simp only [go_sem])))
  exact bd ix_ge
end Go.Proofs.Ytoadkchhimojlaa.W2

