/- Contracts of functions of the given program, without a condition beyond those that each theorem states; they lead to the given statement. -/
import Derived.Test.YtekdocalipchpaaV02g
set_option linter.unusedSimpArgs false
set_option linter.unusedVariables false
set_option maxRecDepth 100000
namespace Go.Proofs.Ytekdocalipchpaa
open Go Go.Fl
open Classical
/-! ### Check of the program -/
theorem c88 (n : Int) : PC Try.prog 88 [.int .i64 n] (.bool (decide (¬ within n 0 12))) := by
  refine PC.body Try.func88 (by kernel_rfl) rfl (by simp [Try.f88]) rfl ?_
  simp only [Try.f88]
  intro hlen
  simp only [go_sem, List.length_map, and_true, true_and] at hlen
  refine CV.run ?_
  (repeat' (first | ((first | with_reducible refine vcG_split ?_ ?_ | with_reducible refine vcIf_split ?_ ?_ | with_reducible refine vcQ_split ?_ ?_ | with_reducible refine vcDG_split ?_ ?_) <;> intro hb <;> (try rw [hb]) <;> (try simp only [Bool.and_eq_true, Bool.or_eq_true, dtrue, dfalse, Bool.not_eq_true', Bool.not_eq_false', Bool.and_eq_false_iff, Bool.or_eq_false_iff, Bool.not_true, Bool.not_false] at hb) <;> (try simp only [within] at hb) <;> try (simp only [go_sem])) | refine And.intro (by (first | exact trivial | (simp only [I64]; omega) | omega)) ?_ | (first | (refine vcP_pure (c76 _ _ _) rfl ?_ ?_ ?_; (focus (first | rfl | ((simp only [go_sem, AV.pureL, AV.pure, pureL_mapI, Bool.and_self]) <;> fail))); (focus (first | ((simp only [go_sem]) <;> fail) | rfl))) | (refine dCallP_pure (c76 _ _ _) rfl ?_ ?_ ?_; (focus (first | rfl | ((simp only [go_sem, AV.pureL, AV.pure, pureL_mapI, Bool.and_self]) <;> fail))); (focus (first | ((simp only [go_sem]) <;> fail) | rfl))) | refine vcP_safe (c76 _ _ _) rfl rfl (by (simp only [go_sem])) ?_ | refine dCallP_safe (c76 _ _ _) rfl rfl ?_) | (simp only [go_sem])))
  exact bn (by simp)
theorem c90 (n : Int) : PC Try.prog 90 [.int .i64 n] (.bool (decide (¬ within n 0 12))) := by
  refine PC.body Try.func90 (by kernel_rfl) rfl (by simp [Try.f90]) rfl ?_
  simp only [Try.f90]
  intro hlen
  simp only [go_sem, List.length_map, and_true, true_and] at hlen
  refine CV.run ?_
  (repeat' (first | ((first | with_reducible refine vcG_split ?_ ?_ | with_reducible refine vcIf_split ?_ ?_ | with_reducible refine vcQ_split ?_ ?_ | with_reducible refine vcDG_split ?_ ?_) <;> intro hb <;> (try rw [hb]) <;> (try simp only [Bool.and_eq_true, Bool.or_eq_true, dtrue, dfalse, Bool.not_eq_true', Bool.not_eq_false', Bool.and_eq_false_iff, Bool.or_eq_false_iff, Bool.not_true, Bool.not_false] at hb) <;> (try simp only [within] at hb) <;> try (simp only [go_sem])) | refine And.intro (by (first | exact trivial | (simp only [I64]; omega) | omega)) ?_ | (first | (refine vcP_pure (c76 _ _ _) rfl ?_ ?_ ?_; (focus (first | rfl | ((simp only [go_sem, AV.pureL, AV.pure, pureL_mapI, Bool.and_self]) <;> fail))); (focus (first | ((simp only [go_sem]) <;> fail) | rfl))) | (refine dCallP_pure (c76 _ _ _) rfl ?_ ?_ ?_; (focus (first | rfl | ((simp only [go_sem, AV.pureL, AV.pure, pureL_mapI, Bool.and_self]) <;> fail))); (focus (first | ((simp only [go_sem]) <;> fail) | rfl))) | refine vcP_safe (c76 _ _ _) rfl rfl (by (simp only [go_sem])) ?_ | refine dCallP_safe (c76 _ _ _) rfl rfl ?_) | (simp only [go_sem])))
  exact bn (by simp)
theorem c109 (n : Int) : PC Try.prog 109 [.int .i64 n] (.bool (decide (0 < n))) := by
  refine PC.body Try.func109 (by kernel_rfl) rfl (by simp [Try.f109]) rfl ?_
  simp only [Try.f109]
  intro hlen
  simp only [go_sem, List.length_map, and_true, true_and] at hlen
  refine CV.run ?_
  (repeat' (first | ((first | with_reducible refine vcG_split ?_ ?_ | with_reducible refine vcIf_split ?_ ?_ | with_reducible refine vcQ_split ?_ ?_ | with_reducible refine vcDG_split ?_ ?_) <;> intro hb <;> (try rw [hb]) <;> (try simp only [Bool.and_eq_true, Bool.or_eq_true, dtrue, dfalse, Bool.not_eq_true', Bool.not_eq_false', Bool.and_eq_false_iff, Bool.or_eq_false_iff, Bool.not_true, Bool.not_false] at hb) <;> (try simp only [within] at hb) <;> try (simp only [go_sem])) | refine And.intro (by (first | exact trivial | (simp only [I64]; omega) | omega)) ?_ | fail | (simp only [go_sem])))
theorem c104 (l : List Int) (g : Nat) (q : Int → Prop) (hf : ∀ n, n ∈ l → PC Try.prog g [.int .i64 n] (.bool (decide (q n)))) : PC Try.prog 104 [lN l, .fn g []] (.int .i64 (ix q l)) := by
  refine PC.body Try.func104 (by kernel_rfl) rfl (by simp [Try.f104]) rfl ?_
  simp only [Try.f104]
  intro hlen
  simp only [go_sem, List.length_map, and_true, true_and] at hlen
  refine CV.run ?_
  (repeat' (first | ((first | with_reducible refine vcG_split ?_ ?_ | with_reducible refine vcIf_split ?_ ?_ | with_reducible refine vcQ_split ?_ ?_ | with_reducible refine vcDG_split ?_ ?_) <;> intro hb <;> (try rw [hb]) <;> (try simp only [Bool.and_eq_true, Bool.or_eq_true, dtrue, dfalse, Bool.not_eq_true', Bool.not_eq_false', Bool.and_eq_false_iff, Bool.or_eq_false_iff, Bool.not_true, Bool.not_false] at hb) <;> (try simp only [within] at hb) <;> try (simp only [go_sem])) | refine And.intro (by (first | exact trivial | (simp only [I64]; omega) | omega)) ?_ | fail | (simp only [go_sem])))
  refine vc_for (fun j => ⟨[(8, .int .i64 j), (7, .int .i64 l.length), (4, .int .i64 0), (0, lN l), (1, .fn g [])], []⟩) l.length (fun j => ∀ i, i < j → ∀ b, l[i]? = some b → ¬ q b) (by (first | exact wk_same (by (simp only [go_sem, Int.natCast_add, Int.natCast_one, Int.natCast_zero, Int.cast_ofNat_Int])) | exact wk_drop (by (simp only [go_sem, Int.natCast_add, Int.natCast_one, Int.natCast_zero, Int.cast_ofNat_Int])) (by (simp only [go_sem, Int.natCast_add, Int.natCast_one, Int.natCast_zero, Int.cast_ofNat_Int])) (by (simp only [go_sem, Int.natCast_add, Int.natCast_one, Int.natCast_zero, Int.cast_ofNat_Int])) (by (simp only [go_sem, Int.natCast_add, Int.natCast_one, Int.natCast_zero, Int.cast_ofNat_Int])) (by (simp only [go_sem, Int.natCast_add, Int.natCast_one, Int.natCast_zero, Int.cast_ofNat_Int])))) (fun i h => by omega) ?_
  intro j hj hx
  rcases Nat.lt_or_ge j l.length with hlt | hge
  · obtain ⟨m, hm⟩ := get_of hlt
    have hlt' : (j : Int) < l.length := by omega
    have hfm := hf m (List.mem_of_getElem? hm)
    (repeat' (first | ((first | with_reducible refine vcG_split ?_ ?_ | with_reducible refine vcIf_split ?_ ?_ | with_reducible refine vcQ_split ?_ ?_ | with_reducible refine vcDG_split ?_ ?_) <;> intro hb <;> (try rw [hb]) <;> (try simp only [Bool.and_eq_true, Bool.or_eq_true, dtrue, dfalse, Bool.not_eq_true', Bool.not_eq_false', Bool.and_eq_false_iff, Bool.or_eq_false_iff, Bool.not_true, Bool.not_false] at hb) <;> (try simp only [within] at hb) <;> try (simp only [go_sem, hlt', hm, encN])) | refine And.intro (by (first | exact trivial | (simp only [I64]; omega) | omega)) ?_ | (first | (refine vcP_pure (hfm) rfl ?_ ?_ ?_; (focus (first | rfl | ((simp only [go_sem, hlt', hm, encN, AV.pureL, AV.pure, pureL_mapI, Bool.and_self]) <;> fail))); (focus (first | ((simp only [go_sem, hlt', hm, encN]) <;> fail) | rfl))) | (refine dCallP_pure (hfm) rfl ?_ ?_ ?_; (focus (first | rfl | ((simp only [go_sem, hlt', hm, encN, AV.pureL, AV.pure, pureL_mapI, Bool.and_self]) <;> fail))); (focus (first | ((simp only [go_sem, hlt', hm, encN]) <;> fail) | rfl))) | refine vcP_safe (hfm) rfl rfl (by (simp only [go_sem, hlt', hm, encN])) ?_ | refine dCallP_safe (hfm) rfl rfl ?_) | (simp only [go_sem, hlt', hm, encN])))
    · rw [ix_at ⟨⟨m, hm, hb⟩, hx⟩]
    · refine ⟨by (first | exact wk_same (by (simp only [go_sem, Int.natCast_add, Int.natCast_one, Int.natCast_zero, Int.cast_ofNat_Int])) | exact wk_drop (by (simp only [go_sem, Int.natCast_add, Int.natCast_one, Int.natCast_zero, Int.cast_ofNat_Int])) (by (simp only [go_sem, Int.natCast_add, Int.natCast_one, Int.natCast_zero, Int.cast_ofNat_Int])) (by (simp only [go_sem, Int.natCast_add, Int.natCast_one, Int.natCast_zero, Int.cast_ofNat_Int])) (by (simp only [go_sem, Int.natCast_add, Int.natCast_one, Int.natCast_zero, Int.cast_ofNat_Int])) (by (simp only [go_sem, Int.natCast_add, Int.natCast_one, Int.natCast_zero, Int.cast_ofNat_Int]))), fun i hi b hib => ?_⟩
      rcases Nat.lt_or_ge i j with h | h
      · exact hx i h b hib
      · have : i = j := by omega
        subst this
        rw [hm] at hib; cases hib; exact hb
  · have hge' : ¬ (j : Int) < l.length := by omega
    (repeat' (first | ((first | with_reducible refine vcG_split ?_ ?_ | with_reducible refine vcIf_split ?_ ?_ | with_reducible refine vcQ_split ?_ ?_ | with_reducible refine vcDG_split ?_ ?_) <;> intro hb <;> (try rw [hb]) <;> (try simp only [Bool.and_eq_true, Bool.or_eq_true, dtrue, dfalse, Bool.not_eq_true', Bool.not_eq_false', Bool.and_eq_false_iff, Bool.or_eq_false_iff, Bool.not_true, Bool.not_false] at hb) <;> (try simp only [within] at hb) <;> try (simp only [go_sem, hge'])) | refine And.intro (by (first | exact trivial | (simp only [I64]; omega) | omega)) ?_ | fail | (simp only [go_sem, hge'])))
    rw [ix_no (fun i b hb => hx i (by have := (List.getElem?_eq_some_iff.1 hb).1; omega) b hb)]
theorem c87 (l : List Int) (g : Nat) (q : Int → Prop) (hf : ∀ n, n ∈ l → PC Try.prog g [.int .i64 n] (.bool (decide (q n)))) : PC Try.prog 87 [lN l, .fn g []] (.bool (decide (∃ n, n ∈ l ∧ q n))) := by
  refine PC.body Try.func87 (by kernel_rfl) rfl (by simp [Try.f87]) rfl ?_
  simp only [Try.f87]
  intro hlen
  simp only [go_sem, List.length_map, and_true, true_and] at hlen
  refine CV.run ?_
  (repeat' (first | ((first | with_reducible refine vcG_split ?_ ?_ | with_reducible refine vcIf_split ?_ ?_ | with_reducible refine vcQ_split ?_ ?_ | with_reducible refine vcDG_split ?_ ?_) <;> intro hb <;> (try rw [hb]) <;> (try simp only [Bool.and_eq_true, Bool.or_eq_true, dtrue, dfalse, Bool.not_eq_true', Bool.not_eq_false', Bool.and_eq_false_iff, Bool.or_eq_false_iff, Bool.not_true, Bool.not_false] at hb) <;> (try simp only [within] at hb) <;> try (simp only [go_sem])) | refine And.intro (by (first | exact trivial | (simp only [I64]; omega) | omega)) ?_ | (first | (refine vcP_pure (c104 l g q hf) rfl ?_ ?_ ?_; (focus (first | rfl | ((simp only [go_sem, AV.pureL, AV.pure, pureL_mapI, Bool.and_self]) <;> fail))); (focus (first | ((simp only [go_sem]) <;> fail) | rfl))) | (refine dCallP_pure (c104 l g q hf) rfl ?_ ?_ ?_; (focus (first | rfl | ((simp only [go_sem, AV.pureL, AV.pure, pureL_mapI, Bool.and_self]) <;> fail))); (focus (first | ((simp only [go_sem]) <;> fail) | rfl))) | refine vcP_safe (c104 l g q hf) rfl rfl (by (simp only [go_sem])) ?_ | refine dCallP_safe (c104 l g q hf) rfl rfl ?_) | (simp only [go_sem])))
  exact bd ix_ge
theorem c105 (l : List Mould) (g : Nat) (cs : List AV) (hcp : AV.pureL cs = true) (q : Mould → Prop) (hf : ∀ n, n ∈ l → PC Try.prog g [.agg (encD n), .pp cs] (.bool (decide (q n)))) : PC Try.prog 105 [.lst false 3 (l.map encD), .fn g [.pp cs]] (.int .i64 (ix q l)) := by
  have hfz := frzL_self [] cs hcp
  refine PC.body Try.func105 (by kernel_rfl) rfl (by simp [Try.f105]) rfl ?_
  simp only [Try.f105]
  intro hlen
  simp only [go_sem, List.length_map, and_true, true_and] at hlen
  refine CV.run ?_
  (repeat' (first | ((first | with_reducible refine vcG_split ?_ ?_ | with_reducible refine vcIf_split ?_ ?_ | with_reducible refine vcQ_split ?_ ?_ | with_reducible refine vcDG_split ?_ ?_) <;> intro hb <;> (try rw [hb]) <;> (try simp only [Bool.and_eq_true, Bool.or_eq_true, dtrue, dfalse, Bool.not_eq_true', Bool.not_eq_false', Bool.and_eq_false_iff, Bool.or_eq_false_iff, Bool.not_true, Bool.not_false] at hb) <;> (try simp only [within] at hb) <;> try (simp only [go_sem, hfz])) | refine And.intro (by (first | exact trivial | (simp only [I64]; omega) | omega)) ?_ | fail | (simp only [go_sem, hfz])))
  refine vc_for (fun j => ⟨[(8, .int .i64 j), (7, .int .i64 l.length), (4, .int .i64 0), (0, .lst false 3 (l.map encD)), (1, .fn g [.pp cs])], []⟩) l.length (fun j => ∀ i, i < j → ∀ b, l[i]? = some b → ¬ q b) (by (first | exact wk_same (by (simp only [go_sem, Int.natCast_add, Int.natCast_one, Int.natCast_zero, Int.cast_ofNat_Int])) | exact wk_drop (by (simp only [go_sem, Int.natCast_add, Int.natCast_one, Int.natCast_zero, Int.cast_ofNat_Int])) (by (simp only [go_sem, Int.natCast_add, Int.natCast_one, Int.natCast_zero, Int.cast_ofNat_Int])) (by (simp only [go_sem, Int.natCast_add, Int.natCast_one, Int.natCast_zero, Int.cast_ofNat_Int])) (by (simp only [go_sem, Int.natCast_add, Int.natCast_one, Int.natCast_zero, Int.cast_ofNat_Int])) (by (simp only [go_sem, Int.natCast_add, Int.natCast_one, Int.natCast_zero, Int.cast_ofNat_Int])))) (fun i h => by omega) ?_
  intro j hj hx
  rcases Nat.lt_or_ge j l.length with hlt | hge
  · obtain ⟨m, hm⟩ := get_of hlt
    have hlt' : (j : Int) < l.length := by omega
    have hfm := hf m (List.mem_of_getElem? hm)
    simp only [encD] at hfm
    (repeat' (first | ((first | with_reducible refine vcG_split ?_ ?_ | with_reducible refine vcIf_split ?_ ?_ | with_reducible refine vcQ_split ?_ ?_ | with_reducible refine vcDG_split ?_ ?_) <;> intro hb <;> (try rw [hb]) <;> (try simp only [Bool.and_eq_true, Bool.or_eq_true, dtrue, dfalse, Bool.not_eq_true', Bool.not_eq_false', Bool.and_eq_false_iff, Bool.or_eq_false_iff, Bool.not_true, Bool.not_false] at hb) <;> (try simp only [within] at hb) <;> try (simp only [go_sem, hlt', hm, encD, hfz])) | refine And.intro (by (first | exact trivial | (simp only [I64]; omega) | omega)) ?_ | (first | (refine vcP_pure (hfm) rfl ?_ ?_ ?_; (focus (first | rfl | ((simp only [go_sem, hlt', hm, encD, hfz, AV.pureL, AV.pure, pureL_mapI, Bool.and_self]) <;> fail))); (focus (first | ((simp only [go_sem, hlt', hm, encD, hfz]) <;> fail) | rfl))) | (refine dCallP_pure (hfm) rfl ?_ ?_ ?_; (focus (first | rfl | ((simp only [go_sem, hlt', hm, encD, hfz, AV.pureL, AV.pure, pureL_mapI, Bool.and_self]) <;> fail))); (focus (first | ((simp only [go_sem, hlt', hm, encD, hfz]) <;> fail) | rfl))) | refine vcP_safe (hfm) rfl rfl (by (simp only [go_sem, hlt', hm, encD, hfz])) ?_ | refine dCallP_safe (hfm) rfl rfl ?_) | (simp only [go_sem, hlt', hm, encD, hfz])))
    · rw [ix_at ⟨⟨m, hm, hb⟩, hx⟩]
    · refine ⟨by (first | exact wk_same (by (simp only [go_sem, Int.natCast_add, Int.natCast_one, Int.natCast_zero, Int.cast_ofNat_Int])) | exact wk_drop (by (simp only [go_sem, Int.natCast_add, Int.natCast_one, Int.natCast_zero, Int.cast_ofNat_Int])) (by (simp only [go_sem, Int.natCast_add, Int.natCast_one, Int.natCast_zero, Int.cast_ofNat_Int])) (by (simp only [go_sem, Int.natCast_add, Int.natCast_one, Int.natCast_zero, Int.cast_ofNat_Int])) (by (simp only [go_sem, Int.natCast_add, Int.natCast_one, Int.natCast_zero, Int.cast_ofNat_Int])) (by (simp only [go_sem, Int.natCast_add, Int.natCast_one, Int.natCast_zero, Int.cast_ofNat_Int]))), fun i hi b hib => ?_⟩
      rcases Nat.lt_or_ge i j with h | h
      · exact hx i h b hib
      · have : i = j := by omega
        subst this
        rw [hm] at hib; cases hib; exact hb
  · have hge' : ¬ (j : Int) < l.length := by omega
    (repeat' (first | ((first | with_reducible refine vcG_split ?_ ?_ | with_reducible refine vcIf_split ?_ ?_ | with_reducible refine vcQ_split ?_ ?_ | with_reducible refine vcDG_split ?_ ?_) <;> intro hb <;> (try rw [hb]) <;> (try simp only [Bool.and_eq_true, Bool.or_eq_true, dtrue, dfalse, Bool.not_eq_true', Bool.not_eq_false', Bool.and_eq_false_iff, Bool.or_eq_false_iff, Bool.not_true, Bool.not_false] at hb) <;> (try simp only [within] at hb) <;> try (simp only [go_sem, hge'])) | refine And.intro (by (first | exact trivial | (simp only [I64]; omega) | omega)) ?_ | fail | (simp only [go_sem, hge'])))
    rw [ix_no (fun i b hb => hx i (by have := (List.getElem?_eq_some_iff.1 hb).1; omega) b hb)]
theorem c91 (l : List Mould) (g : Nat) (cs : List AV) (hcp : AV.pureL cs = true) (q : Mould → Prop) (hf : ∀ n, n ∈ l → PC Try.prog g [.agg (encD n), .pp cs] (.bool (decide (q n)))) : PC Try.prog 91 [.lst false 3 (l.map encD), .fn g [.pp cs]] (.bool (decide (∃ n, n ∈ l ∧ q n))) := by
  have hfz := frzL_self [] cs hcp
  refine PC.body Try.func91 (by kernel_rfl) rfl (by simp [Try.f91]) rfl ?_
  simp only [Try.f91]
  intro hlen
  simp only [go_sem, List.length_map, and_true, true_and] at hlen
  refine CV.run ?_
  (repeat' (first | ((first | with_reducible refine vcG_split ?_ ?_ | with_reducible refine vcIf_split ?_ ?_ | with_reducible refine vcQ_split ?_ ?_ | with_reducible refine vcDG_split ?_ ?_) <;> intro hb <;> (try rw [hb]) <;> (try simp only [Bool.and_eq_true, Bool.or_eq_true, dtrue, dfalse, Bool.not_eq_true', Bool.not_eq_false', Bool.and_eq_false_iff, Bool.or_eq_false_iff, Bool.not_true, Bool.not_false] at hb) <;> (try simp only [within] at hb) <;> try (simp only [go_sem, hfz])) | refine And.intro (by (first | exact trivial | (simp only [I64]; omega) | omega)) ?_ | (first | (refine vcP_pure (c105 l g cs hcp q hf) rfl ?_ ?_ ?_; (focus (first | rfl | ((simp only [go_sem, hfz, AV.pureL, AV.pure, pureL_mapI, Bool.and_self]) <;> fail))); (focus (first | ((simp only [go_sem, hfz]) <;> fail) | rfl))) | (refine dCallP_pure (c105 l g cs hcp q hf) rfl ?_ ?_ ?_; (focus (first | rfl | ((simp only [go_sem, hfz, AV.pureL, AV.pure, pureL_mapI, Bool.and_self]) <;> fail))); (focus (first | ((simp only [go_sem, hfz]) <;> fail) | rfl))) | refine vcP_safe (c105 l g cs hcp q hf) rfl rfl (by (simp only [go_sem, hfz])) ?_ | refine dCallP_safe (c105 l g cs hcp q hf) rfl rfl ?_) | (simp only [go_sem, hfz])))
  exact bd ix_ge
theorem c106 (l : List (List Int)) (g : Nat) (cs : List AV) (hcp : AV.pureL cs = true) (q : List Int → Prop) (hf : ∀ n, n ∈ l → PC Try.prog g [lN n, .pp cs] (.bool (decide (q n)))) : PC Try.prog 106 [.lst false 1 (l.map encW), .fn g [.pp cs]] (.int .i64 (ix q l)) := by
  have hfz := frzL_self [] cs hcp
  refine PC.body Try.func106 (by kernel_rfl) rfl (by simp [Try.f106]) rfl ?_
  simp only [Try.f106]
  intro hlen
  simp only [go_sem, List.length_map, and_true, true_and] at hlen
  refine CV.run ?_
  (repeat' (first | ((first | with_reducible refine vcG_split ?_ ?_ | with_reducible refine vcIf_split ?_ ?_ | with_reducible refine vcQ_split ?_ ?_ | with_reducible refine vcDG_split ?_ ?_) <;> intro hb <;> (try rw [hb]) <;> (try simp only [Bool.and_eq_true, Bool.or_eq_true, dtrue, dfalse, Bool.not_eq_true', Bool.not_eq_false', Bool.and_eq_false_iff, Bool.or_eq_false_iff, Bool.not_true, Bool.not_false] at hb) <;> (try simp only [within] at hb) <;> try (simp only [go_sem, hfz])) | refine And.intro (by (first | exact trivial | (simp only [I64]; omega) | omega)) ?_ | fail | (simp only [go_sem, hfz])))
  refine vc_for (fun j => ⟨[(8, .int .i64 j), (7, .int .i64 l.length), (4, .int .i64 0), (0, .lst false 1 (l.map encW)), (1, .fn g [.pp cs])], []⟩) l.length (fun j => ∀ i, i < j → ∀ b, l[i]? = some b → ¬ q b) (by (first | exact wk_same (by (simp only [go_sem, Int.natCast_add, Int.natCast_one, Int.natCast_zero, Int.cast_ofNat_Int])) | exact wk_drop (by (simp only [go_sem, Int.natCast_add, Int.natCast_one, Int.natCast_zero, Int.cast_ofNat_Int])) (by (simp only [go_sem, Int.natCast_add, Int.natCast_one, Int.natCast_zero, Int.cast_ofNat_Int])) (by (simp only [go_sem, Int.natCast_add, Int.natCast_one, Int.natCast_zero, Int.cast_ofNat_Int])) (by (simp only [go_sem, Int.natCast_add, Int.natCast_one, Int.natCast_zero, Int.cast_ofNat_Int])) (by (simp only [go_sem, Int.natCast_add, Int.natCast_one, Int.natCast_zero, Int.cast_ofNat_Int])))) (fun i h => by omega) ?_
  intro j hj hx
  rcases Nat.lt_or_ge j l.length with hlt | hge
  · obtain ⟨m, hm⟩ := get_of hlt
    have hlt' : (j : Int) < l.length := by omega
    have hfm := hf m (List.mem_of_getElem? hm)
    (repeat' (first | ((first | with_reducible refine vcG_split ?_ ?_ | with_reducible refine vcIf_split ?_ ?_ | with_reducible refine vcQ_split ?_ ?_ | with_reducible refine vcDG_split ?_ ?_) <;> intro hb <;> (try rw [hb]) <;> (try simp only [Bool.and_eq_true, Bool.or_eq_true, dtrue, dfalse, Bool.not_eq_true', Bool.not_eq_false', Bool.and_eq_false_iff, Bool.or_eq_false_iff, Bool.not_true, Bool.not_false] at hb) <;> (try simp only [within] at hb) <;> try (simp only [go_sem, hlt', hm, encW, hfz])) | refine And.intro (by (first | exact trivial | (simp only [I64]; omega) | omega)) ?_ | (first | (refine vcP_pure (hfm) rfl ?_ ?_ ?_; (focus (first | rfl | ((simp only [go_sem, hlt', hm, encW, hfz, AV.pureL, AV.pure, pureL_mapI, Bool.and_self]) <;> fail))); (focus (first | ((simp only [go_sem, hlt', hm, encW, hfz]) <;> fail) | rfl))) | (refine dCallP_pure (hfm) rfl ?_ ?_ ?_; (focus (first | rfl | ((simp only [go_sem, hlt', hm, encW, hfz, AV.pureL, AV.pure, pureL_mapI, Bool.and_self]) <;> fail))); (focus (first | ((simp only [go_sem, hlt', hm, encW, hfz]) <;> fail) | rfl))) | refine vcP_safe (hfm) rfl rfl (by (simp only [go_sem, hlt', hm, encW, hfz])) ?_ | refine dCallP_safe (hfm) rfl rfl ?_) | (simp only [go_sem, hlt', hm, encW, hfz])))
    · rw [ix_at ⟨⟨m, hm, hb⟩, hx⟩]
    · refine ⟨by (first | exact wk_same (by (simp only [go_sem, Int.natCast_add, Int.natCast_one, Int.natCast_zero, Int.cast_ofNat_Int])) | exact wk_drop (by (simp only [go_sem, Int.natCast_add, Int.natCast_one, Int.natCast_zero, Int.cast_ofNat_Int])) (by (simp only [go_sem, Int.natCast_add, Int.natCast_one, Int.natCast_zero, Int.cast_ofNat_Int])) (by (simp only [go_sem, Int.natCast_add, Int.natCast_one, Int.natCast_zero, Int.cast_ofNat_Int])) (by (simp only [go_sem, Int.natCast_add, Int.natCast_one, Int.natCast_zero, Int.cast_ofNat_Int])) (by (simp only [go_sem, Int.natCast_add, Int.natCast_one, Int.natCast_zero, Int.cast_ofNat_Int]))), fun i hi b hib => ?_⟩
      rcases Nat.lt_or_ge i j with h | h
      · exact hx i h b hib
      · have : i = j := by omega
        subst this
        rw [hm] at hib; cases hib; exact hb
  · have hge' : ¬ (j : Int) < l.length := by omega
    (repeat' (first | ((first | with_reducible refine vcG_split ?_ ?_ | with_reducible refine vcIf_split ?_ ?_ | with_reducible refine vcQ_split ?_ ?_ | with_reducible refine vcDG_split ?_ ?_) <;> intro hb <;> (try rw [hb]) <;> (try simp only [Bool.and_eq_true, Bool.or_eq_true, dtrue, dfalse, Bool.not_eq_true', Bool.not_eq_false', Bool.and_eq_false_iff, Bool.or_eq_false_iff, Bool.not_true, Bool.not_false] at hb) <;> (try simp only [within] at hb) <;> try (simp only [go_sem, hge'])) | refine And.intro (by (first | exact trivial | (simp only [I64]; omega) | omega)) ?_ | fail | (simp only [go_sem, hge'])))
    rw [ix_no (fun i b hb => hx i (by have := (List.getElem?_eq_some_iff.1 hb).1; omega) b hb)]
theorem c92 (l : List (List Int)) (g : Nat) (cs : List AV) (hcp : AV.pureL cs = true) (q : List Int → Prop) (hf : ∀ n, n ∈ l → PC Try.prog g [lN n, .pp cs] (.bool (decide (q n)))) : PC Try.prog 92 [.lst false 1 (l.map encW), .fn g [.pp cs]] (.bool (decide (∃ n, n ∈ l ∧ q n))) := by
  have hfz := frzL_self [] cs hcp
  refine PC.body Try.func92 (by kernel_rfl) rfl (by simp [Try.f92]) rfl ?_
  simp only [Try.f92]
  intro hlen
  simp only [go_sem, List.length_map, and_true, true_and] at hlen
  refine CV.run ?_
  (repeat' (first | ((first | with_reducible refine vcG_split ?_ ?_ | with_reducible refine vcIf_split ?_ ?_ | with_reducible refine vcQ_split ?_ ?_ | with_reducible refine vcDG_split ?_ ?_) <;> intro hb <;> (try rw [hb]) <;> (try simp only [Bool.and_eq_true, Bool.or_eq_true, dtrue, dfalse, Bool.not_eq_true', Bool.not_eq_false', Bool.and_eq_false_iff, Bool.or_eq_false_iff, Bool.not_true, Bool.not_false] at hb) <;> (try simp only [within] at hb) <;> try (simp only [go_sem, hfz])) | refine And.intro (by (first | exact trivial | (simp only [I64]; omega) | omega)) ?_ | (first | (refine vcP_pure (c106 l g cs hcp q hf) rfl ?_ ?_ ?_; (focus (first | rfl | ((simp only [go_sem, hfz, AV.pureL, AV.pure, pureL_mapI, Bool.and_self]) <;> fail))); (focus (first | ((simp only [go_sem, hfz]) <;> fail) | rfl))) | (refine dCallP_pure (c106 l g cs hcp q hf) rfl ?_ ?_ ?_; (focus (first | rfl | ((simp only [go_sem, hfz, AV.pureL, AV.pure, pureL_mapI, Bool.and_self]) <;> fail))); (focus (first | ((simp only [go_sem, hfz]) <;> fail) | rfl))) | refine vcP_safe (c106 l g cs hcp q hf) rfl rfl (by (simp only [go_sem, hfz])) ?_ | refine dCallP_safe (c106 l g cs hcp q hf) rfl rfl ?_) | (simp only [go_sem, hfz])))
  exact bd ix_ge
theorem c86 (s : Shop) (w : List Int) : PC Try.prog 86 [lN w, .pp (cS s)] (.bool (decide (¬ okW s w))) := by
  have h87 := c87 w 88 (fun n => ¬ within n 0 12) fun n _ => (c88 n).dec
  refine PC.body Try.func86 (by kernel_rfl) rfl (by simp [Try.f86]) rfl ?_
  simp only [Try.f86]
  intro hlen
  simp only [go_sem, List.length_map, and_true, true_and] at hlen
  refine CV.run ?_
  (repeat' (first | ((first | with_reducible refine vcG_split ?_ ?_ | with_reducible refine vcIf_split ?_ ?_ | with_reducible refine vcQ_split ?_ ?_ | with_reducible refine vcDG_split ?_ ?_) <;> intro hb <;> (try rw [hb]) <;> (try simp only [Bool.and_eq_true, Bool.or_eq_true, dtrue, dfalse, Bool.not_eq_true', Bool.not_eq_false', Bool.and_eq_false_iff, Bool.or_eq_false_iff, Bool.not_true, Bool.not_false] at hb) <;> (try simp only [within] at hb) <;> try (simp only [go_sem])) | refine And.intro (by (first | exact trivial | (simp only [I64]; omega) | omega)) ?_ | (first | (refine vcP_pure (h87) rfl ?_ ?_ ?_; (focus (first | rfl | ((simp only [go_sem, AV.pureL, AV.pure, pureL_mapI, Bool.and_self]) <;> fail))); (focus (first | ((simp only [go_sem]) <;> fail) | rfl))) | (refine dCallP_pure (h87) rfl ?_ ?_ ?_; (focus (first | rfl | ((simp only [go_sem, AV.pureL, AV.pure, pureL_mapI, Bool.and_self]) <;> fail))); (focus (first | ((simp only [go_sem]) <;> fail) | rfl))) | refine vcP_safe (h87) rfl rfl (by (simp only [go_sem])) ?_ | refine dCallP_safe (h87) rfl rfl ?_) | (simp only [go_sem])))
  all_goals first
    | exact bt (p := ¬ okW s w) fun h => by have := h.1; omega
    | exact bd ⟨fun ⟨n, h1, h2⟩ h => h2 (h.2 n h1), fun h => Classical.byContradiction fun h2 => h ⟨by omega, fun n hn => Classical.byContradiction fun h3 => h2 ⟨n, hn, h3⟩⟩⟩
theorem c89 (s : Shop) (m : Mould) : PC Try.prog 89 [.agg (encD m), .pp (cS s)] (.bool (decide (¬ okM s m))) := by
  simp only [encD]
  refine PC.body Try.func89 (by kernel_rfl) rfl (by simp [Try.f89]) rfl ?_
  simp only [Try.f89]
  intro hlen
  simp only [go_sem, List.length_map, and_true, true_and] at hlen
  refine CV.run ?_
  (repeat' (first | ((first | with_reducible refine vcG_split ?_ ?_ | with_reducible refine vcIf_split ?_ ?_ | with_reducible refine vcQ_split ?_ ?_ | with_reducible refine vcDG_split ?_ ?_) <;> intro hb <;> (try rw [hb]) <;> (try simp only [Bool.and_eq_true, Bool.or_eq_true, dtrue, dfalse, Bool.not_eq_true', Bool.not_eq_false', Bool.and_eq_false_iff, Bool.or_eq_false_iff, Bool.not_true, Bool.not_false] at hb) <;> (try simp only [within] at hb) <;> try (simp only [go_sem])) | refine And.intro (by (first | exact trivial | (simp only [I64]; omega) | omega)) ?_ | (first | (refine vcP_pure (c76 _ _ _) rfl ?_ ?_ ?_; (focus (first | rfl | ((simp only [go_sem, AV.pureL, AV.pure, pureL_mapI, Bool.and_self]) <;> fail))); (focus (first | ((simp only [go_sem]) <;> fail) | rfl))) | (refine dCallP_pure (c76 _ _ _) rfl ?_ ?_ ?_; (focus (first | rfl | ((simp only [go_sem, AV.pureL, AV.pure, pureL_mapI, Bool.and_self]) <;> fail))); (focus (first | ((simp only [go_sem]) <;> fail) | rfl))) | refine vcP_safe (c76 _ _ _) rfl rfl (by (simp only [go_sem])) ?_ | refine dCallP_safe (c76 _ _ _) rfl rfl ?_) | (simp only [go_sem])))
  all_goals first
    | exact bt (p := ¬ okM s m) (by unfold okM within; omega)
    | exact bn (by unfold okM within; omega)
theorem c54 (s : Shop) : PC Try.prog 54 [hS s] (.int .i64 (check s)) := by
  have h87 := c87 s.wt 90 (fun n => ¬ within n 0 12) fun n _ => (c90 n).dec
  have h91 := c91 s.ms 89 (cS s) rfl (fun m => ¬ okM s m) fun m _ => (c89 s m).dec
  have h92 := c92 s.ws 86 (cS s) rfl (fun w => ¬ okW s w) fun w _ => (c86 s w).dec
  refine PC.body Try.func54 (by kernel_rfl) rfl (by simp [Try.f54]) rfl ?_
  simp only [Try.f54]
  intro hlen
  simp only [go_sem, List.length_map, and_true, true_and] at hlen
  refine CV.run ?_
  (repeat' (first | ((first | with_reducible refine vcG_split ?_ ?_ | with_reducible refine vcIf_split ?_ ?_ | with_reducible refine vcQ_split ?_ ?_ | with_reducible refine vcDG_split ?_ ?_) <;> intro hb <;> (try rw [hb]) <;> (try simp only [Bool.and_eq_true, Bool.or_eq_true, dtrue, dfalse, Bool.not_eq_true', Bool.not_eq_false', Bool.and_eq_false_iff, Bool.or_eq_false_iff, Bool.not_true, Bool.not_false] at hb) <;> (try simp only [within] at hb) <;> try (simp only [go_sem])) | refine And.intro (by (first | exact trivial | (simp only [I64]; omega) | omega)) ?_ | (first | (refine vcP_pure (c76 _ _ _) rfl ?_ ?_ ?_; (focus (first | rfl | ((simp only [go_sem, AV.pureL, AV.pure, pureL_mapI, Bool.and_self]) <;> fail))); (focus (first | ((simp only [go_sem]) <;> fail) | rfl))) | (refine dCallP_pure (c76 _ _ _) rfl ?_ ?_ ?_; (focus (first | rfl | ((simp only [go_sem, AV.pureL, AV.pure, pureL_mapI, Bool.and_self]) <;> fail))); (focus (first | ((simp only [go_sem]) <;> fail) | rfl))) | refine vcP_safe (c76 _ _ _) rfl rfl (by (simp only [go_sem])) ?_ | refine dCallP_safe (c76 _ _ _) rfl rfl ?_ | (refine vcP_pure (h87) rfl ?_ ?_ ?_; (focus (first | rfl | ((simp only [go_sem, AV.pureL, AV.pure, pureL_mapI, Bool.and_self]) <;> fail))); (focus (first | ((simp only [go_sem]) <;> fail) | rfl))) | (refine dCallP_pure (h87) rfl ?_ ?_ ?_; (focus (first | rfl | ((simp only [go_sem, AV.pureL, AV.pure, pureL_mapI, Bool.and_self]) <;> fail))); (focus (first | ((simp only [go_sem]) <;> fail) | rfl))) | refine vcP_safe (h87) rfl rfl (by (simp only [go_sem])) ?_ | refine dCallP_safe (h87) rfl rfl ?_ | (refine vcP_pure (h91) rfl ?_ ?_ ?_; (focus (first | rfl | ((simp only [go_sem, AV.pureL, AV.pure, pureL_mapI, Bool.and_self]) <;> fail))); (focus (first | ((simp only [go_sem]) <;> fail) | rfl))) | (refine dCallP_pure (h91) rfl ?_ ?_ ?_; (focus (first | rfl | ((simp only [go_sem, AV.pureL, AV.pure, pureL_mapI, Bool.and_self]) <;> fail))); (focus (first | ((simp only [go_sem]) <;> fail) | rfl))) | refine vcP_safe (h91) rfl rfl (by (simp only [go_sem])) ?_ | refine dCallP_safe (h91) rfl rfl ?_ | (refine vcP_pure (h92) rfl ?_ ?_ ?_; (focus (first | rfl | ((simp only [go_sem, AV.pureL, AV.pure, pureL_mapI, Bool.and_self]) <;> fail))); (focus (first | ((simp only [go_sem]) <;> fail) | rfl))) | (refine dCallP_pure (h92) rfl ?_ ?_ ?_; (focus (first | rfl | ((simp only [go_sem, AV.pureL, AV.pure, pureL_mapI, Bool.and_self]) <;> fail))); (focus (first | ((simp only [go_sem]) <;> fail) | rfl))) | refine vcP_safe (h92) rfl rfl (by (simp only [go_sem])) ?_ | refine dCallP_safe (h92) rfl rfl ?_) | (simp only [go_sem])))
  all_goals try exact ck20 (not_valid (by unfold within; omega))
  · obtain ⟨n, h1, h2⟩ := hb
    exact ck20 fun q => h2 (q.2.2.2.2.1 n h1)
  · obtain ⟨n, h1, h2⟩ := hb
    exact ck20 fun q => h2 (q.2.2.2.2.2.1 n h1)
  · obtain ⟨n, h1, h2⟩ := hb
    exact ck20 fun q => h2 (q.2.2.2.2.2.2 n h1)
  · rename_i a1 a2 a3 a4 a5 a6
    exact ck0 ⟨by omega, by omega, by omega, a4, fun n hn => Classical.byContradiction fun h => a5 ⟨n, hn, h⟩, fun n hn => Classical.byContradiction fun h => a6 ⟨n, hn, h⟩, fun n hn => Classical.byContradiction fun h => hb ⟨n, hn, h⟩⟩
end Go.Proofs.Ytekdocalipchpaa
