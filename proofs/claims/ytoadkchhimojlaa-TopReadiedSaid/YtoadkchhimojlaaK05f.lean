/- Contracts of functions of the given program, without a condition beyond those that each theorem states; they lead to the given statement. -/
import Derived.Test.YtoadkchhimojlaaK05e
set_option linter.unusedSimpArgs false
set_option linter.unusedVariables false
set_option maxRecDepth 100000
namespace Go.Proofs.Ytoadkchhimojlaa.W5
open Go Go.Fl
open Classical
theorem c113 (l : List Int) (n : Int) : PC Try.prog 113 [lN l, .int .i64 n] (.int .i64 (ix (fun y => y = n) l)) := by
  refine PC.body Try.func113 (by kernel_rfl) rfl (by simp [Try.f113]) rfl ?_
  simp only [Try.f113]
  intro hlen
  simp only [go_sem, List.length_map, and_true, true_and] at hlen
  refine CV.run ?_
  (repeat' (first | ((first | with_reducible refine vcG_split ?_ ?_ | with_reducible refine vcIf_split ?_ ?_ | with_reducible refine vcQ_split ?_ ?_ | with_reducible refine vcDG_split ?_ ?_) <;> intro hb <;> (try rw [hb]) <;> (try simp only [Bool.and_eq_true, Bool.or_eq_true, dtrue, dfalse, Bool.not_eq_true', Bool.not_eq_false', Bool.and_eq_false_iff, Bool.or_eq_false_iff, Bool.not_true, Bool.not_false] at hb) <;> (try simp only [within] at hb) <;> try (simp only [go_sem])) | refine And.intro (by (first | exact trivial | (simp only [I64]; omega) | omega)) ?_ | (simp only [go_sem])))
  refine vc_for (fun j => ⟨[(8, .int .i64 j), (7, .int .i64 l.length), (4, .int .i64 0), (0, lN l), (1, .int .i64 n)], []⟩) l.length (fun j => ∀ i, i < j → l[i]? ≠ some n) (by (first | exact wk_same (by (simp only [go_sem, Int.natCast_add, Int.natCast_one, Int.natCast_zero, Int.cast_ofNat_Int])) | exact wk_drop (by (simp only [go_sem, Int.natCast_add, Int.natCast_one, Int.natCast_zero, Int.cast_ofNat_Int])) (by (simp only [go_sem, Int.natCast_add, Int.natCast_one, Int.natCast_zero, Int.cast_ofNat_Int])) (by (simp only [go_sem, Int.natCast_add, Int.natCast_one, Int.natCast_zero, Int.cast_ofNat_Int])) (by (simp only [go_sem, Int.natCast_add, Int.natCast_one, Int.natCast_zero, Int.cast_ofNat_Int])) (by (simp only [go_sem, Int.natCast_add, Int.natCast_one, Int.natCast_zero, Int.cast_ofNat_Int])))) (fun i h => by omega) ?_
  intro j hj hx
  rcases Nat.lt_or_ge j l.length with hlt | hge
  · obtain ⟨a, ha⟩ := get_of hlt
    have hlt' : (j : Int) < l.length := by omega
    by_cases e : n = a
    · rw [ix_at (q := fun y => y = n) (j := j) ⟨⟨a, ha, e.symm⟩, fun i hi b hb h => hx i hi (by rw [hb, h])⟩]
      (repeat' (first | ((first | with_reducible refine vcG_split ?_ ?_ | with_reducible refine vcIf_split ?_ ?_ | with_reducible refine vcQ_split ?_ ?_ | with_reducible refine vcDG_split ?_ ?_) <;> intro hb <;> (try rw [hb]) <;> (try simp only [Bool.and_eq_true, Bool.or_eq_true, dtrue, dfalse, Bool.not_eq_true', Bool.not_eq_false', Bool.and_eq_false_iff, Bool.or_eq_false_iff, Bool.not_true, Bool.not_false] at hb) <;> (try simp only [within] at hb) <;> try (simp only [go_sem, hlt', ha, encN, e])) | refine And.intro (by (first | exact trivial | (simp only [I64]; omega) | omega)) ?_ | (simp only [go_sem, hlt', ha, encN, e])))
      all_goals omega
    · (repeat' (first | ((first | with_reducible refine vcG_split ?_ ?_ | with_reducible refine vcIf_split ?_ ?_ | with_reducible refine vcQ_split ?_ ?_ | with_reducible refine vcDG_split ?_ ?_) <;> intro hb <;> (try rw [hb]) <;> (try simp only [Bool.and_eq_true, Bool.or_eq_true, dtrue, dfalse, Bool.not_eq_true', Bool.not_eq_false', Bool.and_eq_false_iff, Bool.or_eq_false_iff, Bool.not_true, Bool.not_false] at hb) <;> (try simp only [within] at hb) <;> try (simp only [go_sem, hlt', ha, encN, e])) | refine And.intro (by (first | exact trivial | (simp only [I64]; omega) | omega)) ?_ | (simp only [go_sem, hlt', ha, encN, e])))
      refine ⟨by (first | exact wk_same (by (simp only [go_sem, Int.natCast_add, Int.natCast_one, Int.natCast_zero, Int.cast_ofNat_Int])) | exact wk_drop (by (simp only [go_sem, Int.natCast_add, Int.natCast_one, Int.natCast_zero, Int.cast_ofNat_Int])) (by (simp only [go_sem, Int.natCast_add, Int.natCast_one, Int.natCast_zero, Int.cast_ofNat_Int])) (by (simp only [go_sem, Int.natCast_add, Int.natCast_one, Int.natCast_zero, Int.cast_ofNat_Int])) (by (simp only [go_sem, Int.natCast_add, Int.natCast_one, Int.natCast_zero, Int.cast_ofNat_Int])) (by (simp only [go_sem, Int.natCast_add, Int.natCast_one, Int.natCast_zero, Int.cast_ofNat_Int]))), fun i hi => ?_⟩
      rcases Nat.lt_or_ge i j with h | h
      · exact hx i h
      · have : i = j := by omega
        subst this
        rw [ha]; intro h2; cases h2; exact e rfl
  · have hge' : ¬ (j : Int) < l.length := by omega
    rw [ix_no (q := fun y => y = n) fun i b hb h => hx i (by have := (List.getElem?_eq_some_iff.1 hb).1; omega) (by rw [hb, h])]
    (repeat' (first | ((first | with_reducible refine vcG_split ?_ ?_ | with_reducible refine vcIf_split ?_ ?_ | with_reducible refine vcQ_split ?_ ?_ | with_reducible refine vcDG_split ?_ ?_) <;> intro hb <;> (try rw [hb]) <;> (try simp only [Bool.and_eq_true, Bool.or_eq_true, dtrue, dfalse, Bool.not_eq_true', Bool.not_eq_false', Bool.and_eq_false_iff, Bool.or_eq_false_iff, Bool.not_true, Bool.not_false] at hb) <;> (try simp only [within] at hb) <;> try (simp only [go_sem, hge'])) | refine And.intro (by (first | exact trivial | (simp only [I64]; omega) | omega)) ?_ | (simp only [go_sem, hge'])))
theorem c104 (l : List Int) (n : Int) : PC Try.prog 104 [lN l, .int .i64 n] (.bool (decide (n ∈ l))) := by
  refine PC.body Try.func104 (by kernel_rfl) rfl (by simp [Try.f104]) rfl ?_
  simp only [Try.f104]
  intro hlen
  simp only [go_sem, List.length_map, and_true, true_and] at hlen
  refine CV.run ?_
  (repeat' (first | ((first | with_reducible refine vcG_split ?_ ?_ | with_reducible refine vcIf_split ?_ ?_ | with_reducible refine vcQ_split ?_ ?_ | with_reducible refine vcDG_split ?_ ?_) <;> intro hb <;> (try rw [hb]) <;> (try simp only [Bool.and_eq_true, Bool.or_eq_true, dtrue, dfalse, Bool.not_eq_true', Bool.not_eq_false', Bool.and_eq_false_iff, Bool.or_eq_false_iff, Bool.not_true, Bool.not_false] at hb) <;> (try simp only [within] at hb) <;> try (simp only [go_sem])) | refine And.intro (by (first | exact trivial | (simp only [I64]; omega) | omega)) ?_ | (first | (refine vcP_pure (c113 _ _) rfl ?_ ?_ ?_; (focus (first | rfl | ((simp only [go_sem, AV.pureL, AV.pure, pureL_mapI, Bool.and_self]) <;> fail))); (focus (first | ((simp only [go_sem]) <;> fail) | rfl))) | (refine dCallP_pure (c113 _ _) rfl ?_ ?_ ?_; (focus (first | rfl | ((simp only [go_sem, AV.pureL, AV.pure, pureL_mapI, Bool.and_self]) <;> fail))); (focus (first | ((simp only [go_sem]) <;> fail) | rfl))) | (refine dCallC_pure (c113 _ _) rfl ?_ ?_ ?_; (focus (first | rfl | ((simp only [go_sem, AV.pureL, AV.pure, pureL_mapI, Bool.and_self]) <;> fail))); (focus (first | ((simp only [go_sem]) <;> fail) | rfl))) | refine dCallC_safe (c113 _ _) rfl rfl (by (simp only [go_sem])) ?_ | refine vcP_safe (c113 _ _) rfl rfl (by (simp only [go_sem])) ?_ | refine dCallP_safe (c113 _ _) rfl rfl ?_) | (simp only [go_sem])))
  exact bd (by rw [ix_ge]; exact ⟨fun ⟨a, h1, h2⟩ => h2 ▸ h1, fun h => ⟨n, h, rfl⟩⟩)
theorem c74 (l : List Int) (hl : l.length ≤ 1000000) : PC Try.prog 74 [lN l] (lN l) := by
  refine PC.body Try.func74 (by kernel_rfl) rfl (by simp [Try.f74]) rfl ?_
  simp only [Try.f74]
  intro hlen
  simp only [go_sem, List.length_map, and_true, true_and] at hlen
  refine CV.run ?_
  (repeat' (first | ((first | with_reducible refine vcG_split ?_ ?_ | with_reducible refine vcIf_split ?_ ?_ | with_reducible refine vcQ_split ?_ ?_ | with_reducible refine vcDG_split ?_ ?_) <;> intro hb <;> (try rw [hb]) <;> (try simp only [Bool.and_eq_true, Bool.or_eq_true, dtrue, dfalse, Bool.not_eq_true', Bool.not_eq_false', Bool.and_eq_false_iff, Bool.or_eq_false_iff, Bool.not_true, Bool.not_false] at hb) <;> (try simp only [within] at hb) <;> try (simp only [go_sem])) | refine And.intro (by (first | exact trivial | (simp only [I64]; omega) | omega)) ?_ | (simp only [go_sem])))
  all_goals exact .inl trivial
def miss : Nat → List Int → Nat
  | 0, _ => 0
  | n + 1, l => miss n l + if (n : Int) ∈ l then 0 else 1
theorem miss_le : ∀ (n : Nat) (l : List Int) (x : Int), miss n (l ++ [x]) ≤ miss n l
  | 0, _, _ => Nat.le_refl _
  | n + 1, l, x => by
    have := miss_le n l x
    simp only [miss, List.mem_append, List.mem_singleton]
    by_cases h : (n : Int) ∈ l
    · simp [h]; exact this
    · by_cases h2 : (n : Int) = x <;> simp [h, h2] <;> omega
theorem miss_lt : ∀ (n : Nat) (l : List Int) (j : Nat), j < n → ¬ (j : Int) ∈ l → miss n (l ++ [(j : Int)]) + 1 ≤ miss n l
  | 0, _, _, h, _ => by omega
  | n + 1, l, j, h, hj => by
    have h1 := miss_le n l (j : Int)
    simp only [miss, List.mem_append, List.mem_singleton]
    by_cases e : n = j
    · subst e; simp [hj]; omega
    · have := miss_lt n l j (by omega) hj
      have e2 : ¬ (n : Int) = (j : Int) := by omega
      simp only [e2, or_false]
      split <;> omega
theorem miss_zero : ∀ (n : Nat) (l : List Int), miss n l = 0 → ∀ j : Nat, j < n → (j : Int) ∈ l
  | 0, _, _, j, hj => by omega
  | n + 1, l, h, j, hj => by
    simp only [miss] at h
    by_cases e : j = n
    · subst e
      by_cases hm : (j : Int) ∈ l
      · exact hm
      · rw [if_neg hm] at h; omega
    · exact miss_zero n l (by omega) j (by omega)
def ordF (n : Nat) : Nat → List Int → List (List Int)
  | 0, pre => [pre]
  | d + 1, pre => pre :: (List.range n).flatMap fun (j : Nat) => if (j : Int) ∈ pre then [] else ordF n d (pre ++ [(j : Int)])
def ordT (n d : Nat) (pre : List Int) (j : Nat) : List (List Int) := (List.range j).flatMap fun (j : Nat) => if (j : Int) ∈ pre then [] else ordF n d (pre ++ [(j : Int)])
theorem ordT_zero {n d : Nat} {pre : List Int} : ordT n d pre 0 = [] := rfl
theorem ordT_yes {n d : Nat} {pre : List Int} {j : Nat} (h : ¬ (j : Int) ∈ pre) : ordT n d pre (j + 1) = ordT n d pre j ++ ordF n d (pre ++ [(j : Int)]) := by
  simp [ordT, List.range_succ, h]
theorem ordT_no {n d : Nat} {pre : List Int} {j : Nat} (h : (j : Int) ∈ pre) : ordT n d pre (j + 1) = ordT n d pre j := by
  simp [ordT, List.range_succ, h]
end Go.Proofs.Ytoadkchhimojlaa.W5

