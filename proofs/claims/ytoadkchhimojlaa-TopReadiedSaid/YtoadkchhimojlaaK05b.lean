/- Contracts of functions of the given program, without a condition beyond those that each theorem states; they lead to the given statement. -/
import Derived.Test.YtoadkchhimojlaaK05a
set_option linter.unusedSimpArgs false
set_option linter.unusedVariables false
set_option maxRecDepth 100000
namespace Go.Proofs.Ytoadkchhimojlaa.W5
open Go Go.Fl
open Classical
def isOrd (n : Nat) (l : List Int) : Prop := ∀ (i : Nat) (x : Int), l[i]? = some x → within x 0 (n - 1) ∧ ∀ k : Nat, k < i → l[k]? ≠ some x
def ordTo (n : Nat) (l : List Int) (j : Nat) : Prop := allTo (fun i x => within x 0 (n - 1) ∧ ∀ k : Nat, k < i → l[k]? ≠ some x) l j
theorem mem_takeI {l : List Int} {j : Nat} {x : Int} : x ∈ l.take j ↔ ∃ k : Nat, k < j ∧ l[k]? = some x := by
  rw [List.mem_iff_getElem?]
  constructor
  · rintro ⟨k, hk⟩
    rw [List.getElem?_take] at hk
    split at hk
    · exact ⟨k, by assumption, hk⟩
    · cases hk
  · rintro ⟨k, h1, h2⟩
    exact ⟨k, by rw [List.getElem?_take, if_pos h1]; exact h2⟩
theorem ord_no {n : Nat} {l : List Int} {j : Nat} {a : Int} (ha : l[j]? = some a) (h : ¬ within a 0 (n - 1) ∨ a ∈ l.take j) : ¬ isOrd n l := fun q => by
  obtain ⟨q1, q2⟩ := q j a ha
  rcases h with h | h
  · exact h q1
  · obtain ⟨k, k1, k2⟩ := mem_takeI.1 h
    exact q2 k k1 k2
theorem ord_go {n : Nat} {l : List Int} {j : Nat} {a : Int} (hx : ordTo n l j) (ha : l[j]? = some a) (h1 : within a 0 (n - 1)) (h2 : ¬ a ∈ l.take j) : ordTo n l (j + 1) :=
  allTo.succ hx ha ⟨h1, fun k hk e => h2 (mem_takeI.2 ⟨k, hk, e⟩)⟩
set_option maxHeartbeats 1000000 in
theorem c17 (s : List Job) (l : List Int) (hl : l.length ≤ 1000000) : PC Try.prog 17 [hS s, lN l] (.bool (decide (isOrd s.length l))) := by
  refine PC.body Try.func17 (by kernel_rfl) rfl (by simp [Try.f17]) rfl ?_
  simp only [Try.f17]
  intro hlen
  simp only [go_sem, List.length_map, and_true, true_and] at hlen
  refine CV.run ?_
  (repeat' (first | ((first | with_reducible refine vcG_split ?_ ?_ | with_reducible refine vcIf_split ?_ ?_ | with_reducible refine vcQ_split ?_ ?_ | with_reducible refine vcDG_split ?_ ?_) <;> intro hb <;> (try rw [hb]) <;> (try simp only [Bool.and_eq_true, Bool.or_eq_true, dtrue, dfalse, Bool.not_eq_true', Bool.not_eq_false', Bool.and_eq_false_iff, Bool.or_eq_false_iff, Bool.not_true, Bool.not_false] at hb) <;> (try simp only [within] at hb) <;> try (simp only [go_sem])) | refine And.intro (by (first | exact trivial | (simp only [I64]; omega) | omega)) ?_ | (with_reducible rw [vc_draw_eq]; first | refine CV.draw (id := 4) [(0, 0), (0, 0), (0, 0), (0, 0), (0, 0), (0, 0), (0, 0), (0, 0), (0, 0), (0, 0), (0, 0), (0, 0), (99, 0), (0, 1), (0, 1), (0, 1), (0, 1), (1, 1), (1, 1)] mixed rfl (by kernel_rfl) ?_) | (with_reducible refine vcM_some fun mg => ?_) | (simp only [go_sem])))
  refine vc_for (fun j => ⟨[(5, .int .i64 j), (4, .bool false), (1, lN l), (2, .lp 0 0)], [.box 48 (cS s) false]⟩) l.length (fun j => ordTo s.length l j) (by (first | exact wk_same (by (simp only [go_sem, Int.natCast_add, Int.natCast_one, Int.natCast_zero, Int.cast_ofNat_Int])) | exact wk_drop (by (simp only [go_sem, Int.natCast_add, Int.natCast_one, Int.natCast_zero, Int.cast_ofNat_Int])) (by (simp only [go_sem, Int.natCast_add, Int.natCast_one, Int.natCast_zero, Int.cast_ofNat_Int])) (by (simp only [go_sem, Int.natCast_add, Int.natCast_one, Int.natCast_zero, Int.cast_ofNat_Int])) (by (simp only [go_sem, Int.natCast_add, Int.natCast_one, Int.natCast_zero, Int.cast_ofNat_Int])) (by (simp only [go_sem, Int.natCast_add, Int.natCast_one, Int.natCast_zero, Int.cast_ofNat_Int])))) .zero ?_
  intro j hj hx
  rcases Nat.lt_or_ge j l.length with hlt | hge
  · obtain ⟨a, ha⟩ := get_of hlt
    have hlt' : (j : Int) < l.length := by omega
    (repeat' (first | ((first | with_reducible refine vcG_split ?_ ?_ | with_reducible refine vcIf_split ?_ ?_ | with_reducible refine vcQ_split ?_ ?_ | with_reducible refine vcDG_split ?_ ?_) <;> intro hb <;> (try rw [hb]) <;> (try simp only [Bool.and_eq_true, Bool.or_eq_true, dtrue, dfalse, Bool.not_eq_true', Bool.not_eq_false', Bool.and_eq_false_iff, Bool.or_eq_false_iff, Bool.not_true, Bool.not_false] at hb) <;> (try simp only [within] at hb) <;> try (simp only [go_sem, hlt', ha, encN, ← List.map_take, List.length_map, List.length_take, true_or])) | refine And.intro (by (first | exact trivial | (simp only [I64]; omega) | omega)) ?_ | (with_reducible rw [vc_draw_eq]; first | refine CV.draw (id := 4) [(0, 0), (0, 0), (0, 0), (0, 0), (0, 0), (0, 0), (0, 0), (0, 0), (0, 0), (0, 0), (0, 0), (0, 0), (99, 0), (0, 1), (0, 1), (0, 1), (0, 1), (1, 1), (1, 1)] mixed rfl (by kernel_rfl) ?_) | (first | (refine vcP_pure (c42 _ _) rfl ?_ ?_ ?_; (focus (first | rfl | ((simp only [go_sem, hlt', ha, encN, ← List.map_take, List.length_map, List.length_take, true_or, AV.pureL, AV.pure, pureL_mapI, Bool.and_self]) <;> fail))); (focus (first | ((simp only [go_sem, hlt', ha, encN, ← List.map_take, List.length_map, List.length_take, true_or]) <;> fail) | rfl))) | (refine dCallP_pure (c42 _ _) rfl ?_ ?_ ?_; (focus (first | rfl | ((simp only [go_sem, hlt', ha, encN, ← List.map_take, List.length_map, List.length_take, true_or, AV.pureL, AV.pure, pureL_mapI, Bool.and_self]) <;> fail))); (focus (first | ((simp only [go_sem, hlt', ha, encN, ← List.map_take, List.length_map, List.length_take, true_or]) <;> fail) | rfl))) | (refine dCallC_pure (c42 _ _) rfl ?_ ?_ ?_; (focus (first | rfl | ((simp only [go_sem, hlt', ha, encN, ← List.map_take, List.length_map, List.length_take, true_or, AV.pureL, AV.pure, pureL_mapI, Bool.and_self]) <;> fail))); (focus (first | ((simp only [go_sem, hlt', ha, encN, ← List.map_take, List.length_map, List.length_take, true_or]) <;> fail) | rfl))) | refine dCallC_safe (c42 _ _) rfl rfl (by (simp only [go_sem, hlt', ha, encN, ← List.map_take, List.length_map, List.length_take, true_or])) ?_ | refine vcP_safe (c42 _ _) rfl rfl (by (simp only [go_sem, hlt', ha, encN, ← List.map_take, List.length_map, List.length_take, true_or])) ?_ | refine dCallP_safe (c42 _ _) rfl rfl ?_ | (refine vcP_pure (c43 (l.take j) _) rfl ?_ ?_ ?_; (focus (first | rfl | ((simp only [go_sem, hlt', ha, encN, ← List.map_take, List.length_map, List.length_take, true_or, AV.pureL, AV.pure, pureL_mapI, Bool.and_self]) <;> fail))); (focus (first | ((simp only [go_sem, hlt', ha, encN, ← List.map_take, List.length_map, List.length_take, true_or]) <;> fail) | rfl))) | (refine dCallP_pure (c43 (l.take j) _) rfl ?_ ?_ ?_; (focus (first | rfl | ((simp only [go_sem, hlt', ha, encN, ← List.map_take, List.length_map, List.length_take, true_or, AV.pureL, AV.pure, pureL_mapI, Bool.and_self]) <;> fail))); (focus (first | ((simp only [go_sem, hlt', ha, encN, ← List.map_take, List.length_map, List.length_take, true_or]) <;> fail) | rfl))) | (refine dCallC_pure (c43 (l.take j) _) rfl ?_ ?_ ?_; (focus (first | rfl | ((simp only [go_sem, hlt', ha, encN, ← List.map_take, List.length_map, List.length_take, true_or, AV.pureL, AV.pure, pureL_mapI, Bool.and_self]) <;> fail))); (focus (first | ((simp only [go_sem, hlt', ha, encN, ← List.map_take, List.length_map, List.length_take, true_or]) <;> fail) | rfl))) | refine dCallC_safe (c43 (l.take j) _) rfl rfl (by (simp only [go_sem, hlt', ha, encN, ← List.map_take, List.length_map, List.length_take, true_or])) ?_ | refine vcP_safe (c43 (l.take j) _) rfl rfl (by (simp only [go_sem, hlt', ha, encN, ← List.map_take, List.length_map, List.length_take, true_or])) ?_ | refine dCallP_safe (c43 (l.take j) _) rfl rfl ?_) | (with_reducible refine vcM_some fun mg => ?_) | (simp only [go_sem, hlt', ha, encN, ← List.map_take, List.length_map, List.length_take, true_or])))
    · exact bf (ord_no ha (.inl (by unfold within; omega)))
    · exact bf (ord_no ha (.inr hb))
    · exact ⟨by (first | exact wk_same (by (simp only [go_sem, Int.natCast_add, Int.natCast_one, Int.natCast_zero, Int.cast_ofNat_Int])) | exact wk_drop (by (simp only [go_sem, Int.natCast_add, Int.natCast_one, Int.natCast_zero, Int.cast_ofNat_Int])) (by (simp only [go_sem, Int.natCast_add, Int.natCast_one, Int.natCast_zero, Int.cast_ofNat_Int])) (by (simp only [go_sem, Int.natCast_add, Int.natCast_one, Int.natCast_zero, Int.cast_ofNat_Int])) (by (simp only [go_sem, Int.natCast_add, Int.natCast_one, Int.natCast_zero, Int.cast_ofNat_Int])) (by (simp only [go_sem, Int.natCast_add, Int.natCast_one, Int.natCast_zero, Int.cast_ofNat_Int]))), ord_go hx ha (by unfold within; omega) hb⟩
  · have hge' : ¬ (j : Int) < l.length := by omega
    (repeat' (first | ((first | with_reducible refine vcG_split ?_ ?_ | with_reducible refine vcIf_split ?_ ?_ | with_reducible refine vcQ_split ?_ ?_ | with_reducible refine vcDG_split ?_ ?_) <;> intro hb <;> (try rw [hb]) <;> (try simp only [Bool.and_eq_true, Bool.or_eq_true, dtrue, dfalse, Bool.not_eq_true', Bool.not_eq_false', Bool.and_eq_false_iff, Bool.or_eq_false_iff, Bool.not_true, Bool.not_false] at hb) <;> (try simp only [within] at hb) <;> try (simp only [go_sem, hge'])) | refine And.intro (by (first | exact trivial | (simp only [I64]; omega) | omega)) ?_ | (with_reducible rw [vc_draw_eq]; first | refine CV.draw (id := 4) [(0, 0), (0, 0), (0, 0), (0, 0), (0, 0), (0, 0), (0, 0), (0, 0), (0, 0), (0, 0), (0, 0), (0, 0), (99, 0), (0, 1), (0, 1), (0, 1), (0, 1), (1, 1), (1, 1)] mixed rfl (by kernel_rfl) ?_) | (with_reducible refine vcM_some fun mg => ?_) | (simp only [go_sem, hge'])))
    exact bt (p := isOrd s.length l) (hx.all hge)
theorem check_yes {s : List Job} (h : valid s) : check s = 0 := if_pos h
theorem check_no {s : List Job} (h : ¬ valid s) : check s = 50 := if_neg h
theorem c46n (s : List Job) : PC Try.prog 46 [hS s, .nilF] (.tup [hS s, .int .i64 (check s)]) := by
  by_cases hv : valid s
  · have hc := check_yes hv
    rw [hc]
    refine PC.body Try.func46 (by kernel_rfl) rfl (by simp [Try.f46]) rfl ?_
    simp only [Try.f46]
    intro hlen
    simp only [go_sem, List.length_map, and_true, true_and] at hlen
    refine CV.run ?_
    (repeat' (first | ((first | with_reducible refine vcG_split ?_ ?_ | with_reducible refine vcIf_split ?_ ?_ | with_reducible refine vcQ_split ?_ ?_ | with_reducible refine vcDG_split ?_ ?_) <;> intro hb <;> (try rw [hb]) <;> (try simp only [Bool.and_eq_true, Bool.or_eq_true, dtrue, dfalse, Bool.not_eq_true', Bool.not_eq_false', Bool.and_eq_false_iff, Bool.or_eq_false_iff, Bool.not_true, Bool.not_false] at hb) <;> (try simp only [within] at hb) <;> try (simp only [go_sem, hc])) | refine And.intro (by (first | exact trivial | (simp only [I64]; omega) | omega)) ?_ | (first | (refine vcP_pure (c75 _) rfl ?_ ?_ ?_; (focus (first | rfl | ((simp only [go_sem, hc, AV.pureL, AV.pure, pureL_mapI, Bool.and_self]) <;> fail))); (focus (first | ((simp only [go_sem, hc]) <;> fail) | rfl))) | (refine dCallP_pure (c75 _) rfl ?_ ?_ ?_; (focus (first | rfl | ((simp only [go_sem, hc, AV.pureL, AV.pure, pureL_mapI, Bool.and_self]) <;> fail))); (focus (first | ((simp only [go_sem, hc]) <;> fail) | rfl))) | (refine dCallC_pure (c75 _) rfl ?_ ?_ ?_; (focus (first | rfl | ((simp only [go_sem, hc, AV.pureL, AV.pure, pureL_mapI, Bool.and_self]) <;> fail))); (focus (first | ((simp only [go_sem, hc]) <;> fail) | rfl))) | refine dCallC_safe (c75 _) rfl rfl (by (simp only [go_sem, hc])) ?_ | refine vcP_safe (c75 _) rfl rfl (by (simp only [go_sem, hc])) ?_ | refine dCallP_safe (c75 _) rfl rfl ?_) | (with_reducible refine vcM_some fun mg => ?_) | (simp only [go_sem, hc])))
  · have hc := check_no hv
    rw [hc]
    refine PC.body Try.func46 (by kernel_rfl) rfl (by simp [Try.f46]) rfl ?_
    simp only [Try.f46]
    intro hlen
    simp only [go_sem, List.length_map, and_true, true_and] at hlen
    refine CV.run ?_
    (repeat' (first | ((first | with_reducible refine vcG_split ?_ ?_ | with_reducible refine vcIf_split ?_ ?_ | with_reducible refine vcQ_split ?_ ?_ | with_reducible refine vcDG_split ?_ ?_) <;> intro hb <;> (try rw [hb]) <;> (try simp only [Bool.and_eq_true, Bool.or_eq_true, dtrue, dfalse, Bool.not_eq_true', Bool.not_eq_false', Bool.and_eq_false_iff, Bool.or_eq_false_iff, Bool.not_true, Bool.not_false] at hb) <;> (try simp only [within] at hb) <;> try (simp only [go_sem, hc])) | refine And.intro (by (first | exact trivial | (simp only [I64]; omega) | omega)) ?_ | (first | (refine vcP_pure (c75 _) rfl ?_ ?_ ?_; (focus (first | rfl | ((simp only [go_sem, hc, AV.pureL, AV.pure, pureL_mapI, Bool.and_self]) <;> fail))); (focus (first | ((simp only [go_sem, hc]) <;> fail) | rfl))) | (refine dCallP_pure (c75 _) rfl ?_ ?_ ?_; (focus (first | rfl | ((simp only [go_sem, hc, AV.pureL, AV.pure, pureL_mapI, Bool.and_self]) <;> fail))); (focus (first | ((simp only [go_sem, hc]) <;> fail) | rfl))) | (refine dCallC_pure (c75 _) rfl ?_ ?_ ?_; (focus (first | rfl | ((simp only [go_sem, hc, AV.pureL, AV.pure, pureL_mapI, Bool.and_self]) <;> fail))); (focus (first | ((simp only [go_sem, hc]) <;> fail) | rfl))) | refine dCallC_safe (c75 _) rfl rfl (by (simp only [go_sem, hc])) ?_ | refine vcP_safe (c75 _) rfl rfl (by (simp only [go_sem, hc])) ?_ | refine dCallP_safe (c75 _) rfl rfl ?_) | (with_reducible refine vcM_some fun mg => ?_) | (simp only [go_sem, hc])))
theorem shift_mapJ {n : Nat} {l : List Job} : List.map (shiftL n) (List.map encJ l) = List.map encJ l := by
  rw [List.map_map]; exact List.map_congr_left fun a _ => by simp [encJ, shiftL, shiftV]
theorem sub_mapJ {b n : Nat} {v : AV} {l : List Job} : List.map (subL b n v) (List.map encJ l) = List.map encJ l := by
  rw [List.map_map]; exact List.map_congr_left fun a _ => by simp [encJ, subL, subV]
attribute [go_sem] shift_mapJ sub_mapJ
end Go.Proofs.Ytoadkchhimojlaa.W5

