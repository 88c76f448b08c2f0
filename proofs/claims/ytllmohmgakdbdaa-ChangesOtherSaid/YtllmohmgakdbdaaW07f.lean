/- Contracts of functions of the given program, without a condition beyond those that each theorem states; they lead to the given statement. -/
import Derived.Test.YtllmohmgakdbdaaW07e
set_option linter.unusedSimpArgs false
set_option linter.unusedVariables false
set_option maxRecDepth 100000
namespace Go.Proofs.Ytllmohmgakdbdaa
open Go Go.Fl
open Classical
def firstAt {α : Type} (q : α → Prop) (l : List α) (j : Nat) : Prop := (∃ a, l[j]? = some a ∧ q a) ∧ ∀ i, i < j → ∀ b, l[i]? = some b → ¬ q b
noncomputable def ix {α : Type} (q : α → Prop) (l : List α) : Int := if h : ∃ j, firstAt q l j then (Classical.choose h : Nat) else -1
theorem ix_at {α : Type} {q : α → Prop} {l : List α} {j : Nat} (h : firstAt q l j) : ix q l = j := by
  have hx : ∃ j, firstAt q l j := ⟨j, h⟩
  unfold ix
  rw [dif_pos hx]
  have hs := Classical.choose_spec hx
  generalize Classical.choose hx = k at hs
  obtain ⟨⟨a, h1, h2⟩, h3⟩ := h
  obtain ⟨⟨b, h4, h5⟩, h6⟩ := hs
  rcases Nat.lt_trichotomy j k with hl | hl | hl
  · exact absurd h2 (h6 j hl a h1)
  · rw [hl]
  · exact absurd h5 (h3 k hl b h4)
theorem ix_no {α : Type} {q : α → Prop} {l : List α} (h : ∀ (i : Nat) (b : α), l[i]? = some b → ¬ q b) : ix q l = -1 := by
  unfold ix
  rw [dif_neg]
  rintro ⟨j, ⟨a, h1, h2⟩, _⟩
  exact h j a h1 h2
theorem first_of {α : Type} {q : α → Prop} {l : List α} (h : ∃ a, a ∈ l ∧ q a) : ∃ j, firstAt q l j := by
  obtain ⟨a, ha, hq⟩ := h
  obtain ⟨i, hi⟩ := List.mem_iff_getElem?.1 ha
  induction i using Nat.strongRecOn generalizing a with
  | _ i ih =>
    by_cases hx : ∃ j, j < i ∧ ∃ b, l[j]? = some b ∧ q b
    · obtain ⟨j, hj, b, hb, hqb⟩ := hx
      exact ih j hj b (List.mem_of_getElem? hb) hqb hb
    · exact ⟨i, ⟨a, hi, hq⟩, fun j hj b hb hqb => hx ⟨j, hj, b, hb, hqb⟩⟩
theorem ix_ge {α : Type} {q : α → Prop} {l : List α} : 0 ≤ ix q l ↔ ∃ a, a ∈ l ∧ q a := by
  by_cases h : ∃ a, a ∈ l ∧ q a
  · obtain ⟨j, hj⟩ := first_of h
    rw [ix_at hj]
    exact ⟨fun _ => h, fun _ => by omega⟩
  · rw [ix_no (fun i b hb hq => h ⟨b, List.mem_of_getElem? hb, hq⟩)]
    exact ⟨fun h => by omega, fun h' => absurd h' h⟩
theorem bn {p q : Prop} {i : Decidable p} {j : Decidable q} (h : q ↔ ¬ p) : AV.bool (!@decide p i) = AV.bool (@decide q j) := by
  by_cases hp : p <;> simp [h, hp]
theorem c81 (ts : List Thing) (ms : List Mark) (m : Mark) {i : Decidable (¬ okMark ts m)} : PC Try.prog 81 [.agg (encM m), .pp [.lst false 4 (ts.map encT), .lst false 3 (ms.map encM)]] (.bool (@decide (¬ okMark ts m) i)) := by
  simp only [encM]
  refine PC.body Try.func81 (by kernel_rfl) rfl (by simp [Try.f81]) rfl ?_
  simp only [Try.f81]
  intro hlen
  simp only [go_sem, List.length_map, and_true, true_and] at hlen
  refine CV.run ?_
  by_cases hr : 0 ≤ m.thing ∧ m.thing < ts.length
  · obtain ⟨u, hu⟩ := get_of (l := ts) (j := m.thing.toNat) (by omega)
    have hup := upAt_of hu
    (repeat' (first | ((first | with_reducible refine vcG_split ?_ ?_ | with_reducible refine vcIf_split ?_ ?_ | with_reducible refine vcQ_split ?_ ?_ | with_reducible refine vcDG_split ?_ ?_) <;> intro hb <;> (try rw [hb]) <;> (try simp only [Bool.and_eq_true, Bool.or_eq_true, dtrue, dfalse, Bool.not_eq_true', Bool.not_eq_false', Bool.and_eq_false_iff, Bool.or_eq_false_iff, Bool.not_true, Bool.not_false] at hb) <;> (try simp only [within] at hb) <;> try (simp only [go_sem, hu, encT])) | refine And.intro (by (first | exact trivial | (simp only [I64]; omega) | omega)) ?_ | (with_reducible rw [vc_draw_eq]; first | refine CV.draw (id := 1) [(0, 0), (0, 0), (0, 0), (0, 0), (0, 0), (0, 0), (0, 0), (0, 0), (0, 0), (0, 0), (0, 0), (0, 0), (0, 0), (0, 0), (0, 0), (0, 0), (0, 0), (0, 0), (0, 0), (0, 0), (0, 0), (0, 0), (0, 0), (0, 0), (0, 0)] mixed rfl (by kernel_rfl) ?_) | (first | (refine vcP_pure (c60 _) rfl ?_ ?_ ?_; (focus (first | rfl | ((simp only [go_sem, hu, encT, AV.pureL, AV.pure, pureL_mapI, Bool.and_self]) <;> fail))); (focus (first | ((simp only [go_sem, hu, encT]) <;> fail) | rfl))) | (refine dCallP_pure (c60 _) rfl ?_ ?_ ?_; (focus (first | rfl | ((simp only [go_sem, hu, encT, AV.pureL, AV.pure, pureL_mapI, Bool.and_self]) <;> fail))); (focus (first | ((simp only [go_sem, hu, encT]) <;> fail) | rfl))) | refine vcP_safe (c60 _) rfl rfl (by (simp only [go_sem, hu, encT])) ?_ | refine dCallP_safe (c60 _) rfl rfl ?_ | (refine vcP_pure (c67 _ _ _) rfl ?_ ?_ ?_; (focus (first | rfl | ((simp only [go_sem, hu, encT, AV.pureL, AV.pure, pureL_mapI, Bool.and_self]) <;> fail))); (focus (first | ((simp only [go_sem, hu, encT]) <;> fail) | rfl))) | (refine dCallP_pure (c67 _ _ _) rfl ?_ ?_ ?_; (focus (first | rfl | ((simp only [go_sem, hu, encT, AV.pureL, AV.pure, pureL_mapI, Bool.and_self]) <;> fail))); (focus (first | ((simp only [go_sem, hu, encT]) <;> fail) | rfl))) | refine vcP_safe (c67 _ _ _) rfl rfl (by (simp only [go_sem, hu, encT])) ?_ | refine dCallP_safe (c67 _ _ _) rfl rfl ?_ | (refine vcP_pure (c79 _ _ _) rfl ?_ ?_ ?_; (focus (first | rfl | ((simp only [go_sem, hu, encT, AV.pureL, AV.pure, pureL_mapI, Bool.and_self]) <;> fail))); (focus (first | ((simp only [go_sem, hu, encT]) <;> fail) | rfl))) | (refine dCallP_pure (c79 _ _ _) rfl ?_ ?_ ?_; (focus (first | rfl | ((simp only [go_sem, hu, encT, AV.pureL, AV.pure, pureL_mapI, Bool.and_self]) <;> fail))); (focus (first | ((simp only [go_sem, hu, encT]) <;> fail) | rfl))) | refine vcP_safe (c79 _ _ _) rfl rfl (by (simp only [go_sem, hu, encT])) ?_ | refine dCallP_safe (c79 _ _ _) rfl rfl ?_) | (simp only [go_sem, hu, encT])))
    all_goals first
      | (exfalso; omega)
      | exact bt (p := ¬ okMark ts m) (by unfold okMark within; omega)
      | exact bn (by unfold okMark within; omega)
  · (repeat' (first | ((first | with_reducible refine vcG_split ?_ ?_ | with_reducible refine vcIf_split ?_ ?_ | with_reducible refine vcQ_split ?_ ?_ | with_reducible refine vcDG_split ?_ ?_) <;> intro hb <;> (try rw [hb]) <;> (try simp only [Bool.and_eq_true, Bool.or_eq_true, dtrue, dfalse, Bool.not_eq_true', Bool.not_eq_false', Bool.and_eq_false_iff, Bool.or_eq_false_iff, Bool.not_true, Bool.not_false] at hb) <;> (try simp only [within] at hb) <;> try (simp only [go_sem, encT])) | refine And.intro (by (first | exact trivial | (simp only [I64]; omega) | omega)) ?_ | (with_reducible rw [vc_draw_eq]; first | refine CV.draw (id := 1) [(0, 0), (0, 0), (0, 0), (0, 0), (0, 0), (0, 0), (0, 0), (0, 0), (0, 0), (0, 0), (0, 0), (0, 0), (0, 0), (0, 0), (0, 0), (0, 0), (0, 0), (0, 0), (0, 0), (0, 0), (0, 0), (0, 0), (0, 0), (0, 0), (0, 0)] mixed rfl (by kernel_rfl) ?_) | (first | (refine vcP_pure (c60 _) rfl ?_ ?_ ?_; (focus (first | rfl | ((simp only [go_sem, encT, AV.pureL, AV.pure, pureL_mapI, Bool.and_self]) <;> fail))); (focus (first | ((simp only [go_sem, encT]) <;> fail) | rfl))) | (refine dCallP_pure (c60 _) rfl ?_ ?_ ?_; (focus (first | rfl | ((simp only [go_sem, encT, AV.pureL, AV.pure, pureL_mapI, Bool.and_self]) <;> fail))); (focus (first | ((simp only [go_sem, encT]) <;> fail) | rfl))) | refine vcP_safe (c60 _) rfl rfl (by (simp only [go_sem, encT])) ?_ | refine dCallP_safe (c60 _) rfl rfl ?_ | (refine vcP_pure (c67 _ _ _) rfl ?_ ?_ ?_; (focus (first | rfl | ((simp only [go_sem, encT, AV.pureL, AV.pure, pureL_mapI, Bool.and_self]) <;> fail))); (focus (first | ((simp only [go_sem, encT]) <;> fail) | rfl))) | (refine dCallP_pure (c67 _ _ _) rfl ?_ ?_ ?_; (focus (first | rfl | ((simp only [go_sem, encT, AV.pureL, AV.pure, pureL_mapI, Bool.and_self]) <;> fail))); (focus (first | ((simp only [go_sem, encT]) <;> fail) | rfl))) | refine vcP_safe (c67 _ _ _) rfl rfl (by (simp only [go_sem, encT])) ?_ | refine dCallP_safe (c67 _ _ _) rfl rfl ?_ | (refine vcP_pure (c79 _ _ _) rfl ?_ ?_ ?_; (focus (first | rfl | ((simp only [go_sem, encT, AV.pureL, AV.pure, pureL_mapI, Bool.and_self]) <;> fail))); (focus (first | ((simp only [go_sem, encT]) <;> fail) | rfl))) | (refine dCallP_pure (c79 _ _ _) rfl ?_ ?_ ?_; (focus (first | rfl | ((simp only [go_sem, encT, AV.pureL, AV.pure, pureL_mapI, Bool.and_self]) <;> fail))); (focus (first | ((simp only [go_sem, encT]) <;> fail) | rfl))) | refine vcP_safe (c79 _ _ _) rfl rfl (by (simp only [go_sem, encT])) ?_ | refine dCallP_safe (c79 _ _ _) rfl rfl ?_) | (simp only [go_sem, encT])))
    all_goals first
      | (exfalso; omega)
      | exact bt (p := ¬ okMark ts m) (by unfold okMark within; omega)
      | exact bn (by unfold okMark within; omega)
theorem c97 (ms : List Mark) (g : Nat) (caps : List AV) (hcp : AV.pureL caps = true) (hfr : frL (hop2 []) [] caps = caps) (q : Mark → Prop) (hf : ∀ m, m ∈ ms → PC Try.prog g (.agg (encM m) :: caps) (.bool (decide (q m)))) : PC Try.prog 97 [.lst false 3 (ms.map encM), .fn g caps] (.int .i64 (ix q ms)) := by
  refine PC.body Try.func97 (by kernel_rfl) rfl (by simp [Try.f97]) rfl ?_
  simp only [Try.f97]
  intro hlen
  simp only [go_sem, List.length_map, and_true, true_and] at hlen
  refine CV.run ?_
  (repeat' (first | ((first | with_reducible refine vcG_split ?_ ?_ | with_reducible refine vcIf_split ?_ ?_ | with_reducible refine vcQ_split ?_ ?_ | with_reducible refine vcDG_split ?_ ?_) <;> intro hb <;> (try rw [hb]) <;> (try simp only [Bool.and_eq_true, Bool.or_eq_true, dtrue, dfalse, Bool.not_eq_true', Bool.not_eq_false', Bool.and_eq_false_iff, Bool.or_eq_false_iff, Bool.not_true, Bool.not_false] at hb) <;> (try simp only [within] at hb) <;> try (simp only [go_sem])) | refine And.intro (by (first | exact trivial | (simp only [I64]; omega) | omega)) ?_ | fail | (simp only [go_sem])))
  refine vc_for (fun j => ⟨[(8, .int .i64 j), (7, .int .i64 ms.length), (4, .int .i64 0), (0, .lst false 3 (ms.map encM)), (1, .fn g caps)], []⟩) ms.length (fun j => ∀ i, i < j → ∀ b, ms[i]? = some b → ¬ q b) (by (first | exact wk_same (by (simp only [go_sem, Int.natCast_add, Int.natCast_one, Int.natCast_zero, Int.cast_ofNat_Int])) | exact wk_drop (by (simp only [go_sem, Int.natCast_add, Int.natCast_one, Int.natCast_zero, Int.cast_ofNat_Int])) (by (simp only [go_sem, Int.natCast_add, Int.natCast_one, Int.natCast_zero, Int.cast_ofNat_Int])) (by (simp only [go_sem, Int.natCast_add, Int.natCast_one, Int.natCast_zero, Int.cast_ofNat_Int])) (by (simp only [go_sem, Int.natCast_add, Int.natCast_one, Int.natCast_zero, Int.cast_ofNat_Int])) (by (simp only [go_sem, Int.natCast_add, Int.natCast_one, Int.natCast_zero, Int.cast_ofNat_Int])))) (fun i h => by omega) ?_
  intro j hj hx
  rcases Nat.lt_or_ge j ms.length with hlt | hge
  · obtain ⟨m, hm⟩ := get_of hlt
    have hlt' : (j : Int) < ms.length := by omega
    have hmm := List.mem_of_getElem? hm
    have hfm := hf m hmm
    simp only [encM] at hfm
    have hfz := frzL_self [] caps hcp
    (repeat' (first | ((first | with_reducible refine vcG_split ?_ ?_ | with_reducible refine vcIf_split ?_ ?_ | with_reducible refine vcQ_split ?_ ?_ | with_reducible refine vcDG_split ?_ ?_) <;> intro hb <;> (try rw [hb]) <;> (try simp only [Bool.and_eq_true, Bool.or_eq_true, dtrue, dfalse, Bool.not_eq_true', Bool.not_eq_false', Bool.and_eq_false_iff, Bool.or_eq_false_iff, Bool.not_true, Bool.not_false] at hb) <;> (try simp only [within] at hb) <;> try (simp only [go_sem, hlt', hm, encM, hcp, hfr, hfz])) | refine And.intro (by (first | exact trivial | (simp only [I64]; omega) | omega)) ?_ | (first | (refine vcP_pure (hfm) rfl ?_ ?_ ?_; (focus (first | rfl | ((simp only [go_sem, hlt', hm, encM, hcp, hfr, hfz, AV.pureL, AV.pure, pureL_mapI, Bool.and_self]) <;> fail))); (focus (first | ((simp only [go_sem, hlt', hm, encM, hcp, hfr, hfz]) <;> fail) | rfl))) | (refine dCallP_pure (hfm) rfl ?_ ?_ ?_; (focus (first | rfl | ((simp only [go_sem, hlt', hm, encM, hcp, hfr, hfz, AV.pureL, AV.pure, pureL_mapI, Bool.and_self]) <;> fail))); (focus (first | ((simp only [go_sem, hlt', hm, encM, hcp, hfr, hfz]) <;> fail) | rfl))) | refine vcP_safe (hfm) rfl rfl (by (simp only [go_sem, hlt', hm, encM, hcp, hfr, hfz])) ?_ | refine dCallP_safe (hfm) rfl rfl ?_) | (simp only [go_sem, hlt', hm, encM, hcp, hfr, hfz])))
    · rw [ix_at ⟨⟨m, hm, hb⟩, hx⟩]
    · refine ⟨by (first | exact wk_same (by (simp only [go_sem, Int.natCast_add, Int.natCast_one, Int.natCast_zero, Int.cast_ofNat_Int])) | exact wk_drop (by (simp only [go_sem, Int.natCast_add, Int.natCast_one, Int.natCast_zero, Int.cast_ofNat_Int])) (by (simp only [go_sem, Int.natCast_add, Int.natCast_one, Int.natCast_zero, Int.cast_ofNat_Int])) (by (simp only [go_sem, Int.natCast_add, Int.natCast_one, Int.natCast_zero, Int.cast_ofNat_Int])) (by (simp only [go_sem, Int.natCast_add, Int.natCast_one, Int.natCast_zero, Int.cast_ofNat_Int])) (by (simp only [go_sem, Int.natCast_add, Int.natCast_one, Int.natCast_zero, Int.cast_ofNat_Int]))), fun i hi b hib => ?_⟩
      rcases Nat.lt_or_ge i j with h | h
      · exact hx i h b hib
      · have : i = j := by omega
        subst this
        rw [hm] at hib; cases hib; exact hb
  · have hge' : ¬ (j : Int) < ms.length := by omega
    (repeat' (first | ((first | with_reducible refine vcG_split ?_ ?_ | with_reducible refine vcIf_split ?_ ?_ | with_reducible refine vcQ_split ?_ ?_ | with_reducible refine vcDG_split ?_ ?_) <;> intro hb <;> (try rw [hb]) <;> (try simp only [Bool.and_eq_true, Bool.or_eq_true, dtrue, dfalse, Bool.not_eq_true', Bool.not_eq_false', Bool.and_eq_false_iff, Bool.or_eq_false_iff, Bool.not_true, Bool.not_false] at hb) <;> (try simp only [within] at hb) <;> try (simp only [go_sem, hge'])) | refine And.intro (by (first | exact trivial | (simp only [I64]; omega) | omega)) ?_ | fail | (simp only [go_sem, hge'])))
    rw [ix_no (fun i b hb => hx i (by have := (List.getElem?_eq_some_iff.1 hb).1; omega) b hb)]
theorem c80 (ms : List Mark) (g : Nat) (caps : List AV) (hcp : AV.pureL caps = true) (hfr : frL (hop2 []) [] caps = caps) (q : Mark → Prop) (hf : ∀ m, m ∈ ms → PC Try.prog g (.agg (encM m) :: caps) (.bool (decide (q m)))) : PC Try.prog 80 [.lst false 3 (ms.map encM), .fn g caps] (.bool (decide (∃ m, m ∈ ms ∧ q m))) := by
  have hfz := frzL_self [] caps hcp
  refine PC.body Try.func80 (by kernel_rfl) rfl (by simp [Try.f80]) rfl ?_
  simp only [Try.f80]
  intro hlen
  simp only [go_sem, List.length_map, and_true, true_and] at hlen
  refine CV.run ?_
  (repeat' (first | ((first | with_reducible refine vcG_split ?_ ?_ | with_reducible refine vcIf_split ?_ ?_ | with_reducible refine vcQ_split ?_ ?_ | with_reducible refine vcDG_split ?_ ?_) <;> intro hb <;> (try rw [hb]) <;> (try simp only [Bool.and_eq_true, Bool.or_eq_true, dtrue, dfalse, Bool.not_eq_true', Bool.not_eq_false', Bool.and_eq_false_iff, Bool.or_eq_false_iff, Bool.not_true, Bool.not_false] at hb) <;> (try simp only [within] at hb) <;> try (simp only [go_sem, hcp, hfr, hfz])) | refine And.intro (by (first | exact trivial | (simp only [I64]; omega) | omega)) ?_ | (first | (refine vcP_pure (c97 ms g caps hcp hfr q hf) rfl ?_ ?_ ?_; (focus (first | rfl | ((simp only [go_sem, hcp, hfr, hfz, AV.pureL, AV.pure, pureL_mapI, Bool.and_self]) <;> fail))); (focus (first | ((simp only [go_sem, hcp, hfr, hfz]) <;> fail) | rfl))) | (refine dCallP_pure (c97 ms g caps hcp hfr q hf) rfl ?_ ?_ ?_; (focus (first | rfl | ((simp only [go_sem, hcp, hfr, hfz, AV.pureL, AV.pure, pureL_mapI, Bool.and_self]) <;> fail))); (focus (first | ((simp only [go_sem, hcp, hfr, hfz]) <;> fail) | rfl))) | refine vcP_safe (c97 ms g caps hcp hfr q hf) rfl rfl (by (simp only [go_sem, hcp, hfr, hfz])) ?_ | refine dCallP_safe (c97 ms g caps hcp hfr q hf) rfl rfl ?_) | (simp only [go_sem, hcp, hfr, hfz])))
  exact bd ix_ge
end Go.Proofs.Ytllmohmgakdbdaa
