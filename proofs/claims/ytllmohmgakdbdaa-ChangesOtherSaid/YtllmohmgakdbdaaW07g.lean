/- Contracts of functions of the given program, without a condition beyond those that each theorem states; they lead to the given statement. -/
import Derived.Test.YtllmohmgakdbdaaW07f
set_option linter.unusedSimpArgs false
set_option linter.unusedVariables false
set_option maxRecDepth 100000
namespace Go.Proofs.Ytllmohmgakdbdaa
open Go Go.Fl
open Classical
theorem c46 (ts : List Thing) (ms : List Mark) : PC Try.prog 46 [hT ts ms] (.int .i64 (check ts ms)) := by
  have hcf := c80 ms 81 [.pp [.lst false 4 (ts.map encT), .lst false 3 (ms.map encM)]] rfl rfl (fun m => ¬ okMark ts m) (fun m _ => c81 ts ms m)
  refine PC.body Try.func46 (by kernel_rfl) rfl (by simp [Try.f46]) rfl ?_
  simp only [Try.f46]
  intro hlen
  simp only [go_sem, List.length_map, and_true, true_and] at hlen
  refine CV.run ?_
  (repeat' (first | ((first | with_reducible refine vcG_split ?_ ?_ | with_reducible refine vcIf_split ?_ ?_ | with_reducible refine vcQ_split ?_ ?_ | with_reducible refine vcDG_split ?_ ?_) <;> intro hb <;> (try rw [hb]) <;> (try simp only [Bool.and_eq_true, Bool.or_eq_true, dtrue, dfalse, Bool.not_eq_true', Bool.not_eq_false', Bool.and_eq_false_iff, Bool.or_eq_false_iff, Bool.not_true, Bool.not_false] at hb) <;> (try simp only [within] at hb) <;> try (simp only [go_sem])) | refine And.intro (by (first | exact trivial | (simp only [I64]; omega) | omega)) ?_ | fail | (simp only [go_sem])))
  · exact ck70 fun h => by have := h.1; omega
  · exact ck70 fun h => by have := h.1; have := h.2.1; omega
  rename_i hb1
  refine vc_for (fun j => ⟨[(19, .int .i64 j), (18, .int .i64 ts.length), (17, .lst false 4 (ts.map encT)), (2, .int .i64 0), (1, .lp 0 0)], [.box 25 [.lst false 4 (ts.map encT), .lst false 3 (ms.map encM)] false]⟩) ts.length (fun j => ∀ i t, i < j → ts[i]? = some t → okThing ts i t) (by (first | exact wk_same (by (simp only [go_sem, Int.natCast_add, Int.natCast_one, Int.natCast_zero, Int.cast_ofNat_Int])) | exact wk_drop (by (simp only [go_sem, Int.natCast_add, Int.natCast_one, Int.natCast_zero, Int.cast_ofNat_Int])) (by (simp only [go_sem, Int.natCast_add, Int.natCast_one, Int.natCast_zero, Int.cast_ofNat_Int])) (by (simp only [go_sem, Int.natCast_add, Int.natCast_one, Int.natCast_zero, Int.cast_ofNat_Int])) (by (simp only [go_sem, Int.natCast_add, Int.natCast_one, Int.natCast_zero, Int.cast_ofNat_Int])) (by (simp only [go_sem, Int.natCast_add, Int.natCast_one, Int.natCast_zero, Int.cast_ofNat_Int])))) (fun i t h => by omega) ?_
  intro j hj hx
  rcases Nat.lt_or_ge j ts.length with hlt | hge
  · obtain ⟨t, ht⟩ := get_of hlt
    have hlt' : (j : Int) < ts.length := by omega
    have fin : okThing ts j t → ∀ i t, i < j + 1 → ts[i]? = some t → okThing ts i t := fun h i t' hi hit => by
      rcases Nat.lt_or_ge i j with h2 | h2
      · exact hx i t' h2 hit
      · have : i = j := by omega
        subst this
        rw [ht] at hit; cases hit; exact h
    by_cases hr : 0 ≤ t.of ∧ t.of < ts.length
    · obtain ⟨u, hu⟩ := get_of (l := ts) (j := t.of.toNat) (by omega)
      have hup := upAt_of hu
      have huok := fun h => hx _ _ h hu
      have hu0 : t.of < j → 0 ≤ u.at_ := fun h => by have := huok (by omega); unfold okThing within at this; omega
      (repeat' (first | ((first | with_reducible refine vcG_split ?_ ?_ | with_reducible refine vcIf_split ?_ ?_ | with_reducible refine vcQ_split ?_ ?_ | with_reducible refine vcDG_split ?_ ?_) <;> intro hb <;> (try rw [hb]) <;> (try simp only [Bool.and_eq_true, Bool.or_eq_true, dtrue, dfalse, Bool.not_eq_true', Bool.not_eq_false', Bool.and_eq_false_iff, Bool.or_eq_false_iff, Bool.not_true, Bool.not_false] at hb) <;> (try simp only [within] at hb) <;> try (simp only [go_sem, hlt', ht, hu, encT])) | refine And.intro (by (first | exact trivial | (simp only [I64]; omega) | omega)) ?_ | (first | (refine vcP_pure (c79 _ _ _) rfl ?_ ?_ ?_; (focus (first | rfl | ((simp only [go_sem, hlt', ht, hu, encT, AV.pureL, AV.pure, pureL_mapI, Bool.and_self]) <;> fail))); (focus (first | ((simp only [go_sem, hlt', ht, hu, encT]) <;> fail) | rfl))) | (refine dCallP_pure (c79 _ _ _) rfl ?_ ?_ ?_; (focus (first | rfl | ((simp only [go_sem, hlt', ht, hu, encT, AV.pureL, AV.pure, pureL_mapI, Bool.and_self]) <;> fail))); (focus (first | ((simp only [go_sem, hlt', ht, hu, encT]) <;> fail) | rfl))) | refine vcP_safe (c79 _ _ _) rfl rfl (by (simp only [go_sem, hlt', ht, hu, encT])) ?_ | refine dCallP_safe (c79 _ _ _) rfl rfl ?_) | (simp only [go_sem, hlt', ht, hu, encT])))
      all_goals first
        | (exfalso; omega)
        | exact ck70 fun h => by have h := h.2.2.1 j t ht; unfold okThing within at h; omega
        | exact ⟨by (first | exact wk_same (by (simp only [go_sem, Int.natCast_add, Int.natCast_one, Int.natCast_zero, Int.cast_ofNat_Int])) | exact wk_drop (by (simp only [go_sem, Int.natCast_add, Int.natCast_one, Int.natCast_zero, Int.cast_ofNat_Int])) (by (simp only [go_sem, Int.natCast_add, Int.natCast_one, Int.natCast_zero, Int.cast_ofNat_Int])) (by (simp only [go_sem, Int.natCast_add, Int.natCast_one, Int.natCast_zero, Int.cast_ofNat_Int])) (by (simp only [go_sem, Int.natCast_add, Int.natCast_one, Int.natCast_zero, Int.cast_ofNat_Int])) (by (simp only [go_sem, Int.natCast_add, Int.natCast_one, Int.natCast_zero, Int.cast_ofNat_Int]))), fin (by unfold okThing within; omega)⟩
        | trace_state
    · (repeat' (first | ((first | with_reducible refine vcG_split ?_ ?_ | with_reducible refine vcIf_split ?_ ?_ | with_reducible refine vcQ_split ?_ ?_ | with_reducible refine vcDG_split ?_ ?_) <;> intro hb <;> (try rw [hb]) <;> (try simp only [Bool.and_eq_true, Bool.or_eq_true, dtrue, dfalse, Bool.not_eq_true', Bool.not_eq_false', Bool.and_eq_false_iff, Bool.or_eq_false_iff, Bool.not_true, Bool.not_false] at hb) <;> (try simp only [within] at hb) <;> try (simp only [go_sem, hlt', ht, encT])) | refine And.intro (by (first | exact trivial | (simp only [I64]; omega) | omega)) ?_ | (first | (refine vcP_pure (c79 _ _ _) rfl ?_ ?_ ?_; (focus (first | rfl | ((simp only [go_sem, hlt', ht, encT, AV.pureL, AV.pure, pureL_mapI, Bool.and_self]) <;> fail))); (focus (first | ((simp only [go_sem, hlt', ht, encT]) <;> fail) | rfl))) | (refine dCallP_pure (c79 _ _ _) rfl ?_ ?_ ?_; (focus (first | rfl | ((simp only [go_sem, hlt', ht, encT, AV.pureL, AV.pure, pureL_mapI, Bool.and_self]) <;> fail))); (focus (first | ((simp only [go_sem, hlt', ht, encT]) <;> fail) | rfl))) | refine vcP_safe (c79 _ _ _) rfl rfl (by (simp only [go_sem, hlt', ht, encT])) ?_ | refine dCallP_safe (c79 _ _ _) rfl rfl ?_) | (simp only [go_sem, hlt', ht, encT])))
      all_goals first
        | (exfalso; omega)
        | exact ck70 fun h => by have h := h.2.2.1 j t ht; unfold okThing within at h; omega
        | exact ⟨by (first | exact wk_same (by (simp only [go_sem, Int.natCast_add, Int.natCast_one, Int.natCast_zero, Int.cast_ofNat_Int])) | exact wk_drop (by (simp only [go_sem, Int.natCast_add, Int.natCast_one, Int.natCast_zero, Int.cast_ofNat_Int])) (by (simp only [go_sem, Int.natCast_add, Int.natCast_one, Int.natCast_zero, Int.cast_ofNat_Int])) (by (simp only [go_sem, Int.natCast_add, Int.natCast_one, Int.natCast_zero, Int.cast_ofNat_Int])) (by (simp only [go_sem, Int.natCast_add, Int.natCast_one, Int.natCast_zero, Int.cast_ofNat_Int])) (by (simp only [go_sem, Int.natCast_add, Int.natCast_one, Int.natCast_zero, Int.cast_ofNat_Int]))), fin (by unfold okThing within; omega)⟩
        | trace_state
  · have hge' : ¬ (j : Int) < ts.length := by omega
    (repeat' (first | ((first | with_reducible refine vcG_split ?_ ?_ | with_reducible refine vcIf_split ?_ ?_ | with_reducible refine vcQ_split ?_ ?_ | with_reducible refine vcDG_split ?_ ?_) <;> intro hb <;> (try rw [hb]) <;> (try simp only [Bool.and_eq_true, Bool.or_eq_true, dtrue, dfalse, Bool.not_eq_true', Bool.not_eq_false', Bool.and_eq_false_iff, Bool.or_eq_false_iff, Bool.not_true, Bool.not_false] at hb) <;> (try simp only [within] at hb) <;> try (simp only [go_sem, hge'])) | refine And.intro (by (first | exact trivial | (simp only [I64]; omega) | omega)) ?_ | (first | (refine vcP_pure (hcf) rfl ?_ ?_ ?_; (focus (first | rfl | ((simp only [go_sem, hge', AV.pureL, AV.pure, pureL_mapI, Bool.and_self]) <;> fail))); (focus (first | ((simp only [go_sem, hge']) <;> fail) | rfl))) | (refine dCallP_pure (hcf) rfl ?_ ?_ ?_; (focus (first | rfl | ((simp only [go_sem, hge', AV.pureL, AV.pure, pureL_mapI, Bool.and_self]) <;> fail))); (focus (first | ((simp only [go_sem, hge']) <;> fail) | rfl))) | refine vcP_safe (hcf) rfl rfl (by (simp only [go_sem, hge'])) ?_ | refine dCallP_safe (hcf) rfl rfl ?_) | (simp only [go_sem, hge'])))
    · exact ck70 fun h => by
        obtain ⟨m, hm, hn⟩ := hb
        exact hn (h.2.2.2 m hm)
    · exact ck0 ⟨by omega, by omega, fun i t hit => hx i t (by have := (List.getElem?_eq_some_iff.1 hit).1; omega) hit, fun m hm => Classical.byContradiction fun hn => hb ⟨m, hm, hn⟩⟩
theorem c59 (ts : List Thing) (ms : List Mark) (b : Bool) : PC Try.prog 59 [hT ts ms, .bool b] (.int .i64 (askP ts ms (b = true))) := by
  refine PC.body Try.func59 (by kernel_rfl) rfl (by simp [Try.f59]) rfl ?_
  simp only [Try.f59]
  intro hlen
  simp only [go_sem, List.length_map, and_true, true_and] at hlen
  refine CV.run ?_
  (repeat' (first | ((first | with_reducible refine vcG_split ?_ ?_ | with_reducible refine vcIf_split ?_ ?_ | with_reducible refine vcQ_split ?_ ?_ | with_reducible refine vcDG_split ?_ ?_) <;> intro hb <;> (try rw [hb]) <;> (try simp only [Bool.and_eq_true, Bool.or_eq_true, dtrue, dfalse, Bool.not_eq_true', Bool.not_eq_false', Bool.and_eq_false_iff, Bool.or_eq_false_iff, Bool.not_true, Bool.not_false] at hb) <;> (try simp only [within] at hb) <;> try (simp only [go_sem])) | refine And.intro (by (first | exact trivial | (simp only [I64]; omega) | omega)) ?_ | (first | (refine vcP_pure (c46 _ _) rfl ?_ ?_ ?_; (focus (first | rfl | ((simp only [go_sem, AV.pureL, AV.pure, pureL_mapI, Bool.and_self]) <;> fail))); (focus (first | ((simp only [go_sem]) <;> fail) | rfl))) | (refine dCallP_pure (c46 _ _) rfl ?_ ?_ ?_; (focus (first | rfl | ((simp only [go_sem, AV.pureL, AV.pure, pureL_mapI, Bool.and_self]) <;> fail))); (focus (first | ((simp only [go_sem]) <;> fail) | rfl))) | refine vcP_safe (c46 _ _) rfl rfl (by (simp only [go_sem])) ?_ | refine dCallP_safe (c46 _ _) rfl rfl ?_) | (simp only [go_sem])))
  all_goals
    by_cases hv : valid ts ms <;> simp_all [check, askP]
end Go.Proofs.Ytllmohmgakdbdaa
