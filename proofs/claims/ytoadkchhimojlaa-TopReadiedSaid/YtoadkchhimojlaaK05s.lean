/- Contracts of functions of the given program, without a condition beyond those that each theorem states; they lead to the given statement. -/
import Derived.Test.YtoadkchhimojlaaK05r
set_option linter.unusedSimpArgs false
set_option linter.unusedVariables false
set_option maxRecDepth 100000
namespace Go.Proofs.Ytoadkchhimojlaa.W5
open Go Go.Fl
open Classical
theorem qS_full {s : List Job} : ∀ (L : List (List Int)) (e : Int) (l : List Int), qS s L = some (e, l) → ¬ l.length < s.length ∧ L ≠ [] := by
  refine snoc_ind (fun e l h => by cases h) fun L x ih e l h => ?_
  refine ⟨?_, by simp⟩
  rw [qS_app] at h
  unfold qstp at h
  by_cases c : x.length < s.length
  · rw [if_pos c] at h; exact (ih e l h).1
  · rw [if_neg c] at h
    cases hq : qS s L with
    | none => rw [hq] at h; simp only [Option.some.injEq, Prod.mk.injEq] at h; rw [← h.2]; exact c
    | some b =>
      obtain ⟨e1, l1⟩ := b
      rw [hq] at h
      simp only at h
      split at h
      · simp only [Option.some.injEq, Prod.mk.injEq] at h; rw [← h.2]; exact c
      · simp only [Option.some.injEq, Prod.mk.injEq] at h; rw [← h.2]; exact (ih e1 l1 hq).1
def qA (b : Option (Int × List Int)) : AV := match b with | none => .nilS | some (_, l) => lN l
abbrev H93 (s : List Job) (L : List (List Int)) : Heap := [.box 89 (cS s) false, .box 3 [.int .i64 (qI (qS s L))] false, .box 24 [qA (qS s L)] false]
abbrev H93i (s : List Job) (L : List (List Int)) (o : List Int) (n : Nat) : Heap := [.box 89 (cS s) false, .box 3 [.int .i64 (qI (qS s L))] false, .box 24 [qA (qS s L)] false, .box 3 [.int .i64 (fin s (hiD s) (o.take n)).2] false]
theorem below_qA {n : Nat} {b : Option (Int × List Int)} : belowV n (qA b) = true := by unfold qA; split <;> rfl
theorem pure_qA {b : Option (Int × List Int)} : AV.pure (qA b) = true := by unfold qA; split <;> rfl
theorem sub_qA {b n : Nat} {v : AV} {x : Option (Int × List Int)} : subV b n v (qA x) = qA x := by unfold qA; split <;> rfl
theorem ords_one {s : List Job} (h : s.length = 0) : (ords s).length = 1 := by unfold ords; rw [h]; rfl
attribute [go_sem] below_qA pure_qA sub_qA
set_option maxHeartbeats 4000000 in
theorem c51 (s : List Job) (hv : valid s) : PC Try.prog 51 [hS s] (.tup [.int .i64 (leastM s), lN (quickO s)]) := by
  have h6 := hv.1
  refine PC.body Try.func51 (by kernel_rfl) rfl (by simp [Try.f51]) rfl ?_
  simp only [Try.f51]
  intro hlen
  simp only [go_sem, List.length_map, and_true, true_and] at hlen
  refine CV.run ?_
  (repeat' (first | ((first | with_reducible refine vcG_split ?_ ?_ | with_reducible refine vcIf_split ?_ ?_ | with_reducible refine vcQ_split ?_ ?_ | with_reducible refine vcDG_split ?_ ?_) <;> intro hb <;> (try rw [hb]) <;> (try simp only [Bool.and_eq_true, Bool.or_eq_true, dtrue, dfalse, Bool.not_eq_true', Bool.not_eq_false', Bool.and_eq_false_iff, Bool.or_eq_false_iff, Bool.not_true, Bool.not_false] at hb) <;> (try simp only [within] at hb) <;> try (simp only [go_sem])) | refine And.intro (by (first | exact trivial | (simp only [I64]; omega) | omega)) ?_ | (with_reducible rw [vc_draw_eq]; first | refine CV.draw (id := 9) [(0, 1), (0, 0), (0, 0), (0, 0), (0, 0)] mixed rfl (by kernel_rfl) ?_ | refine CV.draw (id := 10) [(0, 0), (0, 1), (0, 0), (0, 0)] mixed rfl (by kernel_rfl) ?_) | (simp only [go_sem])))
  rw [vc_range_eq]
  refine CV.wn (st' := ⟨[(9, .bf 77 [hS s]), (1, .lp 0 0), (2, .lp 1 0), (3, .lp 2 0)], H93 s []⟩) (.base (by (first | exact wk_same (by (simp only [go_sem, Int.natCast_add, Int.natCast_one, Int.natCast_zero, Int.cast_ofNat_Int, qS_nil, qI, qA])) | exact wk_drop (by (simp only [go_sem, Int.natCast_add, Int.natCast_one, Int.natCast_zero, Int.cast_ofNat_Int, qS_nil, qI, qA])) (by (simp only [go_sem, Int.natCast_add, Int.natCast_one, Int.natCast_zero, Int.cast_ofNat_Int, qS_nil, qI, qA])) (by (simp only [go_sem, Int.natCast_add, Int.natCast_one, Int.natCast_zero, Int.cast_ofNat_Int, qS_nil, qI, qA])) (by (simp only [go_sem, Int.natCast_add, Int.natCast_one, Int.natCast_zero, Int.cast_ofNat_Int, qS_nil, qI, qA])) (by (simp only [go_sem, Int.natCast_add, Int.natCast_one, Int.natCast_zero, Int.cast_ofNat_Int, qS_nil, qI, qA]))))) ?_
  refine CV.rangePB rfl (by (simp only [go_sem])) (H93 s (ords s)) rfl (by (simp only [go_sem])) (by (simp only [go_sem])) (fun l => ?_) ?_
  · refine h77 s (by omega) (H93 s) 3 (fun _ => rfl) (fun L n => by (simp only [go_sem, belowH, belowB, belowL, belowV])) (fun L b n v => by (simp only [go_sem])) l _ _ _ _ _ (fun i => by (simp only [go_sem, belowE, belowV, belowL, decide_eq_true_eq]); exact eq_true (by omega)) (fun b n v => by (simp only [go_sem])) (fun L pre own hp hpl hLl => ?_)
    refine HCY.body (by omega) rfl (by (simp only [go_sem])) (by (simp only [go_sem])) rfl ?_
    have e := qS_app (s := s) (L := L) (x := pre)
    unfold qstp at e
    have hol : pre.length ≤ 1000000 := by omega
    by_cases c0 : pre.length < s.length
    · have c0' : (pre.length : Int) < s.length := by omega
      rw [if_pos c0] at e
      (repeat' (first | ((first | with_reducible refine vcG_split ?_ ?_ | with_reducible refine vcIf_split ?_ ?_ | with_reducible refine vcQ_split ?_ ?_ | with_reducible refine vcDG_split ?_ ?_) <;> intro hb <;> (try rw [hb]) <;> (try simp only [Bool.and_eq_true, Bool.or_eq_true, dtrue, dfalse, Bool.not_eq_true', Bool.not_eq_false', Bool.and_eq_false_iff, Bool.or_eq_false_iff, Bool.not_true, Bool.not_false] at hb) <;> (try simp only [within] at hb) <;> try (simp only [go_sem, c0'])) | refine And.intro (by (first | exact trivial | (simp only [I64]; omega) | omega)) ?_ | (with_reducible rw [vc_draw_eq]; first | refine CV.draw (id := 9) [(0, 1), (0, 0), (0, 0), (0, 0), (0, 0)] mixed rfl (by kernel_rfl) ?_ | refine CV.draw (id := 10) [(0, 0), (0, 1), (0, 0), (0, 0)] mixed rfl (by kernel_rfl) ?_) | (simp only [go_sem, c0'])))
      exact .base (by (first | exact wk_same (by (simp only [go_sem, Int.natCast_add, Int.natCast_one, Int.natCast_zero, Int.cast_ofNat_Int, e])) | exact wk_drop (by (simp only [go_sem, Int.natCast_add, Int.natCast_one, Int.natCast_zero, Int.cast_ofNat_Int, e])) (by (simp only [go_sem, Int.natCast_add, Int.natCast_one, Int.natCast_zero, Int.cast_ofNat_Int, e])) (by (simp only [go_sem, Int.natCast_add, Int.natCast_one, Int.natCast_zero, Int.cast_ofNat_Int, e])) (by (simp only [go_sem, Int.natCast_add, Int.natCast_one, Int.natCast_zero, Int.cast_ofNat_Int, e])) (by (simp only [go_sem, Int.natCast_add, Int.natCast_one, Int.natCast_zero, Int.cast_ofNat_Int, e]))))
    · have c0' : ¬ (pre.length : Int) < s.length := by omega
      rw [if_neg c0] at e
      (repeat' (first | ((first | with_reducible refine vcG_split ?_ ?_ | with_reducible refine vcIf_split ?_ ?_ | with_reducible refine vcQ_split ?_ ?_ | with_reducible refine vcDG_split ?_ ?_) <;> intro hb <;> (try rw [hb]) <;> (try simp only [Bool.and_eq_true, Bool.or_eq_true, dtrue, dfalse, Bool.not_eq_true', Bool.not_eq_false', Bool.and_eq_false_iff, Bool.or_eq_false_iff, Bool.not_true, Bool.not_false] at hb) <;> (try simp only [within] at hb) <;> try (simp only [go_sem, c0'])) | refine And.intro (by (first | exact trivial | (simp only [I64]; omega) | omega)) ?_ | (with_reducible rw [vc_draw_eq]; first | refine CV.draw (id := 9) [(0, 1), (0, 0), (0, 0), (0, 0), (0, 0)] mixed rfl (by kernel_rfl) ?_ | refine CV.draw (id := 10) [(0, 0), (0, 1), (0, 0), (0, 0)] mixed rfl (by kernel_rfl) ?_) | (first | (refine vcP_pure (c78 _ _) rfl ?_ ?_ ?_; (focus (first | rfl | ((simp only [go_sem, c0', AV.pureL, AV.pure, pureL_mapI, Bool.and_self]) <;> fail))); (focus (first | ((simp only [go_sem, c0']) <;> fail) | rfl))) | (refine dCallP_pure (c78 _ _) rfl ?_ ?_ ?_; (focus (first | rfl | ((simp only [go_sem, c0', AV.pureL, AV.pure, pureL_mapI, Bool.and_self]) <;> fail))); (focus (first | ((simp only [go_sem, c0']) <;> fail) | rfl))) | (refine dCallC_pure (c78 _ _) rfl ?_ ?_ ?_; (focus (first | rfl | ((simp only [go_sem, c0', AV.pureL, AV.pure, pureL_mapI, Bool.and_self]) <;> fail))); (focus (first | ((simp only [go_sem, c0']) <;> fail) | rfl))) | refine dCallC_safe (c78 _ _) rfl rfl (by (simp only [go_sem, c0'])) ?_ | refine vcP_safe (c78 _ _) rfl rfl (by (simp only [go_sem, c0'])) ?_ | refine dCallP_safe (c78 _ _) rfl rfl ?_) | (simp only [go_sem, c0'])))
      rw [vc_range_eq]
      refine CV.wn (st' := ⟨[(20, .fn 105 [.pp [lN pre], .pp (cS s)]), (1, .lp 0 0), (2, .lp 1 0), (3, .lp 2 0), (4, lN pre), (5, .lp 3 0), (9, .bf 77 [hS s])], H93i s L pre 0⟩) (.base (by (first | exact wk_same (by (simp only [go_sem, Int.natCast_add, Int.natCast_one, Int.natCast_zero, Int.cast_ofNat_Int, fin_nil, List.take_zero])) | exact wk_drop (by (simp only [go_sem, Int.natCast_add, Int.natCast_one, Int.natCast_zero, Int.cast_ofNat_Int, fin_nil, List.take_zero])) (by (simp only [go_sem, Int.natCast_add, Int.natCast_one, Int.natCast_zero, Int.cast_ofNat_Int, fin_nil, List.take_zero])) (by (simp only [go_sem, Int.natCast_add, Int.natCast_one, Int.natCast_zero, Int.cast_ofNat_Int, fin_nil, List.take_zero])) (by (simp only [go_sem, Int.natCast_add, Int.natCast_one, Int.natCast_zero, Int.cast_ofNat_Int, fin_nil, List.take_zero])) (by (simp only [go_sem, Int.natCast_add, Int.natCast_one, Int.natCast_zero, Int.cast_ofNat_Int, fin_nil, List.take_zero]))))) ?_
      refine CV.rangeP rfl (by (simp only [go_sem])) (H93i s L pre pre.length) rfl (by (simp only [go_sem])) (by (simp only [go_sem])) (fun l2 => ?_) ?_
      · refine h105 s hv pre hp hol 4 (H93i s L pre) (fun _ => rfl) l2 _ _ _ _ _ (fun n x own2 hx => ?_)
        refine HCY.body2 (by omega) (by omega) rfl (by (simp only [go_sem])) (by (simp only [go_sem])) rfl rfl ?_
        (repeat' (first | ((first | with_reducible refine vcG_split ?_ ?_ | with_reducible refine vcIf_split ?_ ?_ | with_reducible refine vcQ_split ?_ ?_ | with_reducible refine vcDG_split ?_ ?_) <;> intro hb <;> (try rw [hb]) <;> (try simp only [Bool.and_eq_true, Bool.or_eq_true, dtrue, dfalse, Bool.not_eq_true', Bool.not_eq_false', Bool.and_eq_false_iff, Bool.or_eq_false_iff, Bool.not_true, Bool.not_false] at hb) <;> (try simp only [within] at hb) <;> try (simp only [go_sem])) | refine And.intro (by (first | exact trivial | (simp only [I64]; omega) | omega)) ?_ | (with_reducible rw [vc_draw_eq]; first | refine CV.draw (id := 9) [(0, 1), (0, 0), (0, 0), (0, 0), (0, 0)] mixed rfl (by kernel_rfl) ?_ | refine CV.draw (id := 10) [(0, 0), (0, 1), (0, 0), (0, 0)] mixed rfl (by kernel_rfl) ?_) | (simp only [go_sem])))
        exact .base (by (first | exact wk_same (by (simp only [go_sem, Int.natCast_add, Int.natCast_one, Int.natCast_zero, Int.cast_ofNat_Int])) | exact wk_drop (by (simp only [go_sem, Int.natCast_add, Int.natCast_one, Int.natCast_zero, Int.cast_ofNat_Int])) (by (simp only [go_sem, Int.natCast_add, Int.natCast_one, Int.natCast_zero, Int.cast_ofNat_Int])) (by (simp only [go_sem, Int.natCast_add, Int.natCast_one, Int.natCast_zero, Int.cast_ofNat_Int])) (by (simp only [go_sem, Int.natCast_add, Int.natCast_one, Int.natCast_zero, Int.cast_ofNat_Int])) (by (simp only [go_sem, Int.natCast_add, Int.natCast_one, Int.natCast_zero, Int.cast_ofNat_Int]))))
      · have h99 := c74 pre hol
        have hdn : (fin s (hiD s) (List.take pre.length pre)).2 = done s pre := by rw [List.take_length]; rfl
        cases hq : qS s L with
        | none =>
          rw [hq] at e
          simp only at e
          simp only [H93i, hq, qI, qA, hdn]
          (repeat' (first | ((first | with_reducible refine vcG_split ?_ ?_ | with_reducible refine vcIf_split ?_ ?_ | with_reducible refine vcQ_split ?_ ?_ | with_reducible refine vcDG_split ?_ ?_) <;> intro hb <;> (try rw [hb]) <;> (try simp only [Bool.and_eq_true, Bool.or_eq_true, dtrue, dfalse, Bool.not_eq_true', Bool.not_eq_false', Bool.and_eq_false_iff, Bool.or_eq_false_iff, Bool.not_true, Bool.not_false] at hb) <;> (try simp only [within] at hb) <;> try (simp only [go_sem])) | refine And.intro (by (first | exact trivial | (simp only [I64]; omega) | omega)) ?_ | (with_reducible rw [vc_draw_eq]; first | refine CV.draw (id := 9) [(0, 1), (0, 0), (0, 0), (0, 0), (0, 0)] mixed rfl (by kernel_rfl) ?_ | refine CV.draw (id := 10) [(0, 0), (0, 1), (0, 0), (0, 0)] mixed rfl (by kernel_rfl) ?_) | (first | (refine vcP_pure (h99) rfl ?_ ?_ ?_; (focus (first | rfl | ((simp only [go_sem, AV.pureL, AV.pure, pureL_mapI, Bool.and_self]) <;> fail))); (focus (first | ((simp only [go_sem]) <;> fail) | rfl))) | (refine dCallP_pure (h99) rfl ?_ ?_ ?_; (focus (first | rfl | ((simp only [go_sem, AV.pureL, AV.pure, pureL_mapI, Bool.and_self]) <;> fail))); (focus (first | ((simp only [go_sem]) <;> fail) | rfl))) | (refine dCallC_pure (h99) rfl ?_ ?_ ?_; (focus (first | rfl | ((simp only [go_sem, AV.pureL, AV.pure, pureL_mapI, Bool.and_self]) <;> fail))); (focus (first | ((simp only [go_sem]) <;> fail) | rfl))) | refine dCallC_safe (h99) rfl rfl (by (simp only [go_sem])) ?_ | refine vcP_safe (h99) rfl rfl (by (simp only [go_sem])) ?_ | refine dCallP_safe (h99) rfl rfl ?_) | (simp only [go_sem])))
          exact .base (by (first | exact wk_same (by (simp only [go_sem, Int.natCast_add, Int.natCast_one, Int.natCast_zero, Int.cast_ofNat_Int, e, qI, qA])) | exact wk_drop (by (simp only [go_sem, Int.natCast_add, Int.natCast_one, Int.natCast_zero, Int.cast_ofNat_Int, e, qI, qA])) (by (simp only [go_sem, Int.natCast_add, Int.natCast_one, Int.natCast_zero, Int.cast_ofNat_Int, e, qI, qA])) (by (simp only [go_sem, Int.natCast_add, Int.natCast_one, Int.natCast_zero, Int.cast_ofNat_Int, e, qI, qA])) (by (simp only [go_sem, Int.natCast_add, Int.natCast_one, Int.natCast_zero, Int.cast_ofNat_Int, e, qI, qA])) (by (simp only [go_sem, Int.natCast_add, Int.natCast_one, Int.natCast_zero, Int.cast_ofNat_Int, e, qI, qA]))))
        | some b =>
          obtain ⟨e1, l1⟩ := b
          rw [hq] at e
          simp only at e
          have hl1 : l1.length ≠ 0 := by
            obtain ⟨q1, q2⟩ := qS_full L e1 l1 hq
            intro h0
            have hs0 : s.length = 0 := by omega
            have := ords_one hs0
            have : L.length ≠ 0 := fun h => q2 (List.eq_nil_of_length_eq_zero h)
            omega
          have hne : ¬ List.map encN l1 = [] := fun h => hl1 (by simpa using congrArg List.length h)
          simp only [H93i, hq, qI, qA, hdn]
          by_cases c1 : done s pre < e1
          · rw [if_pos c1] at e
            (repeat' (first | ((first | with_reducible refine vcG_split ?_ ?_ | with_reducible refine vcIf_split ?_ ?_ | with_reducible refine vcQ_split ?_ ?_ | with_reducible refine vcDG_split ?_ ?_) <;> intro hb <;> (try rw [hb]) <;> (try simp only [Bool.and_eq_true, Bool.or_eq_true, dtrue, dfalse, Bool.not_eq_true', Bool.not_eq_false', Bool.and_eq_false_iff, Bool.or_eq_false_iff, Bool.not_true, Bool.not_false] at hb) <;> (try simp only [within] at hb) <;> try (simp only [go_sem, c1, hne])) | refine And.intro (by (first | exact trivial | (simp only [I64]; omega) | omega)) ?_ | (with_reducible rw [vc_draw_eq]; first | refine CV.draw (id := 9) [(0, 1), (0, 0), (0, 0), (0, 0), (0, 0)] mixed rfl (by kernel_rfl) ?_ | refine CV.draw (id := 10) [(0, 0), (0, 1), (0, 0), (0, 0)] mixed rfl (by kernel_rfl) ?_) | (first | (refine vcP_pure (h99) rfl ?_ ?_ ?_; (focus (first | rfl | ((simp only [go_sem, c1, hne, AV.pureL, AV.pure, pureL_mapI, Bool.and_self]) <;> fail))); (focus (first | ((simp only [go_sem, c1, hne]) <;> fail) | rfl))) | (refine dCallP_pure (h99) rfl ?_ ?_ ?_; (focus (first | rfl | ((simp only [go_sem, c1, hne, AV.pureL, AV.pure, pureL_mapI, Bool.and_self]) <;> fail))); (focus (first | ((simp only [go_sem, c1, hne]) <;> fail) | rfl))) | (refine dCallC_pure (h99) rfl ?_ ?_ ?_; (focus (first | rfl | ((simp only [go_sem, c1, hne, AV.pureL, AV.pure, pureL_mapI, Bool.and_self]) <;> fail))); (focus (first | ((simp only [go_sem, c1, hne]) <;> fail) | rfl))) | refine dCallC_safe (h99) rfl rfl (by (simp only [go_sem, c1, hne])) ?_ | refine vcP_safe (h99) rfl rfl (by (simp only [go_sem, c1, hne])) ?_ | refine dCallP_safe (h99) rfl rfl ?_) | (simp only [go_sem, c1, hne])))
            all_goals first
              | exact absurd hb hne
              | exact .base (by (first | exact wk_same (by (simp only [go_sem, Int.natCast_add, Int.natCast_one, Int.natCast_zero, Int.cast_ofNat_Int, e, qI, qA])) | exact wk_drop (by (simp only [go_sem, Int.natCast_add, Int.natCast_one, Int.natCast_zero, Int.cast_ofNat_Int, e, qI, qA])) (by (simp only [go_sem, Int.natCast_add, Int.natCast_one, Int.natCast_zero, Int.cast_ofNat_Int, e, qI, qA])) (by (simp only [go_sem, Int.natCast_add, Int.natCast_one, Int.natCast_zero, Int.cast_ofNat_Int, e, qI, qA])) (by (simp only [go_sem, Int.natCast_add, Int.natCast_one, Int.natCast_zero, Int.cast_ofNat_Int, e, qI, qA])) (by (simp only [go_sem, Int.natCast_add, Int.natCast_one, Int.natCast_zero, Int.cast_ofNat_Int, e, qI, qA]))))
          · rw [if_neg c1] at e
            (repeat' (first | ((first | with_reducible refine vcG_split ?_ ?_ | with_reducible refine vcIf_split ?_ ?_ | with_reducible refine vcQ_split ?_ ?_ | with_reducible refine vcDG_split ?_ ?_) <;> intro hb <;> (try rw [hb]) <;> (try simp only [Bool.and_eq_true, Bool.or_eq_true, dtrue, dfalse, Bool.not_eq_true', Bool.not_eq_false', Bool.and_eq_false_iff, Bool.or_eq_false_iff, Bool.not_true, Bool.not_false] at hb) <;> (try simp only [within] at hb) <;> try (simp only [go_sem, c1, hne])) | refine And.intro (by (first | exact trivial | (simp only [I64]; omega) | omega)) ?_ | (with_reducible rw [vc_draw_eq]; first | refine CV.draw (id := 9) [(0, 1), (0, 0), (0, 0), (0, 0), (0, 0)] mixed rfl (by kernel_rfl) ?_ | refine CV.draw (id := 10) [(0, 0), (0, 1), (0, 0), (0, 0)] mixed rfl (by kernel_rfl) ?_) | (first | (refine vcP_pure (h99) rfl ?_ ?_ ?_; (focus (first | rfl | ((simp only [go_sem, c1, hne, AV.pureL, AV.pure, pureL_mapI, Bool.and_self]) <;> fail))); (focus (first | ((simp only [go_sem, c1, hne]) <;> fail) | rfl))) | (refine dCallP_pure (h99) rfl ?_ ?_ ?_; (focus (first | rfl | ((simp only [go_sem, c1, hne, AV.pureL, AV.pure, pureL_mapI, Bool.and_self]) <;> fail))); (focus (first | ((simp only [go_sem, c1, hne]) <;> fail) | rfl))) | (refine dCallC_pure (h99) rfl ?_ ?_ ?_; (focus (first | rfl | ((simp only [go_sem, c1, hne, AV.pureL, AV.pure, pureL_mapI, Bool.and_self]) <;> fail))); (focus (first | ((simp only [go_sem, c1, hne]) <;> fail) | rfl))) | refine dCallC_safe (h99) rfl rfl (by (simp only [go_sem, c1, hne])) ?_ | refine vcP_safe (h99) rfl rfl (by (simp only [go_sem, c1, hne])) ?_ | refine dCallP_safe (h99) rfl rfl ?_) | (simp only [go_sem, c1, hne])))
            all_goals first
              | exact absurd hb hne
              | exact .base (by (first | exact wk_same (by (simp only [go_sem, Int.natCast_add, Int.natCast_one, Int.natCast_zero, Int.cast_ofNat_Int, e, qI, qA])) | exact wk_drop (by (simp only [go_sem, Int.natCast_add, Int.natCast_one, Int.natCast_zero, Int.cast_ofNat_Int, e, qI, qA])) (by (simp only [go_sem, Int.natCast_add, Int.natCast_one, Int.natCast_zero, Int.cast_ofNat_Int, e, qI, qA])) (by (simp only [go_sem, Int.natCast_add, Int.natCast_one, Int.natCast_zero, Int.cast_ofNat_Int, e, qI, qA])) (by (simp only [go_sem, Int.natCast_add, Int.natCast_one, Int.natCast_zero, Int.cast_ofNat_Int, e, qI, qA])) (by (simp only [go_sem, Int.natCast_add, Int.natCast_one, Int.natCast_zero, Int.cast_ofNat_Int, e, qI, qA]))))
  · have hq : qA (qS s (ords s)) = lN (quickO s) := by
      have h := qS_spec (s := s) (ords s) ords_sorted
      unfold quickO
      cases hq : qS s (ords s) with
      | none =>
        rw [hq] at h
        have := h (ruleV s) (ords_mem.2 rule_ord.1)
        rw [rule_ord.2] at this; omega
      | some b => rfl
    have hl : qI (qS s (ords s)) = leastM s := rfl
    simp only [H93, hq, hl]
    (repeat' (first | ((first | with_reducible refine vcG_split ?_ ?_ | with_reducible refine vcIf_split ?_ ?_ | with_reducible refine vcQ_split ?_ ?_ | with_reducible refine vcDG_split ?_ ?_) <;> intro hb <;> (try rw [hb]) <;> (try simp only [Bool.and_eq_true, Bool.or_eq_true, dtrue, dfalse, Bool.not_eq_true', Bool.not_eq_false', Bool.and_eq_false_iff, Bool.or_eq_false_iff, Bool.not_true, Bool.not_false] at hb) <;> (try simp only [within] at hb) <;> try (simp only [go_sem])) | refine And.intro (by (first | exact trivial | (simp only [I64]; omega) | omega)) ?_ | (with_reducible rw [vc_draw_eq]; first | refine CV.draw (id := 9) [(0, 1), (0, 0), (0, 0), (0, 0), (0, 0)] mixed rfl (by kernel_rfl) ?_ | refine CV.draw (id := 10) [(0, 0), (0, 1), (0, 0), (0, 0)] mixed rfl (by kernel_rfl) ?_) | (simp only [go_sem])))
theorem c20 (s : List Job) : PC Try.prog 20 [hS s] (.tup [.int .i64 (if check s = 0 then leastM s else 0), .int .i64 (check s)]) := by
  by_cases hv : valid s
  · have hc := check_yes hv
    have h93 := c51 s hv
    rw [hc, if_pos rfl]
    refine PC.body Try.func20 (by kernel_rfl) rfl (by simp [Try.f20]) rfl ?_
    simp only [Try.f20]
    intro hlen
    simp only [go_sem, List.length_map, and_true, true_and] at hlen
    refine CV.run ?_
    (repeat' (first | ((first | with_reducible refine vcG_split ?_ ?_ | with_reducible refine vcIf_split ?_ ?_ | with_reducible refine vcQ_split ?_ ?_ | with_reducible refine vcDG_split ?_ ?_) <;> intro hb <;> (try rw [hb]) <;> (try simp only [Bool.and_eq_true, Bool.or_eq_true, dtrue, dfalse, Bool.not_eq_true', Bool.not_eq_false', Bool.and_eq_false_iff, Bool.or_eq_false_iff, Bool.not_true, Bool.not_false] at hb) <;> (try simp only [within] at hb) <;> try (simp only [go_sem, hc])) | refine And.intro (by (first | exact trivial | (simp only [I64]; omega) | omega)) ?_ | (first | (refine vcP_pure (c46n _) rfl ?_ ?_ ?_; (focus (first | rfl | ((simp only [go_sem, hc, AV.pureL, AV.pure, pureL_mapI, Bool.and_self]) <;> fail))); (focus (first | ((simp only [go_sem, hc]) <;> fail) | rfl))) | (refine dCallP_pure (c46n _) rfl ?_ ?_ ?_; (focus (first | rfl | ((simp only [go_sem, hc, AV.pureL, AV.pure, pureL_mapI, Bool.and_self]) <;> fail))); (focus (first | ((simp only [go_sem, hc]) <;> fail) | rfl))) | (refine dCallC_pure (c46n _) rfl ?_ ?_ ?_; (focus (first | rfl | ((simp only [go_sem, hc, AV.pureL, AV.pure, pureL_mapI, Bool.and_self]) <;> fail))); (focus (first | ((simp only [go_sem, hc]) <;> fail) | rfl))) | refine dCallC_safe (c46n _) rfl rfl (by (simp only [go_sem, hc])) ?_ | refine vcP_safe (c46n _) rfl rfl (by (simp only [go_sem, hc])) ?_ | refine dCallP_safe (c46n _) rfl rfl ?_ | (refine vcP_pure (h93) rfl ?_ ?_ ?_; (focus (first | rfl | ((simp only [go_sem, hc, AV.pureL, AV.pure, pureL_mapI, Bool.and_self]) <;> fail))); (focus (first | ((simp only [go_sem, hc]) <;> fail) | rfl))) | (refine dCallP_pure (h93) rfl ?_ ?_ ?_; (focus (first | rfl | ((simp only [go_sem, hc, AV.pureL, AV.pure, pureL_mapI, Bool.and_self]) <;> fail))); (focus (first | ((simp only [go_sem, hc]) <;> fail) | rfl))) | (refine dCallC_pure (h93) rfl ?_ ?_ ?_; (focus (first | rfl | ((simp only [go_sem, hc, AV.pureL, AV.pure, pureL_mapI, Bool.and_self]) <;> fail))); (focus (first | ((simp only [go_sem, hc]) <;> fail) | rfl))) | refine dCallC_safe (h93) rfl rfl (by (simp only [go_sem, hc])) ?_ | refine vcP_safe (h93) rfl rfl (by (simp only [go_sem, hc])) ?_ | refine dCallP_safe (h93) rfl rfl ?_) | (simp only [go_sem, hc])))
  · have hc := check_no hv
    rw [hc, if_neg (by omega)]
    refine PC.body Try.func20 (by kernel_rfl) rfl (by simp [Try.f20]) rfl ?_
    simp only [Try.f20]
    intro hlen
    simp only [go_sem, List.length_map, and_true, true_and] at hlen
    refine CV.run ?_
    (repeat' (first | ((first | with_reducible refine vcG_split ?_ ?_ | with_reducible refine vcIf_split ?_ ?_ | with_reducible refine vcQ_split ?_ ?_ | with_reducible refine vcDG_split ?_ ?_) <;> intro hb <;> (try rw [hb]) <;> (try simp only [Bool.and_eq_true, Bool.or_eq_true, dtrue, dfalse, Bool.not_eq_true', Bool.not_eq_false', Bool.and_eq_false_iff, Bool.or_eq_false_iff, Bool.not_true, Bool.not_false] at hb) <;> (try simp only [within] at hb) <;> try (simp only [go_sem, hc])) | refine And.intro (by (first | exact trivial | (simp only [I64]; omega) | omega)) ?_ | (first | (refine vcP_pure (c46n _) rfl ?_ ?_ ?_; (focus (first | rfl | ((simp only [go_sem, hc, AV.pureL, AV.pure, pureL_mapI, Bool.and_self]) <;> fail))); (focus (first | ((simp only [go_sem, hc]) <;> fail) | rfl))) | (refine dCallP_pure (c46n _) rfl ?_ ?_ ?_; (focus (first | rfl | ((simp only [go_sem, hc, AV.pureL, AV.pure, pureL_mapI, Bool.and_self]) <;> fail))); (focus (first | ((simp only [go_sem, hc]) <;> fail) | rfl))) | (refine dCallC_pure (c46n _) rfl ?_ ?_ ?_; (focus (first | rfl | ((simp only [go_sem, hc, AV.pureL, AV.pure, pureL_mapI, Bool.and_self]) <;> fail))); (focus (first | ((simp only [go_sem, hc]) <;> fail) | rfl))) | refine dCallC_safe (c46n _) rfl rfl (by (simp only [go_sem, hc])) ?_ | refine vcP_safe (c46n _) rfl rfl (by (simp only [go_sem, hc])) ?_ | refine dCallP_safe (c46n _) rfl rfl ?_) | (simp only [go_sem, hc])))
end Go.Proofs.Ytoadkchhimojlaa.W5

