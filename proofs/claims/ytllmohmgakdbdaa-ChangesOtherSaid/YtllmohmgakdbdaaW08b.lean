/- Contracts of functions of the given program, without a condition beyond those that each theorem states; they lead to the given statement. -/
import Derived.Test.YtllmohmgakdbdaaW08a
set_option linter.unusedSimpArgs false
set_option linter.unusedVariables false
set_option maxRecDepth 100000
namespace Go.Proofs.Ytllmohmgakdbdaa
open Go Go.Fl
open Classical
theorem c23 (ts : List Thing) (ms : List Mark) (hv : okThings ts) (l : List Int) (hl : ∀ n, n ∈ l → 0 ≤ n ∧ n < ts.length) (h40 : l.length ≤ 1000) : PC Try.prog 23 [hT ts ms, lN l] (.int .i64 (costOf ts l)) := by
  have hb : ∀ j, j ≤ l.length → 0 ≤ costOf ts (l.take j) ∧ costOf ts (l.take j) ≤ 99 * j := by
    intro j
    induction j with
    | zero => intro _; simp [costOf]
    | succ j ih =>
      intro hj
      have ih := ih (by omega)
      obtain ⟨n, hn⟩ := get_of (l := l) (j := j) (by omega)
      have hr := hl n (List.mem_of_getElem? hn)
      obtain ⟨t, ht⟩ := get_of (l := ts) (j := n.toNat) (by omega)
      have hc := (hv _ t ht).2.2.2.1
      unfold within at hc
      rw [List.take_add_one, hn, costOf_append]
      simp [costOf, costAt, ht]; omega
  have hstep : ∀ j n, l[j]? = some n → costOf ts (l.take (j + 1)) = costOf ts (l.take j) + costAt ts n := fun j n hn => by
    rw [List.take_add_one, hn, costOf_append]; simp [costOf]
  have hfull : costOf ts (l.take l.length) = costOf ts l := by rw [List.take_length]
  obtain ⟨C, hC⟩ : ∃ C : Nat → Int, ∀ j, C j = costOf ts (l.take j) := ⟨_, fun _ => rfl⟩
  have hC0 : C 0 = 0 := by rw [hC]; simp [costOf]
  refine PC.body Try.func23 (by kernel_rfl) rfl (by simp [Try.f23]) rfl ?_
  simp only [Try.f23]
  intro hlen
  simp only [go_sem, List.length_map, and_true, true_and] at hlen
  refine CV.run ?_
  (repeat' (first | ((first | with_reducible refine vcG_split ?_ ?_ | with_reducible refine vcIf_split ?_ ?_ | with_reducible refine vcQ_split ?_ ?_ | with_reducible refine vcDG_split ?_ ?_) <;> intro hb <;> (try rw [hb]) <;> (try simp only [Bool.and_eq_true, Bool.or_eq_true, dtrue, dfalse, Bool.not_eq_true', Bool.not_eq_false', Bool.and_eq_false_iff, Bool.or_eq_false_iff, Bool.not_true, Bool.not_false] at hb) <;> (try simp only [within] at hb) <;> try (simp only [go_sem])) | refine And.intro (by (first | exact trivial | (simp only [I64]; omega) | omega)) ?_ | (with_reducible rw [vc_draw_eq]; first | refine CV.draw (id := 5) [(0, 0), (0, 0), (0, 0), (0, 0), (0, 0), (0, 0), (0, 0), (0, 0), (0, 0), (0, 0), (0, 0), (0, 0)] mixed rfl (by kernel_rfl) ?_) | fail | (simp only [go_sem])))
  refine vc_for (fun j => ⟨[(6, .int .i64 j), (5, .int .i64 (C j)), (4, .int .i64 0), (2, .lp 0 0), (1, lN l)], [.box 25 [.lst false 4 (ts.map encT), .lst false 3 (ms.map encM)] false]⟩) l.length (fun j => True) (by (first | exact wk_same (by (simp only [go_sem, Int.natCast_add, Int.natCast_one, Int.natCast_zero, Int.cast_ofNat_Int, hC0])) | exact wk_drop (by (simp only [go_sem, Int.natCast_add, Int.natCast_one, Int.natCast_zero, Int.cast_ofNat_Int, hC0])) (by (simp only [go_sem, Int.natCast_add, Int.natCast_one, Int.natCast_zero, Int.cast_ofNat_Int, hC0])) (by (simp only [go_sem, Int.natCast_add, Int.natCast_one, Int.natCast_zero, Int.cast_ofNat_Int, hC0])) (by (simp only [go_sem, Int.natCast_add, Int.natCast_one, Int.natCast_zero, Int.cast_ofNat_Int, hC0])) (by (simp only [go_sem, Int.natCast_add, Int.natCast_one, Int.natCast_zero, Int.cast_ofNat_Int, hC0])))) trivial ?_
  intro j hj _
  rcases Nat.lt_or_ge j l.length with hlt | hge
  · obtain ⟨n, hn⟩ := get_of hlt
    have hlt' : (j : Int) < l.length := by omega
    have hr := hl n (List.mem_of_getElem? hn)
    obtain ⟨t, ht⟩ := get_of (l := ts) (j := n.toNat) (by omega)
    have hc := (hv _ t ht).2.2.2.1
    unfold within at hc
    have hbj := hb j hj
    rw [← hC] at hbj
    have e : C (j + 1) = C j + t.cost := by rw [hC, hC, hstep j n hn]; simp [costAt, ht]
    (repeat' (first | ((first | with_reducible refine vcG_split ?_ ?_ | with_reducible refine vcIf_split ?_ ?_ | with_reducible refine vcQ_split ?_ ?_ | with_reducible refine vcDG_split ?_ ?_) <;> intro hb <;> (try rw [hb]) <;> (try simp only [Bool.and_eq_true, Bool.or_eq_true, dtrue, dfalse, Bool.not_eq_true', Bool.not_eq_false', Bool.and_eq_false_iff, Bool.or_eq_false_iff, Bool.not_true, Bool.not_false] at hb) <;> (try simp only [within] at hb) <;> try (simp only [go_sem, hlt', hn, ht, hr, encN, encT])) | refine And.intro (by (first | exact trivial | (simp only [I64]; omega) | omega)) ?_ | (with_reducible rw [vc_draw_eq]; first | refine CV.draw (id := 5) [(0, 0), (0, 0), (0, 0), (0, 0), (0, 0), (0, 0), (0, 0), (0, 0), (0, 0), (0, 0), (0, 0), (0, 0)] mixed rfl (by kernel_rfl) ?_) | fail | (simp only [go_sem, hlt', hn, ht, hr, encN, encT])))
    all_goals first
      | (first | exact wk_same (by (simp only [go_sem, Int.natCast_add, Int.natCast_one, Int.natCast_zero, Int.cast_ofNat_Int, e])) | exact wk_drop (by (simp only [go_sem, Int.natCast_add, Int.natCast_one, Int.natCast_zero, Int.cast_ofNat_Int, e])) (by (simp only [go_sem, Int.natCast_add, Int.natCast_one, Int.natCast_zero, Int.cast_ofNat_Int, e])) (by (simp only [go_sem, Int.natCast_add, Int.natCast_one, Int.natCast_zero, Int.cast_ofNat_Int, e])) (by (simp only [go_sem, Int.natCast_add, Int.natCast_one, Int.natCast_zero, Int.cast_ofNat_Int, e])) (by (simp only [go_sem, Int.natCast_add, Int.natCast_one, Int.natCast_zero, Int.cast_ofNat_Int, e])))
      | trace_state
  · have hge' : ¬ (j : Int) < l.length := by omega
    have : j = l.length := by omega
    subst this
    have e : C l.length = costOf ts l := by rw [hC, hfull]
    (repeat' (first | ((first | with_reducible refine vcG_split ?_ ?_ | with_reducible refine vcIf_split ?_ ?_ | with_reducible refine vcQ_split ?_ ?_ | with_reducible refine vcDG_split ?_ ?_) <;> intro hb <;> (try rw [hb]) <;> (try simp only [Bool.and_eq_true, Bool.or_eq_true, dtrue, dfalse, Bool.not_eq_true', Bool.not_eq_false', Bool.and_eq_false_iff, Bool.or_eq_false_iff, Bool.not_true, Bool.not_false] at hb) <;> (try simp only [within] at hb) <;> try (simp only [go_sem, hge', e])) | refine And.intro (by (first | exact trivial | (simp only [I64]; omega) | omega)) ?_ | (with_reducible rw [vc_draw_eq]; first | refine CV.draw (id := 5) [(0, 0), (0, 0), (0, 0), (0, 0), (0, 0), (0, 0), (0, 0), (0, 0), (0, 0), (0, 0), (0, 0), (0, 0)] mixed rfl (by kernel_rfl) ?_) | fail | (simp only [go_sem, hge', e])))
theorem c93 (ts : List Thing) (ms : List Mark) (ht : ts.length ≤ 1000) (hm : ms.length ≤ 1000) (c now : Int) (l : List Int) (hl : ∀ n, n ∈ l → 0 ≤ n ∧ n < ts.length) (h40 : l.length ≤ 1000) : PC Try.prog 93 [hT ts ms, .int .i64 c, .int .i64 now, lN l] (hT ts (ms ++ altM ts c now l)) := by
  obtain ⟨M, hM⟩ : ∃ M : Nat → List Mark, ∀ j, M j = ms ++ altM ts c now (l.take j) := ⟨_, fun _ => rfl⟩
  have hM0 : M 0 = ms := by rw [hM]; simp [altM]
  have hMl : ∀ j, j ≤ l.length → (M j).length = ms.length + j := fun j hj => by rw [hM]; simp [altM]; omega
  have hMs : ∀ j n, l[j]? = some n → M (j + 1) = M j ++ [⟨c, n, max now (upAt ts n)⟩] := fun j n hn => by
    rw [hM, hM, List.take_add_one, hn, altM_append, ← List.append_assoc]; simp [altM]
  refine PC.body Try.func93 (by kernel_rfl) rfl (by simp [Try.f93]) rfl ?_
  simp only [Try.f93]
  intro hlen
  simp only [go_sem, List.length_map, and_true, true_and] at hlen
  refine CV.run ?_
  (repeat' (first | ((first | with_reducible refine vcG_split ?_ ?_ | with_reducible refine vcIf_split ?_ ?_ | with_reducible refine vcQ_split ?_ ?_ | with_reducible refine vcDG_split ?_ ?_) <;> intro hb <;> (try rw [hb]) <;> (try simp only [Bool.and_eq_true, Bool.or_eq_true, dtrue, dfalse, Bool.not_eq_true', Bool.not_eq_false', Bool.and_eq_false_iff, Bool.or_eq_false_iff, Bool.not_true, Bool.not_false] at hb) <;> (try simp only [within] at hb) <;> try (simp only [go_sem])) | refine And.intro (by (first | exact trivial | (simp only [I64]; omega) | omega)) ?_ | (with_reducible rw [vc_draw_eq]; first | refine CV.draw (id := 5) [(0, 0), (0, 0), (0, 0), (0, 0), (0, 0), (0, 0), (0, 0), (0, 0), (0, 0), (0, 0), (0, 0), (0, 0), (0, 0), (0, 0), (0, 0), (0, 0), (0, 0), (0, 0), (0, 0), (0, 0), (0, 0), (1, 1), (0, 0)] mixed rfl (by kernel_rfl) ?_) | fail | (simp only [go_sem])))
  refine vcP_new (h35 ts ms ht hm) rfl ?_
  (repeat' (first | ((first | with_reducible refine vcG_split ?_ ?_ | with_reducible refine vcIf_split ?_ ?_ | with_reducible refine vcQ_split ?_ ?_ | with_reducible refine vcDG_split ?_ ?_) <;> intro hb <;> (try rw [hb]) <;> (try simp only [Bool.and_eq_true, Bool.or_eq_true, dtrue, dfalse, Bool.not_eq_true', Bool.not_eq_false', Bool.and_eq_false_iff, Bool.or_eq_false_iff, Bool.not_true, Bool.not_false] at hb) <;> (try simp only [within] at hb) <;> try (simp only [go_sem, cpV, cpH, List.map_nil, List.map_cons, List.cons_append, List.nil_append])) | refine And.intro (by (first | exact trivial | (simp only [I64]; omega) | omega)) ?_ | (with_reducible rw [vc_draw_eq]; first | refine CV.draw (id := 5) [(0, 0), (0, 0), (0, 0), (0, 0), (0, 0), (0, 0), (0, 0), (0, 0), (0, 0), (0, 0), (0, 0), (0, 0), (0, 0), (0, 0), (0, 0), (0, 0), (0, 0), (0, 0), (0, 0), (0, 0), (0, 0), (1, 1), (0, 0)] mixed rfl (by kernel_rfl) ?_) | fail | (simp only [go_sem, cpV, cpH, List.map_nil, List.map_cons, List.cons_append, List.nil_append])))
  refine vc_for (fun j => ⟨[(10, .int .i64 j), (9, .lp 6 0), (8, .lp 1 0), (4, .lp 0 0), (1, .int .i64 c), (2, .int .i64 now), (3, lN l)], [.box 25 [.lst false 4 (ts.map encT), .lst false 3 (ms.map encM)] false, .box 25 [.nilS, .nilS] false, .box 25 [.lst false 4 (ts.map encT), .lst false 3 (ms.map encM)] false, .box 25 [.row 4 ts.length, .row 5 ms.length] false, .row 46 4 (ts.map encT) false, .row 57 3 ((M j).map encM) false, .box 25 [.row 4 ts.length, .row 5 (ms.length + j)] false]⟩) l.length (fun j => True) (by (first | exact wk_same (by (simp only [go_sem, Int.natCast_add, Int.natCast_one, Int.natCast_zero, Int.cast_ofNat_Int, hM0])) | exact wk_drop (by (simp only [go_sem, Int.natCast_add, Int.natCast_one, Int.natCast_zero, Int.cast_ofNat_Int, hM0])) (by (simp only [go_sem, Int.natCast_add, Int.natCast_one, Int.natCast_zero, Int.cast_ofNat_Int, hM0])) (by (simp only [go_sem, Int.natCast_add, Int.natCast_one, Int.natCast_zero, Int.cast_ofNat_Int, hM0])) (by (simp only [go_sem, Int.natCast_add, Int.natCast_one, Int.natCast_zero, Int.cast_ofNat_Int, hM0])) (by (simp only [go_sem, Int.natCast_add, Int.natCast_one, Int.natCast_zero, Int.cast_ofNat_Int, hM0])))) trivial ?_
  intro j hj _
  have hml := hMl j hj
  rcases Nat.lt_or_ge j l.length with hlt | hge
  · obtain ⟨n, hn⟩ := get_of hlt
    have hlt' : (j : Int) < l.length := by omega
    have hr := hl n (List.mem_of_getElem? hn)
    obtain ⟨t, hti⟩ := get_of (l := ts) (j := n.toNat) (by omega)
    have e := hMs j n hn
    rw [upAt_of hti] at e
    generalize M j = Mj at hml e ⊢
    (repeat' (first | ((first | with_reducible refine vcG_split ?_ ?_ | with_reducible refine vcIf_split ?_ ?_ | with_reducible refine vcQ_split ?_ ?_ | with_reducible refine vcDG_split ?_ ?_) <;> intro hb <;> (try rw [hb]) <;> (try simp only [Bool.and_eq_true, Bool.or_eq_true, dtrue, dfalse, Bool.not_eq_true', Bool.not_eq_false', Bool.and_eq_false_iff, Bool.or_eq_false_iff, Bool.not_true, Bool.not_false] at hb) <;> (try simp only [within] at hb) <;> try (simp only [go_sem, hlt', hn, hti, hr, encN, encT, hml])) | refine And.intro (by (first | exact trivial | (simp only [I64]; omega) | omega)) ?_ | (with_reducible rw [vc_draw_eq]; first | refine CV.draw (id := 5) [(0, 0), (0, 0), (0, 0), (0, 0), (0, 0), (0, 0), (0, 0), (0, 0), (0, 0), (0, 0), (0, 0), (0, 0), (0, 0), (0, 0), (0, 0), (0, 0), (0, 0), (0, 0), (0, 0), (0, 0), (0, 0), (1, 1), (0, 0)] mixed rfl (by kernel_rfl) ?_) | fail | (simp only [go_sem, hlt', hn, hti, hr, encN, encT, hml])))
    all_goals first
      | (first | exact wk_same (by (simp only [go_sem, Int.natCast_add, Int.natCast_one, Int.natCast_zero, Int.cast_ofNat_Int, e, encM, List.map_append, hml, Nat.add_assoc])) | exact wk_drop (by (simp only [go_sem, Int.natCast_add, Int.natCast_one, Int.natCast_zero, Int.cast_ofNat_Int, e, encM, List.map_append, hml, Nat.add_assoc])) (by (simp only [go_sem, Int.natCast_add, Int.natCast_one, Int.natCast_zero, Int.cast_ofNat_Int, e, encM, List.map_append, hml, Nat.add_assoc])) (by (simp only [go_sem, Int.natCast_add, Int.natCast_one, Int.natCast_zero, Int.cast_ofNat_Int, e, encM, List.map_append, hml, Nat.add_assoc])) (by (simp only [go_sem, Int.natCast_add, Int.natCast_one, Int.natCast_zero, Int.cast_ofNat_Int, e, encM, List.map_append, hml, Nat.add_assoc])) (by (simp only [go_sem, Int.natCast_add, Int.natCast_one, Int.natCast_zero, Int.cast_ofNat_Int, e, encM, List.map_append, hml, Nat.add_assoc])))
      | trace_state
  · have hge' : ¬ (j : Int) < l.length := by omega
    have : j = l.length := by omega
    subst this
    have e : M l.length = ms ++ altM ts c now l := by rw [hM, List.take_length]
    rw [← e]
    (repeat' (first | ((first | with_reducible refine vcG_split ?_ ?_ | with_reducible refine vcIf_split ?_ ?_ | with_reducible refine vcQ_split ?_ ?_ | with_reducible refine vcDG_split ?_ ?_) <;> intro hb <;> (try rw [hb]) <;> (try simp only [Bool.and_eq_true, Bool.or_eq_true, dtrue, dfalse, Bool.not_eq_true', Bool.not_eq_false', Bool.and_eq_false_iff, Bool.or_eq_false_iff, Bool.not_true, Bool.not_false] at hb) <;> (try simp only [within] at hb) <;> try (simp only [go_sem, hge', hml])) | refine And.intro (by (first | exact trivial | (simp only [I64]; omega) | omega)) ?_ | (with_reducible rw [vc_draw_eq]; first | refine CV.draw (id := 5) [(0, 0), (0, 0), (0, 0), (0, 0), (0, 0), (0, 0), (0, 0), (0, 0), (0, 0), (0, 0), (0, 0), (0, 0), (0, 0), (0, 0), (0, 0), (0, 0), (0, 0), (0, 0), (0, 0), (0, 0), (0, 0), (1, 1), (0, 0)] mixed rfl (by kernel_rfl) ?_) | fail | (simp only [go_sem, hge', hml])))
    all_goals trace_state
theorem c65 (ts : List Thing) (ms : List Mark) (hv : okThings ts) (h8 : ts.length ≤ 8) (hm : ms.length ≤ 1000) (c now : Int) (l : List Int) (h40 : l.length ≤ 1000) : PC Try.prog 65 [hT ts ms, .int .i64 c, .int .i64 now, lN l] (.bool (decide (rising l 0 (ts.length - 1) ∧ isRem ts ms c now l))) := by
  by_cases hr : rising l 0 (ts.length - 1)
  · have hrg : ∀ n, n ∈ l → 0 ≤ n ∧ n < ts.length := fun n hn => by have := hr.range n hn; omega
    have h93 := c93 ts ms (by omega) hm c now l hrg h40
    have h76 := c76 ts (ms ++ altM ts c now l) hv (by omega) c
    have hd : isRem ts ms c now l ↔ ((sel (lk ts (ms ++ altM ts c now l) c) ts.length).length : Int) = 0 := by
      unfold isRem
      constructor
      · intro h; rw [h]; rfl
      · intro h; exact List.eq_nil_of_length_eq_zero (by omega)
    refine PC.body Try.func65 (by kernel_rfl) rfl (by simp [Try.f65]) rfl ?_
    simp only [Try.f65]
    intro hlen
    simp only [go_sem, List.length_map, and_true, true_and] at hlen
    refine CV.run ?_
    (repeat' (first | ((first | with_reducible refine vcG_split ?_ ?_ | with_reducible refine vcIf_split ?_ ?_ | with_reducible refine vcQ_split ?_ ?_ | with_reducible refine vcDG_split ?_ ?_) <;> intro hb <;> (try rw [hb]) <;> (try simp only [Bool.and_eq_true, Bool.or_eq_true, dtrue, dfalse, Bool.not_eq_true', Bool.not_eq_false', Bool.and_eq_false_iff, Bool.or_eq_false_iff, Bool.not_true, Bool.not_false] at hb) <;> (try simp only [within] at hb) <;> try (simp only [go_sem, hr])) | refine And.intro (by (first | exact trivial | (simp only [I64]; omega) | omega)) ?_ | (first | (refine vcP_pure (c30 _ _ _) rfl ?_ ?_ ?_; (focus (first | rfl | ((simp only [go_sem, hr, AV.pureL, AV.pure, pureL_mapI, Bool.and_self]) <;> fail))); (focus (first | ((simp only [go_sem, hr]) <;> fail) | rfl))) | (refine dCallP_pure (c30 _ _ _) rfl ?_ ?_ ?_; (focus (first | rfl | ((simp only [go_sem, hr, AV.pureL, AV.pure, pureL_mapI, Bool.and_self]) <;> fail))); (focus (first | ((simp only [go_sem, hr]) <;> fail) | rfl))) | refine vcP_safe (c30 _ _ _) rfl rfl (by (simp only [go_sem, hr])) ?_ | refine dCallP_safe (c30 _ _ _) rfl rfl ?_ | (refine vcP_pure (h93) rfl ?_ ?_ ?_; (focus (first | rfl | ((simp only [go_sem, hr, AV.pureL, AV.pure, pureL_mapI, Bool.and_self]) <;> fail))); (focus (first | ((simp only [go_sem, hr]) <;> fail) | rfl))) | (refine dCallP_pure (h93) rfl ?_ ?_ ?_; (focus (first | rfl | ((simp only [go_sem, hr, AV.pureL, AV.pure, pureL_mapI, Bool.and_self]) <;> fail))); (focus (first | ((simp only [go_sem, hr]) <;> fail) | rfl))) | refine vcP_safe (h93) rfl rfl (by (simp only [go_sem, hr])) ?_ | refine dCallP_safe (h93) rfl rfl ?_ | (refine vcP_pure (h76) rfl ?_ ?_ ?_; (focus (first | rfl | ((simp only [go_sem, hr, AV.pureL, AV.pure, pureL_mapI, Bool.and_self]) <;> fail))); (focus (first | ((simp only [go_sem, hr]) <;> fail) | rfl))) | (refine dCallP_pure (h76) rfl ?_ ?_ ?_; (focus (first | rfl | ((simp only [go_sem, hr, AV.pureL, AV.pure, pureL_mapI, Bool.and_self]) <;> fail))); (focus (first | ((simp only [go_sem, hr]) <;> fail) | rfl))) | refine vcP_safe (h76) rfl rfl (by (simp only [go_sem, hr])) ?_ | refine dCallP_safe (h76) rfl rfl ?_) | (simp only [go_sem, hr])))
    all_goals exact bd hd.symm
  · have hr' : ¬ (rising l 0 (ts.length - 1) ∧ isRem ts ms c now l) := fun h => hr h.1
    refine PC.body Try.func65 (by kernel_rfl) rfl (by simp [Try.f65]) rfl ?_
    simp only [Try.f65]
    intro hlen
    simp only [go_sem, List.length_map, and_true, true_and] at hlen
    refine CV.run ?_
    (repeat' (first | ((first | with_reducible refine vcG_split ?_ ?_ | with_reducible refine vcIf_split ?_ ?_ | with_reducible refine vcQ_split ?_ ?_ | with_reducible refine vcDG_split ?_ ?_) <;> intro hb <;> (try rw [hb]) <;> (try simp only [Bool.and_eq_true, Bool.or_eq_true, dtrue, dfalse, Bool.not_eq_true', Bool.not_eq_false', Bool.and_eq_false_iff, Bool.or_eq_false_iff, Bool.not_true, Bool.not_false] at hb) <;> (try simp only [within] at hb) <;> try (simp only [go_sem, hr])) | refine And.intro (by (first | exact trivial | (simp only [I64]; omega) | omega)) ?_ | (first | (refine vcP_pure (c30 _ _ _) rfl ?_ ?_ ?_; (focus (first | rfl | ((simp only [go_sem, hr, AV.pureL, AV.pure, pureL_mapI, Bool.and_self]) <;> fail))); (focus (first | ((simp only [go_sem, hr]) <;> fail) | rfl))) | (refine dCallP_pure (c30 _ _ _) rfl ?_ ?_ ?_; (focus (first | rfl | ((simp only [go_sem, hr, AV.pureL, AV.pure, pureL_mapI, Bool.and_self]) <;> fail))); (focus (first | ((simp only [go_sem, hr]) <;> fail) | rfl))) | refine vcP_safe (c30 _ _ _) rfl rfl (by (simp only [go_sem, hr])) ?_ | refine dCallP_safe (c30 _ _ _) rfl rfl ?_) | (simp only [go_sem, hr])))
    exact bf fun h => h.1
theorem c22 (ts : List Thing) (ms : List Mark) (hv : okThings ts) (h8 : ts.length ≤ 8) (hm : ms.length ≤ 1000) (i c now : Int) (l : List Int) : PC Try.prog 22 [hT ts ms, xA i c now, lN l] (.bool (decide (l.length ≤ 40 ∧ rising l 0 (ts.length - 1) ∧ isRem ts ms c now l))) := by
  by_cases h40 : l.length ≤ 40
  · have h65 := c65 ts ms hv h8 hm c now l (by omega)
    have h40' : (l.length : Int) ≤ 40 := by omega
    refine PC.body Try.func22 (by kernel_rfl) rfl (by simp [Try.f22]) rfl ?_
    simp only [Try.f22]
    intro hlen
    simp only [go_sem, List.length_map, and_true, true_and] at hlen
    refine CV.run ?_
    (repeat' (first | ((first | with_reducible refine vcG_split ?_ ?_ | with_reducible refine vcIf_split ?_ ?_ | with_reducible refine vcQ_split ?_ ?_ | with_reducible refine vcDG_split ?_ ?_) <;> intro hb <;> (try rw [hb]) <;> (try simp only [Bool.and_eq_true, Bool.or_eq_true, dtrue, dfalse, Bool.not_eq_true', Bool.not_eq_false', Bool.and_eq_false_iff, Bool.or_eq_false_iff, Bool.not_true, Bool.not_false] at hb) <;> (try simp only [within] at hb) <;> try (simp only [go_sem, h40'])) | refine And.intro (by (first | exact trivial | (simp only [I64]; omega) | omega)) ?_ | (first | (refine vcP_pure (h65) rfl ?_ ?_ ?_; (focus (first | rfl | ((simp only [go_sem, h40', AV.pureL, AV.pure, pureL_mapI, Bool.and_self]) <;> fail))); (focus (first | ((simp only [go_sem, h40']) <;> fail) | rfl))) | (refine dCallP_pure (h65) rfl ?_ ?_ ?_; (focus (first | rfl | ((simp only [go_sem, h40', AV.pureL, AV.pure, pureL_mapI, Bool.and_self]) <;> fail))); (focus (first | ((simp only [go_sem, h40']) <;> fail) | rfl))) | refine vcP_safe (h65) rfl rfl (by (simp only [go_sem, h40'])) ?_ | refine dCallP_safe (h65) rfl rfl ?_) | (simp only [go_sem, h40'])))
    exact bd ⟨fun h => ⟨h40, h⟩, fun h => h.2⟩
  · have h40' : ¬ (l.length : Int) ≤ 40 := by omega
    have hr' : ¬ (l.length ≤ 40 ∧ rising l 0 (ts.length - 1) ∧ isRem ts ms c now l) := fun h => h40 h.1
    refine PC.body Try.func22 (by kernel_rfl) rfl (by simp [Try.f22]) rfl ?_
    simp only [Try.f22]
    intro hlen
    simp only [go_sem, List.length_map, and_true, true_and] at hlen
    refine CV.run ?_
    (repeat' (first | ((first | with_reducible refine vcG_split ?_ ?_ | with_reducible refine vcIf_split ?_ ?_ | with_reducible refine vcQ_split ?_ ?_ | with_reducible refine vcDG_split ?_ ?_) <;> intro hb <;> (try rw [hb]) <;> (try simp only [Bool.and_eq_true, Bool.or_eq_true, dtrue, dfalse, Bool.not_eq_true', Bool.not_eq_false', Bool.and_eq_false_iff, Bool.or_eq_false_iff, Bool.not_true, Bool.not_false] at hb) <;> (try simp only [within] at hb) <;> try (simp only [go_sem, h40'])) | refine And.intro (by (first | exact trivial | (simp only [I64]; omega) | omega)) ?_ | fail | (simp only [go_sem, h40'])))
    exact bf hr'
end Go.Proofs.Ytllmohmgakdbdaa
