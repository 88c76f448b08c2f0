/- Contracts of functions of the given program, without a condition beyond those that each theorem states; they lead to the given statement. -/
import Derived.Test.YtjjlcjibhjmhmaaU05c
set_option linter.unusedSimpArgs false
set_option linter.unusedVariables false
set_option maxRecDepth 100000
namespace Go.Proofs.Ytjjlcjibhjmhmaa
open Go Go.Fl
open Classical
abbrev H81 (s : List Job) (x : Int) : Heap := [.box 65 (cS s) false, .box 3 [.int .i64 x] false, .box 40 [.int .i64 0, .int .i64 0] false, .box 4 [.bool false] false]
set_option maxHeartbeats 2000000 in
theorem c81n (s : List Job) (hv : valid s) (o : List Int) (ho : onJ s o) (hol : o.length ≤ 1000000) (x : Int) (hx : ∀ n : Nat, o[n]? ≠ some x) : PC Try.prog 81 [hS s, lN o, .int .i64 x] (.tup [.agg [.int .i64 0, .int .i64 0], .bool false]) := by
  refine PC.body Try.func81 (by kernel_rfl) rfl (by simp [Try.f81]) rfl ?_
  simp only [Try.f81]
  intro hlen
  simp only [go_sem, List.length_map, and_true, true_and] at hlen
  refine CV.run ?_
  (repeat' (first | ((first | with_reducible refine vcG_split ?_ ?_ | with_reducible refine vcIf_split ?_ ?_ | with_reducible refine vcQ_split ?_ ?_ | with_reducible refine vcDG_split ?_ ?_) <;> intro hb <;> (try rw [hb]) <;> (try simp only [Bool.and_eq_true, Bool.or_eq_true, dtrue, dfalse, Bool.not_eq_true', Bool.not_eq_false', Bool.and_eq_false_iff, Bool.or_eq_false_iff, Bool.not_true, Bool.not_false] at hb) <;> (try simp only [within] at hb) <;> try (simp only [go_sem])) | refine And.intro (by (first | exact trivial | (simp only [I64]; omega) | omega)) ?_ | (first | (refine vcP_pure (c90 _ _) rfl ?_ ?_ ?_; (focus (first | rfl | ((simp only [go_sem, AV.pureL, AV.pure, pureL_mapI, Bool.and_self]) <;> fail))); (focus (first | ((simp only [go_sem]) <;> fail) | rfl))) | (refine dCallP_pure (c90 _ _) rfl ?_ ?_ ?_; (focus (first | rfl | ((simp only [go_sem, AV.pureL, AV.pure, pureL_mapI, Bool.and_self]) <;> fail))); (focus (first | ((simp only [go_sem]) <;> fail) | rfl))) | (refine dCallC_pure (c90 _ _) rfl ?_ ?_ ?_; (focus (first | rfl | ((simp only [go_sem, AV.pureL, AV.pure, pureL_mapI, Bool.and_self]) <;> fail))); (focus (first | ((simp only [go_sem]) <;> fail) | rfl))) | refine dCallC_safe (c90 _ _) rfl rfl (by (simp only [go_sem])) ?_ | refine vcP_safe (c90 _ _) rfl rfl (by (simp only [go_sem])) ?_ | refine dCallP_safe (c90 _ _) rfl rfl ?_) | (simp only [go_sem])))
  rw [vc_range_eq]
  refine CV.rangeP rfl (by (simp only [go_sem])) (H81 s x) rfl (by (simp only [go_sem])) (by (simp only [go_sem])) (fun l => ?_) ?_
  · refine h102 s hv o ho hol 4 (fun _ => H81 s x) (fun _ => rfl) l _ _ _ _ _ (fun n y own hy => ?_)
    refine HCY.body2 (by omega) (by omega) rfl (by (simp only [go_sem])) (by (simp only [go_sem])) rfl rfl ?_
    have hne : ¬ y = x := fun e => hx n (by rw [hy, e])
    (repeat' (first | ((first | with_reducible refine vcG_split ?_ ?_ | with_reducible refine vcIf_split ?_ ?_ | with_reducible refine vcQ_split ?_ ?_ | with_reducible refine vcDG_split ?_ ?_) <;> intro hb <;> (try rw [hb]) <;> (try simp only [Bool.and_eq_true, Bool.or_eq_true, dtrue, dfalse, Bool.not_eq_true', Bool.not_eq_false', Bool.and_eq_false_iff, Bool.or_eq_false_iff, Bool.not_true, Bool.not_false] at hb) <;> (try simp only [within] at hb) <;> try (simp only [go_sem, hne])) | refine And.intro (by (first | exact trivial | (simp only [I64]; omega) | omega)) ?_ | fail | (simp only [go_sem, hne])))
    exact .base (by (first | exact wk_same (by (simp only [go_sem, Int.natCast_add, Int.natCast_one, Int.natCast_zero, Int.cast_ofNat_Int])) | exact wk_drop (by (simp only [go_sem, Int.natCast_add, Int.natCast_one, Int.natCast_zero, Int.cast_ofNat_Int])) (by (simp only [go_sem, Int.natCast_add, Int.natCast_one, Int.natCast_zero, Int.cast_ofNat_Int])) (by (simp only [go_sem, Int.natCast_add, Int.natCast_one, Int.natCast_zero, Int.cast_ofNat_Int])) (by (simp only [go_sem, Int.natCast_add, Int.natCast_one, Int.natCast_zero, Int.cast_ofNat_Int])) (by (simp only [go_sem, Int.natCast_add, Int.natCast_one, Int.natCast_zero, Int.cast_ofNat_Int]))))
  · (repeat' (first | ((first | with_reducible refine vcG_split ?_ ?_ | with_reducible refine vcIf_split ?_ ?_ | with_reducible refine vcQ_split ?_ ?_ | with_reducible refine vcDG_split ?_ ?_) <;> intro hb <;> (try rw [hb]) <;> (try simp only [Bool.and_eq_true, Bool.or_eq_true, dtrue, dfalse, Bool.not_eq_true', Bool.not_eq_false', Bool.and_eq_false_iff, Bool.or_eq_false_iff, Bool.not_true, Bool.not_false] at hb) <;> (try simp only [within] at hb) <;> try (simp only [go_sem])) | refine And.intro (by (first | exact trivial | (simp only [I64]; omega) | omega)) ?_ | fail | (simp only [go_sem])))
set_option maxHeartbeats 2000000 in
theorem c81 (s : List Job) (hv : valid s) (o : List Int) (ho : onJ s o) (hol : o.length ≤ 1000000) (x : Int) (q : Nat) (hq : o[q]? = some x) (hx : ∀ n : Nat, n < q → o[n]? ≠ some x) : PC Try.prog 81 [hS s, lN o, .int .i64 x] (.tup [rdV s (o.take (q + 1)), .bool true]) := by
  refine PC.body Try.func81 (by kernel_rfl) rfl (by simp [Try.f81]) rfl ?_
  simp only [Try.f81]
  intro hlen
  simp only [go_sem, List.length_map, and_true, true_and] at hlen
  refine CV.run ?_
  (repeat' (first | ((first | with_reducible refine vcG_split ?_ ?_ | with_reducible refine vcIf_split ?_ ?_ | with_reducible refine vcQ_split ?_ ?_ | with_reducible refine vcDG_split ?_ ?_) <;> intro hb <;> (try rw [hb]) <;> (try simp only [Bool.and_eq_true, Bool.or_eq_true, dtrue, dfalse, Bool.not_eq_true', Bool.not_eq_false', Bool.and_eq_false_iff, Bool.or_eq_false_iff, Bool.not_true, Bool.not_false] at hb) <;> (try simp only [within] at hb) <;> try (simp only [go_sem])) | refine And.intro (by (first | exact trivial | (simp only [I64]; omega) | omega)) ?_ | (first | (refine vcP_pure (c90 _ _) rfl ?_ ?_ ?_; (focus (first | rfl | ((simp only [go_sem, AV.pureL, AV.pure, pureL_mapI, Bool.and_self]) <;> fail))); (focus (first | ((simp only [go_sem]) <;> fail) | rfl))) | (refine dCallP_pure (c90 _ _) rfl ?_ ?_ ?_; (focus (first | rfl | ((simp only [go_sem, AV.pureL, AV.pure, pureL_mapI, Bool.and_self]) <;> fail))); (focus (first | ((simp only [go_sem]) <;> fail) | rfl))) | (refine dCallC_pure (c90 _ _) rfl ?_ ?_ ?_; (focus (first | rfl | ((simp only [go_sem, AV.pureL, AV.pure, pureL_mapI, Bool.and_self]) <;> fail))); (focus (first | ((simp only [go_sem]) <;> fail) | rfl))) | refine dCallC_safe (c90 _ _) rfl rfl (by (simp only [go_sem])) ?_ | refine vcP_safe (c90 _ _) rfl rfl (by (simp only [go_sem])) ?_ | refine dCallP_safe (c90 _ _) rfl rfl ?_) | (simp only [go_sem])))
  rw [vc_range_eq]
  refine CV.rangeX rfl (by (simp only [go_sem])) (fun l => ?_)
  refine (h102x s hv o ho hol 4 (fun _ => H81 s x) (fun _ => rfl) [.box 65 (cS s) false, .box 3 [.int .i64 x] false, .box 40 [.int .i64 (fin s (loD s) (o.take (q + 1))).2, .int .i64 (fin s (hiD s) (o.take (q + 1))).2] false, .box 4 [.bool true] false] l _ _ _ _ _ q x hq (fun n y own hy hn => ?_) (fun own => ?_)).mono ?_
  · refine HCY.body2 (by omega) (by omega) rfl (by (simp only [go_sem])) (by (simp only [go_sem])) rfl rfl ?_
    have hne : ¬ y = x := fun e => hx n hn (by rw [hy, e])
    (repeat' (first | ((first | with_reducible refine vcG_split ?_ ?_ | with_reducible refine vcIf_split ?_ ?_ | with_reducible refine vcQ_split ?_ ?_ | with_reducible refine vcDG_split ?_ ?_) <;> intro hb <;> (try rw [hb]) <;> (try simp only [Bool.and_eq_true, Bool.or_eq_true, dtrue, dfalse, Bool.not_eq_true', Bool.not_eq_false', Bool.and_eq_false_iff, Bool.or_eq_false_iff, Bool.not_true, Bool.not_false] at hb) <;> (try simp only [within] at hb) <;> try (simp only [go_sem, hne])) | refine And.intro (by (first | exact trivial | (simp only [I64]; omega) | omega)) ?_ | fail | (simp only [go_sem, hne])))
    exact .base (by (first | exact wk_same (by (simp only [go_sem, Int.natCast_add, Int.natCast_one, Int.natCast_zero, Int.cast_ofNat_Int])) | exact wk_drop (by (simp only [go_sem, Int.natCast_add, Int.natCast_one, Int.natCast_zero, Int.cast_ofNat_Int])) (by (simp only [go_sem, Int.natCast_add, Int.natCast_one, Int.natCast_zero, Int.cast_ofNat_Int])) (by (simp only [go_sem, Int.natCast_add, Int.natCast_one, Int.natCast_zero, Int.cast_ofNat_Int])) (by (simp only [go_sem, Int.natCast_add, Int.natCast_one, Int.natCast_zero, Int.cast_ofNat_Int])) (by (simp only [go_sem, Int.natCast_add, Int.natCast_one, Int.natCast_zero, Int.cast_ofNat_Int]))))
  · refine HCY.body2x (by omega) (by omega) rfl (by (simp only [go_sem])) (by (simp only [go_sem])) rfl rfl ?_
    (repeat' (first | ((first | with_reducible refine vcG_split ?_ ?_ | with_reducible refine vcIf_split ?_ ?_ | with_reducible refine vcQ_split ?_ ?_ | with_reducible refine vcDG_split ?_ ?_) <;> intro hb <;> (try rw [hb]) <;> (try simp only [Bool.and_eq_true, Bool.or_eq_true, dtrue, dfalse, Bool.not_eq_true', Bool.not_eq_false', Bool.and_eq_false_iff, Bool.or_eq_false_iff, Bool.not_true, Bool.not_false] at hb) <;> (try simp only [within] at hb) <;> try (simp only [go_sem])) | refine And.intro (by (first | exact trivial | (simp only [I64]; omega) | omega)) ?_ | fail | (simp only [go_sem])))
    exact .base (by (first | exact wk_same (by (simp only [go_sem, Int.natCast_add, Int.natCast_one, Int.natCast_zero, Int.cast_ofNat_Int])) | exact wk_drop (by (simp only [go_sem, Int.natCast_add, Int.natCast_one, Int.natCast_zero, Int.cast_ofNat_Int])) (by (simp only [go_sem, Int.natCast_add, Int.natCast_one, Int.natCast_zero, Int.cast_ofNat_Int])) (by (simp only [go_sem, Int.natCast_add, Int.natCast_one, Int.natCast_zero, Int.cast_ofNat_Int])) (by (simp only [go_sem, Int.natCast_add, Int.natCast_one, Int.natCast_zero, Int.cast_ofNat_Int])) (by (simp only [go_sem, Int.natCast_add, Int.natCast_one, Int.natCast_zero, Int.cast_ofNat_Int]))))
  · rintro r H' ⟨rest, rfl⟩
    refine ⟨_, _, _, rfl, rfl, by (simp only [go_sem]), by (simp only [go_sem]), .inr ⟨rfl, ?_⟩⟩
    (repeat' (first | ((first | with_reducible refine vcG_split ?_ ?_ | with_reducible refine vcIf_split ?_ ?_ | with_reducible refine vcQ_split ?_ ?_ | with_reducible refine vcDG_split ?_ ?_) <;> intro hb <;> (try rw [hb]) <;> (try simp only [Bool.and_eq_true, Bool.or_eq_true, dtrue, dfalse, Bool.not_eq_true', Bool.not_eq_false', Bool.and_eq_false_iff, Bool.or_eq_false_iff, Bool.not_true, Bool.not_false] at hb) <;> (try simp only [within] at hb) <;> try (simp only [go_sem])) | refine And.intro (by (first | exact trivial | (simp only [I64]; omega) | omega)) ?_ | fail | (simp only [go_sem])))
    exact ⟨_, rfl, ⟨rfl, rfl, rfl⟩, rfl, rfl⟩
theorem fin_mono {s : List Job} {d1 d2 : Int → Int} : ∀ (l : List Int) (m1 m2 : Int × Int), m1.1 = m2.1 → m1.2 ≤ m2.2 → (∀ x, x ∈ l → d1 x ≤ d2 x) → (l.foldl (stp s d1) m1).1 = (l.foldl (stp s d2) m2).1 ∧ (l.foldl (stp s d1) m1).2 ≤ (l.foldl (stp s d2) m2).2
  | [], m1, m2, h1, h2, _ => ⟨h1, h2⟩
  | x :: l, m1, m2, h1, h2, h => fin_mono l _ _ (by simp only [stp]; omega) (by have := h x (by simp); simp only [stp]; omega) fun y hy => h y (by simp [hy])
theorem lo_le_hi {s : List Job} (hv : valid s) {l : List Int} (h : onJ s l) : (fin s (loD s) l).2 ≤ (fin s (hiD s) l).2 :=
  (fin_mono l (0, 0) (0, 0) rfl (Int.le_refl _) fun x hx => by
    have hj := hv.jb (h x hx)
    unfold okJob within at hj
    unfold loD hiD; omega).2
noncomputable def preT (o : List Int) (x : Int) : List Int := o.take ((ix (fun y => y = x) o).toNat + 1)
theorem preT_at {o : List Int} {x : Int} {q : Nat} (h1 : o[q]? = some x) (h2 : ∀ n : Nat, n < q → o[n]? ≠ some x) : preT o x = o.take (q + 1) := by
  unfold preT
  rw [ix_at (q := fun y => y = x) (j := q) ⟨⟨x, h1, rfl⟩, fun i hi b hb e => h2 i hi (by rw [hb, e])⟩]; simp
theorem first_at {o : List Int} {x : Int} (h : x ∈ o) : ∃ q : Nat, o[q]? = some x ∧ (∀ n : Nat, n < q → o[n]? ≠ some x) ∧ preT o x = o.take (q + 1) := by
  obtain ⟨q, ⟨⟨a, h1, rfl⟩, h2⟩⟩ := first_of (q := fun y => y = x) ⟨x, h, rfl⟩
  have h3 : ∀ n : Nat, n < q → o[n]? ≠ some a := fun n hn e => h2 n hn a e rfl
  exact ⟨q, h1, h3, preT_at h1 h3⟩
noncomputable def loA (s : List Job) (o : List Int) (x : Int) : Int := (fin s (loD s) (preT o x)).2
noncomputable def hiA (s : List Job) (o : List Int) (x : Int) : Int := (fin s (hiD s) (preT o x)).2
noncomputable def rReady (s : List Job) (o : List Int) (x : Int) : (Int × Int) × Int :=
  if opn s (isOrd s.length o ∧ within x 0 (s.length - 1)) = 0 then (if x ∈ o then ((loA s o x, hiA s o x), 0) else ((0, 0), 3)) else ((0, 0), opn s (isOrd s.length o ∧ within x 0 (s.length - 1)))
set_option maxHeartbeats 1000000 in
theorem c36 (s : List Job) (o : List Int) (x : Int) (hol : o.length ≤ 1000000) (hI : ∀ n, n ∈ o → I64 n) : PC Try.prog 36 [hS s, lN o, .int .i64 x] (.tup [.agg [.int .i64 (rReady s o x).1.1, .int .i64 (rReady s o x).1.2], .int .i64 (rReady s o x).2]) := by
  have h65 := c65a s o x 79 (isOrd s.length o ∧ within x 0 (s.length - 1)) (c79 s o x hol hI).dec
  by_cases h0 : opn s (isOrd s.length o ∧ within x 0 (s.length - 1)) = 0
  · obtain ⟨hv, ho, hw⟩ := (show _ ∧ _ ∧ _ from by rw [← opn0]; exact h0)
    by_cases hx : x ∈ o
    · obtain ⟨q, q1, q2, q3⟩ := first_at hx
      have h81 := c81 s hv o ho.on hol x q q1 q2
      rw [← q3] at h81
      rw [show rReady s o x = ((loA s o x, hiA s o x), 0) from by rw [rReady, if_pos h0, if_pos hx]]
      simp only [loA, hiA]
      refine PC.body Try.func36 (by kernel_rfl) rfl (by simp [Try.f36]) rfl ?_
      simp only [Try.f36]
      intro hlen
      simp only [go_sem, List.length_map, and_true, true_and] at hlen
      refine CV.run ?_
      (repeat' (first | ((first | with_reducible refine vcG_split ?_ ?_ | with_reducible refine vcIf_split ?_ ?_ | with_reducible refine vcQ_split ?_ ?_ | with_reducible refine vcDG_split ?_ ?_) <;> intro hb <;> (try rw [hb]) <;> (try simp only [Bool.and_eq_true, Bool.or_eq_true, dtrue, dfalse, Bool.not_eq_true', Bool.not_eq_false', Bool.and_eq_false_iff, Bool.or_eq_false_iff, Bool.not_true, Bool.not_false] at hb) <;> (try simp only [within] at hb) <;> try (simp only [go_sem, h0])) | refine And.intro (by (first | exact trivial | (simp only [I64]; omega) | omega)) ?_ | (first | refine vcP_bub (args' := []) 1 rfl (by (simp only [go_sem, h0])) (vcP_bub 2 rfl (by (simp only [go_sem, h0])) (vcP_pure (h65) rfl (by first | rfl | (simp only [go_sem, h0, AV.pureL, AV.pure, Bool.and_self, false_and, if_false])) (by (simp only [go_sem, h0, false_and, if_false])) ?_)) | (refine vcP_pure (h81) rfl ?_ ?_ ?_; (focus (first | rfl | ((simp only [go_sem, h0, AV.pureL, AV.pure, pureL_mapI, Bool.and_self]) <;> fail))); (focus (first | ((simp only [go_sem, h0]) <;> fail) | rfl))) | (refine dCallP_pure (h81) rfl ?_ ?_ ?_; (focus (first | rfl | ((simp only [go_sem, h0, AV.pureL, AV.pure, pureL_mapI, Bool.and_self]) <;> fail))); (focus (first | ((simp only [go_sem, h0]) <;> fail) | rfl))) | (refine dCallC_pure (h81) rfl ?_ ?_ ?_; (focus (first | rfl | ((simp only [go_sem, h0, AV.pureL, AV.pure, pureL_mapI, Bool.and_self]) <;> fail))); (focus (first | ((simp only [go_sem, h0]) <;> fail) | rfl))) | refine dCallC_safe (h81) rfl rfl (by (simp only [go_sem, h0])) ?_ | refine vcP_safe (h81) rfl rfl (by (simp only [go_sem, h0])) ?_ | refine dCallP_safe (h81) rfl rfl ?_) | (simp only [go_sem, h0])))
    · have h81 := c81n s hv o ho.on hol x fun n e => hx (List.mem_of_getElem? e)
      rw [show rReady s o x = ((0, 0), 3) from by rw [rReady, if_pos h0, if_neg hx]]
      refine PC.body Try.func36 (by kernel_rfl) rfl (by simp [Try.f36]) rfl ?_
      simp only [Try.f36]
      intro hlen
      simp only [go_sem, List.length_map, and_true, true_and] at hlen
      refine CV.run ?_
      (repeat' (first | ((first | with_reducible refine vcG_split ?_ ?_ | with_reducible refine vcIf_split ?_ ?_ | with_reducible refine vcQ_split ?_ ?_ | with_reducible refine vcDG_split ?_ ?_) <;> intro hb <;> (try rw [hb]) <;> (try simp only [Bool.and_eq_true, Bool.or_eq_true, dtrue, dfalse, Bool.not_eq_true', Bool.not_eq_false', Bool.and_eq_false_iff, Bool.or_eq_false_iff, Bool.not_true, Bool.not_false] at hb) <;> (try simp only [within] at hb) <;> try (simp only [go_sem, h0])) | refine And.intro (by (first | exact trivial | (simp only [I64]; omega) | omega)) ?_ | (first | refine vcP_bub (args' := []) 1 rfl (by (simp only [go_sem, h0])) (vcP_bub 2 rfl (by (simp only [go_sem, h0])) (vcP_pure (h65) rfl (by first | rfl | (simp only [go_sem, h0, AV.pureL, AV.pure, Bool.and_self, false_and, if_false])) (by (simp only [go_sem, h0, false_and, if_false])) ?_)) | (refine vcP_pure (h81) rfl ?_ ?_ ?_; (focus (first | rfl | ((simp only [go_sem, h0, AV.pureL, AV.pure, pureL_mapI, Bool.and_self]) <;> fail))); (focus (first | ((simp only [go_sem, h0]) <;> fail) | rfl))) | (refine dCallP_pure (h81) rfl ?_ ?_ ?_; (focus (first | rfl | ((simp only [go_sem, h0, AV.pureL, AV.pure, pureL_mapI, Bool.and_self]) <;> fail))); (focus (first | ((simp only [go_sem, h0]) <;> fail) | rfl))) | (refine dCallC_pure (h81) rfl ?_ ?_ ?_; (focus (first | rfl | ((simp only [go_sem, h0, AV.pureL, AV.pure, pureL_mapI, Bool.and_self]) <;> fail))); (focus (first | ((simp only [go_sem, h0]) <;> fail) | rfl))) | refine dCallC_safe (h81) rfl rfl (by (simp only [go_sem, h0])) ?_ | refine vcP_safe (h81) rfl rfl (by (simp only [go_sem, h0])) ?_ | refine dCallP_safe (h81) rfl rfl ?_) | (simp only [go_sem, h0])))
  · rw [show rReady s o x = ((0, 0), opn s (isOrd s.length o ∧ within x 0 (s.length - 1))) from by rw [rReady, if_neg h0]]
    refine PC.body Try.func36 (by kernel_rfl) rfl (by simp [Try.f36]) rfl ?_
    simp only [Try.f36]
    intro hlen
    simp only [go_sem, List.length_map, and_true, true_and] at hlen
    refine CV.run ?_
    (repeat' (first | ((first | with_reducible refine vcG_split ?_ ?_ | with_reducible refine vcIf_split ?_ ?_ | with_reducible refine vcQ_split ?_ ?_ | with_reducible refine vcDG_split ?_ ?_) <;> intro hb <;> (try rw [hb]) <;> (try simp only [Bool.and_eq_true, Bool.or_eq_true, dtrue, dfalse, Bool.not_eq_true', Bool.not_eq_false', Bool.and_eq_false_iff, Bool.or_eq_false_iff, Bool.not_true, Bool.not_false] at hb) <;> (try simp only [within] at hb) <;> try (simp only [go_sem, h0])) | refine And.intro (by (first | exact trivial | (simp only [I64]; omega) | omega)) ?_ | (first | refine vcP_bub (args' := []) 1 rfl (by (simp only [go_sem, h0])) (vcP_bub 2 rfl (by (simp only [go_sem, h0])) (vcP_pure (h65) rfl (by first | rfl | (simp only [go_sem, h0, AV.pureL, AV.pure, Bool.and_self, false_and, if_false])) (by (simp only [go_sem, h0, false_and, if_false])) ?_))) | (simp only [go_sem, h0])))
noncomputable def inT (s : List Job) (o : List Int) (x : Int) : Int := if x ∈ o then (if (jb s x).due < loA s o x then 2 else if hiA s o x ≤ (jb s x).due then 1 else 3) else 2
noncomputable def rInT (s : List Job) (o : List Int) (x : Int) : Int × Int :=
  if opn s (isOrd s.length o ∧ within x 0 (s.length - 1)) = 0 then (inT s o x, 0) else (0, opn s (isOrd s.length o ∧ within x 0 (s.length - 1)))
set_option maxHeartbeats 1000000 in
theorem c37 (s : List Job) (o : List Int) (x : Int) (hol : o.length ≤ 1000000) (hI : ∀ n, n ∈ o → I64 n) : PC Try.prog 37 [hS s, lN o, .int .i64 x] (.tup [.int .i64 (rInT s o x).1, .int .i64 (rInT s o x).2]) := by
  have h65 := c65a s o x 82 (isOrd s.length o ∧ within x 0 (s.length - 1)) (c82 s o x hol hI).dec
  by_cases h0 : opn s (isOrd s.length o ∧ within x 0 (s.length - 1)) = 0
  · obtain ⟨hv, ho, hw⟩ := (show _ ∧ _ ∧ _ from by rw [← opn0]; exact h0)
    have hjb := jb_at hw
    rw [show rInT s o x = (inT s o x, 0) from by rw [rInT, if_pos h0]]
    have hw' := hw
    unfold within at hw'
    have hx0 : x < s.length := by omega
    by_cases hx : x ∈ o
    · obtain ⟨q, q1, q2, q3⟩ := first_at hx
      have h81 := c81 s hv o ho.on hol x q q1 q2
      rw [← q3] at h81
      have hlh : loA s o x ≤ hiA s o x := lo_le_hi hv fun y hy => ho.on y (by rw [q3] at hy; exact List.mem_of_mem_take hy)
      change PC Try.prog 81 [hS s, lN o, .int .i64 x] (.tup [.agg [.int .i64 (loA s o x), .int .i64 (hiA s o x)], .bool true]) at h81
      rw [inT, if_pos hx]
      by_cases c1 : (jb s x).due < loA s o x
      · rw [if_pos c1]
        refine PC.body Try.func37 (by kernel_rfl) rfl (by simp [Try.f37]) rfl ?_
        simp only [Try.f37]
        intro hlen
        simp only [go_sem, List.length_map, and_true, true_and] at hlen
        refine CV.run ?_
        (repeat' (first | ((first | with_reducible refine vcG_split ?_ ?_ | with_reducible refine vcIf_split ?_ ?_ | with_reducible refine vcQ_split ?_ ?_ | with_reducible refine vcDG_split ?_ ?_) <;> intro hb <;> (try rw [hb]) <;> (try simp only [Bool.and_eq_true, Bool.or_eq_true, dtrue, dfalse, Bool.not_eq_true', Bool.not_eq_false', Bool.and_eq_false_iff, Bool.or_eq_false_iff, Bool.not_true, Bool.not_false] at hb) <;> (try simp only [within] at hb) <;> try (simp only [go_sem, h0, c1, hjb, hx0, encJ])) | refine And.intro (by (first | exact trivial | (simp only [I64]; omega) | omega)) ?_ | (with_reducible rw [vc_draw_eq]; first | refine CV.draw (id := 5) [(0, 0), (0, 0), (0, 0), (0, 0), (0, 0), (0, 0), (0, 0), (0, 0), (0, 0), (0, 0), (0, 0), (0, 0), (0, 0), (0, 0), (0, 0)] mixed rfl (by kernel_rfl) ?_ | refine CV.draw (id := 7) [(0, 0), (0, 0), (0, 0), (0, 0), (0, 0), (0, 0), (0, 0), (0, 0), (0, 0), (0, 0), (0, 0)] mixed rfl (by kernel_rfl) ?_) | (first | refine vcP_bub (args' := []) 1 rfl (by (simp only [go_sem, h0, c1, hjb, hx0, encJ])) (vcP_bub 2 rfl (by (simp only [go_sem, h0, c1, hjb, hx0, encJ])) (vcP_pure (h65) rfl (by first | rfl | (simp only [go_sem, h0, c1, hjb, hx0, encJ, AV.pureL, AV.pure, Bool.and_self, false_and, if_false])) (by (simp only [go_sem, h0, c1, hjb, hx0, encJ, false_and, if_false])) ?_)) | (refine vcP_pure (h81) rfl ?_ ?_ ?_; (focus (first | rfl | ((simp only [go_sem, h0, c1, hjb, hx0, encJ, AV.pureL, AV.pure, pureL_mapI, Bool.and_self]) <;> fail))); (focus (first | ((simp only [go_sem, h0, c1, hjb, hx0, encJ]) <;> fail) | rfl))) | (refine dCallP_pure (h81) rfl ?_ ?_ ?_; (focus (first | rfl | ((simp only [go_sem, h0, c1, hjb, hx0, encJ, AV.pureL, AV.pure, pureL_mapI, Bool.and_self]) <;> fail))); (focus (first | ((simp only [go_sem, h0, c1, hjb, hx0, encJ]) <;> fail) | rfl))) | (refine dCallC_pure (h81) rfl ?_ ?_ ?_; (focus (first | rfl | ((simp only [go_sem, h0, c1, hjb, hx0, encJ, AV.pureL, AV.pure, pureL_mapI, Bool.and_self]) <;> fail))); (focus (first | ((simp only [go_sem, h0, c1, hjb, hx0, encJ]) <;> fail) | rfl))) | refine dCallC_safe (h81) rfl rfl (by (simp only [go_sem, h0, c1, hjb, hx0, encJ])) ?_ | refine vcP_safe (h81) rfl rfl (by (simp only [go_sem, h0, c1, hjb, hx0, encJ])) ?_ | refine dCallP_safe (h81) rfl rfl ?_) | (simp only [go_sem, h0, c1, hjb, hx0, encJ])))
        all_goals omega
      · rw [if_neg c1]
        by_cases c2 : hiA s o x ≤ (jb s x).due
        · rw [if_pos c2]
          refine PC.body Try.func37 (by kernel_rfl) rfl (by simp [Try.f37]) rfl ?_
          simp only [Try.f37]
          intro hlen
          simp only [go_sem, List.length_map, and_true, true_and] at hlen
          refine CV.run ?_
          (repeat' (first | ((first | with_reducible refine vcG_split ?_ ?_ | with_reducible refine vcIf_split ?_ ?_ | with_reducible refine vcQ_split ?_ ?_ | with_reducible refine vcDG_split ?_ ?_) <;> intro hb <;> (try rw [hb]) <;> (try simp only [Bool.and_eq_true, Bool.or_eq_true, dtrue, dfalse, Bool.not_eq_true', Bool.not_eq_false', Bool.and_eq_false_iff, Bool.or_eq_false_iff, Bool.not_true, Bool.not_false] at hb) <;> (try simp only [within] at hb) <;> try (simp only [go_sem, h0, c1, c2, hjb, hx0, encJ])) | refine And.intro (by (first | exact trivial | (simp only [I64]; omega) | omega)) ?_ | (with_reducible rw [vc_draw_eq]; first | refine CV.draw (id := 5) [(0, 0), (0, 0), (0, 0), (0, 0), (0, 0), (0, 0), (0, 0), (0, 0), (0, 0), (0, 0), (0, 0), (0, 0), (0, 0), (0, 0), (0, 0)] mixed rfl (by kernel_rfl) ?_ | refine CV.draw (id := 7) [(0, 0), (0, 0), (0, 0), (0, 0), (0, 0), (0, 0), (0, 0), (0, 0), (0, 0), (0, 0), (0, 0)] mixed rfl (by kernel_rfl) ?_) | (first | refine vcP_bub (args' := []) 1 rfl (by (simp only [go_sem, h0, c1, c2, hjb, hx0, encJ])) (vcP_bub 2 rfl (by (simp only [go_sem, h0, c1, c2, hjb, hx0, encJ])) (vcP_pure (h65) rfl (by first | rfl | (simp only [go_sem, h0, c1, c2, hjb, hx0, encJ, AV.pureL, AV.pure, Bool.and_self, false_and, if_false])) (by (simp only [go_sem, h0, c1, c2, hjb, hx0, encJ, false_and, if_false])) ?_)) | (refine vcP_pure (h81) rfl ?_ ?_ ?_; (focus (first | rfl | ((simp only [go_sem, h0, c1, c2, hjb, hx0, encJ, AV.pureL, AV.pure, pureL_mapI, Bool.and_self]) <;> fail))); (focus (first | ((simp only [go_sem, h0, c1, c2, hjb, hx0, encJ]) <;> fail) | rfl))) | (refine dCallP_pure (h81) rfl ?_ ?_ ?_; (focus (first | rfl | ((simp only [go_sem, h0, c1, c2, hjb, hx0, encJ, AV.pureL, AV.pure, pureL_mapI, Bool.and_self]) <;> fail))); (focus (first | ((simp only [go_sem, h0, c1, c2, hjb, hx0, encJ]) <;> fail) | rfl))) | (refine dCallC_pure (h81) rfl ?_ ?_ ?_; (focus (first | rfl | ((simp only [go_sem, h0, c1, c2, hjb, hx0, encJ, AV.pureL, AV.pure, pureL_mapI, Bool.and_self]) <;> fail))); (focus (first | ((simp only [go_sem, h0, c1, c2, hjb, hx0, encJ]) <;> fail) | rfl))) | refine dCallC_safe (h81) rfl rfl (by (simp only [go_sem, h0, c1, c2, hjb, hx0, encJ])) ?_ | refine vcP_safe (h81) rfl rfl (by (simp only [go_sem, h0, c1, c2, hjb, hx0, encJ])) ?_ | refine dCallP_safe (h81) rfl rfl ?_) | (simp only [go_sem, h0, c1, c2, hjb, hx0, encJ])))
          all_goals omega
        · rw [if_neg c2]
          refine PC.body Try.func37 (by kernel_rfl) rfl (by simp [Try.f37]) rfl ?_
          simp only [Try.f37]
          intro hlen
          simp only [go_sem, List.length_map, and_true, true_and] at hlen
          refine CV.run ?_
          (repeat' (first | ((first | with_reducible refine vcG_split ?_ ?_ | with_reducible refine vcIf_split ?_ ?_ | with_reducible refine vcQ_split ?_ ?_ | with_reducible refine vcDG_split ?_ ?_) <;> intro hb <;> (try rw [hb]) <;> (try simp only [Bool.and_eq_true, Bool.or_eq_true, dtrue, dfalse, Bool.not_eq_true', Bool.not_eq_false', Bool.and_eq_false_iff, Bool.or_eq_false_iff, Bool.not_true, Bool.not_false] at hb) <;> (try simp only [within] at hb) <;> try (simp only [go_sem, h0, c1, c2, hjb, hx0, encJ])) | refine And.intro (by (first | exact trivial | (simp only [I64]; omega) | omega)) ?_ | (with_reducible rw [vc_draw_eq]; first | refine CV.draw (id := 5) [(0, 0), (0, 0), (0, 0), (0, 0), (0, 0), (0, 0), (0, 0), (0, 0), (0, 0), (0, 0), (0, 0), (0, 0), (0, 0), (0, 0), (0, 0)] mixed rfl (by kernel_rfl) ?_ | refine CV.draw (id := 7) [(0, 0), (0, 0), (0, 0), (0, 0), (0, 0), (0, 0), (0, 0), (0, 0), (0, 0), (0, 0), (0, 0)] mixed rfl (by kernel_rfl) ?_) | (first | refine vcP_bub (args' := []) 1 rfl (by (simp only [go_sem, h0, c1, c2, hjb, hx0, encJ])) (vcP_bub 2 rfl (by (simp only [go_sem, h0, c1, c2, hjb, hx0, encJ])) (vcP_pure (h65) rfl (by first | rfl | (simp only [go_sem, h0, c1, c2, hjb, hx0, encJ, AV.pureL, AV.pure, Bool.and_self, false_and, if_false])) (by (simp only [go_sem, h0, c1, c2, hjb, hx0, encJ, false_and, if_false])) ?_)) | (refine vcP_pure (h81) rfl ?_ ?_ ?_; (focus (first | rfl | ((simp only [go_sem, h0, c1, c2, hjb, hx0, encJ, AV.pureL, AV.pure, pureL_mapI, Bool.and_self]) <;> fail))); (focus (first | ((simp only [go_sem, h0, c1, c2, hjb, hx0, encJ]) <;> fail) | rfl))) | (refine dCallP_pure (h81) rfl ?_ ?_ ?_; (focus (first | rfl | ((simp only [go_sem, h0, c1, c2, hjb, hx0, encJ, AV.pureL, AV.pure, pureL_mapI, Bool.and_self]) <;> fail))); (focus (first | ((simp only [go_sem, h0, c1, c2, hjb, hx0, encJ]) <;> fail) | rfl))) | (refine dCallC_pure (h81) rfl ?_ ?_ ?_; (focus (first | rfl | ((simp only [go_sem, h0, c1, c2, hjb, hx0, encJ, AV.pureL, AV.pure, pureL_mapI, Bool.and_self]) <;> fail))); (focus (first | ((simp only [go_sem, h0, c1, c2, hjb, hx0, encJ]) <;> fail) | rfl))) | refine dCallC_safe (h81) rfl rfl (by (simp only [go_sem, h0, c1, c2, hjb, hx0, encJ])) ?_ | refine vcP_safe (h81) rfl rfl (by (simp only [go_sem, h0, c1, c2, hjb, hx0, encJ])) ?_ | refine dCallP_safe (h81) rfl rfl ?_) | (simp only [go_sem, h0, c1, c2, hjb, hx0, encJ])))
          all_goals omega
    · have h81 := c81n s hv o ho.on hol x fun n e => hx (List.mem_of_getElem? e)
      simp only [inT, if_neg hx]
      refine PC.body Try.func37 (by kernel_rfl) rfl (by simp [Try.f37]) rfl ?_
      simp only [Try.f37]
      intro hlen
      simp only [go_sem, List.length_map, and_true, true_and] at hlen
      refine CV.run ?_
      (repeat' (first | ((first | with_reducible refine vcG_split ?_ ?_ | with_reducible refine vcIf_split ?_ ?_ | with_reducible refine vcQ_split ?_ ?_ | with_reducible refine vcDG_split ?_ ?_) <;> intro hb <;> (try rw [hb]) <;> (try simp only [Bool.and_eq_true, Bool.or_eq_true, dtrue, dfalse, Bool.not_eq_true', Bool.not_eq_false', Bool.and_eq_false_iff, Bool.or_eq_false_iff, Bool.not_true, Bool.not_false] at hb) <;> (try simp only [within] at hb) <;> try (simp only [go_sem, h0, hjb, hx0, encJ])) | refine And.intro (by (first | exact trivial | (simp only [I64]; omega) | omega)) ?_ | (with_reducible rw [vc_draw_eq]; first | refine CV.draw (id := 5) [(0, 0), (0, 0), (0, 0), (0, 0), (0, 0), (0, 0), (0, 0), (0, 0), (0, 0), (0, 0), (0, 0), (0, 0), (0, 0), (0, 0), (0, 0)] mixed rfl (by kernel_rfl) ?_ | refine CV.draw (id := 7) [(0, 0), (0, 0), (0, 0), (0, 0), (0, 0), (0, 0), (0, 0), (0, 0), (0, 0), (0, 0), (0, 0)] mixed rfl (by kernel_rfl) ?_) | (first | refine vcP_bub (args' := []) 1 rfl (by (simp only [go_sem, h0, hjb, hx0, encJ])) (vcP_bub 2 rfl (by (simp only [go_sem, h0, hjb, hx0, encJ])) (vcP_pure (h65) rfl (by first | rfl | (simp only [go_sem, h0, hjb, hx0, encJ, AV.pureL, AV.pure, Bool.and_self, false_and, if_false])) (by (simp only [go_sem, h0, hjb, hx0, encJ, false_and, if_false])) ?_)) | (refine vcP_pure (h81) rfl ?_ ?_ ?_; (focus (first | rfl | ((simp only [go_sem, h0, hjb, hx0, encJ, AV.pureL, AV.pure, pureL_mapI, Bool.and_self]) <;> fail))); (focus (first | ((simp only [go_sem, h0, hjb, hx0, encJ]) <;> fail) | rfl))) | (refine dCallP_pure (h81) rfl ?_ ?_ ?_; (focus (first | rfl | ((simp only [go_sem, h0, hjb, hx0, encJ, AV.pureL, AV.pure, pureL_mapI, Bool.and_self]) <;> fail))); (focus (first | ((simp only [go_sem, h0, hjb, hx0, encJ]) <;> fail) | rfl))) | (refine dCallC_pure (h81) rfl ?_ ?_ ?_; (focus (first | rfl | ((simp only [go_sem, h0, hjb, hx0, encJ, AV.pureL, AV.pure, pureL_mapI, Bool.and_self]) <;> fail))); (focus (first | ((simp only [go_sem, h0, hjb, hx0, encJ]) <;> fail) | rfl))) | refine dCallC_safe (h81) rfl rfl (by (simp only [go_sem, h0, hjb, hx0, encJ])) ?_ | refine vcP_safe (h81) rfl rfl (by (simp only [go_sem, h0, hjb, hx0, encJ])) ?_ | refine dCallP_safe (h81) rfl rfl ?_) | (simp only [go_sem, h0, hjb, hx0, encJ])))
      all_goals omega
  · rw [show rInT s o x = (0, opn s (isOrd s.length o ∧ within x 0 (s.length - 1))) from by rw [rInT, if_neg h0]]
    refine PC.body Try.func37 (by kernel_rfl) rfl (by simp [Try.f37]) rfl ?_
    simp only [Try.f37]
    intro hlen
    simp only [go_sem, List.length_map, and_true, true_and] at hlen
    refine CV.run ?_
    (repeat' (first | ((first | with_reducible refine vcG_split ?_ ?_ | with_reducible refine vcIf_split ?_ ?_ | with_reducible refine vcQ_split ?_ ?_ | with_reducible refine vcDG_split ?_ ?_) <;> intro hb <;> (try rw [hb]) <;> (try simp only [Bool.and_eq_true, Bool.or_eq_true, dtrue, dfalse, Bool.not_eq_true', Bool.not_eq_false', Bool.and_eq_false_iff, Bool.or_eq_false_iff, Bool.not_true, Bool.not_false] at hb) <;> (try simp only [within] at hb) <;> try (simp only [go_sem, h0])) | refine And.intro (by (first | exact trivial | (simp only [I64]; omega) | omega)) ?_ | (with_reducible rw [vc_draw_eq]; first | refine CV.draw (id := 5) [(0, 0), (0, 0), (0, 0), (0, 0), (0, 0), (0, 0), (0, 0), (0, 0), (0, 0), (0, 0), (0, 0), (0, 0), (0, 0), (0, 0), (0, 0)] mixed rfl (by kernel_rfl) ?_ | refine CV.draw (id := 7) [(0, 0), (0, 0), (0, 0), (0, 0), (0, 0), (0, 0), (0, 0), (0, 0), (0, 0), (0, 0), (0, 0)] mixed rfl (by kernel_rfl) ?_) | (first | refine vcP_bub (args' := []) 1 rfl (by (simp only [go_sem, h0])) (vcP_bub 2 rfl (by (simp only [go_sem, h0])) (vcP_pure (h65) rfl (by first | rfl | (simp only [go_sem, h0, AV.pureL, AV.pure, Bool.and_self, false_and, if_false])) (by (simp only [go_sem, h0, false_and, if_false])) ?_))) | (simp only [go_sem, h0])))
end Go.Proofs.Ytjjlcjibhjmhmaa

