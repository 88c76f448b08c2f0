/- Contracts of functions of the given program, without a condition beyond those that each theorem states; they lead to the given statement. -/
import Derived.Test.YtoadkchhimojlaaK05f
set_option linter.unusedSimpArgs false
set_option linter.unusedVariables false
set_option maxRecDepth 100000
namespace Go.Proofs.Ytoadkchhimojlaa.W5
open Go Go.Fl
open Classical
theorem ordT_len {n d : Nat} {pre : List Int} {j k : Nat} (h : j ≤ k) : (ordT n d pre j).length ≤ (ordT n d pre k).length := by
  induction k with
  | zero => have : j = 0 := by omega
            subst this; exact Nat.le_refl _
  | succ k ih =>
    by_cases e : j = k + 1
    · subst e; exact Nat.le_refl _
    · have := ih (by omega)
      by_cases hm : (k : Int) ∈ pre
      · rw [ordT_no hm]; exact this
      · rw [ordT_yes hm, List.length_append]; omega
theorem ordF_succ {n d : Nat} {pre : List Int} : ordF n (d + 1) pre = pre :: ordT n d pre n := rfl
theorem getT {H T : Heap} {K i : Nat} (h : H.length = K) : (H ++ T)[K + i]? = T[i]? := by
  rw [List.getElem?_append_right (by omega), show K + i - H.length = i from by omega]
theorem setT {H T : Heap} {z : Blk} {K i : Nat} (h : H.length = K) : (H ++ T).set (K + i) z = H ++ T.set i z := by
  rw [List.set_append_right _ _ (by omega), show K + i - H.length = i from by omega]
theorem belowH_app {n : Nat} : ∀ {A B : Heap}, belowH n (A ++ B) = (belowH n A ∧ belowH n B)
  | [], B => by simp [belowH]
  | a :: A, B => by simp only [List.cons_append, belowH, belowH_app (A := A), and_assoc]
theorem pfx_app : ∀ {A B C : Heap}, pfx (A ++ B) (A ++ C) = pfx B C
  | [], B, C => rfl
  | a :: A, B, C => by simp only [List.cons_append, pfx, true_and, pfx_app (A := A)]
theorem pfx_self : ∀ {A B : Heap}, pfx A (A ++ B) = True
  | [], B => by simp [pfx]
  | a :: A, B => by simp only [List.cons_append, pfx, true_and, pfx_self (A := A)]
theorem getEnd {A : Heap} {x : Blk} : (A ++ [x])[A.length]? = some x := by rw [List.getElem?_append_right (Nat.le_refl _), Nat.sub_self]; rfl
theorem setEnd {A : Heap} {x z : Blk} : (A ++ [x]).set A.length z = A ++ [z] := by rw [List.set_append_right _ _ (Nat.le_refl _), Nat.sub_self]; rfl
abbrev capO (K : Nat) : List AV := [.lp (K + 2) 0, .lp (K + 1) 0, .lp (K + 3) 0]
set_option maxHeartbeats 4000000 in
theorem h103 (s : List Job) (M : Nat) (HB : List (List Int) → Heap) (K : Nat) (hK : ∀ L, (HB L).length = K) (hB : ∀ L n, belowH n (HB L) = True) (hS : ∀ L b n v, (HB L).map (subB b n v) = HB L) (l nt0 : Nat) (ps : Array Tmp) (assign body : Code) (env0 : Env) (hE : ∀ i, belowE (K + i) env0 = True) (hES : ∀ b n v, (env0.map fun p => (p.1, subV b n v p.2)) = env0)
    (hy : ∀ (L : List (List Int)) (pre : List Int) (own : Heap), onJ s pre → pre.length ≤ s.length → L.length < M → HCY Try.prog l [lN pre] (HB L ++ .loop l nt0 ps assign body env0 :: own) fun r H2 => r = .bool true ∧ H2 = HB (L ++ [pre]) ++ .loop l nt0 ps assign body env0 :: own) :
    ∀ (d : Nat) (pre : List Int) (L : List (List Int)) (rest : Heap), miss s.length pre ≤ d → onJ s pre → pre.length + d ≤ s.length → s.length ≤ 1000 → (∀ n, belowH n rest = True) → (∀ b n v, rest.map (subB b n v) = rest) → L.length + (ordF s.length d pre).length ≤ M →
      HCH Try.prog 103 (lN pre :: capO K) (HB L ++ .loop l nt0 ps assign body env0 :: .box 89 (cS s) false :: .box 136 [.yld l] false :: .box 136 [.fn 103 (capO K)] false :: rest) fun r H' => r = .bool true ∧ H' = HB (L ++ ordF s.length d pre) ++ .loop l nt0 ps assign body env0 :: .box 89 (cS s) false :: .box 136 [.yld l] false :: .box 136 [.fn 103 (capO K)] false :: rest := by
  intro d
  induction d with
  | zero =>
    intro pre L rest hm hp hl h6 hR hRS hM
    have hM1 : L.length < M := by simp [ordF] at hM; omega
    have hin := miss_zero s.length pre (by omega)
    refine HCH.body Try.func103 (by kernel_rfl) rfl (by simp [Try.f103]) ?_
    simp only [Try.f103]
    refine CV.run ?_
    (repeat' (first | ((first | with_reducible refine vcG_split ?_ ?_ | with_reducible refine vcIf_split ?_ ?_ | with_reducible refine vcQ_split ?_ ?_ | with_reducible refine vcDG_split ?_ ?_) <;> intro hb <;> (try rw [hb]) <;> (try simp only [Bool.and_eq_true, Bool.or_eq_true, dtrue, dfalse, Bool.not_eq_true', Bool.not_eq_false', Bool.and_eq_false_iff, Bool.or_eq_false_iff, Bool.not_true, Bool.not_false] at hb) <;> (try simp only [within] at hb) <;> try (simp only [go_sem, argEnv, capO, getT (hK _)])) | refine And.intro (by (first | exact trivial | (simp only [I64]; omega) | omega)) ?_ | (with_reducible rw [vc_draw_eq]; first | refine CV.draw (id := 6) [(0, 0), (0, 0), (0, 0), (0, 0), (0, 0), (0, 1), (0, 0), (0, 0), (0, 0), (0, 0), (0, 0), (0, 0), (0, 0), (0, 0), (99, 0), (0, 0), (2, 2), (2, 2)] mixed rfl (by kernel_rfl) ?_) | (simp only [go_sem, argEnv, capO, getT (hK _)])))
    refine vcY_exact (hy L pre _ hp (by omega) (by omega)) ?_
    (repeat' (first | ((first | with_reducible refine vcG_split ?_ ?_ | with_reducible refine vcIf_split ?_ ?_ | with_reducible refine vcQ_split ?_ ?_ | with_reducible refine vcDG_split ?_ ?_) <;> intro hb <;> (try rw [hb]) <;> (try simp only [Bool.and_eq_true, Bool.or_eq_true, dtrue, dfalse, Bool.not_eq_true', Bool.not_eq_false', Bool.and_eq_false_iff, Bool.or_eq_false_iff, Bool.not_true, Bool.not_false] at hb) <;> (try simp only [within] at hb) <;> try (simp only [go_sem, argEnv, capO, getT (hK _)])) | refine And.intro (by (first | exact trivial | (simp only [I64]; omega) | omega)) ?_ | (with_reducible rw [vc_draw_eq]; first | refine CV.draw (id := 6) [(0, 0), (0, 0), (0, 0), (0, 0), (0, 0), (0, 1), (0, 0), (0, 0), (0, 0), (0, 0), (0, 0), (0, 0), (0, 0), (0, 0), (99, 0), (0, 0), (2, 2), (2, 2)] mixed rfl (by kernel_rfl) ?_) | (simp only [go_sem, argEnv, capO, getT (hK _)])))
    refine vc_for (fun n => ⟨[(15, .int .i64 n), (14, .int .i64 s.length), (5, .bool false), (0, lN pre), (3, .lp (K + 3) 0)], HB (L ++ [pre]) ++ .loop l nt0 ps assign body env0 :: .box 89 (cS s) false :: .box 136 [.yld l] false :: .box 136 [.fn 103 (capO K)] false :: rest⟩) s.length (fun _ => True) (by (first | exact wk_same (by (simp only [go_sem, Int.natCast_add, Int.natCast_one, Int.natCast_zero, Int.cast_ofNat_Int, capO])) | exact wk_drop (by (simp only [go_sem, Int.natCast_add, Int.natCast_one, Int.natCast_zero, Int.cast_ofNat_Int, capO])) (by (simp only [go_sem, Int.natCast_add, Int.natCast_one, Int.natCast_zero, Int.cast_ofNat_Int, capO])) (by (simp only [go_sem, Int.natCast_add, Int.natCast_one, Int.natCast_zero, Int.cast_ofNat_Int, capO])) (by (simp only [go_sem, Int.natCast_add, Int.natCast_one, Int.natCast_zero, Int.cast_ofNat_Int, capO])) (by (simp only [go_sem, Int.natCast_add, Int.natCast_one, Int.natCast_zero, Int.cast_ofNat_Int, capO])))) trivial ?_
    intro j hj _
    rcases Nat.lt_or_ge j s.length with hlt | hge
    · have hlt' : (j : Int) < s.length := by omega
      have hmem := hin j hlt
      have h101 := c104 pre j
      rw [decide_eq_true hmem] at h101
      (repeat' (first | ((first | with_reducible refine vcG_split ?_ ?_ | with_reducible refine vcIf_split ?_ ?_ | with_reducible refine vcQ_split ?_ ?_ | with_reducible refine vcDG_split ?_ ?_) <;> intro hb <;> (try rw [hb]) <;> (try simp only [Bool.and_eq_true, Bool.or_eq_true, dtrue, dfalse, Bool.not_eq_true', Bool.not_eq_false', Bool.and_eq_false_iff, Bool.or_eq_false_iff, Bool.not_true, Bool.not_false] at hb) <;> (try simp only [within] at hb) <;> try (simp only [go_sem, hlt', argEnv, capO, getT (hK _)])) | refine And.intro (by (first | exact trivial | (simp only [I64]; omega) | omega)) ?_ | (with_reducible rw [vc_draw_eq]; first | refine CV.draw (id := 6) [(0, 0), (0, 0), (0, 0), (0, 0), (0, 0), (0, 1), (0, 0), (0, 0), (0, 0), (0, 0), (0, 0), (0, 0), (0, 0), (0, 0), (99, 0), (0, 0), (2, 2), (2, 2)] mixed rfl (by kernel_rfl) ?_) | (first | (refine vcP_pure (h101) rfl ?_ ?_ ?_; (focus (first | rfl | ((simp only [go_sem, hlt', argEnv, capO, getT (hK _), AV.pureL, AV.pure, pureL_mapI, Bool.and_self]) <;> fail))); (focus (first | ((simp only [go_sem, hlt', argEnv, capO, getT (hK _)]) <;> fail) | rfl))) | (refine dCallP_pure (h101) rfl ?_ ?_ ?_; (focus (first | rfl | ((simp only [go_sem, hlt', argEnv, capO, getT (hK _), AV.pureL, AV.pure, pureL_mapI, Bool.and_self]) <;> fail))); (focus (first | ((simp only [go_sem, hlt', argEnv, capO, getT (hK _)]) <;> fail) | rfl))) | (refine dCallC_pure (h101) rfl ?_ ?_ ?_; (focus (first | rfl | ((simp only [go_sem, hlt', argEnv, capO, getT (hK _), AV.pureL, AV.pure, pureL_mapI, Bool.and_self]) <;> fail))); (focus (first | ((simp only [go_sem, hlt', argEnv, capO, getT (hK _)]) <;> fail) | rfl))) | refine dCallC_safe (h101) rfl rfl (by (simp only [go_sem, hlt', argEnv, capO, getT (hK _)])) ?_ | refine vcP_safe (h101) rfl rfl (by (simp only [go_sem, hlt', argEnv, capO, getT (hK _)])) ?_ | refine dCallP_safe (h101) rfl rfl ?_) | (simp only [go_sem, hlt', argEnv, capO, getT (hK _)])))
      exact (by (first | exact wk_same (by (simp only [go_sem, Int.natCast_add, Int.natCast_one, Int.natCast_zero, Int.cast_ofNat_Int, capO])) | exact wk_drop (by (simp only [go_sem, Int.natCast_add, Int.natCast_one, Int.natCast_zero, Int.cast_ofNat_Int, capO])) (by (simp only [go_sem, Int.natCast_add, Int.natCast_one, Int.natCast_zero, Int.cast_ofNat_Int, capO])) (by (simp only [go_sem, Int.natCast_add, Int.natCast_one, Int.natCast_zero, Int.cast_ofNat_Int, capO])) (by (simp only [go_sem, Int.natCast_add, Int.natCast_one, Int.natCast_zero, Int.cast_ofNat_Int, capO])) (by (simp only [go_sem, Int.natCast_add, Int.natCast_one, Int.natCast_zero, Int.cast_ofNat_Int, capO]))))
    · have hge' : ¬ (j : Int) < s.length := by omega
      (repeat' (first | ((first | with_reducible refine vcG_split ?_ ?_ | with_reducible refine vcIf_split ?_ ?_ | with_reducible refine vcQ_split ?_ ?_ | with_reducible refine vcDG_split ?_ ?_) <;> intro hb <;> (try rw [hb]) <;> (try simp only [Bool.and_eq_true, Bool.or_eq_true, dtrue, dfalse, Bool.not_eq_true', Bool.not_eq_false', Bool.and_eq_false_iff, Bool.or_eq_false_iff, Bool.not_true, Bool.not_false] at hb) <;> (try simp only [within] at hb) <;> try (simp only [go_sem, hge'])) | refine And.intro (by (first | exact trivial | (simp only [I64]; omega) | omega)) ?_ | (with_reducible rw [vc_draw_eq]; first | refine CV.draw (id := 6) [(0, 0), (0, 0), (0, 0), (0, 0), (0, 0), (0, 1), (0, 0), (0, 0), (0, 0), (0, 0), (0, 0), (0, 0), (0, 0), (0, 0), (99, 0), (0, 0), (2, 2), (2, 2)] mixed rfl (by kernel_rfl) ?_) | (simp only [go_sem, hge'])))
      rfl
  | succ d ih =>
    intro pre L rest hm hp hl h6 hR hRS hM
    rw [ordF_succ, List.length_cons] at hM
    refine HCH.body Try.func103 (by kernel_rfl) rfl (by simp [Try.f103]) ?_
    simp only [Try.f103]
    refine CV.run ?_
    (repeat' (first | ((first | with_reducible refine vcG_split ?_ ?_ | with_reducible refine vcIf_split ?_ ?_ | with_reducible refine vcQ_split ?_ ?_ | with_reducible refine vcDG_split ?_ ?_) <;> intro hb <;> (try rw [hb]) <;> (try simp only [Bool.and_eq_true, Bool.or_eq_true, dtrue, dfalse, Bool.not_eq_true', Bool.not_eq_false', Bool.and_eq_false_iff, Bool.or_eq_false_iff, Bool.not_true, Bool.not_false] at hb) <;> (try simp only [within] at hb) <;> try (simp only [go_sem, argEnv, capO, getT (hK _)])) | refine And.intro (by (first | exact trivial | (simp only [I64]; omega) | omega)) ?_ | (with_reducible rw [vc_draw_eq]; first | refine CV.draw (id := 6) [(0, 0), (0, 0), (0, 0), (0, 0), (0, 0), (0, 1), (0, 0), (0, 0), (0, 0), (0, 0), (0, 0), (0, 0), (0, 0), (0, 0), (99, 0), (0, 0), (2, 2), (2, 2)] mixed rfl (by kernel_rfl) ?_) | (simp only [go_sem, argEnv, capO, getT (hK _)])))
    refine vcY_exact (hy L pre _ hp (by omega) (by omega)) ?_
    (repeat' (first | ((first | with_reducible refine vcG_split ?_ ?_ | with_reducible refine vcIf_split ?_ ?_ | with_reducible refine vcQ_split ?_ ?_ | with_reducible refine vcDG_split ?_ ?_) <;> intro hb <;> (try rw [hb]) <;> (try simp only [Bool.and_eq_true, Bool.or_eq_true, dtrue, dfalse, Bool.not_eq_true', Bool.not_eq_false', Bool.and_eq_false_iff, Bool.or_eq_false_iff, Bool.not_true, Bool.not_false] at hb) <;> (try simp only [within] at hb) <;> try (simp only [go_sem, argEnv, capO, getT (hK _)])) | refine And.intro (by (first | exact trivial | (simp only [I64]; omega) | omega)) ?_ | (with_reducible rw [vc_draw_eq]; first | refine CV.draw (id := 6) [(0, 0), (0, 0), (0, 0), (0, 0), (0, 0), (0, 1), (0, 0), (0, 0), (0, 0), (0, 0), (0, 0), (0, 0), (0, 0), (0, 0), (99, 0), (0, 0), (2, 2), (2, 2)] mixed rfl (by kernel_rfl) ?_) | (simp only [go_sem, argEnv, capO, getT (hK _)])))
    refine vc_for (fun n => ⟨[(15, .int .i64 n), (14, .int .i64 s.length), (5, .bool false), (0, lN pre), (3, .lp (K + 3) 0)], HB (L ++ [pre] ++ ordT s.length d pre n) ++ .loop l nt0 ps assign body env0 :: .box 89 (cS s) false :: .box 136 [.yld l] false :: .box 136 [.fn 103 (capO K)] false :: rest⟩) s.length (fun _ => True) (by simp only [ordT_zero, List.append_nil]; exact (by (first | exact wk_same (by (simp only [go_sem, Int.natCast_add, Int.natCast_one, Int.natCast_zero, Int.cast_ofNat_Int, capO])) | exact wk_drop (by (simp only [go_sem, Int.natCast_add, Int.natCast_one, Int.natCast_zero, Int.cast_ofNat_Int, capO])) (by (simp only [go_sem, Int.natCast_add, Int.natCast_one, Int.natCast_zero, Int.cast_ofNat_Int, capO])) (by (simp only [go_sem, Int.natCast_add, Int.natCast_one, Int.natCast_zero, Int.cast_ofNat_Int, capO])) (by (simp only [go_sem, Int.natCast_add, Int.natCast_one, Int.natCast_zero, Int.cast_ofNat_Int, capO])) (by (simp only [go_sem, Int.natCast_add, Int.natCast_one, Int.natCast_zero, Int.cast_ofNat_Int, capO]))))) trivial ?_
    intro j hj _
    rcases Nat.lt_or_ge j s.length with hlt | hge
    · have hlt' : (j : Int) < s.length := by omega
      have h101 := c104 pre j
      by_cases hmem : (j : Int) ∈ pre
      · rw [decide_eq_true hmem] at h101
        (repeat' (first | ((first | with_reducible refine vcG_split ?_ ?_ | with_reducible refine vcIf_split ?_ ?_ | with_reducible refine vcQ_split ?_ ?_ | with_reducible refine vcDG_split ?_ ?_) <;> intro hb <;> (try rw [hb]) <;> (try simp only [Bool.and_eq_true, Bool.or_eq_true, dtrue, dfalse, Bool.not_eq_true', Bool.not_eq_false', Bool.and_eq_false_iff, Bool.or_eq_false_iff, Bool.not_true, Bool.not_false] at hb) <;> (try simp only [within] at hb) <;> try (simp only [go_sem, hlt', argEnv, capO, getT (hK _)])) | refine And.intro (by (first | exact trivial | (simp only [I64]; omega) | omega)) ?_ | (with_reducible rw [vc_draw_eq]; first | refine CV.draw (id := 6) [(0, 0), (0, 0), (0, 0), (0, 0), (0, 0), (0, 1), (0, 0), (0, 0), (0, 0), (0, 0), (0, 0), (0, 0), (0, 0), (0, 0), (99, 0), (0, 0), (2, 2), (2, 2)] mixed rfl (by kernel_rfl) ?_) | (first | (refine vcP_pure (h101) rfl ?_ ?_ ?_; (focus (first | rfl | ((simp only [go_sem, hlt', argEnv, capO, getT (hK _), AV.pureL, AV.pure, pureL_mapI, Bool.and_self]) <;> fail))); (focus (first | ((simp only [go_sem, hlt', argEnv, capO, getT (hK _)]) <;> fail) | rfl))) | (refine dCallP_pure (h101) rfl ?_ ?_ ?_; (focus (first | rfl | ((simp only [go_sem, hlt', argEnv, capO, getT (hK _), AV.pureL, AV.pure, pureL_mapI, Bool.and_self]) <;> fail))); (focus (first | ((simp only [go_sem, hlt', argEnv, capO, getT (hK _)]) <;> fail) | rfl))) | (refine dCallC_pure (h101) rfl ?_ ?_ ?_; (focus (first | rfl | ((simp only [go_sem, hlt', argEnv, capO, getT (hK _), AV.pureL, AV.pure, pureL_mapI, Bool.and_self]) <;> fail))); (focus (first | ((simp only [go_sem, hlt', argEnv, capO, getT (hK _)]) <;> fail) | rfl))) | refine dCallC_safe (h101) rfl rfl (by (simp only [go_sem, hlt', argEnv, capO, getT (hK _)])) ?_ | refine vcP_safe (h101) rfl rfl (by (simp only [go_sem, hlt', argEnv, capO, getT (hK _)])) ?_ | refine dCallP_safe (h101) rfl rfl ?_) | (simp only [go_sem, hlt', argEnv, capO, getT (hK _)])))
        rw [ordT_no hmem]
        exact (by (first | exact wk_same (by (simp only [go_sem, Int.natCast_add, Int.natCast_one, Int.natCast_zero, Int.cast_ofNat_Int, capO])) | exact wk_drop (by (simp only [go_sem, Int.natCast_add, Int.natCast_one, Int.natCast_zero, Int.cast_ofNat_Int, capO])) (by (simp only [go_sem, Int.natCast_add, Int.natCast_one, Int.natCast_zero, Int.cast_ofNat_Int, capO])) (by (simp only [go_sem, Int.natCast_add, Int.natCast_one, Int.natCast_zero, Int.cast_ofNat_Int, capO])) (by (simp only [go_sem, Int.natCast_add, Int.natCast_one, Int.natCast_zero, Int.cast_ofNat_Int, capO])) (by (simp only [go_sem, Int.natCast_add, Int.natCast_one, Int.natCast_zero, Int.cast_ofNat_Int, capO]))))
      · rw [decide_eq_false hmem] at h101
        have hR' : ∀ n, belowH n (rest ++ [.row 3 1 ((pre ++ [(j : Int)]).map encN) true]) = True := fun n => by
          rw [belowH_app, hR]
          refine eq_true ⟨trivial, ⟨fun e he => ?_, trivial⟩⟩
          obtain ⟨a, _, rfl⟩ := List.mem_map.1 he
          rfl
        have hRS' : ∀ b n v, (rest ++ [Blk.row 3 1 ((pre ++ [(j : Int)]).map encN) true]).map (subB b n v) = rest ++ [.row 3 1 ((pre ++ [(j : Int)]).map encN) true] := fun b n v => by
          rw [List.map_append, hRS]
          simp only [List.map_cons, List.map_nil, subB, sub_mapN]
        have hpl : (pre ++ [(j : Int)]).length ≤ 1001 := by simp; omega
        have ihh := ih (pre ++ [(j : Int)]) (L ++ [pre] ++ ordT s.length d pre j) (rest ++ [.row 3 1 ((pre ++ [(j : Int)]).map encN) true]) (by have := miss_lt s.length pre j hlt hmem; omega) (fun x hx => by
          rcases List.mem_append.1 hx with h | h
          · exact hp x h
          · rw [List.mem_singleton] at h; subst h; unfold within; omega) (by simp; omega) h6 hR' hRS' (by
          have q1 := ordT_len (n := s.length) (d := d) (pre := pre) (j := j + 1) (k := s.length) (by omega)
          rw [ordT_yes hmem, List.length_append] at q1
          simp only [List.length_append, List.length_cons, List.length_nil]; omega)
        have htk : List.take pre.length (List.map encN pre) = List.map encN pre := List.take_of_length_le (by simp)
        have hap : List.map encN pre ++ [[AV.int .i64 (j : Int)]] = List.map encN (pre ++ [(j : Int)]) := by simp [encN]
        (repeat' (first | ((first | with_reducible refine vcG_split ?_ ?_ | with_reducible refine vcIf_split ?_ ?_ | with_reducible refine vcQ_split ?_ ?_ | with_reducible refine vcDG_split ?_ ?_) <;> intro hb <;> (try rw [hb]) <;> (try simp only [Bool.and_eq_true, Bool.or_eq_true, dtrue, dfalse, Bool.not_eq_true', Bool.not_eq_false', Bool.and_eq_false_iff, Bool.or_eq_false_iff, Bool.not_true, Bool.not_false] at hb) <;> (try simp only [within] at hb) <;> try (simp only [go_sem, hlt', argEnv, capO, getT (hK _), setT (hK _), hS, hES, hRS, getEnd, setEnd, List.map_append, List.append_assoc, List.cons_append, List.length_map, List.length_append, hK, htk, hap, List.cons_ne_nil, or_true])) | refine And.intro (by (first | exact trivial | (simp only [I64]; omega) | omega)) ?_ | (with_reducible rw [vc_draw_eq]; first | refine CV.draw (id := 6) [(0, 0), (0, 0), (0, 0), (0, 0), (0, 0), (0, 1), (0, 0), (0, 0), (0, 0), (0, 0), (0, 0), (0, 0), (0, 0), (0, 0), (99, 0), (0, 0), (2, 2), (2, 2)] mixed rfl (by kernel_rfl) ?_) | (first | (refine vcP_pure (h101) rfl ?_ ?_ ?_; (focus (first | rfl | ((simp only [go_sem, hlt', argEnv, capO, getT (hK _), setT (hK _), hS, hES, hRS, getEnd, setEnd, List.map_append, List.append_assoc, List.cons_append, List.length_map, List.length_append, hK, htk, hap, List.cons_ne_nil, or_true, AV.pureL, AV.pure, pureL_mapI, Bool.and_self]) <;> fail))); (focus (first | ((simp only [go_sem, hlt', argEnv, capO, getT (hK _), setT (hK _), hS, hES, hRS, getEnd, setEnd, List.map_append, List.append_assoc, List.cons_append, List.length_map, List.length_append, hK, htk, hap, List.cons_ne_nil, or_true]) <;> fail) | rfl))) | (refine dCallP_pure (h101) rfl ?_ ?_ ?_; (focus (first | rfl | ((simp only [go_sem, hlt', argEnv, capO, getT (hK _), setT (hK _), hS, hES, hRS, getEnd, setEnd, List.map_append, List.append_assoc, List.cons_append, List.length_map, List.length_append, hK, htk, hap, List.cons_ne_nil, or_true, AV.pureL, AV.pure, pureL_mapI, Bool.and_self]) <;> fail))); (focus (first | ((simp only [go_sem, hlt', argEnv, capO, getT (hK _), setT (hK _), hS, hES, hRS, getEnd, setEnd, List.map_append, List.append_assoc, List.cons_append, List.length_map, List.length_append, hK, htk, hap, List.cons_ne_nil, or_true]) <;> fail) | rfl))) | (refine dCallC_pure (h101) rfl ?_ ?_ ?_; (focus (first | rfl | ((simp only [go_sem, hlt', argEnv, capO, getT (hK _), setT (hK _), hS, hES, hRS, getEnd, setEnd, List.map_append, List.append_assoc, List.cons_append, List.length_map, List.length_append, hK, htk, hap, List.cons_ne_nil, or_true, AV.pureL, AV.pure, pureL_mapI, Bool.and_self]) <;> fail))); (focus (first | ((simp only [go_sem, hlt', argEnv, capO, getT (hK _), setT (hK _), hS, hES, hRS, getEnd, setEnd, List.map_append, List.append_assoc, List.cons_append, List.length_map, List.length_append, hK, htk, hap, List.cons_ne_nil, or_true]) <;> fail) | rfl))) | refine dCallC_safe (h101) rfl rfl (by (simp only [go_sem, hlt', argEnv, capO, getT (hK _), setT (hK _), hS, hES, hRS, getEnd, setEnd, List.map_append, List.append_assoc, List.cons_append, List.length_map, List.length_append, hK, htk, hap, List.cons_ne_nil, or_true])) ?_ | refine vcP_safe (h101) rfl rfl (by (simp only [go_sem, hlt', argEnv, capO, getT (hK _), setT (hK _), hS, hES, hRS, getEnd, setEnd, List.map_append, List.append_assoc, List.cons_append, List.length_map, List.length_append, hK, htk, hap, List.cons_ne_nil, or_true])) ?_ | refine dCallP_safe (h101) rfl rfl ?_) | (simp only [go_sem, hlt', argEnv, capO, getT (hK _), setT (hK _), hS, hES, hRS, getEnd, setEnd, List.map_append, List.append_assoc, List.cons_append, List.length_map, List.length_append, hK, htk, hap, List.cons_ne_nil, or_true])))
        refine ⟨⟨⟨by omega, by omega⟩, rfl⟩, ?_⟩
        simp only [lN, capO, List.map_append, List.map_cons, List.map_nil] at ihh
        refine dCallC_here (v := .bool true) (by simp only [List.append_assoc, List.cons_append, List.nil_append, List.append_nil]) ihh ?_
        (repeat' (first | ((first | with_reducible refine vcG_split ?_ ?_ | with_reducible refine vcIf_split ?_ ?_ | with_reducible refine vcQ_split ?_ ?_ | with_reducible refine vcDG_split ?_ ?_) <;> intro hb <;> (try rw [hb]) <;> (try simp only [Bool.and_eq_true, Bool.or_eq_true, dtrue, dfalse, Bool.not_eq_true', Bool.not_eq_false', Bool.and_eq_false_iff, Bool.or_eq_false_iff, Bool.not_true, Bool.not_false] at hb) <;> (try simp only [within] at hb) <;> try (simp only [go_sem, hlt', argEnv, capO, getT (hK _), hS, hES, hRS, List.append_assoc, List.cons_append, hK])) | refine And.intro (by (first | exact trivial | (simp only [I64]; omega) | omega)) ?_ | (with_reducible rw [vc_draw_eq]; first | refine CV.draw (id := 6) [(0, 0), (0, 0), (0, 0), (0, 0), (0, 0), (0, 1), (0, 0), (0, 0), (0, 0), (0, 0), (0, 0), (0, 0), (0, 0), (0, 0), (99, 0), (0, 0), (2, 2), (2, 2)] mixed rfl (by kernel_rfl) ?_) | (simp only [go_sem, hlt', argEnv, capO, getT (hK _), hS, hES, hRS, List.append_assoc, List.cons_append, hK])))
        rw [ordT_yes hmem]
        have hlen : (HB (L ++ pre :: (ordT s.length d pre j ++ ordF s.length d (pre ++ [(j : Int)]))) ++ Blk.loop l nt0 ps assign body env0 :: .box 89 (cS s) false :: .box 136 [.yld l] false :: .box 136 [.fn 103 (capO K)] false :: rest).length = K + (rest.length + 4) := by
          simp only [List.length_append, hK, List.length_cons]
        refine ⟨by (simp only [go_sem, Int.natCast_add, Int.natCast_one]), .inr ⟨?_, ?_, ?_, ?_⟩⟩
        · simp only [pfx_app, pfx, true_and, pfx_self]
        · rw [hlen]; omega
        · rw [hlen]
          simp only [belowE, belowV, encN, true_and, and_true, decide_eq_true_eq]
          omega
        · rw [hlen, belowH_app, hB]
          refine ⟨trivial, of_eq_true (hE _), rfl, rfl, ?_, ?_⟩
          · simp only [belowB, belowL, belowV, Bool.and_true, Bool.and_eq_true, decide_eq_true_eq]
            omega
          · rw [hR]; trivial
    · have hge' : ¬ (j : Int) < s.length := by omega
      have : j = s.length := by omega
      subst this
      (repeat' (first | ((first | with_reducible refine vcG_split ?_ ?_ | with_reducible refine vcIf_split ?_ ?_ | with_reducible refine vcQ_split ?_ ?_ | with_reducible refine vcDG_split ?_ ?_) <;> intro hb <;> (try rw [hb]) <;> (try simp only [Bool.and_eq_true, Bool.or_eq_true, dtrue, dfalse, Bool.not_eq_true', Bool.not_eq_false', Bool.and_eq_false_iff, Bool.or_eq_false_iff, Bool.not_true, Bool.not_false] at hb) <;> (try simp only [within] at hb) <;> try (simp only [go_sem, hge'])) | refine And.intro (by (first | exact trivial | (simp only [I64]; omega) | omega)) ?_ | (with_reducible rw [vc_draw_eq]; first | refine CV.draw (id := 6) [(0, 0), (0, 0), (0, 0), (0, 0), (0, 0), (0, 1), (0, 0), (0, 0), (0, 0), (0, 0), (0, 0), (0, 0), (0, 0), (0, 0), (99, 0), (0, 0), (2, 2), (2, 2)] mixed rfl (by kernel_rfl) ?_) | (simp only [go_sem, hge'])))
      rw [List.append_assoc]; rfl
end Go.Proofs.Ytoadkchhimojlaa.W5

