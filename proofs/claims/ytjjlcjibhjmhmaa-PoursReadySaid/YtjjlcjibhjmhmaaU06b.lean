/- Contracts of functions of the given program, without a condition beyond those that each theorem states; they lead to the given statement. -/
import Derived.Test.YtjjlcjibhjmhmaaU06a
set_option linter.unusedSimpArgs false
set_option linter.unusedVariables false
set_option maxRecDepth 100000
namespace Go.Proofs.Ytjjlcjibhjmhmaa
open Go Go.Fl
open Classical
set_option maxHeartbeats 4000000 in
theorem c98 (s : List Job) (a b : Int) (hv : valid s) (ha : within a 0 (s.length - 1)) (hb0 : within b 0 (s.length - 1)) : PC Try.prog 98 [hS s, .int .i64 a, .int .i64 b] (.bool (decide (ltJ s a b))) := by
  have ja := jb_at ha
  have jbb := jb_at hb0
  have oa := hv.jb ha
  have ob := hv.jb hb0
  unfold okJob within at oa ob
  have ha' := ha
  have hb' := hb0
  unfold within at ha' hb'
  have ha0 : a < s.length := by omega
  have k1 : (true == false) = false := rfl
  have k2 : (false == true) = false := rfl
  have k3 : (true == true) = true := rfl
  have k4 : (false == false) = true := rfl
  have hb1 : b < s.length := by omega
  by_cases c1 : (jb s a).beat ≤ (jb s a).pour
  · by_cases c2 : (jb s b).beat ≤ (jb s b).pour
    · by_cases c3 : (jb s a).beat + (jb s a).high = (jb s b).beat + (jb s b).high
      · have e : ltJ s a b ↔ a < b := by unfold ltJ pl1 pl2; simp only [c1, c2, if_true, true_and]; constructor <;> intro h <;> omega
        refine PC.body Try.func98 (by kernel_rfl) rfl (by simp [Try.f98]) rfl ?_
        simp only [Try.f98]
        intro hlen
        simp only [go_sem, List.length_map, and_true, true_and] at hlen
        refine CV.run ?_
        (repeat' (first | ((first | with_reducible refine vcG_split ?_ ?_ | with_reducible refine vcIf_split ?_ ?_ | with_reducible refine vcQ_split ?_ ?_ | with_reducible refine vcDG_split ?_ ?_) <;> intro hb <;> (try rw [hb]) <;> (try simp only [Bool.and_eq_true, Bool.or_eq_true, dtrue, dfalse, Bool.not_eq_true', Bool.not_eq_false', Bool.and_eq_false_iff, Bool.or_eq_false_iff, Bool.not_true, Bool.not_false] at hb) <;> (try simp only [within] at hb) <;> try (simp only [go_sem, ja, jbb, ha0, hb1, c1, c2, c3, encJ, decide_true, decide_false, k1, k2, k3, k4, Bool.not_true, Bool.not_false])) | refine And.intro (by (first | exact trivial | (simp only [I64]; omega) | omega)) ?_ | (with_reducible rw [vc_draw_eq]; first | refine CV.draw (id := 1) [(0, 0), (0, 0), (0, 0), (0, 0), (0, 0), (0, 1), (0, 1), (0, 1), (0, 1), (0, 1), (0, 0), (0, 0), (0, 0), (0, 0)] mixed rfl (by kernel_rfl) ?_ | refine CV.draw (id := 2) [(0, 0), (0, 0), (0, 0), (0, 0), (0, 0), (0, 0), (0, 0), (0, 0), (0, 0), (0, 0), (0, 0), (0, 0)] mixed rfl (by kernel_rfl) ?_) | fail | (simp only [go_sem, ja, jbb, ha0, hb1, c1, c2, c3, encJ, decide_true, decide_false, k1, k2, k3, k4, Bool.not_true, Bool.not_false])))
        all_goals first
          | omega
          | exact bd e.symm
      · have e : ltJ s a b ↔ (jb s a).beat + (jb s a).high < (jb s b).beat + (jb s b).high := by unfold ltJ pl1 pl2; simp only [c1, c2, if_true, true_and]; constructor <;> intro h <;> omega
        refine PC.body Try.func98 (by kernel_rfl) rfl (by simp [Try.f98]) rfl ?_
        simp only [Try.f98]
        intro hlen
        simp only [go_sem, List.length_map, and_true, true_and] at hlen
        refine CV.run ?_
        (repeat' (first | ((first | with_reducible refine vcG_split ?_ ?_ | with_reducible refine vcIf_split ?_ ?_ | with_reducible refine vcQ_split ?_ ?_ | with_reducible refine vcDG_split ?_ ?_) <;> intro hb <;> (try rw [hb]) <;> (try simp only [Bool.and_eq_true, Bool.or_eq_true, dtrue, dfalse, Bool.not_eq_true', Bool.not_eq_false', Bool.and_eq_false_iff, Bool.or_eq_false_iff, Bool.not_true, Bool.not_false] at hb) <;> (try simp only [within] at hb) <;> try (simp only [go_sem, ja, jbb, ha0, hb1, c1, c2, c3, encJ, decide_true, decide_false, k1, k2, k3, k4, Bool.not_true, Bool.not_false])) | refine And.intro (by (first | exact trivial | (simp only [I64]; omega) | omega)) ?_ | (with_reducible rw [vc_draw_eq]; first | refine CV.draw (id := 1) [(0, 0), (0, 0), (0, 0), (0, 0), (0, 0), (0, 1), (0, 1), (0, 1), (0, 1), (0, 1), (0, 0), (0, 0), (0, 0), (0, 0)] mixed rfl (by kernel_rfl) ?_ | refine CV.draw (id := 2) [(0, 0), (0, 0), (0, 0), (0, 0), (0, 0), (0, 0), (0, 0), (0, 0), (0, 0), (0, 0), (0, 0), (0, 0)] mixed rfl (by kernel_rfl) ?_) | fail | (simp only [go_sem, ja, jbb, ha0, hb1, c1, c2, c3, encJ, decide_true, decide_false, k1, k2, k3, k4, Bool.not_true, Bool.not_false])))
        all_goals first
          | omega
          | exact bd e.symm
    · have e : ltJ s a b := by unfold ltJ pl1 pl2; simp only [c1, c2, if_true, if_false]; omega
      rw [decide_eq_true e]
      refine PC.body Try.func98 (by kernel_rfl) rfl (by simp [Try.f98]) rfl ?_
      simp only [Try.f98]
      intro hlen
      simp only [go_sem, List.length_map, and_true, true_and] at hlen
      refine CV.run ?_
      (repeat' (first | ((first | with_reducible refine vcG_split ?_ ?_ | with_reducible refine vcIf_split ?_ ?_ | with_reducible refine vcQ_split ?_ ?_ | with_reducible refine vcDG_split ?_ ?_) <;> intro hb <;> (try rw [hb]) <;> (try simp only [Bool.and_eq_true, Bool.or_eq_true, dtrue, dfalse, Bool.not_eq_true', Bool.not_eq_false', Bool.and_eq_false_iff, Bool.or_eq_false_iff, Bool.not_true, Bool.not_false] at hb) <;> (try simp only [within] at hb) <;> try (simp only [go_sem, ja, jbb, ha0, hb1, c1, c2, encJ, decide_true, decide_false, k1, k2, k3, k4, Bool.not_true, Bool.not_false])) | refine And.intro (by (first | exact trivial | (simp only [I64]; omega) | omega)) ?_ | (with_reducible rw [vc_draw_eq]; first | refine CV.draw (id := 1) [(0, 0), (0, 0), (0, 0), (0, 0), (0, 0), (0, 1), (0, 1), (0, 1), (0, 1), (0, 1), (0, 0), (0, 0), (0, 0), (0, 0)] mixed rfl (by kernel_rfl) ?_ | refine CV.draw (id := 2) [(0, 0), (0, 0), (0, 0), (0, 0), (0, 0), (0, 0), (0, 0), (0, 0), (0, 0), (0, 0), (0, 0), (0, 0)] mixed rfl (by kernel_rfl) ?_) | fail | (simp only [go_sem, ja, jbb, ha0, hb1, c1, c2, encJ, decide_true, decide_false, k1, k2, k3, k4, Bool.not_true, Bool.not_false])))
      all_goals first
        | omega
        | trace_state
  · by_cases c2 : (jb s b).beat ≤ (jb s b).pour
    · have e : ¬ ltJ s a b := by unfold ltJ pl1 pl2; simp only [c1, c2, if_true, if_false]; omega
      rw [decide_eq_false e]
      refine PC.body Try.func98 (by kernel_rfl) rfl (by simp [Try.f98]) rfl ?_
      simp only [Try.f98]
      intro hlen
      simp only [go_sem, List.length_map, and_true, true_and] at hlen
      refine CV.run ?_
      (repeat' (first | ((first | with_reducible refine vcG_split ?_ ?_ | with_reducible refine vcIf_split ?_ ?_ | with_reducible refine vcQ_split ?_ ?_ | with_reducible refine vcDG_split ?_ ?_) <;> intro hb <;> (try rw [hb]) <;> (try simp only [Bool.and_eq_true, Bool.or_eq_true, dtrue, dfalse, Bool.not_eq_true', Bool.not_eq_false', Bool.and_eq_false_iff, Bool.or_eq_false_iff, Bool.not_true, Bool.not_false] at hb) <;> (try simp only [within] at hb) <;> try (simp only [go_sem, ja, jbb, ha0, hb1, c1, c2, encJ, decide_true, decide_false, k1, k2, k3, k4, Bool.not_true, Bool.not_false])) | refine And.intro (by (first | exact trivial | (simp only [I64]; omega) | omega)) ?_ | (with_reducible rw [vc_draw_eq]; first | refine CV.draw (id := 1) [(0, 0), (0, 0), (0, 0), (0, 0), (0, 0), (0, 1), (0, 1), (0, 1), (0, 1), (0, 1), (0, 0), (0, 0), (0, 0), (0, 0)] mixed rfl (by kernel_rfl) ?_ | refine CV.draw (id := 2) [(0, 0), (0, 0), (0, 0), (0, 0), (0, 0), (0, 0), (0, 0), (0, 0), (0, 0), (0, 0), (0, 0), (0, 0)] mixed rfl (by kernel_rfl) ?_) | fail | (simp only [go_sem, ja, jbb, ha0, hb1, c1, c2, encJ, decide_true, decide_false, k1, k2, k3, k4, Bool.not_true, Bool.not_false])))
      all_goals first
        | omega
        | trace_state
    · by_cases c3 : (jb s a).pour + (jb s a).high = (jb s b).pour + (jb s b).high
      · have e : ltJ s a b ↔ a < b := by unfold ltJ pl1 pl2; simp only [c1, c2, if_false, true_and]; constructor <;> intro h <;> omega
        refine PC.body Try.func98 (by kernel_rfl) rfl (by simp [Try.f98]) rfl ?_
        simp only [Try.f98]
        intro hlen
        simp only [go_sem, List.length_map, and_true, true_and] at hlen
        refine CV.run ?_
        (repeat' (first | ((first | with_reducible refine vcG_split ?_ ?_ | with_reducible refine vcIf_split ?_ ?_ | with_reducible refine vcQ_split ?_ ?_ | with_reducible refine vcDG_split ?_ ?_) <;> intro hb <;> (try rw [hb]) <;> (try simp only [Bool.and_eq_true, Bool.or_eq_true, dtrue, dfalse, Bool.not_eq_true', Bool.not_eq_false', Bool.and_eq_false_iff, Bool.or_eq_false_iff, Bool.not_true, Bool.not_false] at hb) <;> (try simp only [within] at hb) <;> try (simp only [go_sem, ja, jbb, ha0, hb1, c1, c2, c3, encJ, decide_true, decide_false, k1, k2, k3, k4, Bool.not_true, Bool.not_false])) | refine And.intro (by (first | exact trivial | (simp only [I64]; omega) | omega)) ?_ | (with_reducible rw [vc_draw_eq]; first | refine CV.draw (id := 1) [(0, 0), (0, 0), (0, 0), (0, 0), (0, 0), (0, 1), (0, 1), (0, 1), (0, 1), (0, 1), (0, 0), (0, 0), (0, 0), (0, 0)] mixed rfl (by kernel_rfl) ?_ | refine CV.draw (id := 2) [(0, 0), (0, 0), (0, 0), (0, 0), (0, 0), (0, 0), (0, 0), (0, 0), (0, 0), (0, 0), (0, 0), (0, 0)] mixed rfl (by kernel_rfl) ?_) | fail | (simp only [go_sem, ja, jbb, ha0, hb1, c1, c2, c3, encJ, decide_true, decide_false, k1, k2, k3, k4, Bool.not_true, Bool.not_false])))
        all_goals first
          | omega
          | exact bd e.symm
      · have e : ltJ s a b ↔ (jb s b).pour + (jb s b).high < (jb s a).pour + (jb s a).high := by unfold ltJ pl1 pl2; simp only [c1, c2, if_false, true_and]; constructor <;> intro h <;> omega
        refine PC.body Try.func98 (by kernel_rfl) rfl (by simp [Try.f98]) rfl ?_
        simp only [Try.f98]
        intro hlen
        simp only [go_sem, List.length_map, and_true, true_and] at hlen
        refine CV.run ?_
        (repeat' (first | ((first | with_reducible refine vcG_split ?_ ?_ | with_reducible refine vcIf_split ?_ ?_ | with_reducible refine vcQ_split ?_ ?_ | with_reducible refine vcDG_split ?_ ?_) <;> intro hb <;> (try rw [hb]) <;> (try simp only [Bool.and_eq_true, Bool.or_eq_true, dtrue, dfalse, Bool.not_eq_true', Bool.not_eq_false', Bool.and_eq_false_iff, Bool.or_eq_false_iff, Bool.not_true, Bool.not_false] at hb) <;> (try simp only [within] at hb) <;> try (simp only [go_sem, ja, jbb, ha0, hb1, c1, c2, c3, encJ, decide_true, decide_false, k1, k2, k3, k4, Bool.not_true, Bool.not_false])) | refine And.intro (by (first | exact trivial | (simp only [I64]; omega) | omega)) ?_ | (with_reducible rw [vc_draw_eq]; first | refine CV.draw (id := 1) [(0, 0), (0, 0), (0, 0), (0, 0), (0, 0), (0, 1), (0, 1), (0, 1), (0, 1), (0, 1), (0, 0), (0, 0), (0, 0), (0, 0)] mixed rfl (by kernel_rfl) ?_ | refine CV.draw (id := 2) [(0, 0), (0, 0), (0, 0), (0, 0), (0, 0), (0, 0), (0, 0), (0, 0), (0, 0), (0, 0), (0, 0), (0, 0)] mixed rfl (by kernel_rfl) ?_) | fail | (simp only [go_sem, ja, jbb, ha0, hb1, c1, c2, c3, encJ, decide_true, decide_false, k1, k2, k3, k4, Bool.not_true, Bool.not_false])))
        all_goals first
          | omega
          | exact bd e.symm
noncomputable def cntA (s : List Job) (i : Int) (k : Nat) : Nat := ((upI k).filter fun y => decide (ltJ s y i)).length
theorem cntA_zero {s : List Job} {i : Int} : cntA s i 0 = 0 := rfl
theorem cntA_yes {s : List Job} {i : Int} {k : Nat} (h : ltJ s k i) : cntA s i (k + 1) = cntA s i k + 1 := by simp [cntA, upI_succ, List.filter_append, h]
theorem cntA_no {s : List Job} {i : Int} {k : Nat} (h : ¬ ltJ s k i) : cntA s i (k + 1) = cntA s i k := by simp [cntA, upI_succ, List.filter_append, h]
theorem cntA_le {s : List Job} {i : Int} {k : Nat} : cntA s i k ≤ k := by
  have := List.length_filter_le (fun y => decide (ltJ s y i)) (upI k)
  rw [upI_len] at this; exact this
theorem cntA_at {s : List Job} {i : Int} (h : within i 0 (s.length - 1)) : (ruleV s)[cntA s i s.length]? = some i := by
  obtain ⟨hp, hs⟩ := rule_perm (s := s)
  have hm : i ∈ ruleV s := hp.mem_iff.2 (upI_mem.2 (by unfold within at h; omega))
  obtain ⟨A, B, e⟩ := List.append_of_mem hm
  have hc : cntA s i s.length = A.length := by
    unfold cntA
    rw [← (hp.filter fun y => decide (ltJ s y i)).length_eq, e, List.filter_append]
    rw [e, List.pairwise_append, List.pairwise_cons] at hs
    obtain ⟨_, ⟨h2, _⟩, h3⟩ := hs
    have e1 : (A.filter fun y => decide (ltJ s y i)) = A := List.filter_eq_self.2 fun a ha => by simp [h3 a ha i (by simp)]
    have e2 : ((i :: B).filter fun y => decide (ltJ s y i)) = [] := List.filter_eq_nil_iff.2 fun a ha => by
      rcases List.mem_cons.1 ha with rfl | q
      · simp only [decide_eq_true_eq]; exact ltJ.irr
      · simp only [decide_eq_true_eq]; exact fun z => ((h2 a q).trans z).irr
    rw [e1, e2, List.append_nil]
  rw [hc, e, List.getElem?_append_right (Nat.le_refl _), Nat.sub_self]; rfl
def rlT (s : List Job) (i : Nat) : List Int := (ruleV s).map fun (y : Int) => if y < (i : Int) then y else 0
theorem rlT_zero {s : List Job} : rlT s 0 = List.replicate s.length 0 := by
  have : ∀ y, y ∈ ruleV s → (if y < ((0 : Nat) : Int) then y else 0) = 0 := fun y hy => by
    have := upI_mem.1 (rule_perm.1.mem_iff.1 hy)
    rw [if_neg (by omega)]
  unfold rlT
  rw [List.map_congr_left this, List.map_const', rule_ord.2]
theorem rlT_len {s : List Job} {i : Nat} : (rlT s i).length = s.length := by simp [rlT, rule_ord.2]
theorem rlT_succ {s : List Job} {i : Nat} (h : i < s.length) : (rlT s i).set (cntA s i s.length) (i : Int) = rlT s (i + 1) := by
  have hat := cntA_at (s := s) (i := (i : Int)) (by unfold within; omega)
  have nd := isOrd_nodup rule_ord.1 (l := ruleV s)
  apply List.ext_getElem?
  intro q
  unfold rlT
  rw [List.getElem?_set, List.getElem?_map, List.getElem?_map]
  by_cases e : cntA s i s.length = q
  · subst e
    rw [if_pos rfl, hat]
    have hl : cntA s i s.length < (List.map (fun y => if y < (i : Int) then y else 0) (ruleV s)).length := by
      rw [List.length_map]; exact (List.getElem?_eq_some_iff.1 hat).1
    rw [if_pos hl]
    simp only [Option.map_some]
    rw [if_pos (by omega)]
  · rw [if_neg e]
    cases hq : (ruleV s)[q]? with
    | none => rfl
    | some y =>
      simp only [Option.map_some]
      have hne : y ≠ i := fun h => by
        subst h
        rw [List.nodup_iff_pairwise_ne, List.pairwise_iff_getElem] at nd
        obtain ⟨l1, e1⟩ := List.getElem?_eq_some_iff.1 hat
        obtain ⟨l2, e2⟩ := List.getElem?_eq_some_iff.1 hq
        rcases Nat.lt_or_ge q (cntA s i s.length) with z | z
        · exact nd q _ l2 l1 z (by rw [e1, e2])
        · exact nd _ q l1 l2 (by omega) (by rw [e1, e2])
      congr 1
      by_cases c : y < (i : Int)
      · rw [if_pos c, if_pos (by omega)]
      · rw [if_neg c, if_neg (by omega)]
theorem rlT_all {s : List Job} : rlT s s.length = ruleV s := by
  unfold rlT
  conv => rhs; rw [← List.map_id (ruleV s)]
  refine List.map_congr_left fun y hy => ?_
  have := upI_mem.1 (rule_perm.1.mem_iff.1 hy)
  rw [if_pos (by omega)]; rfl
theorem rep_map {n : Nat} : List.replicate n [AV.int .i64 0] = (List.replicate n (0 : Int)).map encN := by simp [encN]
set_option maxHeartbeats 4000000 in
theorem c60 (s : List Job) : PC Try.prog 60 [hS s] (.tup [lN (if check s = 0 then ruleV s else []), .int .i64 (check s)]) := by
  by_cases hv : valid s
  · have hc := check_yes hv
    have h6 := hv.1
    rw [hc, if_pos rfl]
    refine PC.body Try.func60 (by kernel_rfl) rfl (by simp [Try.f60]) rfl ?_
    simp only [Try.f60]
    intro hlen
    simp only [go_sem, List.length_map, and_true, true_and] at hlen
    refine CV.run ?_
    (repeat' (first | ((first | with_reducible refine vcG_split ?_ ?_ | with_reducible refine vcIf_split ?_ ?_ | with_reducible refine vcQ_split ?_ ?_ | with_reducible refine vcDG_split ?_ ?_) <;> intro hb <;> (try rw [hb]) <;> (try simp only [Bool.and_eq_true, Bool.or_eq_true, dtrue, dfalse, Bool.not_eq_true', Bool.not_eq_false', Bool.and_eq_false_iff, Bool.or_eq_false_iff, Bool.not_true, Bool.not_false] at hb) <;> (try simp only [within] at hb) <;> try (simp only [go_sem, hc, Int.toNat_natCast, rep_map])) | refine And.intro (by (first | exact trivial | (simp only [I64]; omega) | omega)) ?_ | (first | (refine vcP_pure (c42 _) rfl ?_ ?_ ?_; (focus (first | rfl | ((simp only [go_sem, hc, Int.toNat_natCast, rep_map, AV.pureL, AV.pure, pureL_mapI, Bool.and_self]) <;> fail))); (focus (first | ((simp only [go_sem, hc, Int.toNat_natCast, rep_map]) <;> fail) | rfl))) | (refine dCallP_pure (c42 _) rfl ?_ ?_ ?_; (focus (first | rfl | ((simp only [go_sem, hc, Int.toNat_natCast, rep_map, AV.pureL, AV.pure, pureL_mapI, Bool.and_self]) <;> fail))); (focus (first | ((simp only [go_sem, hc, Int.toNat_natCast, rep_map]) <;> fail) | rfl))) | (refine dCallC_pure (c42 _) rfl ?_ ?_ ?_; (focus (first | rfl | ((simp only [go_sem, hc, Int.toNat_natCast, rep_map, AV.pureL, AV.pure, pureL_mapI, Bool.and_self]) <;> fail))); (focus (first | ((simp only [go_sem, hc, Int.toNat_natCast, rep_map]) <;> fail) | rfl))) | refine dCallC_safe (c42 _) rfl rfl (by (simp only [go_sem, hc, Int.toNat_natCast, rep_map])) ?_ | refine vcP_safe (c42 _) rfl rfl (by (simp only [go_sem, hc, Int.toNat_natCast, rep_map])) ?_ | refine dCallP_safe (c42 _) rfl rfl ?_) | (simp only [go_sem, hc, Int.toNat_natCast, rep_map])))
    refine vc_for (fun i => ⟨[(6, .int .i64 i), (5, .row 1 s.length), (1, .lp 0 0), (2, .nilS), (3, .int .i64 0)], [.box 24 (cS s) false, .row 3 1 ((rlT s i).map encN) false]⟩) s.length (fun _ => True) (by simp only [rlT_zero]; exact (by (first | exact wk_same (by (simp only [go_sem, Int.natCast_add, Int.natCast_one, Int.natCast_zero, Int.cast_ofNat_Int])) | exact wk_drop (by (simp only [go_sem, Int.natCast_add, Int.natCast_one, Int.natCast_zero, Int.cast_ofNat_Int])) (by (simp only [go_sem, Int.natCast_add, Int.natCast_one, Int.natCast_zero, Int.cast_ofNat_Int])) (by (simp only [go_sem, Int.natCast_add, Int.natCast_one, Int.natCast_zero, Int.cast_ofNat_Int])) (by (simp only [go_sem, Int.natCast_add, Int.natCast_one, Int.natCast_zero, Int.cast_ofNat_Int])) (by (simp only [go_sem, Int.natCast_add, Int.natCast_one, Int.natCast_zero, Int.cast_ofNat_Int]))))) trivial ?_
    intro i hi _
    rcases Nat.lt_or_ge i s.length with hlt | hge
    · have hlt' : (i : Int) < s.length := by omega
      have hiw : within (i : Int) 0 (s.length - 1) := by unfold within; omega
      (repeat' (first | ((first | with_reducible refine vcG_split ?_ ?_ | with_reducible refine vcIf_split ?_ ?_ | with_reducible refine vcQ_split ?_ ?_ | with_reducible refine vcDG_split ?_ ?_) <;> intro hb <;> (try rw [hb]) <;> (try simp only [Bool.and_eq_true, Bool.or_eq_true, dtrue, dfalse, Bool.not_eq_true', Bool.not_eq_false', Bool.and_eq_false_iff, Bool.or_eq_false_iff, Bool.not_true, Bool.not_false] at hb) <;> (try simp only [within] at hb) <;> try (simp only [go_sem, hlt'])) | refine And.intro (by (first | exact trivial | (simp only [I64]; omega) | omega)) ?_ | fail | (simp only [go_sem, hlt'])))
      refine vc_for (fun k => ⟨[(8, .int .i64 k), (7, .int .i64 (cntA s i k)), (6, .int .i64 i), (5, .row 1 s.length), (1, .lp 0 0), (2, .nilS), (3, .int .i64 0)], [.box 24 (cS s) false, .row 3 1 ((rlT s i).map encN) false]⟩) s.length (fun _ => True) (by (first | exact wk_same (by (simp only [go_sem, Int.natCast_add, Int.natCast_one, Int.natCast_zero, Int.cast_ofNat_Int, cntA_zero])) | exact wk_drop (by (simp only [go_sem, Int.natCast_add, Int.natCast_one, Int.natCast_zero, Int.cast_ofNat_Int, cntA_zero])) (by (simp only [go_sem, Int.natCast_add, Int.natCast_one, Int.natCast_zero, Int.cast_ofNat_Int, cntA_zero])) (by (simp only [go_sem, Int.natCast_add, Int.natCast_one, Int.natCast_zero, Int.cast_ofNat_Int, cntA_zero])) (by (simp only [go_sem, Int.natCast_add, Int.natCast_one, Int.natCast_zero, Int.cast_ofNat_Int, cntA_zero])) (by (simp only [go_sem, Int.natCast_add, Int.natCast_one, Int.natCast_zero, Int.cast_ofNat_Int, cntA_zero])))) trivial ?_
      intro k hk _
      rcases Nat.lt_or_ge k s.length with hkl | hkg
      · have hkl' : (k : Int) < s.length := by omega
        have hkw : within (k : Int) 0 (s.length - 1) := by unfold within; omega
        have h98 := c98 s k i hv hkw hiw
        have hcl := cntA_le (s := s) (i := i) (k := k)
        by_cases hl : ltJ s k i
        · have hne : ¬ (k : Int) = i := fun e => by rw [e] at hl; exact hl.irr
          have e := cntA_yes hl
          rw [decide_eq_true hl] at h98
          (repeat' (first | ((first | with_reducible refine vcG_split ?_ ?_ | with_reducible refine vcIf_split ?_ ?_ | with_reducible refine vcQ_split ?_ ?_ | with_reducible refine vcDG_split ?_ ?_) <;> intro hb <;> (try rw [hb]) <;> (try simp only [Bool.and_eq_true, Bool.or_eq_true, dtrue, dfalse, Bool.not_eq_true', Bool.not_eq_false', Bool.and_eq_false_iff, Bool.or_eq_false_iff, Bool.not_true, Bool.not_false] at hb) <;> (try simp only [within] at hb) <;> try (simp only [go_sem, hkl', hne])) | refine And.intro (by (first | exact trivial | (simp only [I64]; omega) | omega)) ?_ | (first | (refine vcP_pure (h98) rfl ?_ ?_ ?_; (focus (first | rfl | ((simp only [go_sem, hkl', hne, AV.pureL, AV.pure, pureL_mapI, Bool.and_self]) <;> fail))); (focus (first | ((simp only [go_sem, hkl', hne]) <;> fail) | rfl))) | (refine dCallP_pure (h98) rfl ?_ ?_ ?_; (focus (first | rfl | ((simp only [go_sem, hkl', hne, AV.pureL, AV.pure, pureL_mapI, Bool.and_self]) <;> fail))); (focus (first | ((simp only [go_sem, hkl', hne]) <;> fail) | rfl))) | (refine dCallC_pure (h98) rfl ?_ ?_ ?_; (focus (first | rfl | ((simp only [go_sem, hkl', hne, AV.pureL, AV.pure, pureL_mapI, Bool.and_self]) <;> fail))); (focus (first | ((simp only [go_sem, hkl', hne]) <;> fail) | rfl))) | refine dCallC_safe (h98) rfl rfl (by (simp only [go_sem, hkl', hne])) ?_ | refine vcP_safe (h98) rfl rfl (by (simp only [go_sem, hkl', hne])) ?_ | refine dCallP_safe (h98) rfl rfl ?_) | (simp only [go_sem, hkl', hne])))
          exact (by (first | exact wk_same (by (simp only [go_sem, Int.natCast_add, Int.natCast_one, Int.natCast_zero, Int.cast_ofNat_Int, e])) | exact wk_drop (by (simp only [go_sem, Int.natCast_add, Int.natCast_one, Int.natCast_zero, Int.cast_ofNat_Int, e])) (by (simp only [go_sem, Int.natCast_add, Int.natCast_one, Int.natCast_zero, Int.cast_ofNat_Int, e])) (by (simp only [go_sem, Int.natCast_add, Int.natCast_one, Int.natCast_zero, Int.cast_ofNat_Int, e])) (by (simp only [go_sem, Int.natCast_add, Int.natCast_one, Int.natCast_zero, Int.cast_ofNat_Int, e])) (by (simp only [go_sem, Int.natCast_add, Int.natCast_one, Int.natCast_zero, Int.cast_ofNat_Int, e]))))
        · have e := cntA_no hl
          rw [decide_eq_false hl] at h98
          by_cases he : k = i
          · subst he
            (repeat' (first | ((first | with_reducible refine vcG_split ?_ ?_ | with_reducible refine vcIf_split ?_ ?_ | with_reducible refine vcQ_split ?_ ?_ | with_reducible refine vcDG_split ?_ ?_) <;> intro hb <;> (try rw [hb]) <;> (try simp only [Bool.and_eq_true, Bool.or_eq_true, dtrue, dfalse, Bool.not_eq_true', Bool.not_eq_false', Bool.and_eq_false_iff, Bool.or_eq_false_iff, Bool.not_true, Bool.not_false] at hb) <;> (try simp only [within] at hb) <;> try (simp only [go_sem, hkl'])) | refine And.intro (by (first | exact trivial | (simp only [I64]; omega) | omega)) ?_ | (first | (refine vcP_pure (h98) rfl ?_ ?_ ?_; (focus (first | rfl | ((simp only [go_sem, hkl', AV.pureL, AV.pure, pureL_mapI, Bool.and_self]) <;> fail))); (focus (first | ((simp only [go_sem, hkl']) <;> fail) | rfl))) | (refine dCallP_pure (h98) rfl ?_ ?_ ?_; (focus (first | rfl | ((simp only [go_sem, hkl', AV.pureL, AV.pure, pureL_mapI, Bool.and_self]) <;> fail))); (focus (first | ((simp only [go_sem, hkl']) <;> fail) | rfl))) | (refine dCallC_pure (h98) rfl ?_ ?_ ?_; (focus (first | rfl | ((simp only [go_sem, hkl', AV.pureL, AV.pure, pureL_mapI, Bool.and_self]) <;> fail))); (focus (first | ((simp only [go_sem, hkl']) <;> fail) | rfl))) | refine dCallC_safe (h98) rfl rfl (by (simp only [go_sem, hkl'])) ?_ | refine vcP_safe (h98) rfl rfl (by (simp only [go_sem, hkl'])) ?_ | refine dCallP_safe (h98) rfl rfl ?_) | (simp only [go_sem, hkl'])))
            exact (by (first | exact wk_same (by (simp only [go_sem, Int.natCast_add, Int.natCast_one, Int.natCast_zero, Int.cast_ofNat_Int, e])) | exact wk_drop (by (simp only [go_sem, Int.natCast_add, Int.natCast_one, Int.natCast_zero, Int.cast_ofNat_Int, e])) (by (simp only [go_sem, Int.natCast_add, Int.natCast_one, Int.natCast_zero, Int.cast_ofNat_Int, e])) (by (simp only [go_sem, Int.natCast_add, Int.natCast_one, Int.natCast_zero, Int.cast_ofNat_Int, e])) (by (simp only [go_sem, Int.natCast_add, Int.natCast_one, Int.natCast_zero, Int.cast_ofNat_Int, e])) (by (simp only [go_sem, Int.natCast_add, Int.natCast_one, Int.natCast_zero, Int.cast_ofNat_Int, e]))))
          · have he' : ¬ (k : Int) = i := by omega
            (repeat' (first | ((first | with_reducible refine vcG_split ?_ ?_ | with_reducible refine vcIf_split ?_ ?_ | with_reducible refine vcQ_split ?_ ?_ | with_reducible refine vcDG_split ?_ ?_) <;> intro hb <;> (try rw [hb]) <;> (try simp only [Bool.and_eq_true, Bool.or_eq_true, dtrue, dfalse, Bool.not_eq_true', Bool.not_eq_false', Bool.and_eq_false_iff, Bool.or_eq_false_iff, Bool.not_true, Bool.not_false] at hb) <;> (try simp only [within] at hb) <;> try (simp only [go_sem, hkl', he'])) | refine And.intro (by (first | exact trivial | (simp only [I64]; omega) | omega)) ?_ | (first | (refine vcP_pure (h98) rfl ?_ ?_ ?_; (focus (first | rfl | ((simp only [go_sem, hkl', he', AV.pureL, AV.pure, pureL_mapI, Bool.and_self]) <;> fail))); (focus (first | ((simp only [go_sem, hkl', he']) <;> fail) | rfl))) | (refine dCallP_pure (h98) rfl ?_ ?_ ?_; (focus (first | rfl | ((simp only [go_sem, hkl', he', AV.pureL, AV.pure, pureL_mapI, Bool.and_self]) <;> fail))); (focus (first | ((simp only [go_sem, hkl', he']) <;> fail) | rfl))) | (refine dCallC_pure (h98) rfl ?_ ?_ ?_; (focus (first | rfl | ((simp only [go_sem, hkl', he', AV.pureL, AV.pure, pureL_mapI, Bool.and_self]) <;> fail))); (focus (first | ((simp only [go_sem, hkl', he']) <;> fail) | rfl))) | refine dCallC_safe (h98) rfl rfl (by (simp only [go_sem, hkl', he'])) ?_ | refine vcP_safe (h98) rfl rfl (by (simp only [go_sem, hkl', he'])) ?_ | refine dCallP_safe (h98) rfl rfl ?_) | (simp only [go_sem, hkl', he'])))
            exact (by (first | exact wk_same (by (simp only [go_sem, Int.natCast_add, Int.natCast_one, Int.natCast_zero, Int.cast_ofNat_Int, e])) | exact wk_drop (by (simp only [go_sem, Int.natCast_add, Int.natCast_one, Int.natCast_zero, Int.cast_ofNat_Int, e])) (by (simp only [go_sem, Int.natCast_add, Int.natCast_one, Int.natCast_zero, Int.cast_ofNat_Int, e])) (by (simp only [go_sem, Int.natCast_add, Int.natCast_one, Int.natCast_zero, Int.cast_ofNat_Int, e])) (by (simp only [go_sem, Int.natCast_add, Int.natCast_one, Int.natCast_zero, Int.cast_ofNat_Int, e])) (by (simp only [go_sem, Int.natCast_add, Int.natCast_one, Int.natCast_zero, Int.cast_ofNat_Int, e]))))
      · have hkg' : ¬ (k : Int) < s.length := by omega
        have : k = s.length := by omega
        subst this
        have hcl := (List.getElem?_eq_some_iff.1 (cntA_at hiw)).1
        rw [rule_ord.2] at hcl
        have hcl' : (cntA s i s.length : Int) < s.length := by omega
        have hset : ((rlT s i).map encN).set (cntA s i s.length) [.int .i64 i] = (rlT s (i + 1)).map encN := by rw [← rlT_succ hlt, List.map_set]; rfl
        obtain ⟨z, hz⟩ := get_of (l := rlT s i) (j := cntA s i s.length) (by rw [rlT_len]; exact hcl)
        (repeat' (first | ((first | with_reducible refine vcG_split ?_ ?_ | with_reducible refine vcIf_split ?_ ?_ | with_reducible refine vcQ_split ?_ ?_ | with_reducible refine vcDG_split ?_ ?_) <;> intro hb <;> (try rw [hb]) <;> (try simp only [Bool.and_eq_true, Bool.or_eq_true, dtrue, dfalse, Bool.not_eq_true', Bool.not_eq_false', Bool.and_eq_false_iff, Bool.or_eq_false_iff, Bool.not_true, Bool.not_false] at hb) <;> (try simp only [within] at hb) <;> try (simp only [go_sem, hkg', hcl', hz, encN, hset, rlT_len, List.length_map, Int.toNat_natCast])) | refine And.intro (by (first | exact trivial | (simp only [I64]; omega) | omega)) ?_ | fail | (simp only [go_sem, hkg', hcl', hz, encN, hset, rlT_len, List.length_map, Int.toNat_natCast])))
        exact (by (first | exact wk_same (by (simp only [go_sem, Int.natCast_add, Int.natCast_one, Int.natCast_zero, Int.cast_ofNat_Int])) | exact wk_drop (by (simp only [go_sem, Int.natCast_add, Int.natCast_one, Int.natCast_zero, Int.cast_ofNat_Int])) (by (simp only [go_sem, Int.natCast_add, Int.natCast_one, Int.natCast_zero, Int.cast_ofNat_Int])) (by (simp only [go_sem, Int.natCast_add, Int.natCast_one, Int.natCast_zero, Int.cast_ofNat_Int])) (by (simp only [go_sem, Int.natCast_add, Int.natCast_one, Int.natCast_zero, Int.cast_ofNat_Int])) (by (simp only [go_sem, Int.natCast_add, Int.natCast_one, Int.natCast_zero, Int.cast_ofNat_Int]))))
    · have hge' : ¬ (i : Int) < s.length := by omega
      have : i = s.length := by omega
      subst this
      simp only [rlT_all]
      (repeat' (first | ((first | with_reducible refine vcG_split ?_ ?_ | with_reducible refine vcIf_split ?_ ?_ | with_reducible refine vcQ_split ?_ ?_ | with_reducible refine vcDG_split ?_ ?_) <;> intro hb <;> (try rw [hb]) <;> (try simp only [Bool.and_eq_true, Bool.or_eq_true, dtrue, dfalse, Bool.not_eq_true', Bool.not_eq_false', Bool.and_eq_false_iff, Bool.or_eq_false_iff, Bool.not_true, Bool.not_false] at hb) <;> (try simp only [within] at hb) <;> try (simp only [go_sem, hge', List.length_map])) | refine And.intro (by (first | exact trivial | (simp only [I64]; omega) | omega)) ?_ | fail | (simp only [go_sem, hge', List.length_map])))
      first
        | exact rule_ord.2
        | exact ⟨rule_ord.2, frzE_self _ _ (by rw [pureN]; trivial)⟩
  · have hc := check_no hv
    rw [hc, if_neg (by omega)]
    refine PC.body Try.func60 (by kernel_rfl) rfl (by simp [Try.f60]) rfl ?_
    simp only [Try.f60]
    intro hlen
    simp only [go_sem, List.length_map, and_true, true_and] at hlen
    refine CV.run ?_
    (repeat' (first | ((first | with_reducible refine vcG_split ?_ ?_ | with_reducible refine vcIf_split ?_ ?_ | with_reducible refine vcQ_split ?_ ?_ | with_reducible refine vcDG_split ?_ ?_) <;> intro hb <;> (try rw [hb]) <;> (try simp only [Bool.and_eq_true, Bool.or_eq_true, dtrue, dfalse, Bool.not_eq_true', Bool.not_eq_false', Bool.and_eq_false_iff, Bool.or_eq_false_iff, Bool.not_true, Bool.not_false] at hb) <;> (try simp only [within] at hb) <;> try (simp only [go_sem, hc, List.map_nil])) | refine And.intro (by (first | exact trivial | (simp only [I64]; omega) | omega)) ?_ | (first | (refine vcP_pure (c42 _) rfl ?_ ?_ ?_; (focus (first | rfl | ((simp only [go_sem, hc, List.map_nil, AV.pureL, AV.pure, pureL_mapI, Bool.and_self]) <;> fail))); (focus (first | ((simp only [go_sem, hc, List.map_nil]) <;> fail) | rfl))) | (refine dCallP_pure (c42 _) rfl ?_ ?_ ?_; (focus (first | rfl | ((simp only [go_sem, hc, List.map_nil, AV.pureL, AV.pure, pureL_mapI, Bool.and_self]) <;> fail))); (focus (first | ((simp only [go_sem, hc, List.map_nil]) <;> fail) | rfl))) | (refine dCallC_pure (c42 _) rfl ?_ ?_ ?_; (focus (first | rfl | ((simp only [go_sem, hc, List.map_nil, AV.pureL, AV.pure, pureL_mapI, Bool.and_self]) <;> fail))); (focus (first | ((simp only [go_sem, hc, List.map_nil]) <;> fail) | rfl))) | refine dCallC_safe (c42 _) rfl rfl (by (simp only [go_sem, hc, List.map_nil])) ?_ | refine vcP_safe (c42 _) rfl rfl (by (simp only [go_sem, hc, List.map_nil])) ?_ | refine dCallP_safe (c42 _) rfl rfl ?_) | (simp only [go_sem, hc, List.map_nil])))
end Go.Proofs.Ytjjlcjibhjmhmaa

