/- Contracts of functions of the given program, without a condition beyond those that each theorem states; they lead to the given statement. -/
import Derived.Test.YtjjlcjibhjmhmaaU05h
set_option linter.unusedSimpArgs false
set_option linter.unusedVariables false
set_option maxRecDepth 100000
namespace Go.Proofs.Ytjjlcjibhjmhmaa
open Go Go.Fl
open Classical
noncomputable def cP (q : List Int → Prop) (L : List (List Int)) : Int := ((L.filter fun x => decide (q x)).length : Nat)
theorem cP_nil {q : List Int → Prop} : cP q [] = 0 := rfl
theorem cP_yes {q : List Int → Prop} {L : List (List Int)} {x : List Int} (h : q x) : cP q (L ++ [x]) = cP q L + 1 := by simp [cP, List.filter_append, h]
theorem cP_no {q : List Int → Prop} {L : List (List Int)} {x : List Int} (h : ¬ q x) : cP q (L ++ [x]) = cP q L := by simp [cP, List.filter_append, h]
theorem cP_bounds {q : List Int → Prop} {L : List (List Int)} : 0 ≤ cP q L ∧ cP q L ≤ L.length := by
  unfold cP
  have := List.length_filter_le (fun x => decide (q x)) L
  omega
def bestM (s : List Job) : Int := (bstS (swo s) (ords s)).1
def bit (s : List Job) (x : Int) (l : List Int) : Prop := (sjT s l l.length / 2 ^ x.toNat) &&& 1 = 1
def qSo (s : List Job) (x : Int) (l : List Int) : Prop := ¬ swo s l < bestM s ∧ bit s x l
def qNo (s : List Job) (x : Int) (l : List Int) : Prop := ¬ swo s l < bestM s ∧ ¬ bit s x l
noncomputable abbrev H19 (s : List Job) (x : Int) (L : List (List Int)) : Heap := [.box 24 (cS s) false, .box 3 [.int .i64 x] true, .box 65 (cS s) false, .box 3 [.int .i64 (bestM s)] false, .box 3 [.int .i64 (cP (qSo s x) L)] false, .box 3 [.int .i64 (cP (qNo s x) L)] false]
noncomputable def mustV (s : List Job) (x : Int) : Int := if cP (qNo s x) (ords s) = 0 then 1 else if cP (qSo s x) (ords s) = 0 then 2 else 3
noncomputable def rMust (s : List Job) (x : Int) : Int × Int := if opn s (within x 0 (s.length - 1)) = 0 then (mustV s x, 0) else (0, opn s (within x 0 (s.length - 1)))
set_option maxHeartbeats 2000000 in
theorem c19 (s : List Job) (x : Int) : PC Try.prog 19 [hS s, .int .i64 x] (.tup [.int .i64 (rMust s x).1, .int .i64 (rMust s x).2]) := by
  have h65 := c65c s x 66 (within x 0 (s.length - 1)) (c66 s x).dec
  by_cases h0 : opn s (within x 0 (s.length - 1)) = 0
  · obtain ⟨hv, hw⟩ := (show _ ∧ _ from by rw [← opn0]; exact h0)
    have h6 := hv.1
    have hw' := hw
    unfold within at hw'
    have h68 := c68 s hv
    change PC Try.prog 68 [hS s] (.tup [.int .i64 (bestM s), lN (bstS (swo s) (ords s)).2]) at h68
    rw [show rMust s x = (mustV s x, 0) from by rw [rMust, if_pos h0]]
    unfold mustV
    refine PC.body Try.func19 (by kernel_rfl) rfl (by simp [Try.f19]) rfl ?_
    simp only [Try.f19]
    intro hlen
    simp only [go_sem, List.length_map, and_true, true_and] at hlen
    refine CV.run ?_
    (repeat' (first | ((first | with_reducible refine vcG_split ?_ ?_ | with_reducible refine vcIf_split ?_ ?_ | with_reducible refine vcQ_split ?_ ?_ | with_reducible refine vcDG_split ?_ ?_) <;> intro hb <;> (try rw [hb]) <;> (try simp only [Bool.and_eq_true, Bool.or_eq_true, dtrue, dfalse, Bool.not_eq_true', Bool.not_eq_false', Bool.and_eq_false_iff, Bool.or_eq_false_iff, Bool.not_true, Bool.not_false] at hb) <;> (try simp only [within] at hb) <;> try (simp only [go_sem, h0])) | refine And.intro (by (first | exact trivial | (simp only [I64]; omega) | omega)) ?_ | (first | refine vcP_bub 1 rfl (by (simp only [go_sem, h0])) (vcP_pure (h65) rfl (by first | rfl | (simp only [go_sem, h0, AV.pureL, AV.pure, Bool.and_self, false_and, if_false])) (by (simp only [go_sem, h0, false_and, if_false])) ?_) | (refine vcP_pure (h68) rfl ?_ ?_ ?_; (focus (first | rfl | ((simp only [go_sem, h0, AV.pureL, AV.pure, pureL_mapI, Bool.and_self]) <;> fail))); (focus (first | ((simp only [go_sem, h0]) <;> fail) | rfl))) | (refine dCallP_pure (h68) rfl ?_ ?_ ?_; (focus (first | rfl | ((simp only [go_sem, h0, AV.pureL, AV.pure, pureL_mapI, Bool.and_self]) <;> fail))); (focus (first | ((simp only [go_sem, h0]) <;> fail) | rfl))) | (refine dCallC_pure (h68) rfl ?_ ?_ ?_; (focus (first | rfl | ((simp only [go_sem, h0, AV.pureL, AV.pure, pureL_mapI, Bool.and_self]) <;> fail))); (focus (first | ((simp only [go_sem, h0]) <;> fail) | rfl))) | refine dCallC_safe (h68) rfl rfl (by (simp only [go_sem, h0])) ?_ | refine vcP_safe (h68) rfl rfl (by (simp only [go_sem, h0])) ?_ | refine dCallP_safe (h68) rfl rfl ?_) | (simp only [go_sem, h0])))
    rw [vc_range_eq]
    refine CV.wn (st' := ⟨[(31, .bf 69 [hS s]), (3, .lp 1 0), (4, .int .i64 0), (5, .int .i64 0), (6, .lp 2 0), (8, .lp 3 0), (10, .lp 4 0), (11, .lp 5 0)], H19 s x []⟩) (.base (by (first | exact wk_same (by (simp only [go_sem, Int.natCast_add, Int.natCast_one, Int.natCast_zero, Int.cast_ofNat_Int, cP_nil])) | exact wk_drop (by (simp only [go_sem, Int.natCast_add, Int.natCast_one, Int.natCast_zero, Int.cast_ofNat_Int, cP_nil])) (by (simp only [go_sem, Int.natCast_add, Int.natCast_one, Int.natCast_zero, Int.cast_ofNat_Int, cP_nil])) (by (simp only [go_sem, Int.natCast_add, Int.natCast_one, Int.natCast_zero, Int.cast_ofNat_Int, cP_nil])) (by (simp only [go_sem, Int.natCast_add, Int.natCast_one, Int.natCast_zero, Int.cast_ofNat_Int, cP_nil])) (by (simp only [go_sem, Int.natCast_add, Int.natCast_one, Int.natCast_zero, Int.cast_ofNat_Int, cP_nil]))))) ?_
    refine CV.rangePB rfl (by (simp only [go_sem])) (H19 s x (ords s)) rfl (by (simp only [go_sem])) (by (simp only [go_sem])) (fun l => ?_) ?_
    · refine h69 s (by omega) (H19 s x) 6 (fun _ => rfl) (fun L n => by (simp only [go_sem, belowH, belowB, belowL, belowV])) (fun L b n v => by (simp only [go_sem])) l _ _ _ _ _ (fun i => by (simp only [go_sem, belowE, belowV, belowL, decide_eq_true_eq]); exact eq_true (by omega)) (fun b n v => by (simp only [go_sem])) (fun L pre own hp hpl hLl => ?_)
      refine HCY.body (by omega) rfl (by (simp only [go_sem])) (by (simp only [go_sem])) rfl ?_
      have h70 := c70 s hv pre hp (by omega)
      change PC Try.prog 70 [hS s, lN pre] (.tup [.int .i64 (swo s pre), .int .i64 (sjT s pre pre.length : Nat), .int .i64 (snT s pre pre.length)]) at h70
      have b3 := sjT_lt hv hp pre.length (Nat.le_refl _)
      have hol := ords_len h6
      obtain ⟨w, hw1⟩ : ∃ w, w = sjT s pre pre.length / 2 ^ x.toNat := ⟨_, rfl⟩
      have hdv : (sjT s pre pre.length : Int) / 2 ^ x.toNat = (w : Int) := by rw [hw1]; simp
      have hdl : w ≤ sjT s pre pre.length := by rw [hw1]; exact Nat.div_le_self _ _
      have bn := cP_bounds (q := qSo s x) (L := L)
      have bn2 := cP_bounds (q := qNo s x) (L := L)
      by_cases c1 : swo s pre < bestM s
      · have e1 := cP_no (q := qSo s x) (L := L) (x := pre) fun h => h.1 c1
        have e2 := cP_no (q := qNo s x) (L := L) (x := pre) fun h => h.1 c1
        (repeat' (first | ((first | with_reducible refine vcG_split ?_ ?_ | with_reducible refine vcIf_split ?_ ?_ | with_reducible refine vcQ_split ?_ ?_ | with_reducible refine vcDG_split ?_ ?_) <;> intro hb <;> (try rw [hb]) <;> (try simp only [Bool.and_eq_true, Bool.or_eq_true, dtrue, dfalse, Bool.not_eq_true', Bool.not_eq_false', Bool.and_eq_false_iff, Bool.or_eq_false_iff, Bool.not_true, Bool.not_false] at hb) <;> (try simp only [within] at hb) <;> try (simp only [go_sem, c1])) | refine And.intro (by (first | exact trivial | (simp only [I64]; omega) | omega)) ?_ | (first | (refine vcP_pure (h70) rfl ?_ ?_ ?_; (focus (first | rfl | ((simp only [go_sem, c1, AV.pureL, AV.pure, pureL_mapI, Bool.and_self]) <;> fail))); (focus (first | ((simp only [go_sem, c1]) <;> fail) | rfl))) | (refine dCallP_pure (h70) rfl ?_ ?_ ?_; (focus (first | rfl | ((simp only [go_sem, c1, AV.pureL, AV.pure, pureL_mapI, Bool.and_self]) <;> fail))); (focus (first | ((simp only [go_sem, c1]) <;> fail) | rfl))) | (refine dCallC_pure (h70) rfl ?_ ?_ ?_; (focus (first | rfl | ((simp only [go_sem, c1, AV.pureL, AV.pure, pureL_mapI, Bool.and_self]) <;> fail))); (focus (first | ((simp only [go_sem, c1]) <;> fail) | rfl))) | refine dCallC_safe (h70) rfl rfl (by (simp only [go_sem, c1])) ?_ | refine vcP_safe (h70) rfl rfl (by (simp only [go_sem, c1])) ?_ | refine dCallP_safe (h70) rfl rfl ?_) | (simp only [go_sem, c1])))
        exact .base (by (first | exact wk_same (by (simp only [go_sem, Int.natCast_add, Int.natCast_one, Int.natCast_zero, Int.cast_ofNat_Int, e1, e2])) | exact wk_drop (by (simp only [go_sem, Int.natCast_add, Int.natCast_one, Int.natCast_zero, Int.cast_ofNat_Int, e1, e2])) (by (simp only [go_sem, Int.natCast_add, Int.natCast_one, Int.natCast_zero, Int.cast_ofNat_Int, e1, e2])) (by (simp only [go_sem, Int.natCast_add, Int.natCast_one, Int.natCast_zero, Int.cast_ofNat_Int, e1, e2])) (by (simp only [go_sem, Int.natCast_add, Int.natCast_one, Int.natCast_zero, Int.cast_ofNat_Int, e1, e2])) (by (simp only [go_sem, Int.natCast_add, Int.natCast_one, Int.natCast_zero, Int.cast_ofNat_Int, e1, e2]))))
      · by_cases c2 : bit s x pre
        · have e1 := cP_yes (q := qSo s x) (L := L) (x := pre) ⟨c1, c2⟩
          have e2 := cP_no (q := qNo s x) (L := L) (x := pre) fun h => h.2 c2
          have hb1 : (((w &&& 1 : Nat) : Int) = 1) = True := eq_true (by unfold bit at c2; rw [← hw1] at c2; omega)
          (repeat' (first | ((first | with_reducible refine vcG_split ?_ ?_ | with_reducible refine vcIf_split ?_ ?_ | with_reducible refine vcQ_split ?_ ?_ | with_reducible refine vcDG_split ?_ ?_) <;> intro hb <;> (try rw [hb]) <;> (try simp only [Bool.and_eq_true, Bool.or_eq_true, dtrue, dfalse, Bool.not_eq_true', Bool.not_eq_false', Bool.and_eq_false_iff, Bool.or_eq_false_iff, Bool.not_true, Bool.not_false] at hb) <;> (try simp only [within] at hb) <;> try (simp only [go_sem, c1, hdv, hb1, Int.toNat_natCast])) | refine And.intro (by (first | exact trivial | (simp only [I64]; omega) | omega)) ?_ | (first | (refine vcP_pure (h70) rfl ?_ ?_ ?_; (focus (first | rfl | ((simp only [go_sem, c1, hdv, hb1, Int.toNat_natCast, AV.pureL, AV.pure, pureL_mapI, Bool.and_self]) <;> fail))); (focus (first | ((simp only [go_sem, c1, hdv, hb1, Int.toNat_natCast]) <;> fail) | rfl))) | (refine dCallP_pure (h70) rfl ?_ ?_ ?_; (focus (first | rfl | ((simp only [go_sem, c1, hdv, hb1, Int.toNat_natCast, AV.pureL, AV.pure, pureL_mapI, Bool.and_self]) <;> fail))); (focus (first | ((simp only [go_sem, c1, hdv, hb1, Int.toNat_natCast]) <;> fail) | rfl))) | (refine dCallC_pure (h70) rfl ?_ ?_ ?_; (focus (first | rfl | ((simp only [go_sem, c1, hdv, hb1, Int.toNat_natCast, AV.pureL, AV.pure, pureL_mapI, Bool.and_self]) <;> fail))); (focus (first | ((simp only [go_sem, c1, hdv, hb1, Int.toNat_natCast]) <;> fail) | rfl))) | refine dCallC_safe (h70) rfl rfl (by (simp only [go_sem, c1, hdv, hb1, Int.toNat_natCast])) ?_ | refine vcP_safe (h70) rfl rfl (by (simp only [go_sem, c1, hdv, hb1, Int.toNat_natCast])) ?_ | refine dCallP_safe (h70) rfl rfl ?_) | (simp only [go_sem, c1, hdv, hb1, Int.toNat_natCast])))
          exact .base (by (first | exact wk_same (by (simp only [go_sem, Int.natCast_add, Int.natCast_one, Int.natCast_zero, Int.cast_ofNat_Int, e1, e2])) | exact wk_drop (by (simp only [go_sem, Int.natCast_add, Int.natCast_one, Int.natCast_zero, Int.cast_ofNat_Int, e1, e2])) (by (simp only [go_sem, Int.natCast_add, Int.natCast_one, Int.natCast_zero, Int.cast_ofNat_Int, e1, e2])) (by (simp only [go_sem, Int.natCast_add, Int.natCast_one, Int.natCast_zero, Int.cast_ofNat_Int, e1, e2])) (by (simp only [go_sem, Int.natCast_add, Int.natCast_one, Int.natCast_zero, Int.cast_ofNat_Int, e1, e2])) (by (simp only [go_sem, Int.natCast_add, Int.natCast_one, Int.natCast_zero, Int.cast_ofNat_Int, e1, e2]))))
        · have e1 := cP_no (q := qSo s x) (L := L) (x := pre) fun h => c2 h.2
          have e2 := cP_yes (q := qNo s x) (L := L) (x := pre) ⟨c1, c2⟩
          have hb1 : (((w &&& 1 : Nat) : Int) = 1) = False := eq_false (by unfold bit at c2; rw [← hw1] at c2; omega)
          (repeat' (first | ((first | with_reducible refine vcG_split ?_ ?_ | with_reducible refine vcIf_split ?_ ?_ | with_reducible refine vcQ_split ?_ ?_ | with_reducible refine vcDG_split ?_ ?_) <;> intro hb <;> (try rw [hb]) <;> (try simp only [Bool.and_eq_true, Bool.or_eq_true, dtrue, dfalse, Bool.not_eq_true', Bool.not_eq_false', Bool.and_eq_false_iff, Bool.or_eq_false_iff, Bool.not_true, Bool.not_false] at hb) <;> (try simp only [within] at hb) <;> try (simp only [go_sem, c1, hdv, hb1, Int.toNat_natCast])) | refine And.intro (by (first | exact trivial | (simp only [I64]; omega) | omega)) ?_ | (first | (refine vcP_pure (h70) rfl ?_ ?_ ?_; (focus (first | rfl | ((simp only [go_sem, c1, hdv, hb1, Int.toNat_natCast, AV.pureL, AV.pure, pureL_mapI, Bool.and_self]) <;> fail))); (focus (first | ((simp only [go_sem, c1, hdv, hb1, Int.toNat_natCast]) <;> fail) | rfl))) | (refine dCallP_pure (h70) rfl ?_ ?_ ?_; (focus (first | rfl | ((simp only [go_sem, c1, hdv, hb1, Int.toNat_natCast, AV.pureL, AV.pure, pureL_mapI, Bool.and_self]) <;> fail))); (focus (first | ((simp only [go_sem, c1, hdv, hb1, Int.toNat_natCast]) <;> fail) | rfl))) | (refine dCallC_pure (h70) rfl ?_ ?_ ?_; (focus (first | rfl | ((simp only [go_sem, c1, hdv, hb1, Int.toNat_natCast, AV.pureL, AV.pure, pureL_mapI, Bool.and_self]) <;> fail))); (focus (first | ((simp only [go_sem, c1, hdv, hb1, Int.toNat_natCast]) <;> fail) | rfl))) | refine dCallC_safe (h70) rfl rfl (by (simp only [go_sem, c1, hdv, hb1, Int.toNat_natCast])) ?_ | refine vcP_safe (h70) rfl rfl (by (simp only [go_sem, c1, hdv, hb1, Int.toNat_natCast])) ?_ | refine dCallP_safe (h70) rfl rfl ?_) | (simp only [go_sem, c1, hdv, hb1, Int.toNat_natCast])))
          exact .base (by (first | exact wk_same (by (simp only [go_sem, Int.natCast_add, Int.natCast_one, Int.natCast_zero, Int.cast_ofNat_Int, e1, e2])) | exact wk_drop (by (simp only [go_sem, Int.natCast_add, Int.natCast_one, Int.natCast_zero, Int.cast_ofNat_Int, e1, e2])) (by (simp only [go_sem, Int.natCast_add, Int.natCast_one, Int.natCast_zero, Int.cast_ofNat_Int, e1, e2])) (by (simp only [go_sem, Int.natCast_add, Int.natCast_one, Int.natCast_zero, Int.cast_ofNat_Int, e1, e2])) (by (simp only [go_sem, Int.natCast_add, Int.natCast_one, Int.natCast_zero, Int.cast_ofNat_Int, e1, e2])) (by (simp only [go_sem, Int.natCast_add, Int.natCast_one, Int.natCast_zero, Int.cast_ofNat_Int, e1, e2]))))
    · (repeat' (first | ((first | with_reducible refine vcG_split ?_ ?_ | with_reducible refine vcIf_split ?_ ?_ | with_reducible refine vcQ_split ?_ ?_ | with_reducible refine vcDG_split ?_ ?_) <;> intro hb <;> (try rw [hb]) <;> (try simp only [Bool.and_eq_true, Bool.or_eq_true, dtrue, dfalse, Bool.not_eq_true', Bool.not_eq_false', Bool.and_eq_false_iff, Bool.or_eq_false_iff, Bool.not_true, Bool.not_false] at hb) <;> (try simp only [within] at hb) <;> try (simp only [go_sem])) | refine And.intro (by (first | exact trivial | (simp only [I64]; omega) | omega)) ?_ | fail | (simp only [go_sem])))
      all_goals simp_all
  · rw [show rMust s x = (0, opn s (within x 0 (s.length - 1))) from by rw [rMust, if_neg h0]]
    refine PC.body Try.func19 (by kernel_rfl) rfl (by simp [Try.f19]) rfl ?_
    simp only [Try.f19]
    intro hlen
    simp only [go_sem, List.length_map, and_true, true_and] at hlen
    refine CV.run ?_
    (repeat' (first | ((first | with_reducible refine vcG_split ?_ ?_ | with_reducible refine vcIf_split ?_ ?_ | with_reducible refine vcQ_split ?_ ?_ | with_reducible refine vcDG_split ?_ ?_) <;> intro hb <;> (try rw [hb]) <;> (try simp only [Bool.and_eq_true, Bool.or_eq_true, dtrue, dfalse, Bool.not_eq_true', Bool.not_eq_false', Bool.and_eq_false_iff, Bool.or_eq_false_iff, Bool.not_true, Bool.not_false] at hb) <;> (try simp only [within] at hb) <;> try (simp only [go_sem, h0])) | refine And.intro (by (first | exact trivial | (simp only [I64]; omega) | omega)) ?_ | (first | refine vcP_bub 1 rfl (by (simp only [go_sem, h0])) (vcP_pure (h65) rfl (by first | rfl | (simp only [go_sem, h0, AV.pureL, AV.pure, Bool.and_self, false_and, if_false])) (by (simp only [go_sem, h0, false_and, if_false])) ?_)) | (simp only [go_sem, h0])))
end Go.Proofs.Ytjjlcjibhjmhmaa

