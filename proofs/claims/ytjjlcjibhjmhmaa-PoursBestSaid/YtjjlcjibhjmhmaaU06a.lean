/- Contracts of functions of the given program, without a condition beyond those that each theorem states; they lead to the given statement. -/
import Derived.Test.YtjjlcjibhjmhmaaU05z
set_option linter.unusedSimpArgs false
set_option linter.unusedVariables false
set_option maxRecDepth 100000
namespace Go.Proofs.Ytjjlcjibhjmhmaa
open Go Go.Fl
open Classical
set_option maxHeartbeats 2000000 in
theorem c31 (s : List Job) (x h : Int) (hl : s.length ≤ 1000000) (hw : within x 0 (s.length - 1)) : PC Try.prog 31 [hS s, .int .i64 x, .int .i64 h] (hS (drs s x h)) := by
  have hjb := jb_at hw
  have hw' := hw
  unfold within at hw'
  have hx0 : x < s.length := by omega
  have hset := setJ (m := s) (i := x.toNat) (j := upH (jb s x) h)
  rw [show s.set x.toNat (upH (jb s x) h) = drs s x h from rfl] at hset
  simp only [encJ, upH] at hset
  refine PC.body Try.func31 (by kernel_rfl) rfl (by simp [Try.f31]) rfl ?_
  simp only [Try.f31]
  intro hlen
  simp only [go_sem, List.length_map, and_true, true_and] at hlen
  refine CV.run ?_
  (repeat' (first | ((first | with_reducible refine vcG_split ?_ ?_ | with_reducible refine vcIf_split ?_ ?_ | with_reducible refine vcQ_split ?_ ?_ | with_reducible refine vcDG_split ?_ ?_) <;> intro hb <;> (try rw [hb]) <;> (try simp only [Bool.and_eq_true, Bool.or_eq_true, dtrue, dfalse, Bool.not_eq_true', Bool.not_eq_false', Bool.and_eq_false_iff, Bool.or_eq_false_iff, Bool.not_true, Bool.not_false] at hb) <;> (try simp only [within] at hb) <;> try (simp only [go_sem])) | refine And.intro (by (first | exact trivial | (simp only [I64]; omega) | omega)) ?_ | fail | (simp only [go_sem])))
  refine vcP_new (h18 s (by omega)) rfl ?_
  (repeat' (first | ((first | with_reducible refine vcG_split ?_ ?_ | with_reducible refine vcIf_split ?_ ?_ | with_reducible refine vcQ_split ?_ ?_ | with_reducible refine vcDG_split ?_ ?_) <;> intro hb <;> (try rw [hb]) <;> (try simp only [Bool.and_eq_true, Bool.or_eq_true, dtrue, dfalse, Bool.not_eq_true', Bool.not_eq_false', Bool.and_eq_false_iff, Bool.or_eq_false_iff, Bool.not_true, Bool.not_false] at hb) <;> (try simp only [within] at hb) <;> try (simp only [go_sem, List.map_cons, List.map_nil, List.cons_append, List.nil_append, hjb, hx0, hset, encJ, List.length_map, List.length_set])) | refine And.intro (by (first | exact trivial | (simp only [I64]; omega) | omega)) ?_ | fail | (simp only [go_sem, List.map_cons, List.map_nil, List.cons_append, List.nil_append, hjb, hx0, hset, encJ, List.length_map, List.length_set])))
  all_goals first
    | omega
    | exact drs_len
theorem waitT_is {s : List Job} {x : Int} {h : Nat} (h1 : bestM s ≤ bestM (drs s x (h : Int))) (h2 : ∀ k : Nat, h < k → k ≤ 9 → bestM (drs s x (k : Int)) < bestM s) : ∀ k : Nat, h ≤ k → k ≤ 9 → waitT s x k = h
  | 0, hk, _ => by
    have : h = 0 := by omega
    subst this; rfl
  | k + 1, hk, h9 => by
    simp only [waitT]
    rcases Nat.lt_or_ge h (k + 1) with q | q
    · have := h2 (k + 1) q h9
      rw [if_neg (by omega)]
      exact waitT_is h1 h2 k (by omega) (by omega)
    · have : h = k + 1 := by omega
      subst this
      rw [if_pos h1]
theorem wait_stop {s : List Job} (hv : valid s) {x : Int} (hw : within x 0 (s.length - 1)) {h : Int} (l1 : (jb s x).high ≤ h) (l2 : h ≤ 9) (h1 : bestM s ≤ bestM (drs s x h)) (h2 : h < 9 → bestM (drs s x (h + 1)) < bestM s) : waitT s x 9 = h := by
  have hj := hv.jb hw
  unfold okJob within at hj
  obtain ⟨n, rfl⟩ : ∃ n : Nat, h = n := ⟨h.toNat, by omega⟩
  refine waitT_is h1 (fun k hk h9 => ?_) 9 (by omega) (by omega)
  have := h2 (by omega)
  have := drs_best hv (h1 := (n : Int) + 1) (h2 := (k : Int)) hw (by omega) (by omega) (by omega)
  omega
set_option maxHeartbeats 2000000 in
theorem c22 (s : List Job) (x : Int) (hl : s.length ≤ 1000000) : PC Try.prog 22 [hS s, .int .i64 x] (.tup [.int .i64 (rWait s x).1, .int .i64 (rWait s x).2]) := by
  have h25 := c25 s x
  by_cases hv : valid s
  · have hc := check_yes hv
    by_cases hw : within x 0 (s.length - 1)
    · rw [decide_eq_true hw] at h25
      have e0 : opn s (within x 0 (s.length - 1)) = 0 := opn_is hv hw
      have h49 := c49 s
      rw [hc, if_pos rfl] at h49
      have hjb := jb_at hw
      have hj := hv.jb hw
      unfold okJob within at hj
      have hw' := hw
      unfold within at hw'
      have hx0 : x < s.length := by omega
      rw [show rWait s x = (waitT s x 9, 0) from by rw [rWait, if_pos e0]]
      refine PC.body Try.func22 (by kernel_rfl) rfl (by simp [Try.f22]) rfl ?_
      simp only [Try.f22]
      intro hlen
      simp only [go_sem, List.length_map, and_true, true_and] at hlen
      refine CV.run ?_
      (repeat' (first | ((first | with_reducible refine vcG_split ?_ ?_ | with_reducible refine vcIf_split ?_ ?_ | with_reducible refine vcQ_split ?_ ?_ | with_reducible refine vcDG_split ?_ ?_) <;> intro hb <;> (try rw [hb]) <;> (try simp only [Bool.and_eq_true, Bool.or_eq_true, dtrue, dfalse, Bool.not_eq_true', Bool.not_eq_false', Bool.and_eq_false_iff, Bool.or_eq_false_iff, Bool.not_true, Bool.not_false] at hb) <;> (try simp only [within] at hb) <;> try (simp only [go_sem, hc, hjb, hx0, encJ])) | refine And.intro (by (first | exact trivial | (simp only [I64]; omega) | omega)) ?_ | (first | (refine vcP_pure (c42 _) rfl ?_ ?_ ?_; (focus (first | rfl | ((simp only [go_sem, hc, hjb, hx0, encJ, AV.pureL, AV.pure, pureL_mapI, Bool.and_self]) <;> fail))); (focus (first | ((simp only [go_sem, hc, hjb, hx0, encJ]) <;> fail) | rfl))) | (refine dCallP_pure (c42 _) rfl ?_ ?_ ?_; (focus (first | rfl | ((simp only [go_sem, hc, hjb, hx0, encJ, AV.pureL, AV.pure, pureL_mapI, Bool.and_self]) <;> fail))); (focus (first | ((simp only [go_sem, hc, hjb, hx0, encJ]) <;> fail) | rfl))) | (refine dCallC_pure (c42 _) rfl ?_ ?_ ?_; (focus (first | rfl | ((simp only [go_sem, hc, hjb, hx0, encJ, AV.pureL, AV.pure, pureL_mapI, Bool.and_self]) <;> fail))); (focus (first | ((simp only [go_sem, hc, hjb, hx0, encJ]) <;> fail) | rfl))) | refine dCallC_safe (c42 _) rfl rfl (by (simp only [go_sem, hc, hjb, hx0, encJ])) ?_ | refine vcP_safe (c42 _) rfl rfl (by (simp only [go_sem, hc, hjb, hx0, encJ])) ?_ | refine dCallP_safe (c42 _) rfl rfl ?_ | (refine vcP_pure (h25) rfl ?_ ?_ ?_; (focus (first | rfl | ((simp only [go_sem, hc, hjb, hx0, encJ, AV.pureL, AV.pure, pureL_mapI, Bool.and_self]) <;> fail))); (focus (first | ((simp only [go_sem, hc, hjb, hx0, encJ]) <;> fail) | rfl))) | (refine dCallP_pure (h25) rfl ?_ ?_ ?_; (focus (first | rfl | ((simp only [go_sem, hc, hjb, hx0, encJ, AV.pureL, AV.pure, pureL_mapI, Bool.and_self]) <;> fail))); (focus (first | ((simp only [go_sem, hc, hjb, hx0, encJ]) <;> fail) | rfl))) | (refine dCallC_pure (h25) rfl ?_ ?_ ?_; (focus (first | rfl | ((simp only [go_sem, hc, hjb, hx0, encJ, AV.pureL, AV.pure, pureL_mapI, Bool.and_self]) <;> fail))); (focus (first | ((simp only [go_sem, hc, hjb, hx0, encJ]) <;> fail) | rfl))) | refine dCallC_safe (h25) rfl rfl (by (simp only [go_sem, hc, hjb, hx0, encJ])) ?_ | refine vcP_safe (h25) rfl rfl (by (simp only [go_sem, hc, hjb, hx0, encJ])) ?_ | refine dCallP_safe (h25) rfl rfl ?_ | (refine vcP_pure (h49) rfl ?_ ?_ ?_; (focus (first | rfl | ((simp only [go_sem, hc, hjb, hx0, encJ, AV.pureL, AV.pure, pureL_mapI, Bool.and_self]) <;> fail))); (focus (first | ((simp only [go_sem, hc, hjb, hx0, encJ]) <;> fail) | rfl))) | (refine dCallP_pure (h49) rfl ?_ ?_ ?_; (focus (first | rfl | ((simp only [go_sem, hc, hjb, hx0, encJ, AV.pureL, AV.pure, pureL_mapI, Bool.and_self]) <;> fail))); (focus (first | ((simp only [go_sem, hc, hjb, hx0, encJ]) <;> fail) | rfl))) | (refine dCallC_pure (h49) rfl ?_ ?_ ?_; (focus (first | rfl | ((simp only [go_sem, hc, hjb, hx0, encJ, AV.pureL, AV.pure, pureL_mapI, Bool.and_self]) <;> fail))); (focus (first | ((simp only [go_sem, hc, hjb, hx0, encJ]) <;> fail) | rfl))) | refine dCallC_safe (h49) rfl rfl (by (simp only [go_sem, hc, hjb, hx0, encJ])) ?_ | refine vcP_safe (h49) rfl rfl (by (simp only [go_sem, hc, hjb, hx0, encJ])) ?_ | refine dCallP_safe (h49) rfl rfl ?_) | (simp only [go_sem, hc, hjb, hx0, encJ])))
      all_goals first
        | omega
        | skip
      refine vc_for (fun k => ⟨[(9, .int .i64 ((jb s x).high + k)), (7, .int .i64 (bestM s)), (2, .lp 0 0), (1, .int .i64 x), (4, .int .i64 0), (5, .int .i64 0)], [.box 24 (cS s) false]⟩) (9 - (jb s x).high).toNat (fun k => bestM s ≤ bestM (drs s x ((jb s x).high + k))) (by (first | exact wk_same (by (simp only [go_sem, Int.natCast_add, Int.natCast_one, Int.natCast_zero, Int.cast_ofNat_Int, Int.add_zero])) | exact wk_drop (by (simp only [go_sem, Int.natCast_add, Int.natCast_one, Int.natCast_zero, Int.cast_ofNat_Int, Int.add_zero])) (by (simp only [go_sem, Int.natCast_add, Int.natCast_one, Int.natCast_zero, Int.cast_ofNat_Int, Int.add_zero])) (by (simp only [go_sem, Int.natCast_add, Int.natCast_one, Int.natCast_zero, Int.cast_ofNat_Int, Int.add_zero])) (by (simp only [go_sem, Int.natCast_add, Int.natCast_one, Int.natCast_zero, Int.cast_ofNat_Int, Int.add_zero])) (by (simp only [go_sem, Int.natCast_add, Int.natCast_one, Int.natCast_zero, Int.cast_ofNat_Int, Int.add_zero])))) (by simp only [Int.natCast_zero, Int.add_zero]; rw [drs_self hw]; exact Int.le_refl _) ?_
      intro k hk hx
      rcases Int.lt_or_le ((jb s x).high + k) 9 with h9 | h9
      · have h31 := c31 s x ((jb s x).high + k + 1) hl hw
        have hvd := drs_valid hv (h := (jb s x).high + k + 1) hw (by omega)
        have h49d := c49 (drs s x ((jb s x).high + k + 1))
        rw [check_yes hvd, if_pos rfl] at h49d
        by_cases c : bestM (drs s x ((jb s x).high + k + 1)) < bestM s
        · have hwt := wait_stop hv hw (h := (jb s x).high + k) (by omega) (by omega) hx fun _ => c
          rw [hwt]
          (repeat' (first | ((first | with_reducible refine vcG_split ?_ ?_ | with_reducible refine vcIf_split ?_ ?_ | with_reducible refine vcQ_split ?_ ?_ | with_reducible refine vcDG_split ?_ ?_) <;> intro hb <;> (try rw [hb]) <;> (try simp only [Bool.and_eq_true, Bool.or_eq_true, dtrue, dfalse, Bool.not_eq_true', Bool.not_eq_false', Bool.and_eq_false_iff, Bool.or_eq_false_iff, Bool.not_true, Bool.not_false] at hb) <;> (try simp only [within] at hb) <;> try (simp only [go_sem, h9, c])) | refine And.intro (by (first | exact trivial | (simp only [I64]; omega) | omega)) ?_ | (first | (refine vcP_pure (h31) rfl ?_ ?_ ?_; (focus (first | rfl | ((simp only [go_sem, h9, c, AV.pureL, AV.pure, pureL_mapI, Bool.and_self]) <;> fail))); (focus (first | ((simp only [go_sem, h9, c]) <;> fail) | rfl))) | (refine dCallP_pure (h31) rfl ?_ ?_ ?_; (focus (first | rfl | ((simp only [go_sem, h9, c, AV.pureL, AV.pure, pureL_mapI, Bool.and_self]) <;> fail))); (focus (first | ((simp only [go_sem, h9, c]) <;> fail) | rfl))) | (refine dCallC_pure (h31) rfl ?_ ?_ ?_; (focus (first | rfl | ((simp only [go_sem, h9, c, AV.pureL, AV.pure, pureL_mapI, Bool.and_self]) <;> fail))); (focus (first | ((simp only [go_sem, h9, c]) <;> fail) | rfl))) | refine dCallC_safe (h31) rfl rfl (by (simp only [go_sem, h9, c])) ?_ | refine vcP_safe (h31) rfl rfl (by (simp only [go_sem, h9, c])) ?_ | refine dCallP_safe (h31) rfl rfl ?_ | (refine vcP_pure (h49d) rfl ?_ ?_ ?_; (focus (first | rfl | ((simp only [go_sem, h9, c, AV.pureL, AV.pure, pureL_mapI, Bool.and_self]) <;> fail))); (focus (first | ((simp only [go_sem, h9, c]) <;> fail) | rfl))) | (refine dCallP_pure (h49d) rfl ?_ ?_ ?_; (focus (first | rfl | ((simp only [go_sem, h9, c, AV.pureL, AV.pure, pureL_mapI, Bool.and_self]) <;> fail))); (focus (first | ((simp only [go_sem, h9, c]) <;> fail) | rfl))) | (refine dCallC_pure (h49d) rfl ?_ ?_ ?_; (focus (first | rfl | ((simp only [go_sem, h9, c, AV.pureL, AV.pure, pureL_mapI, Bool.and_self]) <;> fail))); (focus (first | ((simp only [go_sem, h9, c]) <;> fail) | rfl))) | refine dCallC_safe (h49d) rfl rfl (by (simp only [go_sem, h9, c])) ?_ | refine vcP_safe (h49d) rfl rfl (by (simp only [go_sem, h9, c])) ?_ | refine dCallP_safe (h49d) rfl rfl ?_) | (simp only [go_sem, h9, c])))
        · (repeat' (first | ((first | with_reducible refine vcG_split ?_ ?_ | with_reducible refine vcIf_split ?_ ?_ | with_reducible refine vcQ_split ?_ ?_ | with_reducible refine vcDG_split ?_ ?_) <;> intro hb <;> (try rw [hb]) <;> (try simp only [Bool.and_eq_true, Bool.or_eq_true, dtrue, dfalse, Bool.not_eq_true', Bool.not_eq_false', Bool.and_eq_false_iff, Bool.or_eq_false_iff, Bool.not_true, Bool.not_false] at hb) <;> (try simp only [within] at hb) <;> try (simp only [go_sem, h9, c])) | refine And.intro (by (first | exact trivial | (simp only [I64]; omega) | omega)) ?_ | (first | (refine vcP_pure (h31) rfl ?_ ?_ ?_; (focus (first | rfl | ((simp only [go_sem, h9, c, AV.pureL, AV.pure, pureL_mapI, Bool.and_self]) <;> fail))); (focus (first | ((simp only [go_sem, h9, c]) <;> fail) | rfl))) | (refine dCallP_pure (h31) rfl ?_ ?_ ?_; (focus (first | rfl | ((simp only [go_sem, h9, c, AV.pureL, AV.pure, pureL_mapI, Bool.and_self]) <;> fail))); (focus (first | ((simp only [go_sem, h9, c]) <;> fail) | rfl))) | (refine dCallC_pure (h31) rfl ?_ ?_ ?_; (focus (first | rfl | ((simp only [go_sem, h9, c, AV.pureL, AV.pure, pureL_mapI, Bool.and_self]) <;> fail))); (focus (first | ((simp only [go_sem, h9, c]) <;> fail) | rfl))) | refine dCallC_safe (h31) rfl rfl (by (simp only [go_sem, h9, c])) ?_ | refine vcP_safe (h31) rfl rfl (by (simp only [go_sem, h9, c])) ?_ | refine dCallP_safe (h31) rfl rfl ?_ | (refine vcP_pure (h49d) rfl ?_ ?_ ?_; (focus (first | rfl | ((simp only [go_sem, h9, c, AV.pureL, AV.pure, pureL_mapI, Bool.and_self]) <;> fail))); (focus (first | ((simp only [go_sem, h9, c]) <;> fail) | rfl))) | (refine dCallP_pure (h49d) rfl ?_ ?_ ?_; (focus (first | rfl | ((simp only [go_sem, h9, c, AV.pureL, AV.pure, pureL_mapI, Bool.and_self]) <;> fail))); (focus (first | ((simp only [go_sem, h9, c]) <;> fail) | rfl))) | (refine dCallC_pure (h49d) rfl ?_ ?_ ?_; (focus (first | rfl | ((simp only [go_sem, h9, c, AV.pureL, AV.pure, pureL_mapI, Bool.and_self]) <;> fail))); (focus (first | ((simp only [go_sem, h9, c]) <;> fail) | rfl))) | refine dCallC_safe (h49d) rfl rfl (by (simp only [go_sem, h9, c])) ?_ | refine vcP_safe (h49d) rfl rfl (by (simp only [go_sem, h9, c])) ?_ | refine dCallP_safe (h49d) rfl rfl ?_) | (simp only [go_sem, h9, c])))
          refine ⟨by (first | exact wk_same (by (simp only [go_sem, Int.natCast_add, Int.natCast_one, Int.natCast_zero, Int.cast_ofNat_Int, Int.add_assoc])) | exact wk_drop (by (simp only [go_sem, Int.natCast_add, Int.natCast_one, Int.natCast_zero, Int.cast_ofNat_Int, Int.add_assoc])) (by (simp only [go_sem, Int.natCast_add, Int.natCast_one, Int.natCast_zero, Int.cast_ofNat_Int, Int.add_assoc])) (by (simp only [go_sem, Int.natCast_add, Int.natCast_one, Int.natCast_zero, Int.cast_ofNat_Int, Int.add_assoc])) (by (simp only [go_sem, Int.natCast_add, Int.natCast_one, Int.natCast_zero, Int.cast_ofNat_Int, Int.add_assoc])) (by (simp only [go_sem, Int.natCast_add, Int.natCast_one, Int.natCast_zero, Int.cast_ofNat_Int, Int.add_assoc]))), ?_⟩
          simp only [Int.natCast_add, Int.natCast_one, ← Int.add_assoc]
          omega
      · have h9' : ¬ (jb s x).high + k < 9 := by omega
        have hwt := wait_stop hv hw (h := (jb s x).high + k) (by omega) (by omega) hx fun h => by omega
        rw [hwt]
        (repeat' (first | ((first | with_reducible refine vcG_split ?_ ?_ | with_reducible refine vcIf_split ?_ ?_ | with_reducible refine vcQ_split ?_ ?_ | with_reducible refine vcDG_split ?_ ?_) <;> intro hb <;> (try rw [hb]) <;> (try simp only [Bool.and_eq_true, Bool.or_eq_true, dtrue, dfalse, Bool.not_eq_true', Bool.not_eq_false', Bool.and_eq_false_iff, Bool.or_eq_false_iff, Bool.not_true, Bool.not_false] at hb) <;> (try simp only [within] at hb) <;> try (simp only [go_sem, h9'])) | refine And.intro (by (first | exact trivial | (simp only [I64]; omega) | omega)) ?_ | fail | (simp only [go_sem, h9'])))
    · rw [decide_eq_false hw] at h25
      have e1 : opn s (within x 0 (s.length - 1)) = 1 := opn_arg hv hw
      rw [show rWait s x = (0, 1) from by rw [rWait, e1, if_neg (by omega)]]
      refine PC.body Try.func22 (by kernel_rfl) rfl (by simp [Try.f22]) rfl ?_
      simp only [Try.f22]
      intro hlen
      simp only [go_sem, List.length_map, and_true, true_and] at hlen
      refine CV.run ?_
      (repeat' (first | ((first | with_reducible refine vcG_split ?_ ?_ | with_reducible refine vcIf_split ?_ ?_ | with_reducible refine vcQ_split ?_ ?_ | with_reducible refine vcDG_split ?_ ?_) <;> intro hb <;> (try rw [hb]) <;> (try simp only [Bool.and_eq_true, Bool.or_eq_true, dtrue, dfalse, Bool.not_eq_true', Bool.not_eq_false', Bool.and_eq_false_iff, Bool.or_eq_false_iff, Bool.not_true, Bool.not_false] at hb) <;> (try simp only [within] at hb) <;> try (simp only [go_sem, hc])) | refine And.intro (by (first | exact trivial | (simp only [I64]; omega) | omega)) ?_ | (first | (refine vcP_pure (c42 _) rfl ?_ ?_ ?_; (focus (first | rfl | ((simp only [go_sem, hc, AV.pureL, AV.pure, pureL_mapI, Bool.and_self]) <;> fail))); (focus (first | ((simp only [go_sem, hc]) <;> fail) | rfl))) | (refine dCallP_pure (c42 _) rfl ?_ ?_ ?_; (focus (first | rfl | ((simp only [go_sem, hc, AV.pureL, AV.pure, pureL_mapI, Bool.and_self]) <;> fail))); (focus (first | ((simp only [go_sem, hc]) <;> fail) | rfl))) | (refine dCallC_pure (c42 _) rfl ?_ ?_ ?_; (focus (first | rfl | ((simp only [go_sem, hc, AV.pureL, AV.pure, pureL_mapI, Bool.and_self]) <;> fail))); (focus (first | ((simp only [go_sem, hc]) <;> fail) | rfl))) | refine dCallC_safe (c42 _) rfl rfl (by (simp only [go_sem, hc])) ?_ | refine vcP_safe (c42 _) rfl rfl (by (simp only [go_sem, hc])) ?_ | refine dCallP_safe (c42 _) rfl rfl ?_ | (refine vcP_pure (h25) rfl ?_ ?_ ?_; (focus (first | rfl | ((simp only [go_sem, hc, AV.pureL, AV.pure, pureL_mapI, Bool.and_self]) <;> fail))); (focus (first | ((simp only [go_sem, hc]) <;> fail) | rfl))) | (refine dCallP_pure (h25) rfl ?_ ?_ ?_; (focus (first | rfl | ((simp only [go_sem, hc, AV.pureL, AV.pure, pureL_mapI, Bool.and_self]) <;> fail))); (focus (first | ((simp only [go_sem, hc]) <;> fail) | rfl))) | (refine dCallC_pure (h25) rfl ?_ ?_ ?_; (focus (first | rfl | ((simp only [go_sem, hc, AV.pureL, AV.pure, pureL_mapI, Bool.and_self]) <;> fail))); (focus (first | ((simp only [go_sem, hc]) <;> fail) | rfl))) | refine dCallC_safe (h25) rfl rfl (by (simp only [go_sem, hc])) ?_ | refine vcP_safe (h25) rfl rfl (by (simp only [go_sem, hc])) ?_ | refine dCallP_safe (h25) rfl rfl ?_) | (simp only [go_sem, hc])))
  · have hc := check_no hv
    have e1 : opn s (within x 0 (s.length - 1)) = 50 := opn_no hv
    rw [show rWait s x = (0, 50) from by rw [rWait, e1, if_neg (by omega)]]
    refine PC.body Try.func22 (by kernel_rfl) rfl (by simp [Try.f22]) rfl ?_
    simp only [Try.f22]
    intro hlen
    simp only [go_sem, List.length_map, and_true, true_and] at hlen
    refine CV.run ?_
    (repeat' (first | ((first | with_reducible refine vcG_split ?_ ?_ | with_reducible refine vcIf_split ?_ ?_ | with_reducible refine vcQ_split ?_ ?_ | with_reducible refine vcDG_split ?_ ?_) <;> intro hb <;> (try rw [hb]) <;> (try simp only [Bool.and_eq_true, Bool.or_eq_true, dtrue, dfalse, Bool.not_eq_true', Bool.not_eq_false', Bool.and_eq_false_iff, Bool.or_eq_false_iff, Bool.not_true, Bool.not_false] at hb) <;> (try simp only [within] at hb) <;> try (simp only [go_sem, hc])) | refine And.intro (by (first | exact trivial | (simp only [I64]; omega) | omega)) ?_ | (first | (refine vcP_pure (c42 _) rfl ?_ ?_ ?_; (focus (first | rfl | ((simp only [go_sem, hc, AV.pureL, AV.pure, pureL_mapI, Bool.and_self]) <;> fail))); (focus (first | ((simp only [go_sem, hc]) <;> fail) | rfl))) | (refine dCallP_pure (c42 _) rfl ?_ ?_ ?_; (focus (first | rfl | ((simp only [go_sem, hc, AV.pureL, AV.pure, pureL_mapI, Bool.and_self]) <;> fail))); (focus (first | ((simp only [go_sem, hc]) <;> fail) | rfl))) | (refine dCallC_pure (c42 _) rfl ?_ ?_ ?_; (focus (first | rfl | ((simp only [go_sem, hc, AV.pureL, AV.pure, pureL_mapI, Bool.and_self]) <;> fail))); (focus (first | ((simp only [go_sem, hc]) <;> fail) | rfl))) | refine dCallC_safe (c42 _) rfl rfl (by (simp only [go_sem, hc])) ?_ | refine vcP_safe (c42 _) rfl rfl (by (simp only [go_sem, hc])) ?_ | refine dCallP_safe (c42 _) rfl rfl ?_) | (simp only [go_sem, hc])))
end Go.Proofs.Ytjjlcjibhjmhmaa

