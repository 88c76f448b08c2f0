/- Contracts of functions of the given program, without a condition beyond those that each theorem states; they lead to the given statement. -/
import Derived.Test.YtekdocalipchpaaV02f
set_option linter.unusedSimpArgs false
set_option linter.unusedVariables false
set_option maxRecDepth 100000
namespace Go.Proofs.Ytekdocalipchpaa
open Go Go.Fl
open Classical
/-! ### Test of the specification; Agrees, Worlds, Good -/
def worse (s : Shop) (i : Int) : Int := max (tired s i) ((aW s).length - tired s i)
def teT (s : Shop) : Nat → Int × Int
  | 0 => (-1, (aW s).length)
  | k + 1 => if worse s k < (teT s k).2 then ((k : Int), worse s k) else teT s k
theorem tired_bounds (s : Shop) (i : Int) : 0 ≤ tired s i ∧ tired s i ≤ (aW s).length := cntP_bounds _ _
theorem teT_bounds (s : Shop) : ∀ k : Nat, -1 ≤ (teT s k).1 ∧ (teT s k).1 < k ∧ 0 ≤ (teT s k).2 ∧ (teT s k).2 ≤ (aW s).length ∧ ((teT s k).1 = -1 ↔ (teT s k).2 = (aW s).length)
  | 0 => by simp [teT]
  | k + 1 => by
    have ih := teT_bounds s k
    have hb := tired_bounds s (k : Int)
    unfold teT
    split
    · simp only
      unfold worse at *
      omega
    · omega
noncomputable def rTest (s : Shop) : Int × Int := ans (kn s True) 0 0 |> fun _ => if kn s True = 0 then (if (teT s s.ms.length).1 < 0 then (0, 3) else ((teT s s.ms.length).1, 0)) else (0, kn s True)
theorem rTest_yes {s : Shop} (h : kn s True = 0) : rTest s = if (teT s s.ms.length).1 < 0 then (0, 3) else ((teT s s.ms.length).1, 0) := if_pos h
theorem rTest_no {s : Shop} (h : ¬ kn s True = 0) : rTest s = (0, kn s True) := if_neg h
set_option maxHeartbeats 1000000 in
theorem c53 (s : Shop) : PC Try.prog 53 [hS s] (.tup [.int .i64 (rTest s).1, .int .i64 (rTest s).2]) := by
  have h77 := c77 s True (i := instDecidableTrue)
  rw [decide_true] at h77
  have hwl := wl_len s
  by_cases hk : kn s True = 0
  · rw [rTest_yes hk]
    obtain ⟨hv, _, hne⟩ := kn0.1 hk
    have h6 := aW_len hv
    have h5 := hv.2.1
    refine PC.body Try.func53 (by kernel_rfl) rfl (by simp [Try.f53]) rfl ?_
    simp only [Try.f53]
    intro hlen
    simp only [go_sem, List.length_map, and_true, true_and] at hlen
    refine CV.run ?_
    (repeat' (first | ((first | with_reducible refine vcG_split ?_ ?_ | with_reducible refine vcIf_split ?_ ?_ | with_reducible refine vcQ_split ?_ ?_ | with_reducible refine vcDG_split ?_ ?_) <;> intro hb <;> (try rw [hb]) <;> (try simp only [Bool.and_eq_true, Bool.or_eq_true, dtrue, dfalse, Bool.not_eq_true', Bool.not_eq_false', Bool.and_eq_false_iff, Bool.or_eq_false_iff, Bool.not_true, Bool.not_false] at hb) <;> (try simp only [within] at hb) <;> try (simp only [go_sem, hk, hwl])) | refine And.intro (by (first | exact trivial | (simp only [I64]; omega) | omega)) ?_ | (first | (refine vcP_pure (h77) rfl ?_ ?_ ?_; (focus (first | rfl | ((simp only [go_sem, hk, hwl, AV.pureL, AV.pure, pureL_mapI, Bool.and_self]) <;> fail))); (focus (first | ((simp only [go_sem, hk, hwl]) <;> fail) | rfl))) | (refine dCallP_pure (h77) rfl ?_ ?_ ?_; (focus (first | rfl | ((simp only [go_sem, hk, hwl, AV.pureL, AV.pure, pureL_mapI, Bool.and_self]) <;> fail))); (focus (first | ((simp only [go_sem, hk, hwl]) <;> fail) | rfl))) | refine vcP_safe (h77) rfl rfl (by (simp only [go_sem, hk, hwl])) ?_ | refine dCallP_safe (h77) rfl rfl ?_ | (refine vcP_pure (c26 s hv) rfl ?_ ?_ ?_; (focus (first | rfl | ((simp only [go_sem, hk, hwl, AV.pureL, AV.pure, pureL_mapI, Bool.and_self]) <;> fail))); (focus (first | ((simp only [go_sem, hk, hwl]) <;> fail) | rfl))) | (refine dCallP_pure (c26 s hv) rfl ?_ ?_ ?_; (focus (first | rfl | ((simp only [go_sem, hk, hwl, AV.pureL, AV.pure, pureL_mapI, Bool.and_self]) <;> fail))); (focus (first | ((simp only [go_sem, hk, hwl]) <;> fail) | rfl))) | refine vcP_safe (c26 s hv) rfl rfl (by (simp only [go_sem, hk, hwl])) ?_ | refine dCallP_safe (c26 s hv) rfl rfl ?_) | (simp only [go_sem, hk, hwl])))
    refine vc_for (fun j => ⟨[(8, .int .i64 j), (6, .int .i64 (teT s j).1), (7, .int .i64 (teT s j).2), (5, .int .i64 (aW s).length), (2, .int .i64 0), (3, .int .i64 0), (1, .lp 0 0)], [.box 26 (cS s) false]⟩) s.ms.length (fun j => True) (by (first | exact wk_same (by (simp only [go_sem, Int.natCast_add, Int.natCast_one, Int.natCast_zero, Int.cast_ofNat_Int, teT])) | exact wk_drop (by (simp only [go_sem, Int.natCast_add, Int.natCast_one, Int.natCast_zero, Int.cast_ofNat_Int, teT])) (by (simp only [go_sem, Int.natCast_add, Int.natCast_one, Int.natCast_zero, Int.cast_ofNat_Int, teT])) (by (simp only [go_sem, Int.natCast_add, Int.natCast_one, Int.natCast_zero, Int.cast_ofNat_Int, teT])) (by (simp only [go_sem, Int.natCast_add, Int.natCast_one, Int.natCast_zero, Int.cast_ofNat_Int, teT])) (by (simp only [go_sem, Int.natCast_add, Int.natCast_one, Int.natCast_zero, Int.cast_ofNat_Int, teT])))) trivial ?_
    intro j hj _
    rcases Nat.lt_or_ge j s.ms.length with hlt | hge
    · have hlt' : (j : Int) < s.ms.length := by omega
      have hb := tired_bounds s (j : Int)
      have h85 := c85 s hv j hlt
      by_cases hw : worse s j < (teT s j).2
      · have e : teT s (j + 1) = ((j : Int), worse s j) := by simp [teT, hw]
        have hw' : max (tired s j) ((aW s).length - tired s j) < (teT s j).2 := hw
        (repeat' (first | ((first | with_reducible refine vcG_split ?_ ?_ | with_reducible refine vcIf_split ?_ ?_ | with_reducible refine vcQ_split ?_ ?_ | with_reducible refine vcDG_split ?_ ?_) <;> intro hb <;> (try rw [hb]) <;> (try simp only [Bool.and_eq_true, Bool.or_eq_true, dtrue, dfalse, Bool.not_eq_true', Bool.not_eq_false', Bool.and_eq_false_iff, Bool.or_eq_false_iff, Bool.not_true, Bool.not_false] at hb) <;> (try simp only [within] at hb) <;> try (simp only [go_sem, hlt', hw'])) | refine And.intro (by (first | exact trivial | (simp only [I64]; omega) | omega)) ?_ | (first | (refine vcP_pure (h85) rfl ?_ ?_ ?_; (focus (first | rfl | ((simp only [go_sem, hlt', hw', AV.pureL, AV.pure, pureL_mapI, Bool.and_self]) <;> fail))); (focus (first | ((simp only [go_sem, hlt', hw']) <;> fail) | rfl))) | (refine dCallP_pure (h85) rfl ?_ ?_ ?_; (focus (first | rfl | ((simp only [go_sem, hlt', hw', AV.pureL, AV.pure, pureL_mapI, Bool.and_self]) <;> fail))); (focus (first | ((simp only [go_sem, hlt', hw']) <;> fail) | rfl))) | refine vcP_safe (h85) rfl rfl (by (simp only [go_sem, hlt', hw'])) ?_ | refine dCallP_safe (h85) rfl rfl ?_) | (simp only [go_sem, hlt', hw'])))
        (first | exact wk_same (by (simp only [go_sem, Int.natCast_add, Int.natCast_one, Int.natCast_zero, Int.cast_ofNat_Int, e, worse])) | exact wk_drop (by (simp only [go_sem, Int.natCast_add, Int.natCast_one, Int.natCast_zero, Int.cast_ofNat_Int, e, worse])) (by (simp only [go_sem, Int.natCast_add, Int.natCast_one, Int.natCast_zero, Int.cast_ofNat_Int, e, worse])) (by (simp only [go_sem, Int.natCast_add, Int.natCast_one, Int.natCast_zero, Int.cast_ofNat_Int, e, worse])) (by (simp only [go_sem, Int.natCast_add, Int.natCast_one, Int.natCast_zero, Int.cast_ofNat_Int, e, worse])) (by (simp only [go_sem, Int.natCast_add, Int.natCast_one, Int.natCast_zero, Int.cast_ofNat_Int, e, worse])))
      · have e : teT s (j + 1) = teT s j := by simp [teT, hw]
        have hw' : ¬ max (tired s j) ((aW s).length - tired s j) < (teT s j).2 := hw
        (repeat' (first | ((first | with_reducible refine vcG_split ?_ ?_ | with_reducible refine vcIf_split ?_ ?_ | with_reducible refine vcQ_split ?_ ?_ | with_reducible refine vcDG_split ?_ ?_) <;> intro hb <;> (try rw [hb]) <;> (try simp only [Bool.and_eq_true, Bool.or_eq_true, dtrue, dfalse, Bool.not_eq_true', Bool.not_eq_false', Bool.and_eq_false_iff, Bool.or_eq_false_iff, Bool.not_true, Bool.not_false] at hb) <;> (try simp only [within] at hb) <;> try (simp only [go_sem, hlt', hw'])) | refine And.intro (by (first | exact trivial | (simp only [I64]; omega) | omega)) ?_ | (first | (refine vcP_pure (h85) rfl ?_ ?_ ?_; (focus (first | rfl | ((simp only [go_sem, hlt', hw', AV.pureL, AV.pure, pureL_mapI, Bool.and_self]) <;> fail))); (focus (first | ((simp only [go_sem, hlt', hw']) <;> fail) | rfl))) | (refine dCallP_pure (h85) rfl ?_ ?_ ?_; (focus (first | rfl | ((simp only [go_sem, hlt', hw', AV.pureL, AV.pure, pureL_mapI, Bool.and_self]) <;> fail))); (focus (first | ((simp only [go_sem, hlt', hw']) <;> fail) | rfl))) | refine vcP_safe (h85) rfl rfl (by (simp only [go_sem, hlt', hw'])) ?_ | refine dCallP_safe (h85) rfl rfl ?_) | (simp only [go_sem, hlt', hw'])))
        (first | exact wk_same (by (simp only [go_sem, Int.natCast_add, Int.natCast_one, Int.natCast_zero, Int.cast_ofNat_Int, e])) | exact wk_drop (by (simp only [go_sem, Int.natCast_add, Int.natCast_one, Int.natCast_zero, Int.cast_ofNat_Int, e])) (by (simp only [go_sem, Int.natCast_add, Int.natCast_one, Int.natCast_zero, Int.cast_ofNat_Int, e])) (by (simp only [go_sem, Int.natCast_add, Int.natCast_one, Int.natCast_zero, Int.cast_ofNat_Int, e])) (by (simp only [go_sem, Int.natCast_add, Int.natCast_one, Int.natCast_zero, Int.cast_ofNat_Int, e])) (by (simp only [go_sem, Int.natCast_add, Int.natCast_one, Int.natCast_zero, Int.cast_ofNat_Int, e])))
    · have hge' : ¬ (j : Int) < s.ms.length := by omega
      have : j = s.ms.length := by omega
      subst this
      by_cases hn : (teT s s.ms.length).1 < 0
      · rw [if_pos hn]
        (repeat' (first | ((first | with_reducible refine vcG_split ?_ ?_ | with_reducible refine vcIf_split ?_ ?_ | with_reducible refine vcQ_split ?_ ?_ | with_reducible refine vcDG_split ?_ ?_) <;> intro hb <;> (try rw [hb]) <;> (try simp only [Bool.and_eq_true, Bool.or_eq_true, dtrue, dfalse, Bool.not_eq_true', Bool.not_eq_false', Bool.and_eq_false_iff, Bool.or_eq_false_iff, Bool.not_true, Bool.not_false] at hb) <;> (try simp only [within] at hb) <;> try (simp only [go_sem, hge', hn])) | refine And.intro (by (first | exact trivial | (simp only [I64]; omega) | omega)) ?_ | fail | (simp only [go_sem, hge', hn])))
      · rw [if_neg hn]
        (repeat' (first | ((first | with_reducible refine vcG_split ?_ ?_ | with_reducible refine vcIf_split ?_ ?_ | with_reducible refine vcQ_split ?_ ?_ | with_reducible refine vcDG_split ?_ ?_) <;> intro hb <;> (try rw [hb]) <;> (try simp only [Bool.and_eq_true, Bool.or_eq_true, dtrue, dfalse, Bool.not_eq_true', Bool.not_eq_false', Bool.and_eq_false_iff, Bool.or_eq_false_iff, Bool.not_true, Bool.not_false] at hb) <;> (try simp only [within] at hb) <;> try (simp only [go_sem, hge', hn])) | refine And.intro (by (first | exact trivial | (simp only [I64]; omega) | omega)) ?_ | fail | (simp only [go_sem, hge', hn])))
  · rw [rTest_no hk]
    refine PC.body Try.func53 (by kernel_rfl) rfl (by simp [Try.f53]) rfl ?_
    simp only [Try.f53]
    intro hlen
    simp only [go_sem, List.length_map, and_true, true_and] at hlen
    refine CV.run ?_
    (repeat' (first | ((first | with_reducible refine vcG_split ?_ ?_ | with_reducible refine vcIf_split ?_ ?_ | with_reducible refine vcQ_split ?_ ?_ | with_reducible refine vcDG_split ?_ ?_) <;> intro hb <;> (try rw [hb]) <;> (try simp only [Bool.and_eq_true, Bool.or_eq_true, dtrue, dfalse, Bool.not_eq_true', Bool.not_eq_false', Bool.and_eq_false_iff, Bool.or_eq_false_iff, Bool.not_true, Bool.not_false] at hb) <;> (try simp only [within] at hb) <;> try (simp only [go_sem, hk])) | refine And.intro (by (first | exact trivial | (simp only [I64]; omega) | omega)) ?_ | (first | (refine vcP_pure (h77) rfl ?_ ?_ ?_; (focus (first | rfl | ((simp only [go_sem, hk, AV.pureL, AV.pure, pureL_mapI, Bool.and_self]) <;> fail))); (focus (first | ((simp only [go_sem, hk]) <;> fail) | rfl))) | (refine dCallP_pure (h77) rfl ?_ ?_ ?_; (focus (first | rfl | ((simp only [go_sem, hk, AV.pureL, AV.pure, pureL_mapI, Bool.and_self]) <;> fail))); (focus (first | ((simp only [go_sem, hk]) <;> fail) | rfl))) | refine vcP_safe (h77) rfl rfl (by (simp only [go_sem, hk])) ?_ | refine dCallP_safe (h77) rfl rfl ?_) | (simp only [go_sem, hk])))
noncomputable def rAgrees (s : Shop) (n : Int) : Bool × Int := ans (ask s (within n 0 (s.ws.length - 1))) false (agrB s (gw s n))
noncomputable def rWorlds (s : Shop) : List Int × Int := ans (check s) [] (wl s)
noncomputable def rGood (s : Shop) (l : List Int) : Bool × Int := ans (check s) false (isShB s l)
theorem c57 (s : Shop) (n : Int) : PC Try.prog 57 [hS s, .int .i64 n] (.tup [.bool (rAgrees s n).1, .int .i64 (rAgrees s n).2]) := by
  by_cases hk : ask s (within n 0 (s.ws.length - 1)) = 0
  · rw [show rAgrees s n = _ from ans_yes hk]
    obtain ⟨hv, hn⟩ := ask0.1 hk
    unfold within at hn
    obtain ⟨w, hw⟩ := get_of (l := s.ws) (j := n.toNat) (by omega)
    have h67 := c67 s hv n.toNat w hw
    rw [Int.toNat_of_nonneg hn.1] at h67
    have e : gw s n = w := by simp [gw, hw]
    refine PC.body Try.func57 (by kernel_rfl) rfl (by simp [Try.f57]) rfl ?_
    simp only [Try.f57]
    intro hlen
    simp only [go_sem, List.length_map, and_true, true_and] at hlen
    refine CV.run ?_
    (repeat' (first | ((first | with_reducible refine vcG_split ?_ ?_ | with_reducible refine vcIf_split ?_ ?_ | with_reducible refine vcQ_split ?_ ?_ | with_reducible refine vcDG_split ?_ ?_) <;> intro hb <;> (try rw [hb]) <;> (try simp only [Bool.and_eq_true, Bool.or_eq_true, dtrue, dfalse, Bool.not_eq_true', Bool.not_eq_false', Bool.and_eq_false_iff, Bool.or_eq_false_iff, Bool.not_true, Bool.not_false] at hb) <;> (try simp only [within] at hb) <;> try (simp only [go_sem, hk, e])) | refine And.intro (by (first | exact trivial | (simp only [I64]; omega) | omega)) ?_ | (with_reducible rw [vc_draw_eq]; first | refine CV.draw (id := 1) [(0, 0), (0, 0), (0, 0), (0, 0), (0, 0), (0, 0)] mixed rfl (by kernel_rfl) ?_) | (first | (refine vcP_pure (c66 _ _) rfl ?_ ?_ ?_; (focus (first | rfl | ((simp only [go_sem, hk, e, AV.pureL, AV.pure, pureL_mapI, Bool.and_self]) <;> fail))); (focus (first | ((simp only [go_sem, hk, e]) <;> fail) | rfl))) | (refine dCallP_pure (c66 _ _) rfl ?_ ?_ ?_; (focus (first | rfl | ((simp only [go_sem, hk, e, AV.pureL, AV.pure, pureL_mapI, Bool.and_self]) <;> fail))); (focus (first | ((simp only [go_sem, hk, e]) <;> fail) | rfl))) | refine vcP_safe (c66 _ _) rfl rfl (by (simp only [go_sem, hk, e])) ?_ | refine dCallP_safe (c66 _ _) rfl rfl ?_ | (refine vcP_pure (c94 _ _) rfl ?_ ?_ ?_; (focus (first | rfl | ((simp only [go_sem, hk, e, AV.pureL, AV.pure, pureL_mapI, Bool.and_self]) <;> fail))); (focus (first | ((simp only [go_sem, hk, e]) <;> fail) | rfl))) | (refine dCallP_pure (c94 _ _) rfl ?_ ?_ ?_; (focus (first | rfl | ((simp only [go_sem, hk, e, AV.pureL, AV.pure, pureL_mapI, Bool.and_self]) <;> fail))); (focus (first | ((simp only [go_sem, hk, e]) <;> fail) | rfl))) | refine vcP_safe (c94 _ _) rfl rfl (by (simp only [go_sem, hk, e])) ?_ | refine dCallP_safe (c94 _ _) rfl rfl ?_ | (refine vcP_pure (h67) rfl ?_ ?_ ?_; (focus (first | rfl | ((simp only [go_sem, hk, e, AV.pureL, AV.pure, pureL_mapI, Bool.and_self]) <;> fail))); (focus (first | ((simp only [go_sem, hk, e]) <;> fail) | rfl))) | (refine dCallP_pure (h67) rfl ?_ ?_ ?_; (focus (first | rfl | ((simp only [go_sem, hk, e, AV.pureL, AV.pure, pureL_mapI, Bool.and_self]) <;> fail))); (focus (first | ((simp only [go_sem, hk, e]) <;> fail) | rfl))) | refine vcP_safe (h67) rfl rfl (by (simp only [go_sem, hk, e])) ?_ | refine dCallP_safe (h67) rfl rfl ?_) | (simp only [go_sem, hk, e])))
  · rw [show rAgrees s n = _ from ans_no hk]
    refine PC.body Try.func57 (by kernel_rfl) rfl (by simp [Try.f57]) rfl ?_
    simp only [Try.f57]
    intro hlen
    simp only [go_sem, List.length_map, and_true, true_and] at hlen
    refine CV.run ?_
    (repeat' (first | ((first | with_reducible refine vcG_split ?_ ?_ | with_reducible refine vcIf_split ?_ ?_ | with_reducible refine vcQ_split ?_ ?_ | with_reducible refine vcDG_split ?_ ?_) <;> intro hb <;> (try rw [hb]) <;> (try simp only [Bool.and_eq_true, Bool.or_eq_true, dtrue, dfalse, Bool.not_eq_true', Bool.not_eq_false', Bool.and_eq_false_iff, Bool.or_eq_false_iff, Bool.not_true, Bool.not_false] at hb) <;> (try simp only [within] at hb) <;> try (simp only [go_sem, hk])) | refine And.intro (by (first | exact trivial | (simp only [I64]; omega) | omega)) ?_ | (with_reducible rw [vc_draw_eq]; first | refine CV.draw (id := 1) [(0, 0), (0, 0), (0, 0), (0, 0), (0, 0), (0, 0)] mixed rfl (by kernel_rfl) ?_) | (first | (refine vcP_pure (c66 _ _) rfl ?_ ?_ ?_; (focus (first | rfl | ((simp only [go_sem, hk, AV.pureL, AV.pure, pureL_mapI, Bool.and_self]) <;> fail))); (focus (first | ((simp only [go_sem, hk]) <;> fail) | rfl))) | (refine dCallP_pure (c66 _ _) rfl ?_ ?_ ?_; (focus (first | rfl | ((simp only [go_sem, hk, AV.pureL, AV.pure, pureL_mapI, Bool.and_self]) <;> fail))); (focus (first | ((simp only [go_sem, hk]) <;> fail) | rfl))) | refine vcP_safe (c66 _ _) rfl rfl (by (simp only [go_sem, hk])) ?_ | refine dCallP_safe (c66 _ _) rfl rfl ?_ | (refine vcP_pure (c94 _ _) rfl ?_ ?_ ?_; (focus (first | rfl | ((simp only [go_sem, hk, AV.pureL, AV.pure, pureL_mapI, Bool.and_self]) <;> fail))); (focus (first | ((simp only [go_sem, hk]) <;> fail) | rfl))) | (refine dCallP_pure (c94 _ _) rfl ?_ ?_ ?_; (focus (first | rfl | ((simp only [go_sem, hk, AV.pureL, AV.pure, pureL_mapI, Bool.and_self]) <;> fail))); (focus (first | ((simp only [go_sem, hk]) <;> fail) | rfl))) | refine vcP_safe (c94 _ _) rfl rfl (by (simp only [go_sem, hk])) ?_ | refine dCallP_safe (c94 _ _) rfl rfl ?_) | (simp only [go_sem, hk])))
theorem check_0 {s : Shop} : check s = 0 ↔ valid s := by unfold check; split <;> simp_all
theorem c58 (s : Shop) : PC Try.prog 58 [hS s] (.tup [lN (rWorlds s).1, .int .i64 (rWorlds s).2]) := by
  by_cases hk : check s = 0
  · rw [show rWorlds s = _ from ans_yes hk]
    have hv := check_0.1 hk
    refine PC.body Try.func58 (by kernel_rfl) rfl (by simp [Try.f58]) rfl ?_
    simp only [Try.f58]
    intro hlen
    simp only [go_sem, List.length_map, and_true, true_and] at hlen
    refine CV.run ?_
    (repeat' (first | ((first | with_reducible refine vcG_split ?_ ?_ | with_reducible refine vcIf_split ?_ ?_ | with_reducible refine vcQ_split ?_ ?_ | with_reducible refine vcDG_split ?_ ?_) <;> intro hb <;> (try rw [hb]) <;> (try simp only [Bool.and_eq_true, Bool.or_eq_true, dtrue, dfalse, Bool.not_eq_true', Bool.not_eq_false', Bool.and_eq_false_iff, Bool.or_eq_false_iff, Bool.not_true, Bool.not_false] at hb) <;> (try simp only [within] at hb) <;> try (simp only [go_sem, hk])) | refine And.intro (by (first | exact trivial | (simp only [I64]; omega) | omega)) ?_ | (first | (refine vcP_pure (c55 _) rfl ?_ ?_ ?_; (focus (first | rfl | ((simp only [go_sem, hk, AV.pureL, AV.pure, pureL_mapI, Bool.and_self]) <;> fail))); (focus (first | ((simp only [go_sem, hk]) <;> fail) | rfl))) | (refine dCallP_pure (c55 _) rfl ?_ ?_ ?_; (focus (first | rfl | ((simp only [go_sem, hk, AV.pureL, AV.pure, pureL_mapI, Bool.and_self]) <;> fail))); (focus (first | ((simp only [go_sem, hk]) <;> fail) | rfl))) | refine vcP_safe (c55 _) rfl rfl (by (simp only [go_sem, hk])) ?_ | refine dCallP_safe (c55 _) rfl rfl ?_ | (refine vcP_pure (c26 s hv) rfl ?_ ?_ ?_; (focus (first | rfl | ((simp only [go_sem, hk, AV.pureL, AV.pure, pureL_mapI, Bool.and_self]) <;> fail))); (focus (first | ((simp only [go_sem, hk]) <;> fail) | rfl))) | (refine dCallP_pure (c26 s hv) rfl ?_ ?_ ?_; (focus (first | rfl | ((simp only [go_sem, hk, AV.pureL, AV.pure, pureL_mapI, Bool.and_self]) <;> fail))); (focus (first | ((simp only [go_sem, hk]) <;> fail) | rfl))) | refine vcP_safe (c26 s hv) rfl rfl (by (simp only [go_sem, hk])) ?_ | refine dCallP_safe (c26 s hv) rfl rfl ?_) | (simp only [go_sem, hk])))
  · rw [show rWorlds s = _ from ans_no hk]
    refine PC.body Try.func58 (by kernel_rfl) rfl (by simp [Try.f58]) rfl ?_
    simp only [Try.f58]
    intro hlen
    simp only [go_sem, List.length_map, and_true, true_and] at hlen
    refine CV.run ?_
    (repeat' (first | ((first | with_reducible refine vcG_split ?_ ?_ | with_reducible refine vcIf_split ?_ ?_ | with_reducible refine vcQ_split ?_ ?_ | with_reducible refine vcDG_split ?_ ?_) <;> intro hb <;> (try rw [hb]) <;> (try simp only [Bool.and_eq_true, Bool.or_eq_true, dtrue, dfalse, Bool.not_eq_true', Bool.not_eq_false', Bool.and_eq_false_iff, Bool.or_eq_false_iff, Bool.not_true, Bool.not_false] at hb) <;> (try simp only [within] at hb) <;> try (simp only [go_sem, hk])) | refine And.intro (by (first | exact trivial | (simp only [I64]; omega) | omega)) ?_ | (first | (refine vcP_pure (c55 _) rfl ?_ ?_ ?_; (focus (first | rfl | ((simp only [go_sem, hk, AV.pureL, AV.pure, pureL_mapI, Bool.and_self]) <;> fail))); (focus (first | ((simp only [go_sem, hk]) <;> fail) | rfl))) | (refine dCallP_pure (c55 _) rfl ?_ ?_ ?_; (focus (first | rfl | ((simp only [go_sem, hk, AV.pureL, AV.pure, pureL_mapI, Bool.and_self]) <;> fail))); (focus (first | ((simp only [go_sem, hk]) <;> fail) | rfl))) | refine vcP_safe (c55 _) rfl rfl (by (simp only [go_sem, hk])) ?_ | refine dCallP_safe (c55 _) rfl rfl ?_) | (simp only [go_sem, hk])))
theorem c60 (s : Shop) (l : List Int) : PC Try.prog 60 [hS s, lN l] (.tup [.bool (rGood s l).1, .int .i64 (rGood s l).2]) := by
  by_cases hk : check s = 0
  · rw [show rGood s l = _ from ans_yes hk]
    refine PC.body Try.func60 (by kernel_rfl) rfl (by simp [Try.f60]) rfl ?_
    simp only [Try.f60]
    intro hlen
    simp only [go_sem, List.length_map, and_true, true_and] at hlen
    refine CV.run ?_
    (repeat' (first | ((first | with_reducible refine vcG_split ?_ ?_ | with_reducible refine vcIf_split ?_ ?_ | with_reducible refine vcQ_split ?_ ?_ | with_reducible refine vcDG_split ?_ ?_) <;> intro hb <;> (try rw [hb]) <;> (try simp only [Bool.and_eq_true, Bool.or_eq_true, dtrue, dfalse, Bool.not_eq_true', Bool.not_eq_false', Bool.and_eq_false_iff, Bool.or_eq_false_iff, Bool.not_true, Bool.not_false] at hb) <;> (try simp only [within] at hb) <;> try (simp only [go_sem, hk])) | refine And.intro (by (first | exact trivial | (simp only [I64]; omega) | omega)) ?_ | (first | (refine vcP_pure (c55 _) rfl ?_ ?_ ?_; (focus (first | rfl | ((simp only [go_sem, hk, AV.pureL, AV.pure, pureL_mapI, Bool.and_self]) <;> fail))); (focus (first | ((simp only [go_sem, hk]) <;> fail) | rfl))) | (refine dCallP_pure (c55 _) rfl ?_ ?_ ?_; (focus (first | rfl | ((simp only [go_sem, hk, AV.pureL, AV.pure, pureL_mapI, Bool.and_self]) <;> fail))); (focus (first | ((simp only [go_sem, hk]) <;> fail) | rfl))) | refine vcP_safe (c55 _) rfl rfl (by (simp only [go_sem, hk])) ?_ | refine dCallP_safe (c55 _) rfl rfl ?_ | (refine vcP_pure (c45 s l) rfl ?_ ?_ ?_; (focus (first | rfl | ((simp only [go_sem, hk, AV.pureL, AV.pure, pureL_mapI, Bool.and_self]) <;> fail))); (focus (first | ((simp only [go_sem, hk]) <;> fail) | rfl))) | (refine dCallP_pure (c45 s l) rfl ?_ ?_ ?_; (focus (first | rfl | ((simp only [go_sem, hk, AV.pureL, AV.pure, pureL_mapI, Bool.and_self]) <;> fail))); (focus (first | ((simp only [go_sem, hk]) <;> fail) | rfl))) | refine vcP_safe (c45 s l) rfl rfl (by (simp only [go_sem, hk])) ?_ | refine dCallP_safe (c45 s l) rfl rfl ?_) | (simp only [go_sem, hk])))
  · rw [show rGood s l = _ from ans_no hk]
    refine PC.body Try.func60 (by kernel_rfl) rfl (by simp [Try.f60]) rfl ?_
    simp only [Try.f60]
    intro hlen
    simp only [go_sem, List.length_map, and_true, true_and] at hlen
    refine CV.run ?_
    (repeat' (first | ((first | with_reducible refine vcG_split ?_ ?_ | with_reducible refine vcIf_split ?_ ?_ | with_reducible refine vcQ_split ?_ ?_ | with_reducible refine vcDG_split ?_ ?_) <;> intro hb <;> (try rw [hb]) <;> (try simp only [Bool.and_eq_true, Bool.or_eq_true, dtrue, dfalse, Bool.not_eq_true', Bool.not_eq_false', Bool.and_eq_false_iff, Bool.or_eq_false_iff, Bool.not_true, Bool.not_false] at hb) <;> (try simp only [within] at hb) <;> try (simp only [go_sem, hk])) | refine And.intro (by (first | exact trivial | (simp only [I64]; omega) | omega)) ?_ | (first | (refine vcP_pure (c55 _) rfl ?_ ?_ ?_; (focus (first | rfl | ((simp only [go_sem, hk, AV.pureL, AV.pure, pureL_mapI, Bool.and_self]) <;> fail))); (focus (first | ((simp only [go_sem, hk]) <;> fail) | rfl))) | (refine dCallP_pure (c55 _) rfl ?_ ?_ ?_; (focus (first | rfl | ((simp only [go_sem, hk, AV.pureL, AV.pure, pureL_mapI, Bool.and_self]) <;> fail))); (focus (first | ((simp only [go_sem, hk]) <;> fail) | rfl))) | refine vcP_safe (c55 _) rfl rfl (by (simp only [go_sem, hk])) ?_ | refine dCallP_safe (c55 _) rfl rfl ?_) | (simp only [go_sem, hk])))
/-! ### What is spared -/
def sp1 (s : Shop) (l : List Int) (k : Nat) (n : Int) : Int := if 0 < gv l k then min n (lo s k - gv l k) else n
def spT (far : Int) (s : Shop) (l : List Int) : Nat → Int
  | 0 => far
  | k + 1 => sp1 s l k (spT far s l k)
theorem spT_bounds {s : Shop} (hv : valid s) {l : List Int} (hl : l.length = s.ms.length) (hx : ∀ n, n ∈ l → 0 ≤ n ∧ n ≤ 12) (far : Int) (hf : 0 ≤ far ∧ far ≤ 1000) : ∀ k : Nat, k ≤ l.length → -12 ≤ spT far s l k ∧ spT far s l k ≤ 1000
  | 0, _ => by simp only [spT]; omega
  | k + 1, hk => by
    have ih := spT_bounds hv hl hx far hf k (by omega)
    obtain ⟨x, hxx⟩ := get_of (l := l) (j := k) (by omega)
    have h1 := hx x (List.mem_of_getElem? hxx)
    have hlb := lo_bounds hv (W := aW s) (fun w hw => aW_mem hw) k (by omega)
    change 0 ≤ lo s k ∧ lo s k ≤ 12 ∧ _ at hlb
    simp only [spT, sp1, gv_nat hxx]
    split <;> omega
theorem c30 (s : Shop) (hv : valid s) (hne : aW s ≠ []) (l : List Int) (hl : l.length = s.ms.length) (hx : ∀ n, n ∈ l → 0 ≤ n ∧ n ≤ 12) : PC Try.prog 30 [hS s, lN l] (.int .i64 (spT 1000 s l l.length)) := by
  refine PC.body Try.func30 (by kernel_rfl) rfl (by simp [Try.f30]) rfl ?_
  simp only [Try.f30]
  intro hlen
  simp only [go_sem, List.length_map, and_true, true_and] at hlen
  refine CV.run ?_
  (repeat' (first | ((first | with_reducible refine vcG_split ?_ ?_ | with_reducible refine vcIf_split ?_ ?_ | with_reducible refine vcQ_split ?_ ?_ | with_reducible refine vcDG_split ?_ ?_) <;> intro hb <;> (try rw [hb]) <;> (try simp only [Bool.and_eq_true, Bool.or_eq_true, dtrue, dfalse, Bool.not_eq_true', Bool.not_eq_false', Bool.and_eq_false_iff, Bool.or_eq_false_iff, Bool.not_true, Bool.not_false] at hb) <;> (try simp only [within] at hb) <;> try (simp only [go_sem])) | refine And.intro (by (first | exact trivial | (simp only [I64]; omega) | omega)) ?_ | (with_reducible rw [vc_draw_eq]; first | refine CV.draw (id := 6) [(0, 0), (0, 0), (0, 0), (0, 0), (0, 0), (0, 0), (0, 0), (0, 0), (0, 0), (0, 0), (0, 0), (0, 0)] mixed rfl (by kernel_rfl) ?_) | fail | (simp only [go_sem])))
  refine vc_for (fun j => ⟨[(6, .int .i64 j), (5, .int .i64 (spT 1000 s l j)), (4, .int .i64 0), (1, lN l), (2, .lp 0 0)], [.box 26 (cS s) false]⟩) l.length (fun j => True) (by (first | exact wk_same (by (simp only [go_sem, Int.natCast_add, Int.natCast_one, Int.natCast_zero, Int.cast_ofNat_Int, spT])) | exact wk_drop (by (simp only [go_sem, Int.natCast_add, Int.natCast_one, Int.natCast_zero, Int.cast_ofNat_Int, spT])) (by (simp only [go_sem, Int.natCast_add, Int.natCast_one, Int.natCast_zero, Int.cast_ofNat_Int, spT])) (by (simp only [go_sem, Int.natCast_add, Int.natCast_one, Int.natCast_zero, Int.cast_ofNat_Int, spT])) (by (simp only [go_sem, Int.natCast_add, Int.natCast_one, Int.natCast_zero, Int.cast_ofNat_Int, spT])) (by (simp only [go_sem, Int.natCast_add, Int.natCast_one, Int.natCast_zero, Int.cast_ofNat_Int, spT])))) trivial ?_
  intro j hj _
  have hb := spT_bounds hv hl hx 1000 (by omega) j hj
  rcases Nat.lt_or_ge j l.length with hlt | hge
  · obtain ⟨x, hxx⟩ := get_of hlt
    have h1 := hx x (List.mem_of_getElem? hxx)
    have hlt' : (j : Int) < l.length := by omega
    have h74 := c74 s hv hne j (by omega)
    have hlb := lo_bounds hv (W := aW s) (fun w hw => aW_mem hw) j (by omega)
    change 0 ≤ lo s j ∧ lo s j ≤ 12 ∧ _ at hlb
    by_cases h0 : 0 < x
    · have e : spT 1000 s l (j + 1) = min (spT 1000 s l j) (lo s j - x) := by simp [spT, sp1, gv_nat hxx, h0]
      (repeat' (first | ((first | with_reducible refine vcG_split ?_ ?_ | with_reducible refine vcIf_split ?_ ?_ | with_reducible refine vcQ_split ?_ ?_ | with_reducible refine vcDG_split ?_ ?_) <;> intro hb <;> (try rw [hb]) <;> (try simp only [Bool.and_eq_true, Bool.or_eq_true, dtrue, dfalse, Bool.not_eq_true', Bool.not_eq_false', Bool.and_eq_false_iff, Bool.or_eq_false_iff, Bool.not_true, Bool.not_false] at hb) <;> (try simp only [within] at hb) <;> try (simp only [go_sem, hlt', hxx, h0, encN])) | refine And.intro (by (first | exact trivial | (simp only [I64]; omega) | omega)) ?_ | (with_reducible rw [vc_draw_eq]; first | refine CV.draw (id := 6) [(0, 0), (0, 0), (0, 0), (0, 0), (0, 0), (0, 0), (0, 0), (0, 0), (0, 0), (0, 0), (0, 0), (0, 0)] mixed rfl (by kernel_rfl) ?_) | (first | (refine vcP_pure (h74) rfl ?_ ?_ ?_; (focus (first | rfl | ((simp only [go_sem, hlt', hxx, h0, encN, AV.pureL, AV.pure, pureL_mapI, Bool.and_self]) <;> fail))); (focus (first | ((simp only [go_sem, hlt', hxx, h0, encN]) <;> fail) | rfl))) | (refine dCallP_pure (h74) rfl ?_ ?_ ?_; (focus (first | rfl | ((simp only [go_sem, hlt', hxx, h0, encN, AV.pureL, AV.pure, pureL_mapI, Bool.and_self]) <;> fail))); (focus (first | ((simp only [go_sem, hlt', hxx, h0, encN]) <;> fail) | rfl))) | refine vcP_safe (h74) rfl rfl (by (simp only [go_sem, hlt', hxx, h0, encN])) ?_ | refine dCallP_safe (h74) rfl rfl ?_) | (simp only [go_sem, hlt', hxx, h0, encN])))
      all_goals first
        | (first | exact wk_same (by (simp only [go_sem, Int.natCast_add, Int.natCast_one, Int.natCast_zero, Int.cast_ofNat_Int, e])) | exact wk_drop (by (simp only [go_sem, Int.natCast_add, Int.natCast_one, Int.natCast_zero, Int.cast_ofNat_Int, e])) (by (simp only [go_sem, Int.natCast_add, Int.natCast_one, Int.natCast_zero, Int.cast_ofNat_Int, e])) (by (simp only [go_sem, Int.natCast_add, Int.natCast_one, Int.natCast_zero, Int.cast_ofNat_Int, e])) (by (simp only [go_sem, Int.natCast_add, Int.natCast_one, Int.natCast_zero, Int.cast_ofNat_Int, e])) (by (simp only [go_sem, Int.natCast_add, Int.natCast_one, Int.natCast_zero, Int.cast_ofNat_Int, e])))
        | omega
    · have e : spT 1000 s l (j + 1) = spT 1000 s l j := by simp [spT, sp1, gv_nat hxx, h0]
      (repeat' (first | ((first | with_reducible refine vcG_split ?_ ?_ | with_reducible refine vcIf_split ?_ ?_ | with_reducible refine vcQ_split ?_ ?_ | with_reducible refine vcDG_split ?_ ?_) <;> intro hb <;> (try rw [hb]) <;> (try simp only [Bool.and_eq_true, Bool.or_eq_true, dtrue, dfalse, Bool.not_eq_true', Bool.not_eq_false', Bool.and_eq_false_iff, Bool.or_eq_false_iff, Bool.not_true, Bool.not_false] at hb) <;> (try simp only [within] at hb) <;> try (simp only [go_sem, hlt', hxx, h0, encN])) | refine And.intro (by (first | exact trivial | (simp only [I64]; omega) | omega)) ?_ | (with_reducible rw [vc_draw_eq]; first | refine CV.draw (id := 6) [(0, 0), (0, 0), (0, 0), (0, 0), (0, 0), (0, 0), (0, 0), (0, 0), (0, 0), (0, 0), (0, 0), (0, 0)] mixed rfl (by kernel_rfl) ?_) | (first | (refine vcP_pure (h74) rfl ?_ ?_ ?_; (focus (first | rfl | ((simp only [go_sem, hlt', hxx, h0, encN, AV.pureL, AV.pure, pureL_mapI, Bool.and_self]) <;> fail))); (focus (first | ((simp only [go_sem, hlt', hxx, h0, encN]) <;> fail) | rfl))) | (refine dCallP_pure (h74) rfl ?_ ?_ ?_; (focus (first | rfl | ((simp only [go_sem, hlt', hxx, h0, encN, AV.pureL, AV.pure, pureL_mapI, Bool.and_self]) <;> fail))); (focus (first | ((simp only [go_sem, hlt', hxx, h0, encN]) <;> fail) | rfl))) | refine vcP_safe (h74) rfl rfl (by (simp only [go_sem, hlt', hxx, h0, encN])) ?_ | refine dCallP_safe (h74) rfl rfl ?_) | (simp only [go_sem, hlt', hxx, h0, encN])))
      (first | exact wk_same (by (simp only [go_sem, Int.natCast_add, Int.natCast_one, Int.natCast_zero, Int.cast_ofNat_Int, e])) | exact wk_drop (by (simp only [go_sem, Int.natCast_add, Int.natCast_one, Int.natCast_zero, Int.cast_ofNat_Int, e])) (by (simp only [go_sem, Int.natCast_add, Int.natCast_one, Int.natCast_zero, Int.cast_ofNat_Int, e])) (by (simp only [go_sem, Int.natCast_add, Int.natCast_one, Int.natCast_zero, Int.cast_ofNat_Int, e])) (by (simp only [go_sem, Int.natCast_add, Int.natCast_one, Int.natCast_zero, Int.cast_ofNat_Int, e])) (by (simp only [go_sem, Int.natCast_add, Int.natCast_one, Int.natCast_zero, Int.cast_ofNat_Int, e])))
  · have hge' : ¬ (j : Int) < l.length := by omega
    have : j = l.length := by omega
    subst this
    (repeat' (first | ((first | with_reducible refine vcG_split ?_ ?_ | with_reducible refine vcIf_split ?_ ?_ | with_reducible refine vcQ_split ?_ ?_ | with_reducible refine vcDG_split ?_ ?_) <;> intro hb <;> (try rw [hb]) <;> (try simp only [Bool.and_eq_true, Bool.or_eq_true, dtrue, dfalse, Bool.not_eq_true', Bool.not_eq_false', Bool.and_eq_false_iff, Bool.or_eq_false_iff, Bool.not_true, Bool.not_false] at hb) <;> (try simp only [within] at hb) <;> try (simp only [go_sem, hge'])) | refine And.intro (by (first | exact trivial | (simp only [I64]; omega) | omega)) ?_ | (with_reducible rw [vc_draw_eq]; first | refine CV.draw (id := 6) [(0, 0), (0, 0), (0, 0), (0, 0), (0, 0), (0, 0), (0, 0), (0, 0), (0, 0), (0, 0), (0, 0), (0, 0)] mixed rfl (by kernel_rfl) ?_) | fail | (simp only [go_sem, hge'])))
end Go.Proofs.Ytekdocalipchpaa
