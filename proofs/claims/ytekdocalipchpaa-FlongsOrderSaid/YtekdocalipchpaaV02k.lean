/- Contracts of functions of the given program, without a condition beyond those that each theorem states; they lead to the given statement. -/
import Derived.Test.YtekdocalipchpaaV02j
set_option linter.unusedSimpArgs false
set_option linter.unusedVariables false
set_option maxRecDepth 100000
namespace Go.Proofs.Ytekdocalipchpaa
open Go Go.Fl
open Classical
theorem o70 {s : Shop} {is : Prop} {i : Decidable is} (h : kn s is = 0) : PC Try.prog 70 [hS s, .bool (@decide is i)] (.tup [.pp (cX s), .int .i64 0]) := by
  obtain ⟨hv, hi, hne⟩ := kn0.1 h
  rw [show @decide is i = true from by simp [hi]]
  exact c70 s hv hne
theorem n70 {s : Shop} {is : Prop} {i : Decidable is} (h : ¬ kn s is = 0) : PC Try.prog 70 [hS s, .bool (@decide is i)] (.tup [.nilP, .int .i64 (kn s is)]) := by
  by_cases hv : valid s
  · have hc := check_valid hv
    by_cases hi : is
    · have hne : aW s = [] := Classical.byContradiction fun hq => h (kn0.2 ⟨hv, hi, hq⟩)
      rw [show @decide is i = true from by simp [hi], show kn s is = 3 from by simp [kn, hv, hi, hne]]
      exact c70n s hv hne
    · rw [show @decide is i = false from by simp [hi], show kn s is = 1 from by simp [kn, hv, hi]]
      refine PC.body Try.func70 (by kernel_rfl) rfl (by simp [Try.f70]) rfl ?_
      simp only [Try.f70]
      intro hlen
      simp only [go_sem, List.length_map, and_true, true_and] at hlen
      refine CV.run ?_
      (repeat' (first | ((first | with_reducible refine vcG_split ?_ ?_ | with_reducible refine vcIf_split ?_ ?_ | with_reducible refine vcQ_split ?_ ?_ | with_reducible refine vcDG_split ?_ ?_) <;> intro hb <;> (try rw [hb]) <;> (try simp only [Bool.and_eq_true, Bool.or_eq_true, dtrue, dfalse, Bool.not_eq_true', Bool.not_eq_false', Bool.and_eq_false_iff, Bool.or_eq_false_iff, Bool.not_true, Bool.not_false] at hb) <;> (try simp only [within] at hb) <;> try (simp only [go_sem, hc])) | refine And.intro (by (first | exact trivial | (simp only [I64]; omega) | omega)) ?_ | (with_reducible rw [vc_draw_eq]; first | refine CV.draw (id := 13) [(0, 0), (0, 0), (0, 0), (0, 0), (0, 0), (0, 0), (0, 0), (0, 0), (0, 0), (0, 0)] mixed rfl (by kernel_rfl) ?_ | refine CV.draw (id := 14) [(0, 0), (0, 0), (0, 0), (0, 0), (0, 0), (0, 0), (0, 0), (0, 0), (0, 0), (0, 0), (0, 0), (0, 0), (0, 0), (0, 0), (0, 0), (0, 0), (0, 0), (0, 0)] mixed rfl (by kernel_rfl) ?_ | refine CV.draw (id := 15) [(0, 0), (0, 0), (0, 0), (0, 0), (0, 0), (0, 0), (0, 0), (0, 0), (0, 0)] mixed rfl (by kernel_rfl) ?_ | refine CV.draw (id := 17) [(0, 1), (0, 0), (0, 0), (0, 0), (0, 0), (0, 0), (0, 0), (0, 0), (1, 1), (1, 1), (0, 0)] mixed rfl (by kernel_rfl) ?_) | (first | (refine vcP_pure (c54 _) rfl ?_ ?_ ?_; (focus (first | rfl | ((simp only [go_sem, hc, AV.pureL, AV.pure, pureL_mapI, Bool.and_self]) <;> fail))); (focus (first | ((simp only [go_sem, hc]) <;> fail) | rfl))) | (refine dCallP_pure (c54 _) rfl ?_ ?_ ?_; (focus (first | rfl | ((simp only [go_sem, hc, AV.pureL, AV.pure, pureL_mapI, Bool.and_self]) <;> fail))); (focus (first | ((simp only [go_sem, hc]) <;> fail) | rfl))) | refine vcP_safe (c54 _) rfl rfl (by (simp only [go_sem, hc])) ?_ | refine dCallP_safe (c54 _) rfl rfl ?_) | (simp only [go_sem, hc])))
  · have hc := check_no hv
    rw [show kn s is = 20 from by simp [kn, hv]]
    refine PC.body Try.func70 (by kernel_rfl) rfl (by simp [Try.f70]) rfl ?_
    simp only [Try.f70]
    intro hlen
    simp only [go_sem, List.length_map, and_true, true_and] at hlen
    refine CV.run ?_
    (repeat' (first | ((first | with_reducible refine vcG_split ?_ ?_ | with_reducible refine vcIf_split ?_ ?_ | with_reducible refine vcQ_split ?_ ?_ | with_reducible refine vcDG_split ?_ ?_) <;> intro hb <;> (try rw [hb]) <;> (try simp only [Bool.and_eq_true, Bool.or_eq_true, dtrue, dfalse, Bool.not_eq_true', Bool.not_eq_false', Bool.and_eq_false_iff, Bool.or_eq_false_iff, Bool.not_true, Bool.not_false] at hb) <;> (try simp only [within] at hb) <;> try (simp only [go_sem, hc])) | refine And.intro (by (first | exact trivial | (simp only [I64]; omega) | omega)) ?_ | (with_reducible rw [vc_draw_eq]; first | refine CV.draw (id := 13) [(0, 0), (0, 0), (0, 0), (0, 0), (0, 0), (0, 0), (0, 0), (0, 0), (0, 0), (0, 0)] mixed rfl (by kernel_rfl) ?_ | refine CV.draw (id := 14) [(0, 0), (0, 0), (0, 0), (0, 0), (0, 0), (0, 0), (0, 0), (0, 0), (0, 0), (0, 0), (0, 0), (0, 0), (0, 0), (0, 0), (0, 0), (0, 0), (0, 0), (0, 0)] mixed rfl (by kernel_rfl) ?_ | refine CV.draw (id := 15) [(0, 0), (0, 0), (0, 0), (0, 0), (0, 0), (0, 0), (0, 0), (0, 0), (0, 0)] mixed rfl (by kernel_rfl) ?_ | refine CV.draw (id := 17) [(0, 1), (0, 0), (0, 0), (0, 0), (0, 0), (0, 0), (0, 0), (0, 0), (1, 1), (1, 1), (0, 0)] mixed rfl (by kernel_rfl) ?_) | (first | (refine vcP_pure (c54 _) rfl ?_ ?_ ?_; (focus (first | rfl | ((simp only [go_sem, hc, AV.pureL, AV.pure, pureL_mapI, Bool.and_self]) <;> fail))); (focus (first | ((simp only [go_sem, hc]) <;> fail) | rfl))) | (refine dCallP_pure (c54 _) rfl ?_ ?_ ?_; (focus (first | rfl | ((simp only [go_sem, hc, AV.pureL, AV.pure, pureL_mapI, Bool.and_self]) <;> fail))); (focus (first | ((simp only [go_sem, hc]) <;> fail) | rfl))) | refine vcP_safe (c54 _) rfl rfl (by (simp only [go_sem, hc])) ?_ | refine dCallP_safe (c54 _) rfl rfl ?_) | (simp only [go_sem, hc])))
    all_goals (exfalso; omega)
theorem o81 {s : Shop} {l : List Int} (h : knS s l = 0) : PC Try.prog 81 [hS s, lN l] (.tup [.pp (cX s), .int .i64 0]) := by
  have hv := (kn0.1 h).1
  have hc := check_valid hv
  have h95 := c95 s hv l
  have e : isShB s l = decide (isShB s l = true) := by cases isShB s l <;> rfl
  rw [e] at h95
  refine PC.body Try.func81 (by kernel_rfl) rfl (by simp [Try.f81]) rfl ?_
  simp only [Try.f81]
  intro hlen
  simp only [go_sem, List.length_map, and_true, true_and] at hlen
  refine CV.run ?_
  (repeat' (first | ((first | with_reducible refine vcG_split ?_ ?_ | with_reducible refine vcIf_split ?_ ?_ | with_reducible refine vcQ_split ?_ ?_ | with_reducible refine vcDG_split ?_ ?_) <;> intro hb <;> (try rw [hb]) <;> (try simp only [Bool.and_eq_true, Bool.or_eq_true, dtrue, dfalse, Bool.not_eq_true', Bool.not_eq_false', Bool.and_eq_false_iff, Bool.or_eq_false_iff, Bool.not_true, Bool.not_false] at hb) <;> (try simp only [within] at hb) <;> try (simp only [go_sem, hc])) | refine And.intro (by (first | exact trivial | (simp only [I64]; omega) | omega)) ?_ | (with_reducible rw [vc_draw_eq]; first | refine CV.draw (id := 4) [(0, 0), (0, 0), (0, 0), (0, 0), (0, 0), (0, 0), (0, 0), (0, 0), (0, 0)] mixed rfl (by kernel_rfl) ?_) | (first | (refine vcP_pure (c54 _) rfl ?_ ?_ ?_; (focus (first | rfl | ((simp only [go_sem, hc, AV.pureL, AV.pure, pureL_mapI, Bool.and_self]) <;> fail))); (focus (first | ((simp only [go_sem, hc]) <;> fail) | rfl))) | (refine dCallP_pure (c54 _) rfl ?_ ?_ ?_; (focus (first | rfl | ((simp only [go_sem, hc, AV.pureL, AV.pure, pureL_mapI, Bool.and_self]) <;> fail))); (focus (first | ((simp only [go_sem, hc]) <;> fail) | rfl))) | refine vcP_safe (c54 _) rfl rfl (by (simp only [go_sem, hc])) ?_ | refine dCallP_safe (c54 _) rfl rfl ?_ | (refine vcP_pure (h95) rfl ?_ ?_ ?_; (focus (first | rfl | ((simp only [go_sem, hc, AV.pureL, AV.pure, pureL_mapI, Bool.and_self]) <;> fail))); (focus (first | ((simp only [go_sem, hc]) <;> fail) | rfl))) | (refine dCallP_pure (h95) rfl ?_ ?_ ?_; (focus (first | rfl | ((simp only [go_sem, hc, AV.pureL, AV.pure, pureL_mapI, Bool.and_self]) <;> fail))); (focus (first | ((simp only [go_sem, hc]) <;> fail) | rfl))) | refine vcP_safe (h95) rfl rfl (by (simp only [go_sem, hc])) ?_ | refine dCallP_safe (h95) rfl rfl ?_ | (refine vcP_pure (o70 h) rfl ?_ ?_ ?_; (focus (first | rfl | ((simp only [go_sem, hc, AV.pureL, AV.pure, pureL_mapI, Bool.and_self]) <;> fail))); (focus (first | ((simp only [go_sem, hc]) <;> fail) | rfl))) | (refine dCallP_pure (o70 h) rfl ?_ ?_ ?_; (focus (first | rfl | ((simp only [go_sem, hc, AV.pureL, AV.pure, pureL_mapI, Bool.and_self]) <;> fail))); (focus (first | ((simp only [go_sem, hc]) <;> fail) | rfl))) | refine vcP_safe (o70 h) rfl rfl (by (simp only [go_sem, hc])) ?_ | refine dCallP_safe (o70 h) rfl rfl ?_) | (simp only [go_sem, hc])))
theorem n81 {s : Shop} {l : List Int} (h : ¬ knS s l = 0) : PC Try.prog 81 [hS s, lN l] (.tup [.nilP, .int .i64 (knS s l)]) := by
  by_cases hv : valid s
  · have hc := check_valid hv
    have h95 := c95 s hv l
    have e : isShB s l = decide (isShB s l = true) := by cases isShB s l <;> rfl
    rw [e] at h95
    refine PC.body Try.func81 (by kernel_rfl) rfl (by simp [Try.f81]) rfl ?_
    simp only [Try.f81]
    intro hlen
    simp only [go_sem, List.length_map, and_true, true_and] at hlen
    refine CV.run ?_
    (repeat' (first | ((first | with_reducible refine vcG_split ?_ ?_ | with_reducible refine vcIf_split ?_ ?_ | with_reducible refine vcQ_split ?_ ?_ | with_reducible refine vcDG_split ?_ ?_) <;> intro hb <;> (try rw [hb]) <;> (try simp only [Bool.and_eq_true, Bool.or_eq_true, dtrue, dfalse, Bool.not_eq_true', Bool.not_eq_false', Bool.and_eq_false_iff, Bool.or_eq_false_iff, Bool.not_true, Bool.not_false] at hb) <;> (try simp only [within] at hb) <;> try (simp only [go_sem, hc])) | refine And.intro (by (first | exact trivial | (simp only [I64]; omega) | omega)) ?_ | (with_reducible rw [vc_draw_eq]; first | refine CV.draw (id := 4) [(0, 0), (0, 0), (0, 0), (0, 0), (0, 0), (0, 0), (0, 0), (0, 0), (0, 0)] mixed rfl (by kernel_rfl) ?_) | (first | (refine vcP_pure (c54 _) rfl ?_ ?_ ?_; (focus (first | rfl | ((simp only [go_sem, hc, AV.pureL, AV.pure, pureL_mapI, Bool.and_self]) <;> fail))); (focus (first | ((simp only [go_sem, hc]) <;> fail) | rfl))) | (refine dCallP_pure (c54 _) rfl ?_ ?_ ?_; (focus (first | rfl | ((simp only [go_sem, hc, AV.pureL, AV.pure, pureL_mapI, Bool.and_self]) <;> fail))); (focus (first | ((simp only [go_sem, hc]) <;> fail) | rfl))) | refine vcP_safe (c54 _) rfl rfl (by (simp only [go_sem, hc])) ?_ | refine dCallP_safe (c54 _) rfl rfl ?_ | (refine vcP_pure (h95) rfl ?_ ?_ ?_; (focus (first | rfl | ((simp only [go_sem, hc, AV.pureL, AV.pure, pureL_mapI, Bool.and_self]) <;> fail))); (focus (first | ((simp only [go_sem, hc]) <;> fail) | rfl))) | (refine dCallP_pure (h95) rfl ?_ ?_ ?_; (focus (first | rfl | ((simp only [go_sem, hc, AV.pureL, AV.pure, pureL_mapI, Bool.and_self]) <;> fail))); (focus (first | ((simp only [go_sem, hc]) <;> fail) | rfl))) | refine vcP_safe (h95) rfl rfl (by (simp only [go_sem, hc])) ?_ | refine dCallP_safe (h95) rfl rfl ?_ | (refine vcP_pure (n70 h) rfl ?_ ?_ ?_; (focus (first | rfl | ((simp only [go_sem, hc, AV.pureL, AV.pure, pureL_mapI, Bool.and_self]) <;> fail))); (focus (first | ((simp only [go_sem, hc]) <;> fail) | rfl))) | (refine dCallP_pure (n70 h) rfl ?_ ?_ ?_; (focus (first | rfl | ((simp only [go_sem, hc, AV.pureL, AV.pure, pureL_mapI, Bool.and_self]) <;> fail))); (focus (first | ((simp only [go_sem, hc]) <;> fail) | rfl))) | refine vcP_safe (n70 h) rfl rfl (by (simp only [go_sem, hc])) ?_ | refine dCallP_safe (n70 h) rfl rfl ?_) | (simp only [go_sem, hc])))
  · have hc := check_no hv
    rw [show knS s l = 20 from by simp [kn, hv]]
    refine PC.body Try.func81 (by kernel_rfl) rfl (by simp [Try.f81]) rfl ?_
    simp only [Try.f81]
    intro hlen
    simp only [go_sem, List.length_map, and_true, true_and] at hlen
    refine CV.run ?_
    (repeat' (first | ((first | with_reducible refine vcG_split ?_ ?_ | with_reducible refine vcIf_split ?_ ?_ | with_reducible refine vcQ_split ?_ ?_ | with_reducible refine vcDG_split ?_ ?_) <;> intro hb <;> (try rw [hb]) <;> (try simp only [Bool.and_eq_true, Bool.or_eq_true, dtrue, dfalse, Bool.not_eq_true', Bool.not_eq_false', Bool.and_eq_false_iff, Bool.or_eq_false_iff, Bool.not_true, Bool.not_false] at hb) <;> (try simp only [within] at hb) <;> try (simp only [go_sem, hc])) | refine And.intro (by (first | exact trivial | (simp only [I64]; omega) | omega)) ?_ | (with_reducible rw [vc_draw_eq]; first | refine CV.draw (id := 4) [(0, 0), (0, 0), (0, 0), (0, 0), (0, 0), (0, 0), (0, 0), (0, 0), (0, 0)] mixed rfl (by kernel_rfl) ?_) | (first | (refine vcP_pure (c54 _) rfl ?_ ?_ ?_; (focus (first | rfl | ((simp only [go_sem, hc, AV.pureL, AV.pure, pureL_mapI, Bool.and_self]) <;> fail))); (focus (first | ((simp only [go_sem, hc]) <;> fail) | rfl))) | (refine dCallP_pure (c54 _) rfl ?_ ?_ ?_; (focus (first | rfl | ((simp only [go_sem, hc, AV.pureL, AV.pure, pureL_mapI, Bool.and_self]) <;> fail))); (focus (first | ((simp only [go_sem, hc]) <;> fail) | rfl))) | refine vcP_safe (c54 _) rfl rfl (by (simp only [go_sem, hc])) ?_ | refine dCallP_safe (c54 _) rfl rfl ?_) | (simp only [go_sem, hc])))
    all_goals (exfalso; omega)
theorem su_get {s : Shop} (hv : valid s) {k : Nat} (hk : k < s.ms.length) : (su s (aW s))[k]? = some (lo s k) := by
  have h5 := hv.2.1
  rw [su, arr_get (by omega)]
  simp [suF, hk, lo]
theorem lv_get {s : Shop} (hv : valid s) {w : List Int} {k : Nat} (hk : k < s.ms.length) : (lv s w)[k]? = some (lf s w k) := by
  have h5 := hv.2.1
  rw [lv, lvT, arr_get (by omega)]
  simp [lvF, hk]
theorem encL_get {s : Shop} {W : List (List Int)} {j : Nat} {w : List Int} (h : W[j]? = some w) : (encL s W)[j]? = some ((lv s w).map I) := by
  simp [h]
theorem encL_len {s : Shop} {W : List (List Int)} : (encL s W).length = W.length := by simp
theorem c78 (s : Shop) (hv : valid s) (p : Int) : PC Try.prog 78 [.pp (cX s), .int .i64 p] (.int .i64 (sur s p)) := by
  have h5 := hv.2.1
  refine PC.body Try.func78 (by kernel_rfl) rfl (by simp [Try.f78]) rfl ?_
  simp only [Try.f78]
  intro hlen
  simp only [go_sem, List.length_map, and_true, true_and] at hlen
  refine CV.run ?_
  (repeat' (first | ((first | with_reducible refine vcG_split ?_ ?_ | with_reducible refine vcIf_split ?_ ?_ | with_reducible refine vcQ_split ?_ ?_ | with_reducible refine vcDG_split ?_ ?_) <;> intro hb <;> (try rw [hb]) <;> (try simp only [Bool.and_eq_true, Bool.or_eq_true, dtrue, dfalse, Bool.not_eq_true', Bool.not_eq_false', Bool.and_eq_false_iff, Bool.or_eq_false_iff, Bool.not_true, Bool.not_false] at hb) <;> (try simp only [within] at hb) <;> try (simp only [go_sem])) | refine And.intro (by (first | exact trivial | (simp only [I64]; omega) | omega)) ?_ | fail | (simp only [go_sem])))
  refine vc_for (fun j => ⟨[(14, .int .i64 j), (5, .int .i64 (surT s p j)), (13, .int .i64 s.ms.length), (12, .lst false 3 (s.ms.map encD)), (4, .int .i64 0), (0, .pp (cX s)), (1, .int .i64 p)], []⟩) s.ms.length (fun j => True) (by (first | exact wk_same (by (simp only [go_sem, Int.natCast_add, Int.natCast_one, Int.natCast_zero, Int.cast_ofNat_Int, surT])) | exact wk_drop (by (simp only [go_sem, Int.natCast_add, Int.natCast_one, Int.natCast_zero, Int.cast_ofNat_Int, surT])) (by (simp only [go_sem, Int.natCast_add, Int.natCast_one, Int.natCast_zero, Int.cast_ofNat_Int, surT])) (by (simp only [go_sem, Int.natCast_add, Int.natCast_one, Int.natCast_zero, Int.cast_ofNat_Int, surT])) (by (simp only [go_sem, Int.natCast_add, Int.natCast_one, Int.natCast_zero, Int.cast_ofNat_Int, surT])) (by (simp only [go_sem, Int.natCast_add, Int.natCast_one, Int.natCast_zero, Int.cast_ofNat_Int, surT])))) trivial ?_
  intro j hj _
  have hb := surT_bounds hv p j
  rcases Nat.lt_or_ge j s.ms.length with hlt | hge
  · obtain ⟨m, hm⟩ := get_of hlt
    have hlt' : (j : Int) < s.ms.length := by omega
    have hj5 : (j : Int) < 5 := by omega
    have hlb := lo_bounds hv (W := aW s) (fun w hw => aW_mem hw) j hlt
    change 0 ≤ lo s j ∧ lo s j ≤ 12 ∧ _ at hlb
    have hg := su_get hv hlt
    by_cases hp : m.page = p
    · have e : surT s p (j + 1) = surT s p j + lo s j := by simp [surT, sur1, hm, hp]
      (repeat' (first | ((first | with_reducible refine vcG_split ?_ ?_ | with_reducible refine vcIf_split ?_ ?_ | with_reducible refine vcQ_split ?_ ?_ | with_reducible refine vcDG_split ?_ ?_) <;> intro hb <;> (try rw [hb]) <;> (try simp only [Bool.and_eq_true, Bool.or_eq_true, dtrue, dfalse, Bool.not_eq_true', Bool.not_eq_false', Bool.and_eq_false_iff, Bool.or_eq_false_iff, Bool.not_true, Bool.not_false] at hb) <;> (try simp only [within] at hb) <;> try (simp only [go_sem, hlt', hm, hp, encD, hj5, hg, getI, drop_head, Option.map_some, I, Nat.mul_one])) | refine And.intro (by (first | exact trivial | (simp only [I64]; omega) | omega)) ?_ | fail | (simp only [go_sem, hlt', hm, hp, encD, hj5, hg, getI, drop_head, Option.map_some, I, Nat.mul_one])))
      (first | exact wk_same (by (simp only [go_sem, Int.natCast_add, Int.natCast_one, Int.natCast_zero, Int.cast_ofNat_Int, e])) | exact wk_drop (by (simp only [go_sem, Int.natCast_add, Int.natCast_one, Int.natCast_zero, Int.cast_ofNat_Int, e])) (by (simp only [go_sem, Int.natCast_add, Int.natCast_one, Int.natCast_zero, Int.cast_ofNat_Int, e])) (by (simp only [go_sem, Int.natCast_add, Int.natCast_one, Int.natCast_zero, Int.cast_ofNat_Int, e])) (by (simp only [go_sem, Int.natCast_add, Int.natCast_one, Int.natCast_zero, Int.cast_ofNat_Int, e])) (by (simp only [go_sem, Int.natCast_add, Int.natCast_one, Int.natCast_zero, Int.cast_ofNat_Int, e])))
    · have e : surT s p (j + 1) = surT s p j := by simp [surT, sur1, hm, hp]
      (repeat' (first | ((first | with_reducible refine vcG_split ?_ ?_ | with_reducible refine vcIf_split ?_ ?_ | with_reducible refine vcQ_split ?_ ?_ | with_reducible refine vcDG_split ?_ ?_) <;> intro hb <;> (try rw [hb]) <;> (try simp only [Bool.and_eq_true, Bool.or_eq_true, dtrue, dfalse, Bool.not_eq_true', Bool.not_eq_false', Bool.and_eq_false_iff, Bool.or_eq_false_iff, Bool.not_true, Bool.not_false] at hb) <;> (try simp only [within] at hb) <;> try (simp only [go_sem, hlt', hm, hp, encD])) | refine And.intro (by (first | exact trivial | (simp only [I64]; omega) | omega)) ?_ | fail | (simp only [go_sem, hlt', hm, hp, encD])))
      (first | exact wk_same (by (simp only [go_sem, Int.natCast_add, Int.natCast_one, Int.natCast_zero, Int.cast_ofNat_Int, e])) | exact wk_drop (by (simp only [go_sem, Int.natCast_add, Int.natCast_one, Int.natCast_zero, Int.cast_ofNat_Int, e])) (by (simp only [go_sem, Int.natCast_add, Int.natCast_one, Int.natCast_zero, Int.cast_ofNat_Int, e])) (by (simp only [go_sem, Int.natCast_add, Int.natCast_one, Int.natCast_zero, Int.cast_ofNat_Int, e])) (by (simp only [go_sem, Int.natCast_add, Int.natCast_one, Int.natCast_zero, Int.cast_ofNat_Int, e])) (by (simp only [go_sem, Int.natCast_add, Int.natCast_one, Int.natCast_zero, Int.cast_ofNat_Int, e])))
  · have hge' : ¬ (j : Int) < s.ms.length := by omega
    have : j = s.ms.length := by omega
    subst this
    (repeat' (first | ((first | with_reducible refine vcG_split ?_ ?_ | with_reducible refine vcIf_split ?_ ?_ | with_reducible refine vcQ_split ?_ ?_ | with_reducible refine vcDG_split ?_ ?_) <;> intro hb <;> (try rw [hb]) <;> (try simp only [Bool.and_eq_true, Bool.or_eq_true, dtrue, dfalse, Bool.not_eq_true', Bool.not_eq_false', Bool.and_eq_false_iff, Bool.or_eq_false_iff, Bool.not_true, Bool.not_false] at hb) <;> (try simp only [within] at hb) <;> try (simp only [go_sem, hge', sur])) | refine And.intro (by (first | exact trivial | (simp only [I64]; omega) | omega)) ?_ | fail | (simp only [go_sem, hge', sur])))
theorem c101 (s : Shop) (hv : valid s) (l w : List Int) (hl : l.length = s.ms.length) : PC Try.prog 101 [.agg ((lv s w).map I), lN l] (.bool (holdsB s l w)) := by
  have h5 := hv.2.1
  refine PC.body Try.func101 (by kernel_rfl) rfl (by simp [Try.f101]) rfl ?_
  simp only [Try.f101]
  intro hlen
  simp only [go_sem, List.length_map, and_true, true_and] at hlen
  refine CV.run ?_
  (repeat' (first | ((first | with_reducible refine vcG_split ?_ ?_ | with_reducible refine vcIf_split ?_ ?_ | with_reducible refine vcQ_split ?_ ?_ | with_reducible refine vcDG_split ?_ ?_) <;> intro hb <;> (try rw [hb]) <;> (try simp only [Bool.and_eq_true, Bool.or_eq_true, dtrue, dfalse, Bool.not_eq_true', Bool.not_eq_false', Bool.and_eq_false_iff, Bool.or_eq_false_iff, Bool.not_true, Bool.not_false] at hb) <;> (try simp only [within] at hb) <;> try (simp only [go_sem])) | refine And.intro (by (first | exact trivial | (simp only [I64]; omega) | omega)) ?_ | fail | (simp only [go_sem])))
  refine vc_for (fun j => ⟨[(9, .int .i64 j), (8, .int .i64 l.length), (7, lN l), (4, .bool false), (2, .lp 0 0)], [.box 82 ((lv s w).map I) false]⟩) l.length (fun j => allTo (fun i x => x ≤ lf s w i) l j) (by (first | exact wk_same (by (simp only [go_sem, Int.natCast_add, Int.natCast_one, Int.natCast_zero, Int.cast_ofNat_Int])) | exact wk_drop (by (simp only [go_sem, Int.natCast_add, Int.natCast_one, Int.natCast_zero, Int.cast_ofNat_Int])) (by (simp only [go_sem, Int.natCast_add, Int.natCast_one, Int.natCast_zero, Int.cast_ofNat_Int])) (by (simp only [go_sem, Int.natCast_add, Int.natCast_one, Int.natCast_zero, Int.cast_ofNat_Int])) (by (simp only [go_sem, Int.natCast_add, Int.natCast_one, Int.natCast_zero, Int.cast_ofNat_Int])) (by (simp only [go_sem, Int.natCast_add, Int.natCast_one, Int.natCast_zero, Int.cast_ofNat_Int])))) .zero ?_
  intro j hj hx
  rcases Nat.lt_or_ge j l.length with hlt | hge
  · obtain ⟨x, hxx⟩ := get_of hlt
    have hlt' : (j : Int) < l.length := by omega
    have hj5 : (j : Int) < 5 := by omega
    have hg := lv_get hv (w := w) (k := j) (by omega)
    (repeat' (first | ((first | with_reducible refine vcG_split ?_ ?_ | with_reducible refine vcIf_split ?_ ?_ | with_reducible refine vcQ_split ?_ ?_ | with_reducible refine vcDG_split ?_ ?_) <;> intro hb <;> (try rw [hb]) <;> (try simp only [Bool.and_eq_true, Bool.or_eq_true, dtrue, dfalse, Bool.not_eq_true', Bool.not_eq_false', Bool.and_eq_false_iff, Bool.or_eq_false_iff, Bool.not_true, Bool.not_false] at hb) <;> (try simp only [within] at hb) <;> try (simp only [go_sem, hlt', hxx, encN, hj5, hg, getI, drop_head, Option.map_some, I, Nat.mul_one])) | refine And.intro (by (first | exact trivial | (simp only [I64]; omega) | omega)) ?_ | fail | (simp only [go_sem, hlt', hxx, encN, hj5, hg, getI, drop_head, Option.map_some, I, Nat.mul_one])))
    · exact fB fun q => by have := holdsB_iff.1 q j x hxx; omega
    · exact ⟨by (first | exact wk_same (by (simp only [go_sem, Int.natCast_add, Int.natCast_one, Int.natCast_zero, Int.cast_ofNat_Int])) | exact wk_drop (by (simp only [go_sem, Int.natCast_add, Int.natCast_one, Int.natCast_zero, Int.cast_ofNat_Int])) (by (simp only [go_sem, Int.natCast_add, Int.natCast_one, Int.natCast_zero, Int.cast_ofNat_Int])) (by (simp only [go_sem, Int.natCast_add, Int.natCast_one, Int.natCast_zero, Int.cast_ofNat_Int])) (by (simp only [go_sem, Int.natCast_add, Int.natCast_one, Int.natCast_zero, Int.cast_ofNat_Int])) (by (simp only [go_sem, Int.natCast_add, Int.natCast_one, Int.natCast_zero, Int.cast_ofNat_Int]))), hx.succ hxx (by omega)⟩
  · have hge' : ¬ (j : Int) < l.length := by omega
    (repeat' (first | ((first | with_reducible refine vcG_split ?_ ?_ | with_reducible refine vcIf_split ?_ ?_ | with_reducible refine vcQ_split ?_ ?_ | with_reducible refine vcDG_split ?_ ?_) <;> intro hb <;> (try rw [hb]) <;> (try simp only [Bool.and_eq_true, Bool.or_eq_true, dtrue, dfalse, Bool.not_eq_true', Bool.not_eq_false', Bool.and_eq_false_iff, Bool.or_eq_false_iff, Bool.not_true, Bool.not_false] at hb) <;> (try simp only [within] at hb) <;> try (simp only [go_sem, hge'])) | refine And.intro (by (first | exact trivial | (simp only [I64]; omega) | omega)) ?_ | fail | (simp only [go_sem, hge'])))
    exact tB (holdsB_iff.2 fun i x hx2 => hx.all hge i x hx2)
theorem lv_take {s : Shop} {w : List Int} : List.take 5 (List.map I (lv s w)) = List.map I (lv s w) := List.take_of_length_le (by simp [lv_len])
theorem c73 (s : Shop) (hv : valid s) (l : List Int) (hl : l.length = s.ms.length) : PC Try.prog 73 [.pp (cX s), lN l] (.int .i64 (cnt s l)) := by
  have h6 := aW_len hv
  have hel := encL_len (s := s) (W := aW s)
  refine PC.body Try.func73 (by kernel_rfl) rfl (by simp [Try.f73]) rfl ?_
  simp only [Try.f73]
  intro hlen
  simp only [go_sem, List.length_map, and_true, true_and] at hlen
  refine CV.run ?_
  (repeat' (first | ((first | with_reducible refine vcG_split ?_ ?_ | with_reducible refine vcIf_split ?_ ?_ | with_reducible refine vcQ_split ?_ ?_ | with_reducible refine vcDG_split ?_ ?_) <;> intro hb <;> (try rw [hb]) <;> (try simp only [Bool.and_eq_true, Bool.or_eq_true, dtrue, dfalse, Bool.not_eq_true', Bool.not_eq_false', Bool.and_eq_false_iff, Bool.or_eq_false_iff, Bool.not_true, Bool.not_false] at hb) <;> (try simp only [within] at hb) <;> try (simp only [go_sem, hel])) | refine And.intro (by (first | exact trivial | (simp only [I64]; omega) | omega)) ?_ | fail | (simp only [go_sem, hel])))
  refine vc_for (fun j => ⟨[(13, .int .i64 j), (12, .int .i64 (aW s).length), (11, .lst false 5 (encL s (aW s))), (5, .int .i64 (cntP (holdsB s l) ((aW s).take j))), (4, .int .i64 0), (1, lN l)], []⟩) (aW s).length (fun j => True) (by (first | exact wk_same (by (simp only [go_sem, Int.natCast_add, Int.natCast_one, Int.natCast_zero, Int.cast_ofNat_Int, cntP, List.take_zero, List.filter_nil, List.length_nil])) | exact wk_drop (by (simp only [go_sem, Int.natCast_add, Int.natCast_one, Int.natCast_zero, Int.cast_ofNat_Int, cntP, List.take_zero, List.filter_nil, List.length_nil])) (by (simp only [go_sem, Int.natCast_add, Int.natCast_one, Int.natCast_zero, Int.cast_ofNat_Int, cntP, List.take_zero, List.filter_nil, List.length_nil])) (by (simp only [go_sem, Int.natCast_add, Int.natCast_one, Int.natCast_zero, Int.cast_ofNat_Int, cntP, List.take_zero, List.filter_nil, List.length_nil])) (by (simp only [go_sem, Int.natCast_add, Int.natCast_one, Int.natCast_zero, Int.cast_ofNat_Int, cntP, List.take_zero, List.filter_nil, List.length_nil])) (by (simp only [go_sem, Int.natCast_add, Int.natCast_one, Int.natCast_zero, Int.cast_ofNat_Int, cntP, List.take_zero, List.filter_nil, List.length_nil])))) trivial ?_
  intro j hj _
  have hb := cntP_bounds (holdsB s l) ((aW s).take j)
  rw [List.length_take] at hb
  rcases Nat.lt_or_ge j (aW s).length with hlt | hge
  · obtain ⟨w, hw⟩ := get_of hlt
    have hlt' : (j : Int) < (aW s).length := by omega
    have hg := encL_get (s := s) hw
    have h101 := c101 s hv l w hl
    have e := cntP_app (p := holdsB s l) (W := (aW s).take j) (w := w)
    rw [← take_succ hw] at e
    cases hB : holdsB s l w
    · rw [hB] at h101 e
      rw [if_neg (by simp), Int.add_zero] at e
      (repeat' (first | ((first | with_reducible refine vcG_split ?_ ?_ | with_reducible refine vcIf_split ?_ ?_ | with_reducible refine vcQ_split ?_ ?_ | with_reducible refine vcDG_split ?_ ?_) <;> intro hb <;> (try rw [hb]) <;> (try simp only [Bool.and_eq_true, Bool.or_eq_true, dtrue, dfalse, Bool.not_eq_true', Bool.not_eq_false', Bool.and_eq_false_iff, Bool.or_eq_false_iff, Bool.not_true, Bool.not_false] at hb) <;> (try simp only [within] at hb) <;> try (simp only [go_sem, hlt', hel, hg, lv_take, lv_len, List.length_map])) | refine And.intro (by (first | exact trivial | (simp only [I64]; omega) | omega)) ?_ | (first | (refine vcP_pure (h101) rfl ?_ ?_ ?_; (focus (first | rfl | ((simp only [go_sem, hlt', hel, hg, lv_take, lv_len, List.length_map, AV.pureL, AV.pure, pureL_mapI, Bool.and_self]) <;> fail))); (focus (first | ((simp only [go_sem, hlt', hel, hg, lv_take, lv_len, List.length_map]) <;> fail) | rfl))) | (refine dCallP_pure (h101) rfl ?_ ?_ ?_; (focus (first | rfl | ((simp only [go_sem, hlt', hel, hg, lv_take, lv_len, List.length_map, AV.pureL, AV.pure, pureL_mapI, Bool.and_self]) <;> fail))); (focus (first | ((simp only [go_sem, hlt', hel, hg, lv_take, lv_len, List.length_map]) <;> fail) | rfl))) | refine vcP_safe (h101) rfl rfl (by (simp only [go_sem, hlt', hel, hg, lv_take, lv_len, List.length_map])) ?_ | refine dCallP_safe (h101) rfl rfl ?_) | (simp only [go_sem, hlt', hel, hg, lv_take, lv_len, List.length_map])))
      all_goals first
        | (first | exact wk_same (by (simp only [go_sem, Int.natCast_add, Int.natCast_one, Int.natCast_zero, Int.cast_ofNat_Int, e])) | exact wk_drop (by (simp only [go_sem, Int.natCast_add, Int.natCast_one, Int.natCast_zero, Int.cast_ofNat_Int, e])) (by (simp only [go_sem, Int.natCast_add, Int.natCast_one, Int.natCast_zero, Int.cast_ofNat_Int, e])) (by (simp only [go_sem, Int.natCast_add, Int.natCast_one, Int.natCast_zero, Int.cast_ofNat_Int, e])) (by (simp only [go_sem, Int.natCast_add, Int.natCast_one, Int.natCast_zero, Int.cast_ofNat_Int, e])) (by (simp only [go_sem, Int.natCast_add, Int.natCast_one, Int.natCast_zero, Int.cast_ofNat_Int, e])))
        | trace_state
    · rw [hB] at h101 e
      rw [if_pos rfl] at e
      (repeat' (first | ((first | with_reducible refine vcG_split ?_ ?_ | with_reducible refine vcIf_split ?_ ?_ | with_reducible refine vcQ_split ?_ ?_ | with_reducible refine vcDG_split ?_ ?_) <;> intro hb <;> (try rw [hb]) <;> (try simp only [Bool.and_eq_true, Bool.or_eq_true, dtrue, dfalse, Bool.not_eq_true', Bool.not_eq_false', Bool.and_eq_false_iff, Bool.or_eq_false_iff, Bool.not_true, Bool.not_false] at hb) <;> (try simp only [within] at hb) <;> try (simp only [go_sem, hlt', hel, hg, lv_take, lv_len, List.length_map])) | refine And.intro (by (first | exact trivial | (simp only [I64]; omega) | omega)) ?_ | (first | (refine vcP_pure (h101) rfl ?_ ?_ ?_; (focus (first | rfl | ((simp only [go_sem, hlt', hel, hg, lv_take, lv_len, List.length_map, AV.pureL, AV.pure, pureL_mapI, Bool.and_self]) <;> fail))); (focus (first | ((simp only [go_sem, hlt', hel, hg, lv_take, lv_len, List.length_map]) <;> fail) | rfl))) | (refine dCallP_pure (h101) rfl ?_ ?_ ?_; (focus (first | rfl | ((simp only [go_sem, hlt', hel, hg, lv_take, lv_len, List.length_map, AV.pureL, AV.pure, pureL_mapI, Bool.and_self]) <;> fail))); (focus (first | ((simp only [go_sem, hlt', hel, hg, lv_take, lv_len, List.length_map]) <;> fail) | rfl))) | refine vcP_safe (h101) rfl rfl (by (simp only [go_sem, hlt', hel, hg, lv_take, lv_len, List.length_map])) ?_ | refine dCallP_safe (h101) rfl rfl ?_) | (simp only [go_sem, hlt', hel, hg, lv_take, lv_len, List.length_map])))
      all_goals first
        | (first | exact wk_same (by (simp only [go_sem, Int.natCast_add, Int.natCast_one, Int.natCast_zero, Int.cast_ofNat_Int, e])) | exact wk_drop (by (simp only [go_sem, Int.natCast_add, Int.natCast_one, Int.natCast_zero, Int.cast_ofNat_Int, e])) (by (simp only [go_sem, Int.natCast_add, Int.natCast_one, Int.natCast_zero, Int.cast_ofNat_Int, e])) (by (simp only [go_sem, Int.natCast_add, Int.natCast_one, Int.natCast_zero, Int.cast_ofNat_Int, e])) (by (simp only [go_sem, Int.natCast_add, Int.natCast_one, Int.natCast_zero, Int.cast_ofNat_Int, e])) (by (simp only [go_sem, Int.natCast_add, Int.natCast_one, Int.natCast_zero, Int.cast_ofNat_Int, e])))
        | trace_state
  · have hge' : ¬ (j : Int) < (aW s).length := by omega
    have : (aW s).take j = aW s := List.take_of_length_le hge
    (repeat' (first | ((first | with_reducible refine vcG_split ?_ ?_ | with_reducible refine vcIf_split ?_ ?_ | with_reducible refine vcQ_split ?_ ?_ | with_reducible refine vcDG_split ?_ ?_) <;> intro hb <;> (try rw [hb]) <;> (try simp only [Bool.and_eq_true, Bool.or_eq_true, dtrue, dfalse, Bool.not_eq_true', Bool.not_eq_false', Bool.and_eq_false_iff, Bool.or_eq_false_iff, Bool.not_true, Bool.not_false] at hb) <;> (try simp only [within] at hb) <;> try (simp only [go_sem, hge', this, cnt])) | refine And.intro (by (first | exact trivial | (simp only [I64]; omega) | omega)) ?_ | fail | (simp only [go_sem, hge', this, cnt])))
end Go.Proofs.Ytekdocalipchpaa
