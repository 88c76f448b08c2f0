/- Contracts of functions of the given program, without a condition beyond those that each theorem states; they lead to the given statement. -/
import Derived.Test.YtekdocalipchpaaV03o
set_option linter.unusedSimpArgs false
set_option linter.unusedVariables false
set_option linter.unusedVariables false
set_option maxRecDepth 100000
namespace Go.Proofs.Ytekdocalipchpaa
open Go Go.Fl
open Classical
/-! ### What a test shows -/
theorem upd_one {m : Mould} : upd1 m 1 = ⟨m.page, m.used, 1⟩ := if_pos rfl
theorem cast_ok {s : Shop} (hv : valid s) {i : Nat} {m : Mould} (hm : s.ms[i]? = some m) (hu : m.used < 12) (br : Int) (h01 : br = 0 ∨ br = 1) : valid (castS s i br) := by
  obtain ⟨h1, h2, h3, h4, h5, h6, h7⟩ := hv
  refine ⟨h1, by rw [castM_len]; exact h2, h3, h4, h5, fun x hx => ?_, fun w hw => ?_⟩
  · obtain ⟨j, hj⟩ := List.mem_iff_getElem?.1 hx
    simp only at hj
    rw [castM_get hm] at hj
    have hmm := h6 m (List.mem_of_getElem? hm)
    split at hj
    · cases hj
      unfold okM within at *
      rcases h01 with rfl | rfl
      · rw [upd0]; simp only; omega
      · rw [upd_one]; simp only; omega
    · exact h6 x (List.mem_of_getElem? hj)
  · have := h7 w hw
    unfold okW at *
    rw [castM_len]; exact this
theorem try_yes {s : Shop} {i : Nat} {m : Mould} (hm : s.ms[i]? = some m) (hb : ¬ m.broke = 1) {w : List Int} (hw : agrB s w = true) : agrB (castS s i 0) w = !zero0 s i w := by
  have hi := agr1_iff.1 (agrB_iff.1 hw i m hm)
  have e : lf s w i = gv w i - m.used := by unfold lf; rw [uo_of hm]
  cases hz : zero0 s i w
  · have hz' : ¬ lf s w i = 0 := by simpa [zero0] using hz
    rw [Bool.not_false]
    refine agrB_iff.2 fun j m' hm' => ?_
    rw [castM_get hm] at hm'
    split at hm'
    · cases hm'
      rename_i he
      subst he
      rw [upd0]
      exact agr1_iff.2 ⟨by simp only; omega, fun q => absurd q hb⟩
    · exact agrB_iff.1 hw j m' hm'
  · have hz' : lf s w i = 0 := by simpa [zero0] using hz
    rw [Bool.not_true]
    cases hq : agrB (castS s i 0) w
    · rfl
    · have := (agr1_iff.1 (agrB_iff.1 hq i (upd1 m 0) (by rw [castM_get hm, if_pos rfl]))).1
      rw [upd0] at this
      simp only at this
      omega
theorem fail_agr {s : Shop} {i : Nat} {m : Mould} (hm : s.ms[i]? = some m) (hb : ¬ m.broke = 1) {w : List Int} : agrB (castS s i 1) w = (agrB s w && zero0 s i w) := by
  have e : lf s w i = gv w i - m.used := by unfold lf; rw [uo_of hm]
  rw [Bool.eq_iff_iff, Bool.and_eq_true]
  constructor
  · intro h
    have h1 := agr1_iff.1 (agrB_iff.1 h i (upd1 m 1) (by rw [castM_get hm, if_pos rfl]))
    rw [upd_one] at h1
    have h2 := h1.2 rfl
    simp only at h2
    refine ⟨agrB_iff.2 fun j m' hm' => ?_, by simp only [zero0, decide_eq_true_eq]; omega⟩
    by_cases he : j = i
    · subst he
      rw [hm] at hm'; cases hm'
      exact agr1_iff.2 ⟨by omega, fun q => absurd q hb⟩
    · exact agrB_iff.1 h j m' (by rw [castM_get hm, if_neg he]; exact hm')
  · rintro ⟨h1, h2⟩
    have h2' : lf s w i = 0 := by simpa [zero0] using h2
    refine agrB_iff.2 fun j m' hm' => ?_
    rw [castM_get hm] at hm'
    split at hm'
    · cases hm'
      rename_i he
      subst he
      rw [upd_one]
      exact agr1_iff.2 ⟨by simp only; omega, fun _ => by simp only; omega⟩
    · exact agrB_iff.1 h1 j m' hm'
theorem len_split {α : Type} (p : α → Bool) : ∀ l : List α, (l.filter fun a => !p a).length + (l.filter p).length = l.length
  | [] => rfl
  | a :: l => by
    have ih := len_split p l
    cases h : p a <;> simp [h] <;> omega
theorem try_len {s : Shop} {i : Nat} {m : Mould} (hm : s.ms[i]? = some m) (hb : ¬ m.broke = 1) : ((aW (castS s i 0)).length : Int) = (aW s).length - tired s i := by
  have h1 : aW (castS s i 0) = (aW s).filter fun w => !zero0 s i w := by
    rw [cast_aW hm hb]
    exact List.filter_congr fun w hw => try_yes hm hb (aW_mem hw).2
  have h2 := len_split (zero0 s i) (aW s)
  rw [h1]
  unfold tired cntP
  omega
theorem fail_len {s : Shop} {i : Nat} {m : Mould} (hm : s.ms[i]? = some m) (hb : ¬ m.broke = 1) : ((aW (castS s i 1)).length : Int) = tired s i := by
  have h1 : aW (castS s i 1) = (aW s).filter (zero0 s i) := by
    unfold aW
    rw [List.filter_filter]
    exact List.filter_congr fun w hw => by rw [fail_agr hm hb, Bool.and_comm]
  rw [h1]
  rfl
theorem c65 (s : Shop) (hv : valid s) (i : Nat) (m : Mould) (hm : s.ms[i]? = some m) (hb : ¬ m.broke = 1) (hu : m.used < 12) : PC Try.prog 65 [hS s, .int .i64 i] (.int .i64 (worse s i)) := by
  have hmb := hv.mould hm
  have h42 := c42 s hv.small i m hm (by omega)
  have a0 := c43 (castS s i 0)
  have a1 := c43 (castS s i 1)
  rw [show rWorlds (castS s i 0) = _ from ans_yes (check_0.2 (cast_ok hv hm hu 0 (.inl rfl)))] at a0
  rw [show rWorlds (castS s i 1) = _ from ans_yes (check_0.2 (cast_ok hv hm hu 1 (.inr rfl)))] at a1
  have l0 := try_len hm hb
  have l1 := fail_len hm hb
  have w0 := wl_len (castS s i 0)
  have w1 := wl_len (castS s i 1)
  have n3 : (aW s).length ≤ s.ws.length := List.length_filter_le _ _
  have n6 := aW_len hv
  have n4 : ¬ (s.ws.length : Int) < (aW s).length := by omega
  have tb := tired_bounds s i
  have e : ((aW s).length : Int) - tired s i + tired s i = (aW s).length := by omega
  have e2 : max (((aW s).length : Int) - tired s i) (tired s i) = worse s i := by unfold worse; omega
  refine PC.body Try.func65 (by kernel_rfl) rfl (by simp [Try.f65]) rfl ?_
  simp only [Try.f65]
  intro hlen
  simp only [go_sem, List.length_map, and_true, true_and] at hlen
  refine CV.run ?_
  (repeat' (first | ((first | with_reducible refine vcG_split ?_ ?_ | with_reducible refine vcIf_split ?_ ?_ | with_reducible refine vcQ_split ?_ ?_ | with_reducible refine vcDG_split ?_ ?_) <;> intro hb <;> (try rw [hb]) <;> (try simp only [Bool.and_eq_true, Bool.or_eq_true, dtrue, dfalse, Bool.not_eq_true', Bool.not_eq_false', Bool.and_eq_false_iff, Bool.or_eq_false_iff, Bool.not_true, Bool.not_false] at hb) <;> (try simp only [within] at hb) <;> try (simp only [go_sem, w0, w1, l0, l1, e, e2, n4])) | refine And.intro (by (first | exact trivial | (simp only [I64]; omega) | omega)) ?_ | (first | (refine vcP_pure (h42 0) rfl ?_ ?_ ?_; (focus (first | rfl | ((simp only [go_sem, w0, w1, l0, l1, e, e2, n4, AV.pureL, AV.pure, pureL_mapI, Bool.and_self]) <;> fail))); (focus (first | ((simp only [go_sem, w0, w1, l0, l1, e, e2, n4]) <;> fail) | rfl))) | (refine dCallP_pure (h42 0) rfl ?_ ?_ ?_; (focus (first | rfl | ((simp only [go_sem, w0, w1, l0, l1, e, e2, n4, AV.pureL, AV.pure, pureL_mapI, Bool.and_self]) <;> fail))); (focus (first | ((simp only [go_sem, w0, w1, l0, l1, e, e2, n4]) <;> fail) | rfl))) | refine vcP_safe (h42 0) rfl rfl (by (simp only [go_sem, w0, w1, l0, l1, e, e2, n4])) ?_ | refine dCallP_safe (h42 0) rfl rfl ?_ | (refine vcP_pure (h42 1) rfl ?_ ?_ ?_; (focus (first | rfl | ((simp only [go_sem, w0, w1, l0, l1, e, e2, n4, AV.pureL, AV.pure, pureL_mapI, Bool.and_self]) <;> fail))); (focus (first | ((simp only [go_sem, w0, w1, l0, l1, e, e2, n4]) <;> fail) | rfl))) | (refine dCallP_pure (h42 1) rfl ?_ ?_ ?_; (focus (first | rfl | ((simp only [go_sem, w0, w1, l0, l1, e, e2, n4, AV.pureL, AV.pure, pureL_mapI, Bool.and_self]) <;> fail))); (focus (first | ((simp only [go_sem, w0, w1, l0, l1, e, e2, n4]) <;> fail) | rfl))) | refine vcP_safe (h42 1) rfl rfl (by (simp only [go_sem, w0, w1, l0, l1, e, e2, n4])) ?_ | refine dCallP_safe (h42 1) rfl rfl ?_ | (refine vcP_pure (a0) rfl ?_ ?_ ?_; (focus (first | rfl | ((simp only [go_sem, w0, w1, l0, l1, e, e2, n4, AV.pureL, AV.pure, pureL_mapI, Bool.and_self]) <;> fail))); (focus (first | ((simp only [go_sem, w0, w1, l0, l1, e, e2, n4]) <;> fail) | rfl))) | (refine dCallP_pure (a0) rfl ?_ ?_ ?_; (focus (first | rfl | ((simp only [go_sem, w0, w1, l0, l1, e, e2, n4, AV.pureL, AV.pure, pureL_mapI, Bool.and_self]) <;> fail))); (focus (first | ((simp only [go_sem, w0, w1, l0, l1, e, e2, n4]) <;> fail) | rfl))) | refine vcP_safe (a0) rfl rfl (by (simp only [go_sem, w0, w1, l0, l1, e, e2, n4])) ?_ | refine dCallP_safe (a0) rfl rfl ?_ | (refine vcP_pure (a1) rfl ?_ ?_ ?_; (focus (first | rfl | ((simp only [go_sem, w0, w1, l0, l1, e, e2, n4, AV.pureL, AV.pure, pureL_mapI, Bool.and_self]) <;> fail))); (focus (first | ((simp only [go_sem, w0, w1, l0, l1, e, e2, n4]) <;> fail) | rfl))) | (refine dCallP_pure (a1) rfl ?_ ?_ ?_; (focus (first | rfl | ((simp only [go_sem, w0, w1, l0, l1, e, e2, n4, AV.pureL, AV.pure, pureL_mapI, Bool.and_self]) <;> fail))); (focus (first | ((simp only [go_sem, w0, w1, l0, l1, e, e2, n4]) <;> fail) | rfl))) | refine vcP_safe (a1) rfl rfl (by (simp only [go_sem, w0, w1, l0, l1, e, e2, n4])) ?_ | refine dCallP_safe (a1) rfl rfl ?_) | (simp only [go_sem, w0, w1, l0, l1, e, e2, n4])))
  all_goals omega
theorem teT_spec (s : Shop) : ∀ k : Nat, ((teT s k).1 = -1 ∧ (teT s k).2 = (aW s).length ∧ ∀ j : Nat, j < k → (aW s).length ≤ worse s j) ∨
    ∃ i : Nat, (teT s k).1 = i ∧ i < k ∧ (teT s k).2 = worse s i ∧ worse s i < (aW s).length ∧ (∀ j : Nat, j < k → worse s i ≤ worse s j) ∧ ∀ j : Nat, j < i → worse s i < worse s j
  | 0 => .inl ⟨rfl, rfl, fun j h => by omega⟩
  | k + 1 => by
    simp only [teT]
    rcases teT_spec s k with ⟨h1, h2, h3⟩ | ⟨i, h1, h2, h3, h4, h5, h6⟩
    · split
      · rename_i h
        rw [h2] at h
        refine .inr ⟨k, rfl, by omega, rfl, h, fun j hj => ?_, fun j hj => ?_⟩
        · by_cases he : j = k
          · subst he; omega
          · have := h3 j (by omega); omega
        · have := h3 j hj; omega
      · rename_i h
        rw [h2] at h
        refine .inl ⟨h1, h2, fun j hj => ?_⟩
        by_cases he : j = k
        · subst he; omega
        · exact h3 j (by omega)
    · split
      · rename_i h
        rw [h3] at h
        refine .inr ⟨k, rfl, by omega, rfl, by omega, fun j hj => ?_, fun j hj => ?_⟩
        · by_cases he : j = k
          · subst he; omega
          · have := h5 j (by omega); omega
        · have := h5 j hj; omega
      · rename_i h
        rw [h3] at h
        refine .inr ⟨i, h1, by omega, h3, h4, fun j hj => ?_, h6⟩
        by_cases he : j = k
        · subst he; omega
        · exact h5 j (by omega)
theorem tired_broke {s : Shop} {i : Nat} {m : Mould} (hm : s.ms[i]? = some m) (hb : m.broke = 1) : tired s i = (aW s).length := by
  unfold tired cntP
  rw [List.filter_eq_self.2 fun w hw => ?_]
  have := (agr1_iff.1 (agrB_iff.1 (aW_mem hw).2 i m hm)).2 hb
  simp only [zero0, decide_eq_true_eq]
  unfold lf
  rw [uo_of hm]; omega
theorem tired_full {s : Shop} (hv : valid s) {i : Nat} {m : Mould} (hm : s.ms[i]? = some m) (hb : m.used = 12) : tired s i = (aW s).length := by
  unfold tired cntP
  rw [List.filter_eq_self.2 fun w hw => ?_]
  have h1 := (agr1_iff.1 (agrB_iff.1 (aW_mem hw).2 i m hm)).1
  obtain ⟨j, hj⟩ := List.mem_iff_getElem?.1 (aW_mem hw).1
  obtain ⟨q1, q2⟩ := hv.world hj
  obtain ⟨x, hx⟩ := get_of (l := w) (j := i) (by rw [q1]; exact (List.getElem?_eq_some_iff.1 hm).1)
  have q3 := q2 x (List.mem_of_getElem? hx)
  rw [gv_nat hx] at h1
  simp only [zero0, decide_eq_true_eq]
  unfold lf
  rw [uo_of hm, gv_nat hx]; omega
set_option maxHeartbeats 2000000 in
theorem c13 (s : Shop) (i : Int) : PC Try.prog 13 [hS s, .int .i64 i] (.bool true) := by
  have h15 := c15 s
  by_cases hk : ¬ kno s
  · rw [decide_eq_false hk] at h15
    refine PC.body Try.func13 (by kernel_rfl) rfl (by simp [Try.f13]) rfl ?_
    simp only [Try.f13]
    intro hlen
    simp only [go_sem, List.length_map, and_true, true_and] at hlen
    refine CV.run ?_
    (repeat' (first | ((first | with_reducible refine vcG_split ?_ ?_ | with_reducible refine vcIf_split ?_ ?_ | with_reducible refine vcQ_split ?_ ?_ | with_reducible refine vcDG_split ?_ ?_) <;> intro hb <;> (try rw [hb]) <;> (try simp only [Bool.and_eq_true, Bool.or_eq_true, dtrue, dfalse, Bool.not_eq_true', Bool.not_eq_false', Bool.and_eq_false_iff, Bool.or_eq_false_iff, Bool.not_true, Bool.not_false] at hb) <;> (try simp only [within] at hb) <;> try (simp only [go_sem])) | refine And.intro (by (first | exact trivial | (simp only [I64]; omega) | omega)) ?_ | (first | (refine vcP_pure (h15) rfl ?_ ?_ ?_; (focus (first | rfl | ((simp only [go_sem, AV.pureL, AV.pure, pureL_mapI, Bool.and_self]) <;> fail))); (focus (first | ((simp only [go_sem]) <;> fail) | rfl))) | (refine dCallP_pure (h15) rfl ?_ ?_ ?_; (focus (first | rfl | ((simp only [go_sem, AV.pureL, AV.pure, pureL_mapI, Bool.and_self]) <;> fail))); (focus (first | ((simp only [go_sem]) <;> fail) | rfl))) | refine vcP_safe (h15) rfl rfl (by (simp only [go_sem])) ?_ | refine dCallP_safe (h15) rfl rfl ?_ | (refine vcP_pure (c17) rfl ?_ ?_ ?_; (focus (first | rfl | ((simp only [go_sem, AV.pureL, AV.pure, pureL_mapI, Bool.and_self]) <;> fail))); (focus (first | ((simp only [go_sem]) <;> fail) | rfl))) | (refine dCallP_pure (c17) rfl ?_ ?_ ?_; (focus (first | rfl | ((simp only [go_sem, AV.pureL, AV.pure, pureL_mapI, Bool.and_self]) <;> fail))); (focus (first | ((simp only [go_sem]) <;> fail) | rfl))) | refine vcP_safe (c17) rfl rfl (by (simp only [go_sem])) ?_ | refine dCallP_safe (c17) rfl rfl ?_) | (simp only [go_sem])))
  have hk := Classical.not_not.1 hk
  rw [decide_eq_true hk] at h15
  have h41 := c41 s i
  by_cases hi : ¬ within i 0 (s.ms.length - 1)
  · rw [decide_eq_false hi] at h41
    refine PC.body Try.func13 (by kernel_rfl) rfl (by simp [Try.f13]) rfl ?_
    simp only [Try.f13]
    intro hlen
    simp only [go_sem, List.length_map, and_true, true_and] at hlen
    refine CV.run ?_
    (repeat' (first | ((first | with_reducible refine vcG_split ?_ ?_ | with_reducible refine vcIf_split ?_ ?_ | with_reducible refine vcQ_split ?_ ?_ | with_reducible refine vcDG_split ?_ ?_) <;> intro hb <;> (try rw [hb]) <;> (try simp only [Bool.and_eq_true, Bool.or_eq_true, dtrue, dfalse, Bool.not_eq_true', Bool.not_eq_false', Bool.and_eq_false_iff, Bool.or_eq_false_iff, Bool.not_true, Bool.not_false] at hb) <;> (try simp only [within] at hb) <;> try (simp only [go_sem])) | refine And.intro (by (first | exact trivial | (simp only [I64]; omega) | omega)) ?_ | (first | (refine vcP_pure (h15) rfl ?_ ?_ ?_; (focus (first | rfl | ((simp only [go_sem, AV.pureL, AV.pure, pureL_mapI, Bool.and_self]) <;> fail))); (focus (first | ((simp only [go_sem]) <;> fail) | rfl))) | (refine dCallP_pure (h15) rfl ?_ ?_ ?_; (focus (first | rfl | ((simp only [go_sem, AV.pureL, AV.pure, pureL_mapI, Bool.and_self]) <;> fail))); (focus (first | ((simp only [go_sem]) <;> fail) | rfl))) | refine vcP_safe (h15) rfl rfl (by (simp only [go_sem])) ?_ | refine dCallP_safe (h15) rfl rfl ?_ | (refine vcP_pure (h41) rfl ?_ ?_ ?_; (focus (first | rfl | ((simp only [go_sem, AV.pureL, AV.pure, pureL_mapI, Bool.and_self]) <;> fail))); (focus (first | ((simp only [go_sem]) <;> fail) | rfl))) | (refine dCallP_pure (h41) rfl ?_ ?_ ?_; (focus (first | rfl | ((simp only [go_sem, AV.pureL, AV.pure, pureL_mapI, Bool.and_self]) <;> fail))); (focus (first | ((simp only [go_sem]) <;> fail) | rfl))) | refine vcP_safe (h41) rfl rfl (by (simp only [go_sem])) ?_ | refine dCallP_safe (h41) rfl rfl ?_ | (refine vcP_pure (c17) rfl ?_ ?_ ?_; (focus (first | rfl | ((simp only [go_sem, AV.pureL, AV.pure, pureL_mapI, Bool.and_self]) <;> fail))); (focus (first | ((simp only [go_sem]) <;> fail) | rfl))) | (refine dCallP_pure (c17) rfl ?_ ?_ ?_; (focus (first | rfl | ((simp only [go_sem, AV.pureL, AV.pure, pureL_mapI, Bool.and_self]) <;> fail))); (focus (first | ((simp only [go_sem]) <;> fail) | rfl))) | refine vcP_safe (c17) rfl rfl (by (simp only [go_sem])) ?_ | refine dCallP_safe (c17) rfl rfl ?_) | (simp only [go_sem])))
  have hi := Classical.not_not.1 hi
  rw [decide_eq_true hi] at h41
  unfold within at hi
  obtain ⟨i, rfl⟩ := Int.eq_ofNat_of_zero_le hi.1
  have hil : (i : Int) < s.ms.length := by omega
  obtain ⟨m, hm⟩ := get_of (l := s.ms) (j := i) (by omega)
  have hv := hk.1
  have hmb := hv.mould hm
  by_cases hb : m.broke = 1
  · skip
    refine PC.body Try.func13 (by kernel_rfl) rfl (by simp [Try.f13]) rfl ?_
    simp only [Try.f13]
    intro hlen
    simp only [go_sem, List.length_map, and_true, true_and] at hlen
    refine CV.run ?_
    (repeat' (first | ((first | with_reducible refine vcG_split ?_ ?_ | with_reducible refine vcIf_split ?_ ?_ | with_reducible refine vcQ_split ?_ ?_ | with_reducible refine vcDG_split ?_ ?_) <;> intro hb <;> (try rw [hb]) <;> (try simp only [Bool.and_eq_true, Bool.or_eq_true, dtrue, dfalse, Bool.not_eq_true', Bool.not_eq_false', Bool.and_eq_false_iff, Bool.or_eq_false_iff, Bool.not_true, Bool.not_false] at hb) <;> (try simp only [within] at hb) <;> try (simp only [go_sem, hil, hm, hb, encD])) | refine And.intro (by (first | exact trivial | (simp only [I64]; omega) | omega)) ?_ | (first | (refine vcP_pure (h15) rfl ?_ ?_ ?_; (focus (first | rfl | ((simp only [go_sem, hil, hm, hb, encD, AV.pureL, AV.pure, pureL_mapI, Bool.and_self]) <;> fail))); (focus (first | ((simp only [go_sem, hil, hm, hb, encD]) <;> fail) | rfl))) | (refine dCallP_pure (h15) rfl ?_ ?_ ?_; (focus (first | rfl | ((simp only [go_sem, hil, hm, hb, encD, AV.pureL, AV.pure, pureL_mapI, Bool.and_self]) <;> fail))); (focus (first | ((simp only [go_sem, hil, hm, hb, encD]) <;> fail) | rfl))) | refine vcP_safe (h15) rfl rfl (by (simp only [go_sem, hil, hm, hb, encD])) ?_ | refine dCallP_safe (h15) rfl rfl ?_ | (refine vcP_pure (h41) rfl ?_ ?_ ?_; (focus (first | rfl | ((simp only [go_sem, hil, hm, hb, encD, AV.pureL, AV.pure, pureL_mapI, Bool.and_self]) <;> fail))); (focus (first | ((simp only [go_sem, hil, hm, hb, encD]) <;> fail) | rfl))) | (refine dCallP_pure (h41) rfl ?_ ?_ ?_; (focus (first | rfl | ((simp only [go_sem, hil, hm, hb, encD, AV.pureL, AV.pure, pureL_mapI, Bool.and_self]) <;> fail))); (focus (first | ((simp only [go_sem, hil, hm, hb, encD]) <;> fail) | rfl))) | refine vcP_safe (h41) rfl rfl (by (simp only [go_sem, hil, hm, hb, encD])) ?_ | refine dCallP_safe (h41) rfl rfl ?_ | (refine vcP_pure (c17) rfl ?_ ?_ ?_; (focus (first | rfl | ((simp only [go_sem, hil, hm, hb, encD, AV.pureL, AV.pure, pureL_mapI, Bool.and_self]) <;> fail))); (focus (first | ((simp only [go_sem, hil, hm, hb, encD]) <;> fail) | rfl))) | (refine dCallP_pure (c17) rfl ?_ ?_ ?_; (focus (first | rfl | ((simp only [go_sem, hil, hm, hb, encD, AV.pureL, AV.pure, pureL_mapI, Bool.and_self]) <;> fail))); (focus (first | ((simp only [go_sem, hil, hm, hb, encD]) <;> fail) | rfl))) | refine vcP_safe (c17) rfl rfl (by (simp only [go_sem, hil, hm, hb, encD])) ?_ | refine dCallP_safe (c17) rfl rfl ?_) | (simp only [go_sem, hil, hm, hb, encD])))
  by_cases hu : m.used = 12
  · skip
    refine PC.body Try.func13 (by kernel_rfl) rfl (by simp [Try.f13]) rfl ?_
    simp only [Try.f13]
    intro hlen
    simp only [go_sem, List.length_map, and_true, true_and] at hlen
    refine CV.run ?_
    (repeat' (first | ((first | with_reducible refine vcG_split ?_ ?_ | with_reducible refine vcIf_split ?_ ?_ | with_reducible refine vcQ_split ?_ ?_ | with_reducible refine vcDG_split ?_ ?_) <;> intro hb <;> (try rw [hb]) <;> (try simp only [Bool.and_eq_true, Bool.or_eq_true, dtrue, dfalse, Bool.not_eq_true', Bool.not_eq_false', Bool.and_eq_false_iff, Bool.or_eq_false_iff, Bool.not_true, Bool.not_false] at hb) <;> (try simp only [within] at hb) <;> try (simp only [go_sem, hil, hm, hb, hu, encD])) | refine And.intro (by (first | exact trivial | (simp only [I64]; omega) | omega)) ?_ | (first | (refine vcP_pure (h15) rfl ?_ ?_ ?_; (focus (first | rfl | ((simp only [go_sem, hil, hm, hb, hu, encD, AV.pureL, AV.pure, pureL_mapI, Bool.and_self]) <;> fail))); (focus (first | ((simp only [go_sem, hil, hm, hb, hu, encD]) <;> fail) | rfl))) | (refine dCallP_pure (h15) rfl ?_ ?_ ?_; (focus (first | rfl | ((simp only [go_sem, hil, hm, hb, hu, encD, AV.pureL, AV.pure, pureL_mapI, Bool.and_self]) <;> fail))); (focus (first | ((simp only [go_sem, hil, hm, hb, hu, encD]) <;> fail) | rfl))) | refine vcP_safe (h15) rfl rfl (by (simp only [go_sem, hil, hm, hb, hu, encD])) ?_ | refine dCallP_safe (h15) rfl rfl ?_ | (refine vcP_pure (h41) rfl ?_ ?_ ?_; (focus (first | rfl | ((simp only [go_sem, hil, hm, hb, hu, encD, AV.pureL, AV.pure, pureL_mapI, Bool.and_self]) <;> fail))); (focus (first | ((simp only [go_sem, hil, hm, hb, hu, encD]) <;> fail) | rfl))) | (refine dCallP_pure (h41) rfl ?_ ?_ ?_; (focus (first | rfl | ((simp only [go_sem, hil, hm, hb, hu, encD, AV.pureL, AV.pure, pureL_mapI, Bool.and_self]) <;> fail))); (focus (first | ((simp only [go_sem, hil, hm, hb, hu, encD]) <;> fail) | rfl))) | refine vcP_safe (h41) rfl rfl (by (simp only [go_sem, hil, hm, hb, hu, encD])) ?_ | refine dCallP_safe (h41) rfl rfl ?_ | (refine vcP_pure (c17) rfl ?_ ?_ ?_; (focus (first | rfl | ((simp only [go_sem, hil, hm, hb, hu, encD, AV.pureL, AV.pure, pureL_mapI, Bool.and_self]) <;> fail))); (focus (first | ((simp only [go_sem, hil, hm, hb, hu, encD]) <;> fail) | rfl))) | (refine dCallP_pure (c17) rfl ?_ ?_ ?_; (focus (first | rfl | ((simp only [go_sem, hil, hm, hb, hu, encD, AV.pureL, AV.pure, pureL_mapI, Bool.and_self]) <;> fail))); (focus (first | ((simp only [go_sem, hil, hm, hb, hu, encD]) <;> fail) | rfl))) | refine vcP_safe (c17) rfl rfl (by (simp only [go_sem, hil, hm, hb, hu, encD])) ?_ | refine dCallP_safe (c17) rfl rfl ?_) | (simp only [go_sem, hil, hm, hb, hu, encD])))
  have h50 := c50 s
  rw [rTest_yes (kno_kn hk trivial)] at h50
  have h26 := c26 s hv
  have hwl := wl_len s
  have h65 := c65 s hv i m hm hb (by omega)
  have tb := tired_bounds s i
  have w0 : ¬ worse s i < 0 := by unfold worse; omega
  have w1 : worse s i ≤ (aW s).length := by unfold worse; omega
  have k0 := c25 0
  have k3 := c25 3
  rw [decide_eq_true (by decide)] at k0 k3
  have h30 : ¬ (3 : Int) = 0 := by omega
  rcases teT_spec s s.ms.length with ⟨h1, h2, h3⟩ | ⟨n, h1, h2, h3, h4, h5, h6⟩
  · rw [h1, if_pos (by omega)] at h50
    have h7 := h3 i (by omega)
    have e : worse s i = (aW s).length := by omega
    refine PC.body Try.func13 (by kernel_rfl) rfl (by simp [Try.f13]) rfl ?_
    simp only [Try.f13]
    intro hlen
    simp only [go_sem, List.length_map, and_true, true_and] at hlen
    refine CV.run ?_
    have w0' : ¬ ((aW s).length : Int) < 0 := by omega
    (repeat' (first | ((first | with_reducible refine vcG_split ?_ ?_ | with_reducible refine vcIf_split ?_ ?_ | with_reducible refine vcQ_split ?_ ?_ | with_reducible refine vcDG_split ?_ ?_) <;> intro hb <;> (try rw [hb]) <;> (try simp only [Bool.and_eq_true, Bool.or_eq_true, dtrue, dfalse, Bool.not_eq_true', Bool.not_eq_false', Bool.and_eq_false_iff, Bool.or_eq_false_iff, Bool.not_true, Bool.not_false] at hb) <;> (try simp only [within] at hb) <;> try (simp only [go_sem, hil, hm, hb, hu, encD, hwl, e, h30, w0'])) | refine And.intro (by (first | exact trivial | (simp only [I64]; omega) | omega)) ?_ | (first | (refine vcP_pure (h15) rfl ?_ ?_ ?_; (focus (first | rfl | ((simp only [go_sem, hil, hm, hb, hu, encD, hwl, e, h30, w0', AV.pureL, AV.pure, pureL_mapI, Bool.and_self]) <;> fail))); (focus (first | ((simp only [go_sem, hil, hm, hb, hu, encD, hwl, e, h30, w0']) <;> fail) | rfl))) | (refine dCallP_pure (h15) rfl ?_ ?_ ?_; (focus (first | rfl | ((simp only [go_sem, hil, hm, hb, hu, encD, hwl, e, h30, w0', AV.pureL, AV.pure, pureL_mapI, Bool.and_self]) <;> fail))); (focus (first | ((simp only [go_sem, hil, hm, hb, hu, encD, hwl, e, h30, w0']) <;> fail) | rfl))) | refine vcP_safe (h15) rfl rfl (by (simp only [go_sem, hil, hm, hb, hu, encD, hwl, e, h30, w0'])) ?_ | refine dCallP_safe (h15) rfl rfl ?_ | (refine vcP_pure (h41) rfl ?_ ?_ ?_; (focus (first | rfl | ((simp only [go_sem, hil, hm, hb, hu, encD, hwl, e, h30, w0', AV.pureL, AV.pure, pureL_mapI, Bool.and_self]) <;> fail))); (focus (first | ((simp only [go_sem, hil, hm, hb, hu, encD, hwl, e, h30, w0']) <;> fail) | rfl))) | (refine dCallP_pure (h41) rfl ?_ ?_ ?_; (focus (first | rfl | ((simp only [go_sem, hil, hm, hb, hu, encD, hwl, e, h30, w0', AV.pureL, AV.pure, pureL_mapI, Bool.and_self]) <;> fail))); (focus (first | ((simp only [go_sem, hil, hm, hb, hu, encD, hwl, e, h30, w0']) <;> fail) | rfl))) | refine vcP_safe (h41) rfl rfl (by (simp only [go_sem, hil, hm, hb, hu, encD, hwl, e, h30, w0'])) ?_ | refine dCallP_safe (h41) rfl rfl ?_ | (refine vcP_pure (h50) rfl ?_ ?_ ?_; (focus (first | rfl | ((simp only [go_sem, hil, hm, hb, hu, encD, hwl, e, h30, w0', AV.pureL, AV.pure, pureL_mapI, Bool.and_self]) <;> fail))); (focus (first | ((simp only [go_sem, hil, hm, hb, hu, encD, hwl, e, h30, w0']) <;> fail) | rfl))) | (refine dCallP_pure (h50) rfl ?_ ?_ ?_; (focus (first | rfl | ((simp only [go_sem, hil, hm, hb, hu, encD, hwl, e, h30, w0', AV.pureL, AV.pure, pureL_mapI, Bool.and_self]) <;> fail))); (focus (first | ((simp only [go_sem, hil, hm, hb, hu, encD, hwl, e, h30, w0']) <;> fail) | rfl))) | refine vcP_safe (h50) rfl rfl (by (simp only [go_sem, hil, hm, hb, hu, encD, hwl, e, h30, w0'])) ?_ | refine dCallP_safe (h50) rfl rfl ?_ | (refine vcP_pure (h26) rfl ?_ ?_ ?_; (focus (first | rfl | ((simp only [go_sem, hil, hm, hb, hu, encD, hwl, e, h30, w0', AV.pureL, AV.pure, pureL_mapI, Bool.and_self]) <;> fail))); (focus (first | ((simp only [go_sem, hil, hm, hb, hu, encD, hwl, e, h30, w0']) <;> fail) | rfl))) | (refine dCallP_pure (h26) rfl ?_ ?_ ?_; (focus (first | rfl | ((simp only [go_sem, hil, hm, hb, hu, encD, hwl, e, h30, w0', AV.pureL, AV.pure, pureL_mapI, Bool.and_self]) <;> fail))); (focus (first | ((simp only [go_sem, hil, hm, hb, hu, encD, hwl, e, h30, w0']) <;> fail) | rfl))) | refine vcP_safe (h26) rfl rfl (by (simp only [go_sem, hil, hm, hb, hu, encD, hwl, e, h30, w0'])) ?_ | refine dCallP_safe (h26) rfl rfl ?_ | (refine vcP_pure (h65) rfl ?_ ?_ ?_; (focus (first | rfl | ((simp only [go_sem, hil, hm, hb, hu, encD, hwl, e, h30, w0', AV.pureL, AV.pure, pureL_mapI, Bool.and_self]) <;> fail))); (focus (first | ((simp only [go_sem, hil, hm, hb, hu, encD, hwl, e, h30, w0']) <;> fail) | rfl))) | (refine dCallP_pure (h65) rfl ?_ ?_ ?_; (focus (first | rfl | ((simp only [go_sem, hil, hm, hb, hu, encD, hwl, e, h30, w0', AV.pureL, AV.pure, pureL_mapI, Bool.and_self]) <;> fail))); (focus (first | ((simp only [go_sem, hil, hm, hb, hu, encD, hwl, e, h30, w0']) <;> fail) | rfl))) | refine vcP_safe (h65) rfl rfl (by (simp only [go_sem, hil, hm, hb, hu, encD, hwl, e, h30, w0'])) ?_ | refine dCallP_safe (h65) rfl rfl ?_ | (refine vcP_pure (k3) rfl ?_ ?_ ?_; (focus (first | rfl | ((simp only [go_sem, hil, hm, hb, hu, encD, hwl, e, h30, w0', AV.pureL, AV.pure, pureL_mapI, Bool.and_self]) <;> fail))); (focus (first | ((simp only [go_sem, hil, hm, hb, hu, encD, hwl, e, h30, w0']) <;> fail) | rfl))) | (refine dCallP_pure (k3) rfl ?_ ?_ ?_; (focus (first | rfl | ((simp only [go_sem, hil, hm, hb, hu, encD, hwl, e, h30, w0', AV.pureL, AV.pure, pureL_mapI, Bool.and_self]) <;> fail))); (focus (first | ((simp only [go_sem, hil, hm, hb, hu, encD, hwl, e, h30, w0']) <;> fail) | rfl))) | refine vcP_safe (k3) rfl rfl (by (simp only [go_sem, hil, hm, hb, hu, encD, hwl, e, h30, w0'])) ?_ | refine dCallP_safe (k3) rfl rfl ?_ | (refine vcP_pure (c17) rfl ?_ ?_ ?_; (focus (first | rfl | ((simp only [go_sem, hil, hm, hb, hu, encD, hwl, e, h30, w0', AV.pureL, AV.pure, pureL_mapI, Bool.and_self]) <;> fail))); (focus (first | ((simp only [go_sem, hil, hm, hb, hu, encD, hwl, e, h30, w0']) <;> fail) | rfl))) | (refine dCallP_pure (c17) rfl ?_ ?_ ?_; (focus (first | rfl | ((simp only [go_sem, hil, hm, hb, hu, encD, hwl, e, h30, w0', AV.pureL, AV.pure, pureL_mapI, Bool.and_self]) <;> fail))); (focus (first | ((simp only [go_sem, hil, hm, hb, hu, encD, hwl, e, h30, w0']) <;> fail) | rfl))) | refine vcP_safe (c17) rfl rfl (by (simp only [go_sem, hil, hm, hb, hu, encD, hwl, e, h30, w0'])) ?_ | refine dCallP_safe (c17) rfl rfl ?_) | (simp only [go_sem, hil, hm, hb, hu, encD, hwl, e, h30, w0'])))
  · rw [h1, if_neg (by omega)] at h50
    obtain ⟨mn, hmn⟩ := get_of h2
    have tn := tired_bounds s n
    have hmnb := hv.mould hmn
    have hnb : ¬ mn.broke = 1 := fun q => by
      have := tired_broke hmn q
      unfold worse at h4; omega
    have hnu : ¬ mn.used = 12 := fun q => by
      have := tired_full hv hmn q
      unfold worse at h4; omega
    have g41 := c41 s n
    rw [decide_eq_true (by unfold within; omega)] at g41
    have g65 := c65 s hv n mn hmn hnb (by omega)
    have hnl : (n : Int) < s.ms.length := by omega
    have hn0 : 0 ≤ (n : Int) := by omega
    have u1 : 0 ≤ worse s n := by unfold worse; omega
    have u2 := h5 i (by omega)
    by_cases hlt : worse s n < worse s i
    · skip
      refine PC.body Try.func13 (by kernel_rfl) rfl (by simp [Try.f13]) rfl ?_
      simp only [Try.f13]
      intro hlen
      simp only [go_sem, List.length_map, and_true, true_and] at hlen
      refine CV.run ?_
      (repeat' (first | ((first | with_reducible refine vcG_split ?_ ?_ | with_reducible refine vcIf_split ?_ ?_ | with_reducible refine vcQ_split ?_ ?_ | with_reducible refine vcDG_split ?_ ?_) <;> intro hb <;> (try rw [hb]) <;> (try simp only [Bool.and_eq_true, Bool.or_eq_true, dtrue, dfalse, Bool.not_eq_true', Bool.not_eq_false', Bool.and_eq_false_iff, Bool.or_eq_false_iff, Bool.not_true, Bool.not_false] at hb) <;> (try simp only [within] at hb) <;> try (simp only [go_sem, hil, hm, hb, hu, encD, hwl, w0, hnl, hn0, hmn, hnb, hnu, u1, u2, h4, hlt])) | refine And.intro (by (first | exact trivial | (simp only [I64]; omega) | omega)) ?_ | (first | (refine vcP_pure (h15) rfl ?_ ?_ ?_; (focus (first | rfl | ((simp only [go_sem, hil, hm, hb, hu, encD, hwl, w0, hnl, hn0, hmn, hnb, hnu, u1, u2, h4, hlt, AV.pureL, AV.pure, pureL_mapI, Bool.and_self]) <;> fail))); (focus (first | ((simp only [go_sem, hil, hm, hb, hu, encD, hwl, w0, hnl, hn0, hmn, hnb, hnu, u1, u2, h4, hlt]) <;> fail) | rfl))) | (refine dCallP_pure (h15) rfl ?_ ?_ ?_; (focus (first | rfl | ((simp only [go_sem, hil, hm, hb, hu, encD, hwl, w0, hnl, hn0, hmn, hnb, hnu, u1, u2, h4, hlt, AV.pureL, AV.pure, pureL_mapI, Bool.and_self]) <;> fail))); (focus (first | ((simp only [go_sem, hil, hm, hb, hu, encD, hwl, w0, hnl, hn0, hmn, hnb, hnu, u1, u2, h4, hlt]) <;> fail) | rfl))) | refine vcP_safe (h15) rfl rfl (by (simp only [go_sem, hil, hm, hb, hu, encD, hwl, w0, hnl, hn0, hmn, hnb, hnu, u1, u2, h4, hlt])) ?_ | refine dCallP_safe (h15) rfl rfl ?_ | (refine vcP_pure (h41) rfl ?_ ?_ ?_; (focus (first | rfl | ((simp only [go_sem, hil, hm, hb, hu, encD, hwl, w0, hnl, hn0, hmn, hnb, hnu, u1, u2, h4, hlt, AV.pureL, AV.pure, pureL_mapI, Bool.and_self]) <;> fail))); (focus (first | ((simp only [go_sem, hil, hm, hb, hu, encD, hwl, w0, hnl, hn0, hmn, hnb, hnu, u1, u2, h4, hlt]) <;> fail) | rfl))) | (refine dCallP_pure (h41) rfl ?_ ?_ ?_; (focus (first | rfl | ((simp only [go_sem, hil, hm, hb, hu, encD, hwl, w0, hnl, hn0, hmn, hnb, hnu, u1, u2, h4, hlt, AV.pureL, AV.pure, pureL_mapI, Bool.and_self]) <;> fail))); (focus (first | ((simp only [go_sem, hil, hm, hb, hu, encD, hwl, w0, hnl, hn0, hmn, hnb, hnu, u1, u2, h4, hlt]) <;> fail) | rfl))) | refine vcP_safe (h41) rfl rfl (by (simp only [go_sem, hil, hm, hb, hu, encD, hwl, w0, hnl, hn0, hmn, hnb, hnu, u1, u2, h4, hlt])) ?_ | refine dCallP_safe (h41) rfl rfl ?_ | (refine vcP_pure (h50) rfl ?_ ?_ ?_; (focus (first | rfl | ((simp only [go_sem, hil, hm, hb, hu, encD, hwl, w0, hnl, hn0, hmn, hnb, hnu, u1, u2, h4, hlt, AV.pureL, AV.pure, pureL_mapI, Bool.and_self]) <;> fail))); (focus (first | ((simp only [go_sem, hil, hm, hb, hu, encD, hwl, w0, hnl, hn0, hmn, hnb, hnu, u1, u2, h4, hlt]) <;> fail) | rfl))) | (refine dCallP_pure (h50) rfl ?_ ?_ ?_; (focus (first | rfl | ((simp only [go_sem, hil, hm, hb, hu, encD, hwl, w0, hnl, hn0, hmn, hnb, hnu, u1, u2, h4, hlt, AV.pureL, AV.pure, pureL_mapI, Bool.and_self]) <;> fail))); (focus (first | ((simp only [go_sem, hil, hm, hb, hu, encD, hwl, w0, hnl, hn0, hmn, hnb, hnu, u1, u2, h4, hlt]) <;> fail) | rfl))) | refine vcP_safe (h50) rfl rfl (by (simp only [go_sem, hil, hm, hb, hu, encD, hwl, w0, hnl, hn0, hmn, hnb, hnu, u1, u2, h4, hlt])) ?_ | refine dCallP_safe (h50) rfl rfl ?_ | (refine vcP_pure (h26) rfl ?_ ?_ ?_; (focus (first | rfl | ((simp only [go_sem, hil, hm, hb, hu, encD, hwl, w0, hnl, hn0, hmn, hnb, hnu, u1, u2, h4, hlt, AV.pureL, AV.pure, pureL_mapI, Bool.and_self]) <;> fail))); (focus (first | ((simp only [go_sem, hil, hm, hb, hu, encD, hwl, w0, hnl, hn0, hmn, hnb, hnu, u1, u2, h4, hlt]) <;> fail) | rfl))) | (refine dCallP_pure (h26) rfl ?_ ?_ ?_; (focus (first | rfl | ((simp only [go_sem, hil, hm, hb, hu, encD, hwl, w0, hnl, hn0, hmn, hnb, hnu, u1, u2, h4, hlt, AV.pureL, AV.pure, pureL_mapI, Bool.and_self]) <;> fail))); (focus (first | ((simp only [go_sem, hil, hm, hb, hu, encD, hwl, w0, hnl, hn0, hmn, hnb, hnu, u1, u2, h4, hlt]) <;> fail) | rfl))) | refine vcP_safe (h26) rfl rfl (by (simp only [go_sem, hil, hm, hb, hu, encD, hwl, w0, hnl, hn0, hmn, hnb, hnu, u1, u2, h4, hlt])) ?_ | refine dCallP_safe (h26) rfl rfl ?_ | (refine vcP_pure (h65) rfl ?_ ?_ ?_; (focus (first | rfl | ((simp only [go_sem, hil, hm, hb, hu, encD, hwl, w0, hnl, hn0, hmn, hnb, hnu, u1, u2, h4, hlt, AV.pureL, AV.pure, pureL_mapI, Bool.and_self]) <;> fail))); (focus (first | ((simp only [go_sem, hil, hm, hb, hu, encD, hwl, w0, hnl, hn0, hmn, hnb, hnu, u1, u2, h4, hlt]) <;> fail) | rfl))) | (refine dCallP_pure (h65) rfl ?_ ?_ ?_; (focus (first | rfl | ((simp only [go_sem, hil, hm, hb, hu, encD, hwl, w0, hnl, hn0, hmn, hnb, hnu, u1, u2, h4, hlt, AV.pureL, AV.pure, pureL_mapI, Bool.and_self]) <;> fail))); (focus (first | ((simp only [go_sem, hil, hm, hb, hu, encD, hwl, w0, hnl, hn0, hmn, hnb, hnu, u1, u2, h4, hlt]) <;> fail) | rfl))) | refine vcP_safe (h65) rfl rfl (by (simp only [go_sem, hil, hm, hb, hu, encD, hwl, w0, hnl, hn0, hmn, hnb, hnu, u1, u2, h4, hlt])) ?_ | refine dCallP_safe (h65) rfl rfl ?_ | (refine vcP_pure (k0) rfl ?_ ?_ ?_; (focus (first | rfl | ((simp only [go_sem, hil, hm, hb, hu, encD, hwl, w0, hnl, hn0, hmn, hnb, hnu, u1, u2, h4, hlt, AV.pureL, AV.pure, pureL_mapI, Bool.and_self]) <;> fail))); (focus (first | ((simp only [go_sem, hil, hm, hb, hu, encD, hwl, w0, hnl, hn0, hmn, hnb, hnu, u1, u2, h4, hlt]) <;> fail) | rfl))) | (refine dCallP_pure (k0) rfl ?_ ?_ ?_; (focus (first | rfl | ((simp only [go_sem, hil, hm, hb, hu, encD, hwl, w0, hnl, hn0, hmn, hnb, hnu, u1, u2, h4, hlt, AV.pureL, AV.pure, pureL_mapI, Bool.and_self]) <;> fail))); (focus (first | ((simp only [go_sem, hil, hm, hb, hu, encD, hwl, w0, hnl, hn0, hmn, hnb, hnu, u1, u2, h4, hlt]) <;> fail) | rfl))) | refine vcP_safe (k0) rfl rfl (by (simp only [go_sem, hil, hm, hb, hu, encD, hwl, w0, hnl, hn0, hmn, hnb, hnu, u1, u2, h4, hlt])) ?_ | refine dCallP_safe (k0) rfl rfl ?_ | (refine vcP_pure (g41) rfl ?_ ?_ ?_; (focus (first | rfl | ((simp only [go_sem, hil, hm, hb, hu, encD, hwl, w0, hnl, hn0, hmn, hnb, hnu, u1, u2, h4, hlt, AV.pureL, AV.pure, pureL_mapI, Bool.and_self]) <;> fail))); (focus (first | ((simp only [go_sem, hil, hm, hb, hu, encD, hwl, w0, hnl, hn0, hmn, hnb, hnu, u1, u2, h4, hlt]) <;> fail) | rfl))) | (refine dCallP_pure (g41) rfl ?_ ?_ ?_; (focus (first | rfl | ((simp only [go_sem, hil, hm, hb, hu, encD, hwl, w0, hnl, hn0, hmn, hnb, hnu, u1, u2, h4, hlt, AV.pureL, AV.pure, pureL_mapI, Bool.and_self]) <;> fail))); (focus (first | ((simp only [go_sem, hil, hm, hb, hu, encD, hwl, w0, hnl, hn0, hmn, hnb, hnu, u1, u2, h4, hlt]) <;> fail) | rfl))) | refine vcP_safe (g41) rfl rfl (by (simp only [go_sem, hil, hm, hb, hu, encD, hwl, w0, hnl, hn0, hmn, hnb, hnu, u1, u2, h4, hlt])) ?_ | refine dCallP_safe (g41) rfl rfl ?_ | (refine vcP_pure (g65) rfl ?_ ?_ ?_; (focus (first | rfl | ((simp only [go_sem, hil, hm, hb, hu, encD, hwl, w0, hnl, hn0, hmn, hnb, hnu, u1, u2, h4, hlt, AV.pureL, AV.pure, pureL_mapI, Bool.and_self]) <;> fail))); (focus (first | ((simp only [go_sem, hil, hm, hb, hu, encD, hwl, w0, hnl, hn0, hmn, hnb, hnu, u1, u2, h4, hlt]) <;> fail) | rfl))) | (refine dCallP_pure (g65) rfl ?_ ?_ ?_; (focus (first | rfl | ((simp only [go_sem, hil, hm, hb, hu, encD, hwl, w0, hnl, hn0, hmn, hnb, hnu, u1, u2, h4, hlt, AV.pureL, AV.pure, pureL_mapI, Bool.and_self]) <;> fail))); (focus (first | ((simp only [go_sem, hil, hm, hb, hu, encD, hwl, w0, hnl, hn0, hmn, hnb, hnu, u1, u2, h4, hlt]) <;> fail) | rfl))) | refine vcP_safe (g65) rfl rfl (by (simp only [go_sem, hil, hm, hb, hu, encD, hwl, w0, hnl, hn0, hmn, hnb, hnu, u1, u2, h4, hlt])) ?_ | refine dCallP_safe (g65) rfl rfl ?_ | (refine vcP_pure (c17) rfl ?_ ?_ ?_; (focus (first | rfl | ((simp only [go_sem, hil, hm, hb, hu, encD, hwl, w0, hnl, hn0, hmn, hnb, hnu, u1, u2, h4, hlt, AV.pureL, AV.pure, pureL_mapI, Bool.and_self]) <;> fail))); (focus (first | ((simp only [go_sem, hil, hm, hb, hu, encD, hwl, w0, hnl, hn0, hmn, hnb, hnu, u1, u2, h4, hlt]) <;> fail) | rfl))) | (refine dCallP_pure (c17) rfl ?_ ?_ ?_; (focus (first | rfl | ((simp only [go_sem, hil, hm, hb, hu, encD, hwl, w0, hnl, hn0, hmn, hnb, hnu, u1, u2, h4, hlt, AV.pureL, AV.pure, pureL_mapI, Bool.and_self]) <;> fail))); (focus (first | ((simp only [go_sem, hil, hm, hb, hu, encD, hwl, w0, hnl, hn0, hmn, hnb, hnu, u1, u2, h4, hlt]) <;> fail) | rfl))) | refine vcP_safe (c17) rfl rfl (by (simp only [go_sem, hil, hm, hb, hu, encD, hwl, w0, hnl, hn0, hmn, hnb, hnu, u1, u2, h4, hlt])) ?_ | refine dCallP_safe (c17) rfl rfl ?_) | (simp only [go_sem, hil, hm, hb, hu, encD, hwl, w0, hnl, hn0, hmn, hnb, hnu, u1, u2, h4, hlt])))
    · have hni : (n : Int) ≤ i := by
        by_cases q : (n : Int) ≤ i
        · exact q
        · have := h6 i (by omega); omega
      refine PC.body Try.func13 (by kernel_rfl) rfl (by simp [Try.f13]) rfl ?_
      simp only [Try.f13]
      intro hlen
      simp only [go_sem, List.length_map, and_true, true_and] at hlen
      refine CV.run ?_
      (repeat' (first | ((first | with_reducible refine vcG_split ?_ ?_ | with_reducible refine vcIf_split ?_ ?_ | with_reducible refine vcQ_split ?_ ?_ | with_reducible refine vcDG_split ?_ ?_) <;> intro hb <;> (try rw [hb]) <;> (try simp only [Bool.and_eq_true, Bool.or_eq_true, dtrue, dfalse, Bool.not_eq_true', Bool.not_eq_false', Bool.and_eq_false_iff, Bool.or_eq_false_iff, Bool.not_true, Bool.not_false] at hb) <;> (try simp only [within] at hb) <;> try (simp only [go_sem, hil, hm, hb, hu, encD, hwl, w0, hnl, hn0, hmn, hnb, hnu, u1, u2, h4, hlt, hni])) | refine And.intro (by (first | exact trivial | (simp only [I64]; omega) | omega)) ?_ | (first | (refine vcP_pure (h15) rfl ?_ ?_ ?_; (focus (first | rfl | ((simp only [go_sem, hil, hm, hb, hu, encD, hwl, w0, hnl, hn0, hmn, hnb, hnu, u1, u2, h4, hlt, hni, AV.pureL, AV.pure, pureL_mapI, Bool.and_self]) <;> fail))); (focus (first | ((simp only [go_sem, hil, hm, hb, hu, encD, hwl, w0, hnl, hn0, hmn, hnb, hnu, u1, u2, h4, hlt, hni]) <;> fail) | rfl))) | (refine dCallP_pure (h15) rfl ?_ ?_ ?_; (focus (first | rfl | ((simp only [go_sem, hil, hm, hb, hu, encD, hwl, w0, hnl, hn0, hmn, hnb, hnu, u1, u2, h4, hlt, hni, AV.pureL, AV.pure, pureL_mapI, Bool.and_self]) <;> fail))); (focus (first | ((simp only [go_sem, hil, hm, hb, hu, encD, hwl, w0, hnl, hn0, hmn, hnb, hnu, u1, u2, h4, hlt, hni]) <;> fail) | rfl))) | refine vcP_safe (h15) rfl rfl (by (simp only [go_sem, hil, hm, hb, hu, encD, hwl, w0, hnl, hn0, hmn, hnb, hnu, u1, u2, h4, hlt, hni])) ?_ | refine dCallP_safe (h15) rfl rfl ?_ | (refine vcP_pure (h41) rfl ?_ ?_ ?_; (focus (first | rfl | ((simp only [go_sem, hil, hm, hb, hu, encD, hwl, w0, hnl, hn0, hmn, hnb, hnu, u1, u2, h4, hlt, hni, AV.pureL, AV.pure, pureL_mapI, Bool.and_self]) <;> fail))); (focus (first | ((simp only [go_sem, hil, hm, hb, hu, encD, hwl, w0, hnl, hn0, hmn, hnb, hnu, u1, u2, h4, hlt, hni]) <;> fail) | rfl))) | (refine dCallP_pure (h41) rfl ?_ ?_ ?_; (focus (first | rfl | ((simp only [go_sem, hil, hm, hb, hu, encD, hwl, w0, hnl, hn0, hmn, hnb, hnu, u1, u2, h4, hlt, hni, AV.pureL, AV.pure, pureL_mapI, Bool.and_self]) <;> fail))); (focus (first | ((simp only [go_sem, hil, hm, hb, hu, encD, hwl, w0, hnl, hn0, hmn, hnb, hnu, u1, u2, h4, hlt, hni]) <;> fail) | rfl))) | refine vcP_safe (h41) rfl rfl (by (simp only [go_sem, hil, hm, hb, hu, encD, hwl, w0, hnl, hn0, hmn, hnb, hnu, u1, u2, h4, hlt, hni])) ?_ | refine dCallP_safe (h41) rfl rfl ?_ | (refine vcP_pure (h50) rfl ?_ ?_ ?_; (focus (first | rfl | ((simp only [go_sem, hil, hm, hb, hu, encD, hwl, w0, hnl, hn0, hmn, hnb, hnu, u1, u2, h4, hlt, hni, AV.pureL, AV.pure, pureL_mapI, Bool.and_self]) <;> fail))); (focus (first | ((simp only [go_sem, hil, hm, hb, hu, encD, hwl, w0, hnl, hn0, hmn, hnb, hnu, u1, u2, h4, hlt, hni]) <;> fail) | rfl))) | (refine dCallP_pure (h50) rfl ?_ ?_ ?_; (focus (first | rfl | ((simp only [go_sem, hil, hm, hb, hu, encD, hwl, w0, hnl, hn0, hmn, hnb, hnu, u1, u2, h4, hlt, hni, AV.pureL, AV.pure, pureL_mapI, Bool.and_self]) <;> fail))); (focus (first | ((simp only [go_sem, hil, hm, hb, hu, encD, hwl, w0, hnl, hn0, hmn, hnb, hnu, u1, u2, h4, hlt, hni]) <;> fail) | rfl))) | refine vcP_safe (h50) rfl rfl (by (simp only [go_sem, hil, hm, hb, hu, encD, hwl, w0, hnl, hn0, hmn, hnb, hnu, u1, u2, h4, hlt, hni])) ?_ | refine dCallP_safe (h50) rfl rfl ?_ | (refine vcP_pure (h26) rfl ?_ ?_ ?_; (focus (first | rfl | ((simp only [go_sem, hil, hm, hb, hu, encD, hwl, w0, hnl, hn0, hmn, hnb, hnu, u1, u2, h4, hlt, hni, AV.pureL, AV.pure, pureL_mapI, Bool.and_self]) <;> fail))); (focus (first | ((simp only [go_sem, hil, hm, hb, hu, encD, hwl, w0, hnl, hn0, hmn, hnb, hnu, u1, u2, h4, hlt, hni]) <;> fail) | rfl))) | (refine dCallP_pure (h26) rfl ?_ ?_ ?_; (focus (first | rfl | ((simp only [go_sem, hil, hm, hb, hu, encD, hwl, w0, hnl, hn0, hmn, hnb, hnu, u1, u2, h4, hlt, hni, AV.pureL, AV.pure, pureL_mapI, Bool.and_self]) <;> fail))); (focus (first | ((simp only [go_sem, hil, hm, hb, hu, encD, hwl, w0, hnl, hn0, hmn, hnb, hnu, u1, u2, h4, hlt, hni]) <;> fail) | rfl))) | refine vcP_safe (h26) rfl rfl (by (simp only [go_sem, hil, hm, hb, hu, encD, hwl, w0, hnl, hn0, hmn, hnb, hnu, u1, u2, h4, hlt, hni])) ?_ | refine dCallP_safe (h26) rfl rfl ?_ | (refine vcP_pure (h65) rfl ?_ ?_ ?_; (focus (first | rfl | ((simp only [go_sem, hil, hm, hb, hu, encD, hwl, w0, hnl, hn0, hmn, hnb, hnu, u1, u2, h4, hlt, hni, AV.pureL, AV.pure, pureL_mapI, Bool.and_self]) <;> fail))); (focus (first | ((simp only [go_sem, hil, hm, hb, hu, encD, hwl, w0, hnl, hn0, hmn, hnb, hnu, u1, u2, h4, hlt, hni]) <;> fail) | rfl))) | (refine dCallP_pure (h65) rfl ?_ ?_ ?_; (focus (first | rfl | ((simp only [go_sem, hil, hm, hb, hu, encD, hwl, w0, hnl, hn0, hmn, hnb, hnu, u1, u2, h4, hlt, hni, AV.pureL, AV.pure, pureL_mapI, Bool.and_self]) <;> fail))); (focus (first | ((simp only [go_sem, hil, hm, hb, hu, encD, hwl, w0, hnl, hn0, hmn, hnb, hnu, u1, u2, h4, hlt, hni]) <;> fail) | rfl))) | refine vcP_safe (h65) rfl rfl (by (simp only [go_sem, hil, hm, hb, hu, encD, hwl, w0, hnl, hn0, hmn, hnb, hnu, u1, u2, h4, hlt, hni])) ?_ | refine dCallP_safe (h65) rfl rfl ?_ | (refine vcP_pure (k0) rfl ?_ ?_ ?_; (focus (first | rfl | ((simp only [go_sem, hil, hm, hb, hu, encD, hwl, w0, hnl, hn0, hmn, hnb, hnu, u1, u2, h4, hlt, hni, AV.pureL, AV.pure, pureL_mapI, Bool.and_self]) <;> fail))); (focus (first | ((simp only [go_sem, hil, hm, hb, hu, encD, hwl, w0, hnl, hn0, hmn, hnb, hnu, u1, u2, h4, hlt, hni]) <;> fail) | rfl))) | (refine dCallP_pure (k0) rfl ?_ ?_ ?_; (focus (first | rfl | ((simp only [go_sem, hil, hm, hb, hu, encD, hwl, w0, hnl, hn0, hmn, hnb, hnu, u1, u2, h4, hlt, hni, AV.pureL, AV.pure, pureL_mapI, Bool.and_self]) <;> fail))); (focus (first | ((simp only [go_sem, hil, hm, hb, hu, encD, hwl, w0, hnl, hn0, hmn, hnb, hnu, u1, u2, h4, hlt, hni]) <;> fail) | rfl))) | refine vcP_safe (k0) rfl rfl (by (simp only [go_sem, hil, hm, hb, hu, encD, hwl, w0, hnl, hn0, hmn, hnb, hnu, u1, u2, h4, hlt, hni])) ?_ | refine dCallP_safe (k0) rfl rfl ?_ | (refine vcP_pure (g41) rfl ?_ ?_ ?_; (focus (first | rfl | ((simp only [go_sem, hil, hm, hb, hu, encD, hwl, w0, hnl, hn0, hmn, hnb, hnu, u1, u2, h4, hlt, hni, AV.pureL, AV.pure, pureL_mapI, Bool.and_self]) <;> fail))); (focus (first | ((simp only [go_sem, hil, hm, hb, hu, encD, hwl, w0, hnl, hn0, hmn, hnb, hnu, u1, u2, h4, hlt, hni]) <;> fail) | rfl))) | (refine dCallP_pure (g41) rfl ?_ ?_ ?_; (focus (first | rfl | ((simp only [go_sem, hil, hm, hb, hu, encD, hwl, w0, hnl, hn0, hmn, hnb, hnu, u1, u2, h4, hlt, hni, AV.pureL, AV.pure, pureL_mapI, Bool.and_self]) <;> fail))); (focus (first | ((simp only [go_sem, hil, hm, hb, hu, encD, hwl, w0, hnl, hn0, hmn, hnb, hnu, u1, u2, h4, hlt, hni]) <;> fail) | rfl))) | refine vcP_safe (g41) rfl rfl (by (simp only [go_sem, hil, hm, hb, hu, encD, hwl, w0, hnl, hn0, hmn, hnb, hnu, u1, u2, h4, hlt, hni])) ?_ | refine dCallP_safe (g41) rfl rfl ?_ | (refine vcP_pure (g65) rfl ?_ ?_ ?_; (focus (first | rfl | ((simp only [go_sem, hil, hm, hb, hu, encD, hwl, w0, hnl, hn0, hmn, hnb, hnu, u1, u2, h4, hlt, hni, AV.pureL, AV.pure, pureL_mapI, Bool.and_self]) <;> fail))); (focus (first | ((simp only [go_sem, hil, hm, hb, hu, encD, hwl, w0, hnl, hn0, hmn, hnb, hnu, u1, u2, h4, hlt, hni]) <;> fail) | rfl))) | (refine dCallP_pure (g65) rfl ?_ ?_ ?_; (focus (first | rfl | ((simp only [go_sem, hil, hm, hb, hu, encD, hwl, w0, hnl, hn0, hmn, hnb, hnu, u1, u2, h4, hlt, hni, AV.pureL, AV.pure, pureL_mapI, Bool.and_self]) <;> fail))); (focus (first | ((simp only [go_sem, hil, hm, hb, hu, encD, hwl, w0, hnl, hn0, hmn, hnb, hnu, u1, u2, h4, hlt, hni]) <;> fail) | rfl))) | refine vcP_safe (g65) rfl rfl (by (simp only [go_sem, hil, hm, hb, hu, encD, hwl, w0, hnl, hn0, hmn, hnb, hnu, u1, u2, h4, hlt, hni])) ?_ | refine dCallP_safe (g65) rfl rfl ?_ | (refine vcP_pure (c17) rfl ?_ ?_ ?_; (focus (first | rfl | ((simp only [go_sem, hil, hm, hb, hu, encD, hwl, w0, hnl, hn0, hmn, hnb, hnu, u1, u2, h4, hlt, hni, AV.pureL, AV.pure, pureL_mapI, Bool.and_self]) <;> fail))); (focus (first | ((simp only [go_sem, hil, hm, hb, hu, encD, hwl, w0, hnl, hn0, hmn, hnb, hnu, u1, u2, h4, hlt, hni]) <;> fail) | rfl))) | (refine dCallP_pure (c17) rfl ?_ ?_ ?_; (focus (first | rfl | ((simp only [go_sem, hil, hm, hb, hu, encD, hwl, w0, hnl, hn0, hmn, hnb, hnu, u1, u2, h4, hlt, hni, AV.pureL, AV.pure, pureL_mapI, Bool.and_self]) <;> fail))); (focus (first | ((simp only [go_sem, hil, hm, hb, hu, encD, hwl, w0, hnl, hn0, hmn, hnb, hnu, u1, u2, h4, hlt, hni]) <;> fail) | rfl))) | refine vcP_safe (c17) rfl rfl (by (simp only [go_sem, hil, hm, hb, hu, encD, hwl, w0, hnl, hn0, hmn, hnb, hnu, u1, u2, h4, hlt, hni])) ?_ | refine dCallP_safe (c17) rfl rfl ?_) | (simp only [go_sem, hil, hm, hb, hu, encD, hwl, w0, hnl, hn0, hmn, hnb, hnu, u1, u2, h4, hlt, hni])))
end Go.Proofs.Ytekdocalipchpaa
