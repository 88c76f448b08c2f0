/- Contracts of functions of the given program, without a condition beyond those that each theorem states; they lead to the given statement. -/
import Derived.Test.YtekdocalipchpaaV03a
set_option linter.unusedSimpArgs false
set_option linter.unusedVariables false
set_option linter.unusedVariables false
set_option maxRecDepth 100000
namespace Go.Proofs.Ytekdocalipchpaa
open Go Go.Fl
open Classical
abbrev kno (s : Shop) : Prop := valid s ∧ aW s ≠ []
theorem kno_kn {s : Shop} (hk : kno s) {is : Prop} (h : is) : kn s is = 0 := kn0.2 ⟨hk.1, h, hk.2⟩
theorem c20 (s : Shop) (hk : kno s) : PC Try.prog 20 [hS s] (.int .i64 (neN s)) := by
  have h38 := c38 s
  have hb := neN_bounds hk.1
  rw [show rNew s = _ from ans_yes (kno_kn hk trivial)] at h38
  have f1 : ¬ neN s < 0 := by omega
  have f2 : ¬ 100 < neN s := by omega
  refine PC.body Try.func20 (by kernel_rfl) rfl (by simp [Try.f20]) rfl ?_
  simp only [Try.f20]
  intro hlen
  simp only [go_sem, List.length_map, and_true, true_and] at hlen
  refine CV.run ?_
  (repeat' (first | ((first | with_reducible refine vcG_split ?_ ?_ | with_reducible refine vcIf_split ?_ ?_ | with_reducible refine vcQ_split ?_ ?_ | with_reducible refine vcDG_split ?_ ?_) <;> intro hb <;> (try rw [hb]) <;> (try simp only [Bool.and_eq_true, Bool.or_eq_true, dtrue, dfalse, Bool.not_eq_true', Bool.not_eq_false', Bool.and_eq_false_iff, Bool.or_eq_false_iff, Bool.not_true, Bool.not_false] at hb) <;> (try simp only [within] at hb) <;> try (simp only [go_sem, f1, f2])) | refine And.intro (by (first | exact trivial | (simp only [I64]; omega) | omega)) ?_ | (first | (refine vcP_pure (h38) rfl ?_ ?_ ?_; (focus (first | rfl | ((simp only [go_sem, f1, f2, AV.pureL, AV.pure, pureL_mapI, Bool.and_self]) <;> fail))); (focus (first | ((simp only [go_sem, f1, f2]) <;> fail) | rfl))) | (refine dCallP_pure (h38) rfl ?_ ?_ ?_; (focus (first | rfl | ((simp only [go_sem, f1, f2, AV.pureL, AV.pure, pureL_mapI, Bool.and_self]) <;> fail))); (focus (first | ((simp only [go_sem, f1, f2]) <;> fail) | rfl))) | refine vcP_safe (h38) rfl rfl (by (simp only [go_sem, f1, f2])) ?_ | refine dCallP_safe (h38) rfl rfl ?_) | (simp only [go_sem, f1, f2])))
theorem c22 (s : Shop) (hk : kno s) (p : Nat) (hp : p < s.wt.length) : PC Try.prog 22 [hS s, .int .i64 p] (.int .i64 (sur s p)) := by
  have h36 := c36 s p
  have hb := sur_bounds hk.1 p
  rw [show rSure s p = _ from ans_yes (kno_kn hk ⟨by omega, by omega⟩)] at h36
  have f1 : ¬ sur s p < 0 := by omega
  have f2 : ¬ 100 < sur s p := by omega
  refine PC.body Try.func22 (by kernel_rfl) rfl (by simp [Try.f22]) rfl ?_
  simp only [Try.f22]
  intro hlen
  simp only [go_sem, List.length_map, and_true, true_and] at hlen
  refine CV.run ?_
  (repeat' (first | ((first | with_reducible refine vcG_split ?_ ?_ | with_reducible refine vcIf_split ?_ ?_ | with_reducible refine vcQ_split ?_ ?_ | with_reducible refine vcDG_split ?_ ?_) <;> intro hb <;> (try rw [hb]) <;> (try simp only [Bool.and_eq_true, Bool.or_eq_true, dtrue, dfalse, Bool.not_eq_true', Bool.not_eq_false', Bool.and_eq_false_iff, Bool.or_eq_false_iff, Bool.not_true, Bool.not_false] at hb) <;> (try simp only [within] at hb) <;> try (simp only [go_sem, f1, f2])) | refine And.intro (by (first | exact trivial | (simp only [I64]; omega) | omega)) ?_ | (first | (refine vcP_pure (h36) rfl ?_ ?_ ?_; (focus (first | rfl | ((simp only [go_sem, f1, f2, AV.pureL, AV.pure, pureL_mapI, Bool.and_self]) <;> fail))); (focus (first | ((simp only [go_sem, f1, f2]) <;> fail) | rfl))) | (refine dCallP_pure (h36) rfl ?_ ?_ ?_; (focus (first | rfl | ((simp only [go_sem, f1, f2, AV.pureL, AV.pure, pureL_mapI, Bool.and_self]) <;> fail))); (focus (first | ((simp only [go_sem, f1, f2]) <;> fail) | rfl))) | refine vcP_safe (h36) rfl rfl (by (simp only [go_sem, f1, f2])) ?_ | refine dCallP_safe (h36) rfl rfl ?_) | (simp only [go_sem, f1, f2])))
def encP (p : Int × Int) : List AV := [.int .i64 p.1, .int .i64 p.2]
theorem pureP (l : List (Int × Int)) : pureE (l.map encP) = True := pureE_map fun _ => rfl
attribute [go_sem] pureP
def lfT (s : Shop) (j : Nat) : List (Int × Int) := (List.range j).map fun i : Nat => (lo s i, hi s i)
theorem lfT_succ {s : Shop} {j : Nat} : lfT s (j + 1) = lfT s j ++ [(lo s j, hi s j)] := by simp [lfT, List.range_succ]
theorem lfT_zero {s : Shop} : lfT s 0 = [] := rfl
theorem lfT_len {s : Shop} {j : Nat} : (lfT s j).length = j := by simp [lfT]
theorem lfT_get {s : Shop} {n j : Nat} (h : j < n) : (lfT s n)[j]? = some (lo s j, hi s j) := by simp [lfT, h]
theorem lo_le_hi {s : Shop} (hne : aW s ≠ []) (i : Int) : lo s i ≤ hi s i := by
  obtain ⟨w, hw⟩ := List.exists_mem_of_ne_nil _ hne
  have hm : lf s w i ∈ (aW s).map fun w => lf s w i := List.mem_map.2 ⟨w, hw, rfl⟩
  exact Int.le_trans (low_le hm) (le_high hm)
theorem c19 (s : Shop) (hk : kno s) : PC Try.prog 19 [hS s] (.tup [.lst false 2 ((lfT s s.ms.length).map encP), .bool true]) := by
  have h5 := hk.1.2.1
  refine PC.body Try.func19 (by kernel_rfl) rfl (by simp [Try.f19]) rfl ?_
  simp only [Try.f19]
  intro hlen
  simp only [go_sem, List.length_map, and_true, true_and] at hlen
  refine CV.run ?_
  (repeat' (first | ((first | with_reducible refine vcG_split ?_ ?_ | with_reducible refine vcIf_split ?_ ?_ | with_reducible refine vcQ_split ?_ ?_ | with_reducible refine vcDG_split ?_ ?_) <;> intro hb <;> (try rw [hb]) <;> (try simp only [Bool.and_eq_true, Bool.or_eq_true, dtrue, dfalse, Bool.not_eq_true', Bool.not_eq_false', Bool.and_eq_false_iff, Bool.or_eq_false_iff, Bool.not_true, Bool.not_false] at hb) <;> (try simp only [within] at hb) <;> try (simp only [go_sem])) | refine And.intro (by (first | exact trivial | (simp only [I64]; omega) | omega)) ?_ | fail | (simp only [go_sem])))
  refine vc_fw (fun j => ⟨[(5, .int .i64 j), (4, .row 1 j), (3, .bool false), (2, .nilS), (1, .lp 0 0)], [.box 26 (cS s) false, .row 37 2 ((lfT s j).map encP) false]⟩) s.ms.length (fun j => True) (.nilE 4 37 2 (by (simp only [go_sem])) (by omega) (.base (by (first | exact wk_same (by (simp only [go_sem, Int.natCast_add, Int.natCast_one, Int.natCast_zero, Int.cast_ofNat_Int, lfT_zero])) | exact wk_drop (by (simp only [go_sem, Int.natCast_add, Int.natCast_one, Int.natCast_zero, Int.cast_ofNat_Int, lfT_zero])) (by (simp only [go_sem, Int.natCast_add, Int.natCast_one, Int.natCast_zero, Int.cast_ofNat_Int, lfT_zero])) (by (simp only [go_sem, Int.natCast_add, Int.natCast_one, Int.natCast_zero, Int.cast_ofNat_Int, lfT_zero])) (by (simp only [go_sem, Int.natCast_add, Int.natCast_one, Int.natCast_zero, Int.cast_ofNat_Int, lfT_zero])) (by (simp only [go_sem, Int.natCast_add, Int.natCast_one, Int.natCast_zero, Int.cast_ofNat_Int, lfT_zero])))))) trivial ?_
  intro j hj _
  rcases Nat.lt_or_ge j s.ms.length with hlt | hge
  · have hlt' : (j : Int) < s.ms.length := by omega
    have hb := lo_bounds hk.1 (W := aW s) (fun w hw => aW_mem hw) j hlt
    have h33 := c33 s j
    rw [show rLeft s j = _ from ans_yes (kno_kn hk ⟨by omega, by omega⟩)] at h33
    have h21 := c21 (lo s j) (hi s j) 0 12
    have hlh := lo_le_hi hk.2 (j : Int)
    have hb1 : 0 ≤ lo s j := hb.1
    have hb2 : hi s j ≤ 12 := hb.2.2.2
    rw [decide_eq_true (by omega)] at h21
    have e := lfT_succ (s := s) (j := j)
    have hl := lfT_len (s := s) (j := j)
    (repeat' (first | ((first | with_reducible refine vcG_split ?_ ?_ | with_reducible refine vcIf_split ?_ ?_ | with_reducible refine vcQ_split ?_ ?_ | with_reducible refine vcDG_split ?_ ?_) <;> intro hb <;> (try rw [hb]) <;> (try simp only [Bool.and_eq_true, Bool.or_eq_true, dtrue, dfalse, Bool.not_eq_true', Bool.not_eq_false', Bool.and_eq_false_iff, Bool.or_eq_false_iff, Bool.not_true, Bool.not_false] at hb) <;> (try simp only [within] at hb) <;> try (simp only [go_sem, hlt', hl])) | refine And.intro (by (first | exact trivial | (simp only [I64]; omega) | omega)) ?_ | (first | (refine vcP_pure (h33) rfl ?_ ?_ ?_; (focus (first | rfl | ((simp only [go_sem, hlt', hl, AV.pureL, AV.pure, pureL_mapI, Bool.and_self]) <;> fail))); (focus (first | ((simp only [go_sem, hlt', hl]) <;> fail) | rfl))) | (refine dCallP_pure (h33) rfl ?_ ?_ ?_; (focus (first | rfl | ((simp only [go_sem, hlt', hl, AV.pureL, AV.pure, pureL_mapI, Bool.and_self]) <;> fail))); (focus (first | ((simp only [go_sem, hlt', hl]) <;> fail) | rfl))) | refine vcP_safe (h33) rfl rfl (by (simp only [go_sem, hlt', hl])) ?_ | refine dCallP_safe (h33) rfl rfl ?_ | (refine vcP_pure (h21) rfl ?_ ?_ ?_; (focus (first | rfl | ((simp only [go_sem, hlt', hl, AV.pureL, AV.pure, pureL_mapI, Bool.and_self]) <;> fail))); (focus (first | ((simp only [go_sem, hlt', hl]) <;> fail) | rfl))) | (refine dCallP_pure (h21) rfl ?_ ?_ ?_; (focus (first | rfl | ((simp only [go_sem, hlt', hl, AV.pureL, AV.pure, pureL_mapI, Bool.and_self]) <;> fail))); (focus (first | ((simp only [go_sem, hlt', hl]) <;> fail) | rfl))) | refine vcP_safe (h21) rfl rfl (by (simp only [go_sem, hlt', hl])) ?_ | refine dCallP_safe (h21) rfl rfl ?_) | (simp only [go_sem, hlt', hl])))
    exact .base (by (first | exact wk_same (by (simp only [go_sem, Int.natCast_add, Int.natCast_one, Int.natCast_zero, Int.cast_ofNat_Int, e, encP, List.map_append, List.length_append])) | exact wk_drop (by (simp only [go_sem, Int.natCast_add, Int.natCast_one, Int.natCast_zero, Int.cast_ofNat_Int, e, encP, List.map_append, List.length_append])) (by (simp only [go_sem, Int.natCast_add, Int.natCast_one, Int.natCast_zero, Int.cast_ofNat_Int, e, encP, List.map_append, List.length_append])) (by (simp only [go_sem, Int.natCast_add, Int.natCast_one, Int.natCast_zero, Int.cast_ofNat_Int, e, encP, List.map_append, List.length_append])) (by (simp only [go_sem, Int.natCast_add, Int.natCast_one, Int.natCast_zero, Int.cast_ofNat_Int, e, encP, List.map_append, List.length_append])) (by (simp only [go_sem, Int.natCast_add, Int.natCast_one, Int.natCast_zero, Int.cast_ofNat_Int, e, encP, List.map_append, List.length_append]))))
  · have hge' : ¬ (j : Int) < s.ms.length := by omega
    have : j = s.ms.length := by omega
    subst this
    (repeat' (first | ((first | with_reducible refine vcG_split ?_ ?_ | with_reducible refine vcIf_split ?_ ?_ | with_reducible refine vcQ_split ?_ ?_ | with_reducible refine vcDG_split ?_ ?_) <;> intro hb <;> (try rw [hb]) <;> (try simp only [Bool.and_eq_true, Bool.or_eq_true, dtrue, dfalse, Bool.not_eq_true', Bool.not_eq_false', Bool.and_eq_false_iff, Bool.or_eq_false_iff, Bool.not_true, Bool.not_false] at hb) <;> (try simp only [within] at hb) <;> try (simp only [go_sem, hge', lfT_len])) | refine And.intro (by (first | exact trivial | (simp only [I64]; omega) | omega)) ?_ | fail | (simp only [go_sem, hge', lfT_len])))
end Go.Proofs.Ytekdocalipchpaa
