/- Contracts of functions of the given program, without a condition beyond those that each theorem states; they lead to the given statement. -/
import Derived.Test.YtekdocalipchpaaV03a
set_option linter.unusedSimpArgs false
set_option linter.unusedVariables false
set_option maxRecDepth 100000
namespace Go.Proofs.Ytekdocalipchpaa
open Go Go.Fl
open Classical
abbrev kno (s : Shop) : Prop := valid s ∧ aW s ≠ []
theorem kno_kn {s : Shop} (hk : kno s) {is : Prop} (h : is) : kn s is = 0 := kn0.2 ⟨hk.1, h, hk.2⟩
theorem c20 (s : Shop) (hk : kno s) : PC Try.prog 20 [hS s] (.int .i64 (neN s)) := by
  have h38 := c38 s
  have hb := neN_bounds hk.1
  rw [show rNew s = _ from ans_yes (kno_kn hk trivial)] at h38
  have f1 : ¬ neN s < 0 := by omega
  have f2 : ¬ 100 < neN s := by omega
  refine PC.body Try.func20 (by kernel_rfl) rfl (by simp [Try.f20]) rfl ?_
  simp only [Try.f20]
  intro hlen
  simp only [go_sem, List.length_map, and_true, true_and] at hlen
  refine CV.run ?_
  (repeat' (first | ((first | with_reducible refine vcG_split ?_ ?_ | with_reducible refine vcIf_split ?_ ?_ | with_reducible refine vcQ_split ?_ ?_ | with_reducible refine vcDG_split ?_ ?_) <;> intro hb <;> (try rw [hb]) <;> (try simp only [Bool.and_eq_true, Bool.or_eq_true, dtrue, dfalse, Bool.not_eq_true', Bool.not_eq_false', Bool.and_eq_false_iff, Bool.or_eq_false_iff, Bool.not_true, Bool.not_false] at hb) <;> (try simp only [within] at hb) <;> try (simp only [go_sem, f1, f2])) | refine And.intro (by (first | exact trivial | (simp only [I64]; omega) | omega)) ?_ | (first | (refine vcP_pure (h38) rfl ?_ ?_ ?_; (focus (first | rfl | ((simp only [go_sem, f1, f2, AV.pureL, AV.pure, pureL_mapI, Bool.and_self]) <;> fail))); (focus (first | ((simp only [go_sem, f1, f2]) <;> fail) | rfl))) | (refine dCallP_pure (h38) rfl ?_ ?_ ?_; (focus (first | rfl | ((simp only [go_sem, f1, f2, AV.pureL, AV.pure, pureL_mapI, Bool.and_self]) <;> fail))); (focus (first | ((simp only [go_sem, f1, f2]) <;> fail) | rfl))) | (refine dCallC_pure (h38) rfl ?_ ?_ ?_; (focus (first | rfl | ((simp only [go_sem, f1, f2, AV.pureL, AV.pure, pureL_mapI, Bool.and_self]) <;> fail))); (focus (first | ((simp only [go_sem, f1, f2]) <;> fail) | rfl))) | refine dCallC_safe (h38) rfl rfl (by (simp only [go_sem, f1, f2])) ?_ | refine vcP_safe (h38) rfl rfl (by (simp only [go_sem, f1, f2])) ?_ | refine dCallP_safe (h38) rfl rfl ?_) | (simp only [go_sem, f1, f2])))
theorem c22 (s : Shop) (hk : kno s) (p : Nat) (hp : p < s.wt.length) : PC Try.prog 22 [hS s, .int .i64 p] (.int .i64 (sur s p)) := by
  have h36 := c36 s p
  have hb := sur_bounds hk.1 p
  rw [show rSure s p = _ from ans_yes (kno_kn hk ⟨by omega, by omega⟩)] at h36
  have f1 : ¬ sur s p < 0 := by omega
  have f2 : ¬ 100 < sur s p := by omega
  refine PC.body Try.func22 (by kernel_rfl) rfl (by simp [Try.f22]) rfl ?_
  simp only [Try.f22]
  intro hlen
  simp only [go_sem, List.length_map, and_true, true_and] at hlen
  refine CV.run ?_
  (repeat' (first | ((first | with_reducible refine vcG_split ?_ ?_ | with_reducible refine vcIf_split ?_ ?_ | with_reducible refine vcQ_split ?_ ?_ | with_reducible refine vcDG_split ?_ ?_) <;> intro hb <;> (try rw [hb]) <;> (try simp only [Bool.and_eq_true, Bool.or_eq_true, dtrue, dfalse, Bool.not_eq_true', Bool.not_eq_false', Bool.and_eq_false_iff, Bool.or_eq_false_iff, Bool.not_true, Bool.not_false] at hb) <;> (try simp only [within] at hb) <;> try (simp only [go_sem, f1, f2])) | refine And.intro (by (first | exact trivial | (simp only [I64]; omega) | omega)) ?_ | (first | (refine vcP_pure (h36) rfl ?_ ?_ ?_; (focus (first | rfl | ((simp only [go_sem, f1, f2, AV.pureL, AV.pure, pureL_mapI, Bool.and_self]) <;> fail))); (focus (first | ((simp only [go_sem, f1, f2]) <;> fail) | rfl))) | (refine dCallP_pure (h36) rfl ?_ ?_ ?_; (focus (first | rfl | ((simp only [go_sem, f1, f2, AV.pureL, AV.pure, pureL_mapI, Bool.and_self]) <;> fail))); (focus (first | ((simp only [go_sem, f1, f2]) <;> fail) | rfl))) | (refine dCallC_pure (h36) rfl ?_ ?_ ?_; (focus (first | rfl | ((simp only [go_sem, f1, f2, AV.pureL, AV.pure, pureL_mapI, Bool.and_self]) <;> fail))); (focus (first | ((simp only [go_sem, f1, f2]) <;> fail) | rfl))) | refine dCallC_safe (h36) rfl rfl (by (simp only [go_sem, f1, f2])) ?_ | refine vcP_safe (h36) rfl rfl (by (simp only [go_sem, f1, f2])) ?_ | refine dCallP_safe (h36) rfl rfl ?_) | (simp only [go_sem, f1, f2])))
def encP (p : Int × Int) : List AV := [.int .i64 p.1, .int .i64 p.2]
theorem pureP (l : List (Int × Int)) : pureE (l.map encP) = True := pureE_map fun _ => rfl
attribute [go_sem] pureP
theorem lo_le_hi {s : Shop} (hne : aW s ≠ []) (i : Int) : lo s i ≤ hi s i := by
  obtain ⟨w, hw⟩ := List.exists_mem_of_ne_nil _ hne
  have hm : lf s w i ∈ (aW s).map fun w => lf s w i := List.mem_map.2 ⟨w, hw, rfl⟩
  exact Int.le_trans (low_le hm) (le_high hm)
end Go.Proofs.Ytekdocalipchpaa

