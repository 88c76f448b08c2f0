/- Contracts of functions of the given program, without a condition beyond those that each theorem states; they lead to the given statement. -/
import Derived.Test.YtoadkchhimojlaaK02a
set_option linter.unusedSimpArgs false
set_option linter.unusedVariables false
set_option maxRecDepth 100000
namespace Go.Proofs.Ytoadkchhimojlaa.W2
open Go Go.Fl
open Classical
def okM (s : Shop) (m : Mould) : Prop := within m.page 0 (s.wt.length - 1) ∧ within m.used 0 12 ∧ within m.broke 0 1
def okW (s : Shop) (w : List Int) : Prop := w.length = s.ms.length ∧ ∀ n, n ∈ w → within n 0 12
def valid (s : Shop) : Prop := s.wt.length ≤ 3 ∧ s.ms.length ≤ 5 ∧ s.ws.length ≤ 6 ∧ within s.fr 1 12 ∧ (∀ n, n ∈ s.wt → within n 0 12) ∧ (∀ m, m ∈ s.ms → okM s m) ∧ ∀ w, w ∈ s.ws → okW s w
noncomputable def check (s : Shop) : Int := if valid s then 0 else 20
theorem ck0 {s : Shop} (h : valid s) : AV.int .i64 0 = .int .i64 (check s) := by simp [check, h]
def huge (s : Shop) : Prop := 40 < s.ms.length ∨ 40 < s.ws.length ∨ 40 < s.wt.length ∨ ∃ w, w ∈ s.ws ∧ 40 < w.length
theorem c5 (s : Shop) : PC Try.prog 5 [hS s] (.bool (decide (huge s))) := by
  refine PC.body Try.func5 (by kernel_rfl) rfl (by simp [Try.f5]) rfl ?_
  simp only [Try.f5]
  intro hlen
  simp only [go_sem, List.length_map, and_true, true_and] at hlen
  refine CV.run ?_
  (repeat' (first | ((first | with_reducible refine vcG_split ?_ ?_ | with_reducible refine vcIf_split ?_ ?_ | with_reducible refine vcQ_split ?_ ?_ | with_reducible refine vcDG_split ?_ ?_) <;> intro hb <;> (try rw [hb]) <;> (try simp only [Bool.and_eq_true, Bool.or_eq_true, dtrue, dfalse, Bool.not_eq_true', Bool.not_eq_false', Bool.and_eq_false_iff, Bool.or_eq_false_iff, Bool.not_true, Bool.not_false] at hb) <;> (try simp only [within] at hb) <;> try (simp only [go_sem])) | refine And.intro (by (first | exact trivial | (simp only [I64]; omega) | omega)) ?_ | (simp only [go_sem])))
  all_goals try exact bt (p := huge s) (by unfold huge; omega)
  refine vc_for (fun j => ⟨[(3, .int .i64 j), (2, .bool false), (1, .lp 0 0)], [.box 26 (cS s) false]⟩) s.ws.length (fun j => allTo (fun _ w => w.length ≤ 40) s.ws j) (by (first | exact wk_same (by (simp only [go_sem, Int.natCast_add, Int.natCast_one, Int.natCast_zero, Int.cast_ofNat_Int])) | exact wk_drop (by (simp only [go_sem, Int.natCast_add, Int.natCast_one, Int.natCast_zero, Int.cast_ofNat_Int])) (by (simp only [go_sem, Int.natCast_add, Int.natCast_one, Int.natCast_zero, Int.cast_ofNat_Int])) (by (simp only [go_sem, Int.natCast_add, Int.natCast_one, Int.natCast_zero, Int.cast_ofNat_Int])) (by (simp only [go_sem, Int.natCast_add, Int.natCast_one, Int.natCast_zero, Int.cast_ofNat_Int])) (by (simp only [go_sem, Int.natCast_add, Int.natCast_one, Int.natCast_zero, Int.cast_ofNat_Int])))) .zero ?_
  intro j hj hx
  rcases Nat.lt_or_ge j s.ws.length with hlt | hge
  · obtain ⟨w, hw⟩ := get_of hlt
    have hlt' : (j : Int) < s.ws.length := by omega
    (repeat' (first | ((first | with_reducible refine vcG_split ?_ ?_ | with_reducible refine vcIf_split ?_ ?_ | with_reducible refine vcQ_split ?_ ?_ | with_reducible refine vcDG_split ?_ ?_) <;> intro hb <;> (try rw [hb]) <;> (try simp only [Bool.and_eq_true, Bool.or_eq_true, dtrue, dfalse, Bool.not_eq_true', Bool.not_eq_false', Bool.and_eq_false_iff, Bool.or_eq_false_iff, Bool.not_true, Bool.not_false] at hb) <;> (try simp only [within] at hb) <;> try (simp only [go_sem, hlt', hw, encW])) | refine And.intro (by (first | exact trivial | (simp only [I64]; omega) | omega)) ?_ | (simp only [go_sem, hlt', hw, encW])))
    · exact bt (p := huge s) (.inr (.inr (.inr ⟨w, List.mem_of_getElem? hw, by omega⟩)))
    · exact ⟨by (first | exact wk_same (by (simp only [go_sem, Int.natCast_add, Int.natCast_one, Int.natCast_zero, Int.cast_ofNat_Int])) | exact wk_drop (by (simp only [go_sem, Int.natCast_add, Int.natCast_one, Int.natCast_zero, Int.cast_ofNat_Int])) (by (simp only [go_sem, Int.natCast_add, Int.natCast_one, Int.natCast_zero, Int.cast_ofNat_Int])) (by (simp only [go_sem, Int.natCast_add, Int.natCast_one, Int.natCast_zero, Int.cast_ofNat_Int])) (by (simp only [go_sem, Int.natCast_add, Int.natCast_one, Int.natCast_zero, Int.cast_ofNat_Int])) (by (simp only [go_sem, Int.natCast_add, Int.natCast_one, Int.natCast_zero, Int.cast_ofNat_Int]))), hx.succ hw (by omega)⟩
  · have hge' : ¬ (j : Int) < s.ws.length := by omega
    (repeat' (first | ((first | with_reducible refine vcG_split ?_ ?_ | with_reducible refine vcIf_split ?_ ?_ | with_reducible refine vcQ_split ?_ ?_ | with_reducible refine vcDG_split ?_ ?_) <;> intro hb <;> (try rw [hb]) <;> (try simp only [Bool.and_eq_true, Bool.or_eq_true, dtrue, dfalse, Bool.not_eq_true', Bool.not_eq_false', Bool.and_eq_false_iff, Bool.or_eq_false_iff, Bool.not_true, Bool.not_false] at hb) <;> (try simp only [within] at hb) <;> try (simp only [go_sem, hge'])) | refine And.intro (by (first | exact trivial | (simp only [I64]; omega) | omega)) ?_ | (simp only [go_sem, hge'])))
    refine bf (p := huge s) fun h => ?_
    rcases h with h | h | h | ⟨w, h1, h2⟩
    · omega
    · omega
    · omega
    · have := hx.mem hge w h1; omega
theorem check0 {s : Shop} : (check s = 0) = valid s := by unfold check; split <;> simp_all
end Go.Proofs.Ytoadkchhimojlaa.W2

