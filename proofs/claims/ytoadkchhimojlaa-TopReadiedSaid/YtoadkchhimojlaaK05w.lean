/- Contracts of functions of the given program, without a condition beyond those that each theorem states; they lead to the given statement. -/
import Derived.Test.YtoadkchhimojlaaK05v
set_option linter.unusedSimpArgs false
set_option linter.unusedVariables false
set_option maxRecDepth 100000
namespace Go.Proofs.Ytoadkchhimojlaa.W5
open Go Go.Fl
open Classical
theorem c21 (s : List Job) (o : List Int) (hv : valid s) (ho : onJ s o) (hol : o.length ≤ 1000) : PC Try.prog 21 [hS s, lN o] (.int .i64 (done s o)) := by
  have h6 := hv.1
  rcases Nat.eq_zero_or_pos o.length with h0 | h0
  · have : o = [] := List.eq_nil_of_length_eq_zero h0
    subst this
    rw [show done s [] = 0 from rfl]
    refine PC.body Try.func21 (by kernel_rfl) rfl (by simp [Try.f21]) rfl ?_
    simp only [Try.f21]
    intro hlen
    simp only [go_sem, List.length_map, and_true, true_and] at hlen
    refine CV.run ?_
    (repeat' (first | ((first | with_reducible refine vcG_split ?_ ?_ | with_reducible refine vcIf_split ?_ ?_ | with_reducible refine vcQ_split ?_ ?_ | with_reducible refine vcDG_split ?_ ?_) <;> intro hb <;> (try rw [hb]) <;> (try simp only [Bool.and_eq_true, Bool.or_eq_true, dtrue, dfalse, Bool.not_eq_true', Bool.not_eq_false', Bool.and_eq_false_iff, Bool.or_eq_false_iff, Bool.not_true, Bool.not_false] at hb) <;> (try simp only [within] at hb) <;> try (simp only [go_sem, List.length_map, List.length_nil, Int.natCast_zero])) | refine And.intro (by (first | exact trivial | (simp only [I64]; omega) | omega)) ?_ | (with_reducible rw [vc_draw_eq]; first | refine CV.draw (id := 3) [(0, 0), (0, 0), (0, 0), (0, 0), (0, 0), (0, 0), (0, 0), (0, 0), (0, 0), (0, 0), (0, 0)] mixed rfl (by kernel_rfl) ?_) | (simp only [go_sem, List.length_map, List.length_nil, Int.natCast_zero])))
  · have h91 := c53 s (by omega)
    have h1 := c52 s o (hiL s) hv ho hol (hiL_ok hv)
    rw [hiL_gv] at h1
    have hml : (tmV s (hiD s) o).length = o.length := tmT_len
    have hg : (tmV s (hiD s) o)[o.length - 1]? = some (done s o) := by
      rw [show (tmV s (hiD s) o)[o.length - 1]? = _ from tmT_get (by omega), show o.length - 1 + 1 = o.length from by omega, List.take_length]; rfl
    have hne : ¬ (o.length : Int) = 0 := by omega
    have hi : (o.length : Int) - 1 = ((o.length - 1 : Nat) : Int) := by omega
    have hlt : ((o.length - 1 : Nat) : Int) < o.length := by omega
    refine PC.body Try.func21 (by kernel_rfl) rfl (by simp [Try.f21]) rfl ?_
    simp only [Try.f21]
    intro hlen
    simp only [go_sem, List.length_map, and_true, true_and] at hlen
    refine CV.run ?_
    (repeat' (first | ((first | with_reducible refine vcG_split ?_ ?_ | with_reducible refine vcIf_split ?_ ?_ | with_reducible refine vcQ_split ?_ ?_ | with_reducible refine vcDG_split ?_ ?_) <;> intro hb <;> (try rw [hb]) <;> (try simp only [Bool.and_eq_true, Bool.or_eq_true, dtrue, dfalse, Bool.not_eq_true', Bool.not_eq_false', Bool.and_eq_false_iff, Bool.or_eq_false_iff, Bool.not_true, Bool.not_false] at hb) <;> (try simp only [within] at hb) <;> try (simp only [go_sem, hne, hi, hlt, hg, hml, encN, List.length_map, Int.toNat_natCast])) | refine And.intro (by (first | exact trivial | (simp only [I64]; omega) | omega)) ?_ | (with_reducible rw [vc_draw_eq]; first | refine CV.draw (id := 3) [(0, 0), (0, 0), (0, 0), (0, 0), (0, 0), (0, 0), (0, 0), (0, 0), (0, 0), (0, 0), (0, 0)] mixed rfl (by kernel_rfl) ?_) | (first | (refine vcP_pure (h91) rfl ?_ ?_ ?_; (focus (first | rfl | ((simp only [go_sem, hne, hi, hlt, hg, hml, encN, List.length_map, Int.toNat_natCast, AV.pureL, AV.pure, pureL_mapI, Bool.and_self]) <;> fail))); (focus (first | ((simp only [go_sem, hne, hi, hlt, hg, hml, encN, List.length_map, Int.toNat_natCast]) <;> fail) | rfl))) | (refine dCallP_pure (h91) rfl ?_ ?_ ?_; (focus (first | rfl | ((simp only [go_sem, hne, hi, hlt, hg, hml, encN, List.length_map, Int.toNat_natCast, AV.pureL, AV.pure, pureL_mapI, Bool.and_self]) <;> fail))); (focus (first | ((simp only [go_sem, hne, hi, hlt, hg, hml, encN, List.length_map, Int.toNat_natCast]) <;> fail) | rfl))) | (refine dCallC_pure (h91) rfl ?_ ?_ ?_; (focus (first | rfl | ((simp only [go_sem, hne, hi, hlt, hg, hml, encN, List.length_map, Int.toNat_natCast, AV.pureL, AV.pure, pureL_mapI, Bool.and_self]) <;> fail))); (focus (first | ((simp only [go_sem, hne, hi, hlt, hg, hml, encN, List.length_map, Int.toNat_natCast]) <;> fail) | rfl))) | refine dCallC_safe (h91) rfl rfl (by (simp only [go_sem, hne, hi, hlt, hg, hml, encN, List.length_map, Int.toNat_natCast])) ?_ | refine vcP_safe (h91) rfl rfl (by (simp only [go_sem, hne, hi, hlt, hg, hml, encN, List.length_map, Int.toNat_natCast])) ?_ | refine dCallP_safe (h91) rfl rfl ?_ | (refine vcP_pure (h1) rfl ?_ ?_ ?_; (focus (first | rfl | ((simp only [go_sem, hne, hi, hlt, hg, hml, encN, List.length_map, Int.toNat_natCast, AV.pureL, AV.pure, pureL_mapI, Bool.and_self]) <;> fail))); (focus (first | ((simp only [go_sem, hne, hi, hlt, hg, hml, encN, List.length_map, Int.toNat_natCast]) <;> fail) | rfl))) | (refine dCallP_pure (h1) rfl ?_ ?_ ?_; (focus (first | rfl | ((simp only [go_sem, hne, hi, hlt, hg, hml, encN, List.length_map, Int.toNat_natCast, AV.pureL, AV.pure, pureL_mapI, Bool.and_self]) <;> fail))); (focus (first | ((simp only [go_sem, hne, hi, hlt, hg, hml, encN, List.length_map, Int.toNat_natCast]) <;> fail) | rfl))) | (refine dCallC_pure (h1) rfl ?_ ?_ ?_; (focus (first | rfl | ((simp only [go_sem, hne, hi, hlt, hg, hml, encN, List.length_map, Int.toNat_natCast, AV.pureL, AV.pure, pureL_mapI, Bool.and_self]) <;> fail))); (focus (first | ((simp only [go_sem, hne, hi, hlt, hg, hml, encN, List.length_map, Int.toNat_natCast]) <;> fail) | rfl))) | refine dCallC_safe (h1) rfl rfl (by (simp only [go_sem, hne, hi, hlt, hg, hml, encN, List.length_map, Int.toNat_natCast])) ?_ | refine vcP_safe (h1) rfl rfl (by (simp only [go_sem, hne, hi, hlt, hg, hml, encN, List.length_map, Int.toNat_natCast])) ?_ | refine dCallP_safe (h1) rfl rfl ?_) | (simp only [go_sem, hne, hi, hlt, hg, hml, encN, List.length_map, Int.toNat_natCast])))
    all_goals omega
end Go.Proofs.Ytoadkchhimojlaa.W5

