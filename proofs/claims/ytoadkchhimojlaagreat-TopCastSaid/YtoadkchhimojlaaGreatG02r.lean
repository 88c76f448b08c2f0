/- Contracts of functions of the given program, without a condition beyond those that each theorem states; they lead to the given statement. -/
import Derived.Test.YtoadkchhimojlaaGreatG02q
set_option linter.unusedSimpArgs false
set_option linter.unusedVariables false
set_option maxRecDepth 100000
namespace Go.Proofs.YtoadkchhimojlaaGreat.W2
open Go Go.Fl
open Classical
theorem su_ok {s : Shop} (hv : valid s) : ∀ n, n ∈ su s (aW s) → 0 ≤ n ∧ n ≤ 12 := fun n hn => by
  obtain ⟨i, hi, rfl⟩ := List.mem_map.1 hn
  unfold suF
  split
  · rename_i h
    have := lo_bounds hv (W := aW s) (fun w hw => aW_mem hw) i h
    omega
  · omega
def valD (s : Shop) (l : List Int) : Int := spT 13 s l l.length
noncomputable def rDivide (s : Shop) : List Int × Int := if kn s True = 0 then (bB (valD s) (jls s (su s (aW s))), bF (valD s) (jls s (su s (aW s)))) else ([], kn s True)
theorem su_take {s : Shop} : List.take 5 (List.map I (su s (aW s))) = List.map I (su s (aW s)) := List.take_of_length_le (by simp [su_len])
theorem c13 (s : Shop) : PC Tryz.prog 13 [hS s] (.tup [lN (rDivide s).1, .int .i64 (rDivide s).2]) := by
  by_cases hk : kn s True = 0
  · rw [show rDivide s = _ from if_pos hk]
    obtain ⟨hv, _, hne⟩ := kn0.1 hk
    have h71 := c32a s hv (su s (aW s)) su_len (su_ok hv)
    refine PC.body Tryz.func13 (by kernel_rfl) rfl (by simp [Tryz.f13]) rfl ?_
    simp only [Tryz.f13]
    intro hlen
    simp only [go_sem, List.length_map, and_true, true_and] at hlen
    refine CV.run ?_
    (repeat' (first | ((first | with_reducible refine vcG_split ?_ ?_ | with_reducible refine vcIf_split ?_ ?_ | with_reducible refine vcQ_split ?_ ?_ | with_reducible refine vcDG_split ?_ ?_) <;> intro hb <;> (try rw [hb]) <;> (try simp only [Bool.and_eq_true, Bool.or_eq_true, dtrue, dfalse, Bool.not_eq_true', Bool.not_eq_false', Bool.and_eq_false_iff, Bool.or_eq_false_iff, Bool.not_true, Bool.not_false] at hb) <;> (try simp only [within] at hb) <;> try (simp only [go_sem, hk])) | (first | (refine vcP_pure (o30t hk) rfl ?_ ?_ ?_; (focus (first | rfl | ((simp only [go_sem, hk, AV.pureL, AV.pure, pureL_mapI, Bool.and_self]) <;> fail))); (focus (first | ((simp only [go_sem, hk]) <;> fail) | rfl))) | (refine dCallP_pure (o30t hk) rfl ?_ ?_ ?_; (focus (first | rfl | ((simp only [go_sem, hk, AV.pureL, AV.pure, pureL_mapI, Bool.and_self]) <;> fail))); (focus (first | ((simp only [go_sem, hk]) <;> fail) | rfl))) | (refine dCallC_pure (o30t hk) rfl ?_ ?_ ?_; (focus (first | rfl | ((simp only [go_sem, hk, AV.pureL, AV.pure, pureL_mapI, Bool.and_self]) <;> fail))); (focus (first | ((simp only [go_sem, hk]) <;> fail) | rfl))) | refine dCallC_safe (o30t hk) rfl rfl (by (simp only [go_sem, hk])) ?_ | refine vcP_safe (o30t hk) rfl rfl (by (simp only [go_sem, hk])) ?_ | refine dCallP_safe (o30t hk) rfl rfl ?_) | (simp only [go_sem, hk])))
    refine vc_wn (st' := ⟨[(4, .pp [.pp (cX s)]), (2, .nilS), (3, .int .i64 0)], [.box 32 (cS s) false, .box 79 [.pp (cX s)] true]⟩) vc_draw_eq (.bub 1 rfl rfl (.base (by (first | exact wk_same (by (simp only [go_sem, Int.natCast_add, Int.natCast_one, Int.natCast_zero, Int.cast_ofNat_Int])) | exact wk_drop (by (simp only [go_sem, Int.natCast_add, Int.natCast_one, Int.natCast_zero, Int.cast_ofNat_Int])) (by (simp only [go_sem, Int.natCast_add, Int.natCast_one, Int.natCast_zero, Int.cast_ofNat_Int])) (by (simp only [go_sem, Int.natCast_add, Int.natCast_one, Int.natCast_zero, Int.cast_ofNat_Int])) (by (simp only [go_sem, Int.natCast_add, Int.natCast_one, Int.natCast_zero, Int.cast_ofNat_Int])) (by (simp only [go_sem, Int.natCast_add, Int.natCast_one, Int.natCast_zero, Int.cast_ofNat_Int])))))) (CV.run ?_)
    (repeat' (first | ((first | with_reducible refine vcG_split ?_ ?_ | with_reducible refine vcIf_split ?_ ?_ | with_reducible refine vcQ_split ?_ ?_ | with_reducible refine vcDG_split ?_ ?_) <;> intro hb <;> (try rw [hb]) <;> (try simp only [Bool.and_eq_true, Bool.or_eq_true, dtrue, dfalse, Bool.not_eq_true', Bool.not_eq_false', Bool.and_eq_false_iff, Bool.or_eq_false_iff, Bool.not_true, Bool.not_false] at hb) <;> (try simp only [within] at hb) <;> try (simp only [go_sem, su_take, su_len, List.length_map])) | refine And.intro (by (first | exact trivial | (simp only [I64]; omega) | omega)) ?_ | (with_reducible rw [vc_draw_eq]; first | refine CV.draw (id := 4) [(0, 0), (0, 0), (0, 0), (0, 0), (0, 0), (0, 0), (0, 0), (0, 0), (0, 0), (0, 0), (0, 0)] mixed rfl (by kernel_rfl) ?_) | (first | (refine vcP_pure (h71) rfl ?_ ?_ ?_; (focus (first | rfl | ((simp only [go_sem, su_take, su_len, List.length_map, AV.pureL, AV.pure, pureL_mapI, Bool.and_self]) <;> fail))); (focus (first | ((simp only [go_sem, su_take, su_len, List.length_map]) <;> fail) | rfl))) | (refine dCallP_pure (h71) rfl ?_ ?_ ?_; (focus (first | rfl | ((simp only [go_sem, su_take, su_len, List.length_map, AV.pureL, AV.pure, pureL_mapI, Bool.and_self]) <;> fail))); (focus (first | ((simp only [go_sem, su_take, su_len, List.length_map]) <;> fail) | rfl))) | (refine dCallC_pure (h71) rfl ?_ ?_ ?_; (focus (first | rfl | ((simp only [go_sem, su_take, su_len, List.length_map, AV.pureL, AV.pure, pureL_mapI, Bool.and_self]) <;> fail))); (focus (first | ((simp only [go_sem, su_take, su_len, List.length_map]) <;> fail) | rfl))) | refine dCallC_safe (h71) rfl rfl (by (simp only [go_sem, su_take, su_len, List.length_map])) ?_ | refine vcP_safe (h71) rfl rfl (by (simp only [go_sem, su_take, su_len, List.length_map])) ?_ | refine dCallP_safe (h71) rfl rfl ?_) | (simp only [go_sem, su_take, su_len, List.length_map])))
    exact ⟨rfl, rfl⟩
  · rw [show rDivide s = _ from if_neg hk]
    refine PC.body Tryz.func13 (by kernel_rfl) rfl (by simp [Tryz.f13]) rfl ?_
    simp only [Tryz.f13]
    intro hlen
    simp only [go_sem, List.length_map, and_true, true_and] at hlen
    refine CV.run ?_
    (repeat' (first | ((first | with_reducible refine vcG_split ?_ ?_ | with_reducible refine vcIf_split ?_ ?_ | with_reducible refine vcQ_split ?_ ?_ | with_reducible refine vcDG_split ?_ ?_) <;> intro hb <;> (try rw [hb]) <;> (try simp only [Bool.and_eq_true, Bool.or_eq_true, dtrue, dfalse, Bool.not_eq_true', Bool.not_eq_false', Bool.and_eq_false_iff, Bool.or_eq_false_iff, Bool.not_true, Bool.not_false] at hb) <;> (try simp only [within] at hb) <;> try (simp only [go_sem, hk])) | refine And.intro (by (first | exact trivial | (simp only [I64]; omega) | omega)) ?_ | (with_reducible rw [vc_draw_eq]; first | refine CV.draw (id := 4) [(0, 0), (0, 0), (0, 0), (0, 0), (0, 0), (0, 0), (0, 0), (0, 0), (0, 0), (0, 0), (0, 0)] mixed rfl (by kernel_rfl) ?_) | (first | (refine vcP_pure (n30t hk) rfl ?_ ?_ ?_; (focus (first | rfl | ((simp only [go_sem, hk, AV.pureL, AV.pure, pureL_mapI, Bool.and_self]) <;> fail))); (focus (first | ((simp only [go_sem, hk]) <;> fail) | rfl))) | (refine dCallP_pure (n30t hk) rfl ?_ ?_ ?_; (focus (first | rfl | ((simp only [go_sem, hk, AV.pureL, AV.pure, pureL_mapI, Bool.and_self]) <;> fail))); (focus (first | ((simp only [go_sem, hk]) <;> fail) | rfl))) | (refine dCallC_pure (n30t hk) rfl ?_ ?_ ?_; (focus (first | rfl | ((simp only [go_sem, hk, AV.pureL, AV.pure, pureL_mapI, Bool.and_self]) <;> fail))); (focus (first | ((simp only [go_sem, hk]) <;> fail) | rfl))) | refine dCallC_safe (n30t hk) rfl rfl (by (simp only [go_sem, hk])) ?_ | refine vcP_safe (n30t hk) rfl rfl (by (simp only [go_sem, hk])) ?_ | refine dCallP_safe (n30t hk) rfl rfl ?_) | (simp only [go_sem, hk])))
end Go.Proofs.YtoadkchhimojlaaGreat.W2

