/- Contracts of functions of the given program, without a condition beyond those that each theorem states; they lead to the given statement. -/
import Derived.Test.YtllmohmgakdbdaaW07k
import Derived.Test.YtllmohmgakdbdaaFlB
set_option linter.unusedSimpArgs false
set_option linter.unusedVariables false
set_option maxRecDepth 100000
namespace Go.Proofs.Ytllmohmgakdbdaa
open Go Go.Fl
open Classical
def oG (x : Thing) (l : List Int) : Heap := match l with | [] => [] | l => [.box 46 (encT x) false, .row 3 1 (l.map encN) false]
theorem oG_nil {x : Thing} : oG x [] = [] := rfl
theorem oG_cons {g : Thing} {x : Int} {r : List Int} : oG g (x :: r) = [.box 46 (encT g) false, .row 3 1 (encN x :: r.map encN) false] := rfl
attribute [go_sem] oG_nil oG_cons
def whose (ts : List Thing) (q : Nat → Thing → Prop) (n : Nat) : Prop := ∃ t, ts[n]? = some t ∧ q n t
theorem c69 (ts : List Thing) (ms : List Mark) (c : Int) (s b : List Int) (g : Nat) (caps : List AV) (hcp : AV.pureL caps = true) (hfr : ∀ h H, frL h H caps = caps) (q : Nat → Thing → Prop) (hf : ∀ (i : Nat) (t : Thing), ts[i]? = some t → PC Try.prog g (.int .i64 i :: .agg (encT t) :: caps) (.bool (decide (q i t)))) (h40 : ts.length ≤ 40) : PC Try.prog 69 [hX ts ms c s b, .fn g caps] (lN (sel (whose ts q) ts.length)) := by
  have hfz := fun H => frzL_self H caps hcp
  have hbl : ∀ n, (belowL n caps = true) = True := fun n => by simp [belowL_pure n caps hcp]
  refine PC.body Try.func69 (by kernel_rfl) rfl (by simp [Try.f69]) rfl ?_
  simp only [Try.f69]
  intro hlen
  simp only [go_sem, List.length_map, and_true, true_and] at hlen
  refine CV.run ?_
  (repeat' (first | ((first | with_reducible refine vcG_split ?_ ?_ | with_reducible refine vcIf_split ?_ ?_ | with_reducible refine vcQ_split ?_ ?_ | with_reducible refine vcDG_split ?_ ?_) <;> intro hb <;> (try rw [hb]) <;> (try simp only [Bool.and_eq_true, Bool.or_eq_true, dtrue, dfalse, Bool.not_eq_true', Bool.not_eq_false', Bool.and_eq_false_iff, Bool.or_eq_false_iff, Bool.not_true, Bool.not_false] at hb) <;> (try simp only [within] at hb) <;> try (simp only [go_sem])) | refine And.intro (by (first | exact trivial | (simp only [I64]; omega) | omega)) ?_ | fail | (simp only [go_sem])))
  refine vc_forx (fun (j : Nat) (x : Thing) => ⟨[(13, .int .i64 j), (12, .int .i64 ts.length), (11, .lst false 4 (ts.map encT)), (4, oA 1 (sel (whose ts q) j)), (1, .fn g caps)], oG x (sel (whose ts q) j)⟩) ts.length (fun j _ => True) ⟨0, 0, 0, 0⟩ (.base (by (first | exact wk_same (by (simp only [go_sem, Int.natCast_add, Int.natCast_one, Int.natCast_zero, Int.cast_ofNat_Int, sel, hbl])) | exact wk_drop (by (simp only [go_sem, Int.natCast_add, Int.natCast_one, Int.natCast_zero, Int.cast_ofNat_Int, sel, hbl])) (by (simp only [go_sem, Int.natCast_add, Int.natCast_one, Int.natCast_zero, Int.cast_ofNat_Int, sel, hbl])) (by (simp only [go_sem, Int.natCast_add, Int.natCast_one, Int.natCast_zero, Int.cast_ofNat_Int, sel, hbl])) (by (simp only [go_sem, Int.natCast_add, Int.natCast_one, Int.natCast_zero, Int.cast_ofNat_Int, sel, hbl])) (by (simp only [go_sem, Int.natCast_add, Int.natCast_one, Int.natCast_zero, Int.cast_ofNat_Int, sel, hbl]))))) trivial ?_
  intro j x hj _
  have hsl := sel_len (whose ts q) j
  rcases Nat.lt_or_ge j ts.length with hlt | hge
  · obtain ⟨t, ht⟩ := get_of hlt
    have hlt' : (j : Int) < ts.length := by omega
    have hlk : whose ts q j ↔ q j t := by simp [whose, ht]
    have hft := hf j t ht
    simp only [encT] at hft
    rcases hs : sel (whose ts q) j with _ | ⟨y, r⟩
    · (repeat' (first | ((first | with_reducible refine vcG_split ?_ ?_ | with_reducible refine vcIf_split ?_ ?_ | with_reducible refine vcQ_split ?_ ?_ | with_reducible refine vcDG_split ?_ ?_) <;> intro hb <;> (try rw [hb]) <;> (try simp only [Bool.and_eq_true, Bool.or_eq_true, dtrue, dfalse, Bool.not_eq_true', Bool.not_eq_false', Bool.and_eq_false_iff, Bool.or_eq_false_iff, Bool.not_true, Bool.not_false] at hb) <;> (try simp only [within] at hb) <;> try (simp only [go_sem, hlt', ht, hs, encT, hcp, hfr, hfz])) | refine And.intro (by (first | exact trivial | (simp only [I64]; omega) | omega)) ?_ | (first | (refine vcP_pure (hft) rfl ?_ ?_ ?_; (focus (first | rfl | ((simp only [go_sem, hlt', ht, hs, encT, hcp, hfr, hfz, AV.pureL, AV.pure, pureL_mapI, Bool.and_self]) <;> fail))); (focus (first | ((simp only [go_sem, hlt', ht, hs, encT, hcp, hfr, hfz]) <;> fail) | rfl))) | (refine dCallP_pure (hft) rfl ?_ ?_ ?_; (focus (first | rfl | ((simp only [go_sem, hlt', ht, hs, encT, hcp, hfr, hfz, AV.pureL, AV.pure, pureL_mapI, Bool.and_self]) <;> fail))); (focus (first | ((simp only [go_sem, hlt', ht, hs, encT, hcp, hfr, hfz]) <;> fail) | rfl))) | refine vcP_safe (hft) rfl rfl (by (simp only [go_sem, hlt', ht, hs, encT, hcp, hfr, hfz])) ?_ | refine dCallP_safe (hft) rfl rfl ?_) | (simp only [go_sem, hlt', ht, hs, encT, hcp, hfr, hfz])))
      · have e := sel_yes (hlk.2 (by assumption))
        rw [hs, List.nil_append] at e
        refine ⟨t, hlt, .base ?_⟩
        (first | exact wk_same (by (simp only [go_sem, Int.natCast_add, Int.natCast_one, Int.natCast_zero, Int.cast_ofNat_Int, e, encN, encT, hbl])) | exact wk_drop (by (simp only [go_sem, Int.natCast_add, Int.natCast_one, Int.natCast_zero, Int.cast_ofNat_Int, e, encN, encT, hbl])) (by (simp only [go_sem, Int.natCast_add, Int.natCast_one, Int.natCast_zero, Int.cast_ofNat_Int, e, encN, encT, hbl])) (by (simp only [go_sem, Int.natCast_add, Int.natCast_one, Int.natCast_zero, Int.cast_ofNat_Int, e, encN, encT, hbl])) (by (simp only [go_sem, Int.natCast_add, Int.natCast_one, Int.natCast_zero, Int.cast_ofNat_Int, e, encN, encT, hbl])) (by (simp only [go_sem, Int.natCast_add, Int.natCast_one, Int.natCast_zero, Int.cast_ofNat_Int, e, encN, encT, hbl])))
      · have e := sel_no (p := whose ts q) (n := j) (fun h => by simp_all)
        rw [hs] at e
        refine ⟨t, hlt, .base ?_⟩
        (first | exact wk_same (by (simp only [go_sem, Int.natCast_add, Int.natCast_one, Int.natCast_zero, Int.cast_ofNat_Int, e, encN, encT, hbl])) | exact wk_drop (by (simp only [go_sem, Int.natCast_add, Int.natCast_one, Int.natCast_zero, Int.cast_ofNat_Int, e, encN, encT, hbl])) (by (simp only [go_sem, Int.natCast_add, Int.natCast_one, Int.natCast_zero, Int.cast_ofNat_Int, e, encN, encT, hbl])) (by (simp only [go_sem, Int.natCast_add, Int.natCast_one, Int.natCast_zero, Int.cast_ofNat_Int, e, encN, encT, hbl])) (by (simp only [go_sem, Int.natCast_add, Int.natCast_one, Int.natCast_zero, Int.cast_ofNat_Int, e, encN, encT, hbl])) (by (simp only [go_sem, Int.natCast_add, Int.natCast_one, Int.natCast_zero, Int.cast_ofNat_Int, e, encN, encT, hbl])))
    · rw [hs] at hsl
      simp only [List.length_cons] at hsl
      (repeat' (first | ((first | with_reducible refine vcG_split ?_ ?_ | with_reducible refine vcIf_split ?_ ?_ | with_reducible refine vcQ_split ?_ ?_ | with_reducible refine vcDG_split ?_ ?_) <;> intro hb <;> (try rw [hb]) <;> (try simp only [Bool.and_eq_true, Bool.or_eq_true, dtrue, dfalse, Bool.not_eq_true', Bool.not_eq_false', Bool.and_eq_false_iff, Bool.or_eq_false_iff, Bool.not_true, Bool.not_false] at hb) <;> (try simp only [within] at hb) <;> try (simp only [go_sem, hlt', ht, hs, encT, hcp, hfr, hfz])) | refine And.intro (by (first | exact trivial | (simp only [I64]; omega) | omega)) ?_ | (first | (refine vcP_pure (hft) rfl ?_ ?_ ?_; (focus (first | rfl | ((simp only [go_sem, hlt', ht, hs, encT, hcp, hfr, hfz, AV.pureL, AV.pure, pureL_mapI, Bool.and_self]) <;> fail))); (focus (first | ((simp only [go_sem, hlt', ht, hs, encT, hcp, hfr, hfz]) <;> fail) | rfl))) | (refine dCallP_pure (hft) rfl ?_ ?_ ?_; (focus (first | rfl | ((simp only [go_sem, hlt', ht, hs, encT, hcp, hfr, hfz, AV.pureL, AV.pure, pureL_mapI, Bool.and_self]) <;> fail))); (focus (first | ((simp only [go_sem, hlt', ht, hs, encT, hcp, hfr, hfz]) <;> fail) | rfl))) | refine vcP_safe (hft) rfl rfl (by (simp only [go_sem, hlt', ht, hs, encT, hcp, hfr, hfz])) ?_ | refine dCallP_safe (hft) rfl rfl ?_) | (simp only [go_sem, hlt', ht, hs, encT, hcp, hfr, hfz])))
      · have e := sel_yes (hlk.2 (by assumption))
        rw [hs, List.cons_append] at e
        refine ⟨x, hlt, .base ?_⟩
        (first | exact wk_same (by (simp only [go_sem, Int.natCast_add, Int.natCast_one, Int.natCast_zero, Int.cast_ofNat_Int, e, encN, encT, hbl, List.map_append, List.length_append])) | exact wk_drop (by (simp only [go_sem, Int.natCast_add, Int.natCast_one, Int.natCast_zero, Int.cast_ofNat_Int, e, encN, encT, hbl, List.map_append, List.length_append])) (by (simp only [go_sem, Int.natCast_add, Int.natCast_one, Int.natCast_zero, Int.cast_ofNat_Int, e, encN, encT, hbl, List.map_append, List.length_append])) (by (simp only [go_sem, Int.natCast_add, Int.natCast_one, Int.natCast_zero, Int.cast_ofNat_Int, e, encN, encT, hbl, List.map_append, List.length_append])) (by (simp only [go_sem, Int.natCast_add, Int.natCast_one, Int.natCast_zero, Int.cast_ofNat_Int, e, encN, encT, hbl, List.map_append, List.length_append])) (by (simp only [go_sem, Int.natCast_add, Int.natCast_one, Int.natCast_zero, Int.cast_ofNat_Int, e, encN, encT, hbl, List.map_append, List.length_append])))
      · have e := sel_no (p := whose ts q) (n := j) (fun h => by simp_all)
        rw [hs] at e
        refine ⟨x, hlt, .base ?_⟩
        (first | exact wk_same (by (simp only [go_sem, Int.natCast_add, Int.natCast_one, Int.natCast_zero, Int.cast_ofNat_Int, e, encN, encT, hbl])) | exact wk_drop (by (simp only [go_sem, Int.natCast_add, Int.natCast_one, Int.natCast_zero, Int.cast_ofNat_Int, e, encN, encT, hbl])) (by (simp only [go_sem, Int.natCast_add, Int.natCast_one, Int.natCast_zero, Int.cast_ofNat_Int, e, encN, encT, hbl])) (by (simp only [go_sem, Int.natCast_add, Int.natCast_one, Int.natCast_zero, Int.cast_ofNat_Int, e, encN, encT, hbl])) (by (simp only [go_sem, Int.natCast_add, Int.natCast_one, Int.natCast_zero, Int.cast_ofNat_Int, e, encN, encT, hbl])) (by (simp only [go_sem, Int.natCast_add, Int.natCast_one, Int.natCast_zero, Int.cast_ofNat_Int, e, encN, encT, hbl])))
  · have hge' : ¬ (j : Int) < ts.length := by omega
    have : j = ts.length := by omega
    subst this
    rcases hs : sel (whose ts q) ts.length with _ | ⟨y, r⟩
    · (repeat' (first | ((first | with_reducible refine vcG_split ?_ ?_ | with_reducible refine vcIf_split ?_ ?_ | with_reducible refine vcQ_split ?_ ?_ | with_reducible refine vcDG_split ?_ ?_) <;> intro hb <;> (try rw [hb]) <;> (try simp only [Bool.and_eq_true, Bool.or_eq_true, dtrue, dfalse, Bool.not_eq_true', Bool.not_eq_false', Bool.and_eq_false_iff, Bool.or_eq_false_iff, Bool.not_true, Bool.not_false] at hb) <;> (try simp only [within] at hb) <;> try (simp only [go_sem, hge', hs])) | refine And.intro (by (first | exact trivial | (simp only [I64]; omega) | omega)) ?_ | fail | (simp only [go_sem, hge', hs])))
    · (repeat' (first | ((first | with_reducible refine vcG_split ?_ ?_ | with_reducible refine vcIf_split ?_ ?_ | with_reducible refine vcQ_split ?_ ?_ | with_reducible refine vcDG_split ?_ ?_) <;> intro hb <;> (try rw [hb]) <;> (try simp only [Bool.and_eq_true, Bool.or_eq_true, dtrue, dfalse, Bool.not_eq_true', Bool.not_eq_false', Bool.and_eq_false_iff, Bool.or_eq_false_iff, Bool.not_true, Bool.not_false] at hb) <;> (try simp only [within] at hb) <;> try (simp only [go_sem, hge', hs, encN])) | refine And.intro (by (first | exact trivial | (simp only [I64]; omega) | omega)) ?_ | fail | (simp only [go_sem, hge', hs, encN])))
end Go.Proofs.Ytllmohmgakdbdaa
