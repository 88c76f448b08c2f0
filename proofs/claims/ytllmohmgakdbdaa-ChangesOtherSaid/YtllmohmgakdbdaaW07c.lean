/- Contracts of functions of the given program, without a condition beyond those that each theorem states; they lead to the given statement. -/
import Derived.Test.YtllmohmgakdbdaaW07b
set_option linter.unusedSimpArgs false
set_option linter.unusedVariables false
set_option maxRecDepth 100000
namespace Go.Proofs.Ytllmohmgakdbdaa
open Go Go.Fl
open Classical
def okThings (ts : List Thing) : Prop := ∀ i t, ts[i]? = some t → okThing ts i t
def here (ms : List Mark) (c i at_ : Int) (m : Mark) : Prop := m.change = c ∧ m.thing = i ∧ m.at_ ≤ at_
theorem c75 (ts : List Thing) (ms : List Mark) (hv : okThings ts) (c : Int) : ∀ (n : Nat) (i : Int), 0 ≤ i → i < n → i < ts.length → ∀ at_ : Int, PC Try.prog 75 [hT ts ms, .int .i64 i, .int .i64 c, .int .i64 at_] (.bool (decide (hasOf ts ms c n i at_))) := by
  intro n
  induction n with
  | zero => intro i h0 h1; omega
  | succ n ih =>
    intro i h0 h1 h2 at_
    obtain ⟨t, ht⟩ := get_of (l := ts) (j := i.toNat) (by omega)
    have hok := hv _ _ ht
    have hof : hasOf ts ms c (n + 1) i at_ ↔ (t.at_ ≤ at_ ∧ ((∃ m, m ∈ ms ∧ m.change = c ∧ m.thing = i ∧ m.at_ ≤ at_) ∨ (t.of ≠ -1 ∧ hasOf ts ms c n t.of t.at_))) := by
      simp [hasOf, ht]
    have hrec : t.of ≠ -1 → PC Try.prog 75 [hT ts ms, .int .i64 t.of, .int .i64 c, .int .i64 t.at_] (.bool (decide (hasOf ts ms c n t.of t.at_))) := fun h => by
      have := hok.1
      unfold within at this
      exact ih t.of (by omega) (by omega) (by omega) t.at_
    refine PC.body Try.func75 (by kernel_rfl) rfl (by simp [Try.f75]) rfl ?_
    simp only [Try.f75]
    intro hlen
    simp only [go_sem, List.length_map, and_true, true_and] at hlen
    refine CV.run ?_
    (simp only [go_sem, ht, encT, encM])
    refine And.intro (by omega) ?_
    (repeat' (first | ((first | with_reducible refine vcG_split ?_ ?_ | with_reducible refine vcIf_split ?_ ?_ | with_reducible refine vcQ_split ?_ ?_ | with_reducible refine vcDG_split ?_ ?_) <;> intro hb <;> (try rw [hb]) <;> (try simp only [Bool.and_eq_true, Bool.or_eq_true, dtrue, dfalse, Bool.not_eq_true', Bool.not_eq_false', Bool.and_eq_false_iff, Bool.or_eq_false_iff, Bool.not_true, Bool.not_false] at hb) <;> (try simp only [within] at hb) <;> try (simp only [go_sem, ht, encT])) | refine And.intro (by (first | exact trivial | (simp only [I64]; omega) | omega)) ?_ | fail | (simp only [go_sem, ht, encT])))
    · exact bf fun h => by have := hof.1 h; omega
    refine vc_for (fun j => ⟨[(10, .int .i64 j), (9, .lp 1 0), (8, .bool false), (4, .lp 0 0), (1, .int .i64 i), (2, .int .i64 c), (3, .int .i64 at_)], [.box 25 [.lst false 4 (ts.map encT), .lst false 3 (ms.map encM)] false, .box 46 [.int .i64 t.of, .int .i64 t.at_, .int .i64 t.cost, .int .i64 t.prints] false]⟩) ms.length (fun j => ∀ k m, k < j → ms[k]? = some m → ¬ (m.change = c ∧ m.thing = i ∧ m.at_ ≤ at_)) (by (first | exact wk_same (by (simp only [go_sem, Int.natCast_add, Int.natCast_one, Int.natCast_zero, Int.cast_ofNat_Int])) | exact wk_drop (by (simp only [go_sem, Int.natCast_add, Int.natCast_one, Int.natCast_zero, Int.cast_ofNat_Int])) (by (simp only [go_sem, Int.natCast_add, Int.natCast_one, Int.natCast_zero, Int.cast_ofNat_Int])) (by (simp only [go_sem, Int.natCast_add, Int.natCast_one, Int.natCast_zero, Int.cast_ofNat_Int])) (by (simp only [go_sem, Int.natCast_add, Int.natCast_one, Int.natCast_zero, Int.cast_ofNat_Int])) (by (simp only [go_sem, Int.natCast_add, Int.natCast_one, Int.natCast_zero, Int.cast_ofNat_Int])))) (fun i t h => by omega) ?_
    intro j hj hx
    rcases Nat.lt_or_ge j ms.length with hlt | hge
    · obtain ⟨m, hm⟩ := get_of hlt
      have hlt' : (j : Int) < ms.length := by omega
      have hmm := List.mem_of_getElem? hm
      (repeat' (first | ((first | with_reducible refine vcG_split ?_ ?_ | with_reducible refine vcIf_split ?_ ?_ | with_reducible refine vcQ_split ?_ ?_ | with_reducible refine vcDG_split ?_ ?_) <;> intro hb <;> (try rw [hb]) <;> (try simp only [Bool.and_eq_true, Bool.or_eq_true, dtrue, dfalse, Bool.not_eq_true', Bool.not_eq_false', Bool.and_eq_false_iff, Bool.or_eq_false_iff, Bool.not_true, Bool.not_false] at hb) <;> (try simp only [within] at hb) <;> try (simp only [go_sem, hlt', hm, encM])) | refine And.intro (by (first | exact trivial | (simp only [I64]; omega) | omega)) ?_ | fail | (simp only [go_sem, hlt', hm, encM])))
      all_goals first
        | exact bt (hof.2 ⟨by omega, .inl ⟨m, hmm, by omega⟩⟩)
        | (refine ⟨by (first | exact wk_same (by (simp only [go_sem, Int.natCast_add, Int.natCast_one, Int.natCast_zero, Int.cast_ofNat_Int])) | exact wk_drop (by (simp only [go_sem, Int.natCast_add, Int.natCast_one, Int.natCast_zero, Int.cast_ofNat_Int])) (by (simp only [go_sem, Int.natCast_add, Int.natCast_one, Int.natCast_zero, Int.cast_ofNat_Int])) (by (simp only [go_sem, Int.natCast_add, Int.natCast_one, Int.natCast_zero, Int.cast_ofNat_Int])) (by (simp only [go_sem, Int.natCast_add, Int.natCast_one, Int.natCast_zero, Int.cast_ofNat_Int])) (by (simp only [go_sem, Int.natCast_add, Int.natCast_one, Int.natCast_zero, Int.cast_ofNat_Int]))), fun k m' hk hkm => ?_⟩
           rcases Nat.lt_or_ge k j with h2 | h2
           · exact hx k m' h2 hkm
           · have : k = j := by omega
             subst this
             rw [hm] at hkm; cases hkm; omega)
        | skip
    · have hge' : ¬ (j : Int) < ms.length := by omega
      have hno : ¬ ∃ m, m ∈ ms ∧ m.change = c ∧ m.thing = i ∧ m.at_ ≤ at_ := fun ⟨m, hm, h⟩ => by
        obtain ⟨k, hk⟩ := List.mem_iff_getElem?.1 hm
        exact hx k m (by have := (List.getElem?_eq_some_iff.1 hk).1; omega) hk h
      by_cases hq : t.of = -1
      · (repeat' (first | ((first | with_reducible refine vcG_split ?_ ?_ | with_reducible refine vcIf_split ?_ ?_ | with_reducible refine vcQ_split ?_ ?_ | with_reducible refine vcDG_split ?_ ?_) <;> intro hb <;> (try rw [hb]) <;> (try simp only [Bool.and_eq_true, Bool.or_eq_true, dtrue, dfalse, Bool.not_eq_true', Bool.not_eq_false', Bool.and_eq_false_iff, Bool.or_eq_false_iff, Bool.not_true, Bool.not_false] at hb) <;> (try simp only [within] at hb) <;> try (simp only [go_sem, hge', hq])) | refine And.intro (by (first | exact trivial | (simp only [I64]; omega) | omega)) ?_ | fail | (simp only [go_sem, hge', hq])))
        exact bf fun h => (hof.1 h).2.elim hno fun h => h.1 hq
      · (repeat' (first | ((first | with_reducible refine vcG_split ?_ ?_ | with_reducible refine vcIf_split ?_ ?_ | with_reducible refine vcQ_split ?_ ?_ | with_reducible refine vcDG_split ?_ ?_) <;> intro hb <;> (try rw [hb]) <;> (try simp only [Bool.and_eq_true, Bool.or_eq_true, dtrue, dfalse, Bool.not_eq_true', Bool.not_eq_false', Bool.and_eq_false_iff, Bool.or_eq_false_iff, Bool.not_true, Bool.not_false] at hb) <;> (try simp only [within] at hb) <;> try (simp only [go_sem, hge', hq])) | refine And.intro (by (first | exact trivial | (simp only [I64]; omega) | omega)) ?_ | (first | (refine vcP_pure (hrec hq) rfl ?_ ?_ ?_; (focus (first | rfl | ((simp only [go_sem, hge', hq, AV.pureL, AV.pure, pureL_mapI, Bool.and_self]) <;> fail))); (focus (first | ((simp only [go_sem, hge', hq]) <;> fail) | rfl))) | (refine dCallP_pure (hrec hq) rfl ?_ ?_ ?_; (focus (first | rfl | ((simp only [go_sem, hge', hq, AV.pureL, AV.pure, pureL_mapI, Bool.and_self]) <;> fail))); (focus (first | ((simp only [go_sem, hge', hq]) <;> fail) | rfl))) | refine vcP_safe (hrec hq) rfl rfl (by (simp only [go_sem, hge', hq])) ?_ | refine dCallP_safe (hrec hq) rfl rfl ?_) | (simp only [go_sem, hge', hq])))
        exact bd ⟨fun h => hof.2 ⟨by omega, .inr ⟨hq, h⟩⟩, fun h => ((hof.1 h).2.resolve_left hno).2⟩
end Go.Proofs.Ytllmohmgakdbdaa
