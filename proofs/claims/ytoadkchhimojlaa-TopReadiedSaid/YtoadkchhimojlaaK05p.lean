/- Contracts of functions of the given program, without a condition beyond those that each theorem states; they lead to the given statement. -/
import Derived.Test.YtoadkchhimojlaaK05o
set_option linter.unusedSimpArgs false
set_option linter.unusedVariables false
set_option maxRecDepth 100000
namespace Go.Proofs.Ytoadkchhimojlaa.W5
open Go Go.Fl
open Classical
def qstp (s : List Job) (b : Option (Int × List Int)) (x : List Int) : Option (Int × List Int) :=
  if x.length < s.length then b else match b with
    | none => some (done s x, x)
    | some (e, l) => if done s x < e then some (done s x, x) else some (e, l)
def qS (s : List Job) (L : List (List Int)) : Option (Int × List Int) := L.foldl (qstp s) none
theorem qS_nil {s : List Job} : qS s [] = none := rfl
theorem qS_app {s : List Job} {L : List (List Int)} {x : List Int} : qS s (L ++ [x]) = qstp s (qS s L) x := by rw [qS, List.foldl_append]; rfl
def qI (b : Option (Int × List Int)) : Int := match b with | none => 0 | some (e, _) => e
def qO (b : Option (Int × List Int)) : List Int := match b with | none => [] | some (_, l) => l
def leastM (s : List Job) : Int := qI (qS s (ords s))
def quickO (s : List Job) : List Int := qO (qS s (ords s))
theorem qS_spec {s : List Job} : ∀ L : List (List Int), L.Pairwise lessL → match qS s L with
    | none => ∀ x, x ∈ L → x.length < s.length
    | some (e, l) => l ∈ L ∧ ¬ l.length < s.length ∧ done s l = e ∧ ∀ x, x ∈ L → ¬ x.length < s.length → e ≤ done s x ∧ (done s x = e → ¬ lessL x l) := by
  refine snoc_ind (fun _ x hx => by cases hx) fun L x ih hp => ?_
  rw [List.pairwise_append] at hp
  obtain ⟨hp1, _, hp2⟩ := hp
  have ih := ih hp1
  rw [qS_app]
  unfold qstp
  by_cases c : x.length < s.length
  · rw [if_pos c]
    cases h : qS s L with
    | none =>
      rw [h] at ih
      intro y hy
      rcases List.mem_append.1 hy with q | q
      · exact ih y q
      · simp at q; subst q; exact c
    | some b =>
      obtain ⟨e, l⟩ := b
      rw [h] at ih
      obtain ⟨i1, i2, i3, i4⟩ := ih
      refine ⟨by simp [i1], i2, i3, fun y hy hn => ?_⟩
      rcases List.mem_append.1 hy with q | q
      · exact i4 y q hn
      · simp at q; subst q; exact absurd c hn
  · rw [if_neg c]
    cases h : qS s L with
    | none =>
      rw [h] at ih
      refine ⟨by simp, c, rfl, fun y hy hn => ?_⟩
      rcases List.mem_append.1 hy with q | q
      · exact absurd (ih y q) hn
      · simp at q; subst q; exact ⟨Int.le_refl _, fun _ => lessL.irr⟩
    | some b =>
      obtain ⟨e, l⟩ := b
      rw [h] at ih
      obtain ⟨i1, i2, i3, i4⟩ := ih
      simp only
      by_cases c2 : done s x < e
      · rw [if_pos c2]
        refine ⟨by simp, c, rfl, fun y hy hn => ?_⟩
        rcases List.mem_append.1 hy with q | q
        · have := (i4 y q hn).1
          exact ⟨by omega, fun h => by omega⟩
        · simp at q; subst q; exact ⟨Int.le_refl _, fun _ => lessL.irr⟩
      · rw [if_neg c2]
        refine ⟨by simp [i1], i2, i3, fun y hy hn => ?_⟩
        rcases List.mem_append.1 hy with q | q
        · exact i4 y q hn
        · simp at q; subst q; exact ⟨by omega, fun _ => (hp2 _ i1 y (by simp)).asym⟩
theorem quick_spec {s : List Job} : isOrd s.length (quickO s) ∧ (quickO s).length = s.length ∧ done s (quickO s) = leastM s ∧ ∀ o, isOrd s.length o → o.length = s.length → leastM s ≤ done s o ∧ (done s o = leastM s → ¬ lessL o (quickO s)) := by
  have h := qS_spec (s := s) (ords s) ords_sorted
  unfold quickO leastM
  cases hq : qS s (ords s) with
  | none =>
    rw [hq] at h
    have := h (ruleV s) (ords_mem.2 rule_ord.1)
    rw [rule_ord.2] at this; omega
  | some b =>
    obtain ⟨e, l⟩ := b
    rw [hq] at h
    obtain ⟨i1, i2, i3, i4⟩ := h
    have ho := ords_mem.1 i1
    have := isOrd_le ho
    refine ⟨ho, by simp only [qO]; omega, i3, fun o h1 h2 => i4 o (ords_mem.2 h1) (by omega)⟩
theorem rule_done {s : List Job} (hv : valid s) : done s (ruleV s) = leastM s := by
  obtain ⟨h1, h2, h3, h4⟩ := quick_spec (s := s)
  have := (h4 (ruleV s) rule_ord.1 rule_ord.2).1
  have := rule_least hv h1 h2
  omega
theorem least_le {s : List Job} {o : List Int} (h : isOrd s.length o) (hl : o.length = s.length) : leastM s ≤ done s o := (quick_spec.2.2.2 o h hl).1
theorem done_bounds {s : List Job} (hv : valid s) {o : List Int} (h : isOrd s.length o) : 0 ≤ done s o ∧ done s o ≤ 27 * 6 := by
  have := fin_bounds hv (hiD s) (hiD_ok hv) o h.on
  have h2 := isOrd_le h
  have := hv.1
  unfold done; omega
theorem least_bounds {s : List Job} (hv : valid s) : 0 ≤ leastM s ∧ leastM s ≤ 27 * 6 := by
  obtain ⟨h1, h2, h3, h4⟩ := quick_spec (s := s)
  rw [← h3]; exact done_bounds hv h1
end Go.Proofs.Ytoadkchhimojlaa.W5

