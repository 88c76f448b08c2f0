/- Contracts of functions of the given program, without a condition beyond those that each theorem states; they lead to the given statement. -/
import Derived.Test.YtllmohmgakdbdaaW09c
set_option linter.unusedSimpArgs false
set_option linter.unusedVariables false
set_option maxRecDepth 100000
namespace Go.Proofs.Ytllmohmgakdbdaa
open Go Go.Fl
open Classical
def listsOf (below : Nat) : Nat → Nat → List Int → List (List Int)
  | 0, _, first => [first]
  | d + 1, from_, first => (List.range (below - from_)).flatMap fun i => listsOf below d (from_ + i + 1) (first ++ [((from_ + i : Nat) : Int)])
def outsOf (below d from_ : Nat) (first : List Int) (j : Nat) : List (List Int) := (List.range j).flatMap fun i => listsOf below d (from_ + i + 1) (first ++ [((from_ + i : Nat) : Int)])
theorem outsOf_zero {below d from_ : Nat} {first : List Int} : outsOf below d from_ first 0 = [] := rfl
theorem outsOf_succ {below d from_ : Nat} {first : List Int} {j : Nat} : outsOf below d from_ first (j + 1) = outsOf below d from_ first j ++ listsOf below d (from_ + j + 1) (first ++ [((from_ + j : Nat) : Int)]) := by
  simp [outsOf, List.range_succ]
theorem listsOf_len (below : Nat) : ∀ (d from_ : Nat) (first : List Int), from_ ≤ below → (listsOf below d from_ first).length ≤ 2 ^ (below - from_)
  | 0, _, _, _ => by simp only [listsOf, List.length_singleton]; exact Nat.one_le_two_pow
  | d + 1, from_, first, h => by
    have key : ∀ j, j ≤ below - from_ → (outsOf below d from_ first j).length + 2 ^ (below - from_ - j) ≤ 2 ^ (below - from_) := by
      intro j
      induction j with
      | zero => intro _; simp [outsOf_zero]
      | succ j ih =>
        intro hj
        have ih := ih (by omega)
        have hl := listsOf_len below d (from_ + j + 1) (first ++ [((from_ + j : Nat) : Int)]) (by omega)
        rw [show below - (from_ + j + 1) = below - from_ - (j + 1) from by omega] at hl
        rw [show below - from_ - j = below - from_ - (j + 1) + 1 from by omega, Nat.pow_succ] at ih
        rw [outsOf_succ, List.length_append]
        omega
    have := key (below - from_) (Nat.le_refl _)
    exact Nat.le_trans (Nat.le_add_right _ _) this
theorem outsOf_len (below d from_ : Nat) (first : List Int) (h : from_ ≤ below) (j : Nat) (hj : j ≤ below - from_) : (outsOf below d from_ first j).length ≤ 2 ^ (below - from_) := by
  induction j with
  | zero => simp [outsOf_zero]
  | succ j ih =>
    have key : ∀ j, j ≤ below - from_ → (outsOf below d from_ first j).length + 2 ^ (below - from_ - j) ≤ 2 ^ (below - from_) := by
      intro j
      induction j with
      | zero => intro _; simp [outsOf_zero]
      | succ j ih =>
        intro hj
        have ih := ih (by omega)
        have hl := listsOf_len below d (from_ + j + 1) (first ++ [((from_ + j : Nat) : Int)]) (by omega)
        rw [show below - (from_ + j + 1) = below - from_ - (j + 1) from by omega] at hl
        rw [show below - from_ - j = below - from_ - (j + 1) + 1 from by omega, Nat.pow_succ] at ih
        rw [outsOf_succ, List.length_append]
        omega
    have := key (j + 1) hj
    exact Nat.le_trans (Nat.le_add_right _ _) this
def upList (hi : Int) : Int → List Int → Prop
  | _, [] => True
  | lo, x :: r => lo ≤ x ∧ x < hi ∧ upList hi (x + 1) r
theorem listsOf_mem (below : Nat) : ∀ (d from_ : Nat) (first l : List Int), l ∈ listsOf below d from_ first ↔ ∃ t, l = first ++ t ∧ t.length = d ∧ upList below from_ t
  | 0, from_, first, l => by
    simp only [listsOf, List.mem_singleton]
    constructor
    · rintro rfl; exact ⟨[], by simp, rfl, trivial⟩
    · rintro ⟨t, h1, h2, _⟩
      rw [List.eq_nil_of_length_eq_zero h2, List.append_nil] at h1
      exact h1
  | d + 1, from_, first, l => by
    simp only [listsOf, List.mem_flatMap, List.mem_range]
    constructor
    · rintro ⟨i, hi, h⟩
      obtain ⟨t, h1, h2, h3⟩ := (listsOf_mem below d _ _ l).1 h
      refine ⟨((from_ + i : Nat) : Int) :: t, by rw [h1]; simp, by simp [h2], by omega, by omega, ?_⟩
      have e : ((from_ + i : Nat) : Int) + 1 = ((from_ + i + 1 : Nat) : Int) := by omega
      rw [e]; exact h3
    · rintro ⟨t, h1, h2, h3⟩
      match t, h2, h3 with
      | x :: t, h2, h3 =>
        obtain ⟨q1, q2, q3⟩ := h3
        refine ⟨(x - from_).toNat, by omega, (listsOf_mem below d _ _ l).2 ⟨t, ?_, by simpa using h2, ?_⟩⟩
        · have e : ((from_ + (x - from_).toNat : Nat) : Int) = x := by omega
          rw [e, h1]; simp
        · have e : ((from_ + (x - from_).toNat + 1 : Nat) : Int) = x + 1 := by omega
          rw [e]; exact q3
theorem lexC_pre : ∀ (a t u : List Int), lexC (a ++ t) (a ++ u) = lexC t u
  | [], t, u => rfl
  | x :: a, t, u => by
    rw [List.cons_append, List.cons_append, lexC_cc, if_pos (cmp1_eq.2 rfl)]
    exact lexC_pre a t u
theorem listsOf_sorted (below : Nat) : ∀ (d from_ : Nat) (first : List Int), (listsOf below d from_ first).Pairwise fun a b => a.length = b.length ∧ lexC a b < 0
  | 0, _, _ => by simp [listsOf]
  | d + 1, from_, first => by
    simp only [listsOf]
    rw [List.pairwise_flatMap]
    refine ⟨fun i _ => listsOf_sorted below d _ _, List.Pairwise.imp_of_mem ?_ List.pairwise_lt_range⟩
    intro i j _ _ hij a ha b hb
    obtain ⟨t, h1, h2, _⟩ := (listsOf_mem below d _ _ a).1 ha
    obtain ⟨u, h4, h5, _⟩ := (listsOf_mem below d _ _ b).1 hb
    rw [h1, h4, List.append_assoc, List.append_assoc, lexC_pre]
    refine ⟨by simp [h2, h5], ?_⟩
    rw [List.singleton_append, List.singleton_append, lexC_cons]
    exact .inl (by omega)
theorem upList_rising (hi : Int) : ∀ (l : List Int) (lo : Int), upList hi lo l ↔ rising l lo (hi - 1)
  | [], lo => by simp [upList, rising]
  | x :: r, lo => by
    have ih := upList_rising hi r (x + 1)
    simp only [upList, ih]
    constructor
    · rintro ⟨h1, h2, h3⟩ j hj
      cases j with
      | zero => exact ⟨x, rfl, by unfold within; omega, fun h => by omega⟩
      | succ j =>
        obtain ⟨a, q1, q2, q3⟩ := h3 j (by simpa using hj)
        unfold within at q2
        refine ⟨a, by simpa using q1, by unfold within; omega, fun _ => ?_⟩
        cases j with
        | zero => exact ⟨x, rfl, by omega⟩
        | succ j =>
          obtain ⟨b, q4, q5⟩ := q3 (by omega)
          exact ⟨b, by simpa using q4, q5⟩
    · intro h
      obtain ⟨a, q1, q2, _⟩ := h 0 (by simp)
      have : x = a := by simpa using q1
      subst this
      unfold within at q2
      refine ⟨q2.1, by omega, ?_⟩
      have hb : ∀ j, j < r.length → ∃ a, r[j]? = some a ∧ x + 1 ≤ a := by
        intro j
        induction j with
        | zero =>
          intro hj
          obtain ⟨a, q1, _, q3⟩ := h 1 (by simpa using hj)
          obtain ⟨b, q4, q5⟩ := q3 (by omega)
          have : x = b := by simpa using q4
          exact ⟨a, by simpa using q1, by omega⟩
        | succ j ih =>
          intro hj
          obtain ⟨a, q1, q2⟩ := ih (by omega)
          obtain ⟨b, q3, _, q4⟩ := h (j + 2) (by simp only [List.length_cons]; omega)
          obtain ⟨c, q5, q6⟩ := q4 (by omega)
          have q5 : r[j]? = some c := by simpa using q5
          rw [q1] at q5; cases q5
          exact ⟨b, by simpa using q3, by omega⟩
      intro j hj
      obtain ⟨a, q1, q2⟩ := hb j hj
      obtain ⟨b, q3, q4, q5⟩ := h (j + 1) (by simpa using hj)
      have q3 : r[j]? = some b := by simpa using q3
      rw [q1] at q3; cases q3
      unfold within at q4
      refine ⟨a, q1, by unfold within; omega, fun hj0 => ?_⟩
      obtain ⟨c, q6, q7⟩ := q5 (by omega)
      refine ⟨c, ?_, q7⟩
      have e : j + 1 - 1 = (j - 1) + 1 := by omega
      rw [e] at q6
      simpa using q6
def allL (n k : Nat) : List (List Int) := (List.range k).flatMap fun m => listsOf n m 0 []
noncomputable def remL (ts : List Thing) (ms : List Mark) (c now : Int) (k : Nat) : List (List Int) := (allL ts.length k).filter fun l => decide (isRem ts ms c now l)
theorem allL_zero {n : Nat} : allL n 0 = [] := rfl
theorem allL_succ {n k : Nat} : allL n (k + 1) = allL n k ++ listsOf n k 0 [] := by simp [allL, List.range_succ]
theorem allL_mem (n : Nat) (l : List Int) : l ∈ allL n (n + 1) ↔ rising l 0 (n - 1) := by
  simp only [allL, List.mem_flatMap, List.mem_range, listsOf_mem, List.nil_append]
  have e := upList_rising n l 0
  constructor
  · rintro ⟨m, _, t, rfl, _, h⟩
    exact e.1 (by simpa using h)
  · intro h
    have hl : l.length ≤ n := by
      obtain ⟨k, _, hk⟩ := setOf_all n l h
      rw [hk]; exact sel_len _ _
    exact ⟨l.length, by omega, l, rfl, rfl, by simpa using e.2 h⟩
def ordK (a b : List Int) : Prop := a.length < b.length ∨ a.length = b.length ∧ lexC a b < 0
theorem ordK_asymm {a b : List Int} (h1 : ordK a b) (h2 : ordK b a) : False := by
  rcases h1 with h1 | ⟨h1, h3⟩ <;> rcases h2 with h2 | ⟨h2, h4⟩
  · omega
  · omega
  · omega
  · have := lexC_trans _ _ _ h3 h4
    rw [lexC_self] at this; omega
theorem allL_sorted (n k : Nat) : (allL n k).Pairwise ordK := by
  unfold allL
  rw [List.pairwise_flatMap]
  refine ⟨fun m _ => (listsOf_sorted n m 0 []).imp fun h => .inr h, List.Pairwise.imp_of_mem ?_ List.pairwise_lt_range⟩
  intro i j _ _ hij a ha b hb
  obtain ⟨t, h1, h2, _⟩ := (listsOf_mem n _ _ _ a).1 ha
  obtain ⟨u, h4, h5, _⟩ := (listsOf_mem n _ _ _ b).1 hb
  rw [h1, h4]
  exact .inl (by simp [h2, h5]; omega)
theorem remL_sorted (ts : List Thing) (ms : List Mark) (c now : Int) (k : Nat) : (remL ts ms c now k).Pairwise ordK := (allL_sorted _ k).filter _
theorem remL_mem (ts : List Thing) (ms : List Mark) (c now : Int) (l : List Int) : l ∈ remL ts ms c now (ts.length + 1) ↔ rising l 0 (ts.length - 1) ∧ isRem ts ms c now l := by
  unfold remL
  rw [List.mem_filter, allL_mem, decide_eq_true_iff]
def bestS (ts : List Thing) (L : List (List Int)) : Nat → List Int
  | 0 => (L[0]?).getD []
  | j + 1 => match L[j]? with | some l => if costOf ts l < costOf ts (bestS ts L j) then l else bestS ts L j | none => bestS ts L j
theorem bestS_spec (ts : List Thing) (L : List (List Int)) (hs : L.Pairwise ordK) (h0 : 0 < L.length) : ∀ j, j ≤ L.length → ∃ i, L[i]? = some (bestS ts L j) ∧ (i = 0 ∨ i < j) ∧ ∀ (i' : Nat) (l : List Int), i' < j → L[i']? = some l → costOf ts (bestS ts L j) ≤ costOf ts l ∧ (costOf ts l = costOf ts (bestS ts L j) → i ≤ i')
  | 0, _ => ⟨0, by obtain ⟨a, ha⟩ := get_of h0; simp [bestS, ha], .inl rfl, fun i' l h => by omega⟩
  | j + 1, hj => by
    obtain ⟨i, i1, i0, i2⟩ := bestS_spec ts L hs h0 j (by omega)
    obtain ⟨l, hl⟩ := get_of (l := L) (j := j) (by omega)
    by_cases hc : costOf ts l < costOf ts (bestS ts L j)
    · have e : bestS ts L (j + 1) = l := by simp [bestS, hl, hc]
      rw [e]
      refine ⟨j, hl, .inr (by omega), fun i' l' h1 h2 => ?_⟩
      rcases Nat.lt_or_ge i' j with h | h
      · have := i2 i' l' h h2
        exact ⟨by omega, fun _ => by omega⟩
      · have : i' = j := by omega
        subst this
        rw [hl] at h2; cases h2
        exact ⟨Int.le_refl _, fun _ => Nat.le_refl _⟩
    · have e : bestS ts L (j + 1) = bestS ts L j := by simp [bestS, hl, hc]
      rw [e]
      refine ⟨i, i1, by omega, fun i' l' h1 h2 => ?_⟩
      rcases Nat.lt_or_ge i' j with h | h
      · exact i2 i' l' h h2
      · have : i' = j := by omega
        subst this
        rw [hl] at h2; cases h2
        exact ⟨by omega, fun _ => by omega⟩
theorem bestS_eq {ts : List Thing} {ms : List Mark} (hv : valid ts ms) {c now : Int} (hn : within now 0 99) : 0 < (remL ts ms c now (ts.length + 1)).length ∧ bestS ts (remL ts ms c now (ts.length + 1)) (remL ts ms c now (ts.length + 1)).length = bestL ts ms c now := by
  obtain ⟨b1, b2, b3⟩ := best_all ts ms hv c now hn
  have hm := (remL_mem ts ms c now _).2 ⟨b1, b2⟩
  have hs := remL_sorted ts ms c now (ts.length + 1)
  have hmem := fun l => remL_mem ts ms c now l
  generalize remL ts ms c now (ts.length + 1) = L at hm hs hmem ⊢
  have h0 : 0 < L.length := List.length_pos_of_mem hm
  refine ⟨h0, ?_⟩
  obtain ⟨i, i1, _, i2⟩ := bestS_spec ts L hs h0 L.length (Nat.le_refl _)
  generalize bestS ts L L.length = b at i1 i2 ⊢
  obtain ⟨k, hk⟩ := List.mem_iff_getElem?.1 hm
  have hkl := (List.getElem?_eq_some_iff.1 hk).1
  obtain ⟨j1, j2⟩ := i2 k _ hkl hk
  have hbm := (hmem b).1 (List.mem_of_getElem? i1)
  have q := b3 b hbm.1 hbm.2
  rw [better_iff] at q
  have hle := j2 (by omega)
  rcases Nat.lt_or_ge i k with h | h
  · have hil := (List.getElem?_eq_some_iff.1 i1).1
    have := List.pairwise_iff_getElem.1 hs i k hil hkl h
    rw [(List.getElem?_eq_some_iff.1 i1).2, (List.getElem?_eq_some_iff.1 hk).2] at this
    unfold ordK at this
    exact absurd (.inr ⟨by omega, this⟩) q
  · have : i = k := by omega
    subst this
    rw [hk] at i1
    exact (Option.some.inj i1).symm
end Go.Proofs.Ytllmohmgakdbdaa
