/- Contracts of functions of the given program, without a condition beyond those that each theorem states; they lead to the given statement. -/
import Derived.Test.YtllmohmgakdbdaaW07x
set_option linter.unusedSimpArgs false
set_option linter.unusedVariables false
set_option maxRecDepth 100000
namespace Go.Proofs.Ytllmohmgakdbdaa
open Go Go.Fl
open Classical
theorem cmp1_lt {x y : Int} : cmp1 x y < 0 ↔ x < y := by unfold cmp1; split <;> (try split) <;> omega
theorem cmp1_eq {x y : Int} : cmp1 x y = 0 ↔ x = y := by unfold cmp1; split <;> (try split) <;> omega
theorem lexC_cc {x y : Int} {a b : List Int} : lexC (x :: a) (y :: b) = if cmp1 x y = 0 then lexC a b else cmp1 x y := rfl
theorem lexC_cons {x y : Int} {a b : List Int} : lexC (x :: a) (y :: b) < 0 ↔ x < y ∨ x = y ∧ lexC a b < 0 := by
  rw [lexC_cc]
  by_cases h : cmp1 x y = 0
  · rw [if_pos h]
    have := cmp1_eq.1 h
    constructor
    · intro h2; exact .inr ⟨this, h2⟩
    · rintro (h2 | ⟨_, h2⟩)
      · omega
      · exact h2
  · rw [if_neg h]
    have h3 : ¬ x = y := fun e => h (cmp1_eq.2 e)
    rw [cmp1_lt]
    constructor
    · exact .inl
    · rintro (h2 | ⟨h2, _⟩)
      · exact h2
      · exact absurd h2 h3
theorem lexC_trans : ∀ a b c : List Int, lexC a b < 0 → lexC b c < 0 → lexC a c < 0
  | _, _, [], _, h2 => by
    rename_i b _
    cases b <;> simp [lexC] at h2
  | [], _, _ :: _, _, _ => by simp [lexC]
  | _ :: _, [], _ :: _, h1, _ => by simp [lexC] at h1
  | x :: a, y :: b, z :: c, h1, h2 => by
    rw [lexC_cons] at h1 h2 ⊢
    rcases h1 with h1 | ⟨rfl, h1⟩
    · rcases h2 with h2 | ⟨rfl, h2⟩
      · exact .inl (by omega)
      · exact .inl h1
    · rcases h2 with h2 | ⟨rfl, h2⟩
      · exact .inl h2
      · exact .inr ⟨rfl, lexC_trans a b c h1 h2⟩
theorem earlier_lexC : ∀ a b : List Int, earlier a b → lexC a b < 0
  | [], [], h => by simp [earlier] at h
  | [], _ :: _, _ => by simp [lexC]
  | _ :: _, [], h => by simp [earlier] at h
  | x :: a, y :: b, h => by
    rw [lexC_cons]
    unfold earlier at h
    split at h
    · rename_i e; exact .inr ⟨e, earlier_lexC a b h⟩
    · exact .inl h
theorem better_iff (ts : List Thing) (a b : List Int) : better ts a b ↔ costOf ts a < costOf ts b ∨ costOf ts a = costOf ts b ∧ (a.length < b.length ∨ a.length = b.length ∧ lexC a b < 0) := by
  unfold better orL orL orL orL
  split
  · split
    · split <;> constructor <;> intro h <;> omega
    · constructor <;> intro h <;> omega
  · constructor <;> intro h <;> omega
theorem better_trans {ts : List Thing} {a b c : List Int} (h1 : better ts a b) (h2 : better ts b c) : better ts a c := by
  rw [better_iff] at h1 h2 ⊢
  rcases h1 with h1 | ⟨h1, h3⟩ <;> rcases h2 with h2 | ⟨h2, h4⟩
  · exact .inl (by omega)
  · exact .inl (by omega)
  · exact .inl (by omega)
  · refine .inr ⟨by omega, ?_⟩
    rcases h3 with h3 | ⟨h3, h5⟩ <;> rcases h4 with h4 | ⟨h4, h6⟩
    · exact .inl (by omega)
    · exact .inl (by omega)
    · exact .inl (by omega)
    · exact .inr ⟨by omega, lexC_trans _ _ _ h5 h6⟩
theorem lexC_self : ∀ a : List Int, lexC a a = 0
  | [] => rfl
  | x :: a => by simp [lexC, cmp1, lexC_self a]
theorem better_self {ts : List Thing} {a : List Int} : ¬ better ts a a := by
  rw [better_iff, lexC_self]; omega
theorem bestK_spec (ts : List Thing) (ms : List Mark) (c now : Int) : ∀ k,
    (∀ b, bestK ts ms c now k = some b → ∃ j, j < k ∧ isRem ts ms c now (setOf j ts.length) ∧ b = setOf j ts.length) ∧
    (∀ j, j < k → isRem ts ms c now (setOf j ts.length) → ∃ b, bestK ts ms c now k = some b ∧ ¬ better ts (setOf j ts.length) b)
  | 0 => ⟨fun b h => by simp [bestK] at h, fun j h => by omega⟩
  | k + 1 => by
    obtain ⟨i1, i2⟩ := bestK_spec ts ms c now k
    by_cases hr : isRem ts ms c now (setOf k ts.length)
    · cases hb : bestK ts ms c now k with
      | none =>
        have e : bestK ts ms c now (k + 1) = some (setOf k ts.length) := by simp [bestK, hr, hb]
        refine ⟨fun b h => ⟨k, by omega, hr, by rw [e] at h; exact (Option.some.inj h).symm⟩, fun j hj hjr => ⟨_, e, ?_⟩⟩
        rcases Nat.lt_or_ge j k with hl | hl
        · obtain ⟨b, h1, _⟩ := i2 j hl hjr
          rw [hb] at h1; cases h1
        · have : j = k := by omega
          subst this; exact better_self
      | some b0 =>
        by_cases hbt : better ts (setOf k ts.length) b0
        · have e : bestK ts ms c now (k + 1) = some (setOf k ts.length) := by simp [bestK, hr, hb, hbt]
          refine ⟨fun b h => ⟨k, by omega, hr, by rw [e] at h; exact (Option.some.inj h).symm⟩, fun j hj hjr => ⟨_, e, ?_⟩⟩
          rcases Nat.lt_or_ge j k with hl | hl
          · obtain ⟨b, h1, h2⟩ := i2 j hl hjr
            rw [hb] at h1; cases h1
            exact fun h => h2 (better_trans h hbt)
          · have : j = k := by omega
            subst this; exact better_self
        · have e : bestK ts ms c now (k + 1) = some b0 := by simp [bestK, hr, hb, hbt]
          refine ⟨fun b h => ?_, fun j hj hjr => ⟨_, e, ?_⟩⟩
          · rw [e] at h; cases h
            obtain ⟨j, h1, h2⟩ := i1 b0 hb
            exact ⟨j, by omega, h2⟩
          · rcases Nat.lt_or_ge j k with hl | hl
            · obtain ⟨b, h1, h2⟩ := i2 j hl hjr
              rw [hb] at h1; cases h1
              exact h2
            · have : j = k := by omega
              subst this; exact hbt
    · have e : bestK ts ms c now (k + 1) = bestK ts ms c now k := by simp [bestK, hr]
      refine ⟨fun b h => ?_, fun j hj hjr => ?_⟩
      · rw [e] at h
        obtain ⟨j, h1, h2⟩ := i1 b h
        exact ⟨j, by omega, h2⟩
      · rw [e]
        rcases Nat.lt_or_ge j k with hl | hl
        · exact i2 j hl hjr
        · have : j = k := by omega
          subst this; exact absurd hjr hr
def codeOf (l : List Int) : Nat → Nat
  | 0 => 0
  | n + 1 => codeOf l n + (if (n : Int) ∈ l then 2 ^ n else 0)
theorem codeOf_lt (l : List Int) : ∀ n, codeOf l n < 2 ^ n
  | 0 => by simp [codeOf]
  | n + 1 => by
    have := codeOf_lt l n
    unfold codeOf
    rw [Nat.pow_succ]
    split <;> omega
theorem codeOf_bit (l : List Int) : ∀ n i, i < n → (bitOf (codeOf l n) i ↔ (i : Int) ∈ l)
  | 0, i, h => by omega
  | n + 1, i, h => by
    have hlt := codeOf_lt l n
    unfold codeOf
    rcases Nat.lt_or_ge i n with hi | hi
    · rw [← codeOf_bit l n i hi]
      unfold bitOf
      split
      · have e : 2 ^ n = 2 ^ i * (2 * 2 ^ (n - i - 1)) := by
          rw [← Nat.pow_succ', ← Nat.pow_add]; congr 1; omega
        rw [e, Nat.add_mul_div_left _ _ (Nat.pow_pos (by omega))]
        omega
      · rw [Nat.add_zero]
    · have : i = n := by omega
      subst this
      unfold bitOf
      split
      · rename_i hm
        have : (codeOf l i + 2 ^ i) / 2 ^ i = 1 := by
          rw [Nat.add_div_right _ (Nat.pow_pos (by omega)), Nat.div_eq_of_lt hlt]
        rw [this]; simp [hm]
      · rename_i hm
        rw [Nat.add_zero, Nat.div_eq_of_lt hlt]; simp [hm]
theorem rising_ext : ∀ (a b : List Int), (∀ j x y, a[j]? = some x → a[j + 1]? = some y → x < y) → (∀ j x y, b[j]? = some x → b[j + 1]? = some y → x < y) → (∀ x, x ∈ a ↔ x ∈ b) → a = b
  | [], [], _, _, _ => rfl
  | [], y :: b, _, _, h => by have := (h y).2 (by simp); simp at this
  | x :: a, [], _, _, h => by have := (h x).1 (by simp); simp at this
  | x :: a, y :: b, ha, hb, h => by
    have low : ∀ (z : Int) (l : List Int), (∀ j x y, (z :: l)[j]? = some x → (z :: l)[j + 1]? = some y → x < y) → ∀ w, w ∈ l → z < w := by
      intro z l hl w hw
      obtain ⟨j, hj⟩ := List.mem_iff_getElem?.1 hw
      induction j generalizing w with
      | zero => exact hl 0 z w rfl (by simpa using hj)
      | succ j ih =>
        have hjl := (List.getElem?_eq_some_iff.1 hj).1
        have hv : l[j]? = some (l[j]'(by omega)) := List.getElem?_eq_getElem (by omega)
        have h1 := ih _ (List.mem_of_getElem? hv) hv
        have h2 := hl (j + 1) _ w (by rw [List.getElem?_cons_succ]; exact hv) (by rw [List.getElem?_cons_succ]; exact hj)
        omega
    have la := low x a ha
    have lb := low y b hb
    have hxy : x = y := by
      rcases List.mem_cons.1 ((h x).1 (by simp)) with h1 | h1
      · exact h1
      · rcases List.mem_cons.1 ((h y).2 (by simp)) with h2 | h2
        · exact h2.symm
        · have := lb x h1
          have := la y h2
          omega
    subst hxy
    congr 1
    refine rising_ext a b (fun j u v h1 h2 => ha (j + 1) u v (by simpa using h1) (by simpa using h2)) (fun j u v h1 h2 => hb (j + 1) u v (by simpa using h1) (by simpa using h2)) fun z => ?_
    constructor
    · intro hz
      rcases List.mem_cons.1 ((h z).1 (by simp [hz])) with h1 | h1
      · have := la z hz; omega
      · exact h1
    · intro hz
      rcases List.mem_cons.1 ((h z).2 (by simp [hz])) with h1 | h1
      · have := lb z hz; omega
      · exact h1
theorem rising.step {l : List Int} {lo hi : Int} (h : rising l lo hi) : ∀ (j : Nat) (x y : Int), l[j]? = some x → l[j + 1]? = some y → x < y := by
  intro j x y h1 h2
  obtain ⟨a, h3, _, h4⟩ := h (j + 1) (List.getElem?_eq_some_iff.1 h2).1
  obtain ⟨b, h5, h6⟩ := h4 (by omega)
  rw [h2] at h3; cases h3
  simp only [Nat.add_sub_cancel] at h5
  rw [h1] at h5; cases h5
  exact h6
theorem rising.range {l : List Int} {lo hi : Int} (h : rising l lo hi) : ∀ n, n ∈ l → lo ≤ n ∧ n ≤ hi := by
  intro n hn
  obtain ⟨j, hj⟩ := List.mem_iff_getElem?.1 hn
  obtain ⟨a, h1, h2, _⟩ := h j (List.getElem?_eq_some_iff.1 hj).1
  rw [hj] at h1; cases h1
  exact h2
theorem setOf_all (n : Nat) (l : List Int) (h : rising l 0 (n - 1)) : ∃ k, k < 2 ^ n ∧ l = setOf k n := by
  refine ⟨codeOf l n, codeOf_lt l n, rising_ext _ _ h.step (sel_rising _ n).step fun x => ?_⟩
  unfold setOf
  rw [sel_mem]
  constructor
  · intro hx
    have hr := h.range x hx
    refine ⟨x.toNat, by omega, by omega, ?_⟩
    rw [codeOf_bit l n x.toNat (by omega)]
    rwa [Int.toNat_of_nonneg hr.1]
  · rintro ⟨i, h1, rfl, h2⟩
    exact (codeOf_bit l n i h1).1 h2
end Go.Proofs.Ytllmohmgakdbdaa
