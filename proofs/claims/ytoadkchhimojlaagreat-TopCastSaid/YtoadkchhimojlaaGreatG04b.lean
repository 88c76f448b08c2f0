/- Contracts of functions of the given program, without a condition beyond those that each theorem states; they lead to the given statement. -/
import Derived.Test.YtoadkchhimojlaaGreatG04a
set_option linter.unusedSimpArgs false
set_option linter.unusedVariables false
set_option maxRecDepth 100000
namespace Go.Proofs.YtoadkchhimojlaaGreat
open Go Go.Fl
open Classical
def bs (f : Nat → Bool) : Nat → Nat
  | 0 => 0
  | i + 1 => bs f i + (if f i then 2 ^ i else 0)
theorem bs_lt (f : Nat → Bool) : ∀ n, bs f n < 2 ^ n
  | 0 => by simp [bs]
  | n + 1 => by
    have := bs_lt f n
    rw [bs, Nat.pow_succ]
    split <;> omega
theorem bs_bit {f : Nat → Bool} {b : Nat} (hb : b < 5) : bs f 5 / 2 ^ b % 2 = if f b then 1 else 0 := by
  have hc : b = 0 ∨ b = 1 ∨ b = 2 ∨ b = 3 ∨ b = 4 := by omega
  simp only [bs]
  cases h0 : f 0 <;> cases h1 : f 1 <;> cases h2 : f 2 <;> cases h3 : f 3 <;> cases h4 : f 4 <;>
    (rcases hc with rfl | rfl | rfl | rfl | rfl <;> simp [h0, h1, h2, h3, h4])
theorem bs_add {f g : Nat → Bool} {b : Nat} (hf : f b = false) (hg : ∀ i, g i = (f i || decide (i = b))) : ∀ n, b < n → bs g n = bs f n + 2 ^ b
  | 0, h => by omega
  | n + 1, h => by
    have e0 := hg n
    rcases Nat.lt_or_ge b n with h1 | h1
    · have := bs_add hf hg n h1
      rw [bs, bs, this, e0, decide_eq_false (by omega), Bool.or_false]; omega
    · have hbn : b = n := by omega
      subst hbn
      have same : ∀ m, m ≤ b → bs g m = bs f m := by
        intro m
        induction m with
        | zero => intro _; rfl
        | succ m ih => intro hm; rw [bs, bs, ih (by omega), hg m, decide_eq_false (by omega), Bool.or_false]
      rw [bs, bs, same b (Nat.le_refl _), e0, hf]; simp
theorem bit_or : ∀ u, u < 32 → ∀ b, b < 5 → u / 2 ^ b % 2 = 0 → u ||| 2 ^ b = u + 2 ^ b := by decide
def cnt (f : Nat → Bool) : Nat → Nat
  | 0 => 0
  | i + 1 => cnt f i + (if f i then 0 else 1)
theorem cnt_add {f g : Nat → Bool} {b : Nat} (hf : f b = false) (hg : ∀ i, g i = (f i || decide (i = b))) : ∀ n, b < n → cnt f n = cnt g n + 1
  | 0, h => by omega
  | n + 1, h => by
    have e0 := hg n
    rcases Nat.lt_or_ge b n with h1 | h1
    · have := cnt_add hf hg n h1
      rw [cnt, cnt, this, e0, decide_eq_false (by omega), Bool.or_false]; omega
    · have hbn : b = n := by omega
      subst hbn
      have same : ∀ m, m ≤ b → cnt g m = cnt f m := by
        intro m
        induction m with
        | zero => intro _; rfl
        | succ m ih => intro hm; rw [cnt, cnt, ih (by omega), hg m, decide_eq_false (by omega), Bool.or_false]
      rw [cnt, cnt, same b (Nat.le_refl _), e0, hf]; simp
theorem cnt_le (f : Nat → Bool) : ∀ n, cnt f n ≤ n
  | 0 => Nat.le_refl _
  | n + 1 => by have := cnt_le f n; rw [cnt]; split <;> omega
def usd (p : List (List Int)) (i : Nat) : Bool := p.any fun l => l.contains (i : Int)
def addB (p : List (List Int)) (m : Nat) (b : Nat) : List (List Int) := p.set m (p.getD m [] ++ [(b : Int)])
theorem usd_iff {p : List (List Int)} {i : Nat} : usd p i = true ↔ ∃ l, l ∈ p ∧ (i : Int) ∈ l := by
  simp [usd, List.any_eq_true]
theorem usd_add {p : List (List Int)} {m b : Nat} (hm : m < p.length) (i : Nat) : usd (addB p m b) i = (usd p i || decide (i = b)) := by
  rw [Bool.eq_iff_iff, Bool.or_eq_true, usd_iff, usd_iff, decide_eq_true_eq]
  have hg : p[m]? = some (p.getD m []) := by simp [List.getElem?_eq_getElem hm]
  constructor
  · rintro ⟨l, h1, h2⟩
    rcases List.mem_or_eq_of_mem_set h1 with h1 | rfl
    · exact .inl ⟨l, h1, h2⟩
    · rcases List.mem_append.1 h2 with h2 | h2
      · exact .inl ⟨_, List.mem_of_getElem? hg, h2⟩
      · exact .inr (by have := List.mem_singleton.1 h2; omega)
  · rintro (⟨l, h1, h2⟩ | rfl)
    · obtain ⟨j, hj⟩ := List.mem_iff_getElem?.1 h1
      by_cases e : m = j
      · subst e
        rw [hg] at hj; cases hj
        exact ⟨_, List.mem_of_getElem? (by unfold addB; rw [List.getElem?_set_self hm]), List.mem_append.2 (.inl h2)⟩
      · exact ⟨l, List.mem_of_getElem? (by unfold addB; rw [List.getElem?_set_ne e]; exact hj), h2⟩
    · exact ⟨_, List.mem_of_getElem? (by unfold addB; rw [List.getElem?_set_self hm]), List.mem_append.2 (.inr (by simp))⟩
def lens : List (List Int) → Nat
  | [] => 0
  | l :: p => l.length + lens p
theorem lens_add {b : Nat} : ∀ {p : List (List Int)} {m : Nat}, m < p.length → lens (addB p m b) = lens p + 1
  | [], m, h => by simp at h
  | l :: p, 0, h => by simp [lens, addB]; omega
  | l :: p, m + 1, h => by
    have := lens_add (b := b) (p := p) (m := m) (by simpa using h)
    have e : addB (l :: p) (m + 1) b = l :: addB p m b := by simp [addB]
    rw [e, lens, lens, this]; omega
theorem len_le {l : List Int} : ∀ {p : List (List Int)}, l ∈ p → l.length ≤ lens p
  | [], h => by simp at h
  | x :: p, h => by
    rw [lens]
    rcases List.mem_cons.1 h with rfl | h
    · omega
    · have := len_le h; omega
def plansF (k : Nat) (stop : Int) (nb : Nat) : Nat → Nat → List (List Int) → List (List (List Int))
  | 0, _, _ => []
  | f + 1, m, p => if m = k then [p] else plansF k stop nb f (m + 1) p ++ (if (m : Int) = stop then [] else
      ((List.range nb).filter fun b => !usd p b).flatMap fun b => plansF k stop nb f m (addB p m b))
structure okQ (k nb : Nat) (p : List (List Int)) : Prop where
  len : p.length = k
  rng : ∀ l, l ∈ p → ∀ b, b ∈ l → 0 ≤ b ∧ b < nb
  sum : lens p + cnt (usd p) nb = nb
theorem okQ.add {k nb : Nat} {p : List (List Int)} (h : okQ k nb p) {m b : Nat} (hm : m < k) (hb : b < nb) (hu : usd p b = false) : okQ k nb (addB p m b) := by
  have hmp : m < p.length := by rw [h.len]; exact hm
  refine ⟨by simp [addB, h.len], fun l hl x hx => ?_, ?_⟩
  · rcases List.mem_or_eq_of_mem_set hl with hl | rfl
    · exact h.rng l hl x hx
    · rcases List.mem_append.1 hx with hx | hx
      · exact h.rng _ (List.mem_of_getElem? (by simp [List.getElem?_eq_getElem hmp] : p[m]? = some (p.getD m []))) x hx
      · have := List.mem_singleton.1 hx; omega
  · have h1 := cnt_add hu (usd_add (b := b) hmp) nb hb
    have h2 := lens_add (b := b) hmp
    have := h.sum
    omega
theorem okQ.short {k nb : Nat} {p : List (List Int)} (h : okQ k nb p) {l : List Int} (hl : l ∈ p) : l.length ≤ nb := by
  have := len_le hl; have := h.sum; omega
def adds (k : Nat) (stop : Int) (nb f m : Nat) (p : List (List Int)) (j : Nat) : List (List (List Int)) := ((List.range j).filter fun b => !usd p b).flatMap fun b => plansF k stop nb f m (addB p m b)
theorem adds_yes {k : Nat} {stop : Int} {nb f m : Nat} {p : List (List Int)} {j : Nat} (h : usd p j = true) : adds k stop nb f m p (j + 1) = adds k stop nb f m p j := by
  unfold adds; rw [List.range_succ, List.filter_append]; simp [h]
theorem adds_no {k : Nat} {stop : Int} {nb f m : Nat} {p : List (List Int)} {j : Nat} (h : usd p j = false) : adds k stop nb f m p (j + 1) = adds k stop nb f m p j ++ plansF k stop nb f m (addB p m j) := by
  unfold adds; rw [List.range_succ, List.filter_append]; simp [h]
end Go.Proofs.YtoadkchhimojlaaGreat

