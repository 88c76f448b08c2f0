/- Contracts of functions of the given program, without a condition beyond those that each theorem states; they lead to the given statement. -/
import Derived.Test.YtllmohmgakdbdaaW08f
set_option linter.unusedSimpArgs false
set_option maxRecDepth 100000
namespace Go.Proofs.Ytllmohmgakdbdaa
open Go Go.Fl
open Classical
/-- The house without its last thing. -/
def lessM (L : Nat) (ms : List Mark) : List Mark := ms.filter fun m => decide (¬ m.thing = (L : Int))
theorem take_get {ts : List Thing} {L j : Nat} (h : j < L) : (ts.take L)[j]? = ts[j]? := by rw [List.getElem?_take, if_pos h]
theorem take_some {ts : List Thing} {L j : Nat} {t : Thing} (h : (ts.take L)[j]? = some t) : j < L ∧ ts[j]? = some t := by
  rw [List.getElem?_take] at h
  split at h
  · exact ⟨by assumption, h⟩
  · cases h
theorem take_up {ts : List Thing} {L : Nat} {n : Int} (h0 : 0 ≤ n) (h : n < L) : upAt (ts.take L) n = upAt ts n := by
  unfold upAt; rw [take_get (by omega)]
theorem take_cost {ts : List Thing} {L : Nat} {n : Int} (h0 : 0 ≤ n) (h : n < L) : costAt (ts.take L) n = costAt ts n := by
  unfold costAt; rw [take_get (by omega)]
theorem less_valid {ts : List Thing} {ms : List Mark} (hv : valid ts ms) {L : Nat} (hL : ts.length = L + 1) : valid (ts.take L) (lessM L ms) := by
  have hl : (ts.take L).length = L := by simp; omega
  refine ⟨by have := hv.1; omega, Nat.le_trans (List.length_filter_le _ _) hv.2.1, fun i t h => ?_, fun m hm => ?_⟩
  · obtain ⟨h1, h2⟩ := take_some h
    obtain ⟨a1, a2, a3, a4⟩ := hv.2.2.1 i t h2
    refine ⟨a1, a2, fun hne => ?_, a4⟩
    unfold within at a1
    rw [take_up (by omega) (by omega)]
    exact a3 hne
  · obtain ⟨h1, h2⟩ := List.mem_filter.1 hm
    have h2 := of_decide_eq_true h2
    obtain ⟨a1, a2, a3⟩ := hv.2.2.2 m h1
    rw [hL] at a2
    unfold within at a2
    refine ⟨a1, ?_, ?_⟩
    · rw [hl]; unfold within; omega
    · rw [take_up (by omega) (by omega)]; exact a3
theorem hasOf_less {ts : List Thing} (hv : okThings ts) {L : Nat} (hL : ts.length = L + 1) {ma mb : List Mark} (hm : ∀ m : Mark, m.thing ≠ (L : Int) → (m ∈ ma ↔ m ∈ mb)) (c : Int) : ∀ (n : Nat) (i : Int), 0 ≤ i → i < L → ∀ at_ : Int, hasOf (ts.take L) ma c n i at_ ↔ hasOf ts mb c n i at_ := by
  intro n
  induction n with
  | zero => intro i _ _ at_; exact Iff.rfl
  | succ n ih =>
    intro i h0 h1 at_
    obtain ⟨t, ht⟩ := get_of (l := ts) (j := i.toNat) (by omega)
    have hof := (hv _ _ ht).1
    unfold within at hof
    rw [hasOf_succ ts mb c n i t ht, hasOf_succ (ts.take L) ma c n i t (by rw [take_get (by omega)]; exact ht)]
    have e : (∃ m, m ∈ ma ∧ m.change = c ∧ m.thing = i ∧ m.at_ ≤ at_) ↔ (∃ m, m ∈ mb ∧ m.change = c ∧ m.thing = i ∧ m.at_ ≤ at_) := by
      constructor
      · rintro ⟨m, q1, q2, q3, q4⟩; exact ⟨m, (hm m (by omega)).1 q1, q2, q3, q4⟩
      · rintro ⟨m, q1, q2, q3, q4⟩; exact ⟨m, (hm m (by omega)).2 q1, q2, q3, q4⟩
    rw [e]
    by_cases h1' : t.of = -1
    · simp [h1']
    · rw [ih t.of (by omega) (by omega)]
theorem setOf_range (k n : Nat) : ∀ i, i ∈ setOf k n → 0 ≤ i ∧ i < n := fun i hi => by
  obtain ⟨j, h1, h2, _⟩ := (sel_mem _ _).1 hi
  omega
theorem setOf_more {k n : Nat} {i : Int} (h : i ≠ n) : i ∈ setOf k (n + 1) ↔ i ∈ setOf k n := by
  by_cases hp : bitOf k n
  · rw [setOf, sel_yes hp]
    simp [setOf, h]
  · rw [setOf, sel_no hp]; rfl
theorem less_cost (ts : List Thing) (L : Nat) : ∀ l : List Int, (∀ n, n ∈ l → 0 ≤ n ∧ n < L) → costOf (ts.take L) l = costOf ts l
  | [], _ => rfl
  | n :: l, h => by
    have := h n (by simp)
    simp only [costOf]
    rw [take_cost this.1 this.2, less_cost ts L l (fun m hm => h m (by simp [hm]))]
theorem less_math {ts : List Thing} {ms : List Mark} (hv : valid ts ms) {L : Nat} (hL : ts.length = L + 1) {c now : Int} (hn : within now 0 99) :
    costOf (ts.take L) (bestL (ts.take L) (lessM L ms) c now) ≤ costOf ts (bestL ts ms c now) := by
  have hv' := less_valid hv hL
  have hl : (ts.take L).length = L := by simp; omega
  obtain ⟨a1, a2, a3⟩ := best_all ts ms hv c now hn
  obtain ⟨b1, b2, b3⟩ := best_all _ _ hv' c now hn
  obtain ⟨k, _, hk⟩ := setOf_all ts.length _ a1
  rw [hk] at a2 ⊢
  rw [hL] at a2 ⊢
  have hrg := setOf_range k L
  have hr : isRem (ts.take L) (lessM L ms) c now (setOf k L) := by
    rw [isRem_of hv.things] at a2
    rw [isRem_of hv'.things]
    intro i t ht hp
    obtain ⟨h1, h2⟩ := take_some ht
    have := a2 i t h2 hp
    unfold hasAt at this ⊢
    refine (hasOf_less hv.things hL (fun m hm => ?_) c _ _ (by omega) (by omega) _).2 this
    simp only [List.mem_append, lessM, List.mem_filter, altM, List.mem_map]
    constructor
    · rintro (⟨q1, _⟩ | ⟨n, q1, q2⟩)
      · exact .inl q1
      · have := hrg n q1
        rw [take_up this.1 this.2] at q2
        exact .inr ⟨n, (setOf_more (by omega)).2 q1, q2⟩
    · rintro (q1 | ⟨n, q1, q2⟩)
      · exact .inl ⟨q1, decide_eq_true hm⟩
      · have hne : n ≠ L := by
          rintro rfl
          rw [← q2] at hm
          exact hm rfl
        have q1 := (setOf_more hne).1 q1
        have := hrg n q1
        exact .inr ⟨n, q1, by rw [take_up this.1 this.2]; exact q2⟩
  have q := b3 _ (by rw [hl]; exact sel_rising _ _) hr
  rw [better_iff, less_cost ts L _ hrg] at q
  have hc : costOf ts (setOf k L) ≤ costOf ts (setOf k (L + 1)) := by
    obtain ⟨t, ht⟩ := get_of (l := ts) (j := L) (by omega)
    have htc := (hv.things _ _ ht).2.2.2.1
    unfold within at htc
    by_cases hp : bitOf k L
    · rw [show setOf k (L + 1) = setOf k L ++ [(L : Int)] from sel_yes hp, costOf_append]
      simp [costOf, costAt, ht]; omega
    · rw [show setOf k (L + 1) = setOf k L from sel_no hp]
      exact Int.le_refl _
  omega
theorem less_has {ts : List Thing} {ms : List Mark} (hv : valid ts ms) {L : Nat} (hL : ts.length = L + 1) {c i m : Int} (h0 : 0 ≤ i) (hi : i < L) (hm : within m 0 99) : (gv (sP (ts.take L) (lessM L ms) c) i ≤ m) = (gv (sP ts ms c) i ≤ m) := by
  have hv' := less_valid hv hL
  have hl : (ts.take L).length = L := by simp; omega
  rw [← hasAt_gv hv ⟨h0, by omega⟩ hm.2, ← hasAt_gv hv' ⟨h0, by omega⟩ hm.2]
  unfold hasAt
  refine propext (hasOf_less hv.things hL (fun a ha => ?_) c _ _ h0 hi _)
  simp only [lessM, List.mem_filter]
  exact ⟨fun h => h.1, fun h => ⟨h, decide_eq_true ha⟩⟩
end Go.Proofs.Ytllmohmgakdbdaa
