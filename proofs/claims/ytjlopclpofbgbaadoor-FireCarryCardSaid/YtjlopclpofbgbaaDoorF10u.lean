/- Contracts of functions of the given program, without a condition beyond those that each theorem states; they lead to the given statement. -/
import Derived.Test.YtjlopclpofbgbaaDoorF10s
set_option linter.unusedSimpArgs false
set_option linter.unusedVariables false
set_option maxRecDepth 100000
namespace Go.Proofs.YtjlopclpofbgbaaDoor
open Go Go.Fl
open Classical
noncomputable def cstN (t : Town) (l : List Int) : Nat → Int × Int
  | 0 => (0, 0)
  | k + 1 => if gv l k = gv t.pl k then cstN t l k else ((cstN t l k).1 + gv t.ca k, (cstN t l k).2 + 1)
noncomputable def cst (t : Town) (l : List Int) : Int × Int := cstN t l l.length
theorem cstN_congr {t : Town} {l l' : List Int} : ∀ n, (∀ i : Nat, i < n → gv l i = gv l' i) → cstN t l n = cstN t l' n
  | 0, _ => rfl
  | n + 1, h => by
    simp only [cstN]
    rw [h n (by omega), cstN_congr n fun i hi => h i (by omega)]
theorem gv_app {l r : List Int} {i : Nat} (h : i < l.length) : gv (l ++ r) i = gv l i := by
  simp only [gv, Int.toNat_natCast, List.getElem?_append_left h]
theorem gv_end {l r : List Int} {x : Int} : gv (l ++ x :: r) l.length = x := by
  simp only [gv, Int.toNat_natCast, List.getElem?_append_right (Nat.le_refl _), Nat.sub_self, List.getElem?_cons_zero, Option.getD_some]
theorem cst_snoc {t : Town} {l : List Int} {x : Int} : cst t (l ++ [x]) = if x = gv t.pl l.length then cst t l else ((cst t l).1 + gv t.ca l.length, (cst t l).2 + 1) := by
  unfold cst
  rw [List.length_append, List.length_singleton, cstN, gv_end, cstN_congr l.length fun i hi => gv_app hi]
noncomputable def cars (t : Town) : Nat → List Int → List (List Int)
  | 0, pre => [pre]
  | d + 1, pre => (List.range t.rm.length).flatMap fun (b : Nat) => if (b : Int) = gv t.pl pre.length ∨ there t pre.length then cars t d (pre ++ [(b : Int)]) else []
noncomputable def stp (t : Town) (S : Best) (l : List Int) : Best := if worse S (cst t l).1 (cst t l).2 then S else if endP t l then some (l, cst t l) else S
theorem worse_mono {S : Best} {a b a' b' : Int} (h : worse S a b) (h1 : a ≤ a') (h2 : b ≤ b') : worse S a' b' := by
  obtain ⟨x, e, hx⟩ := h
  refine ⟨x, e, fun hl => hx ?_⟩
  unfold lexlt at *
  simp only at *
  omega
theorem fold_worse {t : Town} {S : Best} : ∀ {L : List (List Int)}, (∀ l, l ∈ L → worse S (cst t l).1 (cst t l).2) → L.foldl (stp t) S = S
  | [], _ => rfl
  | l :: L, h => by
    rw [List.foldl_cons, stp, if_pos (h l (by simp)), fold_worse fun l hl => h l (by simp [hl])]
theorem cars_mono {t : Town} (hv : validT t) : ∀ (d : Nat) (pre : List Int), pre.length + d = t.ts.length → ∀ l, l ∈ cars t d pre → (cst t pre).1 ≤ (cst t l).1 ∧ (cst t pre).2 ≤ (cst t l).2
  | 0, pre, _, l, hl => by
    simp only [cars, List.mem_singleton] at hl
    subst hl; exact ⟨Int.le_refl _, Int.le_refl _⟩
  | d + 1, pre, hd, l, hl => by
    simp only [cars, List.mem_flatMap, List.mem_range] at hl
    obtain ⟨b, hb, hl⟩ := hl
    split at hl
    · have h1 := cars_mono hv d (pre ++ [(b : Int)]) (by simp; omega) l hl
      rw [cst_snoc] at h1
      have hc := ca_bnd hv (k := pre.length) (by omega)
      split at h1
      · exact h1
      · simp only at h1; omega
    · cases hl
theorem vis_fold {t : Town} (hv : validT t) : ∀ (d : Nat) (pre : List Int) (S : Best), pre.length + d = t.ts.length → vis t d pre (cst t pre).1 (cst t pre).2 S = (cars t d pre).foldl (stp t) S
  | 0, pre, S, _ => by rw [vis_zero]; rfl
  | d + 1, pre, S, hd => by
    rw [vis_succ]
    split
    · rename_i hw
      rw [fold_worse]
      intro l hl
      have := cars_mono hv (d + 1) pre hd l hl
      exact worse_mono hw this.1 this.2
    · have key : ∀ j, visT t d pre (cst t pre).1 (cst t pre).2 S j = ((List.range j).flatMap fun (b : Nat) => if (b : Int) = gv t.pl pre.length ∨ there t pre.length then cars t d (pre ++ [(b : Int)]) else []).foldl (stp t) S := fun j => by
        induction j with
        | zero => rfl
        | succ j ih =>
          rw [visT_succ, List.range_succ, List.flatMap_append, List.foldl_append, ← ih]
          simp only [List.flatMap_cons, List.flatMap_nil, List.append_nil]
          have hc : (pre ++ [(j : Int)]).length + d = t.ts.length := by simp; omega
          by_cases h1 : (j : Int) = gv t.pl pre.length
          · rw [if_pos h1, if_pos (.inl h1), ← vis_fold hv d _ _ hc, cst_snoc, if_pos h1]
          · by_cases h2 : there t pre.length
            · rw [if_neg h1, if_pos h2, if_pos (.inr h2), ← vis_fold hv d _ _ hc, cst_snoc, if_neg h1]
            · rw [if_neg h1, if_neg h2, if_neg (by rintro (h | h) <;> contradiction)]; rfl
      exact key _
theorem fold_best {t : Town} {E : List Int → Prop} {s : Best → List Int → Best} (hs : ∀ S l, s S l = if worse S (cst t l).1 (cst t l).2 then S else if E l then some (l, cst t l) else S) (L : List (List Int)) :
    (L.foldl s none = none ∧ ∀ l, l ∈ L → ¬ E l) ∨ ∃ l L1 L2, L.foldl s none = some (l, cst t l) ∧ L = L1 ++ l :: L2 ∧ E l ∧ (∀ x, x ∈ L1 → E x → lexlt (cst t l) (cst t x)) ∧ ∀ x, x ∈ L2 → E x → ¬ lexlt (cst t x) (cst t l) := by
  have lt_trans : ∀ {a b c : Int × Int}, lexlt a b → ¬ lexlt c b → lexlt a c := fun h1 h2 => by unfold lexlt at *; omega
  suffices ∀ (A B : List (List Int)), L = A ++ B → (A.foldl s none = none ∧ ∀ l, l ∈ A → ¬ E l) ∨ ∃ l L1 L2, A.foldl s none = some (l, cst t l) ∧ A = L1 ++ l :: L2 ∧ E l ∧ (∀ x, x ∈ L1 → E x → lexlt (cst t l) (cst t x)) ∧ ∀ x, x ∈ L2 → E x → ¬ lexlt (cst t x) (cst t l) from this L [] (by simp)
  have key : ∀ (n : Nat) (A : List (List Int)), A.length = n → (A.foldl s none = none ∧ ∀ l, l ∈ A → ¬ E l) ∨ ∃ l L1 L2, A.foldl s none = some (l, cst t l) ∧ A = L1 ++ l :: L2 ∧ E l ∧ (∀ x, x ∈ L1 → E x → lexlt (cst t l) (cst t x)) ∧ ∀ x, x ∈ L2 → E x → ¬ lexlt (cst t x) (cst t l) := fun n => by
    induction n with
    | zero => intro A hA; have : A = [] := List.eq_nil_of_length_eq_zero hA; subst this; exact .inl ⟨rfl, by simp⟩
    | succ n ih =>
      intro A hA
      have hne : A ≠ [] := by intro h; rw [h] at hA; simp at hA
      obtain ⟨B, z, rfl⟩ : ∃ B z, A = B ++ [z] := ⟨_, _, (List.dropLast_concat_getLast hne).symm⟩
      rw [List.foldl_append, List.foldl_cons, List.foldl_nil, hs]
      rcases ih B (by simpa using hA) with ⟨h1, h2⟩ | ⟨l, L1, L2, h1, rfl, h3, h4, h5⟩
      · rw [h1, if_neg (by rintro ⟨x, h, _⟩; cases h)]
        by_cases hz : E z
        · rw [if_pos hz]
          exact .inr ⟨z, B, [], rfl, by simp, hz, fun x hx hE => absurd hE (h2 x hx), by simp⟩
        · rw [if_neg hz]
          refine .inl ⟨rfl, fun l hl => ?_⟩
          rcases List.mem_append.1 hl with h | h
          · exact h2 l h
          · rw [List.mem_singleton] at h; subst h; exact hz
      · rw [h1]
        refine .inr ?_
        by_cases hw : worse (some (l, cst t l)) (cst t z).1 (cst t z).2
        · rw [if_pos hw]
          refine ⟨l, L1, L2 ++ [z], rfl, by simp, h3, h4, fun x hx hE => ?_⟩
          rcases List.mem_append.1 hx with h | h
          · exact h5 x h hE
          · rw [List.mem_singleton] at h; subst h
            obtain ⟨y, e, hy⟩ := hw
            cases e; exact hy
        · rw [if_neg hw]
          have hlt : lexlt (cst t z) (cst t l) := by
            apply Classical.byContradiction
            intro h; exact hw ⟨_, rfl, h⟩
          by_cases hz : E z
          · rw [if_pos hz]
            refine ⟨z, L1 ++ l :: L2, [], rfl, by simp, hz, fun x hx hE => ?_, by simp⟩
            rcases List.mem_append.1 hx with h | h
            · have := h4 x h hE
              unfold lexlt at *; omega
            · rcases List.mem_cons.1 h with rfl | h
              · exact hlt
              · exact lt_trans hlt (h5 x h hE)
          · rw [if_neg hz]
            refine ⟨l, L1, L2 ++ [z], rfl, by simp, h3, h4, fun x hx hE => ?_⟩
            rcases List.mem_append.1 hx with h | h
            · exact h5 x h hE
            · rw [List.mem_singleton] at h; subst h; exact absurd hE hz
  exact fun A B _ => key _ A rfl
theorem earlier_pre : ∀ {a b c : List Int}, earlier (a ++ b) (a ++ c) ↔ earlier b c
  | [], b, c => Iff.rfl
  | x :: a, b, c => by simp only [List.cons_append, earlier, if_true]; exact earlier_pre
theorem earlier_irr : ∀ {a : List Int}, ¬ earlier a a
  | [] => by simp [earlier]
  | x :: a => by simp only [earlier, if_true]; exact earlier_irr
def carP (t : Town) (l : List Int) (i : Nat) : Prop := 0 ≤ gv l i ∧ gv l i < t.rm.length ∧ (gv l i = gv t.pl i ∨ there t i)
theorem cars_mem {t : Town} : ∀ (d : Nat) (pre : List Int) (l : List Int), l ∈ cars t d pre ↔ l.length = pre.length + d ∧ l.take pre.length = pre ∧ ∀ i, pre.length ≤ i → i < l.length → carP t l i
  | 0, pre, l => by
    simp only [cars, List.mem_singleton]
    constructor
    · rintro rfl; exact ⟨rfl, List.take_length, fun i h1 h2 => by omega⟩
    · rintro ⟨h1, h2, _⟩; rw [← h2, List.take_of_length_le (by omega)]
  | d + 1, pre, l => by
    simp only [cars, List.mem_flatMap, List.mem_range]
    constructor
    · rintro ⟨b, hb, hl⟩
      split at hl
      · rename_i hc
        obtain ⟨h1, h2, h3⟩ := (cars_mem d _ l).1 hl
        rw [List.length_append, List.length_singleton] at h1 h2 h3
        have hlt : pre.length < l.length := by omega
        have e : l = pre ++ (b : Int) :: l.drop (pre.length + 1) := by
          conv => lhs; rw [← List.take_append_drop (pre.length + 1) l, h2]
          simp
        have hg : gv l pre.length = b := by rw [e]; exact gv_end
        refine ⟨by omega, ?_, fun i hi hi2 => ?_⟩
        · rw [e, List.take_append_of_le_length (Nat.le_refl _), List.take_length]
        · rcases Nat.lt_or_ge pre.length i with h | h
          · exact h3 i h hi2
          · have : i = pre.length := by omega
            subst this
            exact ⟨by omega, by omega, by rw [hg]; exact hc⟩
      · cases hl
    · rintro ⟨h1, h2, h3⟩
      obtain ⟨g1, g2, g3⟩ := h3 pre.length (Nat.le_refl _) (by omega)
      obtain ⟨b, hb⟩ : ∃ b : Nat, gv l pre.length = b := ⟨(gv l pre.length).toNat, by omega⟩
      obtain ⟨x, hx⟩ := get_of (l := l) (j := pre.length) (by omega)
      have hxb : x = b := by rw [← hb, gv_nat hx]
      subst hxb
      rw [hb] at g2 g3
      refine ⟨b, by omega, ?_⟩
      rw [if_pos g3, cars_mem d]
      rw [List.length_append, List.length_singleton]
      refine ⟨by omega, ?_, fun i hi hi2 => h3 i (by omega) hi2⟩
      rw [List.take_add_one, h2, hx]; rfl
theorem cars_sorted {t : Town} : ∀ (d : Nat) (pre : List Int), (cars t d pre).Pairwise earlier
  | 0, pre => by simp [cars]
  | d + 1, pre => by
    have key : ∀ j, ((List.range j).flatMap fun (b : Nat) => if (b : Int) = gv t.pl pre.length ∨ there t pre.length then cars t d (pre ++ [(b : Int)]) else []).Pairwise earlier := fun j => by
      induction j with
      | zero => simp
      | succ j ih =>
        rw [List.range_succ, List.flatMap_append, List.pairwise_append]
        refine ⟨ih, ?_, ?_⟩
        · simp only [List.flatMap_cons, List.flatMap_nil, List.append_nil]
          split
          · exact cars_sorted d _
          · simp
        · intro x hx y hy
          simp only [List.flatMap_cons, List.flatMap_nil, List.append_nil] at hy
          simp only [List.mem_flatMap, List.mem_range] at hx
          obtain ⟨b, hb, hx⟩ := hx
          split at hx <;> split at hy
          · have ex := ((cars_mem d _ _).1 hx).2.1
            have ey := ((cars_mem d _ _).1 hy).2.1
            rw [← List.take_append_drop (pre ++ [(b : Int)]).length x, ← List.take_append_drop (pre ++ [(j : Int)]).length y, ex, ey]
            rw [List.append_assoc, List.append_assoc, earlier_pre]
            simp only [List.singleton_append, earlier]
            rw [if_neg (by omega)]; omega
          · cases hy
          · cases hx
          · cases hx
    exact key _
noncomputable def remT (t : Town) : Best := vis t t.ts.length [] 0 0 none
def isCar (t : Town) (l : List Int) : Prop := l.length = t.ts.length ∧ ∀ i, i < l.length → carP t l i
theorem cars_all {t : Town} {l : List Int} : l ∈ cars t t.ts.length [] ↔ isCar t l := by
  rw [cars_mem]
  simp [isCar]
theorem remT_fold {t : Town} (hv : validT t) : remT t = (cars t t.ts.length []).foldl (stp t) none := by
  have := vis_fold hv t.ts.length [] none (by simp)
  exact this
theorem rem_spec {t : Town} (hv : validT t) : (remT t = none ∧ ∀ l, isCar t l → ¬ endP t l) ∨ ∃ l, remT t = some (l, cst t l) ∧ isCar t l ∧ endP t l ∧ ∀ x, isCar t x → endP t x → ¬ lexlt (cst t x) (cst t l) ∧ (cst t x = cst t l → ¬ earlier x l) := by
  rw [remT_fold hv]
  rcases fold_best (E := endP t) (s := stp t) (fun S l => rfl) (cars t t.ts.length []) with ⟨h1, h2⟩ | ⟨l, L1, L2, h1, h2, h3, h4, h5⟩
  · exact .inl ⟨h1, fun l hl => h2 l (cars_all.2 hl)⟩
  · refine .inr ⟨l, h1, cars_all.1 (by rw [h2]; simp), h3, fun x hx hE => ?_⟩
    have hx := cars_all.2 hx
    have hs := cars_sorted (t := t) t.ts.length []
    rw [h2] at hx hs
    rw [List.pairwise_append] at hs
    have hs2 := List.pairwise_cons.1 hs.2.1
    rcases List.mem_append.1 hx with h | h
    · have := h4 x h hE
      refine ⟨fun h' => by unfold lexlt at *; omega, fun e => ?_⟩
      rw [e] at this; unfold lexlt at this; omega
    · rcases List.mem_cons.1 h with rfl | h
      · exact ⟨fun h' => by unfold lexlt at *; omega, fun _ => earlier_irr⟩
      · refine ⟨h5 x h hE, fun _ hlt => ?_⟩
        have h6 := hs2.1 x h
        have asym : ∀ {a b : List Int}, earlier a b → ¬ earlier b a := fun {a} => by
          induction a with
          | nil => intro b h; cases b <;> simp [earlier] at h
          | cons p a ih =>
            intro b h
            cases b with
            | nil => simp [earlier] at h
            | cons q b =>
              simp only [earlier] at h ⊢
              by_cases e : p = q
              · subst e; rw [if_pos rfl] at h ⊢; exact ih h
              · rw [if_neg e] at h; rw [if_neg (by omega)]; omega
        exact asym h6 hlt
end Go.Proofs.YtjlopclpofbgbaaDoor

