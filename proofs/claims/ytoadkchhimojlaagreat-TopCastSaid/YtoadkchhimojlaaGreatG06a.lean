/- Contracts of functions of the given program, without a condition beyond those that each theorem states; they lead to the given statement. -/
import Derived.Test.YtoadkchhimojlaaGreatG02t
set_option linter.unusedSimpArgs false
set_option linter.unusedVariables false
set_option maxRecDepth 100000
namespace Go.Proofs.YtoadkchhimojlaaGreat.W2
open Go Go.Fl
open Classical
def wnT (s : Shop) (l : List Int) (p : Int) : Nat → Int
  | 0 => gv s.wt p
  | k + 1 => wnT s l p k - if pg s k = p then gv l k else 0
def wan (s : Shop) (l : List Int) (p : Int) : Int := wnT s l p l.length
def in12 (l : List Int) : Prop := ∀ n, n ∈ l → 0 ≤ n ∧ n ≤ 12
theorem in12.app {l : List Int} {n : Int} (h : in12 l) (h2 : 0 ≤ n ∧ n ≤ 12) : in12 (l ++ [n]) := fun x hx => by
  rcases List.mem_append.1 hx with q | q
  · exact h x q
  · rw [List.mem_singleton.1 q]; exact h2
theorem in12.set {l : List Int} {i : Nat} {v : Int} (h : in12 l) (h2 : 0 ≤ v ∧ v ≤ 12) : in12 (l.set i v) := fun n hn => by
  rcases List.mem_or_eq_of_mem_set hn with q | q
  · exact h n q
  · rw [q]; exact h2
theorem in12.gv {l : List Int} (h : in12 l) (i : Nat) : 0 ≤ gv l i ∧ gv l i ≤ 12 := by
  unfold Go.Fl.gv
  rw [Int.toNat_natCast]
  cases hx : l[i]? with
  | none => simp
  | some x => exact h x (List.mem_of_getElem? hx)
theorem wnT_app {s : Shop} {l : List Int} {n p : Int} : ∀ k : Nat, k ≤ l.length → wnT s (l ++ [n]) p k = wnT s l p k
  | 0, _ => rfl
  | k + 1, h => by
    have e : gv (l ++ [n]) k = gv l k := by simp [gv, List.getElem?_append_left (show k < l.length by omega)]
    have ih := wnT_app (s := s) (l := l) (n := n) (p := p) k (by omega)
    simp only [wnT, ih, e]
theorem wan_app {s : Shop} {l : List Int} {n p : Int} : wan s (l ++ [n]) p = wan s l p - if pg s l.length = p then n else 0 := by
  have e : gv (l ++ [n]) l.length = n := by simp [gv]
  simp only [wan, List.length_append, List.length_cons, List.length_nil, Nat.zero_add, wnT, wnT_app l.length (Nat.le_refl _), e]
theorem jl_mem {s : Shop} {can : List Int} (hc : in12 can) : ∀ (d k : Nat) (W pre l : List Int), pre.length = k → in12 pre → l ∈ jl s can d k W pre → l.length = k + d ∧ in12 l ∧ l.take k = pre
  | 0, k, W, pre, l, hp, h12, h => by
    simp only [jl] at h
    split at h
    · cases h
    · rw [List.mem_singleton.1 h]
      exact ⟨by omega, h12, by rw [← hp]; exact List.take_length⟩
  | d + 1, k, W, pre, l, hp, h12, h => by
    simp only [jl, List.mem_flatMap, List.mem_range] at h
    obtain ⟨n, hn, hl⟩ := h
    have hck := hc.gv k
    unfold nOf at hn
    obtain ⟨h1, h2, h3⟩ := jl_mem hc d (k + 1) _ _ l (by simp [hp]) (h12.app (by omega)) hl
    refine ⟨by omega, h2, ?_⟩
    have := congrArg (List.take k) h3
    rw [List.take_take, Nat.min_eq_left (by omega), List.take_left' hp] at this
    exact this
theorem jl_at {s : Shop} {can : List Int} (hc : in12 can) {d k : Nat} {W pre l : List Int} {n : Int} (hp : pre.length = k) (h12 : in12 pre) (hn : 0 ≤ n ∧ n ≤ 12) (h : l ∈ jl s can d (k + 1) W (pre ++ [n])) : gv l k = n := by
  obtain ⟨h1, _, h3⟩ := jl_mem hc d (k + 1) W _ l (by simp [hp]) (h12.app hn) h
  have : (l.take (k + 1))[k]? = some n := by rw [h3, List.getElem?_append_right (by omega), hp]; simp
  rw [List.getElem?_take_of_lt (by omega)] at this
  exact gv_nat this
theorem wnT_anti {s : Shop} {l : List Int} {p : Int} {k : Nat} (h : ∀ i : Nat, k ≤ i → 0 ≤ gv l i) : ∀ d : Nat, wnT s l p (k + d) ≤ wnT s l p k
  | 0 => Int.le_refl _
  | d + 1 => by
    have ih := wnT_anti (p := p) (s := s) h d
    have := h (k + d) (by omega)
    show wnT s l p ((k + d) + 1) ≤ _
    simp only [wnT]
    split <;> omega
theorem wnT_ext {s : Shop} {l m : List Int} {p : Int} : ∀ k : Nat, (∀ i : Nat, i < k → gv l i = gv m i) → wnT s l p k = wnT s m p k
  | 0, _ => rfl
  | k + 1, h => by
    have ih := wnT_ext (s := s) (p := p) k fun i hi => h i (by omega)
    simp only [wnT, ih, h k (by omega)]
theorem gv_take {l : List Int} {k i : Nat} (h : i < k) : gv (l.take k) i = gv l i := by
  unfold gv; rw [Int.toNat_natCast, List.getElem?_take_of_lt h]
theorem gv_out {l : List Int} {i : Nat} (h : l.length ≤ i) : gv l i = 0 := by
  unfold gv; rw [Int.toNat_natCast, List.getElem?_eq_none h]; rfl
theorem pg_ok {s : Shop} (hv : valid s) {k : Nat} (hk : k < s.ms.length) : ∃ p : Nat, pg s k = p ∧ p < s.wt.length := by
  obtain ⟨m, hm⟩ := get_of hk
  have := hv.mould hm
  exact ⟨m.page.toNat, by simp [pg, hm]; omega, by omega⟩
theorem mem_jl {s : Shop} (hv : valid s) {can l : List Int} (hc : in12 can) : ∀ (d k : Nat) (W pre : List Int), k + d = s.ms.length → pre.length = k → in12 pre → in12 W → W.length = s.wt.length → (∀ p : Nat, p < s.wt.length → gv W p = wan s pre p) →
    (l ∈ jl s can d k W pre ↔ l.take k = pre ∧ l.length = k + d ∧ (∀ i : Nat, k ≤ i → i < k + d → 0 ≤ gv l i ∧ gv l i ≤ gv can i) ∧ ∀ p : Nat, p < s.wt.length → wan s l p = 0)
  | 0, k, W, pre, hk, hp, h12, hW12, hWl, hWw => by
    simp only [jl]
    have hany : W.any (fun n => decide (0 < n)) = true ↔ ∃ p : Nat, p < s.wt.length ∧ wan s pre p ≠ 0 := by
      rw [List.any_eq_true]
      constructor
      · rintro ⟨n, q1, q2⟩
        obtain ⟨i, hi⟩ := List.mem_iff_getElem?.1 q1
        have hil := (List.getElem?_eq_some_iff.1 hi).1
        have := of_decide_eq_true q2
        refine ⟨i, by omega, ?_⟩
        rw [← hWw i (by omega), gv_nat hi]; omega
      · rintro ⟨p, q1, q2⟩
        obtain ⟨x, hx⟩ := get_of (l := W) (j := p) (by omega)
        have h1 := hWw p q1
        rw [gv_nat hx] at h1
        have h2 := hW12 x (List.mem_of_getElem? hx)
        exact ⟨x, List.mem_of_getElem? hx, decide_eq_true (by omega)⟩
    have hext : l.take k = pre → l.length = k + 0 → l = pre := fun a b => by rw [← a, List.take_of_length_le (by omega)]
    constructor
    · intro h
      split at h
      · cases h
      · rename_i hn
        have hl := List.mem_singleton.1 h
        subst hl
        refine ⟨List.take_of_length_le (by omega), by omega, fun i h1 h2 => by omega, fun p hp2 => ?_⟩
        exact Classical.byContradiction fun q => hn (hany.2 ⟨p, hp2, q⟩)
    · rintro ⟨h1, h2, _, h3⟩
      have hl := hext h1 h2
      subst hl
      rw [if_neg fun q => by obtain ⟨p, q1, q2⟩ := hany.1 q; exact q2 (h3 p q1)]
      simp
  | d + 1, k, W, pre, hk, hp, h12, hW12, hWl, hWw => by
    obtain ⟨p, hpg, hpl⟩ := pg_ok hv (k := k) (by omega)
    have hck := hc.gv k
    have hWp := hW12.gv p
    simp only [jl, List.mem_flatMap, List.mem_range, nOf, hpg, Int.toNat_natCast]
    have IH := fun (n : Nat) (hn : (n : Int) ≤ gv can k) (hn2 : (n : Int) ≤ gv W p) => mem_jl hv (l := l) hc d (k + 1) (W.set p (gv W p - n)) (pre ++ [(n : Int)]) (by omega) (by simp [hp]) (h12.app (by omega)) (hW12.set (by omega)) (by rw [List.length_set]; exact hWl) (fun q hq => by
      rw [wan_app, hp, hpg, ← hWw q hq]
      by_cases hpq : p = q
      · subst hpq
        rw [if_pos rfl, gv_nat (x := gv W p - n) (by rw [List.getElem?_set_self (by omega)])]
      · rw [if_neg (by omega), Int.sub_zero]; unfold gv; rw [Int.toNat_natCast, List.getElem?_set_ne (by omega)])
    constructor
    · rintro ⟨n, hn, h⟩
      obtain ⟨h1, h2, h3, h4⟩ := (IH n (by omega) (by omega)).1 h
      have hat := jl_at hc hp h12 (by omega) h
      refine ⟨?_, by omega, fun i q1 q2 => ?_, h4⟩
      · have := congrArg (List.take k) h1
        rw [List.take_take, Nat.min_eq_left (by omega), List.take_left' hp] at this
        exact this
      · by_cases he : i = k
        · subst he; rw [hat]; omega
        · exact h3 i (by omega) (by omega)
    · rintro ⟨h1, h2, h3, h4⟩
      have hk3 := h3 k (by omega) (by omega)
      obtain ⟨n, hn⟩ : ∃ n : Nat, gv l k = n := ⟨(gv l k).toNat, by omega⟩
      have e1 : wnT s l p k = wan s pre p := by
        unfold wan
        rw [hp]
        exact wnT_ext k fun i hi => by rw [← h1, gv_take hi]
      have e2 : wnT s l p (k + 1) = wan s pre p - n := by
        simp only [wnT, e1, hpg, if_true, hn]
      have e3 := wnT_anti (s := s) (l := l) (p := p) (k := k + 1) (fun i hi => by
        rcases Nat.lt_or_ge i (k + (d + 1)) with q | q
        · exact (h3 i (by omega) q).1
        · rw [gv_out (by omega)]; omega) d
      have e4 := h4 p hpl
      unfold wan at e4
      rw [h2, show k + (d + 1) = k + 1 + d from by omega] at e4
      have e5 := hWw p hpl
      refine ⟨n, by omega, (IH n (by omega) (by omega)).2 ⟨?_, by omega, fun i q1 q2 => h3 i (by omega) (by omega), h4⟩⟩
      obtain ⟨y, hy⟩ := get_of (l := l) (j := k) (by omega)
      rw [List.take_add_one, h1, hy, ← hn, gv_nat hy]
      rfl
theorem mem_jls {s : Shop} (hv : valid s) {can l : List Int} (hc : in12 can) : l ∈ jls s can ↔ l.length = s.ms.length ∧ (∀ i : Nat, i < s.ms.length → 0 ≤ gv l i ∧ gv l i ≤ gv can i) ∧ ∀ p : Nat, p < s.wt.length → wan s l p = 0 := by
  rw [jls, mem_jl hv hc s.ms.length 0 s.wt [] (by omega) rfl (fun n hn => by cases hn) hv.2.2.2.2.1 rfl (fun p hp => rfl)]
  simp
theorem wnT_sur {s : Shop} {l : List Int} {p : Int} : ∀ k : Nat, k ≤ s.ms.length → (∀ i : Nat, i < k → gv l i ≤ lo s i) → gv s.wt p - surT s p k ≤ wnT s l p k
  | 0, _, _ => by simp [surT, wnT]
  | k + 1, hk, h => by
    have ih := wnT_sur (s := s) (p := p) k (by omega) fun i hi => h i (by omega)
    have hkk := h k (by omega)
    obtain ⟨m, hm⟩ := get_of (l := s.ms) (j := k) (by omega)
    simp only [surT, wnT, sur1, pg, hm]
    split <;> omega
theorem surT_mono {s : Shop} (hv : valid s) (p : Int) (k : Nat) : ∀ d : Nat, surT s p k ≤ surT s p (k + d)
  | 0 => Int.le_refl _
  | d + 1 => by
    have ih := surT_mono hv p k d
    have := sur1_bounds hv p (k + d)
    show _ ≤ surT s p ((k + d) + 1)
    simp only [surT]
    omega
theorem jl_some {s : Shop} (hv : valid s) {can : List Int} (hc : in12 can) (hcan : ∀ i : Nat, i < s.ms.length → gv can i = lo s i) : ∀ (d k : Nat) (W pre : List Int), k + d = s.ms.length → in12 W → W.length = s.wt.length → (∀ p : Nat, p < s.wt.length → gv W p ≤ sur s p - surT s p k) → jl s can d k W pre ≠ []
  | 0, k, W, pre, hk, hW12, hWl, h => by
    simp only [jl]
    rw [if_neg]
    · simp
    · intro q
      obtain ⟨n, q1, q2⟩ := List.any_eq_true.1 q
      obtain ⟨i, hi⟩ := List.mem_iff_getElem?.1 q1
      have hil := (List.getElem?_eq_some_iff.1 hi).1
      have h1 := h i (by omega)
      have := of_decide_eq_true q2
      rw [gv_nat hi] at h1
      have : k = s.ms.length := by omega
      subst this
      unfold sur at h1
      omega
  | d + 1, k, W, pre, hk, hW12, hWl, h => by
    obtain ⟨p, hpg, hpl⟩ := pg_ok hv (k := k) (by omega)
    obtain ⟨m, hm⟩ := get_of (l := s.ms) (j := k) (by omega)
    have hmp : m.page = p := by simpa [pg, hm] using hpg
    have hck := hc.gv k
    have hWp := hW12.gv p
    have hcl := hcan k (by omega)
    obtain ⟨n, hn⟩ : ∃ n : Nat, min (gv can k) (gv W p) = n := ⟨(min (gv can k) (gv W p)).toNat, by omega⟩
    have hnext := jl_some hv hc hcan d (k + 1) (W.set p (gv W p - n)) (pre ++ [(n : Int)]) (by omega) (hW12.set (by omega)) (by rw [List.length_set]; exact hWl) (fun q hq => by
      have h1 := h q hq
      by_cases hpq : p = q
      · subst hpq
        rw [gv_nat (x := gv W p - n) (by rw [List.getElem?_set_self (by omega)])]
        have e : surT s p (k + 1) = surT s p k + lo s k := by simp [surT, sur1, hm, hmp]
        have h2 := surT_mono hv p (k + 1) d
        rw [show k + 1 + d = s.ms.length from by omega] at h2
        unfold sur at *
        omega
      · have e : surT s q (k + 1) = surT s q k := by simp [surT, sur1, hm, hmp, show ¬ (p : Int) = q from by omega]
        have e2 : gv (W.set p (gv W p - n)) q = gv W q := by unfold gv; rw [Int.toNat_natCast, List.getElem?_set_ne (by omega)]
        rw [e, e2]; exact h1)
    intro he
    simp only [jl, List.flatMap_eq_nil_iff, List.mem_range, nOf, hpg, Int.toNat_natCast] at he
    exact hnext (he n (by omega))
theorem ceil_zero {d fr : Int} (hf : 1 ≤ fr) : (max 0 d + fr - 1) / fr = 0 ↔ d ≤ 0 := by
  constructor
  · intro h
    have h1 := Int.mul_ediv_add_emod (max 0 d + fr - 1) fr
    have h2 := Int.emod_lt_of_pos (max 0 d + fr - 1) (show 0 < fr by omega)
    rw [h] at h1
    omega
  · intro h
    exact Int.ediv_eq_zero_of_lt (by omega) (by omega)
theorem neT_zero {s : Shop} (hv : valid s) : ∀ k : Nat, k ≤ s.wt.length → (neT s k = 0 ↔ ∀ p : Nat, p < k → gv s.wt p ≤ sur s p)
  | 0, _ => by simp [neT]
  | k + 1, hk => by
    have ih := neT_zero hv k (by omega)
    have h1 := neT_bounds hv k
    have h2 := ne1_bounds hv k
    have hf := hv.2.2.2.1
    unfold within at hf
    obtain ⟨w, hw⟩ := get_of (l := s.wt) (j := k) (by omega)
    have e : ne1 s k = 0 ↔ gv s.wt k ≤ sur s k := by
      rw [gv_nat hw]
      simp only [ne1, hw]
      rw [ceil_zero hf.1]
      omega
    have : neT s (k + 1) = 0 ↔ neT s k = 0 ∧ ne1 s k = 0 := by simp only [neT]; omega
    rw [this, ih, e]
    constructor
    · intro h i hi
      by_cases he : i = k
      · subst he; exact h.2
      · exact h.1 i (by omega)
    · intro h
      exact ⟨fun i hi => h i (by omega), h k (by omega)⟩
theorem sure_new {s : Shop} (hv : valid s) (hne : aW s ≠ []) : jls s (su s (aW s)) ≠ [] ↔ neN s = 0 := by
  have hc : in12 (su s (aW s)) := su_ok hv
  rw [neN, neT_zero hv _ (Nat.le_refl _)]
  constructor
  · intro h p hp
    obtain ⟨l, hl⟩ := List.exists_mem_of_ne_nil _ h
    obtain ⟨h1, h2, h3⟩ := (mem_jls hv hc).1 hl
    have e := wnT_sur (s := s) (l := l) (p := p) s.ms.length (Nat.le_refl _) (fun i hi => by
      have := (h2 i hi).2
      rwa [gv_nat (su_get hv hi)] at this)
    have e2 := h3 p hp
    unfold wan at e2
    rw [h1] at e2
    unfold sur
    omega
  · intro h
    refine jl_some hv hc (fun i hi => gv_nat (su_get hv hi)) s.ms.length 0 s.wt [] (by omega) hv.2.2.2.2.1 rfl fun p hp => ?_
    have := h p hp
    simp only [surT]
    omega
end Go.Proofs.YtoadkchhimojlaaGreat.W2

