/- Contracts of functions of the given program, without a condition beyond those that each theorem states; they lead to the given statement. -/
import Derived.Test.YtekdocalipchpaaV03i
set_option linter.unusedSimpArgs false
set_option linter.unusedVariables false
set_option linter.unusedVariables false
set_option maxRecDepth 100000
namespace Go.Proofs.Ytekdocalipchpaa
open Go Go.Fl
open Classical
/-! ### Shares that are just enough -/
def isF (s : Shop) (l : List Int) : Prop := isShB s l = true ∧ ∀ p : Nat, p < s.wt.length → wan s l p = 0
theorem wnT_anti {s : Shop} {l : List Int} {p : Int} {k : Nat} (h : ∀ i : Nat, k ≤ i → 0 ≤ gv l i) : ∀ d : Nat, wnT s l p (k + d) ≤ wnT s l p k
  | 0 => Int.le_refl _
  | d + 1 => by
    have ih := wnT_anti (p := p) (s := s) h d
    have := h (k + d) (by omega)
    show wnT s l p ((k + d) + 1) ≤ _
    simp only [wnT]
    split <;> omega
theorem wnT_ext {s : Shop} {l m : List Int} {p : Int} : ∀ k : Nat, (∀ i : Nat, i < k → gv l i = gv m i) → wnT s l p k = wnT s m p k
  | 0, _ => rfl
  | k + 1, h => by
    have ih := wnT_ext (s := s) (p := p) k fun i hi => h i (by omega)
    simp only [wnT, ih, h k (by omega)]
theorem gv_take {l : List Int} {k i : Nat} (h : i < k) : gv (l.take k) i = gv l i := by
  unfold gv; rw [Int.toNat_natCast, List.getElem?_take_of_lt h]
theorem gv_out {l : List Int} {i : Nat} (h : l.length ≤ i) : gv l i = 0 := by
  unfold gv; rw [Int.toNat_natCast, List.getElem?_eq_none h]; rfl
theorem pg_ok {s : Shop} (hv : valid s) {k : Nat} (hk : k < s.ms.length) : ∃ p : Nat, pg s k = p ∧ p < s.wt.length := by
  obtain ⟨m, hm⟩ := get_of hk
  have := hv.mould hm
  exact ⟨m.page.toNat, by simp [pg, hm]; omega, by omega⟩
theorem mem_jl {s : Shop} (hv : valid s) {can l : List Int} (hc : in12 can) : ∀ (d k : Nat) (W pre : List Int), k + d = s.ms.length → pre.length = k → in12 pre → in12 W → W.length = s.wt.length → (∀ p : Nat, p < s.wt.length → gv W p = wan s pre p) →
    (l ∈ jl s can d k W pre ↔ l.take k = pre ∧ l.length = k + d ∧ (∀ i : Nat, k ≤ i → i < k + d → 0 ≤ gv l i ∧ gv l i ≤ gv can i) ∧ ∀ p : Nat, p < s.wt.length → wan s l p = 0)
  | 0, k, W, pre, hk, hp, h12, hW12, hWl, hWw => by
    simp only [jl]
    have hany : W.any (fun n => decide (0 < n)) = true ↔ ∃ p : Nat, p < s.wt.length ∧ wan s pre p ≠ 0 := by
      rw [List.any_eq_true]
      constructor
      · rintro ⟨n, q1, q2⟩
        obtain ⟨i, hi⟩ := List.mem_iff_getElem?.1 q1
        have hil := (List.getElem?_eq_some_iff.1 hi).1
        have := of_decide_eq_true q2
        refine ⟨i, by omega, ?_⟩
        rw [← hWw i (by omega), gv_nat hi]; omega
      · rintro ⟨p, q1, q2⟩
        obtain ⟨x, hx⟩ := get_of (l := W) (j := p) (by omega)
        have h1 := hWw p q1
        rw [gv_nat hx] at h1
        have h2 := hW12 x (List.mem_of_getElem? hx)
        exact ⟨x, List.mem_of_getElem? hx, decide_eq_true (by omega)⟩
    have hext : l.take k = pre → l.length = k + 0 → l = pre := fun a b => by rw [← a, List.take_of_length_le (by omega)]
    constructor
    · intro h
      split at h
      · cases h
      · rename_i hn
        have hl := List.mem_singleton.1 h
        subst hl
        refine ⟨List.take_of_length_le (by omega), by omega, fun i h1 h2 => by omega, fun p hp2 => ?_⟩
        exact Classical.byContradiction fun q => hn (hany.2 ⟨p, hp2, q⟩)
    · rintro ⟨h1, h2, _, h3⟩
      have hl := hext h1 h2
      subst hl
      rw [if_neg fun q => by obtain ⟨p, q1, q2⟩ := hany.1 q; exact q2 (h3 p q1)]
      simp
  | d + 1, k, W, pre, hk, hp, h12, hW12, hWl, hWw => by
    obtain ⟨p, hpg, hpl⟩ := pg_ok hv (k := k) (by omega)
    have hck := hc.gv k
    have hWp := hW12.gv p
    simp only [jl, List.mem_flatMap, List.mem_range, nOf, hpg, Int.toNat_natCast]
    have IH := fun (n : Nat) (hn : (n : Int) ≤ gv can k) (hn2 : (n : Int) ≤ gv W p) => mem_jl hv (l := l) hc d (k + 1) (W.set p (gv W p - n)) (pre ++ [(n : Int)]) (by omega) (by simp [hp]) (h12.app (by omega)) (hW12.set (by omega)) (by rw [List.length_set]; exact hWl) (fun q hq => by
      rw [wan_app, hp, hpg, ← hWw q hq]
      by_cases hpq : p = q
      · subst hpq
        rw [if_pos rfl, gv_nat (x := gv W p - n) (by rw [List.getElem?_set_self (by omega)])]
      · rw [if_neg (by omega), Int.sub_zero]; unfold gv; rw [Int.toNat_natCast, List.getElem?_set_ne (by omega)])
    constructor
    · rintro ⟨n, hn, h⟩
      obtain ⟨h1, h2, h3, h4⟩ := (IH n (by omega) (by omega)).1 h
      have hat := jl_at hc hp h12 (by omega) h
      refine ⟨?_, by omega, fun i q1 q2 => ?_, h4⟩
      · have := congrArg (List.take k) h1
        rw [List.take_take, Nat.min_eq_left (by omega), List.take_left' hp] at this
        exact this
      · by_cases he : i = k
        · subst he; rw [hat]; omega
        · exact h3 i (by omega) (by omega)
    · rintro ⟨h1, h2, h3, h4⟩
      have hk3 := h3 k (by omega) (by omega)
      obtain ⟨n, hn⟩ : ∃ n : Nat, gv l k = n := ⟨(gv l k).toNat, by omega⟩
      have e1 : wnT s l p k = wan s pre p := by
        unfold wan
        rw [hp]
        exact wnT_ext k fun i hi => by rw [← h1, gv_take hi]
      have e2 : wnT s l p (k + 1) = wan s pre p - n := by
        simp only [wnT, e1, hpg, if_true, hn]
      have e3 := wnT_anti (s := s) (l := l) (p := p) (k := k + 1) (fun i hi => by
        rcases Nat.lt_or_ge i (k + (d + 1)) with q | q
        · exact (h3 i (by omega) q).1
        · rw [gv_out (by omega)]; omega) d
      have e4 := h4 p hpl
      unfold wan at e4
      rw [h2, show k + (d + 1) = k + 1 + d from by omega] at e4
      have e5 := hWw p hpl
      refine ⟨n, by omega, (IH n (by omega) (by omega)).2 ⟨?_, by omega, fun i q1 q2 => h3 i (by omega) (by omega), h4⟩⟩
      obtain ⟨y, hy⟩ := get_of (l := l) (j := k) (by omega)
      rw [List.take_add_one, h1, hy, ← hn, gv_nat hy]
      rfl
theorem mem_jls {s : Shop} (hv : valid s) {can l : List Int} (hc : in12 can) : l ∈ jls s can ↔ l.length = s.ms.length ∧ (∀ i : Nat, i < s.ms.length → 0 ≤ gv l i ∧ gv l i ≤ gv can i) ∧ ∀ p : Nat, p < s.wt.length → wan s l p = 0 := by
  rw [jls, mem_jl hv hc s.ms.length 0 s.wt [] (by omega) rfl (fun n hn => by cases hn) hv.2.2.2.2.1 rfl (fun p hp => rfl)]
  simp
theorem mem_canB {s : Shop} (hv : valid s) {l : List Int} : l ∈ jls s (canB s) ↔ isF s l := by
  rw [mem_jls hv (canB_ok hv), isF, isShB_iff]
  constructor
  · rintro ⟨h1, h2, h3⟩
    refine ⟨⟨h1, fun i m hm => ?_⟩, h3⟩
    have hb := hv.mould hm
    have := h2 i (List.getElem?_eq_some_iff.1 hm).1
    rw [canB_get hv hm] at this
    unfold sh1
    omega
  · rintro ⟨⟨h1, h2⟩, h3⟩
    refine ⟨h1, fun i hi => ?_, h3⟩
    obtain ⟨m, hm⟩ := get_of hi
    have hb := hv.mould hm
    have := h2 i m hm
    unfold sh1 at this
    rw [canB_get hv hm]
    omega
/-! ### The order of the lists -/
theorem earlier_irr : ∀ a : List Int, ¬ earlier a a
  | [] => by simp [earlier]
  | x :: a => by simp only [earlier, if_true]; exact earlier_irr a
theorem earlier_asy : ∀ a b : List Int, earlier a b → ¬ earlier b a
  | [], _, h => by simp [earlier] at h
  | _ :: _, [], h => by simp [earlier] at h
  | x :: a, y :: b, h => by
    simp only [earlier] at h ⊢
    by_cases he : x = y
    · subst he
      simp only [if_true] at h ⊢
      exact earlier_asy a b h
    · rw [if_neg he] at h
      rw [if_neg (Ne.symm he)]
      omega
theorem earlier_of {a b : List Int} {k : Nat} (ha : k < a.length) (hb : k < b.length) (h : a.take k = b.take k) (hlt : gv a k < gv b k) : earlier a b := by
  have hx : ∀ i, i < k → a[i]? = b[i]? := fun i hi => by
    have : (a.take k)[i]? = (b.take k)[i]? := by rw [h]
    rwa [List.getElem?_take_of_lt hi, List.getElem?_take_of_lt hi] at this
  rw [earlier_at a b k hx (by omega) (by omega)]
  obtain ⟨x, hxa⟩ := get_of ha
  obtain ⟨y, hyb⟩ := get_of hb
  have hd1 : a.drop k = x :: a.drop (k + 1) := by rw [← List.getElem_cons_drop ha]; rw [List.getElem?_eq_getElem ha] at hxa; cases hxa; rfl
  have hd2 : b.drop k = y :: b.drop (k + 1) := by rw [← List.getElem_cons_drop hb]; rw [List.getElem?_eq_getElem hb] at hyb; cases hyb; rfl
  rw [gv_nat hxa, gv_nat hyb] at hlt
  rw [hd1, hd2, earlier, if_neg (by omega)]
  exact hlt
theorem jl_sort {s : Shop} {can : List Int} (hc : in12 can) : ∀ (d k : Nat) (W pre : List Int), pre.length = k → in12 pre → (jl s can d k W pre).Pairwise earlier
  | 0, k, W, pre, _, _ => by simp only [jl]; split <;> simp
  | d + 1, k, W, pre, hp, h12 => by
    simp only [jl]
    have hck := hc.gv k
    rw [List.pairwise_flatMap]
    refine ⟨fun n hn => ?_, ?_⟩
    · have := List.mem_range.1 hn
      unfold nOf at this
      exact jl_sort hc d (k + 1) _ _ (by simp [hp]) (h12.app (by omega))
    · refine List.pairwise_lt_range.imp_of_mem ?_
      intro a b ha hb hab x hx y hy
      have ha' := List.mem_range.1 ha
      have hb' := List.mem_range.1 hb
      unfold nOf at ha' hb'
      obtain ⟨x1, x2, x3⟩ := jl_mem hc d (k + 1) _ _ x (by simp [hp]) (h12.app (by omega)) hx
      obtain ⟨y1, y2, y3⟩ := jl_mem hc d (k + 1) _ _ y (by simp [hp]) (h12.app (by omega)) hy
      have xk := jl_at hc hp h12 (by omega) hx
      have yk := jl_at hc hp h12 (by omega) hy
      have cut : ∀ {z : List Int} {n : Int}, z.take (k + 1) = pre ++ [n] → z.take k = pre := fun {z n} h => by
        have := congrArg (List.take k) h
        rw [List.take_take, Nat.min_eq_left (by omega), List.take_left' hp] at this
        exact this
      exact earlier_of (k := k) (by omega) (by omega) (by rw [cut x3, cut y3]) (by omega)
theorem jls_sort {s : Shop} {can : List Int} (hc : in12 can) : (jls s can).Pairwise earlier := jl_sort hc _ _ _ _ rfl fun n hn => by cases hn
theorem bst_first {val : List Int → Int} : ∀ (L : List (List Int)), L.Pairwise earlier →
    (L = [] ∧ bst val L = none) ∨ ∃ b, bst val L = some (b, val b) ∧ b ∈ L ∧ ∀ x, x ∈ L → val x ≤ val b ∧ (val x = val b → ¬ earlier x b) := fun L => by
  obtain ⟨R, hR⟩ : ∃ R, R = L.reverse := ⟨_, rfl⟩
  have : L = R.reverse := by rw [hR, List.reverse_reverse]
  subst this
  clear hR
  induction R with
  | nil => intro _; exact .inl ⟨rfl, rfl⟩
  | cons y R ih =>
    rw [List.reverse_cons]
    intro hP
    rw [List.pairwise_append] at hP
    obtain ⟨p1, _, p3⟩ := hP
    rw [bst_app]
    rcases ih p1 with ⟨h1, h2⟩ | ⟨b, h1, h2, h3⟩
    · rw [h2, h1]
      refine .inr ⟨y, rfl, by simp, fun x hx => ?_⟩
      simp only [List.nil_append, List.mem_singleton] at hx
      subst hx
      exact ⟨Int.le_refl _, fun _ => earlier_irr x⟩
    · rw [h1]
      by_cases hlt : val b < val y
      · refine .inr ⟨y, by simp [bstep, hlt], by simp, fun x hx => ?_⟩
        rcases List.mem_append.1 hx with q | q
        · have := (h3 x q).1
          exact ⟨by omega, fun e => by omega⟩
        · rw [List.mem_singleton.1 q]
          exact ⟨Int.le_refl _, fun _ => earlier_irr y⟩
      · refine .inr ⟨b, by simp [bstep, hlt], by simp [h2], fun x hx => ?_⟩
        rcases List.mem_append.1 hx with q | q
        · exact h3 x q
        · rw [List.mem_singleton.1 q]
          exact ⟨by omega, fun _ => earlier_asy b y (p3 b h2 y (by simp))⟩
theorem bst_end {val : List Int → Int} {L : List (List Int)} (h : L.Pairwise earlier) :
    (L = [] ∧ bB val L = [] ∧ bF val L = 3) ∨ (bF val L = 0 ∧ bB val L ∈ L ∧ ∀ x, x ∈ L → val x ≤ val (bB val L) ∧ (val x = val (bB val L) → ¬ earlier x (bB val L))) := by
  rcases bst_first (val := val) L h with ⟨h1, h2⟩ | ⟨b, h1, h2, h3⟩
  · exact .inl ⟨h1, by simp [bB, h2], by simp [bF, h2]⟩
  · have e : bB val L = b := by simp [bB, h1]
    rw [e]
    exact .inr ⟨by simp [bF, h1], h2, h3⟩
/-! ### There are shares that surely hold just if nothing new is needed -/
theorem wnT_sur {s : Shop} {l : List Int} {p : Int} : ∀ k : Nat, k ≤ s.ms.length → (∀ i : Nat, i < k → gv l i ≤ lo s i) → gv s.wt p - surT s p k ≤ wnT s l p k
  | 0, _, _ => by simp [surT, wnT]
  | k + 1, hk, h => by
    have ih := wnT_sur (s := s) (p := p) k (by omega) fun i hi => h i (by omega)
    have hkk := h k (by omega)
    obtain ⟨m, hm⟩ := get_of (l := s.ms) (j := k) (by omega)
    simp only [surT, wnT, sur1, pg, hm]
    split <;> omega
theorem surT_mono {s : Shop} (hv : valid s) (p : Int) (k : Nat) : ∀ d : Nat, surT s p k ≤ surT s p (k + d)
  | 0 => Int.le_refl _
  | d + 1 => by
    have ih := surT_mono hv p k d
    have := sur1_bounds hv p (k + d)
    show _ ≤ surT s p ((k + d) + 1)
    simp only [surT]
    omega
theorem jl_some {s : Shop} (hv : valid s) {can : List Int} (hc : in12 can) (hcan : ∀ i : Nat, i < s.ms.length → gv can i = lo s i) : ∀ (d k : Nat) (W pre : List Int), k + d = s.ms.length → in12 W → W.length = s.wt.length → (∀ p : Nat, p < s.wt.length → gv W p ≤ sur s p - surT s p k) → jl s can d k W pre ≠ []
  | 0, k, W, pre, hk, hW12, hWl, h => by
    simp only [jl]
    rw [if_neg]
    · simp
    · intro q
      obtain ⟨n, q1, q2⟩ := List.any_eq_true.1 q
      obtain ⟨i, hi⟩ := List.mem_iff_getElem?.1 q1
      have hil := (List.getElem?_eq_some_iff.1 hi).1
      have h1 := h i (by omega)
      have := of_decide_eq_true q2
      rw [gv_nat hi] at h1
      have : k = s.ms.length := by omega
      subst this
      unfold sur at h1
      omega
  | d + 1, k, W, pre, hk, hW12, hWl, h => by
    obtain ⟨p, hpg, hpl⟩ := pg_ok hv (k := k) (by omega)
    obtain ⟨m, hm⟩ := get_of (l := s.ms) (j := k) (by omega)
    have hmp : m.page = p := by simpa [pg, hm] using hpg
    have hck := hc.gv k
    have hWp := hW12.gv p
    have hcl := hcan k (by omega)
    obtain ⟨n, hn⟩ : ∃ n : Nat, min (gv can k) (gv W p) = n := ⟨(min (gv can k) (gv W p)).toNat, by omega⟩
    have hnext := jl_some hv hc hcan d (k + 1) (W.set p (gv W p - n)) (pre ++ [(n : Int)]) (by omega) (hW12.set (by omega)) (by rw [List.length_set]; exact hWl) (fun q hq => by
      have h1 := h q hq
      by_cases hpq : p = q
      · subst hpq
        rw [gv_nat (x := gv W p - n) (by rw [List.getElem?_set_self (by omega)])]
        have e : surT s p (k + 1) = surT s p k + lo s k := by simp [surT, sur1, hm, hmp]
        have h2 := surT_mono hv p (k + 1) d
        rw [show k + 1 + d = s.ms.length from by omega] at h2
        unfold sur at *
        omega
      · have e : surT s q (k + 1) = surT s q k := by simp [surT, sur1, hm, hmp, show ¬ (p : Int) = q from by omega]
        have e2 : gv (W.set p (gv W p - n)) q = gv W q := by unfold gv; rw [Int.toNat_natCast, List.getElem?_set_ne (by omega)]
        rw [e, e2]; exact h1)
    intro he
    simp only [jl, List.flatMap_eq_nil_iff, List.mem_range, nOf, hpg, Int.toNat_natCast] at he
    exact hnext (he n (by omega))
theorem ceil_zero {d fr : Int} (hf : 1 ≤ fr) : (max 0 d + fr - 1) / fr = 0 ↔ d ≤ 0 := by
  constructor
  · intro h
    have h1 := Int.mul_ediv_add_emod (max 0 d + fr - 1) fr
    have h2 := Int.emod_lt_of_pos (max 0 d + fr - 1) (show 0 < fr by omega)
    rw [h] at h1
    omega
  · intro h
    exact Int.ediv_eq_zero_of_lt (by omega) (by omega)
theorem neT_zero {s : Shop} (hv : valid s) : ∀ k : Nat, k ≤ s.wt.length → (neT s k = 0 ↔ ∀ p : Nat, p < k → gv s.wt p ≤ sur s p)
  | 0, _ => by simp [neT]
  | k + 1, hk => by
    have ih := neT_zero hv k (by omega)
    have h1 := neT_bounds hv k
    have h2 := ne1_bounds hv k
    have hf := hv.2.2.2.1
    unfold within at hf
    obtain ⟨w, hw⟩ := get_of (l := s.wt) (j := k) (by omega)
    have e : ne1 s k = 0 ↔ gv s.wt k ≤ sur s k := by
      rw [gv_nat hw]
      simp only [ne1, hw]
      rw [ceil_zero hf.1]
      omega
    have : neT s (k + 1) = 0 ↔ neT s k = 0 ∧ ne1 s k = 0 := by simp only [neT]; omega
    rw [this, ih, e]
    constructor
    · intro h i hi
      by_cases he : i = k
      · subst he; exact h.2
      · exact h.1 i (by omega)
    · intro h
      exact ⟨fun i hi => h i (by omega), h k (by omega)⟩
theorem sure_new {s : Shop} (hv : valid s) (hne : aW s ≠ []) : jls s (su s (aW s)) ≠ [] ↔ neN s = 0 := by
  have hc : in12 (su s (aW s)) := su_ok hv
  rw [neN, neT_zero hv _ (Nat.le_refl _)]
  constructor
  · intro h p hp
    obtain ⟨l, hl⟩ := List.exists_mem_of_ne_nil _ h
    obtain ⟨h1, h2, h3⟩ := (mem_jls hv hc).1 hl
    have e := wnT_sur (s := s) (l := l) (p := p) s.ms.length (Nat.le_refl _) (fun i hi => by
      have := (h2 i hi).2
      rwa [gv_nat (su_get hv hi)] at this)
    have e2 := h3 p hp
    unfold wan at e2
    rw [h1] at e2
    unfold sur
    omega
  · intro h
    refine jl_some hv hc (fun i hi => gv_nat (su_get hv hi)) s.ms.length 0 s.wt [] (by omega) hv.2.2.2.2.1 rfl fun p hp => ?_
    have := h p hp
    simp only [surT]
    omega
end Go.Proofs.Ytekdocalipchpaa
