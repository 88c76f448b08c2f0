/- Contracts of functions of the given program, without a condition beyond those that each theorem states; they lead to the given statement. -/
import Derived.Test.YtekdocalipchpaaV03e
set_option linter.unusedSimpArgs false
set_option linter.unusedVariables false
set_option maxRecDepth 100000
namespace Go.Proofs.Ytekdocalipchpaa
open Go Go.Fl
open Classical
abbrev moreS (s : Shop) (p : Nat) : Shop := ⟨s.ms, s.ws, s.wt.set p (gv s.wt p + 1), s.fr⟩
theorem more_surT {t : Shop} {p : Nat} {q : Int} : ∀ k : Nat, surT (moreS t p) q k = surT t q k
  | 0 => rfl
  | k + 1 => by
    have ih := more_surT (t := t) (p := p) (q := q) k
    have e : sur1 (moreS t p) q k = sur1 t q k := rfl
    simp only [surT, ih, e]
theorem ceil_one {d fr : Int} (hf : 1 ≤ fr) : (max 0 d + fr - 1) / fr ≤ (max 0 (d + 1) + fr - 1) / fr ∧ (max 0 (d + 1) + fr - 1) / fr ≤ (max 0 d + fr - 1) / fr + 1 := by
  refine ⟨ceil_mono hf (by omega), ?_⟩
  have h := Int.add_mul_ediv_right (max 0 d + fr - 1) 1 (show fr ≠ 0 by omega)
  rw [← h]
  exact Int.ediv_le_ediv (by omega) (by omega)
theorem more_neT {s : Shop} (hf : 1 ≤ s.fr) {p : Nat} (hp : p < s.wt.length) : ∀ k : Nat, neT s k ≤ neT (moreS s p) k ∧ neT (moreS s p) k ≤ neT s k + if p < k then 1 else 0
  | 0 => by simp [neT]
  | k + 1 => by
    have ih := more_neT hf hp k
    have e : sur (moreS s p) k = sur s k := more_surT _
    have : ne1 s k ≤ ne1 (moreS s p) k ∧ ne1 (moreS s p) k ≤ ne1 s k + if p = k then 1 else 0 := by
      unfold ne1
      simp only [e, List.getElem?_set]
      by_cases he : p = k
      · subst he
        obtain ⟨x, hx⟩ := get_of hp
        simp only [if_true, if_pos hp, hx, gv_nat hx]
        have := ceil_one (d := x - sur s p) hf
        rw [show x + 1 - sur s p = x - sur s p + 1 from by omega]
        exact this
      · rw [if_neg he, if_neg he]
        omega
    simp only [neT]
    by_cases he : p = k
    · subst he
      rw [if_pos rfl] at this
      rw [if_neg (Nat.lt_irrefl _)] at ih
      rw [if_pos (by omega)]
      omega
    · rw [if_neg he] at this
      have e2 : (p < k + 1) = (p < k) := propext ⟨fun h => by omega, fun h => by omega⟩
      simp only [e2]
      split at ih <;> split <;> omega
def addW (ws : List (List Int)) (l : List Int) (k : Nat) : List (List Int) := (List.range ws.length).map fun j => (ws[j]?).getD [] ++ (if j < k then [gv l j] else [])
abbrev addS (s : Shop) (p : Nat) (l : List Int) : Shop := ⟨s.ms ++ [⟨p, 0, 0⟩], addW s.ws l s.ws.length, s.wt, s.fr⟩
theorem addW_len {ws : List (List Int)} {l : List Int} {k : Nat} : (addW ws l k).length = ws.length := by simp [addW]
theorem addW_get {ws : List (List Int)} {l : List Int} {k j : Nat} {w : List Int} (h : ws[j]? = some w) : (addW ws l k)[j]? = some (w ++ (if j < k then [gv l j] else [])) := by
  unfold addW
  have := (List.getElem?_eq_some_iff.1 h).1
  rw [List.getElem?_map, List.getElem?_range this]
  simp [h]
theorem add_mem {s : Shop} {p : Nat} {l : List Int} {w' : List Int} : w' ∈ (addS s p l).ws ↔ ∃ (j : Nat) (w : List Int), s.ws[j]? = some w ∧ w' = w ++ [gv l j] := by
  constructor
  · intro h
    obtain ⟨j, hj⟩ := List.mem_iff_getElem?.1 h
    have hjl := (List.getElem?_eq_some_iff.1 hj).1
    rw [addW_len] at hjl
    obtain ⟨w, hw⟩ := get_of hjl
    simp only at hj
    rw [addW_get hw, if_pos hjl] at hj
    exact ⟨j, w, hw, by cases hj; rfl⟩
  · rintro ⟨j, w, hw, rfl⟩
    have hjl := (List.getElem?_eq_some_iff.1 hw).1
    have := addW_get (l := l) (k := s.ws.length) hw
    rw [if_pos hjl] at this
    exact List.mem_of_getElem? this
theorem add_gv {w : List Int} {c : Int} {i : Nat} (h : i < w.length) : gv (w ++ [c]) i = gv w i := by
  unfold gv; rw [Int.toNat_natCast, List.getElem?_append_left h]
theorem add_gv2 {w : List Int} {c : Int} : gv (w ++ [c]) w.length = c := by simp [gv]
theorem add_agr {s : Shop} (hv : valid s) {p : Nat} {l : List Int} {j : Nat} {w : List Int} (hw : s.ws[j]? = some w) (hc : 0 ≤ gv l j) : agrB (addS s p l) (w ++ [gv l j]) = agrB s w := by
  have hl := (hv.world hw).1
  rw [Bool.eq_iff_iff]
  constructor
  · intro h
    refine agrB_iff.2 fun i m hm => ?_
    have hi := (List.getElem?_eq_some_iff.1 hm).1
    have := agrB_iff.1 h i m (by simp only [List.getElem?_append_left hi]; exact hm)
    rwa [add_gv (by omega)] at this
  · intro h
    refine agrB_iff.2 fun i m hm => ?_
    simp only at hm
    rcases Nat.lt_or_ge i s.ms.length with hi | hi
    · rw [List.getElem?_append_left hi] at hm
      rw [add_gv (by omega)]
      exact agrB_iff.1 h i m hm
    · have hil := (List.getElem?_eq_some_iff.1 hm).1
      simp only [List.length_append, List.length_cons, List.length_nil] at hil
      have : i = s.ms.length := by omega
      subst this
      rw [List.getElem?_append_right (Nat.le_refl _), Nat.sub_self] at hm
      cases hm
      rw [← hl, add_gv2]
      exact agr1_iff.2 ⟨hc, fun q => by simp at q⟩
theorem add_c {s : Shop} {p : Nat} {l : List Int} (hv : valid s) (ha : valid (addS s p l)) {j : Nat} {w : List Int} (hw : s.ws[j]? = some w) : 0 ≤ gv l j := by
  have hm : w ++ [gv l j] ∈ (addS s p l).ws := add_mem.2 ⟨j, w, hw, rfl⟩
  have := (ha.2.2.2.2.2.2 _ hm).2 (gv l j) (by simp)
  exact this.1
theorem add_aW {s : Shop} {p : Nat} {l : List Int} (hv : valid s) (ha : valid (addS s p l)) {w' : List Int} : w' ∈ aW (addS s p l) ↔ ∃ (j : Nat) (w : List Int), s.ws[j]? = some w ∧ w' = w ++ [gv l j] ∧ w ∈ aW s := by
  constructor
  · intro h
    obtain ⟨h1, h2⟩ := aW_mem h
    obtain ⟨j, w, hw, rfl⟩ := add_mem.1 h1
    rw [add_agr hv hw (add_c hv ha hw)] at h2
    exact ⟨j, w, hw, rfl, List.mem_filter.2 ⟨List.mem_of_getElem? hw, h2⟩⟩
  · rintro ⟨j, w, hw, rfl, h⟩
    exact List.mem_filter.2 ⟨add_mem.2 ⟨j, w, hw, rfl⟩, by rw [add_agr hv hw (add_c hv ha hw)]; exact (aW_mem h).2⟩
theorem add_ne {s : Shop} {p : Nat} {l : List Int} (hv : valid s) (ha : valid (addS s p l)) (hne : aW s ≠ []) : aW (addS s p l) ≠ [] := by
  obtain ⟨w, hw⟩ := List.exists_mem_of_ne_nil _ hne
  obtain ⟨j, hj⟩ := List.mem_iff_getElem?.1 (aW_mem hw).1
  exact List.ne_nil_of_mem ((add_aW hv ha).2 ⟨j, w, hj, rfl, hw⟩)
theorem add_lf {s : Shop} (hv : valid s) {p : Nat} {l : List Int} {j : Nat} {w : List Int} (hw : s.ws[j]? = some w) {i : Nat} (hi : i < s.ms.length) : lf (addS s p l) (w ++ [gv l j]) i = lf s w i := by
  have hl := (hv.world hw).1
  unfold lf uo
  rw [add_gv (by omega)]
  simp only [Int.toNat_natCast, List.getElem?_append_left hi]
theorem add_lo {s : Shop} {p : Nat} {l : List Int} (hv : valid s) (ha : valid (addS s p l)) (hne : aW s ≠ []) {i : Nat} (hi : i < s.ms.length) : lo (addS s p l) i = lo s i := by
  have h1 := low_mem (l := (aW s).map fun w => lf s w i) (by simpa using hne)
  have h2 := low_mem (l := (aW (addS s p l)).map fun w => lf (addS s p l) w i) (by simpa using add_ne hv ha hne)
  obtain ⟨w, hw, he⟩ := List.mem_map.1 h1
  obtain ⟨v, hv2, he2⟩ := List.mem_map.1 h2
  obtain ⟨j, u, hu, rfl, hua⟩ := (add_aW hv ha).1 hv2
  rw [add_lf hv hu hi] at he2
  obtain ⟨k, hk⟩ := List.mem_iff_getElem?.1 (aW_mem hw).1
  have q1 : lo s i ≤ lf s u i := low_le (List.mem_map.2 ⟨u, hua, rfl⟩)
  have q2 : lo (addS s p l) i ≤ lf (addS s p l) (w ++ [gv l k]) i := low_le (List.mem_map.2 ⟨_, (add_aW hv ha).2 ⟨k, w, hk, rfl, hw⟩, rfl⟩)
  rw [add_lf hv hk hi] at q2
  have e1 : lo s i = lf s w i := he.symm
  have e2 : lo (addS s p l) i = lf s u i := he2.symm
  omega
theorem add_surT {s : Shop} {p : Nat} {l : List Int} (hv : valid s) (ha : valid (addS s p l)) (hne : aW s ≠ []) (q : Int) : ∀ k : Nat, k ≤ s.ms.length → surT (addS s p l) q k = surT s q k
  | 0, _ => rfl
  | k + 1, hk => by
    have ih := add_surT hv ha hne q k (by omega)
    have e := add_lo hv ha hne (i := k) (by omega)
    simp only [surT, sur1, ih, e, List.getElem?_append_left (show k < s.ms.length by omega)]
theorem add_sur {s : Shop} {p : Nat} {l : List Int} (hv : valid s) (ha : valid (addS s p l)) (hne : aW s ≠ []) : sur (addS s p l) p = sur s p + lo (addS s p l) s.ms.length := by
  unfold sur
  simp only [List.length_append, List.length_cons, List.length_nil, Nat.zero_add, surT, add_surT hv ha hne p s.ms.length (Nat.le_refl _)]
  congr 1
  simp [sur1]
theorem more_kno {s : Shop} (hk : kno s) {p : Nat} (h : valid (moreS s p)) : kno (moreS s p) := ⟨h, hk.2⟩
end Go.Proofs.Ytekdocalipchpaa

