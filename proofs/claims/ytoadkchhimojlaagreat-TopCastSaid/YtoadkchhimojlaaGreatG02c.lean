/- Contracts of functions of the given program, without a condition beyond those that each theorem states; they lead to the given statement. -/
import Derived.Test.YtoadkchhimojlaaGreatG02b
set_option linter.unusedSimpArgs false
set_option linter.unusedVariables false
set_option maxRecDepth 100000
namespace Go.Proofs.YtoadkchhimojlaaGreat.W2
open Go Go.Fl
open Classical
theorem valid.mould {s : Shop} (h : valid s) {i : Nat} {m : Mould} (hm : s.ms[i]? = some m) : 0 ≤ m.page ∧ m.page < s.wt.length ∧ 0 ≤ m.used ∧ m.used ≤ 12 ∧ 0 ≤ m.broke ∧ m.broke ≤ 1 := by
  have := h.2.2.2.2.2.1 m (List.mem_of_getElem? hm)
  unfold okM within at this; omega
theorem valid.world {s : Shop} (h : valid s) {i : Nat} {w : List Int} (hw : s.ws[i]? = some w) : w.length = s.ms.length ∧ ∀ n, n ∈ w → 0 ≤ n ∧ n ≤ 12 := h.2.2.2.2.2.2 w (List.mem_of_getElem? hw)
theorem valid.want {s : Shop} (h : valid s) {i : Nat} {n : Int} (hn : s.wt[i]? = some n) : 0 ≤ n ∧ n ≤ 12 := h.2.2.2.2.1 n (List.mem_of_getElem? hn)
def agr1 (m : Mould) (x : Int) : Bool := decide (m.used ≤ x) && (!(decide (m.broke = 1)) || decide (x = m.used))
def agrB (s : Shop) (w : List Int) : Bool := (List.range s.ms.length).all fun i => match s.ms[i]? with
  | some m => agr1 m (gv w i)
  | none => true
theorem agrB_iff {s : Shop} {w : List Int} : agrB s w = true ↔ ∀ (i : Nat) (m : Mould), s.ms[i]? = some m → agr1 m (gv w i) = true := by
  simp only [agrB, List.all_eq_true, List.mem_range]
  constructor
  · intro h i m hm
    have := h i (List.getElem?_eq_some_iff.1 hm).1
    rw [hm] at this; exact this
  · intro h i hi
    obtain ⟨m, hm⟩ := get_of hi
    rw [hm]; exact h i m hm
theorem agr1_iff {m : Mould} {x : Int} : agr1 m x = true ↔ m.used ≤ x ∧ (m.broke = 1 → x = m.used) := by
  simp only [agr1, Bool.and_eq_true, decide_eq_true_eq, Bool.or_eq_true, Bool.not_eq_true', decide_eq_false_iff_not]
  by_cases h : m.broke = 1 <;> simp [h]
theorem agrB_no {s : Shop} {w : List Int} {i : Nat} {m : Mould} (hm : s.ms[i]? = some m) (h : ¬ (m.used ≤ gv w i ∧ (m.broke = 1 → gv w i = m.used))) : agrB s w ≠ true := fun q => h (agr1_iff.1 (agrB_iff.1 q i m hm))
theorem agrB_yes {s : Shop} {w : List Int} {j : Nat} (h : allTo (fun i m => agr1 m (gv w i) = true) s.ms j) (hj : s.ms.length ≤ j) : agrB s w = true := agrB_iff.2 fun i m hm => h.all hj i m hm
def gw (s : Shop) (n : Int) : List Int := (s.ws[n.toNat]?).getD []
def gd (s : Shop) (n : Nat) : Bool := agrB s (gw s n)
def uo (s : Shop) (i : Int) : Int := match s.ms[i.toNat]? with | some m => m.used | none => 0
def lf (s : Shop) (w : List Int) (i : Int) : Int := gv w i - uo s i
def aW (s : Shop) : List (List Int) := s.ws.filter (agrB s)
def aT (s : Shop) (n : Nat) : List (List Int) := (s.ws.take n).filter (agrB s)
theorem aT_zero {s : Shop} : aT s 0 = [] := rfl
theorem aT_yes {s : Shop} {n : Nat} {w : List Int} (hw : s.ws[n]? = some w) (h : agrB s w = true) : aT s (n + 1) = aT s n ++ [w] := by simp [aT, List.take_add_one, hw, h, List.filter_append]
theorem aT_no {s : Shop} {n : Nat} {w : List Int} (hw : s.ws[n]? = some w) (h : agrB s w ≠ true) : aT s (n + 1) = aT s n := by simp [aT, List.take_add_one, hw, h, List.filter_append]
theorem aT_all {s : Shop} {n : Nat} (h : s.ws.length ≤ n) : aT s n = aW s := by rw [aT, List.take_of_length_le h]; rfl
theorem aT_len (s : Shop) (n : Nat) : (aT s n).length ≤ n := by
  have := List.length_filter_le (agrB s) (s.ws.take n)
  rw [List.length_take] at this
  unfold aT; omega
theorem aW_mem {s : Shop} {w : List Int} (h : w ∈ aW s) : w ∈ s.ws ∧ agrB s w = true := List.mem_filter.1 h
theorem uo_of {s : Shop} {i : Nat} {m : Mould} (h : s.ms[i]? = some m) : uo s i = m.used := by simp [uo, h]
theorem valid.left {s : Shop} (h : valid s) {w : List Int} (hw : w ∈ s.ws) (i : Nat) (hi : i < s.ms.length) : -12 ≤ lf s w i ∧ lf s w i ≤ 12 ∧ (agrB s w = true → 0 ≤ lf s w i) := by
  obtain ⟨m, hm⟩ := get_of hi
  obtain ⟨j, hj⟩ := List.mem_iff_getElem?.1 hw
  obtain ⟨h1, h2⟩ := h.world hj
  obtain ⟨x, hx⟩ := get_of (l := w) (j := i) (by omega)
  have h3 := h2 x (List.mem_of_getElem? hx)
  have h4 := h.mould hm
  unfold lf
  rw [uo_of hm, gv_nat hx]
  refine ⟨by omega, by omega, fun ha => ?_⟩
  have := (agr1_iff.1 (agrB_iff.1 ha i m hm)).1
  rw [gv_nat hx] at this; omega
def loW (s : Shop) (W : List (List Int)) (i : Int) : Int := low (W.map fun w => lf s w i)
def hiW (s : Shop) (W : List (List Int)) (i : Int) : Int := high (W.map fun w => lf s w i)
def lo (s : Shop) (i : Int) : Int := loW s (aW s) i
def hi (s : Shop) (i : Int) : Int := hiW s (aW s) i
theorem lo_bounds {s : Shop} (hv : valid s) {W : List (List Int)} (hW : ∀ w, w ∈ W → w ∈ s.ws ∧ agrB s w = true) (i : Nat) (hi : i < s.ms.length) : 0 ≤ loW s W i ∧ loW s W i ≤ 12 ∧ 0 ≤ hiW s W i ∧ hiW s W i ≤ 12 := by
  by_cases hn : W = []
  · subst hn; simp [loW, hiW, low, high]
  · have hne : (W.map fun w => lf s w i) ≠ [] := by simpa using hn
    obtain ⟨w, h1, h2⟩ := List.mem_map.1 (low_mem hne)
    obtain ⟨w', h3, h4⟩ := List.mem_map.1 (high_mem hne)
    have b1 := hv.left (hW w h1).1 i hi
    have b2 := hv.left (hW w' h3).1 i hi
    have b3 := b1.2.2 (hW w h1).2
    have b4 := b2.2.2 (hW w' h3).2
    unfold loW hiW
    rw [← h2, ← h4]; omega
theorem loW_app {s : Shop} {W : List (List Int)} {w : List Int} {i : Int} : loW s (W ++ [w]) i = if W = [] then lf s w i else min (loW s W i) (lf s w i) := by
  simp [loW, low_app]
end Go.Proofs.YtoadkchhimojlaaGreat.W2

