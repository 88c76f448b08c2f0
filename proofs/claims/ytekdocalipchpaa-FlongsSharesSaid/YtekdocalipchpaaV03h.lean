/- Contracts of functions of the given program, without a condition beyond those that each theorem states; they lead to the given statement. -/
import Derived.Test.YtekdocalipchpaaV03g
set_option linter.unusedSimpArgs false
set_option linter.unusedVariables false
set_option linter.unusedVariables false
set_option maxRecDepth 100000
namespace Go.Proofs.Ytekdocalipchpaa
open Go Go.Fl
open Classical
/-! ### What is in the lists -/
theorem jl_mem {s : Shop} {can : List Int} (hc : in12 can) : ∀ (d k : Nat) (W pre l : List Int), pre.length = k → in12 pre → l ∈ jl s can d k W pre → l.length = k + d ∧ in12 l ∧ l.take k = pre
  | 0, k, W, pre, l, hp, h12, h => by
    simp only [jl] at h
    split at h
    · cases h
    · rw [List.mem_singleton.1 h]
      exact ⟨by omega, h12, by rw [← hp]; exact List.take_length⟩
  | d + 1, k, W, pre, l, hp, h12, h => by
    simp only [jl, List.mem_flatMap, List.mem_range] at h
    obtain ⟨n, hn, hl⟩ := h
    have hck := hc.gv k
    unfold nOf at hn
    obtain ⟨h1, h2, h3⟩ := jl_mem hc d (k + 1) _ _ l (by simp [hp]) (h12.app (by omega)) hl
    refine ⟨by omega, h2, ?_⟩
    have := congrArg (List.take k) h3
    rw [List.take_take, Nat.min_eq_left (by omega), List.take_left' hp] at this
    exact this
theorem jl_at {s : Shop} {can : List Int} (hc : in12 can) {d k : Nat} {W pre l : List Int} {n : Int} (hp : pre.length = k) (h12 : in12 pre) (hn : 0 ≤ n ∧ n ≤ 12) (h : l ∈ jl s can d (k + 1) W (pre ++ [n])) : gv l k = n := by
  obtain ⟨h1, _, h3⟩ := jl_mem hc d (k + 1) W _ l (by simp [hp]) (h12.app hn) h
  have : (l.take (k + 1))[k]? = some n := by rw [h3, List.getElem?_append_right (by omega), hp]; simp
  rw [List.getElem?_take_of_lt (by omega)] at this
  exact gv_nat this
theorem flat_congr {α β : Type} {f g : α → List β} : ∀ {l : List α}, (∀ a, a ∈ l → f a = g a) → l.flatMap f = l.flatMap g
  | [], _ => rfl
  | a :: l, h => by rw [List.flatMap_cons, List.flatMap_cons, h a (by simp), flat_congr fun b hb => h b (by simp [hb])]
theorem flat_if {α : Type} {g : Nat → List α} {N : Nat} : ∀ M : Nat, N ≤ M → (List.range M).flatMap (fun n => if n < N then g n else []) = (List.range N).flatMap g
  | 0, h => by rw [show N = 0 from by omega]; rfl
  | M + 1, h => by
    rcases Nat.lt_or_ge M N with h1 | h1
    · have : N = M + 1 := by omega
      subst this
      exact flat_congr fun n hn => if_pos (List.mem_range.1 hn)
    · rw [List.range_succ, List.flatMap_append, flat_if M h1]
      simp [show ¬ M < N from by omega]
theorem jl_filter {s : Shop} {can c2 : List Int} (hc : in12 can) (hc2 : ∀ i : Nat, 0 ≤ gv c2 i ∧ gv c2 i ≤ gv can i) : ∀ (d k : Nat) (W pre : List Int), pre.length = k → in12 pre →
    jl s c2 d k W pre = (jl s can d k W pre).filter fun l => decide (∀ i : Nat, k ≤ i → i < k + d → gv l i ≤ gv c2 i)
  | 0, k, W, pre, hp, h12 => by
    rw [List.filter_eq_self.2 fun l _ => decide_eq_true fun i h1 h2 => by omega]
    rfl
  | d + 1, k, W, pre, hp, h12 => by
    have hck := hc.gv k
    have hck2 := hc2 k
    simp only [jl, List.filter_flatMap]
    have h1 : nOf s c2 k W ≤ nOf s can k W := by unfold nOf; omega
    rw [← flat_if _ h1]
    refine flat_congr fun n hn => ?_
    have hn' := List.mem_range.1 hn
    by_cases hlt : n < nOf s c2 k W
    · rw [if_pos hlt]
      unfold nOf at hlt
      rw [jl_filter hc hc2 d (k + 1) _ _ (by simp [hp]) (h12.app (by omega))]
      refine List.filter_congr fun l hl => ?_
      have ha := jl_at hc hp h12 (by omega) hl
      apply decide_eq_decide.2
      constructor
      · intro h i h2 h3
        by_cases he : i = k
        · subst he; rw [ha]; omega
        · exact h i (by omega) (by omega)
      · intro h i h2 h3
        exact h i (by omega) (by omega)
    · rw [if_neg hlt]
      symm
      rw [List.filter_eq_nil_iff]
      intro l hl h
      unfold nOf at hlt hn'
      have ha := jl_at hc hp h12 (by omega) hl
      have := of_decide_eq_true h k (by omega) (by omega)
      omega
abbrev sp (s : Shop) (l : List Int) : Int := spT 1000 s l l.length
theorem spT_min {s : Shop} {l : List Int} : ∀ k : Nat, spT 13 s l k = min 13 (spT 1000 s l k)
  | 0 => by simp only [spT]; omega
  | k + 1 => by
    have ih := spT_min (s := s) (l := l) k
    simp only [spT, sp1, ih]
    split <;> omega
theorem lo_b {s : Shop} (hv : valid s) {i : Nat} (hi : i < s.ms.length) : 0 ≤ lo s i ∧ lo s i ≤ 12 := by
  have := lo_bounds hv (W := aW s) (fun w hw => aW_mem hw) i hi
  exact ⟨this.1, this.2.1⟩
theorem spT_nn {s : Shop} (hv : valid s) {l : List Int} (hl : l.length = s.ms.length) (hx : in12 l) : ∀ k : Nat, k ≤ l.length → (0 ≤ spT 1000 s l k ↔ ∀ i : Nat, i < k → gv l i ≤ lo s i)
  | 0, _ => by simp [spT]
  | k + 1, hk => by
    have ih := spT_nn hv hl hx k (by omega)
    have hb := lo_b hv (i := k) (by omega)
    have h1 := hx.gv k
    have e : 0 ≤ spT 1000 s l (k + 1) ↔ 0 ≤ spT 1000 s l k ∧ gv l k ≤ lo s k := by
      simp only [spT, sp1]
      split <;> omega
    rw [e, ih]
    constructor
    · intro h i hi
      by_cases he : i = k
      · subst he; exact h.2
      · exact h.1 i (by omega)
    · intro h
      exact ⟨fun i hi => h i (by omega), h k (by omega)⟩
theorem spT_far {s : Shop} (hv : valid s) {l : List Int} (hl : l.length = s.ms.length) (hx : in12 l) : ∀ k : Nat, k ≤ l.length → spT 1000 s l k = 1000 ∨ spT 1000 s l k ≤ 12
  | 0, _ => .inl rfl
  | k + 1, hk => by
    have ih := spT_far hv hl hx k (by omega)
    have hb := lo_b hv (i := k) (by omega)
    have h1 := hx.gv k
    simp only [spT, sp1]
    split <;> omega
theorem lo_broke {s : Shop} (hne : aW s ≠ []) {k : Nat} {m : Mould} (hm : s.ms[k]? = some m) (hb : m.broke = 1) : lo s k = 0 := by
  have h1 := low_mem (l := (aW s).map fun w => lf s w k) (by simpa using hne)
  obtain ⟨w, hw, he⟩ := List.mem_map.1 h1
  show low _ = 0
  rw [← he]
  have := (agr1_iff.1 (agrB_iff.1 (aW_mem hw).2 k m hm)).2 hb
  unfold lf
  rw [uo_of hm, this]; omega
theorem su_le {s : Shop} (hv : valid s) (hne : aW s ≠ []) (i : Nat) : 0 ≤ gv (su s (aW s)) i ∧ gv (su s (aW s)) i ≤ gv (canB s) i := by
  have h5 := hv.2.1
  rcases Nat.lt_or_ge i s.ms.length with h | h
  · obtain ⟨m, hm⟩ := get_of h
    have hb := hv.mould hm
    have hlo := lo_b hv h
    rw [canB_get hv hm, gv_nat (su_get hv h)]
    by_cases hbr : m.broke = 1
    · rw [lo_broke hne hm hbr]; omega
    · omega
  · have e1 : gv (su s (aW s)) i = 0 := by
      rcases Nat.lt_or_ge i 5 with h2 | h2
      · exact gv_nat (by rw [su, arr_get h2]; simp [suF, show ¬ i < s.ms.length from by omega])
      · unfold gv; rw [Int.toNat_natCast, List.getElem?_eq_none (by rw [su_len]; exact h2)]; rfl
    have := (show in12 (canB s) from canB_ok hv).gv i
    omega
theorem jls_mem {s : Shop} {can l : List Int} (hc : in12 can) (h : l ∈ jls s can) : l.length = s.ms.length ∧ in12 l := by
  have := jl_mem hc s.ms.length 0 s.wt [] l rfl (fun n hn => by cases hn) h
  exact ⟨by omega, this.2.1⟩
theorem jls_su {s : Shop} (hv : valid s) (hne : aW s ≠ []) : jls s (su s (aW s)) = (jls s (canB s)).filter fun l => decide (0 ≤ sp s l) := by
  have hc : in12 (canB s) := canB_ok hv
  rw [jls, jl_filter hc (su_le hv hne) s.ms.length 0 s.wt [] rfl (fun n hn => by cases hn)]
  refine List.filter_congr fun l hl => ?_
  obtain ⟨h1, h2⟩ := jls_mem hc hl
  apply decide_eq_decide.2
  rw [spT_nn hv h1 h2 l.length (Nat.le_refl _)]
  constructor
  · intro h i hi
    have := h i (by omega) (by omega)
    rwa [gv_nat (su_get hv (by omega))] at this
  · intro h i _ hi
    have := h i (by omega)
    rwa [gv_nat (su_get hv (by omega))]
/-! ### The first of the greatest -/
def gL (L : List (List Int)) (k : Nat) : List Int := (L[k]?).getD []
def fm (val : List Int → Int) (L : List (List Int)) : Nat → Int × Int
  | 0 => (-1, -1)
  | k + 1 => if (fm val L k).2 < val (gL L k) then ((k : Int), val (gL L k)) else fm val L k
abbrev pos (val : List Int → Int) (L : List (List Int)) : List (List Int) := L.filter fun l => decide (0 ≤ val l)
theorem fm_inv {val v2 : List Int → Int} {L : List (List Int)} (h : ∀ a, a ∈ L → ∀ b, b ∈ L → (val a < val b ↔ v2 a < v2 b)) : ∀ k : Nat, k ≤ L.length →
    (bst v2 (pos val (L.take k)) = none ∧ fm val L k = (-1, -1)) ∨ ∃ (i : Nat) (b : List Int), i < k ∧ bst v2 (pos val (L.take k)) = some (b, v2 b) ∧ fm val L k = ((i : Int), val b) ∧ L[i]? = some b ∧ 0 ≤ val b
  | 0, _ => .inl ⟨rfl, rfl⟩
  | k + 1, hk => by
    obtain ⟨x, hx⟩ := get_of (l := L) (j := k) (by omega)
    have hg : gL L k = x := by simp [gL, hx]
    have hxm := List.mem_of_getElem? hx
    have ht : pos val (L.take (k + 1)) = pos val (L.take k) ++ pos val [x] := by rw [pos, take_succ hx, List.filter_append]
    rw [ht]
    simp only [fm, hg]
    by_cases hp : 0 ≤ val x
    · have e : pos val [x] = [x] := by simp [pos, hp]
      rw [e, bst_app]
      rcases fm_inv h k (by omega) with ⟨h1, h2⟩ | ⟨i, b, h1, h2, h3, h4, h5⟩
      · rw [h1, h2]
        refine .inr ⟨k, x, by omega, rfl, if_pos (show (-1 : Int) < val x by omega), hx, hp⟩
      · rw [h2, h3]
        have hc := h b (List.mem_of_getElem? h4) x hxm
        by_cases hlt : val b < val x
        · exact .inr ⟨k, x, by omega, by simp [bstep, hc.1 hlt], if_pos hlt, hx, hp⟩
        · exact .inr ⟨i, b, by omega, by simp [bstep, show ¬ v2 b < v2 x from fun q => hlt (hc.2 q)], if_neg hlt, h4, h5⟩
    · have e : pos val [x] = [] := by simp [pos, hp]
      rw [e, List.append_nil]
      rcases fm_inv h k (by omega) with ⟨h1, h2⟩ | ⟨i, b, h1, h2, h3, h4, h5⟩
      · rw [h2]
        exact .inl ⟨h1, if_neg (show ¬ (-1 : Int) < val x by omega)⟩
      · rw [h3]
        exact .inr ⟨i, b, by omega, h2, if_neg (show ¬ val b < val x by omega), h4, h5⟩
theorem fm_end {val v2 : List Int → Int} {L : List (List Int)} (h : ∀ a, a ∈ L → ∀ b, b ∈ L → (val a < val b ↔ v2 a < v2 b)) :
    ((fm val L L.length).1 < 0 ∧ bB v2 (pos val L) = [] ∧ bF v2 (pos val L) = 3) ∨ ∃ i : Nat, (fm val L L.length).1 = i ∧ i < L.length ∧ L[i]? = some (bB v2 (pos val L)) ∧ bF v2 (pos val L) = 0 := by
  rcases fm_inv h L.length (Nat.le_refl _) with ⟨h1, h2⟩ | ⟨i, b, h1, h2, h3, h4, h5⟩
  · rw [List.take_length] at h1
    exact .inl ⟨by rw [h2]; decide, by simp [bB, h1], by simp [bF, h1]⟩
  · rw [List.take_length] at h2
    exact .inr ⟨i, by rw [h3], h1, by simp [bB, h2, h4], by simp [bF, h2]⟩
theorem fm_bounds {val : List Int → Int} {L : List (List Int)} {B : Int} (hB : ∀ a, a ∈ L → val a ≤ B) (h0 : -1 ≤ B) : ∀ k : Nat, k ≤ L.length → -1 ≤ (fm val L k).1 ∧ (fm val L k).1 < k ∧ -1 ≤ (fm val L k).2 ∧ (fm val L k).2 ≤ B
  | 0, _ => by simp [fm, h0]
  | k + 1, hk => by
    have ih := fm_bounds hB h0 k (by omega)
    obtain ⟨x, hx⟩ := get_of (l := L) (j := k) (by omega)
    have hg : gL L k = x := by simp [gL, hx]
    have hb := hB x (List.mem_of_getElem? hx)
    simp only [fm, hg]
    split
    · simp only; omega
    · omega
end Go.Proofs.Ytekdocalipchpaa
