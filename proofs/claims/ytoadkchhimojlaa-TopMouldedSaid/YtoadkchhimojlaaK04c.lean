/- Contracts of functions of the given program, without a condition beyond those that each theorem states; they lead to the given statement. -/
import Derived.Test.YtoadkchhimojlaaK04b
set_option linter.unusedSimpArgs false
set_option linter.unusedVariables false
set_option maxRecDepth 100000
namespace Go.Proofs.Ytoadkchhimojlaa
open Go Go.Fl
open Classical
def wtT (s : W2.Shop) (wt : List Int) : W2.Shop := ⟨s.ms, s.ws, wt, s.fr⟩
theorem sur_wt {s : W2.Shop} {a b : List Int} {q : Int} : ∀ k : Nat, W2.surT (wtT s a) q k = W2.surT (wtT s b) q k
  | 0 => rfl
  | k + 1 => by
    have ih := sur_wt (s := s) (a := a) (b := b) (q := q) k
    have e : W2.sur1 (wtT s a) q k = W2.sur1 (wtT s b) q k := rfl
    simp only [W2.surT, ih, e]
theorem ceil_mo {fr x y : Int} (hf : 1 ≤ fr) (h : x ≤ y) : (max 0 x + fr - 1) / fr ≤ (max 0 y + fr - 1) / fr := Int.ediv_le_ediv (by omega) (by omega)
theorem ceil_add {fr x c : Int} (hf : 1 ≤ fr) (hc : 0 ≤ c) : (max 0 (x + c) + fr - 1) / fr ≤ (max 0 x + fr - 1) / fr + c := by
  have h := Int.add_mul_ediv_right (max 0 x + fr - 1) c (show fr ≠ 0 by omega)
  rw [← h]
  have : c ≤ c * fr := by
    have := Int.mul_le_mul_of_nonneg_left hf hc
    omega
  exact Int.ediv_le_ediv (by omega) (by omega)
theorem ne_wt {s : W2.Shop} {a b : List Int} (hf : 1 ≤ s.fr) (hl : a.length = b.length) (e : Nat) (c : Int) (hc : 0 ≤ c) (hab : ∀ (k : Nat) (x y : Int), a[k]? = some x → b[k]? = some y → x = y + if k = e then c else 0) : ∀ k : Nat, k ≤ b.length → W2.neT (wtT s b) k ≤ W2.neT (wtT s a) k ∧ W2.neT (wtT s a) k ≤ W2.neT (wtT s b) k + if e < k then c else 0
  | 0, _ => by simp [W2.neT]
  | k + 1, hk => by
    have ih := ne_wt hf hl e c hc hab k (by omega)
    have es : W2.sur (wtT s a) k = W2.sur (wtT s b) k := sur_wt _
    obtain ⟨x, hx⟩ := get_of (l := a) (j := k) (by omega)
    obtain ⟨y, hy⟩ := get_of (l := b) (j := k) (by omega)
    have hxy := hab k x y hx hy
    have hx' : (wtT s a).wt[k]? = some x := hx
    have hy' : (wtT s b).wt[k]? = some y := hy
    have : W2.ne1 (wtT s b) k ≤ W2.ne1 (wtT s a) k ∧ W2.ne1 (wtT s a) k ≤ W2.ne1 (wtT s b) k + if k = e then c else 0 := by
      unfold W2.ne1
      rw [hx', hy', es]
      have f1 : (wtT s a).fr = s.fr := rfl
      have f2 : (wtT s b).fr = s.fr := rfl
      simp only [f1, f2]
      by_cases he : k = e
      · rw [if_pos he] at hxy ⊢
        refine ⟨ceil_mo hf (by omega), ?_⟩
        rw [show x - W2.sur (wtT s b) k = (y - W2.sur (wtT s b) k) + c by omega]
        exact ceil_add hf hc
      · rw [if_neg he] at hxy ⊢
        rw [hxy, Int.add_zero]
        omega
    rw [W2.neT, W2.neT]
    split at this <;> split <;> split at ih <;> omega
def wL (p : Int) : List Bun → Int
  | [] => 0
  | x :: l => (if x.ed = p then x.hund else 0) + wL p l
theorem wL_app (p : Int) : ∀ a b : List Bun, wL p (a ++ b) = wL p a + wL p b
  | [], b => by simp [wL]
  | x :: a, b => by rw [List.cons_append, wL, wL, wL_app p a b]; omega
theorem wntTo_wL (h : House) (p : Int) : ∀ n : Nat, n ≤ h.bs.length → wntTo h p n = wL p (h.bs.take n)
  | 0, _ => by simp [wntTo, wL]
  | n + 1, hn => by
    obtain ⟨x, hx⟩ := get_of (l := h.bs) (j := n) (by omega)
    have e : bunG h n = x := by simp [bunG, hx]
    rw [wntTo, wntTo_wL h p n (by omega), e, take_succ hx, wL_app, wL, wL]; omega
theorem wnt_wL (h : House) (p : Int) : wnt h p = wL p h.bs := by
  unfold wnt; rw [wntTo_wL h p _ (Nat.le_refl _), List.take_length]
def lessG (h : House) (i : Nat) : House := ⟨h.ms, h.bs.take i ++ h.bs.drop (i + 1), h.ts, h.ch⟩
theorem less_ok {h : House} (hk : okG h) (i : Nat) : okG (lessG h i) := by
  obtain ⟨k1, k2, k3, k4, k5, k6, k7, k8⟩ := hk
  refine ⟨k1, k2, k3, ?_, k5, k6, k7, fun b hb => ?_⟩
  · show (h.bs.take i ++ h.bs.drop (i + 1)).length ≤ 5
    rw [List.length_append, List.length_take, List.length_drop]; omega
  · have : b ∈ h.bs := by
      rcases List.mem_append.1 hb with hb | hb
      · exact List.mem_of_mem_take hb
      · exact List.mem_of_mem_drop hb
    exact k8 b this
theorem less_sub {h : House} (hk : okG h) (i : Nat) : Sub i (lessG h i) h := by
  refine ⟨rfl, rfl, rfl, rfl, fun j m' m h1 h2 => ?_⟩
  have e : m' = m := Option.some.inj (h1.symm.trans h2)
  have := (hk.2.2.2.2.2.1 m (List.mem_of_getElem? h2)).1.1
  subst e
  exact ⟨this, Int.le_refl _, rfl, rfl⟩
theorem less_wnt {h : House} {i : Nat} {x : Bun} (hx : h.bs[i]? = some x) (p : Int) : wnt h p = wnt (lessG h i) p + if x.ed = p then x.hund else 0 := by
  have e : h.bs = h.bs.take i ++ x :: h.bs.drop (i + 1) := by rw [← drop_cons' hx, List.take_append_drop]
  rw [wnt_wL, wnt_wL]
  have e2 : (lessG h i).bs = h.bs.take i ++ h.bs.drop (i + 1) := rfl
  rw [e2, wL_app]
  conv => lhs; rw [e, wL_app, wL]
  omega
theorem less_ne {s : W2.Shop} {h : House} (hk : okG h) (hf : 1 ≤ s.fr) {i : Nat} {x : Bun} (hx : h.bs[i]? = some x) : W2.neN (ordS s (lessG h i)) ≤ W2.neN (ordS s h) ∧ W2.neN (ordS s h) ≤ W2.neN (ordS s (lessG h i)) + if x.ed < s.wt.length then x.hund else 0 := by
  have b := hk.2.2.2.2.2.2.2 x (List.mem_of_getElem? hx)
  have b1 := b.2.1.1
  have b2 := b.2.2.1
  have hl1 : ((List.range s.wt.length).map fun (p : Nat) => wnt h p).length = s.wt.length := by simp
  have hl2 : ((List.range s.wt.length).map fun (p : Nat) => wnt (lessG h i) p).length = s.wt.length := by simp
  have := ne_wt (s := s) hf (hl1.trans hl2.symm) x.ed.toNat x.hund (by omega) (fun k a b ha hb => by
    rcases Nat.lt_or_ge k s.wt.length with hk | hk
    · rw [List.getElem?_map, rng_get hk] at ha hb
      have ha := Option.some.inj ha
      have hb := Option.some.inj hb
      rw [← ha, ← hb]
      show wnt h k = wnt (lessG h i) k + _
      rw [less_wnt hx]
      congr 1
      by_cases q : x.ed = k
      · rw [if_pos q, if_pos (by omega)]
      · rw [if_neg q, if_neg (by omega)]
    · rw [List.getElem?_eq_none (by rw [hl1]; exact hk)] at ha; cases ha) s.wt.length (by rw [hl2]; exact Nat.le_refl _)
  unfold W2.neN
  have e1 : (ordS s h).wt.length = s.wt.length := hl1
  have e2 : (ordS s (lessG h i)).wt.length = s.wt.length := hl2
  rw [e1, e2]
  refine ⟨this.1, Int.le_trans this.2 ?_⟩
  show W2.neT (ordS s (lessG h i)) s.wt.length + (if x.ed.toNat < s.wt.length then x.hund else 0) ≤ _
  split <;> split <;> omega
theorem aW_ord (s : W2.Shop) (h h' : House) : W2.aW (ordS s h) = W2.aW (ordS s h') := rfl
end Go.Proofs.Ytoadkchhimojlaa

