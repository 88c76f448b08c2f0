/- Contracts of functions of the given program, without a condition beyond those that each theorem states; they lead to the given statement. -/
import Derived.Test.YtjjlcjibhjmhmaaU05r
set_option linter.unusedSimpArgs false
set_option linter.unusedVariables false
set_option maxRecDepth 100000
namespace Go.Proofs.Ytjjlcjibhjmhmaa
open Go Go.Fl
open Classical
def qk (a b : Job) : Prop := a.beat ≤ b.beat ∧ a.pour ≤ b.pour ∧ a.high ≤ b.high
def btr (a b : Job) : Prop := qk a b ∧ b.due ≤ a.due ∧ b.worth ≤ a.worth ∧ 0 ≤ a.worth
theorem fold_qk {s1 s2 : List Job} : ∀ (l : List Int) (m1 m2 : Int × Int), m1.1 ≤ m2.1 → m1.2 ≤ m2.2 → (∀ x, x ∈ l → qk (jb s1 x) (jb s2 x)) → (l.foldl (stp s1 (hiD s1)) m1).1 ≤ (l.foldl (stp s2 (hiD s2)) m2).1 ∧ (l.foldl (stp s1 (hiD s1)) m1).2 ≤ (l.foldl (stp s2 (hiD s2)) m2).2
  | [], m1, m2, h1, h2, _ => ⟨h1, h2⟩
  | x :: l, m1, m2, h1, h2, h => by
    have hx := h x (by simp)
    unfold qk at hx
    exact fold_qk l _ _ (by simp only [stp]; omega) (by simp only [stp, hiD]; omega) fun y hy => h y (by simp [hy])
theorem done_qk {s1 s2 : List Job} {l : List Int} (h : ∀ x, x ∈ l → qk (jb s1 x) (jb s2 x)) : done s1 l ≤ done s2 l := (fold_qk l _ _ (Int.le_refl _) (Int.le_refl _) h).2
theorem worT_btr {s1 s2 : List Job} {o : List Int} (h : ∀ x, x ∈ o → btr (jb s1 x) (jb s2 x)) : ∀ k : Nat, k ≤ o.length → worT s2 (hiD s2) o k ≤ worT s1 (hiD s1) o k
  | 0, _ => Int.le_refl _
  | k + 1, hk => by
    have ih := worT_btr h k (by omega)
    obtain ⟨x, hx⟩ := get_of (l := o) (j := k) (by omega)
    have hb := h x (List.mem_of_getElem? hx)
    have hd : (fin s1 (hiD s1) (o.take (k + 1))).2 ≤ (fin s2 (hiD s2) (o.take (k + 1))).2 := done_qk fun y hy => (h y (List.mem_of_mem_take hy)).1
    unfold btr at hb
    by_cases c2 : (fin s2 (hiD s2) (o.take (k + 1))).2 ≤ (jb s2 x).due
    · rw [worT_yes hx c2, worT_yes hx (by omega)]; omega
    · rw [worT_no hx c2]
      by_cases c1 : (fin s1 (hiD s1) (o.take (k + 1))).2 ≤ (jb s1 x).due
      · rw [worT_yes hx c1]; omega
      · rw [worT_no hx c1]; exact ih
theorem swo_btr {s1 s2 : List Job} {o : List Int} (h : ∀ x, x ∈ o → btr (jb s1 x) (jb s2 x)) : swo s2 o ≤ swo s1 o := worT_btr h _ (Nat.le_refl _)
theorem best_btr {s1 s2 : List Job} (hv1 : valid s1) (hv2 : valid s2) (hl : s2.length ≤ s1.length) (h : ∀ x, within x 0 (s2.length - 1) → btr (jb s1 x) (jb s2 x)) : bestM s2 ≤ bestM s1 :=
  bestM_le hv2 fun o ho => Int.le_trans (swo_btr fun x hx => h x (ho.on x hx)) (le_bestM hv1 (isOrd_of (fun x hx => by have := ho.on x hx; unfold within at *; omega) (isOrd_nodup ho)))
theorem jb_set {s : List Job} {x y : Int} {j : Job} (hx : within x 0 (s.length - 1)) (hy : 0 ≤ y) : jb (s.set x.toNat j) y = if y = x then j else jb s y := by
  unfold within at hx
  unfold jb
  rw [List.getElem?_set]
  by_cases e : y = x
  · subst e
    rw [if_pos rfl, if_pos rfl, if_pos (by omega)]; rfl
  · rw [if_neg (by omega), if_neg e]
theorem drs_best {s : List Job} (hv : valid s) {x h1 h2 : Int} (hw : within x 0 (s.length - 1)) (l1 : (jb s x).low ≤ h1) (l2 : h1 ≤ h2) (l3 : h2 ≤ 9) : bestM (drs s x h2) ≤ bestM (drs s x h1) := by
  refine best_btr (drs_valid hv hw (by omega)) (drs_valid hv hw (by omega)) (by rw [drs_len, drs_len]; exact Nat.le_refl _) fun y hy => ?_
  rw [drs_len] at hy
  have hj := hv.jb hy
  unfold okJob at hj
  unfold within at hj
  unfold within at hy
  unfold drs
  rw [jb_set hw (by omega), jb_set hw (by omega)]
  by_cases e : y = x
  · subst e
    rw [if_pos rfl, if_pos rfl]
    unfold btr qk upH; simp only; omega
  · rw [if_neg e, if_neg e]
    unfold btr qk; omega
end Go.Proofs.Ytjjlcjibhjmhmaa

