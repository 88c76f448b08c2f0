/- Contracts of functions of the given program, without a condition beyond those that each theorem states; they lead to the given statement. -/
import Derived.Test.YtjjlcjibhjmhmaaU05r
set_option linter.unusedSimpArgs false
set_option linter.unusedVariables false
set_option maxRecDepth 100000
namespace Go.Proofs.Ytjjlcjibhjmhmaa
open Go Go.Fl
open Classical
def hJ (s : List Job) : List Int → Int
  | [] => 0
  | x :: B => max ((jb s x).beat + (jb s x).high + (jb s x).pour + sumJ (pourJ s) B) ((jb s x).beat + hJ s B)
theorem fold_h {s : List Job} (hv : valid s) : ∀ (l : List Int) (m : Int × Int), m.1 ≤ m.2 → onJ s l → (l.foldl (stp s (hiD s)) m).2 = max (m.2 + sumJ (pourJ s) l) (m.1 + hJ s l)
  | [], m, h, _ => by simp only [List.foldl_nil, sumJ, hJ]; omega
  | x :: l, m, h, ho => by
    have hj := hv.jb (ho x (by simp))
    unfold okJob within at hj
    have ih := fold_h hv l (stp s (hiD s) m x) (by simp only [stp, hiD]; omega) fun y hy => ho y (by simp [hy])
    simp only [List.foldl_cons, sumJ, hJ]
    rw [ih]
    simp only [stp, hiD, pourJ]
    omega
theorem hJ_snoc {s : List Job} (hv : valid s) : ∀ (A : List Int) (y : Int), onJ s (A ++ [y]) → hJ s (A ++ [y]) = max (hJ s A + (jb s y).pour) (sumJ (beatJ s) A + (jb s y).beat + (jb s y).high + (jb s y).pour)
  | [], y, h => by
    have hj := hv.jb (h y (by simp))
    unfold okJob within at hj
    simp only [List.nil_append, hJ, sumJ]; omega
  | x :: A, y, h => by
    have hj := hv.jb (h x (by simp))
    unfold okJob within at hj
    have ih := hJ_snoc hv A y fun z hz => h z (by simp at hz ⊢; exact .inr hz)
    simp only [List.cons_append, hJ, sumJ]
    rw [ih, sumJ_app]
    simp only [sumJ, pourJ, beatJ]
    omega
theorem hJ_pour {s : List Job} (hv : valid s) : ∀ l : List Int, onJ s l → sumJ (pourJ s) l ≤ hJ s l
  | [], _ => Int.le_refl _
  | x :: l, h => by
    have hj := hv.jb (h x (by simp))
    unfold okJob within at hj
    simp only [sumJ, hJ, pourJ]; omega
theorem done_h {s : List Job} (hv : valid s) {l : List Int} (h : onJ s l) : done s l = hJ s l := by
  have := fold_h hv l (0, 0) (Int.le_refl _) h
  have := hJ_pour hv l h
  unfold done fin
  simp only at *
  omega
def swJ (j : Job) : Job := ⟨j.pour, j.low, j.high, j.beat, j.due, j.worth⟩
def tnd (s : List Job) : List Job := s.map swJ
theorem tnd_len {s : List Job} : (tnd s).length = s.length := by simp [tnd]
theorem tnd_tnd {s : List Job} : tnd (tnd s) = s := by
  unfold tnd; rw [List.map_map]
  conv => rhs; rw [← List.map_id s]
  exact List.map_congr_left fun j _ => rfl
theorem jb_tnd {s : List Job} {x : Int} : jb (tnd s) x = swJ (jb s x) := by
  unfold jb tnd
  rw [List.getElem?_map]
  cases s[x.toNat]? <;> rfl
theorem tnd_valid {s : List Job} (hv : valid s) : valid (tnd s) := by
  refine ⟨by rw [tnd_len]; exact hv.1, fun j hj => ?_⟩
  obtain ⟨i, hi, rfl⟩ := List.mem_map.1 hj
  have := hv.2 i hi
  unfold okJob swJ within at *
  simp only; omega
theorem hJ_tnd {s : List Job} (hv : valid s) : ∀ l : List Int, onJ s l → hJ (tnd s) l.reverse = hJ s l
  | [], _ => rfl
  | x :: l, h => by
    have ih := hJ_tnd hv l fun y hy => h y (by simp [hy])
    rw [List.reverse_cons, hJ_snoc (tnd_valid hv) _ _ (fun z hz => by rw [tnd_len]; exact h z (by simp at hz ⊢; rcases hz with q | q; exact .inr q; exact .inl q)), ih]
    have e1 : sumJ (beatJ (tnd s)) l.reverse = sumJ (pourJ s) l := by
      rw [sumJ_perm (List.reverse_perm l)]
      exact sumJ_congr fun y _ => by simp only [beatJ, pourJ, jb_tnd, swJ]
    rw [e1, jb_tnd]
    simp only [hJ, swJ]
    omega
theorem least_tnd_le {s : List Job} (hv : valid s) : leastM (tnd s) ≤ leastM s := by
  obtain ⟨h1, h2, h3, h4⟩ := quick_spec (s := s)
  have ho : isOrd (tnd s).length (quickO s).reverse := by
    rw [tnd_len]
    exact isOrd_of_perm ((List.reverse_perm _).trans (isOrd_perm h1 h2))
  have := least_le ho (by rw [List.length_reverse, h2, tnd_len])
  rw [done_h (tnd_valid hv) ho.on, hJ_tnd hv _ h1.on, ← done_h hv h1.on, h3] at this
  exact this
theorem least_tnd {s : List Job} (hv : valid s) : leastM (tnd s) = leastM s := by
  have h1 := least_tnd_le hv
  have h2 := least_tnd_le (tnd_valid hv)
  rw [tnd_tnd] at h2
  omega
def qk (a b : Job) : Prop := a.beat ≤ b.beat ∧ a.pour ≤ b.pour ∧ a.high ≤ b.high
def btr (a b : Job) : Prop := qk a b ∧ b.due ≤ a.due ∧ b.worth ≤ a.worth ∧ 0 ≤ a.worth
theorem fold_qk {s1 s2 : List Job} : ∀ (l : List Int) (m1 m2 : Int × Int), m1.1 ≤ m2.1 → m1.2 ≤ m2.2 → (∀ x, x ∈ l → qk (jb s1 x) (jb s2 x)) → (l.foldl (stp s1 (hiD s1)) m1).1 ≤ (l.foldl (stp s2 (hiD s2)) m2).1 ∧ (l.foldl (stp s1 (hiD s1)) m1).2 ≤ (l.foldl (stp s2 (hiD s2)) m2).2
  | [], m1, m2, h1, h2, _ => ⟨h1, h2⟩
  | x :: l, m1, m2, h1, h2, h => by
    have hx := h x (by simp)
    unfold qk at hx
    exact fold_qk l _ _ (by simp only [stp]; omega) (by simp only [stp, hiD]; omega) fun y hy => h y (by simp [hy])
theorem done_qk {s1 s2 : List Job} {l : List Int} (h : ∀ x, x ∈ l → qk (jb s1 x) (jb s2 x)) : done s1 l ≤ done s2 l := (fold_qk l _ _ (Int.le_refl _) (Int.le_refl _) h).2
theorem worT_btr {s1 s2 : List Job} {o : List Int} (h : ∀ x, x ∈ o → btr (jb s1 x) (jb s2 x)) : ∀ k : Nat, k ≤ o.length → worT s2 (hiD s2) o k ≤ worT s1 (hiD s1) o k
  | 0, _ => Int.le_refl _
  | k + 1, hk => by
    have ih := worT_btr h k (by omega)
    obtain ⟨x, hx⟩ := get_of (l := o) (j := k) (by omega)
    have hb := h x (List.mem_of_getElem? hx)
    have hd : (fin s1 (hiD s1) (o.take (k + 1))).2 ≤ (fin s2 (hiD s2) (o.take (k + 1))).2 := done_qk fun y hy => (h y (List.mem_of_mem_take hy)).1
    unfold btr at hb
    by_cases c2 : (fin s2 (hiD s2) (o.take (k + 1))).2 ≤ (jb s2 x).due
    · rw [worT_yes hx c2, worT_yes hx (by omega)]; omega
    · rw [worT_no hx c2]
      by_cases c1 : (fin s1 (hiD s1) (o.take (k + 1))).2 ≤ (jb s1 x).due
      · rw [worT_yes hx c1]; omega
      · rw [worT_no hx c1]; exact ih
theorem swo_btr {s1 s2 : List Job} {o : List Int} (h : ∀ x, x ∈ o → btr (jb s1 x) (jb s2 x)) : swo s2 o ≤ swo s1 o := worT_btr h _ (Nat.le_refl _)
theorem best_btr {s1 s2 : List Job} (hv1 : valid s1) (hv2 : valid s2) (hl : s2.length ≤ s1.length) (h : ∀ x, within x 0 (s2.length - 1) → btr (jb s1 x) (jb s2 x)) : bestM s2 ≤ bestM s1 :=
  bestM_le hv2 fun o ho => Int.le_trans (swo_btr fun x hx => h x (ho.on x hx)) (le_bestM hv1 (isOrd_of (fun x hx => by have := ho.on x hx; unfold within at *; omega) (isOrd_nodup ho)))
theorem least_qk {s1 s2 : List Job} (hl : s1.length = s2.length) (h : ∀ x, within x 0 (s2.length - 1) → qk (jb s1 x) (jb s2 x)) : leastM s1 ≤ leastM s2 := by
  obtain ⟨h1, h2, h3, h4⟩ := quick_spec (s := s2)
  rw [← h3]
  exact Int.le_trans (least_le (by rw [hl]; exact h1) (by omega)) (done_qk fun x hx => h x (h1.on x hx))
theorem jb_set {s : List Job} {x y : Int} {j : Job} (hx : within x 0 (s.length - 1)) (hy : 0 ≤ y) : jb (s.set x.toNat j) y = if y = x then j else jb s y := by
  unfold within at hx
  unfold jb
  rw [List.getElem?_set]
  by_cases e : y = x
  · subst e
    rw [if_pos rfl, if_pos rfl, if_pos (by omega)]; rfl
  · rw [if_neg (by omega), if_neg e]
theorem drs_best {s : List Job} (hv : valid s) {x h1 h2 : Int} (hw : within x 0 (s.length - 1)) (l1 : (jb s x).low ≤ h1) (l2 : h1 ≤ h2) (l3 : h2 ≤ 9) : bestM (drs s x h2) ≤ bestM (drs s x h1) := by
  refine best_btr (drs_valid hv hw (by omega)) (drs_valid hv hw (by omega)) (by rw [drs_len, drs_len]; exact Nat.le_refl _) fun y hy => ?_
  rw [drs_len] at hy
  have hj := hv.jb hy
  unfold okJob at hj
  unfold within at hj
  unfold within at hy
  unfold drs
  rw [jb_set hw (by omega), jb_set hw (by omega)]
  by_cases e : y = x
  · subst e
    rw [if_pos rfl, if_pos rfl]
    unfold btr qk upH; simp only; omega
  · rw [if_neg e, if_neg e]
    unfold btr qk; omega
theorem jb_snoc {s : List Job} {j : Job} {x : Int} (h : within x 0 (s.length - 1)) : jb (s ++ [j]) x = jb s x := by
  unfold within at h
  unfold jb
  rw [List.getElem?_append_left (by omega)]
theorem stp_ge {s : List Job} (hv : valid s) {d : Int → Int} {m : Int × Int} {x : Int} (hx : within x 0 (s.length - 1)) : m.1 ≤ (stp s d m x).1 ∧ m.2 ≤ (stp s d m x).2 := by
  have hj := hv.jb hx
  unfold okJob within at hj
  simp only [stp]; omega
theorem drop_le {s : List Job} (hv : valid s) {d : Int → Int} {A B : List Int} {x : Int} (hx : within x 0 (s.length - 1)) : (fin s d (A ++ B)).2 ≤ (fin s d (A ++ x :: B)).2 := by
  unfold fin
  rw [List.foldl_append, List.foldl_append, List.foldl_cons]
  have h := stp_ge hv (d := d) (m := A.foldl (stp s d) (0, 0)) hx
  exact (fold_le B _ _ h.1 h.2).2
theorem least_snoc {s : List Job} {j : Job} (hv : valid s) (hv2 : valid (s ++ [j])) : leastM s ≤ leastM (s ++ [j]) := by
  obtain ⟨h1, h2, h3, h4⟩ := quick_spec (s := s ++ [j])
  have hp := isOrd_perm h1 h2
  rw [show (s ++ [j]).length = s.length + 1 from by simp, upI_succ] at hp
  have hm : (s.length : Int) ∈ quickO (s ++ [j]) := hp.mem_iff.2 (by simp)
  obtain ⟨A, B, e⟩ := List.append_of_mem hm
  rw [e] at hp
  have hp2 : (A ++ B).Perm (upI s.length) := by
    have q1 : ((s.length : Int) :: (A ++ B)).Perm ((s.length : Int) :: upI s.length) := (List.perm_middle.symm.trans hp).trans (List.perm_append_comm (l₁ := upI s.length) (l₂ := [(s.length : Int)]))
    exact q1.cons_inv
  have ho := isOrd_of_perm hp2
  have q := least_le ho (by rw [hp2.length_eq, upI_len])
  have q2 : done s (A ++ B) ≤ done (s ++ [j]) (A ++ B) := done_qk fun x hx => by
    rw [jb_snoc (ho.on x hx)]; unfold qk; omega
  have q3 : done (s ++ [j]) (A ++ B) ≤ done (s ++ [j]) (A ++ (s.length : Int) :: B) := drop_le hv2 (by unfold within; simp)
  rw [← h3, e]
  omega
theorem best_snoc {s : List Job} {j : Job} (hv : valid s) (hv2 : valid (s ++ [j])) : bestM s ≤ bestM (s ++ [j]) := by
  refine best_btr hv2 hv (by simp) fun x hx => ?_
  have hj := hv.jb hx
  rw [jb_snoc hx]
  unfold okJob within at hj
  unfold btr qk; omega
end Go.Proofs.Ytjjlcjibhjmhmaa

