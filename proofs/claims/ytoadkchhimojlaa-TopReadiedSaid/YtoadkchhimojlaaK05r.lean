/- Contracts of functions of the given program, without a condition beyond those that each theorem states; they lead to the given statement. -/
import Derived.Test.YtoadkchhimojlaaK05p
set_option linter.unusedSimpArgs false
set_option linter.unusedVariables false
set_option maxRecDepth 100000
namespace Go.Proofs.Ytoadkchhimojlaa.W5
open Go Go.Fl
open Classical
theorem fold_same {s1 s2 : List Job} {σ : Int → Int} : ∀ (l : List Int) (m : Int × Int), (∀ x, x ∈ l → jb s1 x = jb s2 (σ x)) → l.foldl (stp s1 (hiD s1)) m = (l.map σ).foldl (stp s2 (hiD s2)) m
  | [], m, _ => rfl
  | x :: l, m, h => by
    have hx := h x (by simp)
    simp only [List.foldl_cons, List.map_cons]
    rw [fold_same l _ fun y hy => h y (by simp [hy])]
    simp only [stp, hiD, hx]
theorem done_same {s1 s2 : List Job} {σ : Int → Int} {l : List Int} (h : ∀ x, x ∈ l → jb s1 x = jb s2 (σ x)) : done s1 l = done s2 (l.map σ) := by unfold done fin; rw [fold_same l _ h]
theorem wsT_same {s1 s2 : List Job} {σ : Int → Int} {o : List Int} (h : ∀ x, x ∈ o → jb s1 x = jb s2 (σ x)) : ∀ k : Nat, k ≤ o.length → worT s1 (hiD s1) o k = worT s2 (hiD s2) (o.map σ) k ∧ snT s1 o k = snT s2 (o.map σ) k
  | 0, _ => ⟨rfl, rfl⟩
  | k + 1, hk => by
    have ih := wsT_same h k (by omega)
    obtain ⟨x, hx⟩ := get_of (l := o) (j := k) (by omega)
    have e := h x (List.mem_of_getElem? hx)
    have hx2 : (o.map σ)[k]? = some (σ x) := by rw [List.getElem?_map, hx]; rfl
    have hd : (fin s1 (hiD s1) (o.take (k + 1))).2 = (fin s2 (hiD s2) ((o.map σ).take (k + 1))).2 := by
      rw [← List.map_take]
      exact done_same fun y hy => h y (List.mem_of_mem_take hy)
    by_cases c : (fin s1 (hiD s1) (o.take (k + 1))).2 ≤ (jb s1 x).due
    · rw [worT_yes hx c, snT_yes hx c, worT_yes hx2 (by rw [← hd, ← e]; exact c), snT_yes hx2 (by rw [← hd, ← e]; exact c), e, ih.1, ih.2]
      exact ⟨rfl, rfl⟩
    · rw [worT_no hx c, snT_no hx c, worT_no hx2 (by rw [← hd, ← e]; exact c), snT_no hx2 (by rw [← hd, ← e]; exact c), ih.1, ih.2]
      exact ⟨rfl, rfl⟩
theorem swo_same {s1 s2 : List Job} {σ : Int → Int} {o : List Int} (h : ∀ x, x ∈ o → jb s1 x = jb s2 (σ x)) : swo s1 o = swo s2 (o.map σ) := by
  have := (wsT_same h o.length (Nat.le_refl _)).1
  unfold swo wor; rw [this, List.length_map]
structure Ren (s1 s2 : List Job) (σ τ : Int → Int) : Prop where
  len : s1.length = s2.length
  a : ∀ x, within x 0 (s1.length - 1) → within (σ x) 0 (s1.length - 1) ∧ τ (σ x) = x ∧ jb s1 x = jb s2 (σ x)
  b : ∀ x, within x 0 (s1.length - 1) → within (τ x) 0 (s1.length - 1) ∧ σ (τ x) = x
theorem Ren.symm {s1 s2 : List Job} {σ τ : Int → Int} (h : Ren s1 s2 σ τ) : Ren s2 s1 τ σ where
  len := h.len.symm
  a := fun x hx => by
    rw [← h.len] at hx ⊢
    have := h.b x hx
    have e := (h.a (τ x) this.1).2.2
    rw [this.2] at e
    exact ⟨this.1, this.2, e.symm⟩
  b := fun x hx => by
    rw [← h.len] at hx ⊢
    have := h.a x hx
    exact ⟨this.1, this.2.1⟩
theorem Ren.ord {s1 s2 : List Job} {σ τ : Int → Int} (h : Ren s1 s2 σ τ) {o : List Int} (ho : isOrd s1.length o) : isOrd s2.length (o.map σ) := by
  refine isOrd_of (fun x hx => ?_) ?_
  · obtain ⟨y, hy, rfl⟩ := List.mem_map.1 hx
    rw [← h.len]
    exact (h.a y (ho.on y hy)).1
  · have nd := isOrd_nodup ho
    rw [List.nodup_iff_pairwise_ne, List.pairwise_map]
    rw [List.nodup_iff_pairwise_ne] at nd
    refine (List.Pairwise.and_mem.1 nd).imp fun {a b} ⟨ha, hb, hne⟩ e => hne ?_
    have q1 := (h.a a (ho.on a ha)).2.1
    have q2 := (h.a b (ho.on b hb)).2.1
    rw [← q1, ← q2, e]
theorem Ren.best_le {s1 s2 : List Job} {σ τ : Int → Int} (h : Ren s1 s2 σ τ) (hv1 : valid s1) (hv2 : valid s2) : bestM s1 ≤ bestM s2 :=
  bestM_le hv1 fun o ho => by
    rw [swo_same fun x hx => (h.a x (ho.on x hx)).2.2]
    exact le_bestM hv2 (h.ord ho)
theorem Ren.best {s1 s2 : List Job} {σ τ : Int → Int} (h : Ren s1 s2 σ τ) (hv1 : valid s1) (hv2 : valid s2) : bestM s1 = bestM s2 := by
  have := h.best_le hv1 hv2
  have := h.symm.best_le hv2 hv1
  omega
theorem Ren.least_le {s1 s2 : List Job} {σ τ : Int → Int} (h : Ren s1 s2 σ τ) : leastM s2 ≤ leastM s1 := by
  obtain ⟨h1, h2, h3, h4⟩ := quick_spec (s := s1)
  rw [← h3, done_same fun x hx => (h.a x (h1.on x hx)).2.2]
  exact Go.Proofs.Ytoadkchhimojlaa.W5.least_le (h.ord h1) (by rw [List.length_map, h2, h.len])
end Go.Proofs.Ytoadkchhimojlaa.W5

