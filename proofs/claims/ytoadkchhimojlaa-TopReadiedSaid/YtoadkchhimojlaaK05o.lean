/- Contracts of functions of the given program, without a condition beyond those that each theorem states; they lead to the given statement. -/
import Derived.Test.YtoadkchhimojlaaK05n
set_option linter.unusedSimpArgs false
set_option linter.unusedVariables false
set_option maxRecDepth 100000
namespace Go.Proofs.Ytoadkchhimojlaa.W5
open Go Go.Fl
open Classical
def lessL : List Int → List Int → Prop
  | [], [] => False
  | [], _ :: _ => True
  | _ :: _, [] => False
  | a :: u, b :: v => if a = b then lessL u v else a < b
theorem lessL_app : ∀ (p u v : List Int), lessL (p ++ u) (p ++ v) = lessL u v
  | [], u, v => rfl
  | a :: p, u, v => by simp only [List.cons_append, lessL, if_true, lessL_app p u v]
theorem lessL.irr : ∀ {a : List Int}, ¬ lessL a a
  | [] => fun h => h
  | x :: a => by simp only [lessL, if_true]; exact lessL.irr
theorem lessL.asym : ∀ {a b : List Int}, lessL a b → ¬ lessL b a
  | [], [], h => fun _ => h
  | [], _ :: _, _ => fun h => h
  | _ :: _, [], h => fun _ => h
  | x :: a, y :: b, h => by
    simp only [lessL] at h ⊢
    by_cases e : x = y
    · rw [if_pos e] at h; rw [if_pos e.symm]; exact lessL.asym h
    · rw [if_neg e] at h; rw [if_neg (fun q => e q.symm)]; omega
theorem isOrd_snoc {n : Nat} {l : List Int} {j : Nat} (h : isOrd n l) (hj : j < n) (hm : ¬ (j : Int) ∈ l) : isOrd n (l ++ [(j : Int)]) := by
  refine isOrd_of (fun x hx => ?_) ?_
  · rcases List.mem_append.1 hx with q | q
    · obtain ⟨i, hi⟩ := List.mem_iff_getElem?.1 q
      exact (h i x hi).1
    · simp at q; subst q; unfold within; omega
  · rw [List.nodup_append]
    exact ⟨isOrd_nodup h, by simp, fun a ha b hb => by simp at hb; subst hb; exact fun e => hm (e ▸ ha)⟩
theorem isOrd_nil {n : Nat} : isOrd n [] := fun i x h => by simp at h
theorem isOrd_within {n : Nat} {l : List Int} (h : isOrd n l) {x : Int} (hx : x ∈ l) : within x 0 (n - 1) := by
  obtain ⟨i, hi⟩ := List.mem_iff_getElem?.1 hx
  exact (h i x hi).1
theorem ordF_mem {n : Nat} : ∀ (d : Nat) (pre l : List Int), miss n pre ≤ d → isOrd n pre → (l ∈ ordF n d pre ↔ isOrd n l ∧ ∃ t, l = pre ++ t)
  | 0, pre, l, hm, hp => by
    simp only [ordF, List.mem_singleton]
    constructor
    · rintro rfl; exact ⟨hp, [], by simp⟩
    · rintro ⟨h1, t, rfl⟩
      cases t with
      | nil => simp
      | cons x t =>
        exfalso
        have hw := isOrd_within h1 (x := x) (by simp)
        unfold within at hw
        have := miss_zero n pre (by omega) x.toNat (by omega)
        rw [show ((x.toNat : Nat) : Int) = x from by omega] at this
        have nd := isOrd_nodup h1
        rw [List.nodup_append] at nd
        exact nd.2.2 x this x (by simp) rfl
  | d + 1, pre, l, hm, hp => by
    simp only [ordF, List.mem_cons, List.mem_flatMap, List.mem_range]
    constructor
    · rintro (rfl | ⟨j, hj, h⟩)
      · exact ⟨hp, [], by simp⟩
      · by_cases hmem : (j : Int) ∈ pre
        · rw [if_pos hmem] at h; cases h
        · rw [if_neg hmem] at h
          have := miss_lt n pre j hj hmem
          obtain ⟨h1, t, h2⟩ := (ordF_mem d (pre ++ [(j : Int)]) l (by omega) (isOrd_snoc hp hj hmem)).1 h
          exact ⟨h1, (j : Int) :: t, by rw [h2]; simp⟩
    · rintro ⟨h1, t, rfl⟩
      cases t with
      | nil => exact .inl (by simp)
      | cons x t =>
        right
        have hw := isOrd_within h1 (x := x) (by simp)
        unfold within at hw
        have nd := isOrd_nodup h1
        rw [List.nodup_append] at nd
        have hx : ((x.toNat : Nat) : Int) = x := by omega
        have hmem : ¬ ((x.toNat : Nat) : Int) ∈ pre := fun q => nd.2.2 x (hx ▸ q) x (by simp) rfl
        refine ⟨x.toNat, by omega, ?_⟩
        rw [if_neg hmem]
        have := miss_lt n pre x.toNat (by omega) hmem
        refine (ordF_mem d (pre ++ [((x.toNat : Nat) : Int)]) _ (by omega) (isOrd_snoc hp (by omega) hmem)).2 ⟨h1, t, by rw [hx]; simp⟩
theorem ordF_sorted {n : Nat} : ∀ (d : Nat) (pre : List Int), miss n pre ≤ d → isOrd n pre → (ordF n d pre).Pairwise lessL
  | 0, pre, _, _ => by simp [ordF]
  | d + 1, pre, hm, hp => by
    simp only [ordF]
    have key : ∀ j, j < n → ∀ l, l ∈ (if (j : Int) ∈ pre then [] else ordF n d (pre ++ [(j : Int)])) → ¬ (j : Int) ∈ pre ∧ ∃ t, l = pre ++ (j : Int) :: t := fun j hj l h => by
      by_cases hmem : (j : Int) ∈ pre
      · rw [if_pos hmem] at h; cases h
      · rw [if_neg hmem] at h
        have := miss_lt n pre j hj hmem
        obtain ⟨h1, t, h2⟩ := (ordF_mem d (pre ++ [(j : Int)]) l (by omega) (isOrd_snoc hp hj hmem)).1 h
        exact ⟨hmem, t, by rw [h2]; simp⟩
    rw [List.pairwise_cons]
    refine ⟨fun l hl => ?_, ?_⟩
    · obtain ⟨j, hj, h⟩ := List.mem_flatMap.1 hl
      obtain ⟨_, t, rfl⟩ := key j (List.mem_range.1 hj) l h
      have := lessL_app pre [] ((j : Int) :: t)
      rw [List.append_nil] at this
      rw [this]; trivial
    · rw [List.pairwise_flatMap]
      refine ⟨fun j hj => ?_, ?_⟩
      · by_cases hmem : (j : Int) ∈ pre
        · rw [if_pos hmem]; exact .nil
        · rw [if_neg hmem]
          have := miss_lt n pre j (List.mem_range.1 hj) hmem
          exact ordF_sorted d _ (by omega) (isOrd_snoc hp (List.mem_range.1 hj) hmem)
      · rw [List.pairwise_iff_getElem]
        intro i j hi hj hij x hx y hy
        simp only [List.getElem_range, List.length_range] at hi hj hx hy
        obtain ⟨_, t, rfl⟩ := key i hi x hx
        obtain ⟨_, u, rfl⟩ := key j hj y hy
        rw [lessL_app]
        simp only [lessL]
        rw [if_neg (by omega)]; omega
theorem ords_mem {s : List Job} {l : List Int} : l ∈ ords s ↔ isOrd s.length l := by
  unfold ords
  rw [ordF_mem _ _ _ (by rw [miss_nil]; omega) isOrd_nil]
  exact ⟨fun h => h.1, fun h => ⟨h, l, rfl⟩⟩
theorem ords_sorted {s : List Job} : (ords s).Pairwise lessL := ordF_sorted _ _ (by rw [miss_nil]; omega) isOrd_nil
theorem ords_ne {s : List Job} : ords s ≠ [] := fun h => by
  have : ([] : List Int) ∈ ords s := ords_mem.2 isOrd_nil
  rw [h] at this; cases this
theorem snoc_ind {α : Type} {P : List α → Prop} (h0 : P []) (h1 : ∀ L x, P L → P (L ++ [x])) : ∀ L, P L := fun L => by
  generalize hn : L.length = n
  induction n generalizing L with
  | zero => rw [List.eq_nil_of_length_eq_zero hn]; exact h0
  | succ n ih =>
    rcases List.eq_nil_or_concat L with e | ⟨A, y, e⟩
    · subst e; simp at hn
    · rw [List.concat_eq_append] at e
      subst e
      exact h1 A y (ih A (by simp at hn; exact hn))
theorem bst_spec {val : List Int → Int} : ∀ L : List (List Int), L ≠ [] → (∀ x, x ∈ L → 0 ≤ val x) → L.Pairwise lessL → (bstS val L).2 ∈ L ∧ val (bstS val L).2 = (bstS val L).1 ∧ ∀ x, x ∈ L → val x ≤ (bstS val L).1 ∧ (val x = (bstS val L).1 → ¬ lessL x (bstS val L).2) := by
  refine snoc_ind (fun h => absurd rfl h) fun L x ih _ h0 hp => ?_
  rw [bstS_app]
  rw [List.pairwise_append] at hp
  obtain ⟨hp1, _, hp2⟩ := hp
  by_cases hL : L = []
  · subst hL
    have : (bstS val []).1 < val x := by have := h0 x (by simp); rw [bstS_nil]; simp only; omega
    rw [if_pos this]
    refine ⟨by simp, rfl, fun y hy => ?_⟩
    simp at hy; subst hy
    exact ⟨Int.le_refl _, fun _ => lessL.irr⟩
  · obtain ⟨i1, i2, i3⟩ := ih hL (fun y hy => h0 y (by simp [hy])) hp1
    by_cases hc : (bstS val L).1 < val x
    · rw [if_pos hc]
      refine ⟨by simp, rfl, fun y hy => ?_⟩
      rcases List.mem_append.1 hy with q | q
      · have := (i3 y q).1
        exact ⟨by simp only; omega, fun e => by simp only at e; omega⟩
      · simp at q; subst q
        exact ⟨Int.le_refl _, fun _ => lessL.irr⟩
    · rw [if_neg hc]
      refine ⟨by simp [i1], i2, fun y hy => ?_⟩
      rcases List.mem_append.1 hy with q | q
      · exact i3 y q
      · simp at q; subst q
        exact ⟨by omega, fun _ => (hp2 _ i1 y (by simp)).asym⟩
theorem wor_nonneg {s : List Job} (hv : valid s) {dr : Int → Int} {o : List Int} (ho : onJ s o) : 0 ≤ wor s dr o ∧ wor s dr o ≤ 99 * o.length := worT_bounds hv ho o.length (Nat.le_refl _)
def bestO (s : List Job) : List Int := (bstS (swo s) (ords s)).2
theorem best_spec {s : List Job} (hv : valid s) : isOrd s.length (bestO s) ∧ swo s (bestO s) = bestM s ∧ ∀ o, isOrd s.length o → swo s o ≤ bestM s ∧ (swo s o = bestM s → ¬ lessL o (bestO s)) := by
  obtain ⟨h1, h2, h3⟩ := bst_spec (val := swo s) (ords s) ords_ne (fun x hx => (wor_nonneg hv (ords_mem.1 hx).on).1) ords_sorted
  exact ⟨ords_mem.1 h1, h2, fun o ho => h3 o (ords_mem.2 ho)⟩
theorem bestM_le {s : List Job} (hv : valid s) {k : Int} (h : ∀ o, isOrd s.length o → swo s o ≤ k) : bestM s ≤ k := by
  obtain ⟨h1, h2, _⟩ := best_spec hv
  rw [← h2]; exact h _ h1
theorem le_bestM {s : List Job} (hv : valid s) {o : List Int} (ho : isOrd s.length o) : swo s o ≤ bestM s := ((best_spec hv).2.2 o ho).1
end Go.Proofs.Ytoadkchhimojlaa.W5

