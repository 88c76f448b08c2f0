/- Contracts of functions of the given program, without a condition beyond those that each theorem states; they lead to the given statement. -/
import Derived.Test.YtjjlcjibhjmhmaaU05s
set_option linter.unusedSimpArgs false
set_option linter.unusedVariables false
set_option maxRecDepth 100000
namespace Go.Proofs.Ytjjlcjibhjmhmaa
open Go Go.Fl
open Classical
theorem sjT_bit {s : List Job} {o : List Int} (ho : ∀ x, x ∈ o → 0 ≤ x) {x : Int} (hx : 0 ≤ x) : ∀ k : Nat, k ≤ o.length → ((sjT s o k).testBit x.toNat = true ↔ ∃ i : Nat, i < k ∧ o[i]? = some x ∧ (fin s (hiD s) (o.take (i + 1))).2 ≤ (jb s x).due)
  | 0, _ => by simp [sjT]
  | k + 1, hk => by
    have ih := sjT_bit (s := s) ho hx k (by omega)
    obtain ⟨y, hy⟩ := get_of (l := o) (j := k) (by omega)
    have hy0 := ho y (List.mem_of_getElem? hy)
    by_cases c : (fin s (hiD s) (o.take (k + 1))).2 ≤ (jb s y).due
    · rw [sjT_yes hy c, Nat.testBit_or, Bool.or_eq_true, ih, Nat.testBit_two_pow]
      simp only [decide_eq_true_eq]
      constructor
      · rintro (⟨i, h1, h2⟩ | h)
        · exact ⟨i, by omega, h2⟩
        · have : y = x := by omega
          subst this
          exact ⟨k, by omega, hy, c⟩
      · rintro ⟨i, h1, h2, h3⟩
        rcases Nat.lt_or_ge i k with q | q
        · exact .inl ⟨i, q, h2, h3⟩
        · have : i = k := by omega
          subst this
          rw [hy] at h2; cases h2; exact .inr rfl
    · rw [sjT_no hy c, ih]
      constructor
      · rintro ⟨i, h1, h2⟩; exact ⟨i, by omega, h2⟩
      · rintro ⟨i, h1, h2, h3⟩
        rcases Nat.lt_or_ge i k with q | q
        · exact ⟨i, q, h2, h3⟩
        · have : i = k := by omega
          subst this
          rw [hy] at h2; cases h2; exact absurd h3 c
theorem bit_test {s : List Job} {x : Int} {o : List Int} : bit s x o ↔ (sjT s o o.length).testBit x.toNat = true := by
  unfold bit
  rw [Nat.and_one_is_mod, Nat.testBit_eq_decide_div_mod_eq, decide_eq_true_eq]
theorem pre_ord {n : Nat} {o : List Int} (ho : isOrd n o) {i : Nat} {x : Int} (h : o[i]? = some x) : preT o x = o.take (i + 1) := preT_at h fun k hk => (ho i x h).2 k hk
theorem bit_iff {s : List Job} {x : Int} {o : List Int} (ho : isOrd s.length o) (hx : 0 ≤ x) : bit s x o ↔ x ∈ o ∧ hiA s o x ≤ (jb s x).due := by
  rw [bit_test, sjT_bit (fun y hy => by have := ho.on y hy; unfold within at this; omega) hx o.length (Nat.le_refl _)]
  unfold hiA
  constructor
  · rintro ⟨i, h1, h2, h3⟩
    exact ⟨List.mem_of_getElem? h2, by rw [pre_ord ho h2]; exact h3⟩
  · rintro ⟨h1, h2⟩
    obtain ⟨i, hi⟩ := List.mem_iff_getElem?.1 h1
    rw [pre_ord ho hi] at h2
    exact ⟨i, (List.getElem?_eq_some_iff.1 hi).1, hi, h2⟩
theorem inT_one {s : List Job} (hv : valid s) {x : Int} {o : List Int} (ho : isOrd s.length o) : inT s o x = 1 ↔ x ∈ o ∧ hiA s o x ≤ (jb s x).due := by
  unfold inT
  by_cases hx : x ∈ o
  · have hlh : loA s o x ≤ hiA s o x := lo_le_hi hv fun y hy => ho.on y (List.mem_of_mem_take hy)
    rw [if_pos hx]
    constructor
    · intro h
      refine ⟨hx, ?_⟩
      split at h
      · omega
      · split at h
        · assumption
        · omega
    · rintro ⟨_, h⟩
      rw [if_neg (by omega), if_pos h]
  · rw [if_neg hx]
    exact ⟨fun h => by omega, fun h => absurd h.1 hx⟩
theorem bit_inT {s : List Job} (hv : valid s) {x : Int} {o : List Int} (ho : isOrd s.length o) (hx : 0 ≤ x) : bit s x o ↔ inT s o x = 1 := (bit_iff ho hx).trans (inT_one hv ho).symm
theorem must_spec {s : List Job} {x : Int} : mustV s x = if ∀ o, isOrd s.length o → ¬ swo s o < bestM s → bit s x o then 1 else if ∀ o, isOrd s.length o → ¬ swo s o < bestM s → ¬ bit s x o then 2 else 3 := by
  unfold mustV
  have e1 : (cP (qNo s x) (ords s) = 0) = (∀ o, isOrd s.length o → ¬ swo s o < bestM s → bit s x o) := by
    rw [cP_zero]
    refine propext ⟨fun h o ho hb => ?_, fun h o ho hq => hq.2 (h o (ords_mem.1 ho) hq.1)⟩
    rcases Classical.em (bit s x o) with q | q
    · exact q
    · exact absurd ⟨hb, q⟩ (h o (ords_mem.2 ho))
  have e2 : (cP (qSo s x) (ords s) = 0) = (∀ o, isOrd s.length o → ¬ swo s o < bestM s → ¬ bit s x o) := by
    rw [cP_zero]
    exact propext ⟨fun h o ho hb q => h o (ords_mem.2 ho) ⟨hb, q⟩, fun h o ho hq => h o (ords_mem.1 ho) hq.1 hq.2⟩
  simp only [e1, e2]
theorem fold_same {s1 s2 : List Job} {σ : Int → Int} : ∀ (l : List Int) (m : Int × Int), (∀ x, x ∈ l → jb s1 x = jb s2 (σ x)) → l.foldl (stp s1 (hiD s1)) m = (l.map σ).foldl (stp s2 (hiD s2)) m
  | [], m, _ => rfl
  | x :: l, m, h => by
    have hx := h x (by simp)
    simp only [List.foldl_cons, List.map_cons]
    rw [fold_same l _ fun y hy => h y (by simp [hy])]
    simp only [stp, hiD, hx]
theorem done_same {s1 s2 : List Job} {σ : Int → Int} {l : List Int} (h : ∀ x, x ∈ l → jb s1 x = jb s2 (σ x)) : done s1 l = done s2 (l.map σ) := by unfold done fin; rw [fold_same l _ h]
structure Ren (s1 s2 : List Job) (σ τ : Int → Int) : Prop where
  len : s1.length = s2.length
  a : ∀ x, within x 0 (s1.length - 1) → within (σ x) 0 (s1.length - 1) ∧ τ (σ x) = x ∧ jb s1 x = jb s2 (σ x)
  b : ∀ x, within x 0 (s1.length - 1) → within (τ x) 0 (s1.length - 1) ∧ σ (τ x) = x
theorem Ren.symm {s1 s2 : List Job} {σ τ : Int → Int} (h : Ren s1 s2 σ τ) : Ren s2 s1 τ σ where
  len := h.len.symm
  a := fun x hx => by
    rw [← h.len] at hx ⊢
    have := h.b x hx
    have e := (h.a (τ x) this.1).2.2
    rw [this.2] at e
    exact ⟨this.1, this.2, e.symm⟩
  b := fun x hx => by
    rw [← h.len] at hx ⊢
    have := h.a x hx
    exact ⟨this.1, this.2.1⟩
theorem Ren.ord {s1 s2 : List Job} {σ τ : Int → Int} (h : Ren s1 s2 σ τ) {o : List Int} (ho : isOrd s1.length o) : isOrd s2.length (o.map σ) := by
  refine isOrd_of (fun x hx => ?_) ?_
  · obtain ⟨y, hy, rfl⟩ := List.mem_map.1 hx
    rw [← h.len]
    exact (h.a y (ho.on y hy)).1
  · have nd := isOrd_nodup ho
    rw [List.nodup_iff_pairwise_ne, List.pairwise_map]
    rw [List.nodup_iff_pairwise_ne] at nd
    refine (List.Pairwise.and_mem.1 nd).imp fun {a b} ⟨ha, hb, hne⟩ e => hne ?_
    have q1 := (h.a a (ho.on a ha)).2.1
    have q2 := (h.a b (ho.on b hb)).2.1
    rw [← q1, ← q2, e]
theorem Ren.bit {s1 s2 : List Job} {σ τ : Int → Int} (h : Ren s1 s2 σ τ) {x : Int} (hx : within x 0 (s1.length - 1)) {o : List Int} (ho : isOrd s1.length o) (hb : bit s1 x o) : Go.Proofs.Ytjjlcjibhjmhmaa.bit s2 (σ x) (o.map σ) := by
  have hx0 : 0 ≤ x := hx.1
  have hσ := h.a x hx
  rw [bit_iff ho hx0] at hb
  rw [bit_iff (h.ord ho) hσ.1.1]
  obtain ⟨h1, h2⟩ := hb
  refine ⟨List.mem_map.2 ⟨x, h1, rfl⟩, ?_⟩
  obtain ⟨i, hi⟩ := List.mem_iff_getElem?.1 h1
  have hi2 : (o.map σ)[i]? = some (σ x) := by rw [List.getElem?_map, hi]; rfl
  unfold hiA at h2 ⊢
  rw [pre_ord ho hi] at h2
  rw [pre_ord (h.ord ho) hi2, ← hσ.2.2, ← List.map_take]
  have e : done s1 (o.take (i + 1)) = done s2 ((o.take (i + 1)).map σ) := done_same fun y hy => (h.a y (ho.on y (List.mem_of_mem_take hy))).2.2
  unfold done at e
  rw [← e]; exact h2
end Go.Proofs.Ytjjlcjibhjmhmaa

