/- Contracts of functions of the given program, without a condition beyond those that each theorem states; they lead to the given statement. -/
import Derived.Test.YtoadkchhimojlaaK05m
set_option linter.unusedSimpArgs false
set_option linter.unusedVariables false
set_option maxRecDepth 100000
namespace Go.Proofs.Ytoadkchhimojlaa.W5
open Go Go.Fl
open Classical
def ltJ (s : List Job) (a b : Int) : Prop := pl1 s a < pl1 s b ∨ pl1 s a = pl1 s b ∧ (pl2 s a < pl2 s b ∨ pl2 s a = pl2 s b ∧ a < b)
theorem ltJ.trans {s : List Job} {a b c : Int} (h : ltJ s a b) (k : ltJ s b c) : ltJ s a c := by unfold ltJ at *; omega
theorem ltJ.irr {s : List Job} {a : Int} (h : ltJ s a a) : False := by unfold ltJ at h; omega
theorem ltJ_of_cmp {s : List Job} {a b : Int} (h : cmpV s a b < 0) : ltJ s a b := by
  unfold cmpV at h; unfold ltJ
  split at h <;> omega
theorem ltJ_of_ncmp {s : List Job} {a b : Int} (h : ¬ cmpV s a b < 0) (h2 : b < a) : ltJ s b a := by
  unfold cmpV at h; unfold ltJ
  split at h <;> omega
theorem cmp_of_ltJ {s : List Job} {a b : Int} (h : ltJ s a b) : cmpV s a b ≤ 0 := by
  unfold ltJ at h; unfold cmpV
  split <;> omega
theorem innr_spec {s : List Job} {x : Int} : ∀ (A B : List Int), A.Pairwise (ltJ s) → (∀ a, a ∈ A → a < x) → ∃ A', innr s A.length (A ++ x :: B) = A' ++ B ∧ A'.Perm (A ++ [x]) ∧ A'.Pairwise (ltJ s) := by
  intro A
  generalize hn : A.length = n
  induction n generalizing A with
  | zero =>
    intro B h1 h2
    have : A = [] := List.eq_nil_of_length_eq_zero hn
    subst this
    exact ⟨[x], rfl, List.Perm.refl _, by simp⟩
  | succ n ih =>
    intro B h1 h2
    obtain ⟨A0, y, rfl⟩ : ∃ A0 y, A = A0 ++ [y] := by
      rcases List.eq_nil_or_concat A with e | ⟨A0, y, e⟩
      · subst e; simp at hn
      · exact ⟨A0, y, by rw [e, List.concat_eq_append]⟩
    have hA0 : A0.length = n := by simp at hn; exact hn
    rw [List.pairwise_append] at h1
    obtain ⟨p1, _, p3⟩ := h1
    have g1 : gv (A0 ++ [y] ++ x :: B) ((n + 1 : Nat) : Int) = x := gv_nat (by rw [List.getElem?_append_right (by simp; omega)]; simp [hA0])
    have g2 : gv (A0 ++ [y] ++ x :: B) (n : Int) = y := gv_nat (by rw [List.append_assoc, List.getElem?_append_right (by omega)]; simp [hA0])
    simp only [innr, g1, g2]
    by_cases hc : cmpV s x y < 0
    · rw [if_pos hc]
      have hsw : sw (A0 ++ [y] ++ x :: B) (n + 1) = A0 ++ x :: (y :: B) := by
        simp only [sw, g1, Nat.add_sub_cancel, g2]
        rw [List.append_assoc, List.set_append_right _ _ (by omega), List.set_append_right _ _ (by omega)]
        simp [hA0]
      rw [hsw]
      obtain ⟨A', e1, e2, e3⟩ := ih A0 hA0 (y :: B) p1 fun a ha => h2 a (by simp [ha])
      refine ⟨A' ++ [y], by rw [e1]; simp, ?_, ?_⟩
      · have q1 : (A' ++ [y]).Perm (A0 ++ [x] ++ [y]) := e2.append_right _
        refine q1.trans ?_
        rw [List.append_assoc, List.append_assoc]
        exact List.Perm.append_left _ (List.Perm.swap _ _ _)
      · rw [List.pairwise_append]
        refine ⟨e3, by simp, fun a ha b hb => ?_⟩
        simp at hb; subst hb
        rcases List.mem_append.1 (e2.mem_iff.1 ha) with q | q
        · exact p3 a q b (by simp)
        · simp at q; subst q; exact ltJ_of_cmp hc
    · rw [if_neg hc]
      refine ⟨A0 ++ [y] ++ [x], by simp, List.Perm.refl _, ?_⟩
      have hyx : ltJ s y x := ltJ_of_ncmp hc (h2 y (by simp))
      rw [List.pairwise_append]
      refine ⟨?_, by simp, fun a ha b hb => ?_⟩
      · rw [List.pairwise_append]; exact ⟨p1, by simp, p3⟩
      · simp at hb; subst hb
        rcases List.mem_append.1 ha with q | q
        · exact (p3 a q y (by simp)).trans hyx
        · simp at q; subst q; exact hyx
theorem upI_get {n i : Nat} (h : i < n) : (upI n)[i]? = some (i : Int) := by simp [upI, h]
theorem upI_split {n k : Nat} (h : k < n) : ∃ B, upI n = upI k ++ (k : Int) :: B ∧ B.length = n - (k + 1) := by
  refine ⟨(upI n).drop (k + 1), ?_, by simp [upI]⟩
  have e1 : upI k = (upI n).take k := by
    apply List.ext_getElem?
    intro i
    rw [List.getElem?_take]
    split
    · rename_i hi; rw [upI_get hi, upI_get (by omega)]
    · rename_i hi; rw [List.getElem?_eq_none (by rw [upI_len]; omega)]
  have h2 : k < (upI n).length := by rw [upI_len]; exact h
  have e2 : (upI n)[k] = (k : Int) := by
    have := upI_get h
    rw [List.getElem?_eq_getElem h2] at this
    exact Option.some.inj this
  rw [e1]
  conv => lhs; rw [← List.take_append_drop k (upI n)]
  rw [List.drop_eq_getElem_cons h2, e2]
theorem upI_mem {n : Nat} {x : Int} : x ∈ upI n ↔ 0 ≤ x ∧ x < n := by
  unfold upI
  rw [List.mem_map]
  constructor
  · rintro ⟨i, hi, rfl⟩; have := List.mem_range.1 hi; omega
  · rintro ⟨h1, h2⟩; exact ⟨x.toNat, List.mem_range.2 (by omega), by omega⟩
theorem outT_spec {s : List Job} {n : Nat} : ∀ k, k < n → ∃ A B, outT s (upI n) k = A ++ B ∧ upI n = upI (k + 1) ++ B ∧ A.Perm (upI (k + 1)) ∧ A.Pairwise (ltJ s)
  | 0, h => by
    obtain ⟨B, h1, _⟩ := upI_split h
    exact ⟨[0], B, by simp only [outT]; rw [h1]; rfl, by rw [h1]; simp [upI], by simp [upI], by simp⟩
  | k + 1, h => by
    obtain ⟨A, B, h1, h2, h3, h4⟩ := outT_spec (s := s) k (by omega : k < n)
    obtain ⟨B', h5, _⟩ := upI_split h
    have hB : B = ((k + 1 : Nat) : Int) :: B' := List.append_cancel_left (h2.symm.trans h5)
    subst hB
    have hl : A.length = k + 1 := by rw [h3.length_eq, upI_len]
    obtain ⟨A', e1, e2, e3⟩ := innr_spec (s := s) (x := ((k + 1 : Nat) : Int)) A B' h4 fun a ha => by
      have := upI_mem.1 (h3.mem_iff.1 ha); omega
    refine ⟨A', B', ?_, ?_, ?_, e3⟩
    · simp only [outT]
      rw [hl] at e1
      rw [h1, e1]
    · rw [h2, upI_succ (n := k + 1), List.append_assoc]; rfl
    · rw [upI_succ (n := k + 1)]
      exact e2.trans (h3.append_right _)
theorem rule_perm {s : List Job} : (ruleV s).Perm (upI s.length) ∧ (ruleV s).Pairwise (ltJ s) := by
  unfold ruleV
  rcases Nat.eq_zero_or_pos s.length with h | h
  · rw [h]; exact ⟨List.Perm.refl _, by simp [upI, outT]⟩
  · obtain ⟨A, B, h1, h2, h3, h4⟩ := outT_spec (s := s) (n := s.length) (s.length - 1) (by omega)
    rw [show s.length - 1 + 1 = s.length from by omega] at h2 h3
    have hB : B = [] := by
      have := congrArg List.length h2
      rw [List.length_append, upI_len] at this
      exact List.eq_nil_of_length_eq_zero (by omega)
    subst hB
    rw [h1, List.append_nil]
    exact ⟨h3, h4⟩
theorem stp_swap {s : List Job} (hv : valid s) {a b : Int} (ha : within a 0 (s.length - 1)) (hb : within b 0 (s.length - 1)) (h : cmpV s a b ≤ 0) (m : Int × Int) : (stp s (hiD s) (stp s (hiD s) m a) b).1 = (stp s (hiD s) (stp s (hiD s) m b) a).1 ∧ (stp s (hiD s) (stp s (hiD s) m a) b).2 ≤ (stp s (hiD s) (stp s (hiD s) m b) a).2 := by
  have j1 := hv.jb ha
  have j2 := hv.jb hb
  unfold okJob within at j1 j2
  unfold cmpV pl1 pl2 at h
  simp only [stp, hiD]
  by_cases c1 : (jb s a).beat ≤ (jb s a).pour <;> by_cases c2 : (jb s b).beat ≤ (jb s b).pour <;> simp only [c1, c2, if_true, if_false] at h <;> refine ⟨by omega, ?_⟩ <;> (split at h <;> omega)
theorem fold_le {s : List Job} {d : Int → Int} : ∀ (l : List Int) (m1 m2 : Int × Int), m1.1 ≤ m2.1 → m1.2 ≤ m2.2 → (l.foldl (stp s d) m1).1 ≤ (l.foldl (stp s d) m2).1 ∧ (l.foldl (stp s d) m1).2 ≤ (l.foldl (stp s d) m2).2
  | [], m1, m2, h1, h2 => ⟨h1, h2⟩
  | x :: l, m1, m2, h1, h2 => fold_le l _ _ (by simp only [stp]; omega) (by simp only [stp]; omega)
theorem front {s : List Job} (hv : valid s) {x : Int} (hx : within x 0 (s.length - 1)) : ∀ (A : List Int) (m : Int × Int), onJ s A → (∀ a, a ∈ A → cmpV s x a ≤ 0) → ((x :: A).foldl (stp s (hiD s)) m).1 ≤ ((A ++ [x]).foldl (stp s (hiD s)) m).1 ∧ ((x :: A).foldl (stp s (hiD s)) m).2 ≤ ((A ++ [x]).foldl (stp s (hiD s)) m).2
  | [], m, _, _ => ⟨Int.le_refl _, Int.le_refl _⟩
  | a :: A, m, h1, h2 => by
    have ih := front hv hx A (stp s (hiD s) m a) (fun y hy => h1 y (by simp [hy])) fun y hy => h2 y (by simp [hy])
    have sp := stp_swap hv hx (h1 a (by simp)) (h2 a (by simp)) m
    have f := fold_le (s := s) (d := hiD s) A (stp s (hiD s) (stp s (hiD s) m x) a) (stp s (hiD s) (stp s (hiD s) m a) x) (by omega) sp.2
    simp only [List.cons_append, List.foldl_cons] at ih ⊢
    omega
theorem sorted_least {s : List Job} (hv : valid s) : ∀ (R l : List Int) (m : Int × Int), R.Perm l → onJ s R → R.Pairwise (ltJ s) → (R.foldl (stp s (hiD s)) m).1 ≤ (l.foldl (stp s (hiD s)) m).1 ∧ (R.foldl (stp s (hiD s)) m).2 ≤ (l.foldl (stp s (hiD s)) m).2
  | [], l, m, hp, _, _ => by
    rw [List.nil_perm.1 hp]; exact ⟨Int.le_refl _, Int.le_refl _⟩
  | x :: R, l, m, hp, ho, hs => by
    obtain ⟨A, B, rfl⟩ := List.append_of_mem (hp.mem_iff.1 (by simp : x ∈ x :: R))
    have hp2 : R.Perm (A ++ B) := by
      have : (x :: R).Perm (x :: (A ++ B)) := hp.trans List.perm_middle
      exact this.cons_inv
    rw [List.pairwise_cons] at hs
    have ih := sorted_least hv R (A ++ B) (stp s (hiD s) m x) hp2 (fun y hy => ho y (by simp [hy])) hs.2
    have hA : ∀ a, a ∈ A → a ∈ R := fun a ha => hp2.mem_iff.2 (by simp [ha])
    have f := front hv (ho x (by simp)) A m (fun y hy => ho y (by simp [hA y hy])) fun a ha => cmp_of_ltJ (hs.1 a (hA a ha))
    have g := fold_le (s := s) (d := hiD s) B _ _ f.1 f.2
    simp only [List.foldl_append, List.foldl_cons, List.foldl_nil] at ih g ⊢
    omega
theorem isOrd_nodup {n : Nat} {l : List Int} (h : isOrd n l) : l.Nodup := by
  rw [List.nodup_iff_pairwise_ne, List.pairwise_iff_getElem]
  intro i j hi hj hij e
  have := (h j _ (List.getElem?_eq_getElem hj)).2 i hij
  rw [List.getElem?_eq_getElem hi, e] at this
  exact this rfl
theorem isOrd_of {n : Nat} {l : List Int} (h1 : ∀ x, x ∈ l → within x 0 (n - 1)) (h2 : l.Nodup) : isOrd n l := by
  intro i x hx
  refine ⟨h1 x (List.mem_of_getElem? hx), fun k hk e => ?_⟩
  rw [List.nodup_iff_pairwise_ne, List.pairwise_iff_getElem] at h2
  have hi := (List.getElem?_eq_some_iff.1 hx)
  have hj := (List.getElem?_eq_some_iff.1 e)
  obtain ⟨hi, e1⟩ := hi
  obtain ⟨hj, e2⟩ := hj
  exact h2 k i hj hi hk (by rw [e1, e2])
theorem upI_nodup (n : Nat) : (upI n).Nodup := by
  induction n with
  | zero => simp [upI]
  | succ n ih =>
    rw [upI_succ, List.nodup_append]
    refine ⟨ih, by simp, fun a ha b hb => ?_⟩
    have := upI_mem.1 ha
    simp at hb; omega
theorem sub_len : ∀ (l m : List Int), l.Nodup → (∀ x, x ∈ l → x ∈ m) → l.length ≤ m.length ∧ (m.length ≤ l.length → l.Perm m)
  | [], m, _, _ => ⟨by simp, fun h => by
    have : m = [] := List.eq_nil_of_length_eq_zero (by simp at h; simp [h])
    subst this; exact List.Perm.refl _⟩
  | x :: l, m, h1, h2 => by
    obtain ⟨A, B, rfl⟩ := List.append_of_mem (h2 x (by simp))
    rw [List.nodup_cons] at h1
    have ih := sub_len l (A ++ B) h1.2 fun y hy => by
      have q := h2 y (by simp [hy])
      simp only [List.mem_append, List.mem_cons] at q ⊢
      rcases q with q | q | q
      · exact .inl q
      · exact absurd (q ▸ hy) h1.1
      · exact .inr q
    simp only [List.length_append, List.length_cons] at ih ⊢
    exact ⟨by omega, fun h => ((ih.2 (by omega)).cons x).trans List.perm_middle.symm⟩
theorem isOrd_le {n : Nat} {l : List Int} (h : isOrd n l) : l.length ≤ n := by
  have := (sub_len l (upI n) (isOrd_nodup h) fun x hx => by
    obtain ⟨i, hi⟩ := List.mem_iff_getElem?.1 hx
    have := (h i x hi).1
    unfold within at this
    exact upI_mem.2 (by omega)).1
  rw [upI_len] at this; exact this
theorem isOrd_perm {n : Nat} {l : List Int} (h : isOrd n l) (hl : l.length = n) : l.Perm (upI n) := by
  exact (sub_len l (upI n) (isOrd_nodup h) fun x hx => by
    obtain ⟨i, hi⟩ := List.mem_iff_getElem?.1 hx
    have := (h i x hi).1
    unfold within at this
    exact upI_mem.2 (by omega)).2 (by rw [upI_len]; omega)
theorem isOrd_of_perm {n : Nat} {l : List Int} (h : l.Perm (upI n)) : isOrd n l :=
  isOrd_of (fun x hx => by have := upI_mem.1 (h.mem_iff.1 hx); unfold within; omega) (h.nodup_iff.2 (upI_nodup n))
theorem rule_ord {s : List Job} : isOrd s.length (ruleV s) ∧ (ruleV s).length = s.length := ⟨isOrd_of_perm rule_perm.1, by rw [rule_perm.1.length_eq, upI_len]⟩
def done (s : List Job) (o : List Int) : Int := (fin s (hiD s) o).2
theorem rule_least {s : List Job} (hv : valid s) {o : List Int} (h : isOrd s.length o) (hl : o.length = s.length) : done s (ruleV s) ≤ done s o :=
  (sorted_least hv (ruleV s) o (0, 0) (rule_perm.1.trans (isOrd_perm h hl).symm) rule_ord.1.on rule_perm.2).2
end Go.Proofs.Ytoadkchhimojlaa.W5

