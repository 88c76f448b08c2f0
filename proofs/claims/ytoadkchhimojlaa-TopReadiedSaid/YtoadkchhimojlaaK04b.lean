/- Contracts of functions of the given program, without a condition beyond those that each theorem states; they lead to the given statement. -/
import Derived.Test.YtoadkchhimojlaaK04a
set_option linter.unusedSimpArgs false
set_option linter.unusedVariables false
set_option maxRecDepth 100000
namespace Go.Proofs.Ytoadkchhimojlaa
open Go Go.Fl
open Classical
theorem ren_mem {i j : Nat} {l : List Int} (h0 : ∀ b, b ∈ l → 0 ≤ b) : (j : Int) ∈ ren i l ↔ ((sk i j : Nat) : Int) ∈ l := by
  unfold ren
  rw [List.mem_filterMap]
  unfold rn sk
  constructor
  · rintro ⟨b, hb, h⟩
    have := h0 b hb
    split at h
    · cases h; rw [if_pos (by omega)]; exact hb
    · split at h
      · cases h
      · have h' := Option.some.inj h
        rw [if_neg (by omega)]
        have : ((j + 1 : Nat) : Int) = b := by omega
        rw [this]; exact hb
  · intro h
    refine ⟨_, h, ?_⟩
    by_cases hj : j < i
    · rw [if_pos hj, if_pos (by omega)]
    · rw [if_neg hj, if_neg (by omega), if_neg (by omega)]; congr 1; omega
theorem usd_ren {i : Nat} {p : List (List Int)} (h0 : ∀ l, l ∈ p → ∀ b, b ∈ l → 0 ≤ b) (j : Nat) : usd (p.map (ren i)) j = usd p (sk i j) := by
  rw [Bool.eq_iff_iff, usd_iff, usd_iff]
  constructor
  · rintro ⟨l, hl, hj⟩
    obtain ⟨l0, h1, rfl⟩ := List.mem_map.1 hl
    exact ⟨l0, h1, (ren_mem (h0 l0 h1)).1 hj⟩
  · rintro ⟨l, hl, hj⟩
    exact ⟨_, List.mem_map.2 ⟨l, hl, rfl⟩, (ren_mem (h0 l hl)).2 hj⟩
theorem ren_app (i : Nat) (a b : List Int) : ren i (a ++ b) = ren i a ++ ren i b := List.filterMap_append
theorem ren_addB {i m b : Nat} {p : List (List Int)} : (addB p m b).map (ren i) = (p.map (ren i)).set m (ren i (p.getD m []) ++ ren i [(b : Int)]) := by
  unfold addB; rw [List.map_set, ren_app]
theorem getD_map {i m : Nat} {p : List (List Int)} : (p.map (ren i)).getD m [] = ren i (p.getD m []) := by
  simp only [List.getD_eq_getElem?_getD, List.getElem?_map]
  cases p[m]? <;> rfl
theorem plans_ok {k : Nat} {stop : Int} {nb : Nat} : ∀ (f m : Nat) (p : List (List Int)), okQ k nb p → m ≤ k → ∀ q, q ∈ plansF k stop nb f m p → okQ k nb q
  | 0, _, _, _, _, q, hq => by simp [plansF] at hq
  | f + 1, m, p, hp, hm, q, hq => by
    rw [plansF] at hq
    split at hq
    · rw [List.mem_singleton] at hq; subst hq; exact hp
    · rename_i hmk
      rcases List.mem_append.1 hq with hq | hq
      · exact plans_ok f (m + 1) p hp (by omega) q hq
      · split at hq
        · simp at hq
        · obtain ⟨b, hb, hq⟩ := List.mem_flatMap.1 hq
          rw [List.mem_filter, List.mem_range] at hb
          exact plans_ok f m _ (hp.add (by omega) hb.1 (by simpa using hb.2)) hm q hq
theorem plans_self {k : Nat} {stop : Int} {nb : Nat} (p : List (List Int)) : ∀ (f m : Nat), m ≤ k → k - m < f → p ∈ plansF k stop nb f m p
  | 0, _, _, h => by omega
  | f + 1, m, hm, h => by
    rw [plansF]
    split
    · simp
    · exact List.mem_append.2 (.inl (plans_self p f (m + 1) (by omega) (by omega)))
theorem plans_ren {k : Nat} {stop : Int} {nb nb' i : Nat} (hnb : nb' = if i < nb then nb - 1 else nb) : ∀ (f f' m : Nat) (p : List (List Int)), okQ k nb p → m ≤ k → k - m + cnt (usd (p.map (ren i))) nb' < f' → ∀ q, q ∈ plansF k stop nb f m p → q.map (ren i) ∈ plansF k stop nb' f' m (p.map (ren i))
  | 0, _, _, _, _, _, _, q, hq => by simp [plansF] at hq
  | f + 1, 0, m, p, hp, hm, hf, q, hq => by omega
  | f + 1, f' + 1, m, p, hp, hm, hf, q, hq => by
    have h0 : ∀ l, l ∈ p → ∀ b, b ∈ l → 0 ≤ b := fun l hl b hb => (hp.rng l hl b hb).1
    rw [plansF] at hq
    split at hq
    · rename_i hmk
      rw [List.mem_singleton] at hq; subst hq
      rw [plansF, if_pos hmk]; simp
    · rename_i hmk
      rcases List.mem_append.1 hq with hq | hq
      · have := plans_ren hnb f f' (m + 1) p hp (by omega) (by omega) q hq
        rw [plansF, if_neg hmk]
        exact List.mem_append.2 (.inl this)
      · split at hq
        · simp at hq
        · rename_i hst
          obtain ⟨b, hb, hq⟩ := List.mem_flatMap.1 hq
          rw [List.mem_filter, List.mem_range] at hb
          have hbu : usd p b = false := by simpa using hb.2
          have hpa := hp.add (m := m) (by omega) hb.1 hbu
          by_cases hbi : b = i
          · have e1 : ren i [(b : Int)] = [] := by unfold ren rn; simp [hbi]
            have e2 : (addB p m b).map (ren i) = p.map (ren i) := by
              rw [ren_addB, e1, List.append_nil]
              apply List.ext_getElem?
              intro j
              by_cases hj : m = j
              · subst hj
                by_cases hml : m < p.length
                · rw [List.getElem?_set_self (by simpa using hml), List.getElem?_map]
                  simp [List.getElem?_eq_getElem hml]
                · rw [List.getElem?_eq_none (by simp; omega), List.getElem?_eq_none (by simp; omega)]
              · rw [List.getElem?_set_ne hj]
            have := plans_ren hnb f (f' + 1) m (addB p m b) hpa hm (by rw [e2]; exact hf) q hq
            rw [e2] at this; exact this
          · have e0 : ∃ b' : Nat, ren i [(b : Int)] = [(b' : Int)] ∧ sk i b' = b ∧ b' < nb' := by
              unfold ren sk
              by_cases hlt : b < i
              · exact ⟨b, by simp [rn, hlt], by rw [if_pos hlt], by rw [hnb]; split <;> omega⟩
              · refine ⟨b - 1, ?_, by rw [if_neg (by omega)]; omega, by rw [hnb]; split <;> omega⟩
                have : rn i (b : Int) = some ((b - 1 : Nat) : Int) := by
                  unfold rn; rw [if_neg (by omega), if_neg (by omega)]; congr 1; omega
                rw [List.filterMap_cons, this]; rfl
            obtain ⟨b', e1, e2, e3⟩ := e0
            have e4 : (addB p m b).map (ren i) = addB (p.map (ren i)) m b' := by
              rw [ren_addB, e1]; unfold addB; rw [getD_map]
            have hu : usd (p.map (ren i)) b' = false := by rw [usd_ren h0, e2]; exact hbu
            have hml : m < (p.map (ren i)).length := by rw [List.length_map, hp.len]; omega
            have hc := cnt_add hu (usd_add (b := b') hml) nb' e3
            have := plans_ren hnb f f' m (addB p m b) hpa hm (by rw [e4]; omega) q hq
            rw [plansF, if_neg hmk, if_neg hst]
            refine List.mem_append.2 (.inr (List.mem_flatMap.2 ⟨b', ?_, by rw [e4] at this; exact this⟩))
            rw [List.mem_filter, List.mem_range]
            exact ⟨e3, by simpa using hu⟩
theorem Sub.plans {i : Nat} {h' h : House} (s : Sub i h' h) {stop : Int} {q : List (List Int)} (hq : q ∈ plansG h stop) : q.map (ren i) ∈ plansG h' stop := by
  have e : ∀ k : Nat, (List.replicate k ([] : List Int)).map (ren i) = List.replicate k [] := fun k => by
    rw [List.map_replicate]; rfl
  have := plans_ren s.nb (h.ms.length + h.bs.length + 1) (h'.ms.length + h'.bs.length + 1) 0 (List.replicate h.ms.length []) (okQ_nil _ _) (Nat.zero_le _) (by have := cnt_le (usd ((List.replicate h.ms.length []).map (ren i))) h'.bs.length; have := s.len; omega) q hq
  rw [e] at this
  unfold plansG; rw [s.len]; rw [s.len] at this; exact this
theorem plansG_ok {h : House} {stop : Int} {q : List (List Int)} (hq : q ∈ plansG h stop) : ∀ l, l ∈ q → ∀ b, b ∈ l → 0 ≤ b ∧ b < h.bs.length := (plans_ok _ _ _ (okQ_nil _ _) (Nat.zero_le _) q hq).rng
theorem best_le {h : House} (hk : okG h) : ∀ (P : List (List (List Int))) (s : List (List Int) × Int), 0 ≤ s.2 → 0 ≤ (runC (bst h) s P).1.2 ∧ (runC (bst h) s P).1.2 ≤ s.2 ∧ (∀ q, q ∈ P → (runC (bst h) s P).1.2 ≤ lateN h q) ∧ ((runC (bst h) s P).1.2 = s.2 ∨ ∃ q, q ∈ P ∧ (runC (bst h) s P).1.2 = lateN h q)
  | [], s, h0 => ⟨h0, Int.le_refl _, by simp, .inl rfl⟩
  | p :: P, s, h0 => by
    have hl : 0 ≤ lateN h p := (lt_len hk _).1
    have hall : ∀ q, 0 ≤ lateN h q := fun q => (lt_len hk _).1
    rw [runC]
    by_cases hc : lateN h p < s.2
    · have e : bst h s p = ((p, lateN h p), decide (lateN h p ≠ 0)) := by unfold bst; rw [if_pos hc]
      rw [e]
      by_cases hz : lateN h p = 0
      · rw [if_neg (by simp [hz])]
        exact ⟨hl, Int.le_of_lt hc, fun q _ => by have := hall q; simp only; omega, .inr ⟨p, by simp, rfl⟩⟩
      · rw [if_pos (by simp [hz])]
        have ih := best_le hk P (p, lateN h p) hl
        refine ⟨ih.1, by have := ih.2.1; simp only at this ⊢; omega, fun q hq => ?_, ?_⟩
        · rcases List.mem_cons.1 hq with rfl | hq
          · exact ih.2.1
          · exact ih.2.2.1 q hq
        · rcases ih.2.2.2 with e | ⟨q, hq, e⟩
          · exact .inr ⟨p, by simp, e⟩
          · exact .inr ⟨q, by simp [hq], e⟩
    · have e : bst h s p = (s, decide (s.2 ≠ 0)) := by unfold bst; rw [if_neg hc]
      rw [e]
      by_cases hz : s.2 = 0
      · rw [if_neg (by simp [hz])]
        exact ⟨h0, Int.le_refl _, fun q _ => by have := hall q; simp only; omega, .inl rfl⟩
      · rw [if_pos (by simp [hz])]
        have ih := best_le hk P s h0
        refine ⟨ih.1, ih.2.1, fun q hq => ?_, ?_⟩
        · rcases List.mem_cons.1 hq with rfl | hq
          · have := ih.2.1; simp only at this ⊢; omega
          · exact ih.2.2.1 q hq
        · rcases ih.2.2.2 with e | ⟨q, hq, e⟩
          · exact .inl e
          · exact .inr ⟨q, by simp [hq], e⟩
theorem best_bd {h : House} (hk : okG h) (stop : Int) : 0 ≤ (bestG h stop).2 ∧ (bestG h stop).2 ≤ h.ts.length ∧ ∃ q, q ∈ plansG h stop ∧ (bestG h stop).2 = lateN h q := by
  have b := best_le hk (plansG h stop) ([], h.ts.length + 1) (show (0 : Int) ≤ h.ts.length + 1 by omega)
  have hm : List.replicate h.ms.length [] ∈ plansG h stop := plans_self _ _ _ (Nat.zero_le _) (by omega)
  have h1 := b.2.2.1 _ hm
  have h2 := (lt_len hk (rdy h (tim h (List.replicate h.ms.length [])))).2
  have h3 : (bestG h stop).2 ≤ h.ts.length := Int.le_trans h1 h2
  refine ⟨b.1, h3, ?_⟩
  rcases b.2.2.2 with e | e
  · exfalso
    have : (bestG h stop).2 = h.ts.length + 1 := e
    omega
  · exact e
theorem Sub.best {i : Nat} {h' h : House} (s : Sub i h' h) (hk : okG h) (hk' : okG h') (stop : Int) : (bestG h' stop).2 ≤ (bestG h stop).2 := by
  obtain ⟨_, _, q, hq, e⟩ := best_bd hk stop
  have h1 := (best_le hk' (plansG h' stop) ([], h'.ts.length + 1) (show (0 : Int) ≤ h'.ts.length + 1 by omega)).2.2.1 _ (s.plans hq)
  have h2 := s.late hk hk' (plansG_ok hq)
  rw [e]; exact Int.le_trans h1 h2
theorem runB {h : House} {but : Int} : ∀ P : List (List (List Int)), (runC (stB h but) () P).2 = false ↔ ∃ p, p ∈ P ∧ butN h but p = 0
  | [] => by simp [runC]
  | p :: P => by
    rw [runC]
    by_cases hz : butN h but p = 0
    · have : (stB h but () p).2 = false := by simp [stB, hz]
      rw [this]; simp [hz]
    · have : (stB h but () p).2 = true := by simp [stB, hz]
      rw [this, if_pos rfl, show (stB h but () p).1 = () from rfl, runB P]
      simp [hz]
theorem runS {h : House} {but : Int} : ∀ P : List Int, (runC (stC h but) () P).2 = true ↔ ∀ n, n ∈ P → canG h but n = true
  | [] => by simp [runC]
  | n :: P => by
    rw [runC]
    by_cases hz : canG h but n = true
    · have : (stC h but () n).2 = true := hz
      rw [this, if_pos rfl, show (stC h but () n).1 = () from rfl, runS P]
      simp [hz]
    · have : (stC h but () n).2 = false := by simpa [stC] using hz
      rw [this]; simp [hz]
theorem caseF_eq : ∀ (a b : List Mach) (i : Nat), a.length = b.length → (∀ (j : Nat) (m' m : Mach), a[j]? = some m' → b[j]? = some m → m'.stops = m.stops) → caseF a i = caseF b i
  | [], [], _, _, _ => rfl
  | [], _ :: _, _, h, _ => by simp at h
  | _ :: _, [], _, h, _ => by simp at h
  | x :: a, y :: b, i, h, hj => by
    rw [caseF, caseF, hj 0 x y rfl rfl, caseF_eq a b (i + 1) (by simpa using h) fun j m' m h1 h2 => hj (j + 1) m' m (by simpa using h1) (by simpa using h2)]
theorem Sub.sure {i : Nat} {h' h : House} (s : Sub i h' h) (hk : okG h) {but : Int} (hs : sureG h but = true) : sureG h' but = true := by
  unfold sureG at hs ⊢
  rw [runS] at hs ⊢
  intro n hn
  have : casesG h' = casesG h := by
    unfold casesG; rw [caseF_eq _ _ 0 s.len fun j m' m h1 h2 => (s.ms j m' m h1 h2).2.2.2]
  rw [this] at hn
  have h1 := hs n hn
  unfold canG at h1 ⊢
  simp only [Bool.not_eq_true'] at h1 ⊢
  rw [runB] at h1 ⊢
  obtain ⟨p, hp, hb⟩ := h1
  exact ⟨_, s.plans hp, s.but hk (plansG_ok hp) hb⟩
end Go.Proofs.Ytoadkchhimojlaa

