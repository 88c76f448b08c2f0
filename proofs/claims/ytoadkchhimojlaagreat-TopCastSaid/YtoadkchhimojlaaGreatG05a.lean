/- Contracts of functions of the given program, without a condition beyond those that each theorem states; they lead to the given statement. -/
import Derived.Test.YtoadkchhimojlaaGreatG04i
set_option linter.unusedSimpArgs false
set_option linter.unusedVariables false
set_option maxRecDepth 100000
namespace Go.Proofs.YtoadkchhimojlaaGreat
open Go Go.Fl
open Classical
theorem cmp1_anti (a b : Int) : cmp1 b a = - cmp1 a b := by unfold cmp1; split <;> split <;> first | rfl | omega | (split <;> first | rfl | omega)
theorem cmpI_anti : ∀ a b : List Int, cmpI b a = - cmpI a b
  | [], [] => rfl
  | [], _ :: _ => rfl
  | _ :: _, [] => rfl
  | a :: l, b :: r => by
    have ih := cmpI_anti l r
    have h1 := cmp1_anti a b
    simp only [cmpI, h1]
    split <;> split <;> first | exact ih | rfl | omega
theorem cmpI_eq : ∀ {a b : List Int}, cmpI a b = 0 → a = b
  | [], [], _ => rfl
  | [], _ :: _, h => by simp [cmpI] at h
  | _ :: _, [], h => by simp [cmpI] at h
  | a :: l, b :: r, h => by
    simp only [cmpI] at h
    split at h
    · rename_i h1
      have h2 := cmpI_eq h
      have h3 : a = b := by unfold cmp1 at h1; split at h1 <;> (try split at h1) <;> omega
      rw [h2, h3]
    · contradiction
theorem cmpI_trans : ∀ {a b c : List Int}, cmpI a b < 0 → cmpI b c < 0 → cmpI a c < 0
  | [], [], _, h, _ => by simp [cmpI] at h
  | [], _ :: _, [], _, h => by simp [cmpI] at h
  | [], _ :: _, _ :: _, _, _ => by simp [cmpI]
  | _ :: _, [], _, h, _ => by simp [cmpI] at h
  | _ :: _, _ :: _, [], _, h => by simp [cmpI] at h
  | a :: l, b :: r, c :: t, h1, h2 => by
    simp only [cmpI] at h1 h2 ⊢
    by_cases e1 : cmp1 a b = 0 <;> by_cases e2 : cmp1 b c = 0
    · rw [if_pos e1] at h1; rw [if_pos e2] at h2
      have : cmp1 a c = 0 := by unfold cmp1 at *; split at e1 <;> split at e2 <;> (try split at e1) <;> (try split at e2) <;> (try split) <;> first | omega | (split <;> omega)
      rw [if_pos this]; exact cmpI_trans h1 h2
    · rw [if_neg e2] at h2
      have h3 : cmp1 a c < 0 := by unfold cmp1 at *; split at e1 <;> split at h2 <;> (try split at e1) <;> (try split at h2) <;> (try split) <;> first | omega | (split <;> omega)
      rw [if_neg (by omega)]; exact h3
    · rw [if_neg e1] at h1
      have h3 : cmp1 a c < 0 := by unfold cmp1 at *; split at h1 <;> split at e2 <;> (try split at h1) <;> (try split at e2) <;> (try split) <;> first | omega | (split <;> omega)
      rw [if_neg (by omega)]; exact h3
    · rw [if_neg e1] at h1; rw [if_neg e2] at h2
      have h3 : cmp1 a c < 0 := by unfold cmp1 at *; split at h1 <;> split at h2 <;> (try split at h1) <;> (try split at h2) <;> (try split) <;> first | omega | (split <;> omega)
      rw [if_neg (by omega)]; exact h3
theorem cmpI_app : ∀ {a b c d : List Int}, a.length = b.length → cmpI (a ++ c) (b ++ d) = if cmpI a b ≠ 0 then cmpI a b else cmpI c d
  | [], [], c, d, _ => by simp [cmpI]
  | [], _ :: _, _, _, h => by simp at h
  | _ :: _, [], _, _, h => by simp at h
  | a :: l, b :: r, c, d, h => by
    have ih := cmpI_app (a := l) (b := r) (c := c) (d := d) (by simpa using h)
    simp only [List.cons_append, cmpI]
    split
    · exact ih
    · rename_i h1; simp [h1]
theorem befS_cmp {s t : List Int} (hs : s.length = 12) (ht : t.length = 12) : befS s t 0 4 = cmpI t s := by
  obtain ⟨a0, a1, a2, a3, a4, a5, a6, a7, a8, a9, a10, a11, rfl⟩ := shelf12 hs
  obtain ⟨b0, b1, b2, b3, b4, b5, b6, b7, b8, b9, b10, b11, rfl⟩ := shelf12 ht
  have e1 := cmpI_app (a := [b0, b1, b2]) (b := [a0, a1, a2]) (c := [b3, b4, b5, b6, b7, b8, b9, b10, b11]) (d := [a3, a4, a5, a6, a7, a8, a9, a10, a11]) rfl
  have e2 := cmpI_app (a := [b3, b4, b5]) (b := [a3, a4, a5]) (c := [b6, b7, b8, b9, b10, b11]) (d := [a6, a7, a8, a9, a10, a11]) rfl
  have e3 := cmpI_app (a := [b6, b7, b8]) (b := [a6, a7, a8]) (c := [b9, b10, b11]) (d := [a9, a10, a11]) rfl
  simp only [List.cons_append, List.nil_append] at e1 e2 e3
  rw [e1, e2, e3]
  simp only [befS, rowS, List.drop_succ_cons, List.drop_zero, List.take_succ_cons, List.take_zero, Nat.mul_zero, Nat.reduceMul, Nat.reduceAdd]
  generalize cmpI [b0, b1, b2] [a0, a1, a2] = x
  generalize cmpI [b3, b4, b5] [a3, a4, a5] = y
  generalize cmpI [b6, b7, b8] [a6, a7, a8] = z
  generalize cmpI [b9, b10, b11] [a9, a10, a11] = w
  by_cases hx : x = 0 <;> by_cases hy : y = 0 <;> by_cases hz : z = 0 <;> by_cases hw : w = 0 <;> simp [hx, hy, hz, hw]
def cmpS (s t : List Int) : Int := if s.sum - t.sum ≠ 0 then s.sum - t.sum else befS s t 0 4
theorem cmpS_iff {s t : List Int} (hs : s.length = 12) (ht : t.length = 12) : cmpS s t < 0 ↔ s.sum < t.sum ∨ s.sum = t.sum ∧ cmpI t s < 0 := by
  unfold cmpS; rw [befS_cmp hs ht]; split <;> omega
theorem cmpS_asy {s t : List Int} (hs : s.length = 12) (ht : t.length = 12) (h : cmpS s t < 0) : ¬ cmpS t s < 0 := by
  rw [cmpS_iff hs ht] at h
  rw [cmpS_iff ht hs]
  have := cmpI_anti s t
  omega
theorem cmpS_tot {s t : List Int} (hs : s.length = 12) (ht : t.length = 12) (h : ¬ cmpS s t < 0) (h' : ¬ cmpS t s < 0) : s = t := by
  rw [cmpS_iff hs ht] at h
  rw [cmpS_iff ht hs] at h'
  have := cmpI_anti s t
  exact cmpI_eq (by omega)
theorem cmpS_trans {s t u : List Int} (hs : s.length = 12) (ht : t.length = 12) (hu : u.length = 12) (h : cmpS s t < 0) (h' : cmpS t u < 0) : cmpS s u < 0 := by
  rw [cmpS_iff hs ht] at h
  rw [cmpS_iff ht hu] at h'
  rw [cmpS_iff hs hu]
  have h1 := cmpI_anti u t
  have h2 := @cmpI_trans u t s
  omega
def joinS (s t : List Int) : List Int := zipS max s t
def stepB (best n : Option (List Int)) : Option (List Int) := match n with
  | none => best
  | some n => match best with
    | none => some n
    | some b => if cmpS n b < 0 then some n else some b
def fewL : List (List (List Int)) → List Int → Option (List Int)
  | [], s => some s
  | c :: cs, s => c.foldl (fun best t => stepB best (fewL cs (joinS s t))) none
def reach : List (List (List Int)) → List Int → List Int → Prop
  | [], s, b => b = s
  | c :: cs, s, b => ∃ t, t ∈ c ∧ reach cs (joinS s t) b
def len12 (cs : List (List (List Int))) : Prop := ∀ c, c ∈ cs → ∀ t, t ∈ c → t.length = 12
theorem reach_len : ∀ {cs : List (List (List Int))} {s b : List Int}, len12 cs → s.length = 12 → reach cs s b → b.length = 12
  | [], s, b, _, hs, h => by rw [show b = s from h]; exact hs
  | c :: cs, s, b, hc, hs, ⟨t, h1, h2⟩ => reach_len (fun c hc' => hc c (by simp [hc'])) (zipS_len hs (hc c (by simp) t h1)) h2
def bestOf (X : List Int → Prop) : Option (List Int) → Prop
  | none => ∀ b, ¬ X b
  | some b => X b ∧ ∀ n, X n → n = b ∨ cmpS b n < 0
theorem bestOf_step {X Y : List Int → Prop} (hX : ∀ b, X b → b.length = 12) (hY : ∀ b, Y b → b.length = 12) {x y : Option (List Int)} (hx : bestOf X x) (hy : bestOf Y y) : bestOf (fun b => X b ∨ Y b) (stepB x y) := by
  cases y with
  | none =>
    cases x with
    | none => exact fun b h => h.elim (hx b) (hy b)
    | some b => exact ⟨.inl hx.1, fun n h => h.elim (hx.2 n) fun h => absurd h (hy n)⟩
  | some d =>
    cases x with
    | none => exact ⟨.inr hy.1, fun n h => h.elim (fun h => absurd h (hx n)) (hy.2 n)⟩
    | some b =>
      have lb := hX b hx.1
      have ld := hY d hy.1
      simp only [stepB]
      split
      · rename_i hlt
        refine ⟨.inr hy.1, fun n h => h.elim (fun h => ?_) (hy.2 n)⟩
        rcases hx.2 n h with rfl | h2
        · exact .inr hlt
        · exact .inr (cmpS_trans ld lb (hX n h) hlt h2)
      · rename_i hlt
        refine ⟨.inl hx.1, fun n h => h.elim (hx.2 n) fun h => ?_⟩
        have hbd : d = b ∨ cmpS b d < 0 := by
          by_cases h3 : cmpS b d < 0
          · exact .inr h3
          · exact .inl (cmpS_tot ld lb hlt h3)
        rcases hy.2 n h with rfl | h2
        · exact hbd
        · rcases hbd with rfl | h4
          · exact .inr h2
          · exact .inr (cmpS_trans lb ld (hY n h) h4 h2)
theorem fewL_best : ∀ (cs : List (List (List Int))) (s : List Int), len12 cs → s.length = 12 → bestOf (reach cs s) (fewL cs s)
  | [], s, _, _ => ⟨rfl, fun n h => .inl h⟩
  | c :: cs, s, hc, hs => by
    have hcs : len12 cs := fun c hc' => hc c (by simp [hc'])
    have key : ∀ (d pre : List (List Int)) (x : Option (List Int)), (∀ t, t ∈ d → t ∈ c) → (∀ t, t ∈ pre → t ∈ c) → bestOf (fun b => ∃ t, t ∈ pre ∧ reach cs (joinS s t) b) x → bestOf (fun b => ∃ t, t ∈ pre ++ d ∧ reach cs (joinS s t) b) (d.foldl (fun best t => stepB best (fewL cs (joinS s t))) x) := by
      intro d
      induction d with
      | nil => intro pre x _ _ h; simpa using h
      | cons t d ih =>
        intro pre x h1 h2 h
        have ht := h1 t (by simp)
        have hl := zipS_len (φ := max) hs (hc c (by simp) t ht)
        have h3 := bestOf_step (fun b ⟨u, hu, hb⟩ => reach_len hcs (zipS_len hs (hc c (by simp) u (h2 u hu))) hb) (fun b hb => reach_len hcs hl hb) h (fewL_best cs (joinS s t) hcs hl)
        have h2' : ∀ u, u ∈ pre ++ [t] → u ∈ c := fun u hu => by
          rcases List.mem_append.1 hu with hu | hu
          · exact h2 u hu
          · rw [List.mem_singleton.1 hu]; exact ht
        have h1' : ∀ u, u ∈ d → u ∈ c := fun u hu => h1 u (by simp [hu])
        have h4 := ih (pre ++ [t]) (stepB x (fewL cs (joinS s t))) h1' h2' (by
          have e : (fun b => ∃ u, u ∈ pre ++ [t] ∧ reach cs (joinS s u) b) = fun b => (∃ u, u ∈ pre ∧ reach cs (joinS s u) b) ∨ reach cs (joinS s t) b := by
            funext b
            simp only [List.mem_append, List.mem_singleton, eq_iff_iff]
            constructor
            · rintro ⟨u, hu | rfl, hb⟩
              · exact .inl ⟨u, hu, hb⟩
              · exact .inr hb
            · rintro (⟨u, hu, hb⟩ | hb)
              · exact ⟨u, .inl hu, hb⟩
              · exact ⟨t, .inr rfl, hb⟩
          rw [e]; exact h3)
        rw [List.append_assoc] at h4
        exact h4
    have := key c [] none (fun t h => h) (fun t h => by cases h) (fun b ⟨t, h, _⟩ => by cases h)
    rw [List.nil_append] at this
    exact this
theorem best_one {X : List Int → Prop} (hX : ∀ b, X b → b.length = 12) {x y : Option (List Int)} (hx : bestOf X x) (hy : bestOf X y) : x = y := by
  cases x with
  | none => cases y with
    | none => rfl
    | some d => exact absurd hy.1 (hx d)
  | some b => cases y with
    | none => exact absurd hx.1 (hy b)
    | some d =>
      rcases hx.2 d hy.1 with h | h
      · rw [h]
      · rcases hy.2 b hx.1 with h2 | h2
        · rw [h2]
        · exact absurd h2 (cmpS_asy (hX b hx.1) (hX d hy.1) h)
def sameL : List (List (List Int)) → List (List (List Int)) → Prop
  | [], [] => True
  | c :: cs, d :: ds => (∀ t, t ∈ c ↔ t ∈ d) ∧ sameL cs ds
  | _, _ => False
theorem reach_same : ∀ {cs ds : List (List (List Int))} {s b : List Int}, sameL cs ds → (reach cs s b ↔ reach ds s b)
  | [], [], _, _, _ => Iff.rfl
  | [], _ :: _, _, _, h => h.elim
  | _ :: _, [], _, _, h => h.elim
  | c :: cs, d :: ds, s, b, ⟨h1, h2⟩ => by
    simp only [reach]
    constructor
    · rintro ⟨t, ht, hb⟩; exact ⟨t, (h1 t).1 ht, (reach_same h2).1 hb⟩
    · rintro ⟨t, ht, hb⟩; exact ⟨t, (h1 t).2 ht, (reach_same h2).2 hb⟩
theorem fewL_same {cs ds : List (List (List Int))} {s : List Int} (hc : len12 cs) (hd : len12 ds) (hs : s.length = 12) (h : sameL cs ds) : fewL cs s = fewL ds s := by
  have e : reach cs s = reach ds s := by funext b; exact propext (reach_same h)
  have h1 := fewL_best cs s hc hs
  rw [e] at h1
  exact best_one (fun b hb => reach_len hd hs hb) h1 (fewL_best ds s hd hs)
end Go.Proofs.YtoadkchhimojlaaGreat

