/- Contracts of functions of the given program, without a condition beyond those that each theorem states; they lead to the given statement. -/
import Derived.Test.YtoadkchhimojlaaGreatG04e
import Derived.Test.YtoadkchhimojlaaGreatFlC
set_option linter.unusedSimpArgs false
set_option linter.unusedVariables false
set_option maxRecDepth 100000
namespace Go.Proofs.YtoadkchhimojlaaGreat
open Go Go.Fl
open Classical
def addF (F : List (List Int × Int)) (k : List Int) : List (List Int × Int) := stR (upR F k) (idR F k).1 ((idR F k).2 + 1)
def stN (a : Hall) (F : List (List Int × Int)) (p : List (List Int)) : List (List Int × Int) := if (lateP a.hs p).length = 0 then addF F (needS a p) else F
theorem lkR_mem : ∀ {l : List (List Int × Int)} {k : List Int} {r : Nat × Int}, lkR l k = some r → r.1 < l.length ∧ l[r.1]? = some (k, r.2) := fun h => by
  have := lkR_get h
  exact ⟨(List.getElem?_eq_some_iff.1 this).1, this⟩
theorem idR_lt (F : List (List Int × Int)) (k : List Int) : (idR F k).1 < (upR F k).length := by
  unfold idR upR
  cases h : lkR F k with
  | none => simp
  | some r => simpa using (lkR_mem h).1
def okF (F : List (List Int × Int)) (c : Nat) : Prop := ∀ e, e ∈ F → okS e.1 3 ∧ 0 ≤ e.2 ∧ e.2 ≤ c
theorem okF.id {F : List (List Int × Int)} {c : Nat} (h : okF F c) (k : List Int) : 0 ≤ (idR F k).2 ∧ (idR F k).2 ≤ c := by
  unfold idR
  cases hl : lkR F k with
  | none => simp
  | some r =>
    have := h _ (List.mem_of_getElem? (lkR_mem hl).2)
    simpa using this.2
theorem mem_modify {α : Type} {f : α → α} {x : α} : ∀ {l : List α} {j : Nat}, x ∈ l.modify j f → x ∈ l ∨ ∃ y, l[j]? = some y ∧ x = f y := fun {l j} h => by
  obtain ⟨i, hi⟩ := List.mem_iff_getElem?.1 h
  rw [List.getElem?_modify] at hi
  obtain ⟨y, hy, rfl⟩ := Option.map_eq_some_iff.1 hi
  split
  · rename_i e; subst e; exact .inr ⟨y, hy, rfl⟩
  · exact .inl (List.mem_of_getElem? hy)
theorem okF.add {F : List (List Int × Int)} {c : Nat} (h : okF F c) {k : List Int} (hk : okS k 3) : okF (addF F k) (c + 1) := by
  intro e he
  have hb := h.id k
  have hup : ∀ e, e ∈ upR F k → okS e.1 3 ∧ 0 ≤ e.2 ∧ e.2 ≤ c := fun e he => by
    unfold upR at he
    split at he
    · exact h e he
    · rcases List.mem_append.1 he with he | he
      · exact h e he
      · rw [List.mem_singleton.1 he]; exact ⟨hk, by simp⟩
  rcases mem_modify he with he | ⟨y, hy, rfl⟩
  · have := hup e he; exact ⟨this.1, by omega, by omega⟩
  · have := hup y (List.mem_of_getElem? hy)
    exact ⟨this.1, by simp only; omega, by simp only; omega⟩
theorem okF.step {a : Hall} {F : List (List Int × Int)} {c : Nat} (h : okF F c) {p : List (List Int)} (hp : p.length ≤ 3) : okF (stN a F p) (c + 1) := by
  unfold stN
  split
  · exact h.add ((okS.needS a p).mono (by omega))
  · exact fun e he => by have := h e he; exact ⟨this.1, by omega, by omega⟩
theorem okF.fold {a : Hall} : ∀ {L : List (List (List Int))} {F : List (List Int × Int)} {c : Nat}, okF F c → (∀ p, p ∈ L → p.length ≤ 3) → okF (L.foldl (stN a) F) (c + L.length)
  | [], _, _, h, _ => h
  | p :: L, F, c, h, hl => by
    have := okF.fold (a := a) (L := L) (h.step (a := a) (hl p (by simp))) fun q hq => hl q (by simp [hq])
    rw [List.foldl_cons, List.length_cons, show c + (L.length + 1) = c + 1 + L.length by omega]
    exact this
theorem plansF_ok {k nb : Nat} {stop : Int} : ∀ (f m : Nat) (p : List (List Int)), okQ k nb p → p.flatten.Nodup → m ≤ k → ∀ q, q ∈ plansF k stop nb f m p → okQ k nb q ∧ q.flatten.Nodup
  | 0, m, p, _, _, _, q, h => by simp [plansF] at h
  | f + 1, m, p, hq, hn, hm, q, h => by
    rw [plansF] at h
    split at h
    · rw [List.mem_singleton.1 h]; exact ⟨hq, hn⟩
    · rename_i hmk
      rcases List.mem_append.1 h with h | h
      · exact plansF_ok f (m + 1) p hq hn (by omega) q h
      · split at h
        · simp at h
        · obtain ⟨b, h1, h2⟩ := List.mem_flatMap.1 h
          obtain ⟨h3, h4⟩ := List.mem_filter.1 h1
          have hb := List.mem_range.1 h3
          have hu : usd p b = false := by simpa using h4
          exact plansF_ok f m (addB p m b) (hq.add (by omega) hb hu) (nodup_add (by rw [hq.len]; omega) hn hu) hm q h2
theorem plansF_len {k nb : Nat} {stop : Int} : ∀ (f m : Nat) (p : List (List Int)), (plansF k stop nb f m p).length ≤ (nb + 1) ^ f
  | 0, m, p => by simp [plansF]
  | f + 1, m, p => by
    rw [plansF]
    split
    · exact Nat.one_le_pow _ _ (by omega)
    · rw [List.length_append, Nat.pow_succ]
      have h1 := plansF_len (k := k) (nb := nb) (stop := stop) f (m + 1) p
      have h2 : ∀ l : List Nat, (l.flatMap fun b => plansF k stop nb f m (addB p m b)).length ≤ l.length * (nb + 1) ^ f := by
        intro l
        induction l with
        | nil => simp
        | cons b l ih =>
          have := plansF_len (k := k) (nb := nb) (stop := stop) f m (addB p m b)
          rw [List.flatMap_cons, List.length_append, List.length_cons, Nat.succ_mul]; omega
      have h3 := h2 ((List.range nb).filter fun b => !usd p b)
      have h4 : ((List.range nb).filter fun b => !usd p b).length ≤ nb := Nat.le_trans (List.length_filter_le _ _) (by simp)
      have h5 := Nat.mul_le_mul_right ((nb + 1) ^ f) h4
      rw [Nat.mul_add, Nat.mul_one, Nat.mul_comm]
      split
      · simp; omega
      · omega
theorem adds_pre {k : Nat} {stop : Int} {nb f m : Nat} {p : List (List Int)} {i : Nat} : ∀ {n : Nat}, i ≤ n → ∃ r, adds k stop nb f m p n = adds k stop nb f m p i ++ r
  | 0, h => ⟨[], by have : i = 0 := by omega
                    subst this; simp⟩
  | n + 1, h => by
    rcases Nat.lt_or_ge i (n + 1) with h1 | h1
    · obtain ⟨r, hr⟩ := adds_pre (n := n) (show i ≤ n by omega)
      cases hu : usd p n with
      | true => rw [adds_yes hu]; exact ⟨r, hr⟩
      | false => rw [adds_no hu, hr, List.append_assoc]; exact ⟨_, rfl⟩
    · have : i = n + 1 := by omega
      subst this; exact ⟨[], by simp⟩
theorem intsA_mapI : ∀ k : List Int, intsA (k.map I) = some k
  | [] => rfl
  | x :: k => by simp only [List.map_cons, I, intsA]; rw [intsA_mapI k]; rfl
theorem safeL_mapI : ∀ s : List Int, safeL (s.map I) = true
  | [] => rfl
  | x :: s => by simp only [List.map_cons, safeL, safeL_mapI s]; rfl
abbrev rowE (p : List (List Int)) (g : Nat → Nat) (m : Nat) : List AV := [.rg (m + 7) (p.getD m []).length (g m)]
abbrev rgE (p : List (List Int)) (j : Nat → List Int) (g : Nat → Nat) (m : Nat) : Blk := .rg 3 1 ((p.getD m [] ++ j m).map encN) (g m)
abbrev capsN : List AV := [.lp 5 0, .lp 0 0, .lp 3 0, .lp 6 0, .lp 1 0]
abbrev ownN (a : Hall) (stop : Int) (mg : Nat) (F : List (List Int × Int)) (p : List (List Int)) (j : Nat → List Int) (g : Nat → Nat) : Heap :=
  .box 64 (cH a) false :: .box 3 [.int .i64 stop] false :: .raw mg (.map F) :: .box 118 [.mp mg] false :: .row 24 1 ((List.range a.hs.ms.length).map (rowE p g)) false :: .box 27 [.row 4 a.hs.ms.length] false :: .box 119 [.fn 66 capsN] false :: (List.range a.hs.ms.length).map (rgE p j g)
theorem rng_get {n m : Nat} (h : m < n) : (List.range n)[m]? = some m := by simp [h]
theorem map_rng_set {α : Type} {f f' : Nat → α} {n m : Nat} {v : α} (hv : v = f' m) (hf : ∀ i, i ≠ m → f i = f' i) : ((List.range n).map f).set m v = (List.range n).map f' := by
  apply List.ext_getElem?
  intro i
  rw [List.getElem?_set]
  by_cases e : m = i
  · subst e
    simp only [if_true, List.length_map, List.length_range]
    split
    · simp [*]
    · simp only [List.getElem?_map]
      rw [List.getElem?_eq_none (by simp; omega)]; rfl
  · rw [if_neg e]
    simp only [List.getElem?_map]
    by_cases h : i < n
    · rw [rng_get h]; simp [hf i (fun e2 => e e2.symm)]
    · rw [List.getElem?_eq_none (by simp; omega)]; rfl
theorem frzP {H : Heap} {k : Nat} {p : List (List Int)} {j : Nat → List Int} {g : Nat → Nat} (hp : p.length = k) (hr : ∀ m, m < k → H[m + 7]? = some (rgE p j g m)) :
    frzE H ((List.range k).map (rowE p g)) (p.map encP) = True := by
  have key : ∀ (q : List (List Int)) (i : Nat), (∀ m, m < q.length → q[m]? = p[i + m]?) → i + q.length = k → frzE H ((List.range' i q.length).map (rowE p g)) (q.map encP) := by
    intro q
    induction q with
    | nil => intro i _ _; rfl
    | cons l q ih =>
      intro i h1 h2
      have h0 := h1 0 (by simp)
      simp only [List.getElem?_cons_zero, Nat.add_zero] at h0
      have hl : p.getD i [] = l := by rw [List.getD_eq_getElem?_getD, ← h0]; rfl
      simp only [List.length_cons, List.range'_succ, List.map_cons]
      simp only [List.length_cons] at h2
      refine ⟨⟨⟨rfl, ?_⟩, rfl⟩, ih (i + 1) (fun m hm => by have := h1 (m + 1) (by simpa using hm); simpa [Nat.add_assoc, Nat.add_comm 1 m] using this) (by omega)⟩
      rw [hr i (by omega)]
      refine ⟨rfl, rfl, ?_⟩
      rw [hl, List.map_append, List.take_left' (by simp)]
      exact frzE_self H _ (by rw [pureN]; trivial)
  have := key p 0 (fun m _ => by rw [Nat.zero_add]) (by omega)
  rw [hp, ← List.range_eq_range'] at this
  exact eq_true this
end Go.Proofs.YtoadkchhimojlaaGreat

