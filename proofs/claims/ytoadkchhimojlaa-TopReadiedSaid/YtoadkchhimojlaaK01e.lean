/- Contracts of functions of the given program, without a condition beyond those that each theorem states; they lead to the given statement. -/
import Derived.Test.YtoadkchhimojlaaK01d
set_option linter.unusedSimpArgs false
set_option linter.unusedVariables false
set_option maxRecDepth 100000
namespace Go.Proofs.Ytoadkchhimojlaa
open Go Go.Fl
open Classical
theorem argEnv7 {a b c d e f g : AV} : argEnv 0 [a, b, c, d, e, f, g] = [(0, a), (1, b), (2, c), (3, d), (4, e), (5, f), (6, g)] := rfl
attribute [go_sem] argEnv7
abbrev rowE (b : Nat) (p : List (List Int)) (g : Nat → Nat) (m : Nat) : List AV := [.rg (b + (m + 5)) (p.getD m []).length (g m)]
abbrev rgE (p : List (List Int)) (j : Nat → List Int) (g : Nat → Nat) (m : Nat) : Blk := .rg 3 1 ((p.getD m [] ++ j m).map encN) (g m)
abbrev capsP (b : Nat) (h : House) (stop : Int) : List AV := [.lp (b + 2) 0, .lp b 0, .pp (cG h), .lp (b + 4) 0, .pp [.int .i64 stop], .lp (b + 3) 0]
abbrev ownP (b l : Nat) (h : House) (stop : Int) (p : List (List Int)) (j : Nat → List Int) (g : Nat → Nat) : Heap :=
  .box 145 [.yld l] false :: .row 24 1 ((List.range h.ms.length).map (rowE b p g)) false :: .box 23 [.row (b + 1) h.ms.length] false :: .box 3 [.int .i64 (bs (usd p) 5)] false :: .box 116 [.fn 94 (capsP b h stop)] false :: (List.range h.ms.length).map (rgE p j g)
theorem ga {H own : Heap} {b : Nat} (h : H.length = b) (i : Nat) : (H ++ own)[b + i]? = own[i]? := by
  rw [List.getElem?_append_right (by omega)]; congr 1; omega
theorem ga0 {H own : Heap} {b : Nat} (h : H.length = b) : (H ++ own)[b]? = own[0]? := ga (i := 0) h
theorem sa {H own : Heap} {b : Nat} (h : H.length = b) (i : Nat) (v : Blk) : (H ++ own).set (b + i) v = H ++ own.set i v := by
  rw [List.set_append_right _ _ (by omega)]; congr 2; omega
theorem rng_get {n m : Nat} (h : m < n) : (List.range n)[m]? = some m := by simp [h]
theorem map_rng_set {α : Type} {f f' : Nat → α} {n m : Nat} {v : α} (hv : v = f' m) (hf : ∀ i, i ≠ m → f i = f' i) : ((List.range n).map f).set m v = (List.range n).map f' := by
  apply List.ext_getElem?
  intro i
  rw [List.getElem?_set]
  by_cases e : m = i
  · subst e
    simp only [if_true, List.length_map, List.length_range]
    split
    · simp [*]
    · simp only [List.getElem?_map]
      rw [List.getElem?_eq_none (by simp; omega)]; rfl
  · rw [if_neg e]
    simp only [List.getElem?_map]
    by_cases h : i < n
    · rw [rng_get h]; simp [hf i (fun e2 => e e2.symm)]
    · rw [List.getElem?_eq_none (by simp; omega)]; rfl
theorem frzP {H : Heap} {b k : Nat} {p : List (List Int)} {j : Nat → List Int} {g : Nat → Nat} (hp : p.length = k) (hr : ∀ m, m < k → H[b + (m + 5)]? = some (rgE p j g m)) :
    frzE H ((List.range k).map (rowE b p g)) (p.map encP) = True := by
  have key : ∀ (q : List (List Int)) (i : Nat), (∀ m, m < q.length → q[m]? = p[i + m]?) → i + q.length = k → frzE H ((List.range' i q.length).map (rowE b p g)) (q.map encP) := by
    intro q
    induction q with
    | nil => intro i _ _; rfl
    | cons l q ih =>
      intro i h1 h2
      have h0 := h1 0 (by simp)
      simp only [List.getElem?_cons_zero, Nat.add_zero] at h0
      have hl : p.getD i [] = l := by rw [List.getD_eq_getElem?_getD, ← h0]; rfl
      simp only [List.length_cons, List.range'_succ, List.map_cons]
      simp only [List.length_cons] at h2
      refine ⟨⟨⟨rfl, ?_⟩, rfl⟩, ih (i + 1) (fun m hm => by have := h1 (m + 1) (by simpa using hm); simpa [Nat.add_assoc, Nat.add_comm 1 m] using this) (by omega)⟩
      rw [hr i (by omega)]
      refine ⟨rfl, rfl, ?_⟩
      rw [hl, List.map_append, List.take_left' (by simp)]
      exact frzE_self H _ (by rw [pureN]; trivial)
  have := key p 0 (fun m _ => by rw [Nat.zero_add]) (by omega)
  rw [hp, ← List.range_eq_range'] at this
  exact eq_true this
end Go.Proofs.Ytoadkchhimojlaa

