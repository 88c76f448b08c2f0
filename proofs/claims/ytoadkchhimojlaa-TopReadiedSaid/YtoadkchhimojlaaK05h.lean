/- Contracts of functions of the given program, without a condition beyond those that each theorem states; they lead to the given statement. -/
import Derived.Test.YtoadkchhimojlaaK05g
set_option linter.unusedSimpArgs false
set_option linter.unusedVariables false
set_option maxRecDepth 100000
namespace Go.Proofs.Ytoadkchhimojlaa.W5
open Go Go.Fl
open Classical
theorem HCH.nil1 {P : Program} {g : FuncId} {caps : List AV} {H : Heap} {Q : AV → Heap → Prop} {sz : Nat} (h : HCH P g (.lst false sz [] :: caps) H Q) : HCH P g (.nilS :: caps) H Q := by
  refine ⟨h.1, fun κ cargs hc hH hv => h.2 κ cargs hc hH ?_⟩
  obtain ⟨c, cs, e, h1, h2⟩ := hv
  refine ⟨c, cs, e, ?_, h2⟩
  obtain rfl : c = .slice none 0 0 := h1
  exact ⟨none, 0, rfl, Nat.le_refl _, by simp [maxLen], fun _ => rfl, fun ad h => (by cases h), fun _ => rfl, fun e h => (by cases h)⟩
def ords (s : List Job) : List (List Int) := ordF s.length s.length []
theorem miss_nil : ∀ n, miss n [] = n
  | 0 => rfl
  | n + 1 => by simp [miss, miss_nil n]
set_option maxHeartbeats 1000000 in
theorem h77 (s : List Job) (h6 : s.length ≤ 1000) (HB : List (List Int) → Heap) (K : Nat) (hK : ∀ L, (HB L).length = K) (hB : ∀ L n, belowH n (HB L) = True) (hS0 : ∀ L b n v, (HB L).map (subB b n v) = HB L) (l nt0 : Nat) (ps : Array Tmp) (assign body : Code) (env0 : Env) (hE : ∀ i, belowE (K + i) env0 = True) (hES : ∀ b n v, (env0.map fun p => (p.1, subV b n v p.2)) = env0)
    (hy : ∀ (L : List (List Int)) (pre : List Int) (own : Heap), onJ s pre → pre.length ≤ s.length → L.length < (ords s).length → HCY Try.prog l [lN pre] (HB L ++ .loop l nt0 ps assign body env0 :: own) fun r H2 => r = .bool true ∧ H2 = HB (L ++ [pre]) ++ .loop l nt0 ps assign body env0 :: own) :
    HCH Try.prog 77 [hS s, .yld l] (HB [] ++ [.loop l nt0 ps assign body env0]) fun r H' => ∃ rest, H' = HB (ords s) ++ .loop l nt0 ps assign body env0 :: rest := by
  have hrec := h103 s (ords s).length HB K hK hB hS0 l nt0 ps assign body env0 hE hES hy s.length [] [] [] (by rw [miss_nil]; omega) (fun x hx => (by cases hx)) (by simp) h6 (fun n => by simp [belowH]) (fun _ _ _ => rfl) (by simp [ords])
  refine HCH.body Try.func77 (by kernel_rfl) rfl (by simp [Try.f77]) ?_
  simp only [Try.f77]
  refine CV.run ?_
  (repeat' (first | ((first | with_reducible refine vcG_split ?_ ?_ | with_reducible refine vcIf_split ?_ ?_ | with_reducible refine vcQ_split ?_ ?_ | with_reducible refine vcDG_split ?_ ?_) <;> intro hb <;> (try rw [hb]) <;> (try simp only [Bool.and_eq_true, Bool.or_eq_true, dtrue, dfalse, Bool.not_eq_true', Bool.not_eq_false', Bool.and_eq_false_iff, Bool.or_eq_false_iff, Bool.not_true, Bool.not_false] at hb) <;> (try simp only [within] at hb) <;> try (simp only [go_sem, List.append_assoc, List.cons_append, List.length_append, hK, getT (hK _), setT (hK _), capO])) | refine And.intro (by (first | exact trivial | (simp only [I64]; omega) | omega)) ?_ | (simp only [go_sem, List.append_assoc, List.cons_append, List.length_append, hK, getT (hK _), setT (hK _), capO])))
  refine vcP_here (HCH.nil1 (sz := 1) hrec) ?_
  rintro r H' ⟨rfl, rfl⟩
  (repeat' (first | ((first | with_reducible refine vcG_split ?_ ?_ | with_reducible refine vcIf_split ?_ ?_ | with_reducible refine vcQ_split ?_ ?_ | with_reducible refine vcDG_split ?_ ?_) <;> intro hb <;> (try rw [hb]) <;> (try simp only [Bool.and_eq_true, Bool.or_eq_true, dtrue, dfalse, Bool.not_eq_true', Bool.not_eq_false', Bool.and_eq_false_iff, Bool.or_eq_false_iff, Bool.not_true, Bool.not_false] at hb) <;> (try simp only [within] at hb) <;> try (simp only [go_sem])) | refine And.intro (by (first | exact trivial | (simp only [I64]; omega) | omega)) ?_ | (simp only [go_sem])))
  exact ⟨_, rfl⟩
def swo (s : List Job) (o : List Int) : Int := wor s (hiD s) o
def bstS (val : List Int → Int) (L : List (List Int)) : Int × List Int := L.foldl (fun b x => if b.1 < val x then (val x, x) else b) (-1, [])
theorem bstS_nil {val : List Int → Int} : bstS val [] = (-1, []) := rfl
theorem bstS_app {val : List Int → Int} {L : List (List Int)} {x : List Int} : bstS val (L ++ [x]) = if (bstS val L).1 < val x then (val x, x) else bstS val L := by rw [bstS, List.foldl_append]; rfl
end Go.Proofs.Ytoadkchhimojlaa.W5

