/- Contracts of functions of the given program, without a condition beyond those that each theorem states; they lead to the given statement. -/
import Derived.Test.YtoadkchhimojlaaK01k
import Derived.Test.YtoadkchhimojlaaFlC
set_option linter.unusedSimpArgs false
set_option linter.unusedVariables false
set_option maxRecDepth 100000
namespace Go.Proofs.Ytoadkchhimojlaa.W2
open Go Go.Fl
open Classical
theorem mixed : Try.prog.follows .mixedOrders = true := by kernel_rfl
structure Mould where
  page : Int
  used : Int
  broke : Int
structure Shop where
  ms : List Mould
  ws : List (List Int)
  wt : List Int
  fr : Int
def encD (m : Mould) : List AV := [.int .i64 m.page, .int .i64 m.used, .int .i64 m.broke]
def encW (w : List Int) : List AV := [lN w]
theorem pureD (l : List Mould) : pureE (l.map encD) = True := pureE_map fun _ => rfl
theorem pureW (l : List (List Int)) : pureE (l.map encW) = True := pureE_map fun _ => rfl
attribute [go_sem] pureD pureW
abbrev cS (s : Shop) : List AV := [.lst false 3 (s.ms.map encD), .lst false 1 (s.ws.map encW), lN s.wt, .int .i64 s.fr]
abbrev hS (s : Shop) : AV := .agg (cS s)
theorem c22 (n lo hi : Int) : PC Try.prog 22 [.int .i64 n, .int .i64 lo, .int .i64 hi] (.bool (decide (within n lo hi))) := by
  refine PC.body Try.func22 (by kernel_rfl) rfl (by simp [Try.f22]) rfl ?_
  simp only [Try.f22]
  intro hlen
  simp only [go_sem, List.length_map, and_true, true_and] at hlen
  refine CV.run ?_
  (repeat' (first | ((first | with_reducible refine vcG_split ?_ ?_ | with_reducible refine vcIf_split ?_ ?_ | with_reducible refine vcQ_split ?_ ?_ | with_reducible refine vcDG_split ?_ ?_) <;> intro hb <;> (try rw [hb]) <;> (try simp only [Bool.and_eq_true, Bool.or_eq_true, dtrue, dfalse, Bool.not_eq_true', Bool.not_eq_false', Bool.and_eq_false_iff, Bool.or_eq_false_iff, Bool.not_true, Bool.not_false] at hb) <;> try (simp only [go_sem])) | refine And.intro (by (first | exact trivial | (simp only [I64]; omega) | omega)) ?_ | (simp only [go_sem])))
  · simp [within, hb]
  · exact bf fun h => absurd h.1 (by omega)
theorem c32 (n lo hi : Int) : PC Try.prog 32 [.int .i64 n, .int .i64 lo, .int .i64 hi] (.bool (decide (within n lo hi))) := by
  refine PC.body Try.func32 (by kernel_rfl) rfl (by simp [Try.f32]) rfl ?_
  simp only [Try.f32]
  intro hlen
  simp only [go_sem, List.length_map, and_true, true_and] at hlen
  refine CV.run ?_
  (repeat' (first | ((first | with_reducible refine vcG_split ?_ ?_ | with_reducible refine vcIf_split ?_ ?_ | with_reducible refine vcQ_split ?_ ?_ | with_reducible refine vcDG_split ?_ ?_) <;> intro hb <;> (try rw [hb]) <;> (try simp only [Bool.and_eq_true, Bool.or_eq_true, dtrue, dfalse, Bool.not_eq_true', Bool.not_eq_false', Bool.and_eq_false_iff, Bool.or_eq_false_iff, Bool.not_true, Bool.not_false] at hb) <;> try (simp only [go_sem])) | refine And.intro (by (first | exact trivial | (simp only [I64]; omega) | omega)) ?_ | (first | (refine vcP_pure (c22 _ _ _) rfl ?_ ?_ ?_; (focus (first | rfl | ((simp only [go_sem, AV.pureL, AV.pure, pureL_mapI, Bool.and_self]) <;> fail))); (focus (first | ((simp only [go_sem]) <;> fail) | rfl))) | (refine dCallP_pure (c22 _ _ _) rfl ?_ ?_ ?_; (focus (first | rfl | ((simp only [go_sem, AV.pureL, AV.pure, pureL_mapI, Bool.and_self]) <;> fail))); (focus (first | ((simp only [go_sem]) <;> fail) | rfl))) | (refine dCallC_pure (c22 _ _ _) rfl ?_ ?_ ?_; (focus (first | rfl | ((simp only [go_sem, AV.pureL, AV.pure, pureL_mapI, Bool.and_self]) <;> fail))); (focus (first | ((simp only [go_sem]) <;> fail) | rfl))) | refine dCallC_safe (c22 _ _ _) rfl rfl (by (simp only [go_sem])) ?_ | refine vcP_safe (c22 _ _ _) rfl rfl (by (simp only [go_sem])) ?_ | refine dCallP_safe (c22 _ _ _) rfl rfl ?_) | (simp only [go_sem])))
theorem c83 (n lo hi : Int) : PC Try.prog 83 [.int .i64 n, .int .i64 lo, .int .i64 hi] (.bool (decide (within n lo hi))) := by
  refine PC.body Try.func83 (by kernel_rfl) rfl (by simp [Try.f83]) rfl ?_
  simp only [Try.f83]
  intro hlen
  simp only [go_sem, List.length_map, and_true, true_and] at hlen
  refine CV.run ?_
  (repeat' (first | ((first | with_reducible refine vcG_split ?_ ?_ | with_reducible refine vcIf_split ?_ ?_ | with_reducible refine vcQ_split ?_ ?_ | with_reducible refine vcDG_split ?_ ?_) <;> intro hb <;> (try rw [hb]) <;> (try simp only [Bool.and_eq_true, Bool.or_eq_true, dtrue, dfalse, Bool.not_eq_true', Bool.not_eq_false', Bool.and_eq_false_iff, Bool.or_eq_false_iff, Bool.not_true, Bool.not_false] at hb) <;> try (simp only [go_sem])) | refine And.intro (by (first | exact trivial | (simp only [I64]; omega) | omega)) ?_ | (simp only [go_sem])))
  · simp [within, hb]
  · exact bf fun h => absurd h.1 (by omega)
def eu (a b : Nat) : Nat → Nat × Nat
  | 0 => (a, b)
  | j + 1 => ((eu a b j).2, (eu a b j).1 % (eu a b j).2)
end Go.Proofs.Ytoadkchhimojlaa.W2

