/- Contracts of functions of the given program, without a condition beyond those that each theorem states; they lead to the given statement. -/
import Derived.Test.YtllmohmgakdbdaaW07h
set_option linter.unusedSimpArgs false
set_option linter.unusedVariables false
set_option maxRecDepth 100000
namespace Go.Proofs.Ytllmohmgakdbdaa
open Go Go.Fl
open Classical
def I (n : Int) : AV := .int .i64 n
abbrev hX (ts : List Thing) (ms : List Mark) (c : Int) (s b : List Int) : AV := .pp (.lst false 4 (ts.map encT) :: .lst false 3 (ms.map encM) :: .int .i64 c :: (s.map I ++ b.map I))
theorem drop_head {l : List AV} {n : Nat} : (l.drop n).head? = l[n]? := by simp
theorem c73 (ts : List Thing) (ms : List Mark) (c : Int) (s b : List Int) (h8 : s.length = 8) (i m x : Int) (hi : 0 ≤ i ∧ i < 8) (hx : s[i.toNat]? = some x) : PC Try.prog 73 [hX ts ms c s b, .int .i64 i, .int .i64 m] (.bool (decide (x ≤ m))) := by
  have hx2 : (s.map I ++ b.map I)[i.toNat]? = some (.int .i64 x) := by
    rw [List.getElem?_append_left (by simp; omega)]; simp [hx, I]
  refine PC.body Try.func73 (by kernel_rfl) rfl (by simp [Try.f73]) rfl ?_
  simp only [Try.f73]
  intro hlen
  simp only [go_sem, List.length_map, and_true, true_and] at hlen
  refine CV.run ?_
  (repeat' (first | ((first | with_reducible refine vcG_split ?_ ?_ | with_reducible refine vcIf_split ?_ ?_ | with_reducible refine vcQ_split ?_ ?_ | with_reducible refine vcDG_split ?_ ?_) <;> intro hb <;> (try rw [hb]) <;> (try simp only [Bool.and_eq_true, Bool.or_eq_true, dtrue, dfalse, Bool.not_eq_true', Bool.not_eq_false', Bool.and_eq_false_iff, Bool.or_eq_false_iff, Bool.not_true, Bool.not_false] at hb) <;> (try simp only [within] at hb) <;> try (simp only [go_sem, drop_head, hx2, Nat.mul_one])) | refine And.intro (by (first | exact trivial | (simp only [I64]; omega) | omega)) ?_ | fail | (simp only [go_sem, drop_head, hx2, Nat.mul_one])))
  all_goals omega
end Go.Proofs.Ytllmohmgakdbdaa
