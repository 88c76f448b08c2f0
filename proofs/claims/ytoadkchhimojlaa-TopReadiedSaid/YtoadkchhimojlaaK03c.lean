/- Contracts of functions of the given program, without a condition beyond those that each theorem states; they lead to the given statement. -/
import Derived.Test.YtoadkchhimojlaaK03b
set_option linter.unusedSimpArgs false
set_option linter.unusedVariables false
set_option maxRecDepth 100000
namespace Go.Proofs.Ytoadkchhimojlaa
open Go Go.Fl
open Classical
theorem sx0 : sureG exG 0 = false := by kernel_rfl
theorem sx1 : sureG exG 1 = true := by kernel_rfl
theorem sx2 : sureG exG 2 = false := by kernel_rfl
theorem tolX : tolF exG 4 = ([0], 1) := by
  have b0 : bitsP 0 4 = [] := by decide
  have b1 : bitsP 1 4 = [0] := by decide
  have b2 : bitsP 2 4 = [1] := by decide
  have b3 : bitsP 3 4 = [0, 1] := by decide
  have t1 : tolF exG 1 = ([], 3) := by
    have e : tolF exG 1 = if ((((bitsP (0 : Nat) 4).length : Int) < (tolF exG 0).2 ∨ ((bitsP (0 : Nat) 4).length : Int) = (tolF exG 0).2 ∧ cmpI (bitsP (0 : Nat) 4) (tolF exG 0).1 < 0)) ∧ sureG exG (0 : Nat) = true then (bitsP (0 : Nat) 4, ((bitsP (0 : Nat) 4).length : Int)) else tolF exG 0 := rfl
    rw [e, if_neg (fun q => by have := q.2; rw [show ((0 : Nat) : Int) = 0 from rfl, sx0] at this; cases this)]; rfl
  have t2 : tolF exG 2 = ([0], 1) := by
    have e : tolF exG 2 = if ((((bitsP (1 : Nat) 4).length : Int) < (tolF exG 1).2 ∨ ((bitsP (1 : Nat) 4).length : Int) = (tolF exG 1).2 ∧ cmpI (bitsP (1 : Nat) 4) (tolF exG 1).1 < 0)) ∧ sureG exG (1 : Nat) = true then (bitsP (1 : Nat) 4, ((bitsP (1 : Nat) 4).length : Int)) else tolF exG 1 := rfl
    rw [e, t1, show ((1 : Nat) : Int) = 1 from rfl, b1, if_pos ⟨.inl (by decide), sx1⟩]; rfl
  have t3 : tolF exG 3 = ([0], 1) := by
    have e : tolF exG 3 = if ((((bitsP (2 : Nat) 4).length : Int) < (tolF exG 2).2 ∨ ((bitsP (2 : Nat) 4).length : Int) = (tolF exG 2).2 ∧ cmpI (bitsP (2 : Nat) 4) (tolF exG 2).1 < 0)) ∧ sureG exG (2 : Nat) = true then (bitsP (2 : Nat) 4, ((bitsP (2 : Nat) 4).length : Int)) else tolF exG 2 := rfl
    rw [e, if_neg (fun q => by have := q.2; rw [show ((2 : Nat) : Int) = 2 from rfl, sx2] at this; cases this)]; exact t2
  have e : tolF exG 4 = if ((((bitsP (3 : Nat) 4).length : Int) < (tolF exG 3).2 ∨ ((bitsP (3 : Nat) 4).length : Int) = (tolF exG 3).2 ∧ cmpI (bitsP (3 : Nat) 4) (tolF exG 3).1 < 0)) ∧ sureG exG (3 : Nat) = true then (bitsP (3 : Nat) 4, ((bitsP (3 : Nat) 4).length : Int)) else tolF exG 3 := rfl
  rw [e, t3, show ((3 : Nat) : Int) = 3 from rfl, b3, if_neg (fun q => by rcases q.1 with q | q <;> simp at q)]
theorem tolGX : tolG exG = .tup [lN [0], .int .i64 0] := by
  have e : (2 : Nat) ^ exG.ts.length = 4 := rfl
  unfold tolG; rw [if_pos exG_ok, e, tolX]
theorem w30 : PC Try.prog 30 [hG exG] (.tup [lN [0], .int .i64 0]) := by
  have h := c30 exG
  rw [tolGX] at h; exact h
end Go.Proofs.Ytoadkchhimojlaa

