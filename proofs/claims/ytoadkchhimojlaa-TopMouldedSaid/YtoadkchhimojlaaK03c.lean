/- Contracts of functions of the given program, without a condition beyond those that each theorem states; they lead to the given statement. -/
import Derived.Test.YtoadkchhimojlaaK03b
set_option linter.unusedSimpArgs false
set_option linter.unusedVariables false
set_option maxRecDepth 100000
namespace Go.Proofs.Ytoadkchhimojlaa
open Go Go.Fl
open Classical
theorem sx0 : sureG exG 0 = false := by kernel_rfl
theorem sx1 : sureG exG 1 = true := by kernel_rfl
theorem sx2 : sureG exG 2 = false := by kernel_rfl
theorem tolX : tolF exG 4 = ([0], 1) := by
  have b0 : bitsP 0 4 = [] := by decide
  have b1 : bitsP 1 4 = [0] := by decide
  have b2 : bitsP 2 4 = [1] := by decide
  have b3 : bitsP 3 4 = [0, 1] := by decide
  have t1 : tolF exG 1 = ([], 3) := by
    have e : tolF exG 1 = if ((((bitsP (0 : Nat) 4).length : Int) < (tolF exG 0).2 ∨ ((bitsP (0 : Nat) 4).length : Int) = (tolF exG 0).2 ∧ cmpI (bitsP (0 : Nat) 4) (tolF exG 0).1 < 0)) ∧ sureG exG (0 : Nat) = true then (bitsP (0 : Nat) 4, ((bitsP (0 : Nat) 4).length : Int)) else tolF exG 0 := rfl
    rw [e, if_neg (fun q => by have := q.2; rw [show ((0 : Nat) : Int) = 0 from rfl, sx0] at this; cases this)]; rfl
  have t2 : tolF exG 2 = ([0], 1) := by
    have e : tolF exG 2 = if ((((bitsP (1 : Nat) 4).length : Int) < (tolF exG 1).2 ∨ ((bitsP (1 : Nat) 4).length : Int) = (tolF exG 1).2 ∧ cmpI (bitsP (1 : Nat) 4) (tolF exG 1).1 < 0)) ∧ sureG exG (1 : Nat) = true then (bitsP (1 : Nat) 4, ((bitsP (1 : Nat) 4).length : Int)) else tolF exG 1 := rfl
    rw [e, t1, show ((1 : Nat) : Int) = 1 from rfl, b1, if_pos ⟨.inl (by decide), sx1⟩]; rfl
  have t3 : tolF exG 3 = ([0], 1) := by
    have e : tolF exG 3 = if ((((bitsP (2 : Nat) 4).length : Int) < (tolF exG 2).2 ∨ ((bitsP (2 : Nat) 4).length : Int) = (tolF exG 2).2 ∧ cmpI (bitsP (2 : Nat) 4) (tolF exG 2).1 < 0)) ∧ sureG exG (2 : Nat) = true then (bitsP (2 : Nat) 4, ((bitsP (2 : Nat) 4).length : Int)) else tolF exG 2 := rfl
    rw [e, if_neg (fun q => by have := q.2; rw [show ((2 : Nat) : Int) = 2 from rfl, sx2] at this; cases this)]; exact t2
  have e : tolF exG 4 = if ((((bitsP (3 : Nat) 4).length : Int) < (tolF exG 3).2 ∨ ((bitsP (3 : Nat) 4).length : Int) = (tolF exG 3).2 ∧ cmpI (bitsP (3 : Nat) 4) (tolF exG 3).1 < 0)) ∧ sureG exG (3 : Nat) = true then (bitsP (3 : Nat) 4, ((bitsP (3 : Nat) 4).length : Int)) else tolF exG 3 := rfl
  rw [e, t3, show ((3 : Nat) : Int) = 3 from rfl, b3, if_neg (fun q => by rcases q.1 with q | q <;> simp at q)]
theorem tolGX : tolG exG = .tup [lN [0], .int .i64 0] := by
  have e : (2 : Nat) ^ exG.ts.length = 4 := rfl
  unfold tolG; rw [if_pos exG_ok, e, tolX]
theorem w30 : PC Try.prog 30 [hG exG] (.tup [lN [0], .int .i64 0]) := by
  have h := c30 exG
  rw [tolGX] at h; exact h
theorem aW_exT : W2.aW W2.exT = [[8, 9, 2, 4], [6, 9, 2, 6], [12, 7, 2, 3]] := by decide +kernel
theorem kn_exT : W2.kn W2.exT True = 0 := W2.kn0.2 ⟨W2.exT_valid, trivial, by rw [aW_exT]; simp⟩
theorem w13 : PC Try.prog 13 [W2.hS W2.exT] (.tup [.int .i64 1, .int .i64 0]) := by
  have h := W2.c13 W2.exT
  have e : W2.rNew W2.exT = (1, 0) := by
    rw [show W2.rNew W2.exT = _ from W2.ans_yes kn_exT]
    decide +kernel
  rw [e] at h; exact h
set_option maxHeartbeats 1000000 in
theorem c8 : PC Try.prog 8 [] (.bool true) := by
  have h28 := W2.c28
  have h13 := w13
  have h29 := c29
  have h30 := w30
  simp only [W2.exR] at h28
  simp only [exGa] at h29
  simp only [hG, cG, exG, lN, encM, encB, encN, List.map_cons, List.map_nil] at h30
  refine PC.body Try.func8 (by kernel_rfl) rfl (by simp [Try.f8]) rfl ?_
  simp only [Try.f8]
  intro hlen
  simp only [go_sem, List.length_map, and_true, true_and] at hlen
  refine CV.run ?_
  (repeat' (first | ((with_reducible first | refine vcG_split ?_ ?_ | refine vcIf_split ?_ ?_ | refine vcQ_split ?_ ?_ | refine vcDG_split ?_ ?_) <;> intro hb <;> (try rw [hb]) <;> (try simp only [bq, bz, dtrue, dfalse] at hb) <;> (try simp only [within] at hb) <;> try (simp only [go_sem, encN])) | refine And.intro (by first | exact trivial | omega | (simp only [I64]; omega)) ?_ | ((with_reducible first | refine vp h28 ?_ ?_ | refine vp h13 ?_ ?_ | refine vp h29 ?_ ?_ | refine vp h30 ?_ ?_); focus (first | exact ⟨rfl, .inl ⟨by first | rfl | simp only [go_sem, encN, AV.pureL, AV.pure], by first | (simp only [go_sem, encN]; done) | rfl⟩⟩ | exact ⟨rfl, .inr ⟨rfl, by simp only [go_sem, encN]⟩⟩)) | (simp only [go_sem, encN])))
  all_goals trace_state
end Go.Proofs.Ytoadkchhimojlaa

