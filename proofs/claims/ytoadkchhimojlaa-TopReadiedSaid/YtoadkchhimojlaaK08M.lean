/- Contracts of functions of the given program, without a condition beyond those that each theorem states; they lead to the given statement. -/
import Derived.Test.YtoadkchhimojlaaK08L
import Derived.Test.YtoadkchhimojlaaFlC
import Derived.Test.YtoadkchhimojlaaK05a
set_option linter.unusedSimpArgs false
set_option linter.unusedVariables false
set_option maxRecDepth 100000
namespace Go.Proofs.Ytoadkchhimojlaa
open Go Go.Fl Go.ChangeShapes Go.WideShapes Go.RowKit Go.Deep
open Classical
theorem L.h48 : structOk Try.prog 48 [46] = true := by kernel_rfl
theorem L.s46 : sliceR Try.prog 46 6 = true := by kernel_rfl
section
variable {H : Type} {enc : TypeId × Value → H} {W : World} {base : Nat} {held : Bool} {r : Reach} {b0 : Nat} {v : Value} {d : DataW H} {p : List MemPlace}
theorem jobs_of : ∀ ess : List (List Int), (∀ e, e ∈ ess → e.length = 6 ∧ ∀ k, k ∈ e → I64 k) → ∃ ts : List W5.Job, (ess.map fun e => e.map iv) = ts.map W5.encJ
  | [], _ => ⟨[], rfl⟩
  | e :: ess, h => by
    obtain ⟨ts, hts⟩ := jobs_of ess fun e he => h e (by simp [he])
    match e, (h e (by simp)).1 with
    | [a, b, c, d, f, g], _ => exact ⟨⟨a, b, c, d, f, g⟩ :: ts, by simp [hts, W5.encJ]⟩
theorem lift_pours (hv : Value.okWide Try.prog W r b0 48 v) (h : DataW.Trod enc Try.prog W base (fun _ => true) held 48 v d p) : ∃ s, V (κ0 W) (W5.hS s) v := by
  obtain ⟨cs, rfl, hl, hc⟩ := lift_struct L.h48 hv h
  match cs, hl with
  | [c0], _ =>
    obtain ⟨k0, n0, y0, t0⟩ := hc 0 c0 46 rfl rfl
    obtain ⟨a0, l0, m0, rfl, sp0⟩ := cell_slice2 (sliceR_is L.s46) k0
    obtain ⟨e0, g0, q0⟩ := lift_sliceR sp0 L.s46 t0
    obtain ⟨ms, hms⟩ := jobs_of e0 g0
    rw [hms] at q0
    exact ⟨ms, _, rfl, _, _, rfl, q0, rfl⟩
end
end Go.Proofs.Ytoadkchhimojlaa

