/- Contracts of functions of the given program, without a condition beyond those that each theorem states; they lead to the given statement. -/
import Derived.Test.YtjjlcjibhjmhmaaU05a
import Derived.Test.YtjjlcjibhjmhmaaFlB
import Derived.Test.YtjjlcjibhjmhmaaRows
set_option linter.unusedSimpArgs false
set_option linter.unusedVariables false
set_option maxRecDepth 100000
namespace Go.Proofs.Ytjjlcjibhjmhmaa
open Go Go.Fl Go.ChangeShapes Go.WideShapes Go.RowKit Go.Deep
open Classical
theorem L.own : ownKnob Try.prog.godebug = none := by kernel_rfl
theorem L.laid : laidOutB Try.prog = true := by kernel_rfl
theorem L.bool : Try.prog.underlying 4 = some .bool := by kernel_rfl
theorem L.h24 : structOk Try.prog 24 [22] = true := by kernel_rfl
theorem L.s22 : sliceR Try.prog 22 6 = true := by kernel_rfl
theorem L.s34 : sliceR Try.prog 34 1 = true := by kernel_rfl
theorem L.i3 : intT Try.prog 3 = true := by kernel_rfl
section
variable {H : Type} {enc : TypeId × Value → H} {W : World} {base : Nat} {held : Bool} {r : Reach} {b0 : Nat} {v : Value} {d : DataW H} {p : List MemPlace}
theorem jobs_of : ∀ ess : List (List Int), (∀ e, e ∈ ess → e.length = 6 ∧ ∀ k, k ∈ e → I64 k) → ∃ ts : List Job, (ess.map fun e => e.map iv) = ts.map encJ
  | [], _ => ⟨[], rfl⟩
  | e :: ess, h => by
    obtain ⟨ts, hts⟩ := jobs_of ess fun e he => h e (by simp [he])
    match e, (h e (by simp)).1 with
    | [a, b, c, d, f, g], _ => exact ⟨⟨a, b, c, d, f, g⟩ :: ts, by simp [hts, encJ]⟩
theorem ints_of : ∀ ess : List (List Int), (∀ e, e ∈ ess → e.length = 1 ∧ ∀ k, k ∈ e → I64 k) → ∃ ts : List Int, (ess.map fun e => e.map iv) = ts.map encN ∧ ∀ k, k ∈ ts → I64 k
  | [], _ => ⟨[], rfl, by simp⟩
  | e :: ess, h => by
    obtain ⟨ts, hts, hI⟩ := ints_of ess fun e he => h e (by simp [he])
    match e, h e (by simp) with
    | [a], hh => exact ⟨a :: ts, by simp [hts, encN], fun k hk => by
        rcases List.mem_cons.1 hk with rfl | q
        · exact hh.2 k (by simp)
        · exact hI k q⟩
theorem lift_shop (hv : Value.okWide Try.prog W r b0 24 v) (h : DataW.Trod enc Try.prog W base (fun _ => true) held 24 v d p) : ∃ s, V (κ0 W) (hS s) v := by
  obtain ⟨cs, rfl, hl, hc⟩ := lift_struct L.h24 hv h
  match cs, hl with
  | [c0], _ =>
    obtain ⟨k0, n0, y0, t0⟩ := hc 0 c0 22 rfl rfl
    obtain ⟨a0, l0, m0, rfl, sp0⟩ := cell_slice2 (sliceR_is L.s22) k0
    obtain ⟨e0, g0, q0⟩ := lift_sliceR sp0 L.s22 t0
    obtain ⟨ms, hms⟩ := jobs_of e0 g0
    rw [hms] at q0
    exact ⟨ms, _, rfl, _, _, rfl, q0, rfl⟩
theorem lift_n (hv : Value.okWide Try.prog W r b0 3 v) (h : DataW.Trod enc Try.prog W base (fun _ => true) held 3 v d p) : ∃ a : Int, V (κ0 W) (.int .i64 a) v := by
  obtain ⟨a, rfl⟩ := lift_int L.i3 hv h
  exact ⟨a, rfl⟩
theorem lift_list (hv : Value.okWide Try.prog W r b0 34 v) (h : DataW.Trod enc Try.prog W base (fun _ => true) held 34 v d p) : ∃ l : List Int, V (κ0 W) (lN l) v ∧ ∀ k, k ∈ l → I64 k := by
  obtain ⟨e0, g0, q0⟩ := lift_intsR L.s34 hv h
  obtain ⟨l, hl, hI⟩ := ints_of e0 g0
  rw [hl] at q0
  exact ⟨l, q0, hI⟩
end
end Go.Proofs.Ytjjlcjibhjmhmaa

