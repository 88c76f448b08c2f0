/- Contracts of functions of the given program, without a condition beyond those that each theorem states; they lead to the given statement. -/
import Derived.Test.YtoadkchhimojlaaK02a
import Derived.Test.YtoadkchhimojlaaFlC
import Derived.Test.YtoadkchhimojlaaRows
set_option linter.unusedSimpArgs false
set_option linter.unusedVariables false
set_option maxRecDepth 100000
namespace Go.Proofs.Ytoadkchhimojlaa
open Go Go.Fl Go.ChangeShapes Go.WideShapes Go.RowKit Go.Deep
open Classical
theorem L.own : ownKnob Try.prog.godebug = none := by kernel_rfl
theorem L.laid : laidOutB Try.prog = true := by kernel_rfl
theorem L.bool : Try.prog.underlying 4 = some .bool := by kernel_rfl
theorem L.h30 : structOk Try.prog 30 [27, 28, 24, 3] = true := by kernel_rfl
theorem L.s27 : sliceFlat Try.prog 27 3 = true := by kernel_rfl
theorem L.s28 : sliceFlat Try.prog 28 3 = true := by kernel_rfl
theorem L.s24 : sliceFlat Try.prog 24 1 = true := by kernel_rfl
theorem L.i3 : intT Try.prog 3 = true := by kernel_rfl
section
variable {H : Type} {enc : TypeId × Value → H} {W : World} {base : Nat} {held : Bool} {r : Reach} {b0 : Nat} {v : Value} {d : DataW H} {p : List MemPlace}
theorem machs_of : ∀ ess : List (List Int), (∀ e, e ∈ ess → e.length = 3) → ∃ ts : List Mach, (ess.map fun e => e.map iv) = ts.map encM
  | [], _ => ⟨[], rfl⟩
  | e :: ess, h => by
    obtain ⟨ts, hts⟩ := machs_of ess fun e he => h e (by simp [he])
    match e, h e (by simp) with
    | [a, b, c], _ => exact ⟨⟨a, b, c⟩ :: ts, by simp [hts, encM]⟩
theorem buns_of : ∀ ess : List (List Int), (∀ e, e ∈ ess → e.length = 3) → ∃ ts : List Bun, (ess.map fun e => e.map iv) = ts.map encB
  | [], _ => ⟨[], rfl⟩
  | e :: ess, h => by
    obtain ⟨ts, hts⟩ := buns_of ess fun e he => h e (by simp [he])
    match e, h e (by simp) with
    | [a, b, c], _ => exact ⟨⟨a, b, c⟩ :: ts, by simp [hts, encB]⟩
theorem ints_of : ∀ ess : List (List Int), (∀ e, e ∈ ess → e.length = 1) → ∃ ts : List Int, (ess.map fun e => e.map iv) = ts.map encN
  | [], _ => ⟨[], rfl⟩
  | e :: ess, h => by
    obtain ⟨ts, hts⟩ := ints_of ess fun e he => h e (by simp [he])
    match e, h e (by simp) with
    | [a], _ => exact ⟨a :: ts, by simp [hts, encN]⟩
theorem lift_house (hv : Value.okWide Try.prog W r b0 30 v) (h : DataW.Trod enc Try.prog W base (fun _ => true) held 30 v d p) : ∃ s, V (κ0 W) (hG s) v := by
  obtain ⟨cs, rfl, hl, hc⟩ := lift_struct L.h30 hv h
  match cs, hl with
  | [c0, c1, c2, c3], _ =>
    obtain ⟨k0, n0, y0, t0⟩ := hc 0 c0 27 rfl rfl
    obtain ⟨k1, n1, y1, t1⟩ := hc 1 c1 28 rfl rfl
    obtain ⟨k2, n2, y2, t2⟩ := hc 2 c2 24 rfl rfl
    obtain ⟨k3, n3, y3, t3⟩ := hc 3 c3 3 rfl rfl
    obtain ⟨a0, l0, m0, rfl, sp0⟩ := cell_slice L.s27 k0
    obtain ⟨a1, l1, m1, rfl, sp1⟩ := cell_slice L.s28 k1
    obtain ⟨a2, l2, m2, rfl, sp2⟩ := cell_slice L.s24 k2
    obtain ⟨e0, g0, q0⟩ := lift_slice sp0 L.s27 t0
    obtain ⟨e1, g1, q1⟩ := lift_slice sp1 L.s28 t1
    obtain ⟨e2, g2, q2⟩ := lift_slice sp2 L.s24 t2
    obtain ⟨k, rfl⟩ := read_int L.i3 t3
    obtain ⟨ms, hms⟩ := machs_of e0 g0
    obtain ⟨bs, hbs⟩ := buns_of e1 g1
    obtain ⟨ts, hts⟩ := ints_of e2 g2
    rw [hms] at q0
    rw [hbs] at q1
    rw [hts] at q2
    exact ⟨⟨ms, bs, ts, k⟩, _, rfl, _, _, rfl, q0, _, _, rfl, q1, _, _, rfl, q2, _, _, rfl, rfl, rfl⟩
theorem lift_list (hv : Value.okWide Try.prog W r b0 24 v) (h : DataW.Trod enc Try.prog W base (fun _ => true) held 24 v d p) : ∃ l, V (κ0 W) (lN l) v := by
  obtain ⟨e0, g0, q0⟩ := lift_ints L.s24 hv h
  obtain ⟨l, hl⟩ := ints_of e0 g0
  rw [hl] at q0
  exact ⟨l, q0⟩
end
end Go.Proofs.Ytoadkchhimojlaa

