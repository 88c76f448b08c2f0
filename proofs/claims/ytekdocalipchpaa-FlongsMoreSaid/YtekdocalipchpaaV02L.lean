/- Contracts of functions of the given program, without a condition beyond those that each theorem states; they lead to the given statement. -/
import Derived.Test.YtekdocalipchpaaV02a
import Derived.Test.YtekdocalipchpaaFlC
import Derived.Test.YtekdocalipchpaaRows
set_option linter.unusedSimpArgs false
set_option linter.unusedVariables false
set_option maxRecDepth 100000
namespace Go.Proofs.Ytekdocalipchpaa
open Go Go.Fl Go.ChangeShapes Go.WideShapes Go.RowKit Go.Deep
open Classical
theorem L.own : ownKnob Try.prog.godebug = none := by kernel_rfl
theorem L.laid : laidOutB Try.prog = true := by kernel_rfl
theorem L.bool : Try.prog.underlying 4 = some .bool := by kernel_rfl
theorem L.h26 : structOk Try.prog 26 [22, 23, 24, 3] = true := by kernel_rfl
theorem L.s22 : sliceFlat Try.prog 22 3 = true := by kernel_rfl
theorem L.n23 : sliceNest Try.prog 23 1 = true := by kernel_rfl
theorem L.t23 : (match Try.prog.underlying 23 with | some (.slice _) => true | _ => false) = true := by kernel_rfl
theorem L.s24 : sliceFlat Try.prog 24 1 = true := by kernel_rfl
theorem L.i3 : intT Try.prog 3 = true := by kernel_rfl
section
variable {H : Type} {enc : TypeId × Value → H} {W : World} {base : Nat} {held : Bool} {r : Reach} {b0 : Nat} {v : Value} {d : DataW H} {p : List MemPlace}
theorem moulds_of : ∀ ess : List (List Int), (∀ e, e ∈ ess → e.length = 3) → ∃ ts : List Mould, (ess.map fun e => e.map iv) = ts.map encD
  | [], _ => ⟨[], rfl⟩
  | e :: ess, h => by
    obtain ⟨ts, hts⟩ := moulds_of ess fun e he => h e (by simp [he])
    match e, h e (by simp) with
    | [a, b, c], _ => exact ⟨⟨a, b, c⟩ :: ts, by simp [hts, encD]⟩
theorem ints_of : ∀ ess : List (List Int), (∀ e, e ∈ ess → e.length = 1) → ∃ ts : List Int, (ess.map fun e => e.map iv) = ts.map encN
  | [], _ => ⟨[], rfl⟩
  | e :: ess, h => by
    obtain ⟨ts, hts⟩ := ints_of ess fun e he => h e (by simp [he])
    match e, h e (by simp) with
    | [a], _ => exact ⟨a :: ts, by simp [hts, encN]⟩
theorem rows_of : ∀ esss : List (List (List Int)), (∀ ess, ess ∈ esss → ∀ e, e ∈ ess → e.length = 1) → ∃ ws : List (List Int), (esss.map fun ess => [AV.lst false 1 (ess.map fun e => e.map iv)]) = ws.map encW
  | [], _ => ⟨[], rfl⟩
  | ess :: esss, h => by
    obtain ⟨ws, hws⟩ := rows_of esss fun e he => h e (by simp [he])
    obtain ⟨w, hw⟩ := ints_of ess (h ess (by simp))
    exact ⟨w :: ws, by simp [hws, hw, encW, lN]⟩
theorem lift_shop (hv : Value.okWide Try.prog W r b0 26 v) (h : DataW.Trod enc Try.prog W base (fun _ => true) held 26 v d p) : ∃ s, V (κ0 W) (hS s) v := by
  obtain ⟨cs, rfl, hl, hc⟩ := lift_struct L.h26 hv h
  match cs, hl with
  | [c0, c1, c2, c3], _ =>
    obtain ⟨k0, n0, y0, t0⟩ := hc 0 c0 22 rfl rfl
    obtain ⟨k1, n1, y1, t1⟩ := hc 1 c1 23 rfl rfl
    obtain ⟨k2, n2, y2, t2⟩ := hc 2 c2 24 rfl rfl
    obtain ⟨k3, n3, y3, t3⟩ := hc 3 c3 3 rfl rfl
    obtain ⟨a0, l0, m0, rfl, sp0⟩ := cell_slice L.s22 k0
    obtain ⟨a1, l1, m1, rfl, sp1⟩ := cell_slice2 L.t23 k1
    obtain ⟨a2, l2, m2, rfl, sp2⟩ := cell_slice L.s24 k2
    obtain ⟨e0, g0, q0⟩ := lift_slice sp0 L.s22 t0
    obtain ⟨e1, g1, q1⟩ := lift_nest sp1 (by decide) (fun _ => rfl) L.n23 t1
    obtain ⟨e2, g2, q2⟩ := lift_slice sp2 L.s24 t2
    obtain ⟨k, rfl⟩ := read_int L.i3 t3
    obtain ⟨ms, hms⟩ := moulds_of e0 g0
    obtain ⟨ws, hws⟩ := rows_of e1 g1
    obtain ⟨wt, hwt⟩ := ints_of e2 g2
    rw [hms] at q0
    rw [hws] at q1
    rw [hwt] at q2
    exact ⟨⟨ms, ws, wt, k⟩, _, rfl, _, _, rfl, q0, _, _, rfl, q1, _, _, rfl, q2, _, _, rfl, rfl, rfl⟩
theorem lift_n (hv : Value.okWide Try.prog W r b0 3 v) (h : DataW.Trod enc Try.prog W base (fun _ => true) held 3 v d p) : ∃ a : Int, V (κ0 W) (.int .i64 a) v := by
  obtain ⟨a, rfl⟩ := lift_int L.i3 hv h
  exact ⟨a, rfl⟩
theorem lift_list (hv : Value.okWide Try.prog W r b0 24 v) (h : DataW.Trod enc Try.prog W base (fun _ => true) held 24 v d p) : ∃ l, V (κ0 W) (lN l) v := by
  obtain ⟨e0, g0, q0⟩ := lift_ints L.s24 hv h
  obtain ⟨l, hl⟩ := ints_of e0 g0
  rw [hl] at q0
  exact ⟨l, q0⟩
end
end Go.Proofs.Ytekdocalipchpaa

