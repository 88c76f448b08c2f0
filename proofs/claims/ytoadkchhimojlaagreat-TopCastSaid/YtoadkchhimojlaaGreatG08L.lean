/- Contracts of functions of the given program, without a condition beyond those that each theorem states; they lead to the given statement. -/
import Derived.Test.YtoadkchhimojlaaGreatG04a
import Derived.Test.YtoadkchhimojlaaGreatG02a
import Derived.Test.YtoadkchhimojlaaGreatFlC
import Derived.Test.YtoadkchhimojlaaGreatRows
set_option linter.unusedSimpArgs false
set_option linter.unusedVariables false
set_option maxRecDepth 100000
namespace Go.Proofs.YtoadkchhimojlaaGreat
open Go Go.Fl Go.ChangeShapes Go.WideShapes Go.RowKit Go.Deep
open Classical
theorem L.own : ownKnob Tryz.prog.godebug = none := by kernel_rfl
theorem L.laid : laidOutB Tryz.prog = true := by kernel_rfl
theorem L.bool : Tryz.prog.underlying 4 = some .bool := by kernel_rfl
theorem L.h32 : structOk Tryz.prog 32 [30, 27, 24, 3] = true := by kernel_rfl
theorem L.s30 : sliceFlat Tryz.prog 30 3 = true := by kernel_rfl
theorem L.s22 : sliceFlat Tryz.prog 22 3 = true := by kernel_rfl
theorem L.s23 : sliceFlat Tryz.prog 23 3 = true := by kernel_rfl
theorem L.n27 : sliceNest Tryz.prog 27 1 = true := by kernel_rfl
theorem L.t27 : (match Tryz.prog.underlying 27 with | some (.slice _) => true | _ => false) = true := by kernel_rfl
theorem L.s24 : sliceFlat Tryz.prog 24 1 = true := by kernel_rfl
theorem L.i3 : intT Tryz.prog 3 = true := by kernel_rfl
theorem L.st29 : isStruct Tryz.prog 29 = true := by kernel_rfl
theorem L.ct29 : Tryz.prog.cellTypes Tryz.prog.depth 29 = some [22, 23, 24, 3, 24, 27] := by kernel_rfl
theorem L.cz29 : Tryz.prog.cellsOf 29 = 6 := by kernel_rfl
theorem L.f0 : fieldAt Tryz.prog 29 0 = some (0, 26) := by kernel_rfl
theorem L.f1 : fieldAt Tryz.prog 29 1 = some (4, 24) := by kernel_rfl
theorem L.f2 : fieldAt Tryz.prog 29 2 = some (5, 27) := by kernel_rfl
theorem L.g0 : fieldAt Tryz.prog 26 0 = some (0, 22) := by kernel_rfl
theorem L.g1 : fieldAt Tryz.prog 26 1 = some (1, 23) := by kernel_rfl
theorem L.g2 : fieldAt Tryz.prog 26 2 = some (2, 24) := by kernel_rfl
theorem L.g3 : fieldAt Tryz.prog 26 3 = some (3, 3) := by kernel_rfl
theorem L.c26 : Tryz.prog.cellsOf 26 = 4 := by kernel_rfl
theorem L.c22 : Tryz.prog.cellsOf 22 = 1 := by kernel_rfl
theorem L.c23 : Tryz.prog.cellsOf 23 = 1 := by kernel_rfl
theorem L.c24 : Tryz.prog.cellsOf 24 = 1 := by kernel_rfl
theorem L.c27 : Tryz.prog.cellsOf 27 = 1 := by kernel_rfl
theorem L.c3 : Tryz.prog.cellsOf 3 = 1 := by kernel_rfl
section
variable {H : Type} {enc : TypeId × Value → H} {W : World} {base : Nat} {held : Bool} {r : Reach} {b0 : Nat} {v : Value} {d : DataW H} {p : List MemPlace}
theorem moulds_of : ∀ ess : List (List Int), (∀ e, e ∈ ess → e.length = 3) → ∃ ts : List W2.Mould, (ess.map fun e => e.map iv) = ts.map W2.encD
  | [], _ => ⟨[], rfl⟩
  | e :: ess, h => by
    obtain ⟨ts, hts⟩ := moulds_of ess fun e he => h e (by simp [he])
    match e, h e (by simp) with
    | [a, b, c], _ => exact ⟨⟨a, b, c⟩ :: ts, by simp [hts, W2.encD]⟩
theorem machs_of : ∀ ess : List (List Int), (∀ e, e ∈ ess → e.length = 3) → ∃ ts : List Mach, (ess.map fun e => e.map iv) = ts.map encM
  | [], _ => ⟨[], rfl⟩
  | e :: ess, h => by
    obtain ⟨ts, hts⟩ := machs_of ess fun e he => h e (by simp [he])
    match e, h e (by simp) with
    | [a, b, c], _ => exact ⟨⟨a, b, c⟩ :: ts, by simp [hts, encM]⟩
theorem buns_of : ∀ ess : List (List Int), (∀ e, e ∈ ess → e.length = 3) → ∃ ts : List Bun, (ess.map fun e => e.map iv) = ts.map encB
  | [], _ => ⟨[], rfl⟩
  | e :: ess, h => by
    obtain ⟨ts, hts⟩ := buns_of ess fun e he => h e (by simp [he])
    match e, h e (by simp) with
    | [a, b, c], _ => exact ⟨⟨a, b, c⟩ :: ts, by simp [hts, encB]⟩
theorem ints_of : ∀ ess : List (List Int), (∀ e, e ∈ ess → e.length = 1) → ∃ ts : List Int, (ess.map fun e => e.map iv) = ts.map encN
  | [], _ => ⟨[], rfl⟩
  | e :: ess, h => by
    obtain ⟨ts, hts⟩ := ints_of ess fun e he => h e (by simp [he])
    match e, h e (by simp) with
    | [a], _ => exact ⟨a :: ts, by simp [hts, encN]⟩
theorem rows_of : ∀ esss : List (List (List Int)), (∀ ess, ess ∈ esss → ∀ e, e ∈ ess → e.length = 1) → ∃ ws : List (List Int), (esss.map fun ess => [AV.lst false 1 (ess.map fun e => e.map iv)]) = ws.map W2.encW
  | [], _ => ⟨[], rfl⟩
  | ess :: esss, h => by
    obtain ⟨ws, hws⟩ := rows_of esss fun e he => h e (by simp [he])
    obtain ⟨w, hw⟩ := ints_of ess (h ess (by simp))
    exact ⟨w :: ws, by simp [hws, hw, W2.encW, lN]⟩
theorem plans_of (esss : List (List (List Int))) (h : ∀ ess, ess ∈ esss → ∀ e, e ∈ ess → e.length = 1) : ∃ ws : List (List Int), (esss.map fun ess => [AV.lst false 1 (ess.map fun e => e.map iv)]) = ws.map encP := by
  obtain ⟨ws, hw⟩ := rows_of esss h
  exact ⟨ws, hw⟩
theorem lift_shop (hv : Value.okWide Tryz.prog W r b0 32 v) (h : DataW.Trod enc Tryz.prog W base (fun _ => true) held 32 v d p) : ∃ s, V (κ0 W) (W2.hS s) v := by
  obtain ⟨cs, rfl, hl, hc⟩ := lift_struct L.h32 hv h
  match cs, hl with
  | [c0, c1, c2, c3], _ =>
    obtain ⟨k0, n0, y0, t0⟩ := hc 0 c0 30 rfl rfl
    obtain ⟨k1, n1, y1, t1⟩ := hc 1 c1 27 rfl rfl
    obtain ⟨k2, n2, y2, t2⟩ := hc 2 c2 24 rfl rfl
    obtain ⟨k3, n3, y3, t3⟩ := hc 3 c3 3 rfl rfl
    obtain ⟨a0, l0, m0, rfl, sp0⟩ := cell_slice L.s30 k0
    obtain ⟨a1, l1, m1, rfl, sp1⟩ := cell_slice2 L.t27 k1
    obtain ⟨a2, l2, m2, rfl, sp2⟩ := cell_slice L.s24 k2
    obtain ⟨e0, g0, q0⟩ := lift_slice sp0 L.s30 t0
    obtain ⟨e1, g1, q1⟩ := lift_nest sp1 (by decide) (fun _ => rfl) L.n27 t1
    obtain ⟨e2, g2, q2⟩ := lift_slice sp2 L.s24 t2
    obtain ⟨k, rfl⟩ := read_int L.i3 t3
    obtain ⟨ms, hms⟩ := moulds_of e0 g0
    obtain ⟨ws, hws⟩ := rows_of e1 g1
    obtain ⟨wt, hwt⟩ := ints_of e2 g2
    rw [hms] at q0
    rw [hws] at q1
    rw [hwt] at q2
    exact ⟨⟨ms, ws, wt, k⟩, _, rfl, _, _, rfl, q0, _, _, rfl, q1, _, _, rfl, q2, _, _, rfl, rfl, rfl⟩
theorem lift_hall (hv : Value.okWide Tryz.prog W r b0 29 v) (h : DataW.Trod enc Tryz.prog W base (fun _ => true) held 29 v d p) : ∃ a, V (κ0 W) (hH a) v := by
  obtain ⟨cs, rfl, hl, hc, n, x, hx⟩ := lift_cells L.st29 L.ct29 L.cz29 hv h
  match cs, hl with
  | [c0, c1, c2, c3, c4, c5], _ =>
    have k0 := hc 0 c0 22 rfl rfl
    have k1 := hc 1 c1 23 rfl rfl
    have k2 := hc 2 c2 24 rfl rfl
    have k3 := hc 3 c3 3 rfl rfl
    have k4 := hc 4 c4 24 rfl rfl
    have k5 := hc 5 c5 27 rfl rfl
    obtain ⟨n0, y0, t0⟩ := trod_field L.f0 hx
    obtain ⟨n4, y4, t4⟩ := trod_field L.f1 hx
    obtain ⟨n5, y5, t5⟩ := trod_field L.f2 hx
    rw [L.c26] at t0
    rw [L.c24] at t4
    rw [L.c27] at t5
    simp only [List.drop_zero, List.take_succ_cons, List.take_zero, List.drop_succ_cons] at t0 t4 t5
    obtain ⟨m0, z0, u0⟩ := trod_field L.g0 t0
    obtain ⟨m1, z1, u1⟩ := trod_field L.g1 t0
    obtain ⟨m2, z2, u2⟩ := trod_field L.g2 t0
    obtain ⟨m3, z3, u3⟩ := trod_field L.g3 t0
    rw [L.c22] at u0
    rw [L.c23] at u1
    rw [L.c24] at u2
    rw [L.c3] at u3
    simp only [List.drop_zero, List.take_succ_cons, List.take_zero, List.drop_succ_cons] at u0 u1 u2 u3
    obtain ⟨a0, l0, w0, rfl, sp0⟩ := cell_slice L.s22 k0
    obtain ⟨a1, l1, w1, rfl, sp1⟩ := cell_slice L.s23 k1
    obtain ⟨a2, l2, w2, rfl, sp2⟩ := cell_slice L.s24 k2
    obtain ⟨a4, l4, w4, rfl, sp4⟩ := cell_slice L.s24 k4
    obtain ⟨a5, l5, w5, rfl, sp5⟩ := cell_slice2 L.t27 k5
    obtain ⟨e0, g0, q0⟩ := lift_slice sp0 L.s22 u0
    obtain ⟨e1, g1, q1⟩ := lift_slice sp1 L.s23 u1
    obtain ⟨e2, g2, q2⟩ := lift_slice sp2 L.s24 u2
    obtain ⟨e4, g4, q4⟩ := lift_slice sp4 L.s24 t4
    obtain ⟨e5, g5, q5⟩ := lift_nest sp5 (by decide) (fun _ => rfl) L.n27 t5
    obtain ⟨k, rfl⟩ := read_int L.i3 u3
    obtain ⟨ms, hms⟩ := machs_of e0 g0
    obtain ⟨bs, hbs⟩ := buns_of e1 g1
    obtain ⟨ts, hts⟩ := ints_of e2 g2
    obtain ⟨bo, hbo⟩ := ints_of e4 g4
    obtain ⟨es, hes⟩ := plans_of e5 g5
    rw [hms] at q0
    rw [hbs] at q1
    rw [hts] at q2
    rw [hbo] at q4
    rw [hes] at q5
    exact ⟨⟨⟨ms, bs, ts, k⟩, bo, es⟩, _, rfl, _, _, rfl, q0, _, _, rfl, q1, _, _, rfl, q2, _, _, rfl, rfl, _, _, rfl, q4, _, _, rfl, q5, rfl⟩
end
end Go.Proofs.YtoadkchhimojlaaGreat

