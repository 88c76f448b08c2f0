/- Contracts of functions of the given program, without a condition beyond those that each theorem states; they lead to the given statement. -/
import Derived.Test.YtjlopclpofbgbaaDoorF10g
import Derived.Test.YtjlopclpofbgbaaDoorFlC
import Derived.Test.YtjlopclpofbgbaaDoorTie
import Derived.Test.YtjlopclpofbgbaaDoorCards
import Derived.ProofKit
import Derived.OpenShut
import Derived.LaidMore
import Derived.Lay
import Derived.SevenTiedAt
import Derived.Stop.Joined
set_option linter.unusedSimpArgs false
set_option linter.unusedVariables false
set_option maxRecDepth 100000
namespace Go.Proofs.YtjlopclpofbgbaaDoor
open Go Go.Fl Go.ChangeShapes Go.WideShapes Go.RowKit Go.Deep Go.ChangeAt
open Classical
theorem L.own : ownKnob Tryd.prog.godebug = none := by kernel_rfl
theorem L.laid : laidOutB Tryd.prog = true := by kernel_rfl
theorem L.bool : Tryd.prog.underlying 4 = some .bool := by kernel_rfl
theorem L.i3 : intT Tryd.prog 3 = true := by kernel_rfl
theorem L.st28 : isStruct Tryd.prog 28 = true := by kernel_rfl
theorem L.ct28 : Tryd.prog.cellTypes Tryd.prog.depth 28 = some [22, 23, 26, 26, 26, 3] := by kernel_rfl
theorem L.cz28 : Tryd.prog.cellsOf 28 = 6 := by kernel_rfl
theorem L.f0 : fieldAt Tryd.prog 28 0 = some (0, 25) := by kernel_rfl
theorem L.f1 : fieldAt Tryd.prog 28 1 = some (2, 26) := by kernel_rfl
theorem L.f2 : fieldAt Tryd.prog 28 2 = some (3, 26) := by kernel_rfl
theorem L.f3 : fieldAt Tryd.prog 28 3 = some (4, 26) := by kernel_rfl
theorem L.f4 : fieldAt Tryd.prog 28 4 = some (5, 3) := by kernel_rfl
theorem L.g0 : fieldAt Tryd.prog 25 0 = some (0, 22) := by kernel_rfl
theorem L.g1 : fieldAt Tryd.prog 25 1 = some (1, 23) := by kernel_rfl
theorem L.c25 : Tryd.prog.cellsOf 25 = 2 := by kernel_rfl
theorem L.c22 : Tryd.prog.cellsOf 22 = 1 := by kernel_rfl
theorem L.c23 : Tryd.prog.cellsOf 23 = 1 := by kernel_rfl
theorem L.c26 : Tryd.prog.cellsOf 26 = 1 := by kernel_rfl
theorem L.c3 : Tryd.prog.cellsOf 3 = 1 := by kernel_rfl
theorem L.s22 : sliceR Tryd.prog 22 4 = true := by kernel_rfl
theorem L.s23 : sliceR Tryd.prog 23 3 = true := by kernel_rfl
theorem L.s26 : sliceR Tryd.prog 26 1 = true := by kernel_rfl
theorem L.m30 : structR Tryd.prog 30 5 = true := by kernel_rfl
theorem L.k59 : structR Tryd.prog 59 3 = true := by kernel_rfl
theorem L.b66 : structR Tryd.prog 66 2 = true := by kernel_rfl
section
variable {H : Type} {enc : TypeId × Value → H} {W : World} {base : Nat} {held : Bool} {r : Reach} {b0 : Nat} {v : Value} {d : DataW H} {p : List MemPlace}
theorem things_of : ∀ ess : List (List Int), (∀ e, e ∈ ess → e.length = 4 ∧ ∀ k, k ∈ e → I64 k) → ∃ ts : List Thing, (ess.map fun e => e.map iv) = ts.map encT
  | [], _ => ⟨[], rfl⟩
  | e :: ess, h => by
    obtain ⟨ts, hts⟩ := things_of ess fun e he => h e (by simp [he])
    match e, (h e (by simp)).1 with
    | [a, b, c, d], _ => exact ⟨⟨a, b, c, d⟩ :: ts, by simp [hts, encT]⟩
theorem marks_of : ∀ ess : List (List Int), (∀ e, e ∈ ess → e.length = 3 ∧ ∀ k, k ∈ e → I64 k) → ∃ ts : List Mark, (ess.map fun e => e.map iv) = ts.map encM
  | [], _ => ⟨[], rfl⟩
  | e :: ess, h => by
    obtain ⟨ts, hts⟩ := marks_of ess fun e he => h e (by simp [he])
    match e, (h e (by simp)).1 with
    | [a, b, c], _ => exact ⟨⟨a, b, c⟩ :: ts, by simp [hts, encM]⟩
theorem ints_of : ∀ ess : List (List Int), (∀ e, e ∈ ess → e.length = 1 ∧ ∀ k, k ∈ e → I64 k) → ∃ ts : List Int, (ess.map fun e => e.map iv) = ts.map encN ∧ ∀ k, k ∈ ts → I64 k
  | [], _ => ⟨[], rfl, by simp⟩
  | e :: ess, h => by
    obtain ⟨ts, hts, hI⟩ := ints_of ess fun e he => h e (by simp [he])
    match e, h e (by simp) with
    | [a], hh => exact ⟨a :: ts, by simp [hts, encN], fun k hk => by
        rcases List.mem_cons.1 hk with rfl | q
        · exact hh.2 k (by simp)
        · exact hI k q⟩
theorem lift_town (hv : Value.okWide Tryd.prog W r b0 28 v) (h : DataW.Trod enc Tryd.prog W base (fun _ => true) held 28 v d p) : ∃ t : Town, V (κ0 W) (hF t) v := by
  obtain ⟨cs, rfl, hl, hc, n, x, hx⟩ := lift_cells L.st28 L.ct28 L.cz28 hv h
  match cs, hl with
  | [c0, c1, c2, c3, c4, c5], _ =>
    have k0 := hc 0 c0 22 rfl rfl
    have k1 := hc 1 c1 23 rfl rfl
    have k2 := hc 2 c2 26 rfl rfl
    have k3 := hc 3 c3 26 rfl rfl
    have k4 := hc 4 c4 26 rfl rfl
    have k5 := hc 5 c5 3 rfl rfl
    obtain ⟨n0, y0, t0⟩ := trod_field L.f0 hx
    obtain ⟨n2, y2, t2⟩ := trod_field L.f1 hx
    obtain ⟨n3, y3, t3⟩ := trod_field L.f2 hx
    obtain ⟨n4, y4, t4⟩ := trod_field L.f3 hx
    obtain ⟨n5, y5, t5⟩ := trod_field L.f4 hx
    rw [L.c25] at t0
    rw [L.c26] at t2 t3 t4
    rw [L.c3] at t5
    simp only [List.drop_zero, List.take_succ_cons, List.take_zero, List.drop_succ_cons] at t0 t2 t3 t4 t5
    obtain ⟨m0, z0, u0⟩ := trod_field L.g0 t0
    obtain ⟨m1, z1, u1⟩ := trod_field L.g1 t0
    rw [L.c22] at u0
    rw [L.c23] at u1
    simp only [List.drop_zero, List.take_succ_cons, List.take_zero, List.drop_succ_cons] at u0 u1
    obtain ⟨a0, l0, w0, rfl, sp0⟩ := cell_slice2 (sliceR_is L.s22) k0
    obtain ⟨a1, l1, w1, rfl, sp1⟩ := cell_slice2 (sliceR_is L.s23) k1
    obtain ⟨a2, l2, w2, rfl, sp2⟩ := cell_slice2 (sliceR_is L.s26) k2
    obtain ⟨a3, l3, w3, rfl, sp3⟩ := cell_slice2 (sliceR_is L.s26) k3
    obtain ⟨a4, l4, w4, rfl, sp4⟩ := cell_slice2 (sliceR_is L.s26) k4
    obtain ⟨e0, g0, q0⟩ := lift_sliceR sp0 L.s22 u0
    obtain ⟨e1, g1, q1⟩ := lift_sliceR sp1 L.s23 u1
    obtain ⟨e2, g2, q2⟩ := lift_sliceR sp2 L.s26 t2
    obtain ⟨e3, g3, q3⟩ := lift_sliceR sp3 L.s26 t3
    obtain ⟨e4, g4, q4⟩ := lift_sliceR sp4 L.s26 t4
    obtain ⟨k, rfl⟩ := read_int L.i3 t5
    obtain ⟨ts, hts⟩ := things_of e0 g0
    obtain ⟨ms, hms⟩ := marks_of e1 g1
    obtain ⟨pl, hpl, _⟩ := ints_of e2 g2
    obtain ⟨ca, hca, _⟩ := ints_of e3 g3
    obtain ⟨rm, hrm, _⟩ := ints_of e4 g4
    rw [hts] at q0
    rw [hms] at q1
    rw [hpl] at q2
    rw [hca] at q3
    rw [hrm] at q4
    exact ⟨⟨ts, ms, pl, ca, rm, k⟩, _, rfl, _, _, rfl, q0, _, _, rfl, q1, _, _, rfl, q2, _, _, rfl, q3, _, _, rfl, q4, _, _, rfl, rfl, rfl⟩
theorem lift_n (hv : Value.okWide Tryd.prog W r b0 3 v) (h : DataW.Trod enc Tryd.prog W base (fun _ => true) held 3 v d p) : ∃ a : Int, V (κ0 W) (.int .i64 a) v := by
  obtain ⟨a, rfl⟩ := lift_int L.i3 hv h
  exact ⟨a, rfl⟩
theorem lift_list (hv : Value.okWide Tryd.prog W r b0 26 v) (h : DataW.Trod enc Tryd.prog W base (fun _ => true) held 26 v d p) : ∃ l : List Int, V (κ0 W) (lN l) v := by
  obtain ⟨e0, g0, q0⟩ := lift_intsR L.s26 hv h
  obtain ⟨l, hl, hI⟩ := ints_of e0 g0
  rw [hl] at q0
  exact ⟨l, q0⟩
theorem lift_more (hv : Value.okWide Tryd.prog W r b0 30 v) (h : DataW.Trod enc Tryd.prog W base (fun _ => true) held 30 v d p) : ∃ a b c d e : Int, V (κ0 W) (.agg [.int .i64 a, .int .i64 b, .int .i64 c, .int .i64 d, .int .i64 e]) v ∧ ∀ k, k ∈ [a, b, c, d, e] → I64 k := by
  obtain ⟨ns, h1, h2, h3⟩ := lift_structR L.m30 hv h
  match ns, h1 with
  | [a, b, c, d, e], _ =>
    obtain ⟨arr, e1, e2⟩ := h3
    exact ⟨a, b, c, d, e, ⟨arr, e1, VL.of_pvl (κ := κ0 W) _ _ e2⟩, h2⟩
theorem lift_burns (hv : Value.okWide Tryd.prog W r b0 66 v) (h : DataW.Trod enc Tryd.prog W base (fun _ => true) held 66 v d p) : ∃ a b : Int, V (κ0 W) (.agg [.int .i64 a, .int .i64 b]) v := by
  obtain ⟨ns, h1, h2, h3⟩ := lift_structR L.b66 hv h
  match ns, h1 with
  | [a, b], _ =>
    obtain ⟨arr, e1, e2⟩ := h3
    exact ⟨a, b, arr, e1, VL.of_pvl (κ := κ0 W) _ _ e2⟩
theorem lift_mark (hv : Value.okWide Tryd.prog W r b0 59 v) (h : DataW.Trod enc Tryd.prog W base (fun _ => true) held 59 v d p) : ∃ m : Mark, V (κ0 W) (.agg (encM m)) v := by
  obtain ⟨ns, h1, h2, h3⟩ := lift_structR L.k59 hv h
  match ns, h1 with
  | [a, b, c], _ =>
    obtain ⟨arr, e1, e2⟩ := h3
    exact ⟨⟨a, b, c⟩, arr, e1, VL.of_pvl (κ := κ0 W) _ _ e2⟩
end
abbrev laidL : List (String × DataW Unit) := [("math/bits.deBruijn32tab", Rows.laid_math_bits_deBruijn32tab), ("math/bits.deBruijn64tab", Rows.laid_math_bits_deBruijn64tab)]
def tabN : List Int := (gtab.head?.map (·.2.2)).getD []
theorem tab_len : tabN.length = 64 := by kernel_rfl
theorem tab_dat : (Rows.laid_math_bits_deBruijn64tab : DataW Unit) = .agg (tabN.map fun n => .lit (.int .u8 n)) := by kernel_rfl
theorem L.u137 : Tryd.prog.underlying 137 = some (.array 64 5) := by kernel_rfl
theorem L.u5 : Tryd.prog.underlying 5 = some (.int .u8) := by kernel_rfl
theorem tab_cell {W : World} (h : laidMetH Tryd.prog laidL W) (r : Nat) (hr : r < 64) : W.cell? ⟨1, r, none⟩ = some (.int .u8 (tabN.getD r 0)) := by
  rw [MakeChecks.laidMetH_plain _ _ _ (by kernel_rfl)] at h
  obtain ⟨ps, ⟨_, _, _, _, _, _, _, _, _, _, ⟨g, t, cs, fuel, p, q, hg, ht, hv, hd, _, _⟩, _⟩, _, _⟩ := h
  obtain rfl := Option.some.inj ((show Tryd.prog.globalNamed "math/bits.deBruijn64tab" = some 1 by kernel_rfl).symm.trans hg)
  obtain rfl := Option.some.inj ((show (Tryd.prog.globals[1]?).map (·.type) = some 137 by kernel_rfl).symm.trans ht)
  obtain ⟨xs, m, _, ex, _, hl, hel⟩ := DataW.trod_array L.u137 hd
  have c5 : Tryd.prog.cellsOf 5 = 1 := by kernel_rfl
  have hE := hel r hr
  rw [c5, Nat.mul_one, List.getElem?_eq_getElem (by omega)] at hE
  obtain ⟨z, e1, e2, _⟩ := DataW.trod_int L.u5 hE
  have hlen := tab_len
  have e3 : (xs.map (·.1)) = tabN.map fun n => .lit (.int .u8 n) := by
    have := (Prod.mk.inj ex).1
    rw [tab_dat] at this
    exact (DataW.agg.inj this).symm
  have e4 : (xs.map (·.1))[r]? = (tabN.map fun n => (DataW.lit (.int .u8 n) : DataW Unit))[r]? := by rw [e3]
  rw [List.getElem?_map, List.getElem?_map, List.getElem?_eq_getElem (by omega : r < xs.length), List.getElem?_eq_getElem (by omega : r < tabN.length), e2] at e4
  have hz : z = tabN.getD r 0 := by
    simp only [Option.map_some, Option.some.injEq, DataW.lit.injEq, Lit.int.injEq, true_and] at e4
    rw [e4, List.getD, List.getElem?_eq_getElem (by omega : r < tabN.length)]; rfl
  rw [World.var?_cell hg hv r, ← hz]
  have : cs.toList[r]? = some (.int .u8 z) := by
    have h0 : ((cs.toList.drop r).take 1)[0]? = some (.int .u8 z) := by rw [e1]; rfl
    simpa using h0
  simpa using this
theorem tab_gl {W : World} (h : laidMetH Tryd.prog laidL W) : ∀ x, x ∈ gtab → PVC (S0 W) W (x.2.2.map (.int x.2.1)) ⟨x.1, 0, none⟩ := by
  intro x hx
  have e : gtab = [(1, .u8, tabN)] := by kernel_rfl
  rw [e, List.mem_singleton] at hx
  subst hx
  refine pvc_of_cells tabN 0 fun i hi => ?_
  have hc := tab_cell h i (by rw [tab_len] at hi; exact hi)
  rw [Nat.zero_add]
  exact ⟨hc, by show (W.cell? _).isSome = true; rw [hc]; rfl⟩
end Go.Proofs.YtjlopclpofbgbaaDoor

