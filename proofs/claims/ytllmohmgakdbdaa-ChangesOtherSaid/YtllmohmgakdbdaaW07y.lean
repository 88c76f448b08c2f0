/- Contracts of functions of the given program, without a condition beyond those that each theorem states; they lead to the given statement. -/
import Derived.Test.YtllmohmgakdbdaaW07x
import Derived.Test.YtllmohmgakdbdaaFlB
import Derived.Test.YtllmohmgakdbdaaRows
set_option linter.unusedSimpArgs false
set_option linter.unusedVariables false
set_option maxRecDepth 100000
namespace Go.Proofs.Ytllmohmgakdbdaa
open Go Go.Fl Go.ChangeShapes Go.WideShapes Go.RowKit Go.Deep
open Classical
theorem L.own : ownKnob Try.prog.godebug = none := by kernel_rfl
theorem L.laid : laidOutB Try.prog = true := by kernel_rfl
theorem L.bool : Try.prog.underlying 4 = some .bool := by kernel_rfl
theorem L.h25 : structOk Try.prog 25 [22, 23] = true := by kernel_rfl
theorem L.h27 : structOk Try.prog 27 [3, 3, 3] = true := by kernel_rfl
theorem L.h57 : structOk Try.prog 57 [3, 3, 3] = true := by kernel_rfl
theorem L.h41 : structOk Try.prog 41 [3, 3] = true := by kernel_rfl
theorem L.s22 : sliceFlat Try.prog 22 4 = true := by kernel_rfl
theorem L.s23 : sliceFlat Try.prog 23 3 = true := by kernel_rfl
theorem L.s28 : sliceFlat Try.prog 28 1 = true := by kernel_rfl
theorem L.i3 : intT Try.prog 3 = true := by kernel_rfl
section
variable {H : Type} {enc : TypeId × Value → H} {W : World} {base : Nat} {spare : Nat → Bool} {held : Bool} {r : Reach} {b0 : Nat} {v : Value} {d : DataW H} {p : List MemPlace}
theorem things_of : ∀ ess : List (List Int), (∀ e, e ∈ ess → e.length = 4) → ∃ ts : List Thing, (ess.map fun e => e.map iv) = ts.map encT
  | [], _ => ⟨[], rfl⟩
  | e :: ess, h => by
    obtain ⟨ts, hts⟩ := things_of ess fun e he => h e (by simp [he])
    match e, h e (by simp) with
    | [a, b, c, d], _ => exact ⟨⟨a, b, c, d⟩ :: ts, by simp [hts, encT]⟩
theorem marks_of : ∀ ess : List (List Int), (∀ e, e ∈ ess → e.length = 3) → ∃ ts : List Mark, (ess.map fun e => e.map iv) = ts.map encM
  | [], _ => ⟨[], rfl⟩
  | e :: ess, h => by
    obtain ⟨ts, hts⟩ := marks_of ess fun e he => h e (by simp [he])
    match e, h e (by simp) with
    | [a, b, c], _ => exact ⟨⟨a, b, c⟩ :: ts, by simp [hts, encM]⟩
theorem ints_of : ∀ ess : List (List Int), (∀ e, e ∈ ess → e.length = 1) → ∃ ts : List Int, (ess.map fun e => e.map iv) = ts.map encN
  | [], _ => ⟨[], rfl⟩
  | e :: ess, h => by
    obtain ⟨ts, hts⟩ := ints_of ess fun e he => h e (by simp [he])
    match e, h e (by simp) with
    | [a], _ => exact ⟨a :: ts, by simp [hts, encN]⟩
theorem lift_house (hv : Value.okWide Try.prog W r b0 25 v) (h : DataW.Trod enc Try.prog W base spare held 25 v d p) : ∃ ts ms, V (κ0 W) (hT ts ms) v := by
  obtain ⟨cs, rfl, hl, hc⟩ := lift_struct L.h25 hv h
  match cs, hl with
  | [c0, c1], _ =>
    obtain ⟨k0, n0, y0, t0⟩ := hc 0 c0 22 rfl rfl
    obtain ⟨k1, n1, y1, t1⟩ := hc 1 c1 23 rfl rfl
    obtain ⟨a0, l0, m0, rfl, sp0⟩ := cell_slice L.s22 k0
    obtain ⟨a1, l1, m1, rfl, sp1⟩ := cell_slice L.s23 k1
    obtain ⟨e0, g0, q0⟩ := lift_slice sp0 L.s22 t0
    obtain ⟨e1, g1, q1⟩ := lift_slice sp1 L.s23 t1
    obtain ⟨ts, hts⟩ := things_of e0 g0
    obtain ⟨ms, hms⟩ := marks_of e1 g1
    rw [hts] at q0
    rw [hms] at q1
    exact ⟨ts, ms, _, rfl, _, _, rfl, q0, _, _, rfl, q1, rfl⟩
theorem lift_int3 {t : TypeId} (ht : structOk Try.prog t [3, 3, 3] = true) (hv : Value.okWide Try.prog W r b0 t v) (h : DataW.Trod enc Try.prog W base spare held t v d p) : ∃ a b c : Int, V (κ0 W) (.agg [.int .i64 a, .int .i64 b, .int .i64 c]) v := by
  obtain ⟨cs, rfl, hl, hc⟩ := lift_struct ht hv h
  match cs, hl with
  | [c0, c1, c2], _ =>
    obtain ⟨_, n0, y0, t0⟩ := hc 0 c0 3 rfl rfl
    obtain ⟨_, n1, y1, t1⟩ := hc 1 c1 3 rfl rfl
    obtain ⟨_, n2, y2, t2⟩ := hc 2 c2 3 rfl rfl
    obtain ⟨a, rfl⟩ := read_int L.i3 t0
    obtain ⟨b, rfl⟩ := read_int L.i3 t1
    obtain ⟨c, rfl⟩ := read_int L.i3 t2
    exact ⟨a, b, c, _, rfl, _, _, rfl, rfl, _, _, rfl, rfl, _, _, rfl, rfl, rfl⟩
theorem lift_int2 {t : TypeId} (ht : structOk Try.prog t [3, 3] = true) (hv : Value.okWide Try.prog W r b0 t v) (h : DataW.Trod enc Try.prog W base spare held t v d p) : ∃ a b : Int, V (κ0 W) (.agg [.int .i64 a, .int .i64 b]) v := by
  obtain ⟨cs, rfl, hl, hc⟩ := lift_struct ht hv h
  match cs, hl with
  | [c0, c1], _ =>
    obtain ⟨_, n0, y0, t0⟩ := hc 0 c0 3 rfl rfl
    obtain ⟨_, n1, y1, t1⟩ := hc 1 c1 3 rfl rfl
    obtain ⟨a, rfl⟩ := read_int L.i3 t0
    obtain ⟨b, rfl⟩ := read_int L.i3 t1
    exact ⟨a, b, _, rfl, _, _, rfl, rfl, _, _, rfl, rfl, rfl⟩
theorem lift_n (hv : Value.okWide Try.prog W r b0 3 v) (h : DataW.Trod enc Try.prog W base spare held 3 v d p) : ∃ a : Int, V (κ0 W) (.int .i64 a) v := by
  obtain ⟨a, rfl⟩ := lift_int L.i3 hv h
  exact ⟨a, rfl⟩
theorem lift_list (hv : Value.okWide Try.prog W r b0 28 v) (h : DataW.Trod enc Try.prog W base spare held 28 v d p) : ∃ l, V (κ0 W) (lN l) v := by
  obtain ⟨e0, g0, q0⟩ := lift_ints L.s28 hv h
  obtain ⟨l, hl⟩ := ints_of e0 g0
  rw [hl] at q0
  exact ⟨l, q0⟩
end
theorem L.params11 : Try.f11.params = #[25, 3] := by kernel_rfl
theorem all_lifted (os : Os) (started : os.Started) (H : Type) (enc : TypeId × Value → H) :
    ReturnsInHanded {} Try.checked os 11 .any (Rows.changesAllSpec.pre6 enc Try.prog Try.f11 Rows.changesAllRow.domain false) (Rows.changesAllSpec.post enc Try.prog Try.f11 false true false false) := by
  refine law_lifted (C := Try.checked) (tb := 4) L.own started (by kernel_rfl) Try.func11
    (ChangeSpec.witness6 (enc := enc) (C := Try.checked) false ⟨#[], #[.agg #[.slice none 0 0, .slice none 0 0], .int .i64 0], []⟩ 8 (by kernel_rfl) (by kernel_rfl) (by kernel_rfl) (by kernel_rfl))
    (by kernel_rfl) L.bool rfl (fun ds hd => ?_) L.laid (by kernel_rfl) ?_
  · rw [L.params11] at hd
    match ds, hd with
    | [a, b], _ => rfl
  · intro W base args ds p hval hA
    rw [L.params11] at hA hval
    obtain ⟨v0, v1, d0, d1, p0, p1, rfl, rfl, rfl, h0, h1⟩ := trodAll_two hA
    obtain ⟨ts, ms, q0⟩ := lift_house (hval 0 25 v0 rfl rfl) h0
    obtain ⟨n, q1⟩ := lift_n (hval 1 3 v1 rfl rfl) h1
    exact ⟨_, c11 ts ms n, _, _, rfl, q0, _, _, rfl, q1, rfl⟩
theorem changesAll : Rows.ChangesAllSaid :=
  OpenClaim.holds_of_wide 11 Try.f11 rfl rfl rfl rfl rfl rfl rfl ⟨rfl, rfl, rfl, rfl, rfl⟩ rfl rfl rfl rfl rfl (by kernel_rfl) Try.func11 (by kernel_rfl)
    (of_decide_eq_true (by kernel_rfl)) (by unfold Func.isWrapper; first | (rw [if_pos (by decide +kernel)]; kernel_rfl) | (rw [if_neg (by decide +kernel)]; exact ⟨rfl, rfl⟩))
    (fun os started H enc _ => all_lifted os started H enc)
end Go.Proofs.Ytllmohmgakdbdaa
