/- Contracts of functions of the given program, without a condition beyond those that each theorem states; they lead to the given statement. -/
import Derived.Test.YtllmohmgakdbdaaW07i
set_option linter.unusedSimpArgs false
set_option linter.unusedVariables false
set_option maxRecDepth 100000
namespace Go.Proofs.Ytllmohmgakdbdaa
open Go Go.Fl
open Classical
def ownBy (ms : List Mark) (i b : Int) : Bool := decide (0 ≤ b) && (match ms[b.toNat]? with | some m => decide (m.thing = i) | none => false)
def mkStep (ms : List Mark) (i c : Int) (n : Nat) (m : Mark) (x : Int × Int) : Int × Int :=
  if m.thing = i ∧ m.change = c ∧ (m.at_ < x.1 ∨ m.at_ = x.1 ∧ ownBy ms i x.2 = false) then (m.at_, (n : Int)) else x
def mk (ms : List Mark) (i c : Int) : Nat → Int × Int → Int × Int
  | 0, x => x
  | n + 1, x => match ms[n]? with | some m => mkStep ms i c n m (mk ms i c n x) | none => mk ms i c n x
def init (s b : List Int) (t : Thing) : Int × Int := if t.of ≠ -1 ∧ (s[t.of.toNat]?).getD 0 ≤ t.at_ then (t.at_, (b[t.of.toNat]?).getD 0) else (100, -1)
def fo (ts : List Thing) (ms : List Mark) (c : Int) : Nat → List Int × List Int
  | 0 => (List.replicate 8 0, List.replicate 8 0)
  | j + 1 => match ts[j]? with
    | some t => ((fo ts ms c j).1.set j (mk ms j c ms.length (init (fo ts ms c j).1 (fo ts ms c j).2 t)).1, (fo ts ms c j).2.set j (mk ms j c ms.length (init (fo ts ms c j).1 (fo ts ms c j).2 t)).2)
    | none => fo ts ms c j
theorem fo_len (ts : List Thing) (ms : List Mark) (c : Int) : ∀ j, (fo ts ms c j).1.length = 8 ∧ (fo ts ms c j).2.length = 8
  | 0 => by simp [fo]
  | j + 1 => by
    have := fo_len ts ms c j
    unfold fo; split <;> simp [this]
theorem ownBy_of {ms : List Mark} {i b : Int} {m : Mark} (h0 : 0 ≤ b) (hm : ms[b.toNat]? = some m) : ownBy ms i b = decide (m.thing = i) := by simp [ownBy, h0, hm]
theorem ownBy_no {ms : List Mark} {i b : Int} (h0 : ¬ 0 ≤ b) : ownBy ms i b = false := by simp [ownBy, h0]
theorem get_b {s b : List Int} (h8 : s.length = 8) {k : Nat} : (s.map I ++ b.map I)[8 + k]? = (b[k]?).map I := by
  rw [List.getElem?_append_right (by simp; omega)]; simp [h8]
theorem drop_b {s b : List Int} (h8 : s.length = 8) : List.drop 8 (s.map I ++ b.map I) = b.map I := by
  rw [List.drop_append_of_le_length (by simp [h8]), List.drop_eq_nil_of_le (by simp [h8])]; rfl
theorem get_s {s b : List Int} {k : Nat} (hk : k < s.length) : (s.map I ++ b.map I)[k]? = (s[k]?).map I := by
  rw [List.getElem?_append_left (by simpa using hk)]; simp
theorem c91 (ts : List Thing) (ms : List Mark) (c : Int) (s b : List Int) (h8 : s.length = 8) (i x : Int) (hi : 0 ≤ i ∧ i < 8) (hx : b[i.toNat]? = some x) (hxb : x < ms.length) : PC Try.prog 91 [hX ts ms c s b, .int .i64 i] (.bool (ownBy ms i x)) := by
  have hx2 : (List.drop 8 (s.map I ++ b.map I))[i.toNat]? = some (.int .i64 x) := by
    rw [drop_b h8]; simp [hx, I]
  by_cases h0 : 0 ≤ x
  · obtain ⟨m, hm⟩ := get_of (l := ms) (j := x.toNat) (by omega)
    rw [ownBy_of h0 hm]
    refine PC.body Try.func91 (by kernel_rfl) rfl (by simp [Try.f91]) rfl ?_
    simp only [Try.f91]
    intro hlen
    simp only [go_sem, List.length_map, and_true, true_and] at hlen
    refine CV.run ?_
    (repeat' (first | ((first | with_reducible refine vcG_split ?_ ?_ | with_reducible refine vcIf_split ?_ ?_ | with_reducible refine vcQ_split ?_ ?_ | with_reducible refine vcDG_split ?_ ?_) <;> intro hb <;> (try rw [hb]) <;> (try simp only [Bool.and_eq_true, Bool.or_eq_true, dtrue, dfalse, Bool.not_eq_true', Bool.not_eq_false', Bool.and_eq_false_iff, Bool.or_eq_false_iff, Bool.not_true, Bool.not_false] at hb) <;> (try simp only [within] at hb) <;> try (simp only [go_sem, drop_head, hx2, Nat.mul_one, h0, hm, encM])) | refine And.intro (by (first | exact trivial | (simp only [I64]; omega) | omega)) ?_ | fail | (simp only [go_sem, drop_head, hx2, Nat.mul_one, h0, hm, encM])))
    all_goals omega
  · rw [ownBy_no h0]
    refine PC.body Try.func91 (by kernel_rfl) rfl (by simp [Try.f91]) rfl ?_
    simp only [Try.f91]
    intro hlen
    simp only [go_sem, List.length_map, and_true, true_and] at hlen
    refine CV.run ?_
    (repeat' (first | ((first | with_reducible refine vcG_split ?_ ?_ | with_reducible refine vcIf_split ?_ ?_ | with_reducible refine vcQ_split ?_ ?_ | with_reducible refine vcDG_split ?_ ?_) <;> intro hb <;> (try rw [hb]) <;> (try simp only [Bool.and_eq_true, Bool.or_eq_true, dtrue, dfalse, Bool.not_eq_true', Bool.not_eq_false', Bool.and_eq_false_iff, Bool.or_eq_false_iff, Bool.not_true, Bool.not_false] at hb) <;> (try simp only [within] at hb) <;> try (simp only [go_sem, drop_head, hx2, Nat.mul_one, h0])) | refine And.intro (by (first | exact trivial | (simp only [I64]; omega) | omega)) ?_ | fail | (simp only [go_sem, drop_head, hx2, Nat.mul_one, h0])))
    all_goals omega
theorem c71 (ts : List Thing) (ms : List Mark) (c : Int) (s b : List Int) (i m : Int) (t : Thing) (hi : 0 ≤ i) (ht : ts[i.toNat]? = some t) : PC Try.prog 71 [hX ts ms c s b, .int .i64 i, .int .i64 m] (.bool (decide (t.at_ ≤ m))) := by
  have hlt := (List.getElem?_eq_some_iff.1 ht).1
  have h3 : 0 ≤ i ∧ i < ts.length := by omega
  refine PC.body Try.func71 (by kernel_rfl) rfl (by simp [Try.f71]) rfl ?_
  simp only [Try.f71]
  intro hlen
  simp only [go_sem, List.length_map, and_true, true_and] at hlen
  refine CV.run ?_
  (repeat' (first | ((first | with_reducible refine vcG_split ?_ ?_ | with_reducible refine vcIf_split ?_ ?_ | with_reducible refine vcQ_split ?_ ?_ | with_reducible refine vcDG_split ?_ ?_) <;> intro hb <;> (try rw [hb]) <;> (try simp only [Bool.and_eq_true, Bool.or_eq_true, dtrue, dfalse, Bool.not_eq_true', Bool.not_eq_false', Bool.and_eq_false_iff, Bool.or_eq_false_iff, Bool.not_true, Bool.not_false] at hb) <;> (try simp only [within] at hb) <;> try (simp only [go_sem, ht, hi, h3, encT])) | refine And.intro (by (first | exact trivial | (simp only [I64]; omega) | omega)) ?_ | fail | (simp only [go_sem, ht, hi, h3, encT])))
end Go.Proofs.Ytllmohmgakdbdaa
