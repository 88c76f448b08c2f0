/- Contracts of functions of the given program, without a condition beyond those that each theorem states; they lead to the given statement. -/
import Derived.Test.YtjlopclpofbgbaaDoorF11d
import Derived.Test.YtjlopclpofbgbaaDoorF10w
import Derived.Test.YtjlopclpofbgbaaDoorF10x
set_option linter.unusedSimpArgs false
set_option linter.unusedVariables false
set_option maxRecDepth 100000
namespace Go.Proofs.YtjlopclpofbgbaaDoor
open Go Go.Fl
open Classical
theorem one_sel {q : Nat → Prop} : ∀ {n : Nat}, 1 ≤ (sel q n).length ↔ ∃ a : Nat, a < n ∧ q a
  | 0 => by simp [sel]
  | n + 1 => by
    have ih := one_sel (q := q) (n := n)
    by_cases h : q n
    · rw [sel_yes h, List.length_append, List.length_singleton]
      exact ⟨fun _ => ⟨n, by omega, h⟩, fun _ => by omega⟩
    · rw [sel_no h, ih]
      constructor
      · rintro ⟨a, h1, h2⟩; exact ⟨a, by omega, h2⟩
      · rintro ⟨a, h1, h2⟩
        rcases Nat.lt_or_ge a n with q1 | q1
        · exact ⟨a, q1, h2⟩
        · have : a = n := by omega
          subst this; exact absurd h2 h
theorem two_sel {q : Nat → Prop} : ∀ {n : Nat}, 2 ≤ (sel q n).length ↔ ∃ a b : Nat, a < b ∧ b < n ∧ q a ∧ q b
  | 0 => by simp [sel]
  | n + 1 => by
    have ih := two_sel (q := q) (n := n)
    by_cases h : q n
    · rw [sel_yes h, List.length_append, List.length_singleton]
      constructor
      · intro h2
        obtain ⟨a, ha, hq⟩ := one_sel.1 (show 1 ≤ (sel q n).length by omega)
        exact ⟨a, n, ha, by omega, hq, h⟩
      · rintro ⟨a, b, h1, h2, h3, h4⟩
        have := one_sel.2 ⟨a, show a < n by omega, h3⟩
        omega
    · rw [sel_no h, ih]
      constructor
      · rintro ⟨a, b, h1, h2, h3, h4⟩; exact ⟨a, b, h1, by omega, h3, h4⟩
      · rintro ⟨a, b, h1, h2, h3, h4⟩
        refine ⟨a, b, h1, ?_, h3, h4⟩
        rcases Nat.lt_or_ge b n with q1 | q1
        · exact q1
        · have : b = n := by omega
          subst this; exact absurd h4 h
def twoB (t : Town) (c : List Int) (p : Int) : Prop := ∃ i j : Nat, i < t.ts.length ∧ j < t.ts.length ∧ fr t i ∧ fr t j ∧ pg t i = p ∧ pg t j = p ∧ gv c i ≠ gv c j
theorem brs_two {t : Town} (hv : validT t) {p : Int} : 1 ≤ brs t p ↔ twoB t t.pl p := by
  have e : 1 ≤ brs t p ↔ 2 ≤ (sel (bearL t (thg t p)) t.rm.length).length := by unfold brs; omega
  rw [e, two_sel]
  constructor
  · rintro ⟨a, b, h1, h2, ⟨x, x1, x2, x3⟩, y, y1, y2, y3⟩
    obtain ⟨u1, u2, u3, u4⟩ := thg_mem.1 x1
    obtain ⟨w1, w2, w3, w4⟩ := thg_mem.1 y1
    obtain ⟨i, rfl⟩ : ∃ i : Nat, x = i := ⟨x.toNat, by omega⟩
    obtain ⟨j, rfl⟩ : ∃ j : Nat, y = j := ⟨y.toNat, by omega⟩
    exact ⟨i, j, by omega, by omega, x3, y3, u4, w4, by rw [x2, y2]; omega⟩
  · rintro ⟨i, j, h1, h2, h3, h4, h5, h6, h7⟩
    have bi := pl_bnd hv h1
    have bj := pl_bnd hv h2
    have mi : bearL t (thg t p) (gv t.pl i).toNat := ⟨i, thg_mem.2 ⟨by omega, by omega, h3.1, h5⟩, by omega, h3⟩
    have mj : bearL t (thg t p) (gv t.pl j).toNat := ⟨j, thg_mem.2 ⟨by omega, by omega, h4.1, h6⟩, by omega, h4⟩
    rcases Nat.lt_or_ge (gv t.pl i).toNat (gv t.pl j).toNat with q | q
    · exact ⟨_, _, q, by omega, mi, mj⟩
    · exact ⟨_, _, (by omega : (gv t.pl j).toNat < (gv t.pl i).toNat), by omega, mj, mi⟩
theorem rm_pos {t : Town} (hv : validT t) : 1 ≤ t.rm.length ∧ t.rm.length ≤ 3 := by
  have hr := hv.2.1
  unfold within at hr
  omega
theorem safe_two {t : Town} (hv : validT t) : safeP t ↔ ∀ p, p ∈ pags t → twoB t t.pl p := by
  have hr := rm_pos hv
  exact safe_spr (t := t) (c := t.pl) (by omega) (fun i hi => pl_bnd hv hi)
theorem safe_brs {t : Town} (hv : validT t) : safeP t ↔ ∀ p, p ∈ pags t → 1 ≤ brs t p := by
  rw [safe_two hv]
  exact forall_congr' fun p => imp_congr_right fun _ => (brs_two hv).symm
theorem cstN_pl {t : Town} : ∀ k, cstN t t.pl k = (0, 0)
  | 0 => rfl
  | k + 1 => by simp only [cstN, cstN_pl k, if_true]
theorem cst_pl {t : Town} : cst t t.pl = (0, 0) := cstN_pl _
theorem cstN_bnd {t : Town} (hv : validT t) {l : List Int} : ∀ k : Nat, k ≤ t.ts.length → 0 ≤ (cstN t l k).1 ∧ (cstN t l k).1 ≤ 99 * k ∧ 0 ≤ (cstN t l k).2 ∧ (cstN t l k).2 ≤ k
  | 0, _ => by simp [cstN]
  | k + 1, h => by
    have ih := cstN_bnd hv (l := l) k (by omega)
    have hc := ca_bnd hv (k := k) (by omega)
    simp only [cstN]
    split
    · omega
    · simp only; omega
theorem cstN_zero {t : Town} (hv : validT t) {l : List Int} : ∀ k : Nat, k ≤ t.ts.length → (cstN t l k).2 = 0 → ∀ i : Nat, i < k → gv l i = gv t.pl i
  | 0, _, _, i, h => by omega
  | k + 1, h, h2, i, hi => by
    have ib := cstN_bnd hv (l := l) k (by omega)
    simp only [cstN] at h2
    split at h2
    · rename_i e
      rcases Nat.lt_or_ge i k with q | q
      · exact cstN_zero hv k (by omega) h2 i q
      · have : i = k := by omega
        subst this; exact e
    · simp only at h2; omega
theorem gv_ext {l r : List Int} (h : l.length = r.length) (h2 : ∀ i : Nat, i < l.length → gv l i = gv r i) : l = r := by
  apply List.ext_getElem h
  intro i h1 h3
  have := h2 i h1
  rw [gv_nat (List.getElem?_eq_getElem h1), gv_nat (List.getElem?_eq_getElem h3)] at this
  exact this
theorem car_pl {t : Town} (hv : validT t) : isCar t t.pl := ⟨hv.lp, fun i hi => by
  have := pl_bnd hv (i := i) (by rw [← hv.lp]; exact hi)
  exact ⟨this.1, this.2, .inl rfl⟩⟩
theorem validT.roomy {t : Town} (hv : validT t) : roomy t t.pl := hv.2.2.2.2.2.2.2.2
theorem end_pl {t : Town} (hv : validT t) (hs : safeP t) : endP t t.pl := ⟨hv.roomy, hs⟩
theorem rem_safe {t : Town} (hv : validT t) (hs : safeP t) : remT t = some (t.pl, (0, 0)) := by
  have hp := car_pl hv
  have he := end_pl hv hs
  rcases rem_spec hv with ⟨_, h⟩ | ⟨l, h1, h2, h3, h4⟩
  · exact absurd he (h _ hp)
  · obtain ⟨a, b⟩ := h4 _ hp he
    rw [cst_pl] at a
    have hl := h2.1
    have c : 0 ≤ (cst t l).1 ∧ (cst t l).1 ≤ 99 * l.length ∧ 0 ≤ (cst t l).2 ∧ (cst t l).2 ≤ l.length := cstN_bnd hv l.length (by omega)
    have d1 : (cst t l).1 = 0 := by unfold lexlt at a; simp only at a; omega
    have d2 : (cst t l).2 = 0 := by unfold lexlt at a; simp only at a; omega
    have hll : l.length = t.pl.length := by rw [hl, hv.lp]
    have : l = t.pl := gv_ext hll fun i hi => cstN_zero hv l.length (by omega) d2 i hi
    rw [h1]
    subst this
    rw [show cst t t.pl = (0, 0) from cst_pl]
theorem carried_valid {t : Town} (hv : validT t) {l : List Int} (hc : isCar t l) (hr : roomy t l) : validT { t with pl := l } := by
  obtain ⟨h1, h2, h3, h4, h5, h6, h7, h8, h9⟩ := hv
  refine ⟨h1, h2, h3, hc.1, fun p hp => ?_, h6, h7, h8, ?_⟩
  · obtain ⟨i, hi, rfl⟩ := List.getElem_of_mem hp
    have hi' : i < l.length := hi
    have := hc.2 i hi'
    have e := gv_nat (List.getElem?_eq_getElem hi')
    unfold carP at this
    rw [e] at this
    show 0 ≤ l[i] ∧ l[i] ≤ (t.rm.length : Int) - 1
    omega
  · rw [roomy_pl]; exact hr
theorem rem_bnd {t : Town} (hv : validT t) {x : List Int × Int × Int} (h : remT t = some x) : x.2 = cst t x.1 ∧ isCar t x.1 ∧ endP t x.1 ∧ 0 ≤ x.2.1 ∧ x.2.1 ≤ 99 * t.pl.length ∧ 0 ≤ x.2.2 := by
  rcases rem_spec hv with ⟨h1, _⟩ | ⟨l, h1, h2, h3, h4⟩
  · rw [h1] at h; cases h
  · rw [h1] at h; cases h
    have hl := h2.1
    have c : 0 ≤ (cst t l).1 ∧ (cst t l).1 ≤ 99 * l.length ∧ 0 ≤ (cst t l).2 ∧ (cst t l).2 ≤ l.length := cstN_bnd hv l.length (by omega)
    have hp := hv.lp
    refine ⟨rfl, h2, h3, c.1, ?_, c.2.2.1⟩
    rw [hp, ← hl]; exact c.2.1
theorem rem_least {t : Town} (hv : validT t) {x : List Int × Int × Int} (h : remT t = some x) {l : List Int} (hl : isCar t l) (he : endP t l) : ¬ lexlt (cst t l) x.2 ∧ (cst t l = x.2 → ¬ earlier l x.1) := by
  rcases rem_spec hv with ⟨h1, _⟩ | ⟨m, h1, h2, h3, h4⟩
  · rw [h1] at h; cases h
  · rw [h1] at h; cases h
    exact h4 l hl he
theorem rem_some {t : Town} (hv : validT t) {l : List Int} (hl : isCar t l) (he : endP t l) : ∃ x, remT t = some x := by
  rcases rem_spec hv with ⟨_, h⟩ | ⟨m, h1, _⟩
  · exact absurd he (h _ hl)
  · exact ⟨_, h1⟩
theorem end_two {t : Town} (hv : validT t) {l : List Int} (hl : isCar t l) : endP t l ↔ roomy t l ∧ ∀ p, p ∈ pags t → twoB t l p := by
  have hr := rm_pos hv
  unfold endP
  refine and_congr_right fun _ => ?_
  exact safe_spr (by omega) fun i hi => by
    have := hl.2 i (by rw [hl.1]; exact hi)
    exact ⟨this.1, this.2.1⟩
end Go.Proofs.YtjlopclpofbgbaaDoor

