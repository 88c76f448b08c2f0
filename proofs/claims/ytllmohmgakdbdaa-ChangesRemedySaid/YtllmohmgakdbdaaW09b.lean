/- Contracts of functions of the given program, without a condition beyond those that each theorem states; they lead to the given statement. -/
import Derived.Test.YtllmohmgakdbdaaW09a
set_option linter.unusedSimpArgs false
set_option linter.unusedVariables false
set_option maxRecDepth 100000
namespace Go.Proofs.Ytllmohmgakdbdaa
open Go Go.Fl
open Classical
theorem c100 (l : List Int) (v : Int) : PC Try.prog 100 [lN l, .int .i64 v] (.int .i64 (ix (fun a => v = a) l)) := by
  refine PC.body Try.func100 (by kernel_rfl) rfl (by simp [Try.f100]) rfl ?_
  simp only [Try.f100]
  intro hlen
  simp only [go_sem, List.length_map, and_true, true_and] at hlen
  refine CV.run ?_
  (repeat' (first | ((first | with_reducible refine vcG_split ?_ ?_ | with_reducible refine vcIf_split ?_ ?_ | with_reducible refine vcQ_split ?_ ?_ | with_reducible refine vcDG_split ?_ ?_) <;> intro hb <;> (try rw [hb]) <;> (try simp only [Bool.and_eq_true, Bool.or_eq_true, dtrue, dfalse, Bool.not_eq_true', Bool.not_eq_false', Bool.and_eq_false_iff, Bool.or_eq_false_iff, Bool.not_true, Bool.not_false] at hb) <;> (try simp only [within] at hb) <;> try (simp only [go_sem])) | refine And.intro (by (first | exact trivial | (simp only [I64]; omega) | omega)) ?_ | fail | (simp only [go_sem])))
  refine vc_for (fun j => ⟨[(8, .int .i64 j), (7, .int .i64 l.length), (4, .int .i64 0), (0, lN l), (1, .int .i64 v)], []⟩) l.length (fun j => ∀ i, i < j → ∀ b, l[i]? = some b → ¬ v = b) (by (first | exact wk_same (by (simp only [go_sem, Int.natCast_add, Int.natCast_one, Int.natCast_zero, Int.cast_ofNat_Int])) | exact wk_drop (by (simp only [go_sem, Int.natCast_add, Int.natCast_one, Int.natCast_zero, Int.cast_ofNat_Int])) (by (simp only [go_sem, Int.natCast_add, Int.natCast_one, Int.natCast_zero, Int.cast_ofNat_Int])) (by (simp only [go_sem, Int.natCast_add, Int.natCast_one, Int.natCast_zero, Int.cast_ofNat_Int])) (by (simp only [go_sem, Int.natCast_add, Int.natCast_one, Int.natCast_zero, Int.cast_ofNat_Int])) (by (simp only [go_sem, Int.natCast_add, Int.natCast_one, Int.natCast_zero, Int.cast_ofNat_Int])))) (fun i h => by omega) ?_
  intro j hj hx
  rcases Nat.lt_or_ge j l.length with hlt | hge
  · obtain ⟨m, hm⟩ := get_of hlt
    have hlt' : (j : Int) < l.length := by omega
    (repeat' (first | ((first | with_reducible refine vcG_split ?_ ?_ | with_reducible refine vcIf_split ?_ ?_ | with_reducible refine vcQ_split ?_ ?_ | with_reducible refine vcDG_split ?_ ?_) <;> intro hb <;> (try rw [hb]) <;> (try simp only [Bool.and_eq_true, Bool.or_eq_true, dtrue, dfalse, Bool.not_eq_true', Bool.not_eq_false', Bool.and_eq_false_iff, Bool.or_eq_false_iff, Bool.not_true, Bool.not_false] at hb) <;> (try simp only [within] at hb) <;> try (simp only [go_sem, hlt', hm, encN])) | refine And.intro (by (first | exact trivial | (simp only [I64]; omega) | omega)) ?_ | fail | (simp only [go_sem, hlt', hm, encN])))
    · rw [ix_at ⟨⟨m, hm, hb⟩, hx⟩]
    · refine ⟨by (first | exact wk_same (by (simp only [go_sem, Int.natCast_add, Int.natCast_one, Int.natCast_zero, Int.cast_ofNat_Int])) | exact wk_drop (by (simp only [go_sem, Int.natCast_add, Int.natCast_one, Int.natCast_zero, Int.cast_ofNat_Int])) (by (simp only [go_sem, Int.natCast_add, Int.natCast_one, Int.natCast_zero, Int.cast_ofNat_Int])) (by (simp only [go_sem, Int.natCast_add, Int.natCast_one, Int.natCast_zero, Int.cast_ofNat_Int])) (by (simp only [go_sem, Int.natCast_add, Int.natCast_one, Int.natCast_zero, Int.cast_ofNat_Int])) (by (simp only [go_sem, Int.natCast_add, Int.natCast_one, Int.natCast_zero, Int.cast_ofNat_Int]))), fun i hi b hib => ?_⟩
      rcases Nat.lt_or_ge i j with h | h
      · exact hx i h b hib
      · have : i = j := by omega
        subst this
        rw [hm] at hib; cases hib; exact hb
  · have hge' : ¬ (j : Int) < l.length := by omega
    (repeat' (first | ((first | with_reducible refine vcG_split ?_ ?_ | with_reducible refine vcIf_split ?_ ?_ | with_reducible refine vcQ_split ?_ ?_ | with_reducible refine vcDG_split ?_ ?_) <;> intro hb <;> (try rw [hb]) <;> (try simp only [Bool.and_eq_true, Bool.or_eq_true, dtrue, dfalse, Bool.not_eq_true', Bool.not_eq_false', Bool.and_eq_false_iff, Bool.or_eq_false_iff, Bool.not_true, Bool.not_false] at hb) <;> (try simp only [within] at hb) <;> try (simp only [go_sem, hge'])) | refine And.intro (by (first | exact trivial | (simp only [I64]; omega) | omega)) ?_ | fail | (simp only [go_sem, hge'])))
    rw [ix_no (fun i b hb => hx i (by have := (List.getElem?_eq_some_iff.1 hb).1; omega) b hb)]
theorem c87 (l : List Int) (v : Int) : PC Try.prog 87 [lN l, .int .i64 v] (.bool (decide (v ∈ l))) := by
  refine PC.body Try.func87 (by kernel_rfl) rfl (by simp [Try.f87]) rfl ?_
  simp only [Try.f87]
  intro hlen
  simp only [go_sem, List.length_map, and_true, true_and] at hlen
  refine CV.run ?_
  (repeat' (first | ((first | with_reducible refine vcG_split ?_ ?_ | with_reducible refine vcIf_split ?_ ?_ | with_reducible refine vcQ_split ?_ ?_ | with_reducible refine vcDG_split ?_ ?_) <;> intro hb <;> (try rw [hb]) <;> (try simp only [Bool.and_eq_true, Bool.or_eq_true, dtrue, dfalse, Bool.not_eq_true', Bool.not_eq_false', Bool.and_eq_false_iff, Bool.or_eq_false_iff, Bool.not_true, Bool.not_false] at hb) <;> (try simp only [within] at hb) <;> try (simp only [go_sem])) | refine And.intro (by (first | exact trivial | (simp only [I64]; omega) | omega)) ?_ | (first | (refine vcP_pure (c100 _ _) rfl ?_ ?_ ?_; (focus (first | rfl | ((simp only [go_sem, AV.pureL, AV.pure, pureL_mapI, Bool.and_self]) <;> fail))); (focus (first | ((simp only [go_sem]) <;> fail) | rfl))) | (refine dCallP_pure (c100 _ _) rfl ?_ ?_ ?_; (focus (first | rfl | ((simp only [go_sem, AV.pureL, AV.pure, pureL_mapI, Bool.and_self]) <;> fail))); (focus (first | ((simp only [go_sem]) <;> fail) | rfl))) | refine vcP_safe (c100 _ _) rfl rfl (by (simp only [go_sem])) ?_ | refine dCallP_safe (c100 _ _) rfl rfl ?_) | (simp only [go_sem])))
  exact bd (by rw [ix_ge]; exact ⟨fun ⟨a, h1, h2⟩ => by rw [h2]; exact h1, fun h => ⟨v, h, rfl⟩⟩)
noncomputable def cntK (ts : List Thing) (ms : List Mark) (c now : Int) (P : List Int → Prop) : Nat → Int
  | 0 => 0
  | k + 1 => cntK ts ms c now P k + (if isRem ts ms c now (setOf k ts.length) ∧ P (setOf k ts.length) then 1 else 0)
theorem cntK_bounds (ts : List Thing) (ms : List Mark) (c now : Int) (P : List Int → Prop) : ∀ k, 0 ≤ cntK ts ms c now P k ∧ cntK ts ms c now P k ≤ k
  | 0 => by simp [cntK]
  | k + 1 => by
    have := cntK_bounds ts ms c now P k
    unfold cntK; split <;> omega
theorem cntK_pos (ts : List Thing) (ms : List Mark) (c now : Int) (P : List Int → Prop) : ∀ k, cntK ts ms c now P k = 0 ↔ ¬ ∃ j, j < k ∧ isRem ts ms c now (setOf j ts.length) ∧ P (setOf j ts.length)
  | 0 => by simp [cntK]
  | k + 1 => by
    have hb := cntK_bounds ts ms c now P k
    have ih := cntK_pos ts ms c now P k
    by_cases h : isRem ts ms c now (setOf k ts.length) ∧ P (setOf k ts.length)
    · have e : cntK ts ms c now P (k + 1) = cntK ts ms c now P k + 1 := by simp [cntK, h]
      rw [e]
      constructor
      · intro h0; omega
      · intro h0; exact absurd ⟨k, by omega, h⟩ h0
    · have e : cntK ts ms c now P (k + 1) = cntK ts ms c now P k := by simp only [cntK, if_neg h]; omega
      rw [e, ih]
      constructor
      · rintro h0 ⟨j, h1, h2⟩
        rcases Nat.lt_or_ge j k with hl | hl
        · exact h0 ⟨j, hl, h2⟩
        · have : j = k := by omega
          subst this; exact h h2
      · rintro h0 ⟨j, h1, h2⟩; exact h0 ⟨j, by omega, h2⟩
def isSo (ts : List Thing) (C i : Int) (l : List Int) : Prop := ¬ C < costOf ts l ∧ i ∈ l
def isNot (ts : List Thing) (C i : Int) (l : List Int) : Prop := ¬ C < costOf ts l ∧ ¬ i ∈ l
noncomputable def mustV (ts : List Thing) (ms : List Mark) (c now i : Int) : Int :=
  if cntK ts ms c now (isNot ts (costOf ts (bestL ts ms c now)) i) (2 ^ ts.length) = 0 then 1 else if cntK ts ms c now (isSo ts (costOf ts (bestL ts ms c now)) i) (2 ^ ts.length) = 0 then 2 else 3
set_option maxHeartbeats 4000000 in
theorem e55 (ts : List Thing) (ms : List Mark) (hv : valid ts ms) (c now i : Int) (hc : within c 0 2) (hnow : within now 0 99) (hi : within i 0 (ts.length - 1)) : PC Try.prog 55 [hT ts ms, .int .i64 c, .int .i64 now, .int .i64 i] (.tup [.int .i64 (mustV ts ms c now i), .int .i64 0]) := by
  have hk := askP_ok hv
  have h62 := d62 ts ms hv c now hc hnow
  have hm := hv.marks
  have hml := hv.2.1
  unfold mustV
  generalize bestL ts ms c now = B at h62 ⊢
  generalize costOf ts B = C at h62 ⊢
  obtain ⟨So, hSo⟩ : ∃ So : Nat → Int, ∀ k, So k = cntK ts ms c now (isSo ts C i) k := ⟨_, fun _ => rfl⟩
  obtain ⟨No, hNo⟩ : ∃ No : Nat → Int, ∀ k, No k = cntK ts ms c now (isNot ts C i) k := ⟨_, fun _ => rfl⟩
  rw [← hSo, ← hNo]
  have hS0 : So 0 = 0 := by rw [hSo]; rfl
  have hN0 : No 0 = 0 := by rw [hNo]; rfl
  refine PC.body Try.func55 (by kernel_rfl) rfl (by simp [Try.f55]) rfl ?_
  simp only [Try.f55]
  intro hlen
  simp only [go_sem, List.length_map, and_true, true_and] at hlen
  refine CV.run ?_
  (repeat' (first | ((first | with_reducible refine vcG_split ?_ ?_ | with_reducible refine vcIf_split ?_ ?_ | with_reducible refine vcQ_split ?_ ?_ | with_reducible refine vcDG_split ?_ ?_) <;> intro hb <;> (try rw [hb]) <;> (try simp only [Bool.and_eq_true, Bool.or_eq_true, dtrue, dfalse, Bool.not_eq_true', Bool.not_eq_false', Bool.and_eq_false_iff, Bool.or_eq_false_iff, Bool.not_true, Bool.not_false] at hb) <;> (try simp only [within] at hb) <;> try (simp only [go_sem, hc, hnow, hi, hk])) | refine And.intro (by (first | exact trivial | (simp only [I64]; omega) | omega)) ?_ | (with_reducible rw [vc_draw_eq]; first | refine CV.draw (id := 1) [(0, 0), (0, 0), (0, 0), (0, 0), (0, 0), (0, 0), (0, 0), (0, 0), (0, 0), (0, 0), (0, 0), (0, 0), (0, 0), (0, 0)] mixed rfl (by kernel_rfl) ?_) | (first | (refine vcP_pure (c60 _) rfl ?_ ?_ ?_; (focus (first | rfl | ((simp only [go_sem, hc, hnow, hi, hk, AV.pureL, AV.pure, pureL_mapI, Bool.and_self]) <;> fail))); (focus (first | ((simp only [go_sem, hc, hnow, hi, hk]) <;> fail) | rfl))) | (refine dCallP_pure (c60 _) rfl ?_ ?_ ?_; (focus (first | rfl | ((simp only [go_sem, hc, hnow, hi, hk, AV.pureL, AV.pure, pureL_mapI, Bool.and_self]) <;> fail))); (focus (first | ((simp only [go_sem, hc, hnow, hi, hk]) <;> fail) | rfl))) | refine vcP_safe (c60 _) rfl rfl (by (simp only [go_sem, hc, hnow, hi, hk])) ?_ | refine dCallP_safe (c60 _) rfl rfl ?_ | (refine vcP_pure (c61 _) rfl ?_ ?_ ?_; (focus (first | rfl | ((simp only [go_sem, hc, hnow, hi, hk, AV.pureL, AV.pure, pureL_mapI, Bool.and_self]) <;> fail))); (focus (first | ((simp only [go_sem, hc, hnow, hi, hk]) <;> fail) | rfl))) | (refine dCallP_pure (c61 _) rfl ?_ ?_ ?_; (focus (first | rfl | ((simp only [go_sem, hc, hnow, hi, hk, AV.pureL, AV.pure, pureL_mapI, Bool.and_self]) <;> fail))); (focus (first | ((simp only [go_sem, hc, hnow, hi, hk]) <;> fail) | rfl))) | refine vcP_safe (c61 _) rfl rfl (by (simp only [go_sem, hc, hnow, hi, hk])) ?_ | refine dCallP_safe (c61 _) rfl rfl ?_ | (refine vcP_pure (c67 _ _ _) rfl ?_ ?_ ?_; (focus (first | rfl | ((simp only [go_sem, hc, hnow, hi, hk, AV.pureL, AV.pure, pureL_mapI, Bool.and_self]) <;> fail))); (focus (first | ((simp only [go_sem, hc, hnow, hi, hk]) <;> fail) | rfl))) | (refine dCallP_pure (c67 _ _ _) rfl ?_ ?_ ?_; (focus (first | rfl | ((simp only [go_sem, hc, hnow, hi, hk, AV.pureL, AV.pure, pureL_mapI, Bool.and_self]) <;> fail))); (focus (first | ((simp only [go_sem, hc, hnow, hi, hk]) <;> fail) | rfl))) | refine vcP_safe (c67 _ _ _) rfl rfl (by (simp only [go_sem, hc, hnow, hi, hk])) ?_ | refine dCallP_safe (c67 _ _ _) rfl rfl ?_ | (refine vcP_pure (c59 _ _ _) rfl ?_ ?_ ?_; (focus (first | rfl | ((simp only [go_sem, hc, hnow, hi, hk, AV.pureL, AV.pure, pureL_mapI, Bool.and_self]) <;> fail))); (focus (first | ((simp only [go_sem, hc, hnow, hi, hk]) <;> fail) | rfl))) | (refine dCallP_pure (c59 _ _ _) rfl ?_ ?_ ?_; (focus (first | rfl | ((simp only [go_sem, hc, hnow, hi, hk, AV.pureL, AV.pure, pureL_mapI, Bool.and_self]) <;> fail))); (focus (first | ((simp only [go_sem, hc, hnow, hi, hk]) <;> fail) | rfl))) | refine vcP_safe (c59 _ _ _) rfl rfl (by (simp only [go_sem, hc, hnow, hi, hk])) ?_ | refine dCallP_safe (c59 _ _ _) rfl rfl ?_ | (refine vcP_pure (h62) rfl ?_ ?_ ?_; (focus (first | rfl | ((simp only [go_sem, hc, hnow, hi, hk, AV.pureL, AV.pure, pureL_mapI, Bool.and_self]) <;> fail))); (focus (first | ((simp only [go_sem, hc, hnow, hi, hk]) <;> fail) | rfl))) | (refine dCallP_pure (h62) rfl ?_ ?_ ?_; (focus (first | rfl | ((simp only [go_sem, hc, hnow, hi, hk, AV.pureL, AV.pure, pureL_mapI, Bool.and_self]) <;> fail))); (focus (first | ((simp only [go_sem, hc, hnow, hi, hk]) <;> fail) | rfl))) | refine vcP_safe (h62) rfl rfl (by (simp only [go_sem, hc, hnow, hi, hk])) ?_ | refine dCallP_safe (h62) rfl rfl ?_ | (refine vcP_pure (c86 ts ms c now) rfl ?_ ?_ ?_; (focus (first | rfl | ((simp only [go_sem, hc, hnow, hi, hk, AV.pureL, AV.pure, pureL_mapI, Bool.and_self]) <;> fail))); (focus (first | ((simp only [go_sem, hc, hnow, hi, hk]) <;> fail) | rfl))) | (refine dCallP_pure (c86 ts ms c now) rfl ?_ ?_ ?_; (focus (first | rfl | ((simp only [go_sem, hc, hnow, hi, hk, AV.pureL, AV.pure, pureL_mapI, Bool.and_self]) <;> fail))); (focus (first | ((simp only [go_sem, hc, hnow, hi, hk]) <;> fail) | rfl))) | refine vcP_safe (c86 ts ms c now) rfl rfl (by (simp only [go_sem, hc, hnow, hi, hk])) ?_ | refine dCallP_safe (c86 ts ms c now) rfl rfl ?_) | (simp only [go_sem, hc, hnow, hi, hk])))
  rw [vc_range_eq]
  refine CV.wk (st' := ⟨[(39, .fn 99 [.pp [.lst false 4 (ts.map encT), .lst false 3 (ms.map encM)], .pp [.int .i64 c], .pp [.int .i64 now]]), (4, .lp 0 0), (7, .lp 1 0), (11, .lp 2 0), (12, .lp 3 0), (13, .lp 4 0), (8, .int .i64 0), (9, .int .i64 0)], [.box 25 [.lst false 4 (ts.map encT), .lst false 3 (ms.map encM)] false, .box 3 [.int .i64 i] false, .box 3 [.int .i64 C] false, .box 3 [.int .i64 (So 0)] false, .box 3 [.int .i64 (No 0)] false]⟩) (by (first | exact wk_same (by (simp only [go_sem, Int.natCast_add, Int.natCast_one, Int.natCast_zero, Int.cast_ofNat_Int, hS0, hN0])) | exact wk_drop (by (simp only [go_sem, Int.natCast_add, Int.natCast_one, Int.natCast_zero, Int.cast_ofNat_Int, hS0, hN0])) (by (simp only [go_sem, Int.natCast_add, Int.natCast_one, Int.natCast_zero, Int.cast_ofNat_Int, hS0, hN0])) (by (simp only [go_sem, Int.natCast_add, Int.natCast_one, Int.natCast_zero, Int.cast_ofNat_Int, hS0, hN0])) (by (simp only [go_sem, Int.natCast_add, Int.natCast_one, Int.natCast_zero, Int.cast_ofNat_Int, hS0, hN0])) (by (simp only [go_sem, Int.natCast_add, Int.natCast_one, Int.natCast_zero, Int.cast_ofNat_Int, hS0, hN0])))) ?_
  refine CV.range rfl (by (simp only [go_sem])) [.box 25 [.lst false 4 (ts.map encT), .lst false 3 (ms.map encM)] false, .box 3 [.int .i64 i] false, .box 3 [.int .i64 C] false, .box 3 [.int .i64 (So (2 ^ ts.length))] false, .box 3 [.int .i64 (No (2 ^ ts.length))] false] rfl (by (simp only [go_sem])) (by (simp only [go_sem])) (fun l => ?_) ?_
  · refine (d99 ts ms hv.things hm hv.1 c now hc hnow (by omega) l 25 3 3 3 3 [.lst false 4 (ts.map encT), .lst false 3 (ms.map encM)] [.int .i64 i] [.int .i64 C] (fun k => [.int .i64 (So k)]) (fun k => [.int .i64 (No k)]) rfl rfl rfl (fun k => rfl) (fun k => rfl) 61 #[40] _ _ [(39, .fn 99 [.pp [.lst false 4 (ts.map encT), .lst false 3 (ms.map encM)], .pp [.int .i64 c], .pp [.int .i64 now]]), (4, .lp 0 0), (7, .lp 1 0), (11, .lp 2 0), (12, .lp 3 0), (13, .lp 4 0), (8, .int .i64 0), (9, .int .i64 0)] (fun b n v _ => by (simp only [go_sem])) (fun n => by simp [belowE, belowV, belowL]) (fun k own hk hr => ?_) (fun k hk hr => ?_)).mono ?_
    · refine HCY.body (H := [.box 25 [.lst false 4 (ts.map encT), .lst false 3 (ms.map encM)] false, .box 3 [.int .i64 i] false, .box 3 [.int .i64 C] false, .box 3 [.int .i64 (So k)] false, .box 3 [.int .i64 (No k)] false]) (H' := [.box 25 [.lst false 4 (ts.map encT), .lst false 3 (ms.map encM)] false, .box 3 [.int .i64 i] false, .box 3 [.int .i64 C] false, .box 3 [.int .i64 (So (k + 1))] false, .box 3 [.int .i64 (No (k + 1))] false]) (by omega) rfl (by (simp only [go_sem])) (by (simp only [go_sem])) rfl ?_
      have hpow : (2 : Nat) ^ ts.length ≤ 256 := Nat.pow_le_pow_right (n := 2) (by omega) hv.1
      have b1 := cntK_bounds ts ms c now (isSo ts C i) k
      have b2 := cntK_bounds ts ms c now (isNot ts C i) k
      have e1 : So (k + 1) = So k + (if isSo ts C i (setOf k ts.length) then 1 else 0) := by rw [hSo, hSo]; simp [cntK, hr]
      have e2 : No (k + 1) = No k + (if isNot ts C i (setOf k ts.length) then 1 else 0) := by rw [hNo, hNo]; simp [cntK, hr]
      rw [← hSo] at b1
      rw [← hNo] at b2
      rw [e1, e2]
      generalize So k = a at b1 ⊢
      generalize No k = b at b2 ⊢
      have h87 := c87 (setOf k ts.length) i
      by_cases hC : C < costOf ts (setOf k ts.length)
      · have p1 : ¬ isSo ts C i (setOf k ts.length) := fun h => h.1 hC
        have p2 : ¬ isNot ts C i (setOf k ts.length) := fun h => h.1 hC
        rw [if_neg p1, if_neg p2, Int.add_zero, Int.add_zero]
        (repeat' (first | ((first | with_reducible refine vcG_split ?_ ?_ | with_reducible refine vcIf_split ?_ ?_ | with_reducible refine vcQ_split ?_ ?_ | with_reducible refine vcDG_split ?_ ?_) <;> intro hb <;> (try rw [hb]) <;> (try simp only [Bool.and_eq_true, Bool.or_eq_true, dtrue, dfalse, Bool.not_eq_true', Bool.not_eq_false', Bool.and_eq_false_iff, Bool.or_eq_false_iff, Bool.not_true, Bool.not_false] at hb) <;> (try simp only [within] at hb) <;> try (simp only [go_sem, hC])) | refine And.intro (by (first | exact trivial | (simp only [I64]; omega) | omega)) ?_ | (with_reducible rw [vc_draw_eq]; first | refine CV.draw (id := 1) [(0, 0), (0, 0), (0, 0), (0, 0), (0, 0), (0, 0), (0, 0), (0, 0), (0, 0), (0, 0), (0, 0), (0, 0), (0, 0), (0, 0)] mixed rfl (by kernel_rfl) ?_) | (first | (refine vcP_pure (h87) rfl ?_ ?_ ?_; (focus (first | rfl | ((simp only [go_sem, hC, AV.pureL, AV.pure, pureL_mapI, Bool.and_self]) <;> fail))); (focus (first | ((simp only [go_sem, hC]) <;> fail) | rfl))) | (refine dCallP_pure (h87) rfl ?_ ?_ ?_; (focus (first | rfl | ((simp only [go_sem, hC, AV.pureL, AV.pure, pureL_mapI, Bool.and_self]) <;> fail))); (focus (first | ((simp only [go_sem, hC]) <;> fail) | rfl))) | refine vcP_safe (h87) rfl rfl (by (simp only [go_sem, hC])) ?_ | refine dCallP_safe (h87) rfl rfl ?_) | (simp only [go_sem, hC])))
        all_goals first
          | exact .base (by (first | exact wk_same (by (simp only [go_sem, Int.natCast_add, Int.natCast_one, Int.natCast_zero, Int.cast_ofNat_Int])) | exact wk_drop (by (simp only [go_sem, Int.natCast_add, Int.natCast_one, Int.natCast_zero, Int.cast_ofNat_Int])) (by (simp only [go_sem, Int.natCast_add, Int.natCast_one, Int.natCast_zero, Int.cast_ofNat_Int])) (by (simp only [go_sem, Int.natCast_add, Int.natCast_one, Int.natCast_zero, Int.cast_ofNat_Int])) (by (simp only [go_sem, Int.natCast_add, Int.natCast_one, Int.natCast_zero, Int.cast_ofNat_Int])) (by (simp only [go_sem, Int.natCast_add, Int.natCast_one, Int.natCast_zero, Int.cast_ofNat_Int]))))
          | trace_state
      · by_cases hin : i ∈ setOf k ts.length
        · have p1 : isSo ts C i (setOf k ts.length) := ⟨hC, hin⟩
          have p2 : ¬ isNot ts C i (setOf k ts.length) := fun h => h.2 hin
          rw [if_pos p1, if_neg p2, Int.add_zero]
          (repeat' (first | ((first | with_reducible refine vcG_split ?_ ?_ | with_reducible refine vcIf_split ?_ ?_ | with_reducible refine vcQ_split ?_ ?_ | with_reducible refine vcDG_split ?_ ?_) <;> intro hb <;> (try rw [hb]) <;> (try simp only [Bool.and_eq_true, Bool.or_eq_true, dtrue, dfalse, Bool.not_eq_true', Bool.not_eq_false', Bool.and_eq_false_iff, Bool.or_eq_false_iff, Bool.not_true, Bool.not_false] at hb) <;> (try simp only [within] at hb) <;> try (simp only [go_sem, hC, hin])) | refine And.intro (by (first | exact trivial | (simp only [I64]; omega) | omega)) ?_ | (with_reducible rw [vc_draw_eq]; first | refine CV.draw (id := 1) [(0, 0), (0, 0), (0, 0), (0, 0), (0, 0), (0, 0), (0, 0), (0, 0), (0, 0), (0, 0), (0, 0), (0, 0), (0, 0), (0, 0)] mixed rfl (by kernel_rfl) ?_) | (first | (refine vcP_pure (h87) rfl ?_ ?_ ?_; (focus (first | rfl | ((simp only [go_sem, hC, hin, AV.pureL, AV.pure, pureL_mapI, Bool.and_self]) <;> fail))); (focus (first | ((simp only [go_sem, hC, hin]) <;> fail) | rfl))) | (refine dCallP_pure (h87) rfl ?_ ?_ ?_; (focus (first | rfl | ((simp only [go_sem, hC, hin, AV.pureL, AV.pure, pureL_mapI, Bool.and_self]) <;> fail))); (focus (first | ((simp only [go_sem, hC, hin]) <;> fail) | rfl))) | refine vcP_safe (h87) rfl rfl (by (simp only [go_sem, hC, hin])) ?_ | refine dCallP_safe (h87) rfl rfl ?_) | (simp only [go_sem, hC, hin])))
          all_goals first
            | exact .base (by (first | exact wk_same (by (simp only [go_sem, Int.natCast_add, Int.natCast_one, Int.natCast_zero, Int.cast_ofNat_Int])) | exact wk_drop (by (simp only [go_sem, Int.natCast_add, Int.natCast_one, Int.natCast_zero, Int.cast_ofNat_Int])) (by (simp only [go_sem, Int.natCast_add, Int.natCast_one, Int.natCast_zero, Int.cast_ofNat_Int])) (by (simp only [go_sem, Int.natCast_add, Int.natCast_one, Int.natCast_zero, Int.cast_ofNat_Int])) (by (simp only [go_sem, Int.natCast_add, Int.natCast_one, Int.natCast_zero, Int.cast_ofNat_Int])) (by (simp only [go_sem, Int.natCast_add, Int.natCast_one, Int.natCast_zero, Int.cast_ofNat_Int]))))
            | trace_state
        · have p1 : ¬ isSo ts C i (setOf k ts.length) := fun h => hin h.2
          have p2 : isNot ts C i (setOf k ts.length) := ⟨hC, hin⟩
          rw [if_neg p1, if_pos p2, Int.add_zero]
          (repeat' (first | ((first | with_reducible refine vcG_split ?_ ?_ | with_reducible refine vcIf_split ?_ ?_ | with_reducible refine vcQ_split ?_ ?_ | with_reducible refine vcDG_split ?_ ?_) <;> intro hb <;> (try rw [hb]) <;> (try simp only [Bool.and_eq_true, Bool.or_eq_true, dtrue, dfalse, Bool.not_eq_true', Bool.not_eq_false', Bool.and_eq_false_iff, Bool.or_eq_false_iff, Bool.not_true, Bool.not_false] at hb) <;> (try simp only [within] at hb) <;> try (simp only [go_sem, hC, hin])) | refine And.intro (by (first | exact trivial | (simp only [I64]; omega) | omega)) ?_ | (with_reducible rw [vc_draw_eq]; first | refine CV.draw (id := 1) [(0, 0), (0, 0), (0, 0), (0, 0), (0, 0), (0, 0), (0, 0), (0, 0), (0, 0), (0, 0), (0, 0), (0, 0), (0, 0), (0, 0)] mixed rfl (by kernel_rfl) ?_) | (first | (refine vcP_pure (h87) rfl ?_ ?_ ?_; (focus (first | rfl | ((simp only [go_sem, hC, hin, AV.pureL, AV.pure, pureL_mapI, Bool.and_self]) <;> fail))); (focus (first | ((simp only [go_sem, hC, hin]) <;> fail) | rfl))) | (refine dCallP_pure (h87) rfl ?_ ?_ ?_; (focus (first | rfl | ((simp only [go_sem, hC, hin, AV.pureL, AV.pure, pureL_mapI, Bool.and_self]) <;> fail))); (focus (first | ((simp only [go_sem, hC, hin]) <;> fail) | rfl))) | refine vcP_safe (h87) rfl rfl (by (simp only [go_sem, hC, hin])) ?_ | refine dCallP_safe (h87) rfl rfl ?_) | (simp only [go_sem, hC, hin])))
          all_goals first
            | exact .base (by (first | exact wk_same (by (simp only [go_sem, Int.natCast_add, Int.natCast_one, Int.natCast_zero, Int.cast_ofNat_Int])) | exact wk_drop (by (simp only [go_sem, Int.natCast_add, Int.natCast_one, Int.natCast_zero, Int.cast_ofNat_Int])) (by (simp only [go_sem, Int.natCast_add, Int.natCast_one, Int.natCast_zero, Int.cast_ofNat_Int])) (by (simp only [go_sem, Int.natCast_add, Int.natCast_one, Int.natCast_zero, Int.cast_ofNat_Int])) (by (simp only [go_sem, Int.natCast_add, Int.natCast_one, Int.natCast_zero, Int.cast_ofNat_Int])) (by (simp only [go_sem, Int.natCast_add, Int.natCast_one, Int.natCast_zero, Int.cast_ofNat_Int]))))
            | trace_state
    · have e1 : So (k + 1) = So k := by rw [hSo, hSo]; simp [cntK, hr]
      have e2 : No (k + 1) = No k := by rw [hNo, hNo]; simp [cntK, hr]
      simp only [e1, e2, and_self]
    · rintro r H' ⟨rest, e⟩
      exact ⟨rest, by rw [e]; rfl⟩
  · generalize So (2 ^ ts.length) = a
    generalize No (2 ^ ts.length) = b
    by_cases hb0 : b = 0
    · rw [if_pos hb0]
      (repeat' (first | ((first | with_reducible refine vcG_split ?_ ?_ | with_reducible refine vcIf_split ?_ ?_ | with_reducible refine vcQ_split ?_ ?_ | with_reducible refine vcDG_split ?_ ?_) <;> intro hb <;> (try rw [hb]) <;> (try simp only [Bool.and_eq_true, Bool.or_eq_true, dtrue, dfalse, Bool.not_eq_true', Bool.not_eq_false', Bool.and_eq_false_iff, Bool.or_eq_false_iff, Bool.not_true, Bool.not_false] at hb) <;> (try simp only [within] at hb) <;> try (simp only [go_sem, hb0])) | refine And.intro (by (first | exact trivial | (simp only [I64]; omega) | omega)) ?_ | (with_reducible rw [vc_draw_eq]; first | refine CV.draw (id := 1) [(0, 0), (0, 0), (0, 0), (0, 0), (0, 0), (0, 0), (0, 0), (0, 0), (0, 0), (0, 0), (0, 0), (0, 0), (0, 0), (0, 0)] mixed rfl (by kernel_rfl) ?_) | fail | (simp only [go_sem, hb0])))
    · rw [if_neg hb0]
      by_cases ha0 : a = 0
      · rw [if_pos ha0]
        (repeat' (first | ((first | with_reducible refine vcG_split ?_ ?_ | with_reducible refine vcIf_split ?_ ?_ | with_reducible refine vcQ_split ?_ ?_ | with_reducible refine vcDG_split ?_ ?_) <;> intro hb <;> (try rw [hb]) <;> (try simp only [Bool.and_eq_true, Bool.or_eq_true, dtrue, dfalse, Bool.not_eq_true', Bool.not_eq_false', Bool.and_eq_false_iff, Bool.or_eq_false_iff, Bool.not_true, Bool.not_false] at hb) <;> (try simp only [within] at hb) <;> try (simp only [go_sem, hb0, ha0])) | refine And.intro (by (first | exact trivial | (simp only [I64]; omega) | omega)) ?_ | (with_reducible rw [vc_draw_eq]; first | refine CV.draw (id := 1) [(0, 0), (0, 0), (0, 0), (0, 0), (0, 0), (0, 0), (0, 0), (0, 0), (0, 0), (0, 0), (0, 0), (0, 0), (0, 0), (0, 0)] mixed rfl (by kernel_rfl) ?_) | fail | (simp only [go_sem, hb0, ha0])))
      · rw [if_neg ha0]
        (repeat' (first | ((first | with_reducible refine vcG_split ?_ ?_ | with_reducible refine vcIf_split ?_ ?_ | with_reducible refine vcQ_split ?_ ?_ | with_reducible refine vcDG_split ?_ ?_) <;> intro hb <;> (try rw [hb]) <;> (try simp only [Bool.and_eq_true, Bool.or_eq_true, dtrue, dfalse, Bool.not_eq_true', Bool.not_eq_false', Bool.and_eq_false_iff, Bool.or_eq_false_iff, Bool.not_true, Bool.not_false] at hb) <;> (try simp only [within] at hb) <;> try (simp only [go_sem, hb0, ha0])) | refine And.intro (by (first | exact trivial | (simp only [I64]; omega) | omega)) ?_ | (with_reducible rw [vc_draw_eq]; first | refine CV.draw (id := 1) [(0, 0), (0, 0), (0, 0), (0, 0), (0, 0), (0, 0), (0, 0), (0, 0), (0, 0), (0, 0), (0, 0), (0, 0), (0, 0), (0, 0)] mixed rfl (by kernel_rfl) ?_) | fail | (simp only [go_sem, hb0, ha0])))
end Go.Proofs.Ytllmohmgakdbdaa
