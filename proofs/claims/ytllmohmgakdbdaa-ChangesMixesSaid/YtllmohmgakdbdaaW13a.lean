/- Contracts of functions of the given program, without a condition beyond those that each theorem states; they lead to the given statement. -/
import Derived.Test.YtllmohmgakdbdaaW07x
set_option linter.unusedSimpArgs false
set_option linter.unusedVariables false
set_option maxRecDepth 100000
namespace Go.Proofs.Ytllmohmgakdbdaa
open Go Go.Fl
open Classical
theorem c28 (ts : List Thing) (ms : List Mark) (hv : okThings ts) (h40 : ts.length ≤ 40) (pl : List Int) (m : Int) : PC Try.prog 28 [hT ts ms, lN pl, .int .i64 m] (.bool (decide (arePl ts pl m))) := by
  by_cases hr : rising pl 0 (ts.length - 1)
  · have hrg : ∀ n, n ∈ pl → 0 ≤ n ∧ n < ts.length := fun n hn => by
      obtain ⟨j, hj⟩ := List.mem_iff_getElem?.1 hn
      obtain ⟨a, h1, h2, _⟩ := hr j (List.getElem?_eq_some_iff.1 hj).1
      rw [hj] at h1; cases h1
      unfold within at h2; omega
    refine PC.body Try.func28 (by kernel_rfl) rfl (by simp [Try.f28]) rfl ?_
    simp only [Try.f28]
    intro hlen
    simp only [go_sem, List.length_map, and_true, true_and] at hlen
    refine CV.run ?_
    (repeat' (first | ((first | with_reducible refine vcG_split ?_ ?_ | with_reducible refine vcIf_split ?_ ?_ | with_reducible refine vcQ_split ?_ ?_ | with_reducible refine vcDG_split ?_ ?_) <;> intro hb <;> (try rw [hb]) <;> (try simp only [Bool.and_eq_true, Bool.or_eq_true, dtrue, dfalse, Bool.not_eq_true', Bool.not_eq_false', Bool.and_eq_false_iff, Bool.or_eq_false_iff, Bool.not_true, Bool.not_false] at hb) <;> (try simp only [within] at hb) <;> try (simp only [go_sem, hr])) | refine And.intro (by (first | exact trivial | (simp only [I64]; omega) | omega)) ?_ | (with_reducible rw [vc_draw_eq]; first | refine CV.draw (id := 6) [(0, 0), (0, 0), (0, 0), (0, 0), (0, 0), (0, 0), (0, 0), (0, 0), (0, 0), (0, 0)] mixed rfl (by kernel_rfl) ?_) | (first | (refine vcP_pure (c30 _ _ _) rfl ?_ ?_ ?_; (focus (first | rfl | ((simp only [go_sem, hr, AV.pureL, AV.pure, pureL_mapI, Bool.and_self]) <;> fail))); (focus (first | ((simp only [go_sem, hr]) <;> fail) | rfl))) | (refine dCallP_pure (c30 _ _ _) rfl ?_ ?_ ?_; (focus (first | rfl | ((simp only [go_sem, hr, AV.pureL, AV.pure, pureL_mapI, Bool.and_self]) <;> fail))); (focus (first | ((simp only [go_sem, hr]) <;> fail) | rfl))) | refine vcP_safe (c30 _ _ _) rfl rfl (by (simp only [go_sem, hr])) ?_ | refine dCallP_safe (c30 _ _ _) rfl rfl ?_) | (simp only [go_sem, hr])))
    refine vc_for (fun j => ⟨[(7, .int .i64 j), (6, .bool false), (3, .lp 0 0), (1, lN pl), (2, .int .i64 m)], [.box 25 [.lst false 4 (ts.map encT), .lst false 3 (ms.map encM)] false]⟩) pl.length (fun j => ∀ i, i < j → plAt ts pl m i) (by (first | exact wk_same (by (simp only [go_sem, Int.natCast_add, Int.natCast_one, Int.natCast_zero, Int.cast_ofNat_Int])) | exact wk_drop (by (simp only [go_sem, Int.natCast_add, Int.natCast_one, Int.natCast_zero, Int.cast_ofNat_Int])) (by (simp only [go_sem, Int.natCast_add, Int.natCast_one, Int.natCast_zero, Int.cast_ofNat_Int])) (by (simp only [go_sem, Int.natCast_add, Int.natCast_one, Int.natCast_zero, Int.cast_ofNat_Int])) (by (simp only [go_sem, Int.natCast_add, Int.natCast_one, Int.natCast_zero, Int.cast_ofNat_Int])) (by (simp only [go_sem, Int.natCast_add, Int.natCast_one, Int.natCast_zero, Int.cast_ofNat_Int])))) (fun i h => by omega) ?_
    intro j hj hx
    rcases Nat.lt_or_ge j pl.length with hlt | hge
    · obtain ⟨n, hn⟩ := get_of hlt
      have hlt' : (j : Int) < pl.length := by omega
      have hnr := hrg n (List.mem_of_getElem? hn)
      obtain ⟨t, ht⟩ := get_of (l := ts) (j := n.toNat) (by omega)
      have hpr := (hv _ _ ht).2.2.2.2
      unfold within at hpr
      have hpl : plAt ts pl m j ↔ t.prints = 1 ∧ t.at_ ≤ m := by
        unfold plAt
        constructor
        · rintro ⟨_, n', t', h4, h5, h6, h7⟩
          rw [hn] at h4; cases h4
          rw [ht] at h5; cases h5
          exact ⟨h6, h7⟩
        · exact fun h => ⟨hr j hlt, n, t, hn, ht, h⟩
      (repeat' (first | ((first | with_reducible refine vcG_split ?_ ?_ | with_reducible refine vcIf_split ?_ ?_ | with_reducible refine vcQ_split ?_ ?_ | with_reducible refine vcDG_split ?_ ?_) <;> intro hb <;> (try rw [hb]) <;> (try simp only [Bool.and_eq_true, Bool.or_eq_true, dtrue, dfalse, Bool.not_eq_true', Bool.not_eq_false', Bool.and_eq_false_iff, Bool.or_eq_false_iff, Bool.not_true, Bool.not_false] at hb) <;> (try simp only [within] at hb) <;> try (simp only [go_sem, hlt', hn, ht, hnr, encN, encT])) | refine And.intro (by (first | exact trivial | (simp only [I64]; omega) | omega)) ?_ | (with_reducible rw [vc_draw_eq]; first | refine CV.draw (id := 6) [(0, 0), (0, 0), (0, 0), (0, 0), (0, 0), (0, 0), (0, 0), (0, 0), (0, 0), (0, 0)] mixed rfl (by kernel_rfl) ?_) | fail | (simp only [go_sem, hlt', hn, ht, hnr, encN, encT])))
      all_goals first
        | exact bf fun h => by have := hpl.1 (h j hlt); omega
        | (refine ⟨by (first | exact wk_same (by (simp only [go_sem, Int.natCast_add, Int.natCast_one, Int.natCast_zero, Int.cast_ofNat_Int])) | exact wk_drop (by (simp only [go_sem, Int.natCast_add, Int.natCast_one, Int.natCast_zero, Int.cast_ofNat_Int])) (by (simp only [go_sem, Int.natCast_add, Int.natCast_one, Int.natCast_zero, Int.cast_ofNat_Int])) (by (simp only [go_sem, Int.natCast_add, Int.natCast_one, Int.natCast_zero, Int.cast_ofNat_Int])) (by (simp only [go_sem, Int.natCast_add, Int.natCast_one, Int.natCast_zero, Int.cast_ofNat_Int])) (by (simp only [go_sem, Int.natCast_add, Int.natCast_one, Int.natCast_zero, Int.cast_ofNat_Int]))), fun i hi => ?_⟩
           rcases Nat.lt_or_ge i j with h | h
           · exact hx i h
           · have : i = j := by omega
             subst this
             exact hpl.2 (by omega))
        | trace_state
    · have hge' : ¬ (j : Int) < pl.length := by omega
      (repeat' (first | ((first | with_reducible refine vcG_split ?_ ?_ | with_reducible refine vcIf_split ?_ ?_ | with_reducible refine vcQ_split ?_ ?_ | with_reducible refine vcDG_split ?_ ?_) <;> intro hb <;> (try rw [hb]) <;> (try simp only [Bool.and_eq_true, Bool.or_eq_true, dtrue, dfalse, Bool.not_eq_true', Bool.not_eq_false', Bool.and_eq_false_iff, Bool.or_eq_false_iff, Bool.not_true, Bool.not_false] at hb) <;> (try simp only [within] at hb) <;> try (simp only [go_sem, hge'])) | refine And.intro (by (first | exact trivial | (simp only [I64]; omega) | omega)) ?_ | (with_reducible rw [vc_draw_eq]; first | refine CV.draw (id := 6) [(0, 0), (0, 0), (0, 0), (0, 0), (0, 0), (0, 0), (0, 0), (0, 0), (0, 0), (0, 0)] mixed rfl (by kernel_rfl) ?_) | fail | (simp only [go_sem, hge'])))
      exact bt fun i hi => hx i (by omega)
  · skip
    refine PC.body Try.func28 (by kernel_rfl) rfl (by simp [Try.f28]) rfl ?_
    simp only [Try.f28]
    intro hlen
    simp only [go_sem, List.length_map, and_true, true_and] at hlen
    refine CV.run ?_
    (repeat' (first | ((first | with_reducible refine vcG_split ?_ ?_ | with_reducible refine vcIf_split ?_ ?_ | with_reducible refine vcQ_split ?_ ?_ | with_reducible refine vcDG_split ?_ ?_) <;> intro hb <;> (try rw [hb]) <;> (try simp only [Bool.and_eq_true, Bool.or_eq_true, dtrue, dfalse, Bool.not_eq_true', Bool.not_eq_false', Bool.and_eq_false_iff, Bool.or_eq_false_iff, Bool.not_true, Bool.not_false] at hb) <;> (try simp only [within] at hb) <;> try (simp only [go_sem, hr])) | refine And.intro (by (first | exact trivial | (simp only [I64]; omega) | omega)) ?_ | (with_reducible rw [vc_draw_eq]; first | refine CV.draw (id := 6) [(0, 0), (0, 0), (0, 0), (0, 0), (0, 0), (0, 0), (0, 0), (0, 0), (0, 0), (0, 0)] mixed rfl (by kernel_rfl) ?_) | (first | (refine vcP_pure (c30 _ _ _) rfl ?_ ?_ ?_; (focus (first | rfl | ((simp only [go_sem, hr, AV.pureL, AV.pure, pureL_mapI, Bool.and_self]) <;> fail))); (focus (first | ((simp only [go_sem, hr]) <;> fail) | rfl))) | (refine dCallP_pure (c30 _ _ _) rfl ?_ ?_ ?_; (focus (first | rfl | ((simp only [go_sem, hr, AV.pureL, AV.pure, pureL_mapI, Bool.and_self]) <;> fail))); (focus (first | ((simp only [go_sem, hr]) <;> fail) | rfl))) | refine vcP_safe (c30 _ _ _) rfl rfl (by (simp only [go_sem, hr])) ?_ | refine dCallP_safe (c30 _ _ _) rfl rfl ?_) | (simp only [go_sem, hr])))
    exact bf fun h => hr fun j hj => (h j hj).1
noncomputable def cnt (q : Int → Prop) (pl : List Int) : Nat → Nat
  | 0 => 0
  | j + 1 => match pl[j]? with | some n => if q n then cnt q pl j + 1 else cnt q pl j | none => cnt q pl j
theorem cnt_spec (q : Int → Prop) (pl : List Int) : ∀ j, j ≤ pl.length → cnt q pl j ≤ j ∧ (0 < cnt q pl j ↔ ∃ (i : Nat) (n : Int), i < j ∧ pl[i]? = some n ∧ q n) ∧ (cnt q pl j < j ↔ ∃ (i : Nat) (n : Int), i < j ∧ pl[i]? = some n ∧ ¬ q n)
  | 0, _ => ⟨by simp [cnt], by constructor <;> rintro h <;> first | (simp [cnt] at h) | (obtain ⟨i, n, h1, _⟩ := h; omega), by constructor <;> rintro h <;> first | (omega) | (obtain ⟨i, n, h1, _⟩ := h; omega)⟩
  | j + 1, hj => by
    obtain ⟨n, hn⟩ := get_of (l := pl) (j := j) (by omega)
    obtain ⟨i1, i2, i3⟩ := cnt_spec q pl j (by omega)
    by_cases hq : q n
    · have e : cnt q pl (j + 1) = cnt q pl j + 1 := by simp [cnt, hn, hq]
      rw [e]
      refine ⟨by omega, ⟨fun _ => ⟨j, n, by omega, hn, hq⟩, fun _ => by omega⟩, ?_⟩
      constructor
      · intro h
        obtain ⟨i, a, h1, h2⟩ := i3.1 (by omega)
        exact ⟨i, a, by omega, h2⟩
      · rintro ⟨i, a, h1, h2, h3⟩
        have hne : i ≠ j := by
          rintro rfl
          rw [hn] at h2; cases h2; exact h3 hq
        have := i3.2 ⟨i, a, by omega, h2, h3⟩
        omega
    · have e : cnt q pl (j + 1) = cnt q pl j := by simp [cnt, hn, hq]
      rw [e]
      refine ⟨by omega, ?_, ⟨fun _ => ⟨j, n, by omega, hn, hq⟩, fun _ => by omega⟩⟩
      rw [i2]
      constructor
      · rintro ⟨i, a, h1, h2⟩; exact ⟨i, a, by omega, h2⟩
      · rintro ⟨i, a, h1, h2, h3⟩
        have hne : i ≠ j := by
          rintro rfl
          rw [hn] at h2; cases h2; exact hq h3
        exact ⟨i, a, by omega, h2, h3⟩
theorem cnt_mix (ts : List Thing) (ms : List Mark) (pl : List Int) (m : Int) (c : Nat) : mixOf ts ms pl m c ↔ 0 < cnt (fun n => hasAt ts ms c n m) pl pl.length ∧ cnt (fun n => hasAt ts ms c n m) pl pl.length < pl.length := by
  obtain ⟨_, h1, h2⟩ := cnt_spec (fun n => hasAt ts ms c n m) pl pl.length (Nat.le_refl _)
  rw [h1, h2]
  have e : ∀ r : Int → Prop, (∃ n, n ∈ pl ∧ r n) ↔ ∃ (i : Nat) (n : Int), i < pl.length ∧ pl[i]? = some n ∧ r n := fun r => by
    constructor
    · rintro ⟨n, hn, hr⟩
      obtain ⟨i, hi⟩ := List.mem_iff_getElem?.1 hn
      exact ⟨i, n, (List.getElem?_eq_some_iff.1 hi).1, hi, hr⟩
    · rintro ⟨i, n, _, hi, hr⟩
      exact ⟨n, List.mem_of_getElem? hi, hr⟩
  unfold mixOf
  rw [e, e]
set_option maxHeartbeats 1000000 in
theorem c77 (ts : List Thing) (ms : List Mark) (hv : okThings ts) (pl : List Int) (hpl : ∀ n, n ∈ pl → 0 ≤ n ∧ n < ts.length) (m : Int) : PC Try.prog 77 [hT ts ms, lN pl, .int .i64 m] (lN (sel (mixOf ts ms pl m) 3)) := by
  refine PC.body Try.func77 (by kernel_rfl) rfl (by simp [Try.f77]) rfl ?_
  simp only [Try.f77]
  intro hlen
  simp only [go_sem, List.length_map, and_true, true_and] at hlen
  refine CV.run ?_
  (repeat' (first | ((first | with_reducible refine vcG_split ?_ ?_ | with_reducible refine vcIf_split ?_ ?_ | with_reducible refine vcQ_split ?_ ?_ | with_reducible refine vcDG_split ?_ ?_) <;> intro hb <;> (try rw [hb]) <;> (try simp only [Bool.and_eq_true, Bool.or_eq_true, dtrue, dfalse, Bool.not_eq_true', Bool.not_eq_false', Bool.and_eq_false_iff, Bool.or_eq_false_iff, Bool.not_true, Bool.not_false] at hb) <;> (try simp only [within] at hb) <;> try (simp only [go_sem])) | refine And.intro (by (first | exact trivial | (simp only [I64]; omega) | omega)) ?_ | (with_reducible rw [vc_draw_eq]; first | refine CV.draw (id := 9) [(0, 0), (0, 0), (0, 0), (0, 0), (0, 0), (0, 0), (0, 0), (0, 0)] mixed rfl (by kernel_rfl) ?_) | fail | (simp only [go_sem])))
  refine vc_for (fun j => ⟨[(8, .int .i64 j), (7, oA 1 (sel (mixOf ts ms pl m) j)), (6, .nilS), (3, .lp 0 0), (1, lN pl), (2, .int .i64 m)], [.box 25 [.lst false 4 (ts.map encT), .lst false 3 (ms.map encM)] false] ++ oH (sel (mixOf ts ms pl m) j)⟩) 3 (fun j => True) (by (first | exact wk_same (by (simp only [go_sem, Int.natCast_add, Int.natCast_one, Int.natCast_zero, Int.cast_ofNat_Int, sel])) | exact wk_drop (by (simp only [go_sem, Int.natCast_add, Int.natCast_one, Int.natCast_zero, Int.cast_ofNat_Int, sel])) (by (simp only [go_sem, Int.natCast_add, Int.natCast_one, Int.natCast_zero, Int.cast_ofNat_Int, sel])) (by (simp only [go_sem, Int.natCast_add, Int.natCast_one, Int.natCast_zero, Int.cast_ofNat_Int, sel])) (by (simp only [go_sem, Int.natCast_add, Int.natCast_one, Int.natCast_zero, Int.cast_ofNat_Int, sel])) (by (simp only [go_sem, Int.natCast_add, Int.natCast_one, Int.natCast_zero, Int.cast_ofNat_Int, sel])))) trivial ?_
  intro j hj _
  have hsl := sel_len (mixOf ts ms pl m) j
  rcases Nat.lt_or_ge j 3 with hlt | hge
  · have hlt' : (j : Int) < 3 := by omega
    have hmx := cnt_mix ts ms pl m j
    have hhas := fun n hn => cHas ts ms hv j n m (hpl n hn)
    obtain ⟨q, hq⟩ : ∃ q : Int → Prop, q = fun n => hasAt ts ms j n m := ⟨_, rfl⟩
    have hqn : ∀ n, hasAt ts ms j n m = q n := fun n => by rw [hq]
    rw [← hq] at hmx
    simp only [hqn] at hhas
    generalize hS : sel (mixOf ts ms pl m) j = S at hsl ⊢
    rcases hs : S with _ | ⟨x, r⟩
    · (repeat' (first | ((first | with_reducible refine vcG_split ?_ ?_ | with_reducible refine vcIf_split ?_ ?_ | with_reducible refine vcQ_split ?_ ?_ | with_reducible refine vcDG_split ?_ ?_) <;> intro hb <;> (try rw [hb]) <;> (try simp only [Bool.and_eq_true, Bool.or_eq_true, dtrue, dfalse, Bool.not_eq_true', Bool.not_eq_false', Bool.and_eq_false_iff, Bool.or_eq_false_iff, Bool.not_true, Bool.not_false] at hb) <;> (try simp only [within] at hb) <;> try (simp only [go_sem, hlt', hs])) | refine And.intro (by (first | exact trivial | (simp only [I64]; omega) | omega)) ?_ | (with_reducible rw [vc_draw_eq]; first | refine CV.draw (id := 9) [(0, 0), (0, 0), (0, 0), (0, 0), (0, 0), (0, 0), (0, 0), (0, 0)] mixed rfl (by kernel_rfl) ?_) | fail | (simp only [go_sem, hlt', hs])))
      refine vc_for (fun i => ⟨[(10, .int .i64 i), (9, .int .i64 (cnt q pl i)), (8, .int .i64 j), (7, oA 1 S), (6, .nilS), (3, .lp 0 0), (1, lN pl), (2, .int .i64 m)], [.box 25 [.lst false 4 (ts.map encT), .lst false 3 (ms.map encM)] false] ++ oH S⟩) pl.length (fun j => True) (by (first | exact wk_same (by (simp only [go_sem, Int.natCast_add, Int.natCast_one, Int.natCast_zero, Int.cast_ofNat_Int, cnt, hs, encN])) | exact wk_drop (by (simp only [go_sem, Int.natCast_add, Int.natCast_one, Int.natCast_zero, Int.cast_ofNat_Int, cnt, hs, encN])) (by (simp only [go_sem, Int.natCast_add, Int.natCast_one, Int.natCast_zero, Int.cast_ofNat_Int, cnt, hs, encN])) (by (simp only [go_sem, Int.natCast_add, Int.natCast_one, Int.natCast_zero, Int.cast_ofNat_Int, cnt, hs, encN])) (by (simp only [go_sem, Int.natCast_add, Int.natCast_one, Int.natCast_zero, Int.cast_ofNat_Int, cnt, hs, encN])) (by (simp only [go_sem, Int.natCast_add, Int.natCast_one, Int.natCast_zero, Int.cast_ofNat_Int, cnt, hs, encN])))) trivial ?_
      intro i hi _
      have hci := (cnt_spec q pl i hi).1
      rcases Nat.lt_or_ge i pl.length with hlti | hgei
      · obtain ⟨n, hn⟩ := get_of hlti
        have hlti' : (i : Int) < pl.length := by omega
        have h75 := hhas n (List.mem_of_getElem? hn)
        (repeat' (first | ((first | with_reducible refine vcG_split ?_ ?_ | with_reducible refine vcIf_split ?_ ?_ | with_reducible refine vcQ_split ?_ ?_ | with_reducible refine vcDG_split ?_ ?_) <;> intro hb <;> (try rw [hb]) <;> (try simp only [Bool.and_eq_true, Bool.or_eq_true, dtrue, dfalse, Bool.not_eq_true', Bool.not_eq_false', Bool.and_eq_false_iff, Bool.or_eq_false_iff, Bool.not_true, Bool.not_false] at hb) <;> (try simp only [within] at hb) <;> try (simp only [go_sem, hlti', hn, hs, encN])) | refine And.intro (by (first | exact trivial | (simp only [I64]; omega) | omega)) ?_ | (with_reducible rw [vc_draw_eq]; first | refine CV.draw (id := 9) [(0, 0), (0, 0), (0, 0), (0, 0), (0, 0), (0, 0), (0, 0), (0, 0)] mixed rfl (by kernel_rfl) ?_) | (first | (refine vcP_pure (h75) rfl ?_ ?_ ?_; (focus (first | rfl | ((simp only [go_sem, hlti', hn, hs, encN, AV.pureL, AV.pure, pureL_mapI, Bool.and_self]) <;> fail))); (focus (first | ((simp only [go_sem, hlti', hn, hs, encN]) <;> fail) | rfl))) | (refine dCallP_pure (h75) rfl ?_ ?_ ?_; (focus (first | rfl | ((simp only [go_sem, hlti', hn, hs, encN, AV.pureL, AV.pure, pureL_mapI, Bool.and_self]) <;> fail))); (focus (first | ((simp only [go_sem, hlti', hn, hs, encN]) <;> fail) | rfl))) | refine vcP_safe (h75) rfl rfl (by (simp only [go_sem, hlti', hn, hs, encN])) ?_ | refine dCallP_safe (h75) rfl rfl ?_) | (simp only [go_sem, hlti', hn, hs, encN])))
        · have e : cnt q pl (i + 1) = cnt q pl i + 1 := by simp [cnt, hn, hb]
          (first | exact wk_same (by (simp only [go_sem, Int.natCast_add, Int.natCast_one, Int.natCast_zero, Int.cast_ofNat_Int, e, hs, encN])) | exact wk_drop (by (simp only [go_sem, Int.natCast_add, Int.natCast_one, Int.natCast_zero, Int.cast_ofNat_Int, e, hs, encN])) (by (simp only [go_sem, Int.natCast_add, Int.natCast_one, Int.natCast_zero, Int.cast_ofNat_Int, e, hs, encN])) (by (simp only [go_sem, Int.natCast_add, Int.natCast_one, Int.natCast_zero, Int.cast_ofNat_Int, e, hs, encN])) (by (simp only [go_sem, Int.natCast_add, Int.natCast_one, Int.natCast_zero, Int.cast_ofNat_Int, e, hs, encN])) (by (simp only [go_sem, Int.natCast_add, Int.natCast_one, Int.natCast_zero, Int.cast_ofNat_Int, e, hs, encN])))
        · have e : cnt q pl (i + 1) = cnt q pl i := by simp [cnt, hn, hb]
          (first | exact wk_same (by (simp only [go_sem, Int.natCast_add, Int.natCast_one, Int.natCast_zero, Int.cast_ofNat_Int, e, hs, encN])) | exact wk_drop (by (simp only [go_sem, Int.natCast_add, Int.natCast_one, Int.natCast_zero, Int.cast_ofNat_Int, e, hs, encN])) (by (simp only [go_sem, Int.natCast_add, Int.natCast_one, Int.natCast_zero, Int.cast_ofNat_Int, e, hs, encN])) (by (simp only [go_sem, Int.natCast_add, Int.natCast_one, Int.natCast_zero, Int.cast_ofNat_Int, e, hs, encN])) (by (simp only [go_sem, Int.natCast_add, Int.natCast_one, Int.natCast_zero, Int.cast_ofNat_Int, e, hs, encN])) (by (simp only [go_sem, Int.natCast_add, Int.natCast_one, Int.natCast_zero, Int.cast_ofNat_Int, e, hs, encN])))
      · have hgei' : ¬ (i : Int) < pl.length := by omega
        have : i = pl.length := by omega
        subst this
        (repeat' (first | ((first | with_reducible refine vcG_split ?_ ?_ | with_reducible refine vcIf_split ?_ ?_ | with_reducible refine vcQ_split ?_ ?_ | with_reducible refine vcDG_split ?_ ?_) <;> intro hb <;> (try rw [hb]) <;> (try simp only [Bool.and_eq_true, Bool.or_eq_true, dtrue, dfalse, Bool.not_eq_true', Bool.not_eq_false', Bool.and_eq_false_iff, Bool.or_eq_false_iff, Bool.not_true, Bool.not_false] at hb) <;> (try simp only [within] at hb) <;> try (simp only [go_sem, hgei', hs, encN])) | refine And.intro (by (first | exact trivial | (simp only [I64]; omega) | omega)) ?_ | (with_reducible rw [vc_draw_eq]; first | refine CV.draw (id := 9) [(0, 0), (0, 0), (0, 0), (0, 0), (0, 0), (0, 0), (0, 0), (0, 0)] mixed rfl (by kernel_rfl) ?_) | fail | (simp only [go_sem, hgei', hs, encN])))
        all_goals first
          | (have e := sel_yes (p := mixOf ts ms pl m) (n := j) (hmx.2 (by omega))
             rw [hS, hs] at e
             (first | exact wk_same (by (simp only [go_sem, Int.natCast_add, Int.natCast_one, Int.natCast_zero, Int.cast_ofNat_Int, e, encN, List.nil_append, List.cons_append, List.map_append, List.length_append])) | exact wk_drop (by (simp only [go_sem, Int.natCast_add, Int.natCast_one, Int.natCast_zero, Int.cast_ofNat_Int, e, encN, List.nil_append, List.cons_append, List.map_append, List.length_append])) (by (simp only [go_sem, Int.natCast_add, Int.natCast_one, Int.natCast_zero, Int.cast_ofNat_Int, e, encN, List.nil_append, List.cons_append, List.map_append, List.length_append])) (by (simp only [go_sem, Int.natCast_add, Int.natCast_one, Int.natCast_zero, Int.cast_ofNat_Int, e, encN, List.nil_append, List.cons_append, List.map_append, List.length_append])) (by (simp only [go_sem, Int.natCast_add, Int.natCast_one, Int.natCast_zero, Int.cast_ofNat_Int, e, encN, List.nil_append, List.cons_append, List.map_append, List.length_append])) (by (simp only [go_sem, Int.natCast_add, Int.natCast_one, Int.natCast_zero, Int.cast_ofNat_Int, e, encN, List.nil_append, List.cons_append, List.map_append, List.length_append]))))
          | (have e := sel_no (p := mixOf ts ms pl m) (n := j) (fun h => by have := hmx.1 h; omega)
             rw [hS, hs] at e
             (first | exact wk_same (by (simp only [go_sem, Int.natCast_add, Int.natCast_one, Int.natCast_zero, Int.cast_ofNat_Int, e, encN])) | exact wk_drop (by (simp only [go_sem, Int.natCast_add, Int.natCast_one, Int.natCast_zero, Int.cast_ofNat_Int, e, encN])) (by (simp only [go_sem, Int.natCast_add, Int.natCast_one, Int.natCast_zero, Int.cast_ofNat_Int, e, encN])) (by (simp only [go_sem, Int.natCast_add, Int.natCast_one, Int.natCast_zero, Int.cast_ofNat_Int, e, encN])) (by (simp only [go_sem, Int.natCast_add, Int.natCast_one, Int.natCast_zero, Int.cast_ofNat_Int, e, encN])) (by (simp only [go_sem, Int.natCast_add, Int.natCast_one, Int.natCast_zero, Int.cast_ofNat_Int, e, encN]))))
          | trace_state
    · rw [hs] at hsl
      simp only [List.length_cons] at hsl
      (repeat' (first | ((first | with_reducible refine vcG_split ?_ ?_ | with_reducible refine vcIf_split ?_ ?_ | with_reducible refine vcQ_split ?_ ?_ | with_reducible refine vcDG_split ?_ ?_) <;> intro hb <;> (try rw [hb]) <;> (try simp only [Bool.and_eq_true, Bool.or_eq_true, dtrue, dfalse, Bool.not_eq_true', Bool.not_eq_false', Bool.and_eq_false_iff, Bool.or_eq_false_iff, Bool.not_true, Bool.not_false] at hb) <;> (try simp only [within] at hb) <;> try (simp only [go_sem, hlt', hs])) | refine And.intro (by (first | exact trivial | (simp only [I64]; omega) | omega)) ?_ | (with_reducible rw [vc_draw_eq]; first | refine CV.draw (id := 9) [(0, 0), (0, 0), (0, 0), (0, 0), (0, 0), (0, 0), (0, 0), (0, 0)] mixed rfl (by kernel_rfl) ?_) | fail | (simp only [go_sem, hlt', hs])))
      refine vc_for (fun i => ⟨[(10, .int .i64 i), (9, .int .i64 (cnt q pl i)), (8, .int .i64 j), (7, oA 1 S), (6, .nilS), (3, .lp 0 0), (1, lN pl), (2, .int .i64 m)], [.box 25 [.lst false 4 (ts.map encT), .lst false 3 (ms.map encM)] false] ++ oH S⟩) pl.length (fun j => True) (by (first | exact wk_same (by (simp only [go_sem, Int.natCast_add, Int.natCast_one, Int.natCast_zero, Int.cast_ofNat_Int, cnt, hs, encN])) | exact wk_drop (by (simp only [go_sem, Int.natCast_add, Int.natCast_one, Int.natCast_zero, Int.cast_ofNat_Int, cnt, hs, encN])) (by (simp only [go_sem, Int.natCast_add, Int.natCast_one, Int.natCast_zero, Int.cast_ofNat_Int, cnt, hs, encN])) (by (simp only [go_sem, Int.natCast_add, Int.natCast_one, Int.natCast_zero, Int.cast_ofNat_Int, cnt, hs, encN])) (by (simp only [go_sem, Int.natCast_add, Int.natCast_one, Int.natCast_zero, Int.cast_ofNat_Int, cnt, hs, encN])) (by (simp only [go_sem, Int.natCast_add, Int.natCast_one, Int.natCast_zero, Int.cast_ofNat_Int, cnt, hs, encN])))) trivial ?_
      intro i hi _
      have hci := (cnt_spec q pl i hi).1
      rcases Nat.lt_or_ge i pl.length with hlti | hgei
      · obtain ⟨n, hn⟩ := get_of hlti
        have hlti' : (i : Int) < pl.length := by omega
        have h75 := hhas n (List.mem_of_getElem? hn)
        (repeat' (first | ((first | with_reducible refine vcG_split ?_ ?_ | with_reducible refine vcIf_split ?_ ?_ | with_reducible refine vcQ_split ?_ ?_ | with_reducible refine vcDG_split ?_ ?_) <;> intro hb <;> (try rw [hb]) <;> (try simp only [Bool.and_eq_true, Bool.or_eq_true, dtrue, dfalse, Bool.not_eq_true', Bool.not_eq_false', Bool.and_eq_false_iff, Bool.or_eq_false_iff, Bool.not_true, Bool.not_false] at hb) <;> (try simp only [within] at hb) <;> try (simp only [go_sem, hlti', hn, hs, encN])) | refine And.intro (by (first | exact trivial | (simp only [I64]; omega) | omega)) ?_ | (with_reducible rw [vc_draw_eq]; first | refine CV.draw (id := 9) [(0, 0), (0, 0), (0, 0), (0, 0), (0, 0), (0, 0), (0, 0), (0, 0)] mixed rfl (by kernel_rfl) ?_) | (first | (refine vcP_pure (h75) rfl ?_ ?_ ?_; (focus (first | rfl | ((simp only [go_sem, hlti', hn, hs, encN, AV.pureL, AV.pure, pureL_mapI, Bool.and_self]) <;> fail))); (focus (first | ((simp only [go_sem, hlti', hn, hs, encN]) <;> fail) | rfl))) | (refine dCallP_pure (h75) rfl ?_ ?_ ?_; (focus (first | rfl | ((simp only [go_sem, hlti', hn, hs, encN, AV.pureL, AV.pure, pureL_mapI, Bool.and_self]) <;> fail))); (focus (first | ((simp only [go_sem, hlti', hn, hs, encN]) <;> fail) | rfl))) | refine vcP_safe (h75) rfl rfl (by (simp only [go_sem, hlti', hn, hs, encN])) ?_ | refine dCallP_safe (h75) rfl rfl ?_) | (simp only [go_sem, hlti', hn, hs, encN])))
        · have e : cnt q pl (i + 1) = cnt q pl i + 1 := by simp [cnt, hn, hb]
          (first | exact wk_same (by (simp only [go_sem, Int.natCast_add, Int.natCast_one, Int.natCast_zero, Int.cast_ofNat_Int, e, hs, encN])) | exact wk_drop (by (simp only [go_sem, Int.natCast_add, Int.natCast_one, Int.natCast_zero, Int.cast_ofNat_Int, e, hs, encN])) (by (simp only [go_sem, Int.natCast_add, Int.natCast_one, Int.natCast_zero, Int.cast_ofNat_Int, e, hs, encN])) (by (simp only [go_sem, Int.natCast_add, Int.natCast_one, Int.natCast_zero, Int.cast_ofNat_Int, e, hs, encN])) (by (simp only [go_sem, Int.natCast_add, Int.natCast_one, Int.natCast_zero, Int.cast_ofNat_Int, e, hs, encN])) (by (simp only [go_sem, Int.natCast_add, Int.natCast_one, Int.natCast_zero, Int.cast_ofNat_Int, e, hs, encN])))
        · have e : cnt q pl (i + 1) = cnt q pl i := by simp [cnt, hn, hb]
          (first | exact wk_same (by (simp only [go_sem, Int.natCast_add, Int.natCast_one, Int.natCast_zero, Int.cast_ofNat_Int, e, hs, encN])) | exact wk_drop (by (simp only [go_sem, Int.natCast_add, Int.natCast_one, Int.natCast_zero, Int.cast_ofNat_Int, e, hs, encN])) (by (simp only [go_sem, Int.natCast_add, Int.natCast_one, Int.natCast_zero, Int.cast_ofNat_Int, e, hs, encN])) (by (simp only [go_sem, Int.natCast_add, Int.natCast_one, Int.natCast_zero, Int.cast_ofNat_Int, e, hs, encN])) (by (simp only [go_sem, Int.natCast_add, Int.natCast_one, Int.natCast_zero, Int.cast_ofNat_Int, e, hs, encN])) (by (simp only [go_sem, Int.natCast_add, Int.natCast_one, Int.natCast_zero, Int.cast_ofNat_Int, e, hs, encN])))
      · have hgei' : ¬ (i : Int) < pl.length := by omega
        have : i = pl.length := by omega
        subst this
        (repeat' (first | ((first | with_reducible refine vcG_split ?_ ?_ | with_reducible refine vcIf_split ?_ ?_ | with_reducible refine vcQ_split ?_ ?_ | with_reducible refine vcDG_split ?_ ?_) <;> intro hb <;> (try rw [hb]) <;> (try simp only [Bool.and_eq_true, Bool.or_eq_true, dtrue, dfalse, Bool.not_eq_true', Bool.not_eq_false', Bool.and_eq_false_iff, Bool.or_eq_false_iff, Bool.not_true, Bool.not_false] at hb) <;> (try simp only [within] at hb) <;> try (simp only [go_sem, hgei', hs, encN])) | refine And.intro (by (first | exact trivial | (simp only [I64]; omega) | omega)) ?_ | (with_reducible rw [vc_draw_eq]; first | refine CV.draw (id := 9) [(0, 0), (0, 0), (0, 0), (0, 0), (0, 0), (0, 0), (0, 0), (0, 0)] mixed rfl (by kernel_rfl) ?_) | fail | (simp only [go_sem, hgei', hs, encN])))
        all_goals first
          | (have e := sel_yes (p := mixOf ts ms pl m) (n := j) (hmx.2 (by omega))
             rw [hS, hs] at e
             (first | exact wk_same (by (simp only [go_sem, Int.natCast_add, Int.natCast_one, Int.natCast_zero, Int.cast_ofNat_Int, e, encN, List.nil_append, List.cons_append, List.map_append, List.length_append])) | exact wk_drop (by (simp only [go_sem, Int.natCast_add, Int.natCast_one, Int.natCast_zero, Int.cast_ofNat_Int, e, encN, List.nil_append, List.cons_append, List.map_append, List.length_append])) (by (simp only [go_sem, Int.natCast_add, Int.natCast_one, Int.natCast_zero, Int.cast_ofNat_Int, e, encN, List.nil_append, List.cons_append, List.map_append, List.length_append])) (by (simp only [go_sem, Int.natCast_add, Int.natCast_one, Int.natCast_zero, Int.cast_ofNat_Int, e, encN, List.nil_append, List.cons_append, List.map_append, List.length_append])) (by (simp only [go_sem, Int.natCast_add, Int.natCast_one, Int.natCast_zero, Int.cast_ofNat_Int, e, encN, List.nil_append, List.cons_append, List.map_append, List.length_append])) (by (simp only [go_sem, Int.natCast_add, Int.natCast_one, Int.natCast_zero, Int.cast_ofNat_Int, e, encN, List.nil_append, List.cons_append, List.map_append, List.length_append]))))
          | (have e := sel_no (p := mixOf ts ms pl m) (n := j) (fun h => by have := hmx.1 h; omega)
             rw [hS, hs] at e
             (first | exact wk_same (by (simp only [go_sem, Int.natCast_add, Int.natCast_one, Int.natCast_zero, Int.cast_ofNat_Int, e, encN])) | exact wk_drop (by (simp only [go_sem, Int.natCast_add, Int.natCast_one, Int.natCast_zero, Int.cast_ofNat_Int, e, encN])) (by (simp only [go_sem, Int.natCast_add, Int.natCast_one, Int.natCast_zero, Int.cast_ofNat_Int, e, encN])) (by (simp only [go_sem, Int.natCast_add, Int.natCast_one, Int.natCast_zero, Int.cast_ofNat_Int, e, encN])) (by (simp only [go_sem, Int.natCast_add, Int.natCast_one, Int.natCast_zero, Int.cast_ofNat_Int, e, encN])) (by (simp only [go_sem, Int.natCast_add, Int.natCast_one, Int.natCast_zero, Int.cast_ofNat_Int, e, encN]))))
          | trace_state
  · have hge' : ¬ (j : Int) < 3 := by omega
    have : j = 3 := by omega
    subst this
    rcases hs : sel (mixOf ts ms pl m) 3 with _ | ⟨x, r⟩
    · (repeat' (first | ((first | with_reducible refine vcG_split ?_ ?_ | with_reducible refine vcIf_split ?_ ?_ | with_reducible refine vcQ_split ?_ ?_ | with_reducible refine vcDG_split ?_ ?_) <;> intro hb <;> (try rw [hb]) <;> (try simp only [Bool.and_eq_true, Bool.or_eq_true, dtrue, dfalse, Bool.not_eq_true', Bool.not_eq_false', Bool.and_eq_false_iff, Bool.or_eq_false_iff, Bool.not_true, Bool.not_false] at hb) <;> (try simp only [within] at hb) <;> try (simp only [go_sem, hge', hs, Int.lt_irrefl])) | refine And.intro (by (first | exact trivial | (simp only [I64]; omega) | omega)) ?_ | (with_reducible rw [vc_draw_eq]; first | refine CV.draw (id := 9) [(0, 0), (0, 0), (0, 0), (0, 0), (0, 0), (0, 0), (0, 0), (0, 0)] mixed rfl (by kernel_rfl) ?_) | fail | (simp only [go_sem, hge', hs, Int.lt_irrefl])))
    · (repeat' (first | ((first | with_reducible refine vcG_split ?_ ?_ | with_reducible refine vcIf_split ?_ ?_ | with_reducible refine vcQ_split ?_ ?_ | with_reducible refine vcDG_split ?_ ?_) <;> intro hb <;> (try rw [hb]) <;> (try simp only [Bool.and_eq_true, Bool.or_eq_true, dtrue, dfalse, Bool.not_eq_true', Bool.not_eq_false', Bool.and_eq_false_iff, Bool.or_eq_false_iff, Bool.not_true, Bool.not_false] at hb) <;> (try simp only [within] at hb) <;> try (simp only [go_sem, hge', hs, encN, Int.lt_irrefl])) | refine And.intro (by (first | exact trivial | (simp only [I64]; omega) | omega)) ?_ | (with_reducible rw [vc_draw_eq]; first | refine CV.draw (id := 9) [(0, 0), (0, 0), (0, 0), (0, 0), (0, 0), (0, 0), (0, 0), (0, 0)] mixed rfl (by kernel_rfl) ?_) | fail | (simp only [go_sem, hge', hs, encN, Int.lt_irrefl])))
end Go.Proofs.Ytllmohmgakdbdaa
