/- Contracts of functions of the given program, without a condition beyond those that each theorem states; they lead to the given statement. -/
import Derived.Test.YtllmohmgakdbdaaW07w
set_option linter.unusedSimpArgs false
set_option linter.unusedVariables false
set_option maxRecDepth 100000
namespace Go.Proofs.Ytllmohmgakdbdaa
open Go Go.Fl
open Classical
theorem hasAt_gv {ts : List Thing} {ms : List Mark} (hv : valid ts ms) {c i m : Int} (hi : 0 ≤ i ∧ i < ts.length) (hm : m ≤ 99) : hasAt ts ms c i m = (gv (sP ts ms c) i ≤ m) := propext (hasAt_iff ts ms hv.things hv.marks hv.1 c i m hi hm)
theorem c33 (ts : List Thing) (ms : List Mark) (hv : valid ts ms) (i c m : Int) (hi : 0 ≤ i ∧ i < ts.length) (hc : within c 0 2) (hm : within m 0 99) : PC Try.prog 33 [hT ts ms, .int .i64 i, .int .i64 c, .int .i64 m] (.tup [.bool (decide (gv (sP ts ms c) i ≤ m)), .bool true]) := by
  have hiw : within i 0 (ts.length - 1) := by unfold within; omega
  have h := c44 ts ms i c m _ (answer_yes (ts := ts) (ms := ms) (is := within i 0 (ts.length - 1) ∧ within c 0 2 ∧ within m 0 99) (no := False) (x := (hasAt ts ms c i m, 0)) ⟨hv, hiw, hc, hm⟩).symm
  rw [show (hasAt ts ms c i m, (0 : Int)).1 = (gv (sP ts ms c) i ≤ m) from hasAt_gv hv hi (by unfold within at hm; omega)] at h
  refine PC.body Try.func33 (by kernel_rfl) rfl (by simp [Try.f33]) rfl ?_
  simp only [Try.f33]
  intro hlen
  simp only [go_sem, List.length_map, and_true, true_and] at hlen
  refine CV.run ?_
  (repeat' (first | ((first | with_reducible refine vcG_split ?_ ?_ | with_reducible refine vcIf_split ?_ ?_ | with_reducible refine vcQ_split ?_ ?_ | with_reducible refine vcDG_split ?_ ?_) <;> intro hb <;> (try rw [hb]) <;> (try simp only [Bool.and_eq_true, Bool.or_eq_true, dtrue, dfalse, Bool.not_eq_true', Bool.not_eq_false', Bool.and_eq_false_iff, Bool.or_eq_false_iff, Bool.not_true, Bool.not_false] at hb) <;> (try simp only [within] at hb) <;> try (simp only [go_sem])) | refine And.intro (by (first | exact trivial | (simp only [I64]; omega) | omega)) ?_ | (first | (refine vcP_pure (h) rfl ?_ ?_ ?_; (focus (first | rfl | ((simp only [go_sem, AV.pureL, AV.pure, pureL_mapI, Bool.and_self]) <;> fail))); (focus (first | ((simp only [go_sem]) <;> fail) | rfl))) | (refine dCallP_pure (h) rfl ?_ ?_ ?_; (focus (first | rfl | ((simp only [go_sem, AV.pureL, AV.pure, pureL_mapI, Bool.and_self]) <;> fail))); (focus (first | ((simp only [go_sem]) <;> fail) | rfl))) | refine vcP_safe (h) rfl rfl (by (simp only [go_sem])) ?_ | refine dCallP_safe (h) rfl rfl ?_) | (simp only [go_sem])))
  exact bd Iff.rfl
theorem rSince_gv {ts : List Thing} {ms : List Mark} (hv : valid ts ms) {c i : Int} (hi : 0 ≤ i ∧ i < ts.length) (hc : within c 0 2) : rSince ts ms i c = if gv (sP ts ms c) i = 100 then (0, 3) else (gv (sP ts ms c) i, 0) := by
  have hiw : within i 0 (ts.length - 1) := by unfold within; omega
  have hb := sv_bounds ts ms hv.things hv.marks hv.1 c i hi
  rw [show rSince ts ms i c = _ from answer_yes ⟨hv, hiw, hc⟩, since_gv ts ms hv.things hv.marks hv.1 c i hi]
  by_cases h : gv (sP ts ms c) i = 100
  · rw [if_pos h, if_pos h, if_pos (by omega)]
  · rw [if_neg h, if_neg h, if_neg (by omega)]
theorem c34 (ts : List Thing) (ms : List Mark) (hv : valid ts ms) (i c : Int) (hi : 0 ≤ i ∧ i < ts.length) (hc : within c 0 2) : PC Try.prog 34 [hT ts ms, .int .i64 i, .int .i64 c] (.tup [.int .i64 (gv (sP ts ms c) i), .bool true]) := by
  have hb := sv_bounds ts ms hv.things hv.marks hv.1 c i hi
  have h := c48 ts ms i c
  rw [rSince_gv hv hi hc] at h
  by_cases hg : gv (sP ts ms c) i = 100
  · rw [if_pos hg] at h
    rw [hg]
    refine PC.body Try.func34 (by kernel_rfl) rfl (by simp [Try.f34]) rfl ?_
    simp only [Try.f34]
    intro hlen
    simp only [go_sem, List.length_map, and_true, true_and] at hlen
    refine CV.run ?_
    (repeat' (first | ((first | with_reducible refine vcG_split ?_ ?_ | with_reducible refine vcIf_split ?_ ?_ | with_reducible refine vcQ_split ?_ ?_ | with_reducible refine vcDG_split ?_ ?_) <;> intro hb <;> (try rw [hb]) <;> (try simp only [Bool.and_eq_true, Bool.or_eq_true, dtrue, dfalse, Bool.not_eq_true', Bool.not_eq_false', Bool.and_eq_false_iff, Bool.or_eq_false_iff, Bool.not_true, Bool.not_false] at hb) <;> (try simp only [within] at hb) <;> try (simp only [go_sem])) | refine And.intro (by (first | exact trivial | (simp only [I64]; omega) | omega)) ?_ | (first | (refine vcP_pure (h) rfl ?_ ?_ ?_; (focus (first | rfl | ((simp only [go_sem, AV.pureL, AV.pure, pureL_mapI, Bool.and_self]) <;> fail))); (focus (first | ((simp only [go_sem]) <;> fail) | rfl))) | (refine dCallP_pure (h) rfl ?_ ?_ ?_; (focus (first | rfl | ((simp only [go_sem, AV.pureL, AV.pure, pureL_mapI, Bool.and_self]) <;> fail))); (focus (first | ((simp only [go_sem]) <;> fail) | rfl))) | refine vcP_safe (h) rfl rfl (by (simp only [go_sem])) ?_ | refine dCallP_safe (h) rfl rfl ?_) | (simp only [go_sem])))
  · rw [if_neg hg] at h
    have hw : within (gv (sP ts ms c) i) 0 99 := by unfold within; omega
    refine PC.body Try.func34 (by kernel_rfl) rfl (by simp [Try.f34]) rfl ?_
    simp only [Try.f34]
    intro hlen
    simp only [go_sem, List.length_map, and_true, true_and] at hlen
    refine CV.run ?_
    (repeat' (first | ((first | with_reducible refine vcG_split ?_ ?_ | with_reducible refine vcIf_split ?_ ?_ | with_reducible refine vcQ_split ?_ ?_ | with_reducible refine vcDG_split ?_ ?_) <;> intro hb <;> (try rw [hb]) <;> (try simp only [Bool.and_eq_true, Bool.or_eq_true, dtrue, dfalse, Bool.not_eq_true', Bool.not_eq_false', Bool.and_eq_false_iff, Bool.or_eq_false_iff, Bool.not_true, Bool.not_false] at hb) <;> (try simp only [within] at hb) <;> try (simp only [go_sem, hw])) | refine And.intro (by (first | exact trivial | (simp only [I64]; omega) | omega)) ?_ | (first | (refine vcP_pure (h) rfl ?_ ?_ ?_; (focus (first | rfl | ((simp only [go_sem, hw, AV.pureL, AV.pure, pureL_mapI, Bool.and_self]) <;> fail))); (focus (first | ((simp only [go_sem, hw]) <;> fail) | rfl))) | (refine dCallP_pure (h) rfl ?_ ?_ ?_; (focus (first | rfl | ((simp only [go_sem, hw, AV.pureL, AV.pure, pureL_mapI, Bool.and_self]) <;> fail))); (focus (first | ((simp only [go_sem, hw]) <;> fail) | rfl))) | refine vcP_safe (h) rfl rfl (by (simp only [go_sem, hw])) ?_ | refine dCallP_safe (h) rfl rfl ?_ | (refine vcP_pure (c17 _) rfl ?_ ?_ ?_; (focus (first | rfl | ((simp only [go_sem, hw, AV.pureL, AV.pure, pureL_mapI, Bool.and_self]) <;> fail))); (focus (first | ((simp only [go_sem, hw]) <;> fail) | rfl))) | (refine dCallP_pure (c17 _) rfl ?_ ?_ ?_; (focus (first | rfl | ((simp only [go_sem, hw, AV.pureL, AV.pure, pureL_mapI, Bool.and_self]) <;> fail))); (focus (first | ((simp only [go_sem, hw]) <;> fail) | rfl))) | refine vcP_safe (c17 _) rfl rfl (by (simp only [go_sem, hw])) ?_ | refine dCallP_safe (c17 _) rfl rfl ?_) | (simp only [go_sem, hw])))
    all_goals (exfalso; omega)
theorem bestL_bounds (ts : List Thing) (ms : List Mark) (hv : valid ts ms) (c now : Int) : 0 ≤ costOf ts (bestL ts ms c now) ∧ costOf ts (bestL ts ms c now) ≤ 99 * ts.length ∧ (bestL ts ms c now).length ≤ ts.length := by
  unfold bestL
  cases h : bestK ts ms c now (2 ^ ts.length) with
  | none => simp [costOf]; omega
  | some b => exact bestK_bounds ts ms hv.things c now _ b h
theorem c19 (ts : List Thing) (ms : List Mark) (hv : valid ts ms) (c now : Int) (hc : within c 0 2) (hn : within now 0 99) : PC Try.prog 19 [hT ts ms, .int .i64 c, .int .i64 now] (.int .i64 (costOf ts (bestL ts ms c now))) := by
  have h := c52 ts ms c now
  rw [show rCheap ts ms c now = _ from answer_yes ⟨hv, hc, hn⟩] at h
  obtain ⟨h1, h2, _⟩ := bestL_bounds ts ms hv c now
  have hl := hv.1
  refine PC.body Try.func19 (by kernel_rfl) rfl (by simp [Try.f19]) rfl ?_
  simp only [Try.f19]
  intro hlen
  simp only [go_sem, List.length_map, and_true, true_and] at hlen
  refine CV.run ?_
  (repeat' (first | ((first | with_reducible refine vcG_split ?_ ?_ | with_reducible refine vcIf_split ?_ ?_ | with_reducible refine vcQ_split ?_ ?_ | with_reducible refine vcDG_split ?_ ?_) <;> intro hb <;> (try rw [hb]) <;> (try simp only [Bool.and_eq_true, Bool.or_eq_true, dtrue, dfalse, Bool.not_eq_true', Bool.not_eq_false', Bool.and_eq_false_iff, Bool.or_eq_false_iff, Bool.not_true, Bool.not_false] at hb) <;> (try simp only [within] at hb) <;> try (simp only [go_sem])) | refine And.intro (by (first | exact trivial | (simp only [I64]; omega) | omega)) ?_ | (first | (refine vcP_pure (h) rfl ?_ ?_ ?_; (focus (first | rfl | ((simp only [go_sem, AV.pureL, AV.pure, pureL_mapI, Bool.and_self]) <;> fail))); (focus (first | ((simp only [go_sem]) <;> fail) | rfl))) | (refine dCallP_pure (h) rfl ?_ ?_ ?_; (focus (first | rfl | ((simp only [go_sem, AV.pureL, AV.pure, pureL_mapI, Bool.and_self]) <;> fail))); (focus (first | ((simp only [go_sem]) <;> fail) | rfl))) | refine vcP_safe (h) rfl rfl (by (simp only [go_sem])) ?_ | refine dCallP_safe (h) rfl rfl ?_) | (simp only [go_sem])))
  all_goals (exfalso; omega)
abbrev xA (i c m : Int) : AV := .agg [.int .i64 i, .int .i64 c, .int .i64 m]
def isAsk (ts : List Thing) (i c m : Int) : Prop := within i 0 (ts.length - 1) ∧ within c 0 2 ∧ within m 0 99
theorem c25 (ts : List Thing) (ms : List Mark) (i c m : Int) : PC Try.prog 25 [hT ts ms, xA i c m] (.bool (decide (isAsk ts i c m))) := by
  refine PC.body Try.func25 (by kernel_rfl) rfl (by simp [Try.f25]) rfl ?_
  simp only [Try.f25]
  intro hlen
  simp only [go_sem, List.length_map, and_true, true_and] at hlen
  refine CV.run ?_
  (repeat' (first | ((first | with_reducible refine vcG_split ?_ ?_ | with_reducible refine vcIf_split ?_ ?_ | with_reducible refine vcQ_split ?_ ?_ | with_reducible refine vcDG_split ?_ ?_) <;> intro hb <;> (try rw [hb]) <;> (try simp only [Bool.and_eq_true, Bool.or_eq_true, dtrue, dfalse, Bool.not_eq_true', Bool.not_eq_false', Bool.and_eq_false_iff, Bool.or_eq_false_iff, Bool.not_true, Bool.not_false] at hb) <;> (try simp only [within] at hb) <;> try (simp only [go_sem])) | refine And.intro (by (first | exact trivial | (simp only [I64]; omega) | omega)) ?_ | (first | (refine vcP_pure (c66 _ _ _) rfl ?_ ?_ ?_; (focus (first | rfl | ((simp only [go_sem, AV.pureL, AV.pure, pureL_mapI, Bool.and_self]) <;> fail))); (focus (first | ((simp only [go_sem]) <;> fail) | rfl))) | (refine dCallP_pure (c66 _ _ _) rfl ?_ ?_ ?_; (focus (first | rfl | ((simp only [go_sem, AV.pureL, AV.pure, pureL_mapI, Bool.and_self]) <;> fail))); (focus (first | ((simp only [go_sem]) <;> fail) | rfl))) | refine vcP_safe (c66 _ _ _) rfl rfl (by (simp only [go_sem])) ?_ | refine dCallP_safe (c66 _ _ _) rfl rfl ?_ | (refine vcP_pure (c16 _) rfl ?_ ?_ ?_; (focus (first | rfl | ((simp only [go_sem, AV.pureL, AV.pure, pureL_mapI, Bool.and_self]) <;> fail))); (focus (first | ((simp only [go_sem]) <;> fail) | rfl))) | (refine dCallP_pure (c16 _) rfl ?_ ?_ ?_; (focus (first | rfl | ((simp only [go_sem, AV.pureL, AV.pure, pureL_mapI, Bool.and_self]) <;> fail))); (focus (first | ((simp only [go_sem]) <;> fail) | rfl))) | refine vcP_safe (c16 _) rfl rfl (by (simp only [go_sem])) ?_ | refine dCallP_safe (c16 _) rfl rfl ?_ | (refine vcP_pure (c17 _) rfl ?_ ?_ ?_; (focus (first | rfl | ((simp only [go_sem, AV.pureL, AV.pure, pureL_mapI, Bool.and_self]) <;> fail))); (focus (first | ((simp only [go_sem]) <;> fail) | rfl))) | (refine dCallP_pure (c17 _) rfl ?_ ?_ ?_; (focus (first | rfl | ((simp only [go_sem, AV.pureL, AV.pure, pureL_mapI, Bool.and_self]) <;> fail))); (focus (first | ((simp only [go_sem]) <;> fail) | rfl))) | refine vcP_safe (c17 _) rfl rfl (by (simp only [go_sem])) ?_ | refine dCallP_safe (c17 _) rfl rfl ?_) | (simp only [go_sem])))
  all_goals first
    | exact bd (by unfold isAsk within; omega)
    | exact bf (p := isAsk ts i c m) (by unfold isAsk within; omega)
    | trace_state
theorem sel_get (p : Nat → Prop) : ∀ (n j : Nat) (a : Int), (sel p n)[j]? = some a → (0 ≤ a ∧ a < n ∧ ∀ (b : Int), 0 < j → (sel p n)[j - 1]? = some b → b < a)
  | 0, j, a, h => by simp [sel] at h
  | n + 1, j, a, h => by
    by_cases hp : p n
    · rw [sel_yes hp] at h ⊢
      rcases Nat.lt_or_ge j (sel p n).length with hl | hl
      · rw [List.getElem?_append_left hl] at h
        obtain ⟨h1, h2, h3⟩ := sel_get p n j a h
        refine ⟨h1, by omega, fun b h0 hb => h3 b h0 ?_⟩
        rwa [List.getElem?_append_left (by omega)] at hb
      · rw [List.getElem?_append_right hl] at h
        have hj : j - (sel p n).length = 0 := by have := (List.getElem?_eq_some_iff.1 h).1; simp at this; omega
        rw [hj] at h
        simp at h
        subst h
        refine ⟨by omega, by omega, fun b h0 hb => ?_⟩
        rw [List.getElem?_append_left (by omega)] at hb
        have := (sel_get p n (j - 1) b hb).2.1
        exact this
    · rw [sel_no hp] at h ⊢
      obtain ⟨h1, h2, h3⟩ := sel_get p n j a h
      exact ⟨h1, by omega, h3⟩
theorem sel_rising (p : Nat → Prop) (n : Nat) : rising (sel p n) 0 (n - 1) := by
  intro j hj
  obtain ⟨a, ha⟩ := get_of hj
  obtain ⟨h1, h2, h3⟩ := sel_get p n j a ha
  refine ⟨a, ha, by unfold within; omega, fun h0 => ?_⟩
  obtain ⟨b, hb⟩ := get_of (l := sel p n) (j := j - 1) (by omega)
  exact ⟨b, hb, h3 b h0 hb⟩
theorem c11 (ts : List Thing) (ms : List Mark) (c : Int) : PC Try.prog 11 [hT ts ms, .int .i64 c] (.bool true) := by
  by_cases hq : valid ts ms ∧ within c 0 2
  · obtain ⟨hv, hc⟩ := hq
    have hl := hv.1
    have h37 := c37 ts ms c
    have h21 := c21 ts ms c
    rw [show rAll ts ms c = _ from answer_yes ⟨hv, hc⟩] at h37
    rw [show rLacks ts ms c = _ from answer_yes ⟨hv, hc⟩] at h21
    have hk := sel_rising (fun i => hasAt ts ms c i 99) ts.length
    have hL := sel_rising (lk ts ms c) ts.length
    have mk : ∀ i : Nat, i < ts.length → ((i : Int) ∈ sel (fun i => hasAt ts ms c i 99) ts.length ↔ gv (sP ts ms c) i ≤ 99) := fun i hi => by
      rw [sel_mem]
      constructor
      · rintro ⟨k, h1, h2, h3⟩
        rw [← hasAt_gv hv (by omega) (by omega), h2]; exact h3
      · intro h
        exact ⟨i, hi, rfl, by rw [hasAt_gv hv (by omega) (by omega)]; exact h⟩
    have mL : ∀ (i : Nat) (t : Thing), ts[i]? = some t → ((i : Int) ∈ sel (lk ts ms c) ts.length ↔ t.prints = 1 ∧ ¬ gv (sP ts ms c) i ≤ 99) := fun i t hit => by
      have hi := (List.getElem?_eq_some_iff.1 hit).1
      rw [sel_mem]
      constructor
      · rintro ⟨k, h1, h2, ⟨t', h3, h4⟩, h5⟩
        have : k = i := by omega
        subst this
        rw [hit] at h3; cases h3
        rw [hasAt_gv hv (by omega) (by omega)] at h5
        exact ⟨h4, h5⟩
      · rintro ⟨h1, h2⟩
        refine ⟨i, hi, rfl, ⟨t, hit, h1⟩, ?_⟩
        rw [hasAt_gv hv (by omega) (by omega)]; exact h2
    generalize sel (fun i => hasAt ts ms c i 99) ts.length = K at hk mk h37
    generalize sel (lk ts ms c) ts.length = L at hL mL h21
    refine PC.body Try.func11 (by kernel_rfl) rfl (by simp [Try.f11]) rfl ?_
    simp only [Try.f11]
    intro hlen
    simp only [go_sem, List.length_map, and_true, true_and] at hlen
    refine CV.run ?_
    (repeat' (first | ((first | with_reducible refine vcG_split ?_ ?_ | with_reducible refine vcIf_split ?_ ?_ | with_reducible refine vcQ_split ?_ ?_ | with_reducible refine vcDG_split ?_ ?_) <;> intro hb <;> (try rw [hb]) <;> (try simp only [Bool.and_eq_true, Bool.or_eq_true, dtrue, dfalse, Bool.not_eq_true', Bool.not_eq_false', Bool.and_eq_false_iff, Bool.or_eq_false_iff, Bool.not_true, Bool.not_false] at hb) <;> (try simp only [within] at hb) <;> try (simp only [go_sem, hv, hc, hk, hL])) | refine And.intro (by (first | exact trivial | (simp only [I64]; omega) | omega)) ?_ | (first | (refine vcP_pure (c15 _ _) rfl ?_ ?_ ?_; (focus (first | rfl | ((simp only [go_sem, hv, hc, hk, hL, AV.pureL, AV.pure, pureL_mapI, Bool.and_self]) <;> fail))); (focus (first | ((simp only [go_sem, hv, hc, hk, hL]) <;> fail) | rfl))) | (refine dCallP_pure (c15 _ _) rfl ?_ ?_ ?_; (focus (first | rfl | ((simp only [go_sem, hv, hc, hk, hL, AV.pureL, AV.pure, pureL_mapI, Bool.and_self]) <;> fail))); (focus (first | ((simp only [go_sem, hv, hc, hk, hL]) <;> fail) | rfl))) | refine vcP_safe (c15 _ _) rfl rfl (by (simp only [go_sem, hv, hc, hk, hL])) ?_ | refine dCallP_safe (c15 _ _) rfl rfl ?_ | (refine vcP_pure (c16 _) rfl ?_ ?_ ?_; (focus (first | rfl | ((simp only [go_sem, hv, hc, hk, hL, AV.pureL, AV.pure, pureL_mapI, Bool.and_self]) <;> fail))); (focus (first | ((simp only [go_sem, hv, hc, hk, hL]) <;> fail) | rfl))) | (refine dCallP_pure (c16 _) rfl ?_ ?_ ?_; (focus (first | rfl | ((simp only [go_sem, hv, hc, hk, hL, AV.pureL, AV.pure, pureL_mapI, Bool.and_self]) <;> fail))); (focus (first | ((simp only [go_sem, hv, hc, hk, hL]) <;> fail) | rfl))) | refine vcP_safe (c16 _) rfl rfl (by (simp only [go_sem, hv, hc, hk, hL])) ?_ | refine dCallP_safe (c16 _) rfl rfl ?_ | (refine vcP_pure (h37) rfl ?_ ?_ ?_; (focus (first | rfl | ((simp only [go_sem, hv, hc, hk, hL, AV.pureL, AV.pure, pureL_mapI, Bool.and_self]) <;> fail))); (focus (first | ((simp only [go_sem, hv, hc, hk, hL]) <;> fail) | rfl))) | (refine dCallP_pure (h37) rfl ?_ ?_ ?_; (focus (first | rfl | ((simp only [go_sem, hv, hc, hk, hL, AV.pureL, AV.pure, pureL_mapI, Bool.and_self]) <;> fail))); (focus (first | ((simp only [go_sem, hv, hc, hk, hL]) <;> fail) | rfl))) | refine vcP_safe (h37) rfl rfl (by (simp only [go_sem, hv, hc, hk, hL])) ?_ | refine dCallP_safe (h37) rfl rfl ?_ | (refine vcP_pure (h21) rfl ?_ ?_ ?_; (focus (first | rfl | ((simp only [go_sem, hv, hc, hk, hL, AV.pureL, AV.pure, pureL_mapI, Bool.and_self]) <;> fail))); (focus (first | ((simp only [go_sem, hv, hc, hk, hL]) <;> fail) | rfl))) | (refine dCallP_pure (h21) rfl ?_ ?_ ?_; (focus (first | rfl | ((simp only [go_sem, hv, hc, hk, hL, AV.pureL, AV.pure, pureL_mapI, Bool.and_self]) <;> fail))); (focus (first | ((simp only [go_sem, hv, hc, hk, hL]) <;> fail) | rfl))) | refine vcP_safe (h21) rfl rfl (by (simp only [go_sem, hv, hc, hk, hL])) ?_ | refine dCallP_safe (h21) rfl rfl ?_ | (refine vcP_pure (c30 _ _ _) rfl ?_ ?_ ?_; (focus (first | rfl | ((simp only [go_sem, hv, hc, hk, hL, AV.pureL, AV.pure, pureL_mapI, Bool.and_self]) <;> fail))); (focus (first | ((simp only [go_sem, hv, hc, hk, hL]) <;> fail) | rfl))) | (refine dCallP_pure (c30 _ _ _) rfl ?_ ?_ ?_; (focus (first | rfl | ((simp only [go_sem, hv, hc, hk, hL, AV.pureL, AV.pure, pureL_mapI, Bool.and_self]) <;> fail))); (focus (first | ((simp only [go_sem, hv, hc, hk, hL]) <;> fail) | rfl))) | refine vcP_safe (c30 _ _ _) rfl rfl (by (simp only [go_sem, hv, hc, hk, hL])) ?_ | refine dCallP_safe (c30 _ _ _) rfl rfl ?_) | (simp only [go_sem, hv, hc, hk, hL])))
    refine vc_for (fun j => ⟨[(9, .int .i64 j), (4, .bool false), (5, lN K), (7, lN L), (2, .lp 0 0), (1, .int .i64 c)], [.box 25 [.lst false 4 (ts.map encT), .lst false 3 (ms.map encM)] false]⟩) ts.length (fun j => True) (by (first | exact wk_same (by (simp only [go_sem, Int.natCast_add, Int.natCast_one, Int.natCast_zero, Int.cast_ofNat_Int])) | exact wk_drop (by (simp only [go_sem, Int.natCast_add, Int.natCast_one, Int.natCast_zero, Int.cast_ofNat_Int])) (by (simp only [go_sem, Int.natCast_add, Int.natCast_one, Int.natCast_zero, Int.cast_ofNat_Int])) (by (simp only [go_sem, Int.natCast_add, Int.natCast_one, Int.natCast_zero, Int.cast_ofNat_Int])) (by (simp only [go_sem, Int.natCast_add, Int.natCast_one, Int.natCast_zero, Int.cast_ofNat_Int])) (by (simp only [go_sem, Int.natCast_add, Int.natCast_one, Int.natCast_zero, Int.cast_ofNat_Int])))) trivial ?_
    intro j hj _
    rcases Nat.lt_or_ge j ts.length with hlt | hge
    · obtain ⟨t, ht⟩ := get_of hlt
      have hlt' : (j : Int) < ts.length := by omega
      have h33 := c33 ts ms hv j c 99 (by omega) hc (by unfold within; omega)
      have hmk := mk j hlt
      have hmL := mL j t ht
      by_cases hg : gv (sP ts ms c) j ≤ 99
      · have hK : (j : Int) ∈ K := hmk.2 hg
        have hLn : ¬ (j : Int) ∈ L := fun h => (hmL.1 h).2 hg
        (repeat' (first | ((first | with_reducible refine vcG_split ?_ ?_ | with_reducible refine vcIf_split ?_ ?_ | with_reducible refine vcQ_split ?_ ?_ | with_reducible refine vcDG_split ?_ ?_) <;> intro hb <;> (try rw [hb]) <;> (try simp only [Bool.and_eq_true, Bool.or_eq_true, dtrue, dfalse, Bool.not_eq_true', Bool.not_eq_false', Bool.and_eq_false_iff, Bool.or_eq_false_iff, Bool.not_true, Bool.not_false] at hb) <;> (try simp only [within] at hb) <;> try (simp only [go_sem, hlt', ht, encT, hg, hK, hLn])) | refine And.intro (by (first | exact trivial | (simp only [I64]; omega) | omega)) ?_ | (first | (refine vcP_pure (h33) rfl ?_ ?_ ?_; (focus (first | rfl | ((simp only [go_sem, hlt', ht, encT, hg, hK, hLn, AV.pureL, AV.pure, pureL_mapI, Bool.and_self]) <;> fail))); (focus (first | ((simp only [go_sem, hlt', ht, encT, hg, hK, hLn]) <;> fail) | rfl))) | (refine dCallP_pure (h33) rfl ?_ ?_ ?_; (focus (first | rfl | ((simp only [go_sem, hlt', ht, encT, hg, hK, hLn, AV.pureL, AV.pure, pureL_mapI, Bool.and_self]) <;> fail))); (focus (first | ((simp only [go_sem, hlt', ht, encT, hg, hK, hLn]) <;> fail) | rfl))) | refine vcP_safe (h33) rfl rfl (by (simp only [go_sem, hlt', ht, encT, hg, hK, hLn])) ?_ | refine dCallP_safe (h33) rfl rfl ?_ | (refine vcP_pure (c31 _ _) rfl ?_ ?_ ?_; (focus (first | rfl | ((simp only [go_sem, hlt', ht, encT, hg, hK, hLn, AV.pureL, AV.pure, pureL_mapI, Bool.and_self]) <;> fail))); (focus (first | ((simp only [go_sem, hlt', ht, encT, hg, hK, hLn]) <;> fail) | rfl))) | (refine dCallP_pure (c31 _ _) rfl ?_ ?_ ?_; (focus (first | rfl | ((simp only [go_sem, hlt', ht, encT, hg, hK, hLn, AV.pureL, AV.pure, pureL_mapI, Bool.and_self]) <;> fail))); (focus (first | ((simp only [go_sem, hlt', ht, encT, hg, hK, hLn]) <;> fail) | rfl))) | refine vcP_safe (c31 _ _) rfl rfl (by (simp only [go_sem, hlt', ht, encT, hg, hK, hLn])) ?_ | refine dCallP_safe (c31 _ _) rfl rfl ?_) | (simp only [go_sem, hlt', ht, encT, hg, hK, hLn])))
        all_goals first
          | (first | exact wk_same (by (simp only [go_sem, Int.natCast_add, Int.natCast_one, Int.natCast_zero, Int.cast_ofNat_Int])) | exact wk_drop (by (simp only [go_sem, Int.natCast_add, Int.natCast_one, Int.natCast_zero, Int.cast_ofNat_Int])) (by (simp only [go_sem, Int.natCast_add, Int.natCast_one, Int.natCast_zero, Int.cast_ofNat_Int])) (by (simp only [go_sem, Int.natCast_add, Int.natCast_one, Int.natCast_zero, Int.cast_ofNat_Int])) (by (simp only [go_sem, Int.natCast_add, Int.natCast_one, Int.natCast_zero, Int.cast_ofNat_Int])) (by (simp only [go_sem, Int.natCast_add, Int.natCast_one, Int.natCast_zero, Int.cast_ofNat_Int])))
          | trace_state
      · have hK : ¬ (j : Int) ∈ K := fun h => hg (hmk.1 h)
        by_cases hp : t.prints = 1
        · have hLn : (j : Int) ∈ L := hmL.2 ⟨hp, hg⟩
          (repeat' (first | ((first | with_reducible refine vcG_split ?_ ?_ | with_reducible refine vcIf_split ?_ ?_ | with_reducible refine vcQ_split ?_ ?_ | with_reducible refine vcDG_split ?_ ?_) <;> intro hb <;> (try rw [hb]) <;> (try simp only [Bool.and_eq_true, Bool.or_eq_true, dtrue, dfalse, Bool.not_eq_true', Bool.not_eq_false', Bool.and_eq_false_iff, Bool.or_eq_false_iff, Bool.not_true, Bool.not_false] at hb) <;> (try simp only [within] at hb) <;> try (simp only [go_sem, hlt', ht, encT, hg, hK, hLn, hp])) | refine And.intro (by (first | exact trivial | (simp only [I64]; omega) | omega)) ?_ | (first | (refine vcP_pure (h33) rfl ?_ ?_ ?_; (focus (first | rfl | ((simp only [go_sem, hlt', ht, encT, hg, hK, hLn, hp, AV.pureL, AV.pure, pureL_mapI, Bool.and_self]) <;> fail))); (focus (first | ((simp only [go_sem, hlt', ht, encT, hg, hK, hLn, hp]) <;> fail) | rfl))) | (refine dCallP_pure (h33) rfl ?_ ?_ ?_; (focus (first | rfl | ((simp only [go_sem, hlt', ht, encT, hg, hK, hLn, hp, AV.pureL, AV.pure, pureL_mapI, Bool.and_self]) <;> fail))); (focus (first | ((simp only [go_sem, hlt', ht, encT, hg, hK, hLn, hp]) <;> fail) | rfl))) | refine vcP_safe (h33) rfl rfl (by (simp only [go_sem, hlt', ht, encT, hg, hK, hLn, hp])) ?_ | refine dCallP_safe (h33) rfl rfl ?_ | (refine vcP_pure (c31 _ _) rfl ?_ ?_ ?_; (focus (first | rfl | ((simp only [go_sem, hlt', ht, encT, hg, hK, hLn, hp, AV.pureL, AV.pure, pureL_mapI, Bool.and_self]) <;> fail))); (focus (first | ((simp only [go_sem, hlt', ht, encT, hg, hK, hLn, hp]) <;> fail) | rfl))) | (refine dCallP_pure (c31 _ _) rfl ?_ ?_ ?_; (focus (first | rfl | ((simp only [go_sem, hlt', ht, encT, hg, hK, hLn, hp, AV.pureL, AV.pure, pureL_mapI, Bool.and_self]) <;> fail))); (focus (first | ((simp only [go_sem, hlt', ht, encT, hg, hK, hLn, hp]) <;> fail) | rfl))) | refine vcP_safe (c31 _ _) rfl rfl (by (simp only [go_sem, hlt', ht, encT, hg, hK, hLn, hp])) ?_ | refine dCallP_safe (c31 _ _) rfl rfl ?_) | (simp only [go_sem, hlt', ht, encT, hg, hK, hLn, hp])))
          all_goals first
            | (first | exact wk_same (by (simp only [go_sem, Int.natCast_add, Int.natCast_one, Int.natCast_zero, Int.cast_ofNat_Int])) | exact wk_drop (by (simp only [go_sem, Int.natCast_add, Int.natCast_one, Int.natCast_zero, Int.cast_ofNat_Int])) (by (simp only [go_sem, Int.natCast_add, Int.natCast_one, Int.natCast_zero, Int.cast_ofNat_Int])) (by (simp only [go_sem, Int.natCast_add, Int.natCast_one, Int.natCast_zero, Int.cast_ofNat_Int])) (by (simp only [go_sem, Int.natCast_add, Int.natCast_one, Int.natCast_zero, Int.cast_ofNat_Int])) (by (simp only [go_sem, Int.natCast_add, Int.natCast_one, Int.natCast_zero, Int.cast_ofNat_Int])))
            | trace_state
        · have hLn : ¬ (j : Int) ∈ L := fun h => hp (hmL.1 h).1
          (repeat' (first | ((first | with_reducible refine vcG_split ?_ ?_ | with_reducible refine vcIf_split ?_ ?_ | with_reducible refine vcQ_split ?_ ?_ | with_reducible refine vcDG_split ?_ ?_) <;> intro hb <;> (try rw [hb]) <;> (try simp only [Bool.and_eq_true, Bool.or_eq_true, dtrue, dfalse, Bool.not_eq_true', Bool.not_eq_false', Bool.and_eq_false_iff, Bool.or_eq_false_iff, Bool.not_true, Bool.not_false] at hb) <;> (try simp only [within] at hb) <;> try (simp only [go_sem, hlt', ht, encT, hg, hK, hLn, hp])) | refine And.intro (by (first | exact trivial | (simp only [I64]; omega) | omega)) ?_ | (first | (refine vcP_pure (h33) rfl ?_ ?_ ?_; (focus (first | rfl | ((simp only [go_sem, hlt', ht, encT, hg, hK, hLn, hp, AV.pureL, AV.pure, pureL_mapI, Bool.and_self]) <;> fail))); (focus (first | ((simp only [go_sem, hlt', ht, encT, hg, hK, hLn, hp]) <;> fail) | rfl))) | (refine dCallP_pure (h33) rfl ?_ ?_ ?_; (focus (first | rfl | ((simp only [go_sem, hlt', ht, encT, hg, hK, hLn, hp, AV.pureL, AV.pure, pureL_mapI, Bool.and_self]) <;> fail))); (focus (first | ((simp only [go_sem, hlt', ht, encT, hg, hK, hLn, hp]) <;> fail) | rfl))) | refine vcP_safe (h33) rfl rfl (by (simp only [go_sem, hlt', ht, encT, hg, hK, hLn, hp])) ?_ | refine dCallP_safe (h33) rfl rfl ?_ | (refine vcP_pure (c31 _ _) rfl ?_ ?_ ?_; (focus (first | rfl | ((simp only [go_sem, hlt', ht, encT, hg, hK, hLn, hp, AV.pureL, AV.pure, pureL_mapI, Bool.and_self]) <;> fail))); (focus (first | ((simp only [go_sem, hlt', ht, encT, hg, hK, hLn, hp]) <;> fail) | rfl))) | (refine dCallP_pure (c31 _ _) rfl ?_ ?_ ?_; (focus (first | rfl | ((simp only [go_sem, hlt', ht, encT, hg, hK, hLn, hp, AV.pureL, AV.pure, pureL_mapI, Bool.and_self]) <;> fail))); (focus (first | ((simp only [go_sem, hlt', ht, encT, hg, hK, hLn, hp]) <;> fail) | rfl))) | refine vcP_safe (c31 _ _) rfl rfl (by (simp only [go_sem, hlt', ht, encT, hg, hK, hLn, hp])) ?_ | refine dCallP_safe (c31 _ _) rfl rfl ?_) | (simp only [go_sem, hlt', ht, encT, hg, hK, hLn, hp])))
          all_goals first
            | (first | exact wk_same (by (simp only [go_sem, Int.natCast_add, Int.natCast_one, Int.natCast_zero, Int.cast_ofNat_Int])) | exact wk_drop (by (simp only [go_sem, Int.natCast_add, Int.natCast_one, Int.natCast_zero, Int.cast_ofNat_Int])) (by (simp only [go_sem, Int.natCast_add, Int.natCast_one, Int.natCast_zero, Int.cast_ofNat_Int])) (by (simp only [go_sem, Int.natCast_add, Int.natCast_one, Int.natCast_zero, Int.cast_ofNat_Int])) (by (simp only [go_sem, Int.natCast_add, Int.natCast_one, Int.natCast_zero, Int.cast_ofNat_Int])) (by (simp only [go_sem, Int.natCast_add, Int.natCast_one, Int.natCast_zero, Int.cast_ofNat_Int])))
            | trace_state
    · have hge' : ¬ (j : Int) < ts.length := by omega
      (repeat' (first | ((first | with_reducible refine vcG_split ?_ ?_ | with_reducible refine vcIf_split ?_ ?_ | with_reducible refine vcQ_split ?_ ?_ | with_reducible refine vcDG_split ?_ ?_) <;> intro hb <;> (try rw [hb]) <;> (try simp only [Bool.and_eq_true, Bool.or_eq_true, dtrue, dfalse, Bool.not_eq_true', Bool.not_eq_false', Bool.and_eq_false_iff, Bool.or_eq_false_iff, Bool.not_true, Bool.not_false] at hb) <;> (try simp only [within] at hb) <;> try (simp only [go_sem, hge'])) | refine And.intro (by (first | exact trivial | (simp only [I64]; omega) | omega)) ?_ | (first | (refine vcP_pure (c18) rfl ?_ ?_ ?_; (focus (first | rfl | ((simp only [go_sem, hge', AV.pureL, AV.pure, pureL_mapI, Bool.and_self]) <;> fail))); (focus (first | ((simp only [go_sem, hge']) <;> fail) | rfl))) | (refine dCallP_pure (c18) rfl ?_ ?_ ?_; (focus (first | rfl | ((simp only [go_sem, hge', AV.pureL, AV.pure, pureL_mapI, Bool.and_self]) <;> fail))); (focus (first | ((simp only [go_sem, hge']) <;> fail) | rfl))) | refine vcP_safe (c18) rfl rfl (by (simp only [go_sem, hge'])) ?_ | refine dCallP_safe (c18) rfl rfl ?_) | (simp only [go_sem, hge'])))
  · by_cases hv : valid ts ms
    · have hc : ¬ within c 0 2 := fun h => hq ⟨hv, h⟩
      refine PC.body Try.func11 (by kernel_rfl) rfl (by simp [Try.f11]) rfl ?_
      simp only [Try.f11]
      intro hlen
      simp only [go_sem, List.length_map, and_true, true_and] at hlen
      refine CV.run ?_
      (repeat' (first | ((first | with_reducible refine vcG_split ?_ ?_ | with_reducible refine vcIf_split ?_ ?_ | with_reducible refine vcQ_split ?_ ?_ | with_reducible refine vcDG_split ?_ ?_) <;> intro hb <;> (try rw [hb]) <;> (try simp only [Bool.and_eq_true, Bool.or_eq_true, dtrue, dfalse, Bool.not_eq_true', Bool.not_eq_false', Bool.and_eq_false_iff, Bool.or_eq_false_iff, Bool.not_true, Bool.not_false] at hb) <;> (try simp only [within] at hb) <;> try (simp only [go_sem, hv, hc])) | refine And.intro (by (first | exact trivial | (simp only [I64]; omega) | omega)) ?_ | (first | (refine vcP_pure (c15 _ _) rfl ?_ ?_ ?_; (focus (first | rfl | ((simp only [go_sem, hv, hc, AV.pureL, AV.pure, pureL_mapI, Bool.and_self]) <;> fail))); (focus (first | ((simp only [go_sem, hv, hc]) <;> fail) | rfl))) | (refine dCallP_pure (c15 _ _) rfl ?_ ?_ ?_; (focus (first | rfl | ((simp only [go_sem, hv, hc, AV.pureL, AV.pure, pureL_mapI, Bool.and_self]) <;> fail))); (focus (first | ((simp only [go_sem, hv, hc]) <;> fail) | rfl))) | refine vcP_safe (c15 _ _) rfl rfl (by (simp only [go_sem, hv, hc])) ?_ | refine dCallP_safe (c15 _ _) rfl rfl ?_ | (refine vcP_pure (c16 _) rfl ?_ ?_ ?_; (focus (first | rfl | ((simp only [go_sem, hv, hc, AV.pureL, AV.pure, pureL_mapI, Bool.and_self]) <;> fail))); (focus (first | ((simp only [go_sem, hv, hc]) <;> fail) | rfl))) | (refine dCallP_pure (c16 _) rfl ?_ ?_ ?_; (focus (first | rfl | ((simp only [go_sem, hv, hc, AV.pureL, AV.pure, pureL_mapI, Bool.and_self]) <;> fail))); (focus (first | ((simp only [go_sem, hv, hc]) <;> fail) | rfl))) | refine vcP_safe (c16 _) rfl rfl (by (simp only [go_sem, hv, hc])) ?_ | refine dCallP_safe (c16 _) rfl rfl ?_ | (refine vcP_pure (c18) rfl ?_ ?_ ?_; (focus (first | rfl | ((simp only [go_sem, hv, hc, AV.pureL, AV.pure, pureL_mapI, Bool.and_self]) <;> fail))); (focus (first | ((simp only [go_sem, hv, hc]) <;> fail) | rfl))) | (refine dCallP_pure (c18) rfl ?_ ?_ ?_; (focus (first | rfl | ((simp only [go_sem, hv, hc, AV.pureL, AV.pure, pureL_mapI, Bool.and_self]) <;> fail))); (focus (first | ((simp only [go_sem, hv, hc]) <;> fail) | rfl))) | refine vcP_safe (c18) rfl rfl (by (simp only [go_sem, hv, hc])) ?_ | refine dCallP_safe (c18) rfl rfl ?_) | (simp only [go_sem, hv, hc])))
    · skip
      refine PC.body Try.func11 (by kernel_rfl) rfl (by simp [Try.f11]) rfl ?_
      simp only [Try.f11]
      intro hlen
      simp only [go_sem, List.length_map, and_true, true_and] at hlen
      refine CV.run ?_
      (repeat' (first | ((first | with_reducible refine vcG_split ?_ ?_ | with_reducible refine vcIf_split ?_ ?_ | with_reducible refine vcQ_split ?_ ?_ | with_reducible refine vcDG_split ?_ ?_) <;> intro hb <;> (try rw [hb]) <;> (try simp only [Bool.and_eq_true, Bool.or_eq_true, dtrue, dfalse, Bool.not_eq_true', Bool.not_eq_false', Bool.and_eq_false_iff, Bool.or_eq_false_iff, Bool.not_true, Bool.not_false] at hb) <;> (try simp only [within] at hb) <;> try (simp only [go_sem, hv])) | refine And.intro (by (first | exact trivial | (simp only [I64]; omega) | omega)) ?_ | (first | (refine vcP_pure (c15 _ _) rfl ?_ ?_ ?_; (focus (first | rfl | ((simp only [go_sem, hv, AV.pureL, AV.pure, pureL_mapI, Bool.and_self]) <;> fail))); (focus (first | ((simp only [go_sem, hv]) <;> fail) | rfl))) | (refine dCallP_pure (c15 _ _) rfl ?_ ?_ ?_; (focus (first | rfl | ((simp only [go_sem, hv, AV.pureL, AV.pure, pureL_mapI, Bool.and_self]) <;> fail))); (focus (first | ((simp only [go_sem, hv]) <;> fail) | rfl))) | refine vcP_safe (c15 _ _) rfl rfl (by (simp only [go_sem, hv])) ?_ | refine dCallP_safe (c15 _ _) rfl rfl ?_ | (refine vcP_pure (c16 _) rfl ?_ ?_ ?_; (focus (first | rfl | ((simp only [go_sem, hv, AV.pureL, AV.pure, pureL_mapI, Bool.and_self]) <;> fail))); (focus (first | ((simp only [go_sem, hv]) <;> fail) | rfl))) | (refine dCallP_pure (c16 _) rfl ?_ ?_ ?_; (focus (first | rfl | ((simp only [go_sem, hv, AV.pureL, AV.pure, pureL_mapI, Bool.and_self]) <;> fail))); (focus (first | ((simp only [go_sem, hv]) <;> fail) | rfl))) | refine vcP_safe (c16 _) rfl rfl (by (simp only [go_sem, hv])) ?_ | refine dCallP_safe (c16 _) rfl rfl ?_ | (refine vcP_pure (c18) rfl ?_ ?_ ?_; (focus (first | rfl | ((simp only [go_sem, hv, AV.pureL, AV.pure, pureL_mapI, Bool.and_self]) <;> fail))); (focus (first | ((simp only [go_sem, hv]) <;> fail) | rfl))) | (refine dCallP_pure (c18) rfl ?_ ?_ ?_; (focus (first | rfl | ((simp only [go_sem, hv, AV.pureL, AV.pure, pureL_mapI, Bool.and_self]) <;> fail))); (focus (first | ((simp only [go_sem, hv]) <;> fail) | rfl))) | refine vcP_safe (c18) rfl rfl (by (simp only [go_sem, hv])) ?_ | refine dCallP_safe (c18) rfl rfl ?_) | (simp only [go_sem, hv])))
end Go.Proofs.Ytllmohmgakdbdaa
