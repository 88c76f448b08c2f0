/- Contracts of functions of the given program, without a condition beyond those that each theorem states; they lead to the given statement. -/
import Derived.Test.YtllmohmgakdbdaaW13b
set_option linter.unusedSimpArgs false
set_option linter.unusedVariables false
set_option linter.unusedVariables false
set_option maxRecDepth 100000
namespace Go.Proofs.Ytllmohmgakdbdaa
open Go Go.Fl
open Classical
/-! ### Plates of which one is left out -/
theorem rising_pw {l : List Int} {lo hi : Int} : rising l lo hi ↔ l.Pairwise (· < ·) ∧ ∀ n, n ∈ l → lo ≤ n ∧ n ≤ hi := by
  constructor
  · intro h
    refine ⟨?_, fun n hn => ?_⟩
    · rw [List.pairwise_iff_getElem]
      intro i j hi hj hij
      have step : ∀ d : Nat, ∀ (hd : i + 1 + d < l.length), l[i] < l[i + 1 + d] := by
        intro d
        induction d with
        | zero =>
          intro hd
          obtain ⟨a, h1, _, h3⟩ := h (i + 1) hd
          obtain ⟨b, h4, h5⟩ := h3 (by omega)
          rw [List.getElem?_eq_getElem hd] at h1
          simp only [Nat.add_sub_cancel] at h4
          rw [List.getElem?_eq_getElem hi] at h4
          rw [Option.some.inj h1, Option.some.inj h4]; exact h5
        | succ d ih =>
          intro hd
          have h0 := ih (by omega)
          obtain ⟨a, h1, _, h3⟩ := h (i + 1 + (d + 1)) hd
          obtain ⟨b, h4, h5⟩ := h3 (by omega)
          rw [List.getElem?_eq_getElem hd] at h1
          rw [show i + 1 + (d + 1) - 1 = i + 1 + d from by omega, List.getElem?_eq_getElem (by omega)] at h4
          rw [Option.some.inj h1]
          rw [← Option.some.inj h4] at h5
          omega
      have := step (j - (i + 1)) (by omega)
      simpa [show i + 1 + (j - (i + 1)) = j from by omega] using this
    · obtain ⟨j, hj⟩ := List.mem_iff_getElem?.1 hn
      obtain ⟨a, h1, h2, _⟩ := h j (List.getElem?_eq_some_iff.1 hj).1
      rw [hj] at h1; cases h1
      exact h2
  · rintro ⟨h1, h2⟩ j hj
    refine ⟨l[j], List.getElem?_eq_getElem hj, h2 _ (List.getElem_mem hj), fun h0 => ⟨l[j - 1], List.getElem?_eq_getElem (by omega), ?_⟩⟩
    exact List.pairwise_iff_getElem.1 h1 (j - 1) j (by omega) hj (by omega)
theorem arePl_iff {ts : List Thing} {pl : List Int} {m : Int} : arePl ts pl m ↔ rising pl 0 (ts.length - 1) ∧ ∀ n, n ∈ pl → ∃ t, ts[n.toNat]? = some t ∧ t.prints = 1 ∧ t.at_ ≤ m := by
  constructor
  · intro h
    refine ⟨fun j hj => (h j hj).1, fun n hn => ?_⟩
    obtain ⟨j, hj⟩ := List.mem_iff_getElem?.1 hn
    obtain ⟨_, n', t, h1, h2, h3, h4⟩ := h j (List.getElem?_eq_some_iff.1 hj).1
    rw [hj] at h1; cases h1
    exact ⟨t, h2, h3, h4⟩
  · rintro ⟨h1, h2⟩ j hj
    obtain ⟨t, q1, q2, q3⟩ := h2 pl[j] (List.getElem_mem hj)
    exact ⟨h1 j hj, pl[j], t, List.getElem?_eq_getElem hj, q1, q2, q3⟩
def lessL (pl : List Int) (k : Nat) : List Int := pl.take k ++ pl.drop (k + 1)
theorem lessL_sub (pl : List Int) (k : Nat) : (lessL pl k).Sublist pl := by
  have h : pl.take k ++ pl.drop k = pl := List.take_append_drop k pl
  have h2 : (pl.drop (k + 1)).Sublist (pl.drop k) := by
    rw [← List.drop_drop]
    exact List.drop_sublist 1 _
  have := (List.Sublist.refl (pl.take k)).append h2
  rwa [h] at this
theorem arePl_sub {ts : List Thing} {pl l : List Int} {m : Int} (h : arePl ts pl m) (hs : l.Sublist pl) : arePl ts l m := by
  obtain ⟨h1, h2⟩ := arePl_iff.1 h
  obtain ⟨h3, h4⟩ := rising_pw.1 h1
  exact arePl_iff.2 ⟨rising_pw.2 ⟨h3.sublist hs, fun n hn => h4 n (hs.subset hn)⟩, fun n hn => h2 n (hs.subset hn)⟩
theorem mixOf_sub {ts : List Thing} {ms : List Mark} {pl l : List Int} {m : Int} {c : Nat} (h : mixOf ts ms l m c) (hs : ∀ n, n ∈ l → n ∈ pl) : mixOf ts ms pl m c := by
  obtain ⟨⟨a, a1, a2⟩, b, b1, b2⟩ := h
  exact ⟨⟨a, hs a a1, a2⟩, b, hs b b1, b2⟩
theorem mix_one {ts : List Thing} {ms : List Mark} {y m : Int} : sel (mixOf ts ms [y] m) 3 = [] := by
  rw [List.eq_nil_iff_forall_not_mem]
  intro x hx
  obtain ⟨i, _, _, ⟨a, a1, a2⟩, b, b1, b2⟩ := (sel_mem 3 x).1 hx
  rw [List.mem_singleton] at a1 b1
  rw [a1] at a2
  rw [b1] at b2
  exact b2 a2
theorem spanT_in {ts : List Thing} {ms : List Mark} {c : Int} {m : Nat} (h : mixedAt ts ms c m) : ∀ n : Nat, m < n → (spanT ts ms c n).1 ≤ m ∧ (m : Int) ≤ (spanT ts ms c n).2
  | 0, h0 => by omega
  | n + 1, hn => by
    simp only [spanT]
    by_cases he : m = n
    · subst he
      rw [if_pos h]
      simp only
      omega
    · have ih := spanT_in h n (by omega)
      split
      · simp only; omega
      · exact ih
theorem mix_time {ts : List Thing} {ms : List Mark} (hv : valid ts ms) {pl : List Int} {m : Nat} (hm : (m : Int) ≤ 99) (hp : arePl ts pl m) {c : Nat} (h : mixOf ts ms pl m c) : mixedAt ts ms c m := by
  have hr := hp.range
  have hx := (mixes_iff ts ms hv.things hv.marks hv.1 c pl m hr hm).2 h
  have hsub : ∀ n, n ∈ pl → n ∈ sel (thereAt ts m) ts.length := fun n hn => by
    obtain ⟨t, q1, q2, q3⟩ := (arePl_iff.1 hp).2 n hn
    have := hr n hn
    exact (sel_mem _ _).2 ⟨n.toNat, by omega, by omega, t, q1, q2, q3⟩
  obtain ⟨⟨a, a1, a2⟩, b, b1, b2⟩ := hx
  exact ⟨⟨a, hsub a a1, a2⟩, b, hsub b b1, b2⟩
set_option maxHeartbeats 4000000 in
theorem c5 (ts : List Thing) (ms : List Mark) (i c x : Int) (pl : List Int) : PC Try.prog 5 [hT ts ms, xA i c x, lN pl] (.bool true) := by
  have h15 := c15 ts ms
  by_cases hv : ¬ valid ts ms
  · rw [decide_eq_false hv] at h15
    refine PC.body Try.func5 (by kernel_rfl) rfl (by simp [Try.f5]) rfl ?_
    simp only [Try.f5]
    intro hlen
    simp only [go_sem, List.length_map, and_true, true_and] at hlen
    refine CV.run ?_
    (repeat' (first | ((first | with_reducible refine vcG_split ?_ ?_ | with_reducible refine vcIf_split ?_ ?_ | with_reducible refine vcQ_split ?_ ?_ | with_reducible refine vcDG_split ?_ ?_) <;> intro hb <;> (try rw [hb]) <;> (try simp only [Bool.and_eq_true, Bool.or_eq_true, dtrue, dfalse, Bool.not_eq_true', Bool.not_eq_false', Bool.and_eq_false_iff, Bool.or_eq_false_iff, Bool.not_true, Bool.not_false] at hb) <;> (try simp only [within] at hb) <;> try (simp only [go_sem])) | refine And.intro (by (first | exact trivial | (simp only [I64]; omega) | omega)) ?_ | (with_reducible rw [vc_draw_eq]; first | refine CV.draw (id := 3) [(0, 0), (0, 0), (0, 0), (0, 0), (0, 0), (0, 0), (0, 1), (0, 1), (0, 1), (0, 1), (0, 1), (99, 0), (2, 2)] mixed rfl (by kernel_rfl) ?_ | refine CV.draw (id := 4) [(0, 1), (0, 0), (0, 0), (99, 0), (0, 1), (0, 1), (1, 1), (1, 1), (1, 1), (1, 1), (1, 1), (1, 1)] mixed rfl (by kernel_rfl) ?_ | refine CV.draw (id := 6) [(0, 0), (0, 0), (0, 0), (0, 0), (0, 0), (0, 0), (0, 0), (0, 0), (0, 0), (0, 0), (0, 0), (0, 0), (0, 0), (0, 0), (0, 0)] mixed rfl (by kernel_rfl) ?_ | refine CV.draw (id := 17) [(0, 0), (0, 0), (0, 0), (0, 0), (0, 0), (0, 0), (0, 0), (0, 0), (0, 1), (0, 0), (0, 0), (1, 1)] mixed rfl (by kernel_rfl) ?_) | (first | (refine vcP_pure (h15) rfl ?_ ?_ ?_; (focus (first | rfl | ((simp only [go_sem, AV.pureL, AV.pure, pureL_mapI, Bool.and_self]) <;> fail))); (focus (first | ((simp only [go_sem]) <;> fail) | rfl))) | (refine dCallP_pure (h15) rfl ?_ ?_ ?_; (focus (first | rfl | ((simp only [go_sem, AV.pureL, AV.pure, pureL_mapI, Bool.and_self]) <;> fail))); (focus (first | ((simp only [go_sem]) <;> fail) | rfl))) | refine vcP_safe (h15) rfl rfl (by (simp only [go_sem])) ?_ | refine dCallP_safe (h15) rfl rfl ?_ | (refine vcP_pure (c18) rfl ?_ ?_ ?_; (focus (first | rfl | ((simp only [go_sem, AV.pureL, AV.pure, pureL_mapI, Bool.and_self]) <;> fail))); (focus (first | ((simp only [go_sem]) <;> fail) | rfl))) | (refine dCallP_pure (c18) rfl ?_ ?_ ?_; (focus (first | rfl | ((simp only [go_sem, AV.pureL, AV.pure, pureL_mapI, Bool.and_self]) <;> fail))); (focus (first | ((simp only [go_sem]) <;> fail) | rfl))) | refine vcP_safe (c18) rfl rfl (by (simp only [go_sem])) ?_ | refine dCallP_safe (c18) rfl rfl ?_) | (simp only [go_sem])))
  have hv := Classical.not_not.1 hv
  rw [decide_eq_true hv] at h15
  have h17 := c17 x
  by_cases hx : ¬ within x 0 99
  · rw [decide_eq_false hx] at h17
    refine PC.body Try.func5 (by kernel_rfl) rfl (by simp [Try.f5]) rfl ?_
    simp only [Try.f5]
    intro hlen
    simp only [go_sem, List.length_map, and_true, true_and] at hlen
    refine CV.run ?_
    (repeat' (first | ((first | with_reducible refine vcG_split ?_ ?_ | with_reducible refine vcIf_split ?_ ?_ | with_reducible refine vcQ_split ?_ ?_ | with_reducible refine vcDG_split ?_ ?_) <;> intro hb <;> (try rw [hb]) <;> (try simp only [Bool.and_eq_true, Bool.or_eq_true, dtrue, dfalse, Bool.not_eq_true', Bool.not_eq_false', Bool.and_eq_false_iff, Bool.or_eq_false_iff, Bool.not_true, Bool.not_false] at hb) <;> (try simp only [within] at hb) <;> try (simp only [go_sem])) | refine And.intro (by (first | exact trivial | (simp only [I64]; omega) | omega)) ?_ | (with_reducible rw [vc_draw_eq]; first | refine CV.draw (id := 3) [(0, 0), (0, 0), (0, 0), (0, 0), (0, 0), (0, 0), (0, 1), (0, 1), (0, 1), (0, 1), (0, 1), (99, 0), (2, 2)] mixed rfl (by kernel_rfl) ?_ | refine CV.draw (id := 4) [(0, 1), (0, 0), (0, 0), (99, 0), (0, 1), (0, 1), (1, 1), (1, 1), (1, 1), (1, 1), (1, 1), (1, 1)] mixed rfl (by kernel_rfl) ?_ | refine CV.draw (id := 6) [(0, 0), (0, 0), (0, 0), (0, 0), (0, 0), (0, 0), (0, 0), (0, 0), (0, 0), (0, 0), (0, 0), (0, 0), (0, 0), (0, 0), (0, 0)] mixed rfl (by kernel_rfl) ?_ | refine CV.draw (id := 17) [(0, 0), (0, 0), (0, 0), (0, 0), (0, 0), (0, 0), (0, 0), (0, 0), (0, 1), (0, 0), (0, 0), (1, 1)] mixed rfl (by kernel_rfl) ?_) | (first | (refine vcP_pure (h15) rfl ?_ ?_ ?_; (focus (first | rfl | ((simp only [go_sem, AV.pureL, AV.pure, pureL_mapI, Bool.and_self]) <;> fail))); (focus (first | ((simp only [go_sem]) <;> fail) | rfl))) | (refine dCallP_pure (h15) rfl ?_ ?_ ?_; (focus (first | rfl | ((simp only [go_sem, AV.pureL, AV.pure, pureL_mapI, Bool.and_self]) <;> fail))); (focus (first | ((simp only [go_sem]) <;> fail) | rfl))) | refine vcP_safe (h15) rfl rfl (by (simp only [go_sem])) ?_ | refine dCallP_safe (h15) rfl rfl ?_ | (refine vcP_pure (h17) rfl ?_ ?_ ?_; (focus (first | rfl | ((simp only [go_sem, AV.pureL, AV.pure, pureL_mapI, Bool.and_self]) <;> fail))); (focus (first | ((simp only [go_sem]) <;> fail) | rfl))) | (refine dCallP_pure (h17) rfl ?_ ?_ ?_; (focus (first | rfl | ((simp only [go_sem, AV.pureL, AV.pure, pureL_mapI, Bool.and_self]) <;> fail))); (focus (first | ((simp only [go_sem]) <;> fail) | rfl))) | refine vcP_safe (h17) rfl rfl (by (simp only [go_sem])) ?_ | refine dCallP_safe (h17) rfl rfl ?_ | (refine vcP_pure (c18) rfl ?_ ?_ ?_; (focus (first | rfl | ((simp only [go_sem, AV.pureL, AV.pure, pureL_mapI, Bool.and_self]) <;> fail))); (focus (first | ((simp only [go_sem]) <;> fail) | rfl))) | (refine dCallP_pure (c18) rfl ?_ ?_ ?_; (focus (first | rfl | ((simp only [go_sem, AV.pureL, AV.pure, pureL_mapI, Bool.and_self]) <;> fail))); (focus (first | ((simp only [go_sem]) <;> fail) | rfl))) | refine vcP_safe (c18) rfl rfl (by (simp only [go_sem])) ?_ | refine dCallP_safe (c18) rfl rfl ?_) | (simp only [go_sem])))
  have hx := Classical.not_not.1 hx
  rw [decide_eq_true hx] at h17
  by_cases h1 : 40 < pl.length
  · have h1' : (40 : Int) < pl.length := by omega
    refine PC.body Try.func5 (by kernel_rfl) rfl (by simp [Try.f5]) rfl ?_
    simp only [Try.f5]
    intro hlen
    simp only [go_sem, List.length_map, and_true, true_and] at hlen
    refine CV.run ?_
    (repeat' (first | ((first | with_reducible refine vcG_split ?_ ?_ | with_reducible refine vcIf_split ?_ ?_ | with_reducible refine vcQ_split ?_ ?_ | with_reducible refine vcDG_split ?_ ?_) <;> intro hb <;> (try rw [hb]) <;> (try simp only [Bool.and_eq_true, Bool.or_eq_true, dtrue, dfalse, Bool.not_eq_true', Bool.not_eq_false', Bool.and_eq_false_iff, Bool.or_eq_false_iff, Bool.not_true, Bool.not_false] at hb) <;> (try simp only [within] at hb) <;> try (simp only [go_sem, h1'])) | refine And.intro (by (first | exact trivial | (simp only [I64]; omega) | omega)) ?_ | (with_reducible rw [vc_draw_eq]; first | refine CV.draw (id := 3) [(0, 0), (0, 0), (0, 0), (0, 0), (0, 0), (0, 0), (0, 1), (0, 1), (0, 1), (0, 1), (0, 1), (99, 0), (2, 2)] mixed rfl (by kernel_rfl) ?_ | refine CV.draw (id := 4) [(0, 1), (0, 0), (0, 0), (99, 0), (0, 1), (0, 1), (1, 1), (1, 1), (1, 1), (1, 1), (1, 1), (1, 1)] mixed rfl (by kernel_rfl) ?_ | refine CV.draw (id := 6) [(0, 0), (0, 0), (0, 0), (0, 0), (0, 0), (0, 0), (0, 0), (0, 0), (0, 0), (0, 0), (0, 0), (0, 0), (0, 0), (0, 0), (0, 0)] mixed rfl (by kernel_rfl) ?_ | refine CV.draw (id := 17) [(0, 0), (0, 0), (0, 0), (0, 0), (0, 0), (0, 0), (0, 0), (0, 0), (0, 1), (0, 0), (0, 0), (1, 1)] mixed rfl (by kernel_rfl) ?_) | (first | (refine vcP_pure (h15) rfl ?_ ?_ ?_; (focus (first | rfl | ((simp only [go_sem, h1', AV.pureL, AV.pure, pureL_mapI, Bool.and_self]) <;> fail))); (focus (first | ((simp only [go_sem, h1']) <;> fail) | rfl))) | (refine dCallP_pure (h15) rfl ?_ ?_ ?_; (focus (first | rfl | ((simp only [go_sem, h1', AV.pureL, AV.pure, pureL_mapI, Bool.and_self]) <;> fail))); (focus (first | ((simp only [go_sem, h1']) <;> fail) | rfl))) | refine vcP_safe (h15) rfl rfl (by (simp only [go_sem, h1'])) ?_ | refine dCallP_safe (h15) rfl rfl ?_ | (refine vcP_pure (h17) rfl ?_ ?_ ?_; (focus (first | rfl | ((simp only [go_sem, h1', AV.pureL, AV.pure, pureL_mapI, Bool.and_self]) <;> fail))); (focus (first | ((simp only [go_sem, h1']) <;> fail) | rfl))) | (refine dCallP_pure (h17) rfl ?_ ?_ ?_; (focus (first | rfl | ((simp only [go_sem, h1', AV.pureL, AV.pure, pureL_mapI, Bool.and_self]) <;> fail))); (focus (first | ((simp only [go_sem, h1']) <;> fail) | rfl))) | refine vcP_safe (h17) rfl rfl (by (simp only [go_sem, h1'])) ?_ | refine dCallP_safe (h17) rfl rfl ?_ | (refine vcP_pure (c18) rfl ?_ ?_ ?_; (focus (first | rfl | ((simp only [go_sem, h1', AV.pureL, AV.pure, pureL_mapI, Bool.and_self]) <;> fail))); (focus (first | ((simp only [go_sem, h1']) <;> fail) | rfl))) | (refine dCallP_pure (c18) rfl ?_ ?_ ?_; (focus (first | rfl | ((simp only [go_sem, h1', AV.pureL, AV.pure, pureL_mapI, Bool.and_self]) <;> fail))); (focus (first | ((simp only [go_sem, h1']) <;> fail) | rfl))) | refine vcP_safe (c18) rfl rfl (by (simp only [go_sem, h1'])) ?_ | refine dCallP_safe (c18) rfl rfl ?_) | (simp only [go_sem, h1'])))
  have h1' : ¬ (40 : Int) < pl.length := by omega
  have h28 := c28 ts ms hv.things (by have := hv.1; omega) pl x
  by_cases hp : ¬ arePl ts pl x
  · rw [decide_eq_false hp] at h28
    refine PC.body Try.func5 (by kernel_rfl) rfl (by simp [Try.f5]) rfl ?_
    simp only [Try.f5]
    intro hlen
    simp only [go_sem, List.length_map, and_true, true_and] at hlen
    refine CV.run ?_
    (repeat' (first | ((first | with_reducible refine vcG_split ?_ ?_ | with_reducible refine vcIf_split ?_ ?_ | with_reducible refine vcQ_split ?_ ?_ | with_reducible refine vcDG_split ?_ ?_) <;> intro hb <;> (try rw [hb]) <;> (try simp only [Bool.and_eq_true, Bool.or_eq_true, dtrue, dfalse, Bool.not_eq_true', Bool.not_eq_false', Bool.and_eq_false_iff, Bool.or_eq_false_iff, Bool.not_true, Bool.not_false] at hb) <;> (try simp only [within] at hb) <;> try (simp only [go_sem, h1'])) | refine And.intro (by (first | exact trivial | (simp only [I64]; omega) | omega)) ?_ | (with_reducible rw [vc_draw_eq]; first | refine CV.draw (id := 3) [(0, 0), (0, 0), (0, 0), (0, 0), (0, 0), (0, 0), (0, 1), (0, 1), (0, 1), (0, 1), (0, 1), (99, 0), (2, 2)] mixed rfl (by kernel_rfl) ?_ | refine CV.draw (id := 4) [(0, 1), (0, 0), (0, 0), (99, 0), (0, 1), (0, 1), (1, 1), (1, 1), (1, 1), (1, 1), (1, 1), (1, 1)] mixed rfl (by kernel_rfl) ?_ | refine CV.draw (id := 6) [(0, 0), (0, 0), (0, 0), (0, 0), (0, 0), (0, 0), (0, 0), (0, 0), (0, 0), (0, 0), (0, 0), (0, 0), (0, 0), (0, 0), (0, 0)] mixed rfl (by kernel_rfl) ?_ | refine CV.draw (id := 17) [(0, 0), (0, 0), (0, 0), (0, 0), (0, 0), (0, 0), (0, 0), (0, 0), (0, 1), (0, 0), (0, 0), (1, 1)] mixed rfl (by kernel_rfl) ?_) | (first | (refine vcP_pure (h15) rfl ?_ ?_ ?_; (focus (first | rfl | ((simp only [go_sem, h1', AV.pureL, AV.pure, pureL_mapI, Bool.and_self]) <;> fail))); (focus (first | ((simp only [go_sem, h1']) <;> fail) | rfl))) | (refine dCallP_pure (h15) rfl ?_ ?_ ?_; (focus (first | rfl | ((simp only [go_sem, h1', AV.pureL, AV.pure, pureL_mapI, Bool.and_self]) <;> fail))); (focus (first | ((simp only [go_sem, h1']) <;> fail) | rfl))) | refine vcP_safe (h15) rfl rfl (by (simp only [go_sem, h1'])) ?_ | refine dCallP_safe (h15) rfl rfl ?_ | (refine vcP_pure (h17) rfl ?_ ?_ ?_; (focus (first | rfl | ((simp only [go_sem, h1', AV.pureL, AV.pure, pureL_mapI, Bool.and_self]) <;> fail))); (focus (first | ((simp only [go_sem, h1']) <;> fail) | rfl))) | (refine dCallP_pure (h17) rfl ?_ ?_ ?_; (focus (first | rfl | ((simp only [go_sem, h1', AV.pureL, AV.pure, pureL_mapI, Bool.and_self]) <;> fail))); (focus (first | ((simp only [go_sem, h1']) <;> fail) | rfl))) | refine vcP_safe (h17) rfl rfl (by (simp only [go_sem, h1'])) ?_ | refine dCallP_safe (h17) rfl rfl ?_ | (refine vcP_pure (h28) rfl ?_ ?_ ?_; (focus (first | rfl | ((simp only [go_sem, h1', AV.pureL, AV.pure, pureL_mapI, Bool.and_self]) <;> fail))); (focus (first | ((simp only [go_sem, h1']) <;> fail) | rfl))) | (refine dCallP_pure (h28) rfl ?_ ?_ ?_; (focus (first | rfl | ((simp only [go_sem, h1', AV.pureL, AV.pure, pureL_mapI, Bool.and_self]) <;> fail))); (focus (first | ((simp only [go_sem, h1']) <;> fail) | rfl))) | refine vcP_safe (h28) rfl rfl (by (simp only [go_sem, h1'])) ?_ | refine dCallP_safe (h28) rfl rfl ?_ | (refine vcP_pure (c18) rfl ?_ ?_ ?_; (focus (first | rfl | ((simp only [go_sem, h1', AV.pureL, AV.pure, pureL_mapI, Bool.and_self]) <;> fail))); (focus (first | ((simp only [go_sem, h1']) <;> fail) | rfl))) | (refine dCallP_pure (c18) rfl ?_ ?_ ?_; (focus (first | rfl | ((simp only [go_sem, h1', AV.pureL, AV.pure, pureL_mapI, Bool.and_self]) <;> fail))); (focus (first | ((simp only [go_sem, h1']) <;> fail) | rfl))) | refine vcP_safe (c18) rfl rfl (by (simp only [go_sem, h1'])) ?_ | refine dCallP_safe (c18) rfl rfl ?_) | (simp only [go_sem, h1'])))
  have hp := Classical.not_not.1 hp
  rw [decide_eq_true hp] at h28
  have h26 := c26 i 0 (pl.length - 1)
  by_cases hi : ¬ within i 0 (pl.length - 1)
  · rw [decide_eq_false hi] at h26
    refine PC.body Try.func5 (by kernel_rfl) rfl (by simp [Try.f5]) rfl ?_
    simp only [Try.f5]
    intro hlen
    simp only [go_sem, List.length_map, and_true, true_and] at hlen
    refine CV.run ?_
    (repeat' (first | ((first | with_reducible refine vcG_split ?_ ?_ | with_reducible refine vcIf_split ?_ ?_ | with_reducible refine vcQ_split ?_ ?_ | with_reducible refine vcDG_split ?_ ?_) <;> intro hb <;> (try rw [hb]) <;> (try simp only [Bool.and_eq_true, Bool.or_eq_true, dtrue, dfalse, Bool.not_eq_true', Bool.not_eq_false', Bool.and_eq_false_iff, Bool.or_eq_false_iff, Bool.not_true, Bool.not_false] at hb) <;> (try simp only [within] at hb) <;> try (simp only [go_sem, h1'])) | refine And.intro (by (first | exact trivial | (simp only [I64]; omega) | omega)) ?_ | (with_reducible rw [vc_draw_eq]; first | refine CV.draw (id := 3) [(0, 0), (0, 0), (0, 0), (0, 0), (0, 0), (0, 0), (0, 1), (0, 1), (0, 1), (0, 1), (0, 1), (99, 0), (2, 2)] mixed rfl (by kernel_rfl) ?_ | refine CV.draw (id := 4) [(0, 1), (0, 0), (0, 0), (99, 0), (0, 1), (0, 1), (1, 1), (1, 1), (1, 1), (1, 1), (1, 1), (1, 1)] mixed rfl (by kernel_rfl) ?_ | refine CV.draw (id := 6) [(0, 0), (0, 0), (0, 0), (0, 0), (0, 0), (0, 0), (0, 0), (0, 0), (0, 0), (0, 0), (0, 0), (0, 0), (0, 0), (0, 0), (0, 0)] mixed rfl (by kernel_rfl) ?_ | refine CV.draw (id := 17) [(0, 0), (0, 0), (0, 0), (0, 0), (0, 0), (0, 0), (0, 0), (0, 0), (0, 1), (0, 0), (0, 0), (1, 1)] mixed rfl (by kernel_rfl) ?_) | (first | (refine vcP_pure (h15) rfl ?_ ?_ ?_; (focus (first | rfl | ((simp only [go_sem, h1', AV.pureL, AV.pure, pureL_mapI, Bool.and_self]) <;> fail))); (focus (first | ((simp only [go_sem, h1']) <;> fail) | rfl))) | (refine dCallP_pure (h15) rfl ?_ ?_ ?_; (focus (first | rfl | ((simp only [go_sem, h1', AV.pureL, AV.pure, pureL_mapI, Bool.and_self]) <;> fail))); (focus (first | ((simp only [go_sem, h1']) <;> fail) | rfl))) | refine vcP_safe (h15) rfl rfl (by (simp only [go_sem, h1'])) ?_ | refine dCallP_safe (h15) rfl rfl ?_ | (refine vcP_pure (h17) rfl ?_ ?_ ?_; (focus (first | rfl | ((simp only [go_sem, h1', AV.pureL, AV.pure, pureL_mapI, Bool.and_self]) <;> fail))); (focus (first | ((simp only [go_sem, h1']) <;> fail) | rfl))) | (refine dCallP_pure (h17) rfl ?_ ?_ ?_; (focus (first | rfl | ((simp only [go_sem, h1', AV.pureL, AV.pure, pureL_mapI, Bool.and_self]) <;> fail))); (focus (first | ((simp only [go_sem, h1']) <;> fail) | rfl))) | refine vcP_safe (h17) rfl rfl (by (simp only [go_sem, h1'])) ?_ | refine dCallP_safe (h17) rfl rfl ?_ | (refine vcP_pure (h28) rfl ?_ ?_ ?_; (focus (first | rfl | ((simp only [go_sem, h1', AV.pureL, AV.pure, pureL_mapI, Bool.and_self]) <;> fail))); (focus (first | ((simp only [go_sem, h1']) <;> fail) | rfl))) | (refine dCallP_pure (h28) rfl ?_ ?_ ?_; (focus (first | rfl | ((simp only [go_sem, h1', AV.pureL, AV.pure, pureL_mapI, Bool.and_self]) <;> fail))); (focus (first | ((simp only [go_sem, h1']) <;> fail) | rfl))) | refine vcP_safe (h28) rfl rfl (by (simp only [go_sem, h1'])) ?_ | refine dCallP_safe (h28) rfl rfl ?_ | (refine vcP_pure (h26) rfl ?_ ?_ ?_; (focus (first | rfl | ((simp only [go_sem, h1', AV.pureL, AV.pure, pureL_mapI, Bool.and_self]) <;> fail))); (focus (first | ((simp only [go_sem, h1']) <;> fail) | rfl))) | (refine dCallP_pure (h26) rfl ?_ ?_ ?_; (focus (first | rfl | ((simp only [go_sem, h1', AV.pureL, AV.pure, pureL_mapI, Bool.and_self]) <;> fail))); (focus (first | ((simp only [go_sem, h1']) <;> fail) | rfl))) | refine vcP_safe (h26) rfl rfl (by (simp only [go_sem, h1'])) ?_ | refine dCallP_safe (h26) rfl rfl ?_ | (refine vcP_pure (c18) rfl ?_ ?_ ?_; (focus (first | rfl | ((simp only [go_sem, h1', AV.pureL, AV.pure, pureL_mapI, Bool.and_self]) <;> fail))); (focus (first | ((simp only [go_sem, h1']) <;> fail) | rfl))) | (refine dCallP_pure (c18) rfl ?_ ?_ ?_; (focus (first | rfl | ((simp only [go_sem, h1', AV.pureL, AV.pure, pureL_mapI, Bool.and_self]) <;> fail))); (focus (first | ((simp only [go_sem, h1']) <;> fail) | rfl))) | refine vcP_safe (c18) rfl rfl (by (simp only [go_sem, h1'])) ?_ | refine dCallP_safe (c18) rfl rfl ?_) | (simp only [go_sem, h1'])))
  have hi := Classical.not_not.1 hi
  rw [decide_eq_true hi] at h26
  unfold within at hi hx
  obtain ⟨k, rfl⟩ := Int.eq_ofNat_of_zero_le hi.1
  obtain ⟨m, rfl⟩ := Int.eq_ofNat_of_zero_le hx.1
  obtain ⟨y, hy⟩ := get_of (l := pl) (j := k) (by omega)
  have hkl : (k : Int) < pl.length := by omega
  have hpl := arePl_sub hp (lessL_sub pl k)
  have hp1 : arePl ts [y] m := arePl_sub hp (List.singleton_sublist.2 (List.mem_of_getElem? hy))
  have h29 := c29 ts ms pl m
  have l29 := c29 ts ms (lessL pl k) m
  have o29 := c29 ts ms [y] m
  rw [show rMixed ts ms pl m = _ from answer_yes ⟨hv, by unfold within; omega, hp⟩] at h29
  rw [show rMixed ts ms (lessL pl k) m = _ from answer_yes ⟨hv, by unfold within; omega, hpl⟩] at l29
  rw [show rMixed ts ms [y] m = _ from answer_yes ⟨hv, by unfold within; omega, hp1⟩, mix_one] at o29
  have r1 : rising (sel (mixOf ts ms pl m) 3) 0 2 := sel_rising (mixOf ts ms pl m) 3
  have r2 : rising (sel (mixOf ts ms (lessL pl k) m) 3) 0 2 := sel_rising (mixOf ts ms (lessL pl k) m) 3
  have h30 := c30 (sel (mixOf ts ms pl m) 3) 0 2
  have l30 := c30 (sel (mixOf ts ms (lessL pl k) m) 3) 0 2
  rw [decide_eq_true r1] at h30
  rw [decide_eq_true r2] at l30
  have hK := fun z => sel_mem (p := mixOf ts ms pl m) 3 z
  have hL := fun z => sel_mem (p := mixOf ts ms (lessL pl k) m) 3 z
  have hsub : ∀ z, z ∈ sel (mixOf ts ms (lessL pl k) m) 3 → z ∈ sel (mixOf ts ms pl m) 3 := fun z hz => by
    obtain ⟨j, j1, j2, j3⟩ := (hL z).1 hz
    exact (hK z).2 ⟨j, j1, j2, mixOf_sub j3 fun n hn => (lessL_sub pl k).subset hn⟩
  have hlen : (lessL pl k).length ≤ pl.length := (lessL_sub pl k).length_le
  have hll : (pl.take k).length + (pl.drop (k + 1)).length ≤ pl.length := by simp; omega
  refine PC.body Try.func5 (by kernel_rfl) rfl (by simp [Try.f5]) rfl ?_
  simp only [Try.f5]
  intro hlen
  simp only [go_sem, List.length_map, and_true, true_and] at hlen
  refine CV.run ?_
  (repeat' (first | ((first | with_reducible refine vcG_split ?_ ?_ | with_reducible refine vcIf_split ?_ ?_ | with_reducible refine vcQ_split ?_ ?_ | with_reducible refine vcDG_split ?_ ?_) <;> intro hb <;> (try rw [hb]) <;> (try simp only [Bool.and_eq_true, Bool.or_eq_true, dtrue, dfalse, Bool.not_eq_true', Bool.not_eq_false', Bool.and_eq_false_iff, Bool.or_eq_false_iff, Bool.not_true, Bool.not_false] at hb) <;> (try simp only [within] at hb) <;> try (simp only [go_sem, h1', hkl, hy, encN])) | refine And.intro (by (first | exact trivial | (simp only [I64]; omega) | omega)) ?_ | (with_reducible rw [vc_draw_eq]; first | refine CV.draw (id := 3) [(0, 0), (0, 0), (0, 0), (0, 0), (0, 0), (0, 0), (0, 1), (0, 1), (0, 1), (0, 1), (0, 1), (99, 0), (2, 2)] mixed rfl (by kernel_rfl) ?_ | refine CV.draw (id := 4) [(0, 1), (0, 0), (0, 0), (99, 0), (0, 1), (0, 1), (1, 1), (1, 1), (1, 1), (1, 1), (1, 1), (1, 1)] mixed rfl (by kernel_rfl) ?_ | refine CV.draw (id := 6) [(0, 0), (0, 0), (0, 0), (0, 0), (0, 0), (0, 0), (0, 0), (0, 0), (0, 0), (0, 0), (0, 0), (0, 0), (0, 0), (0, 0), (0, 0)] mixed rfl (by kernel_rfl) ?_ | refine CV.draw (id := 17) [(0, 0), (0, 0), (0, 0), (0, 0), (0, 0), (0, 0), (0, 0), (0, 0), (0, 1), (0, 0), (0, 0), (1, 1)] mixed rfl (by kernel_rfl) ?_) | (first | (refine vcP_pure (h15) rfl ?_ ?_ ?_; (focus (first | rfl | ((simp only [go_sem, h1', hkl, hy, encN, AV.pureL, AV.pure, pureL_mapI, Bool.and_self]) <;> fail))); (focus (first | ((simp only [go_sem, h1', hkl, hy, encN]) <;> fail) | rfl))) | (refine dCallP_pure (h15) rfl ?_ ?_ ?_; (focus (first | rfl | ((simp only [go_sem, h1', hkl, hy, encN, AV.pureL, AV.pure, pureL_mapI, Bool.and_self]) <;> fail))); (focus (first | ((simp only [go_sem, h1', hkl, hy, encN]) <;> fail) | rfl))) | refine vcP_safe (h15) rfl rfl (by (simp only [go_sem, h1', hkl, hy, encN])) ?_ | refine dCallP_safe (h15) rfl rfl ?_ | (refine vcP_pure (h17) rfl ?_ ?_ ?_; (focus (first | rfl | ((simp only [go_sem, h1', hkl, hy, encN, AV.pureL, AV.pure, pureL_mapI, Bool.and_self]) <;> fail))); (focus (first | ((simp only [go_sem, h1', hkl, hy, encN]) <;> fail) | rfl))) | (refine dCallP_pure (h17) rfl ?_ ?_ ?_; (focus (first | rfl | ((simp only [go_sem, h1', hkl, hy, encN, AV.pureL, AV.pure, pureL_mapI, Bool.and_self]) <;> fail))); (focus (first | ((simp only [go_sem, h1', hkl, hy, encN]) <;> fail) | rfl))) | refine vcP_safe (h17) rfl rfl (by (simp only [go_sem, h1', hkl, hy, encN])) ?_ | refine dCallP_safe (h17) rfl rfl ?_ | (refine vcP_pure (h28) rfl ?_ ?_ ?_; (focus (first | rfl | ((simp only [go_sem, h1', hkl, hy, encN, AV.pureL, AV.pure, pureL_mapI, Bool.and_self]) <;> fail))); (focus (first | ((simp only [go_sem, h1', hkl, hy, encN]) <;> fail) | rfl))) | (refine dCallP_pure (h28) rfl ?_ ?_ ?_; (focus (first | rfl | ((simp only [go_sem, h1', hkl, hy, encN, AV.pureL, AV.pure, pureL_mapI, Bool.and_self]) <;> fail))); (focus (first | ((simp only [go_sem, h1', hkl, hy, encN]) <;> fail) | rfl))) | refine vcP_safe (h28) rfl rfl (by (simp only [go_sem, h1', hkl, hy, encN])) ?_ | refine dCallP_safe (h28) rfl rfl ?_ | (refine vcP_pure (h26) rfl ?_ ?_ ?_; (focus (first | rfl | ((simp only [go_sem, h1', hkl, hy, encN, AV.pureL, AV.pure, pureL_mapI, Bool.and_self]) <;> fail))); (focus (first | ((simp only [go_sem, h1', hkl, hy, encN]) <;> fail) | rfl))) | (refine dCallP_pure (h26) rfl ?_ ?_ ?_; (focus (first | rfl | ((simp only [go_sem, h1', hkl, hy, encN, AV.pureL, AV.pure, pureL_mapI, Bool.and_self]) <;> fail))); (focus (first | ((simp only [go_sem, h1', hkl, hy, encN]) <;> fail) | rfl))) | refine vcP_safe (h26) rfl rfl (by (simp only [go_sem, h1', hkl, hy, encN])) ?_ | refine dCallP_safe (h26) rfl rfl ?_) | (simp only [go_sem, h1', hkl, hy, encN])))
  have hk1 : ((k : Int) + 1).toNat = k + 1 := by omega
  have hE : (pl.map encN).take k ++ (pl.map encN).drop (k + 1) = (lessL pl k).map encN := by simp [lessL, List.map_take, List.map_drop]
  have hl2 : ((pl.map encN).take k).length ≤ 40 := by simp; omega
  have hl3 : ((pl.map encN).drop (k + 1)).length ≤ 40 := by simp; omega
  rw [hk1]
  refine ⟨⟨by omega, by omega, .inl trivial⟩, ⟨by omega, by omega⟩, ⟨by omega, by omega⟩, ⟨⟨by omega, by omega⟩, List.length_append⟩, ?_⟩
  (repeat' (first | ((first | with_reducible refine vcG_split ?_ ?_ | with_reducible refine vcIf_split ?_ ?_ | with_reducible refine vcQ_split ?_ ?_ | with_reducible refine vcDG_split ?_ ?_) <;> intro hb <;> (try rw [hb]) <;> (try simp only [Bool.and_eq_true, Bool.or_eq_true, dtrue, dfalse, Bool.not_eq_true', Bool.not_eq_false', Bool.and_eq_false_iff, Bool.or_eq_false_iff, Bool.not_true, Bool.not_false] at hb) <;> (try simp only [within] at hb) <;> try (simp only [go_sem, hE, encN])) | refine And.intro (by (first | exact trivial | (simp only [I64]; omega) | omega)) ?_ | (with_reducible rw [vc_draw_eq]; first | refine CV.draw (id := 3) [(0, 0), (0, 0), (0, 0), (0, 0), (0, 0), (0, 0), (0, 1), (0, 1), (0, 1), (0, 1), (0, 1), (99, 0), (2, 2)] mixed rfl (by kernel_rfl) ?_ | refine CV.draw (id := 4) [(0, 1), (0, 0), (0, 0), (99, 0), (0, 1), (0, 1), (1, 1), (1, 1), (1, 1), (1, 1), (1, 1), (1, 1)] mixed rfl (by kernel_rfl) ?_ | refine CV.draw (id := 6) [(0, 0), (0, 0), (0, 0), (0, 0), (0, 0), (0, 0), (0, 0), (0, 0), (0, 0), (0, 0), (0, 0), (0, 0), (0, 0), (0, 0), (0, 0)] mixed rfl (by kernel_rfl) ?_ | refine CV.draw (id := 17) [(0, 0), (0, 0), (0, 0), (0, 0), (0, 0), (0, 0), (0, 0), (0, 0), (0, 1), (0, 0), (0, 0), (1, 1)] mixed rfl (by kernel_rfl) ?_) | fail | (simp only [go_sem, hE, encN])))
  refine ⟨⟨by omega, by omega, .inl trivial⟩, ?_⟩
  have t1 : ¬ (0 : Int) < ((0 : Nat) : Int) := by omega
  (repeat' (first | ((first | with_reducible refine vcG_split ?_ ?_ | with_reducible refine vcIf_split ?_ ?_ | with_reducible refine vcQ_split ?_ ?_ | with_reducible refine vcDG_split ?_ ?_) <;> intro hb <;> (try rw [hb]) <;> (try simp only [Bool.and_eq_true, Bool.or_eq_true, dtrue, dfalse, Bool.not_eq_true', Bool.not_eq_false', Bool.and_eq_false_iff, Bool.or_eq_false_iff, Bool.not_true, Bool.not_false] at hb) <;> (try simp only [within] at hb) <;> try (simp only [go_sem, hE, encN, hkl, hy, t1])) | refine And.intro (by (first | exact trivial | (simp only [I64]; omega) | omega)) ?_ | (with_reducible rw [vc_draw_eq]; first | refine CV.draw (id := 3) [(0, 0), (0, 0), (0, 0), (0, 0), (0, 0), (0, 0), (0, 1), (0, 1), (0, 1), (0, 1), (0, 1), (99, 0), (2, 2)] mixed rfl (by kernel_rfl) ?_ | refine CV.draw (id := 4) [(0, 1), (0, 0), (0, 0), (99, 0), (0, 1), (0, 1), (1, 1), (1, 1), (1, 1), (1, 1), (1, 1), (1, 1)] mixed rfl (by kernel_rfl) ?_ | refine CV.draw (id := 6) [(0, 0), (0, 0), (0, 0), (0, 0), (0, 0), (0, 0), (0, 0), (0, 0), (0, 0), (0, 0), (0, 0), (0, 0), (0, 0), (0, 0), (0, 0)] mixed rfl (by kernel_rfl) ?_ | refine CV.draw (id := 17) [(0, 0), (0, 0), (0, 0), (0, 0), (0, 0), (0, 0), (0, 0), (0, 0), (0, 1), (0, 0), (0, 0), (1, 1)] mixed rfl (by kernel_rfl) ?_) | (first | (refine vcP_pure (h29) rfl ?_ ?_ ?_; (focus (first | rfl | ((simp only [go_sem, hE, encN, hkl, hy, t1, AV.pureL, AV.pure, pureL_mapI, Bool.and_self]) <;> fail))); (focus (first | ((simp only [go_sem, hE, encN, hkl, hy, t1]) <;> fail) | rfl))) | (refine dCallP_pure (h29) rfl ?_ ?_ ?_; (focus (first | rfl | ((simp only [go_sem, hE, encN, hkl, hy, t1, AV.pureL, AV.pure, pureL_mapI, Bool.and_self]) <;> fail))); (focus (first | ((simp only [go_sem, hE, encN, hkl, hy, t1]) <;> fail) | rfl))) | refine vcP_safe (h29) rfl rfl (by (simp only [go_sem, hE, encN, hkl, hy, t1])) ?_ | refine dCallP_safe (h29) rfl rfl ?_ | (refine vcP_pure (l29) rfl ?_ ?_ ?_; (focus (first | rfl | ((simp only [go_sem, hE, encN, hkl, hy, t1, AV.pureL, AV.pure, pureL_mapI, Bool.and_self]) <;> fail))); (focus (first | ((simp only [go_sem, hE, encN, hkl, hy, t1]) <;> fail) | rfl))) | (refine dCallP_pure (l29) rfl ?_ ?_ ?_; (focus (first | rfl | ((simp only [go_sem, hE, encN, hkl, hy, t1, AV.pureL, AV.pure, pureL_mapI, Bool.and_self]) <;> fail))); (focus (first | ((simp only [go_sem, hE, encN, hkl, hy, t1]) <;> fail) | rfl))) | refine vcP_safe (l29) rfl rfl (by (simp only [go_sem, hE, encN, hkl, hy, t1])) ?_ | refine dCallP_safe (l29) rfl rfl ?_ | (refine vcP_pure (o29) rfl ?_ ?_ ?_; (focus (first | rfl | ((simp only [go_sem, hE, encN, hkl, hy, t1, AV.pureL, AV.pure, pureL_mapI, Bool.and_self]) <;> fail))); (focus (first | ((simp only [go_sem, hE, encN, hkl, hy, t1]) <;> fail) | rfl))) | (refine dCallP_pure (o29) rfl ?_ ?_ ?_; (focus (first | rfl | ((simp only [go_sem, hE, encN, hkl, hy, t1, AV.pureL, AV.pure, pureL_mapI, Bool.and_self]) <;> fail))); (focus (first | ((simp only [go_sem, hE, encN, hkl, hy, t1]) <;> fail) | rfl))) | refine vcP_safe (o29) rfl rfl (by (simp only [go_sem, hE, encN, hkl, hy, t1])) ?_ | refine dCallP_safe (o29) rfl rfl ?_ | (refine vcP_pure (h30) rfl ?_ ?_ ?_; (focus (first | rfl | ((simp only [go_sem, hE, encN, hkl, hy, t1, AV.pureL, AV.pure, pureL_mapI, Bool.and_self]) <;> fail))); (focus (first | ((simp only [go_sem, hE, encN, hkl, hy, t1]) <;> fail) | rfl))) | (refine dCallP_pure (h30) rfl ?_ ?_ ?_; (focus (first | rfl | ((simp only [go_sem, hE, encN, hkl, hy, t1, AV.pureL, AV.pure, pureL_mapI, Bool.and_self]) <;> fail))); (focus (first | ((simp only [go_sem, hE, encN, hkl, hy, t1]) <;> fail) | rfl))) | refine vcP_safe (h30) rfl rfl (by (simp only [go_sem, hE, encN, hkl, hy, t1])) ?_ | refine dCallP_safe (h30) rfl rfl ?_ | (refine vcP_pure (l30) rfl ?_ ?_ ?_; (focus (first | rfl | ((simp only [go_sem, hE, encN, hkl, hy, t1, AV.pureL, AV.pure, pureL_mapI, Bool.and_self]) <;> fail))); (focus (first | ((simp only [go_sem, hE, encN, hkl, hy, t1]) <;> fail) | rfl))) | (refine dCallP_pure (l30) rfl ?_ ?_ ?_; (focus (first | rfl | ((simp only [go_sem, hE, encN, hkl, hy, t1, AV.pureL, AV.pure, pureL_mapI, Bool.and_self]) <;> fail))); (focus (first | ((simp only [go_sem, hE, encN, hkl, hy, t1]) <;> fail) | rfl))) | refine vcP_safe (l30) rfl rfl (by (simp only [go_sem, hE, encN, hkl, hy, t1])) ?_ | refine dCallP_safe (l30) rfl rfl ?_) | (simp only [go_sem, hE, encN, hkl, hy, t1])))
  have hKl := sel_len (mixOf ts ms pl m) 3
  have hLl := sel_len (mixOf ts ms (lessL pl k) m) 3
  generalize hKd : sel (mixOf ts ms pl m) 3 = K at *
  generalize sel (mixOf ts ms (lessL pl k) m) 3 = L at *
  refine vc_for (fun j => ⟨[(14, .int .i64 j), (10, lN L), (8, lN K), (6, .bool false), (4, .lp 1 0), (3, .lp 0 0)], [.box 25 [.lst false 4 (ts.map encT), .lst false 3 (ms.map encM)] false, .box 27 [.int .i64 k, .int .i64 c, .int .i64 m] false]⟩) L.length (fun _ => True) (by (first | exact wk_same (by (simp only [go_sem, Int.natCast_add, Int.natCast_one, Int.natCast_zero, Int.cast_ofNat_Int])) | exact wk_drop (by (simp only [go_sem, Int.natCast_add, Int.natCast_one, Int.natCast_zero, Int.cast_ofNat_Int])) (by (simp only [go_sem, Int.natCast_add, Int.natCast_one, Int.natCast_zero, Int.cast_ofNat_Int])) (by (simp only [go_sem, Int.natCast_add, Int.natCast_one, Int.natCast_zero, Int.cast_ofNat_Int])) (by (simp only [go_sem, Int.natCast_add, Int.natCast_one, Int.natCast_zero, Int.cast_ofNat_Int])) (by (simp only [go_sem, Int.natCast_add, Int.natCast_one, Int.natCast_zero, Int.cast_ofNat_Int])))) trivial ?_
  intro j hj _
  rcases Nat.lt_or_ge j L.length with hlt | hge
  · obtain ⟨z, hz⟩ := get_of hlt
    have hlt' : (j : Int) < L.length := by omega
    have h31 := c31 K z
    rw [decide_eq_true (hsub z (List.mem_of_getElem? hz))] at h31
    (repeat' (first | ((first | with_reducible refine vcG_split ?_ ?_ | with_reducible refine vcIf_split ?_ ?_ | with_reducible refine vcQ_split ?_ ?_ | with_reducible refine vcDG_split ?_ ?_) <;> intro hb <;> (try rw [hb]) <;> (try simp only [Bool.and_eq_true, Bool.or_eq_true, dtrue, dfalse, Bool.not_eq_true', Bool.not_eq_false', Bool.and_eq_false_iff, Bool.or_eq_false_iff, Bool.not_true, Bool.not_false] at hb) <;> (try simp only [within] at hb) <;> try (simp only [go_sem, hlt', hz, encN])) | refine And.intro (by (first | exact trivial | (simp only [I64]; omega) | omega)) ?_ | (with_reducible rw [vc_draw_eq]; first | refine CV.draw (id := 3) [(0, 0), (0, 0), (0, 0), (0, 0), (0, 0), (0, 0), (0, 1), (0, 1), (0, 1), (0, 1), (0, 1), (99, 0), (2, 2)] mixed rfl (by kernel_rfl) ?_ | refine CV.draw (id := 4) [(0, 1), (0, 0), (0, 0), (99, 0), (0, 1), (0, 1), (1, 1), (1, 1), (1, 1), (1, 1), (1, 1), (1, 1)] mixed rfl (by kernel_rfl) ?_ | refine CV.draw (id := 6) [(0, 0), (0, 0), (0, 0), (0, 0), (0, 0), (0, 0), (0, 0), (0, 0), (0, 0), (0, 0), (0, 0), (0, 0), (0, 0), (0, 0), (0, 0)] mixed rfl (by kernel_rfl) ?_ | refine CV.draw (id := 17) [(0, 0), (0, 0), (0, 0), (0, 0), (0, 0), (0, 0), (0, 0), (0, 0), (0, 1), (0, 0), (0, 0), (1, 1)] mixed rfl (by kernel_rfl) ?_) | (first | (refine vcP_pure (h31) rfl ?_ ?_ ?_; (focus (first | rfl | ((simp only [go_sem, hlt', hz, encN, AV.pureL, AV.pure, pureL_mapI, Bool.and_self]) <;> fail))); (focus (first | ((simp only [go_sem, hlt', hz, encN]) <;> fail) | rfl))) | (refine dCallP_pure (h31) rfl ?_ ?_ ?_; (focus (first | rfl | ((simp only [go_sem, hlt', hz, encN, AV.pureL, AV.pure, pureL_mapI, Bool.and_self]) <;> fail))); (focus (first | ((simp only [go_sem, hlt', hz, encN]) <;> fail) | rfl))) | refine vcP_safe (h31) rfl rfl (by (simp only [go_sem, hlt', hz, encN])) ?_ | refine dCallP_safe (h31) rfl rfl ?_) | (simp only [go_sem, hlt', hz, encN])))
    (first | exact wk_same (by (simp only [go_sem, Int.natCast_add, Int.natCast_one, Int.natCast_zero, Int.cast_ofNat_Int])) | exact wk_drop (by (simp only [go_sem, Int.natCast_add, Int.natCast_one, Int.natCast_zero, Int.cast_ofNat_Int])) (by (simp only [go_sem, Int.natCast_add, Int.natCast_one, Int.natCast_zero, Int.cast_ofNat_Int])) (by (simp only [go_sem, Int.natCast_add, Int.natCast_one, Int.natCast_zero, Int.cast_ofNat_Int])) (by (simp only [go_sem, Int.natCast_add, Int.natCast_one, Int.natCast_zero, Int.cast_ofNat_Int])) (by (simp only [go_sem, Int.natCast_add, Int.natCast_one, Int.natCast_zero, Int.cast_ofNat_Int])))
  have hge' : ¬ (j : Int) < L.length := by omega
  (repeat' (first | ((first | with_reducible refine vcG_split ?_ ?_ | with_reducible refine vcIf_split ?_ ?_ | with_reducible refine vcQ_split ?_ ?_ | with_reducible refine vcDG_split ?_ ?_) <;> intro hb <;> (try rw [hb]) <;> (try simp only [Bool.and_eq_true, Bool.or_eq_true, dtrue, dfalse, Bool.not_eq_true', Bool.not_eq_false', Bool.and_eq_false_iff, Bool.or_eq_false_iff, Bool.not_true, Bool.not_false] at hb) <;> (try simp only [within] at hb) <;> try (simp only [go_sem, hge'])) | refine And.intro (by (first | exact trivial | (simp only [I64]; omega) | omega)) ?_ | (with_reducible rw [vc_draw_eq]; first | refine CV.draw (id := 3) [(0, 0), (0, 0), (0, 0), (0, 0), (0, 0), (0, 0), (0, 1), (0, 1), (0, 1), (0, 1), (0, 1), (99, 0), (2, 2)] mixed rfl (by kernel_rfl) ?_ | refine CV.draw (id := 4) [(0, 1), (0, 0), (0, 0), (99, 0), (0, 1), (0, 1), (1, 1), (1, 1), (1, 1), (1, 1), (1, 1), (1, 1)] mixed rfl (by kernel_rfl) ?_ | refine CV.draw (id := 6) [(0, 0), (0, 0), (0, 0), (0, 0), (0, 0), (0, 0), (0, 0), (0, 0), (0, 0), (0, 0), (0, 0), (0, 0), (0, 0), (0, 0), (0, 0)] mixed rfl (by kernel_rfl) ?_ | refine CV.draw (id := 17) [(0, 0), (0, 0), (0, 0), (0, 0), (0, 0), (0, 0), (0, 0), (0, 0), (0, 1), (0, 0), (0, 0), (1, 1)] mixed rfl (by kernel_rfl) ?_) | fail | (simp only [go_sem, hge'])))
  refine vc_for (fun j => ⟨[(15, .int .i64 j), (8, lN K), (6, .bool false), (4, .lp 1 0), (3, .lp 0 0)], [.box 25 [.lst false 4 (ts.map encT), .lst false 3 (ms.map encM)] false, .box 27 [.int .i64 k, .int .i64 c, .int .i64 m] false]⟩) K.length (fun _ => True) (by (first | exact wk_same (by (simp only [go_sem, Int.natCast_add, Int.natCast_one, Int.natCast_zero, Int.cast_ofNat_Int])) | exact wk_drop (by (simp only [go_sem, Int.natCast_add, Int.natCast_one, Int.natCast_zero, Int.cast_ofNat_Int])) (by (simp only [go_sem, Int.natCast_add, Int.natCast_one, Int.natCast_zero, Int.cast_ofNat_Int])) (by (simp only [go_sem, Int.natCast_add, Int.natCast_one, Int.natCast_zero, Int.cast_ofNat_Int])) (by (simp only [go_sem, Int.natCast_add, Int.natCast_one, Int.natCast_zero, Int.cast_ofNat_Int])) (by (simp only [go_sem, Int.natCast_add, Int.natCast_one, Int.natCast_zero, Int.cast_ofNat_Int])))) trivial ?_
  intro q hq _
  rcases Nat.lt_or_ge q K.length with qlt | qge
  · obtain ⟨z, hz⟩ := get_of qlt
    have qlt' : (q : Int) < K.length := by omega
    obtain ⟨d, d1, d2, d3⟩ := (hK z).1 (List.mem_of_getElem? hz)
    subst d2
    have hmx := mix_time hv (m := m) (by omega) hp d3
    obtain ⟨e1, e2⟩ := spanT_in hmx 100 (by omega)
    have h32 := c32 ts ms d
    rw [show rTime ts ms d = _ from answer_yes ⟨hv, by unfold within; omega⟩, if_neg (by omega)] at h32
    have e1' : ¬ (m : Int) < (spanT ts ms d 100).1 := by omega
    have e2' : ¬ (spanT ts ms d 100).2 < (m : Int) := by omega
    (repeat' (first | ((first | with_reducible refine vcG_split ?_ ?_ | with_reducible refine vcIf_split ?_ ?_ | with_reducible refine vcQ_split ?_ ?_ | with_reducible refine vcDG_split ?_ ?_) <;> intro hb <;> (try rw [hb]) <;> (try simp only [Bool.and_eq_true, Bool.or_eq_true, dtrue, dfalse, Bool.not_eq_true', Bool.not_eq_false', Bool.and_eq_false_iff, Bool.or_eq_false_iff, Bool.not_true, Bool.not_false] at hb) <;> (try simp only [within] at hb) <;> try (simp only [go_sem, qlt', hz, e1', e2', encN])) | refine And.intro (by (first | exact trivial | (simp only [I64]; omega) | omega)) ?_ | (with_reducible rw [vc_draw_eq]; first | refine CV.draw (id := 3) [(0, 0), (0, 0), (0, 0), (0, 0), (0, 0), (0, 0), (0, 1), (0, 1), (0, 1), (0, 1), (0, 1), (99, 0), (2, 2)] mixed rfl (by kernel_rfl) ?_ | refine CV.draw (id := 4) [(0, 1), (0, 0), (0, 0), (99, 0), (0, 1), (0, 1), (1, 1), (1, 1), (1, 1), (1, 1), (1, 1), (1, 1)] mixed rfl (by kernel_rfl) ?_ | refine CV.draw (id := 6) [(0, 0), (0, 0), (0, 0), (0, 0), (0, 0), (0, 0), (0, 0), (0, 0), (0, 0), (0, 0), (0, 0), (0, 0), (0, 0), (0, 0), (0, 0)] mixed rfl (by kernel_rfl) ?_ | refine CV.draw (id := 17) [(0, 0), (0, 0), (0, 0), (0, 0), (0, 0), (0, 0), (0, 0), (0, 0), (0, 1), (0, 0), (0, 0), (1, 1)] mixed rfl (by kernel_rfl) ?_) | (first | (refine vcP_pure (h32) rfl ?_ ?_ ?_; (focus (first | rfl | ((simp only [go_sem, qlt', hz, e1', e2', encN, AV.pureL, AV.pure, pureL_mapI, Bool.and_self]) <;> fail))); (focus (first | ((simp only [go_sem, qlt', hz, e1', e2', encN]) <;> fail) | rfl))) | (refine dCallP_pure (h32) rfl ?_ ?_ ?_; (focus (first | rfl | ((simp only [go_sem, qlt', hz, e1', e2', encN, AV.pureL, AV.pure, pureL_mapI, Bool.and_self]) <;> fail))); (focus (first | ((simp only [go_sem, qlt', hz, e1', e2', encN]) <;> fail) | rfl))) | refine vcP_safe (h32) rfl rfl (by (simp only [go_sem, qlt', hz, e1', e2', encN])) ?_ | refine dCallP_safe (h32) rfl rfl ?_) | (simp only [go_sem, qlt', hz, e1', e2', encN])))
    (first | exact wk_same (by (simp only [go_sem, Int.natCast_add, Int.natCast_one, Int.natCast_zero, Int.cast_ofNat_Int])) | exact wk_drop (by (simp only [go_sem, Int.natCast_add, Int.natCast_one, Int.natCast_zero, Int.cast_ofNat_Int])) (by (simp only [go_sem, Int.natCast_add, Int.natCast_one, Int.natCast_zero, Int.cast_ofNat_Int])) (by (simp only [go_sem, Int.natCast_add, Int.natCast_one, Int.natCast_zero, Int.cast_ofNat_Int])) (by (simp only [go_sem, Int.natCast_add, Int.natCast_one, Int.natCast_zero, Int.cast_ofNat_Int])) (by (simp only [go_sem, Int.natCast_add, Int.natCast_one, Int.natCast_zero, Int.cast_ofNat_Int])))
  have qge' : ¬ (q : Int) < K.length := by omega
  (repeat' (first | ((first | with_reducible refine vcG_split ?_ ?_ | with_reducible refine vcIf_split ?_ ?_ | with_reducible refine vcQ_split ?_ ?_ | with_reducible refine vcDG_split ?_ ?_) <;> intro hb <;> (try rw [hb]) <;> (try simp only [Bool.and_eq_true, Bool.or_eq_true, dtrue, dfalse, Bool.not_eq_true', Bool.not_eq_false', Bool.and_eq_false_iff, Bool.or_eq_false_iff, Bool.not_true, Bool.not_false] at hb) <;> (try simp only [within] at hb) <;> try (simp only [go_sem, qge'])) | refine And.intro (by (first | exact trivial | (simp only [I64]; omega) | omega)) ?_ | (with_reducible rw [vc_draw_eq]; first | refine CV.draw (id := 3) [(0, 0), (0, 0), (0, 0), (0, 0), (0, 0), (0, 0), (0, 1), (0, 1), (0, 1), (0, 1), (0, 1), (99, 0), (2, 2)] mixed rfl (by kernel_rfl) ?_ | refine CV.draw (id := 4) [(0, 1), (0, 0), (0, 0), (99, 0), (0, 1), (0, 1), (1, 1), (1, 1), (1, 1), (1, 1), (1, 1), (1, 1)] mixed rfl (by kernel_rfl) ?_ | refine CV.draw (id := 6) [(0, 0), (0, 0), (0, 0), (0, 0), (0, 0), (0, 0), (0, 0), (0, 0), (0, 0), (0, 0), (0, 0), (0, 0), (0, 0), (0, 0), (0, 0)] mixed rfl (by kernel_rfl) ?_ | refine CV.draw (id := 17) [(0, 0), (0, 0), (0, 0), (0, 0), (0, 0), (0, 0), (0, 0), (0, 0), (0, 1), (0, 0), (0, 0), (1, 1)] mixed rfl (by kernel_rfl) ?_) | (first | (refine vcP_pure (c18) rfl ?_ ?_ ?_; (focus (first | rfl | ((simp only [go_sem, qge', AV.pureL, AV.pure, pureL_mapI, Bool.and_self]) <;> fail))); (focus (first | ((simp only [go_sem, qge']) <;> fail) | rfl))) | (refine dCallP_pure (c18) rfl ?_ ?_ ?_; (focus (first | rfl | ((simp only [go_sem, qge', AV.pureL, AV.pure, pureL_mapI, Bool.and_self]) <;> fail))); (focus (first | ((simp only [go_sem, qge']) <;> fail) | rfl))) | refine vcP_safe (c18) rfl rfl (by (simp only [go_sem, qge'])) ?_ | refine dCallP_safe (c18) rfl rfl ?_) | (simp only [go_sem, qge'])))
end Go.Proofs.Ytllmohmgakdbdaa
