/- Contracts of functions of the given program, without a condition beyond those that each theorem states; they lead to the given statement. -/
import Derived.Test.YtjjlcjibhjmhmaaU06d
set_option linter.unusedSimpArgs false
set_option linter.unusedVariables false
set_option maxRecDepth 100000
namespace Go.Proofs.Ytjjlcjibhjmhmaa
open Go Go.Fl
open Classical
theorem rdy {s : List Job} : (valid s ∧ s.length ≤ 5) ∨ ¬ (valid s ∧ s.length ≤ 5) := Classical.em _
theorem inT_in {s : List Job} {o : List Int} {x : Int} (h : x ∈ o) : inT s o x = (if (jb s x).due < loA s o x then 2 else if hiA s o x ≤ (jb s x).due then 1 else 3) := by rw [inT, if_pos h]
theorem low_step {f : Int → Int} {m : Int} {n : Nat} {d : Int} (h : (∀ i : Nat, i < n → m ≤ f i) ∧ m ≤ d ∧ (n = 0 → m = d)) (hd : f n ≤ d) : (∀ i : Nat, i < n + 1 → min m (f n) ≤ f i) ∧ min m (f n) ≤ d ∧ (n + 1 = 0 → min m (f n) = d) := by
  obtain ⟨h1, h2, h3⟩ := h
  refine ⟨fun i hi => ?_, by omega, fun h => by omega⟩
  rcases Nat.lt_or_ge i n with q | q
  · have := h1 i q; omega
  · have : i = n := by omega
    subst this; omega
def hpJ (s : List Job) (x : Int) : Int := (jb s x).high + (jb s x).pour
def bhJ (s : List Job) (x : Int) : Int := (jb s x).beat + (jb s x).high
theorem least_each {s : List Job} (hv : valid s) {x : Int} (hx : within x 0 (s.length - 1)) : (jb s x).beat + (jb s x).high + (jb s x).pour ≤ leastM s := by
  obtain ⟨h1, h2, h3, h4⟩ := quick_spec (s := s)
  rw [← h3]
  refine done_each hv h1.on ((isOrd_perm h1 h2).mem_iff.2 (upI_mem.2 (by unfold within at hx; omega)))
theorem least_two {s : List Job} (hv : valid s) (h0 : s.length ≠ 0) : ∃ x y, within x 0 (s.length - 1) ∧ within y 0 (s.length - 1) ∧ sumJ (beatJ s) (upI s.length) + hpJ s x ≤ leastM s ∧ bhJ s y + sumJ (pourJ s) (upI s.length) ≤ leastM s := by
  obtain ⟨h1, h2, h3, h4⟩ := quick_spec (s := s)
  have hp := isOrd_perm h1 h2
  have hne : quickO s ≠ [] := fun h => h0 (by rw [← h2, h]; rfl)
  obtain ⟨A, x, e1⟩ : ∃ A x, quickO s = A ++ [x] := by
    rcases List.eq_nil_or_concat (quickO s) with e | ⟨A, y, e⟩
    · exact absurd e hne
    · exact ⟨A, y, by rw [e, List.concat_eq_append]⟩
  obtain ⟨y, B, e2⟩ : ∃ y B, quickO s = y :: B := by
    cases h : quickO s with
    | nil => exact absurd h hne
    | cons y B => exact ⟨y, B, rfl⟩
  refine ⟨x, y, h1.on x (by rw [e1]; simp), h1.on y (by rw [e2]; simp), ?_, ?_⟩
  · rw [← sumJ_perm hp, ← h3, e1]
    have := done_last (s := s) (A := A) (x := x)
    unfold hpJ; omega
  · rw [← sumJ_perm hp, ← h3, e2]
    have := done_first (s := s) (B := B) (x := y)
    unfold bhJ; omega
set_option maxHeartbeats 2000000 in
theorem c9 (s : List Job) : PC Try.prog 9 [hS s] (.bool true) := by
  have h17 := c17
  have h24 := c24 s
  rcases rdy (s := s) with hr | hr
  case inr =>
    rw [decide_eq_false hr] at h24
    refine PC.body Try.func9 (by kernel_rfl) rfl (by simp [Try.f9]) rfl ?_
    simp only [Try.f9]
    intro hlen
    simp only [go_sem, List.length_map, and_true, true_and] at hlen
    refine CV.run ?_
    (repeat' (first | ((first | with_reducible refine vcG_split ?_ ?_ | with_reducible refine vcIf_split ?_ ?_ | with_reducible refine vcQ_split ?_ ?_ | with_reducible refine vcDG_split ?_ ?_) <;> intro hb <;> (try rw [hb]) <;> (try simp only [Bool.and_eq_true, Bool.or_eq_true, dtrue, dfalse, Bool.not_eq_true', Bool.not_eq_false', Bool.and_eq_false_iff, Bool.or_eq_false_iff, Bool.not_true, Bool.not_false] at hb) <;> (try simp only [within] at hb) <;> try (simp only [go_sem])) | refine And.intro (by (first | exact trivial | (simp only [I64]; omega) | omega)) ?_ | (with_reducible rw [vc_draw_eq]; first | refine CV.draw (id := 13) [(0, 0), (0, 0), (0, 0), (0, 0), (0, 0), (0, 0), (0, 0), (0, 0), (0, 0), (0, 0), (0, 0), (0, 0), (0, 0), (0, 0), (0, 0), (0, 0), (0, 0), (0, 0)] mixed rfl (by kernel_rfl) ?_) | (first | (refine vcP_pure (h24) rfl ?_ ?_ ?_; (focus (first | rfl | ((simp only [go_sem, AV.pureL, AV.pure, pureL_mapI, Bool.and_self]) <;> fail))); (focus (first | ((simp only [go_sem]) <;> fail) | rfl))) | (refine dCallP_pure (h24) rfl ?_ ?_ ?_; (focus (first | rfl | ((simp only [go_sem, AV.pureL, AV.pure, pureL_mapI, Bool.and_self]) <;> fail))); (focus (first | ((simp only [go_sem]) <;> fail) | rfl))) | (refine dCallC_pure (h24) rfl ?_ ?_ ?_; (focus (first | rfl | ((simp only [go_sem, AV.pureL, AV.pure, pureL_mapI, Bool.and_self]) <;> fail))); (focus (first | ((simp only [go_sem]) <;> fail) | rfl))) | refine dCallC_safe (h24) rfl rfl (by (simp only [go_sem])) ?_ | refine vcP_safe (h24) rfl rfl (by (simp only [go_sem])) ?_ | refine dCallP_safe (h24) rfl rfl ?_ | (refine vcP_pure (h17) rfl ?_ ?_ ?_; (focus (first | rfl | ((simp only [go_sem, AV.pureL, AV.pure, pureL_mapI, Bool.and_self]) <;> fail))); (focus (first | ((simp only [go_sem]) <;> fail) | rfl))) | (refine dCallP_pure (h17) rfl ?_ ?_ ?_; (focus (first | rfl | ((simp only [go_sem, AV.pureL, AV.pure, pureL_mapI, Bool.and_self]) <;> fail))); (focus (first | ((simp only [go_sem]) <;> fail) | rfl))) | (refine dCallC_pure (h17) rfl ?_ ?_ ?_; (focus (first | rfl | ((simp only [go_sem, AV.pureL, AV.pure, pureL_mapI, Bool.and_self]) <;> fail))); (focus (first | ((simp only [go_sem]) <;> fail) | rfl))) | refine dCallC_safe (h17) rfl rfl (by (simp only [go_sem])) ?_ | refine vcP_safe (h17) rfl rfl (by (simp only [go_sem])) ?_ | refine dCallP_safe (h17) rfl rfl ?_) | (simp only [go_sem])))
  rw [decide_eq_true hr] at h24
  obtain ⟨hv, h5⟩ := hr
  have h53 := c53 s hv
  have lb := least_bounds hv
  refine PC.body Try.func9 (by kernel_rfl) rfl (by simp [Try.f9]) rfl ?_
  simp only [Try.f9]
  intro hlen
  simp only [go_sem, List.length_map, and_true, true_and] at hlen
  refine CV.run ?_
  (repeat' (first | ((first | with_reducible refine vcG_split ?_ ?_ | with_reducible refine vcIf_split ?_ ?_ | with_reducible refine vcQ_split ?_ ?_ | with_reducible refine vcDG_split ?_ ?_) <;> intro hb <;> (try rw [hb]) <;> (try simp only [Bool.and_eq_true, Bool.or_eq_true, dtrue, dfalse, Bool.not_eq_true', Bool.not_eq_false', Bool.and_eq_false_iff, Bool.or_eq_false_iff, Bool.not_true, Bool.not_false] at hb) <;> (try simp only [within] at hb) <;> try (simp only [go_sem])) | refine And.intro (by (first | exact trivial | (simp only [I64]; omega) | omega)) ?_ | (with_reducible rw [vc_draw_eq]; first | refine CV.draw (id := 13) [(0, 0), (0, 0), (0, 0), (0, 0), (0, 0), (0, 0), (0, 0), (0, 0), (0, 0), (0, 0), (0, 0), (0, 0), (0, 0), (0, 0), (0, 0), (0, 0), (0, 0), (0, 0)] mixed rfl (by kernel_rfl) ?_) | (first | (refine vcP_pure (h24) rfl ?_ ?_ ?_; (focus (first | rfl | ((simp only [go_sem, AV.pureL, AV.pure, pureL_mapI, Bool.and_self]) <;> fail))); (focus (first | ((simp only [go_sem]) <;> fail) | rfl))) | (refine dCallP_pure (h24) rfl ?_ ?_ ?_; (focus (first | rfl | ((simp only [go_sem, AV.pureL, AV.pure, pureL_mapI, Bool.and_self]) <;> fail))); (focus (first | ((simp only [go_sem]) <;> fail) | rfl))) | (refine dCallC_pure (h24) rfl ?_ ?_ ?_; (focus (first | rfl | ((simp only [go_sem, AV.pureL, AV.pure, pureL_mapI, Bool.and_self]) <;> fail))); (focus (first | ((simp only [go_sem]) <;> fail) | rfl))) | refine dCallC_safe (h24) rfl rfl (by (simp only [go_sem])) ?_ | refine vcP_safe (h24) rfl rfl (by (simp only [go_sem])) ?_ | refine dCallP_safe (h24) rfl rfl ?_ | (refine vcP_pure (h53) rfl ?_ ?_ ?_; (focus (first | rfl | ((simp only [go_sem, AV.pureL, AV.pure, pureL_mapI, Bool.and_self]) <;> fail))); (focus (first | ((simp only [go_sem]) <;> fail) | rfl))) | (refine dCallP_pure (h53) rfl ?_ ?_ ?_; (focus (first | rfl | ((simp only [go_sem, AV.pureL, AV.pure, pureL_mapI, Bool.and_self]) <;> fail))); (focus (first | ((simp only [go_sem]) <;> fail) | rfl))) | (refine dCallC_pure (h53) rfl ?_ ?_ ?_; (focus (first | rfl | ((simp only [go_sem, AV.pureL, AV.pure, pureL_mapI, Bool.and_self]) <;> fail))); (focus (first | ((simp only [go_sem]) <;> fail) | rfl))) | refine dCallC_safe (h53) rfl rfl (by (simp only [go_sem])) ?_ | refine vcP_safe (h53) rfl rfl (by (simp only [go_sem])) ?_ | refine dCallP_safe (h53) rfl rfl ?_) | (simp only [go_sem])))
  refine vc_fx (fun j (m : Int × Int) => ⟨[(8, .int .i64 j), (7, .int .i64 m.2), (6, .int .i64 m.1), (5, .int .i64 (sumJ (pourJ s) (upI j))), (4, .int .i64 (sumJ (beatJ s) (upI j))), (3, .int .i64 (leastM s)), (1, .lp 0 0), (2, .bool false)], [.box 24 (cS s) false]⟩) s.length (fun j m => ((∀ i : Nat, i < j → m.1 ≤ hpJ s i) ∧ m.1 ≤ 100000 ∧ (j = 0 → m.1 = 100000)) ∧ ((∀ i : Nat, i < j → m.2 ≤ bhJ s i) ∧ m.2 ≤ 100000 ∧ (j = 0 → m.2 = 100000)) ∧ 0 ≤ m.1 ∧ 0 ≤ m.2) (100000, 100000) (.base (by (first | exact wk_same (by (simp only [go_sem, Int.natCast_add, Int.natCast_one, Int.natCast_zero, Int.cast_ofNat_Int, upI_zero, sumJ])) | exact wk_drop (by (simp only [go_sem, Int.natCast_add, Int.natCast_one, Int.natCast_zero, Int.cast_ofNat_Int, upI_zero, sumJ])) (by (simp only [go_sem, Int.natCast_add, Int.natCast_one, Int.natCast_zero, Int.cast_ofNat_Int, upI_zero, sumJ])) (by (simp only [go_sem, Int.natCast_add, Int.natCast_one, Int.natCast_zero, Int.cast_ofNat_Int, upI_zero, sumJ])) (by (simp only [go_sem, Int.natCast_add, Int.natCast_one, Int.natCast_zero, Int.cast_ofNat_Int, upI_zero, sumJ])) (by (simp only [go_sem, Int.natCast_add, Int.natCast_one, Int.natCast_zero, Int.cast_ofNat_Int, upI_zero, sumJ]))))) (by simp) ?_
  intro j m hj hx
  obtain ⟨x1, x2, x3, x4⟩ := hx
  rcases Nat.lt_or_ge j s.length with hlt | hge
  · obtain ⟨a, ha⟩ := get_of hlt
    have hlt' : (j : Int) < s.length := by omega
    have hjb := jb_nat ha
    have hw : within (j : Int) 0 (s.length - 1) := by unfold within; omega
    have hok := hv.2 a (List.mem_of_getElem? ha)
    unfold okJob within at hok
    have he := least_each hv hw
    rw [hjb] at he
    have hne : ¬ leastM s < a.beat + a.high + a.pour := by omega
    have e1 := sumJ_upI (f := beatJ s) (n := j)
    have e2 := sumJ_upI (f := pourJ s) (n := j)
    have e3 : beatJ s j = a.beat := by unfold beatJ; rw [hjb]
    have e4 : pourJ s j = a.pour := by unfold pourJ; rw [hjb]
    have e5 : hpJ s j = a.high + a.pour := by unfold hpJ; rw [hjb]
    have e6 : bhJ s j = a.beat + a.high := by unfold bhJ; rw [hjb]
    have on : onJ s (upI j) := upI_on (by omega)
    have sb : ∀ n : Nat, n ≤ s.length → 0 ≤ sumJ (pourJ s) (upI n) ∧ sumJ (pourJ s) (upI n) ≤ 9 * n ∧ 0 ≤ sumJ (beatJ s) (upI n) ∧ sumJ (beatJ s) (upI n) ≤ 9 * n := by
      intro n hn
      induction n with
      | zero => simp [upI, sumJ]
      | succ n ih =>
        have := ih (by omega)
        have hj := hv.jb (x := (n : Int)) (by unfold within; omega)
        unfold okJob within at hj
        rw [sumJ_upI, sumJ_upI]
        unfold pourJ beatJ at *
        omega
    have b := sb j (by omega)
    rw [e3] at e1
    rw [e4] at e2
    (repeat' (first | ((first | with_reducible refine vcG_split ?_ ?_ | with_reducible refine vcIf_split ?_ ?_ | with_reducible refine vcQ_split ?_ ?_ | with_reducible refine vcDG_split ?_ ?_) <;> intro hb <;> (try rw [hb]) <;> (try simp only [Bool.and_eq_true, Bool.or_eq_true, dtrue, dfalse, Bool.not_eq_true', Bool.not_eq_false', Bool.and_eq_false_iff, Bool.or_eq_false_iff, Bool.not_true, Bool.not_false] at hb) <;> (try simp only [within] at hb) <;> try (simp only [go_sem, hlt', ha, hne, encJ])) | refine And.intro (by (first | exact trivial | (simp only [I64]; omega) | omega)) ?_ | (with_reducible rw [vc_draw_eq]; first | refine CV.draw (id := 13) [(0, 0), (0, 0), (0, 0), (0, 0), (0, 0), (0, 0), (0, 0), (0, 0), (0, 0), (0, 0), (0, 0), (0, 0), (0, 0), (0, 0), (0, 0), (0, 0), (0, 0), (0, 0)] mixed rfl (by kernel_rfl) ?_) | fail | (simp only [go_sem, hlt', ha, hne, encJ])))
    all_goals first
      | omega
      | skip
    refine ⟨(min m.1 (a.high + a.pour), min m.2 (a.beat + a.high)), hlt, .base (by (first | exact wk_same (by (simp only [go_sem, Int.natCast_add, Int.natCast_one, Int.natCast_zero, Int.cast_ofNat_Int, e1, e2])) | exact wk_drop (by (simp only [go_sem, Int.natCast_add, Int.natCast_one, Int.natCast_zero, Int.cast_ofNat_Int, e1, e2])) (by (simp only [go_sem, Int.natCast_add, Int.natCast_one, Int.natCast_zero, Int.cast_ofNat_Int, e1, e2])) (by (simp only [go_sem, Int.natCast_add, Int.natCast_one, Int.natCast_zero, Int.cast_ofNat_Int, e1, e2])) (by (simp only [go_sem, Int.natCast_add, Int.natCast_one, Int.natCast_zero, Int.cast_ofNat_Int, e1, e2])) (by (simp only [go_sem, Int.natCast_add, Int.natCast_one, Int.natCast_zero, Int.cast_ofNat_Int, e1, e2])))), ?_, ?_, ?_, ?_⟩
    · have q := low_step x1 (by rw [e5]; omega)
      rw [e5] at q
      exact ⟨q.1, q.2.1, fun h => h.elim⟩
    · have q := low_step x2 (by rw [e6]; omega)
      rw [e6] at q
      exact ⟨q.1, q.2.1, fun h => h.elim⟩
    · simp only; omega
    · simp only; omega
  · have hge' : ¬ (j : Int) < s.length := by omega
    have : j = s.length := by omega
    subst this
    rcases Nat.eq_zero_or_pos s.length with h0 | h0
    · have h0' : (s.length : Int) = 0 := by omega
      obtain ⟨q1, q2, q3, q4⟩ := quick_spec (s := s)
      have hz : leastM s = 0 := by
        rw [← q3, List.eq_nil_of_length_eq_zero (l := quickO s) (by omega)]; rfl
      have hn0 : ¬ (0 : Int) < 0 := by omega
      (repeat' (first | ((first | with_reducible refine vcG_split ?_ ?_ | with_reducible refine vcIf_split ?_ ?_ | with_reducible refine vcQ_split ?_ ?_ | with_reducible refine vcDG_split ?_ ?_) <;> intro hb <;> (try rw [hb]) <;> (try simp only [Bool.and_eq_true, Bool.or_eq_true, dtrue, dfalse, Bool.not_eq_true', Bool.not_eq_false', Bool.and_eq_false_iff, Bool.or_eq_false_iff, Bool.not_true, Bool.not_false] at hb) <;> (try simp only [within] at hb) <;> try (simp only [go_sem, hge', h0', hz, hn0])) | refine And.intro (by (first | exact trivial | (simp only [I64]; omega) | omega)) ?_ | (with_reducible rw [vc_draw_eq]; first | refine CV.draw (id := 13) [(0, 0), (0, 0), (0, 0), (0, 0), (0, 0), (0, 0), (0, 0), (0, 0), (0, 0), (0, 0), (0, 0), (0, 0), (0, 0), (0, 0), (0, 0), (0, 0), (0, 0), (0, 0)] mixed rfl (by kernel_rfl) ?_) | (first | (refine vcP_pure (h17) rfl ?_ ?_ ?_; (focus (first | rfl | ((simp only [go_sem, hge', h0', hz, hn0, AV.pureL, AV.pure, pureL_mapI, Bool.and_self]) <;> fail))); (focus (first | ((simp only [go_sem, hge', h0', hz, hn0]) <;> fail) | rfl))) | (refine dCallP_pure (h17) rfl ?_ ?_ ?_; (focus (first | rfl | ((simp only [go_sem, hge', h0', hz, hn0, AV.pureL, AV.pure, pureL_mapI, Bool.and_self]) <;> fail))); (focus (first | ((simp only [go_sem, hge', h0', hz, hn0]) <;> fail) | rfl))) | (refine dCallC_pure (h17) rfl ?_ ?_ ?_; (focus (first | rfl | ((simp only [go_sem, hge', h0', hz, hn0, AV.pureL, AV.pure, pureL_mapI, Bool.and_self]) <;> fail))); (focus (first | ((simp only [go_sem, hge', h0', hz, hn0]) <;> fail) | rfl))) | refine dCallC_safe (h17) rfl rfl (by (simp only [go_sem, hge', h0', hz, hn0])) ?_ | refine vcP_safe (h17) rfl rfl (by (simp only [go_sem, hge', h0', hz, hn0])) ?_ | refine dCallP_safe (h17) rfl rfl ?_) | (simp only [go_sem, hge', h0', hz, hn0])))
    · have h0' : ¬ (s.length : Int) = 0 := by omega
      obtain ⟨x, y, q1, q2, q3, q4⟩ := least_two hv (by omega)
      unfold within at q1 q2
      have g1 := x1.1 x.toNat (by omega)
      have g2 := x2.1 y.toNat (by omega)
      rw [show ((x.toNat : Nat) : Int) = x from by omega] at g1
      rw [show ((y.toNat : Nat) : Int) = y from by omega] at g2
      have c1 : sumJ (beatJ s) (upI s.length) + m.1 ≤ leastM s := by omega
      have c2 : m.2 + sumJ (pourJ s) (upI s.length) ≤ leastM s := by omega
      have b1 := (sum_pour_nonneg hv (l := upI s.length) (upI_on (Nat.le_refl _)))
      (repeat' (first | ((first | with_reducible refine vcG_split ?_ ?_ | with_reducible refine vcIf_split ?_ ?_ | with_reducible refine vcQ_split ?_ ?_ | with_reducible refine vcDG_split ?_ ?_) <;> intro hb <;> (try rw [hb]) <;> (try simp only [Bool.and_eq_true, Bool.or_eq_true, dtrue, dfalse, Bool.not_eq_true', Bool.not_eq_false', Bool.and_eq_false_iff, Bool.or_eq_false_iff, Bool.not_true, Bool.not_false] at hb) <;> (try simp only [within] at hb) <;> try (simp only [go_sem, hge', h0', c1, c2])) | refine And.intro (by (first | exact trivial | (simp only [I64]; omega) | omega)) ?_ | (with_reducible rw [vc_draw_eq]; first | refine CV.draw (id := 13) [(0, 0), (0, 0), (0, 0), (0, 0), (0, 0), (0, 0), (0, 0), (0, 0), (0, 0), (0, 0), (0, 0), (0, 0), (0, 0), (0, 0), (0, 0), (0, 0), (0, 0), (0, 0)] mixed rfl (by kernel_rfl) ?_) | (first | (refine vcP_pure (h17) rfl ?_ ?_ ?_; (focus (first | rfl | ((simp only [go_sem, hge', h0', c1, c2, AV.pureL, AV.pure, pureL_mapI, Bool.and_self]) <;> fail))); (focus (first | ((simp only [go_sem, hge', h0', c1, c2]) <;> fail) | rfl))) | (refine dCallP_pure (h17) rfl ?_ ?_ ?_; (focus (first | rfl | ((simp only [go_sem, hge', h0', c1, c2, AV.pureL, AV.pure, pureL_mapI, Bool.and_self]) <;> fail))); (focus (first | ((simp only [go_sem, hge', h0', c1, c2]) <;> fail) | rfl))) | (refine dCallC_pure (h17) rfl ?_ ?_ ?_; (focus (first | rfl | ((simp only [go_sem, hge', h0', c1, c2, AV.pureL, AV.pure, pureL_mapI, Bool.and_self]) <;> fail))); (focus (first | ((simp only [go_sem, hge', h0', c1, c2]) <;> fail) | rfl))) | refine dCallC_safe (h17) rfl rfl (by (simp only [go_sem, hge', h0', c1, c2])) ?_ | refine vcP_safe (h17) rfl rfl (by (simp only [go_sem, hge', h0', c1, c2])) ?_ | refine dCallP_safe (h17) rfl rfl ?_) | (simp only [go_sem, hge', h0', c1, c2])))
set_option maxHeartbeats 2000000 in
theorem c11 (s : List Job) : PC Try.prog 11 [hS s] (.bool true) := by
  have h17 := c17
  have h24 := c24 s
  rcases rdy (s := s) with hr | hr
  case inr =>
    rw [decide_eq_false hr] at h24
    refine PC.body Try.func11 (by kernel_rfl) rfl (by simp [Try.f11]) rfl ?_
    simp only [Try.f11]
    intro hlen
    simp only [go_sem, List.length_map, and_true, true_and] at hlen
    refine CV.run ?_
    (repeat' (first | ((first | with_reducible refine vcG_split ?_ ?_ | with_reducible refine vcIf_split ?_ ?_ | with_reducible refine vcQ_split ?_ ?_ | with_reducible refine vcDG_split ?_ ?_) <;> intro hb <;> (try rw [hb]) <;> (try simp only [Bool.and_eq_true, Bool.or_eq_true, dtrue, dfalse, Bool.not_eq_true', Bool.not_eq_false', Bool.and_eq_false_iff, Bool.or_eq_false_iff, Bool.not_true, Bool.not_false] at hb) <;> (try simp only [within] at hb) <;> try (simp only [go_sem])) | refine And.intro (by (first | exact trivial | (simp only [I64]; omega) | omega)) ?_ | (with_reducible rw [vc_draw_eq]; first | refine CV.draw (id := 8) [(0, 0), (0, 0), (0, 0), (0, 0), (0, 0), (0, 0), (0, 1), (0, 1), (0, 1), (0, 1), (0, 1), (0, 1), (0, 0), (0, 0), (1, 1), (0, 0)] mixed rfl (by kernel_rfl) ?_) | (first | (refine vcP_pure (h24) rfl ?_ ?_ ?_; (focus (first | rfl | ((simp only [go_sem, AV.pureL, AV.pure, pureL_mapI, Bool.and_self]) <;> fail))); (focus (first | ((simp only [go_sem]) <;> fail) | rfl))) | (refine dCallP_pure (h24) rfl ?_ ?_ ?_; (focus (first | rfl | ((simp only [go_sem, AV.pureL, AV.pure, pureL_mapI, Bool.and_self]) <;> fail))); (focus (first | ((simp only [go_sem]) <;> fail) | rfl))) | (refine dCallC_pure (h24) rfl ?_ ?_ ?_; (focus (first | rfl | ((simp only [go_sem, AV.pureL, AV.pure, pureL_mapI, Bool.and_self]) <;> fail))); (focus (first | ((simp only [go_sem]) <;> fail) | rfl))) | refine dCallC_safe (h24) rfl rfl (by (simp only [go_sem])) ?_ | refine vcP_safe (h24) rfl rfl (by (simp only [go_sem])) ?_ | refine dCallP_safe (h24) rfl rfl ?_ | (refine vcP_pure (h17) rfl ?_ ?_ ?_; (focus (first | rfl | ((simp only [go_sem, AV.pureL, AV.pure, pureL_mapI, Bool.and_self]) <;> fail))); (focus (first | ((simp only [go_sem]) <;> fail) | rfl))) | (refine dCallP_pure (h17) rfl ?_ ?_ ?_; (focus (first | rfl | ((simp only [go_sem, AV.pureL, AV.pure, pureL_mapI, Bool.and_self]) <;> fail))); (focus (first | ((simp only [go_sem]) <;> fail) | rfl))) | (refine dCallC_pure (h17) rfl ?_ ?_ ?_; (focus (first | rfl | ((simp only [go_sem, AV.pureL, AV.pure, pureL_mapI, Bool.and_self]) <;> fail))); (focus (first | ((simp only [go_sem]) <;> fail) | rfl))) | refine dCallC_safe (h17) rfl rfl (by (simp only [go_sem])) ?_ | refine vcP_safe (h17) rfl rfl (by (simp only [go_sem])) ?_ | refine dCallP_safe (h17) rfl rfl ?_) | (simp only [go_sem])))
  rw [decide_eq_true hr] at h24
  obtain ⟨hv, h5⟩ := hr
  have h53 := c53 s hv
  have lb := least_bounds hv
  have h53t := c53 (tnd s) (tnd_valid hv)
  rw [least_tnd hv] at h53t
  have l0 : 0 ≤ leastM s := by omega
  refine PC.body Try.func11 (by kernel_rfl) rfl (by simp [Try.f11]) rfl ?_
  simp only [Try.f11]
  intro hlen
  simp only [go_sem, List.length_map, and_true, true_and] at hlen
  refine CV.run ?_
  (repeat' (first | ((first | with_reducible refine vcG_split ?_ ?_ | with_reducible refine vcIf_split ?_ ?_ | with_reducible refine vcQ_split ?_ ?_ | with_reducible refine vcDG_split ?_ ?_) <;> intro hb <;> (try rw [hb]) <;> (try simp only [Bool.and_eq_true, Bool.or_eq_true, dtrue, dfalse, Bool.not_eq_true', Bool.not_eq_false', Bool.and_eq_false_iff, Bool.or_eq_false_iff, Bool.not_true, Bool.not_false] at hb) <;> (try simp only [within] at hb) <;> try (simp only [go_sem])) | refine And.intro (by (first | exact trivial | (simp only [I64]; omega) | omega)) ?_ | (with_reducible rw [vc_draw_eq]; first | refine CV.draw (id := 8) [(0, 0), (0, 0), (0, 0), (0, 0), (0, 0), (0, 0), (0, 1), (0, 1), (0, 1), (0, 1), (0, 1), (0, 1), (0, 0), (0, 0), (1, 1), (0, 0)] mixed rfl (by kernel_rfl) ?_) | (first | (refine vcP_pure (h24) rfl ?_ ?_ ?_; (focus (first | rfl | ((simp only [go_sem, AV.pureL, AV.pure, pureL_mapI, Bool.and_self]) <;> fail))); (focus (first | ((simp only [go_sem]) <;> fail) | rfl))) | (refine dCallP_pure (h24) rfl ?_ ?_ ?_; (focus (first | rfl | ((simp only [go_sem, AV.pureL, AV.pure, pureL_mapI, Bool.and_self]) <;> fail))); (focus (first | ((simp only [go_sem]) <;> fail) | rfl))) | (refine dCallC_pure (h24) rfl ?_ ?_ ?_; (focus (first | rfl | ((simp only [go_sem, AV.pureL, AV.pure, pureL_mapI, Bool.and_self]) <;> fail))); (focus (first | ((simp only [go_sem]) <;> fail) | rfl))) | refine dCallC_safe (h24) rfl rfl (by (simp only [go_sem])) ?_ | refine vcP_safe (h24) rfl rfl (by (simp only [go_sem])) ?_ | refine dCallP_safe (h24) rfl rfl ?_) | (simp only [go_sem])))
  refine vcP_new (h18 s (by omega)) rfl ?_
  (repeat' (first | ((first | with_reducible refine vcG_split ?_ ?_ | with_reducible refine vcIf_split ?_ ?_ | with_reducible refine vcQ_split ?_ ?_ | with_reducible refine vcDG_split ?_ ?_) <;> intro hb <;> (try rw [hb]) <;> (try simp only [Bool.and_eq_true, Bool.or_eq_true, dtrue, dfalse, Bool.not_eq_true', Bool.not_eq_false', Bool.and_eq_false_iff, Bool.or_eq_false_iff, Bool.not_true, Bool.not_false] at hb) <;> (try simp only [within] at hb) <;> try (simp only [go_sem, List.map_cons, List.map_nil, List.cons_append, List.nil_append])) | refine And.intro (by (first | exact trivial | (simp only [I64]; omega) | omega)) ?_ | (with_reducible rw [vc_draw_eq]; first | refine CV.draw (id := 8) [(0, 0), (0, 0), (0, 0), (0, 0), (0, 0), (0, 0), (0, 1), (0, 1), (0, 1), (0, 1), (0, 1), (0, 1), (0, 0), (0, 0), (1, 1), (0, 0)] mixed rfl (by kernel_rfl) ?_) | fail | (simp only [go_sem, List.map_cons, List.map_nil, List.cons_append, List.nil_append])))
  refine vc_fx (fun j (m : List Job) => ⟨[(4, .int .i64 j), (3, .lp 4 0), (1, .lp 0 0), (2, .bool false)], [.box 24 (cS s) false, .box 24 (cS s) false, .box 24 [.row 3 s.length] false, .row 42 6 (m.map encJ) false, .box 24 [.row 3 s.length] false]⟩) s.length (fun j m => m.length = s.length ∧ ∀ i : Nat, m[i]? = if i < j then (s[i]?).map swJ else s[i]?) s (.base (by (first | exact wk_same (by (simp only [go_sem, Int.natCast_add, Int.natCast_one, Int.natCast_zero, Int.cast_ofNat_Int])) | exact wk_drop (by (simp only [go_sem, Int.natCast_add, Int.natCast_one, Int.natCast_zero, Int.cast_ofNat_Int])) (by (simp only [go_sem, Int.natCast_add, Int.natCast_one, Int.natCast_zero, Int.cast_ofNat_Int])) (by (simp only [go_sem, Int.natCast_add, Int.natCast_one, Int.natCast_zero, Int.cast_ofNat_Int])) (by (simp only [go_sem, Int.natCast_add, Int.natCast_one, Int.natCast_zero, Int.cast_ofNat_Int])) (by (simp only [go_sem, Int.natCast_add, Int.natCast_one, Int.natCast_zero, Int.cast_ofNat_Int]))))) ⟨rfl, fun i => by simp⟩ ?_
  intro j m hj hx
  obtain ⟨x1, x2⟩ := hx
  rcases Nat.lt_or_ge j s.length with hlt | hge
  · obtain ⟨a, ha⟩ := get_of hlt
    have hlt' : (j : Int) < s.length := by omega
    have hm : m[j]? = some a := by rw [x2 j, if_neg (by omega), ha]
    have hset := setJ (m := m) (i := j) (j := swJ a)
    simp only [encJ, swJ] at hset
    (repeat' (first | ((first | with_reducible refine vcG_split ?_ ?_ | with_reducible refine vcIf_split ?_ ?_ | with_reducible refine vcQ_split ?_ ?_ | with_reducible refine vcDG_split ?_ ?_) <;> intro hb <;> (try rw [hb]) <;> (try simp only [Bool.and_eq_true, Bool.or_eq_true, dtrue, dfalse, Bool.not_eq_true', Bool.not_eq_false', Bool.and_eq_false_iff, Bool.or_eq_false_iff, Bool.not_true, Bool.not_false] at hb) <;> (try simp only [within] at hb) <;> try (simp only [go_sem, hlt', ha, hm, hset, x1, encJ, List.length_map])) | refine And.intro (by (first | exact trivial | (simp only [I64]; omega) | omega)) ?_ | (with_reducible rw [vc_draw_eq]; first | refine CV.draw (id := 8) [(0, 0), (0, 0), (0, 0), (0, 0), (0, 0), (0, 0), (0, 1), (0, 1), (0, 1), (0, 1), (0, 1), (0, 1), (0, 0), (0, 0), (1, 1), (0, 0)] mixed rfl (by kernel_rfl) ?_) | fail | (simp only [go_sem, hlt', ha, hm, hset, x1, encJ, List.length_map])))
    refine ⟨m.set j (swJ a), hlt, .base (by (first | exact wk_same (by (simp only [go_sem, Int.natCast_add, Int.natCast_one, Int.natCast_zero, Int.cast_ofNat_Int, swJ])) | exact wk_drop (by (simp only [go_sem, Int.natCast_add, Int.natCast_one, Int.natCast_zero, Int.cast_ofNat_Int, swJ])) (by (simp only [go_sem, Int.natCast_add, Int.natCast_one, Int.natCast_zero, Int.cast_ofNat_Int, swJ])) (by (simp only [go_sem, Int.natCast_add, Int.natCast_one, Int.natCast_zero, Int.cast_ofNat_Int, swJ])) (by (simp only [go_sem, Int.natCast_add, Int.natCast_one, Int.natCast_zero, Int.cast_ofNat_Int, swJ])) (by (simp only [go_sem, Int.natCast_add, Int.natCast_one, Int.natCast_zero, Int.cast_ofNat_Int, swJ])))), by simp [x1], fun i => ?_⟩
    rw [List.getElem?_set]
    by_cases e : j = i
    · subst e
      rw [if_pos rfl, if_pos (by omega), if_pos (by omega), ha]; rfl
    · rw [if_neg e, x2 i]
      by_cases h : i < j
      · rw [if_pos h, if_pos (by omega)]
      · rw [if_neg h, if_neg (by omega)]
  · have hge' : ¬ (j : Int) < s.length := by omega
    have hmo : m = tnd s := by
      apply List.ext_getElem?
      intro i
      rw [x2 i]
      unfold tnd
      rw [List.getElem?_map]
      by_cases h : i < j
      · rw [if_pos h]
      · rw [if_neg h, List.getElem?_eq_none (by omega)]; rfl
    subst hmo
    (repeat' (first | ((first | with_reducible refine vcG_split ?_ ?_ | with_reducible refine vcIf_split ?_ ?_ | with_reducible refine vcQ_split ?_ ?_ | with_reducible refine vcDG_split ?_ ?_) <;> intro hb <;> (try rw [hb]) <;> (try simp only [Bool.and_eq_true, Bool.or_eq_true, dtrue, dfalse, Bool.not_eq_true', Bool.not_eq_false', Bool.and_eq_false_iff, Bool.or_eq_false_iff, Bool.not_true, Bool.not_false] at hb) <;> (try simp only [within] at hb) <;> try (simp only [go_sem, hge', l0, List.length_map, tnd_len])) | refine And.intro (by (first | exact trivial | (simp only [I64]; omega) | omega)) ?_ | (with_reducible rw [vc_draw_eq]; first | refine CV.draw (id := 8) [(0, 0), (0, 0), (0, 0), (0, 0), (0, 0), (0, 0), (0, 1), (0, 1), (0, 1), (0, 1), (0, 1), (0, 1), (0, 0), (0, 0), (1, 1), (0, 0)] mixed rfl (by kernel_rfl) ?_) | (first | (refine vcP_pure (h53) rfl ?_ ?_ ?_; (focus (first | rfl | ((simp only [go_sem, hge', l0, List.length_map, tnd_len, AV.pureL, AV.pure, pureL_mapI, Bool.and_self]) <;> fail))); (focus (first | ((simp only [go_sem, hge', l0, List.length_map, tnd_len]) <;> fail) | rfl))) | (refine dCallP_pure (h53) rfl ?_ ?_ ?_; (focus (first | rfl | ((simp only [go_sem, hge', l0, List.length_map, tnd_len, AV.pureL, AV.pure, pureL_mapI, Bool.and_self]) <;> fail))); (focus (first | ((simp only [go_sem, hge', l0, List.length_map, tnd_len]) <;> fail) | rfl))) | (refine dCallC_pure (h53) rfl ?_ ?_ ?_; (focus (first | rfl | ((simp only [go_sem, hge', l0, List.length_map, tnd_len, AV.pureL, AV.pure, pureL_mapI, Bool.and_self]) <;> fail))); (focus (first | ((simp only [go_sem, hge', l0, List.length_map, tnd_len]) <;> fail) | rfl))) | refine dCallC_safe (h53) rfl rfl (by (simp only [go_sem, hge', l0, List.length_map, tnd_len])) ?_ | refine vcP_safe (h53) rfl rfl (by (simp only [go_sem, hge', l0, List.length_map, tnd_len])) ?_ | refine dCallP_safe (h53) rfl rfl ?_ | (refine vcP_pure (h53t) rfl ?_ ?_ ?_; (focus (first | rfl | ((simp only [go_sem, hge', l0, List.length_map, tnd_len, AV.pureL, AV.pure, pureL_mapI, Bool.and_self]) <;> fail))); (focus (first | ((simp only [go_sem, hge', l0, List.length_map, tnd_len]) <;> fail) | rfl))) | (refine dCallP_pure (h53t) rfl ?_ ?_ ?_; (focus (first | rfl | ((simp only [go_sem, hge', l0, List.length_map, tnd_len, AV.pureL, AV.pure, pureL_mapI, Bool.and_self]) <;> fail))); (focus (first | ((simp only [go_sem, hge', l0, List.length_map, tnd_len]) <;> fail) | rfl))) | (refine dCallC_pure (h53t) rfl ?_ ?_ ?_; (focus (first | rfl | ((simp only [go_sem, hge', l0, List.length_map, tnd_len, AV.pureL, AV.pure, pureL_mapI, Bool.and_self]) <;> fail))); (focus (first | ((simp only [go_sem, hge', l0, List.length_map, tnd_len]) <;> fail) | rfl))) | refine dCallC_safe (h53t) rfl rfl (by (simp only [go_sem, hge', l0, List.length_map, tnd_len])) ?_ | refine vcP_safe (h53t) rfl rfl (by (simp only [go_sem, hge', l0, List.length_map, tnd_len])) ?_ | refine dCallP_safe (h53t) rfl rfl ?_ | (refine vcP_pure (h17) rfl ?_ ?_ ?_; (focus (first | rfl | ((simp only [go_sem, hge', l0, List.length_map, tnd_len, AV.pureL, AV.pure, pureL_mapI, Bool.and_self]) <;> fail))); (focus (first | ((simp only [go_sem, hge', l0, List.length_map, tnd_len]) <;> fail) | rfl))) | (refine dCallP_pure (h17) rfl ?_ ?_ ?_; (focus (first | rfl | ((simp only [go_sem, hge', l0, List.length_map, tnd_len, AV.pureL, AV.pure, pureL_mapI, Bool.and_self]) <;> fail))); (focus (first | ((simp only [go_sem, hge', l0, List.length_map, tnd_len]) <;> fail) | rfl))) | (refine dCallC_pure (h17) rfl ?_ ?_ ?_; (focus (first | rfl | ((simp only [go_sem, hge', l0, List.length_map, tnd_len, AV.pureL, AV.pure, pureL_mapI, Bool.and_self]) <;> fail))); (focus (first | ((simp only [go_sem, hge', l0, List.length_map, tnd_len]) <;> fail) | rfl))) | refine dCallC_safe (h17) rfl rfl (by (simp only [go_sem, hge', l0, List.length_map, tnd_len])) ?_ | refine vcP_safe (h17) rfl rfl (by (simp only [go_sem, hge', l0, List.length_map, tnd_len])) ?_ | refine dCallP_safe (h17) rfl rfl ?_) | (simp only [go_sem, hge', l0, List.length_map, tnd_len])))
end Go.Proofs.Ytjjlcjibhjmhmaa

