/- Contracts of functions of the given program, without a condition beyond those that each theorem states; they lead to the given statement. -/
import Derived.Test.YtjjlcjibhjmhmaaU06b
set_option linter.unusedSimpArgs false
set_option linter.unusedVariables false
set_option maxRecDepth 100000
namespace Go.Proofs.Ytjjlcjibhjmhmaa
open Go Go.Fl
open Classical
theorem c26 (s : List Job) (hv : valid s) : PC Try.prog 26 [hS s] (.int .i64 (bestM s)) := by
  have h48 := c48 s
  rw [check_yes hv, if_pos rfl] at h48
  change PC Try.prog 48 [hS s] (.tup [.int .i64 (bestM s), .int .i64 0]) at h48
  have hb := best_bounds hv
  have h1 : ¬ bestM s < 0 := by omega
  have h2 : ¬ 100000 < bestM s := by omega
  refine PC.body Try.func26 (by kernel_rfl) rfl (by simp [Try.f26]) rfl ?_
  simp only [Try.f26]
  intro hlen
  simp only [go_sem, List.length_map, and_true, true_and] at hlen
  refine CV.run ?_
  (repeat' (first | ((first | with_reducible refine vcG_split ?_ ?_ | with_reducible refine vcIf_split ?_ ?_ | with_reducible refine vcQ_split ?_ ?_ | with_reducible refine vcDG_split ?_ ?_) <;> intro hb <;> (try rw [hb]) <;> (try simp only [Bool.and_eq_true, Bool.or_eq_true, dtrue, dfalse, Bool.not_eq_true', Bool.not_eq_false', Bool.and_eq_false_iff, Bool.or_eq_false_iff, Bool.not_true, Bool.not_false] at hb) <;> (try simp only [within] at hb) <;> try (simp only [go_sem, h1, h2])) | refine And.intro (by (first | exact trivial | (simp only [I64]; omega) | omega)) ?_ | (first | (refine vcP_pure (h48) rfl ?_ ?_ ?_; (focus (first | rfl | ((simp only [go_sem, h1, h2, AV.pureL, AV.pure, pureL_mapI, Bool.and_self]) <;> fail))); (focus (first | ((simp only [go_sem, h1, h2]) <;> fail) | rfl))) | (refine dCallP_pure (h48) rfl ?_ ?_ ?_; (focus (first | rfl | ((simp only [go_sem, h1, h2, AV.pureL, AV.pure, pureL_mapI, Bool.and_self]) <;> fail))); (focus (first | ((simp only [go_sem, h1, h2]) <;> fail) | rfl))) | (refine dCallC_pure (h48) rfl ?_ ?_ ?_; (focus (first | rfl | ((simp only [go_sem, h1, h2, AV.pureL, AV.pure, pureL_mapI, Bool.and_self]) <;> fail))); (focus (first | ((simp only [go_sem, h1, h2]) <;> fail) | rfl))) | refine dCallC_safe (h48) rfl rfl (by (simp only [go_sem, h1, h2])) ?_ | refine vcP_safe (h48) rfl rfl (by (simp only [go_sem, h1, h2])) ?_ | refine dCallP_safe (h48) rfl rfl ?_) | (simp only [go_sem, h1, h2])))
theorem c53 (s : List Job) (hv : valid s) : PC Try.prog 53 [hS s] (.int .i64 (leastM s)) := by
  have h55 := c55 s
  rw [check_yes hv, if_pos rfl] at h55
  have hb := least_bounds hv
  have h1 : ¬ leastM s < 0 := by omega
  have h2 : ¬ 100000 < leastM s := by omega
  refine PC.body Try.func53 (by kernel_rfl) rfl (by simp [Try.f53]) rfl ?_
  simp only [Try.f53]
  intro hlen
  simp only [go_sem, List.length_map, and_true, true_and] at hlen
  refine CV.run ?_
  (repeat' (first | ((first | with_reducible refine vcG_split ?_ ?_ | with_reducible refine vcIf_split ?_ ?_ | with_reducible refine vcQ_split ?_ ?_ | with_reducible refine vcDG_split ?_ ?_) <;> intro hb <;> (try rw [hb]) <;> (try simp only [Bool.and_eq_true, Bool.or_eq_true, dtrue, dfalse, Bool.not_eq_true', Bool.not_eq_false', Bool.and_eq_false_iff, Bool.or_eq_false_iff, Bool.not_true, Bool.not_false] at hb) <;> (try simp only [within] at hb) <;> try (simp only [go_sem, h1, h2])) | refine And.intro (by (first | exact trivial | (simp only [I64]; omega) | omega)) ?_ | (first | (refine vcP_pure (h55) rfl ?_ ?_ ?_; (focus (first | rfl | ((simp only [go_sem, h1, h2, AV.pureL, AV.pure, pureL_mapI, Bool.and_self]) <;> fail))); (focus (first | ((simp only [go_sem, h1, h2]) <;> fail) | rfl))) | (refine dCallP_pure (h55) rfl ?_ ?_ ?_; (focus (first | rfl | ((simp only [go_sem, h1, h2, AV.pureL, AV.pure, pureL_mapI, Bool.and_self]) <;> fail))); (focus (first | ((simp only [go_sem, h1, h2]) <;> fail) | rfl))) | (refine dCallC_pure (h55) rfl ?_ ?_ ?_; (focus (first | rfl | ((simp only [go_sem, h1, h2, AV.pureL, AV.pure, pureL_mapI, Bool.and_self]) <;> fail))); (focus (first | ((simp only [go_sem, h1, h2]) <;> fail) | rfl))) | refine dCallC_safe (h55) rfl rfl (by (simp only [go_sem, h1, h2])) ?_ | refine vcP_safe (h55) rfl rfl (by (simp only [go_sem, h1, h2])) ?_ | refine dCallP_safe (h55) rfl rfl ?_) | (simp only [go_sem, h1, h2])))
theorem c63 (s : List Job) (hv : valid s) : PC Try.prog 63 [hS s] (.int .i64 (mostM s)) := by
  have h51 := c51 s
  rw [check_yes hv, if_pos rfl] at h51
  change PC Try.prog 51 [hS s] (.tup [.int .i64 (mostM s), .int .i64 0]) at h51
  have hb := most_bounds (s := s)
  have h1 : ¬ mostM s < 0 := by omega
  have h2 : ¬ (s.length : Int) < mostM s := by omega
  refine PC.body Try.func63 (by kernel_rfl) rfl (by simp [Try.f63]) rfl ?_
  simp only [Try.f63]
  intro hlen
  simp only [go_sem, List.length_map, and_true, true_and] at hlen
  refine CV.run ?_
  (repeat' (first | ((first | with_reducible refine vcG_split ?_ ?_ | with_reducible refine vcIf_split ?_ ?_ | with_reducible refine vcQ_split ?_ ?_ | with_reducible refine vcDG_split ?_ ?_) <;> intro hb <;> (try rw [hb]) <;> (try simp only [Bool.and_eq_true, Bool.or_eq_true, dtrue, dfalse, Bool.not_eq_true', Bool.not_eq_false', Bool.and_eq_false_iff, Bool.or_eq_false_iff, Bool.not_true, Bool.not_false] at hb) <;> (try simp only [within] at hb) <;> try (simp only [go_sem, h1, h2])) | refine And.intro (by (first | exact trivial | (simp only [I64]; omega) | omega)) ?_ | (first | (refine vcP_pure (h51) rfl ?_ ?_ ?_; (focus (first | rfl | ((simp only [go_sem, h1, h2, AV.pureL, AV.pure, pureL_mapI, Bool.and_self]) <;> fail))); (focus (first | ((simp only [go_sem, h1, h2]) <;> fail) | rfl))) | (refine dCallP_pure (h51) rfl ?_ ?_ ?_; (focus (first | rfl | ((simp only [go_sem, h1, h2, AV.pureL, AV.pure, pureL_mapI, Bool.and_self]) <;> fail))); (focus (first | ((simp only [go_sem, h1, h2]) <;> fail) | rfl))) | (refine dCallC_pure (h51) rfl ?_ ?_ ?_; (focus (first | rfl | ((simp only [go_sem, h1, h2, AV.pureL, AV.pure, pureL_mapI, Bool.and_self]) <;> fail))); (focus (first | ((simp only [go_sem, h1, h2]) <;> fail) | rfl))) | refine dCallC_safe (h51) rfl rfl (by (simp only [go_sem, h1, h2])) ?_ | refine vcP_safe (h51) rfl rfl (by (simp only [go_sem, h1, h2])) ?_ | refine dCallP_safe (h51) rfl rfl ?_) | (simp only [go_sem, h1, h2])))
theorem c28 (s : List Job) (o : List Int) : PC Try.prog 28 [hS s, lN o] (.bool (decide (o.length ≤ 40 ∧ isOrd s.length o))) := by
  by_cases h : o.length ≤ 40
  · have h' : (o.length : Int) ≤ 40 := by omega
    have h78 := c78 s o (by omega)
    refine PC.body Try.func28 (by kernel_rfl) rfl (by simp [Try.f28]) rfl ?_
    simp only [Try.f28]
    intro hlen
    simp only [go_sem, List.length_map, and_true, true_and] at hlen
    refine CV.run ?_
    (repeat' (first | ((first | with_reducible refine vcG_split ?_ ?_ | with_reducible refine vcIf_split ?_ ?_ | with_reducible refine vcQ_split ?_ ?_ | with_reducible refine vcDG_split ?_ ?_) <;> intro hb <;> (try rw [hb]) <;> (try simp only [Bool.and_eq_true, Bool.or_eq_true, dtrue, dfalse, Bool.not_eq_true', Bool.not_eq_false', Bool.and_eq_false_iff, Bool.or_eq_false_iff, Bool.not_true, Bool.not_false] at hb) <;> (try simp only [within] at hb) <;> try (simp only [go_sem, h', List.length_map])) | refine And.intro (by (first | exact trivial | (simp only [I64]; omega) | omega)) ?_ | (first | (refine vcP_pure (h78) rfl ?_ ?_ ?_; (focus (first | rfl | ((simp only [go_sem, h', List.length_map, AV.pureL, AV.pure, pureL_mapI, Bool.and_self]) <;> fail))); (focus (first | ((simp only [go_sem, h', List.length_map]) <;> fail) | rfl))) | (refine dCallP_pure (h78) rfl ?_ ?_ ?_; (focus (first | rfl | ((simp only [go_sem, h', List.length_map, AV.pureL, AV.pure, pureL_mapI, Bool.and_self]) <;> fail))); (focus (first | ((simp only [go_sem, h', List.length_map]) <;> fail) | rfl))) | (refine dCallC_pure (h78) rfl ?_ ?_ ?_; (focus (first | rfl | ((simp only [go_sem, h', List.length_map, AV.pureL, AV.pure, pureL_mapI, Bool.and_self]) <;> fail))); (focus (first | ((simp only [go_sem, h', List.length_map]) <;> fail) | rfl))) | refine dCallC_safe (h78) rfl rfl (by (simp only [go_sem, h', List.length_map])) ?_ | refine vcP_safe (h78) rfl rfl (by (simp only [go_sem, h', List.length_map])) ?_ | refine dCallP_safe (h78) rfl rfl ?_) | (simp only [go_sem, h', List.length_map])))
    exact bd ⟨fun q => ⟨h, q⟩, fun q => q.2⟩
  · have h' : ¬ (o.length : Int) ≤ 40 := by omega
    refine PC.body Try.func28 (by kernel_rfl) rfl (by simp [Try.f28]) rfl ?_
    simp only [Try.f28]
    intro hlen
    simp only [go_sem, List.length_map, and_true, true_and] at hlen
    refine CV.run ?_
    (repeat' (first | ((first | with_reducible refine vcG_split ?_ ?_ | with_reducible refine vcIf_split ?_ ?_ | with_reducible refine vcQ_split ?_ ?_ | with_reducible refine vcDG_split ?_ ?_) <;> intro hb <;> (try rw [hb]) <;> (try simp only [Bool.and_eq_true, Bool.or_eq_true, dtrue, dfalse, Bool.not_eq_true', Bool.not_eq_false', Bool.and_eq_false_iff, Bool.or_eq_false_iff, Bool.not_true, Bool.not_false] at hb) <;> (try simp only [within] at hb) <;> try (simp only [go_sem, h', List.length_map])) | refine And.intro (by (first | exact trivial | (simp only [I64]; omega) | omega)) ?_ | fail | (simp only [go_sem, h', List.length_map])))
    exact bf fun q => h q.1
theorem wor_lohi {s : List Job} (hv : valid s) {o : List Int} (ho : onJ s o) : ∀ k : Nat, k ≤ o.length → worT s (hiD s) o k ≤ worT s (loD s) o k
  | 0, _ => Int.le_refl _
  | k + 1, hk => by
    have ih := wor_lohi hv ho k (by omega)
    obtain ⟨x, hx⟩ := get_of (l := o) (j := k) (by omega)
    have hj := hv.jb (ho x (List.mem_of_getElem? hx))
    unfold okJob within at hj
    have hlh := lo_le_hi hv (l := o.take (k + 1)) fun y hy => ho y (List.mem_of_mem_take hy)
    by_cases c1 : (fin s (hiD s) (o.take (k + 1))).2 ≤ (jb s x).due
    · rw [worT_yes hx c1, worT_yes hx (Int.le_trans hlh c1)]; omega
    · rw [worT_no hx c1]
      by_cases c2 : (fin s (loD s) (o.take (k + 1))).2 ≤ (jb s x).due
      · rw [worT_yes hx c2]; omega
      · rw [worT_no hx c2]; exact ih
theorem isOrd_i64 {s : List Job} (hv : valid s) {o : List Int} (ho : isOrd s.length o) : ∀ n, n ∈ o → I64 n := fun n hn => by
  have := ho.on n hn
  have := hv.1
  unfold within at *
  simp only [I64]; omega
set_option maxHeartbeats 1000000 in
theorem c33 (s : List Job) (o : List Int) (hv : valid s) (ho : isOrd s.length o) : PC Try.prog 33 [hS s, lN o] (.tup [.agg [.int .i64 (wor s (hiD s) o), .int .i64 (wor s (loD s) o)], .bool true]) := by
  have hl := isOrd_le ho
  have h6 := hv.1
  have h45 := c45 s o (by omega) (isOrd_i64 hv ho)
  rw [show rWorth s o = ((wor s (hiD s) o, wor s (loD s) o), 0) from by rw [rWorth, if_pos (opn_is hv ho)]] at h45
  have b1 := wor_nonneg hv (dr := hiD s) ho.on
  have b2 := wor_nonneg hv (dr := loD s) ho.on
  have b3 := wor_lohi hv ho.on o.length (Nat.le_refl _)
  have h1 : 0 ≤ wor s (hiD s) o := by omega
  have h2 : wor s (hiD s) o ≤ wor s (loD s) o := b3
  have h3 : wor s (loD s) o ≤ 100000 := by omega
  refine PC.body Try.func33 (by kernel_rfl) rfl (by simp [Try.f33]) rfl ?_
  simp only [Try.f33]
  intro hlen
  simp only [go_sem, List.length_map, and_true, true_and] at hlen
  refine CV.run ?_
  (repeat' (first | ((first | with_reducible refine vcG_split ?_ ?_ | with_reducible refine vcIf_split ?_ ?_ | with_reducible refine vcQ_split ?_ ?_ | with_reducible refine vcDG_split ?_ ?_) <;> intro hb <;> (try rw [hb]) <;> (try simp only [Bool.and_eq_true, Bool.or_eq_true, dtrue, dfalse, Bool.not_eq_true', Bool.not_eq_false', Bool.and_eq_false_iff, Bool.or_eq_false_iff, Bool.not_true, Bool.not_false] at hb) <;> (try simp only [within] at hb) <;> try (simp only [go_sem, h1, h2, h3, List.length_map, List.nil_append, true_or])) | refine And.intro (by (first | exact trivial | (simp only [I64]; omega) | omega)) ?_ | (with_reducible rw [vc_draw_eq]; first | refine CV.draw (id := 1) [(0, 1), (0, 0), (0, 0), (0, 0), (1, 1), (1, 1), (1, 1), (1, 2), (0, 1), (0, 0), (2, 2)] mixed rfl (by kernel_rfl) ?_ | refine CV.draw (id := 2) [(0, 0), (0, 0), (0, 0), (0, 0), (0, 0), (0, 0), (0, 0), (0, 0), (0, 0), (0, 0), (0, 0), (0, 0), (0, 0), (0, 0), (0, 0), (0, 0), (0, 1), (0, 1), (0, 1), (0, 1), (0, 0), (1, 1)] mixed rfl (by kernel_rfl) ?_) | (first | (refine vcP_pure (h45) rfl ?_ ?_ ?_; (focus (first | rfl | ((simp only [go_sem, h1, h2, h3, List.length_map, List.nil_append, true_or, AV.pureL, AV.pure, pureL_mapI, Bool.and_self]) <;> fail))); (focus (first | ((simp only [go_sem, h1, h2, h3, List.length_map, List.nil_append, true_or]) <;> fail) | rfl))) | (refine dCallP_pure (h45) rfl ?_ ?_ ?_; (focus (first | rfl | ((simp only [go_sem, h1, h2, h3, List.length_map, List.nil_append, true_or, AV.pureL, AV.pure, pureL_mapI, Bool.and_self]) <;> fail))); (focus (first | ((simp only [go_sem, h1, h2, h3, List.length_map, List.nil_append, true_or]) <;> fail) | rfl))) | (refine dCallC_pure (h45) rfl ?_ ?_ ?_; (focus (first | rfl | ((simp only [go_sem, h1, h2, h3, List.length_map, List.nil_append, true_or, AV.pureL, AV.pure, pureL_mapI, Bool.and_self]) <;> fail))); (focus (first | ((simp only [go_sem, h1, h2, h3, List.length_map, List.nil_append, true_or]) <;> fail) | rfl))) | refine dCallC_safe (h45) rfl rfl (by (simp only [go_sem, h1, h2, h3, List.length_map, List.nil_append, true_or])) ?_ | refine vcP_safe (h45) rfl rfl (by (simp only [go_sem, h1, h2, h3, List.length_map, List.nil_append, true_or])) ?_ | refine dCallP_safe (h45) rfl rfl ?_) | (simp only [go_sem, h1, h2, h3, List.length_map, List.nil_append, true_or])))
def okTruth (s : List Job) (d : List Int) : Prop := d.length = s.length ∧ ∀ i, within i 0 (s.length - 1) → within (gv d i) (jb s i).low (jb s i).high
set_option maxHeartbeats 1000000 in
theorem c32 (s : List Job) (d : List Int) : PC Try.prog 32 [hS s, lN d] (.bool (decide (okTruth s d))) := by
  by_cases hl : d.length = s.length
  · have hl' : (d.length : Int) = s.length := by omega
    refine PC.body Try.func32 (by kernel_rfl) rfl (by simp [Try.f32]) rfl ?_
    simp only [Try.f32]
    intro hlen
    simp only [go_sem, List.length_map, and_true, true_and] at hlen
    refine CV.run ?_
    (repeat' (first | ((first | with_reducible refine vcG_split ?_ ?_ | with_reducible refine vcIf_split ?_ ?_ | with_reducible refine vcQ_split ?_ ?_ | with_reducible refine vcDG_split ?_ ?_) <;> intro hb <;> (try rw [hb]) <;> (try simp only [Bool.and_eq_true, Bool.or_eq_true, dtrue, dfalse, Bool.not_eq_true', Bool.not_eq_false', Bool.and_eq_false_iff, Bool.or_eq_false_iff, Bool.not_true, Bool.not_false] at hb) <;> (try simp only [within] at hb) <;> try (simp only [go_sem, hl', List.length_map])) | refine And.intro (by (first | exact trivial | (simp only [I64]; omega) | omega)) ?_ | (with_reducible rw [vc_draw_eq]; first | refine CV.draw (id := 7) [(0, 0), (0, 0), (0, 0), (0, 0), (0, 0), (0, 0), (0, 0), (0, 0), (0, 0), (0, 0)] mixed rfl (by kernel_rfl) ?_) | fail | (simp only [go_sem, hl', List.length_map])))
    refine vc_for (fun j => ⟨[(5, .int .i64 j), (1, lN d), (2, .lp 0 0), (4, .bool false)], [.box 24 (cS s) false]⟩) d.length (fun j => ∀ i : Nat, i < j → within (gv d i) (jb s i).low (jb s i).high) (by (first | exact wk_same (by (simp only [go_sem, Int.natCast_add, Int.natCast_one, Int.natCast_zero, Int.cast_ofNat_Int])) | exact wk_drop (by (simp only [go_sem, Int.natCast_add, Int.natCast_one, Int.natCast_zero, Int.cast_ofNat_Int])) (by (simp only [go_sem, Int.natCast_add, Int.natCast_one, Int.natCast_zero, Int.cast_ofNat_Int])) (by (simp only [go_sem, Int.natCast_add, Int.natCast_one, Int.natCast_zero, Int.cast_ofNat_Int])) (by (simp only [go_sem, Int.natCast_add, Int.natCast_one, Int.natCast_zero, Int.cast_ofNat_Int])) (by (simp only [go_sem, Int.natCast_add, Int.natCast_one, Int.natCast_zero, Int.cast_ofNat_Int])))) (fun i h => by omega) ?_
    intro j hj hx
    rcases Nat.lt_or_ge j d.length with hlt | hge
    · obtain ⟨x, hx1⟩ := get_of hlt
      obtain ⟨m, hm⟩ := get_of (l := s) (j := j) (by omega)
      have hlt' : (j : Int) < d.length := by omega
      have hlt2 : (j : Int) < s.length := by omega
      have e1 := gv_nat hx1
      have e2 := jb_nat hm
      have h29 := c29 x m.low m.high
      by_cases hw : within x m.low m.high
      · rw [decide_eq_true hw] at h29
        (repeat' (first | ((first | with_reducible refine vcG_split ?_ ?_ | with_reducible refine vcIf_split ?_ ?_ | with_reducible refine vcQ_split ?_ ?_ | with_reducible refine vcDG_split ?_ ?_) <;> intro hb <;> (try rw [hb]) <;> (try simp only [Bool.and_eq_true, Bool.or_eq_true, dtrue, dfalse, Bool.not_eq_true', Bool.not_eq_false', Bool.and_eq_false_iff, Bool.or_eq_false_iff, Bool.not_true, Bool.not_false] at hb) <;> (try simp only [within] at hb) <;> try (simp only [go_sem, hlt', hlt2, hx1, hm, encJ, encN, List.length_map])) | refine And.intro (by (first | exact trivial | (simp only [I64]; omega) | omega)) ?_ | (with_reducible rw [vc_draw_eq]; first | refine CV.draw (id := 7) [(0, 0), (0, 0), (0, 0), (0, 0), (0, 0), (0, 0), (0, 0), (0, 0), (0, 0), (0, 0)] mixed rfl (by kernel_rfl) ?_) | (first | (refine vcP_pure (h29) rfl ?_ ?_ ?_; (focus (first | rfl | ((simp only [go_sem, hlt', hlt2, hx1, hm, encJ, encN, List.length_map, AV.pureL, AV.pure, pureL_mapI, Bool.and_self]) <;> fail))); (focus (first | ((simp only [go_sem, hlt', hlt2, hx1, hm, encJ, encN, List.length_map]) <;> fail) | rfl))) | (refine dCallP_pure (h29) rfl ?_ ?_ ?_; (focus (first | rfl | ((simp only [go_sem, hlt', hlt2, hx1, hm, encJ, encN, List.length_map, AV.pureL, AV.pure, pureL_mapI, Bool.and_self]) <;> fail))); (focus (first | ((simp only [go_sem, hlt', hlt2, hx1, hm, encJ, encN, List.length_map]) <;> fail) | rfl))) | (refine dCallC_pure (h29) rfl ?_ ?_ ?_; (focus (first | rfl | ((simp only [go_sem, hlt', hlt2, hx1, hm, encJ, encN, List.length_map, AV.pureL, AV.pure, pureL_mapI, Bool.and_self]) <;> fail))); (focus (first | ((simp only [go_sem, hlt', hlt2, hx1, hm, encJ, encN, List.length_map]) <;> fail) | rfl))) | refine dCallC_safe (h29) rfl rfl (by (simp only [go_sem, hlt', hlt2, hx1, hm, encJ, encN, List.length_map])) ?_ | refine vcP_safe (h29) rfl rfl (by (simp only [go_sem, hlt', hlt2, hx1, hm, encJ, encN, List.length_map])) ?_ | refine dCallP_safe (h29) rfl rfl ?_) | (simp only [go_sem, hlt', hlt2, hx1, hm, encJ, encN, List.length_map])))
        all_goals first
          | omega
          | (refine ⟨by (first | exact wk_same (by (simp only [go_sem, Int.natCast_add, Int.natCast_one, Int.natCast_zero, Int.cast_ofNat_Int])) | exact wk_drop (by (simp only [go_sem, Int.natCast_add, Int.natCast_one, Int.natCast_zero, Int.cast_ofNat_Int])) (by (simp only [go_sem, Int.natCast_add, Int.natCast_one, Int.natCast_zero, Int.cast_ofNat_Int])) (by (simp only [go_sem, Int.natCast_add, Int.natCast_one, Int.natCast_zero, Int.cast_ofNat_Int])) (by (simp only [go_sem, Int.natCast_add, Int.natCast_one, Int.natCast_zero, Int.cast_ofNat_Int])) (by (simp only [go_sem, Int.natCast_add, Int.natCast_one, Int.natCast_zero, Int.cast_ofNat_Int]))), fun i hi => ?_⟩
             rcases Nat.lt_or_ge i j with h | h
             · exact hx i h
             · have : i = j := by omega
               subst this
               rw [e1, e2]; exact hw)
      · rw [decide_eq_false hw] at h29
        (repeat' (first | ((first | with_reducible refine vcG_split ?_ ?_ | with_reducible refine vcIf_split ?_ ?_ | with_reducible refine vcQ_split ?_ ?_ | with_reducible refine vcDG_split ?_ ?_) <;> intro hb <;> (try rw [hb]) <;> (try simp only [Bool.and_eq_true, Bool.or_eq_true, dtrue, dfalse, Bool.not_eq_true', Bool.not_eq_false', Bool.and_eq_false_iff, Bool.or_eq_false_iff, Bool.not_true, Bool.not_false] at hb) <;> (try simp only [within] at hb) <;> try (simp only [go_sem, hlt', hlt2, hx1, hm, encJ, encN, List.length_map])) | refine And.intro (by (first | exact trivial | (simp only [I64]; omega) | omega)) ?_ | (with_reducible rw [vc_draw_eq]; first | refine CV.draw (id := 7) [(0, 0), (0, 0), (0, 0), (0, 0), (0, 0), (0, 0), (0, 0), (0, 0), (0, 0), (0, 0)] mixed rfl (by kernel_rfl) ?_) | (first | (refine vcP_pure (h29) rfl ?_ ?_ ?_; (focus (first | rfl | ((simp only [go_sem, hlt', hlt2, hx1, hm, encJ, encN, List.length_map, AV.pureL, AV.pure, pureL_mapI, Bool.and_self]) <;> fail))); (focus (first | ((simp only [go_sem, hlt', hlt2, hx1, hm, encJ, encN, List.length_map]) <;> fail) | rfl))) | (refine dCallP_pure (h29) rfl ?_ ?_ ?_; (focus (first | rfl | ((simp only [go_sem, hlt', hlt2, hx1, hm, encJ, encN, List.length_map, AV.pureL, AV.pure, pureL_mapI, Bool.and_self]) <;> fail))); (focus (first | ((simp only [go_sem, hlt', hlt2, hx1, hm, encJ, encN, List.length_map]) <;> fail) | rfl))) | (refine dCallC_pure (h29) rfl ?_ ?_ ?_; (focus (first | rfl | ((simp only [go_sem, hlt', hlt2, hx1, hm, encJ, encN, List.length_map, AV.pureL, AV.pure, pureL_mapI, Bool.and_self]) <;> fail))); (focus (first | ((simp only [go_sem, hlt', hlt2, hx1, hm, encJ, encN, List.length_map]) <;> fail) | rfl))) | refine dCallC_safe (h29) rfl rfl (by (simp only [go_sem, hlt', hlt2, hx1, hm, encJ, encN, List.length_map])) ?_ | refine vcP_safe (h29) rfl rfl (by (simp only [go_sem, hlt', hlt2, hx1, hm, encJ, encN, List.length_map])) ?_ | refine dCallP_safe (h29) rfl rfl ?_) | (simp only [go_sem, hlt', hlt2, hx1, hm, encJ, encN, List.length_map])))
        all_goals first
          | omega
          | (refine bf fun q => hw ?_
             have := q.2 j (by unfold within; omega)
             rw [e1, e2] at this; exact this)
    · have hge' : ¬ (j : Int) < d.length := by omega
      (repeat' (first | ((first | with_reducible refine vcG_split ?_ ?_ | with_reducible refine vcIf_split ?_ ?_ | with_reducible refine vcQ_split ?_ ?_ | with_reducible refine vcDG_split ?_ ?_) <;> intro hb <;> (try rw [hb]) <;> (try simp only [Bool.and_eq_true, Bool.or_eq_true, dtrue, dfalse, Bool.not_eq_true', Bool.not_eq_false', Bool.and_eq_false_iff, Bool.or_eq_false_iff, Bool.not_true, Bool.not_false] at hb) <;> (try simp only [within] at hb) <;> try (simp only [go_sem, hge', List.length_map])) | refine And.intro (by (first | exact trivial | (simp only [I64]; omega) | omega)) ?_ | (with_reducible rw [vc_draw_eq]; first | refine CV.draw (id := 7) [(0, 0), (0, 0), (0, 0), (0, 0), (0, 0), (0, 0), (0, 0), (0, 0), (0, 0), (0, 0)] mixed rfl (by kernel_rfl) ?_) | fail | (simp only [go_sem, hge', List.length_map])))
      refine bt ⟨hl, fun i hi => ?_⟩
      unfold within at hi
      have := hx i.toNat (by omega)
      rw [show ((i.toNat : Nat) : Int) = i from by omega] at this
      exact this
  · have hl' : ¬ (d.length : Int) = s.length := by omega
    refine PC.body Try.func32 (by kernel_rfl) rfl (by simp [Try.f32]) rfl ?_
    simp only [Try.f32]
    intro hlen
    simp only [go_sem, List.length_map, and_true, true_and] at hlen
    refine CV.run ?_
    (repeat' (first | ((first | with_reducible refine vcG_split ?_ ?_ | with_reducible refine vcIf_split ?_ ?_ | with_reducible refine vcQ_split ?_ ?_ | with_reducible refine vcDG_split ?_ ?_) <;> intro hb <;> (try rw [hb]) <;> (try simp only [Bool.and_eq_true, Bool.or_eq_true, dtrue, dfalse, Bool.not_eq_true', Bool.not_eq_false', Bool.and_eq_false_iff, Bool.or_eq_false_iff, Bool.not_true, Bool.not_false] at hb) <;> (try simp only [within] at hb) <;> try (simp only [go_sem, hl', List.length_map])) | refine And.intro (by (first | exact trivial | (simp only [I64]; omega) | omega)) ?_ | (with_reducible rw [vc_draw_eq]; first | refine CV.draw (id := 7) [(0, 0), (0, 0), (0, 0), (0, 0), (0, 0), (0, 0), (0, 0), (0, 0), (0, 0), (0, 0)] mixed rfl (by kernel_rfl) ?_) | fail | (simp only [go_sem, hl', List.length_map])))
    exact bf fun q => hl q.1
set_option maxHeartbeats 1000000 in
theorem c54 (s : List Job) (x : Int) (j : Job) (hl : s.length ≤ 1000000) (hw : within x 0 (s.length - 1)) : PC Try.prog 54 [hS s, .int .i64 x, .agg (encJ j)] (hS (s.set x.toNat j)) := by
  have hw' := hw
  unfold within at hw'
  have hx0 : x < s.length := by omega
  have hjb := jb_at hw
  have hset := setJ (m := s) (i := x.toNat) (j := j)
  simp only [encJ] at hset
  refine PC.body Try.func54 (by kernel_rfl) rfl (by simp [Try.f54]) rfl ?_
  simp only [Try.f54]
  intro hlen
  simp only [go_sem, List.length_map, and_true, true_and] at hlen
  refine CV.run ?_
  (repeat' (first | ((first | with_reducible refine vcG_split ?_ ?_ | with_reducible refine vcIf_split ?_ ?_ | with_reducible refine vcQ_split ?_ ?_ | with_reducible refine vcDG_split ?_ ?_) <;> intro hb <;> (try rw [hb]) <;> (try simp only [Bool.and_eq_true, Bool.or_eq_true, dtrue, dfalse, Bool.not_eq_true', Bool.not_eq_false', Bool.and_eq_false_iff, Bool.or_eq_false_iff, Bool.not_true, Bool.not_false] at hb) <;> (try simp only [within] at hb) <;> try (simp only [go_sem, encJ])) | refine And.intro (by (first | exact trivial | (simp only [I64]; omega) | omega)) ?_ | fail | (simp only [go_sem, encJ])))
  refine vcP_new (h18 s (by omega)) rfl ?_
  (repeat' (first | ((first | with_reducible refine vcG_split ?_ ?_ | with_reducible refine vcIf_split ?_ ?_ | with_reducible refine vcQ_split ?_ ?_ | with_reducible refine vcDG_split ?_ ?_) <;> intro hb <;> (try rw [hb]) <;> (try simp only [Bool.and_eq_true, Bool.or_eq_true, dtrue, dfalse, Bool.not_eq_true', Bool.not_eq_false', Bool.and_eq_false_iff, Bool.or_eq_false_iff, Bool.not_true, Bool.not_false] at hb) <;> (try simp only [within] at hb) <;> try (simp only [go_sem, List.map_cons, List.map_nil, List.cons_append, List.nil_append, hjb, hx0, hset, encJ, List.length_map, List.length_set])) | refine And.intro (by (first | exact trivial | (simp only [I64]; omega) | omega)) ?_ | fail | (simp only [go_sem, List.map_cons, List.map_nil, List.cons_append, List.nil_append, hjb, hx0, hset, encJ, List.length_map, List.length_set])))
  all_goals first
    | omega
    | exact drs_len
    | simp
def exS : List Job := [⟨3, 2, 4, 2, 9, 10⟩, ⟨1, 1, 1, 4, 7, 6⟩, ⟨2, 0, 3, 3, 14, 8⟩]
theorem c64 : PC Try.prog 64 [] (hS exS) := by
  refine PC.body Try.func64 (by kernel_rfl) rfl (by simp [Try.f64]) rfl ?_
  simp only [Try.f64]
  intro hlen
  simp only [go_sem, List.length_map, and_true, true_and] at hlen
  refine CV.run ?_
  (repeat' (first | ((first | with_reducible refine vcG_split ?_ ?_ | with_reducible refine vcIf_split ?_ ?_ | with_reducible refine vcQ_split ?_ ?_ | with_reducible refine vcDG_split ?_ ?_) <;> intro hb <;> (try rw [hb]) <;> (try simp only [Bool.and_eq_true, Bool.or_eq_true, dtrue, dfalse, Bool.not_eq_true', Bool.not_eq_false', Bool.and_eq_false_iff, Bool.or_eq_false_iff, Bool.not_true, Bool.not_false] at hb) <;> (try simp only [within] at hb) <;> try (simp only [go_sem, exS, encJ, List.map_cons, List.map_nil])) | refine And.intro (by (first | exact trivial | (simp only [I64]; omega) | omega)) ?_ | fail | (simp only [go_sem, exS, encJ, List.map_cons, List.map_nil])))
theorem exS_valid : valid exS := by
  refine ⟨by decide, fun j hj => ?_⟩
  simp only [exS, List.mem_cons, List.mem_nil_iff, or_false] at hj
  rcases hj with rfl | rfl | rfl <;> (unfold okJob within; decide)
theorem w_best : bestM exS = 18 := by decide +kernel
theorem w_rule : ruleV exS = [1, 2, 0] := by decide +kernel
theorem w_wait : waitT exS 0 9 = 4 := by decide +kernel
theorem w_ord1 : isOrd 3 [0, 1, 2] := isOrd_of (by intro x hx; simp at hx; unfold within; omega) (by decide)
theorem w_ord2 : isOrd 3 [1, 0, 2] := isOrd_of (by intro x hx; simp at hx; unfold within; omega) (by decide)
theorem w_ready : rReady exS [0, 1, 2] 2 = ((14, 16), 0) := by
  have e0 : opn exS (isOrd exS.length [0, 1, 2] ∧ within 2 0 (exS.length - 1)) = 0 := opn_is exS_valid ⟨w_ord1, by unfold within; decide⟩
  rw [rReady, if_pos e0, if_pos (by decide)]
  have hp : preT [0, 1, 2] 2 = [0, 1, 2] := preT_at (q := 2) rfl (by intro n hn; match n, hn with | 0, _ => decide | 1, _ => decide)
  unfold loA hiA
  rw [hp]
  decide +kernel
theorem w_worth : rWorth exS [1, 0, 2] = ((14, 24), 0) := by
  rw [rWorth, if_pos (opn_is exS_valid (show isOrd exS.length [1, 0, 2] from w_ord2))]
  decide +kernel
theorem w_must : mustV exS 1 = 2 := by
  have key : ∀ l, l ∈ ords exS → ¬ (¬ swo exS l < 18 ∧ (sjT exS l l.length / 2 ^ 1) &&& 1 = 1) := by decide +kernel
  have k1 : ∀ o, isOrd exS.length o → ¬ swo exS o < bestM exS → ¬ bit exS 1 o := fun o ho hb q => key o (ords_mem.2 ho) ⟨by rw [w_best] at hb; exact hb, q⟩
  rw [must_spec, if_neg fun A => ?_, if_pos k1]
  obtain ⟨h1, h2, h3⟩ := best_spec exS_valid
  exact k1 _ h1 (by omega) (A _ h1 (by omega))
end Go.Proofs.Ytjjlcjibhjmhmaa

