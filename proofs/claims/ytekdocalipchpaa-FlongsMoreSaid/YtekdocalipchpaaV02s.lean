/- Contracts of functions of the given program, without a condition beyond those that each theorem states; they lead to the given statement. -/
import Derived.Test.YtekdocalipchpaaV02r
import Derived.Test.YtekdocalipchpaaFlC
set_option linter.unusedSimpArgs false
set_option linter.unusedVariables false
set_option maxRecDepth 100000
namespace Go.Proofs.Ytekdocalipchpaa
open Go Go.Fl
open Classical
theorem shift_mapD {n : Nat} {l : List Mould} : List.map (shiftL n) (List.map encD l) = List.map encD l := by
  rw [List.map_map]; exact List.map_congr_left fun a _ => by simp [encD, shiftL, shiftV]
theorem shift_mapW {n : Nat} {l : List (List Int)} : List.map (shiftL n) (List.map encW l) = List.map encW l := by
  rw [List.map_map]; exact List.map_congr_left fun a _ => by simp [encW, shiftL, shiftV]
theorem sub_mapD {b n : Nat} {v : AV} {l : List Mould} : List.map (subL b n v) (List.map encD l) = List.map encD l := by
  rw [List.map_map]; exact List.map_congr_left fun a _ => by simp [encD, subL, subV]
theorem sub_mapW {b n : Nat} {v : AV} {l : List (List Int)} : List.map (subL b n v) (List.map encW l) = List.map encW l := by
  rw [List.map_map]; exact List.map_congr_left fun a _ => by simp [encW, subL, subV]
attribute [go_sem] shift_mapD shift_mapW sub_mapD sub_mapW
theorem not_huge {s : Shop} (h : ¬ huge s) : s.ms.length ≤ 40 ∧ s.ws.length ≤ 40 ∧ s.wt.length ≤ 40 ∧ ∀ w, w ∈ s.ws → w.length ≤ 40 := by
  unfold huge at h
  refine ⟨by omega, by omega, by omega, fun w hw => ?_⟩
  have : ¬ 40 < w.length := fun h2 => h (.inr (.inr (.inr ⟨w, hw, h2⟩)))
  omega
abbrev cpC (s : Shop) (n : Nat) : List AV := [.row 2 s.ms.length, .row 5 n, .row 3 s.wt.length, .int .i64 s.fr]
abbrev cpV (s : Shop) : AV := .agg (cpC s s.ws.length)
abbrev cpH (s : Shop) : Heap := [.box 26 (cS s) false, .box 26 (cpC s s.ws.length) false, .row 51 3 (s.ms.map encD) false, .row 3 1 (s.wt.map encN) false, .box 26 (cpC s s.ws.length) false, .row 24 1 (s.ws.map encW) false]
set_option maxHeartbeats 1000000 in
theorem h18 (s : Shop) (h : ¬ huge s) : HCH Try.prog 18 [hS s] [] fun r H' => r = cpV s ∧ H' = cpH s := by
  obtain ⟨hl1, hl2, hl3, hl4⟩ := not_huge h
  refine HCH.body Try.func18 (by kernel_rfl) rfl (by simp [Try.f18]) ?_
  simp only [Try.f18]
  refine CV.run ?_
  (repeat' (first | ((first | with_reducible refine vcG_split ?_ ?_ | with_reducible refine vcIf_split ?_ ?_ | with_reducible refine vcQ_split ?_ ?_ | with_reducible refine vcDG_split ?_ ?_) <;> intro hb <;> (try rw [hb]) <;> (try simp only [Bool.and_eq_true, Bool.or_eq_true, dtrue, dfalse, Bool.not_eq_true', Bool.not_eq_false', Bool.and_eq_false_iff, Bool.or_eq_false_iff, Bool.not_true, Bool.not_false] at hb) <;> (try simp only [within] at hb) <;> try (simp only [go_sem, List.nil_append])) | refine And.intro (by (first | exact trivial | (simp only [I64]; omega) | omega)) ?_ | (with_reducible rw [vc_draw_eq]; first | refine CV.draw (id := 1) [(0, 0), (0, 0), (0, 0), (0, 0), (0, 1), (0, 1), (0, 1), (0, 0), (0, 2), (0, 2), (2, 2), (0, 2), (0, 0)] mixed rfl (by kernel_rfl) ?_ | refine CV.draw (id := 5) [(0, 2), (0, 2), (0, 0), (0, 0), (0, 0), (0, 0), (0, 0), (0, 0), (99, 0), (0, 0), (0, 0), (3, 3), (0, 0)] mixed rfl (by kernel_rfl) ?_) | (simp only [go_sem, List.nil_append])))
  refine ⟨⟨by omega, by omega, .inl trivial⟩, ?_⟩
  refine ⟨⟨by omega, by omega, .inl trivial⟩, ?_⟩
  (repeat' (first | ((first | with_reducible refine vcG_split ?_ ?_ | with_reducible refine vcIf_split ?_ ?_ | with_reducible refine vcQ_split ?_ ?_ | with_reducible refine vcDG_split ?_ ?_) <;> intro hb <;> (try rw [hb]) <;> (try simp only [Bool.and_eq_true, Bool.or_eq_true, dtrue, dfalse, Bool.not_eq_true', Bool.not_eq_false', Bool.and_eq_false_iff, Bool.or_eq_false_iff, Bool.not_true, Bool.not_false] at hb) <;> (try simp only [within] at hb) <;> try (simp only [go_sem, List.nil_append])) | refine And.intro (by (first | exact trivial | (simp only [I64]; omega) | omega)) ?_ | (with_reducible rw [vc_draw_eq]; first | refine CV.draw (id := 1) [(0, 0), (0, 0), (0, 0), (0, 0), (0, 1), (0, 1), (0, 1), (0, 0), (0, 2), (0, 2), (2, 2), (0, 2), (0, 0)] mixed rfl (by kernel_rfl) ?_ | refine CV.draw (id := 5) [(0, 2), (0, 2), (0, 0), (0, 0), (0, 0), (0, 0), (0, 0), (0, 0), (99, 0), (0, 0), (0, 0), (3, 3), (0, 0)] mixed rfl (by kernel_rfl) ?_) | (simp only [go_sem, List.nil_append])))
  refine vc_fw (fun j => ⟨[(4, .int .i64 j), (1, .lp 0 0), (2, .lp 1 0), (3, .lp 4 0)], [.box 26 (cS s) false, .box 26 [.nilS, .nilS, .nilS, .int .i64 0] false, .row 51 3 (s.ms.map encD) false, .row 3 1 (s.wt.map encN) false, .box 26 (cpC s j) false, .row 24 1 ((s.ws.take j).map encW) false]⟩) s.ws.length (fun _ => True) (.nilB 4 1 24 1 rfl rfl (by omega) (.base (by (first | exact wk_same (by (simp only [go_sem, Int.natCast_add, Int.natCast_one, Int.natCast_zero, Int.cast_ofNat_Int, List.take_zero, List.map_nil])) | exact wk_drop (by (simp only [go_sem, Int.natCast_add, Int.natCast_one, Int.natCast_zero, Int.cast_ofNat_Int, List.take_zero, List.map_nil])) (by (simp only [go_sem, Int.natCast_add, Int.natCast_one, Int.natCast_zero, Int.cast_ofNat_Int, List.take_zero, List.map_nil])) (by (simp only [go_sem, Int.natCast_add, Int.natCast_one, Int.natCast_zero, Int.cast_ofNat_Int, List.take_zero, List.map_nil])) (by (simp only [go_sem, Int.natCast_add, Int.natCast_one, Int.natCast_zero, Int.cast_ofNat_Int, List.take_zero, List.map_nil])) (by (simp only [go_sem, Int.natCast_add, Int.natCast_one, Int.natCast_zero, Int.cast_ofNat_Int, List.take_zero, List.map_nil])))))) trivial ?_
  intro j hj _
  rcases Nat.lt_or_ge j s.ws.length with hlt | hge
  · obtain ⟨w, hw⟩ := get_of hlt
    have hlt' : (j : Int) < s.ws.length := by omega
    have hwl := hl4 w (List.mem_of_getElem? hw)
    have e := take_succ hw
    have htl : ((s.ws.take j).map encW).length = j := by rw [List.length_map, List.length_take]; omega
    (repeat' (first | ((first | with_reducible refine vcG_split ?_ ?_ | with_reducible refine vcIf_split ?_ ?_ | with_reducible refine vcQ_split ?_ ?_ | with_reducible refine vcDG_split ?_ ?_) <;> intro hb <;> (try rw [hb]) <;> (try simp only [Bool.and_eq_true, Bool.or_eq_true, dtrue, dfalse, Bool.not_eq_true', Bool.not_eq_false', Bool.and_eq_false_iff, Bool.or_eq_false_iff, Bool.not_true, Bool.not_false] at hb) <;> (try simp only [within] at hb) <;> try (simp only [go_sem, hlt', hw, encW, htl, false_and, if_false, true_or, and_true])) | refine And.intro (by (first | exact trivial | (simp only [I64]; omega) | omega)) ?_ | (with_reducible rw [vc_draw_eq]; first | refine CV.draw (id := 1) [(0, 0), (0, 0), (0, 0), (0, 0), (0, 1), (0, 1), (0, 1), (0, 0), (0, 2), (0, 2), (2, 2), (0, 2), (0, 0)] mixed rfl (by kernel_rfl) ?_ | refine CV.draw (id := 5) [(0, 2), (0, 2), (0, 0), (0, 0), (0, 0), (0, 0), (0, 0), (0, 0), (99, 0), (0, 0), (0, 0), (3, 3), (0, 0)] mixed rfl (by kernel_rfl) ?_) | (simp only [go_sem, hlt', hw, encW, htl, false_and, if_false, true_or, and_true])))
    exact .base (by (first | exact wk_same (by (simp only [go_sem, Int.natCast_add, Int.natCast_one, Int.natCast_zero, Int.cast_ofNat_Int, e, encW, List.map_append])) | exact wk_drop (by (simp only [go_sem, Int.natCast_add, Int.natCast_one, Int.natCast_zero, Int.cast_ofNat_Int, e, encW, List.map_append])) (by (simp only [go_sem, Int.natCast_add, Int.natCast_one, Int.natCast_zero, Int.cast_ofNat_Int, e, encW, List.map_append])) (by (simp only [go_sem, Int.natCast_add, Int.natCast_one, Int.natCast_zero, Int.cast_ofNat_Int, e, encW, List.map_append])) (by (simp only [go_sem, Int.natCast_add, Int.natCast_one, Int.natCast_zero, Int.cast_ofNat_Int, e, encW, List.map_append])) (by (simp only [go_sem, Int.natCast_add, Int.natCast_one, Int.natCast_zero, Int.cast_ofNat_Int, e, encW, List.map_append]))))
  · have hge' : ¬ (j : Int) < s.ws.length := by omega
    have : j = s.ws.length := by omega
    subst this
    have e : s.ws.take s.ws.length = s.ws := List.take_length
    (repeat' (first | ((first | with_reducible refine vcG_split ?_ ?_ | with_reducible refine vcIf_split ?_ ?_ | with_reducible refine vcQ_split ?_ ?_ | with_reducible refine vcDG_split ?_ ?_) <;> intro hb <;> (try rw [hb]) <;> (try simp only [Bool.and_eq_true, Bool.or_eq_true, dtrue, dfalse, Bool.not_eq_true', Bool.not_eq_false', Bool.and_eq_false_iff, Bool.or_eq_false_iff, Bool.not_true, Bool.not_false] at hb) <;> (try simp only [within] at hb) <;> try (simp only [go_sem, hge', e, encW])) | refine And.intro (by (first | exact trivial | (simp only [I64]; omega) | omega)) ?_ | (with_reducible rw [vc_draw_eq]; first | refine CV.draw (id := 1) [(0, 0), (0, 0), (0, 0), (0, 0), (0, 1), (0, 1), (0, 1), (0, 0), (0, 2), (0, 2), (2, 2), (0, 2), (0, 0)] mixed rfl (by kernel_rfl) ?_ | refine CV.draw (id := 5) [(0, 2), (0, 2), (0, 0), (0, 0), (0, 0), (0, 0), (0, 0), (0, 0), (99, 0), (0, 0), (0, 0), (3, 3), (0, 0)] mixed rfl (by kernel_rfl) ?_) | (simp only [go_sem, hge', e, encW])))
theorem c98 (a b c : Int) : PC Try.prog 98 [.int .i64 a, .int .i64 b, .int .i64 c] (.agg [.int .i64 a, .int .i64 b, .int .i64 c]) := by
  refine PC.body Try.func98 (by kernel_rfl) rfl (by simp [Try.f98]) rfl ?_
  simp only [Try.f98]
  intro hlen
  simp only [go_sem, List.length_map, and_true, true_and] at hlen
  refine CV.run ?_
  (repeat' (first | ((first | with_reducible refine vcG_split ?_ ?_ | with_reducible refine vcIf_split ?_ ?_ | with_reducible refine vcQ_split ?_ ?_ | with_reducible refine vcDG_split ?_ ?_) <;> intro hb <;> (try rw [hb]) <;> (try simp only [Bool.and_eq_true, Bool.or_eq_true, dtrue, dfalse, Bool.not_eq_true', Bool.not_eq_false', Bool.and_eq_false_iff, Bool.or_eq_false_iff, Bool.not_true, Bool.not_false] at hb) <;> (try simp only [within] at hb) <;> try (simp only [go_sem])) | refine And.intro (by (first | exact trivial | (simp only [I64]; omega) | omega)) ?_ | (simp only [go_sem])))
def exS : Shop := ⟨[⟨0, 3, 0⟩, ⟨0, 5, 0⟩, ⟨1, 2, 1⟩, ⟨1, 0, 0⟩], [[8, 9, 2, 4], [6, 9, 2, 6], [12, 7, 2, 3], [9, 9, 4, 9]], [5, 3], 6⟩
def exT : Shop := ⟨[⟨0, 3, 0⟩, ⟨0, 5, 0⟩, ⟨1, 2, 1⟩, ⟨1, 0, 0⟩], [[8, 9, 2, 4], [6, 9, 2, 6], [12, 7, 2, 3], [9, 9, 4, 9]], [6, 3], 6⟩
theorem exS_valid : valid exS := ⟨by decide, by decide, by decide, ⟨by decide, by decide⟩, by simp [exS, within], by simp [exS, okM, within], by simp [exS, okW, within]⟩
theorem exT_valid : valid exT := ⟨by decide, by decide, by decide, ⟨by decide, by decide⟩, by simp [exT, within], by simp [exT, okM, within], by simp [exT, okW, within]⟩
def exR : AV := .agg [.lst false 3 [[.int .i64 0, .int .i64 3, .int .i64 0], [.int .i64 0, .int .i64 5, .int .i64 0], [.int .i64 1, .int .i64 2, .int .i64 1], [.int .i64 1, .int .i64 0, .int .i64 0]], .lst false 1 [[.lst true 1 [[.int .i64 8], [.int .i64 9], [.int .i64 2], [.int .i64 4]]], [.lst true 1 [[.int .i64 6], [.int .i64 9], [.int .i64 2], [.int .i64 6]]], [.lst true 1 [[.int .i64 12], [.int .i64 7], [.int .i64 2], [.int .i64 3]]], [.lst true 1 [[.int .i64 9], [.int .i64 9], [.int .i64 4], [.int .i64 9]]]], .lst false 1 [[.int .i64 5], [.int .i64 3]], .int .i64 6]
set_option maxHeartbeats 1000000 in
theorem c69 : PC Try.prog 69 [] (.tup [exR, hS exT]) := by
  have hcp := h18 exS exS_valid.small
  simp only [cpV, cpC, cpH, exS, encD, encW, encN, List.map_cons, List.map_nil, List.length_cons, List.length_nil] at hcp
  simp only [exR]
  refine PC.body Try.func69 (by kernel_rfl) rfl (by simp [Try.f69]) rfl ?_
  simp only [Try.f69]
  intro hlen
  simp only [go_sem, List.length_map, and_true, true_and] at hlen
  refine CV.run ?_
  (repeat' (first | ((first | with_reducible refine vcG_split ?_ ?_ | with_reducible refine vcIf_split ?_ ?_ | with_reducible refine vcQ_split ?_ ?_ | with_reducible refine vcDG_split ?_ ?_) <;> intro hb <;> (try rw [hb]) <;> (try simp only [Bool.and_eq_true, Bool.or_eq_true, dtrue, dfalse, Bool.not_eq_true', Bool.not_eq_false', Bool.and_eq_false_iff, Bool.or_eq_false_iff, Bool.not_true, Bool.not_false] at hb) <;> (try simp only [within] at hb) <;> try (simp only [go_sem])) | refine And.intro (by (first | exact trivial | (simp only [I64]; omega) | omega)) ?_ | (with_reducible rw [vc_draw_eq]; first | refine CV.draw (id := 4) [(0, 0), (0, 1), (0, 0), (0, 0)] mixed rfl (by kernel_rfl) ?_) | (first | (refine vcP_pure (c98 _ _ _) rfl ?_ ?_ ?_; (focus (first | rfl | ((simp only [go_sem, AV.pureL, AV.pure, pureL_mapI, Bool.and_self]) <;> fail))); (focus (first | ((simp only [go_sem]) <;> fail) | rfl))) | (refine dCallP_pure (c98 _ _ _) rfl ?_ ?_ ?_; (focus (first | rfl | ((simp only [go_sem, AV.pureL, AV.pure, pureL_mapI, Bool.and_self]) <;> fail))); (focus (first | ((simp only [go_sem]) <;> fail) | rfl))) | (refine dCallC_pure (c98 _ _ _) rfl ?_ ?_ ?_; (focus (first | rfl | ((simp only [go_sem, AV.pureL, AV.pure, pureL_mapI, Bool.and_self]) <;> fail))); (focus (first | ((simp only [go_sem]) <;> fail) | rfl))) | refine dCallC_safe (c98 _ _ _) rfl rfl (by (simp only [go_sem])) ?_ | refine vcP_safe (c98 _ _ _) rfl rfl (by (simp only [go_sem])) ?_ | refine dCallP_safe (c98 _ _ _) rfl rfl ?_) | (simp only [go_sem])))
  refine vcP_new (HCH.lo hcp rfl) rfl ?_
  (repeat' (first | ((first | with_reducible refine vcG_split ?_ ?_ | with_reducible refine vcIf_split ?_ ?_ | with_reducible refine vcQ_split ?_ ?_ | with_reducible refine vcDG_split ?_ ?_) <;> intro hb <;> (try rw [hb]) <;> (try simp only [Bool.and_eq_true, Bool.or_eq_true, dtrue, dfalse, Bool.not_eq_true', Bool.not_eq_false', Bool.and_eq_false_iff, Bool.or_eq_false_iff, Bool.not_true, Bool.not_false] at hb) <;> (try simp only [within] at hb) <;> try (simp only [go_sem, List.map_cons, List.map_nil, List.cons_append, List.nil_append, List.length_cons, List.length_nil, exT, encD, encW, encN])) | refine And.intro (by (first | exact trivial | (simp only [I64]; omega) | omega)) ?_ | (with_reducible rw [vc_draw_eq]; first | refine CV.draw (id := 4) [(0, 0), (0, 1), (0, 0), (0, 0)] mixed rfl (by kernel_rfl) ?_) | (simp only [go_sem, List.map_cons, List.map_nil, List.cons_append, List.nil_append, List.length_cons, List.length_nil, exT, encD, encW, encN])))
end Go.Proofs.Ytekdocalipchpaa

