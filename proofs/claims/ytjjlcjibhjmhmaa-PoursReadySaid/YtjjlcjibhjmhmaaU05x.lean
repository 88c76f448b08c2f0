/- Contracts of functions of the given program, without a condition beyond those that each theorem states; they lead to the given statement. -/
import Derived.Test.YtjjlcjibhjmhmaaU05w
set_option linter.unusedSimpArgs false
set_option linter.unusedVariables false
set_option maxRecDepth 100000
namespace Go.Fl
open Go.RowKit
theorem PC.nil2 {P : Program} {g : FuncId} {a : AV} {rest : List AV} {v : AV} {sz : Nat} (h : PC P g (a :: .lst false sz [] :: rest) v) : PC P g (a :: .nilS :: rest) v := by
  unfold PC at h ⊢
  refine ⟨h.1, fun κ cargs hc hH hv => h.2 κ cargs hc hH ?_⟩
  obtain ⟨c0, cs0, e0, h0, c, cs, e, h1, h2⟩ := hv
  refine ⟨c0, cs0, e0, h0, c, cs, e, ?_, h2⟩
  obtain rfl : c = .slice none 0 0 := h1
  exact ⟨none, 0, rfl, Nat.le_refl _, by simp [maxLen], fun _ => rfl, fun ad h => (by cases h), fun _ => rfl, fun e h => (by cases h)⟩
end Go.Fl
namespace Go.Proofs.Ytjjlcjibhjmhmaa
open Go Go.Fl
open Classical
theorem bst_val {val : List Int → Int} : ∀ L : List (List Int), L ≠ [] → (∀ x, x ∈ L → 0 ≤ val x) → val (bstS val L).2 = (bstS val L).1 := by
  refine snoc_ind (fun h => absurd rfl h) fun L x ih _ h0 => ?_
  rw [bstS_app]
  by_cases c : (bstS val L).1 < val x
  · rw [if_pos c]
  · rw [if_neg c]
    by_cases hL : L = []
    · subst hL
      have := h0 x (by simp)
      rw [bstS_nil] at c; simp only at c; omega
    · exact ih hL fun y hy => h0 y (by simp [hy])
theorem ords_head {s : List Job} : (ords s)[0]? = some [] := by
  unfold ords; cases s.length <;> rfl
theorem bst_take {s : List Job} (hv : valid s) {j : Nat} {x : List Int} (hx : (ords s)[j]? = some x) : (bstS (swo s) ((ords s).take (j + 1))).2 = if swo s (bstS (swo s) ((ords s).take j)).2 < swo s x then x else (bstS (swo s) ((ords s).take j)).2 := by
  rw [take_sn hx, bstS_app]
  cases j with
  | zero =>
    rw [ords_head] at hx; cases hx
    have h1 : (bstS (swo s) ((ords s).take 0)) = (-1, []) := rfl
    rw [h1]
    have := (wor_nonneg hv (dr := hiD s) (o := []) fun x hx => by cases hx).1
    simp only
    split <;> (split <;> rfl)
  | succ j =>
    have hne : (ords s).take (j + 1) ≠ [] := fun h => by
      have h1 := congrArg List.length h
      have h2 := (List.getElem?_eq_some_iff.1 hx).1
      rw [List.length_take, List.length_nil] at h1; omega
    rw [bst_val (val := swo s) _ hne fun y hy => (wor_nonneg hv (ords_mem.1 (List.mem_of_mem_take hy)).on).1]
    split <;> rfl
theorem ords_at {s : List Job} {j : Nat} {x : List Int} (hx : (ords s)[j]? = some x) : isOrd s.length x := ords_mem.1 (List.mem_of_getElem? hx)
theorem getL {L : List (List Int)} {j : Nat} {x : List Int} (h : L[j]? = some x) : (L.map encL)[j]? = some [lN x] := by rw [List.getElem?_map, h]; rfl
theorem c71o (s : List Job) (h6 : s.length ≤ 6) : PC Try.prog 71 [hS s, .nilS] (lLL (ords s)) := PC.nil2 (sz := 1) <| c71 s h6 s.length [] h6 (by rw [miss_nil]; omega) (by simp; omega)
theorem bst_on {s : List Job} {j : Nat} (hj : j ≤ (ords s).length) : isOrd s.length (bstS (swo s) ((ords s).take j)).2 := by
  induction j with
  | zero => exact isOrd_nil
  | succ j ih =>
    obtain ⟨x, hx⟩ := get_of (l := ords s) (j := j) (by omega)
    rw [take_sn hx, bstS_app]
    split
    · exact ords_at hx
    · exact ih (by omega)
set_option maxHeartbeats 2000000 in
theorem c50 (s : List Job) : PC Try.prog 50 [hS s] (.tup [lN (if check s = 0 then bestO s else []), .int .i64 (check s)]) := by
  by_cases hv : valid s
  · have hc := check_yes hv
    have h6 := hv.1
    have hol := ords_len h6
    have h71 := c71o s h6
    have hg0 : (List.map encL (ords s))[0]? = some [lN []] := getL ords_head
    have hl0 : (0 : Int) < (ords s).length := by
      have : (ords s).length ≠ 0 := fun h => ords_ne (List.eq_nil_of_length_eq_zero h)
      omega
    rw [hc, if_pos rfl]
    refine PC.body Try.func50 (by kernel_rfl) rfl (by simp [Try.f50]) rfl ?_
    simp only [Try.f50]
    intro hlen
    simp only [go_sem, List.length_map, and_true, true_and] at hlen
    refine CV.run ?_
    (repeat' (first | ((first | with_reducible refine vcG_split ?_ ?_ | with_reducible refine vcIf_split ?_ ?_ | with_reducible refine vcQ_split ?_ ?_ | with_reducible refine vcDG_split ?_ ?_) <;> intro hb <;> (try rw [hb]) <;> (try simp only [Bool.and_eq_true, Bool.or_eq_true, dtrue, dfalse, Bool.not_eq_true', Bool.not_eq_false', Bool.and_eq_false_iff, Bool.or_eq_false_iff, Bool.not_true, Bool.not_false] at hb) <;> (try simp only [within] at hb) <;> try (simp only [go_sem, hc, hg0, hl0, List.length_map])) | refine And.intro (by (first | exact trivial | (simp only [I64]; omega) | omega)) ?_ | (with_reducible rw [vc_draw_eq]; first | refine CV.draw (id := 9) [(0, 0), (0, 0), (0, 0), (0, 0), (0, 0), (0, 0), (0, 0), (0, 0), (0, 0), (0, 0)] mixed rfl (by kernel_rfl) ?_) | (first | (refine vcP_pure (c42 _) rfl ?_ ?_ ?_; (focus (first | rfl | ((simp only [go_sem, hc, hg0, hl0, List.length_map, AV.pureL, AV.pure, pureL_mapI, Bool.and_self]) <;> fail))); (focus (first | ((simp only [go_sem, hc, hg0, hl0, List.length_map]) <;> fail) | rfl))) | (refine dCallP_pure (c42 _) rfl ?_ ?_ ?_; (focus (first | rfl | ((simp only [go_sem, hc, hg0, hl0, List.length_map, AV.pureL, AV.pure, pureL_mapI, Bool.and_self]) <;> fail))); (focus (first | ((simp only [go_sem, hc, hg0, hl0, List.length_map]) <;> fail) | rfl))) | (refine dCallC_pure (c42 _) rfl ?_ ?_ ?_; (focus (first | rfl | ((simp only [go_sem, hc, hg0, hl0, List.length_map, AV.pureL, AV.pure, pureL_mapI, Bool.and_self]) <;> fail))); (focus (first | ((simp only [go_sem, hc, hg0, hl0, List.length_map]) <;> fail) | rfl))) | refine dCallC_safe (c42 _) rfl rfl (by (simp only [go_sem, hc, hg0, hl0, List.length_map])) ?_ | refine vcP_safe (c42 _) rfl rfl (by (simp only [go_sem, hc, hg0, hl0, List.length_map])) ?_ | refine dCallP_safe (c42 _) rfl rfl ?_ | (refine vcP_pure (h71) rfl ?_ ?_ ?_; (focus (first | rfl | ((simp only [go_sem, hc, hg0, hl0, List.length_map, AV.pureL, AV.pure, pureL_mapI, Bool.and_self]) <;> fail))); (focus (first | ((simp only [go_sem, hc, hg0, hl0, List.length_map]) <;> fail) | rfl))) | (refine dCallP_pure (h71) rfl ?_ ?_ ?_; (focus (first | rfl | ((simp only [go_sem, hc, hg0, hl0, List.length_map, AV.pureL, AV.pure, pureL_mapI, Bool.and_self]) <;> fail))); (focus (first | ((simp only [go_sem, hc, hg0, hl0, List.length_map]) <;> fail) | rfl))) | (refine dCallC_pure (h71) rfl ?_ ?_ ?_; (focus (first | rfl | ((simp only [go_sem, hc, hg0, hl0, List.length_map, AV.pureL, AV.pure, pureL_mapI, Bool.and_self]) <;> fail))); (focus (first | ((simp only [go_sem, hc, hg0, hl0, List.length_map]) <;> fail) | rfl))) | refine dCallC_safe (h71) rfl rfl (by (simp only [go_sem, hc, hg0, hl0, List.length_map])) ?_ | refine vcP_safe (h71) rfl rfl (by (simp only [go_sem, hc, hg0, hl0, List.length_map])) ?_ | refine dCallP_safe (h71) rfl rfl ?_) | (simp only [go_sem, hc, hg0, hl0, List.length_map])))
    refine vc_for (fun j => ⟨[(7, .int .i64 j), (6, lN (bstS (swo s) ((ords s).take j)).2), (5, lLL (ords s)), (1, .lp 0 0), (2, .nilS), (3, .int .i64 0)], [.box 24 (cS s) false]⟩) (ords s).length (fun _ => True) (by (first | exact wk_same (by (simp only [go_sem, Int.natCast_add, Int.natCast_one, Int.natCast_zero, Int.cast_ofNat_Int, List.take_zero, bstS_nil])) | exact wk_drop (by (simp only [go_sem, Int.natCast_add, Int.natCast_one, Int.natCast_zero, Int.cast_ofNat_Int, List.take_zero, bstS_nil])) (by (simp only [go_sem, Int.natCast_add, Int.natCast_one, Int.natCast_zero, Int.cast_ofNat_Int, List.take_zero, bstS_nil])) (by (simp only [go_sem, Int.natCast_add, Int.natCast_one, Int.natCast_zero, Int.cast_ofNat_Int, List.take_zero, bstS_nil])) (by (simp only [go_sem, Int.natCast_add, Int.natCast_one, Int.natCast_zero, Int.cast_ofNat_Int, List.take_zero, bstS_nil])) (by (simp only [go_sem, Int.natCast_add, Int.natCast_one, Int.natCast_zero, Int.cast_ofNat_Int, List.take_zero, bstS_nil])))) trivial ?_
    intro j hj _
    rcases Nat.lt_or_ge j (ords s).length with hlt | hge
    · obtain ⟨x, hx⟩ := get_of hlt
      have hlt' : (j : Int) < (ords s).length := by omega
      have hg := getL hx
      have hox := ords_at hx
      have hxl := isOrd_le hox
      have hob := bst_on hj
      have hbl := isOrd_le hob
      have h1 := c72 s x hv hox.on (by omega)
      have h2 := c72 s _ hv hob.on (by omega)
      have e := bst_take hv hx
      by_cases c : swo s (bstS (swo s) ((ords s).take j)).2 < swo s x
      · rw [if_pos c] at e
        (repeat' (first | ((first | with_reducible refine vcG_split ?_ ?_ | with_reducible refine vcIf_split ?_ ?_ | with_reducible refine vcQ_split ?_ ?_ | with_reducible refine vcDG_split ?_ ?_) <;> intro hb <;> (try rw [hb]) <;> (try simp only [Bool.and_eq_true, Bool.or_eq_true, dtrue, dfalse, Bool.not_eq_true', Bool.not_eq_false', Bool.and_eq_false_iff, Bool.or_eq_false_iff, Bool.not_true, Bool.not_false] at hb) <;> (try simp only [within] at hb) <;> try (simp only [go_sem, hlt', hg, c, List.length_map])) | refine And.intro (by (first | exact trivial | (simp only [I64]; omega) | omega)) ?_ | (with_reducible rw [vc_draw_eq]; first | refine CV.draw (id := 9) [(0, 0), (0, 0), (0, 0), (0, 0), (0, 0), (0, 0), (0, 0), (0, 0), (0, 0), (0, 0)] mixed rfl (by kernel_rfl) ?_) | (first | (refine vcP_pure (h1) rfl ?_ ?_ ?_; (focus (first | rfl | ((simp only [go_sem, hlt', hg, c, List.length_map, AV.pureL, AV.pure, pureL_mapI, Bool.and_self]) <;> fail))); (focus (first | ((simp only [go_sem, hlt', hg, c, List.length_map]) <;> fail) | rfl))) | (refine dCallP_pure (h1) rfl ?_ ?_ ?_; (focus (first | rfl | ((simp only [go_sem, hlt', hg, c, List.length_map, AV.pureL, AV.pure, pureL_mapI, Bool.and_self]) <;> fail))); (focus (first | ((simp only [go_sem, hlt', hg, c, List.length_map]) <;> fail) | rfl))) | (refine dCallC_pure (h1) rfl ?_ ?_ ?_; (focus (first | rfl | ((simp only [go_sem, hlt', hg, c, List.length_map, AV.pureL, AV.pure, pureL_mapI, Bool.and_self]) <;> fail))); (focus (first | ((simp only [go_sem, hlt', hg, c, List.length_map]) <;> fail) | rfl))) | refine dCallC_safe (h1) rfl rfl (by (simp only [go_sem, hlt', hg, c, List.length_map])) ?_ | refine vcP_safe (h1) rfl rfl (by (simp only [go_sem, hlt', hg, c, List.length_map])) ?_ | refine dCallP_safe (h1) rfl rfl ?_ | (refine vcP_pure (h2) rfl ?_ ?_ ?_; (focus (first | rfl | ((simp only [go_sem, hlt', hg, c, List.length_map, AV.pureL, AV.pure, pureL_mapI, Bool.and_self]) <;> fail))); (focus (first | ((simp only [go_sem, hlt', hg, c, List.length_map]) <;> fail) | rfl))) | (refine dCallP_pure (h2) rfl ?_ ?_ ?_; (focus (first | rfl | ((simp only [go_sem, hlt', hg, c, List.length_map, AV.pureL, AV.pure, pureL_mapI, Bool.and_self]) <;> fail))); (focus (first | ((simp only [go_sem, hlt', hg, c, List.length_map]) <;> fail) | rfl))) | (refine dCallC_pure (h2) rfl ?_ ?_ ?_; (focus (first | rfl | ((simp only [go_sem, hlt', hg, c, List.length_map, AV.pureL, AV.pure, pureL_mapI, Bool.and_self]) <;> fail))); (focus (first | ((simp only [go_sem, hlt', hg, c, List.length_map]) <;> fail) | rfl))) | refine dCallC_safe (h2) rfl rfl (by (simp only [go_sem, hlt', hg, c, List.length_map])) ?_ | refine vcP_safe (h2) rfl rfl (by (simp only [go_sem, hlt', hg, c, List.length_map])) ?_ | refine dCallP_safe (h2) rfl rfl ?_) | (simp only [go_sem, hlt', hg, c, List.length_map])))
        exact (by (first | exact wk_same (by (simp only [go_sem, Int.natCast_add, Int.natCast_one, Int.natCast_zero, Int.cast_ofNat_Int, e])) | exact wk_drop (by (simp only [go_sem, Int.natCast_add, Int.natCast_one, Int.natCast_zero, Int.cast_ofNat_Int, e])) (by (simp only [go_sem, Int.natCast_add, Int.natCast_one, Int.natCast_zero, Int.cast_ofNat_Int, e])) (by (simp only [go_sem, Int.natCast_add, Int.natCast_one, Int.natCast_zero, Int.cast_ofNat_Int, e])) (by (simp only [go_sem, Int.natCast_add, Int.natCast_one, Int.natCast_zero, Int.cast_ofNat_Int, e])) (by (simp only [go_sem, Int.natCast_add, Int.natCast_one, Int.natCast_zero, Int.cast_ofNat_Int, e]))))
      · rw [if_neg c] at e
        (repeat' (first | ((first | with_reducible refine vcG_split ?_ ?_ | with_reducible refine vcIf_split ?_ ?_ | with_reducible refine vcQ_split ?_ ?_ | with_reducible refine vcDG_split ?_ ?_) <;> intro hb <;> (try rw [hb]) <;> (try simp only [Bool.and_eq_true, Bool.or_eq_true, dtrue, dfalse, Bool.not_eq_true', Bool.not_eq_false', Bool.and_eq_false_iff, Bool.or_eq_false_iff, Bool.not_true, Bool.not_false] at hb) <;> (try simp only [within] at hb) <;> try (simp only [go_sem, hlt', hg, c, List.length_map])) | refine And.intro (by (first | exact trivial | (simp only [I64]; omega) | omega)) ?_ | (with_reducible rw [vc_draw_eq]; first | refine CV.draw (id := 9) [(0, 0), (0, 0), (0, 0), (0, 0), (0, 0), (0, 0), (0, 0), (0, 0), (0, 0), (0, 0)] mixed rfl (by kernel_rfl) ?_) | (first | (refine vcP_pure (h1) rfl ?_ ?_ ?_; (focus (first | rfl | ((simp only [go_sem, hlt', hg, c, List.length_map, AV.pureL, AV.pure, pureL_mapI, Bool.and_self]) <;> fail))); (focus (first | ((simp only [go_sem, hlt', hg, c, List.length_map]) <;> fail) | rfl))) | (refine dCallP_pure (h1) rfl ?_ ?_ ?_; (focus (first | rfl | ((simp only [go_sem, hlt', hg, c, List.length_map, AV.pureL, AV.pure, pureL_mapI, Bool.and_self]) <;> fail))); (focus (first | ((simp only [go_sem, hlt', hg, c, List.length_map]) <;> fail) | rfl))) | (refine dCallC_pure (h1) rfl ?_ ?_ ?_; (focus (first | rfl | ((simp only [go_sem, hlt', hg, c, List.length_map, AV.pureL, AV.pure, pureL_mapI, Bool.and_self]) <;> fail))); (focus (first | ((simp only [go_sem, hlt', hg, c, List.length_map]) <;> fail) | rfl))) | refine dCallC_safe (h1) rfl rfl (by (simp only [go_sem, hlt', hg, c, List.length_map])) ?_ | refine vcP_safe (h1) rfl rfl (by (simp only [go_sem, hlt', hg, c, List.length_map])) ?_ | refine dCallP_safe (h1) rfl rfl ?_ | (refine vcP_pure (h2) rfl ?_ ?_ ?_; (focus (first | rfl | ((simp only [go_sem, hlt', hg, c, List.length_map, AV.pureL, AV.pure, pureL_mapI, Bool.and_self]) <;> fail))); (focus (first | ((simp only [go_sem, hlt', hg, c, List.length_map]) <;> fail) | rfl))) | (refine dCallP_pure (h2) rfl ?_ ?_ ?_; (focus (first | rfl | ((simp only [go_sem, hlt', hg, c, List.length_map, AV.pureL, AV.pure, pureL_mapI, Bool.and_self]) <;> fail))); (focus (first | ((simp only [go_sem, hlt', hg, c, List.length_map]) <;> fail) | rfl))) | (refine dCallC_pure (h2) rfl ?_ ?_ ?_; (focus (first | rfl | ((simp only [go_sem, hlt', hg, c, List.length_map, AV.pureL, AV.pure, pureL_mapI, Bool.and_self]) <;> fail))); (focus (first | ((simp only [go_sem, hlt', hg, c, List.length_map]) <;> fail) | rfl))) | refine dCallC_safe (h2) rfl rfl (by (simp only [go_sem, hlt', hg, c, List.length_map])) ?_ | refine vcP_safe (h2) rfl rfl (by (simp only [go_sem, hlt', hg, c, List.length_map])) ?_ | refine dCallP_safe (h2) rfl rfl ?_) | (simp only [go_sem, hlt', hg, c, List.length_map])))
        exact (by (first | exact wk_same (by (simp only [go_sem, Int.natCast_add, Int.natCast_one, Int.natCast_zero, Int.cast_ofNat_Int, e])) | exact wk_drop (by (simp only [go_sem, Int.natCast_add, Int.natCast_one, Int.natCast_zero, Int.cast_ofNat_Int, e])) (by (simp only [go_sem, Int.natCast_add, Int.natCast_one, Int.natCast_zero, Int.cast_ofNat_Int, e])) (by (simp only [go_sem, Int.natCast_add, Int.natCast_one, Int.natCast_zero, Int.cast_ofNat_Int, e])) (by (simp only [go_sem, Int.natCast_add, Int.natCast_one, Int.natCast_zero, Int.cast_ofNat_Int, e])) (by (simp only [go_sem, Int.natCast_add, Int.natCast_one, Int.natCast_zero, Int.cast_ofNat_Int, e]))))
    · have hge' : ¬ (j : Int) < (ords s).length := by omega
      have : j = (ords s).length := by omega
      subst this
      (repeat' (first | ((first | with_reducible refine vcG_split ?_ ?_ | with_reducible refine vcIf_split ?_ ?_ | with_reducible refine vcQ_split ?_ ?_ | with_reducible refine vcDG_split ?_ ?_) <;> intro hb <;> (try rw [hb]) <;> (try simp only [Bool.and_eq_true, Bool.or_eq_true, dtrue, dfalse, Bool.not_eq_true', Bool.not_eq_false', Bool.and_eq_false_iff, Bool.or_eq_false_iff, Bool.not_true, Bool.not_false] at hb) <;> (try simp only [within] at hb) <;> try (simp only [go_sem, hge', List.length_map])) | refine And.intro (by (first | exact trivial | (simp only [I64]; omega) | omega)) ?_ | (with_reducible rw [vc_draw_eq]; first | refine CV.draw (id := 9) [(0, 0), (0, 0), (0, 0), (0, 0), (0, 0), (0, 0), (0, 0), (0, 0), (0, 0), (0, 0)] mixed rfl (by kernel_rfl) ?_) | fail | (simp only [go_sem, hge', List.length_map])))
      rw [List.take_length]; rfl
  · have hc := check_no hv
    rw [hc, if_neg (by omega)]
    refine PC.body Try.func50 (by kernel_rfl) rfl (by simp [Try.f50]) rfl ?_
    simp only [Try.f50]
    intro hlen
    simp only [go_sem, List.length_map, and_true, true_and] at hlen
    refine CV.run ?_
    (repeat' (first | ((first | with_reducible refine vcG_split ?_ ?_ | with_reducible refine vcIf_split ?_ ?_ | with_reducible refine vcQ_split ?_ ?_ | with_reducible refine vcDG_split ?_ ?_) <;> intro hb <;> (try rw [hb]) <;> (try simp only [Bool.and_eq_true, Bool.or_eq_true, dtrue, dfalse, Bool.not_eq_true', Bool.not_eq_false', Bool.and_eq_false_iff, Bool.or_eq_false_iff, Bool.not_true, Bool.not_false] at hb) <;> (try simp only [within] at hb) <;> try (simp only [go_sem, hc, List.map_nil])) | refine And.intro (by (first | exact trivial | (simp only [I64]; omega) | omega)) ?_ | (with_reducible rw [vc_draw_eq]; first | refine CV.draw (id := 9) [(0, 0), (0, 0), (0, 0), (0, 0), (0, 0), (0, 0), (0, 0), (0, 0), (0, 0), (0, 0)] mixed rfl (by kernel_rfl) ?_) | (first | (refine vcP_pure (c42 _) rfl ?_ ?_ ?_; (focus (first | rfl | ((simp only [go_sem, hc, List.map_nil, AV.pureL, AV.pure, pureL_mapI, Bool.and_self]) <;> fail))); (focus (first | ((simp only [go_sem, hc, List.map_nil]) <;> fail) | rfl))) | (refine dCallP_pure (c42 _) rfl ?_ ?_ ?_; (focus (first | rfl | ((simp only [go_sem, hc, List.map_nil, AV.pureL, AV.pure, pureL_mapI, Bool.and_self]) <;> fail))); (focus (first | ((simp only [go_sem, hc, List.map_nil]) <;> fail) | rfl))) | (refine dCallC_pure (c42 _) rfl ?_ ?_ ?_; (focus (first | rfl | ((simp only [go_sem, hc, List.map_nil, AV.pureL, AV.pure, pureL_mapI, Bool.and_self]) <;> fail))); (focus (first | ((simp only [go_sem, hc, List.map_nil]) <;> fail) | rfl))) | refine dCallC_safe (c42 _) rfl rfl (by (simp only [go_sem, hc, List.map_nil])) ?_ | refine vcP_safe (c42 _) rfl rfl (by (simp only [go_sem, hc, List.map_nil])) ?_ | refine dCallP_safe (c42 _) rfl rfl ?_) | (simp only [go_sem, hc, List.map_nil])))
theorem c49 (s : List Job) : PC Try.prog 49 [hS s] (.tup [.int .i64 (if check s = 0 then bestM s else 0), .int .i64 (check s)]) := by
  have h50 := c50 s
  by_cases hv : valid s
  · have hc := check_yes hv
    have ho := (best_spec hv).1
    have hbl := isOrd_le ho
    have h6 := hv.1
    have h72 := c72 s (bestO s) hv ho.on (by omega)
    rw [(best_spec hv).2.1] at h72
    rw [hc, if_pos rfl] at h50 ⊢
    refine PC.body Try.func49 (by kernel_rfl) rfl (by simp [Try.f49]) rfl ?_
    simp only [Try.f49]
    intro hlen
    simp only [go_sem, List.length_map, and_true, true_and] at hlen
    refine CV.run ?_
    (repeat' (first | ((first | with_reducible refine vcG_split ?_ ?_ | with_reducible refine vcIf_split ?_ ?_ | with_reducible refine vcQ_split ?_ ?_ | with_reducible refine vcDG_split ?_ ?_) <;> intro hb <;> (try rw [hb]) <;> (try simp only [Bool.and_eq_true, Bool.or_eq_true, dtrue, dfalse, Bool.not_eq_true', Bool.not_eq_false', Bool.and_eq_false_iff, Bool.or_eq_false_iff, Bool.not_true, Bool.not_false] at hb) <;> (try simp only [within] at hb) <;> try (simp only [go_sem])) | refine And.intro (by (first | exact trivial | (simp only [I64]; omega) | omega)) ?_ | (first | (refine vcP_pure (h50) rfl ?_ ?_ ?_; (focus (first | rfl | ((simp only [go_sem, AV.pureL, AV.pure, pureL_mapI, Bool.and_self]) <;> fail))); (focus (first | ((simp only [go_sem]) <;> fail) | rfl))) | (refine dCallP_pure (h50) rfl ?_ ?_ ?_; (focus (first | rfl | ((simp only [go_sem, AV.pureL, AV.pure, pureL_mapI, Bool.and_self]) <;> fail))); (focus (first | ((simp only [go_sem]) <;> fail) | rfl))) | (refine dCallC_pure (h50) rfl ?_ ?_ ?_; (focus (first | rfl | ((simp only [go_sem, AV.pureL, AV.pure, pureL_mapI, Bool.and_self]) <;> fail))); (focus (first | ((simp only [go_sem]) <;> fail) | rfl))) | refine dCallC_safe (h50) rfl rfl (by (simp only [go_sem])) ?_ | refine vcP_safe (h50) rfl rfl (by (simp only [go_sem])) ?_ | refine dCallP_safe (h50) rfl rfl ?_ | (refine vcP_pure (h72) rfl ?_ ?_ ?_; (focus (first | rfl | ((simp only [go_sem, AV.pureL, AV.pure, pureL_mapI, Bool.and_self]) <;> fail))); (focus (first | ((simp only [go_sem]) <;> fail) | rfl))) | (refine dCallP_pure (h72) rfl ?_ ?_ ?_; (focus (first | rfl | ((simp only [go_sem, AV.pureL, AV.pure, pureL_mapI, Bool.and_self]) <;> fail))); (focus (first | ((simp only [go_sem]) <;> fail) | rfl))) | (refine dCallC_pure (h72) rfl ?_ ?_ ?_; (focus (first | rfl | ((simp only [go_sem, AV.pureL, AV.pure, pureL_mapI, Bool.and_self]) <;> fail))); (focus (first | ((simp only [go_sem]) <;> fail) | rfl))) | refine dCallC_safe (h72) rfl rfl (by (simp only [go_sem])) ?_ | refine vcP_safe (h72) rfl rfl (by (simp only [go_sem])) ?_ | refine dCallP_safe (h72) rfl rfl ?_) | (simp only [go_sem])))
  · have hc := check_no hv
    rw [hc, if_neg (by omega)] at h50 ⊢
    refine PC.body Try.func49 (by kernel_rfl) rfl (by simp [Try.f49]) rfl ?_
    simp only [Try.f49]
    intro hlen
    simp only [go_sem, List.length_map, and_true, true_and] at hlen
    refine CV.run ?_
    (repeat' (first | ((first | with_reducible refine vcG_split ?_ ?_ | with_reducible refine vcIf_split ?_ ?_ | with_reducible refine vcQ_split ?_ ?_ | with_reducible refine vcDG_split ?_ ?_) <;> intro hb <;> (try rw [hb]) <;> (try simp only [Bool.and_eq_true, Bool.or_eq_true, dtrue, dfalse, Bool.not_eq_true', Bool.not_eq_false', Bool.and_eq_false_iff, Bool.or_eq_false_iff, Bool.not_true, Bool.not_false] at hb) <;> (try simp only [within] at hb) <;> try (simp only [go_sem])) | refine And.intro (by (first | exact trivial | (simp only [I64]; omega) | omega)) ?_ | (first | (refine vcP_pure (h50) rfl ?_ ?_ ?_; (focus (first | rfl | ((simp only [go_sem, AV.pureL, AV.pure, pureL_mapI, Bool.and_self]) <;> fail))); (focus (first | ((simp only [go_sem]) <;> fail) | rfl))) | (refine dCallP_pure (h50) rfl ?_ ?_ ?_; (focus (first | rfl | ((simp only [go_sem, AV.pureL, AV.pure, pureL_mapI, Bool.and_self]) <;> fail))); (focus (first | ((simp only [go_sem]) <;> fail) | rfl))) | (refine dCallC_pure (h50) rfl ?_ ?_ ?_; (focus (first | rfl | ((simp only [go_sem, AV.pureL, AV.pure, pureL_mapI, Bool.and_self]) <;> fail))); (focus (first | ((simp only [go_sem]) <;> fail) | rfl))) | refine dCallC_safe (h50) rfl rfl (by (simp only [go_sem])) ?_ | refine vcP_safe (h50) rfl rfl (by (simp only [go_sem])) ?_ | refine dCallP_safe (h50) rfl rfl ?_) | (simp only [go_sem])))
theorem c61 (s : List Job) (o : List Int) (hv : valid s) (ho : onJ s o) (hol : o.length ≤ 1000) : PC Try.prog 61 [hS s, lN o] (.int .i64 (done s o)) := by
  have h6 := hv.1
  rcases Nat.eq_zero_or_pos o.length with h0 | h0
  · have : o = [] := List.eq_nil_of_length_eq_zero h0
    subst this
    rw [show done s [] = 0 from rfl]
    refine PC.body Try.func61 (by kernel_rfl) rfl (by simp [Try.f61]) rfl ?_
    simp only [Try.f61]
    intro hlen
    simp only [go_sem, List.length_map, and_true, true_and] at hlen
    refine CV.run ?_
    (repeat' (first | ((first | with_reducible refine vcG_split ?_ ?_ | with_reducible refine vcIf_split ?_ ?_ | with_reducible refine vcQ_split ?_ ?_ | with_reducible refine vcDG_split ?_ ?_) <;> intro hb <;> (try rw [hb]) <;> (try simp only [Bool.and_eq_true, Bool.or_eq_true, dtrue, dfalse, Bool.not_eq_true', Bool.not_eq_false', Bool.and_eq_false_iff, Bool.or_eq_false_iff, Bool.not_true, Bool.not_false] at hb) <;> (try simp only [within] at hb) <;> try (simp only [go_sem, List.length_map, List.length_nil, Int.natCast_zero])) | refine And.intro (by (first | exact trivial | (simp only [I64]; omega) | omega)) ?_ | (with_reducible rw [vc_draw_eq]; first | refine CV.draw (id := 3) [(0, 0), (0, 0), (0, 0), (0, 0), (0, 0), (0, 0), (0, 0), (0, 0), (0, 0), (0, 0), (0, 0)] mixed rfl (by kernel_rfl) ?_) | fail | (simp only [go_sem, List.length_map, List.length_nil, Int.natCast_zero])))
  · have h91 := c91 s (by omega)
    have h1 := c35 s o (hiL s) hv ho hol (hiL_ok hv)
    rw [hiL_gv] at h1
    have hml : (tmV s (hiD s) o).length = o.length := tmT_len
    have hg : (tmV s (hiD s) o)[o.length - 1]? = some (done s o) := by
      rw [show (tmV s (hiD s) o)[o.length - 1]? = _ from tmT_get (by omega), show o.length - 1 + 1 = o.length from by omega, List.take_length]; rfl
    have hne : ¬ (o.length : Int) = 0 := by omega
    have hi : (o.length : Int) - 1 = ((o.length - 1 : Nat) : Int) := by omega
    have hlt : ((o.length - 1 : Nat) : Int) < o.length := by omega
    refine PC.body Try.func61 (by kernel_rfl) rfl (by simp [Try.f61]) rfl ?_
    simp only [Try.f61]
    intro hlen
    simp only [go_sem, List.length_map, and_true, true_and] at hlen
    refine CV.run ?_
    (repeat' (first | ((first | with_reducible refine vcG_split ?_ ?_ | with_reducible refine vcIf_split ?_ ?_ | with_reducible refine vcQ_split ?_ ?_ | with_reducible refine vcDG_split ?_ ?_) <;> intro hb <;> (try rw [hb]) <;> (try simp only [Bool.and_eq_true, Bool.or_eq_true, dtrue, dfalse, Bool.not_eq_true', Bool.not_eq_false', Bool.and_eq_false_iff, Bool.or_eq_false_iff, Bool.not_true, Bool.not_false] at hb) <;> (try simp only [within] at hb) <;> try (simp only [go_sem, hne, hi, hlt, hg, hml, encN, List.length_map, Int.toNat_natCast])) | refine And.intro (by (first | exact trivial | (simp only [I64]; omega) | omega)) ?_ | (with_reducible rw [vc_draw_eq]; first | refine CV.draw (id := 3) [(0, 0), (0, 0), (0, 0), (0, 0), (0, 0), (0, 0), (0, 0), (0, 0), (0, 0), (0, 0), (0, 0)] mixed rfl (by kernel_rfl) ?_) | (first | (refine vcP_pure (h91) rfl ?_ ?_ ?_; (focus (first | rfl | ((simp only [go_sem, hne, hi, hlt, hg, hml, encN, List.length_map, Int.toNat_natCast, AV.pureL, AV.pure, pureL_mapI, Bool.and_self]) <;> fail))); (focus (first | ((simp only [go_sem, hne, hi, hlt, hg, hml, encN, List.length_map, Int.toNat_natCast]) <;> fail) | rfl))) | (refine dCallP_pure (h91) rfl ?_ ?_ ?_; (focus (first | rfl | ((simp only [go_sem, hne, hi, hlt, hg, hml, encN, List.length_map, Int.toNat_natCast, AV.pureL, AV.pure, pureL_mapI, Bool.and_self]) <;> fail))); (focus (first | ((simp only [go_sem, hne, hi, hlt, hg, hml, encN, List.length_map, Int.toNat_natCast]) <;> fail) | rfl))) | (refine dCallC_pure (h91) rfl ?_ ?_ ?_; (focus (first | rfl | ((simp only [go_sem, hne, hi, hlt, hg, hml, encN, List.length_map, Int.toNat_natCast, AV.pureL, AV.pure, pureL_mapI, Bool.and_self]) <;> fail))); (focus (first | ((simp only [go_sem, hne, hi, hlt, hg, hml, encN, List.length_map, Int.toNat_natCast]) <;> fail) | rfl))) | refine dCallC_safe (h91) rfl rfl (by (simp only [go_sem, hne, hi, hlt, hg, hml, encN, List.length_map, Int.toNat_natCast])) ?_ | refine vcP_safe (h91) rfl rfl (by (simp only [go_sem, hne, hi, hlt, hg, hml, encN, List.length_map, Int.toNat_natCast])) ?_ | refine dCallP_safe (h91) rfl rfl ?_ | (refine vcP_pure (h1) rfl ?_ ?_ ?_; (focus (first | rfl | ((simp only [go_sem, hne, hi, hlt, hg, hml, encN, List.length_map, Int.toNat_natCast, AV.pureL, AV.pure, pureL_mapI, Bool.and_self]) <;> fail))); (focus (first | ((simp only [go_sem, hne, hi, hlt, hg, hml, encN, List.length_map, Int.toNat_natCast]) <;> fail) | rfl))) | (refine dCallP_pure (h1) rfl ?_ ?_ ?_; (focus (first | rfl | ((simp only [go_sem, hne, hi, hlt, hg, hml, encN, List.length_map, Int.toNat_natCast, AV.pureL, AV.pure, pureL_mapI, Bool.and_self]) <;> fail))); (focus (first | ((simp only [go_sem, hne, hi, hlt, hg, hml, encN, List.length_map, Int.toNat_natCast]) <;> fail) | rfl))) | (refine dCallC_pure (h1) rfl ?_ ?_ ?_; (focus (first | rfl | ((simp only [go_sem, hne, hi, hlt, hg, hml, encN, List.length_map, Int.toNat_natCast, AV.pureL, AV.pure, pureL_mapI, Bool.and_self]) <;> fail))); (focus (first | ((simp only [go_sem, hne, hi, hlt, hg, hml, encN, List.length_map, Int.toNat_natCast]) <;> fail) | rfl))) | refine dCallC_safe (h1) rfl rfl (by (simp only [go_sem, hne, hi, hlt, hg, hml, encN, List.length_map, Int.toNat_natCast])) ?_ | refine vcP_safe (h1) rfl rfl (by (simp only [go_sem, hne, hi, hlt, hg, hml, encN, List.length_map, Int.toNat_natCast])) ?_ | refine dCallP_safe (h1) rfl rfl ?_) | (simp only [go_sem, hne, hi, hlt, hg, hml, encN, List.length_map, Int.toNat_natCast])))
    all_goals omega
end Go.Proofs.Ytjjlcjibhjmhmaa

