/- Contracts of functions of the given program, without a condition beyond those that each theorem states; they lead to the given statement. -/
import Derived.Test.YtjjlcjibhjmhmaaU05x
set_option linter.unusedSimpArgs false
set_option linter.unusedVariables false
set_option maxRecDepth 100000
namespace Go.Proofs.Ytjjlcjibhjmhmaa
open Go Go.Fl
open Classical
def one (j : Job) : Job := ⟨j.beat, j.low, j.high, j.pour, j.due, 1⟩
def ones (s : List Job) : List Job := s.map one
theorem ones_len {s : List Job} : (ones s).length = s.length := by simp [ones]
theorem ones_valid {s : List Job} (hv : valid s) : valid (ones s) := by
  refine ⟨by rw [ones_len]; exact hv.1, fun j hj => ?_⟩
  obtain ⟨i, hi, rfl⟩ := List.mem_map.1 hj
  have := hv.2 i hi
  unfold okJob one within at *
  simp only; omega
theorem ones_jb {s : List Job} {x : Int} (h : within x 0 (s.length - 1)) : jb (ones s) x = one (jb s x) := by
  have h1 := jb_at h
  unfold ones
  have : jb (s.map one) x = (s.map one)[x.toNat]?.getD ⟨0, 0, 0, 0, 0, 0⟩ := rfl
  rw [this, List.getElem?_map, h1]; rfl
theorem ones_fold {s : List Job} : ∀ (l : List Int) (m : Int × Int), onJ s l → l.foldl (stp (ones s) (hiD (ones s))) m = l.foldl (stp s (hiD s)) m
  | [], m, _ => rfl
  | x :: l, m, h => by
    simp only [List.foldl_cons]
    rw [ones_fold l _ fun y hy => h y (by simp [hy])]
    simp only [stp, hiD, ones_jb (h x (by simp)), one]
theorem ones_sn {s : List Job} {o : List Int} (ho : onJ s o) : ∀ k : Nat, k ≤ o.length → worT (ones s) (hiD (ones s)) o k = snT s o k
  | 0, _ => rfl
  | k + 1, hk => by
    have ih := ones_sn ho k (by omega)
    obtain ⟨x, hx⟩ := get_of (l := o) (j := k) (by omega)
    have hj := ones_jb (ho x (List.mem_of_getElem? hx))
    have hd : (fin (ones s) (hiD (ones s)) (o.take (k + 1))).2 = (fin s (hiD s) (o.take (k + 1))).2 := by
      unfold fin; rw [ones_fold _ _ fun y hy => ho y (List.mem_of_mem_take hy)]
    by_cases c : (fin s (hiD s) (o.take (k + 1))).2 ≤ (jb s x).due
    · rw [worT_yes hx (by rw [hd, hj]; exact c), snT_yes hx c, ih, hj]; rfl
    · rw [worT_no hx (by rw [hd, hj]; exact c), snT_no hx c, ih]
theorem ones_best {s : List Job} (hv : valid s) : bestM (ones s) = mostM s := by
  obtain ⟨h1, o, h2, h3⟩ := most_spec (s := s)
  obtain ⟨g1, g2, g3⟩ := best_spec (ones_valid hv)
  rw [ones_len] at g1 g3
  have e1 : swo (ones s) (bestO (ones s)) = snT s (bestO (ones s)) (bestO (ones s)).length := ones_sn g1.on _ (Nat.le_refl _)
  have e2 : swo (ones s) o = snT s o o.length := ones_sn h2.on _ (Nat.le_refl _)
  have := h1 _ g1
  have := (g3 o h2).1
  omega
theorem setJ {m : List Job} {i : Nat} {j : Job} : (m.map encJ).set i (encJ j) = (m.set i j).map encJ := by rw [List.map_set]
set_option maxHeartbeats 2000000 in
theorem c52 (s : List Job) (hl : s.length ≤ 1000000) : PC Try.prog 52 [hS s] (.tup [.int .i64 (if check s = 0 then mostM s else 0), .int .i64 (check s)]) := by
  by_cases hv : valid s
  · have hc := check_yes hv
    have h6 := hv.1
    have h49 := c49 (ones s)
    rw [check_yes (ones_valid hv), if_pos rfl, ones_best hv] at h49
    rw [hc, if_pos rfl]
    refine PC.body Try.func52 (by kernel_rfl) rfl (by simp [Try.f52]) rfl ?_
    simp only [Try.f52]
    intro hlen
    simp only [go_sem, List.length_map, and_true, true_and] at hlen
    refine CV.run ?_
    (repeat' (first | ((first | with_reducible refine vcG_split ?_ ?_ | with_reducible refine vcIf_split ?_ ?_ | with_reducible refine vcQ_split ?_ ?_ | with_reducible refine vcDG_split ?_ ?_) <;> intro hb <;> (try rw [hb]) <;> (try simp only [Bool.and_eq_true, Bool.or_eq_true, dtrue, dfalse, Bool.not_eq_true', Bool.not_eq_false', Bool.and_eq_false_iff, Bool.or_eq_false_iff, Bool.not_true, Bool.not_false] at hb) <;> (try simp only [within] at hb) <;> try (simp only [go_sem, hc])) | refine And.intro (by (first | exact trivial | (simp only [I64]; omega) | omega)) ?_ | (first | (refine vcP_pure (c42 _) rfl ?_ ?_ ?_; (focus (first | rfl | ((simp only [go_sem, hc, AV.pureL, AV.pure, pureL_mapI, Bool.and_self]) <;> fail))); (focus (first | ((simp only [go_sem, hc]) <;> fail) | rfl))) | (refine dCallP_pure (c42 _) rfl ?_ ?_ ?_; (focus (first | rfl | ((simp only [go_sem, hc, AV.pureL, AV.pure, pureL_mapI, Bool.and_self]) <;> fail))); (focus (first | ((simp only [go_sem, hc]) <;> fail) | rfl))) | (refine dCallC_pure (c42 _) rfl ?_ ?_ ?_; (focus (first | rfl | ((simp only [go_sem, hc, AV.pureL, AV.pure, pureL_mapI, Bool.and_self]) <;> fail))); (focus (first | ((simp only [go_sem, hc]) <;> fail) | rfl))) | refine dCallC_safe (c42 _) rfl rfl (by (simp only [go_sem, hc])) ?_ | refine vcP_safe (c42 _) rfl rfl (by (simp only [go_sem, hc])) ?_ | refine dCallP_safe (c42 _) rfl rfl ?_) | (simp only [go_sem, hc])))
    refine vcP_new (h18 s (by omega)) rfl ?_
    (repeat' (first | ((first | with_reducible refine vcG_split ?_ ?_ | with_reducible refine vcIf_split ?_ ?_ | with_reducible refine vcQ_split ?_ ?_ | with_reducible refine vcDG_split ?_ ?_) <;> intro hb <;> (try rw [hb]) <;> (try simp only [Bool.and_eq_true, Bool.or_eq_true, dtrue, dfalse, Bool.not_eq_true', Bool.not_eq_false', Bool.and_eq_false_iff, Bool.or_eq_false_iff, Bool.not_true, Bool.not_false] at hb) <;> (try simp only [within] at hb) <;> try (simp only [go_sem, List.map_cons, List.map_nil, List.cons_append, List.nil_append])) | refine And.intro (by (first | exact trivial | (simp only [I64]; omega) | omega)) ?_ | fail | (simp only [go_sem, List.map_cons, List.map_nil, List.cons_append, List.nil_append])))
    refine vc_fx (fun j (m : List Job) => ⟨[(6, .int .i64 j), (5, .lp 4 0), (2, .int .i64 0), (3, .int .i64 0)], [.box 24 (cS s) false, .box 24 (cS s) false, .box 24 [.row 3 s.length] false, .row 42 6 (m.map encJ) false, .box 24 [.row 3 s.length] false]⟩) s.length (fun j m => m.length = s.length ∧ ∀ i : Nat, m[i]? = if i < j then (s[i]?).map one else s[i]?) s (.base (by (first | exact wk_same (by (simp only [go_sem, Int.natCast_add, Int.natCast_one, Int.natCast_zero, Int.cast_ofNat_Int])) | exact wk_drop (by (simp only [go_sem, Int.natCast_add, Int.natCast_one, Int.natCast_zero, Int.cast_ofNat_Int])) (by (simp only [go_sem, Int.natCast_add, Int.natCast_one, Int.natCast_zero, Int.cast_ofNat_Int])) (by (simp only [go_sem, Int.natCast_add, Int.natCast_one, Int.natCast_zero, Int.cast_ofNat_Int])) (by (simp only [go_sem, Int.natCast_add, Int.natCast_one, Int.natCast_zero, Int.cast_ofNat_Int])) (by (simp only [go_sem, Int.natCast_add, Int.natCast_one, Int.natCast_zero, Int.cast_ofNat_Int]))))) ⟨rfl, fun i => by simp⟩ ?_
    intro j m hj hx
    obtain ⟨x1, x2⟩ := hx
    rcases Nat.lt_or_ge j s.length with hlt | hge
    · obtain ⟨a, ha⟩ := get_of hlt
      have hlt' : (j : Int) < s.length := by omega
      have hm : m[j]? = some a := by rw [x2 j, if_neg (by omega), ha]
      have hset := setJ (m := m) (i := j) (j := one a)
      simp only [encJ, one] at hset
      (repeat' (first | ((first | with_reducible refine vcG_split ?_ ?_ | with_reducible refine vcIf_split ?_ ?_ | with_reducible refine vcQ_split ?_ ?_ | with_reducible refine vcDG_split ?_ ?_) <;> intro hb <;> (try rw [hb]) <;> (try simp only [Bool.and_eq_true, Bool.or_eq_true, dtrue, dfalse, Bool.not_eq_true', Bool.not_eq_false', Bool.and_eq_false_iff, Bool.or_eq_false_iff, Bool.not_true, Bool.not_false] at hb) <;> (try simp only [within] at hb) <;> try (simp only [go_sem, hlt', hm, hset, x1, encJ, List.length_map])) | refine And.intro (by (first | exact trivial | (simp only [I64]; omega) | omega)) ?_ | fail | (simp only [go_sem, hlt', hm, hset, x1, encJ, List.length_map])))
      refine ⟨m.set j (one a), hlt, .base (by (first | exact wk_same (by (simp only [go_sem, Int.natCast_add, Int.natCast_one, Int.natCast_zero, Int.cast_ofNat_Int, one])) | exact wk_drop (by (simp only [go_sem, Int.natCast_add, Int.natCast_one, Int.natCast_zero, Int.cast_ofNat_Int, one])) (by (simp only [go_sem, Int.natCast_add, Int.natCast_one, Int.natCast_zero, Int.cast_ofNat_Int, one])) (by (simp only [go_sem, Int.natCast_add, Int.natCast_one, Int.natCast_zero, Int.cast_ofNat_Int, one])) (by (simp only [go_sem, Int.natCast_add, Int.natCast_one, Int.natCast_zero, Int.cast_ofNat_Int, one])) (by (simp only [go_sem, Int.natCast_add, Int.natCast_one, Int.natCast_zero, Int.cast_ofNat_Int, one])))), by simp [x1], fun i => ?_⟩
      rw [List.getElem?_set]
      by_cases e : j = i
      · subst e
        rw [if_pos rfl, if_pos (by omega), if_pos (by omega), ha]; rfl
      · rw [if_neg e, x2 i]
        by_cases h : i < j
        · rw [if_pos h, if_pos (by omega)]
        · rw [if_neg h, if_neg (by omega)]
    · have hge' : ¬ (j : Int) < s.length := by omega
      have hmo : m = ones s := by
        apply List.ext_getElem?
        intro i
        rw [x2 i]
        unfold ones
        rw [List.getElem?_map]
        by_cases h : i < j
        · rw [if_pos h]
        · rw [if_neg h, List.getElem?_eq_none (by omega)]; rfl
      subst hmo
      (repeat' (first | ((first | with_reducible refine vcG_split ?_ ?_ | with_reducible refine vcIf_split ?_ ?_ | with_reducible refine vcQ_split ?_ ?_ | with_reducible refine vcDG_split ?_ ?_) <;> intro hb <;> (try rw [hb]) <;> (try simp only [Bool.and_eq_true, Bool.or_eq_true, dtrue, dfalse, Bool.not_eq_true', Bool.not_eq_false', Bool.and_eq_false_iff, Bool.or_eq_false_iff, Bool.not_true, Bool.not_false] at hb) <;> (try simp only [within] at hb) <;> try (simp only [go_sem, hge', List.length_map, ones_len])) | refine And.intro (by (first | exact trivial | (simp only [I64]; omega) | omega)) ?_ | (first | (refine vcP_pure (h49) rfl ?_ ?_ ?_; (focus (first | rfl | ((simp only [go_sem, hge', List.length_map, ones_len, AV.pureL, AV.pure, pureL_mapI, Bool.and_self]) <;> fail))); (focus (first | ((simp only [go_sem, hge', List.length_map, ones_len]) <;> fail) | rfl))) | (refine dCallP_pure (h49) rfl ?_ ?_ ?_; (focus (first | rfl | ((simp only [go_sem, hge', List.length_map, ones_len, AV.pureL, AV.pure, pureL_mapI, Bool.and_self]) <;> fail))); (focus (first | ((simp only [go_sem, hge', List.length_map, ones_len]) <;> fail) | rfl))) | (refine dCallC_pure (h49) rfl ?_ ?_ ?_; (focus (first | rfl | ((simp only [go_sem, hge', List.length_map, ones_len, AV.pureL, AV.pure, pureL_mapI, Bool.and_self]) <;> fail))); (focus (first | ((simp only [go_sem, hge', List.length_map, ones_len]) <;> fail) | rfl))) | refine dCallC_safe (h49) rfl rfl (by (simp only [go_sem, hge', List.length_map, ones_len])) ?_ | refine vcP_safe (h49) rfl rfl (by (simp only [go_sem, hge', List.length_map, ones_len])) ?_ | refine dCallP_safe (h49) rfl rfl ?_) | (simp only [go_sem, hge', List.length_map, ones_len])))
  · have hc := check_no hv
    rw [hc, if_neg (by omega)]
    refine PC.body Try.func52 (by kernel_rfl) rfl (by simp [Try.f52]) rfl ?_
    simp only [Try.f52]
    intro hlen
    simp only [go_sem, List.length_map, and_true, true_and] at hlen
    refine CV.run ?_
    (repeat' (first | ((first | with_reducible refine vcG_split ?_ ?_ | with_reducible refine vcIf_split ?_ ?_ | with_reducible refine vcQ_split ?_ ?_ | with_reducible refine vcDG_split ?_ ?_) <;> intro hb <;> (try rw [hb]) <;> (try simp only [Bool.and_eq_true, Bool.or_eq_true, dtrue, dfalse, Bool.not_eq_true', Bool.not_eq_false', Bool.and_eq_false_iff, Bool.or_eq_false_iff, Bool.not_true, Bool.not_false] at hb) <;> (try simp only [within] at hb) <;> try (simp only [go_sem, hc])) | refine And.intro (by (first | exact trivial | (simp only [I64]; omega) | omega)) ?_ | (first | (refine vcP_pure (c42 _) rfl ?_ ?_ ?_; (focus (first | rfl | ((simp only [go_sem, hc, AV.pureL, AV.pure, pureL_mapI, Bool.and_self]) <;> fail))); (focus (first | ((simp only [go_sem, hc]) <;> fail) | rfl))) | (refine dCallP_pure (c42 _) rfl ?_ ?_ ?_; (focus (first | rfl | ((simp only [go_sem, hc, AV.pureL, AV.pure, pureL_mapI, Bool.and_self]) <;> fail))); (focus (first | ((simp only [go_sem, hc]) <;> fail) | rfl))) | (refine dCallC_pure (c42 _) rfl ?_ ?_ ?_; (focus (first | rfl | ((simp only [go_sem, hc, AV.pureL, AV.pure, pureL_mapI, Bool.and_self]) <;> fail))); (focus (first | ((simp only [go_sem, hc]) <;> fail) | rfl))) | refine dCallC_safe (c42 _) rfl rfl (by (simp only [go_sem, hc])) ?_ | refine vcP_safe (c42 _) rfl rfl (by (simp only [go_sem, hc])) ?_ | refine dCallP_safe (c42 _) rfl rfl ?_) | (simp only [go_sem, hc])))
end Go.Proofs.Ytjjlcjibhjmhmaa

