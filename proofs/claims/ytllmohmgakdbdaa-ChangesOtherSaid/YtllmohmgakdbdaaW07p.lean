/- Contracts of functions of the given program, without a condition beyond those that each theorem states; they lead to the given statement. -/
import Derived.Test.YtllmohmgakdbdaaW07o
set_option linter.unusedSimpArgs false
set_option linter.unusedVariables false
set_option maxRecDepth 100000
namespace Go.Proofs.Ytllmohmgakdbdaa
open Go Go.Fl
open Classical
theorem sv_bounds (ts : List Thing) (ms : List Mark) (hv : okThings ts) (hm : okMarks ts ms) (h8 : ts.length ≤ 8) (c i : Int) (hi : 0 ≤ i ∧ i < ts.length) : 0 ≤ gv (sP ts ms c) i ∧ gv (sP ts ms c) i ≤ 100 := by
  obtain ⟨t, ht⟩ := get_of (l := ts) (j := i.toNat) (by omega)
  have hok := hv _ _ ht
  constructor
  · have h := hasAt_iff ts ms hv hm h8 c i (-1) hi (by omega)
    rcases Int.lt_or_le (gv (sP ts ms c) i) 0 with hl | hl
    · have := h.2 (by omega)
      unfold hasAt at this
      rw [hasOf_succ ts ms c _ i t ht] at this
      have h1 := hok.2.1
      unfold within at h1
      omega
    · exact hl
  · have e := (fo_lt ts ms c i.toNat ts.length (by omega)).1
    rw [(fo_at ts ms c i.toNat t ht (by omega)).1, Int.toNat_of_nonneg hi.1] at e
    show gv (fo ts ms c ts.length).1 i ≤ 100
    rw [e, mk_le _ _ _ _ _ _ (Nat.le_refl _)]
    left
    have h1 := hok.2.1
    unfold within at h1
    unfold init; split <;> simp only <;> omega
theorem since_gv (ts : List Thing) (ms : List Mark) (hv : okThings ts) (hm : okMarks ts ms) (h8 : ts.length ≤ 8) (c i : Int) (hi : 0 ≤ i ∧ i < ts.length) : sinceOf ts ms i c = if gv (sP ts ms c) i = 100 then -1 else gv (sP ts ms c) i := by
  have hb := sv_bounds ts ms hv hm h8 c i hi
  have hh := fun (k : Nat) (hk : k < 100) => hasAt_iff ts ms hv hm h8 c i k hi (by omega)
  unfold sinceOf
  split
  · exact least_no (p := fun k : Nat => hasAt ts ms c i k) 100 fun k hk h => by
      have := (hh k hk).1 h; omega
  · have := least_at (p := fun k : Nat => hasAt ts ms c i k) (j := (gv (sP ts ms c) i).toNat) ((hh _ (by omega)).2 (by omega)) (fun k hk h => by have := (hh k (by omega)).1 h; omega) 100 (by omega)
    rw [this]; omega
theorem c48 (ts : List Thing) (ms : List Mark) (i c : Int) : PC Try.prog 48 [hT ts ms, .int .i64 i, .int .i64 c] (.tup [.int .i64 (rSince ts ms i c).1, .int .i64 (rSince ts ms i c).2]) := by
  by_cases hq : valid ts ms ∧ within i 0 (ts.length - 1) ∧ within c 0 2
  · obtain ⟨hv, hi, hc⟩ := id hq
    rw [show rSince ts ms i c = _ from answer_yes hq]
    have hk := askP_ok hv
    have hl := hv.1
    have hir : 0 ≤ i ∧ i < ts.length := by unfold within at hi; omega
    rw [since_gv ts ms hv.things hv.marks hv.1 c i hir]
    have hb0 := sv_bounds ts ms hv.things hv.marks hv.1 c i hir
    have hi8 : 0 ≤ i ∧ i < 8 := by omega
    have hgs : ((sP ts ms c).map I ++ (bP ts ms c).map I)[i.toNat]? = some (.int .i64 (gv (sP ts ms c) i)) := by
      rw [get_s (by rw [sP_len]; omega), gv_get (by rw [sP_len]; omega)]; rfl
    by_cases hs : gv (sP ts ms c) i = 100
    · rw [if_pos hs, if_pos (by omega)]
      rw [hs] at hgs
      refine PC.body Try.func48 (by kernel_rfl) rfl (by simp [Try.f48]) rfl ?_
      simp only [Try.f48]
      intro hlen
      simp only [go_sem, List.length_map, and_true, true_and] at hlen
      refine CV.run ?_
      (repeat' (first | ((first | with_reducible refine vcG_split ?_ ?_ | with_reducible refine vcIf_split ?_ ?_ | with_reducible refine vcQ_split ?_ ?_ | with_reducible refine vcDG_split ?_ ?_) <;> intro hb <;> (try rw [hb]) <;> (try simp only [Bool.and_eq_true, Bool.or_eq_true, dtrue, dfalse, Bool.not_eq_true', Bool.not_eq_false', Bool.and_eq_false_iff, Bool.or_eq_false_iff, Bool.not_true, Bool.not_false] at hb) <;> (try simp only [within] at hb) <;> try (simp only [go_sem, hi, hc, hk, hs, hgs, hi8, drop_head, Nat.mul_one, pureL_I, frL_I, frzL_I])) | refine And.intro (by (first | exact trivial | (simp only [I64]; omega) | omega)) ?_ | (with_reducible rw [vc_draw_eq]; first | refine CV.draw (id := 1) [(0, 0), (0, 0), (0, 0), (0, 0), (0, 0), (0, 0), (0, 0), (0, 0), (0, 0), (0, 0)] mixed rfl (by kernel_rfl) ?_) | (first | (refine vcP_pure (c67 _ _ _) rfl ?_ ?_ ?_; (focus (first | rfl | ((simp only [go_sem, hi, hc, hk, hs, hgs, hi8, drop_head, Nat.mul_one, pureL_I, frL_I, frzL_I, AV.pureL, AV.pure, pureL_mapI, Bool.and_self]) <;> fail))); (focus (first | ((simp only [go_sem, hi, hc, hk, hs, hgs, hi8, drop_head, Nat.mul_one, pureL_I, frL_I, frzL_I]) <;> fail) | rfl))) | (refine dCallP_pure (c67 _ _ _) rfl ?_ ?_ ?_; (focus (first | rfl | ((simp only [go_sem, hi, hc, hk, hs, hgs, hi8, drop_head, Nat.mul_one, pureL_I, frL_I, frzL_I, AV.pureL, AV.pure, pureL_mapI, Bool.and_self]) <;> fail))); (focus (first | ((simp only [go_sem, hi, hc, hk, hs, hgs, hi8, drop_head, Nat.mul_one, pureL_I, frL_I, frzL_I]) <;> fail) | rfl))) | refine vcP_safe (c67 _ _ _) rfl rfl (by (simp only [go_sem, hi, hc, hk, hs, hgs, hi8, drop_head, Nat.mul_one, pureL_I, frL_I, frzL_I])) ?_ | refine dCallP_safe (c67 _ _ _) rfl rfl ?_ | (refine vcP_pure (c60 _) rfl ?_ ?_ ?_; (focus (first | rfl | ((simp only [go_sem, hi, hc, hk, hs, hgs, hi8, drop_head, Nat.mul_one, pureL_I, frL_I, frzL_I, AV.pureL, AV.pure, pureL_mapI, Bool.and_self]) <;> fail))); (focus (first | ((simp only [go_sem, hi, hc, hk, hs, hgs, hi8, drop_head, Nat.mul_one, pureL_I, frL_I, frzL_I]) <;> fail) | rfl))) | (refine dCallP_pure (c60 _) rfl ?_ ?_ ?_; (focus (first | rfl | ((simp only [go_sem, hi, hc, hk, hs, hgs, hi8, drop_head, Nat.mul_one, pureL_I, frL_I, frzL_I, AV.pureL, AV.pure, pureL_mapI, Bool.and_self]) <;> fail))); (focus (first | ((simp only [go_sem, hi, hc, hk, hs, hgs, hi8, drop_head, Nat.mul_one, pureL_I, frL_I, frzL_I]) <;> fail) | rfl))) | refine vcP_safe (c60 _) rfl rfl (by (simp only [go_sem, hi, hc, hk, hs, hgs, hi8, drop_head, Nat.mul_one, pureL_I, frL_I, frzL_I])) ?_ | refine dCallP_safe (c60 _) rfl rfl ?_ | (refine vcP_pure (c59 _ _ _) rfl ?_ ?_ ?_; (focus (first | rfl | ((simp only [go_sem, hi, hc, hk, hs, hgs, hi8, drop_head, Nat.mul_one, pureL_I, frL_I, frzL_I, AV.pureL, AV.pure, pureL_mapI, Bool.and_self]) <;> fail))); (focus (first | ((simp only [go_sem, hi, hc, hk, hs, hgs, hi8, drop_head, Nat.mul_one, pureL_I, frL_I, frzL_I]) <;> fail) | rfl))) | (refine dCallP_pure (c59 _ _ _) rfl ?_ ?_ ?_; (focus (first | rfl | ((simp only [go_sem, hi, hc, hk, hs, hgs, hi8, drop_head, Nat.mul_one, pureL_I, frL_I, frzL_I, AV.pureL, AV.pure, pureL_mapI, Bool.and_self]) <;> fail))); (focus (first | ((simp only [go_sem, hi, hc, hk, hs, hgs, hi8, drop_head, Nat.mul_one, pureL_I, frL_I, frzL_I]) <;> fail) | rfl))) | refine vcP_safe (c59 _ _ _) rfl rfl (by (simp only [go_sem, hi, hc, hk, hs, hgs, hi8, drop_head, Nat.mul_one, pureL_I, frL_I, frzL_I])) ?_ | refine dCallP_safe (c59 _ _ _) rfl rfl ?_ | (refine vcP_pure (c63 ts ms hv.things hv.1 _) rfl ?_ ?_ ?_; (focus (first | rfl | ((simp only [go_sem, hi, hc, hk, hs, hgs, hi8, drop_head, Nat.mul_one, pureL_I, frL_I, frzL_I, AV.pureL, AV.pure, pureL_mapI, Bool.and_self]) <;> fail))); (focus (first | ((simp only [go_sem, hi, hc, hk, hs, hgs, hi8, drop_head, Nat.mul_one, pureL_I, frL_I, frzL_I]) <;> fail) | rfl))) | (refine dCallP_pure (c63 ts ms hv.things hv.1 _) rfl ?_ ?_ ?_; (focus (first | rfl | ((simp only [go_sem, hi, hc, hk, hs, hgs, hi8, drop_head, Nat.mul_one, pureL_I, frL_I, frzL_I, AV.pureL, AV.pure, pureL_mapI, Bool.and_self]) <;> fail))); (focus (first | ((simp only [go_sem, hi, hc, hk, hs, hgs, hi8, drop_head, Nat.mul_one, pureL_I, frL_I, frzL_I]) <;> fail) | rfl))) | refine vcP_safe (c63 ts ms hv.things hv.1 _) rfl rfl (by (simp only [go_sem, hi, hc, hk, hs, hgs, hi8, drop_head, Nat.mul_one, pureL_I, frL_I, frzL_I])) ?_ | refine dCallP_safe (c63 ts ms hv.things hv.1 _) rfl rfl ?_) | (simp only [go_sem, hi, hc, hk, hs, hgs, hi8, drop_head, Nat.mul_one, pureL_I, frL_I, frzL_I])))
      all_goals omega
    · rw [if_neg hs, if_neg (by omega)]
      refine PC.body Try.func48 (by kernel_rfl) rfl (by simp [Try.f48]) rfl ?_
      simp only [Try.f48]
      intro hlen
      simp only [go_sem, List.length_map, and_true, true_and] at hlen
      refine CV.run ?_
      (repeat' (first | ((first | with_reducible refine vcG_split ?_ ?_ | with_reducible refine vcIf_split ?_ ?_ | with_reducible refine vcQ_split ?_ ?_ | with_reducible refine vcDG_split ?_ ?_) <;> intro hb <;> (try rw [hb]) <;> (try simp only [Bool.and_eq_true, Bool.or_eq_true, dtrue, dfalse, Bool.not_eq_true', Bool.not_eq_false', Bool.and_eq_false_iff, Bool.or_eq_false_iff, Bool.not_true, Bool.not_false] at hb) <;> (try simp only [within] at hb) <;> try (simp only [go_sem, hi, hc, hk, hs, hgs, hi8, drop_head, Nat.mul_one, pureL_I, frL_I, frzL_I])) | refine And.intro (by (first | exact trivial | (simp only [I64]; omega) | omega)) ?_ | (with_reducible rw [vc_draw_eq]; first | refine CV.draw (id := 1) [(0, 0), (0, 0), (0, 0), (0, 0), (0, 0), (0, 0), (0, 0), (0, 0), (0, 0), (0, 0)] mixed rfl (by kernel_rfl) ?_) | (first | (refine vcP_pure (c67 _ _ _) rfl ?_ ?_ ?_; (focus (first | rfl | ((simp only [go_sem, hi, hc, hk, hs, hgs, hi8, drop_head, Nat.mul_one, pureL_I, frL_I, frzL_I, AV.pureL, AV.pure, pureL_mapI, Bool.and_self]) <;> fail))); (focus (first | ((simp only [go_sem, hi, hc, hk, hs, hgs, hi8, drop_head, Nat.mul_one, pureL_I, frL_I, frzL_I]) <;> fail) | rfl))) | (refine dCallP_pure (c67 _ _ _) rfl ?_ ?_ ?_; (focus (first | rfl | ((simp only [go_sem, hi, hc, hk, hs, hgs, hi8, drop_head, Nat.mul_one, pureL_I, frL_I, frzL_I, AV.pureL, AV.pure, pureL_mapI, Bool.and_self]) <;> fail))); (focus (first | ((simp only [go_sem, hi, hc, hk, hs, hgs, hi8, drop_head, Nat.mul_one, pureL_I, frL_I, frzL_I]) <;> fail) | rfl))) | refine vcP_safe (c67 _ _ _) rfl rfl (by (simp only [go_sem, hi, hc, hk, hs, hgs, hi8, drop_head, Nat.mul_one, pureL_I, frL_I, frzL_I])) ?_ | refine dCallP_safe (c67 _ _ _) rfl rfl ?_ | (refine vcP_pure (c60 _) rfl ?_ ?_ ?_; (focus (first | rfl | ((simp only [go_sem, hi, hc, hk, hs, hgs, hi8, drop_head, Nat.mul_one, pureL_I, frL_I, frzL_I, AV.pureL, AV.pure, pureL_mapI, Bool.and_self]) <;> fail))); (focus (first | ((simp only [go_sem, hi, hc, hk, hs, hgs, hi8, drop_head, Nat.mul_one, pureL_I, frL_I, frzL_I]) <;> fail) | rfl))) | (refine dCallP_pure (c60 _) rfl ?_ ?_ ?_; (focus (first | rfl | ((simp only [go_sem, hi, hc, hk, hs, hgs, hi8, drop_head, Nat.mul_one, pureL_I, frL_I, frzL_I, AV.pureL, AV.pure, pureL_mapI, Bool.and_self]) <;> fail))); (focus (first | ((simp only [go_sem, hi, hc, hk, hs, hgs, hi8, drop_head, Nat.mul_one, pureL_I, frL_I, frzL_I]) <;> fail) | rfl))) | refine vcP_safe (c60 _) rfl rfl (by (simp only [go_sem, hi, hc, hk, hs, hgs, hi8, drop_head, Nat.mul_one, pureL_I, frL_I, frzL_I])) ?_ | refine dCallP_safe (c60 _) rfl rfl ?_ | (refine vcP_pure (c59 _ _ _) rfl ?_ ?_ ?_; (focus (first | rfl | ((simp only [go_sem, hi, hc, hk, hs, hgs, hi8, drop_head, Nat.mul_one, pureL_I, frL_I, frzL_I, AV.pureL, AV.pure, pureL_mapI, Bool.and_self]) <;> fail))); (focus (first | ((simp only [go_sem, hi, hc, hk, hs, hgs, hi8, drop_head, Nat.mul_one, pureL_I, frL_I, frzL_I]) <;> fail) | rfl))) | (refine dCallP_pure (c59 _ _ _) rfl ?_ ?_ ?_; (focus (first | rfl | ((simp only [go_sem, hi, hc, hk, hs, hgs, hi8, drop_head, Nat.mul_one, pureL_I, frL_I, frzL_I, AV.pureL, AV.pure, pureL_mapI, Bool.and_self]) <;> fail))); (focus (first | ((simp only [go_sem, hi, hc, hk, hs, hgs, hi8, drop_head, Nat.mul_one, pureL_I, frL_I, frzL_I]) <;> fail) | rfl))) | refine vcP_safe (c59 _ _ _) rfl rfl (by (simp only [go_sem, hi, hc, hk, hs, hgs, hi8, drop_head, Nat.mul_one, pureL_I, frL_I, frzL_I])) ?_ | refine dCallP_safe (c59 _ _ _) rfl rfl ?_ | (refine vcP_pure (c63 ts ms hv.things hv.1 _) rfl ?_ ?_ ?_; (focus (first | rfl | ((simp only [go_sem, hi, hc, hk, hs, hgs, hi8, drop_head, Nat.mul_one, pureL_I, frL_I, frzL_I, AV.pureL, AV.pure, pureL_mapI, Bool.and_self]) <;> fail))); (focus (first | ((simp only [go_sem, hi, hc, hk, hs, hgs, hi8, drop_head, Nat.mul_one, pureL_I, frL_I, frzL_I]) <;> fail) | rfl))) | (refine dCallP_pure (c63 ts ms hv.things hv.1 _) rfl ?_ ?_ ?_; (focus (first | rfl | ((simp only [go_sem, hi, hc, hk, hs, hgs, hi8, drop_head, Nat.mul_one, pureL_I, frL_I, frzL_I, AV.pureL, AV.pure, pureL_mapI, Bool.and_self]) <;> fail))); (focus (first | ((simp only [go_sem, hi, hc, hk, hs, hgs, hi8, drop_head, Nat.mul_one, pureL_I, frL_I, frzL_I]) <;> fail) | rfl))) | refine vcP_safe (c63 ts ms hv.things hv.1 _) rfl rfl (by (simp only [go_sem, hi, hc, hk, hs, hgs, hi8, drop_head, Nat.mul_one, pureL_I, frL_I, frzL_I])) ?_ | refine dCallP_safe (c63 ts ms hv.things hv.1 _) rfl rfl ?_) | (simp only [go_sem, hi, hc, hk, hs, hgs, hi8, drop_head, Nat.mul_one, pureL_I, frL_I, frzL_I])))
      all_goals omega
  · rw [show rSince ts ms i c = _ from answer_no hq]
    refine PC.body Try.func48 (by kernel_rfl) rfl (by simp [Try.f48]) rfl ?_
    simp only [Try.f48]
    intro hlen
    simp only [go_sem, List.length_map, and_true, true_and] at hlen
    refine CV.run ?_
    (repeat' (first | ((first | with_reducible refine vcG_split ?_ ?_ | with_reducible refine vcIf_split ?_ ?_ | with_reducible refine vcQ_split ?_ ?_ | with_reducible refine vcDG_split ?_ ?_) <;> intro hb <;> (try rw [hb]) <;> (try simp only [Bool.and_eq_true, Bool.or_eq_true, dtrue, dfalse, Bool.not_eq_true', Bool.not_eq_false', Bool.and_eq_false_iff, Bool.or_eq_false_iff, Bool.not_true, Bool.not_false] at hb) <;> (try simp only [within] at hb) <;> try (simp only [go_sem, dtrue])) | refine And.intro (by (first | exact trivial | (simp only [I64]; omega) | omega)) ?_ | (with_reducible rw [vc_draw_eq]; first | refine CV.draw (id := 1) [(0, 0), (0, 0), (0, 0), (0, 0), (0, 0), (0, 0), (0, 0), (0, 0), (0, 0), (0, 0)] mixed rfl (by kernel_rfl) ?_) | (first | (refine vcP_pure (c67 _ _ _) rfl ?_ ?_ ?_; (focus (first | rfl | ((simp only [go_sem, dtrue, AV.pureL, AV.pure, pureL_mapI, Bool.and_self]) <;> fail))); (focus (first | ((simp only [go_sem, dtrue]) <;> fail) | rfl))) | (refine dCallP_pure (c67 _ _ _) rfl ?_ ?_ ?_; (focus (first | rfl | ((simp only [go_sem, dtrue, AV.pureL, AV.pure, pureL_mapI, Bool.and_self]) <;> fail))); (focus (first | ((simp only [go_sem, dtrue]) <;> fail) | rfl))) | refine vcP_safe (c67 _ _ _) rfl rfl (by (simp only [go_sem, dtrue])) ?_ | refine dCallP_safe (c67 _ _ _) rfl rfl ?_ | (refine vcP_pure (c60 _) rfl ?_ ?_ ?_; (focus (first | rfl | ((simp only [go_sem, dtrue, AV.pureL, AV.pure, pureL_mapI, Bool.and_self]) <;> fail))); (focus (first | ((simp only [go_sem, dtrue]) <;> fail) | rfl))) | (refine dCallP_pure (c60 _) rfl ?_ ?_ ?_; (focus (first | rfl | ((simp only [go_sem, dtrue, AV.pureL, AV.pure, pureL_mapI, Bool.and_self]) <;> fail))); (focus (first | ((simp only [go_sem, dtrue]) <;> fail) | rfl))) | refine vcP_safe (c60 _) rfl rfl (by (simp only [go_sem, dtrue])) ?_ | refine dCallP_safe (c60 _) rfl rfl ?_ | (refine vcP_pure (c59 _ _ _) rfl ?_ ?_ ?_; (focus (first | rfl | ((simp only [go_sem, dtrue, AV.pureL, AV.pure, pureL_mapI, Bool.and_self]) <;> fail))); (focus (first | ((simp only [go_sem, dtrue]) <;> fail) | rfl))) | (refine dCallP_pure (c59 _ _ _) rfl ?_ ?_ ?_; (focus (first | rfl | ((simp only [go_sem, dtrue, AV.pureL, AV.pure, pureL_mapI, Bool.and_self]) <;> fail))); (focus (first | ((simp only [go_sem, dtrue]) <;> fail) | rfl))) | refine vcP_safe (c59 _ _ _) rfl rfl (by (simp only [go_sem, dtrue])) ?_ | refine dCallP_safe (c59 _ _ _) rfl rfl ?_) | (simp only [go_sem, dtrue])))
    all_goals first
      | exact askP_congr (by unfold within; first | omega | (constructor <;> intro h <;> first | exact h.elim | (exfalso; omega)))
      | (exfalso; obtain ⟨hv, hp⟩ := askP_0.1 hb; first | exact hp.elim | exact hq ⟨hv, by unfold within; omega⟩)
def plAt (ts : List Thing) (pl : List Int) (m : Int) (j : Nat) : Prop := risingAt pl 0 (ts.length - 1) j ∧ ∃ n t, pl[j]? = some n ∧ ts[n.toNat]? = some t ∧ t.prints = 1 ∧ t.at_ ≤ m
def arePl (ts : List Thing) (pl : List Int) (m : Int) : Prop := ∀ j, j < pl.length → plAt ts pl m j
def mixOf (ts : List Thing) (ms : List Mark) (pl : List Int) (m : Int) (c : Nat) : Prop := (∃ n, n ∈ pl ∧ hasAt ts ms c n m) ∧ ∃ n, n ∈ pl ∧ ¬ hasAt ts ms c n m
noncomputable def rMixed (ts : List Thing) (ms : List Mark) (pl : List Int) (m : Int) : List Int × Int := answer ts ms (within m 0 99 ∧ arePl ts pl m) [] (sel (mixOf ts ms pl m) 3, 0)
theorem arePl.range {ts : List Thing} {pl : List Int} {m : Int} (h : arePl ts pl m) : ∀ n, n ∈ pl → 0 ≤ n ∧ n < ts.length := by
  intro n hn
  obtain ⟨j, hj⟩ := List.mem_iff_getElem?.1 hn
  obtain ⟨⟨a, h1, h2, _⟩, _⟩ := h j (List.getElem?_eq_some_iff.1 hj).1
  rw [hj] at h1; cases h1
  unfold within at h2; omega
theorem mixes_iff (ts : List Thing) (ms : List Mark) (hv : okThings ts) (hm : okMarks ts ms) (h8 : ts.length ≤ 8) (c : Nat) (pl : List Int) (m : Int) (hr : ∀ n, n ∈ pl → 0 ≤ n ∧ n < ts.length) (h99 : m ≤ 99) : mixes (sP ts ms c) m pl ↔ mixOf ts ms pl m c := by
  have h := fun n hn => hasAt_iff ts ms hv hm h8 c n m (hr n hn) h99
  unfold mixes mixOf
  constructor
  · rintro ⟨⟨a, h1, h2⟩, b, h3, h4⟩
    exact ⟨⟨a, h1, (h a h1).2 h2⟩, b, h3, fun x => h4 ((h b h3).1 x)⟩
  · rintro ⟨⟨a, h1, h2⟩, b, h3, h4⟩
    exact ⟨⟨a, h1, (h a h1).1 h2⟩, b, h3, fun x => h4 ((h b h3).2 x)⟩
end Go.Proofs.Ytllmohmgakdbdaa
