/- Contracts of functions of the given program, without a condition beyond those that each theorem states; they lead to the given statement. -/
import Derived.Test.YtekdocalipchpaaV03k
set_option linter.unusedSimpArgs false
set_option linter.unusedVariables false
set_option linter.unusedVariables false
set_option maxRecDepth 100000
namespace Go.Proofs.Ytekdocalipchpaa
open Go Go.Fl
open Classical
def smT (s : Shop) (l : List Int) (p : Int) (k : Nat) : Int := gv s.wt p - wnT s l p k
theorem smT_zero {s : Shop} {l : List Int} {p : Int} : smT s l p 0 = 0 := by simp only [smT, wnT]; omega
theorem c27 (s : Shop) (hv : valid s) (l : List Int) : PC Try.prog 27 [hS s, lN l] (.bool (decide (isF s l))) := by
  have h5 := hv.2.1
  have hw12 : in12 s.wt := hv.2.2.2.2.1
  have h45 := c45 s l
  by_cases hs : isShB s l = true
  · rw [hs] at h45
    have hl := sh_len hs
    have hl' : (l.length : Int) = s.ms.length := by omega
    have h12 : in12 l := fun n hn => by
      obtain ⟨i, hi⟩ := List.mem_iff_getElem?.1 hn
      exact sh_get hs hi
    refine PC.body Try.func27 (by kernel_rfl) rfl (by simp [Try.f27]) rfl ?_
    simp only [Try.f27]
    intro hlen
    simp only [go_sem, List.length_map, and_true, true_and] at hlen
    refine CV.run ?_
    (repeat' (first | ((first | with_reducible refine vcG_split ?_ ?_ | with_reducible refine vcIf_split ?_ ?_ | with_reducible refine vcQ_split ?_ ?_ | with_reducible refine vcDG_split ?_ ?_) <;> intro hb <;> (try rw [hb]) <;> (try simp only [Bool.and_eq_true, Bool.or_eq_true, dtrue, dfalse, Bool.not_eq_true', Bool.not_eq_false', Bool.and_eq_false_iff, Bool.or_eq_false_iff, Bool.not_true, Bool.not_false] at hb) <;> (try simp only [within] at hb) <;> try (simp only [go_sem, hl'])) | refine And.intro (by (first | exact trivial | (simp only [I64]; omega) | omega)) ?_ | (first | (refine vcP_pure (h45) rfl ?_ ?_ ?_; (focus (first | rfl | ((simp only [go_sem, hl', AV.pureL, AV.pure, pureL_mapI, Bool.and_self]) <;> fail))); (focus (first | ((simp only [go_sem, hl']) <;> fail) | rfl))) | (refine dCallP_pure (h45) rfl ?_ ?_ ?_; (focus (first | rfl | ((simp only [go_sem, hl', AV.pureL, AV.pure, pureL_mapI, Bool.and_self]) <;> fail))); (focus (first | ((simp only [go_sem, hl']) <;> fail) | rfl))) | refine vcP_safe (h45) rfl rfl (by (simp only [go_sem, hl'])) ?_ | refine dCallP_safe (h45) rfl rfl ?_) | (simp only [go_sem, hl'])))
    refine vc_for (fun j => ⟨[(5, .int .i64 j), (4, .bool false), (1, lN l), (2, .lp 0 0)], [.box 26 (cS s) false]⟩) s.wt.length (fun j => ∀ p : Nat, p < j → wan s l p = 0) (by (first | exact wk_same (by (simp only [go_sem, Int.natCast_add, Int.natCast_one, Int.natCast_zero, Int.cast_ofNat_Int])) | exact wk_drop (by (simp only [go_sem, Int.natCast_add, Int.natCast_one, Int.natCast_zero, Int.cast_ofNat_Int])) (by (simp only [go_sem, Int.natCast_add, Int.natCast_one, Int.natCast_zero, Int.cast_ofNat_Int])) (by (simp only [go_sem, Int.natCast_add, Int.natCast_one, Int.natCast_zero, Int.cast_ofNat_Int])) (by (simp only [go_sem, Int.natCast_add, Int.natCast_one, Int.natCast_zero, Int.cast_ofNat_Int])) (by (simp only [go_sem, Int.natCast_add, Int.natCast_one, Int.natCast_zero, Int.cast_ofNat_Int])))) (fun p h => by omega) ?_
    intro j hj hx
    rcases Nat.lt_or_ge j s.wt.length with hlt | hge
    · obtain ⟨wp, hwp⟩ := get_of hlt
      have hlt' : (j : Int) < s.wt.length := by omega
      (repeat' (first | ((first | with_reducible refine vcG_split ?_ ?_ | with_reducible refine vcIf_split ?_ ?_ | with_reducible refine vcQ_split ?_ ?_ | with_reducible refine vcDG_split ?_ ?_) <;> intro hb <;> (try rw [hb]) <;> (try simp only [Bool.and_eq_true, Bool.or_eq_true, dtrue, dfalse, Bool.not_eq_true', Bool.not_eq_false', Bool.and_eq_false_iff, Bool.or_eq_false_iff, Bool.not_true, Bool.not_false] at hb) <;> (try simp only [within] at hb) <;> try (simp only [go_sem, hlt'])) | refine And.intro (by (first | exact trivial | (simp only [I64]; omega) | omega)) ?_ | fail | (simp only [go_sem, hlt'])))
      refine vc_for (fun q => ⟨[(7, .int .i64 q), (6, .int .i64 (smT s l j q)), (5, .int .i64 j), (4, .bool false), (1, lN l), (2, .lp 0 0)], [.box 26 (cS s) false]⟩) l.length (fun q => True) (by (first | exact wk_same (by (simp only [go_sem, Int.natCast_add, Int.natCast_one, Int.natCast_zero, Int.cast_ofNat_Int, smT_zero])) | exact wk_drop (by (simp only [go_sem, Int.natCast_add, Int.natCast_one, Int.natCast_zero, Int.cast_ofNat_Int, smT_zero])) (by (simp only [go_sem, Int.natCast_add, Int.natCast_one, Int.natCast_zero, Int.cast_ofNat_Int, smT_zero])) (by (simp only [go_sem, Int.natCast_add, Int.natCast_one, Int.natCast_zero, Int.cast_ofNat_Int, smT_zero])) (by (simp only [go_sem, Int.natCast_add, Int.natCast_one, Int.natCast_zero, Int.cast_ofNat_Int, smT_zero])) (by (simp only [go_sem, Int.natCast_add, Int.natCast_one, Int.natCast_zero, Int.cast_ofNat_Int, smT_zero])))) trivial ?_
      intro q hq _
      have hb := wnT_bounds (s := s) h12 hw12 j q
      have hgw := hw12.gv j
      have hsm : smT s l j q = gv s.wt j - wnT s l j q := rfl
      rcases Nat.lt_or_ge q l.length with qlt | qge
      · obtain ⟨x, hxx⟩ := get_of qlt
        obtain ⟨m, hm⟩ := get_of (l := s.ms) (j := q) (by omega)
        have hx12 := h12 x (List.mem_of_getElem? hxx)
        have qlt' : (q : Int) < l.length := by omega
        have qlt2 : (q : Int) < s.ms.length := by omega
        have hpg : pg s q = m.page := by simp [pg, hm]
        by_cases hpp : m.page = j
        · have e : smT s l j (q + 1) = smT s l j q + x := by simp only [smT, wnT, hpg, hpp, if_true, gv_nat hxx]; omega
          (repeat' (first | ((first | with_reducible refine vcG_split ?_ ?_ | with_reducible refine vcIf_split ?_ ?_ | with_reducible refine vcQ_split ?_ ?_ | with_reducible refine vcDG_split ?_ ?_) <;> intro hb <;> (try rw [hb]) <;> (try simp only [Bool.and_eq_true, Bool.or_eq_true, dtrue, dfalse, Bool.not_eq_true', Bool.not_eq_false', Bool.and_eq_false_iff, Bool.or_eq_false_iff, Bool.not_true, Bool.not_false] at hb) <;> (try simp only [within] at hb) <;> try (simp only [go_sem, qlt', qlt2, hl', hm, hxx, hpp, encD, encN])) | refine And.intro (by (first | exact trivial | (simp only [I64]; omega) | omega)) ?_ | fail | (simp only [go_sem, qlt', qlt2, hl', hm, hxx, hpp, encD, encN])))
          (first | exact wk_same (by (simp only [go_sem, Int.natCast_add, Int.natCast_one, Int.natCast_zero, Int.cast_ofNat_Int, e])) | exact wk_drop (by (simp only [go_sem, Int.natCast_add, Int.natCast_one, Int.natCast_zero, Int.cast_ofNat_Int, e])) (by (simp only [go_sem, Int.natCast_add, Int.natCast_one, Int.natCast_zero, Int.cast_ofNat_Int, e])) (by (simp only [go_sem, Int.natCast_add, Int.natCast_one, Int.natCast_zero, Int.cast_ofNat_Int, e])) (by (simp only [go_sem, Int.natCast_add, Int.natCast_one, Int.natCast_zero, Int.cast_ofNat_Int, e])) (by (simp only [go_sem, Int.natCast_add, Int.natCast_one, Int.natCast_zero, Int.cast_ofNat_Int, e])))
        · have e : smT s l j (q + 1) = smT s l j q := by simp only [smT, wnT, hpg, hpp, if_false, Int.sub_zero]
          (repeat' (first | ((first | with_reducible refine vcG_split ?_ ?_ | with_reducible refine vcIf_split ?_ ?_ | with_reducible refine vcQ_split ?_ ?_ | with_reducible refine vcDG_split ?_ ?_) <;> intro hb <;> (try rw [hb]) <;> (try simp only [Bool.and_eq_true, Bool.or_eq_true, dtrue, dfalse, Bool.not_eq_true', Bool.not_eq_false', Bool.and_eq_false_iff, Bool.or_eq_false_iff, Bool.not_true, Bool.not_false] at hb) <;> (try simp only [within] at hb) <;> try (simp only [go_sem, qlt', qlt2, hl', hm, hxx, hpp, encD, encN])) | refine And.intro (by (first | exact trivial | (simp only [I64]; omega) | omega)) ?_ | fail | (simp only [go_sem, qlt', qlt2, hl', hm, hxx, hpp, encD, encN])))
          (first | exact wk_same (by (simp only [go_sem, Int.natCast_add, Int.natCast_one, Int.natCast_zero, Int.cast_ofNat_Int, e])) | exact wk_drop (by (simp only [go_sem, Int.natCast_add, Int.natCast_one, Int.natCast_zero, Int.cast_ofNat_Int, e])) (by (simp only [go_sem, Int.natCast_add, Int.natCast_one, Int.natCast_zero, Int.cast_ofNat_Int, e])) (by (simp only [go_sem, Int.natCast_add, Int.natCast_one, Int.natCast_zero, Int.cast_ofNat_Int, e])) (by (simp only [go_sem, Int.natCast_add, Int.natCast_one, Int.natCast_zero, Int.cast_ofNat_Int, e])) (by (simp only [go_sem, Int.natCast_add, Int.natCast_one, Int.natCast_zero, Int.cast_ofNat_Int, e])))
      · have qge' : ¬ (q : Int) < l.length := by omega
        have : q = l.length := by omega
        subst this
        have hgx : gv s.wt j = wp := gv_nat hwp
        by_cases h0 : wan s l j = 0
        · have e : smT s l j l.length = wp := by unfold wan at h0; omega
          (repeat' (first | ((first | with_reducible refine vcG_split ?_ ?_ | with_reducible refine vcIf_split ?_ ?_ | with_reducible refine vcQ_split ?_ ?_ | with_reducible refine vcDG_split ?_ ?_) <;> intro hb <;> (try rw [hb]) <;> (try simp only [Bool.and_eq_true, Bool.or_eq_true, dtrue, dfalse, Bool.not_eq_true', Bool.not_eq_false', Bool.and_eq_false_iff, Bool.or_eq_false_iff, Bool.not_true, Bool.not_false] at hb) <;> (try simp only [within] at hb) <;> try (simp only [go_sem, qge', hlt', hwp, e, encN])) | refine And.intro (by (first | exact trivial | (simp only [I64]; omega) | omega)) ?_ | fail | (simp only [go_sem, qge', hlt', hwp, e, encN])))
          refine ⟨by (first | exact wk_same (by (simp only [go_sem, Int.natCast_add, Int.natCast_one, Int.natCast_zero, Int.cast_ofNat_Int])) | exact wk_drop (by (simp only [go_sem, Int.natCast_add, Int.natCast_one, Int.natCast_zero, Int.cast_ofNat_Int])) (by (simp only [go_sem, Int.natCast_add, Int.natCast_one, Int.natCast_zero, Int.cast_ofNat_Int])) (by (simp only [go_sem, Int.natCast_add, Int.natCast_one, Int.natCast_zero, Int.cast_ofNat_Int])) (by (simp only [go_sem, Int.natCast_add, Int.natCast_one, Int.natCast_zero, Int.cast_ofNat_Int])) (by (simp only [go_sem, Int.natCast_add, Int.natCast_one, Int.natCast_zero, Int.cast_ofNat_Int]))), fun p hp => ?_⟩
          rcases Nat.lt_or_ge p j with h | h
          · exact hx p h
          · have : p = j := by omega
            subst this; exact h0
        · have e : ¬ smT s l j l.length = wp := by unfold wan at h0; omega
          (repeat' (first | ((first | with_reducible refine vcG_split ?_ ?_ | with_reducible refine vcIf_split ?_ ?_ | with_reducible refine vcQ_split ?_ ?_ | with_reducible refine vcDG_split ?_ ?_) <;> intro hb <;> (try rw [hb]) <;> (try simp only [Bool.and_eq_true, Bool.or_eq_true, dtrue, dfalse, Bool.not_eq_true', Bool.not_eq_false', Bool.and_eq_false_iff, Bool.or_eq_false_iff, Bool.not_true, Bool.not_false] at hb) <;> (try simp only [within] at hb) <;> try (simp only [go_sem, qge', hlt', hwp, e, encN])) | refine And.intro (by (first | exact trivial | (simp only [I64]; omega) | omega)) ?_ | fail | (simp only [go_sem, qge', hlt', hwp, e, encN])))
          exact bf fun h => h0 (h.2 j hlt)
    · have hge' : ¬ (j : Int) < s.wt.length := by omega
      (repeat' (first | ((first | with_reducible refine vcG_split ?_ ?_ | with_reducible refine vcIf_split ?_ ?_ | with_reducible refine vcQ_split ?_ ?_ | with_reducible refine vcDG_split ?_ ?_) <;> intro hb <;> (try rw [hb]) <;> (try simp only [Bool.and_eq_true, Bool.or_eq_true, dtrue, dfalse, Bool.not_eq_true', Bool.not_eq_false', Bool.and_eq_false_iff, Bool.or_eq_false_iff, Bool.not_true, Bool.not_false] at hb) <;> (try simp only [within] at hb) <;> try (simp only [go_sem, hge'])) | refine And.intro (by (first | exact trivial | (simp only [I64]; omega) | omega)) ?_ | fail | (simp only [go_sem, hge'])))
      exact bt ⟨hs, fun p hp => hx p (by omega)⟩
  · rw [show isShB s l = false from by simpa using hs] at h45
    refine PC.body Try.func27 (by kernel_rfl) rfl (by simp [Try.f27]) rfl ?_
    simp only [Try.f27]
    intro hlen
    simp only [go_sem, List.length_map, and_true, true_and] at hlen
    refine CV.run ?_
    (repeat' (first | ((first | with_reducible refine vcG_split ?_ ?_ | with_reducible refine vcIf_split ?_ ?_ | with_reducible refine vcQ_split ?_ ?_ | with_reducible refine vcDG_split ?_ ?_) <;> intro hb <;> (try rw [hb]) <;> (try simp only [Bool.and_eq_true, Bool.or_eq_true, dtrue, dfalse, Bool.not_eq_true', Bool.not_eq_false', Bool.and_eq_false_iff, Bool.or_eq_false_iff, Bool.not_true, Bool.not_false] at hb) <;> (try simp only [within] at hb) <;> try (simp only [go_sem])) | refine And.intro (by (first | exact trivial | (simp only [I64]; omega) | omega)) ?_ | (first | (refine vcP_pure (h45) rfl ?_ ?_ ?_; (focus (first | rfl | ((simp only [go_sem, AV.pureL, AV.pure, pureL_mapI, Bool.and_self]) <;> fail))); (focus (first | ((simp only [go_sem]) <;> fail) | rfl))) | (refine dCallP_pure (h45) rfl ?_ ?_ ?_; (focus (first | rfl | ((simp only [go_sem, AV.pureL, AV.pure, pureL_mapI, Bool.and_self]) <;> fail))); (focus (first | ((simp only [go_sem]) <;> fail) | rfl))) | refine vcP_safe (h45) rfl rfl (by (simp only [go_sem])) ?_ | refine dCallP_safe (h45) rfl rfl ?_) | (simp only [go_sem])))
    all_goals exact bf fun h => hs h.1
/-! ### What the answers are -/
theorem cnt_all {s : Shop} {l : List Int} : cnt s l = (aW s).length ↔ ∀ w, w ∈ aW s → holdsB s l w = true := by
  unfold cnt cntP
  constructor
  · intro h w hw
    have := List.length_filter_eq_length_iff.1 (show ((aW s).filter (holdsB s l)).length = (aW s).length by omega)
    exact this w hw
  · intro h
    rw [List.filter_eq_self.2 h]
theorem hold_sp {s : Shop} (hv : valid s) (hne : aW s ≠ []) {l : List Int} (hl : l.length = s.ms.length) (h12 : in12 l) : (∀ w, w ∈ aW s → holdsB s l w = true) ↔ 0 ≤ sp s l := by
  rw [spT_nn hv hl h12 l.length (Nat.le_refl _)]
  constructor
  · intro h i hi
    have h1 := low_mem (l := (aW s).map fun w => lf s w i) (by simpa using hne)
    obtain ⟨w, hw, he⟩ := List.mem_map.1 h1
    show _ ≤ low _
    rw [← he]
    obtain ⟨x, hx⟩ := get_of hi
    rw [gv_nat hx]
    exact holdsB_iff.1 (h w hw) i x hx
  · intro h w hw
    refine holdsB_iff.2 fun i x hx => ?_
    have h1 := h i (List.getElem?_eq_some_iff.1 hx).1
    rw [gv_nat hx] at h1
    exact Int.le_trans h1 (low_le (List.mem_map.2 ⟨w, hw, rfl⟩))
structure Ans (s : Shop) (d b : List Int) (e f : Int) : Prop where
  n : e = 0 ↔ neN s = 0
  e0 : e = 0 ∨ e = 3
  f0 : f = 0 ∨ f = 3
  ef : e = 0 → f = 0
  bf : f = 0 → isF s b
  all : f = 0 → (cnt s b = (aW s).length ↔ e = 0)
  df : e = 0 → isF s d
  dh : e = 0 → ∀ w, w ∈ aW s → holdsB s d w = true
  ff : ∀ l, isF s l → f = 0 ∧ cnt s l ≤ cnt s b ∧ (cnt s l = cnt s b → ¬ earlier l b)
  dd : e = 0 → ∀ l, isF s l → cnt s l = (aW s).length → sp s l ≤ sp s d ∧ (sp s l = sp s d → ¬ earlier l d)
theorem isF_len {s : Shop} {l : List Int} (h : isF s l) : l.length = s.ms.length ∧ in12 l := ⟨sh_len h.1, fun n hn => by
  obtain ⟨i, hi⟩ := List.mem_iff_getElem?.1 hn
  exact sh_get h.1 hi⟩
theorem answers {s : Shop} (hk : kno s) : Ans s (rDivide s).1 (rBold s).1 (rDivide s).2 (rBold s).2 := by
  obtain ⟨hv, hne⟩ := hk
  rw [show rDivide s = _ from if_pos (kno_kn ⟨hv, hne⟩ trivial), show rBold s = _ from if_pos (kno_kn ⟨hv, hne⟩ trivial)]
  have hsu := jls_su hv hne
  have hnew := sure_new hv hne
  have h1 := bst_end (val := valD s) (jls_sort (s := s) (can := su s (aW s)) (su_ok hv))
  have h0 := bst_end (val := cnt s) (jls_sort (s := s) (can := canB s) (canB_ok hv))
  have hord := ord51 hv
  have hmem := fun l => mem_canB hv (l := l)
  have hm1 : ∀ l, l ∈ jls s (su s (aW s)) ↔ isF s l ∧ cnt s l = (aW s).length := fun l => by
    rw [hsu, List.mem_filter, hmem, decide_eq_true_eq]
    refine and_congr_right fun hf => ?_
    obtain ⟨q1, q2⟩ := isF_len hf
    rw [cnt_all, hold_sp hv hne q1 q2]
  generalize jls s (su s (aW s)) = L1 at *
  generalize jls s (canB s) = L0 at *
  have hsub : ∀ l, l ∈ L1 → l ∈ L0 := fun l h => (hmem l).2 ((hm1 l).1 h).1
  have hcle : ∀ l, cnt s l ≤ (aW s).length := fun l => (cntP_bounds _ _).2
  generalize bB (valD s) L1 = d at *
  generalize bF (valD s) L1 = e at *
  generalize bB (cnt s) L0 = b at *
  generalize bF (cnt s) L0 = f at *
  show Ans s d b e f
  rcases h0 with ⟨a1, a2, a3⟩ | ⟨a1, a2, a3⟩
  · rcases h1 with ⟨b1, b2, b3⟩ | ⟨b1, b2, b3⟩
    · refine ⟨⟨fun h => by omega, fun h => absurd b1 (hnew.2 h)⟩, .inr b3, .inr a3, fun h => by omega, fun h => by omega, fun h => by omega, fun h => by omega, fun h => by omega, fun l hl => ?_, fun h => by omega⟩
      have := (hmem l).2 hl
      rw [a1] at this; cases this
    · have := hsub _ b2
      rw [a1] at this; cases this
  · have hbF := (hmem b).1 a2
    rcases h1 with ⟨b1, b2, b3⟩ | ⟨b1, b2, b3⟩
    · refine ⟨⟨fun h => by omega, fun h => absurd b1 (hnew.2 h)⟩, .inr b3, .inl a1, fun h => by omega, fun _ => hbF, fun _ => ⟨fun h => ?_, fun h => by omega⟩, fun h => by omega, fun h => by omega, fun l hl => ⟨a1, a3 l ((hmem l).2 hl)⟩, fun h => by omega⟩
      have := (hm1 b).2 ⟨hbF, h⟩
      rw [b1] at this; cases this
    · obtain ⟨q1, q2⟩ := (hm1 d).1 b2
      refine ⟨⟨fun _ => hnew.1 (List.ne_nil_of_mem b2), fun _ => b1⟩, .inl b1, .inl a1, fun _ => a1, fun _ => hbF, fun _ => ⟨fun _ => b1, fun _ => ?_⟩, fun _ => q1, fun _ => cnt_all.1 q2, fun l hl => ⟨a1, a3 l ((hmem l).2 hl)⟩, fun _ l hl hc => ?_⟩
      · have h1 := (a3 d (hsub d b2)).1
        have h2 := hcle b
        omega
      · have hl1 := (hm1 l).2 ⟨hl, hc⟩
        have h1 := b3 l hl1
        have h2 := hord d (hsub d b2) l (hsub l hl1)
        have h3 := hord l (hsub l hl1) d (hsub d b2)
        exact ⟨by omega, fun h => h1.2 (by omega)⟩
end Go.Proofs.Ytekdocalipchpaa
