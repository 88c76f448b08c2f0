/- Contracts of functions of the given program, without a condition beyond those that each theorem states; they lead to the given statement. -/
import Derived.Test.YtekdocalipchpaaV02c
set_option linter.unusedSimpArgs false
set_option linter.unusedVariables false
set_option maxRecDepth 100000
namespace Go.Proofs.Ytekdocalipchpaa
open Go Go.Fl
open Classical
noncomputable def ask (s : Shop) (is : Prop) : Int := if valid s then if is then 0 else 1 else 20
noncomputable def kn (s : Shop) (is : Prop) : Int := if valid s then if is then if aW s = [] then 3 else 0 else 1 else 20
theorem ask0 {s : Shop} {is : Prop} : ask s is = 0 ↔ valid s ∧ is := by
  unfold ask
  by_cases hv : valid s <;> by_cases hi : is <;> simp [hv, hi]
theorem kn0 {s : Shop} {is : Prop} : kn s is = 0 ↔ valid s ∧ is ∧ aW s ≠ [] := by
  unfold kn
  by_cases hv : valid s <;> by_cases hi : is <;> by_cases hw : aW s = [] <;> simp [hv, hi, hw]
theorem kn_ok {s : Shop} (hv : valid s) (hw : aW s ≠ []) : kn s True = 0 := kn0.2 ⟨hv, trivial, hw⟩
theorem check_valid {s : Shop} (hv : valid s) : check s = 0 := by simp [check, hv]
theorem check_no {s : Shop} (hv : ¬ valid s) : check s = 20 := by simp [check, hv]
theorem c94 (s : Shop) (is : Prop) {i : Decidable is} : PC Try.prog 94 [hS s, .bool (@decide is i)] (.int .i64 (ask s is)) := by
  by_cases hv : valid s
  · have hc := check_valid hv
    by_cases hi : is
    · simp only [hi, decide_true]
      refine PC.body Try.func94 (by kernel_rfl) rfl (by simp [Try.f94]) rfl ?_
      simp only [Try.f94]
      intro hlen
      simp only [go_sem, List.length_map, and_true, true_and] at hlen
      refine CV.run ?_
      (repeat' (first | ((first | with_reducible refine vcG_split ?_ ?_ | with_reducible refine vcIf_split ?_ ?_ | with_reducible refine vcQ_split ?_ ?_ | with_reducible refine vcDG_split ?_ ?_) <;> intro hb <;> (try rw [hb]) <;> (try simp only [Bool.and_eq_true, Bool.or_eq_true, dtrue, dfalse, Bool.not_eq_true', Bool.not_eq_false', Bool.and_eq_false_iff, Bool.or_eq_false_iff, Bool.not_true, Bool.not_false] at hb) <;> (try simp only [within] at hb) <;> try (simp only [go_sem, hc])) | refine And.intro (by (first | exact trivial | (simp only [I64]; omega) | omega)) ?_ | (first | (refine vcP_pure (c55 _) rfl ?_ ?_ ?_; (focus (first | rfl | ((simp only [go_sem, hc, AV.pureL, AV.pure, pureL_mapI, Bool.and_self]) <;> fail))); (focus (first | ((simp only [go_sem, hc]) <;> fail) | rfl))) | (refine dCallP_pure (c55 _) rfl ?_ ?_ ?_; (focus (first | rfl | ((simp only [go_sem, hc, AV.pureL, AV.pure, pureL_mapI, Bool.and_self]) <;> fail))); (focus (first | ((simp only [go_sem, hc]) <;> fail) | rfl))) | refine vcP_safe (c55 _) rfl rfl (by (simp only [go_sem, hc])) ?_ | refine dCallP_safe (c55 _) rfl rfl ?_) | (simp only [go_sem, hc])))
      simp [ask, hv, hi]
    · simp only [hi, decide_false]
      refine PC.body Try.func94 (by kernel_rfl) rfl (by simp [Try.f94]) rfl ?_
      simp only [Try.f94]
      intro hlen
      simp only [go_sem, List.length_map, and_true, true_and] at hlen
      refine CV.run ?_
      (repeat' (first | ((first | with_reducible refine vcG_split ?_ ?_ | with_reducible refine vcIf_split ?_ ?_ | with_reducible refine vcQ_split ?_ ?_ | with_reducible refine vcDG_split ?_ ?_) <;> intro hb <;> (try rw [hb]) <;> (try simp only [Bool.and_eq_true, Bool.or_eq_true, dtrue, dfalse, Bool.not_eq_true', Bool.not_eq_false', Bool.and_eq_false_iff, Bool.or_eq_false_iff, Bool.not_true, Bool.not_false] at hb) <;> (try simp only [within] at hb) <;> try (simp only [go_sem, hc])) | refine And.intro (by (first | exact trivial | (simp only [I64]; omega) | omega)) ?_ | (first | (refine vcP_pure (c55 _) rfl ?_ ?_ ?_; (focus (first | rfl | ((simp only [go_sem, hc, AV.pureL, AV.pure, pureL_mapI, Bool.and_self]) <;> fail))); (focus (first | ((simp only [go_sem, hc]) <;> fail) | rfl))) | (refine dCallP_pure (c55 _) rfl ?_ ?_ ?_; (focus (first | rfl | ((simp only [go_sem, hc, AV.pureL, AV.pure, pureL_mapI, Bool.and_self]) <;> fail))); (focus (first | ((simp only [go_sem, hc]) <;> fail) | rfl))) | refine vcP_safe (c55 _) rfl rfl (by (simp only [go_sem, hc])) ?_ | refine dCallP_safe (c55 _) rfl rfl ?_) | (simp only [go_sem, hc])))
      simp [ask, hv, hi]
  · have hc := check_no hv
    refine PC.body Try.func94 (by kernel_rfl) rfl (by simp [Try.f94]) rfl ?_
    simp only [Try.f94]
    intro hlen
    simp only [go_sem, List.length_map, and_true, true_and] at hlen
    refine CV.run ?_
    (repeat' (first | ((first | with_reducible refine vcG_split ?_ ?_ | with_reducible refine vcIf_split ?_ ?_ | with_reducible refine vcQ_split ?_ ?_ | with_reducible refine vcDG_split ?_ ?_) <;> intro hb <;> (try rw [hb]) <;> (try simp only [Bool.and_eq_true, Bool.or_eq_true, dtrue, dfalse, Bool.not_eq_true', Bool.not_eq_false', Bool.and_eq_false_iff, Bool.or_eq_false_iff, Bool.not_true, Bool.not_false] at hb) <;> (try simp only [within] at hb) <;> try (simp only [go_sem, hc])) | refine And.intro (by (first | exact trivial | (simp only [I64]; omega) | omega)) ?_ | (first | (refine vcP_pure (c55 _) rfl ?_ ?_ ?_; (focus (first | rfl | ((simp only [go_sem, hc, AV.pureL, AV.pure, pureL_mapI, Bool.and_self]) <;> fail))); (focus (first | ((simp only [go_sem, hc]) <;> fail) | rfl))) | (refine dCallP_pure (c55 _) rfl ?_ ?_ ?_; (focus (first | rfl | ((simp only [go_sem, hc, AV.pureL, AV.pure, pureL_mapI, Bool.and_self]) <;> fail))); (focus (first | ((simp only [go_sem, hc]) <;> fail) | rfl))) | refine vcP_safe (c55 _) rfl rfl (by (simp only [go_sem, hc])) ?_ | refine dCallP_safe (c55 _) rfl rfl ?_) | (simp only [go_sem, hc])))
    all_goals first
      | (exfalso; omega)
      | simp [ask, hv]
theorem c77 (s : Shop) (is : Prop) {i : Decidable is} : PC Try.prog 77 [hS s, .bool (@decide is i)] (.int .i64 (kn s is)) := by
  by_cases hv : valid s ∧ is
  · obtain ⟨hv, hi⟩ := hv
    have ha := ask0.2 ⟨hv, hi⟩
    have hwl := wl_len s
    by_cases hw : aW s = []
    · have hl : ((wl s).length : Int) = 0 := by rw [hwl, hw]; rfl
      have e : kn s is = 3 := by simp [kn, hv, hi, hw]
      rw [e]
      refine PC.body Try.func77 (by kernel_rfl) rfl (by simp [Try.f77]) rfl ?_
      simp only [Try.f77]
      intro hlen
      simp only [go_sem, List.length_map, and_true, true_and] at hlen
      refine CV.run ?_
      (repeat' (first | ((first | with_reducible refine vcG_split ?_ ?_ | with_reducible refine vcIf_split ?_ ?_ | with_reducible refine vcQ_split ?_ ?_ | with_reducible refine vcDG_split ?_ ?_) <;> intro hb <;> (try rw [hb]) <;> (try simp only [Bool.and_eq_true, Bool.or_eq_true, dtrue, dfalse, Bool.not_eq_true', Bool.not_eq_false', Bool.and_eq_false_iff, Bool.or_eq_false_iff, Bool.not_true, Bool.not_false] at hb) <;> (try simp only [within] at hb) <;> try (simp only [go_sem, ha, hl])) | refine And.intro (by (first | exact trivial | (simp only [I64]; omega) | omega)) ?_ | (first | (refine vcP_pure (c94 s is) rfl ?_ ?_ ?_; (focus (first | rfl | ((simp only [go_sem, ha, hl, AV.pureL, AV.pure, pureL_mapI, Bool.and_self]) <;> fail))); (focus (first | ((simp only [go_sem, ha, hl]) <;> fail) | rfl))) | (refine dCallP_pure (c94 s is) rfl ?_ ?_ ?_; (focus (first | rfl | ((simp only [go_sem, ha, hl, AV.pureL, AV.pure, pureL_mapI, Bool.and_self]) <;> fail))); (focus (first | ((simp only [go_sem, ha, hl]) <;> fail) | rfl))) | refine vcP_safe (c94 s is) rfl rfl (by (simp only [go_sem, ha, hl])) ?_ | refine dCallP_safe (c94 s is) rfl rfl ?_ | (refine vcP_pure (c26 s hv) rfl ?_ ?_ ?_; (focus (first | rfl | ((simp only [go_sem, ha, hl, AV.pureL, AV.pure, pureL_mapI, Bool.and_self]) <;> fail))); (focus (first | ((simp only [go_sem, ha, hl]) <;> fail) | rfl))) | (refine dCallP_pure (c26 s hv) rfl ?_ ?_ ?_; (focus (first | rfl | ((simp only [go_sem, ha, hl, AV.pureL, AV.pure, pureL_mapI, Bool.and_self]) <;> fail))); (focus (first | ((simp only [go_sem, ha, hl]) <;> fail) | rfl))) | refine vcP_safe (c26 s hv) rfl rfl (by (simp only [go_sem, ha, hl])) ?_ | refine dCallP_safe (c26 s hv) rfl rfl ?_) | (simp only [go_sem, ha, hl])))
    · have hl : ¬ ((wl s).length : Int) = 0 := by
        have := List.length_pos_iff.2 hw; omega
      rw [kn0.2 ⟨hv, hi, hw⟩]
      refine PC.body Try.func77 (by kernel_rfl) rfl (by simp [Try.f77]) rfl ?_
      simp only [Try.f77]
      intro hlen
      simp only [go_sem, List.length_map, and_true, true_and] at hlen
      refine CV.run ?_
      (repeat' (first | ((first | with_reducible refine vcG_split ?_ ?_ | with_reducible refine vcIf_split ?_ ?_ | with_reducible refine vcQ_split ?_ ?_ | with_reducible refine vcDG_split ?_ ?_) <;> intro hb <;> (try rw [hb]) <;> (try simp only [Bool.and_eq_true, Bool.or_eq_true, dtrue, dfalse, Bool.not_eq_true', Bool.not_eq_false', Bool.and_eq_false_iff, Bool.or_eq_false_iff, Bool.not_true, Bool.not_false] at hb) <;> (try simp only [within] at hb) <;> try (simp only [go_sem, ha, hl])) | refine And.intro (by (first | exact trivial | (simp only [I64]; omega) | omega)) ?_ | (first | (refine vcP_pure (c94 s is) rfl ?_ ?_ ?_; (focus (first | rfl | ((simp only [go_sem, ha, hl, AV.pureL, AV.pure, pureL_mapI, Bool.and_self]) <;> fail))); (focus (first | ((simp only [go_sem, ha, hl]) <;> fail) | rfl))) | (refine dCallP_pure (c94 s is) rfl ?_ ?_ ?_; (focus (first | rfl | ((simp only [go_sem, ha, hl, AV.pureL, AV.pure, pureL_mapI, Bool.and_self]) <;> fail))); (focus (first | ((simp only [go_sem, ha, hl]) <;> fail) | rfl))) | refine vcP_safe (c94 s is) rfl rfl (by (simp only [go_sem, ha, hl])) ?_ | refine dCallP_safe (c94 s is) rfl rfl ?_ | (refine vcP_pure (c26 s hv) rfl ?_ ?_ ?_; (focus (first | rfl | ((simp only [go_sem, ha, hl, AV.pureL, AV.pure, pureL_mapI, Bool.and_self]) <;> fail))); (focus (first | ((simp only [go_sem, ha, hl]) <;> fail) | rfl))) | (refine dCallP_pure (c26 s hv) rfl ?_ ?_ ?_; (focus (first | rfl | ((simp only [go_sem, ha, hl, AV.pureL, AV.pure, pureL_mapI, Bool.and_self]) <;> fail))); (focus (first | ((simp only [go_sem, ha, hl]) <;> fail) | rfl))) | refine vcP_safe (c26 s hv) rfl rfl (by (simp only [go_sem, ha, hl])) ?_ | refine dCallP_safe (c26 s hv) rfl rfl ?_) | (simp only [go_sem, ha, hl])))
  · have ha : ¬ ask s is = 0 := fun h => hv (ask0.1 h)
    have e : kn s is = ask s is := by
      unfold kn ask
      by_cases hv1 : valid s
      · by_cases hi : is
        · exact absurd ⟨hv1, hi⟩ hv
        · simp [hv1, hi]
      · simp [hv1]
    rw [e]
    refine PC.body Try.func77 (by kernel_rfl) rfl (by simp [Try.f77]) rfl ?_
    simp only [Try.f77]
    intro hlen
    simp only [go_sem, List.length_map, and_true, true_and] at hlen
    refine CV.run ?_
    (repeat' (first | ((first | with_reducible refine vcG_split ?_ ?_ | with_reducible refine vcIf_split ?_ ?_ | with_reducible refine vcQ_split ?_ ?_ | with_reducible refine vcDG_split ?_ ?_) <;> intro hb <;> (try rw [hb]) <;> (try simp only [Bool.and_eq_true, Bool.or_eq_true, dtrue, dfalse, Bool.not_eq_true', Bool.not_eq_false', Bool.and_eq_false_iff, Bool.or_eq_false_iff, Bool.not_true, Bool.not_false] at hb) <;> (try simp only [within] at hb) <;> try (simp only [go_sem, ha])) | refine And.intro (by (first | exact trivial | (simp only [I64]; omega) | omega)) ?_ | (first | (refine vcP_pure (c94 s is) rfl ?_ ?_ ?_; (focus (first | rfl | ((simp only [go_sem, ha, AV.pureL, AV.pure, pureL_mapI, Bool.and_self]) <;> fail))); (focus (first | ((simp only [go_sem, ha]) <;> fail) | rfl))) | (refine dCallP_pure (c94 s is) rfl ?_ ?_ ?_; (focus (first | rfl | ((simp only [go_sem, ha, AV.pureL, AV.pure, pureL_mapI, Bool.and_self]) <;> fail))); (focus (first | ((simp only [go_sem, ha]) <;> fail) | rfl))) | refine vcP_safe (c94 s is) rfl rfl (by (simp only [go_sem, ha])) ?_ | refine dCallP_safe (c94 s is) rfl rfl ?_) | (simp only [go_sem, ha])))
def isShB (s : Shop) (l : List Int) : Bool := decide (l.length = s.ms.length) && (List.range s.ms.length).all fun i => match s.ms[i]? with
  | some m => decide (0 ≤ gv l i) && decide (gv l i ≤ 12) && (!(decide (m.broke = 1)) || decide (gv l i = 0))
  | none => true
def sh1 (m : Mould) (x : Int) : Prop := 0 ≤ x ∧ x ≤ 12 ∧ (m.broke = 1 → x = 0)
theorem isShB_iff {s : Shop} {l : List Int} : isShB s l = true ↔ l.length = s.ms.length ∧ ∀ (i : Nat) (m : Mould), s.ms[i]? = some m → sh1 m (gv l i) := by
  simp only [isShB, Bool.and_eq_true, decide_eq_true_eq, List.all_eq_true, List.mem_range]
  refine and_congr_right fun _ => ⟨fun h i m hm => ?_, fun h i hi => ?_⟩
  · have := h i (List.getElem?_eq_some_iff.1 hm).1
    rw [hm] at this
    simp only [Bool.and_eq_true, decide_eq_true_eq, Bool.or_eq_true, Bool.not_eq_true', decide_eq_false_iff_not] at this
    refine ⟨this.1.1, this.1.2, fun hb => ?_⟩
    rcases this.2 with q | q
    · exact absurd hb q
    · exact q
  · obtain ⟨m, hm⟩ := get_of hi
    obtain ⟨q1, q2, q3⟩ := h i m hm
    rw [hm]
    simp only [Bool.and_eq_true, decide_eq_true_eq, Bool.or_eq_true, Bool.not_eq_true', decide_eq_false_iff_not]
    refine ⟨⟨q1, q2⟩, ?_⟩
    by_cases hb : m.broke = 1
    · exact .inr (q3 hb)
    · exact .inl hb
theorem isShB_no {s : Shop} {l : List Int} {i : Nat} {m : Mould} {x : Int} (hm : s.ms[i]? = some m) (hx : l[i]? = some x) (h : ¬ sh1 m x) : isShB s l ≠ true := fun q => h (by have := (isShB_iff.1 q).2 i m hm; rwa [gv_nat hx] at this)
theorem c45 (s : Shop) (l : List Int) : PC Try.prog 45 [hS s, lN l] (.bool (isShB s l)) := by
  refine PC.body Try.func45 (by kernel_rfl) rfl (by simp [Try.f45]) rfl ?_
  simp only [Try.f45]
  intro hlen
  simp only [go_sem, List.length_map, and_true, true_and] at hlen
  refine CV.run ?_
  (repeat' (first | ((first | with_reducible refine vcG_split ?_ ?_ | with_reducible refine vcIf_split ?_ ?_ | with_reducible refine vcQ_split ?_ ?_ | with_reducible refine vcDG_split ?_ ?_) <;> intro hb <;> (try rw [hb]) <;> (try simp only [Bool.and_eq_true, Bool.or_eq_true, dtrue, dfalse, Bool.not_eq_true', Bool.not_eq_false', Bool.and_eq_false_iff, Bool.or_eq_false_iff, Bool.not_true, Bool.not_false] at hb) <;> (try simp only [within] at hb) <;> try (simp only [go_sem])) | refine And.intro (by (first | exact trivial | (simp only [I64]; omega) | omega)) ?_ | fail | (simp only [go_sem])))
  · exact fB fun q => by have := (isShB_iff.1 q).1; omega
  have hlen2 : l.length = s.ms.length := by omega
  refine vc_for (fun j => ⟨[(5, .int .i64 j), (4, .bool false), (1, lN l), (2, .lp 0 0)], [.box 26 (cS s) false]⟩) s.ms.length (fun j => allTo (fun i m => sh1 m (gv l i)) s.ms j) (by (first | exact wk_same (by (simp only [go_sem, Int.natCast_add, Int.natCast_one, Int.natCast_zero, Int.cast_ofNat_Int])) | exact wk_drop (by (simp only [go_sem, Int.natCast_add, Int.natCast_one, Int.natCast_zero, Int.cast_ofNat_Int])) (by (simp only [go_sem, Int.natCast_add, Int.natCast_one, Int.natCast_zero, Int.cast_ofNat_Int])) (by (simp only [go_sem, Int.natCast_add, Int.natCast_one, Int.natCast_zero, Int.cast_ofNat_Int])) (by (simp only [go_sem, Int.natCast_add, Int.natCast_one, Int.natCast_zero, Int.cast_ofNat_Int])) (by (simp only [go_sem, Int.natCast_add, Int.natCast_one, Int.natCast_zero, Int.cast_ofNat_Int])))) .zero ?_
  intro j hj hx
  rcases Nat.lt_or_ge j s.ms.length with hlt | hge
  · obtain ⟨m, hm⟩ := get_of hlt
    obtain ⟨x, hxx⟩ := get_of (l := l) (j := j) (by omega)
    have hlt' : (j : Int) < s.ms.length := by omega
    have hlt2' : (j : Int) < l.length := by omega
    have hg := gv_nat hxx
    (repeat' (first | ((first | with_reducible refine vcG_split ?_ ?_ | with_reducible refine vcIf_split ?_ ?_ | with_reducible refine vcQ_split ?_ ?_ | with_reducible refine vcDG_split ?_ ?_) <;> intro hb <;> (try rw [hb]) <;> (try simp only [Bool.and_eq_true, Bool.or_eq_true, dtrue, dfalse, Bool.not_eq_true', Bool.not_eq_false', Bool.and_eq_false_iff, Bool.or_eq_false_iff, Bool.not_true, Bool.not_false] at hb) <;> (try simp only [within] at hb) <;> try (simp only [go_sem, hlt', hlt2', hm, hxx, encD, encN])) | refine And.intro (by (first | exact trivial | (simp only [I64]; omega) | omega)) ?_ | (first | (refine vcP_pure (c75 _ _ _) rfl ?_ ?_ ?_; (focus (first | rfl | ((simp only [go_sem, hlt', hlt2', hm, hxx, encD, encN, AV.pureL, AV.pure, pureL_mapI, Bool.and_self]) <;> fail))); (focus (first | ((simp only [go_sem, hlt', hlt2', hm, hxx, encD, encN]) <;> fail) | rfl))) | (refine dCallP_pure (c75 _ _ _) rfl ?_ ?_ ?_; (focus (first | rfl | ((simp only [go_sem, hlt', hlt2', hm, hxx, encD, encN, AV.pureL, AV.pure, pureL_mapI, Bool.and_self]) <;> fail))); (focus (first | ((simp only [go_sem, hlt', hlt2', hm, hxx, encD, encN]) <;> fail) | rfl))) | refine vcP_safe (c75 _ _ _) rfl rfl (by (simp only [go_sem, hlt', hlt2', hm, hxx, encD, encN])) ?_ | refine dCallP_safe (c75 _ _ _) rfl rfl ?_) | (simp only [go_sem, hlt', hlt2', hm, hxx, encD, encN])))
    all_goals first
      | exact fB (isShB_no hm hxx (by unfold sh1; omega))
      | exact ⟨by (first | exact wk_same (by (simp only [go_sem, Int.natCast_add, Int.natCast_one, Int.natCast_zero, Int.cast_ofNat_Int])) | exact wk_drop (by (simp only [go_sem, Int.natCast_add, Int.natCast_one, Int.natCast_zero, Int.cast_ofNat_Int])) (by (simp only [go_sem, Int.natCast_add, Int.natCast_one, Int.natCast_zero, Int.cast_ofNat_Int])) (by (simp only [go_sem, Int.natCast_add, Int.natCast_one, Int.natCast_zero, Int.cast_ofNat_Int])) (by (simp only [go_sem, Int.natCast_add, Int.natCast_one, Int.natCast_zero, Int.cast_ofNat_Int])) (by (simp only [go_sem, Int.natCast_add, Int.natCast_one, Int.natCast_zero, Int.cast_ofNat_Int]))), hx.succ hm (by rw [hg]; unfold sh1; omega)⟩
  · have hge2' : ¬ (j : Int) < l.length := by omega
    (repeat' (first | ((first | with_reducible refine vcG_split ?_ ?_ | with_reducible refine vcIf_split ?_ ?_ | with_reducible refine vcQ_split ?_ ?_ | with_reducible refine vcDG_split ?_ ?_) <;> intro hb <;> (try rw [hb]) <;> (try simp only [Bool.and_eq_true, Bool.or_eq_true, dtrue, dfalse, Bool.not_eq_true', Bool.not_eq_false', Bool.and_eq_false_iff, Bool.or_eq_false_iff, Bool.not_true, Bool.not_false] at hb) <;> (try simp only [within] at hb) <;> try (simp only [go_sem, hge2'])) | refine And.intro (by (first | exact trivial | (simp only [I64]; omega) | omega)) ?_ | fail | (simp only [go_sem, hge2'])))
    exact tB (isShB_iff.2 ⟨hlen2, fun i m hm => hx.all hge i m hm⟩)
noncomputable def gvn (s : Shop) (l : List Int) : Int := if valid s then kn s (isShB s l = true) else 20
theorem gvn_kn (s : Shop) (l : List Int) : gvn s l = kn s (isShB s l = true) := by
  unfold gvn
  by_cases hv : valid s
  · rw [if_pos hv]
  · rw [if_neg hv]; simp [kn, hv]
theorem c96 (s : Shop) (l : List Int) : PC Try.prog 96 [hS s, lN l] (.int .i64 (kn s (isShB s l = true))) := by
  have h45 := c45 s l
  have e : isShB s l = decide (isShB s l = true) := by cases isShB s l <;> rfl
  rw [e] at h45
  by_cases hv : valid s
  · have hc := check_valid hv
    refine PC.body Try.func96 (by kernel_rfl) rfl (by simp [Try.f96]) rfl ?_
    simp only [Try.f96]
    intro hlen
    simp only [go_sem, List.length_map, and_true, true_and] at hlen
    refine CV.run ?_
    (repeat' (first | ((first | with_reducible refine vcG_split ?_ ?_ | with_reducible refine vcIf_split ?_ ?_ | with_reducible refine vcQ_split ?_ ?_ | with_reducible refine vcDG_split ?_ ?_) <;> intro hb <;> (try rw [hb]) <;> (try simp only [Bool.and_eq_true, Bool.or_eq_true, dtrue, dfalse, Bool.not_eq_true', Bool.not_eq_false', Bool.and_eq_false_iff, Bool.or_eq_false_iff, Bool.not_true, Bool.not_false] at hb) <;> (try simp only [within] at hb) <;> try (simp only [go_sem, hc])) | refine And.intro (by (first | exact trivial | (simp only [I64]; omega) | omega)) ?_ | (with_reducible rw [vc_draw_eq]; first | refine CV.draw (id := 4) [(0, 0), (0, 0), (0, 0), (0, 0), (0, 0), (0, 0)] mixed rfl (by kernel_rfl) ?_) | (first | (refine vcP_pure (c55 _) rfl ?_ ?_ ?_; (focus (first | rfl | ((simp only [go_sem, hc, AV.pureL, AV.pure, pureL_mapI, Bool.and_self]) <;> fail))); (focus (first | ((simp only [go_sem, hc]) <;> fail) | rfl))) | (refine dCallP_pure (c55 _) rfl ?_ ?_ ?_; (focus (first | rfl | ((simp only [go_sem, hc, AV.pureL, AV.pure, pureL_mapI, Bool.and_self]) <;> fail))); (focus (first | ((simp only [go_sem, hc]) <;> fail) | rfl))) | refine vcP_safe (c55 _) rfl rfl (by (simp only [go_sem, hc])) ?_ | refine dCallP_safe (c55 _) rfl rfl ?_ | (refine vcP_pure (h45) rfl ?_ ?_ ?_; (focus (first | rfl | ((simp only [go_sem, hc, AV.pureL, AV.pure, pureL_mapI, Bool.and_self]) <;> fail))); (focus (first | ((simp only [go_sem, hc]) <;> fail) | rfl))) | (refine dCallP_pure (h45) rfl ?_ ?_ ?_; (focus (first | rfl | ((simp only [go_sem, hc, AV.pureL, AV.pure, pureL_mapI, Bool.and_self]) <;> fail))); (focus (first | ((simp only [go_sem, hc]) <;> fail) | rfl))) | refine vcP_safe (h45) rfl rfl (by (simp only [go_sem, hc])) ?_ | refine dCallP_safe (h45) rfl rfl ?_ | (refine vcP_pure (c77 s (isShB s l = true)) rfl ?_ ?_ ?_; (focus (first | rfl | ((simp only [go_sem, hc, AV.pureL, AV.pure, pureL_mapI, Bool.and_self]) <;> fail))); (focus (first | ((simp only [go_sem, hc]) <;> fail) | rfl))) | (refine dCallP_pure (c77 s (isShB s l = true)) rfl ?_ ?_ ?_; (focus (first | rfl | ((simp only [go_sem, hc, AV.pureL, AV.pure, pureL_mapI, Bool.and_self]) <;> fail))); (focus (first | ((simp only [go_sem, hc]) <;> fail) | rfl))) | refine vcP_safe (c77 s (isShB s l = true)) rfl rfl (by (simp only [go_sem, hc])) ?_ | refine dCallP_safe (c77 s (isShB s l = true)) rfl rfl ?_) | (simp only [go_sem, hc])))
  · have hc := check_no hv
    have hk : kn s (isShB s l = true) = 20 := by simp [kn, hv]
    rw [hk]
    refine PC.body Try.func96 (by kernel_rfl) rfl (by simp [Try.f96]) rfl ?_
    simp only [Try.f96]
    intro hlen
    simp only [go_sem, List.length_map, and_true, true_and] at hlen
    refine CV.run ?_
    (repeat' (first | ((first | with_reducible refine vcG_split ?_ ?_ | with_reducible refine vcIf_split ?_ ?_ | with_reducible refine vcQ_split ?_ ?_ | with_reducible refine vcDG_split ?_ ?_) <;> intro hb <;> (try rw [hb]) <;> (try simp only [Bool.and_eq_true, Bool.or_eq_true, dtrue, dfalse, Bool.not_eq_true', Bool.not_eq_false', Bool.and_eq_false_iff, Bool.or_eq_false_iff, Bool.not_true, Bool.not_false] at hb) <;> (try simp only [within] at hb) <;> try (simp only [go_sem, hc])) | refine And.intro (by (first | exact trivial | (simp only [I64]; omega) | omega)) ?_ | (with_reducible rw [vc_draw_eq]; first | refine CV.draw (id := 4) [(0, 0), (0, 0), (0, 0), (0, 0), (0, 0), (0, 0)] mixed rfl (by kernel_rfl) ?_) | (first | (refine vcP_pure (c55 _) rfl ?_ ?_ ?_; (focus (first | rfl | ((simp only [go_sem, hc, AV.pureL, AV.pure, pureL_mapI, Bool.and_self]) <;> fail))); (focus (first | ((simp only [go_sem, hc]) <;> fail) | rfl))) | (refine dCallP_pure (c55 _) rfl ?_ ?_ ?_; (focus (first | rfl | ((simp only [go_sem, hc, AV.pureL, AV.pure, pureL_mapI, Bool.and_self]) <;> fail))); (focus (first | ((simp only [go_sem, hc]) <;> fail) | rfl))) | refine vcP_safe (c55 _) rfl rfl (by (simp only [go_sem, hc])) ?_ | refine dCallP_safe (c55 _) rfl rfl ?_) | (simp only [go_sem, hc])))
    all_goals (exfalso; omega)
end Go.Proofs.Ytekdocalipchpaa
