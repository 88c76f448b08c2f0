/- Contracts of functions of the given program, without a condition beyond those that each theorem states; they lead to the given statement. -/
import Derived.Test.YtekdocalipchpaaV02d
set_option linter.unusedSimpArgs false
set_option linter.unusedVariables false
set_option maxRecDepth 100000
namespace Go.Proofs.Ytekdocalipchpaa
open Go Go.Fl
open Classical
def ans {α : Type} (k : Int) (no x : α) : α × Int := if k = 0 then (x, 0) else (no, k)
theorem ans_yes {α : Type} {k : Int} {no x : α} (h : k = 0) : ans k no x = (x, 0) := if_pos h
theorem ans_no {α : Type} {k : Int} {no x : α} (h : ¬ k = 0) : ans k no x = (no, k) := if_neg h
theorem short_steps (d fr : Int) (hf : 1 ≤ fr) : ∃ (K : Nat) (D : Nat → Int), D 0 = d ∧ (∀ j, D (j + 1) = D j - fr) ∧ (∀ j : Nat, 0 < D j ↔ j < K) ∧ (∀ j : Nat, j ≤ K → min d (1 - fr) ≤ D j) ∧ (∀ j, D j ≤ d) ∧ (K : Int) = (max 0 d + fr - 1) / fr := by
  have h1 := Int.mul_ediv_add_emod (max 0 d + fr - 1) fr
  have h2 := Int.emod_lt_of_pos (max 0 d + fr - 1) (show 0 < fr by omega)
  have h3 := Int.emod_nonneg (max 0 d + fr - 1) (show fr ≠ 0 by omega)
  have h4 : 0 ≤ (max 0 d + fr - 1) / fr := Int.ediv_nonneg (by omega) (by omega)
  generalize (max 0 d + fr - 1) / fr = q at h1 h4 ⊢
  generalize (max 0 d + fr - 1) % fr = r at h1 h2 h3
  have hq : q * fr = max 0 d + fr - 1 - r := by rw [Int.mul_comm]; omega
  have hq1 : d ≤ 0 → q ≤ 0 := fun hd => by
    by_cases h : 0 < q
    · have : 1 * fr ≤ q * fr := Int.mul_le_mul_of_nonneg_right (by omega) (by omega)
      omega
    · omega
  have hpos : ∀ j : Nat, 0 < d - j * fr ↔ j < q.toNat := by
    intro j
    constructor
    · intro h
      by_cases hj : j < q.toNat
      · exact hj
      · have : q * fr ≤ j * fr := Int.mul_le_mul_of_nonneg_right (by omega) (by omega)
        omega
    · intro h
      have : ((j : Int) + 1) * fr ≤ q * fr := Int.mul_le_mul_of_nonneg_right (by omega) (by omega)
      rw [Int.add_mul] at this
      omega
  refine ⟨q.toNat, fun j => d - j * fr, by simp, fun j => by simp only [Int.natCast_add, Int.natCast_one, Int.add_mul]; omega, hpos, fun j hj => ?_, fun j => ?_, by omega⟩
  · have : (j : Int) * fr ≤ q * fr := Int.mul_le_mul_of_nonneg_right (by omega) (by omega)
    show _ ≤ d - j * fr
    by_cases hd : d ≤ 0
    · have := hq1 hd
      have : j = 0 := by omega
      subst this; simp; omega
    · omega
  · have : 0 ≤ (j : Int) * fr := Int.mul_nonneg (by omega) (by omega)
    show d - j * fr ≤ d
    omega
/-! ### Sure, New -/
def sur1 (s : Shop) (p : Int) (k : Nat) : Int := match s.ms[k]? with | some m => if m.page = p then lo s k else 0 | none => 0
def surT (s : Shop) (p : Int) : Nat → Int
  | 0 => 0
  | k + 1 => surT s p k + sur1 s p k
def sur (s : Shop) (p : Int) : Int := surT s p s.ms.length
theorem sur1_bounds {s : Shop} (hv : valid s) (p : Int) (k : Nat) : 0 ≤ sur1 s p k ∧ sur1 s p k ≤ 12 := by
  unfold sur1
  split
  · rename_i m hm
    have := lo_bounds hv (W := aW s) (fun w hw => aW_mem hw) k (List.getElem?_eq_some_iff.1 hm).1
    split
    · unfold lo; omega
    · omega
  · omega
theorem surT_bounds {s : Shop} (hv : valid s) (p : Int) : ∀ k : Nat, 0 ≤ surT s p k ∧ surT s p k ≤ 12 * k
  | 0 => by simp [surT]
  | k + 1 => by
    have := surT_bounds hv p k
    have := sur1_bounds hv p k
    simp only [surT]; omega
theorem sur_bounds {s : Shop} (hv : valid s) (p : Int) : 0 ≤ sur s p ∧ sur s p ≤ 60 := by
  have := surT_bounds hv p s.ms.length
  have := hv.2.1
  unfold sur; omega
theorem c79 (s : Shop) (hv : valid s) (hne : aW s ≠ []) (p : Int) : PC Try.prog 79 [hS s, .int .i64 p] (.int .i64 (sur s p)) := by
  have h5 := hv.2.1
  refine PC.body Try.func79 (by kernel_rfl) rfl (by simp [Try.f79]) rfl ?_
  simp only [Try.f79]
  intro hlen
  simp only [go_sem, List.length_map, and_true, true_and] at hlen
  refine CV.run ?_
  (repeat' (first | ((first | with_reducible refine vcG_split ?_ ?_ | with_reducible refine vcIf_split ?_ ?_ | with_reducible refine vcQ_split ?_ ?_ | with_reducible refine vcDG_split ?_ ?_) <;> intro hb <;> (try rw [hb]) <;> (try simp only [Bool.and_eq_true, Bool.or_eq_true, dtrue, dfalse, Bool.not_eq_true', Bool.not_eq_false', Bool.and_eq_false_iff, Bool.or_eq_false_iff, Bool.not_true, Bool.not_false] at hb) <;> (try simp only [within] at hb) <;> try (simp only [go_sem])) | refine And.intro (by (first | exact trivial | (simp only [I64]; omega) | omega)) ?_ | fail | (simp only [go_sem])))
  refine vc_for (fun j => ⟨[(6, .int .i64 j), (5, .int .i64 (surT s p j)), (4, .int .i64 0), (2, .lp 0 0), (1, .int .i64 p)], [.box 26 (cS s) false]⟩) s.ms.length (fun j => True) (by (first | exact wk_same (by (simp only [go_sem, Int.natCast_add, Int.natCast_one, Int.natCast_zero, Int.cast_ofNat_Int, surT])) | exact wk_drop (by (simp only [go_sem, Int.natCast_add, Int.natCast_one, Int.natCast_zero, Int.cast_ofNat_Int, surT])) (by (simp only [go_sem, Int.natCast_add, Int.natCast_one, Int.natCast_zero, Int.cast_ofNat_Int, surT])) (by (simp only [go_sem, Int.natCast_add, Int.natCast_one, Int.natCast_zero, Int.cast_ofNat_Int, surT])) (by (simp only [go_sem, Int.natCast_add, Int.natCast_one, Int.natCast_zero, Int.cast_ofNat_Int, surT])) (by (simp only [go_sem, Int.natCast_add, Int.natCast_one, Int.natCast_zero, Int.cast_ofNat_Int, surT])))) trivial ?_
  intro j hj _
  have hb := surT_bounds hv p j
  rcases Nat.lt_or_ge j s.ms.length with hlt | hge
  · obtain ⟨m, hm⟩ := get_of hlt
    have hlt' : (j : Int) < s.ms.length := by omega
    have hlb := lo_bounds hv (W := aW s) (fun w hw => aW_mem hw) j hlt
    change 0 ≤ lo s j ∧ lo s j ≤ 12 ∧ _ at hlb
    by_cases hp : m.page = p
    · have e : surT s p (j + 1) = surT s p j + lo s j := by simp [surT, sur1, hm, hp]
      (repeat' (first | ((first | with_reducible refine vcG_split ?_ ?_ | with_reducible refine vcIf_split ?_ ?_ | with_reducible refine vcQ_split ?_ ?_ | with_reducible refine vcDG_split ?_ ?_) <;> intro hb <;> (try rw [hb]) <;> (try simp only [Bool.and_eq_true, Bool.or_eq_true, dtrue, dfalse, Bool.not_eq_true', Bool.not_eq_false', Bool.and_eq_false_iff, Bool.or_eq_false_iff, Bool.not_true, Bool.not_false] at hb) <;> (try simp only [within] at hb) <;> try (simp only [go_sem, hlt', hm, hp, encD])) | refine And.intro (by (first | exact trivial | (simp only [I64]; omega) | omega)) ?_ | (first | (refine vcP_pure (c74 s hv hne j hlt) rfl ?_ ?_ ?_; (focus (first | rfl | ((simp only [go_sem, hlt', hm, hp, encD, AV.pureL, AV.pure, pureL_mapI, Bool.and_self]) <;> fail))); (focus (first | ((simp only [go_sem, hlt', hm, hp, encD]) <;> fail) | rfl))) | (refine dCallP_pure (c74 s hv hne j hlt) rfl ?_ ?_ ?_; (focus (first | rfl | ((simp only [go_sem, hlt', hm, hp, encD, AV.pureL, AV.pure, pureL_mapI, Bool.and_self]) <;> fail))); (focus (first | ((simp only [go_sem, hlt', hm, hp, encD]) <;> fail) | rfl))) | refine vcP_safe (c74 s hv hne j hlt) rfl rfl (by (simp only [go_sem, hlt', hm, hp, encD])) ?_ | refine dCallP_safe (c74 s hv hne j hlt) rfl rfl ?_) | (simp only [go_sem, hlt', hm, hp, encD])))
      (first | exact wk_same (by (simp only [go_sem, Int.natCast_add, Int.natCast_one, Int.natCast_zero, Int.cast_ofNat_Int, e])) | exact wk_drop (by (simp only [go_sem, Int.natCast_add, Int.natCast_one, Int.natCast_zero, Int.cast_ofNat_Int, e])) (by (simp only [go_sem, Int.natCast_add, Int.natCast_one, Int.natCast_zero, Int.cast_ofNat_Int, e])) (by (simp only [go_sem, Int.natCast_add, Int.natCast_one, Int.natCast_zero, Int.cast_ofNat_Int, e])) (by (simp only [go_sem, Int.natCast_add, Int.natCast_one, Int.natCast_zero, Int.cast_ofNat_Int, e])) (by (simp only [go_sem, Int.natCast_add, Int.natCast_one, Int.natCast_zero, Int.cast_ofNat_Int, e])))
    · have e : surT s p (j + 1) = surT s p j := by simp [surT, sur1, hm, hp]
      (repeat' (first | ((first | with_reducible refine vcG_split ?_ ?_ | with_reducible refine vcIf_split ?_ ?_ | with_reducible refine vcQ_split ?_ ?_ | with_reducible refine vcDG_split ?_ ?_) <;> intro hb <;> (try rw [hb]) <;> (try simp only [Bool.and_eq_true, Bool.or_eq_true, dtrue, dfalse, Bool.not_eq_true', Bool.not_eq_false', Bool.and_eq_false_iff, Bool.or_eq_false_iff, Bool.not_true, Bool.not_false] at hb) <;> (try simp only [within] at hb) <;> try (simp only [go_sem, hlt', hm, hp, encD])) | refine And.intro (by (first | exact trivial | (simp only [I64]; omega) | omega)) ?_ | fail | (simp only [go_sem, hlt', hm, hp, encD])))
      (first | exact wk_same (by (simp only [go_sem, Int.natCast_add, Int.natCast_one, Int.natCast_zero, Int.cast_ofNat_Int, e])) | exact wk_drop (by (simp only [go_sem, Int.natCast_add, Int.natCast_one, Int.natCast_zero, Int.cast_ofNat_Int, e])) (by (simp only [go_sem, Int.natCast_add, Int.natCast_one, Int.natCast_zero, Int.cast_ofNat_Int, e])) (by (simp only [go_sem, Int.natCast_add, Int.natCast_one, Int.natCast_zero, Int.cast_ofNat_Int, e])) (by (simp only [go_sem, Int.natCast_add, Int.natCast_one, Int.natCast_zero, Int.cast_ofNat_Int, e])) (by (simp only [go_sem, Int.natCast_add, Int.natCast_one, Int.natCast_zero, Int.cast_ofNat_Int, e])))
  · have hge' : ¬ (j : Int) < s.ms.length := by omega
    have : j = s.ms.length := by omega
    subst this
    (repeat' (first | ((first | with_reducible refine vcG_split ?_ ?_ | with_reducible refine vcIf_split ?_ ?_ | with_reducible refine vcQ_split ?_ ?_ | with_reducible refine vcDG_split ?_ ?_) <;> intro hb <;> (try rw [hb]) <;> (try simp only [Bool.and_eq_true, Bool.or_eq_true, dtrue, dfalse, Bool.not_eq_true', Bool.not_eq_false', Bool.and_eq_false_iff, Bool.or_eq_false_iff, Bool.not_true, Bool.not_false] at hb) <;> (try simp only [within] at hb) <;> try (simp only [go_sem, hge', sur])) | refine And.intro (by (first | exact trivial | (simp only [I64]; omega) | omega)) ?_ | fail | (simp only [go_sem, hge', sur])))
def ne1 (s : Shop) (k : Nat) : Int := match s.wt[k]? with | some w => (max 0 (w - sur s k) + s.fr - 1) / s.fr | none => 0
def neT (s : Shop) : Nat → Int
  | 0 => 0
  | k + 1 => neT s k + ne1 s k
def neN (s : Shop) : Int := neT s s.wt.length
theorem ceil_bounds {d fr : Int} (hf : 1 ≤ fr) (hd : d ≤ 12) : 0 ≤ (max 0 d + fr - 1) / fr ∧ (max 0 d + fr - 1) / fr ≤ 12 := by
  have h1 := Int.mul_ediv_add_emod (max 0 d + fr - 1) fr
  have h2 := Int.emod_lt_of_pos (max 0 d + fr - 1) (show 0 < fr by omega)
  have h3 := Int.emod_nonneg (max 0 d + fr - 1) (show fr ≠ 0 by omega)
  have h4 : 0 ≤ (max 0 d + fr - 1) / fr := Int.ediv_nonneg (by omega) (by omega)
  generalize (max 0 d + fr - 1) / fr = q at h1 h4 ⊢
  generalize (max 0 d + fr - 1) % fr = r at h1 h2 h3
  refine ⟨h4, ?_⟩
  by_cases hq : q ≤ 12
  · exact hq
  · have : fr * 13 ≤ fr * q := Int.mul_le_mul_of_nonneg_left (by omega) (by omega)
    omega
theorem ne1_bounds {s : Shop} (hv : valid s) (k : Nat) : 0 ≤ ne1 s k ∧ ne1 s k ≤ 12 := by
  have hf := hv.2.2.2.1
  unfold within at hf
  unfold ne1
  split
  · rename_i w hw
    have h1 := hv.want hw
    have h2 := sur_bounds hv (k : Int)
    exact ceil_bounds hf.1 (by omega)
  · omega
theorem neT_bounds {s : Shop} (hv : valid s) : ∀ k : Nat, 0 ≤ neT s k ∧ neT s k ≤ 12 * k
  | 0 => by simp [neT]
  | k + 1 => by
    have := neT_bounds hv k
    have := ne1_bounds hv k
    simp only [neT]; omega
theorem neN_bounds {s : Shop} (hv : valid s) : 0 ≤ neN s ∧ neN s ≤ 36 := by
  have := neT_bounds hv s.wt.length
  have := hv.1
  unfold neN; omega
noncomputable def rLeft (s : Shop) (i : Int) : (Int × Int) × Int := ans (kn s (within i 0 (s.ms.length - 1))) (0, 0) (lo s i, hi s i)
noncomputable def rSure (s : Shop) (p : Int) : Int × Int := ans (kn s (within p 0 (s.wt.length - 1))) 0 (sur s p)
noncomputable def rNew (s : Shop) : Int × Int := ans (kn s True) 0 (neN s)
theorem c35 (s : Shop) (i : Int) : PC Try.prog 35 [hS s, .int .i64 i] (.tup [.agg [.int .i64 (rLeft s i).1.1, .int .i64 (rLeft s i).1.2], .int .i64 (rLeft s i).2]) := by
  by_cases hk : kn s (within i 0 (s.ms.length - 1)) = 0
  · rw [show rLeft s i = _ from ans_yes hk]
    obtain ⟨hv, hi, hne⟩ := kn0.1 hk
    unfold within at hi
    have h74 := c74 s hv hne i.toNat (by omega)
    rw [Int.toNat_of_nonneg hi.1] at h74
    refine PC.body Try.func35 (by kernel_rfl) rfl (by simp [Try.f35]) rfl ?_
    simp only [Try.f35]
    intro hlen
    simp only [go_sem, List.length_map, and_true, true_and] at hlen
    refine CV.run ?_
    (repeat' (first | ((first | with_reducible refine vcG_split ?_ ?_ | with_reducible refine vcIf_split ?_ ?_ | with_reducible refine vcQ_split ?_ ?_ | with_reducible refine vcDG_split ?_ ?_) <;> intro hb <;> (try rw [hb]) <;> (try simp only [Bool.and_eq_true, Bool.or_eq_true, dtrue, dfalse, Bool.not_eq_true', Bool.not_eq_false', Bool.and_eq_false_iff, Bool.or_eq_false_iff, Bool.not_true, Bool.not_false] at hb) <;> (try simp only [within] at hb) <;> try (simp only [go_sem, hk])) | refine And.intro (by (first | exact trivial | (simp only [I64]; omega) | omega)) ?_ | (with_reducible rw [vc_draw_eq]; first | refine CV.draw (id := 1) [(0, 0), (0, 0), (0, 0), (0, 0), (0, 0), (0, 0)] mixed rfl (by kernel_rfl) ?_) | (first | (refine vcP_pure (c41 _ _) rfl ?_ ?_ ?_; (focus (first | rfl | ((simp only [go_sem, hk, AV.pureL, AV.pure, pureL_mapI, Bool.and_self]) <;> fail))); (focus (first | ((simp only [go_sem, hk]) <;> fail) | rfl))) | (refine dCallP_pure (c41 _ _) rfl ?_ ?_ ?_; (focus (first | rfl | ((simp only [go_sem, hk, AV.pureL, AV.pure, pureL_mapI, Bool.and_self]) <;> fail))); (focus (first | ((simp only [go_sem, hk]) <;> fail) | rfl))) | refine vcP_safe (c41 _ _) rfl rfl (by (simp only [go_sem, hk])) ?_ | refine dCallP_safe (c41 _ _) rfl rfl ?_ | (refine vcP_pure (c77 _ _) rfl ?_ ?_ ?_; (focus (first | rfl | ((simp only [go_sem, hk, AV.pureL, AV.pure, pureL_mapI, Bool.and_self]) <;> fail))); (focus (first | ((simp only [go_sem, hk]) <;> fail) | rfl))) | (refine dCallP_pure (c77 _ _) rfl ?_ ?_ ?_; (focus (first | rfl | ((simp only [go_sem, hk, AV.pureL, AV.pure, pureL_mapI, Bool.and_self]) <;> fail))); (focus (first | ((simp only [go_sem, hk]) <;> fail) | rfl))) | refine vcP_safe (c77 _ _) rfl rfl (by (simp only [go_sem, hk])) ?_ | refine dCallP_safe (c77 _ _) rfl rfl ?_ | (refine vcP_pure (h74) rfl ?_ ?_ ?_; (focus (first | rfl | ((simp only [go_sem, hk, AV.pureL, AV.pure, pureL_mapI, Bool.and_self]) <;> fail))); (focus (first | ((simp only [go_sem, hk]) <;> fail) | rfl))) | (refine dCallP_pure (h74) rfl ?_ ?_ ?_; (focus (first | rfl | ((simp only [go_sem, hk, AV.pureL, AV.pure, pureL_mapI, Bool.and_self]) <;> fail))); (focus (first | ((simp only [go_sem, hk]) <;> fail) | rfl))) | refine vcP_safe (h74) rfl rfl (by (simp only [go_sem, hk])) ?_ | refine dCallP_safe (h74) rfl rfl ?_) | (simp only [go_sem, hk])))
  · rw [show rLeft s i = _ from ans_no hk]
    refine PC.body Try.func35 (by kernel_rfl) rfl (by simp [Try.f35]) rfl ?_
    simp only [Try.f35]
    intro hlen
    simp only [go_sem, List.length_map, and_true, true_and] at hlen
    refine CV.run ?_
    (repeat' (first | ((first | with_reducible refine vcG_split ?_ ?_ | with_reducible refine vcIf_split ?_ ?_ | with_reducible refine vcQ_split ?_ ?_ | with_reducible refine vcDG_split ?_ ?_) <;> intro hb <;> (try rw [hb]) <;> (try simp only [Bool.and_eq_true, Bool.or_eq_true, dtrue, dfalse, Bool.not_eq_true', Bool.not_eq_false', Bool.and_eq_false_iff, Bool.or_eq_false_iff, Bool.not_true, Bool.not_false] at hb) <;> (try simp only [within] at hb) <;> try (simp only [go_sem, hk])) | refine And.intro (by (first | exact trivial | (simp only [I64]; omega) | omega)) ?_ | (with_reducible rw [vc_draw_eq]; first | refine CV.draw (id := 1) [(0, 0), (0, 0), (0, 0), (0, 0), (0, 0), (0, 0)] mixed rfl (by kernel_rfl) ?_) | (first | (refine vcP_pure (c41 _ _) rfl ?_ ?_ ?_; (focus (first | rfl | ((simp only [go_sem, hk, AV.pureL, AV.pure, pureL_mapI, Bool.and_self]) <;> fail))); (focus (first | ((simp only [go_sem, hk]) <;> fail) | rfl))) | (refine dCallP_pure (c41 _ _) rfl ?_ ?_ ?_; (focus (first | rfl | ((simp only [go_sem, hk, AV.pureL, AV.pure, pureL_mapI, Bool.and_self]) <;> fail))); (focus (first | ((simp only [go_sem, hk]) <;> fail) | rfl))) | refine vcP_safe (c41 _ _) rfl rfl (by (simp only [go_sem, hk])) ?_ | refine dCallP_safe (c41 _ _) rfl rfl ?_ | (refine vcP_pure (c77 _ _) rfl ?_ ?_ ?_; (focus (first | rfl | ((simp only [go_sem, hk, AV.pureL, AV.pure, pureL_mapI, Bool.and_self]) <;> fail))); (focus (first | ((simp only [go_sem, hk]) <;> fail) | rfl))) | (refine dCallP_pure (c77 _ _) rfl ?_ ?_ ?_; (focus (first | rfl | ((simp only [go_sem, hk, AV.pureL, AV.pure, pureL_mapI, Bool.and_self]) <;> fail))); (focus (first | ((simp only [go_sem, hk]) <;> fail) | rfl))) | refine vcP_safe (c77 _ _) rfl rfl (by (simp only [go_sem, hk])) ?_ | refine dCallP_safe (c77 _ _) rfl rfl ?_) | (simp only [go_sem, hk])))
theorem c37 (s : Shop) (p : Int) : PC Try.prog 37 [hS s, .int .i64 p] (.tup [.int .i64 (rSure s p).1, .int .i64 (rSure s p).2]) := by
  by_cases hk : kn s (within p 0 (s.wt.length - 1)) = 0
  · rw [show rSure s p = _ from ans_yes hk]
    obtain ⟨hv, hi, hne⟩ := kn0.1 hk
    refine PC.body Try.func37 (by kernel_rfl) rfl (by simp [Try.f37]) rfl ?_
    simp only [Try.f37]
    intro hlen
    simp only [go_sem, List.length_map, and_true, true_and] at hlen
    refine CV.run ?_
    (repeat' (first | ((first | with_reducible refine vcG_split ?_ ?_ | with_reducible refine vcIf_split ?_ ?_ | with_reducible refine vcQ_split ?_ ?_ | with_reducible refine vcDG_split ?_ ?_) <;> intro hb <;> (try rw [hb]) <;> (try simp only [Bool.and_eq_true, Bool.or_eq_true, dtrue, dfalse, Bool.not_eq_true', Bool.not_eq_false', Bool.and_eq_false_iff, Bool.or_eq_false_iff, Bool.not_true, Bool.not_false] at hb) <;> (try simp only [within] at hb) <;> try (simp only [go_sem, hk])) | refine And.intro (by (first | exact trivial | (simp only [I64]; omega) | omega)) ?_ | (with_reducible rw [vc_draw_eq]; first | refine CV.draw (id := 1) [(0, 0), (0, 0), (0, 0), (0, 0), (0, 0), (0, 0)] mixed rfl (by kernel_rfl) ?_) | (first | (refine vcP_pure (c31 _ _) rfl ?_ ?_ ?_; (focus (first | rfl | ((simp only [go_sem, hk, AV.pureL, AV.pure, pureL_mapI, Bool.and_self]) <;> fail))); (focus (first | ((simp only [go_sem, hk]) <;> fail) | rfl))) | (refine dCallP_pure (c31 _ _) rfl ?_ ?_ ?_; (focus (first | rfl | ((simp only [go_sem, hk, AV.pureL, AV.pure, pureL_mapI, Bool.and_self]) <;> fail))); (focus (first | ((simp only [go_sem, hk]) <;> fail) | rfl))) | refine vcP_safe (c31 _ _) rfl rfl (by (simp only [go_sem, hk])) ?_ | refine dCallP_safe (c31 _ _) rfl rfl ?_ | (refine vcP_pure (c77 _ _) rfl ?_ ?_ ?_; (focus (first | rfl | ((simp only [go_sem, hk, AV.pureL, AV.pure, pureL_mapI, Bool.and_self]) <;> fail))); (focus (first | ((simp only [go_sem, hk]) <;> fail) | rfl))) | (refine dCallP_pure (c77 _ _) rfl ?_ ?_ ?_; (focus (first | rfl | ((simp only [go_sem, hk, AV.pureL, AV.pure, pureL_mapI, Bool.and_self]) <;> fail))); (focus (first | ((simp only [go_sem, hk]) <;> fail) | rfl))) | refine vcP_safe (c77 _ _) rfl rfl (by (simp only [go_sem, hk])) ?_ | refine dCallP_safe (c77 _ _) rfl rfl ?_ | (refine vcP_pure (c79 s hv hne p) rfl ?_ ?_ ?_; (focus (first | rfl | ((simp only [go_sem, hk, AV.pureL, AV.pure, pureL_mapI, Bool.and_self]) <;> fail))); (focus (first | ((simp only [go_sem, hk]) <;> fail) | rfl))) | (refine dCallP_pure (c79 s hv hne p) rfl ?_ ?_ ?_; (focus (first | rfl | ((simp only [go_sem, hk, AV.pureL, AV.pure, pureL_mapI, Bool.and_self]) <;> fail))); (focus (first | ((simp only [go_sem, hk]) <;> fail) | rfl))) | refine vcP_safe (c79 s hv hne p) rfl rfl (by (simp only [go_sem, hk])) ?_ | refine dCallP_safe (c79 s hv hne p) rfl rfl ?_) | (simp only [go_sem, hk])))
  · rw [show rSure s p = _ from ans_no hk]
    refine PC.body Try.func37 (by kernel_rfl) rfl (by simp [Try.f37]) rfl ?_
    simp only [Try.f37]
    intro hlen
    simp only [go_sem, List.length_map, and_true, true_and] at hlen
    refine CV.run ?_
    (repeat' (first | ((first | with_reducible refine vcG_split ?_ ?_ | with_reducible refine vcIf_split ?_ ?_ | with_reducible refine vcQ_split ?_ ?_ | with_reducible refine vcDG_split ?_ ?_) <;> intro hb <;> (try rw [hb]) <;> (try simp only [Bool.and_eq_true, Bool.or_eq_true, dtrue, dfalse, Bool.not_eq_true', Bool.not_eq_false', Bool.and_eq_false_iff, Bool.or_eq_false_iff, Bool.not_true, Bool.not_false] at hb) <;> (try simp only [within] at hb) <;> try (simp only [go_sem, hk])) | refine And.intro (by (first | exact trivial | (simp only [I64]; omega) | omega)) ?_ | (with_reducible rw [vc_draw_eq]; first | refine CV.draw (id := 1) [(0, 0), (0, 0), (0, 0), (0, 0), (0, 0), (0, 0)] mixed rfl (by kernel_rfl) ?_) | (first | (refine vcP_pure (c31 _ _) rfl ?_ ?_ ?_; (focus (first | rfl | ((simp only [go_sem, hk, AV.pureL, AV.pure, pureL_mapI, Bool.and_self]) <;> fail))); (focus (first | ((simp only [go_sem, hk]) <;> fail) | rfl))) | (refine dCallP_pure (c31 _ _) rfl ?_ ?_ ?_; (focus (first | rfl | ((simp only [go_sem, hk, AV.pureL, AV.pure, pureL_mapI, Bool.and_self]) <;> fail))); (focus (first | ((simp only [go_sem, hk]) <;> fail) | rfl))) | refine vcP_safe (c31 _ _) rfl rfl (by (simp only [go_sem, hk])) ?_ | refine dCallP_safe (c31 _ _) rfl rfl ?_ | (refine vcP_pure (c77 _ _) rfl ?_ ?_ ?_; (focus (first | rfl | ((simp only [go_sem, hk, AV.pureL, AV.pure, pureL_mapI, Bool.and_self]) <;> fail))); (focus (first | ((simp only [go_sem, hk]) <;> fail) | rfl))) | (refine dCallP_pure (c77 _ _) rfl ?_ ?_ ?_; (focus (first | rfl | ((simp only [go_sem, hk, AV.pureL, AV.pure, pureL_mapI, Bool.and_self]) <;> fail))); (focus (first | ((simp only [go_sem, hk]) <;> fail) | rfl))) | refine vcP_safe (c77 _ _) rfl rfl (by (simp only [go_sem, hk])) ?_ | refine dCallP_safe (c77 _ _) rfl rfl ?_) | (simp only [go_sem, hk])))
set_option maxHeartbeats 1000000 in
theorem c39 (s : Shop) : PC Try.prog 39 [hS s] (.tup [.int .i64 (rNew s).1, .int .i64 (rNew s).2]) := by
  have h77 := c77 s True (i := instDecidableTrue)
  rw [decide_true] at h77
  by_cases hk : kn s True = 0
  · rw [show rNew s = _ from ans_yes hk]
    obtain ⟨hv, _, hne⟩ := kn0.1 hk
    have hf := hv.2.2.2.1
    unfold within at hf
    have h3 := hv.1
    refine PC.body Try.func39 (by kernel_rfl) rfl (by simp [Try.f39]) rfl ?_
    simp only [Try.f39]
    intro hlen
    simp only [go_sem, List.length_map, and_true, true_and] at hlen
    refine CV.run ?_
    (repeat' (first | ((first | with_reducible refine vcG_split ?_ ?_ | with_reducible refine vcIf_split ?_ ?_ | with_reducible refine vcQ_split ?_ ?_ | with_reducible refine vcDG_split ?_ ?_) <;> intro hb <;> (try rw [hb]) <;> (try simp only [Bool.and_eq_true, Bool.or_eq_true, dtrue, dfalse, Bool.not_eq_true', Bool.not_eq_false', Bool.and_eq_false_iff, Bool.or_eq_false_iff, Bool.not_true, Bool.not_false] at hb) <;> (try simp only [within] at hb) <;> try (simp only [go_sem, hk])) | refine And.intro (by (first | exact trivial | (simp only [I64]; omega) | omega)) ?_ | (with_reducible rw [vc_draw_eq]; first | refine CV.draw (id := 8) [(0, 0), (0, 0), (0, 0), (0, 0), (0, 0), (0, 0), (0, 0), (0, 0), (0, 0), (0, 0)] mixed rfl (by kernel_rfl) ?_) | (first | (refine vcP_pure (h77) rfl ?_ ?_ ?_; (focus (first | rfl | ((simp only [go_sem, hk, AV.pureL, AV.pure, pureL_mapI, Bool.and_self]) <;> fail))); (focus (first | ((simp only [go_sem, hk]) <;> fail) | rfl))) | (refine dCallP_pure (h77) rfl ?_ ?_ ?_; (focus (first | rfl | ((simp only [go_sem, hk, AV.pureL, AV.pure, pureL_mapI, Bool.and_self]) <;> fail))); (focus (first | ((simp only [go_sem, hk]) <;> fail) | rfl))) | refine vcP_safe (h77) rfl rfl (by (simp only [go_sem, hk])) ?_ | refine dCallP_safe (h77) rfl rfl ?_) | (simp only [go_sem, hk])))
    refine vc_for (fun j => ⟨[(6, .int .i64 j), (5, .int .i64 (neT s j)), (2, .int .i64 0), (3, .int .i64 0), (1, .lp 0 0)], [.box 26 (cS s) false]⟩) s.wt.length (fun j => True) (by (first | exact wk_same (by (simp only [go_sem, Int.natCast_add, Int.natCast_one, Int.natCast_zero, Int.cast_ofNat_Int, neT])) | exact wk_drop (by (simp only [go_sem, Int.natCast_add, Int.natCast_one, Int.natCast_zero, Int.cast_ofNat_Int, neT])) (by (simp only [go_sem, Int.natCast_add, Int.natCast_one, Int.natCast_zero, Int.cast_ofNat_Int, neT])) (by (simp only [go_sem, Int.natCast_add, Int.natCast_one, Int.natCast_zero, Int.cast_ofNat_Int, neT])) (by (simp only [go_sem, Int.natCast_add, Int.natCast_one, Int.natCast_zero, Int.cast_ofNat_Int, neT])) (by (simp only [go_sem, Int.natCast_add, Int.natCast_one, Int.natCast_zero, Int.cast_ofNat_Int, neT])))) trivial ?_
    intro j hj _
    have hb := neT_bounds hv j
    rcases Nat.lt_or_ge j s.wt.length with hlt | hge
    · obtain ⟨w, hw⟩ := get_of hlt
      have hlt' : (j : Int) < s.wt.length := by omega
      have hwb := hv.want hw
      have hsb := sur_bounds hv (j : Int)
      have e1 : ne1 s j = (max 0 (w - sur s j) + s.fr - 1) / s.fr := by simp [ne1, hw]
      obtain ⟨K, D, d0, d1, d2, d3, d4, d5⟩ := short_steps (w - sur s j) s.fr hf.1
      have hKb := ne1_bounds hv j
      rw [e1, ← d5] at hKb
      have e : neT s (j + 1) = neT s j + K := by simp only [neT, e1, d5]
      (repeat' (first | ((first | with_reducible refine vcG_split ?_ ?_ | with_reducible refine vcIf_split ?_ ?_ | with_reducible refine vcQ_split ?_ ?_ | with_reducible refine vcDG_split ?_ ?_) <;> intro hb <;> (try rw [hb]) <;> (try simp only [Bool.and_eq_true, Bool.or_eq_true, dtrue, dfalse, Bool.not_eq_true', Bool.not_eq_false', Bool.and_eq_false_iff, Bool.or_eq_false_iff, Bool.not_true, Bool.not_false] at hb) <;> (try simp only [within] at hb) <;> try (simp only [go_sem, hlt', hw, encN])) | refine And.intro (by (first | exact trivial | (simp only [I64]; omega) | omega)) ?_ | (with_reducible rw [vc_draw_eq]; first | refine CV.draw (id := 8) [(0, 0), (0, 0), (0, 0), (0, 0), (0, 0), (0, 0), (0, 0), (0, 0), (0, 0), (0, 0)] mixed rfl (by kernel_rfl) ?_) | (first | (refine vcP_pure (c79 s hv hne j) rfl ?_ ?_ ?_; (focus (first | rfl | ((simp only [go_sem, hlt', hw, encN, AV.pureL, AV.pure, pureL_mapI, Bool.and_self]) <;> fail))); (focus (first | ((simp only [go_sem, hlt', hw, encN]) <;> fail) | rfl))) | (refine dCallP_pure (c79 s hv hne j) rfl ?_ ?_ ?_; (focus (first | rfl | ((simp only [go_sem, hlt', hw, encN, AV.pureL, AV.pure, pureL_mapI, Bool.and_self]) <;> fail))); (focus (first | ((simp only [go_sem, hlt', hw, encN]) <;> fail) | rfl))) | refine vcP_safe (c79 s hv hne j) rfl rfl (by (simp only [go_sem, hlt', hw, encN])) ?_ | refine dCallP_safe (c79 s hv hne j) rfl rfl ?_) | (simp only [go_sem, hlt', hw, encN])))
      refine vc_for (fun i => ⟨[(7, .int .i64 (D i)), (5, .int .i64 (neT s j + i)), (6, .int .i64 j), (2, .int .i64 0), (3, .int .i64 0), (1, .lp 0 0)], [.box 26 (cS s) false]⟩) K (fun i => True) (by (first | exact wk_same (by (simp only [go_sem, Int.natCast_add, Int.natCast_one, Int.natCast_zero, Int.cast_ofNat_Int, d0, Int.add_zero])) | exact wk_drop (by (simp only [go_sem, Int.natCast_add, Int.natCast_one, Int.natCast_zero, Int.cast_ofNat_Int, d0, Int.add_zero])) (by (simp only [go_sem, Int.natCast_add, Int.natCast_one, Int.natCast_zero, Int.cast_ofNat_Int, d0, Int.add_zero])) (by (simp only [go_sem, Int.natCast_add, Int.natCast_one, Int.natCast_zero, Int.cast_ofNat_Int, d0, Int.add_zero])) (by (simp only [go_sem, Int.natCast_add, Int.natCast_one, Int.natCast_zero, Int.cast_ofNat_Int, d0, Int.add_zero])) (by (simp only [go_sem, Int.natCast_add, Int.natCast_one, Int.natCast_zero, Int.cast_ofNat_Int, d0, Int.add_zero])))) trivial ?_
      intro i hi _
      have q2 := d2 i
      have q3 := d3 i hi
      have q4 := d4 i
      by_cases hp : 0 < D i
      · have hik := q2.1 hp
        (repeat' (first | ((first | with_reducible refine vcG_split ?_ ?_ | with_reducible refine vcIf_split ?_ ?_ | with_reducible refine vcQ_split ?_ ?_ | with_reducible refine vcDG_split ?_ ?_) <;> intro hb <;> (try rw [hb]) <;> (try simp only [Bool.and_eq_true, Bool.or_eq_true, dtrue, dfalse, Bool.not_eq_true', Bool.not_eq_false', Bool.and_eq_false_iff, Bool.or_eq_false_iff, Bool.not_true, Bool.not_false] at hb) <;> (try simp only [within] at hb) <;> try (simp only [go_sem, hp])) | refine And.intro (by (first | exact trivial | (simp only [I64]; omega) | omega)) ?_ | (with_reducible rw [vc_draw_eq]; first | refine CV.draw (id := 8) [(0, 0), (0, 0), (0, 0), (0, 0), (0, 0), (0, 0), (0, 0), (0, 0), (0, 0), (0, 0)] mixed rfl (by kernel_rfl) ?_) | fail | (simp only [go_sem, hp])))
        all_goals first
          | (first | exact wk_same (by (simp only [go_sem, Int.natCast_add, Int.natCast_one, Int.natCast_zero, Int.cast_ofNat_Int, d1, Int.add_assoc])) | exact wk_drop (by (simp only [go_sem, Int.natCast_add, Int.natCast_one, Int.natCast_zero, Int.cast_ofNat_Int, d1, Int.add_assoc])) (by (simp only [go_sem, Int.natCast_add, Int.natCast_one, Int.natCast_zero, Int.cast_ofNat_Int, d1, Int.add_assoc])) (by (simp only [go_sem, Int.natCast_add, Int.natCast_one, Int.natCast_zero, Int.cast_ofNat_Int, d1, Int.add_assoc])) (by (simp only [go_sem, Int.natCast_add, Int.natCast_one, Int.natCast_zero, Int.cast_ofNat_Int, d1, Int.add_assoc])) (by (simp only [go_sem, Int.natCast_add, Int.natCast_one, Int.natCast_zero, Int.cast_ofNat_Int, d1, Int.add_assoc])))
          | omega
      · have hik : i = K := by
          have : ¬ i < K := fun h => hp (q2.2 h)
          omega
        subst hik
        (repeat' (first | ((first | with_reducible refine vcG_split ?_ ?_ | with_reducible refine vcIf_split ?_ ?_ | with_reducible refine vcQ_split ?_ ?_ | with_reducible refine vcDG_split ?_ ?_) <;> intro hb <;> (try rw [hb]) <;> (try simp only [Bool.and_eq_true, Bool.or_eq_true, dtrue, dfalse, Bool.not_eq_true', Bool.not_eq_false', Bool.and_eq_false_iff, Bool.or_eq_false_iff, Bool.not_true, Bool.not_false] at hb) <;> (try simp only [within] at hb) <;> try (simp only [go_sem, hp])) | refine And.intro (by (first | exact trivial | (simp only [I64]; omega) | omega)) ?_ | (with_reducible rw [vc_draw_eq]; first | refine CV.draw (id := 8) [(0, 0), (0, 0), (0, 0), (0, 0), (0, 0), (0, 0), (0, 0), (0, 0), (0, 0), (0, 0)] mixed rfl (by kernel_rfl) ?_) | fail | (simp only [go_sem, hp])))
        (first | exact wk_same (by (simp only [go_sem, Int.natCast_add, Int.natCast_one, Int.natCast_zero, Int.cast_ofNat_Int, e])) | exact wk_drop (by (simp only [go_sem, Int.natCast_add, Int.natCast_one, Int.natCast_zero, Int.cast_ofNat_Int, e])) (by (simp only [go_sem, Int.natCast_add, Int.natCast_one, Int.natCast_zero, Int.cast_ofNat_Int, e])) (by (simp only [go_sem, Int.natCast_add, Int.natCast_one, Int.natCast_zero, Int.cast_ofNat_Int, e])) (by (simp only [go_sem, Int.natCast_add, Int.natCast_one, Int.natCast_zero, Int.cast_ofNat_Int, e])) (by (simp only [go_sem, Int.natCast_add, Int.natCast_one, Int.natCast_zero, Int.cast_ofNat_Int, e])))
    · have hge' : ¬ (j : Int) < s.wt.length := by omega
      have : j = s.wt.length := by omega
      subst this
      (repeat' (first | ((first | with_reducible refine vcG_split ?_ ?_ | with_reducible refine vcIf_split ?_ ?_ | with_reducible refine vcQ_split ?_ ?_ | with_reducible refine vcDG_split ?_ ?_) <;> intro hb <;> (try rw [hb]) <;> (try simp only [Bool.and_eq_true, Bool.or_eq_true, dtrue, dfalse, Bool.not_eq_true', Bool.not_eq_false', Bool.and_eq_false_iff, Bool.or_eq_false_iff, Bool.not_true, Bool.not_false] at hb) <;> (try simp only [within] at hb) <;> try (simp only [go_sem, hge', neN])) | refine And.intro (by (first | exact trivial | (simp only [I64]; omega) | omega)) ?_ | (with_reducible rw [vc_draw_eq]; first | refine CV.draw (id := 8) [(0, 0), (0, 0), (0, 0), (0, 0), (0, 0), (0, 0), (0, 0), (0, 0), (0, 0), (0, 0)] mixed rfl (by kernel_rfl) ?_) | fail | (simp only [go_sem, hge', neN])))
  · rw [show rNew s = _ from ans_no hk]
    refine PC.body Try.func39 (by kernel_rfl) rfl (by simp [Try.f39]) rfl ?_
    simp only [Try.f39]
    intro hlen
    simp only [go_sem, List.length_map, and_true, true_and] at hlen
    refine CV.run ?_
    (repeat' (first | ((first | with_reducible refine vcG_split ?_ ?_ | with_reducible refine vcIf_split ?_ ?_ | with_reducible refine vcQ_split ?_ ?_ | with_reducible refine vcDG_split ?_ ?_) <;> intro hb <;> (try rw [hb]) <;> (try simp only [Bool.and_eq_true, Bool.or_eq_true, dtrue, dfalse, Bool.not_eq_true', Bool.not_eq_false', Bool.and_eq_false_iff, Bool.or_eq_false_iff, Bool.not_true, Bool.not_false] at hb) <;> (try simp only [within] at hb) <;> try (simp only [go_sem, hk])) | refine And.intro (by (first | exact trivial | (simp only [I64]; omega) | omega)) ?_ | (with_reducible rw [vc_draw_eq]; first | refine CV.draw (id := 8) [(0, 0), (0, 0), (0, 0), (0, 0), (0, 0), (0, 0), (0, 0), (0, 0), (0, 0), (0, 0)] mixed rfl (by kernel_rfl) ?_) | (first | (refine vcP_pure (h77) rfl ?_ ?_ ?_; (focus (first | rfl | ((simp only [go_sem, hk, AV.pureL, AV.pure, pureL_mapI, Bool.and_self]) <;> fail))); (focus (first | ((simp only [go_sem, hk]) <;> fail) | rfl))) | (refine dCallP_pure (h77) rfl ?_ ?_ ?_; (focus (first | rfl | ((simp only [go_sem, hk, AV.pureL, AV.pure, pureL_mapI, Bool.and_self]) <;> fail))); (focus (first | ((simp only [go_sem, hk]) <;> fail) | rfl))) | refine vcP_safe (h77) rfl rfl (by (simp only [go_sem, hk])) ?_ | refine dCallP_safe (h77) rfl rfl ?_) | (simp only [go_sem, hk])))
end Go.Proofs.Ytekdocalipchpaa
