/- Contracts of functions of the given program, without a condition beyond those that each theorem states; they lead to the given statement. -/
import Derived.Test.YtekdocalipchpaaV02l
set_option linter.unusedSimpArgs false
set_option linter.unusedVariables false
set_option maxRecDepth 100000
namespace Go.Proofs.Ytekdocalipchpaa
open Go Go.Fl
open Classical
def redN (n a d : Nat) : Nat × Nat := if d < Nat.gcd n a then (n / Nat.gcd n a, a / Nat.gcd n a) else (n, a)
theorem redN_step {n a d : Nat} (ha : 0 < a) (hd : 1 < d) : (((redN n a d).1 % d = 0 ∧ (redN n a d).2 % d = 0) → redN n a (d - 1) = ((redN n a d).1 / d, (redN n a d).2 / d)) ∧
    (¬ ((redN n a d).1 % d = 0 ∧ (redN n a d).2 % d = 0) → redN n a (d - 1) = redN n a d) := by
  have hg : 0 < Nat.gcd n a := Nat.gcd_pos_of_pos_right _ ha
  unfold redN
  generalize hgg : Nat.gcd n a = g at hg
  rcases Nat.lt_trichotomy d g with h | h | h
  · rw [if_pos h, if_pos (by omega)]
    have hcop : Nat.gcd (n / g) (a / g) = 1 := by
      have := Nat.gcd_div (Nat.gcd_dvd_left n a) (Nat.gcd_dvd_right n a)
      rw [hgg, Nat.div_self hg] at this
      exact this
    refine ⟨fun ⟨h1, h2⟩ => ?_, fun _ => rfl⟩
    have := Nat.dvd_gcd (Nat.dvd_of_mod_eq_zero h1) (Nat.dvd_of_mod_eq_zero h2)
    rw [hcop] at this
    have := Nat.le_of_dvd (by omega) this
    omega
  · rw [if_neg (by omega), if_pos (by omega)]
    subst h
    have h1 := Nat.mod_eq_zero_of_dvd (hgg ▸ Nat.gcd_dvd_left n a)
    have h2 := Nat.mod_eq_zero_of_dvd (hgg ▸ Nat.gcd_dvd_right n a)
    exact ⟨fun _ => rfl, fun h => absurd ⟨h1, h2⟩ h⟩
  · rw [if_neg (by omega), if_neg (by omega)]
    refine ⟨fun ⟨h1, h2⟩ => ?_, fun _ => rfl⟩
    have := Nat.dvd_gcd (Nat.dvd_of_mod_eq_zero h1) (Nat.dvd_of_mod_eq_zero h2)
    rw [hgg] at this
    have := Nat.le_of_dvd hg this
    omega
theorem redN_first {n a : Nat} (ha : 0 < a) : redN n a a = (n, a) := if_neg (by have := Nat.le_of_dvd ha (Nat.gcd_dvd_right n a); omega)
theorem redN_last {n a : Nat} (ha : 0 < a) : redN n a 1 = (n / Nat.gcd n a, a / Nat.gcd n a) := by
  have hg : 0 < Nat.gcd n a := Nat.gcd_pos_of_pos_right _ ha
  unfold redN
  split
  · rfl
  · have : Nat.gcd n a = 1 := by omega
    rw [this, Nat.div_one, Nat.div_one]
theorem redN_le {n a d : Nat} : (redN n a d).1 ≤ n ∧ (redN n a d).2 ≤ a := by
  unfold redN
  split
  · exact ⟨Nat.div_le_self _ _, Nat.div_le_self _ _⟩
  · exact ⟨Nat.le_refl _, Nat.le_refl _⟩
set_option maxHeartbeats 4000000 in
theorem c47 (s : Shop) (l : List Int) : PC Try.prog 47 [hS s, lN l] (.tup [.agg [.int .i64 (rChance s l).1.1, .int .i64 (rChance s l).1.2], .int .i64 (rChance s l).2]) := by
  by_cases hk : knS s l = 0
  · rw [show rChance s l = _ from ans_yes hk]
    obtain ⟨hv, hs, hne⟩ := kn0.1 hk
    have h6 := aW_len hv
    have h0 := List.length_pos_iff.2 hne
    have hel := encL_len (s := s) (W := aW s)
    have hb := cntP_bounds (holdsB s l) (aW s)
    change 0 ≤ cnt s l ∧ cnt s l ≤ _ at hb
    obtain ⟨n, hn⟩ : ∃ n : Nat, cnt s l = n := ⟨(cnt s l).toNat, by omega⟩
    have h73 := c73 s hv l (sh_len hs)
    simp only [part]
    rw [hn] at hb h73 ⊢
    rw [Int.toNat_natCast]
    have hrl := redN_last (n := n) h0
    have hrf := redN_first (n := n) h0
    generalize (aW s).length = a at hrl hrf hb h0 h6 hel ⊢
    rw [show n / Nat.gcd n a = (redN n a 1).1 from by rw [hrl], show a / Nat.gcd n a = (redN n a 1).2 from by rw [hrl]]
    refine PC.body Try.func47 (by kernel_rfl) rfl (by simp [Try.f47]) rfl ?_
    simp only [Try.f47]
    intro hlen
    simp only [go_sem, List.length_map, and_true, true_and] at hlen
    refine CV.run ?_
    (repeat' (first | ((first | with_reducible refine vcG_split ?_ ?_ | with_reducible refine vcIf_split ?_ ?_ | with_reducible refine vcQ_split ?_ ?_ | with_reducible refine vcDG_split ?_ ?_) <;> intro hb <;> (try rw [hb]) <;> (try simp only [Bool.and_eq_true, Bool.or_eq_true, dtrue, dfalse, Bool.not_eq_true', Bool.not_eq_false', Bool.and_eq_false_iff, Bool.or_eq_false_iff, Bool.not_true, Bool.not_false] at hb) <;> (try simp only [within] at hb) <;> try (simp only [go_sem, hk, hel])) | refine And.intro (by (first | exact trivial | (simp only [I64]; omega) | omega)) ?_ | (with_reducible rw [vc_draw_eq]; first | refine CV.draw (id := 4) [(0, 0), (0, 0), (0, 0), (0, 0), (0, 0), (0, 0), (0, 0), (0, 0), (0, 0), (0, 0), (0, 0)] mixed rfl (by kernel_rfl) ?_ | refine CV.draw (id := 9) [(0, 0), (0, 0), (0, 0), (0, 0), (0, 0), (0, 0), (0, 1), (0, 1), (0, 0), (0, 0), (1, 1), (0, 0)] mixed rfl (by kernel_rfl) ?_) | (first | (refine vcP_pure (o81 hk) rfl ?_ ?_ ?_; (focus (first | rfl | ((simp only [go_sem, hk, hel, AV.pureL, AV.pure, pureL_mapI, Bool.and_self]) <;> fail))); (focus (first | ((simp only [go_sem, hk, hel]) <;> fail) | rfl))) | (refine dCallP_pure (o81 hk) rfl ?_ ?_ ?_; (focus (first | rfl | ((simp only [go_sem, hk, hel, AV.pureL, AV.pure, pureL_mapI, Bool.and_self]) <;> fail))); (focus (first | ((simp only [go_sem, hk, hel]) <;> fail) | rfl))) | (refine dCallC_pure (o81 hk) rfl ?_ ?_ ?_; (focus (first | rfl | ((simp only [go_sem, hk, hel, AV.pureL, AV.pure, pureL_mapI, Bool.and_self]) <;> fail))); (focus (first | ((simp only [go_sem, hk, hel]) <;> fail) | rfl))) | refine dCallC_safe (o81 hk) rfl rfl (by (simp only [go_sem, hk, hel])) ?_ | refine vcP_safe (o81 hk) rfl rfl (by (simp only [go_sem, hk, hel])) ?_ | refine dCallP_safe (o81 hk) rfl rfl ?_ | (refine vcP_pure (h73) rfl ?_ ?_ ?_; (focus (first | rfl | ((simp only [go_sem, hk, hel, AV.pureL, AV.pure, pureL_mapI, Bool.and_self]) <;> fail))); (focus (first | ((simp only [go_sem, hk, hel]) <;> fail) | rfl))) | (refine dCallP_pure (h73) rfl ?_ ?_ ?_; (focus (first | rfl | ((simp only [go_sem, hk, hel, AV.pureL, AV.pure, pureL_mapI, Bool.and_self]) <;> fail))); (focus (first | ((simp only [go_sem, hk, hel]) <;> fail) | rfl))) | (refine dCallC_pure (h73) rfl ?_ ?_ ?_; (focus (first | rfl | ((simp only [go_sem, hk, hel, AV.pureL, AV.pure, pureL_mapI, Bool.and_self]) <;> fail))); (focus (first | ((simp only [go_sem, hk, hel]) <;> fail) | rfl))) | refine dCallC_safe (h73) rfl rfl (by (simp only [go_sem, hk, hel])) ?_ | refine vcP_safe (h73) rfl rfl (by (simp only [go_sem, hk, hel])) ?_ | refine dCallP_safe (h73) rfl rfl ?_) | (simp only [go_sem, hk, hel])))
    refine vc_for (fun j => ⟨[(9, .int .i64 ((a - j : Nat) : Int)), (8, .lp 2 0), (4, .lp 1 0), (5, .int .i64 0)], [.box 26 (cS s) false, .box 63 [.int .i64 0, .int .i64 0] false, .box 63 [.int .i64 ((redN n a (a - j)).1 : Nat), .int .i64 ((redN n a (a - j)).2 : Nat)] false]⟩) (a - 1) (fun j => True) (by (first | exact wk_same (by (simp only [go_sem, Int.natCast_add, Int.natCast_one, Int.natCast_zero, Int.cast_ofNat_Int, hrf, Nat.sub_zero])) | exact wk_drop (by (simp only [go_sem, Int.natCast_add, Int.natCast_one, Int.natCast_zero, Int.cast_ofNat_Int, hrf, Nat.sub_zero])) (by (simp only [go_sem, Int.natCast_add, Int.natCast_one, Int.natCast_zero, Int.cast_ofNat_Int, hrf, Nat.sub_zero])) (by (simp only [go_sem, Int.natCast_add, Int.natCast_one, Int.natCast_zero, Int.cast_ofNat_Int, hrf, Nat.sub_zero])) (by (simp only [go_sem, Int.natCast_add, Int.natCast_one, Int.natCast_zero, Int.cast_ofNat_Int, hrf, Nat.sub_zero])) (by (simp only [go_sem, Int.natCast_add, Int.natCast_one, Int.natCast_zero, Int.cast_ofNat_Int, hrf, Nat.sub_zero])))) trivial ?_
    intro j hj _
    obtain ⟨d, hd⟩ : ∃ d, d = a - j := ⟨_, rfl⟩
    rw [show a - (j + 1) = d - 1 from by omega, ← hd]
    have hst := redN_step (n := n) (a := a) (d := d) h0
    have hle := redN_le (n := n) (a := a) (d := d)
    rcases Nat.lt_or_ge 1 d with h1 | h1
    · have hst := hst h1
      have h1' : (1 : Int) < d := by omega
      generalize hq : redN n a d = q at hst hle ⊢
      obtain ⟨x, y⟩ := q
      simp only at hst hle ⊢
      have em1 : (x : Int) % (d : Int) = ((x % d : Nat) : Int) := by simp
      have em2 : (y : Int) % (d : Int) = ((y % d : Nat) : Int) := by simp
      have ed1 : (x : Int) / (d : Int) = ((x / d : Nat) : Int) := by simp
      have ed2 : (y : Int) / (d : Int) = ((y / d : Nat) : Int) := by simp
      have ec : (d : Int) - 1 = ((d - 1 : Nat) : Int) := by omega
      by_cases hx : x % d = 0
      · have hx' : ((x % d : Nat) : Int) = 0 := by omega
        by_cases hy : y % d = 0
        · have hy' : ((y % d : Nat) : Int) = 0 := by omega
          have e := hst.1 ⟨hx, hy⟩
          (repeat' (first | ((first | with_reducible refine vcG_split ?_ ?_ | with_reducible refine vcIf_split ?_ ?_ | with_reducible refine vcQ_split ?_ ?_ | with_reducible refine vcDG_split ?_ ?_) <;> intro hb <;> (try rw [hb]) <;> (try simp only [Bool.and_eq_true, Bool.or_eq_true, dtrue, dfalse, Bool.not_eq_true', Bool.not_eq_false', Bool.and_eq_false_iff, Bool.or_eq_false_iff, Bool.not_true, Bool.not_false] at hb) <;> (try simp only [within] at hb) <;> try (simp only [go_sem, h1', em1, em2, hx', hy', ed1, ed2, ec])) | refine And.intro (by (first | exact trivial | (simp only [I64]; omega) | omega)) ?_ | (with_reducible rw [vc_draw_eq]; first | refine CV.draw (id := 4) [(0, 0), (0, 0), (0, 0), (0, 0), (0, 0), (0, 0), (0, 0), (0, 0), (0, 0), (0, 0), (0, 0)] mixed rfl (by kernel_rfl) ?_ | refine CV.draw (id := 9) [(0, 0), (0, 0), (0, 0), (0, 0), (0, 0), (0, 0), (0, 1), (0, 1), (0, 0), (0, 0), (1, 1), (0, 0)] mixed rfl (by kernel_rfl) ?_) | (simp only [go_sem, h1', em1, em2, hx', hy', ed1, ed2, ec])))
          all_goals first
            | (first | exact wk_same (by (simp only [go_sem, Int.natCast_add, Int.natCast_one, Int.natCast_zero, Int.cast_ofNat_Int, e])) | exact wk_drop (by (simp only [go_sem, Int.natCast_add, Int.natCast_one, Int.natCast_zero, Int.cast_ofNat_Int, e])) (by (simp only [go_sem, Int.natCast_add, Int.natCast_one, Int.natCast_zero, Int.cast_ofNat_Int, e])) (by (simp only [go_sem, Int.natCast_add, Int.natCast_one, Int.natCast_zero, Int.cast_ofNat_Int, e])) (by (simp only [go_sem, Int.natCast_add, Int.natCast_one, Int.natCast_zero, Int.cast_ofNat_Int, e])) (by (simp only [go_sem, Int.natCast_add, Int.natCast_one, Int.natCast_zero, Int.cast_ofNat_Int, e])))
            | trace_state
        · have hy' : ¬ ((y % d : Nat) : Int) = 0 := by omega
          have e := hst.2 fun h => hy h.2
          (repeat' (first | ((first | with_reducible refine vcG_split ?_ ?_ | with_reducible refine vcIf_split ?_ ?_ | with_reducible refine vcQ_split ?_ ?_ | with_reducible refine vcDG_split ?_ ?_) <;> intro hb <;> (try rw [hb]) <;> (try simp only [Bool.and_eq_true, Bool.or_eq_true, dtrue, dfalse, Bool.not_eq_true', Bool.not_eq_false', Bool.and_eq_false_iff, Bool.or_eq_false_iff, Bool.not_true, Bool.not_false] at hb) <;> (try simp only [within] at hb) <;> try (simp only [go_sem, h1', em1, em2, hx', hy', ec])) | refine And.intro (by (first | exact trivial | (simp only [I64]; omega) | omega)) ?_ | (with_reducible rw [vc_draw_eq]; first | refine CV.draw (id := 4) [(0, 0), (0, 0), (0, 0), (0, 0), (0, 0), (0, 0), (0, 0), (0, 0), (0, 0), (0, 0), (0, 0)] mixed rfl (by kernel_rfl) ?_ | refine CV.draw (id := 9) [(0, 0), (0, 0), (0, 0), (0, 0), (0, 0), (0, 0), (0, 1), (0, 1), (0, 0), (0, 0), (1, 1), (0, 0)] mixed rfl (by kernel_rfl) ?_) | (simp only [go_sem, h1', em1, em2, hx', hy', ec])))
          all_goals first
            | (first | exact wk_same (by (simp only [go_sem, Int.natCast_add, Int.natCast_one, Int.natCast_zero, Int.cast_ofNat_Int, e])) | exact wk_drop (by (simp only [go_sem, Int.natCast_add, Int.natCast_one, Int.natCast_zero, Int.cast_ofNat_Int, e])) (by (simp only [go_sem, Int.natCast_add, Int.natCast_one, Int.natCast_zero, Int.cast_ofNat_Int, e])) (by (simp only [go_sem, Int.natCast_add, Int.natCast_one, Int.natCast_zero, Int.cast_ofNat_Int, e])) (by (simp only [go_sem, Int.natCast_add, Int.natCast_one, Int.natCast_zero, Int.cast_ofNat_Int, e])) (by (simp only [go_sem, Int.natCast_add, Int.natCast_one, Int.natCast_zero, Int.cast_ofNat_Int, e])))
            | trace_state
      · have hx' : ¬ ((x % d : Nat) : Int) = 0 := by omega
        have e := hst.2 fun h => hx h.1
        (repeat' (first | ((first | with_reducible refine vcG_split ?_ ?_ | with_reducible refine vcIf_split ?_ ?_ | with_reducible refine vcQ_split ?_ ?_ | with_reducible refine vcDG_split ?_ ?_) <;> intro hb <;> (try rw [hb]) <;> (try simp only [Bool.and_eq_true, Bool.or_eq_true, dtrue, dfalse, Bool.not_eq_true', Bool.not_eq_false', Bool.and_eq_false_iff, Bool.or_eq_false_iff, Bool.not_true, Bool.not_false] at hb) <;> (try simp only [within] at hb) <;> try (simp only [go_sem, h1', em1, em2, hx', ec])) | refine And.intro (by (first | exact trivial | (simp only [I64]; omega) | omega)) ?_ | (with_reducible rw [vc_draw_eq]; first | refine CV.draw (id := 4) [(0, 0), (0, 0), (0, 0), (0, 0), (0, 0), (0, 0), (0, 0), (0, 0), (0, 0), (0, 0), (0, 0)] mixed rfl (by kernel_rfl) ?_ | refine CV.draw (id := 9) [(0, 0), (0, 0), (0, 0), (0, 0), (0, 0), (0, 0), (0, 1), (0, 1), (0, 0), (0, 0), (1, 1), (0, 0)] mixed rfl (by kernel_rfl) ?_) | (simp only [go_sem, h1', em1, em2, hx', ec])))
        all_goals first
          | (first | exact wk_same (by (simp only [go_sem, Int.natCast_add, Int.natCast_one, Int.natCast_zero, Int.cast_ofNat_Int, e])) | exact wk_drop (by (simp only [go_sem, Int.natCast_add, Int.natCast_one, Int.natCast_zero, Int.cast_ofNat_Int, e])) (by (simp only [go_sem, Int.natCast_add, Int.natCast_one, Int.natCast_zero, Int.cast_ofNat_Int, e])) (by (simp only [go_sem, Int.natCast_add, Int.natCast_one, Int.natCast_zero, Int.cast_ofNat_Int, e])) (by (simp only [go_sem, Int.natCast_add, Int.natCast_one, Int.natCast_zero, Int.cast_ofNat_Int, e])) (by (simp only [go_sem, Int.natCast_add, Int.natCast_one, Int.natCast_zero, Int.cast_ofNat_Int, e])))
          | trace_state
    · have h1' : ¬ (1 : Int) < d := by omega
      have : d = 1 := by omega
      subst this
      (repeat' (first | ((first | with_reducible refine vcG_split ?_ ?_ | with_reducible refine vcIf_split ?_ ?_ | with_reducible refine vcQ_split ?_ ?_ | with_reducible refine vcDG_split ?_ ?_) <;> intro hb <;> (try rw [hb]) <;> (try simp only [Bool.and_eq_true, Bool.or_eq_true, dtrue, dfalse, Bool.not_eq_true', Bool.not_eq_false', Bool.and_eq_false_iff, Bool.or_eq_false_iff, Bool.not_true, Bool.not_false] at hb) <;> (try simp only [within] at hb) <;> try (simp only [go_sem, h1'])) | refine And.intro (by (first | exact trivial | (simp only [I64]; omega) | omega)) ?_ | (with_reducible rw [vc_draw_eq]; first | refine CV.draw (id := 4) [(0, 0), (0, 0), (0, 0), (0, 0), (0, 0), (0, 0), (0, 0), (0, 0), (0, 0), (0, 0), (0, 0)] mixed rfl (by kernel_rfl) ?_ | refine CV.draw (id := 9) [(0, 0), (0, 0), (0, 0), (0, 0), (0, 0), (0, 0), (0, 1), (0, 1), (0, 0), (0, 0), (1, 1), (0, 0)] mixed rfl (by kernel_rfl) ?_) | (simp only [go_sem, h1'])))
      all_goals trace_state
  · rw [show rChance s l = _ from ans_no hk]
    refine PC.body Try.func47 (by kernel_rfl) rfl (by simp [Try.f47]) rfl ?_
    simp only [Try.f47]
    intro hlen
    simp only [go_sem, List.length_map, and_true, true_and] at hlen
    refine CV.run ?_
    (repeat' (first | ((first | with_reducible refine vcG_split ?_ ?_ | with_reducible refine vcIf_split ?_ ?_ | with_reducible refine vcQ_split ?_ ?_ | with_reducible refine vcDG_split ?_ ?_) <;> intro hb <;> (try rw [hb]) <;> (try simp only [Bool.and_eq_true, Bool.or_eq_true, dtrue, dfalse, Bool.not_eq_true', Bool.not_eq_false', Bool.and_eq_false_iff, Bool.or_eq_false_iff, Bool.not_true, Bool.not_false] at hb) <;> (try simp only [within] at hb) <;> try (simp only [go_sem, hk])) | refine And.intro (by (first | exact trivial | (simp only [I64]; omega) | omega)) ?_ | (with_reducible rw [vc_draw_eq]; first | refine CV.draw (id := 4) [(0, 0), (0, 0), (0, 0), (0, 0), (0, 0), (0, 0), (0, 0), (0, 0), (0, 0), (0, 0), (0, 0)] mixed rfl (by kernel_rfl) ?_ | refine CV.draw (id := 9) [(0, 0), (0, 0), (0, 0), (0, 0), (0, 0), (0, 0), (0, 1), (0, 1), (0, 0), (0, 0), (1, 1), (0, 0)] mixed rfl (by kernel_rfl) ?_) | (first | (refine vcP_pure (n81 hk) rfl ?_ ?_ ?_; (focus (first | rfl | ((simp only [go_sem, hk, AV.pureL, AV.pure, pureL_mapI, Bool.and_self]) <;> fail))); (focus (first | ((simp only [go_sem, hk]) <;> fail) | rfl))) | (refine dCallP_pure (n81 hk) rfl ?_ ?_ ?_; (focus (first | rfl | ((simp only [go_sem, hk, AV.pureL, AV.pure, pureL_mapI, Bool.and_self]) <;> fail))); (focus (first | ((simp only [go_sem, hk]) <;> fail) | rfl))) | (refine dCallC_pure (n81 hk) rfl ?_ ?_ ?_; (focus (first | rfl | ((simp only [go_sem, hk, AV.pureL, AV.pure, pureL_mapI, Bool.and_self]) <;> fail))); (focus (first | ((simp only [go_sem, hk]) <;> fail) | rfl))) | refine dCallC_safe (n81 hk) rfl rfl (by (simp only [go_sem, hk])) ?_ | refine vcP_safe (n81 hk) rfl rfl (by (simp only [go_sem, hk])) ?_ | refine dCallP_safe (n81 hk) rfl rfl ?_) | (simp only [go_sem, hk])))
end Go.Proofs.Ytekdocalipchpaa

