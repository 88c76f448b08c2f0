/- Contracts of functions of the given program, without a condition beyond those that each theorem states; they lead to the given statement. -/
import Derived.Test.YtllmohmgakdbdaaW07q
set_option linter.unusedSimpArgs false
set_option linter.unusedVariables false
set_option maxRecDepth 100000
namespace Go.Proofs.Ytllmohmgakdbdaa
open Go Go.Fl
open Classical
def thereAt (ts : List Thing) (m : Int) (n : Nat) : Prop := ∃ t, ts[n]? = some t ∧ t.prints = 1 ∧ t.at_ ≤ m
def mixedAt (ts : List Thing) (ms : List Mark) (c : Int) (m : Nat) : Prop := mixes (sP ts ms c) m (sel (thereAt ts m) ts.length)
noncomputable def spanT (ts : List Thing) (ms : List Mark) (c : Int) : Nat → Int × Int
  | 0 => (100, 0)
  | n + 1 => if mixedAt ts ms c n then (min (spanT ts ms c n).1 n, n) else spanT ts ms c n
noncomputable def rTime (ts : List Thing) (ms : List Mark) (c : Int) : (Int × Int) × Int := answer ts ms (within c 0 2) (0, 0) (if (spanT ts ms c 100).1 = 100 then ((0, 0), 3) else (spanT ts ms c 100, 0))
theorem sel_mem {p : Nat → Prop} : ∀ n x, x ∈ sel p n ↔ ∃ i : Nat, i < n ∧ x = (i : Int) ∧ p i
  | 0, x => by simp [sel]
  | n + 1, x => by
    have ih := sel_mem (p := p) n x
    by_cases hp : p n
    · rw [sel_yes hp, List.mem_append, ih]
      constructor
      · rintro (⟨i, h1, h2⟩ | h)
        · exact ⟨i, by omega, h2⟩
        · exact ⟨n, by omega, by simpa using h, hp⟩
      · rintro ⟨i, h1, h2, h3⟩
        rcases Nat.lt_or_ge i n with h | h
        · exact .inl ⟨i, h, h2, h3⟩
        · have : i = n := by omega
          subst this; exact .inr (by simp [h2])
    · rw [sel_no hp, ih]
      constructor
      · rintro ⟨i, h1, h2⟩; exact ⟨i, by omega, h2⟩
      · rintro ⟨i, h1, h2, h3⟩
        rcases Nat.lt_or_ge i n with h | h
        · exact ⟨i, h, h2, h3⟩
        · have : i = n := by omega
          subst this; exact absurd h3 hp
theorem spanT_bounds (ts : List Thing) (ms : List Mark) (c : Int) : ∀ n, n ≤ 100 → 0 ≤ (spanT ts ms c n).1 ∧ (spanT ts ms c n).1 ≤ 100 ∧ 0 ≤ (spanT ts ms c n).2 ∧ (spanT ts ms c n).2 ≤ 100
  | 0, _ => by simp [spanT]
  | n + 1, h => by
    have := spanT_bounds ts ms c n (by omega)
    unfold spanT; split <;> (try simp only) <;> omega
theorem c32 (ts : List Thing) (ms : List Mark) (c : Int) : PC Try.prog 32 [hT ts ms, .int .i64 c] (.tup [.agg [.int .i64 (rTime ts ms c).1.1, .int .i64 (rTime ts ms c).1.2], .int .i64 (rTime ts ms c).2]) := by
  by_cases hq : valid ts ms ∧ within c 0 2
  · obtain ⟨hv, hc⟩ := id hq
    have hl := hv.1
    rw [show rTime ts ms c = _ from answer_yes hq]
    have hk := askP_ok hv
    have h69 : ∀ m : Nat, PC Try.prog 69 [hX ts ms c (sP ts ms c) (bP ts ms c), .fn 70 [.pp [hX ts ms c (sP ts ms c) (bP ts ms c)], .pp [.int .i64 m]]] (lN (sel (thereAt ts m) ts.length)) := fun m =>
      c69 ts ms c (sP ts ms c) (bP ts ms c) 70 [.pp [hX ts ms c (sP ts ms c) (bP ts ms c)], .pp [.int .i64 m]] (by simp [AV.pureL, AV.pure]) (by intro h H; simp [frL, frV]) (fun n t => t.prints = 1 ∧ t.at_ ≤ m) (fun i t hit => PC.dec (c70 ts ms c _ _ i t hit m)) (by omega)
    have h68 : ∀ m : Nat, PC Try.prog 68 [hX ts ms c (sP ts ms c) (bP ts ms c), lN (sel (thereAt ts m) ts.length), .int .i64 m] (.bool (decide (mixedAt ts ms c m))) := fun m =>
      PC.dec (c68 ts ms c (sP ts ms c) (bP ts ms c) (sP_len ts ms c) m _ (fun n hn => by obtain ⟨i, h1, h2, _⟩ := (sel_mem _ _).1 hn; omega))
    generalize hX' : AV.pp (.lst false 4 (ts.map encT) :: .lst false 3 (ms.map encM) :: .int .i64 c :: ((sP ts ms c).map I ++ (bP ts ms c).map I)) = X
    have hXp : X.pure = true := by rw [← hX']; rfl
    refine PC.body Try.func32 (by kernel_rfl) rfl (by simp [Try.f32]) rfl ?_
    simp only [Try.f32]
    intro hlen
    simp only [go_sem, List.length_map, and_true, true_and] at hlen
    refine CV.run ?_
    (repeat' (first | ((first | with_reducible refine vcG_split ?_ ?_ | with_reducible refine vcIf_split ?_ ?_ | with_reducible refine vcQ_split ?_ ?_ | with_reducible refine vcDG_split ?_ ?_) <;> intro hb <;> (try rw [hb]) <;> (try simp only [Bool.and_eq_true, Bool.or_eq_true, dtrue, dfalse, Bool.not_eq_true', Bool.not_eq_false', Bool.and_eq_false_iff, Bool.or_eq_false_iff, Bool.not_true, Bool.not_false] at hb) <;> (try simp only [within] at hb) <;> try (simp only [go_sem, hc, hk, pureL_I, frL_I, frzL_I])) | refine And.intro (by (first | exact trivial | (simp only [I64]; omega) | omega)) ?_ | (with_reducible rw [vc_draw_eq]; first | refine CV.draw (id := 1) [(0, 0), (0, 0), (0, 0), (0, 0), (0, 0)] mixed rfl (by kernel_rfl) ?_) | (first | (refine vcP_pure (c60 _) rfl ?_ ?_ ?_; (focus (first | rfl | ((simp only [go_sem, hc, hk, pureL_I, frL_I, frzL_I, AV.pureL, AV.pure, pureL_mapI, Bool.and_self]) <;> fail))); (focus (first | ((simp only [go_sem, hc, hk, pureL_I, frL_I, frzL_I]) <;> fail) | rfl))) | (refine dCallP_pure (c60 _) rfl ?_ ?_ ?_; (focus (first | rfl | ((simp only [go_sem, hc, hk, pureL_I, frL_I, frzL_I, AV.pureL, AV.pure, pureL_mapI, Bool.and_self]) <;> fail))); (focus (first | ((simp only [go_sem, hc, hk, pureL_I, frL_I, frzL_I]) <;> fail) | rfl))) | refine vcP_safe (c60 _) rfl rfl (by (simp only [go_sem, hc, hk, pureL_I, frL_I, frzL_I])) ?_ | refine dCallP_safe (c60 _) rfl rfl ?_ | (refine vcP_pure (c59 _ _ _) rfl ?_ ?_ ?_; (focus (first | rfl | ((simp only [go_sem, hc, hk, pureL_I, frL_I, frzL_I, AV.pureL, AV.pure, pureL_mapI, Bool.and_self]) <;> fail))); (focus (first | ((simp only [go_sem, hc, hk, pureL_I, frL_I, frzL_I]) <;> fail) | rfl))) | (refine dCallP_pure (c59 _ _ _) rfl ?_ ?_ ?_; (focus (first | rfl | ((simp only [go_sem, hc, hk, pureL_I, frL_I, frzL_I, AV.pureL, AV.pure, pureL_mapI, Bool.and_self]) <;> fail))); (focus (first | ((simp only [go_sem, hc, hk, pureL_I, frL_I, frzL_I]) <;> fail) | rfl))) | refine vcP_safe (c59 _ _ _) rfl rfl (by (simp only [go_sem, hc, hk, pureL_I, frL_I, frzL_I])) ?_ | refine dCallP_safe (c59 _ _ _) rfl rfl ?_ | (refine vcP_pure (c63 ts ms hv.things hv.1 _) rfl ?_ ?_ ?_; (focus (first | rfl | ((simp only [go_sem, hc, hk, pureL_I, frL_I, frzL_I, AV.pureL, AV.pure, pureL_mapI, Bool.and_self]) <;> fail))); (focus (first | ((simp only [go_sem, hc, hk, pureL_I, frL_I, frzL_I]) <;> fail) | rfl))) | (refine dCallP_pure (c63 ts ms hv.things hv.1 _) rfl ?_ ?_ ?_; (focus (first | rfl | ((simp only [go_sem, hc, hk, pureL_I, frL_I, frzL_I, AV.pureL, AV.pure, pureL_mapI, Bool.and_self]) <;> fail))); (focus (first | ((simp only [go_sem, hc, hk, pureL_I, frL_I, frzL_I]) <;> fail) | rfl))) | refine vcP_safe (c63 ts ms hv.things hv.1 _) rfl rfl (by (simp only [go_sem, hc, hk, pureL_I, frL_I, frzL_I])) ?_ | refine dCallP_safe (c63 ts ms hv.things hv.1 _) rfl rfl ?_) | (simp only [go_sem, hc, hk, pureL_I, frL_I, frzL_I])))
    refine vc_for (fun j => ⟨[(23, .int .i64 j), (5, .int .i64 0), (4, .lp 1 0), (8, .lp 3 0), (7, .lp 2 0), (2, .lp 0 0)], [.box 25 [.lst false 4 (ts.map encT), .lst false 3 (ms.map encM)] false, .box 53 [.int .i64 0, .int .i64 0] false, .box 78 [hX ts ms c (sP ts ms c) (bP ts ms c)] (decide (0 < j)), .box 53 [.int .i64 (spanT ts ms c j).1, .int .i64 (spanT ts ms c j).2] false]⟩) 100 (fun j => True) (by (first | exact wk_same (by (simp only [go_sem, Int.natCast_add, Int.natCast_one, Int.natCast_zero, Int.cast_ofNat_Int, spanT, Nat.lt_irrefl])) | exact wk_drop (by (simp only [go_sem, Int.natCast_add, Int.natCast_one, Int.natCast_zero, Int.cast_ofNat_Int, spanT, Nat.lt_irrefl])) (by (simp only [go_sem, Int.natCast_add, Int.natCast_one, Int.natCast_zero, Int.cast_ofNat_Int, spanT, Nat.lt_irrefl])) (by (simp only [go_sem, Int.natCast_add, Int.natCast_one, Int.natCast_zero, Int.cast_ofNat_Int, spanT, Nat.lt_irrefl])) (by (simp only [go_sem, Int.natCast_add, Int.natCast_one, Int.natCast_zero, Int.cast_ofNat_Int, spanT, Nat.lt_irrefl])) (by (simp only [go_sem, Int.natCast_add, Int.natCast_one, Int.natCast_zero, Int.cast_ofNat_Int, spanT, Nat.lt_irrefl])))) trivial ?_
    intro j hj _
    have hbs := spanT_bounds ts ms c j hj
    rcases Nat.lt_or_ge j 100 with hlt | hge
    · have hlt' : (j : Int) < 100 := by omega
      have hd : decide (0 < j + 1) = true := decide_eq_true (by omega)
      (repeat' (first | ((first | with_reducible refine vcG_split ?_ ?_ | with_reducible refine vcIf_split ?_ ?_ | with_reducible refine vcQ_split ?_ ?_ | with_reducible refine vcDG_split ?_ ?_) <;> intro hb <;> (try rw [hb]) <;> (try simp only [Bool.and_eq_true, Bool.or_eq_true, dtrue, dfalse, Bool.not_eq_true', Bool.not_eq_false', Bool.and_eq_false_iff, Bool.or_eq_false_iff, Bool.not_true, Bool.not_false] at hb) <;> (try simp only [within] at hb) <;> try (simp only [go_sem, hlt', hd, pureL_I, frL_I, frzL_I])) | refine And.intro (by (first | exact trivial | (simp only [I64]; omega) | omega)) ?_ | (with_reducible rw [vc_draw_eq]; first | refine CV.draw (id := 1) [(0, 0), (0, 0), (0, 0), (0, 0), (0, 0)] mixed rfl (by kernel_rfl) ?_) | (first | refine vcP_bub (args' := []) 2 rfl (by (simp only [go_sem, hlt', hd, pureL_I, frL_I, frzL_I])) (vcP_bub 4 rfl (by (simp only [go_sem, hlt', hd, pureL_I, frL_I, frzL_I])) (vcP_pure (h69 j) rfl (by first | rfl | (simp only [go_sem, hlt', hd, pureL_I, frL_I, frzL_I, AV.pureL, AV.pure, Bool.and_self, false_and, if_false])) (by (simp only [go_sem, hlt', hd, pureL_I, frL_I, frzL_I, false_and, if_false])) ?_)) | (refine vcP_pure (h68 j) rfl ?_ ?_ ?_; (focus (first | rfl | ((simp only [go_sem, hlt', hd, pureL_I, frL_I, frzL_I, AV.pureL, AV.pure, pureL_mapI, Bool.and_self]) <;> fail))); (focus (first | ((simp only [go_sem, hlt', hd, pureL_I, frL_I, frzL_I]) <;> fail) | rfl))) | (refine dCallP_pure (h68 j) rfl ?_ ?_ ?_; (focus (first | rfl | ((simp only [go_sem, hlt', hd, pureL_I, frL_I, frzL_I, AV.pureL, AV.pure, pureL_mapI, Bool.and_self]) <;> fail))); (focus (first | ((simp only [go_sem, hlt', hd, pureL_I, frL_I, frzL_I]) <;> fail) | rfl))) | refine vcP_safe (h68 j) rfl rfl (by (simp only [go_sem, hlt', hd, pureL_I, frL_I, frzL_I])) ?_ | refine dCallP_safe (h68 j) rfl rfl ?_) | (simp only [go_sem, hlt', hd, pureL_I, frL_I, frzL_I])))
      · have e : spanT ts ms c (j + 1) = (min (spanT ts ms c j).1 (j : Int), (j : Int)) := by simp [spanT, hb]
        (first | exact wk_same (by (simp only [go_sem, Int.natCast_add, Int.natCast_one, Int.natCast_zero, Int.cast_ofNat_Int, e])) | exact wk_drop (by (simp only [go_sem, Int.natCast_add, Int.natCast_one, Int.natCast_zero, Int.cast_ofNat_Int, e])) (by (simp only [go_sem, Int.natCast_add, Int.natCast_one, Int.natCast_zero, Int.cast_ofNat_Int, e])) (by (simp only [go_sem, Int.natCast_add, Int.natCast_one, Int.natCast_zero, Int.cast_ofNat_Int, e])) (by (simp only [go_sem, Int.natCast_add, Int.natCast_one, Int.natCast_zero, Int.cast_ofNat_Int, e])) (by (simp only [go_sem, Int.natCast_add, Int.natCast_one, Int.natCast_zero, Int.cast_ofNat_Int, e])))
      · have e : spanT ts ms c (j + 1) = spanT ts ms c j := by simp [spanT, hb]
        (first | exact wk_same (by (simp only [go_sem, Int.natCast_add, Int.natCast_one, Int.natCast_zero, Int.cast_ofNat_Int, e])) | exact wk_drop (by (simp only [go_sem, Int.natCast_add, Int.natCast_one, Int.natCast_zero, Int.cast_ofNat_Int, e])) (by (simp only [go_sem, Int.natCast_add, Int.natCast_one, Int.natCast_zero, Int.cast_ofNat_Int, e])) (by (simp only [go_sem, Int.natCast_add, Int.natCast_one, Int.natCast_zero, Int.cast_ofNat_Int, e])) (by (simp only [go_sem, Int.natCast_add, Int.natCast_one, Int.natCast_zero, Int.cast_ofNat_Int, e])) (by (simp only [go_sem, Int.natCast_add, Int.natCast_one, Int.natCast_zero, Int.cast_ofNat_Int, e])))
    · have hge' : ¬ (j : Int) < 100 := by omega
      have : j = 100 := by omega
      subst this
      have hge2 : ¬ (((100 : Nat) : Int) < 100) := by omega
      have hd : decide (0 < 100) = true := rfl
      by_cases h100 : (spanT ts ms c 100).1 = 100
      · (repeat' (first | ((first | with_reducible refine vcG_split ?_ ?_ | with_reducible refine vcIf_split ?_ ?_ | with_reducible refine vcQ_split ?_ ?_ | with_reducible refine vcDG_split ?_ ?_) <;> intro hb <;> (try rw [hb]) <;> (try simp only [Bool.and_eq_true, Bool.or_eq_true, dtrue, dfalse, Bool.not_eq_true', Bool.not_eq_false', Bool.and_eq_false_iff, Bool.or_eq_false_iff, Bool.not_true, Bool.not_false] at hb) <;> (try simp only [within] at hb) <;> try (simp only [go_sem, hge2, h100, hd])) | refine And.intro (by (first | exact trivial | (simp only [I64]; omega) | omega)) ?_ | (with_reducible rw [vc_draw_eq]; first | refine CV.draw (id := 1) [(0, 0), (0, 0), (0, 0), (0, 0), (0, 0)] mixed rfl (by kernel_rfl) ?_) | fail | (simp only [go_sem, hge2, h100, hd])))
      · (repeat' (first | ((first | with_reducible refine vcG_split ?_ ?_ | with_reducible refine vcIf_split ?_ ?_ | with_reducible refine vcQ_split ?_ ?_ | with_reducible refine vcDG_split ?_ ?_) <;> intro hb <;> (try rw [hb]) <;> (try simp only [Bool.and_eq_true, Bool.or_eq_true, dtrue, dfalse, Bool.not_eq_true', Bool.not_eq_false', Bool.and_eq_false_iff, Bool.or_eq_false_iff, Bool.not_true, Bool.not_false] at hb) <;> (try simp only [within] at hb) <;> try (simp only [go_sem, hge2, h100, hd])) | refine And.intro (by (first | exact trivial | (simp only [I64]; omega) | omega)) ?_ | (with_reducible rw [vc_draw_eq]; first | refine CV.draw (id := 1) [(0, 0), (0, 0), (0, 0), (0, 0), (0, 0)] mixed rfl (by kernel_rfl) ?_) | fail | (simp only [go_sem, hge2, h100, hd])))
  · rw [show rTime ts ms c = _ from answer_no hq]
    have hk : ¬ askP ts ms (within c 0 2) = 0 := fun h => hq (askP_0.1 h)
    refine PC.body Try.func32 (by kernel_rfl) rfl (by simp [Try.f32]) rfl ?_
    simp only [Try.f32]
    intro hlen
    simp only [go_sem, List.length_map, and_true, true_and] at hlen
    refine CV.run ?_
    (repeat' (first | ((first | with_reducible refine vcG_split ?_ ?_ | with_reducible refine vcIf_split ?_ ?_ | with_reducible refine vcQ_split ?_ ?_ | with_reducible refine vcDG_split ?_ ?_) <;> intro hb <;> (try rw [hb]) <;> (try simp only [Bool.and_eq_true, Bool.or_eq_true, dtrue, dfalse, Bool.not_eq_true', Bool.not_eq_false', Bool.and_eq_false_iff, Bool.or_eq_false_iff, Bool.not_true, Bool.not_false] at hb) <;> (try simp only [within] at hb) <;> try (simp only [go_sem, dtrue, hk])) | refine And.intro (by (first | exact trivial | (simp only [I64]; omega) | omega)) ?_ | (with_reducible rw [vc_draw_eq]; first | refine CV.draw (id := 1) [(0, 0), (0, 0), (0, 0), (0, 0), (0, 0)] mixed rfl (by kernel_rfl) ?_) | (first | (refine vcP_pure (c60 _) rfl ?_ ?_ ?_; (focus (first | rfl | ((simp only [go_sem, dtrue, hk, AV.pureL, AV.pure, pureL_mapI, Bool.and_self]) <;> fail))); (focus (first | ((simp only [go_sem, dtrue, hk]) <;> fail) | rfl))) | (refine dCallP_pure (c60 _) rfl ?_ ?_ ?_; (focus (first | rfl | ((simp only [go_sem, dtrue, hk, AV.pureL, AV.pure, pureL_mapI, Bool.and_self]) <;> fail))); (focus (first | ((simp only [go_sem, dtrue, hk]) <;> fail) | rfl))) | refine vcP_safe (c60 _) rfl rfl (by (simp only [go_sem, dtrue, hk])) ?_ | refine dCallP_safe (c60 _) rfl rfl ?_ | (refine vcP_pure (c59 _ _ _) rfl ?_ ?_ ?_; (focus (first | rfl | ((simp only [go_sem, dtrue, hk, AV.pureL, AV.pure, pureL_mapI, Bool.and_self]) <;> fail))); (focus (first | ((simp only [go_sem, dtrue, hk]) <;> fail) | rfl))) | (refine dCallP_pure (c59 _ _ _) rfl ?_ ?_ ?_; (focus (first | rfl | ((simp only [go_sem, dtrue, hk, AV.pureL, AV.pure, pureL_mapI, Bool.and_self]) <;> fail))); (focus (first | ((simp only [go_sem, dtrue, hk]) <;> fail) | rfl))) | refine vcP_safe (c59 _ _ _) rfl rfl (by (simp only [go_sem, dtrue, hk])) ?_ | refine dCallP_safe (c59 _ _ _) rfl rfl ?_) | (simp only [go_sem, dtrue, hk])))
end Go.Proofs.Ytllmohmgakdbdaa
