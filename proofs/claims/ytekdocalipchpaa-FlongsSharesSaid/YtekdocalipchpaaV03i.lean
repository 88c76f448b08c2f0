/- Contracts of functions of the given program, without a condition beyond those that each theorem states; they lead to the given statement. -/
import Derived.Test.YtekdocalipchpaaV03h
set_option linter.unusedSimpArgs false
set_option linter.unusedVariables false
set_option linter.unusedVariables false
set_option maxRecDepth 100000
namespace Go.Proofs.Ytekdocalipchpaa
open Go Go.Fl
open Classical
theorem pureW_lst (l : List (List Int)) : (AV.lst false 1 (l.map encW)).pure = true := by simp [AV.pure]
theorem vcP_as {P : Program} {nt m : Nat} {R : Exit → St → Prop} {g : FuncId} {args args' a2 : List AV} {dst : Option Nat} {rest : List COp} {k : List Iv} {env : Env} {H : Heap} {v : AV} (hc : PC P g a2 v) (hv : v.pure = true) (hp : AV.pureL args = true) (hf : frzL [] args a2) (h : vc P nt m R (.ops rest :: k) ⟨eput env dst v, H⟩) : vcP P nt m R g args args' dst rest k ⟨env, H⟩ :=
  vcP_raw ((hc.use (handsOn_pure hp hf) hv).mono (by rintro r H' ⟨rfl, rfl⟩; exact h))
theorem c83 (s : Shop) (hv : valid s) : PC Try.prog 83 [hS s] (.lst false 1 ((jls s (canB s)).map encW)) := by
  have hw12 : in12 s.wt := hv.2.2.2.2.1
  have h := c103 s hv s.ms.length 0 s.wt [] (by omega) rfl (fun n hn => by cases hn) hw12 rfl (fun p hp => rfl)
  change PC Try.prog 103 [hS s, .lst false 1 []] _ at h
  refine PC.body Try.func83 (by kernel_rfl) rfl (by simp [Try.f83]) rfl ?_
  simp only [Try.f83]
  intro hlen
  simp only [go_sem, List.length_map, and_true, true_and] at hlen
  refine CV.run ?_
  (repeat' (first | ((first | with_reducible refine vcG_split ?_ ?_ | with_reducible refine vcIf_split ?_ ?_ | with_reducible refine vcQ_split ?_ ?_ | with_reducible refine vcDG_split ?_ ?_) <;> intro hb <;> (try rw [hb]) <;> (try simp only [Bool.and_eq_true, Bool.or_eq_true, dtrue, dfalse, Bool.not_eq_true', Bool.not_eq_false', Bool.and_eq_false_iff, Bool.or_eq_false_iff, Bool.not_true, Bool.not_false] at hb) <;> (try simp only [within] at hb) <;> try (simp only [go_sem, jls])) | refine And.intro (by (first | exact trivial | (simp only [I64]; omega) | omega)) ?_ | fail | (simp only [go_sem, jls])))
  refine vcP_as h (pureW_lst _) (by simp [AV.pureL, AV.pure]) (by simp [frzL, frz]) ?_
  (repeat' (first | ((first | with_reducible refine vcG_split ?_ ?_ | with_reducible refine vcIf_split ?_ ?_ | with_reducible refine vcQ_split ?_ ?_ | with_reducible refine vcDG_split ?_ ?_) <;> intro hb <;> (try rw [hb]) <;> (try simp only [Bool.and_eq_true, Bool.or_eq_true, dtrue, dfalse, Bool.not_eq_true', Bool.not_eq_false', Bool.and_eq_false_iff, Bool.or_eq_false_iff, Bool.not_true, Bool.not_false] at hb) <;> (try simp only [within] at hb) <;> try (simp only [go_sem, jls])) | refine And.intro (by (first | exact trivial | (simp only [I64]; omega) | omega)) ?_ | fail | (simp only [go_sem, jls])))
theorem jls_len {s : Shop} (hv : valid s) : (jls s (canB s)).length ≤ 13 ^ 5 := Nat.le_trans (jl_len (s := s) (show in12 (canB s) from canB_ok hv) s.ms.length 0 s.wt []) (Nat.pow_le_pow_right (by omega) hv.2.1)
theorem ord51 {s : Shop} (hv : valid s) : ∀ a, a ∈ jls s (canB s) → ∀ b, b ∈ jls s (canB s) → (sp s a < sp s b ↔ valD s a < valD s b) := fun a ha b hb => by
  have hc : in12 (canB s) := canB_ok hv
  obtain ⟨a1, a2⟩ := jls_mem hc ha
  obtain ⟨b1, b2⟩ := jls_mem hc hb
  have h1 := spT_far hv a1 a2 a.length (Nat.le_refl _)
  have h2 := spT_far hv b1 b2 b.length (Nat.le_refl _)
  unfold valD
  rw [spT_min, spT_min]
  unfold sp
  omega
theorem c51 (s : Shop) : PC Try.prog 51 [hS s] (.tup [lN (rDivide s).1, .int .i64 (rDivide s).2]) := by
  by_cases hk : kn s True = 0
  · rw [show rDivide s = _ from if_pos hk]
    obtain ⟨hv, _, hne⟩ := kn0.1 hk
    rw [jls_su hv hne]
    have hend := fm_end (ord51 hv)
    have hB : ∀ a, a ∈ jls s (canB s) → sp s a ≤ 1000 := fun a ha => by
      obtain ⟨a1, a2⟩ := jls_mem (canB_ok hv) ha
      exact (spT_bounds hv a1 a2 1000 (by omega) a.length (Nat.le_refl _)).2
    have h77 := c77 s True (i := instDecidableTrue)
    rw [decide_true] at h77
    have hL := jls_len hv
    have h83 := c83 s hv
    have hmem := fun l (hl : l ∈ jls s (canB s)) => jls_mem (canB_ok hv) hl
    generalize jls s (canB s) = L at *
    refine PC.body Try.func51 (by kernel_rfl) rfl (by simp [Try.f51]) rfl ?_
    simp only [Try.f51]
    intro hlen
    simp only [go_sem, List.length_map, and_true, true_and] at hlen
    refine CV.run ?_
    (repeat' (first | ((first | with_reducible refine vcG_split ?_ ?_ | with_reducible refine vcIf_split ?_ ?_ | with_reducible refine vcQ_split ?_ ?_ | with_reducible refine vcDG_split ?_ ?_) <;> intro hb <;> (try rw [hb]) <;> (try simp only [Bool.and_eq_true, Bool.or_eq_true, dtrue, dfalse, Bool.not_eq_true', Bool.not_eq_false', Bool.and_eq_false_iff, Bool.or_eq_false_iff, Bool.not_true, Bool.not_false] at hb) <;> (try simp only [within] at hb) <;> try (simp only [go_sem, hk])) | refine And.intro (by (first | exact trivial | (simp only [I64]; omega) | omega)) ?_ | (with_reducible rw [vc_draw_eq]; first | refine CV.draw (id := 9) [(0, 0), (0, 0), (0, 0), (0, 0), (0, 0), (0, 0), (0, 0)] mixed rfl (by kernel_rfl) ?_) | (first | (refine vcP_pure (h77) rfl ?_ ?_ ?_; (focus (first | rfl | ((simp only [go_sem, hk, AV.pureL, AV.pure, pureL_mapI, Bool.and_self]) <;> fail))); (focus (first | ((simp only [go_sem, hk]) <;> fail) | rfl))) | (refine dCallP_pure (h77) rfl ?_ ?_ ?_; (focus (first | rfl | ((simp only [go_sem, hk, AV.pureL, AV.pure, pureL_mapI, Bool.and_self]) <;> fail))); (focus (first | ((simp only [go_sem, hk]) <;> fail) | rfl))) | refine vcP_safe (h77) rfl rfl (by (simp only [go_sem, hk])) ?_ | refine dCallP_safe (h77) rfl rfl ?_ | (refine vcP_pure (h83) rfl ?_ ?_ ?_; (focus (first | rfl | ((simp only [go_sem, hk, AV.pureL, AV.pure, pureL_mapI, Bool.and_self]) <;> fail))); (focus (first | ((simp only [go_sem, hk]) <;> fail) | rfl))) | (refine dCallP_pure (h83) rfl ?_ ?_ ?_; (focus (first | rfl | ((simp only [go_sem, hk, AV.pureL, AV.pure, pureL_mapI, Bool.and_self]) <;> fail))); (focus (first | ((simp only [go_sem, hk]) <;> fail) | rfl))) | refine vcP_safe (h83) rfl rfl (by (simp only [go_sem, hk])) ?_ | refine dCallP_safe (h83) rfl rfl ?_) | (simp only [go_sem, hk])))
    refine vc_for (fun j => ⟨[(8, .int .i64 j), (6, .int .i64 (fm (sp s) L j).1), (7, .int .i64 (fm (sp s) L j).2), (5, .lst false 1 (L.map encW)), (2, .nilS), (3, .int .i64 0), (1, .lp 0 0)], [.box 26 (cS s) false]⟩) L.length (fun j => True) (by (first | exact wk_same (by (simp only [go_sem, Int.natCast_add, Int.natCast_one, Int.natCast_zero, Int.cast_ofNat_Int, fm])) | exact wk_drop (by (simp only [go_sem, Int.natCast_add, Int.natCast_one, Int.natCast_zero, Int.cast_ofNat_Int, fm])) (by (simp only [go_sem, Int.natCast_add, Int.natCast_one, Int.natCast_zero, Int.cast_ofNat_Int, fm])) (by (simp only [go_sem, Int.natCast_add, Int.natCast_one, Int.natCast_zero, Int.cast_ofNat_Int, fm])) (by (simp only [go_sem, Int.natCast_add, Int.natCast_one, Int.natCast_zero, Int.cast_ofNat_Int, fm])) (by (simp only [go_sem, Int.natCast_add, Int.natCast_one, Int.natCast_zero, Int.cast_ofNat_Int, fm])))) trivial ?_
    intro j hj _
    have hb := fm_bounds hB (by omega) j hj
    rcases Nat.lt_or_ge j L.length with hlt | hge
    · obtain ⟨x, hx⟩ := get_of hlt
      have hlt' : (j : Int) < L.length := by omega
      have hg : gL L j = x := by simp [gL, hx]
      obtain ⟨x1, x2⟩ := hmem x (List.mem_of_getElem? hx)
      have h30 := c30 s hv hne x x1 x2
      by_cases hw : (fm (sp s) L j).2 < sp s x
      · have e : fm (sp s) L (j + 1) = ((j : Int), sp s x) := by simp only [fm, hg, hw, if_true]
        (repeat' (first | ((first | with_reducible refine vcG_split ?_ ?_ | with_reducible refine vcIf_split ?_ ?_ | with_reducible refine vcQ_split ?_ ?_ | with_reducible refine vcDG_split ?_ ?_) <;> intro hb <;> (try rw [hb]) <;> (try simp only [Bool.and_eq_true, Bool.or_eq_true, dtrue, dfalse, Bool.not_eq_true', Bool.not_eq_false', Bool.and_eq_false_iff, Bool.or_eq_false_iff, Bool.not_true, Bool.not_false] at hb) <;> (try simp only [within] at hb) <;> try (simp only [go_sem, hlt', hx, hw, encW])) | refine And.intro (by (first | exact trivial | (simp only [I64]; omega) | omega)) ?_ | (with_reducible rw [vc_draw_eq]; first | refine CV.draw (id := 9) [(0, 0), (0, 0), (0, 0), (0, 0), (0, 0), (0, 0), (0, 0)] mixed rfl (by kernel_rfl) ?_) | (first | (refine vcP_pure (h30) rfl ?_ ?_ ?_; (focus (first | rfl | ((simp only [go_sem, hlt', hx, hw, encW, AV.pureL, AV.pure, pureL_mapI, Bool.and_self]) <;> fail))); (focus (first | ((simp only [go_sem, hlt', hx, hw, encW]) <;> fail) | rfl))) | (refine dCallP_pure (h30) rfl ?_ ?_ ?_; (focus (first | rfl | ((simp only [go_sem, hlt', hx, hw, encW, AV.pureL, AV.pure, pureL_mapI, Bool.and_self]) <;> fail))); (focus (first | ((simp only [go_sem, hlt', hx, hw, encW]) <;> fail) | rfl))) | refine vcP_safe (h30) rfl rfl (by (simp only [go_sem, hlt', hx, hw, encW])) ?_ | refine dCallP_safe (h30) rfl rfl ?_) | (simp only [go_sem, hlt', hx, hw, encW])))
        (first | exact wk_same (by (simp only [go_sem, Int.natCast_add, Int.natCast_one, Int.natCast_zero, Int.cast_ofNat_Int, e])) | exact wk_drop (by (simp only [go_sem, Int.natCast_add, Int.natCast_one, Int.natCast_zero, Int.cast_ofNat_Int, e])) (by (simp only [go_sem, Int.natCast_add, Int.natCast_one, Int.natCast_zero, Int.cast_ofNat_Int, e])) (by (simp only [go_sem, Int.natCast_add, Int.natCast_one, Int.natCast_zero, Int.cast_ofNat_Int, e])) (by (simp only [go_sem, Int.natCast_add, Int.natCast_one, Int.natCast_zero, Int.cast_ofNat_Int, e])) (by (simp only [go_sem, Int.natCast_add, Int.natCast_one, Int.natCast_zero, Int.cast_ofNat_Int, e])))
      · have e : fm (sp s) L (j + 1) = fm (sp s) L j := by simp only [fm, hg, hw, if_false]
        (repeat' (first | ((first | with_reducible refine vcG_split ?_ ?_ | with_reducible refine vcIf_split ?_ ?_ | with_reducible refine vcQ_split ?_ ?_ | with_reducible refine vcDG_split ?_ ?_) <;> intro hb <;> (try rw [hb]) <;> (try simp only [Bool.and_eq_true, Bool.or_eq_true, dtrue, dfalse, Bool.not_eq_true', Bool.not_eq_false', Bool.and_eq_false_iff, Bool.or_eq_false_iff, Bool.not_true, Bool.not_false] at hb) <;> (try simp only [within] at hb) <;> try (simp only [go_sem, hlt', hx, hw, encW])) | refine And.intro (by (first | exact trivial | (simp only [I64]; omega) | omega)) ?_ | (with_reducible rw [vc_draw_eq]; first | refine CV.draw (id := 9) [(0, 0), (0, 0), (0, 0), (0, 0), (0, 0), (0, 0), (0, 0)] mixed rfl (by kernel_rfl) ?_) | (first | (refine vcP_pure (h30) rfl ?_ ?_ ?_; (focus (first | rfl | ((simp only [go_sem, hlt', hx, hw, encW, AV.pureL, AV.pure, pureL_mapI, Bool.and_self]) <;> fail))); (focus (first | ((simp only [go_sem, hlt', hx, hw, encW]) <;> fail) | rfl))) | (refine dCallP_pure (h30) rfl ?_ ?_ ?_; (focus (first | rfl | ((simp only [go_sem, hlt', hx, hw, encW, AV.pureL, AV.pure, pureL_mapI, Bool.and_self]) <;> fail))); (focus (first | ((simp only [go_sem, hlt', hx, hw, encW]) <;> fail) | rfl))) | refine vcP_safe (h30) rfl rfl (by (simp only [go_sem, hlt', hx, hw, encW])) ?_ | refine dCallP_safe (h30) rfl rfl ?_) | (simp only [go_sem, hlt', hx, hw, encW])))
        (first | exact wk_same (by (simp only [go_sem, Int.natCast_add, Int.natCast_one, Int.natCast_zero, Int.cast_ofNat_Int, e])) | exact wk_drop (by (simp only [go_sem, Int.natCast_add, Int.natCast_one, Int.natCast_zero, Int.cast_ofNat_Int, e])) (by (simp only [go_sem, Int.natCast_add, Int.natCast_one, Int.natCast_zero, Int.cast_ofNat_Int, e])) (by (simp only [go_sem, Int.natCast_add, Int.natCast_one, Int.natCast_zero, Int.cast_ofNat_Int, e])) (by (simp only [go_sem, Int.natCast_add, Int.natCast_one, Int.natCast_zero, Int.cast_ofNat_Int, e])) (by (simp only [go_sem, Int.natCast_add, Int.natCast_one, Int.natCast_zero, Int.cast_ofNat_Int, e])))
    · have hge' : ¬ (j : Int) < L.length := by omega
      have : j = L.length := by omega
      subst this
      rcases hend with ⟨e1, e2, e3⟩ | ⟨i, e1, e2, e3, e4⟩
      · rw [e2, e3]
        (repeat' (first | ((first | with_reducible refine vcG_split ?_ ?_ | with_reducible refine vcIf_split ?_ ?_ | with_reducible refine vcQ_split ?_ ?_ | with_reducible refine vcDG_split ?_ ?_) <;> intro hb <;> (try rw [hb]) <;> (try simp only [Bool.and_eq_true, Bool.or_eq_true, dtrue, dfalse, Bool.not_eq_true', Bool.not_eq_false', Bool.and_eq_false_iff, Bool.or_eq_false_iff, Bool.not_true, Bool.not_false] at hb) <;> (try simp only [within] at hb) <;> try (simp only [go_sem, hge', e1])) | refine And.intro (by (first | exact trivial | (simp only [I64]; omega) | omega)) ?_ | (with_reducible rw [vc_draw_eq]; first | refine CV.draw (id := 9) [(0, 0), (0, 0), (0, 0), (0, 0), (0, 0), (0, 0), (0, 0)] mixed rfl (by kernel_rfl) ?_) | fail | (simp only [go_sem, hge', e1])))
      · rw [e4]
        rw [e1] at *
        have e2' : (i : Int) < L.length := by omega
        have hi0 : ¬ (i : Int) < 0 := by omega
        have hi1 : 0 ≤ (i : Int) := by omega
        (repeat' (first | ((first | with_reducible refine vcG_split ?_ ?_ | with_reducible refine vcIf_split ?_ ?_ | with_reducible refine vcQ_split ?_ ?_ | with_reducible refine vcDG_split ?_ ?_) <;> intro hb <;> (try rw [hb]) <;> (try simp only [Bool.and_eq_true, Bool.or_eq_true, dtrue, dfalse, Bool.not_eq_true', Bool.not_eq_false', Bool.and_eq_false_iff, Bool.or_eq_false_iff, Bool.not_true, Bool.not_false] at hb) <;> (try simp only [within] at hb) <;> try (simp only [go_sem, hge', hi0, hi1, e2', e3, encW])) | refine And.intro (by (first | exact trivial | (simp only [I64]; omega) | omega)) ?_ | (with_reducible rw [vc_draw_eq]; first | refine CV.draw (id := 9) [(0, 0), (0, 0), (0, 0), (0, 0), (0, 0), (0, 0), (0, 0)] mixed rfl (by kernel_rfl) ?_) | fail | (simp only [go_sem, hge', hi0, hi1, e2', e3, encW])))
  · rw [show rDivide s = _ from if_neg hk]
    have h77 := c77 s True (i := instDecidableTrue)
    rw [decide_true] at h77
    refine PC.body Try.func51 (by kernel_rfl) rfl (by simp [Try.f51]) rfl ?_
    simp only [Try.f51]
    intro hlen
    simp only [go_sem, List.length_map, and_true, true_and] at hlen
    refine CV.run ?_
    (repeat' (first | ((first | with_reducible refine vcG_split ?_ ?_ | with_reducible refine vcIf_split ?_ ?_ | with_reducible refine vcQ_split ?_ ?_ | with_reducible refine vcDG_split ?_ ?_) <;> intro hb <;> (try rw [hb]) <;> (try simp only [Bool.and_eq_true, Bool.or_eq_true, dtrue, dfalse, Bool.not_eq_true', Bool.not_eq_false', Bool.and_eq_false_iff, Bool.or_eq_false_iff, Bool.not_true, Bool.not_false] at hb) <;> (try simp only [within] at hb) <;> try (simp only [go_sem, hk])) | refine And.intro (by (first | exact trivial | (simp only [I64]; omega) | omega)) ?_ | (with_reducible rw [vc_draw_eq]; first | refine CV.draw (id := 9) [(0, 0), (0, 0), (0, 0), (0, 0), (0, 0), (0, 0), (0, 0)] mixed rfl (by kernel_rfl) ?_) | (first | (refine vcP_pure (h77) rfl ?_ ?_ ?_; (focus (first | rfl | ((simp only [go_sem, hk, AV.pureL, AV.pure, pureL_mapI, Bool.and_self]) <;> fail))); (focus (first | ((simp only [go_sem, hk]) <;> fail) | rfl))) | (refine dCallP_pure (h77) rfl ?_ ?_ ?_; (focus (first | rfl | ((simp only [go_sem, hk, AV.pureL, AV.pure, pureL_mapI, Bool.and_self]) <;> fail))); (focus (first | ((simp only [go_sem, hk]) <;> fail) | rfl))) | refine vcP_safe (h77) rfl rfl (by (simp only [go_sem, hk])) ?_ | refine dCallP_safe (h77) rfl rfl ?_) | (simp only [go_sem, hk])))
theorem c52 (s : Shop) : PC Try.prog 52 [hS s] (.tup [lN (rBold s).1, .int .i64 (rBold s).2]) := by
  by_cases hk : kn s True = 0
  · rw [show rBold s = _ from if_pos hk]
    obtain ⟨hv, _, hne⟩ := kn0.1 hk
    have hself : pos (cnt s) (jls s (canB s)) = jls s (canB s) := List.filter_eq_self.2 fun l _ => decide_eq_true (cntP_bounds _ _).1
    have hend := fm_end (val := cnt s) (v2 := cnt s) (L := jls s (canB s)) (fun _ _ _ _ => Iff.rfl)
    rw [hself] at hend
    have h6 := aW_len hv
    have hB : ∀ a, a ∈ jls s (canB s) → cnt s a ≤ 1000 := fun a ha => by
      have := (cntP_bounds (holdsB s a) (aW s)).2
      unfold cnt; omega
    have h77 := c77 s True (i := instDecidableTrue)
    rw [decide_true] at h77
    have hL := jls_len hv
    have h83 := c83 s hv
    have hmem := fun l (hl : l ∈ jls s (canB s)) => jls_mem (canB_ok hv) hl
    clear hself
    generalize jls s (canB s) = L at *
    refine PC.body Try.func52 (by kernel_rfl) rfl (by simp [Try.f52]) rfl ?_
    simp only [Try.f52]
    intro hlen
    simp only [go_sem, List.length_map, and_true, true_and] at hlen
    refine CV.run ?_
    (repeat' (first | ((first | with_reducible refine vcG_split ?_ ?_ | with_reducible refine vcIf_split ?_ ?_ | with_reducible refine vcQ_split ?_ ?_ | with_reducible refine vcDG_split ?_ ?_) <;> intro hb <;> (try rw [hb]) <;> (try simp only [Bool.and_eq_true, Bool.or_eq_true, dtrue, dfalse, Bool.not_eq_true', Bool.not_eq_false', Bool.and_eq_false_iff, Bool.or_eq_false_iff, Bool.not_true, Bool.not_false] at hb) <;> (try simp only [within] at hb) <;> try (simp only [go_sem, hk])) | refine And.intro (by (first | exact trivial | (simp only [I64]; omega) | omega)) ?_ | (with_reducible rw [vc_draw_eq]; first | refine CV.draw (id := 9) [(0, 0), (0, 0), (0, 0), (0, 0), (0, 0), (0, 0), (0, 0)] mixed rfl (by kernel_rfl) ?_) | (first | (refine vcP_pure (h77) rfl ?_ ?_ ?_; (focus (first | rfl | ((simp only [go_sem, hk, AV.pureL, AV.pure, pureL_mapI, Bool.and_self]) <;> fail))); (focus (first | ((simp only [go_sem, hk]) <;> fail) | rfl))) | (refine dCallP_pure (h77) rfl ?_ ?_ ?_; (focus (first | rfl | ((simp only [go_sem, hk, AV.pureL, AV.pure, pureL_mapI, Bool.and_self]) <;> fail))); (focus (first | ((simp only [go_sem, hk]) <;> fail) | rfl))) | refine vcP_safe (h77) rfl rfl (by (simp only [go_sem, hk])) ?_ | refine dCallP_safe (h77) rfl rfl ?_ | (refine vcP_pure (h83) rfl ?_ ?_ ?_; (focus (first | rfl | ((simp only [go_sem, hk, AV.pureL, AV.pure, pureL_mapI, Bool.and_self]) <;> fail))); (focus (first | ((simp only [go_sem, hk]) <;> fail) | rfl))) | (refine dCallP_pure (h83) rfl ?_ ?_ ?_; (focus (first | rfl | ((simp only [go_sem, hk, AV.pureL, AV.pure, pureL_mapI, Bool.and_self]) <;> fail))); (focus (first | ((simp only [go_sem, hk]) <;> fail) | rfl))) | refine vcP_safe (h83) rfl rfl (by (simp only [go_sem, hk])) ?_ | refine dCallP_safe (h83) rfl rfl ?_) | (simp only [go_sem, hk])))
    refine vc_for (fun j => ⟨[(8, .int .i64 j), (6, .int .i64 (fm (cnt s) L j).1), (7, .int .i64 (fm (cnt s) L j).2), (5, .lst false 1 (L.map encW)), (2, .nilS), (3, .int .i64 0), (1, .lp 0 0)], [.box 26 (cS s) false]⟩) L.length (fun j => True) (by (first | exact wk_same (by (simp only [go_sem, Int.natCast_add, Int.natCast_one, Int.natCast_zero, Int.cast_ofNat_Int, fm])) | exact wk_drop (by (simp only [go_sem, Int.natCast_add, Int.natCast_one, Int.natCast_zero, Int.cast_ofNat_Int, fm])) (by (simp only [go_sem, Int.natCast_add, Int.natCast_one, Int.natCast_zero, Int.cast_ofNat_Int, fm])) (by (simp only [go_sem, Int.natCast_add, Int.natCast_one, Int.natCast_zero, Int.cast_ofNat_Int, fm])) (by (simp only [go_sem, Int.natCast_add, Int.natCast_one, Int.natCast_zero, Int.cast_ofNat_Int, fm])) (by (simp only [go_sem, Int.natCast_add, Int.natCast_one, Int.natCast_zero, Int.cast_ofNat_Int, fm])))) trivial ?_
    intro j hj _
    have hb := fm_bounds hB (by omega) j hj
    rcases Nat.lt_or_ge j L.length with hlt | hge
    · obtain ⟨x, hx⟩ := get_of hlt
      have hlt' : (j : Int) < L.length := by omega
      have hg : gL L j = x := by simp [gL, hx]
      obtain ⟨x1, x2⟩ := hmem x (List.mem_of_getElem? hx)
      have h84 := c84 s hv x x1
      by_cases hw : (fm (cnt s) L j).2 < cnt s x
      · have e : fm (cnt s) L (j + 1) = ((j : Int), cnt s x) := by simp only [fm, hg, hw, if_true]
        (repeat' (first | ((first | with_reducible refine vcG_split ?_ ?_ | with_reducible refine vcIf_split ?_ ?_ | with_reducible refine vcQ_split ?_ ?_ | with_reducible refine vcDG_split ?_ ?_) <;> intro hb <;> (try rw [hb]) <;> (try simp only [Bool.and_eq_true, Bool.or_eq_true, dtrue, dfalse, Bool.not_eq_true', Bool.not_eq_false', Bool.and_eq_false_iff, Bool.or_eq_false_iff, Bool.not_true, Bool.not_false] at hb) <;> (try simp only [within] at hb) <;> try (simp only [go_sem, hlt', hx, hw, encW])) | refine And.intro (by (first | exact trivial | (simp only [I64]; omega) | omega)) ?_ | (with_reducible rw [vc_draw_eq]; first | refine CV.draw (id := 9) [(0, 0), (0, 0), (0, 0), (0, 0), (0, 0), (0, 0), (0, 0)] mixed rfl (by kernel_rfl) ?_) | (first | (refine vcP_pure (h84) rfl ?_ ?_ ?_; (focus (first | rfl | ((simp only [go_sem, hlt', hx, hw, encW, AV.pureL, AV.pure, pureL_mapI, Bool.and_self]) <;> fail))); (focus (first | ((simp only [go_sem, hlt', hx, hw, encW]) <;> fail) | rfl))) | (refine dCallP_pure (h84) rfl ?_ ?_ ?_; (focus (first | rfl | ((simp only [go_sem, hlt', hx, hw, encW, AV.pureL, AV.pure, pureL_mapI, Bool.and_self]) <;> fail))); (focus (first | ((simp only [go_sem, hlt', hx, hw, encW]) <;> fail) | rfl))) | refine vcP_safe (h84) rfl rfl (by (simp only [go_sem, hlt', hx, hw, encW])) ?_ | refine dCallP_safe (h84) rfl rfl ?_) | (simp only [go_sem, hlt', hx, hw, encW])))
        (first | exact wk_same (by (simp only [go_sem, Int.natCast_add, Int.natCast_one, Int.natCast_zero, Int.cast_ofNat_Int, e])) | exact wk_drop (by (simp only [go_sem, Int.natCast_add, Int.natCast_one, Int.natCast_zero, Int.cast_ofNat_Int, e])) (by (simp only [go_sem, Int.natCast_add, Int.natCast_one, Int.natCast_zero, Int.cast_ofNat_Int, e])) (by (simp only [go_sem, Int.natCast_add, Int.natCast_one, Int.natCast_zero, Int.cast_ofNat_Int, e])) (by (simp only [go_sem, Int.natCast_add, Int.natCast_one, Int.natCast_zero, Int.cast_ofNat_Int, e])) (by (simp only [go_sem, Int.natCast_add, Int.natCast_one, Int.natCast_zero, Int.cast_ofNat_Int, e])))
      · have e : fm (cnt s) L (j + 1) = fm (cnt s) L j := by simp only [fm, hg, hw, if_false]
        (repeat' (first | ((first | with_reducible refine vcG_split ?_ ?_ | with_reducible refine vcIf_split ?_ ?_ | with_reducible refine vcQ_split ?_ ?_ | with_reducible refine vcDG_split ?_ ?_) <;> intro hb <;> (try rw [hb]) <;> (try simp only [Bool.and_eq_true, Bool.or_eq_true, dtrue, dfalse, Bool.not_eq_true', Bool.not_eq_false', Bool.and_eq_false_iff, Bool.or_eq_false_iff, Bool.not_true, Bool.not_false] at hb) <;> (try simp only [within] at hb) <;> try (simp only [go_sem, hlt', hx, hw, encW])) | refine And.intro (by (first | exact trivial | (simp only [I64]; omega) | omega)) ?_ | (with_reducible rw [vc_draw_eq]; first | refine CV.draw (id := 9) [(0, 0), (0, 0), (0, 0), (0, 0), (0, 0), (0, 0), (0, 0)] mixed rfl (by kernel_rfl) ?_) | (first | (refine vcP_pure (h84) rfl ?_ ?_ ?_; (focus (first | rfl | ((simp only [go_sem, hlt', hx, hw, encW, AV.pureL, AV.pure, pureL_mapI, Bool.and_self]) <;> fail))); (focus (first | ((simp only [go_sem, hlt', hx, hw, encW]) <;> fail) | rfl))) | (refine dCallP_pure (h84) rfl ?_ ?_ ?_; (focus (first | rfl | ((simp only [go_sem, hlt', hx, hw, encW, AV.pureL, AV.pure, pureL_mapI, Bool.and_self]) <;> fail))); (focus (first | ((simp only [go_sem, hlt', hx, hw, encW]) <;> fail) | rfl))) | refine vcP_safe (h84) rfl rfl (by (simp only [go_sem, hlt', hx, hw, encW])) ?_ | refine dCallP_safe (h84) rfl rfl ?_) | (simp only [go_sem, hlt', hx, hw, encW])))
        (first | exact wk_same (by (simp only [go_sem, Int.natCast_add, Int.natCast_one, Int.natCast_zero, Int.cast_ofNat_Int, e])) | exact wk_drop (by (simp only [go_sem, Int.natCast_add, Int.natCast_one, Int.natCast_zero, Int.cast_ofNat_Int, e])) (by (simp only [go_sem, Int.natCast_add, Int.natCast_one, Int.natCast_zero, Int.cast_ofNat_Int, e])) (by (simp only [go_sem, Int.natCast_add, Int.natCast_one, Int.natCast_zero, Int.cast_ofNat_Int, e])) (by (simp only [go_sem, Int.natCast_add, Int.natCast_one, Int.natCast_zero, Int.cast_ofNat_Int, e])) (by (simp only [go_sem, Int.natCast_add, Int.natCast_one, Int.natCast_zero, Int.cast_ofNat_Int, e])))
    · have hge' : ¬ (j : Int) < L.length := by omega
      have : j = L.length := by omega
      subst this
      rcases hend with ⟨e1, e2, e3⟩ | ⟨i, e1, e2, e3, e4⟩
      · rw [e2, e3]
        (repeat' (first | ((first | with_reducible refine vcG_split ?_ ?_ | with_reducible refine vcIf_split ?_ ?_ | with_reducible refine vcQ_split ?_ ?_ | with_reducible refine vcDG_split ?_ ?_) <;> intro hb <;> (try rw [hb]) <;> (try simp only [Bool.and_eq_true, Bool.or_eq_true, dtrue, dfalse, Bool.not_eq_true', Bool.not_eq_false', Bool.and_eq_false_iff, Bool.or_eq_false_iff, Bool.not_true, Bool.not_false] at hb) <;> (try simp only [within] at hb) <;> try (simp only [go_sem, hge', e1])) | refine And.intro (by (first | exact trivial | (simp only [I64]; omega) | omega)) ?_ | (with_reducible rw [vc_draw_eq]; first | refine CV.draw (id := 9) [(0, 0), (0, 0), (0, 0), (0, 0), (0, 0), (0, 0), (0, 0)] mixed rfl (by kernel_rfl) ?_) | fail | (simp only [go_sem, hge', e1])))
      · rw [e4]
        rw [e1] at *
        have e2' : (i : Int) < L.length := by omega
        have hi0 : ¬ (i : Int) < 0 := by omega
        have hi1 : 0 ≤ (i : Int) := by omega
        (repeat' (first | ((first | with_reducible refine vcG_split ?_ ?_ | with_reducible refine vcIf_split ?_ ?_ | with_reducible refine vcQ_split ?_ ?_ | with_reducible refine vcDG_split ?_ ?_) <;> intro hb <;> (try rw [hb]) <;> (try simp only [Bool.and_eq_true, Bool.or_eq_true, dtrue, dfalse, Bool.not_eq_true', Bool.not_eq_false', Bool.and_eq_false_iff, Bool.or_eq_false_iff, Bool.not_true, Bool.not_false] at hb) <;> (try simp only [within] at hb) <;> try (simp only [go_sem, hge', hi0, hi1, e2', e3, encW])) | refine And.intro (by (first | exact trivial | (simp only [I64]; omega) | omega)) ?_ | (with_reducible rw [vc_draw_eq]; first | refine CV.draw (id := 9) [(0, 0), (0, 0), (0, 0), (0, 0), (0, 0), (0, 0), (0, 0)] mixed rfl (by kernel_rfl) ?_) | fail | (simp only [go_sem, hge', hi0, hi1, e2', e3, encW])))
  · rw [show rBold s = _ from if_neg hk]
    have h77 := c77 s True (i := instDecidableTrue)
    rw [decide_true] at h77
    refine PC.body Try.func52 (by kernel_rfl) rfl (by simp [Try.f52]) rfl ?_
    simp only [Try.f52]
    intro hlen
    simp only [go_sem, List.length_map, and_true, true_and] at hlen
    refine CV.run ?_
    (repeat' (first | ((first | with_reducible refine vcG_split ?_ ?_ | with_reducible refine vcIf_split ?_ ?_ | with_reducible refine vcQ_split ?_ ?_ | with_reducible refine vcDG_split ?_ ?_) <;> intro hb <;> (try rw [hb]) <;> (try simp only [Bool.and_eq_true, Bool.or_eq_true, dtrue, dfalse, Bool.not_eq_true', Bool.not_eq_false', Bool.and_eq_false_iff, Bool.or_eq_false_iff, Bool.not_true, Bool.not_false] at hb) <;> (try simp only [within] at hb) <;> try (simp only [go_sem, hk])) | refine And.intro (by (first | exact trivial | (simp only [I64]; omega) | omega)) ?_ | (with_reducible rw [vc_draw_eq]; first | refine CV.draw (id := 9) [(0, 0), (0, 0), (0, 0), (0, 0), (0, 0), (0, 0), (0, 0)] mixed rfl (by kernel_rfl) ?_) | (first | (refine vcP_pure (h77) rfl ?_ ?_ ?_; (focus (first | rfl | ((simp only [go_sem, hk, AV.pureL, AV.pure, pureL_mapI, Bool.and_self]) <;> fail))); (focus (first | ((simp only [go_sem, hk]) <;> fail) | rfl))) | (refine dCallP_pure (h77) rfl ?_ ?_ ?_; (focus (first | rfl | ((simp only [go_sem, hk, AV.pureL, AV.pure, pureL_mapI, Bool.and_self]) <;> fail))); (focus (first | ((simp only [go_sem, hk]) <;> fail) | rfl))) | refine vcP_safe (h77) rfl rfl (by (simp only [go_sem, hk])) ?_ | refine dCallP_safe (h77) rfl rfl ?_) | (simp only [go_sem, hk])))
end Go.Proofs.Ytekdocalipchpaa
