/- Contracts of functions of the given program, without a condition beyond those that each theorem states; they lead to the given statement. -/
import Derived.Test.YtekdocalipchpaaV03f
set_option linter.unusedSimpArgs false
set_option linter.unusedVariables false
set_option linter.unusedVariables false
set_option maxRecDepth 100000
namespace Go.Proofs.Ytekdocalipchpaa
open Go Go.Fl
open Classical
/-! ### All shares of the specification -/
def wnT (s : Shop) (l : List Int) (p : Int) : Nat → Int
  | 0 => gv s.wt p
  | k + 1 => wnT s l p k - if pg s k = p then gv l k else 0
def wan (s : Shop) (l : List Int) (p : Int) : Int := wnT s l p l.length
def in12 (l : List Int) : Prop := ∀ n, n ∈ l → 0 ≤ n ∧ n ≤ 12
theorem in12.app {l : List Int} {n : Int} (h : in12 l) (h2 : 0 ≤ n ∧ n ≤ 12) : in12 (l ++ [n]) := fun x hx => by
  rcases List.mem_append.1 hx with q | q
  · exact h x q
  · rw [List.mem_singleton.1 q]; exact h2
theorem in12.set {l : List Int} {i : Nat} {v : Int} (h : in12 l) (h2 : 0 ≤ v ∧ v ≤ 12) : in12 (l.set i v) := fun n hn => by
  rcases List.mem_or_eq_of_mem_set hn with q | q
  · exact h n q
  · rw [q]; exact h2
theorem in12.gv {l : List Int} (h : in12 l) (i : Nat) : 0 ≤ gv l i ∧ gv l i ≤ 12 := by
  unfold Go.Fl.gv
  rw [Int.toNat_natCast]
  cases hx : l[i]? with
  | none => simp
  | some x => exact h x (List.mem_of_getElem? hx)
theorem wnT_bounds {s : Shop} {l : List Int} (hl : in12 l) (hw : in12 s.wt) (p : Nat) : ∀ k : Nat, -12 * (k : Int) ≤ wnT s l p k ∧ wnT s l p k ≤ 12
  | 0 => by have := hw.gv p; simp only [wnT]; omega
  | k + 1 => by
    have ih := wnT_bounds hl hw p k
    have := hl.gv k
    simp only [wnT]
    split <;> omega
theorem c110 (s : Shop) (hv : valid s) (l : List Int) (hl : l.length ≤ s.ms.length) (h12 : in12 l) (p : Nat) (hp : p < s.wt.length) : PC Try.prog 110 [hS s, lN l, .int .i64 p] (.int .i64 (wan s l p)) := by
  have h5 := hv.2.1
  have hw12 : in12 s.wt := hv.2.2.2.2.1
  obtain ⟨wp, hwp⟩ := get_of hp
  have hp' : (p : Int) < s.wt.length := by omega
  have e0 : wnT s l p 0 = wp := gv_nat hwp
  refine PC.body Try.func110 (by kernel_rfl) rfl (by simp [Try.f110]) rfl ?_
  simp only [Try.f110]
  intro hlen
  simp only [go_sem, List.length_map, and_true, true_and] at hlen
  refine CV.run ?_
  (repeat' (first | ((first | with_reducible refine vcG_split ?_ ?_ | with_reducible refine vcIf_split ?_ ?_ | with_reducible refine vcQ_split ?_ ?_ | with_reducible refine vcDG_split ?_ ?_) <;> intro hb <;> (try rw [hb]) <;> (try simp only [Bool.and_eq_true, Bool.or_eq_true, dtrue, dfalse, Bool.not_eq_true', Bool.not_eq_false', Bool.and_eq_false_iff, Bool.or_eq_false_iff, Bool.not_true, Bool.not_false] at hb) <;> (try simp only [within] at hb) <;> try (simp only [go_sem, hp', hwp, encN])) | refine And.intro (by (first | exact trivial | (simp only [I64]; omega) | omega)) ?_ | fail | (simp only [go_sem, hp', hwp, encN])))
  refine vc_for (fun j => ⟨[(8, .int .i64 j), (7, .int .i64 (wnT s l p j)), (6, .int .i64 0), (1, lN l), (2, .int .i64 p), (3, .lp 0 0)], [.box 26 (cS s) false]⟩) l.length (fun j => True) (by (first | exact wk_same (by (simp only [go_sem, Int.natCast_add, Int.natCast_one, Int.natCast_zero, Int.cast_ofNat_Int, e0])) | exact wk_drop (by (simp only [go_sem, Int.natCast_add, Int.natCast_one, Int.natCast_zero, Int.cast_ofNat_Int, e0])) (by (simp only [go_sem, Int.natCast_add, Int.natCast_one, Int.natCast_zero, Int.cast_ofNat_Int, e0])) (by (simp only [go_sem, Int.natCast_add, Int.natCast_one, Int.natCast_zero, Int.cast_ofNat_Int, e0])) (by (simp only [go_sem, Int.natCast_add, Int.natCast_one, Int.natCast_zero, Int.cast_ofNat_Int, e0])) (by (simp only [go_sem, Int.natCast_add, Int.natCast_one, Int.natCast_zero, Int.cast_ofNat_Int, e0])))) trivial ?_
  intro j hj _
  have hb := wnT_bounds (s := s) h12 hw12 p j
  rcases Nat.lt_or_ge j l.length with hlt | hge
  · obtain ⟨x, hx⟩ := get_of hlt
    obtain ⟨m, hm⟩ := get_of (l := s.ms) (j := j) (by omega)
    have hx12 := h12 x (List.mem_of_getElem? hx)
    have hlt' : (j : Int) < l.length := by omega
    have hlt2 : (j : Int) < s.ms.length := by omega
    have hpg : pg s j = m.page := by simp [pg, hm]
    by_cases hpp : m.page = p
    · have e : wnT s l p (j + 1) = wnT s l p j - x := by simp [wnT, hpg, hpp, gv_nat hx]
      (repeat' (first | ((first | with_reducible refine vcG_split ?_ ?_ | with_reducible refine vcIf_split ?_ ?_ | with_reducible refine vcQ_split ?_ ?_ | with_reducible refine vcDG_split ?_ ?_) <;> intro hb <;> (try rw [hb]) <;> (try simp only [Bool.and_eq_true, Bool.or_eq_true, dtrue, dfalse, Bool.not_eq_true', Bool.not_eq_false', Bool.and_eq_false_iff, Bool.or_eq_false_iff, Bool.not_true, Bool.not_false] at hb) <;> (try simp only [within] at hb) <;> try (simp only [go_sem, hlt', hlt2, hm, hx, hpp, encD, encN])) | refine And.intro (by (first | exact trivial | (simp only [I64]; omega) | omega)) ?_ | fail | (simp only [go_sem, hlt', hlt2, hm, hx, hpp, encD, encN])))
      (first | exact wk_same (by (simp only [go_sem, Int.natCast_add, Int.natCast_one, Int.natCast_zero, Int.cast_ofNat_Int, e])) | exact wk_drop (by (simp only [go_sem, Int.natCast_add, Int.natCast_one, Int.natCast_zero, Int.cast_ofNat_Int, e])) (by (simp only [go_sem, Int.natCast_add, Int.natCast_one, Int.natCast_zero, Int.cast_ofNat_Int, e])) (by (simp only [go_sem, Int.natCast_add, Int.natCast_one, Int.natCast_zero, Int.cast_ofNat_Int, e])) (by (simp only [go_sem, Int.natCast_add, Int.natCast_one, Int.natCast_zero, Int.cast_ofNat_Int, e])) (by (simp only [go_sem, Int.natCast_add, Int.natCast_one, Int.natCast_zero, Int.cast_ofNat_Int, e])))
    · have e : wnT s l p (j + 1) = wnT s l p j := by simp [wnT, hpg, hpp]
      (repeat' (first | ((first | with_reducible refine vcG_split ?_ ?_ | with_reducible refine vcIf_split ?_ ?_ | with_reducible refine vcQ_split ?_ ?_ | with_reducible refine vcDG_split ?_ ?_) <;> intro hb <;> (try rw [hb]) <;> (try simp only [Bool.and_eq_true, Bool.or_eq_true, dtrue, dfalse, Bool.not_eq_true', Bool.not_eq_false', Bool.and_eq_false_iff, Bool.or_eq_false_iff, Bool.not_true, Bool.not_false] at hb) <;> (try simp only [within] at hb) <;> try (simp only [go_sem, hlt', hlt2, hm, hx, hpp, encD, encN])) | refine And.intro (by (first | exact trivial | (simp only [I64]; omega) | omega)) ?_ | fail | (simp only [go_sem, hlt', hlt2, hm, hx, hpp, encD, encN])))
      (first | exact wk_same (by (simp only [go_sem, Int.natCast_add, Int.natCast_one, Int.natCast_zero, Int.cast_ofNat_Int, e])) | exact wk_drop (by (simp only [go_sem, Int.natCast_add, Int.natCast_one, Int.natCast_zero, Int.cast_ofNat_Int, e])) (by (simp only [go_sem, Int.natCast_add, Int.natCast_one, Int.natCast_zero, Int.cast_ofNat_Int, e])) (by (simp only [go_sem, Int.natCast_add, Int.natCast_one, Int.natCast_zero, Int.cast_ofNat_Int, e])) (by (simp only [go_sem, Int.natCast_add, Int.natCast_one, Int.natCast_zero, Int.cast_ofNat_Int, e])) (by (simp only [go_sem, Int.natCast_add, Int.natCast_one, Int.natCast_zero, Int.cast_ofNat_Int, e])))
  · have hge' : ¬ (j : Int) < l.length := by omega
    have : j = l.length := by omega
    subst this
    (repeat' (first | ((first | with_reducible refine vcG_split ?_ ?_ | with_reducible refine vcIf_split ?_ ?_ | with_reducible refine vcQ_split ?_ ?_ | with_reducible refine vcDG_split ?_ ?_) <;> intro hb <;> (try rw [hb]) <;> (try simp only [Bool.and_eq_true, Bool.or_eq_true, dtrue, dfalse, Bool.not_eq_true', Bool.not_eq_false', Bool.and_eq_false_iff, Bool.or_eq_false_iff, Bool.not_true, Bool.not_false] at hb) <;> (try simp only [within] at hb) <;> try (simp only [go_sem, hge', wan])) | refine And.intro (by (first | exact trivial | (simp only [I64]; omega) | omega)) ?_ | fail | (simp only [go_sem, hge', wan])))
theorem wnT_app {s : Shop} {l : List Int} {n p : Int} : ∀ k : Nat, k ≤ l.length → wnT s (l ++ [n]) p k = wnT s l p k
  | 0, _ => rfl
  | k + 1, h => by
    have e : gv (l ++ [n]) k = gv l k := by simp [gv, List.getElem?_append_left (show k < l.length by omega)]
    have ih := wnT_app (s := s) (l := l) (n := n) (p := p) k (by omega)
    simp only [wnT, ih, e]
theorem wan_app {s : Shop} {l : List Int} {n p : Int} : wan s (l ++ [n]) p = wan s l p - if pg s l.length = p then n else 0 := by
  have e : gv (l ++ [n]) l.length = n := by simp [gv]
  simp only [wan, List.length_append, List.length_cons, List.length_nil, Nat.zero_add, wnT, wnT_app l.length (Nat.le_refl _), e]
theorem jl_len {s : Shop} {can : List Int} (hc : in12 can) : ∀ (d k : Nat) (W pre : List Int), (jl s can d k W pre).length ≤ 13 ^ d
  | 0, k, W, pre => by simp only [jl]; split <;> simp
  | d + 1, k, W, pre => by
    simp only [jl, List.length_flatMap]
    have h1 : nOf s can k W ≤ 13 := by have := hc.gv k; unfold nOf; omega
    have : ∀ (l : List Nat), (l.map fun (n : Nat) => (jl s can d (k + 1) (W.set (pg s k).toNat (gv W (pg s k) - (n : Int))) (pre ++ [(n : Int)])).length).sum ≤ l.length * 13 ^ d := fun l => by
      induction l with
      | nil => simp
      | cons a l ih =>
        simp only [List.map_cons, List.sum_cons, List.length_cons, Nat.succ_mul]
        have := jl_len (s := s) hc d (k + 1) (W.set (pg s k).toNat (gv W (pg s k) - (a : Int))) (pre ++ [(a : Int)])
        omega
    have h2 := this (List.range (nOf s can k W))
    rw [List.length_range] at h2
    have h3 := Nat.mul_le_mul_right (13 ^ d) h1
    rw [Nat.pow_succ]
    omega
theorem jlT_len {s : Shop} {can : List Int} (hc : in12 can) (d k : Nat) (W pre : List Int) : ∀ j, (jlT s can d k W pre j).length ≤ j * 13 ^ d
  | 0 => by simp [jlT]
  | j + 1 => by
    have h1 := jlT_len (s := s) hc d k W pre j
    have h2 := jl_len (s := s) hc d (k + 1) (W.set (pg s k).toNat (gv W (pg s k) - (j : Int))) (pre ++ [(j : Int)])
    rw [jlT_succ, List.length_append, Nat.succ_mul]
    omega
theorem canB_get {s : Shop} (hv : valid s) {k : Nat} {m : Mould} (hm : s.ms[k]? = some m) : gv (canB s) k = 12 * (1 - m.broke) := by
  have h5 := hv.2.1
  have := (List.getElem?_eq_some_iff.1 hm).1
  rw [canB]
  exact gv_nat (by rw [arr_get (by omega)]; simp [hm])
theorem c103 (s : Shop) (hv : valid s) : ∀ (d k : Nat) (W pre : List Int), k + d = s.ms.length → pre.length = k → in12 pre → in12 W → W.length = s.wt.length → (∀ p : Nat, p < s.wt.length → gv W p = wan s pre p) →
    PC Try.prog 103 [hS s, lN pre] (.lst false 1 ((jl s (canB s) d k W pre).map encW)) := by
  intro d
  have h5 := hv.2.1
  induction d with
  | zero =>
    intro k W pre hk hpl hp12 hW12 hWl hWw
    have hkl : (pre.length : Int) = s.ms.length := by omega
    refine PC.body Try.func103 (by kernel_rfl) rfl (by simp [Try.f103]) rfl ?_
    simp only [Try.f103]
    intro hlen
    simp only [go_sem, List.length_map, and_true, true_and] at hlen
    refine CV.run ?_
    (repeat' (first | ((first | with_reducible refine vcG_split ?_ ?_ | with_reducible refine vcIf_split ?_ ?_ | with_reducible refine vcQ_split ?_ ?_ | with_reducible refine vcDG_split ?_ ?_) <;> intro hb <;> (try rw [hb]) <;> (try simp only [Bool.and_eq_true, Bool.or_eq_true, dtrue, dfalse, Bool.not_eq_true', Bool.not_eq_false', Bool.and_eq_false_iff, Bool.or_eq_false_iff, Bool.not_true, Bool.not_false] at hb) <;> (try simp only [within] at hb) <;> try (simp only [go_sem, hkl])) | refine And.intro (by (first | exact trivial | (simp only [I64]; omega) | omega)) ?_ | (with_reducible rw [vc_draw_eq]; first | refine CV.draw (id := 16) [(0, 2), (0, 2), (0, 0), (0, 0), (0, 0), (0, 1), (0, 1), (99, 0), (2, 2), (0, 0), (3, 3)] mixed rfl (by kernel_rfl) ?_) | fail | (simp only [go_sem, hkl])))
    refine vc_for (fun j => ⟨[(5, .int .i64 j), (4, .nilS), (1, lN pre), (2, .lp 0 0)], [.box 26 (cS s) false]⟩) s.wt.length (fun j => ∀ p : Nat, p < j → wan s pre p = 0) (by (first | exact wk_same (by (simp only [go_sem, Int.natCast_add, Int.natCast_one, Int.natCast_zero, Int.cast_ofNat_Int])) | exact wk_drop (by (simp only [go_sem, Int.natCast_add, Int.natCast_one, Int.natCast_zero, Int.cast_ofNat_Int])) (by (simp only [go_sem, Int.natCast_add, Int.natCast_one, Int.natCast_zero, Int.cast_ofNat_Int])) (by (simp only [go_sem, Int.natCast_add, Int.natCast_one, Int.natCast_zero, Int.cast_ofNat_Int])) (by (simp only [go_sem, Int.natCast_add, Int.natCast_one, Int.natCast_zero, Int.cast_ofNat_Int])) (by (simp only [go_sem, Int.natCast_add, Int.natCast_one, Int.natCast_zero, Int.cast_ofNat_Int])))) (fun p h => by omega) ?_
    intro j hj hx
    rcases Nat.lt_or_ge j s.wt.length with hlt | hge
    · have hlt' : (j : Int) < s.wt.length := by omega
      have h110 := c110 s hv pre (by omega) hp12 j hlt
      have hWj := hWw j hlt
      (repeat' (first | ((first | with_reducible refine vcG_split ?_ ?_ | with_reducible refine vcIf_split ?_ ?_ | with_reducible refine vcQ_split ?_ ?_ | with_reducible refine vcDG_split ?_ ?_) <;> intro hb <;> (try rw [hb]) <;> (try simp only [Bool.and_eq_true, Bool.or_eq_true, dtrue, dfalse, Bool.not_eq_true', Bool.not_eq_false', Bool.and_eq_false_iff, Bool.or_eq_false_iff, Bool.not_true, Bool.not_false] at hb) <;> (try simp only [within] at hb) <;> try (simp only [go_sem, hlt'])) | refine And.intro (by (first | exact trivial | (simp only [I64]; omega) | omega)) ?_ | (with_reducible rw [vc_draw_eq]; first | refine CV.draw (id := 16) [(0, 2), (0, 2), (0, 0), (0, 0), (0, 0), (0, 1), (0, 1), (99, 0), (2, 2), (0, 0), (3, 3)] mixed rfl (by kernel_rfl) ?_) | (first | (refine vcP_pure (h110) rfl ?_ ?_ ?_; (focus (first | rfl | ((simp only [go_sem, hlt', AV.pureL, AV.pure, pureL_mapI, Bool.and_self]) <;> fail))); (focus (first | ((simp only [go_sem, hlt']) <;> fail) | rfl))) | (refine dCallP_pure (h110) rfl ?_ ?_ ?_; (focus (first | rfl | ((simp only [go_sem, hlt', AV.pureL, AV.pure, pureL_mapI, Bool.and_self]) <;> fail))); (focus (first | ((simp only [go_sem, hlt']) <;> fail) | rfl))) | refine vcP_safe (h110) rfl rfl (by (simp only [go_sem, hlt'])) ?_ | refine dCallP_safe (h110) rfl rfl ?_) | (simp only [go_sem, hlt'])))
      · have e : jl s (canB s) 0 k W pre = [] := if_pos (List.any_eq_true.2 ⟨gv W j, by
          obtain ⟨x, hx⟩ := get_of (l := W) (j := j) (by omega)
          rw [gv_nat hx]; exact List.mem_of_getElem? hx, decide_eq_true (by have := hW12.gv j; omega)⟩)
        rw [e]; rfl
      · refine ⟨by (first | exact wk_same (by (simp only [go_sem, Int.natCast_add, Int.natCast_one, Int.natCast_zero, Int.cast_ofNat_Int])) | exact wk_drop (by (simp only [go_sem, Int.natCast_add, Int.natCast_one, Int.natCast_zero, Int.cast_ofNat_Int])) (by (simp only [go_sem, Int.natCast_add, Int.natCast_one, Int.natCast_zero, Int.cast_ofNat_Int])) (by (simp only [go_sem, Int.natCast_add, Int.natCast_one, Int.natCast_zero, Int.cast_ofNat_Int])) (by (simp only [go_sem, Int.natCast_add, Int.natCast_one, Int.natCast_zero, Int.cast_ofNat_Int])) (by (simp only [go_sem, Int.natCast_add, Int.natCast_one, Int.natCast_zero, Int.cast_ofNat_Int]))), fun p hp => ?_⟩
        rcases Nat.lt_or_ge p j with h | h
        · exact hx p h
        · have : p = j := by omega
          subst this; exact hb
    · have hge' : ¬ (j : Int) < s.wt.length := by omega
      (repeat' (first | ((first | with_reducible refine vcG_split ?_ ?_ | with_reducible refine vcIf_split ?_ ?_ | with_reducible refine vcQ_split ?_ ?_ | with_reducible refine vcDG_split ?_ ?_) <;> intro hb <;> (try rw [hb]) <;> (try simp only [Bool.and_eq_true, Bool.or_eq_true, dtrue, dfalse, Bool.not_eq_true', Bool.not_eq_false', Bool.and_eq_false_iff, Bool.or_eq_false_iff, Bool.not_true, Bool.not_false] at hb) <;> (try simp only [within] at hb) <;> try (simp only [go_sem, hge'])) | refine And.intro (by (first | exact trivial | (simp only [I64]; omega) | omega)) ?_ | (with_reducible rw [vc_draw_eq]; first | refine CV.draw (id := 16) [(0, 2), (0, 2), (0, 0), (0, 0), (0, 0), (0, 1), (0, 1), (99, 0), (2, 2), (0, 0), (3, 3)] mixed rfl (by kernel_rfl) ?_) | fail | (simp only [go_sem, hge'])))
      have e : jl s (canB s) 0 k W pre = [pre] := if_neg (fun h => by
        obtain ⟨n, q1, q2⟩ := List.any_eq_true.1 h
        obtain ⟨i, hi⟩ := List.mem_iff_getElem?.1 q1
        have hil := (List.getElem?_eq_some_iff.1 hi).1
        have h1 := hx i (by omega)
        rw [← hWw i (by omega), gv_nat hi] at h1
        have := of_decide_eq_true q2
        omega)
      rw [e]; rfl
  | succ d ih =>
    intro k W pre hk hpl hp12 hW12 hWl hWw
    obtain ⟨m, hm⟩ := get_of (l := s.ms) (j := k) (by omega)
    have hpm := hv.mould hm
    obtain ⟨p, hp⟩ : ∃ p : Nat, m.page = p := ⟨m.page.toNat, by omega⟩
    have hkl : ¬ (pre.length : Int) = s.ms.length := by omega
    have hkl2 : (pre.length : Int) < s.ms.length := by omega
    have hm' : s.ms[pre.length]? = some m := by rw [hpl]; exact hm
    have h110 := c110 s hv pre (by omega) hp12 p (by omega)
    have hW := hWw p (by omega)
    have hWp := hW12.gv p
    have hcb := canB_get hv hm
    have hpg : pg s k = p := by simp [pg, hm, hp]
    obtain ⟨M, hM⟩ : ∃ M : Nat, min (gv (canB s) k) (gv W p) = M := ⟨(min (gv (canB s) k) (gv W p)).toNat, by omega⟩
    have hjl : jl s (canB s) (d + 1) k W pre = jlT s (canB s) d k W pre (M + 1) := by
      simp only [jl, nOf, hpg, hM, jlT]
      rw [show ((M : Int) + 1).toNat = M + 1 from by omega]
    have hjs : ∀ n, jlT s (canB s) d k W pre (n + 1) = jlT s (canB s) d k W pre n ++ jl s (canB s) d (k + 1) (W.set p (gv W p - n)) (pre ++ [(n : Int)]) := fun n => by rw [jlT_succ, hpg, Int.toNat_natCast]
    have h13 : 13 ^ d ≤ 13 ^ 4 := Nat.pow_le_pow_right (by omega) (by omega)
    have hcan : in12 (canB s) := canB_ok hv
    rw [hjl]
    by_cases hbr : m.broke = 1
    · have hMM : M = 0 := by omega
      refine PC.body Try.func103 (by kernel_rfl) rfl (by simp [Try.f103]) rfl ?_
      simp only [Try.f103]
      intro hlen
      simp only [go_sem, List.length_map, and_true, true_and] at hlen
      refine CV.run ?_
      (repeat' (first | ((first | with_reducible refine vcG_split ?_ ?_ | with_reducible refine vcIf_split ?_ ?_ | with_reducible refine vcQ_split ?_ ?_ | with_reducible refine vcDG_split ?_ ?_) <;> intro hb <;> (try rw [hb]) <;> (try simp only [Bool.and_eq_true, Bool.or_eq_true, dtrue, dfalse, Bool.not_eq_true', Bool.not_eq_false', Bool.and_eq_false_iff, Bool.or_eq_false_iff, Bool.not_true, Bool.not_false] at hb) <;> (try simp only [within] at hb) <;> try (simp only [go_sem, hkl, hkl2, hm', hp, hbr, encD])) | refine And.intro (by (first | exact trivial | (simp only [I64]; omega) | omega)) ?_ | (with_reducible rw [vc_draw_eq]; first | refine CV.draw (id := 16) [(0, 2), (0, 2), (0, 0), (0, 0), (0, 0), (0, 1), (0, 1), (99, 0), (2, 2), (0, 0), (3, 3)] mixed rfl (by kernel_rfl) ?_) | (first | (refine vcP_pure (h110) rfl ?_ ?_ ?_; (focus (first | rfl | ((simp only [go_sem, hkl, hkl2, hm', hp, hbr, encD, AV.pureL, AV.pure, pureL_mapI, Bool.and_self]) <;> fail))); (focus (first | ((simp only [go_sem, hkl, hkl2, hm', hp, hbr, encD]) <;> fail) | rfl))) | (refine dCallP_pure (h110) rfl ?_ ?_ ?_; (focus (first | rfl | ((simp only [go_sem, hkl, hkl2, hm', hp, hbr, encD, AV.pureL, AV.pure, pureL_mapI, Bool.and_self]) <;> fail))); (focus (first | ((simp only [go_sem, hkl, hkl2, hm', hp, hbr, encD]) <;> fail) | rfl))) | refine vcP_safe (h110) rfl rfl (by (simp only [go_sem, hkl, hkl2, hm', hp, hbr, encD])) ?_ | refine dCallP_safe (h110) rfl rfl ?_) | (simp only [go_sem, hkl, hkl2, hm', hp, hbr, encD])))
      refine vc_fw (fun n => ⟨[(9, .int .i64 n), (8, .row 2 (jlT s (canB s) d k W pre n).length), (7, .int .i64 M), (4, .nilS), (1, lN pre), (2, .lp 0 0)], [.box 26 (cS s) false, .box 51 [.int .i64 p, .int .i64 m.used, .int .i64 m.broke] false, .row 24 1 ((jlT s (canB s) d k W pre n).map encW) false]⟩) (M + 1) (fun n => True) (.nilE 8 24 1 (by (simp only [go_sem])) (by omega) (.base (by (first | exact wk_same (by (simp only [go_sem, Int.natCast_add, Int.natCast_one, Int.natCast_zero, Int.cast_ofNat_Int, jlT_zero, hbr, hMM])) | exact wk_drop (by (simp only [go_sem, Int.natCast_add, Int.natCast_one, Int.natCast_zero, Int.cast_ofNat_Int, jlT_zero, hbr, hMM])) (by (simp only [go_sem, Int.natCast_add, Int.natCast_one, Int.natCast_zero, Int.cast_ofNat_Int, jlT_zero, hbr, hMM])) (by (simp only [go_sem, Int.natCast_add, Int.natCast_one, Int.natCast_zero, Int.cast_ofNat_Int, jlT_zero, hbr, hMM])) (by (simp only [go_sem, Int.natCast_add, Int.natCast_one, Int.natCast_zero, Int.cast_ofNat_Int, jlT_zero, hbr, hMM])) (by (simp only [go_sem, Int.natCast_add, Int.natCast_one, Int.natCast_zero, Int.cast_ofNat_Int, jlT_zero, hbr, hMM])))))) trivial ?_
      intro n hn _
      have hbl := jlT_len (s := s) hcan d k W pre n
      rcases Nat.lt_or_ge n (M + 1) with hlt | hge
      · have hlt' : (n : Int) ≤ M := by omega
        have hs : (n : Int) ≤ gv W p := by omega
        have ihh := ih (k + 1) (W.set p (gv W p - n)) (pre ++ [(n : Int)]) (by omega) (by simp [hpl]) (hp12.app (by omega)) (hW12.set (by omega)) (by rw [List.length_set]; exact hWl) (fun q hq => by
          rw [wan_app, hpl, hpg, ← hWw q hq]
          by_cases hpq : p = q
          · subst hpq
            rw [if_pos rfl, gv_nat (x := gv W p - n) (by rw [List.getElem?_set_self (by omega)])]
          · rw [if_neg (by omega), Int.sub_zero]; unfold gv; rw [Int.toNat_natCast, List.getElem?_set_ne (by omega)])
        rw [lN, List.map_append] at ihh
        simp only [List.map_cons, List.map_nil, encN] at ihh
        have hj := jl_len (s := s) hcan d (k + 1) (W.set p (gv W p - n)) (pre ++ [(n : Int)])
        have e := hjs n
        (repeat' (first | ((first | with_reducible refine vcG_split ?_ ?_ | with_reducible refine vcIf_split ?_ ?_ | with_reducible refine vcQ_split ?_ ?_ | with_reducible refine vcDG_split ?_ ?_) <;> intro hb <;> (try rw [hb]) <;> (try simp only [Bool.and_eq_true, Bool.or_eq_true, dtrue, dfalse, Bool.not_eq_true', Bool.not_eq_false', Bool.and_eq_false_iff, Bool.or_eq_false_iff, Bool.not_true, Bool.not_false] at hb) <;> (try simp only [within] at hb) <;> try (simp only [go_sem, hlt', encN])) | refine And.intro (by (first | exact trivial | (simp only [I64]; omega) | omega)) ?_ | (with_reducible rw [vc_draw_eq]; first | refine CV.draw (id := 16) [(0, 2), (0, 2), (0, 0), (0, 0), (0, 0), (0, 1), (0, 1), (99, 0), (2, 2), (0, 0), (3, 3)] mixed rfl (by kernel_rfl) ?_) | fail | (simp only [go_sem, hlt', encN])))
        refine ⟨⟨by omega, by omega, .inl trivial⟩, ⟨⟨by omega, by omega⟩, by simp⟩, ?_⟩
        (repeat' (first | ((first | with_reducible refine vcG_split ?_ ?_ | with_reducible refine vcIf_split ?_ ?_ | with_reducible refine vcQ_split ?_ ?_ | with_reducible refine vcDG_split ?_ ?_) <;> intro hb <;> (try rw [hb]) <;> (try simp only [Bool.and_eq_true, Bool.or_eq_true, dtrue, dfalse, Bool.not_eq_true', Bool.not_eq_false', Bool.and_eq_false_iff, Bool.or_eq_false_iff, Bool.not_true, Bool.not_false] at hb) <;> (try simp only [within] at hb) <;> try (simp only [go_sem, hlt', encN, List.length_append, List.length_map])) | refine And.intro (by (first | exact trivial | (simp only [I64]; omega) | omega)) ?_ | (with_reducible rw [vc_draw_eq]; first | refine CV.draw (id := 16) [(0, 2), (0, 2), (0, 0), (0, 0), (0, 0), (0, 1), (0, 1), (99, 0), (2, 2), (0, 0), (3, 3)] mixed rfl (by kernel_rfl) ?_) | (first | (refine vcP_pure (ihh) rfl ?_ ?_ ?_; (focus (first | rfl | ((simp only [go_sem, hlt', encN, List.length_append, List.length_map, AV.pureL, AV.pure, pureL_mapI, Bool.and_self]) <;> fail))); (focus (first | ((simp only [go_sem, hlt', encN, List.length_append, List.length_map]) <;> fail) | rfl))) | (refine dCallP_pure (ihh) rfl ?_ ?_ ?_; (focus (first | rfl | ((simp only [go_sem, hlt', encN, List.length_append, List.length_map, AV.pureL, AV.pure, pureL_mapI, Bool.and_self]) <;> fail))); (focus (first | ((simp only [go_sem, hlt', encN, List.length_append, List.length_map]) <;> fail) | rfl))) | refine vcP_safe (ihh) rfl rfl (by (simp only [go_sem, hlt', encN, List.length_append, List.length_map])) ?_ | refine dCallP_safe (ihh) rfl rfl ?_) | (simp only [go_sem, hlt', encN, List.length_append, List.length_map])))
        have hmul : n * 13 ^ d ≤ 12 * 13 ^ 4 := Nat.mul_le_mul (by omega) h13
        refine ⟨⟨by omega, by omega⟩, ⟨by omega, by omega⟩, hlt, .base (by (first | exact wk_same (by (simp only [go_sem, Int.natCast_add, Int.natCast_one, Int.natCast_zero, Int.cast_ofNat_Int, e, List.map_append, List.length_append])) | exact wk_drop (by (simp only [go_sem, Int.natCast_add, Int.natCast_one, Int.natCast_zero, Int.cast_ofNat_Int, e, List.map_append, List.length_append])) (by (simp only [go_sem, Int.natCast_add, Int.natCast_one, Int.natCast_zero, Int.cast_ofNat_Int, e, List.map_append, List.length_append])) (by (simp only [go_sem, Int.natCast_add, Int.natCast_one, Int.natCast_zero, Int.cast_ofNat_Int, e, List.map_append, List.length_append])) (by (simp only [go_sem, Int.natCast_add, Int.natCast_one, Int.natCast_zero, Int.cast_ofNat_Int, e, List.map_append, List.length_append])) (by (simp only [go_sem, Int.natCast_add, Int.natCast_one, Int.natCast_zero, Int.cast_ofNat_Int, e, List.map_append, List.length_append]))))⟩
      · have hge' : ¬ (n : Int) ≤ M := by omega
        have : n = M + 1 := by omega
        subst this
        (repeat' (first | ((first | with_reducible refine vcG_split ?_ ?_ | with_reducible refine vcIf_split ?_ ?_ | with_reducible refine vcQ_split ?_ ?_ | with_reducible refine vcDG_split ?_ ?_) <;> intro hb <;> (try rw [hb]) <;> (try simp only [Bool.and_eq_true, Bool.or_eq_true, dtrue, dfalse, Bool.not_eq_true', Bool.not_eq_false', Bool.and_eq_false_iff, Bool.or_eq_false_iff, Bool.not_true, Bool.not_false] at hb) <;> (try simp only [within] at hb) <;> try (simp only [go_sem, hge'])) | refine And.intro (by (first | exact trivial | (simp only [I64]; omega) | omega)) ?_ | (with_reducible rw [vc_draw_eq]; first | refine CV.draw (id := 16) [(0, 2), (0, 2), (0, 0), (0, 0), (0, 0), (0, 1), (0, 1), (99, 0), (2, 2), (0, 0), (3, 3)] mixed rfl (by kernel_rfl) ?_) | fail | (simp only [go_sem, hge'])))
    · have hMM : min 12 (wan s pre p) = M := by omega
      refine PC.body Try.func103 (by kernel_rfl) rfl (by simp [Try.f103]) rfl ?_
      simp only [Try.f103]
      intro hlen
      simp only [go_sem, List.length_map, and_true, true_and] at hlen
      refine CV.run ?_
      (repeat' (first | ((first | with_reducible refine vcG_split ?_ ?_ | with_reducible refine vcIf_split ?_ ?_ | with_reducible refine vcQ_split ?_ ?_ | with_reducible refine vcDG_split ?_ ?_) <;> intro hb <;> (try rw [hb]) <;> (try simp only [Bool.and_eq_true, Bool.or_eq_true, dtrue, dfalse, Bool.not_eq_true', Bool.not_eq_false', Bool.and_eq_false_iff, Bool.or_eq_false_iff, Bool.not_true, Bool.not_false] at hb) <;> (try simp only [within] at hb) <;> try (simp only [go_sem, hkl, hkl2, hm', hp, hbr, hMM, encD])) | refine And.intro (by (first | exact trivial | (simp only [I64]; omega) | omega)) ?_ | (with_reducible rw [vc_draw_eq]; first | refine CV.draw (id := 16) [(0, 2), (0, 2), (0, 0), (0, 0), (0, 0), (0, 1), (0, 1), (99, 0), (2, 2), (0, 0), (3, 3)] mixed rfl (by kernel_rfl) ?_) | (first | (refine vcP_pure (h110) rfl ?_ ?_ ?_; (focus (first | rfl | ((simp only [go_sem, hkl, hkl2, hm', hp, hbr, hMM, encD, AV.pureL, AV.pure, pureL_mapI, Bool.and_self]) <;> fail))); (focus (first | ((simp only [go_sem, hkl, hkl2, hm', hp, hbr, hMM, encD]) <;> fail) | rfl))) | (refine dCallP_pure (h110) rfl ?_ ?_ ?_; (focus (first | rfl | ((simp only [go_sem, hkl, hkl2, hm', hp, hbr, hMM, encD, AV.pureL, AV.pure, pureL_mapI, Bool.and_self]) <;> fail))); (focus (first | ((simp only [go_sem, hkl, hkl2, hm', hp, hbr, hMM, encD]) <;> fail) | rfl))) | refine vcP_safe (h110) rfl rfl (by (simp only [go_sem, hkl, hkl2, hm', hp, hbr, hMM, encD])) ?_ | refine dCallP_safe (h110) rfl rfl ?_) | (simp only [go_sem, hkl, hkl2, hm', hp, hbr, hMM, encD])))
      refine vc_fw (fun n => ⟨[(9, .int .i64 n), (8, .row 2 (jlT s (canB s) d k W pre n).length), (7, .int .i64 M), (4, .nilS), (1, lN pre), (2, .lp 0 0)], [.box 26 (cS s) false, .box 51 [.int .i64 p, .int .i64 m.used, .int .i64 m.broke] false, .row 24 1 ((jlT s (canB s) d k W pre n).map encW) false]⟩) (M + 1) (fun n => True) (.nilE 8 24 1 (by (simp only [go_sem])) (by omega) (.base (by (first | exact wk_same (by (simp only [go_sem, Int.natCast_add, Int.natCast_one, Int.natCast_zero, Int.cast_ofNat_Int, jlT_zero, hbr, hMM])) | exact wk_drop (by (simp only [go_sem, Int.natCast_add, Int.natCast_one, Int.natCast_zero, Int.cast_ofNat_Int, jlT_zero, hbr, hMM])) (by (simp only [go_sem, Int.natCast_add, Int.natCast_one, Int.natCast_zero, Int.cast_ofNat_Int, jlT_zero, hbr, hMM])) (by (simp only [go_sem, Int.natCast_add, Int.natCast_one, Int.natCast_zero, Int.cast_ofNat_Int, jlT_zero, hbr, hMM])) (by (simp only [go_sem, Int.natCast_add, Int.natCast_one, Int.natCast_zero, Int.cast_ofNat_Int, jlT_zero, hbr, hMM])) (by (simp only [go_sem, Int.natCast_add, Int.natCast_one, Int.natCast_zero, Int.cast_ofNat_Int, jlT_zero, hbr, hMM])))))) trivial ?_
      intro n hn _
      have hbl := jlT_len (s := s) hcan d k W pre n
      rcases Nat.lt_or_ge n (M + 1) with hlt | hge
      · have hlt' : (n : Int) ≤ M := by omega
        have hs : (n : Int) ≤ gv W p := by omega
        have ihh := ih (k + 1) (W.set p (gv W p - n)) (pre ++ [(n : Int)]) (by omega) (by simp [hpl]) (hp12.app (by omega)) (hW12.set (by omega)) (by rw [List.length_set]; exact hWl) (fun q hq => by
          rw [wan_app, hpl, hpg, ← hWw q hq]
          by_cases hpq : p = q
          · subst hpq
            rw [if_pos rfl, gv_nat (x := gv W p - n) (by rw [List.getElem?_set_self (by omega)])]
          · rw [if_neg (by omega), Int.sub_zero]; unfold gv; rw [Int.toNat_natCast, List.getElem?_set_ne (by omega)])
        rw [lN, List.map_append] at ihh
        simp only [List.map_cons, List.map_nil, encN] at ihh
        have hj := jl_len (s := s) hcan d (k + 1) (W.set p (gv W p - n)) (pre ++ [(n : Int)])
        have e := hjs n
        (repeat' (first | ((first | with_reducible refine vcG_split ?_ ?_ | with_reducible refine vcIf_split ?_ ?_ | with_reducible refine vcQ_split ?_ ?_ | with_reducible refine vcDG_split ?_ ?_) <;> intro hb <;> (try rw [hb]) <;> (try simp only [Bool.and_eq_true, Bool.or_eq_true, dtrue, dfalse, Bool.not_eq_true', Bool.not_eq_false', Bool.and_eq_false_iff, Bool.or_eq_false_iff, Bool.not_true, Bool.not_false] at hb) <;> (try simp only [within] at hb) <;> try (simp only [go_sem, hlt', encN])) | refine And.intro (by (first | exact trivial | (simp only [I64]; omega) | omega)) ?_ | (with_reducible rw [vc_draw_eq]; first | refine CV.draw (id := 16) [(0, 2), (0, 2), (0, 0), (0, 0), (0, 0), (0, 1), (0, 1), (99, 0), (2, 2), (0, 0), (3, 3)] mixed rfl (by kernel_rfl) ?_) | fail | (simp only [go_sem, hlt', encN])))
        refine ⟨⟨by omega, by omega, .inl trivial⟩, ⟨⟨by omega, by omega⟩, by simp⟩, ?_⟩
        (repeat' (first | ((first | with_reducible refine vcG_split ?_ ?_ | with_reducible refine vcIf_split ?_ ?_ | with_reducible refine vcQ_split ?_ ?_ | with_reducible refine vcDG_split ?_ ?_) <;> intro hb <;> (try rw [hb]) <;> (try simp only [Bool.and_eq_true, Bool.or_eq_true, dtrue, dfalse, Bool.not_eq_true', Bool.not_eq_false', Bool.and_eq_false_iff, Bool.or_eq_false_iff, Bool.not_true, Bool.not_false] at hb) <;> (try simp only [within] at hb) <;> try (simp only [go_sem, hlt', encN, List.length_append, List.length_map])) | refine And.intro (by (first | exact trivial | (simp only [I64]; omega) | omega)) ?_ | (with_reducible rw [vc_draw_eq]; first | refine CV.draw (id := 16) [(0, 2), (0, 2), (0, 0), (0, 0), (0, 0), (0, 1), (0, 1), (99, 0), (2, 2), (0, 0), (3, 3)] mixed rfl (by kernel_rfl) ?_) | (first | (refine vcP_pure (ihh) rfl ?_ ?_ ?_; (focus (first | rfl | ((simp only [go_sem, hlt', encN, List.length_append, List.length_map, AV.pureL, AV.pure, pureL_mapI, Bool.and_self]) <;> fail))); (focus (first | ((simp only [go_sem, hlt', encN, List.length_append, List.length_map]) <;> fail) | rfl))) | (refine dCallP_pure (ihh) rfl ?_ ?_ ?_; (focus (first | rfl | ((simp only [go_sem, hlt', encN, List.length_append, List.length_map, AV.pureL, AV.pure, pureL_mapI, Bool.and_self]) <;> fail))); (focus (first | ((simp only [go_sem, hlt', encN, List.length_append, List.length_map]) <;> fail) | rfl))) | refine vcP_safe (ihh) rfl rfl (by (simp only [go_sem, hlt', encN, List.length_append, List.length_map])) ?_ | refine dCallP_safe (ihh) rfl rfl ?_) | (simp only [go_sem, hlt', encN, List.length_append, List.length_map])))
        have hmul : n * 13 ^ d ≤ 12 * 13 ^ 4 := Nat.mul_le_mul (by omega) h13
        refine ⟨⟨by omega, by omega⟩, ⟨by omega, by omega⟩, hlt, .base (by (first | exact wk_same (by (simp only [go_sem, Int.natCast_add, Int.natCast_one, Int.natCast_zero, Int.cast_ofNat_Int, e, List.map_append, List.length_append])) | exact wk_drop (by (simp only [go_sem, Int.natCast_add, Int.natCast_one, Int.natCast_zero, Int.cast_ofNat_Int, e, List.map_append, List.length_append])) (by (simp only [go_sem, Int.natCast_add, Int.natCast_one, Int.natCast_zero, Int.cast_ofNat_Int, e, List.map_append, List.length_append])) (by (simp only [go_sem, Int.natCast_add, Int.natCast_one, Int.natCast_zero, Int.cast_ofNat_Int, e, List.map_append, List.length_append])) (by (simp only [go_sem, Int.natCast_add, Int.natCast_one, Int.natCast_zero, Int.cast_ofNat_Int, e, List.map_append, List.length_append])) (by (simp only [go_sem, Int.natCast_add, Int.natCast_one, Int.natCast_zero, Int.cast_ofNat_Int, e, List.map_append, List.length_append]))))⟩
      · have hge' : ¬ (n : Int) ≤ M := by omega
        have : n = M + 1 := by omega
        subst this
        (repeat' (first | ((first | with_reducible refine vcG_split ?_ ?_ | with_reducible refine vcIf_split ?_ ?_ | with_reducible refine vcQ_split ?_ ?_ | with_reducible refine vcDG_split ?_ ?_) <;> intro hb <;> (try rw [hb]) <;> (try simp only [Bool.and_eq_true, Bool.or_eq_true, dtrue, dfalse, Bool.not_eq_true', Bool.not_eq_false', Bool.and_eq_false_iff, Bool.or_eq_false_iff, Bool.not_true, Bool.not_false] at hb) <;> (try simp only [within] at hb) <;> try (simp only [go_sem, hge'])) | refine And.intro (by (first | exact trivial | (simp only [I64]; omega) | omega)) ?_ | (with_reducible rw [vc_draw_eq]; first | refine CV.draw (id := 16) [(0, 2), (0, 2), (0, 0), (0, 0), (0, 0), (0, 1), (0, 1), (99, 0), (2, 2), (0, 0), (3, 3)] mixed rfl (by kernel_rfl) ?_) | fail | (simp only [go_sem, hge'])))
end Go.Proofs.Ytekdocalipchpaa
