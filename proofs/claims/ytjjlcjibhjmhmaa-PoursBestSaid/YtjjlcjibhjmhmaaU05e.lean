/- Contracts of functions of the given program, without a condition beyond those that each theorem states; they lead to the given statement. -/
import Derived.Test.YtjjlcjibhjmhmaaU05d
set_option linter.unusedSimpArgs false
set_option linter.unusedVariables false
set_option maxRecDepth 100000
namespace Go.Proofs.Ytjjlcjibhjmhmaa
open Go Go.Fl
open Classical
def worT (s : List Job) (dr : Int → Int) (o : List Int) : Nat → Int
  | 0 => 0
  | k + 1 => worT s dr o k + if (fin s dr (o.take (k + 1))).2 ≤ (jb s (gv o k)).due then (jb s (gv o k)).worth else 0
def wor (s : List Job) (dr : Int → Int) (o : List Int) : Int := worT s dr o o.length
theorem worT_yes {s : List Job} {dr : Int → Int} {o : List Int} {k : Nat} {x : Int} (hx : o[k]? = some x) (h : (fin s dr (o.take (k + 1))).2 ≤ (jb s x).due) : worT s dr o (k + 1) = worT s dr o k + (jb s x).worth := by
  simp only [worT]; rw [gv_nat hx, if_pos h]
theorem worT_no {s : List Job} {dr : Int → Int} {o : List Int} {k : Nat} {x : Int} (hx : o[k]? = some x) (h : ¬ (fin s dr (o.take (k + 1))).2 ≤ (jb s x).due) : worT s dr o (k + 1) = worT s dr o k := by
  simp only [worT]; rw [gv_nat hx, if_neg h]; omega
theorem worT_bounds {s : List Job} (hv : valid s) {dr : Int → Int} {o : List Int} (ho : onJ s o) : ∀ k : Nat, k ≤ o.length → 0 ≤ worT s dr o k ∧ worT s dr o k ≤ 99 * k
  | 0, _ => by simp [worT]
  | k + 1, h => by
    have ih := worT_bounds hv (dr := dr) ho k (by omega)
    obtain ⟨x, hx⟩ := get_of (l := o) (j := k) (by omega)
    have hj := hv.jb (ho x (List.mem_of_getElem? hx))
    unfold okJob within at hj
    by_cases h1 : (fin s dr (o.take (k + 1))).2 ≤ (jb s x).due
    · rw [worT_yes hx h1]; omega
    · rw [worT_no hx h1]; omega
abbrev H45 (s : List Job) (o : List Int) (sl : Bool) (n : Nat) : Heap := [.box 24 (cS s) false, .box 34 [lN o] sl, .box 40 [.int .i64 (worT s (hiD s) o n), .int .i64 (worT s (loD s) o n)] false, .box 65 (cS s) false]
noncomputable def rWorth (s : List Job) (o : List Int) : (Int × Int) × Int := if opn s (isOrd s.length o) = 0 then ((wor s (hiD s) o, wor s (loD s) o), 0) else ((0, 0), opn s (isOrd s.length o))
set_option maxHeartbeats 2000000 in
theorem c45 (s : List Job) (o : List Int) (hol : o.length ≤ 1000000) (hI : ∀ n, n ∈ o → I64 n) : PC Try.prog 45 [hS s, lN o] (.tup [.agg [.int .i64 (rWorth s o).1.1, .int .i64 (rWorth s o).1.2], .int .i64 (rWorth s o).2]) := by
  have h65 := c65b s o 89 (isOrd s.length o) (c89 s o hol hI).dec
  by_cases h0 : opn s (isOrd s.length o) = 0
  · obtain ⟨hv, ho⟩ := (show _ ∧ _ from by rw [← opn0]; exact h0)
    rw [show rWorth s o = ((wor s (hiD s) o, wor s (loD s) o), 0) from by rw [rWorth, if_pos h0]]
    have hon := ho.on
    refine PC.body Try.func45 (by kernel_rfl) rfl (by simp [Try.f45]) rfl ?_
    simp only [Try.f45]
    intro hlen
    simp only [go_sem, List.length_map, and_true, true_and] at hlen
    refine CV.run ?_
    (repeat' (first | ((first | with_reducible refine vcG_split ?_ ?_ | with_reducible refine vcIf_split ?_ ?_ | with_reducible refine vcQ_split ?_ ?_ | with_reducible refine vcDG_split ?_ ?_) <;> intro hb <;> (try rw [hb]) <;> (try simp only [Bool.and_eq_true, Bool.or_eq_true, dtrue, dfalse, Bool.not_eq_true', Bool.not_eq_false', Bool.and_eq_false_iff, Bool.or_eq_false_iff, Bool.not_true, Bool.not_false] at hb) <;> (try simp only [within] at hb) <;> try (simp only [go_sem, h0])) | refine And.intro (by (first | exact trivial | (simp only [I64]; omega) | omega)) ?_ | (first | refine vcP_bub 1 rfl (by (simp only [go_sem, h0])) (vcP_pure (h65) rfl (by first | rfl | (simp only [go_sem, h0, AV.pureL, AV.pure, Bool.and_self, false_and, if_false])) (by (simp only [go_sem, h0, false_and, if_false])) ?_) | (refine vcP_pure (c90 _ _) rfl ?_ ?_ ?_; (focus (first | rfl | ((simp only [go_sem, h0, AV.pureL, AV.pure, pureL_mapI, Bool.and_self]) <;> fail))); (focus (first | ((simp only [go_sem, h0]) <;> fail) | rfl))) | (refine dCallP_pure (c90 _ _) rfl ?_ ?_ ?_; (focus (first | rfl | ((simp only [go_sem, h0, AV.pureL, AV.pure, pureL_mapI, Bool.and_self]) <;> fail))); (focus (first | ((simp only [go_sem, h0]) <;> fail) | rfl))) | (refine dCallC_pure (c90 _ _) rfl ?_ ?_ ?_; (focus (first | rfl | ((simp only [go_sem, h0, AV.pureL, AV.pure, pureL_mapI, Bool.and_self]) <;> fail))); (focus (first | ((simp only [go_sem, h0]) <;> fail) | rfl))) | refine dCallC_safe (c90 _ _) rfl rfl (by (simp only [go_sem, h0])) ?_ | refine vcP_safe (c90 _ _) rfl rfl (by (simp only [go_sem, h0])) ?_ | refine dCallP_safe (c90 _ _) rfl rfl ?_) | (simp only [go_sem, h0])))
    rw [vc_range_eq]
    refine CV.wn (st' := ⟨[(22, .fn 102 [.pp [lN o], .pp (cS s)]), (4, .lp 2 0), (5, .int .i64 0), (6, .lp 3 0)], H45 s o true 0⟩) (.base (by (first | exact wk_same (by (simp only [go_sem, Int.natCast_add, Int.natCast_one, Int.natCast_zero, Int.cast_ofNat_Int, worT])) | exact wk_drop (by (simp only [go_sem, Int.natCast_add, Int.natCast_one, Int.natCast_zero, Int.cast_ofNat_Int, worT])) (by (simp only [go_sem, Int.natCast_add, Int.natCast_one, Int.natCast_zero, Int.cast_ofNat_Int, worT])) (by (simp only [go_sem, Int.natCast_add, Int.natCast_one, Int.natCast_zero, Int.cast_ofNat_Int, worT])) (by (simp only [go_sem, Int.natCast_add, Int.natCast_one, Int.natCast_zero, Int.cast_ofNat_Int, worT])) (by (simp only [go_sem, Int.natCast_add, Int.natCast_one, Int.natCast_zero, Int.cast_ofNat_Int, worT]))))) ?_
    refine CV.rangeP rfl (by (simp only [go_sem])) (H45 s o true o.length) rfl (by (simp only [go_sem])) (by (simp only [go_sem])) (fun l => ?_) ?_
    · refine h102 s hv o hon hol 4 (H45 s o true) (fun _ => rfl) l _ _ _ _ _ (fun n x own hx => ?_)
      refine HCY.body2 (by omega) (by omega) rfl (by (simp only [go_sem])) (by (simp only [go_sem])) rfl rfl ?_
      have hnl := (List.getElem?_eq_some_iff.1 hx).1
      have hw := hon x (List.mem_of_getElem? hx)
      have hjb := jb_at hw
      have hj := hv.jb hw
      unfold okJob within at hj
      have hw' := hw
      unfold within at hw'
      have hx0 : x < s.length := by omega
      have b1 := worT_bounds hv (dr := hiD s) hon n (by omega)
      have b2 := worT_bounds hv (dr := loD s) hon n (by omega)
      have hlh := lo_le_hi hv (l := o.take (n + 1)) fun y hy => hon y (List.mem_of_mem_take hy)
      by_cases c1 : (fin s (hiD s) (o.take (n + 1))).2 ≤ (jb s x).due
      · have e1 := worT_yes (dr := hiD s) hx c1
        have e2 := worT_yes (dr := loD s) hx (Int.le_trans hlh c1)
        (repeat' (first | ((first | with_reducible refine vcG_split ?_ ?_ | with_reducible refine vcIf_split ?_ ?_ | with_reducible refine vcQ_split ?_ ?_ | with_reducible refine vcDG_split ?_ ?_) <;> intro hb <;> (try rw [hb]) <;> (try simp only [Bool.and_eq_true, Bool.or_eq_true, dtrue, dfalse, Bool.not_eq_true', Bool.not_eq_false', Bool.and_eq_false_iff, Bool.or_eq_false_iff, Bool.not_true, Bool.not_false] at hb) <;> (try simp only [within] at hb) <;> try (simp only [go_sem, c1, hjb, hx0, encJ])) | refine And.intro (by (first | exact trivial | (simp only [I64]; omega) | omega)) ?_ | fail | (simp only [go_sem, c1, hjb, hx0, encJ])))
        exact .base (by (first | exact wk_same (by (simp only [go_sem, Int.natCast_add, Int.natCast_one, Int.natCast_zero, Int.cast_ofNat_Int, e1, e2])) | exact wk_drop (by (simp only [go_sem, Int.natCast_add, Int.natCast_one, Int.natCast_zero, Int.cast_ofNat_Int, e1, e2])) (by (simp only [go_sem, Int.natCast_add, Int.natCast_one, Int.natCast_zero, Int.cast_ofNat_Int, e1, e2])) (by (simp only [go_sem, Int.natCast_add, Int.natCast_one, Int.natCast_zero, Int.cast_ofNat_Int, e1, e2])) (by (simp only [go_sem, Int.natCast_add, Int.natCast_one, Int.natCast_zero, Int.cast_ofNat_Int, e1, e2])) (by (simp only [go_sem, Int.natCast_add, Int.natCast_one, Int.natCast_zero, Int.cast_ofNat_Int, e1, e2]))))
      · have e1 := worT_no (dr := hiD s) hx c1
        by_cases c2 : (fin s (loD s) (o.take (n + 1))).2 ≤ (jb s x).due
        · have e2 := worT_yes (dr := loD s) hx c2
          (repeat' (first | ((first | with_reducible refine vcG_split ?_ ?_ | with_reducible refine vcIf_split ?_ ?_ | with_reducible refine vcQ_split ?_ ?_ | with_reducible refine vcDG_split ?_ ?_) <;> intro hb <;> (try rw [hb]) <;> (try simp only [Bool.and_eq_true, Bool.or_eq_true, dtrue, dfalse, Bool.not_eq_true', Bool.not_eq_false', Bool.and_eq_false_iff, Bool.or_eq_false_iff, Bool.not_true, Bool.not_false] at hb) <;> (try simp only [within] at hb) <;> try (simp only [go_sem, c1, c2, hjb, hx0, encJ])) | refine And.intro (by (first | exact trivial | (simp only [I64]; omega) | omega)) ?_ | fail | (simp only [go_sem, c1, c2, hjb, hx0, encJ])))
          exact .base (by (first | exact wk_same (by (simp only [go_sem, Int.natCast_add, Int.natCast_one, Int.natCast_zero, Int.cast_ofNat_Int, e1, e2])) | exact wk_drop (by (simp only [go_sem, Int.natCast_add, Int.natCast_one, Int.natCast_zero, Int.cast_ofNat_Int, e1, e2])) (by (simp only [go_sem, Int.natCast_add, Int.natCast_one, Int.natCast_zero, Int.cast_ofNat_Int, e1, e2])) (by (simp only [go_sem, Int.natCast_add, Int.natCast_one, Int.natCast_zero, Int.cast_ofNat_Int, e1, e2])) (by (simp only [go_sem, Int.natCast_add, Int.natCast_one, Int.natCast_zero, Int.cast_ofNat_Int, e1, e2])) (by (simp only [go_sem, Int.natCast_add, Int.natCast_one, Int.natCast_zero, Int.cast_ofNat_Int, e1, e2]))))
        · have e2 := worT_no (dr := loD s) hx c2
          (repeat' (first | ((first | with_reducible refine vcG_split ?_ ?_ | with_reducible refine vcIf_split ?_ ?_ | with_reducible refine vcQ_split ?_ ?_ | with_reducible refine vcDG_split ?_ ?_) <;> intro hb <;> (try rw [hb]) <;> (try simp only [Bool.and_eq_true, Bool.or_eq_true, dtrue, dfalse, Bool.not_eq_true', Bool.not_eq_false', Bool.and_eq_false_iff, Bool.or_eq_false_iff, Bool.not_true, Bool.not_false] at hb) <;> (try simp only [within] at hb) <;> try (simp only [go_sem, c1, c2, hjb, hx0, encJ])) | refine And.intro (by (first | exact trivial | (simp only [I64]; omega) | omega)) ?_ | fail | (simp only [go_sem, c1, c2, hjb, hx0, encJ])))
          exact .base (by (first | exact wk_same (by (simp only [go_sem, Int.natCast_add, Int.natCast_one, Int.natCast_zero, Int.cast_ofNat_Int, e1, e2])) | exact wk_drop (by (simp only [go_sem, Int.natCast_add, Int.natCast_one, Int.natCast_zero, Int.cast_ofNat_Int, e1, e2])) (by (simp only [go_sem, Int.natCast_add, Int.natCast_one, Int.natCast_zero, Int.cast_ofNat_Int, e1, e2])) (by (simp only [go_sem, Int.natCast_add, Int.natCast_one, Int.natCast_zero, Int.cast_ofNat_Int, e1, e2])) (by (simp only [go_sem, Int.natCast_add, Int.natCast_one, Int.natCast_zero, Int.cast_ofNat_Int, e1, e2])) (by (simp only [go_sem, Int.natCast_add, Int.natCast_one, Int.natCast_zero, Int.cast_ofNat_Int, e1, e2]))))
    · (repeat' (first | ((first | with_reducible refine vcG_split ?_ ?_ | with_reducible refine vcIf_split ?_ ?_ | with_reducible refine vcQ_split ?_ ?_ | with_reducible refine vcDG_split ?_ ?_) <;> intro hb <;> (try rw [hb]) <;> (try simp only [Bool.and_eq_true, Bool.or_eq_true, dtrue, dfalse, Bool.not_eq_true', Bool.not_eq_false', Bool.and_eq_false_iff, Bool.or_eq_false_iff, Bool.not_true, Bool.not_false] at hb) <;> (try simp only [within] at hb) <;> try (simp only [go_sem, wor])) | refine And.intro (by (first | exact trivial | (simp only [I64]; omega) | omega)) ?_ | fail | (simp only [go_sem, wor])))
  · rw [show rWorth s o = ((0, 0), opn s (isOrd s.length o)) from by rw [rWorth, if_neg h0]]
    refine PC.body Try.func45 (by kernel_rfl) rfl (by simp [Try.f45]) rfl ?_
    simp only [Try.f45]
    intro hlen
    simp only [go_sem, List.length_map, and_true, true_and] at hlen
    refine CV.run ?_
    (repeat' (first | ((first | with_reducible refine vcG_split ?_ ?_ | with_reducible refine vcIf_split ?_ ?_ | with_reducible refine vcQ_split ?_ ?_ | with_reducible refine vcDG_split ?_ ?_) <;> intro hb <;> (try rw [hb]) <;> (try simp only [Bool.and_eq_true, Bool.or_eq_true, dtrue, dfalse, Bool.not_eq_true', Bool.not_eq_false', Bool.and_eq_false_iff, Bool.or_eq_false_iff, Bool.not_true, Bool.not_false] at hb) <;> (try simp only [within] at hb) <;> try (simp only [go_sem, h0])) | refine And.intro (by (first | exact trivial | (simp only [I64]; omega) | omega)) ?_ | (first | refine vcP_bub 1 rfl (by (simp only [go_sem, h0])) (vcP_pure (h65) rfl (by first | rfl | (simp only [go_sem, h0, AV.pureL, AV.pure, Bool.and_self, false_and, if_false])) (by (simp only [go_sem, h0, false_and, if_false])) ?_)) | (simp only [go_sem, h0])))
def sjT (s : List Job) (o : List Int) : Nat → Nat
  | 0 => 0
  | k + 1 => if (fin s (hiD s) (o.take (k + 1))).2 ≤ (jb s (gv o k)).due then sjT s o k ||| 2 ^ (gv o k).toNat else sjT s o k
def snT (s : List Job) (o : List Int) : Nat → Int
  | 0 => 0
  | k + 1 => snT s o k + if (fin s (hiD s) (o.take (k + 1))).2 ≤ (jb s (gv o k)).due then 1 else 0
theorem sjT_yes {s : List Job} {o : List Int} {k : Nat} {x : Int} (hx : o[k]? = some x) (h : (fin s (hiD s) (o.take (k + 1))).2 ≤ (jb s x).due) : sjT s o (k + 1) = sjT s o k ||| 2 ^ x.toNat := by
  simp only [sjT]; rw [gv_nat hx, if_pos h]
theorem sjT_no {s : List Job} {o : List Int} {k : Nat} {x : Int} (hx : o[k]? = some x) (h : ¬ (fin s (hiD s) (o.take (k + 1))).2 ≤ (jb s x).due) : sjT s o (k + 1) = sjT s o k := by
  simp only [sjT]; rw [gv_nat hx, if_neg h]
theorem snT_yes {s : List Job} {o : List Int} {k : Nat} {x : Int} (hx : o[k]? = some x) (h : (fin s (hiD s) (o.take (k + 1))).2 ≤ (jb s x).due) : snT s o (k + 1) = snT s o k + 1 := by
  simp only [snT]; rw [gv_nat hx, if_pos h]
theorem snT_no {s : List Job} {o : List Int} {k : Nat} {x : Int} (hx : o[k]? = some x) (h : ¬ (fin s (hiD s) (o.take (k + 1))).2 ≤ (jb s x).due) : snT s o (k + 1) = snT s o k := by
  simp only [snT]; rw [gv_nat hx, if_neg h]; omega
theorem snT_bounds {s : List Job} {o : List Int} : ∀ k : Nat, 0 ≤ snT s o k ∧ snT s o k ≤ k
  | 0 => by simp [snT]
  | k + 1 => by
    have ih := snT_bounds (s := s) (o := o) k
    simp only [snT]
    split <;> omega
theorem sjT_lt {s : List Job} (hv : valid s) {o : List Int} (ho : onJ s o) : ∀ k : Nat, k ≤ o.length → sjT s o k < 64
  | 0, _ => by simp [sjT]
  | k + 1, h => by
    have ih := sjT_lt hv ho k (by omega)
    obtain ⟨x, hx⟩ := get_of (l := o) (j := k) (by omega)
    have hw := ho x (List.mem_of_getElem? hx)
    unfold within at hw
    have h6 := hv.1
    by_cases h1 : (fin s (hiD s) (o.take (k + 1))).2 ≤ (jb s x).due
    · rw [sjT_yes hx h1]
      exact Nat.or_lt_two_pow (n := 6) ih (Nat.pow_lt_pow_right (by omega) (by omega))
    · rw [sjT_no hx h1]; exact ih
abbrev H70 (s : List Job) (o : List Int) (n : Nat) : Heap := [.box 65 (cS s) false, .box 3 [.int .i64 (worT s (hiD s) o n)] false, .box 3 [.int .i64 (sjT s o n : Nat)] false, .box 3 [.int .i64 (snT s o n)] false]
set_option maxHeartbeats 2000000 in
theorem c70 (s : List Job) (hv : valid s) (o : List Int) (hon : onJ s o) (hol : o.length ≤ 1000000) : PC Try.prog 70 [hS s, lN o] (.tup [.int .i64 (wor s (hiD s) o), .int .i64 (sjT s o o.length : Nat), .int .i64 (snT s o o.length)]) := by
  refine PC.body Try.func70 (by kernel_rfl) rfl (by simp [Try.f70]) rfl ?_
  simp only [Try.f70]
  intro hlen
  simp only [go_sem, List.length_map, and_true, true_and] at hlen
  refine CV.run ?_
  (repeat' (first | ((first | with_reducible refine vcG_split ?_ ?_ | with_reducible refine vcIf_split ?_ ?_ | with_reducible refine vcQ_split ?_ ?_ | with_reducible refine vcDG_split ?_ ?_) <;> intro hb <;> (try rw [hb]) <;> (try simp only [Bool.and_eq_true, Bool.or_eq_true, dtrue, dfalse, Bool.not_eq_true', Bool.not_eq_false', Bool.and_eq_false_iff, Bool.or_eq_false_iff, Bool.not_true, Bool.not_false] at hb) <;> (try simp only [within] at hb) <;> try (simp only [go_sem])) | refine And.intro (by (first | exact trivial | (simp only [I64]; omega) | omega)) ?_ | (with_reducible rw [vc_draw_eq]; first | refine CV.draw (id := 7) [(0, 0), (0, 0), (0, 0), (0, 0), (0, 0)] mixed rfl (by kernel_rfl) ?_ | refine CV.draw (id := 9) [(0, 0), (0, 1), (0, 2), (0, 0), (0, 0), (0, 0)] mixed rfl (by kernel_rfl) ?_) | (first | (refine vcP_pure (c90 _ _) rfl ?_ ?_ ?_; (focus (first | rfl | ((simp only [go_sem, AV.pureL, AV.pure, pureL_mapI, Bool.and_self]) <;> fail))); (focus (first | ((simp only [go_sem]) <;> fail) | rfl))) | (refine dCallP_pure (c90 _ _) rfl ?_ ?_ ?_; (focus (first | rfl | ((simp only [go_sem, AV.pureL, AV.pure, pureL_mapI, Bool.and_self]) <;> fail))); (focus (first | ((simp only [go_sem]) <;> fail) | rfl))) | (refine dCallC_pure (c90 _ _) rfl ?_ ?_ ?_; (focus (first | rfl | ((simp only [go_sem, AV.pureL, AV.pure, pureL_mapI, Bool.and_self]) <;> fail))); (focus (first | ((simp only [go_sem]) <;> fail) | rfl))) | refine dCallC_safe (c90 _ _) rfl rfl (by (simp only [go_sem])) ?_ | refine vcP_safe (c90 _ _) rfl rfl (by (simp only [go_sem])) ?_ | refine dCallP_safe (c90 _ _) rfl rfl ?_) | (simp only [go_sem])))
  rw [vc_range_eq]
  refine CV.wn (st' := ⟨[(12, .fn 102 [.pp [lN o], .pp (cS s)]), (2, .lp 0 0), (4, .lp 1 0), (5, .lp 2 0), (6, .lp 3 0)], H70 s o 0⟩) (.base (by (first | exact wk_same (by (simp only [go_sem, Int.natCast_add, Int.natCast_one, Int.natCast_zero, Int.cast_ofNat_Int, worT, sjT, snT])) | exact wk_drop (by (simp only [go_sem, Int.natCast_add, Int.natCast_one, Int.natCast_zero, Int.cast_ofNat_Int, worT, sjT, snT])) (by (simp only [go_sem, Int.natCast_add, Int.natCast_one, Int.natCast_zero, Int.cast_ofNat_Int, worT, sjT, snT])) (by (simp only [go_sem, Int.natCast_add, Int.natCast_one, Int.natCast_zero, Int.cast_ofNat_Int, worT, sjT, snT])) (by (simp only [go_sem, Int.natCast_add, Int.natCast_one, Int.natCast_zero, Int.cast_ofNat_Int, worT, sjT, snT])) (by (simp only [go_sem, Int.natCast_add, Int.natCast_one, Int.natCast_zero, Int.cast_ofNat_Int, worT, sjT, snT]))))) ?_
  refine CV.rangeP rfl (by (simp only [go_sem])) (H70 s o o.length) rfl (by (simp only [go_sem])) (by (simp only [go_sem])) (fun l => ?_) ?_
  · refine h102 s hv o hon hol 4 (H70 s o) (fun _ => rfl) l _ _ _ _ _ (fun n x own hx => ?_)
    refine HCY.body2 (by omega) (by omega) rfl (by (simp only [go_sem])) (by (simp only [go_sem])) rfl rfl ?_
    have hnl := (List.getElem?_eq_some_iff.1 hx).1
    have hw := hon x (List.mem_of_getElem? hx)
    have hjb := jb_at hw
    have hj := hv.jb hw
    unfold okJob within at hj
    have hw' := hw
    unfold within at hw'
    have hx0 : x < s.length := by omega
    have h6 := hv.1
    have b1 := worT_bounds hv (dr := hiD s) hon n (by omega)
    have b2 := snT_bounds (s := s) (o := o) n
    have b3 := sjT_lt hv hon n (by omega)
    by_cases c1 : (fin s (hiD s) (o.take (n + 1))).2 ≤ (jb s x).due
    · have e1 := worT_yes (dr := hiD s) hx c1
      have e2 := snT_yes hx c1
      have e3 := sjT_yes hx c1
      obtain ⟨p, hp⟩ : ∃ p : Nat, p = 2 ^ x.toNat := ⟨_, rfl⟩
      have hp2 : (1 : Int) * 2 ^ x.toNat = (p : Int) := by rw [hp]; simp
      have hp3 : p ≤ 2 ^ 6 := by rw [hp]; exact Nat.pow_le_pow_right (by omega) (by omega)
      rw [← hp] at e3
      (repeat' (first | ((first | with_reducible refine vcG_split ?_ ?_ | with_reducible refine vcIf_split ?_ ?_ | with_reducible refine vcQ_split ?_ ?_ | with_reducible refine vcDG_split ?_ ?_) <;> intro hb <;> (try rw [hb]) <;> (try simp only [Bool.and_eq_true, Bool.or_eq_true, dtrue, dfalse, Bool.not_eq_true', Bool.not_eq_false', Bool.and_eq_false_iff, Bool.or_eq_false_iff, Bool.not_true, Bool.not_false] at hb) <;> (try simp only [within] at hb) <;> try (simp only [go_sem, c1, hjb, hx0, encJ, hp2, Int.toNat_natCast])) | refine And.intro (by (first | exact trivial | (simp only [I64]; omega) | omega)) ?_ | (with_reducible rw [vc_draw_eq]; first | refine CV.draw (id := 7) [(0, 0), (0, 0), (0, 0), (0, 0), (0, 0)] mixed rfl (by kernel_rfl) ?_ | refine CV.draw (id := 9) [(0, 0), (0, 1), (0, 2), (0, 0), (0, 0), (0, 0)] mixed rfl (by kernel_rfl) ?_) | fail | (simp only [go_sem, c1, hjb, hx0, encJ, hp2, Int.toNat_natCast])))
      exact .base (by (first | exact wk_same (by (simp only [go_sem, Int.natCast_add, Int.natCast_one, Int.natCast_zero, Int.cast_ofNat_Int, e1, e2, e3])) | exact wk_drop (by (simp only [go_sem, Int.natCast_add, Int.natCast_one, Int.natCast_zero, Int.cast_ofNat_Int, e1, e2, e3])) (by (simp only [go_sem, Int.natCast_add, Int.natCast_one, Int.natCast_zero, Int.cast_ofNat_Int, e1, e2, e3])) (by (simp only [go_sem, Int.natCast_add, Int.natCast_one, Int.natCast_zero, Int.cast_ofNat_Int, e1, e2, e3])) (by (simp only [go_sem, Int.natCast_add, Int.natCast_one, Int.natCast_zero, Int.cast_ofNat_Int, e1, e2, e3])) (by (simp only [go_sem, Int.natCast_add, Int.natCast_one, Int.natCast_zero, Int.cast_ofNat_Int, e1, e2, e3]))))
    · have e1 := worT_no (dr := hiD s) hx c1
      have e2 := snT_no hx c1
      have e3 := sjT_no hx c1
      (repeat' (first | ((first | with_reducible refine vcG_split ?_ ?_ | with_reducible refine vcIf_split ?_ ?_ | with_reducible refine vcQ_split ?_ ?_ | with_reducible refine vcDG_split ?_ ?_) <;> intro hb <;> (try rw [hb]) <;> (try simp only [Bool.and_eq_true, Bool.or_eq_true, dtrue, dfalse, Bool.not_eq_true', Bool.not_eq_false', Bool.and_eq_false_iff, Bool.or_eq_false_iff, Bool.not_true, Bool.not_false] at hb) <;> (try simp only [within] at hb) <;> try (simp only [go_sem, c1, hjb, hx0, encJ])) | refine And.intro (by (first | exact trivial | (simp only [I64]; omega) | omega)) ?_ | (with_reducible rw [vc_draw_eq]; first | refine CV.draw (id := 7) [(0, 0), (0, 0), (0, 0), (0, 0), (0, 0)] mixed rfl (by kernel_rfl) ?_ | refine CV.draw (id := 9) [(0, 0), (0, 1), (0, 2), (0, 0), (0, 0), (0, 0)] mixed rfl (by kernel_rfl) ?_) | fail | (simp only [go_sem, c1, hjb, hx0, encJ])))
      exact .base (by (first | exact wk_same (by (simp only [go_sem, Int.natCast_add, Int.natCast_one, Int.natCast_zero, Int.cast_ofNat_Int, e1, e2, e3])) | exact wk_drop (by (simp only [go_sem, Int.natCast_add, Int.natCast_one, Int.natCast_zero, Int.cast_ofNat_Int, e1, e2, e3])) (by (simp only [go_sem, Int.natCast_add, Int.natCast_one, Int.natCast_zero, Int.cast_ofNat_Int, e1, e2, e3])) (by (simp only [go_sem, Int.natCast_add, Int.natCast_one, Int.natCast_zero, Int.cast_ofNat_Int, e1, e2, e3])) (by (simp only [go_sem, Int.natCast_add, Int.natCast_one, Int.natCast_zero, Int.cast_ofNat_Int, e1, e2, e3])) (by (simp only [go_sem, Int.natCast_add, Int.natCast_one, Int.natCast_zero, Int.cast_ofNat_Int, e1, e2, e3]))))
  · (repeat' (first | ((first | with_reducible refine vcG_split ?_ ?_ | with_reducible refine vcIf_split ?_ ?_ | with_reducible refine vcQ_split ?_ ?_ | with_reducible refine vcDG_split ?_ ?_) <;> intro hb <;> (try rw [hb]) <;> (try simp only [Bool.and_eq_true, Bool.or_eq_true, dtrue, dfalse, Bool.not_eq_true', Bool.not_eq_false', Bool.and_eq_false_iff, Bool.or_eq_false_iff, Bool.not_true, Bool.not_false] at hb) <;> (try simp only [within] at hb) <;> try (simp only [go_sem, wor])) | refine And.intro (by (first | exact trivial | (simp only [I64]; omega) | omega)) ?_ | (with_reducible rw [vc_draw_eq]; first | refine CV.draw (id := 7) [(0, 0), (0, 0), (0, 0), (0, 0), (0, 0)] mixed rfl (by kernel_rfl) ?_ | refine CV.draw (id := 9) [(0, 0), (0, 1), (0, 2), (0, 0), (0, 0), (0, 0)] mixed rfl (by kernel_rfl) ?_) | fail | (simp only [go_sem, wor])))
end Go.Proofs.Ytjjlcjibhjmhmaa

