/- Contracts of functions of the given program, without a condition beyond those that each theorem states; they lead to the given statement. -/
import Derived.Test.YtjjlcjibhjmhmaaU05i
set_option linter.unusedSimpArgs false
set_option linter.unusedVariables false
set_option maxRecDepth 100000
namespace Go.Fl
open Go.RowKit
theorem PC.any2 {P : Program} {g : FuncId} {a : List AV} {v w : AV} (h : PC P g a (.tup [v, w])) : PC P g a (.tup [v, .any]) := by
  unfold PC at h ⊢
  refine ⟨h.1, fun κ cargs hc hH hv => (h.2 κ cargs hc hH hv).mono ?_⟩
  rintro e w' ⟨r, c, κ', e1, ⟨rfl, q⟩, e2, k1, k2, k3⟩
  obtain ⟨arr, e3, c1, _, e4, h1, c2, _, e5, h2, h3⟩ := k3
  exact ⟨_, c, κ', e1, ⟨rfl, q⟩, e2, k1, k2, arr, e3, c1, _, e4, h1, c2, _, e5, trivial, h3⟩
end Go.Fl
namespace Go.Proofs.Ytjjlcjibhjmhmaa
open Go Go.Fl
open Classical
theorem h76 (s : List Job) (hl : s.length ≤ 1000) : HCH Try.prog 76 [.lst false 6 (s.map encJ)] [] fun r H' => r = .row 0 s.length ∧ H' = [.row 42 6 (s.map encJ) false] := by
  refine HCH.bodyN Try.func76 (by kernel_rfl) rfl (by simp [Try.f76]) ?_
  simp only [Try.f76]
  refine CV.run ?_
  (repeat' (first | ((first | with_reducible refine vcG_split ?_ ?_ | with_reducible refine vcIf_split ?_ ?_ | with_reducible refine vcQ_split ?_ ?_ | with_reducible refine vcDG_split ?_ ?_) <;> intro hb <;> (try rw [hb]) <;> (try simp only [Bool.and_eq_true, Bool.or_eq_true, dtrue, dfalse, Bool.not_eq_true', Bool.not_eq_false', Bool.and_eq_false_iff, Bool.or_eq_false_iff, Bool.not_true, Bool.not_false] at hb) <;> (try simp only [within] at hb) <;> try (simp only [go_sem])) | refine And.intro (by (first | exact trivial | (simp only [I64]; omega) | omega)) ?_ | fail | (simp only [go_sem])))
  · have : s = [] := by simpa using hb
    subst this
    exact ⟨_, .nilE 2 42 6 (by (simp only [go_sem])) (by omega) (.base (wk_same (env' := [(2, .row 0 0)]) (by (simp only [go_sem])))), rfl, rfl⟩
  · exact ⟨⟨by omega, by omega, .inl trivial⟩, _, .base (wk_same (env' := [(2, .row 0 s.length)]) (by (simp only [go_sem]))), rfl, rfl⟩
def upH (j : Job) (h : Int) : Job := ⟨j.beat, j.low, h, j.pour, j.due, j.worth⟩
def drs (s : List Job) (x h : Int) : List Job := s.set x.toNat (upH (jb s x) h)
theorem drs_len {s : List Job} {x h : Int} : (drs s x h).length = s.length := by simp [drs]
theorem drs_self {s : List Job} {x : Int} (hw : within x 0 (s.length - 1)) : drs s x (jb s x).high = s := by
  have h1 := jb_at hw
  apply List.ext_getElem?
  intro i
  unfold drs
  rw [List.getElem?_set]
  by_cases e : x.toNat = i
  · subst e
    rw [if_pos rfl, if_pos (by have := (List.getElem?_eq_some_iff.1 h1).1; exact this), h1]
    rfl
  · rw [if_neg e]
theorem drs_valid {s : List Job} (hv : valid s) {x h : Int} (hw : within x 0 (s.length - 1)) (hh : (jb s x).low ≤ h ∧ h ≤ 9) : valid (drs s x h) := by
  refine ⟨by rw [drs_len]; exact hv.1, fun j hj => ?_⟩
  have h1 := hv.jb hw
  rcases List.mem_or_eq_of_mem_set hj with q | q
  · exact hv.2 j q
  · rw [q]; unfold okJob within at h1 ⊢; unfold upH; simp only; omega
theorem drs_drs {s : List Job} {x h h' : Int} : (drs s x h').set x.toNat (upH (jb s x) h) = drs s x h := by unfold drs; rw [List.set_set]
def waitT (s : List Job) (x : Int) : Nat → Int
  | 0 => 0
  | k + 1 => if bestM s ≤ bestM (drs s x ((k + 1 : Nat) : Int)) then ((k + 1 : Nat) : Int) else waitT s x k
theorem waitT_yes {s : List Job} {x : Int} {k : Nat} (hk : k ≤ 9) (h : bestM s ≤ bestM (drs s x (9 - (k : Int)))) : waitT s x (9 - k) = 9 - (k : Int) := by
  rcases Nat.lt_or_ge k 9 with h9 | h9
  · obtain ⟨m, hm⟩ : ∃ m, 9 - k = m + 1 := ⟨8 - k, by omega⟩
    rw [hm]
    have e : 9 - (k : Int) = ((m + 1 : Nat) : Int) := by omega
    rw [e] at h
    simp only [waitT]
    rw [if_pos h]; omega
  · have : k = 9 := by omega
    subst this; rfl
theorem waitT_no {s : List Job} {x : Int} {k : Nat} (hk : k < 9) (h : ¬ bestM s ≤ bestM (drs s x (9 - (k : Int)))) : waitT s x (9 - k) = waitT s x (9 - (k + 1)) := by
  obtain ⟨m, hm⟩ : ∃ m, 9 - k = m + 1 := ⟨8 - k, by omega⟩
  have hm2 : 9 - (k + 1) = m := by omega
  rw [hm, hm2]
  have e : 9 - (k : Int) = ((m + 1 : Nat) : Int) := by omega
  rw [e] at h
  simp only [waitT]
  rw [if_neg h]
noncomputable def rWait (s : List Job) (x : Int) : Int × Int := if opn s (within x 0 (s.length - 1)) = 0 then (waitT s x 9, 0) else (0, opn s (within x 0 (s.length - 1)))
abbrev H21 (s : List Job) (x h : Int) : Heap := [.box 24 (cS s) false, .box 3 [.int .i64 x] true, .box 65 [.row 3 s.length] false, .row 42 6 ((drs s x h).map encJ) false]
set_option maxHeartbeats 2000000 in
theorem c21 (s : List Job) (x : Int) : PC Try.prog 21 [hS s, .int .i64 x] (.tup [.int .i64 (rWait s x).1, .int .i64 (rWait s x).2]) := by
  have h65 := c65c s x 75 (within x 0 (s.length - 1)) (c75 s x).dec
  by_cases h0 : opn s (within x 0 (s.length - 1)) = 0
  · obtain ⟨hv, hw⟩ := (show _ ∧ _ from by rw [← opn0]; exact h0)
    have h6 := hv.1
    have hw' := hw
    unfold within at hw'
    have hj := hv.jb hw
    unfold okJob within at hj
    have h68 := c68 s hv
    change PC Try.prog 68 [hS s] (.tup [.int .i64 (bestM s), lN (bstS (swo s) (ords s)).2]) at h68
    rw [show rWait s x = (waitT s x 9, 0) from by rw [rWait, if_pos h0]]
    refine PC.body Try.func21 (by kernel_rfl) rfl (by simp [Try.f21]) rfl ?_
    simp only [Try.f21]
    intro hlen
    simp only [go_sem, List.length_map, and_true, true_and] at hlen
    refine CV.run ?_
    (repeat' (first | ((first | with_reducible refine vcG_split ?_ ?_ | with_reducible refine vcIf_split ?_ ?_ | with_reducible refine vcQ_split ?_ ?_ | with_reducible refine vcDG_split ?_ ?_) <;> intro hb <;> (try rw [hb]) <;> (try simp only [Bool.and_eq_true, Bool.or_eq_true, dtrue, dfalse, Bool.not_eq_true', Bool.not_eq_false', Bool.and_eq_false_iff, Bool.or_eq_false_iff, Bool.not_true, Bool.not_false] at hb) <;> (try simp only [within] at hb) <;> try (simp only [go_sem, h0])) | refine And.intro (by (first | exact trivial | (simp only [I64]; omega) | omega)) ?_ | (first | refine vcP_bub 1 rfl (by (simp only [go_sem, h0])) (vcP_pure (h65) rfl (by first | rfl | (simp only [go_sem, h0, AV.pureL, AV.pure, Bool.and_self, false_and, if_false])) (by (simp only [go_sem, h0, false_and, if_false])) ?_) | (refine vcP_pure (h68) rfl ?_ ?_ ?_; (focus (first | rfl | ((simp only [go_sem, h0, AV.pureL, AV.pure, pureL_mapI, Bool.and_self]) <;> fail))); (focus (first | ((simp only [go_sem, h0]) <;> fail) | rfl))) | (refine dCallP_pure (h68) rfl ?_ ?_ ?_; (focus (first | rfl | ((simp only [go_sem, h0, AV.pureL, AV.pure, pureL_mapI, Bool.and_self]) <;> fail))); (focus (first | ((simp only [go_sem, h0]) <;> fail) | rfl))) | (refine dCallC_pure (h68) rfl ?_ ?_ ?_; (focus (first | rfl | ((simp only [go_sem, h0, AV.pureL, AV.pure, pureL_mapI, Bool.and_self]) <;> fail))); (focus (first | ((simp only [go_sem, h0]) <;> fail) | rfl))) | refine dCallC_safe (h68) rfl rfl (by (simp only [go_sem, h0])) ?_ | refine vcP_safe (h68) rfl rfl (by (simp only [go_sem, h0])) ?_ | refine dCallP_safe (h68) rfl rfl ?_) | (simp only [go_sem, h0])))
    refine vcP_new (h76 s (by omega)) rfl ?_
    (repeat' (first | ((first | with_reducible refine vcG_split ?_ ?_ | with_reducible refine vcIf_split ?_ ?_ | with_reducible refine vcQ_split ?_ ?_ | with_reducible refine vcDG_split ?_ ?_) <;> intro hb <;> (try rw [hb]) <;> (try simp only [Bool.and_eq_true, Bool.or_eq_true, dtrue, dfalse, Bool.not_eq_true', Bool.not_eq_false', Bool.and_eq_false_iff, Bool.or_eq_false_iff, Bool.not_true, Bool.not_false] at hb) <;> (try simp only [within] at hb) <;> try (simp only [go_sem, List.map_cons, List.map_nil, List.cons_append, List.nil_append])) | refine And.intro (by (first | exact trivial | (simp only [I64]; omega) | omega)) ?_ | fail | (simp only [go_sem, List.map_cons, List.map_nil, List.cons_append, List.nil_append])))
    refine vc_fx (fun k h => ⟨[(10, .int .i64 (9 - (k : Int))), (3, .lp 1 0), (4, .int .i64 0), (5, .int .i64 0), (6, .lp 2 0), (8, .int .i64 (bestM s))], H21 s x h⟩) (9 - (jb s x).high).toNat (fun k h => waitT s x 9 = waitT s x (9 - k)) (jb s x).high (.base (by rw [H21, drs_self hw]; exact (by (first | exact wk_same (by (simp only [go_sem, Int.natCast_add, Int.natCast_one, Int.natCast_zero, Int.cast_ofNat_Int, Int.sub_zero])) | exact wk_drop (by (simp only [go_sem, Int.natCast_add, Int.natCast_one, Int.natCast_zero, Int.cast_ofNat_Int, Int.sub_zero])) (by (simp only [go_sem, Int.natCast_add, Int.natCast_one, Int.natCast_zero, Int.cast_ofNat_Int, Int.sub_zero])) (by (simp only [go_sem, Int.natCast_add, Int.natCast_one, Int.natCast_zero, Int.cast_ofNat_Int, Int.sub_zero])) (by (simp only [go_sem, Int.natCast_add, Int.natCast_one, Int.natCast_zero, Int.cast_ofNat_Int, Int.sub_zero])) (by (simp only [go_sem, Int.natCast_add, Int.natCast_one, Int.natCast_zero, Int.cast_ofNat_Int, Int.sub_zero])))))) rfl ?_
    intro k h hk hx
    have hkk : (jb s x).high ≤ 9 - (k : Int) ∧ 9 - (k : Int) ≤ 9 := by omega
    have hvd := drs_valid hv (h := 9 - (k : Int)) hw (by omega)
    have h68d := (c68 (drs s x (9 - (k : Int))) hvd).any2
    change PC Try.prog 68 [hS (drs s x (9 - (k : Int)))] (.tup [.int .i64 (bestM (drs s x (9 - (k : Int)))), .any]) at h68d
    have hxl : x < s.length := by omega
    have hget : (drs s x h)[x.toNat]? = some (upH (jb s x) h) := by unfold drs; rw [List.getElem?_set_self (by omega)]
    have hset : (List.map encJ (drs s x h)).set x.toNat (encJ (upH (jb s x) (9 - (k : Int)))) = List.map encJ (drs s x (9 - (k : Int))) := by rw [show drs s x (9 - (k : Int)) = (drs s x h).set x.toNat (upH (jb s x) (9 - (k : Int))) from drs_drs.symm, List.map_set]
    simp only [encJ, upH] at hset
    by_cases c1 : bestM s ≤ bestM (drs s x (9 - (k : Int)))
    · (repeat' (first | ((first | with_reducible refine vcG_split ?_ ?_ | with_reducible refine vcIf_split ?_ ?_ | with_reducible refine vcQ_split ?_ ?_ | with_reducible refine vcDG_split ?_ ?_) <;> intro hb <;> (try rw [hb]) <;> (try simp only [Bool.and_eq_true, Bool.or_eq_true, dtrue, dfalse, Bool.not_eq_true', Bool.not_eq_false', Bool.and_eq_false_iff, Bool.or_eq_false_iff, Bool.not_true, Bool.not_false] at hb) <;> (try simp only [within] at hb) <;> try (simp only [go_sem, c1, hget, hset, hxl, encJ, upH, drs_len])) | refine And.intro (by (first | exact trivial | (simp only [I64]; omega) | omega)) ?_ | (first | (refine vcP_pure (h68d) rfl ?_ ?_ ?_; (focus (first | rfl | ((simp only [go_sem, c1, hget, hset, hxl, encJ, upH, drs_len, AV.pureL, AV.pure, pureL_mapI, Bool.and_self]) <;> fail))); (focus (first | ((simp only [go_sem, c1, hget, hset, hxl, encJ, upH, drs_len]) <;> fail) | rfl))) | (refine dCallP_pure (h68d) rfl ?_ ?_ ?_; (focus (first | rfl | ((simp only [go_sem, c1, hget, hset, hxl, encJ, upH, drs_len, AV.pureL, AV.pure, pureL_mapI, Bool.and_self]) <;> fail))); (focus (first | ((simp only [go_sem, c1, hget, hset, hxl, encJ, upH, drs_len]) <;> fail) | rfl))) | (refine dCallC_pure (h68d) rfl ?_ ?_ ?_; (focus (first | rfl | ((simp only [go_sem, c1, hget, hset, hxl, encJ, upH, drs_len, AV.pureL, AV.pure, pureL_mapI, Bool.and_self]) <;> fail))); (focus (first | ((simp only [go_sem, c1, hget, hset, hxl, encJ, upH, drs_len]) <;> fail) | rfl))) | refine dCallC_safe (h68d) rfl rfl (by (simp only [go_sem, c1, hget, hset, hxl, encJ, upH, drs_len])) ?_ | refine vcP_safe (h68d) rfl rfl (by (simp only [go_sem, c1, hget, hset, hxl, encJ, upH, drs_len])) ?_ | refine dCallP_safe (h68d) rfl rfl ?_) | (simp only [go_sem, c1, hget, hset, hxl, encJ, upH, drs_len])))
      rw [hx, waitT_yes (by omega) c1]
    · (repeat' (first | ((first | with_reducible refine vcG_split ?_ ?_ | with_reducible refine vcIf_split ?_ ?_ | with_reducible refine vcQ_split ?_ ?_ | with_reducible refine vcDG_split ?_ ?_) <;> intro hb <;> (try rw [hb]) <;> (try simp only [Bool.and_eq_true, Bool.or_eq_true, dtrue, dfalse, Bool.not_eq_true', Bool.not_eq_false', Bool.and_eq_false_iff, Bool.or_eq_false_iff, Bool.not_true, Bool.not_false] at hb) <;> (try simp only [within] at hb) <;> try (simp only [go_sem, c1, hget, hset, hxl, encJ, upH, drs_len])) | refine And.intro (by (first | exact trivial | (simp only [I64]; omega) | omega)) ?_ | (first | (refine vcP_pure (h68d) rfl ?_ ?_ ?_; (focus (first | rfl | ((simp only [go_sem, c1, hget, hset, hxl, encJ, upH, drs_len, AV.pureL, AV.pure, pureL_mapI, Bool.and_self]) <;> fail))); (focus (first | ((simp only [go_sem, c1, hget, hset, hxl, encJ, upH, drs_len]) <;> fail) | rfl))) | (refine dCallP_pure (h68d) rfl ?_ ?_ ?_; (focus (first | rfl | ((simp only [go_sem, c1, hget, hset, hxl, encJ, upH, drs_len, AV.pureL, AV.pure, pureL_mapI, Bool.and_self]) <;> fail))); (focus (first | ((simp only [go_sem, c1, hget, hset, hxl, encJ, upH, drs_len]) <;> fail) | rfl))) | (refine dCallC_pure (h68d) rfl ?_ ?_ ?_; (focus (first | rfl | ((simp only [go_sem, c1, hget, hset, hxl, encJ, upH, drs_len, AV.pureL, AV.pure, pureL_mapI, Bool.and_self]) <;> fail))); (focus (first | ((simp only [go_sem, c1, hget, hset, hxl, encJ, upH, drs_len]) <;> fail) | rfl))) | refine dCallC_safe (h68d) rfl rfl (by (simp only [go_sem, c1, hget, hset, hxl, encJ, upH, drs_len])) ?_ | refine vcP_safe (h68d) rfl rfl (by (simp only [go_sem, c1, hget, hset, hxl, encJ, upH, drs_len])) ?_ | refine dCallP_safe (h68d) rfl rfl ?_) | (simp only [go_sem, c1, hget, hset, hxl, encJ, upH, drs_len])))
      have hkl : (k : Int) < 9 - (jb s x).high := by
        rcases Int.lt_or_le (k : Int) (9 - (jb s x).high) with q | q
        · exact q
        · exfalso
          apply c1
          rw [show 9 - (k : Int) = (jb s x).high from by omega, drs_self hw]
          exact Int.le_refl _
      exact ⟨9 - (k : Int), by omega, .base (by (first | exact wk_same (by (simp only [go_sem, Int.natCast_add, Int.natCast_one, Int.natCast_zero, Int.cast_ofNat_Int, Int.sub_sub])) | exact wk_drop (by (simp only [go_sem, Int.natCast_add, Int.natCast_one, Int.natCast_zero, Int.cast_ofNat_Int, Int.sub_sub])) (by (simp only [go_sem, Int.natCast_add, Int.natCast_one, Int.natCast_zero, Int.cast_ofNat_Int, Int.sub_sub])) (by (simp only [go_sem, Int.natCast_add, Int.natCast_one, Int.natCast_zero, Int.cast_ofNat_Int, Int.sub_sub])) (by (simp only [go_sem, Int.natCast_add, Int.natCast_one, Int.natCast_zero, Int.cast_ofNat_Int, Int.sub_sub])) (by (simp only [go_sem, Int.natCast_add, Int.natCast_one, Int.natCast_zero, Int.cast_ofNat_Int, Int.sub_sub])))), by rw [hx, waitT_no (by omega) c1]⟩
  · rw [show rWait s x = (0, opn s (within x 0 (s.length - 1))) from by rw [rWait, if_neg h0]]
    refine PC.body Try.func21 (by kernel_rfl) rfl (by simp [Try.f21]) rfl ?_
    simp only [Try.f21]
    intro hlen
    simp only [go_sem, List.length_map, and_true, true_and] at hlen
    refine CV.run ?_
    (repeat' (first | ((first | with_reducible refine vcG_split ?_ ?_ | with_reducible refine vcIf_split ?_ ?_ | with_reducible refine vcQ_split ?_ ?_ | with_reducible refine vcDG_split ?_ ?_) <;> intro hb <;> (try rw [hb]) <;> (try simp only [Bool.and_eq_true, Bool.or_eq_true, dtrue, dfalse, Bool.not_eq_true', Bool.not_eq_false', Bool.and_eq_false_iff, Bool.or_eq_false_iff, Bool.not_true, Bool.not_false] at hb) <;> (try simp only [within] at hb) <;> try (simp only [go_sem, h0])) | refine And.intro (by (first | exact trivial | (simp only [I64]; omega) | omega)) ?_ | (first | refine vcP_bub 1 rfl (by (simp only [go_sem, h0])) (vcP_pure (h65) rfl (by first | rfl | (simp only [go_sem, h0, AV.pureL, AV.pure, Bool.and_self, false_and, if_false])) (by (simp only [go_sem, h0, false_and, if_false])) ?_)) | (simp only [go_sem, h0])))
end Go.Proofs.Ytjjlcjibhjmhmaa

