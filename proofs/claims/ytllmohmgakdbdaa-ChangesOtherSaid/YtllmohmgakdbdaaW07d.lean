/- Contracts of functions of the given program, without a condition beyond those that each theorem states; they lead to the given statement. -/
import Derived.Test.YtllmohmgakdbdaaW07c
set_option linter.unusedSimpArgs false
set_option linter.unusedVariables false
set_option maxRecDepth 100000
namespace Go.Proofs.Ytllmohmgakdbdaa
open Go Go.Fl
open Classical
theorem maxLen_eq : maxLen = 9223372036854775807 := rfl
attribute [go_sem] maxLen_eq
noncomputable def sel (p : Nat → Prop) : Nat → List Int
  | 0 => []
  | n + 1 => if p n then sel p n ++ [(n : Int)] else sel p n
theorem sel_len (p : Nat → Prop) : ∀ n, (sel p n).length ≤ n
  | 0 => by simp [sel]
  | n + 1 => by have := sel_len p n; simp only [sel]; split <;> simp <;> omega
def oA (b : Nat) (l : List Int) : AV := match l with | [] => .nilS | l => .row b l.length
def oH (l : List Int) : Heap := match l with | [] => [] | l => [.row 3 1 (l.map encN) false]
theorem oA_nil {b : Nat} : oA b [] = .nilS := rfl
theorem oA_cons {b : Nat} {x : Int} {r : List Int} : oA b (x :: r) = .row b (r.length + 1) := rfl
theorem oH_nil : oH [] = [] := rfl
theorem oH_cons {x : Int} {r : List Int} : oH (x :: r) = [.row 3 1 (encN x :: r.map encN) false] := rfl
theorem sel_yes {p : Nat → Prop} {n : Nat} (h : p n) : sel p (n + 1) = sel p n ++ [(n : Int)] := by simp [sel, h]
theorem sel_no {p : Nat → Prop} {n : Nat} (h : ¬ p n) : sel p (n + 1) = sel p n := by simp [sel, h]
attribute [go_sem] oA_nil oA_cons oH_nil oH_cons
def hasAt (ts : List Thing) (ms : List Mark) (c i at_ : Int) : Prop := hasOf ts ms c (i.toNat + 1) i at_
theorem cHas (ts : List Thing) (ms : List Mark) (hv : okThings ts) (c i at_ : Int) (h : 0 ≤ i ∧ i < ts.length) : PC Try.prog 75 [hT ts ms, .int .i64 i, .int .i64 c, .int .i64 at_] (.bool (decide (hasAt ts ms c i at_))) :=
  c75 ts ms hv c (i.toNat + 1) i h.1 (by omega) h.2 at_
def lk (ts : List Thing) (ms : List Mark) (c : Int) (i : Nat) : Prop := (∃ t, ts[i]? = some t ∧ t.prints = 1) ∧ ¬ hasAt ts ms c i 99
theorem c76 (ts : List Thing) (ms : List Mark) (hv : okThings ts) (h40 : ts.length ≤ 40) (c : Int) : PC Try.prog 76 [hT ts ms, .int .i64 c] (lN (sel (lk ts ms c) ts.length)) := by
  refine PC.body Try.func76 (by kernel_rfl) rfl (by simp [Try.f76]) rfl ?_
  simp only [Try.f76]
  intro hlen
  simp only [go_sem, List.length_map, and_true, true_and] at hlen
  refine CV.run ?_
  (repeat' (first | ((first | with_reducible refine vcG_split ?_ ?_ | with_reducible refine vcIf_split ?_ ?_ | with_reducible refine vcQ_split ?_ ?_ | with_reducible refine vcDG_split ?_ ?_) <;> intro hb <;> (try rw [hb]) <;> (try simp only [Bool.and_eq_true, Bool.or_eq_true, dtrue, dfalse, Bool.not_eq_true', Bool.not_eq_false', Bool.and_eq_false_iff, Bool.or_eq_false_iff, Bool.not_true, Bool.not_false] at hb) <;> (try simp only [within] at hb) <;> try (simp only [go_sem])) | refine And.intro (by (first | exact trivial | (simp only [I64]; omega) | omega)) ?_ | fail | (simp only [go_sem])))
  refine vc_for (fun j => ⟨[(6, .int .i64 j), (5, oA 1 (sel (lk ts ms c) j)), (4, .nilS), (2, .lp 0 0), (1, .int .i64 c)], [.box 25 [.lst false 4 (ts.map encT), .lst false 3 (ms.map encM)] false] ++ oH (sel (lk ts ms c) j)⟩) ts.length (fun j => True) (by (first | exact wk_same (by (simp only [go_sem, Int.natCast_add, Int.natCast_one, Int.natCast_zero, Int.cast_ofNat_Int, sel])) | exact wk_drop (by (simp only [go_sem, Int.natCast_add, Int.natCast_one, Int.natCast_zero, Int.cast_ofNat_Int, sel])) (by (simp only [go_sem, Int.natCast_add, Int.natCast_one, Int.natCast_zero, Int.cast_ofNat_Int, sel])) (by (simp only [go_sem, Int.natCast_add, Int.natCast_one, Int.natCast_zero, Int.cast_ofNat_Int, sel])) (by (simp only [go_sem, Int.natCast_add, Int.natCast_one, Int.natCast_zero, Int.cast_ofNat_Int, sel])) (by (simp only [go_sem, Int.natCast_add, Int.natCast_one, Int.natCast_zero, Int.cast_ofNat_Int, sel])))) trivial ?_
  intro j hj _
  have hsl := sel_len (lk ts ms c) j
  rcases Nat.lt_or_ge j ts.length with hlt | hge
  · obtain ⟨t, ht⟩ := get_of hlt
    have hlt' : (j : Int) < ts.length := by omega
    have hlk : lk ts ms c j ↔ t.prints = 1 ∧ ¬ hasAt ts ms c j 99 := by simp [lk, ht]
    rcases hs : sel (lk ts ms c) j with _ | ⟨x, r⟩
    · (repeat' (first | ((first | with_reducible refine vcG_split ?_ ?_ | with_reducible refine vcIf_split ?_ ?_ | with_reducible refine vcQ_split ?_ ?_ | with_reducible refine vcDG_split ?_ ?_) <;> intro hb <;> (try rw [hb]) <;> (try simp only [Bool.and_eq_true, Bool.or_eq_true, dtrue, dfalse, Bool.not_eq_true', Bool.not_eq_false', Bool.and_eq_false_iff, Bool.or_eq_false_iff, Bool.not_true, Bool.not_false] at hb) <;> (try simp only [within] at hb) <;> try (simp only [go_sem, hlt', ht, hs, encT])) | refine And.intro (by (first | exact trivial | (simp only [I64]; omega) | omega)) ?_ | (first | (refine vcP_pure (cHas ts ms hv _ _ _ ⟨by omega, by omega⟩) rfl ?_ ?_ ?_; (focus (first | rfl | ((simp only [go_sem, hlt', ht, hs, encT, AV.pureL, AV.pure, pureL_mapI, Bool.and_self]) <;> fail))); (focus (first | ((simp only [go_sem, hlt', ht, hs, encT]) <;> fail) | rfl))) | (refine dCallP_pure (cHas ts ms hv _ _ _ ⟨by omega, by omega⟩) rfl ?_ ?_ ?_; (focus (first | rfl | ((simp only [go_sem, hlt', ht, hs, encT, AV.pureL, AV.pure, pureL_mapI, Bool.and_self]) <;> fail))); (focus (first | ((simp only [go_sem, hlt', ht, hs, encT]) <;> fail) | rfl))) | refine vcP_safe (cHas ts ms hv _ _ _ ⟨by omega, by omega⟩) rfl rfl (by (simp only [go_sem, hlt', ht, hs, encT])) ?_ | refine dCallP_safe (cHas ts ms hv _ _ _ ⟨by omega, by omega⟩) rfl rfl ?_) | (simp only [go_sem, hlt', ht, hs, encT])))
      · have e := sel_yes (hlk.2 ⟨by assumption, hb⟩)
        rw [hs, List.nil_append] at e
        (first | exact wk_same (by (simp only [go_sem, Int.natCast_add, Int.natCast_one, Int.natCast_zero, Int.cast_ofNat_Int, e, encN])) | exact wk_drop (by (simp only [go_sem, Int.natCast_add, Int.natCast_one, Int.natCast_zero, Int.cast_ofNat_Int, e, encN])) (by (simp only [go_sem, Int.natCast_add, Int.natCast_one, Int.natCast_zero, Int.cast_ofNat_Int, e, encN])) (by (simp only [go_sem, Int.natCast_add, Int.natCast_one, Int.natCast_zero, Int.cast_ofNat_Int, e, encN])) (by (simp only [go_sem, Int.natCast_add, Int.natCast_one, Int.natCast_zero, Int.cast_ofNat_Int, e, encN])) (by (simp only [go_sem, Int.natCast_add, Int.natCast_one, Int.natCast_zero, Int.cast_ofNat_Int, e, encN])))
      all_goals
        have e := sel_no (p := lk ts ms c) (n := j) (fun h => by simp_all)
        rw [hs] at e
        (first | exact wk_same (by (simp only [go_sem, Int.natCast_add, Int.natCast_one, Int.natCast_zero, Int.cast_ofNat_Int, e, encN])) | exact wk_drop (by (simp only [go_sem, Int.natCast_add, Int.natCast_one, Int.natCast_zero, Int.cast_ofNat_Int, e, encN])) (by (simp only [go_sem, Int.natCast_add, Int.natCast_one, Int.natCast_zero, Int.cast_ofNat_Int, e, encN])) (by (simp only [go_sem, Int.natCast_add, Int.natCast_one, Int.natCast_zero, Int.cast_ofNat_Int, e, encN])) (by (simp only [go_sem, Int.natCast_add, Int.natCast_one, Int.natCast_zero, Int.cast_ofNat_Int, e, encN])) (by (simp only [go_sem, Int.natCast_add, Int.natCast_one, Int.natCast_zero, Int.cast_ofNat_Int, e, encN])))
    · rw [hs] at hsl
      simp only [List.length_cons] at hsl
      (repeat' (first | ((first | with_reducible refine vcG_split ?_ ?_ | with_reducible refine vcIf_split ?_ ?_ | with_reducible refine vcQ_split ?_ ?_ | with_reducible refine vcDG_split ?_ ?_) <;> intro hb <;> (try rw [hb]) <;> (try simp only [Bool.and_eq_true, Bool.or_eq_true, dtrue, dfalse, Bool.not_eq_true', Bool.not_eq_false', Bool.and_eq_false_iff, Bool.or_eq_false_iff, Bool.not_true, Bool.not_false] at hb) <;> (try simp only [within] at hb) <;> try (simp only [go_sem, hlt', ht, hs, encT])) | refine And.intro (by (first | exact trivial | (simp only [I64]; omega) | omega)) ?_ | (first | (refine vcP_pure (cHas ts ms hv _ _ _ ⟨by omega, by omega⟩) rfl ?_ ?_ ?_; (focus (first | rfl | ((simp only [go_sem, hlt', ht, hs, encT, AV.pureL, AV.pure, pureL_mapI, Bool.and_self]) <;> fail))); (focus (first | ((simp only [go_sem, hlt', ht, hs, encT]) <;> fail) | rfl))) | (refine dCallP_pure (cHas ts ms hv _ _ _ ⟨by omega, by omega⟩) rfl ?_ ?_ ?_; (focus (first | rfl | ((simp only [go_sem, hlt', ht, hs, encT, AV.pureL, AV.pure, pureL_mapI, Bool.and_self]) <;> fail))); (focus (first | ((simp only [go_sem, hlt', ht, hs, encT]) <;> fail) | rfl))) | refine vcP_safe (cHas ts ms hv _ _ _ ⟨by omega, by omega⟩) rfl rfl (by (simp only [go_sem, hlt', ht, hs, encT])) ?_ | refine dCallP_safe (cHas ts ms hv _ _ _ ⟨by omega, by omega⟩) rfl rfl ?_) | (simp only [go_sem, hlt', ht, hs, encT])))
      · have e := sel_yes (hlk.2 ⟨by assumption, hb⟩)
        rw [hs, List.cons_append] at e
        (first | exact wk_same (by (simp only [go_sem, Int.natCast_add, Int.natCast_one, Int.natCast_zero, Int.cast_ofNat_Int, e, encN, List.map_append, List.length_append])) | exact wk_drop (by (simp only [go_sem, Int.natCast_add, Int.natCast_one, Int.natCast_zero, Int.cast_ofNat_Int, e, encN, List.map_append, List.length_append])) (by (simp only [go_sem, Int.natCast_add, Int.natCast_one, Int.natCast_zero, Int.cast_ofNat_Int, e, encN, List.map_append, List.length_append])) (by (simp only [go_sem, Int.natCast_add, Int.natCast_one, Int.natCast_zero, Int.cast_ofNat_Int, e, encN, List.map_append, List.length_append])) (by (simp only [go_sem, Int.natCast_add, Int.natCast_one, Int.natCast_zero, Int.cast_ofNat_Int, e, encN, List.map_append, List.length_append])) (by (simp only [go_sem, Int.natCast_add, Int.natCast_one, Int.natCast_zero, Int.cast_ofNat_Int, e, encN, List.map_append, List.length_append])))
      all_goals
        have e := sel_no (p := lk ts ms c) (n := j) (fun h => by simp_all)
        rw [hs] at e
        (first | exact wk_same (by (simp only [go_sem, Int.natCast_add, Int.natCast_one, Int.natCast_zero, Int.cast_ofNat_Int, e, encN])) | exact wk_drop (by (simp only [go_sem, Int.natCast_add, Int.natCast_one, Int.natCast_zero, Int.cast_ofNat_Int, e, encN])) (by (simp only [go_sem, Int.natCast_add, Int.natCast_one, Int.natCast_zero, Int.cast_ofNat_Int, e, encN])) (by (simp only [go_sem, Int.natCast_add, Int.natCast_one, Int.natCast_zero, Int.cast_ofNat_Int, e, encN])) (by (simp only [go_sem, Int.natCast_add, Int.natCast_one, Int.natCast_zero, Int.cast_ofNat_Int, e, encN])) (by (simp only [go_sem, Int.natCast_add, Int.natCast_one, Int.natCast_zero, Int.cast_ofNat_Int, e, encN])))
  · have hge' : ¬ (j : Int) < ts.length := by omega
    have : j = ts.length := by omega
    subst this
    rcases hs : sel (lk ts ms c) ts.length with _ | ⟨x, r⟩
    · (repeat' (first | ((first | with_reducible refine vcG_split ?_ ?_ | with_reducible refine vcIf_split ?_ ?_ | with_reducible refine vcQ_split ?_ ?_ | with_reducible refine vcDG_split ?_ ?_) <;> intro hb <;> (try rw [hb]) <;> (try simp only [Bool.and_eq_true, Bool.or_eq_true, dtrue, dfalse, Bool.not_eq_true', Bool.not_eq_false', Bool.and_eq_false_iff, Bool.or_eq_false_iff, Bool.not_true, Bool.not_false] at hb) <;> (try simp only [within] at hb) <;> try (simp only [go_sem, hge', hs])) | refine And.intro (by (first | exact trivial | (simp only [I64]; omega) | omega)) ?_ | fail | (simp only [go_sem, hge', hs])))
    · (repeat' (first | ((first | with_reducible refine vcG_split ?_ ?_ | with_reducible refine vcIf_split ?_ ?_ | with_reducible refine vcQ_split ?_ ?_ | with_reducible refine vcDG_split ?_ ?_) <;> intro hb <;> (try rw [hb]) <;> (try simp only [Bool.and_eq_true, Bool.or_eq_true, dtrue, dfalse, Bool.not_eq_true', Bool.not_eq_false', Bool.and_eq_false_iff, Bool.or_eq_false_iff, Bool.not_true, Bool.not_false] at hb) <;> (try simp only [within] at hb) <;> try (simp only [go_sem, hge', hs, encN])) | refine And.intro (by (first | exact trivial | (simp only [I64]; omega) | omega)) ?_ | fail | (simp only [go_sem, hge', hs, encN])))
end Go.Proofs.Ytllmohmgakdbdaa
