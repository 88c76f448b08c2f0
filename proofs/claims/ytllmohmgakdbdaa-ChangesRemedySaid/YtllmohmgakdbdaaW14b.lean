/- Contracts of functions of the given program, without a condition beyond those that each theorem states; they lead to the given statement. -/
import Derived.Test.YtllmohmgakdbdaaW14a
import Derived.Test.YtllmohmgakdbdaaW12a
import Derived.Test.YtllmohmgakdbdaaFlB
set_option linter.unusedSimpArgs false
set_option linter.unusedVariables false
set_option linter.unusedVariables false
set_option maxRecDepth 100000
namespace Go.Proofs.Ytllmohmgakdbdaa
open Go Go.Fl
open Classical
def encW (w : List Int) : List AV := [lN w]
theorem pureW (l : List (List Int)) : pureE (l.map encW) = True := pureE_map fun _ => rfl
attribute [go_sem] pureW
theorem sub_mapW {b n : Nat} {v : AV} {l : List (List Int)} : List.map (subL b n v) (List.map encW l) = List.map encW l := by
  rw [List.map_map]; exact List.map_congr_left fun a _ => by simp [encW, subL, subV]
attribute [go_sem] sub_mapW
theorem vcP_as {P : Program} {nt m : Nat} {R : Exit → St → Prop} {g : FuncId} {args args' a2 : List AV} {dst : Option Nat} {rest : List COp} {k : List Iv} {env : Env} {H : Heap} {v : AV} (hc : PC P g a2 v) (hv : v.pure = true) (hp : AV.pureL args = true) (hf : frzL [] args a2) (h : vc P nt m R (.ops rest :: k) ⟨eput env dst v, H⟩) : vcP P nt m R g args args' dst rest k ⟨env, H⟩ :=
  vcP_raw ((hc.use (handsOn_pure hp hf) hv).mono (by rintro r H' ⟨rfl, rfl⟩; exact h))
theorem pureW_lst (l : List (List Int)) : (AV.lst false 1 (l.map encW)).pure = true := by simp [AV.pure]
def nextOf (first : List Int) (f : Nat) : Prop := (first = [] ∧ f = 0) ∨ ∃ x, first[first.length - 1]? = some x ∧ 0 < first.length ∧ (f : Int) = x + 1
theorem nextOf_app {first : List Int} {f : Nat} : nextOf (first ++ [(f : Int)]) (f + 1) := .inr ⟨f, by simp, by simp, by omega⟩
set_option maxHeartbeats 1000000 in
theorem c98 (below : Nat) (hb8 : below ≤ 8) : ∀ (d f : Nat) (first : List Int), nextOf first f → f ≤ below → first.length + d ≤ 8 → PC Try.prog 98 [lN first, .int .i64 ((first.length + d : Nat) : Int), .int .i64 below] (.lst false 1 ((listsOf below d f first).map encW)) := by
  intro d
  induction d with
  | zero =>
    intro f first hn hf h8
    have e : ((first.length + 0 : Nat) : Int) = first.length := by omega
    rw [e]
    refine PC.body Try.func98 (by kernel_rfl) rfl (by simp [Try.f98]) rfl ?_
    simp only [Try.f98]
    intro hlen
    simp only [go_sem, List.length_map, and_true, true_and] at hlen
    refine CV.run ?_
    (repeat' (first | ((first | with_reducible refine vcG_split ?_ ?_ | with_reducible refine vcIf_split ?_ ?_ | with_reducible refine vcQ_split ?_ ?_ | with_reducible refine vcDG_split ?_ ?_) <;> intro hb <;> (try rw [hb]) <;> (try simp only [Bool.and_eq_true, Bool.or_eq_true, dtrue, dfalse, Bool.not_eq_true', Bool.not_eq_false', Bool.and_eq_false_iff, Bool.or_eq_false_iff, Bool.not_true, Bool.not_false] at hb) <;> (try simp only [within] at hb) <;> try (simp only [go_sem, listsOf, encW, List.map_cons, List.map_nil])) | refine And.intro (by (first | exact trivial | (simp only [I64]; omega) | omega)) ?_ | fail | (simp only [go_sem, listsOf, encW, List.map_cons, List.map_nil])))
  | succ d ih =>
    intro f first hn hf h8
    have hne : ¬ (first.length : Int) = ((first.length + (d + 1) : Nat) : Int) := by omega
    have hjl : listsOf below (d + 1) f first = outsOf below d f first (below - f) := rfl
    rw [hjl]
    obtain ⟨M, hM⟩ : ∃ M : Int, ((first.length + (d + 1) : Nat) : Int) = M := ⟨_, rfl⟩
    rw [hM] at hne ⊢
    rcases hn with ⟨h0, h1⟩ | ⟨x, hx, h0, hfx⟩
    · have h0' : ¬ (0 : Int) < first.length := by rw [h0]; simp
      have hxf : (0 : Int) = f := by omega
      refine PC.body Try.func98 (by kernel_rfl) rfl (by simp [Try.f98]) rfl ?_
      simp only [Try.f98]
      intro hlen
      simp only [go_sem, List.length_map, and_true, true_and] at hlen
      refine CV.run ?_
      (repeat' (first | ((first | with_reducible refine vcG_split ?_ ?_ | with_reducible refine vcIf_split ?_ ?_ | with_reducible refine vcQ_split ?_ ?_ | with_reducible refine vcDG_split ?_ ?_) <;> intro hb <;> (try rw [hb]) <;> (try simp only [Bool.and_eq_true, Bool.or_eq_true, dtrue, dfalse, Bool.not_eq_true', Bool.not_eq_false', Bool.and_eq_false_iff, Bool.or_eq_false_iff, Bool.not_true, Bool.not_false] at hb) <;> (try simp only [within] at hb) <;> try (simp only [go_sem, hne, h0'])) | refine And.intro (by (first | exact trivial | (simp only [I64]; omega) | omega)) ?_ | fail | (simp only [go_sem, hne, h0'])))
      refine vc_fw (fun j => ⟨[(9, .int .i64 ((f + j : Nat) : Int)), (8, .row 0 (outsOf below d f first j).length), (6, .nilS), (2, .int .i64 below), (1, .int .i64 M), (0, lN first)], [.row 28 1 ((outsOf below d f first j).map encW) false]⟩) (below - f) (fun _ => True) (.nilE 8 28 1 (by (simp only [go_sem])) (by omega) (.base (by (first | exact wk_same (by (simp only [go_sem, Int.natCast_add, Int.natCast_one, Int.natCast_zero, Int.cast_ofNat_Int, outsOf_zero, hxf, Nat.add_zero])) | exact wk_drop (by (simp only [go_sem, Int.natCast_add, Int.natCast_one, Int.natCast_zero, Int.cast_ofNat_Int, outsOf_zero, hxf, Nat.add_zero])) (by (simp only [go_sem, Int.natCast_add, Int.natCast_one, Int.natCast_zero, Int.cast_ofNat_Int, outsOf_zero, hxf, Nat.add_zero])) (by (simp only [go_sem, Int.natCast_add, Int.natCast_one, Int.natCast_zero, Int.cast_ofNat_Int, outsOf_zero, hxf, Nat.add_zero])) (by (simp only [go_sem, Int.natCast_add, Int.natCast_one, Int.natCast_zero, Int.cast_ofNat_Int, outsOf_zero, hxf, Nat.add_zero])) (by (simp only [go_sem, Int.natCast_add, Int.natCast_one, Int.natCast_zero, Int.cast_ofNat_Int, outsOf_zero, hxf, Nat.add_zero])))))) trivial ?_
      intro j hj _
      have hbl := outsOf_len below d f first hf j hj
      have hpow : (2 : Nat) ^ (below - f) ≤ 2 ^ 8 := Nat.pow_le_pow_right (by omega) (by omega)
      rcases Nat.lt_or_ge j (below - f) with hlt | hge
      · have hlt' : ((f + j : Nat) : Int) < below := by omega
        have ihh := ih (f + j + 1) (first ++ [((f + j : Nat) : Int)]) nextOf_app (by omega) (by rw [List.length_append]; simp; omega)
        have hjl := listsOf_len below d (f + j + 1) (first ++ [((f + j : Nat) : Int)]) (by omega)
        have hpow2 : (2 : Nat) ^ (below - (f + j + 1)) ≤ 2 ^ 8 := Nat.pow_le_pow_right (by omega) (by omega)
        have e := outsOf_succ (below := below) (d := d) (from_ := f) (first := first) (j := j)
        rw [show (((first ++ [((f + j : Nat) : Int)]).length + d : Nat) : Int) = M from by rw [← hM, List.length_append]; simp; omega, lN, List.map_append] at ihh
        simp only [List.map_cons, List.map_nil, encN] at ihh
        (repeat' (first | ((first | with_reducible refine vcG_split ?_ ?_ | with_reducible refine vcIf_split ?_ ?_ | with_reducible refine vcQ_split ?_ ?_ | with_reducible refine vcDG_split ?_ ?_) <;> intro hb <;> (try rw [hb]) <;> (try simp only [Bool.and_eq_true, Bool.or_eq_true, dtrue, dfalse, Bool.not_eq_true', Bool.not_eq_false', Bool.and_eq_false_iff, Bool.or_eq_false_iff, Bool.not_true, Bool.not_false] at hb) <;> (try simp only [within] at hb) <;> try (simp only [go_sem, hlt', encN])) | refine And.intro (by (first | exact trivial | (simp only [I64]; omega) | omega)) ?_ | fail | (simp only [go_sem, hlt', encN])))
        refine ⟨⟨by omega, by omega, .inl trivial⟩, ⟨by omega, by omega⟩, ?_⟩
        (repeat' (first | ((first | with_reducible refine vcG_split ?_ ?_ | with_reducible refine vcIf_split ?_ ?_ | with_reducible refine vcQ_split ?_ ?_ | with_reducible refine vcDG_split ?_ ?_) <;> intro hb <;> (try rw [hb]) <;> (try simp only [Bool.and_eq_true, Bool.or_eq_true, dtrue, dfalse, Bool.not_eq_true', Bool.not_eq_false', Bool.and_eq_false_iff, Bool.or_eq_false_iff, Bool.not_true, Bool.not_false] at hb) <;> (try simp only [within] at hb) <;> try (simp only [go_sem, hlt', encN, List.length_append, List.length_map, List.length_cons, List.length_nil])) | refine And.intro (by (first | exact trivial | (simp only [I64]; omega) | omega)) ?_ | (first | refine vcP_row 1 rfl (by (simp only [go_sem, hlt', encN, List.length_append, List.length_map, List.length_cons, List.length_nil])) (vcP_pure (ihh) rfl (by first | rfl | (simp only [go_sem, hlt', encN, List.length_append, List.length_map, List.length_cons, List.length_nil, AV.pureL, AV.pure, Bool.and_self, false_and, if_false])) (by (simp only [go_sem, hlt', encN, List.length_append, List.length_map, List.length_cons, List.length_nil, false_and, if_false])) ?_)) | (simp only [go_sem, hlt', encN, List.length_append, List.length_map, List.length_cons, List.length_nil])))
        exact .base (by (first | exact wk_same (by (simp only [go_sem, Int.natCast_add, Int.natCast_one, Int.natCast_zero, Int.cast_ofNat_Int, e, List.map_append, List.length_append, Int.add_assoc])) | exact wk_drop (by (simp only [go_sem, Int.natCast_add, Int.natCast_one, Int.natCast_zero, Int.cast_ofNat_Int, e, List.map_append, List.length_append, Int.add_assoc])) (by (simp only [go_sem, Int.natCast_add, Int.natCast_one, Int.natCast_zero, Int.cast_ofNat_Int, e, List.map_append, List.length_append, Int.add_assoc])) (by (simp only [go_sem, Int.natCast_add, Int.natCast_one, Int.natCast_zero, Int.cast_ofNat_Int, e, List.map_append, List.length_append, Int.add_assoc])) (by (simp only [go_sem, Int.natCast_add, Int.natCast_one, Int.natCast_zero, Int.cast_ofNat_Int, e, List.map_append, List.length_append, Int.add_assoc])) (by (simp only [go_sem, Int.natCast_add, Int.natCast_one, Int.natCast_zero, Int.cast_ofNat_Int, e, List.map_append, List.length_append, Int.add_assoc]))))
      · have hge' : ¬ ((f + j : Nat) : Int) < below := by omega
        have : j = below - f := by omega
        subst this
        (repeat' (first | ((first | with_reducible refine vcG_split ?_ ?_ | with_reducible refine vcIf_split ?_ ?_ | with_reducible refine vcQ_split ?_ ?_ | with_reducible refine vcDG_split ?_ ?_) <;> intro hb <;> (try rw [hb]) <;> (try simp only [Bool.and_eq_true, Bool.or_eq_true, dtrue, dfalse, Bool.not_eq_true', Bool.not_eq_false', Bool.and_eq_false_iff, Bool.or_eq_false_iff, Bool.not_true, Bool.not_false] at hb) <;> (try simp only [within] at hb) <;> try (simp only [go_sem, hge'])) | refine And.intro (by (first | exact trivial | (simp only [I64]; omega) | omega)) ?_ | fail | (simp only [go_sem, hge'])))
    · have h0' : (0 : Int) < first.length := by omega
      have hx1 : first[((first.length : Int) - 1).toNat]? = some x := by rw [show ((first.length : Int) - 1).toNat = first.length - 1 from by omega]; exact hx
      have hx2 : 0 ≤ (first.length : Int) - 1 := by omega
      have hx3 : (first.length : Int) - 1 < first.length := by omega
      have hxf : x + 1 = (f : Int) := by omega
      refine PC.body Try.func98 (by kernel_rfl) rfl (by simp [Try.f98]) rfl ?_
      simp only [Try.f98]
      intro hlen
      simp only [go_sem, List.length_map, and_true, true_and] at hlen
      refine CV.run ?_
      (repeat' (first | ((first | with_reducible refine vcG_split ?_ ?_ | with_reducible refine vcIf_split ?_ ?_ | with_reducible refine vcQ_split ?_ ?_ | with_reducible refine vcDG_split ?_ ?_) <;> intro hb <;> (try rw [hb]) <;> (try simp only [Bool.and_eq_true, Bool.or_eq_true, dtrue, dfalse, Bool.not_eq_true', Bool.not_eq_false', Bool.and_eq_false_iff, Bool.or_eq_false_iff, Bool.not_true, Bool.not_false] at hb) <;> (try simp only [within] at hb) <;> try (simp only [go_sem, hne, h0', hx1, hx2, hx3, encN])) | refine And.intro (by (first | exact trivial | (simp only [I64]; omega) | omega)) ?_ | fail | (simp only [go_sem, hne, h0', hx1, hx2, hx3, encN])))
      refine vc_fw (fun j => ⟨[(9, .int .i64 ((f + j : Nat) : Int)), (8, .row 0 (outsOf below d f first j).length), (6, .nilS), (2, .int .i64 below), (1, .int .i64 M), (0, lN first)], [.row 28 1 ((outsOf below d f first j).map encW) false]⟩) (below - f) (fun _ => True) (.nilE 8 28 1 (by (simp only [go_sem])) (by omega) (.base (by (first | exact wk_same (by (simp only [go_sem, Int.natCast_add, Int.natCast_one, Int.natCast_zero, Int.cast_ofNat_Int, outsOf_zero, hxf, Nat.add_zero])) | exact wk_drop (by (simp only [go_sem, Int.natCast_add, Int.natCast_one, Int.natCast_zero, Int.cast_ofNat_Int, outsOf_zero, hxf, Nat.add_zero])) (by (simp only [go_sem, Int.natCast_add, Int.natCast_one, Int.natCast_zero, Int.cast_ofNat_Int, outsOf_zero, hxf, Nat.add_zero])) (by (simp only [go_sem, Int.natCast_add, Int.natCast_one, Int.natCast_zero, Int.cast_ofNat_Int, outsOf_zero, hxf, Nat.add_zero])) (by (simp only [go_sem, Int.natCast_add, Int.natCast_one, Int.natCast_zero, Int.cast_ofNat_Int, outsOf_zero, hxf, Nat.add_zero])) (by (simp only [go_sem, Int.natCast_add, Int.natCast_one, Int.natCast_zero, Int.cast_ofNat_Int, outsOf_zero, hxf, Nat.add_zero])))))) trivial ?_
      intro j hj _
      have hbl := outsOf_len below d f first hf j hj
      have hpow : (2 : Nat) ^ (below - f) ≤ 2 ^ 8 := Nat.pow_le_pow_right (by omega) (by omega)
      rcases Nat.lt_or_ge j (below - f) with hlt | hge
      · have hlt' : ((f + j : Nat) : Int) < below := by omega
        have ihh := ih (f + j + 1) (first ++ [((f + j : Nat) : Int)]) nextOf_app (by omega) (by rw [List.length_append]; simp; omega)
        have hjl := listsOf_len below d (f + j + 1) (first ++ [((f + j : Nat) : Int)]) (by omega)
        have hpow2 : (2 : Nat) ^ (below - (f + j + 1)) ≤ 2 ^ 8 := Nat.pow_le_pow_right (by omega) (by omega)
        have e := outsOf_succ (below := below) (d := d) (from_ := f) (first := first) (j := j)
        rw [show (((first ++ [((f + j : Nat) : Int)]).length + d : Nat) : Int) = M from by rw [← hM, List.length_append]; simp; omega, lN, List.map_append] at ihh
        simp only [List.map_cons, List.map_nil, encN] at ihh
        (repeat' (first | ((first | with_reducible refine vcG_split ?_ ?_ | with_reducible refine vcIf_split ?_ ?_ | with_reducible refine vcQ_split ?_ ?_ | with_reducible refine vcDG_split ?_ ?_) <;> intro hb <;> (try rw [hb]) <;> (try simp only [Bool.and_eq_true, Bool.or_eq_true, dtrue, dfalse, Bool.not_eq_true', Bool.not_eq_false', Bool.and_eq_false_iff, Bool.or_eq_false_iff, Bool.not_true, Bool.not_false] at hb) <;> (try simp only [within] at hb) <;> try (simp only [go_sem, hlt', encN])) | refine And.intro (by (first | exact trivial | (simp only [I64]; omega) | omega)) ?_ | fail | (simp only [go_sem, hlt', encN])))
        refine ⟨⟨by omega, by omega, .inl trivial⟩, ⟨by omega, by omega⟩, ?_⟩
        (repeat' (first | ((first | with_reducible refine vcG_split ?_ ?_ | with_reducible refine vcIf_split ?_ ?_ | with_reducible refine vcQ_split ?_ ?_ | with_reducible refine vcDG_split ?_ ?_) <;> intro hb <;> (try rw [hb]) <;> (try simp only [Bool.and_eq_true, Bool.or_eq_true, dtrue, dfalse, Bool.not_eq_true', Bool.not_eq_false', Bool.and_eq_false_iff, Bool.or_eq_false_iff, Bool.not_true, Bool.not_false] at hb) <;> (try simp only [within] at hb) <;> try (simp only [go_sem, hlt', encN, List.length_append, List.length_map, List.length_cons, List.length_nil])) | refine And.intro (by (first | exact trivial | (simp only [I64]; omega) | omega)) ?_ | (first | refine vcP_row 1 rfl (by (simp only [go_sem, hlt', encN, List.length_append, List.length_map, List.length_cons, List.length_nil])) (vcP_pure (ihh) rfl (by first | rfl | (simp only [go_sem, hlt', encN, List.length_append, List.length_map, List.length_cons, List.length_nil, AV.pureL, AV.pure, Bool.and_self, false_and, if_false])) (by (simp only [go_sem, hlt', encN, List.length_append, List.length_map, List.length_cons, List.length_nil, false_and, if_false])) ?_)) | (simp only [go_sem, hlt', encN, List.length_append, List.length_map, List.length_cons, List.length_nil])))
        exact .base (by (first | exact wk_same (by (simp only [go_sem, Int.natCast_add, Int.natCast_one, Int.natCast_zero, Int.cast_ofNat_Int, e, List.map_append, List.length_append, Int.add_assoc])) | exact wk_drop (by (simp only [go_sem, Int.natCast_add, Int.natCast_one, Int.natCast_zero, Int.cast_ofNat_Int, e, List.map_append, List.length_append, Int.add_assoc])) (by (simp only [go_sem, Int.natCast_add, Int.natCast_one, Int.natCast_zero, Int.cast_ofNat_Int, e, List.map_append, List.length_append, Int.add_assoc])) (by (simp only [go_sem, Int.natCast_add, Int.natCast_one, Int.natCast_zero, Int.cast_ofNat_Int, e, List.map_append, List.length_append, Int.add_assoc])) (by (simp only [go_sem, Int.natCast_add, Int.natCast_one, Int.natCast_zero, Int.cast_ofNat_Int, e, List.map_append, List.length_append, Int.add_assoc])) (by (simp only [go_sem, Int.natCast_add, Int.natCast_one, Int.natCast_zero, Int.cast_ofNat_Int, e, List.map_append, List.length_append, Int.add_assoc]))))
      · have hge' : ¬ ((f + j : Nat) : Int) < below := by omega
        have : j = below - f := by omega
        subst this
        (repeat' (first | ((first | with_reducible refine vcG_split ?_ ?_ | with_reducible refine vcIf_split ?_ ?_ | with_reducible refine vcQ_split ?_ ?_ | with_reducible refine vcDG_split ?_ ?_) <;> intro hb <;> (try rw [hb]) <;> (try simp only [Bool.and_eq_true, Bool.or_eq_true, dtrue, dfalse, Bool.not_eq_true', Bool.not_eq_false', Bool.and_eq_false_iff, Bool.or_eq_false_iff, Bool.not_true, Bool.not_false] at hb) <;> (try simp only [within] at hb) <;> try (simp only [go_sem, hge'])) | refine And.intro (by (first | exact trivial | (simp only [I64]; omega) | omega)) ?_ | fail | (simp only [go_sem, hge'])))
end Go.Proofs.Ytllmohmgakdbdaa
