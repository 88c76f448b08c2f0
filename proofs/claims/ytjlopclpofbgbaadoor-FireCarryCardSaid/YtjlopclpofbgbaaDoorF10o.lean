/- Contracts of functions of the given program, without a condition beyond those that each theorem states; they lead to the given statement. -/
import Derived.Test.YtjlopclpofbgbaaDoorF10n
set_option linter.unusedSimpArgs false
set_option linter.unusedVariables false
set_option maxRecDepth 100000
namespace Go.Proofs.YtjlopclpofbgbaaDoor
open Go Go.Fl
open Classical
def sF10o_f23_1 : List (Nat × Nat) := [(0, 0), (0, 0), (0, 0), (0, 0), (0, 0), (0, 0), (0, 0), (0, 0), (0, 0), (0, 0)]
theorem lft_all {t : Town} {b : Int} : lft t (allI t.ts.length) b = sel (fun i => stays t b i) t.ts.length := by
  unfold lft allI
  rw [fil_sel]
  exact sel_congr _ fun i _ => ⟨fun h => h.2, fun h => ⟨trivial, h⟩⟩
theorem belB {m : Nat} {ty : TypeId} {l : List AV} {sl : Bool} (h : AV.pureL l = true) : belowB m (.box ty l sl) := belowL_pure m l h
theorem belR {m n b : Nat} {ty : TypeId} {sl : Bool} (h : b < m) : belowB m (.box ty [.row b n] sl) := by
  simp [belowB, belowL, belowV, h]
theorem belN {m : Nat} {l : List Int} {sl : Bool} : belowB m (.row 3 1 (l.map encN) sl) := by
  rw [belowB_row (by rw [pureN]; trivial)]; trivial
theorem c23n (t : Town) (b : Int) (h : ¬ (validT t ∧ house t b)) : PC Tryd.prog 23 [hF t, .int .i64 b] (.tup [.nilS, .int .i64 (askT t (house t b))]) := by
  have h68 := c68 t b
  have h67 := c67n t (house t b) h
  have hne := ask_ne h
  refine PC.body Tryd.func23 (by kernel_rfl) rfl (by simp [Tryd.f23]) rfl ?_
  simp only [Tryd.f23]
  intro hlen
  simp only [go_sem, List.length_map, and_true, true_and] at hlen
  refine CV.run ?_
  (repeat' (first | ((with_reducible first | apply sg | apply si | apply sq | apply sd) <;> intro hb <;> (try rw [hb]) <;> (try simp only [bq, bz, dtrue, dfalse] at hb) <;> (try simp only [within] at hb) <;> try simp only [go_sem]) | refine And.intro (by first | exact ⟨⟩ | omega | (simp only [I64]; omega)) ?_ | (with_reducible rw [vc_draw_eq]; first | (refine CV.draw (id := 1) sF10o_f23_1 mixed rfl (by kernel_rfl) ?_; delta sF10o_f23_1)) | ((with_reducible first | refine vp h68 ?_ ?_ | refine dc h68 ?_ ?_ | refine vp h67 ?_ ?_ | refine dc h67 ?_ ?_); focus (first | exact ⟨rfl, .inl ⟨by first | rfl | (simp only [go_sem, hne, AV.pureL, AV.pure]; done), by first | (simp only [go_sem, hne, AV.pureL, AV.pure]; done) | rfl⟩⟩ | exact ⟨rfl, .inr ⟨rfl, by simp only [go_sem, hne]⟩⟩)) | ((with_reducible first | refine dp h68 ?_ ?_ | refine dp h67 ?_ ?_); focus (exact ⟨rfl, by first | rfl | (simp only [go_sem, hne, AV.pureL, AV.pure]; done), by first | (simp only [go_sem, hne, AV.pureL, AV.pure]; done) | rfl⟩)) | ((with_reducible first | refine ds h68 ?_ ?_ | refine ds h67 ?_ ?_); focus exact ⟨rfl, rfl⟩) | (simp only [go_sem, hne])))
set_option maxHeartbeats 2000000 in
theorem c23y (t : Town) (b : Int) (hv : validT t) (hb : house t b) : PC Tryd.prog 23 [hF t, .int .i64 b] (.tup [lN (lft t (allI t.ts.length) b), .int .i64 0]) := by
  have h68 := (c68 t b).tru hb
  have h67 := c67y t hv
  have h69 := c69 t b
  have h8 := hv.len
  rw [lft_all]
  generalize hL : (fun (i : Nat) => stays t b i) = q
  have hqs : ∀ j : Nat, q j ↔ stays t b j := fun j => by rw [← hL]
  have hsl := fun j => sel_len q j
  refine PC.body Tryd.func23 (by kernel_rfl) rfl (by simp [Tryd.f23]) rfl ?_
  simp only [Tryd.f23]
  intro hlen
  simp only [go_sem, List.length_map, and_true, true_and] at hlen
  refine CV.run ?_
  (repeat' (first | ((with_reducible first | apply sg | apply si | apply sq | apply sd) <;> intro hb <;> (try rw [hb]) <;> (try simp only [bq, bz, dtrue, dfalse] at hb) <;> (try simp only [within] at hb) <;> try simp only [go_sem]) | refine And.intro (by first | exact ⟨⟩ | omega | (simp only [I64]; omega)) ?_ | (with_reducible rw [vc_draw_eq]; first | (refine CV.draw (id := 1) sF10o_f23_1 mixed rfl (by kernel_rfl) ?_; delta sF10o_f23_1)) | ((with_reducible first | refine vp h68 ?_ ?_ | refine dc h68 ?_ ?_ | refine vp h67 ?_ ?_ | refine dc h67 ?_ ?_ | refine vp h69 ?_ ?_ | refine dc h69 ?_ ?_); focus (first | exact ⟨rfl, .inl ⟨by first | rfl | (simp only [go_sem, AV.pureL, AV.pure]; done), by first | (simp only [go_sem, AV.pureL, AV.pure]; done) | rfl⟩⟩ | exact ⟨rfl, .inr ⟨rfl, by simp only [go_sem]⟩⟩)) | ((with_reducible first | refine dp h68 ?_ ?_ | refine dp h67 ?_ ?_ | refine dp h69 ?_ ?_); focus (exact ⟨rfl, by first | rfl | (simp only [go_sem, AV.pureL, AV.pure]; done), by first | (simp only [go_sem, AV.pureL, AV.pure]; done) | rfl⟩)) | ((with_reducible first | refine ds h68 ?_ ?_ | refine ds h67 ?_ ?_ | refine ds h69 ?_ ?_); focus exact ⟨rfl, rfl⟩) | (simp only [go_sem])))
  rw [vc_range_eq]
  refine CV.wn (st' := ⟨[(4, .nilS), (5, .int .i64 0), (8, .lp 1 0), (23, .fn 102 [.pp [hG t], .pp [.int .i64 b]])], [.box 28 (cT t) false, .box 26 [.row 2 (sel q 0).length] false, .row 3 1 ((sel q 0).map encN) false]⟩) (.nilB 1 0 3 1 rfl rfl (by omega) (.base (by (first | exact wk_same (by simp only [go_sem, Int.natCast_add, cn, Int.cast_ofNat_Int, sel, List.map_nil]) | (refine wk_drop ?_ ?_ ?_ ?_ ?_ <;> simp only [go_sem, Int.natCast_add, cn, Int.cast_ofNat_Int, sel, List.map_nil]))))) ?_
  refine CV.rangeP rfl (by (simp only [go_sem])) [.box 28 (cT t) false, .box 26 [.row 2 (sel q t.ts.length).length] false, .row 3 1 ((sel q t.ts.length).map encN) false] rfl (by (simp only [go_sem])) (by (simp only [go_sem])) (fun l => ?_) ?_
  · refine c102_3 t b h8 hv.lp (fun _ => .box 28 (cT t) false) (fun j => .box 26 [.row 2 (sel q j).length] false) (fun j => .row 3 1 ((sel q j).map encN) false) (fun _ => belB rfl) (fun _ => belR (by omega)) (fun _ => belN) _ _ _ _ _ _ (by (simp only [go_sem])) (fun j hj hs own => ?_) (fun j hj hs => ?_)
    · have e := sel_yes (p := q) ((hqs j).2 hs)
      have hsj := hsl j
      refine HCY.body2 (H := [.box 28 (cT t) false, .box 26 [.row 2 (sel q j).length] false, .row 3 1 ((sel q j).map encN) false]) (H' := [.box 28 (cT t) false, .box 26 [.row 2 (sel q (j + 1)).length] false, .row 3 1 ((sel q (j + 1)).map encN) false]) (by omega) (by omega) rfl (by (simp only [go_sem])) (by (simp only [go_sem])) rfl rfl ?_
      (repeat' (first | ((with_reducible first | apply sg | apply si | apply sq | apply sd) <;> intro hb <;> (try rw [hb]) <;> (try simp only [bq, bz, dtrue, dfalse] at hb) <;> (try simp only [within] at hb) <;> try simp only [go_sem]) | refine And.intro (by first | exact ⟨⟩ | omega | (simp only [I64]; omega)) ?_ | (with_reducible rw [vc_draw_eq]; first | (refine CV.draw (id := 1) sF10o_f23_1 mixed rfl (by kernel_rfl) ?_; delta sF10o_f23_1)) | (simp only [go_sem])))
      all_goals first
        | omega
        | exact .base (by (first | exact wk_same (by simp only [go_sem, Int.natCast_add, cn, Int.cast_ofNat_Int, e, List.map_append, encN, List.length_append, List.length_cons, List.length_nil]) | (refine wk_drop ?_ ?_ ?_ ?_ ?_ <;> simp only [go_sem, Int.natCast_add, cn, Int.cast_ofNat_Int, e, List.map_append, encN, List.length_append, List.length_cons, List.length_nil])))
    · have e := sel_no (p := q) fun h => hs ((hqs j).1 h)
      exact ⟨rfl, by simp only [e], by simp only [e]⟩
  · (repeat' (first | ((with_reducible first | apply sg | apply si | apply sq | apply sd) <;> intro hb <;> (try rw [hb]) <;> (try simp only [bq, bz, dtrue, dfalse] at hb) <;> (try simp only [within] at hb) <;> try simp only [go_sem]) | refine And.intro (by first | exact ⟨⟩ | omega | (simp only [I64]; omega)) ?_ | (with_reducible rw [vc_draw_eq]; first | (refine CV.draw (id := 1) sF10o_f23_1 mixed rfl (by kernel_rfl) ?_; delta sF10o_f23_1)) | (simp only [go_sem])))
    all_goals exact frzN
end Go.Proofs.YtjlopclpofbgbaaDoor

