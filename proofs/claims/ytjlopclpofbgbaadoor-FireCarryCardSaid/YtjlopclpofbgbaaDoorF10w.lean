/- Contracts of functions of the given program, without a condition beyond those that each theorem states; they lead to the given statement. -/
import Derived.Test.YtjlopclpofbgbaaDoorF10t
set_option linter.unusedSimpArgs false
set_option linter.unusedVariables false
set_option maxRecDepth 100000
namespace Go.Proofs.YtjlopclpofbgbaaDoor
open Go Go.Fl
open Classical
def sF10w_f54_11 : List (Nat × Nat) := [(0, 0), (0, 0), (0, 0), (0, 0)]
def beats (t : Town) (a b : Int) : Prop := (los t b).length < (los t a).length ∨ (los t a).length = (los t b).length ∧ (sta t b).length < (sta t a).length
noncomputable def wb (t : Town) : Nat → Nat
  | 0 => 0
  | k + 1 => if beats t k (wb t k) then k else wb t k
theorem wb_lt {t : Town} : ∀ k, wb t k < max k 1
  | 0 => by simp [wb]
  | k + 1 => by
    have := wb_lt (t := t) k
    rw [wb]; split <;> omega
theorem wb_one {t : Town} : wb t 1 = 0 := by
  rw [wb, if_neg (by simp [wb, beats])]; rfl
theorem wb_best {t : Town} : ∀ (k i : Nat), i < k → ¬ beats t i (wb t k) ∧ (i < wb t k → beats t (wb t k) i)
  | 0, i, h => by omega
  | k + 1, i, h => by
    rw [wb]
    have ih := fun i h => wb_best (t := t) k i h
    have hw := wb_lt (t := t) k
    have hself : ∀ a : Int, ¬ beats t a a := fun a => by unfold beats; omega
    split
    · rename_i hb
      rcases Nat.lt_or_ge i k with hi | hi
      · have h1 := (ih i hi).1
        constructor
        · unfold beats at *; omega
        · intro _; unfold beats at *; omega
      · have : i = k := by omega
        subst this
        exact ⟨hself _, fun h => by omega⟩
    · rename_i hb
      rcases Nat.lt_or_ge i k with hi | hi
      · exact ih i hi
      · have : i = k := by omega
        subst this
        refine ⟨hb, fun h => by omega⟩
noncomputable def mW (t : Town) (j : Nat) : Int := if j = 0 then -1 else (los t (wb t j)).length
noncomputable def nW (t : Town) (j : Nat) : Int := if j = 0 then 0 else (sta t (wb t j)).length
theorem mW_pos {t : Town} {j : Nat} (h : 0 < j) : mW t j = (los t (wb t j)).length := if_neg (by omega)
theorem nW_pos {t : Town} {j : Nat} (h : 0 < j) : nW t j = (sta t (wb t j)).length := if_neg (by omega)
set_option maxHeartbeats 1000000 in
theorem c54y (t : Town) (hv : validT t) : PC Tryd.prog 54 [hF t] (.tup [.int .i64 (wb t t.rm.length), .int .i64 0]) := by
  have h67 := c67y t hv
  refine PC.body Tryd.func54 (by kernel_rfl) rfl (by simp [Tryd.f54]) rfl ?_
  simp only [Tryd.f54]
  intro hlen
  simp only [go_sem, List.length_map, and_true, true_and] at hlen
  refine CV.run ?_
  (repeat' (first | ((with_reducible first | apply sg | apply si | apply sq | apply sd) <;> intro hb <;> (try rw [hb]) <;> (try simp only [bq, bz, dtrue, dfalse] at hb) <;> (try simp only [within] at hb) <;> try simp only [go_sem]) | refine And.intro (by first | exact ⟨⟩ | omega | (simp only [I64]; omega)) ?_ | (with_reducible rw [vc_draw_eq]; first | (refine CV.draw (id := 11) sF10w_f54_11 mixed rfl (by kernel_rfl) ?_; delta sF10w_f54_11)) | ((with_reducible first | refine vp h67 ?_ ?_ | refine dc h67 ?_ ?_); focus (first | exact ⟨rfl, .inl ⟨by first | rfl | (simp only [go_sem, AV.pureL, AV.pure]; done), by first | (simp only [go_sem, AV.pureL, AV.pure]; done) | rfl⟩⟩ | exact ⟨rfl, .inr ⟨rfl, by simp only [go_sem]⟩⟩)) | ((with_reducible first | refine dp h67 ?_ ?_); focus (exact ⟨rfl, by first | rfl | (simp only [go_sem, AV.pureL, AV.pure]; done), by first | (simp only [go_sem, AV.pureL, AV.pure]; done) | rfl⟩)) | ((with_reducible first | refine ds h67 ?_ ?_); focus exact ⟨rfl, rfl⟩) | (simp only [go_sem])))
  refine vc_for (fun j => ⟨[(24, .int .i64 j), (23, .int .i64 t.rm.length), (2, .int .i64 0), (3, .int .i64 0), (4, hG t), (6, .int .i64 (wb t j)), (7, .lp 1 0)], [.box 28 (cT t) false, .box 110 [.int .i64 (mW t j), .int .i64 (nW t j)] false]⟩) t.rm.length (fun _ => True) (by (first | exact wk_same (by simp only [go_sem, Int.natCast_add, cn, Int.cast_ofNat_Int, wb, mW, nW]) | (refine wk_drop ?_ ?_ ?_ ?_ ?_ <;> simp only [go_sem, Int.natCast_add, cn, Int.cast_ofNat_Int, wb, mW, nW]))) trivial ?_
  intro b hb _
  rcases Nat.lt_or_ge b t.rm.length with hlt | hge
  · have hlt' : (b : Int) < t.rm.length := by omega
    have h72 := c72 t b hv.things hv.len hv.lp
    have key : (wb t (b + 1) = b ∧ (mW t b < (los t b).length ∨ ¬ mW t b < (los t b).length ∧ (los t b).length = mW t b ∧ nW t b < (sta t b).length)) ∨ (wb t (b + 1) = wb t b ∧ mW t (b + 1) = mW t b ∧ nW t (b + 1) = nW t b ∧ ¬ mW t b < (los t b).length ∧ ¬ ((los t b).length = mW t b ∧ nW t b < (sta t b).length)) := by
      rcases Nat.eq_zero_or_pos b with h0 | h0
      · subst h0
        exact .inl ⟨wb_one, .inl (by simp only [mW, if_true]; omega)⟩
      · rw [mW_pos h0, nW_pos h0, mW_pos (j := b + 1) (by omega), nW_pos (j := b + 1) (by omega), wb]
        by_cases hb : beats t b (wb t b)
        · rw [if_pos hb]
          unfold beats at hb
          exact .inl ⟨rfl, by omega⟩
        · rw [if_neg hb]
          unfold beats at hb
          exact .inr ⟨rfl, rfl, rfl, by omega, by omega⟩
    have em : mW t (b + 1) = (los t (wb t (b + 1))).length := mW_pos (by omega)
    have en : nW t (b + 1) = (sta t (wb t (b + 1))).length := nW_pos (by omega)
    rcases key with ⟨e1, h | ⟨h1, h2, h3⟩⟩ | ⟨e1, e2, e3, h1, h2⟩
    · rw [e1] at em en
      (repeat' (first | ((with_reducible first | apply sg | apply si | apply sq | apply sd) <;> intro hb <;> (try rw [hb]) <;> (try simp only [bq, bz, dtrue, dfalse] at hb) <;> (try simp only [within] at hb) <;> try simp only [go_sem]) | refine And.intro (by first | exact ⟨⟩ | omega | (simp only [I64]; omega)) ?_ | (with_reducible rw [vc_draw_eq]; first | (refine CV.draw (id := 11) sF10w_f54_11 mixed rfl (by kernel_rfl) ?_; delta sF10w_f54_11)) | ((with_reducible first | refine vp h72 ?_ ?_ | refine dc h72 ?_ ?_); focus (first | exact ⟨rfl, .inl ⟨by first | rfl | (simp only [go_sem, hlt', h, List.length_map, AV.pureL, AV.pure]; done), by first | (simp only [go_sem, hlt', h, List.length_map, AV.pureL, AV.pure]; done) | rfl⟩⟩ | exact ⟨rfl, .inr ⟨rfl, by simp only [go_sem, hlt', h, List.length_map]⟩⟩)) | ((with_reducible first | refine dp h72 ?_ ?_); focus (exact ⟨rfl, by first | rfl | (simp only [go_sem, hlt', h, List.length_map, AV.pureL, AV.pure]; done), by first | (simp only [go_sem, hlt', h, List.length_map, AV.pureL, AV.pure]; done) | rfl⟩)) | ((with_reducible first | refine ds h72 ?_ ?_); focus exact ⟨rfl, rfl⟩) | (simp only [go_sem, hlt', h, List.length_map])))
      exact (by (first | exact wk_same (by simp only [go_sem, Int.natCast_add, cn, Int.cast_ofNat_Int, e1, em, en]) | (refine wk_drop ?_ ?_ ?_ ?_ ?_ <;> simp only [go_sem, Int.natCast_add, cn, Int.cast_ofNat_Int, e1, em, en])))
    · rw [e1] at em en
      have h2' := eq_true h2
      (repeat' (first | ((with_reducible first | apply sg | apply si | apply sq | apply sd) <;> intro hb <;> (try rw [hb]) <;> (try simp only [bq, bz, dtrue, dfalse] at hb) <;> (try simp only [within] at hb) <;> try simp only [go_sem]) | refine And.intro (by first | exact ⟨⟩ | omega | (simp only [I64]; omega)) ?_ | (with_reducible rw [vc_draw_eq]; first | (refine CV.draw (id := 11) sF10w_f54_11 mixed rfl (by kernel_rfl) ?_; delta sF10w_f54_11)) | ((with_reducible first | refine vp h72 ?_ ?_ | refine dc h72 ?_ ?_); focus (first | exact ⟨rfl, .inl ⟨by first | rfl | (simp only [go_sem, hlt', h1, h2', h3, List.length_map, AV.pureL, AV.pure]; done), by first | (simp only [go_sem, hlt', h1, h2', h3, List.length_map, AV.pureL, AV.pure]; done) | rfl⟩⟩ | exact ⟨rfl, .inr ⟨rfl, by simp only [go_sem, hlt', h1, h2', h3, List.length_map]⟩⟩)) | ((with_reducible first | refine dp h72 ?_ ?_); focus (exact ⟨rfl, by first | rfl | (simp only [go_sem, hlt', h1, h2', h3, List.length_map, AV.pureL, AV.pure]; done), by first | (simp only [go_sem, hlt', h1, h2', h3, List.length_map, AV.pureL, AV.pure]; done) | rfl⟩)) | ((with_reducible first | refine ds h72 ?_ ?_); focus exact ⟨rfl, rfl⟩) | (simp only [go_sem, hlt', h1, h2', h3, List.length_map])))
      exact (by (first | exact wk_same (by simp only [go_sem, Int.natCast_add, cn, Int.cast_ofNat_Int, e1, em, en]) | (refine wk_drop ?_ ?_ ?_ ?_ ?_ <;> simp only [go_sem, Int.natCast_add, cn, Int.cast_ofNat_Int, e1, em, en])))
    · by_cases h3 : ((los t b).length : Int) = mW t b
      · have h4 : ¬ nW t b < (sta t b).length := fun h => h2 ⟨h3, h⟩
        have h3' := eq_true h3
        (repeat' (first | ((with_reducible first | apply sg | apply si | apply sq | apply sd) <;> intro hb <;> (try rw [hb]) <;> (try simp only [bq, bz, dtrue, dfalse] at hb) <;> (try simp only [within] at hb) <;> try simp only [go_sem]) | refine And.intro (by first | exact ⟨⟩ | omega | (simp only [I64]; omega)) ?_ | (with_reducible rw [vc_draw_eq]; first | (refine CV.draw (id := 11) sF10w_f54_11 mixed rfl (by kernel_rfl) ?_; delta sF10w_f54_11)) | ((with_reducible first | refine vp h72 ?_ ?_ | refine dc h72 ?_ ?_); focus (first | exact ⟨rfl, .inl ⟨by first | rfl | (simp only [go_sem, hlt', h1, h3', h4, List.length_map, AV.pureL, AV.pure]; done), by first | (simp only [go_sem, hlt', h1, h3', h4, List.length_map, AV.pureL, AV.pure]; done) | rfl⟩⟩ | exact ⟨rfl, .inr ⟨rfl, by simp only [go_sem, hlt', h1, h3', h4, List.length_map]⟩⟩)) | ((with_reducible first | refine dp h72 ?_ ?_); focus (exact ⟨rfl, by first | rfl | (simp only [go_sem, hlt', h1, h3', h4, List.length_map, AV.pureL, AV.pure]; done), by first | (simp only [go_sem, hlt', h1, h3', h4, List.length_map, AV.pureL, AV.pure]; done) | rfl⟩)) | ((with_reducible first | refine ds h72 ?_ ?_); focus exact ⟨rfl, rfl⟩) | (simp only [go_sem, hlt', h1, h3', h4, List.length_map])))
        exact (by (first | exact wk_same (by simp only [go_sem, Int.natCast_add, cn, Int.cast_ofNat_Int, e1, e2, e3]) | (refine wk_drop ?_ ?_ ?_ ?_ ?_ <;> simp only [go_sem, Int.natCast_add, cn, Int.cast_ofNat_Int, e1, e2, e3])))
      · (repeat' (first | ((with_reducible first | apply sg | apply si | apply sq | apply sd) <;> intro hb <;> (try rw [hb]) <;> (try simp only [bq, bz, dtrue, dfalse] at hb) <;> (try simp only [within] at hb) <;> try simp only [go_sem]) | refine And.intro (by first | exact ⟨⟩ | omega | (simp only [I64]; omega)) ?_ | (with_reducible rw [vc_draw_eq]; first | (refine CV.draw (id := 11) sF10w_f54_11 mixed rfl (by kernel_rfl) ?_; delta sF10w_f54_11)) | ((with_reducible first | refine vp h72 ?_ ?_ | refine dc h72 ?_ ?_); focus (first | exact ⟨rfl, .inl ⟨by first | rfl | (simp only [go_sem, hlt', h1, h3, List.length_map, AV.pureL, AV.pure]; done), by first | (simp only [go_sem, hlt', h1, h3, List.length_map, AV.pureL, AV.pure]; done) | rfl⟩⟩ | exact ⟨rfl, .inr ⟨rfl, by simp only [go_sem, hlt', h1, h3, List.length_map]⟩⟩)) | ((with_reducible first | refine dp h72 ?_ ?_); focus (exact ⟨rfl, by first | rfl | (simp only [go_sem, hlt', h1, h3, List.length_map, AV.pureL, AV.pure]; done), by first | (simp only [go_sem, hlt', h1, h3, List.length_map, AV.pureL, AV.pure]; done) | rfl⟩)) | ((with_reducible first | refine ds h72 ?_ ?_); focus exact ⟨rfl, rfl⟩) | (simp only [go_sem, hlt', h1, h3, List.length_map])))
        exact (by (first | exact wk_same (by simp only [go_sem, Int.natCast_add, cn, Int.cast_ofNat_Int, e1, e2, e3]) | (refine wk_drop ?_ ?_ ?_ ?_ ?_ <;> simp only [go_sem, Int.natCast_add, cn, Int.cast_ofNat_Int, e1, e2, e3])))
  · have hge' : ¬ (b : Int) < t.rm.length := by omega
    have : b = t.rm.length := by omega
    subst this
    (repeat' (first | ((with_reducible first | apply sg | apply si | apply sq | apply sd) <;> intro hb <;> (try rw [hb]) <;> (try simp only [bq, bz, dtrue, dfalse] at hb) <;> (try simp only [within] at hb) <;> try simp only [go_sem]) | refine And.intro (by first | exact ⟨⟩ | omega | (simp only [I64]; omega)) ?_ | (with_reducible rw [vc_draw_eq]; first | (refine CV.draw (id := 11) sF10w_f54_11 mixed rfl (by kernel_rfl) ?_; delta sF10w_f54_11)) | (simp only [go_sem, hge', List.length_map])))
end Go.Proofs.YtjlopclpofbgbaaDoor

