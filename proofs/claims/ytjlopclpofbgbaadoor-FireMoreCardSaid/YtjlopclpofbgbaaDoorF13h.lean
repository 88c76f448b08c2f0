/- Contracts of functions of the given program, without a condition beyond those that each theorem states; they lead to the given statement. -/
import Derived.Test.YtjlopclpofbgbaaDoorF11b
set_option linter.unusedSimpArgs false
set_option linter.unusedVariables false
set_option maxRecDepth 100000
namespace Go.Proofs.YtjlopclpofbgbaaDoor
open Go Go.Fl
open Classical
def sF13h_f64_1 : List (Nat × Nat) := [(0, 0), (0, 0), (0, 0), (0, 0), (0, 1), (0, 1), (0, 1), (0, 0), (2, 2), (0, 0)]
def sF13h_f19_1 : List (Nat × Nat) := [(0, 0), (0, 0), (0, 0), (0, 1), (0, 1), (0, 1), (0, 0), (0, 2), (0, 2), (0, 2), (0, 0), (0, 3), (0, 3), (0, 3), (0, 0), (0, 4), (0, 4), (4, 4), (0, 0)]
theorem shift_mapT {n : Nat} {l : List Thing} : List.map (shiftL n) (List.map encT l) = List.map encT l := by
  rw [List.map_map]; exact List.map_congr_left fun a _ => by simp [encT, shiftL, shiftV]
theorem shift_mapM {n : Nat} {l : List Mark} : List.map (shiftL n) (List.map encM l) = List.map encM l := by
  rw [List.map_map]; exact List.map_congr_left fun a _ => by simp [encM, shiftL, shiftV]
theorem sub_mapT {b n : Nat} {v : AV} {l : List Thing} : List.map (subL b n v) (List.map encT l) = List.map encT l := by
  rw [List.map_map]; exact List.map_congr_left fun a _ => by simp [encT, subL, subV]
theorem sub_mapM {b n : Nat} {v : AV} {l : List Mark} : List.map (subL b n v) (List.map encM l) = List.map encM l := by
  rw [List.map_map]; exact List.map_congr_left fun a _ => by simp [encM, subL, subV]
attribute [go_sem] shift_mapT shift_mapM sub_mapT sub_mapM
abbrev cpH (n : Nat) (ts : List Thing) (ms : List Mark) : Heap := [.box 25 [.lst false 4 (ts.map encT), .lst false 3 (ms.map encM)] false, .box 25 [.row (n + 2) ts.length, .row (n + 3) ms.length] false, .row 68 4 (ts.map encT) false, .row 59 3 (ms.map encM) false]
theorem h64 (ts : List Thing) (ms : List Mark) (h1 : ts.length ≤ 41) (h2 : ms.length ≤ 41) : HCH Tryd.prog 64 [hT ts ms] [] fun r H' => r = .agg [.row 2 ts.length, .row 3 ms.length] ∧ H' = cpH 0 ts ms := by
  refine HCH.body Tryd.func64 (by kernel_rfl) rfl (by simp [Tryd.f64]) ?_
  simp only [Tryd.f64]
  refine CV.run ?_
  (repeat' (first | ((with_reducible first | apply sg | apply si | apply sq | apply sd) <;> intro hb <;> (try rw [hb]) <;> (try simp only [bq, bz, dtrue, dfalse] at hb) <;> (try simp only [within] at hb) <;> try simp only [go_sem]) | refine And.intro (by first | exact ⟨⟩ | omega | (simp only [I64]; omega)) ?_ | (with_reducible rw [vc_draw_eq]; first | (refine CV.draw (id := 1) sF13h_f64_1 mixed rfl (by kernel_rfl) ?_; delta sF13h_f64_1)) | (simp only [go_sem, List.nil_append])))
  all_goals exact ⟨⟨by omega, by omega, .inl trivial⟩, by omega, by omega, .inl trivial⟩
theorem h64p (ts : List Thing) (ms : List Mark) (h1 : ts.length ≤ 41) (h2 : ms.length ≤ 41) (H : Heap) : HCH Tryd.prog 64 [hT ts ms] H fun r H' => r = .agg [.row (H.length + 2) ts.length, .row (H.length + 3) ms.length] ∧ H' = H ++ cpH H.length ts ms := by
  refine ((h64 ts ms h1 h2).pure rfl H).mono ?_
  rintro r H' ⟨r0, H0, ⟨rfl, rfl⟩, rfl, rfl⟩
  exact ⟨by simp [shiftV, shiftL], by simp only [List.map_cons, List.map_nil, shiftB, shift_mapT, shift_mapM, shiftL, shiftV, Nat.zero_add, Nat.add_comm]⟩
abbrev cpC (t : Town) : List AV := [.row 4 t.ts.length, .row 5 t.ms.length, .row 6 t.pl.length, .row 7 t.ca.length, .row 8 t.rm.length, .int .i64 t.mi]
abbrev cpT (t : Town) : Heap := .box 28 (cT t) false :: .box 28 (cpC t) false :: (cpH 2 t.ts t.ms ++ [.row 3 1 (t.pl.map encN) false, .row 3 1 (t.ca.map encN) false, .row 3 1 (t.rm.map encN) false])
set_option maxHeartbeats 1000000 in
theorem h19 (t : Town) (h : ¬ hugeT t) : HCH Tryd.prog 19 [hF t] [] fun r H' => r = .agg (cpC t) ∧ H' = cpT t := by
  have nh := not_huge h
  have hcl := h64p t.ts t.ms (by omega) (by omega)
  refine HCH.body Tryd.func19 (by kernel_rfl) rfl (by simp [Tryd.f19]) ?_
  simp only [Tryd.f19]
  refine CV.run ?_
  (repeat' (first | ((with_reducible first | apply sg | apply si | apply sq | apply sd) <;> intro hb <;> (try rw [hb]) <;> (try simp only [bq, bz, dtrue, dfalse] at hb) <;> (try simp only [within] at hb) <;> try simp only [go_sem]) | refine And.intro (by first | exact ⟨⟩ | omega | (simp only [I64]; omega)) ?_ | (with_reducible rw [vc_draw_eq]; first | (refine CV.draw (id := 1) sF13h_f19_1 mixed rfl (by kernel_rfl) ?_; delta sF13h_f19_1)) | (simp only [go_sem, List.nil_append])))
  refine dCallC_here (H2 := _) rfl (hcl _) ?_
  (repeat' (first | ((with_reducible first | apply sg | apply si | apply sq | apply sd) <;> intro hb <;> (try rw [hb]) <;> (try simp only [bq, bz, dtrue, dfalse] at hb) <;> (try simp only [within] at hb) <;> try simp only [go_sem]) | refine And.intro (by first | exact ⟨⟩ | omega | (simp only [I64]; omega)) ?_ | (with_reducible rw [vc_draw_eq]; first | (refine CV.draw (id := 1) sF13h_f19_1 mixed rfl (by kernel_rfl) ?_; delta sF13h_f19_1)) | (simp only [go_sem, List.nil_append])))
  all_goals exact ⟨⟨by omega, by omega, .inl trivial⟩, ⟨by omega, by omega, .inl trivial⟩, ⟨by omega, by omega, .inl trivial⟩, rfl⟩
end Go.Proofs.YtjlopclpofbgbaaDoor

