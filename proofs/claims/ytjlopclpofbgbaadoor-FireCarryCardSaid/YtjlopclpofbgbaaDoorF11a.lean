/- Contracts of functions of the given program, without a condition beyond those that each theorem states; they lead to the given statement. -/
import Derived.Test.YtjlopclpofbgbaaDoorF10v
import Derived.Test.YtjlopclpofbgbaaDoorF10u
set_option linter.unusedSimpArgs false
set_option linter.unusedVariables false
set_option maxRecDepth 100000
namespace Go.Proofs.YtjlopclpofbgbaaDoor
open Go Go.Fl
open Classical
def sF11a_f81_3 : List (Nat × Nat) := [(0, 1), (0, 0), (0, 0), (1, 1), (1, 1), (1, 1), (0, 0)]
def sF11a_f81_8 : List (Nat × Nat) := [(0, 0), (0, 1), (0, 2), (0, 0), (0, 0), (0, 0)]
theorem h105p (l : List Int) (hl : l.length ≤ 1000) (H : Heap) : HCH Tryd.prog 105 [lN l] H fun r H' => r = .row H.length l.length ∧ H' = H ++ [.row 3 1 (l.map encN) false] := by
  refine ((h105 l hl).pure rfl H).mono ?_
  rintro r H' ⟨r0, H0, ⟨rfl, rfl⟩, rfl, rfl⟩
  exact ⟨by simp [shiftV], by simp only [List.map_cons, List.map_nil, shiftB, shift_mapN]⟩
theorem shift_gs {n k : Nat} {t : Town} : List.map (shiftL n) (gs t k) = gs t k := by
  unfold gs
  rw [List.map_map]; exact List.map_congr_left fun a _ => by simp [encG, shiftL, shiftV]
theorem pure_lstS : ∀ {S : Best}, (lstS S).pure = true
  | none => rfl
  | some x => rfl
theorem pure36 {S : Best} {a : Int} : (AV.tup [lstS S, .int .i64 a]).pure = true := by simp only [AV.pure, AV.pureL, pure_lstS]; rfl
set_option maxHeartbeats 4000000 in
theorem h81 (t : Town) (hv : validT t) (mg n0 : Nat) : HCH Tryd.prog 81 [.lp 3 0] (.box 28 (cT t) false :: .box 28 (cT t) false :: .mp Tryd.prog mg 91 .u64 n0 (mG t t.ts.length) :: .box 93 [.lst false 4 (t.ts.map encT), .lst false 3 (t.ms.map encM), lN t.pl, lN t.ca, lN t.rm, .int .i64 t.mi, .row 4 t.ts.length, .mp mg] false :: .row 89 3 (gs t t.ts.length) false :: []) fun r H' => r = .tup [lstS (remT t), .agg [.int .i64 (pS (remT t)), .int .i64 (qS (remT t))], .int .i64 (eS (remT t))] ∧ ∃ junk, H' = .box 28 (cT t) false :: .box 28 (cT t) false :: .mp Tryd.prog mg 91 .u64 n0 (mG t t.ts.length) :: .box 93 [.lst false 4 (t.ts.map encT), .lst false 3 (t.ms.map encM), lN t.pl, lN t.ca, lN t.rm, .int .i64 t.mi, .row 4 t.ts.length, .mp mg] false :: .row 89 3 (gs t t.ts.length) false ::  junk := by
  have h8 := hv.len
  have hpl := hv.lp
  have gl : (gs t t.ts.length).length = t.ts.length := gs_len
  have h106' := h106 t hv mg n0 t.ts.length [] 0 0 none t.pl [] (by simp) hpl rfl (by simp) (by omega) (by simp) (by omega) (by simp) (by rintro x h; cases h) (fun _ => eq_true trivial) (fun _ _ _ => rfl)
  have e0 : vis t t.ts.length [] 0 0 none = remT t := rfl
  rw [e0] at h106'
  have hcl := h105p t.pl (by omega)
  rw [hpl] at hcl
  simp only [lstS_n, pS_n, qS_n, eS_n, List.length_nil, List.nil_append, Int.cast_ofNat_Int, Int.natCast_zero, capR] at h106'
  refine HCH.body Tryd.func81 (by kernel_rfl) rfl (by simp [Tryd.f81]) ?_
  simp only [Tryd.f81]
  refine CV.run ?_
  (repeat' (first | ((with_reducible first | apply sg | apply si | apply sq | apply sd) <;> intro hb <;> (try rw [hb]) <;> (try simp only [bq, bz, dtrue, dfalse] at hb) <;> (try simp only [within] at hb) <;> try simp only [go_sem]) | refine And.intro (by first | exact ⟨⟩ | omega | (simp only [I64]; omega)) ?_ | (with_reducible rw [vc_draw_eq]; first | (refine CV.draw (id := 3) sF11a_f81_3 mixed rfl (by kernel_rfl) ?_; delta sF11a_f81_3) | (refine CV.draw (id := 8) sF11a_f81_8 mixed rfl (by kernel_rfl) ?_; delta sF11a_f81_8)) | (simp only [go_sem, argEnv, gl])))
  refine dCallC_here (H2 := _) rfl (hcl _) ?_
  (repeat' (first | ((with_reducible first | apply sg | apply si | apply sq | apply sd) <;> intro hb <;> (try rw [hb]) <;> (try simp only [bq, bz, dtrue, dfalse] at hb) <;> (try simp only [within] at hb) <;> try simp only [go_sem]) | refine And.intro (by first | exact ⟨⟩ | omega | (simp only [I64]; omega)) ?_ | (with_reducible rw [vc_draw_eq]; first | (refine CV.draw (id := 3) sF11a_f81_3 mixed rfl (by kernel_rfl) ?_; delta sF11a_f81_3) | (refine CV.draw (id := 8) sF11a_f81_8 mixed rfl (by kernel_rfl) ?_; delta sF11a_f81_8)) | (simp only [go_sem, argEnv, gl])))
  refine vcP_here h106' ?_
  rintro r H' ⟨rfl, c', junk, y1, y2, rfl⟩
  rcases remT t with _ | x
  · (repeat' (first | ((with_reducible first | apply sg | apply si | apply sq | apply sd) <;> intro hb <;> (try rw [hb]) <;> (try simp only [bq, bz, dtrue, dfalse] at hb) <;> (try simp only [within] at hb) <;> try simp only [go_sem]) | refine And.intro (by first | exact ⟨⟩ | omega | (simp only [I64]; omega)) ?_ | (with_reducible rw [vc_draw_eq]; first | (refine CV.draw (id := 3) sF11a_f81_3 mixed rfl (by kernel_rfl) ?_; delta sF11a_f81_3) | (refine CV.draw (id := 8) sF11a_f81_8 mixed rfl (by kernel_rfl) ?_; delta sF11a_f81_8)) | (simp only [go_sem, argEnv, gl, lstS_n, pS_n, qS_n, eS_n])))
    all_goals first | exact ⟨_, rfl⟩ | exact frzN
  · (repeat' (first | ((with_reducible first | apply sg | apply si | apply sq | apply sd) <;> intro hb <;> (try rw [hb]) <;> (try simp only [bq, bz, dtrue, dfalse] at hb) <;> (try simp only [within] at hb) <;> try simp only [go_sem]) | refine And.intro (by first | exact ⟨⟩ | omega | (simp only [I64]; omega)) ?_ | (with_reducible rw [vc_draw_eq]; first | (refine CV.draw (id := 3) sF11a_f81_3 mixed rfl (by kernel_rfl) ?_; delta sF11a_f81_3) | (refine CV.draw (id := 8) sF11a_f81_8 mixed rfl (by kernel_rfl) ?_; delta sF11a_f81_8)) | (simp only [go_sem, argEnv, gl, lstS_s, pS_s, qS_s, eS_s])))
    all_goals first | exact ⟨_, rfl⟩ | exact frzN
theorem c34y (t : Town) (hv : validT t) : PC Tryd.prog 34 [hF t] (.tup [.int .i64 (pS (remT t)), .int .i64 (eS (remT t))]) := by
  refine PC.body Tryd.func34 (by kernel_rfl) rfl (by simp [Tryd.f34]) rfl ?_
  simp only [Tryd.f34]
  intro hlen
  simp only [go_sem, List.length_map, and_true, true_and] at hlen
  refine CV.run ?_
  (repeat' (first | ((with_reducible first | apply sg | apply si | apply sq | apply sd) <;> intro hb <;> (try rw [hb]) <;> (try simp only [bq, bz, dtrue, dfalse] at hb) <;> (try simp only [within] at hb) <;> try simp only [go_sem]) | refine And.intro (by first | exact ⟨⟩ | omega | (simp only [I64]; omega)) ?_ | (simp only [go_sem])))
  refine vcP_raw (((h67 t hv).pure rfl _).mono ?_)
  rintro r H' ⟨r0, H0, ⟨mg, n0, rfl, rfl⟩, rfl, rfl⟩
  have h81' := h81 t hv mg n0
  (repeat' (first | ((with_reducible first | apply sg | apply si | apply sq | apply sd) <;> intro hb <;> (try rw [hb]) <;> (try simp only [bq, bz, dtrue, dfalse] at hb) <;> (try simp only [within] at hb) <;> try simp only [go_sem]) | refine And.intro (by first | exact ⟨⟩ | omega | (simp only [I64]; omega)) ?_ | (simp only [go_sem, shift_gs, shiftV, shiftL, shiftB, List.map_cons, List.map_nil, List.length_cons, List.length_nil, List.cons_append, List.nil_append])))
  refine vcP_here h81' ?_
  rintro r H' ⟨rfl, junk, rfl⟩
  rcases remT t with _ | x
  · (repeat' (first | ((with_reducible first | apply sg | apply si | apply sq | apply sd) <;> intro hb <;> (try rw [hb]) <;> (try simp only [bq, bz, dtrue, dfalse] at hb) <;> (try simp only [within] at hb) <;> try simp only [go_sem]) | refine And.intro (by first | exact ⟨⟩ | omega | (simp only [I64]; omega)) ?_ | (simp only [go_sem, getEnd, setEnd, lstS_n, pS_n, qS_n, eS_n])))
    all_goals first | exact ⟨_, rfl⟩ | exact frzN
  · (repeat' (first | ((with_reducible first | apply sg | apply si | apply sq | apply sd) <;> intro hb <;> (try rw [hb]) <;> (try simp only [bq, bz, dtrue, dfalse] at hb) <;> (try simp only [within] at hb) <;> try simp only [go_sem]) | refine And.intro (by first | exact ⟨⟩ | omega | (simp only [I64]; omega)) ?_ | (simp only [go_sem, getEnd, setEnd, lstS_s, pS_s, qS_s, eS_s])))
    all_goals first | exact ⟨_, rfl⟩ | exact frzN
theorem c36y (t : Town) (hv : validT t) : PC Tryd.prog 36 [hF t] (.tup [lstS (remT t), .int .i64 (eS (remT t))]) := by
  refine PC.body Tryd.func36 (by kernel_rfl) rfl (by simp [Tryd.f36]) pure36 ?_
  simp only [Tryd.f36]
  intro hlen
  simp only [go_sem, List.length_map, and_true, true_and] at hlen
  refine CV.run ?_
  (repeat' (first | ((with_reducible first | apply sg | apply si | apply sq | apply sd) <;> intro hb <;> (try rw [hb]) <;> (try simp only [bq, bz, dtrue, dfalse] at hb) <;> (try simp only [within] at hb) <;> try simp only [go_sem]) | refine And.intro (by first | exact ⟨⟩ | omega | (simp only [I64]; omega)) ?_ | (simp only [go_sem])))
  refine vcP_raw (((h67 t hv).pure rfl _).mono ?_)
  rintro r H' ⟨r0, H0, ⟨mg, n0, rfl, rfl⟩, rfl, rfl⟩
  have h81' := h81 t hv mg n0
  (repeat' (first | ((with_reducible first | apply sg | apply si | apply sq | apply sd) <;> intro hb <;> (try rw [hb]) <;> (try simp only [bq, bz, dtrue, dfalse] at hb) <;> (try simp only [within] at hb) <;> try simp only [go_sem]) | refine And.intro (by first | exact ⟨⟩ | omega | (simp only [I64]; omega)) ?_ | (simp only [go_sem, shift_gs, shiftV, shiftL, shiftB, List.map_cons, List.map_nil, List.length_cons, List.length_nil, List.cons_append, List.nil_append])))
  refine vcP_here h81' ?_
  rintro r H' ⟨rfl, junk, rfl⟩
  rcases remT t with _ | x
  · (repeat' (first | ((with_reducible first | apply sg | apply si | apply sq | apply sd) <;> intro hb <;> (try rw [hb]) <;> (try simp only [bq, bz, dtrue, dfalse] at hb) <;> (try simp only [within] at hb) <;> try simp only [go_sem]) | refine And.intro (by first | exact ⟨⟩ | omega | (simp only [I64]; omega)) ?_ | (simp only [go_sem, getEnd, setEnd, lstS_n, pS_n, qS_n, eS_n])))
    all_goals first | exact ⟨_, rfl⟩ | exact frzN
  · (repeat' (first | ((with_reducible first | apply sg | apply si | apply sq | apply sd) <;> intro hb <;> (try rw [hb]) <;> (try simp only [bq, bz, dtrue, dfalse] at hb) <;> (try simp only [within] at hb) <;> try simp only [go_sem]) | refine And.intro (by first | exact ⟨⟩ | omega | (simp only [I64]; omega)) ?_ | (simp only [go_sem, getEnd, setEnd, lstS_s, pS_s, qS_s, eS_s])))
    all_goals first | exact ⟨_, rfl⟩ | exact frzN
end Go.Proofs.YtjlopclpofbgbaaDoor

