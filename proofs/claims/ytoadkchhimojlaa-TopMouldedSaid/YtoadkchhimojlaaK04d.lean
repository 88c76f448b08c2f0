/- Contracts of functions of the given program, without a condition beyond those that each theorem states; they lead to the given statement. -/
import Derived.Test.YtoadkchhimojlaaK04c
set_option linter.unusedSimpArgs false
set_option linter.unusedVariables false
set_option maxRecDepth 100000
namespace Go.Proofs.Ytoadkchhimojlaa
open Go Go.Fl
open Classical
def sK04d_f3_4 : List (Nat × Nat) := [(0, 0), (0, 0), (0, 0), (0, 0), (0, 0), (0, 0), (0, 1), (0, 1), (0, 1), (0, 1), (0, 1), (99, 0), (2, 2), (0, 0)]
def sK04d_f3_5 : List (Nat × Nat) := [(0, 0), (0, 0), (0, 0), (0, 0), (0, 0), (0, 0), (0, 0), (0, 0), (0, 0), (0, 0)]
set_option maxHeartbeats 4000000 in
theorem c3 (s : W2.Shop) (h : House) (i : Int) : PC Try.prog 3 [W2.hS s, hG h, .int .i64 i] (.bool true) := by
  have h5 := W2.c5 s
  have h6 := c6 h
  have h7 := c7 h
  have h8 := c8
  by_cases q1 : W2.huge s
  · replace h5 := h5.tru q1
    refine PC.body Try.func3 (by kernel_rfl) rfl (by simp [Try.f3]) rfl ?_
    simp only [Try.f3]
    intro hlen
    simp only [go_sem, List.length_map, and_true, true_and] at hlen
    (repeat' (first | (with_reducible refine CV.same ?_; (try subst hY); (first | refine CV.gcc 19 fun Y hY => ?_ | refine CV.gc 19 fun Y hY => ?_ | skip); refine CV.run ?_) | ((with_reducible first | refine vcG_split ?_ ?_ | refine vcIf_split ?_ ?_ | refine vcQ_split ?_ ?_ | refine vcDG_split ?_ ?_) <;> intro hb <;> (try rw [hb]) <;> (try simp only [bq, bz, dtrue, dfalse] at hb) <;> (try simp only [within] at hb) <;> try (simp only [go_sem])) | refine And.intro (by first | exact trivial | omega | (simp only [I64]; omega)) ?_ | (with_reducible rw [vc_draw_eq]; first | (refine CV.draw (id := 4) sK04d_f3_4 mixed rfl (by kernel_rfl) ?_; delta sK04d_f3_4) | (refine CV.draw (id := 5) sK04d_f3_5 mixed rfl (by kernel_rfl) ?_; delta sK04d_f3_5)) | ((with_reducible first | refine vp h5 ?_ ?_ | refine dc h5 ?_ ?_ | refine vp h8 ?_ ?_ | refine dc h8 ?_ ?_); focus (first | exact ⟨rfl, .inl ⟨by first | rfl | simp only [go_sem, AV.pureL, AV.pure], by first | (simp only [go_sem]; done) | rfl⟩⟩ | exact ⟨rfl, .inr ⟨rfl, by simp only [go_sem]⟩⟩)) | ((with_reducible first | refine dp h5 ?_ ?_ | refine dp h8 ?_ ?_); focus exact ⟨rfl, by first | rfl | simp only [go_sem, AV.pureL, AV.pure], by first | (simp only [go_sem]; done) | rfl⟩) | ((with_reducible first | refine ds h5 ?_ ?_ | refine ds h8 ?_ ?_); focus exact ⟨rfl, rfl⟩) | (simp only [go_sem])))
  replace h5 := h5.fls q1
  by_cases q2 : farG h
  · replace h6 := h6.tru q2
    refine PC.body Try.func3 (by kernel_rfl) rfl (by simp [Try.f3]) rfl ?_
    simp only [Try.f3]
    intro hlen
    simp only [go_sem, List.length_map, and_true, true_and] at hlen
    (repeat' (first | (with_reducible refine CV.same ?_; (try subst hY); (first | refine CV.gcc 19 fun Y hY => ?_ | refine CV.gc 19 fun Y hY => ?_ | skip); refine CV.run ?_) | ((with_reducible first | refine vcG_split ?_ ?_ | refine vcIf_split ?_ ?_ | refine vcQ_split ?_ ?_ | refine vcDG_split ?_ ?_) <;> intro hb <;> (try rw [hb]) <;> (try simp only [bq, bz, dtrue, dfalse] at hb) <;> (try simp only [within] at hb) <;> try (simp only [go_sem])) | refine And.intro (by first | exact trivial | omega | (simp only [I64]; omega)) ?_ | (with_reducible rw [vc_draw_eq]; first | (refine CV.draw (id := 4) sK04d_f3_4 mixed rfl (by kernel_rfl) ?_; delta sK04d_f3_4) | (refine CV.draw (id := 5) sK04d_f3_5 mixed rfl (by kernel_rfl) ?_; delta sK04d_f3_5)) | ((with_reducible first | refine vp h5 ?_ ?_ | refine dc h5 ?_ ?_ | refine vp h6 ?_ ?_ | refine dc h6 ?_ ?_ | refine vp h8 ?_ ?_ | refine dc h8 ?_ ?_); focus (first | exact ⟨rfl, .inl ⟨by first | rfl | simp only [go_sem, AV.pureL, AV.pure], by first | (simp only [go_sem]; done) | rfl⟩⟩ | exact ⟨rfl, .inr ⟨rfl, by simp only [go_sem]⟩⟩)) | ((with_reducible first | refine dp h5 ?_ ?_ | refine dp h6 ?_ ?_ | refine dp h8 ?_ ?_); focus exact ⟨rfl, by first | rfl | simp only [go_sem, AV.pureL, AV.pure], by first | (simp only [go_sem]; done) | rfl⟩) | ((with_reducible first | refine ds h5 ?_ ?_ | refine ds h6 ?_ ?_ | refine ds h8 ?_ ?_); focus exact ⟨rfl, rfl⟩) | (simp only [go_sem])))
  replace h6 := h6.fls q2
  by_cases hk : okG h
  case neg =>
    have e7 : checkG h = 40 := by unfold checkG; rw [if_neg hk]
    rw [e7] at h7
    refine PC.body Try.func3 (by kernel_rfl) rfl (by simp [Try.f3]) rfl ?_
    simp only [Try.f3]
    intro hlen
    simp only [go_sem, List.length_map, and_true, true_and] at hlen
    (repeat' (first | (with_reducible refine CV.same ?_; (try subst hY); (first | refine CV.gcc 19 fun Y hY => ?_ | refine CV.gc 19 fun Y hY => ?_ | skip); refine CV.run ?_) | ((with_reducible first | refine vcG_split ?_ ?_ | refine vcIf_split ?_ ?_ | refine vcQ_split ?_ ?_ | refine vcDG_split ?_ ?_) <;> intro hb <;> (try rw [hb]) <;> (try simp only [bq, bz, dtrue, dfalse] at hb) <;> (try simp only [within] at hb) <;> try (simp only [go_sem])) | refine And.intro (by first | exact trivial | omega | (simp only [I64]; omega)) ?_ | (with_reducible rw [vc_draw_eq]; first | (refine CV.draw (id := 4) sK04d_f3_4 mixed rfl (by kernel_rfl) ?_; delta sK04d_f3_4) | (refine CV.draw (id := 5) sK04d_f3_5 mixed rfl (by kernel_rfl) ?_; delta sK04d_f3_5)) | ((with_reducible first | refine vp h5 ?_ ?_ | refine dc h5 ?_ ?_ | refine vp h6 ?_ ?_ | refine dc h6 ?_ ?_ | refine vp h7 ?_ ?_ | refine dc h7 ?_ ?_ | refine vp h8 ?_ ?_ | refine dc h8 ?_ ?_); focus (first | exact ⟨rfl, .inl ⟨by first | rfl | simp only [go_sem, AV.pureL, AV.pure], by first | (simp only [go_sem]; done) | rfl⟩⟩ | exact ⟨rfl, .inr ⟨rfl, by simp only [go_sem]⟩⟩)) | ((with_reducible first | refine dp h5 ?_ ?_ | refine dp h6 ?_ ?_ | refine dp h7 ?_ ?_ | refine dp h8 ?_ ?_); focus exact ⟨rfl, by first | rfl | simp only [go_sem, AV.pureL, AV.pure], by first | (simp only [go_sem]; done) | rfl⟩) | ((with_reducible first | refine ds h5 ?_ ?_ | refine ds h6 ?_ ?_ | refine ds h7 ?_ ?_ | refine ds h8 ?_ ?_); focus exact ⟨rfl, rfl⟩) | (simp only [go_sem])))
  have e7 : checkG h = 0 := by unfold checkG; rw [if_pos hk]
  rw [e7] at h7
  by_cases hi : 0 ≤ i ∧ i < h.bs.length
  case neg =>
    refine PC.body Try.func3 (by kernel_rfl) rfl (by simp [Try.f3]) rfl ?_
    simp only [Try.f3]
    intro hlen
    simp only [go_sem, List.length_map, and_true, true_and] at hlen
    (repeat' (first | (with_reducible refine CV.same ?_; (try subst hY); (first | refine CV.gcc 19 fun Y hY => ?_ | refine CV.gc 19 fun Y hY => ?_ | skip); refine CV.run ?_) | ((with_reducible first | refine vcG_split ?_ ?_ | refine vcIf_split ?_ ?_ | refine vcQ_split ?_ ?_ | refine vcDG_split ?_ ?_) <;> intro hb <;> (try rw [hb]) <;> (try simp only [bq, bz, dtrue, dfalse] at hb) <;> (try simp only [within] at hb) <;> try (simp only [go_sem, List.length_map])) | refine And.intro (by first | exact trivial | omega | (simp only [I64]; omega)) ?_ | (with_reducible rw [vc_draw_eq]; first | (refine CV.draw (id := 4) sK04d_f3_4 mixed rfl (by kernel_rfl) ?_; delta sK04d_f3_4) | (refine CV.draw (id := 5) sK04d_f3_5 mixed rfl (by kernel_rfl) ?_; delta sK04d_f3_5)) | ((with_reducible first | refine vp h5 ?_ ?_ | refine dc h5 ?_ ?_ | refine vp h6 ?_ ?_ | refine dc h6 ?_ ?_ | refine vp h7 ?_ ?_ | refine dc h7 ?_ ?_ | refine vp h8 ?_ ?_ | refine dc h8 ?_ ?_); focus (first | exact ⟨rfl, .inl ⟨by first | rfl | simp only [go_sem, List.length_map, AV.pureL, AV.pure], by first | (simp only [go_sem, List.length_map]; done) | rfl⟩⟩ | exact ⟨rfl, .inr ⟨rfl, by simp only [go_sem, List.length_map]⟩⟩)) | ((with_reducible first | refine dp h5 ?_ ?_ | refine dp h6 ?_ ?_ | refine dp h7 ?_ ?_ | refine dp h8 ?_ ?_); focus exact ⟨rfl, by first | rfl | simp only [go_sem, List.length_map, AV.pureL, AV.pure], by first | (simp only [go_sem, List.length_map]; done) | rfl⟩) | ((with_reducible first | refine ds h5 ?_ ?_ | refine ds h6 ?_ ?_ | refine ds h7 ?_ ?_ | refine ds h8 ?_ ?_); focus exact ⟨rfl, rfl⟩) | (simp only [go_sem, List.length_map])))
    all_goals (exfalso; omega)
  obtain ⟨j, rfl⟩ : ∃ j : Nat, i = j := ⟨i.toNat, by omega⟩
  obtain ⟨_, hj⟩ := hi
  obtain ⟨x, hx⟩ := get_of (l := h.bs) (j := j) (by omega)
  have qh : ¬ hugeG h := fun q => q2 (.inl q)
  have h9 := c9 h qh
  have hk2 := less_ok hk j
  have h10 := c10 s h q1 hk
  have h10' := c10 s (lessG h j) q1 hk2
  have h14 := c14 h
  have h14' := c14 (lessG h j)
  have hb5 := hk.2.2.2.1
  have I1 : I64 ((j : Int) + 1) = True := eq_true (by unfold I64; omega)
  have jn : ¬ (j : Int) < 0 := by omega
  have jn2 : ¬ (h.bs.length : Int) ≤ j := by omega
  have ett : ((j : Int) + 1).toNat = j + 1 := by omega
  have ltk : (List.take j (List.map encB h.bs)).length = j := by rw [List.length_take, List.length_map]; omega
  have ldr : (List.drop (j + 1) (List.map encB h.bs)).length = h.bs.length - (j + 1) := by rw [List.length_drop, List.length_map]
  have elen : (List.take j (List.map encB h.bs) ++ List.drop (j + 1) (List.map encB h.bs)).length = j + (h.bs.length - (j + 1)) := by rw [List.length_append, ltk, ldr]
  have ebs : List.take j (List.map encB h.bs) ++ List.drop (j + 1) (List.map encB h.bs) = (h.bs.take j ++ h.bs.drop (j + 1)).map encB := by rw [List.map_append, List.map_take, List.map_drop]
  have hne := fun hf => less_ne (s := s) hk hf hx
  have hbest := (less_sub hk j).best hk hk2 (-1)
  have hbd := best_bd hk (-1)
  have hbd2 := best_bd hk2 (-1)
  have haW := aW_ord s h (lessG h j)
  simp only [fewG, if_pos hk] at h14
  simp only [fewG, if_pos hk2] at h14'
  have frO : (ordS s h).fr = s.fr := rfl
  simp only [lessG] at h10' h14' hne hbest hbd2 haW
  generalize ordS s h = F at h10 hne haW frO
  generalize ordS s ⟨h.ms, h.bs.take j ++ h.bs.drop (j + 1), h.ts, h.ch⟩ = G at h10' hne haW
  generalize (bestG h (-1)).2 = bF at h14 hbest hbd
  generalize (bestG ⟨h.ms, h.bs.take j ++ h.bs.drop (j + 1), h.ts, h.ch⟩ (-1)).2 = bG at h14' hbest hbd2
  have h11 := W2.c11 F
  have h11' := W2.c11 G
  have h13 := W2.c13 F
  have h13' := W2.c13 G
  by_cases v1 : W2.valid F
  case neg =>
    have e1 : W2.check F = 20 := by unfold W2.check; rw [if_neg v1]
    rw [e1] at h11
    refine PC.body Try.func3 (by kernel_rfl) rfl (by simp [Try.f3]) rfl ?_
    simp only [Try.f3]
    intro hlen
    simp only [go_sem, List.length_map, and_true, true_and] at hlen
    (repeat' (first | (with_reducible refine CV.same ?_; (try subst hY); (first | refine CV.gcc 19 fun Y hY => ?_ | refine CV.gc 19 fun Y hY => ?_ | skip); refine CV.run ?_) | ((with_reducible first | refine vcG_split ?_ ?_ | refine vcIf_split ?_ ?_ | refine vcQ_split ?_ ?_ | refine vcDG_split ?_ ?_) <;> intro hb <;> (try rw [hb]) <;> (try simp only [bq, bz, dtrue, dfalse] at hb) <;> (try simp only [within] at hb) <;> try (simp only [go_sem, I1, jn, jn2, hj, List.length_map, ett, ltk, ldr, elen])) | refine And.intro (by first | exact trivial | omega | (simp only [I64]; omega)) ?_ | (with_reducible rw [vc_draw_eq]; first | (refine CV.draw (id := 4) sK04d_f3_4 mixed rfl (by kernel_rfl) ?_; delta sK04d_f3_4) | (refine CV.draw (id := 5) sK04d_f3_5 mixed rfl (by kernel_rfl) ?_; delta sK04d_f3_5)) | ((with_reducible first | refine vp h5 ?_ ?_ | refine dc h5 ?_ ?_ | refine vp h6 ?_ ?_ | refine dc h6 ?_ ?_ | refine vp h7 ?_ ?_ | refine dc h7 ?_ ?_ | refine vp h9 ?_ ?_ | refine dc h9 ?_ ?_); focus (first | exact ⟨rfl, .inl ⟨by first | rfl | simp only [go_sem, I1, jn, jn2, hj, List.length_map, ett, ltk, ldr, elen, AV.pureL, AV.pure], by first | (simp only [go_sem, I1, jn, jn2, hj, List.length_map, ett, ltk, ldr, elen]; done) | rfl⟩⟩ | exact ⟨rfl, .inr ⟨rfl, by simp only [go_sem, I1, jn, jn2, hj, List.length_map, ett, ltk, ldr, elen]⟩⟩)) | ((with_reducible first | refine dp h5 ?_ ?_ | refine dp h6 ?_ ?_ | refine dp h7 ?_ ?_ | refine dp h9 ?_ ?_); focus exact ⟨rfl, by first | rfl | simp only [go_sem, I1, jn, jn2, hj, List.length_map, ett, ltk, ldr, elen, AV.pureL, AV.pure], by first | (simp only [go_sem, I1, jn, jn2, hj, List.length_map, ett, ltk, ldr, elen]; done) | rfl⟩) | ((with_reducible first | refine ds h5 ?_ ?_ | refine ds h6 ?_ ?_ | refine ds h7 ?_ ?_ | refine ds h9 ?_ ?_); focus exact ⟨rfl, rfl⟩) | (simp only [go_sem, I1, jn, jn2, hj, List.length_map, ett, ltk, ldr, elen])))
    refine ⟨⟨by omega, by omega, .inl trivial⟩, by omega, ⟨by omega, by omega⟩, ?_⟩
    rw [ebs]
    (repeat' (first | (with_reducible refine CV.same ?_; (try subst hY); (first | refine CV.gcc 19 fun Y hY => ?_ | refine CV.gc 19 fun Y hY => ?_ | skip); refine CV.run ?_) | ((with_reducible first | refine vcG_split ?_ ?_ | refine vcIf_split ?_ ?_ | refine vcQ_split ?_ ?_ | refine vcDG_split ?_ ?_) <;> intro hb <;> (try rw [hb]) <;> (try simp only [bq, bz, dtrue, dfalse] at hb) <;> (try simp only [within] at hb) <;> try (simp only [go_sem])) | refine And.intro (by first | exact trivial | omega | (simp only [I64]; omega)) ?_ | (with_reducible rw [vc_draw_eq]; first | (refine CV.draw (id := 4) sK04d_f3_4 mixed rfl (by kernel_rfl) ?_; delta sK04d_f3_4) | (refine CV.draw (id := 5) sK04d_f3_5 mixed rfl (by kernel_rfl) ?_; delta sK04d_f3_5)) | ((with_reducible first | refine vp h10 ?_ ?_ | refine dc h10 ?_ ?_ | refine vp h10' ?_ ?_ | refine dc h10' ?_ ?_ | refine vp h11 ?_ ?_ | refine dc h11 ?_ ?_ | refine vp h8 ?_ ?_ | refine dc h8 ?_ ?_); focus (first | exact ⟨rfl, .inl ⟨by first | rfl | simp only [go_sem, AV.pureL, AV.pure], by first | (simp only [go_sem]; done) | rfl⟩⟩ | exact ⟨rfl, .inr ⟨rfl, by simp only [go_sem]⟩⟩)) | ((with_reducible first | refine dp h10 ?_ ?_ | refine dp h10' ?_ ?_ | refine dp h11 ?_ ?_ | refine dp h8 ?_ ?_); focus exact ⟨rfl, by first | rfl | simp only [go_sem, AV.pureL, AV.pure], by first | (simp only [go_sem]; done) | rfl⟩) | ((with_reducible first | refine ds h10 ?_ ?_ | refine ds h10' ?_ ?_ | refine ds h11 ?_ ?_ | refine ds h8 ?_ ?_); focus exact ⟨rfl, rfl⟩) | (simp only [go_sem])))
  have e1 : W2.check F = 0 := by unfold W2.check; rw [if_pos v1]
  rw [e1] at h11
  by_cases v2 : W2.valid G
  case neg =>
    have e2 : W2.check G = 20 := by unfold W2.check; rw [if_neg v2]
    rw [e2] at h11'
    refine PC.body Try.func3 (by kernel_rfl) rfl (by simp [Try.f3]) rfl ?_
    simp only [Try.f3]
    intro hlen
    simp only [go_sem, List.length_map, and_true, true_and] at hlen
    (repeat' (first | (with_reducible refine CV.same ?_; (try subst hY); (first | refine CV.gcc 19 fun Y hY => ?_ | refine CV.gc 19 fun Y hY => ?_ | skip); refine CV.run ?_) | ((with_reducible first | refine vcG_split ?_ ?_ | refine vcIf_split ?_ ?_ | refine vcQ_split ?_ ?_ | refine vcDG_split ?_ ?_) <;> intro hb <;> (try rw [hb]) <;> (try simp only [bq, bz, dtrue, dfalse] at hb) <;> (try simp only [within] at hb) <;> try (simp only [go_sem, I1, jn, jn2, hj, List.length_map, ett, ltk, ldr, elen])) | refine And.intro (by first | exact trivial | omega | (simp only [I64]; omega)) ?_ | (with_reducible rw [vc_draw_eq]; first | (refine CV.draw (id := 4) sK04d_f3_4 mixed rfl (by kernel_rfl) ?_; delta sK04d_f3_4) | (refine CV.draw (id := 5) sK04d_f3_5 mixed rfl (by kernel_rfl) ?_; delta sK04d_f3_5)) | ((with_reducible first | refine vp h5 ?_ ?_ | refine dc h5 ?_ ?_ | refine vp h6 ?_ ?_ | refine dc h6 ?_ ?_ | refine vp h7 ?_ ?_ | refine dc h7 ?_ ?_ | refine vp h9 ?_ ?_ | refine dc h9 ?_ ?_); focus (first | exact ⟨rfl, .inl ⟨by first | rfl | simp only [go_sem, I1, jn, jn2, hj, List.length_map, ett, ltk, ldr, elen, AV.pureL, AV.pure], by first | (simp only [go_sem, I1, jn, jn2, hj, List.length_map, ett, ltk, ldr, elen]; done) | rfl⟩⟩ | exact ⟨rfl, .inr ⟨rfl, by simp only [go_sem, I1, jn, jn2, hj, List.length_map, ett, ltk, ldr, elen]⟩⟩)) | ((with_reducible first | refine dp h5 ?_ ?_ | refine dp h6 ?_ ?_ | refine dp h7 ?_ ?_ | refine dp h9 ?_ ?_); focus exact ⟨rfl, by first | rfl | simp only [go_sem, I1, jn, jn2, hj, List.length_map, ett, ltk, ldr, elen, AV.pureL, AV.pure], by first | (simp only [go_sem, I1, jn, jn2, hj, List.length_map, ett, ltk, ldr, elen]; done) | rfl⟩) | ((with_reducible first | refine ds h5 ?_ ?_ | refine ds h6 ?_ ?_ | refine ds h7 ?_ ?_ | refine ds h9 ?_ ?_); focus exact ⟨rfl, rfl⟩) | (simp only [go_sem, I1, jn, jn2, hj, List.length_map, ett, ltk, ldr, elen])))
    refine ⟨⟨by omega, by omega, .inl trivial⟩, by omega, ⟨by omega, by omega⟩, ?_⟩
    rw [ebs]
    (repeat' (first | (with_reducible refine CV.same ?_; (try subst hY); (first | refine CV.gcc 19 fun Y hY => ?_ | refine CV.gc 19 fun Y hY => ?_ | skip); refine CV.run ?_) | ((with_reducible first | refine vcG_split ?_ ?_ | refine vcIf_split ?_ ?_ | refine vcQ_split ?_ ?_ | refine vcDG_split ?_ ?_) <;> intro hb <;> (try rw [hb]) <;> (try simp only [bq, bz, dtrue, dfalse] at hb) <;> (try simp only [within] at hb) <;> try (simp only [go_sem])) | refine And.intro (by first | exact trivial | omega | (simp only [I64]; omega)) ?_ | (with_reducible rw [vc_draw_eq]; first | (refine CV.draw (id := 4) sK04d_f3_4 mixed rfl (by kernel_rfl) ?_; delta sK04d_f3_4) | (refine CV.draw (id := 5) sK04d_f3_5 mixed rfl (by kernel_rfl) ?_; delta sK04d_f3_5)) | ((with_reducible first | refine vp h10 ?_ ?_ | refine dc h10 ?_ ?_ | refine vp h10' ?_ ?_ | refine dc h10' ?_ ?_ | refine vp h11 ?_ ?_ | refine dc h11 ?_ ?_ | refine vp h11' ?_ ?_ | refine dc h11' ?_ ?_ | refine vp h8 ?_ ?_ | refine dc h8 ?_ ?_); focus (first | exact ⟨rfl, .inl ⟨by first | rfl | simp only [go_sem, AV.pureL, AV.pure], by first | (simp only [go_sem]; done) | rfl⟩⟩ | exact ⟨rfl, .inr ⟨rfl, by simp only [go_sem]⟩⟩)) | ((with_reducible first | refine dp h10 ?_ ?_ | refine dp h10' ?_ ?_ | refine dp h11 ?_ ?_ | refine dp h11' ?_ ?_ | refine dp h8 ?_ ?_); focus exact ⟨rfl, by first | rfl | simp only [go_sem, AV.pureL, AV.pure], by first | (simp only [go_sem]; done) | rfl⟩) | ((with_reducible first | refine ds h10 ?_ ?_ | refine ds h10' ?_ ?_ | refine ds h11 ?_ ?_ | refine ds h11' ?_ ?_ | refine ds h8 ?_ ?_); focus exact ⟨rfl, rfl⟩) | (simp only [go_sem])))
  have e2 : W2.check G = 0 := by unfold W2.check; rw [if_pos v2]
  rw [e2] at h11'
  have h12 := W2.c12 F v1
  have hwl := W2.wl_len F
  have hwl6 : (W2.wl F).length ≤ 6 := by
    rw [hwl]; exact Nat.le_trans (List.length_filter_le _ _) v1.2.2.1
  by_cases hw : W2.aW F = []
  case pos =>
    have hwl0 : W2.wl F = [] := List.eq_nil_of_length_eq_zero (by rw [hwl, hw]; rfl)
    rw [hwl0] at h12
    refine PC.body Try.func3 (by kernel_rfl) rfl (by simp [Try.f3]) rfl ?_
    simp only [Try.f3]
    intro hlen
    simp only [go_sem, List.length_map, and_true, true_and] at hlen
    (repeat' (first | (with_reducible refine CV.same ?_; (try subst hY); (first | refine CV.gcc 19 fun Y hY => ?_ | refine CV.gc 19 fun Y hY => ?_ | skip); refine CV.run ?_) | ((with_reducible first | refine vcG_split ?_ ?_ | refine vcIf_split ?_ ?_ | refine vcQ_split ?_ ?_ | refine vcDG_split ?_ ?_) <;> intro hb <;> (try rw [hb]) <;> (try simp only [bq, bz, dtrue, dfalse] at hb) <;> (try simp only [within] at hb) <;> try (simp only [go_sem, I1, jn, jn2, hj, List.length_map, ett, ltk, ldr, elen])) | refine And.intro (by first | exact trivial | omega | (simp only [I64]; omega)) ?_ | (with_reducible rw [vc_draw_eq]; first | (refine CV.draw (id := 4) sK04d_f3_4 mixed rfl (by kernel_rfl) ?_; delta sK04d_f3_4) | (refine CV.draw (id := 5) sK04d_f3_5 mixed rfl (by kernel_rfl) ?_; delta sK04d_f3_5)) | ((with_reducible first | refine vp h5 ?_ ?_ | refine dc h5 ?_ ?_ | refine vp h6 ?_ ?_ | refine dc h6 ?_ ?_ | refine vp h7 ?_ ?_ | refine dc h7 ?_ ?_ | refine vp h9 ?_ ?_ | refine dc h9 ?_ ?_); focus (first | exact ⟨rfl, .inl ⟨by first | rfl | simp only [go_sem, I1, jn, jn2, hj, List.length_map, ett, ltk, ldr, elen, AV.pureL, AV.pure], by first | (simp only [go_sem, I1, jn, jn2, hj, List.length_map, ett, ltk, ldr, elen]; done) | rfl⟩⟩ | exact ⟨rfl, .inr ⟨rfl, by simp only [go_sem, I1, jn, jn2, hj, List.length_map, ett, ltk, ldr, elen]⟩⟩)) | ((with_reducible first | refine dp h5 ?_ ?_ | refine dp h6 ?_ ?_ | refine dp h7 ?_ ?_ | refine dp h9 ?_ ?_); focus exact ⟨rfl, by first | rfl | simp only [go_sem, I1, jn, jn2, hj, List.length_map, ett, ltk, ldr, elen, AV.pureL, AV.pure], by first | (simp only [go_sem, I1, jn, jn2, hj, List.length_map, ett, ltk, ldr, elen]; done) | rfl⟩) | ((with_reducible first | refine ds h5 ?_ ?_ | refine ds h6 ?_ ?_ | refine ds h7 ?_ ?_ | refine ds h9 ?_ ?_); focus exact ⟨rfl, rfl⟩) | (simp only [go_sem, I1, jn, jn2, hj, List.length_map, ett, ltk, ldr, elen])))
    refine ⟨⟨by omega, by omega, .inl trivial⟩, by omega, ⟨by omega, by omega⟩, ?_⟩
    rw [ebs]
    (repeat' (first | (with_reducible refine CV.same ?_; (try subst hY); (first | refine CV.gcc 19 fun Y hY => ?_ | refine CV.gc 19 fun Y hY => ?_ | skip); refine CV.run ?_) | ((with_reducible first | refine vcG_split ?_ ?_ | refine vcIf_split ?_ ?_ | refine vcQ_split ?_ ?_ | refine vcDG_split ?_ ?_) <;> intro hb <;> (try rw [hb]) <;> (try simp only [bq, bz, dtrue, dfalse] at hb) <;> (try simp only [within] at hb) <;> try (simp only [go_sem, List.length_map, List.length_nil])) | refine And.intro (by first | exact trivial | omega | (simp only [I64]; omega)) ?_ | (with_reducible rw [vc_draw_eq]; first | (refine CV.draw (id := 4) sK04d_f3_4 mixed rfl (by kernel_rfl) ?_; delta sK04d_f3_4) | (refine CV.draw (id := 5) sK04d_f3_5 mixed rfl (by kernel_rfl) ?_; delta sK04d_f3_5)) | ((with_reducible first | refine vp h10 ?_ ?_ | refine dc h10 ?_ ?_ | refine vp h10' ?_ ?_ | refine dc h10' ?_ ?_ | refine vp h11 ?_ ?_ | refine dc h11 ?_ ?_ | refine vp h11' ?_ ?_ | refine dc h11' ?_ ?_ | refine vp h12 ?_ ?_ | refine dc h12 ?_ ?_ | refine vp h8 ?_ ?_ | refine dc h8 ?_ ?_); focus (first | exact ⟨rfl, .inl ⟨by first | rfl | simp only [go_sem, List.length_map, List.length_nil, AV.pureL, AV.pure], by first | (simp only [go_sem, List.length_map, List.length_nil]; done) | rfl⟩⟩ | exact ⟨rfl, .inr ⟨rfl, by simp only [go_sem, List.length_map, List.length_nil]⟩⟩)) | ((with_reducible first | refine dp h10 ?_ ?_ | refine dp h10' ?_ ?_ | refine dp h11 ?_ ?_ | refine dp h11' ?_ ?_ | refine dp h12 ?_ ?_ | refine dp h8 ?_ ?_); focus exact ⟨rfl, by first | rfl | simp only [go_sem, List.length_map, List.length_nil, AV.pureL, AV.pure], by first | (simp only [go_sem, List.length_map, List.length_nil]; done) | rfl⟩) | ((with_reducible first | refine ds h10 ?_ ?_ | refine ds h10' ?_ ?_ | refine ds h11 ?_ ?_ | refine ds h11' ?_ ?_ | refine ds h12 ?_ ?_ | refine ds h8 ?_ ?_); focus exact ⟨rfl, rfl⟩) | (simp only [go_sem, List.length_map, List.length_nil])))
  have hwn : ¬ (W2.wl F).length = 0 := by rw [hwl]; exact fun e => hw (List.eq_nil_of_length_eq_zero e)
  have hwn' : ¬ ((W2.wl F).length : Int) = 0 := by omega
  have k1 : W2.kn F True = 0 := W2.kn0.2 ⟨v1, trivial, hw⟩
  have k2 : W2.kn G True = 0 := W2.kn0.2 ⟨v2, trivial, by rw [← haW]; exact hw⟩
  have r1 : W2.rNew F = (W2.neN F, 0) := W2.ans_yes k1
  have r2 : W2.rNew G = (W2.neN G, 0) := W2.ans_yes k2
  rw [r1] at h13
  rw [r2] at h13'
  have b1 := W2.neN_bounds v1
  have b2 := W2.neN_bounds v2
  have hne := hne (by have := v1.2.2.2.1.1; omega)
  have hbx := (hk.2.2.2.2.2.2.2 x (List.mem_of_getElem? hx)).2.1
  unfold within at hbx
  generalize W2.neN F = nF at h13 hne b1
  generalize W2.neN G = nG at h13' hne b2
  have t1 : ¬ nG < 0 := by omega
  have t2 : ¬ 100 < nF := by omega
  have t3 : ¬ nF < nG := by omega
  have t4 : ¬ bG < 0 := by omega
  have t5 : ¬ bF < bG := by omega
  have t6 : ¬ (h.ts.length : Int) < bF := by omega
  have I2 : I64 (nG + x.hund) = True := eq_true (by unfold I64; omega)
  have hxE : encB x = [.int .i64 x.train, .int .i64 x.hund, .int .i64 x.ed] := rfl
  refine PC.body Try.func3 (by kernel_rfl) rfl (by simp [Try.f3]) rfl ?_
  simp only [Try.f3]
  intro hlen
  simp only [go_sem, List.length_map, and_true, true_and] at hlen
  (repeat' (first | (with_reducible refine CV.same ?_; (try subst hY); (first | refine CV.gcc 19 fun Y hY => ?_ | refine CV.gc 19 fun Y hY => ?_ | skip); refine CV.run ?_) | ((with_reducible first | refine vcG_split ?_ ?_ | refine vcIf_split ?_ ?_ | refine vcQ_split ?_ ?_ | refine vcDG_split ?_ ?_) <;> intro hb <;> (try rw [hb]) <;> (try simp only [bq, bz, dtrue, dfalse] at hb) <;> (try simp only [within] at hb) <;> try (simp only [go_sem, I1, jn, jn2, hj, List.length_map, ett, ltk, ldr, elen])) | refine And.intro (by first | exact trivial | omega | (simp only [I64]; omega)) ?_ | (with_reducible rw [vc_draw_eq]; first | (refine CV.draw (id := 4) sK04d_f3_4 mixed rfl (by kernel_rfl) ?_; delta sK04d_f3_4) | (refine CV.draw (id := 5) sK04d_f3_5 mixed rfl (by kernel_rfl) ?_; delta sK04d_f3_5)) | ((with_reducible first | refine vp h5 ?_ ?_ | refine dc h5 ?_ ?_ | refine vp h6 ?_ ?_ | refine dc h6 ?_ ?_ | refine vp h7 ?_ ?_ | refine dc h7 ?_ ?_ | refine vp h9 ?_ ?_ | refine dc h9 ?_ ?_); focus (first | exact ⟨rfl, .inl ⟨by first | rfl | simp only [go_sem, I1, jn, jn2, hj, List.length_map, ett, ltk, ldr, elen, AV.pureL, AV.pure], by first | (simp only [go_sem, I1, jn, jn2, hj, List.length_map, ett, ltk, ldr, elen]; done) | rfl⟩⟩ | exact ⟨rfl, .inr ⟨rfl, by simp only [go_sem, I1, jn, jn2, hj, List.length_map, ett, ltk, ldr, elen]⟩⟩)) | ((with_reducible first | refine dp h5 ?_ ?_ | refine dp h6 ?_ ?_ | refine dp h7 ?_ ?_ | refine dp h9 ?_ ?_); focus exact ⟨rfl, by first | rfl | simp only [go_sem, I1, jn, jn2, hj, List.length_map, ett, ltk, ldr, elen, AV.pureL, AV.pure], by first | (simp only [go_sem, I1, jn, jn2, hj, List.length_map, ett, ltk, ldr, elen]; done) | rfl⟩) | ((with_reducible first | refine ds h5 ?_ ?_ | refine ds h6 ?_ ?_ | refine ds h7 ?_ ?_ | refine ds h9 ?_ ?_); focus exact ⟨rfl, rfl⟩) | (simp only [go_sem, I1, jn, jn2, hj, List.length_map, ett, ltk, ldr, elen])))
  refine ⟨⟨by omega, by omega, .inl trivial⟩, by omega, ⟨by omega, by omega⟩, ?_⟩
  rw [ebs]
  by_cases g1 : x.ed < s.wt.length
  · rw [if_pos g1] at hne
    have g2 : nF ≤ nG + x.hund := hne.2
    (repeat' (first | (with_reducible refine CV.same ?_; (try subst hY); (first | refine CV.gcc 19 fun Y hY => ?_ | refine CV.gc 19 fun Y hY => ?_ | skip); refine CV.run ?_) | ((with_reducible first | refine vcG_split ?_ ?_ | refine vcIf_split ?_ ?_ | refine vcQ_split ?_ ?_ | refine vcDG_split ?_ ?_) <;> intro hb <;> (try rw [hb]) <;> (try simp only [bq, bz, dtrue, dfalse] at hb) <;> (try simp only [within] at hb) <;> try (simp only [go_sem, List.length_map, hwn, hwn', t1, t2, t3, t4, t5, t6, hx, hxE, g1, g2, I2])) | refine And.intro (by first | exact trivial | omega | (simp only [I64]; omega)) ?_ | (with_reducible rw [vc_draw_eq]; first | (refine CV.draw (id := 4) sK04d_f3_4 mixed rfl (by kernel_rfl) ?_; delta sK04d_f3_4) | (refine CV.draw (id := 5) sK04d_f3_5 mixed rfl (by kernel_rfl) ?_; delta sK04d_f3_5)) | ((with_reducible first | refine vp h10 ?_ ?_ | refine dc h10 ?_ ?_ | refine vp h10' ?_ ?_ | refine dc h10' ?_ ?_ | refine vp h11 ?_ ?_ | refine dc h11 ?_ ?_ | refine vp h11' ?_ ?_ | refine dc h11' ?_ ?_ | refine vp h12 ?_ ?_ | refine dc h12 ?_ ?_ | refine vp h13 ?_ ?_ | refine dc h13 ?_ ?_ | refine vp h13' ?_ ?_ | refine dc h13' ?_ ?_ | refine vp h14 ?_ ?_ | refine dc h14 ?_ ?_ | refine vp h14' ?_ ?_ | refine dc h14' ?_ ?_ | refine vp h8 ?_ ?_ | refine dc h8 ?_ ?_); focus (first | exact ⟨rfl, .inl ⟨by first | rfl | simp only [go_sem, List.length_map, hwn, hwn', t1, t2, t3, t4, t5, t6, hx, hxE, g1, g2, I2, AV.pureL, AV.pure], by first | (simp only [go_sem, List.length_map, hwn, hwn', t1, t2, t3, t4, t5, t6, hx, hxE, g1, g2, I2]; done) | rfl⟩⟩ | exact ⟨rfl, .inr ⟨rfl, by simp only [go_sem, List.length_map, hwn, hwn', t1, t2, t3, t4, t5, t6, hx, hxE, g1, g2, I2]⟩⟩)) | ((with_reducible first | refine dp h10 ?_ ?_ | refine dp h10' ?_ ?_ | refine dp h11 ?_ ?_ | refine dp h11' ?_ ?_ | refine dp h12 ?_ ?_ | refine dp h13 ?_ ?_ | refine dp h13' ?_ ?_ | refine dp h14 ?_ ?_ | refine dp h14' ?_ ?_ | refine dp h8 ?_ ?_); focus exact ⟨rfl, by first | rfl | simp only [go_sem, List.length_map, hwn, hwn', t1, t2, t3, t4, t5, t6, hx, hxE, g1, g2, I2, AV.pureL, AV.pure], by first | (simp only [go_sem, List.length_map, hwn, hwn', t1, t2, t3, t4, t5, t6, hx, hxE, g1, g2, I2]; done) | rfl⟩) | ((with_reducible first | refine ds h10 ?_ ?_ | refine ds h10' ?_ ?_ | refine ds h11 ?_ ?_ | refine ds h11' ?_ ?_ | refine ds h12 ?_ ?_ | refine ds h13 ?_ ?_ | refine ds h13' ?_ ?_ | refine ds h14 ?_ ?_ | refine ds h14' ?_ ?_ | refine ds h8 ?_ ?_); focus exact ⟨rfl, rfl⟩) | (simp only [go_sem, List.length_map, hwn, hwn', t1, t2, t3, t4, t5, t6, hx, hxE, g1, g2, I2])))
    all_goals (exfalso; omega)
  · rw [if_neg g1] at hne
    have g2 : nF = nG := by omega
    (repeat' (first | (with_reducible refine CV.same ?_; (try subst hY); (first | refine CV.gcc 19 fun Y hY => ?_ | refine CV.gc 19 fun Y hY => ?_ | skip); refine CV.run ?_) | ((with_reducible first | refine vcG_split ?_ ?_ | refine vcIf_split ?_ ?_ | refine vcQ_split ?_ ?_ | refine vcDG_split ?_ ?_) <;> intro hb <;> (try rw [hb]) <;> (try simp only [bq, bz, dtrue, dfalse] at hb) <;> (try simp only [within] at hb) <;> try (simp only [go_sem, List.length_map, hwn, hwn', t1, t2, t3, t4, t5, t6, hx, hxE, g1, g2, I2])) | refine And.intro (by first | exact trivial | omega | (simp only [I64]; omega)) ?_ | (with_reducible rw [vc_draw_eq]; first | (refine CV.draw (id := 4) sK04d_f3_4 mixed rfl (by kernel_rfl) ?_; delta sK04d_f3_4) | (refine CV.draw (id := 5) sK04d_f3_5 mixed rfl (by kernel_rfl) ?_; delta sK04d_f3_5)) | ((with_reducible first | refine vp h10 ?_ ?_ | refine dc h10 ?_ ?_ | refine vp h10' ?_ ?_ | refine dc h10' ?_ ?_ | refine vp h11 ?_ ?_ | refine dc h11 ?_ ?_ | refine vp h11' ?_ ?_ | refine dc h11' ?_ ?_ | refine vp h12 ?_ ?_ | refine dc h12 ?_ ?_ | refine vp h13 ?_ ?_ | refine dc h13 ?_ ?_ | refine vp h13' ?_ ?_ | refine dc h13' ?_ ?_ | refine vp h14 ?_ ?_ | refine dc h14 ?_ ?_ | refine vp h14' ?_ ?_ | refine dc h14' ?_ ?_ | refine vp h8 ?_ ?_ | refine dc h8 ?_ ?_); focus (first | exact ⟨rfl, .inl ⟨by first | rfl | simp only [go_sem, List.length_map, hwn, hwn', t1, t2, t3, t4, t5, t6, hx, hxE, g1, g2, I2, AV.pureL, AV.pure], by first | (simp only [go_sem, List.length_map, hwn, hwn', t1, t2, t3, t4, t5, t6, hx, hxE, g1, g2, I2]; done) | rfl⟩⟩ | exact ⟨rfl, .inr ⟨rfl, by simp only [go_sem, List.length_map, hwn, hwn', t1, t2, t3, t4, t5, t6, hx, hxE, g1, g2, I2]⟩⟩)) | ((with_reducible first | refine dp h10 ?_ ?_ | refine dp h10' ?_ ?_ | refine dp h11 ?_ ?_ | refine dp h11' ?_ ?_ | refine dp h12 ?_ ?_ | refine dp h13 ?_ ?_ | refine dp h13' ?_ ?_ | refine dp h14 ?_ ?_ | refine dp h14' ?_ ?_ | refine dp h8 ?_ ?_); focus exact ⟨rfl, by first | rfl | simp only [go_sem, List.length_map, hwn, hwn', t1, t2, t3, t4, t5, t6, hx, hxE, g1, g2, I2, AV.pureL, AV.pure], by first | (simp only [go_sem, List.length_map, hwn, hwn', t1, t2, t3, t4, t5, t6, hx, hxE, g1, g2, I2]; done) | rfl⟩) | ((with_reducible first | refine ds h10 ?_ ?_ | refine ds h10' ?_ ?_ | refine ds h11 ?_ ?_ | refine ds h11' ?_ ?_ | refine ds h12 ?_ ?_ | refine ds h13 ?_ ?_ | refine ds h13' ?_ ?_ | refine ds h14 ?_ ?_ | refine ds h14' ?_ ?_ | refine ds h8 ?_ ?_); focus exact ⟨rfl, rfl⟩) | (simp only [go_sem, List.length_map, hwn, hwn', t1, t2, t3, t4, t5, t6, hx, hxE, g1, g2, I2])))
    all_goals (exfalso; omega)
end Go.Proofs.Ytoadkchhimojlaa

