/- Contracts of functions of the given program, without a condition beyond those that each theorem states; they lead to the given statement. -/
import Derived.Test.YtoadkchhimojlaaK01k
import Derived.Test.YtoadkchhimojlaaK02s
set_option linter.unusedSimpArgs false
set_option linter.unusedVariables false
set_option maxRecDepth 100000
namespace Go.Proofs.Ytoadkchhimojlaa
open Go Go.Fl
open Classical
def sK03a_f9_1 : List (Nat × Nat) := [(0, 0), (0, 0), (0, 0), (0, 0), (0, 1), (0, 1), (0, 1), (0, 0), (0, 2), (0, 2), (0, 2), (0, 0), (0, 3), (0, 3), (3, 3), (0, 0)]
def sK03a_f29_3 : List (Nat × Nat) := [(0, 0), (0, 0), (0, 0), (0, 0), (0, 0)]
def sK03a_f29_4 : List (Nat × Nat) := [(0, 0), (0, 1), (0, 0), (0, 0)]
theorem not_hugeG {h : House} (q : ¬ hugeG h) : h.ms.length ≤ 40 ∧ h.bs.length ≤ 40 ∧ h.ts.length ≤ 40 := by unfold hugeG at q; omega
theorem shift_mapM {n : Nat} {l : List Mach} : List.map (shiftL n) (List.map encM l) = List.map encM l := by
  rw [List.map_map]; exact List.map_congr_left fun a _ => by simp [encM, shiftL, shiftV]
theorem shift_mapB {n : Nat} {l : List Bun} : List.map (shiftL n) (List.map encB l) = List.map encB l := by
  rw [List.map_map]; exact List.map_congr_left fun a _ => by simp [encB, shiftL, shiftV]
theorem sub_mapM {b n : Nat} {v : AV} {l : List Mach} : List.map (subL b n v) (List.map encM l) = List.map encM l := by
  rw [List.map_map]; exact List.map_congr_left fun a _ => by simp [encM, subL, subV]
theorem sub_mapB {b n : Nat} {v : AV} {l : List Bun} : List.map (subL b n v) (List.map encB l) = List.map encB l := by
  rw [List.map_map]; exact List.map_congr_left fun a _ => by simp [encB, subL, subV]
attribute [go_sem] shift_mapM shift_mapB sub_mapM sub_mapB
abbrev gpC (h : House) : List AV := [.row 2 h.ms.length, .row 3 h.bs.length, .row 4 h.ts.length, .int .i64 h.ch]
abbrev gpH (h : House) : Heap := [.box 30 (cG h) false, .box 30 (gpC h) false, .row 62 3 (h.ms.map encM) false, .row 44 3 (h.bs.map encB) false, .row 3 1 (h.ts.map encN) false]
theorem h9 (h : House) (q : ¬ hugeG h) : HCH Try.prog 9 [hG h] [] fun r H' => r = .agg (gpC h) ∧ H' = gpH h := by
  have nh := not_hugeG q
  refine HCH.body Try.func9 (by kernel_rfl) rfl (by simp [Try.f9]) ?_
  simp only [Try.f9]
  refine CV.run ?_
  (repeat' (first | ((with_reducible first | refine vcG_split ?_ ?_ | refine vcIf_split ?_ ?_ | refine vcQ_split ?_ ?_ | refine vcDG_split ?_ ?_) <;> intro hb <;> (try rw [hb]) <;> (try simp only [bq, bz, dtrue, dfalse] at hb) <;> (try simp only [within] at hb) <;> try (simp only [go_sem, List.nil_append])) | refine And.intro (by first | exact trivial | omega | (simp only [I64]; omega)) ?_ | (with_reducible rw [vc_draw_eq]; first | (refine CV.draw (id := 1) sK03a_f9_1 mixed rfl (by kernel_rfl) ?_; delta sK03a_f9_1)) | (simp only [go_sem, List.nil_append])))
  exact ⟨⟨by omega, by omega, .inl trivial⟩, ⟨by omega, by omega, .inl trivial⟩, by omega, by omega, .inl trivial⟩
theorem c56 (a b c : Int) : PC Try.prog 56 [.int .i64 a, .int .i64 b, .int .i64 c] (.agg [.int .i64 a, .int .i64 b, .int .i64 c]) := by
  refine PC.body Try.func56 (by kernel_rfl) rfl (by simp [Try.f56]) rfl ?_
  simp only [Try.f56]
  intro hlen
  simp only [go_sem, List.length_map, and_true, true_and] at hlen
  refine CV.run ?_
  (repeat' (first | ((with_reducible first | refine vcG_split ?_ ?_ | refine vcIf_split ?_ ?_ | refine vcQ_split ?_ ?_ | refine vcDG_split ?_ ?_) <;> intro hb <;> (try rw [hb]) <;> (try simp only [bq, bz, dtrue, dfalse] at hb) <;> (try simp only [within] at hb) <;> try (simp only [go_sem])) | refine And.intro (by first | exact trivial | omega | (simp only [I64]; omega)) ?_ | (simp only [go_sem])))
theorem c57 (a b c : Int) : PC Try.prog 57 [.int .i64 a, .int .i64 b, .int .i64 c] (.agg [.int .i64 a, .int .i64 b, .int .i64 c]) := by
  refine PC.body Try.func57 (by kernel_rfl) rfl (by simp [Try.f57]) rfl ?_
  simp only [Try.f57]
  intro hlen
  simp only [go_sem, List.length_map, and_true, true_and] at hlen
  refine CV.run ?_
  (repeat' (first | ((with_reducible first | refine vcG_split ?_ ?_ | refine vcIf_split ?_ ?_ | refine vcQ_split ?_ ?_ | refine vcDG_split ?_ ?_) <;> intro hb <;> (try rw [hb]) <;> (try simp only [bq, bz, dtrue, dfalse] at hb) <;> (try simp only [within] at hb) <;> try (simp only [go_sem])) | refine And.intro (by first | exact trivial | omega | (simp only [I64]; omega)) ?_ | (simp only [go_sem])))
def exG : House := ⟨[⟨0, 2, 1⟩, ⟨5, 3, 0⟩], [⟨0, 4, 0⟩, ⟨1, 3, 0⟩, ⟨1, 5, 1⟩], [10, 31], 2⟩
def exGa : AV := .agg [.lst true 3 [[.int .i64 0, .int .i64 2, .int .i64 1], [.int .i64 5, .int .i64 3, .int .i64 0]], .lst true 3 [[.int .i64 0, .int .i64 4, .int .i64 0], [.int .i64 1, .int .i64 3, .int .i64 0], [.int .i64 1, .int .i64 5, .int .i64 1]], .lst true 1 [[.int .i64 10], [.int .i64 31]], .int .i64 2]
def exH2 : House := ⟨[⟨0, 2, 0⟩, ⟨5, 3, 0⟩], [⟨0, 4, 0⟩, ⟨1, 3, 0⟩, ⟨1, 5, 1⟩], [10, 31], 2⟩
theorem exG_small : ¬ hugeG exG := by unfold hugeG exG; simp
theorem exG_ok : okG exG := ⟨by decide, by decide, by decide, by decide, ⟨by decide, by decide⟩, by simp [exG, okMa, within], by simp [exG, within], by simp [exG, okBu, within]⟩
set_option maxHeartbeats 1000000 in
theorem c29 : PC Try.prog 29 [] (.tup [exGa, hG exH2]) := by
  have hcp := h9 exG exG_small
  simp only [gpC, gpH, exG, encM, encB, encN, List.map_cons, List.map_nil, List.length_cons, List.length_nil] at hcp
  simp only [exGa]
  refine PC.body Try.func29 (by kernel_rfl) rfl (by simp [Try.f29]) rfl ?_
  simp only [Try.f29]
  intro hlen
  simp only [go_sem, List.length_map, and_true, true_and] at hlen
  refine CV.run ?_
  (repeat' (first | ((with_reducible first | refine vcG_split ?_ ?_ | refine vcIf_split ?_ ?_ | refine vcQ_split ?_ ?_ | refine vcDG_split ?_ ?_) <;> intro hb <;> (try rw [hb]) <;> (try simp only [bq, bz, dtrue, dfalse] at hb) <;> (try simp only [within] at hb) <;> try (simp only [go_sem])) | refine And.intro (by first | exact trivial | omega | (simp only [I64]; omega)) ?_ | (with_reducible rw [vc_draw_eq]; first | (refine CV.draw (id := 3) sK03a_f29_3 mixed rfl (by kernel_rfl) ?_; delta sK03a_f29_3) | (refine CV.draw (id := 4) sK03a_f29_4 mixed rfl (by kernel_rfl) ?_; delta sK03a_f29_4)) | ((with_reducible first | refine vp (c56 _ _ _) ?_ ?_ | refine dc (c56 _ _ _) ?_ ?_ | refine vp (c57 _ _ _) ?_ ?_ | refine dc (c57 _ _ _) ?_ ?_); focus (first | exact ⟨rfl, .inl ⟨by first | rfl | simp only [go_sem, AV.pureL, AV.pure], by first | (simp only [go_sem]; done) | rfl⟩⟩ | exact ⟨rfl, .inr ⟨rfl, by simp only [go_sem]⟩⟩)) | ((with_reducible first | refine dp (c56 _ _ _) ?_ ?_ | refine dp (c57 _ _ _) ?_ ?_); focus exact ⟨rfl, by first | rfl | simp only [go_sem, AV.pureL, AV.pure], by first | (simp only [go_sem]; done) | rfl⟩) | ((with_reducible first | refine ds (c56 _ _ _) ?_ ?_ | refine ds (c57 _ _ _) ?_ ?_); focus exact ⟨rfl, rfl⟩) | (simp only [go_sem])))
  refine vcP_new (HCH.lo hcp rfl) rfl ?_
  (repeat' (first | ((with_reducible first | refine vcG_split ?_ ?_ | refine vcIf_split ?_ ?_ | refine vcQ_split ?_ ?_ | refine vcDG_split ?_ ?_) <;> intro hb <;> (try rw [hb]) <;> (try simp only [bq, bz, dtrue, dfalse] at hb) <;> (try simp only [within] at hb) <;> try (simp only [go_sem, List.map_cons, List.map_nil, List.cons_append, List.nil_append, List.length_cons, List.length_nil, exH2, encM, encB, encN])) | refine And.intro (by first | exact trivial | omega | (simp only [I64]; omega)) ?_ | (with_reducible rw [vc_draw_eq]; first | (refine CV.draw (id := 3) sK03a_f29_3 mixed rfl (by kernel_rfl) ?_; delta sK03a_f29_3) | (refine CV.draw (id := 4) sK03a_f29_4 mixed rfl (by kernel_rfl) ?_; delta sK03a_f29_4)) | ((with_reducible first | refine vp (c56 _ _ _) ?_ ?_ | refine dc (c56 _ _ _) ?_ ?_); focus (first | exact ⟨rfl, .inl ⟨by first | rfl | simp only [go_sem, List.map_cons, List.map_nil, List.cons_append, List.nil_append, List.length_cons, List.length_nil, exH2, encM, encB, encN, AV.pureL, AV.pure], by first | (simp only [go_sem, List.map_cons, List.map_nil, List.cons_append, List.nil_append, List.length_cons, List.length_nil, exH2, encM, encB, encN]; done) | rfl⟩⟩ | exact ⟨rfl, .inr ⟨rfl, by simp only [go_sem, List.map_cons, List.map_nil, List.cons_append, List.nil_append, List.length_cons, List.length_nil, exH2, encM, encB, encN]⟩⟩)) | ((with_reducible first | refine dp (c56 _ _ _) ?_ ?_); focus exact ⟨rfl, by first | rfl | simp only [go_sem, List.map_cons, List.map_nil, List.cons_append, List.nil_append, List.length_cons, List.length_nil, exH2, encM, encB, encN, AV.pureL, AV.pure], by first | (simp only [go_sem, List.map_cons, List.map_nil, List.cons_append, List.nil_append, List.length_cons, List.length_nil, exH2, encM, encB, encN]; done) | rfl⟩) | ((with_reducible first | refine ds (c56 _ _ _) ?_ ?_); focus exact ⟨rfl, rfl⟩) | (simp only [go_sem, List.map_cons, List.map_nil, List.cons_append, List.nil_append, List.length_cons, List.length_nil, exH2, encM, encB, encN])))
end Go.Proofs.Ytoadkchhimojlaa

