/- Contracts of functions of the given program, without a condition beyond those that each theorem states; they lead to the given statement. -/
import Derived.Test.YtoadkchhimojlaaK04b
import Derived.Test.YtoadkchhimojlaaK06c
set_option linter.unusedSimpArgs false
set_option linter.unusedVariables false
set_option maxRecDepth 100000
namespace Go.Proofs.Ytoadkchhimojlaa
open Go Go.Fl
open Classical
def sK07a_f4_7 : List (Nat × Nat) := [(0, 0), (0, 0), (0, 0), (0, 0), (0, 0), (0, 0), (0, 0), (0, 0), (0, 0), (0, 0), (0, 0), (0, 0)]
set_option maxHeartbeats 1000000 in
theorem c18 : PC Try.prog 18 [] (.bool true) := by
  have h29 := c29
  have h30 := w30
  have h44 := W5.c44
  have h19 := W5.w59
  have h45 := W5.c45 [0] [0]
  have h45' := W5.c45 [1, 2, 0] [1, 2, 0]
  rw [decide_eq_true rfl] at h45 h45'
  simp only [exGa] at h29
  simp only [hG, cG, exG, lN, encM, encB, encN, List.map_cons, List.map_nil] at h30
  simp only [lN, encN, List.map_cons, List.map_nil] at h45 h45' h19
  refine PC.body Try.func18 (by kernel_rfl) rfl (by simp [Try.f18]) rfl ?_
  simp only [Try.f18]
  intro hlen
  simp only [go_sem, List.length_map, and_true, true_and] at hlen
  refine CV.run ?_
  (repeat' (first | ((with_reducible first | refine vcG_split ?_ ?_ | refine vcIf_split ?_ ?_ | refine vcQ_split ?_ ?_ | refine vcDG_split ?_ ?_) <;> intro hb <;> (try rw [hb]) <;> (try simp only [bq, bz, dtrue, dfalse] at hb) <;> (try simp only [within] at hb) <;> try (simp only [go_sem, encN])) | refine And.intro (by first | exact trivial | omega | (simp only [I64]; omega)) ?_ | ((with_reducible first | refine vp h29 ?_ ?_ | refine vp h30 ?_ ?_ | refine vp h44 ?_ ?_ | refine vp h19 ?_ ?_ | refine vp h45 ?_ ?_ | refine vp h45' ?_ ?_); focus (first | exact ⟨rfl, .inl ⟨by first | rfl | simp only [go_sem, encN, AV.pureL, AV.pure], by first | (simp only [go_sem, encN]; done) | rfl⟩⟩ | exact ⟨rfl, .inr ⟨rfl, by simp only [go_sem, encN]⟩⟩)) | (simp only [go_sem, encN])))
  all_goals trace_state
abbrev begG (h : House) (n : Int) : House := ⟨h.ms.map fun m => ⟨n, m.pace, m.stops⟩, h.bs, h.ts, h.ch⟩
theorem beg_sub {h : House} {a b : Int} (h0 : 0 ≤ a) (hab : a ≤ b) : Sub h.bs.length (begG h a) (begG h b) := by
  refine ⟨rfl, rfl, ?_, by simp, fun j m' m h1 h2 => ?_⟩
  · show h.bs = h.bs.take h.bs.length ++ h.bs.drop (h.bs.length + 1)
    rw [List.take_length, List.drop_eq_nil_of_le (by omega), List.append_nil]
  · simp only [List.getElem?_map] at h1 h2
    obtain ⟨x, hx, e1⟩ := Option.map_eq_some_iff.1 h1
    obtain ⟨y, hy, e2⟩ := Option.map_eq_some_iff.1 h2
    have : x = y := Option.some.inj (hx.symm.trans hy)
    subst this
    subst e1 e2
    exact ⟨h0, hab, rfl, rfl⟩
theorem beg_ok {h : House} (hk : okG h) {n : Int} (h0 : 0 ≤ n) (h1 : n ≤ 99) : okG (begG h n) := by
  obtain ⟨k1, k2, k3, k4, k5, k6, k7, k8⟩ := hk
  refine ⟨by simpa using k1, by simpa using k2, k3, k4, k5, fun m hm => ?_, k7, k8⟩
  obtain ⟨x, hx, rfl⟩ := List.mem_map.1 hm
  exact ⟨⟨h0, h1⟩, (k6 x hx).2.1, (k6 x hx).2.2⟩
theorem beg_le {h : House} {n : Int} (hk : okG (begG h n)) : 0 ≤ n ∧ n ≤ 99 := by
  have h1 := hk.1
  obtain ⟨m, hm⟩ := get_of (l := (begG h n).ms) (j := 0) h1
  have h2 := (hk.2.2.2.2.2.1 m (List.mem_of_getElem? hm)).1
  simp only [List.getElem?_map] at hm
  obtain ⟨x, hx, e⟩ := Option.map_eq_some_iff.1 hm
  subst e
  exact ⟨h2.1, h2.2⟩
set_option maxHeartbeats 4000000 in
theorem c4 (h : House) (o : List W5.Job) (l : List Int) : PC Try.prog 4 [hG h, W5.hS o, lN l] (.bool true) := by
  have h6 := c6 h
  have h7 := c7 h
  have h15 := W5.c15 o
  have h16 := W5.c16 o
  have h18 := c18
  by_cases q2 : farG h
  · replace h6 := h6.tru q2
    refine PC.body Try.func4 (by kernel_rfl) rfl (by simp [Try.f4]) rfl ?_
    simp only [Try.f4]
    intro hlen
    simp only [go_sem, List.length_map, and_true, true_and] at hlen
    (repeat' (first | (with_reducible refine CV.same ?_; (try subst hY); (first | refine CV.gcc 21 fun Y hY => ?_ | refine CV.gc 21 fun Y hY => ?_ | skip); refine CV.run ?_) | ((with_reducible first | refine vcG_split ?_ ?_ | refine vcIf_split ?_ ?_ | refine vcQ_split ?_ ?_ | refine vcDG_split ?_ ?_) <;> intro hb <;> (try rw [hb]) <;> (try simp only [bq, bz, dtrue, dfalse] at hb) <;> (try simp only [within] at hb) <;> try (simp only [go_sem])) | refine And.intro (by first | exact trivial | omega | (simp only [I64]; omega)) ?_ | (with_reducible rw [vc_draw_eq]; first | (refine CV.draw (id := 7) sK07a_f4_7 mixed rfl (by kernel_rfl) ?_; delta sK07a_f4_7)) | ((with_reducible first | refine vp h6 ?_ ?_ | refine dc h6 ?_ ?_ | refine vp h18 ?_ ?_ | refine dc h18 ?_ ?_); focus (first | exact ⟨rfl, .inl ⟨by first | rfl | simp only [go_sem, AV.pureL, AV.pure], by first | (simp only [go_sem]; done) | rfl⟩⟩ | exact ⟨rfl, .inr ⟨rfl, by simp only [go_sem]⟩⟩)) | ((with_reducible first | refine dp h6 ?_ ?_ | refine dp h18 ?_ ?_); focus exact ⟨rfl, by first | rfl | simp only [go_sem, AV.pureL, AV.pure], by first | (simp only [go_sem]; done) | rfl⟩) | ((with_reducible first | refine ds h6 ?_ ?_ | refine ds h18 ?_ ?_); focus exact ⟨rfl, rfl⟩) | (simp only [go_sem])))
  replace h6 := h6.fls q2
  by_cases hk : okG h
  case neg =>
    have e7 : checkG h = 40 := by unfold checkG; rw [if_neg hk]
    rw [e7] at h7
    refine PC.body Try.func4 (by kernel_rfl) rfl (by simp [Try.f4]) rfl ?_
    simp only [Try.f4]
    intro hlen
    simp only [go_sem, List.length_map, and_true, true_and] at hlen
    (repeat' (first | (with_reducible refine CV.same ?_; (try subst hY); (first | refine CV.gcc 21 fun Y hY => ?_ | refine CV.gc 21 fun Y hY => ?_ | skip); refine CV.run ?_) | ((with_reducible first | refine vcG_split ?_ ?_ | refine vcIf_split ?_ ?_ | refine vcQ_split ?_ ?_ | refine vcDG_split ?_ ?_) <;> intro hb <;> (try rw [hb]) <;> (try simp only [bq, bz, dtrue, dfalse] at hb) <;> (try simp only [within] at hb) <;> try (simp only [go_sem])) | refine And.intro (by first | exact trivial | omega | (simp only [I64]; omega)) ?_ | (with_reducible rw [vc_draw_eq]; first | (refine CV.draw (id := 7) sK07a_f4_7 mixed rfl (by kernel_rfl) ?_; delta sK07a_f4_7)) | ((with_reducible first | refine vp h6 ?_ ?_ | refine dc h6 ?_ ?_ | refine vp h7 ?_ ?_ | refine dc h7 ?_ ?_ | refine vp h18 ?_ ?_ | refine dc h18 ?_ ?_); focus (first | exact ⟨rfl, .inl ⟨by first | rfl | simp only [go_sem, AV.pureL, AV.pure], by first | (simp only [go_sem]; done) | rfl⟩⟩ | exact ⟨rfl, .inr ⟨rfl, by simp only [go_sem]⟩⟩)) | ((with_reducible first | refine dp h6 ?_ ?_ | refine dp h7 ?_ ?_ | refine dp h18 ?_ ?_); focus exact ⟨rfl, by first | rfl | simp only [go_sem, AV.pureL, AV.pure], by first | (simp only [go_sem]; done) | rfl⟩) | ((with_reducible first | refine ds h6 ?_ ?_ | refine ds h7 ?_ ?_ | refine ds h18 ?_ ?_); focus exact ⟨rfl, rfl⟩) | (simp only [go_sem])))
  have e7 : checkG h = 0 := by unfold checkG; rw [if_pos hk]
  rw [e7] at h7
  by_cases q3 : W5.far o
  · replace h15 := h15.tru q3
    refine PC.body Try.func4 (by kernel_rfl) rfl (by simp [Try.f4]) rfl ?_
    simp only [Try.f4]
    intro hlen
    simp only [go_sem, List.length_map, and_true, true_and] at hlen
    (repeat' (first | (with_reducible refine CV.same ?_; (try subst hY); (first | refine CV.gcc 21 fun Y hY => ?_ | refine CV.gc 21 fun Y hY => ?_ | skip); refine CV.run ?_) | ((with_reducible first | refine vcG_split ?_ ?_ | refine vcIf_split ?_ ?_ | refine vcQ_split ?_ ?_ | refine vcDG_split ?_ ?_) <;> intro hb <;> (try rw [hb]) <;> (try simp only [bq, bz, dtrue, dfalse] at hb) <;> (try simp only [within] at hb) <;> try (simp only [go_sem])) | refine And.intro (by first | exact trivial | omega | (simp only [I64]; omega)) ?_ | (with_reducible rw [vc_draw_eq]; first | (refine CV.draw (id := 7) sK07a_f4_7 mixed rfl (by kernel_rfl) ?_; delta sK07a_f4_7)) | ((with_reducible first | refine vp h6 ?_ ?_ | refine dc h6 ?_ ?_ | refine vp h7 ?_ ?_ | refine dc h7 ?_ ?_ | refine vp h15 ?_ ?_ | refine dc h15 ?_ ?_ | refine vp h18 ?_ ?_ | refine dc h18 ?_ ?_); focus (first | exact ⟨rfl, .inl ⟨by first | rfl | simp only [go_sem, AV.pureL, AV.pure], by first | (simp only [go_sem]; done) | rfl⟩⟩ | exact ⟨rfl, .inr ⟨rfl, by simp only [go_sem]⟩⟩)) | ((with_reducible first | refine dp h6 ?_ ?_ | refine dp h7 ?_ ?_ | refine dp h15 ?_ ?_ | refine dp h18 ?_ ?_); focus exact ⟨rfl, by first | rfl | simp only [go_sem, AV.pureL, AV.pure], by first | (simp only [go_sem]; done) | rfl⟩) | ((with_reducible first | refine ds h6 ?_ ?_ | refine ds h7 ?_ ?_ | refine ds h15 ?_ ?_ | refine ds h18 ?_ ?_); focus exact ⟨rfl, rfl⟩) | (simp only [go_sem])))
  replace h15 := h15.fls q3
  by_cases hv : W5.valid o
  case neg =>
    have e : W5.check o = 50 := by unfold W5.check; rw [if_neg hv]
    rw [e] at h16
    refine PC.body Try.func4 (by kernel_rfl) rfl (by simp [Try.f4]) rfl ?_
    simp only [Try.f4]
    intro hlen
    simp only [go_sem, List.length_map, and_true, true_and] at hlen
    (repeat' (first | (with_reducible refine CV.same ?_; (try subst hY); (first | refine CV.gcc 21 fun Y hY => ?_ | refine CV.gc 21 fun Y hY => ?_ | skip); refine CV.run ?_) | ((with_reducible first | refine vcG_split ?_ ?_ | refine vcIf_split ?_ ?_ | refine vcQ_split ?_ ?_ | refine vcDG_split ?_ ?_) <;> intro hb <;> (try rw [hb]) <;> (try simp only [bq, bz, dtrue, dfalse] at hb) <;> (try simp only [within] at hb) <;> try (simp only [go_sem])) | refine And.intro (by first | exact trivial | omega | (simp only [I64]; omega)) ?_ | (with_reducible rw [vc_draw_eq]; first | (refine CV.draw (id := 7) sK07a_f4_7 mixed rfl (by kernel_rfl) ?_; delta sK07a_f4_7)) | ((with_reducible first | refine vp h6 ?_ ?_ | refine dc h6 ?_ ?_ | refine vp h7 ?_ ?_ | refine dc h7 ?_ ?_ | refine vp h15 ?_ ?_ | refine dc h15 ?_ ?_ | refine vp h16 ?_ ?_ | refine dc h16 ?_ ?_ | refine vp h18 ?_ ?_ | refine dc h18 ?_ ?_); focus (first | exact ⟨rfl, .inl ⟨by first | rfl | simp only [go_sem, AV.pureL, AV.pure], by first | (simp only [go_sem]; done) | rfl⟩⟩ | exact ⟨rfl, .inr ⟨rfl, by simp only [go_sem]⟩⟩)) | ((with_reducible first | refine dp h6 ?_ ?_ | refine dp h7 ?_ ?_ | refine dp h15 ?_ ?_ | refine dp h16 ?_ ?_ | refine dp h18 ?_ ?_); focus exact ⟨rfl, by first | rfl | simp only [go_sem, AV.pureL, AV.pure], by first | (simp only [go_sem]; done) | rfl⟩) | ((with_reducible first | refine ds h6 ?_ ?_ | refine ds h7 ?_ ?_ | refine ds h15 ?_ ?_ | refine ds h16 ?_ ?_ | refine ds h18 ?_ ?_); focus exact ⟨rfl, rfl⟩) | (simp only [go_sem])))
  have e : W5.check o = 0 := by unfold W5.check; rw [if_pos hv]
  rw [e] at h16
  have hv6 := hv.1
  by_cases hl : l.length = o.length
  case neg =>
    have hl' : ¬ (l.length : Int) = o.length := by omega
    refine PC.body Try.func4 (by kernel_rfl) rfl (by simp [Try.f4]) rfl ?_
    simp only [Try.f4]
    intro hlen
    simp only [go_sem, List.length_map, and_true, true_and] at hlen
    (repeat' (first | (with_reducible refine CV.same ?_; (try subst hY); (first | refine CV.gcc 21 fun Y hY => ?_ | refine CV.gc 21 fun Y hY => ?_ | skip); refine CV.run ?_) | ((with_reducible first | refine vcG_split ?_ ?_ | refine vcIf_split ?_ ?_ | refine vcQ_split ?_ ?_ | refine vcDG_split ?_ ?_) <;> intro hb <;> (try rw [hb]) <;> (try simp only [bq, bz, dtrue, dfalse] at hb) <;> (try simp only [within] at hb) <;> try (simp only [go_sem, List.length_map, hl'])) | refine And.intro (by first | exact trivial | omega | (simp only [I64]; omega)) ?_ | (with_reducible rw [vc_draw_eq]; first | (refine CV.draw (id := 7) sK07a_f4_7 mixed rfl (by kernel_rfl) ?_; delta sK07a_f4_7)) | ((with_reducible first | refine vp h6 ?_ ?_ | refine dc h6 ?_ ?_ | refine vp h7 ?_ ?_ | refine dc h7 ?_ ?_ | refine vp h15 ?_ ?_ | refine dc h15 ?_ ?_ | refine vp h16 ?_ ?_ | refine dc h16 ?_ ?_ | refine vp h18 ?_ ?_ | refine dc h18 ?_ ?_); focus (first | exact ⟨rfl, .inl ⟨by first | rfl | simp only [go_sem, List.length_map, hl', AV.pureL, AV.pure], by first | (simp only [go_sem, List.length_map, hl']; done) | rfl⟩⟩ | exact ⟨rfl, .inr ⟨rfl, by simp only [go_sem, List.length_map, hl']⟩⟩)) | ((with_reducible first | refine dp h6 ?_ ?_ | refine dp h7 ?_ ?_ | refine dp h15 ?_ ?_ | refine dp h16 ?_ ?_ | refine dp h18 ?_ ?_); focus exact ⟨rfl, by first | rfl | simp only [go_sem, List.length_map, hl', AV.pureL, AV.pure], by first | (simp only [go_sem, List.length_map, hl']; done) | rfl⟩) | ((with_reducible first | refine ds h6 ?_ ?_ | refine ds h7 ?_ ?_ | refine ds h15 ?_ ?_ | refine ds h16 ?_ ?_ | refine ds h18 ?_ ?_); focus exact ⟨rfl, rfl⟩) | (simp only [go_sem, List.length_map, hl'])))
    all_goals (exfalso; omega)
  have hl' : (l.length : Int) = o.length := by omega
  have h17 := W5.c17 o l (by omega)
  by_cases ho : W5.isOrd o.length l
  case neg =>
    replace h17 := h17.fls ho
    refine PC.body Try.func4 (by kernel_rfl) rfl (by simp [Try.f4]) rfl ?_
    simp only [Try.f4]
    intro hlen
    simp only [go_sem, List.length_map, and_true, true_and] at hlen
    (repeat' (first | (with_reducible refine CV.same ?_; (try subst hY); (first | refine CV.gcc 21 fun Y hY => ?_ | refine CV.gc 21 fun Y hY => ?_ | skip); refine CV.run ?_) | ((with_reducible first | refine vcG_split ?_ ?_ | refine vcIf_split ?_ ?_ | refine vcQ_split ?_ ?_ | refine vcDG_split ?_ ?_) <;> intro hb <;> (try rw [hb]) <;> (try simp only [bq, bz, dtrue, dfalse] at hb) <;> (try simp only [within] at hb) <;> try (simp only [go_sem, List.length_map, hl'])) | refine And.intro (by first | exact trivial | omega | (simp only [I64]; omega)) ?_ | (with_reducible rw [vc_draw_eq]; first | (refine CV.draw (id := 7) sK07a_f4_7 mixed rfl (by kernel_rfl) ?_; delta sK07a_f4_7)) | ((with_reducible first | refine vp h6 ?_ ?_ | refine dc h6 ?_ ?_ | refine vp h7 ?_ ?_ | refine dc h7 ?_ ?_ | refine vp h15 ?_ ?_ | refine dc h15 ?_ ?_ | refine vp h16 ?_ ?_ | refine dc h16 ?_ ?_ | refine vp h17 ?_ ?_ | refine dc h17 ?_ ?_ | refine vp h18 ?_ ?_ | refine dc h18 ?_ ?_); focus (first | exact ⟨rfl, .inl ⟨by first | rfl | simp only [go_sem, List.length_map, hl', AV.pureL, AV.pure], by first | (simp only [go_sem, List.length_map, hl']; done) | rfl⟩⟩ | exact ⟨rfl, .inr ⟨rfl, by simp only [go_sem, List.length_map, hl']⟩⟩)) | ((with_reducible first | refine dp h6 ?_ ?_ | refine dp h7 ?_ ?_ | refine dp h15 ?_ ?_ | refine dp h16 ?_ ?_ | refine dp h17 ?_ ?_ | refine dp h18 ?_ ?_); focus exact ⟨rfl, by first | rfl | simp only [go_sem, List.length_map, hl', AV.pureL, AV.pure], by first | (simp only [go_sem, List.length_map, hl']; done) | rfl⟩) | ((with_reducible first | refine ds h6 ?_ ?_ | refine ds h7 ?_ ?_ | refine ds h15 ?_ ?_ | refine ds h16 ?_ ?_ | refine ds h17 ?_ ?_ | refine ds h18 ?_ ?_); focus exact ⟨rfl, rfl⟩) | (simp only [go_sem, List.length_map, hl'])))
  replace h17 := h17.tru ho
  obtain ⟨hro, hrl⟩ := W5.rule_ord (s := o)
  have hrl' : ((W5.ruleV o).length : Int) = o.length := by omega
  have h19 := W5.c19 o
  have h20 := W5.c20 o
  rw [if_pos e, e] at h19 h20
  have h17' := (W5.c17 o (W5.ruleV o) (by omega)).tru hro
  have h21 := W5.c21 o (W5.ruleV o) hv hro.on (by omega)
  have h21' := W5.c21 o l hv ho.on (by omega)
  rw [W5.rule_done hv] at h21
  have hle := W5.least_le ho hl
  have hlb := W5.least_bounds hv
  have hdb := W5.done_bounds hv ho
  generalize W5.ruleV o = R at h19 h17' h21 hrl'
  generalize W5.leastM o = A at h20 h21 hle hlb
  generalize W5.done o l = B at h21' hle hdb
  have h22 := (W5.c22 A 0 B).tru ⟨hlb.1, hle⟩
  have qh : ¬ hugeG h := fun q => q2 (.inl q)
  have h23 := c23 h qh A
  have h23' := c23 h qh B
  have h7' := c7 (begG h B)
  by_cases hkB : okG (begG h B)
  case neg =>
    have e7 : checkG (begG h B) = 40 := by unfold checkG; rw [if_neg hkB]
    rw [e7] at h7'
    refine PC.body Try.func4 (by kernel_rfl) rfl (by simp [Try.f4]) rfl ?_
    simp only [Try.f4]
    intro hlen
    simp only [go_sem, List.length_map, and_true, true_and] at hlen
    (repeat' (first | (with_reducible refine CV.same ?_; (try subst hY); (first | refine CV.gcc 21 fun Y hY => ?_ | refine CV.gc 21 fun Y hY => ?_ | skip); refine CV.run ?_) | ((with_reducible first | refine vcG_split ?_ ?_ | refine vcIf_split ?_ ?_ | refine vcQ_split ?_ ?_ | refine vcDG_split ?_ ?_) <;> intro hb <;> (try rw [hb]) <;> (try simp only [bq, bz, dtrue, dfalse] at hb) <;> (try simp only [within] at hb) <;> try (simp only [go_sem, List.length_map, hl', hrl'])) | refine And.intro (by first | exact trivial | omega | (simp only [I64]; omega)) ?_ | (with_reducible rw [vc_draw_eq]; first | (refine CV.draw (id := 7) sK07a_f4_7 mixed rfl (by kernel_rfl) ?_; delta sK07a_f4_7)) | ((with_reducible first | refine vp h6 ?_ ?_ | refine dc h6 ?_ ?_ | refine vp h7 ?_ ?_ | refine dc h7 ?_ ?_ | refine vp h15 ?_ ?_ | refine dc h15 ?_ ?_ | refine vp h16 ?_ ?_ | refine dc h16 ?_ ?_ | refine vp h17 ?_ ?_ | refine dc h17 ?_ ?_ | refine vp h19 ?_ ?_ | refine dc h19 ?_ ?_ | refine vp h20 ?_ ?_ | refine dc h20 ?_ ?_ | refine vp h17' ?_ ?_ | refine dc h17' ?_ ?_ | refine vp h21 ?_ ?_ | refine dc h21 ?_ ?_ | refine vp h21' ?_ ?_ | refine dc h21' ?_ ?_ | refine vp h22 ?_ ?_ | refine dc h22 ?_ ?_ | refine vp h23 ?_ ?_ | refine dc h23 ?_ ?_ | refine vp h23' ?_ ?_ | refine dc h23' ?_ ?_ | refine vp h7' ?_ ?_ | refine dc h7' ?_ ?_ | refine vp h18 ?_ ?_ | refine dc h18 ?_ ?_); focus (first | exact ⟨rfl, .inl ⟨by first | rfl | simp only [go_sem, List.length_map, hl', hrl', AV.pureL, AV.pure], by first | (simp only [go_sem, List.length_map, hl', hrl']; done) | rfl⟩⟩ | exact ⟨rfl, .inr ⟨rfl, by simp only [go_sem, List.length_map, hl', hrl']⟩⟩)) | ((with_reducible first | refine dp h6 ?_ ?_ | refine dp h7 ?_ ?_ | refine dp h15 ?_ ?_ | refine dp h16 ?_ ?_ | refine dp h17 ?_ ?_ | refine dp h19 ?_ ?_ | refine dp h20 ?_ ?_ | refine dp h17' ?_ ?_ | refine dp h21 ?_ ?_ | refine dp h21' ?_ ?_ | refine dp h22 ?_ ?_ | refine dp h23 ?_ ?_ | refine dp h23' ?_ ?_ | refine dp h7' ?_ ?_ | refine dp h18 ?_ ?_); focus exact ⟨rfl, by first | rfl | simp only [go_sem, List.length_map, hl', hrl', AV.pureL, AV.pure], by first | (simp only [go_sem, List.length_map, hl', hrl']; done) | rfl⟩) | ((with_reducible first | refine ds h6 ?_ ?_ | refine ds h7 ?_ ?_ | refine ds h15 ?_ ?_ | refine ds h16 ?_ ?_ | refine ds h17 ?_ ?_ | refine ds h19 ?_ ?_ | refine ds h20 ?_ ?_ | refine ds h17' ?_ ?_ | refine ds h21 ?_ ?_ | refine ds h21' ?_ ?_ | refine ds h22 ?_ ?_ | refine ds h23 ?_ ?_ | refine ds h23' ?_ ?_ | refine ds h7' ?_ ?_ | refine ds h18 ?_ ?_); focus exact ⟨rfl, rfl⟩) | (simp only [go_sem, List.length_map, hl', hrl'])))
    all_goals trace_state
  have e7 : checkG (begG h B) = 0 := by unfold checkG; rw [if_pos hkB]
  rw [e7] at h7'
  have hB := beg_le hkB
  have hkA : okG (begG h A) := beg_ok hk hlb.1 (by omega)
  have hs := beg_sub (h := h) hlb.1 hle
  have h14 := c14 (begG h A)
  have h14' := c14 (begG h B)
  have h24 := c24 (begG h A)
  have h24' := c24 (begG h B)
  simp only [fewG, if_pos hkA] at h14
  simp only [fewG, if_pos hkB] at h14'
  simp only [surG, if_pos hkA] at h24
  simp only [surG, if_pos hkB] at h24'
  have hb := hs.best hkB hkA (-1)
  have hsu : sureG (begG h B) 0 = true → sureG (begG h A) 0 = true := fun q => hs.sure hkB q
  generalize (bestG (begG h A) (-1)).2 = bA at h14 hb
  generalize (bestG (begG h B) (-1)).2 = bB at h14' hb
  generalize sureG (begG h A) 0 = sA at h24 hsu
  generalize sureG (begG h B) 0 = sB at h24' hsu
  refine PC.body Try.func4 (by kernel_rfl) rfl (by simp [Try.f4]) rfl ?_
  simp only [Try.f4]
  intro hlen
  simp only [go_sem, List.length_map, and_true, true_and] at hlen
  (repeat' (first | (with_reducible refine CV.same ?_; (try subst hY); (first | refine CV.gcc 21 fun Y hY => ?_ | refine CV.gc 21 fun Y hY => ?_ | skip); refine CV.run ?_) | ((with_reducible first | refine vcG_split ?_ ?_ | refine vcIf_split ?_ ?_ | refine vcQ_split ?_ ?_ | refine vcDG_split ?_ ?_) <;> intro hb <;> (try rw [hb]) <;> (try simp only [bq, bz, dtrue, dfalse] at hb) <;> (try simp only [within] at hb) <;> try (simp only [go_sem, List.length_map, hl', hrl'])) | refine And.intro (by first | exact trivial | omega | (simp only [I64]; omega)) ?_ | (with_reducible rw [vc_draw_eq]; first | (refine CV.draw (id := 7) sK07a_f4_7 mixed rfl (by kernel_rfl) ?_; delta sK07a_f4_7)) | ((with_reducible first | refine vp h6 ?_ ?_ | refine dc h6 ?_ ?_ | refine vp h7 ?_ ?_ | refine dc h7 ?_ ?_ | refine vp h15 ?_ ?_ | refine dc h15 ?_ ?_ | refine vp h16 ?_ ?_ | refine dc h16 ?_ ?_ | refine vp h17 ?_ ?_ | refine dc h17 ?_ ?_ | refine vp h19 ?_ ?_ | refine dc h19 ?_ ?_ | refine vp h20 ?_ ?_ | refine dc h20 ?_ ?_ | refine vp h17' ?_ ?_ | refine dc h17' ?_ ?_ | refine vp h21 ?_ ?_ | refine dc h21 ?_ ?_ | refine vp h21' ?_ ?_ | refine dc h21' ?_ ?_ | refine vp h22 ?_ ?_ | refine dc h22 ?_ ?_ | refine vp h23 ?_ ?_ | refine dc h23 ?_ ?_ | refine vp h23' ?_ ?_ | refine dc h23' ?_ ?_ | refine vp h7' ?_ ?_ | refine dc h7' ?_ ?_ | refine vp h14 ?_ ?_ | refine dc h14 ?_ ?_ | refine vp h14' ?_ ?_ | refine dc h14' ?_ ?_ | refine vp h24 ?_ ?_ | refine dc h24 ?_ ?_ | refine vp h24' ?_ ?_ | refine dc h24' ?_ ?_ | refine vp h18 ?_ ?_ | refine dc h18 ?_ ?_); focus (first | exact ⟨rfl, .inl ⟨by first | rfl | simp only [go_sem, List.length_map, hl', hrl', AV.pureL, AV.pure], by first | (simp only [go_sem, List.length_map, hl', hrl']; done) | rfl⟩⟩ | exact ⟨rfl, .inr ⟨rfl, by simp only [go_sem, List.length_map, hl', hrl']⟩⟩)) | ((with_reducible first | refine dp h6 ?_ ?_ | refine dp h7 ?_ ?_ | refine dp h15 ?_ ?_ | refine dp h16 ?_ ?_ | refine dp h17 ?_ ?_ | refine dp h19 ?_ ?_ | refine dp h20 ?_ ?_ | refine dp h17' ?_ ?_ | refine dp h21 ?_ ?_ | refine dp h21' ?_ ?_ | refine dp h22 ?_ ?_ | refine dp h23 ?_ ?_ | refine dp h23' ?_ ?_ | refine dp h7' ?_ ?_ | refine dp h14 ?_ ?_ | refine dp h14' ?_ ?_ | refine dp h24 ?_ ?_ | refine dp h24' ?_ ?_ | refine dp h18 ?_ ?_); focus exact ⟨rfl, by first | rfl | simp only [go_sem, List.length_map, hl', hrl', AV.pureL, AV.pure], by first | (simp only [go_sem, List.length_map, hl', hrl']; done) | rfl⟩) | ((with_reducible first | refine ds h6 ?_ ?_ | refine ds h7 ?_ ?_ | refine ds h15 ?_ ?_ | refine ds h16 ?_ ?_ | refine ds h17 ?_ ?_ | refine ds h19 ?_ ?_ | refine ds h20 ?_ ?_ | refine ds h17' ?_ ?_ | refine ds h21 ?_ ?_ | refine ds h21' ?_ ?_ | refine ds h22 ?_ ?_ | refine ds h23 ?_ ?_ | refine ds h23' ?_ ?_ | refine ds h7' ?_ ?_ | refine ds h14 ?_ ?_ | refine ds h14' ?_ ?_ | refine ds h24 ?_ ?_ | refine ds h24' ?_ ?_ | refine ds h18 ?_ ?_); focus exact ⟨rfl, rfl⟩) | (simp only [go_sem, List.length_map, hl', hrl'])))
  all_goals first
    | (exfalso; omega)
    | (rename_i hx; rw [hsu hb] at hx; cases hx)
end Go.Proofs.Ytoadkchhimojlaa

