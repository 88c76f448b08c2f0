/- Contracts of functions of the given program, without a condition beyond those that each theorem states; they lead to the given statement. -/
import Derived.Test.YtjlopclpofbgbaaDoorF13a
import Derived.Test.YtjlopclpofbgbaaDoorF12b
import Derived.Test.YtjlopclpofbgbaaDoorFlB
set_option linter.unusedSimpArgs false
set_option linter.unusedVariables false
set_option maxRecDepth 100000
namespace Go.Proofs.YtjlopclpofbgbaaDoor
open Go Go.Fl
open Classical
def sF13e_f7_8 : List (Nat × Nat) := [(0, 0), (0, 0), (0, 0), (0, 0), (0, 0), (0, 0), (0, 0), (0, 0), (0, 0), (0, 0), (0, 0)]
set_option maxHeartbeats 1000000 in
theorem c7 (t : Town) (p : Int) : PC Tryd.prog 7 [hF t, .int .i64 p] (.bool true) := by
  have h16 := c16 t
  have h17 := c17
  by_cases h0 : readyT t
  case neg =>
    replace h16 := h16.fls h0
    refine PC.body Tryd.func7 (by kernel_rfl) rfl (by simp [Tryd.f7]) rfl ?_
    simp only [Tryd.f7]
    intro hlen
    simp only [go_sem, List.length_map, and_true, true_and] at hlen
    (repeat' (first | (with_reducible refine CV.same ?_; (try subst hY); (first | refine CV.gcc 12 fun Y hY => ?_ | refine CV.gc 12 fun Y hY => ?_ | skip); refine CV.run ?_) | ((with_reducible first | refine vcG_split ?_ ?_ | refine vcIf_split ?_ ?_ | refine vcQ_split ?_ ?_ | refine vcDG_split ?_ ?_) <;> intro hb <;> (try rw [hb]) <;> (try simp only [bq, bz, dtrue, dfalse] at hb) <;> (try simp only [within] at hb) <;> try (simp only [go_sem])) | refine And.intro (by first | exact trivial | omega | (simp only [I64]; omega)) ?_ | (with_reducible rw [vc_draw_eq]; first | (refine CV.draw (id := 8) sF13e_f7_8 mixed rfl (by kernel_rfl) ?_; delta sF13e_f7_8)) | ((with_reducible first | refine vp h16 ?_ ?_ | refine dc h16 ?_ ?_ | refine vp h17 ?_ ?_ | refine dc h17 ?_ ?_); focus (first | exact ⟨rfl, .inl ⟨by first | rfl | simp only [go_sem, AV.pureL, AV.pure], by first | (simp only [go_sem]; done) | rfl⟩⟩ | exact ⟨rfl, .inr ⟨rfl, by simp only [go_sem]⟩⟩)) | ((with_reducible first | refine dp h16 ?_ ?_ | refine dp h17 ?_ ?_); focus exact ⟨rfl, by first | rfl | simp only [go_sem, AV.pureL, AV.pure], by first | (simp only [go_sem]; done) | rfl⟩) | ((with_reducible first | refine ds h16 ?_ ?_ | refine ds h17 ?_ ?_); focus exact ⟨rfl, rfl⟩) | (simp only [go_sem])))
  replace h16 := h16.tru h0
  have hv := h0.2
  have h6 := ready_six h0
  have h44 := c44 t p
  by_cases hp : isPage t p
  case neg =>
    replace h44 := h44.fls hp
    refine PC.body Tryd.func7 (by kernel_rfl) rfl (by simp [Tryd.f7]) rfl ?_
    simp only [Tryd.f7]
    intro hlen
    simp only [go_sem, List.length_map, and_true, true_and] at hlen
    (repeat' (first | (with_reducible refine CV.same ?_; (try subst hY); (first | refine CV.gcc 12 fun Y hY => ?_ | refine CV.gc 12 fun Y hY => ?_ | skip); refine CV.run ?_) | ((with_reducible first | refine vcG_split ?_ ?_ | refine vcIf_split ?_ ?_ | refine vcQ_split ?_ ?_ | refine vcDG_split ?_ ?_) <;> intro hb <;> (try rw [hb]) <;> (try simp only [bq, bz, dtrue, dfalse] at hb) <;> (try simp only [within] at hb) <;> try (simp only [go_sem])) | refine And.intro (by first | exact trivial | omega | (simp only [I64]; omega)) ?_ | (with_reducible rw [vc_draw_eq]; first | (refine CV.draw (id := 8) sF13e_f7_8 mixed rfl (by kernel_rfl) ?_; delta sF13e_f7_8)) | ((with_reducible first | refine vp h16 ?_ ?_ | refine dc h16 ?_ ?_ | refine vp h44 ?_ ?_ | refine dc h44 ?_ ?_ | refine vp h17 ?_ ?_ | refine dc h17 ?_ ?_); focus (first | exact ⟨rfl, .inl ⟨by first | rfl | simp only [go_sem, AV.pureL, AV.pure], by first | (simp only [go_sem]; done) | rfl⟩⟩ | exact ⟨rfl, .inr ⟨rfl, by simp only [go_sem]⟩⟩)) | ((with_reducible first | refine dp h16 ?_ ?_ | refine dp h44 ?_ ?_ | refine dp h17 ?_ ?_); focus exact ⟨rfl, by first | rfl | simp only [go_sem, AV.pureL, AV.pure], by first | (simp only [go_sem]; done) | rfl⟩) | ((with_reducible first | refine ds h16 ?_ ?_ | refine ds h44 ?_ ?_ | refine ds h17 ?_ ?_); focus exact ⟨rfl, rfl⟩) | (simp only [go_sem])))
  replace h44 := h44.tru hp
  have h45 := c45 t hv.things (by omega) p
  have h18 := c18y t hv
  have hLr : ∀ y, y ∈ thg t p → 0 ≤ y ∧ y < t.ts.length := fun y hy => by have := thg_mem.1 hy; omega
  have hlaw := fun (hn : thg t p ≠ []) x (h : remT t = some x) => none_law hv hp hn h
  have hLl := thg_len (t := t) (p := p)
  generalize thg t p = L at h45 hLr hlaw hLl
  refine PC.body Tryd.func7 (by kernel_rfl) rfl (by simp [Tryd.f7]) rfl ?_
  simp only [Tryd.f7]
  intro hlen
  simp only [go_sem, List.length_map, and_true, true_and] at hlen
  (repeat' (first | (with_reducible refine CV.same ?_; (try subst hY); (first | refine CV.gcc 12 fun Y hY => ?_ | refine CV.gc 12 fun Y hY => ?_ | skip); refine CV.run ?_) | ((with_reducible first | refine vcG_split ?_ ?_ | refine vcIf_split ?_ ?_ | refine vcQ_split ?_ ?_ | refine vcDG_split ?_ ?_) <;> intro hb <;> (try rw [hb]) <;> (try simp only [bq, bz, dtrue, dfalse] at hb) <;> (try simp only [within] at hb) <;> try (simp only [go_sem])) | refine And.intro (by first | exact trivial | omega | (simp only [I64]; omega)) ?_ | (with_reducible rw [vc_draw_eq]; first | (refine CV.draw (id := 8) sF13e_f7_8 mixed rfl (by kernel_rfl) ?_; delta sF13e_f7_8)) | ((with_reducible first | refine vp h16 ?_ ?_ | refine dc h16 ?_ ?_ | refine vp h44 ?_ ?_ | refine dc h44 ?_ ?_ | refine vp h45 ?_ ?_ | refine dc h45 ?_ ?_); focus (first | exact ⟨rfl, .inl ⟨by first | rfl | simp only [go_sem, AV.pureL, AV.pure], by first | (simp only [go_sem]; done) | rfl⟩⟩ | exact ⟨rfl, .inr ⟨rfl, by simp only [go_sem]⟩⟩)) | ((with_reducible first | refine dp h16 ?_ ?_ | refine dp h44 ?_ ?_ | refine dp h45 ?_ ?_); focus exact ⟨rfl, by first | rfl | simp only [go_sem, AV.pureL, AV.pure], by first | (simp only [go_sem]; done) | rfl⟩) | ((with_reducible first | refine ds h16 ?_ ?_ | refine ds h44 ?_ ?_ | refine ds h45 ?_ ?_); focus exact ⟨rfl, rfl⟩) | (simp only [go_sem])))
  refine vc_for (fun j => ⟨[(7, .int .i64 j), (6, .int .i64 (fil (fr t) (L.take j)).length), (5, lN L), (4, .bool false), (2, .lp 0 0)], [.box 28 (cT t) false]⟩) L.length (fun _ => True) (by (first | exact wk_same (by (simp only [go_sem, Int.natCast_add, cn, Int.cast_ofNat_Int, List.take_zero, fil, List.filter_nil, List.length_nil])) | (refine wk_drop ?_ ?_ ?_ ?_ ?_ <;> (simp only [go_sem, Int.natCast_add, cn, Int.cast_ofNat_Int, List.take_zero, fil, List.filter_nil, List.length_nil])))) trivial ?_
  intro j hj _
  have hfl : (fil (fr t) (L.take j)).length ≤ j := Nat.le_trans fil_len (by rw [List.length_take]; omega)
  rcases Nat.lt_or_ge j L.length with hlt | hge
  · have hlt' : (j : Int) < L.length := by omega
    obtain ⟨x, hx⟩ := get_of hlt
    have hxr := hLr x (List.mem_of_getElem? hx)
    have h46 := c46y t x hv (by unfold thing within; omega)
    by_cases b1 : fr t x
    · have e := fil_yes (q := fr t) hx b1
      rw [decide_eq_true b1] at h46
      (repeat' (first | (with_reducible refine CV.same ?_; (try subst hY); (first | refine CV.gcc 12 fun Y hY => ?_ | refine CV.gc 12 fun Y hY => ?_ | skip); refine CV.run ?_) | ((with_reducible first | refine vcG_split ?_ ?_ | refine vcIf_split ?_ ?_ | refine vcQ_split ?_ ?_ | refine vcDG_split ?_ ?_) <;> intro hb <;> (try rw [hb]) <;> (try simp only [bq, bz, dtrue, dfalse] at hb) <;> (try simp only [within] at hb) <;> try (simp only [go_sem, hlt', hx, encN, List.length_map])) | refine And.intro (by first | exact trivial | omega | (simp only [I64]; omega)) ?_ | (with_reducible rw [vc_draw_eq]; first | (refine CV.draw (id := 8) sF13e_f7_8 mixed rfl (by kernel_rfl) ?_; delta sF13e_f7_8)) | ((with_reducible first | refine vp h46 ?_ ?_ | refine dc h46 ?_ ?_); focus (first | exact ⟨rfl, .inl ⟨by first | rfl | simp only [go_sem, hlt', hx, encN, List.length_map, AV.pureL, AV.pure], by first | (simp only [go_sem, hlt', hx, encN, List.length_map]; done) | rfl⟩⟩ | exact ⟨rfl, .inr ⟨rfl, by simp only [go_sem, hlt', hx, encN, List.length_map]⟩⟩)) | ((with_reducible first | refine dp h46 ?_ ?_); focus exact ⟨rfl, by first | rfl | simp only [go_sem, hlt', hx, encN, List.length_map, AV.pureL, AV.pure], by first | (simp only [go_sem, hlt', hx, encN, List.length_map]; done) | rfl⟩) | ((with_reducible first | refine ds h46 ?_ ?_); focus exact ⟨rfl, rfl⟩) | (simp only [go_sem, hlt', hx, encN, List.length_map])))
      all_goals first
        | omega
        | exact (by (first | exact wk_same (by (simp only [go_sem, Int.natCast_add, cn, Int.cast_ofNat_Int, e, List.length_append, List.length_cons, List.length_nil])) | (refine wk_drop ?_ ?_ ?_ ?_ ?_ <;> (simp only [go_sem, Int.natCast_add, cn, Int.cast_ofNat_Int, e, List.length_append, List.length_cons, List.length_nil]))))
    · have e := fil_no (q := fr t) hx b1
      rw [decide_eq_false b1] at h46
      (repeat' (first | (with_reducible refine CV.same ?_; (try subst hY); (first | refine CV.gcc 12 fun Y hY => ?_ | refine CV.gc 12 fun Y hY => ?_ | skip); refine CV.run ?_) | ((with_reducible first | refine vcG_split ?_ ?_ | refine vcIf_split ?_ ?_ | refine vcQ_split ?_ ?_ | refine vcDG_split ?_ ?_) <;> intro hb <;> (try rw [hb]) <;> (try simp only [bq, bz, dtrue, dfalse] at hb) <;> (try simp only [within] at hb) <;> try (simp only [go_sem, hlt', hx, encN, List.length_map])) | refine And.intro (by first | exact trivial | omega | (simp only [I64]; omega)) ?_ | (with_reducible rw [vc_draw_eq]; first | (refine CV.draw (id := 8) sF13e_f7_8 mixed rfl (by kernel_rfl) ?_; delta sF13e_f7_8)) | ((with_reducible first | refine vp h46 ?_ ?_ | refine dc h46 ?_ ?_); focus (first | exact ⟨rfl, .inl ⟨by first | rfl | simp only [go_sem, hlt', hx, encN, List.length_map, AV.pureL, AV.pure], by first | (simp only [go_sem, hlt', hx, encN, List.length_map]; done) | rfl⟩⟩ | exact ⟨rfl, .inr ⟨rfl, by simp only [go_sem, hlt', hx, encN, List.length_map]⟩⟩)) | ((with_reducible first | refine dp h46 ?_ ?_); focus exact ⟨rfl, by first | rfl | simp only [go_sem, hlt', hx, encN, List.length_map, AV.pureL, AV.pure], by first | (simp only [go_sem, hlt', hx, encN, List.length_map]; done) | rfl⟩) | ((with_reducible first | refine ds h46 ?_ ?_); focus exact ⟨rfl, rfl⟩) | (simp only [go_sem, hlt', hx, encN, List.length_map])))
      all_goals exact (by (first | exact wk_same (by (simp only [go_sem, Int.natCast_add, cn, Int.cast_ofNat_Int, e])) | (refine wk_drop ?_ ?_ ?_ ?_ ?_ <;> (simp only [go_sem, Int.natCast_add, cn, Int.cast_ofNat_Int, e]))))
  · have hge' : ¬ (j : Int) < L.length := by omega
    rw [fil_all hge] at hfl ⊢
    by_cases hn : L = []
    · have hn0 : ((L.length : Nat) : Int) = 0 := by rw [hn]; rfl
      have hj0 : ¬ (j : Int) < 0 := by omega
      (repeat' (first | (with_reducible refine CV.same ?_; (try subst hY); (first | refine CV.gcc 12 fun Y hY => ?_ | refine CV.gc 12 fun Y hY => ?_ | skip); refine CV.run ?_) | ((with_reducible first | refine vcG_split ?_ ?_ | refine vcIf_split ?_ ?_ | refine vcQ_split ?_ ?_ | refine vcDG_split ?_ ?_) <;> intro hb <;> (try rw [hb]) <;> (try simp only [bq, bz, dtrue, dfalse] at hb) <;> (try simp only [within] at hb) <;> try (simp only [go_sem, hj0, hn0, List.length_map])) | refine And.intro (by first | exact trivial | omega | (simp only [I64]; omega)) ?_ | (with_reducible rw [vc_draw_eq]; first | (refine CV.draw (id := 8) sF13e_f7_8 mixed rfl (by kernel_rfl) ?_; delta sF13e_f7_8)) | ((with_reducible first | refine vp h18 ?_ ?_ | refine dc h18 ?_ ?_ | refine vp h17 ?_ ?_ | refine dc h17 ?_ ?_); focus (first | exact ⟨rfl, .inl ⟨by first | rfl | simp only [go_sem, hj0, hn0, List.length_map, AV.pureL, AV.pure], by first | (simp only [go_sem, hj0, hn0, List.length_map]; done) | rfl⟩⟩ | exact ⟨rfl, .inr ⟨rfl, by simp only [go_sem, hj0, hn0, List.length_map]⟩⟩)) | ((with_reducible first | refine dp h18 ?_ ?_ | refine dp h17 ?_ ?_); focus exact ⟨rfl, by first | rfl | simp only [go_sem, hj0, hn0, List.length_map, AV.pureL, AV.pure], by first | (simp only [go_sem, hj0, hn0, List.length_map]; done) | rfl⟩) | ((with_reducible first | refine ds h18 ?_ ?_ | refine ds h17 ?_ ?_); focus exact ⟨rfl, rfl⟩) | (simp only [go_sem, hj0, hn0, List.length_map])))
    · have hn0 : ¬ ((L.length : Nat) : Int) = 0 := fun e => hn (List.eq_nil_of_length_eq_zero (by omega))
      rcases hS : remT t with _ | x
      · rw [hS] at h18
        simp only [cv_n] at h18
        (repeat' (first | (with_reducible refine CV.same ?_; (try subst hY); (first | refine CV.gcc 12 fun Y hY => ?_ | refine CV.gc 12 fun Y hY => ?_ | skip); refine CV.run ?_) | ((with_reducible first | refine vcG_split ?_ ?_ | refine vcIf_split ?_ ?_ | refine vcQ_split ?_ ?_ | refine vcDG_split ?_ ?_) <;> intro hb <;> (try rw [hb]) <;> (try simp only [bq, bz, dtrue, dfalse] at hb) <;> (try simp only [within] at hb) <;> try (simp only [go_sem, hge', hn0, List.length_map])) | refine And.intro (by first | exact trivial | omega | (simp only [I64]; omega)) ?_ | (with_reducible rw [vc_draw_eq]; first | (refine CV.draw (id := 8) sF13e_f7_8 mixed rfl (by kernel_rfl) ?_; delta sF13e_f7_8)) | ((with_reducible first | refine vp h18 ?_ ?_ | refine dc h18 ?_ ?_ | refine vp h17 ?_ ?_ | refine dc h17 ?_ ?_); focus (first | exact ⟨rfl, .inl ⟨by first | rfl | simp only [go_sem, hge', hn0, List.length_map, AV.pureL, AV.pure], by first | (simp only [go_sem, hge', hn0, List.length_map]; done) | rfl⟩⟩ | exact ⟨rfl, .inr ⟨rfl, by simp only [go_sem, hge', hn0, List.length_map]⟩⟩)) | ((with_reducible first | refine dp h18 ?_ ?_ | refine dp h17 ?_ ?_); focus exact ⟨rfl, by first | rfl | simp only [go_sem, hge', hn0, List.length_map, AV.pureL, AV.pure], by first | (simp only [go_sem, hge', hn0, List.length_map]; done) | rfl⟩) | ((with_reducible first | refine ds h18 ?_ ?_ | refine ds h17 ?_ ?_); focus exact ⟨rfl, rfl⟩) | (simp only [go_sem, hge', hn0, List.length_map])))
      · obtain ⟨q1, q2⟩ := hlaw hn x hS
        have q1' : (2 : Int) ≤ (fil (fr t) L).length := by omega
        have q2' : (2 : Int) ≤ t.rm.length := by omega
        (repeat' (first | (with_reducible refine CV.same ?_; (try subst hY); (first | refine CV.gcc 12 fun Y hY => ?_ | refine CV.gc 12 fun Y hY => ?_ | skip); refine CV.run ?_) | ((with_reducible first | refine vcG_split ?_ ?_ | refine vcIf_split ?_ ?_ | refine vcQ_split ?_ ?_ | refine vcDG_split ?_ ?_) <;> intro hb <;> (try rw [hb]) <;> (try simp only [bq, bz, dtrue, dfalse] at hb) <;> (try simp only [within] at hb) <;> try (simp only [go_sem, hge', hn0, q1', q2', List.length_map])) | refine And.intro (by first | exact trivial | omega | (simp only [I64]; omega)) ?_ | (with_reducible rw [vc_draw_eq]; first | (refine CV.draw (id := 8) sF13e_f7_8 mixed rfl (by kernel_rfl) ?_; delta sF13e_f7_8)) | ((with_reducible first | refine vp h18 ?_ ?_ | refine dc h18 ?_ ?_ | refine vp h17 ?_ ?_ | refine dc h17 ?_ ?_); focus (first | exact ⟨rfl, .inl ⟨by first | rfl | simp only [go_sem, hge', hn0, q1', q2', List.length_map, AV.pureL, AV.pure], by first | (simp only [go_sem, hge', hn0, q1', q2', List.length_map]; done) | rfl⟩⟩ | exact ⟨rfl, .inr ⟨rfl, by simp only [go_sem, hge', hn0, q1', q2', List.length_map]⟩⟩)) | ((with_reducible first | refine dp h18 ?_ ?_ | refine dp h17 ?_ ?_); focus exact ⟨rfl, by first | rfl | simp only [go_sem, hge', hn0, q1', q2', List.length_map, AV.pureL, AV.pure], by first | (simp only [go_sem, hge', hn0, q1', q2', List.length_map]; done) | rfl⟩) | ((with_reducible first | refine ds h18 ?_ ?_ | refine ds h17 ?_ ?_); focus exact ⟨rfl, rfl⟩) | (simp only [go_sem, hge', hn0, q1', q2', List.length_map])))
theorem wb_house {t : Town} (hv : validT t) : house t (wb t t.rm.length) := by
  have := rm_pos hv
  have h2 := wb_lt (t := t) t.rm.length
  unfold house within
  omega
set_option maxHeartbeats 1000000 in
theorem c10 (t : Town) (b : Int) : PC Tryd.prog 10 [hF t, .int .i64 b] (.bool true) := by
  have h16 := c16 t
  have h17 := c17
  by_cases h0 : readyT t
  case neg =>
    replace h16 := h16.fls h0
    refine PC.body Tryd.func10 (by kernel_rfl) rfl (by simp [Tryd.f10]) rfl ?_
    simp only [Tryd.f10]
    intro hlen
    simp only [go_sem, List.length_map, and_true, true_and] at hlen
    (repeat' (first | (with_reducible refine CV.same ?_; (try subst hY); (first | refine CV.gcc 14 fun Y hY => ?_ | refine CV.gc 14 fun Y hY => ?_ | skip); refine CV.run ?_) | ((with_reducible first | refine vcG_split ?_ ?_ | refine vcIf_split ?_ ?_ | refine vcQ_split ?_ ?_ | refine vcDG_split ?_ ?_) <;> intro hb <;> (try rw [hb]) <;> (try simp only [bq, bz, dtrue, dfalse] at hb) <;> (try simp only [within] at hb) <;> try (simp only [go_sem])) | refine And.intro (by first | exact trivial | omega | (simp only [I64]; omega)) ?_ | ((with_reducible first | refine vp h16 ?_ ?_ | refine vp h17 ?_ ?_); focus (first | exact ⟨rfl, .inl ⟨by first | rfl | simp only [go_sem, AV.pureL, AV.pure], by first | (simp only [go_sem]; done) | rfl⟩⟩ | exact ⟨rfl, .inr ⟨rfl, by simp only [go_sem]⟩⟩)) | (simp only [go_sem])))
  replace h16 := h16.tru h0
  have hv := h0.2
  have h6 := ready_six h0
  have h20 := c20 t b
  by_cases hb : house t b
  case neg =>
    replace h20 := h20.fls hb
    refine PC.body Tryd.func10 (by kernel_rfl) rfl (by simp [Tryd.f10]) rfl ?_
    simp only [Tryd.f10]
    intro hlen
    simp only [go_sem, List.length_map, and_true, true_and] at hlen
    (repeat' (first | (with_reducible refine CV.same ?_; (try subst hY); (first | refine CV.gcc 14 fun Y hY => ?_ | refine CV.gc 14 fun Y hY => ?_ | skip); refine CV.run ?_) | ((with_reducible first | refine vcG_split ?_ ?_ | refine vcIf_split ?_ ?_ | refine vcQ_split ?_ ?_ | refine vcDG_split ?_ ?_) <;> intro hb <;> (try rw [hb]) <;> (try simp only [bq, bz, dtrue, dfalse] at hb) <;> (try simp only [within] at hb) <;> try (simp only [go_sem])) | refine And.intro (by first | exact trivial | omega | (simp only [I64]; omega)) ?_ | ((with_reducible first | refine vp h16 ?_ ?_ | refine vp h20 ?_ ?_ | refine vp h17 ?_ ?_); focus (first | exact ⟨rfl, .inl ⟨by first | rfl | simp only [go_sem, AV.pureL, AV.pure], by first | (simp only [go_sem]; done) | rfl⟩⟩ | exact ⟨rfl, .inr ⟨rfl, by simp only [go_sem]⟩⟩)) | (simp only [go_sem])))
  replace h20 := h20.tru hb
  have hw := wb_house hv
  have h20w := (c20 t (wb t t.rm.length)).tru hw
  have h54 := c54y t hv
  have a1 := c25y t _ hv hw
  have a2 := c25y t _ hv hb
  have a3 := c28y t _ hv hw
  have a4 := c28y t _ hv hb
  have hb' := hb
  unfold house within at hb'
  obtain ⟨k, rfl⟩ : ∃ k : Nat, b = k := ⟨b.toNat, by omega⟩
  have hbest := wb_best (t := t) t.rm.length k (by omega)
  generalize wb t t.rm.length = w at *
  unfold beats at hbest
  have g1 : ¬ ((los t w).length : Int) < (los t k).length := by omega
  by_cases e1 : ((los t w).length : Int) = (los t k).length
  · have e1' := eq_true e1
    have g2 : ¬ ((sta t w).length : Int) < (sta t k).length := by omega
    by_cases e2 : ((los t k).length : Int) < (los t w).length
    · omega
    · by_cases e3 : ((sta t k).length : Int) < (sta t w).length
      · skip
        refine PC.body Tryd.func10 (by kernel_rfl) rfl (by simp [Tryd.f10]) rfl ?_
        simp only [Tryd.f10]
        intro hlen
        simp only [go_sem, List.length_map, and_true, true_and] at hlen
        (repeat' (first | (with_reducible refine CV.same ?_; (try subst hY); (first | refine CV.gcc 14 fun Y hY => ?_ | refine CV.gc 14 fun Y hY => ?_ | skip); refine CV.run ?_) | ((with_reducible first | refine vcG_split ?_ ?_ | refine vcIf_split ?_ ?_ | refine vcQ_split ?_ ?_ | refine vcDG_split ?_ ?_) <;> intro hb <;> (try rw [hb]) <;> (try simp only [bq, bz, dtrue, dfalse] at hb) <;> (try simp only [within] at hb) <;> try (simp only [go_sem, g1, e1', g2, e2, e3, List.length_map])) | refine And.intro (by first | exact trivial | omega | (simp only [I64]; omega)) ?_ | ((with_reducible first | refine vp h16 ?_ ?_ | refine vp h20 ?_ ?_ | refine vp h20w ?_ ?_ | refine vp h54 ?_ ?_ | refine vp a1 ?_ ?_ | refine vp a2 ?_ ?_ | refine vp a3 ?_ ?_ | refine vp a4 ?_ ?_ | refine vp h17 ?_ ?_); focus (first | exact ⟨rfl, .inl ⟨by first | rfl | simp only [go_sem, g1, e1', g2, e2, e3, List.length_map, AV.pureL, AV.pure], by first | (simp only [go_sem, g1, e1', g2, e2, e3, List.length_map]; done) | rfl⟩⟩ | exact ⟨rfl, .inr ⟨rfl, by simp only [go_sem, g1, e1', g2, e2, e3, List.length_map]⟩⟩)) | (simp only [go_sem, g1, e1', g2, e2, e3, List.length_map])))
      · have e4 : (w : Int) ≤ k := by omega
        refine PC.body Tryd.func10 (by kernel_rfl) rfl (by simp [Tryd.f10]) rfl ?_
        simp only [Tryd.f10]
        intro hlen
        simp only [go_sem, List.length_map, and_true, true_and] at hlen
        (repeat' (first | (with_reducible refine CV.same ?_; (try subst hY); (first | refine CV.gcc 14 fun Y hY => ?_ | refine CV.gc 14 fun Y hY => ?_ | skip); refine CV.run ?_) | ((with_reducible first | refine vcG_split ?_ ?_ | refine vcIf_split ?_ ?_ | refine vcQ_split ?_ ?_ | refine vcDG_split ?_ ?_) <;> intro hb <;> (try rw [hb]) <;> (try simp only [bq, bz, dtrue, dfalse] at hb) <;> (try simp only [within] at hb) <;> try (simp only [go_sem, g1, e1', g2, e2, e3, e4, List.length_map])) | refine And.intro (by first | exact trivial | omega | (simp only [I64]; omega)) ?_ | ((with_reducible first | refine vp h16 ?_ ?_ | refine vp h20 ?_ ?_ | refine vp h20w ?_ ?_ | refine vp h54 ?_ ?_ | refine vp a1 ?_ ?_ | refine vp a2 ?_ ?_ | refine vp a3 ?_ ?_ | refine vp a4 ?_ ?_ | refine vp h17 ?_ ?_); focus (first | exact ⟨rfl, .inl ⟨by first | rfl | simp only [go_sem, g1, e1', g2, e2, e3, e4, List.length_map, AV.pureL, AV.pure], by first | (simp only [go_sem, g1, e1', g2, e2, e3, e4, List.length_map]; done) | rfl⟩⟩ | exact ⟨rfl, .inr ⟨rfl, by simp only [go_sem, g1, e1', g2, e2, e3, e4, List.length_map]⟩⟩)) | (simp only [go_sem, g1, e1', g2, e2, e3, e4, List.length_map])))
  · have e2 : ((los t k).length : Int) < (los t w).length := by omega
    refine PC.body Tryd.func10 (by kernel_rfl) rfl (by simp [Tryd.f10]) rfl ?_
    simp only [Tryd.f10]
    intro hlen
    simp only [go_sem, List.length_map, and_true, true_and] at hlen
    (repeat' (first | (with_reducible refine CV.same ?_; (try subst hY); (first | refine CV.gcc 14 fun Y hY => ?_ | refine CV.gc 14 fun Y hY => ?_ | skip); refine CV.run ?_) | ((with_reducible first | refine vcG_split ?_ ?_ | refine vcIf_split ?_ ?_ | refine vcQ_split ?_ ?_ | refine vcDG_split ?_ ?_) <;> intro hb <;> (try rw [hb]) <;> (try simp only [bq, bz, dtrue, dfalse] at hb) <;> (try simp only [within] at hb) <;> try (simp only [go_sem, g1, e1, e2, List.length_map])) | refine And.intro (by first | exact trivial | omega | (simp only [I64]; omega)) ?_ | ((with_reducible first | refine vp h16 ?_ ?_ | refine vp h20 ?_ ?_ | refine vp h20w ?_ ?_ | refine vp h54 ?_ ?_ | refine vp a1 ?_ ?_ | refine vp a2 ?_ ?_ | refine vp a3 ?_ ?_ | refine vp a4 ?_ ?_ | refine vp h17 ?_ ?_); focus (first | exact ⟨rfl, .inl ⟨by first | rfl | simp only [go_sem, g1, e1, e2, List.length_map, AV.pureL, AV.pure], by first | (simp only [go_sem, g1, e1, e2, List.length_map]; done) | rfl⟩⟩ | exact ⟨rfl, .inr ⟨rfl, by simp only [go_sem, g1, e1, e2, List.length_map]⟩⟩)) | (simp only [go_sem, g1, e1, e2, List.length_map])))
set_option maxHeartbeats 4000000 in
theorem c6 (t : Town) (places : List Int) : PC Tryd.prog 6 [hF t, lN places] (.bool true) := by
  have h16 := c16 t
  have h17 := c17
  by_cases h0 : readyT t
  case neg =>
    replace h16 := h16.fls h0
    refine PC.body Tryd.func6 (by kernel_rfl) rfl (by simp [Tryd.f6]) rfl ?_
    simp only [Tryd.f6]
    intro hlen
    simp only [go_sem, List.length_map, and_true, true_and] at hlen
    (repeat' (first | (with_reducible refine CV.same ?_; (try subst hY); (first | refine CV.gcc 20 fun Y hY => ?_ | refine CV.gc 20 fun Y hY => ?_ | skip); refine CV.run ?_) | ((with_reducible first | refine vcG_split ?_ ?_ | refine vcIf_split ?_ ?_ | refine vcQ_split ?_ ?_ | refine vcDG_split ?_ ?_) <;> intro hb <;> (try rw [hb]) <;> (try simp only [bq, bz, dtrue, dfalse] at hb) <;> (try simp only [within] at hb) <;> try (simp only [go_sem])) | refine And.intro (by first | exact trivial | omega | (simp only [I64]; omega)) ?_ | ((with_reducible first | refine vp h16 ?_ ?_ | refine vp h17 ?_ ?_); focus (first | exact ⟨rfl, .inl ⟨by first | rfl | simp only [go_sem, AV.pureL, AV.pure], by first | (simp only [go_sem]; done) | rfl⟩⟩ | exact ⟨rfl, .inr ⟨rfl, by simp only [go_sem]⟩⟩)) | (simp only [go_sem])))
  replace h16 := h16.tru h0
  have hv := h0.2
  have h6 := ready_six h0
  by_cases hl : 40 < places.length
  case pos =>
    have hl' : (40 : Int) < places.length := by omega
    refine PC.body Tryd.func6 (by kernel_rfl) rfl (by simp [Tryd.f6]) rfl ?_
    simp only [Tryd.f6]
    intro hlen
    simp only [go_sem, List.length_map, and_true, true_and] at hlen
    (repeat' (first | (with_reducible refine CV.same ?_; (try subst hY); (first | refine CV.gcc 20 fun Y hY => ?_ | refine CV.gc 20 fun Y hY => ?_ | skip); refine CV.run ?_) | ((with_reducible first | refine vcG_split ?_ ?_ | refine vcIf_split ?_ ?_ | refine vcQ_split ?_ ?_ | refine vcDG_split ?_ ?_) <;> intro hb <;> (try rw [hb]) <;> (try simp only [bq, bz, dtrue, dfalse] at hb) <;> (try simp only [within] at hb) <;> try (simp only [go_sem, hl', List.length_map])) | refine And.intro (by first | exact trivial | omega | (simp only [I64]; omega)) ?_ | ((with_reducible first | refine vp h16 ?_ ?_ | refine vp h17 ?_ ?_); focus (first | exact ⟨rfl, .inl ⟨by first | rfl | simp only [go_sem, hl', List.length_map, AV.pureL, AV.pure], by first | (simp only [go_sem, hl', List.length_map]; done) | rfl⟩⟩ | exact ⟨rfl, .inr ⟨rfl, by simp only [go_sem, hl', List.length_map]⟩⟩)) | (simp only [go_sem, hl', List.length_map])))
  have hl' : ¬ (40 : Int) < places.length := by omega
  have h18 := c18y t hv
  have h36 := c36y t hv
  have h38 := c38y t hv
  have c0 := c39_0
  have c3 := c39_3
  have h40p := c40 t hv places (by omega)
  have hP : ¬ isCy t places ∨ (isCy t places ∧ ¬ endP t places) ∨ (isCy t places ∧ endP t places) := by
    by_cases q : isCy t places
    · by_cases r : endP t places
      · exact .inr (.inr ⟨q, r⟩)
      · exact .inr (.inl ⟨q, r⟩)
    · exact .inl q
  rcases hS : remT t with _ | x
  · have hns : ¬ safeP t := fun h => by rw [rem_safe hv h] at hS; cases hS
    rw [hS] at h18 h36
    simp only [cv_n, lstS_n, eS_n] at h18 h36
    rw [decide_eq_false hns] at h38
    rcases hP with hp | ⟨hp, he⟩ | ⟨hp, he⟩
    · replace h40p := h40p.fls hp
      refine PC.body Tryd.func6 (by kernel_rfl) rfl (by simp [Tryd.f6]) rfl ?_
      simp only [Tryd.f6]
      intro hlen
      simp only [go_sem, List.length_map, and_true, true_and] at hlen
      (repeat' (first | (with_reducible refine CV.same ?_; (try subst hY); (first | refine CV.gcc 20 fun Y hY => ?_ | refine CV.gc 20 fun Y hY => ?_ | skip); refine CV.run ?_) | ((with_reducible first | refine vcG_split ?_ ?_ | refine vcIf_split ?_ ?_ | refine vcQ_split ?_ ?_ | refine vcDG_split ?_ ?_) <;> intro hb <;> (try rw [hb]) <;> (try simp only [bq, bz, dtrue, dfalse] at hb) <;> (try simp only [within] at hb) <;> try (simp only [go_sem, hl', List.length_map])) | refine And.intro (by first | exact trivial | omega | (simp only [I64]; omega)) ?_ | ((with_reducible first | refine vp h16 ?_ ?_ | refine vp h18 ?_ ?_ | refine vp h36 ?_ ?_ | refine vp h38 ?_ ?_ | refine vp c3 ?_ ?_ | refine vp h40p ?_ ?_ | refine vp h17 ?_ ?_); focus (first | exact ⟨rfl, .inl ⟨by first | rfl | simp only [go_sem, hl', List.length_map, AV.pureL, AV.pure], by first | (simp only [go_sem, hl', List.length_map]; done) | rfl⟩⟩ | exact ⟨rfl, .inr ⟨rfl, by simp only [go_sem, hl', List.length_map]⟩⟩)) | (simp only [go_sem, hl', List.length_map])))
    · replace h40p := h40p.tru hp
      have h42 := c42 t hv h6.2.2 places (by omega)
      have hvp := carried_valid hv hp.1 hp.2
      have h38p := c38y _ hvp
      rw [decide_eq_false (show ¬ safeP { t with pl := places } from fun h => he ⟨hp.2, h⟩)] at h38p
      refine PC.body Tryd.func6 (by kernel_rfl) rfl (by simp [Tryd.f6]) rfl ?_
      simp only [Tryd.f6]
      intro hlen
      simp only [go_sem, List.length_map, and_true, true_and] at hlen
      (repeat' (first | (with_reducible refine CV.same ?_; (try subst hY); (first | refine CV.gcc 20 fun Y hY => ?_ | refine CV.gc 20 fun Y hY => ?_ | skip); refine CV.run ?_) | ((with_reducible first | refine vcG_split ?_ ?_ | refine vcIf_split ?_ ?_ | refine vcQ_split ?_ ?_ | refine vcDG_split ?_ ?_) <;> intro hb <;> (try rw [hb]) <;> (try simp only [bq, bz, dtrue, dfalse] at hb) <;> (try simp only [within] at hb) <;> try (simp only [go_sem, hl', List.length_map])) | refine And.intro (by first | exact trivial | omega | (simp only [I64]; omega)) ?_ | ((with_reducible first | refine vp h16 ?_ ?_ | refine vp h18 ?_ ?_ | refine vp h36 ?_ ?_ | refine vp h38 ?_ ?_ | refine vp c3 ?_ ?_ | refine vp h40p ?_ ?_ | refine vp h42 ?_ ?_ | refine vp h38p ?_ ?_ | refine vp h17 ?_ ?_); focus (first | exact ⟨rfl, .inl ⟨by first | rfl | simp only [go_sem, hl', List.length_map, AV.pureL, AV.pure], by first | (simp only [go_sem, hl', List.length_map]; done) | rfl⟩⟩ | exact ⟨rfl, .inr ⟨rfl, by simp only [go_sem, hl', List.length_map]⟩⟩)) | (simp only [go_sem, hl', List.length_map])))
    · obtain ⟨y, hy⟩ := rem_some hv hp.1 he
      rw [hS] at hy; cases hy
  · obtain ⟨x1, x2, x3, x4, x5, x6⟩ := rem_bnd hv hS
    have hpl := hv.lp
    have xl : x.1.length ≤ 40 := by rw [x2.1]; omega
    have h40x := (c40 t hv x.1 xl).tru ⟨x2, x3.1⟩
    have h41x := c41 t hv x.1 x2.1
    rw [← x1] at h41x
    have h42x := c42 t hv h6.2.2 x.1 (by omega)
    have hvx := carried_valid hv x2 x3.1
    have h38x := c38y _ hvx
    rw [decide_eq_true x3.2] at h38x
    have hleast := fun (hp : isCy t places) (he : endP t places) => rem_least hv hS hp.1 he
    have hsafe : safeP t → x = (t.pl, (0, 0)) := fun h => by rw [rem_safe hv h] at hS; exact (Option.some.inj hS).symm
    rw [hS] at h18 h36
    simp only [cv_s, lstS_s, eS_s] at h18 h36
    obtain ⟨lx, px, mx⟩ := x
    simp only at *
    by_cases hs : safeP t
    · have hxe := hsafe hs
      simp only [Prod.mk.injEq] at hxe
      obtain ⟨e1, e2, e3⟩ := hxe
      subst e1 e2 e3
      have z := c27s t.pl
      rw [decide_eq_true hs] at h38
      rcases hP with hp | ⟨hp, he⟩ | ⟨hp, he⟩
      · replace h40p := h40p.fls hp
        refine PC.body Tryd.func6 (by kernel_rfl) rfl (by simp [Tryd.f6]) rfl ?_
        simp only [Tryd.f6]
        intro hlen
        simp only [go_sem, List.length_map, and_true, true_and] at hlen
        (repeat' (first | (with_reducible refine CV.same ?_; (try subst hY); (first | refine CV.gcc 20 fun Y hY => ?_ | refine CV.gc 20 fun Y hY => ?_ | skip); refine CV.run ?_) | ((with_reducible first | refine vcG_split ?_ ?_ | refine vcIf_split ?_ ?_ | refine vcQ_split ?_ ?_ | refine vcDG_split ?_ ?_) <;> intro hb <;> (try rw [hb]) <;> (try simp only [bq, bz, dtrue, dfalse] at hb) <;> (try simp only [within] at hb) <;> try (simp only [go_sem, hl', List.length_map])) | refine And.intro (by first | exact trivial | omega | (simp only [I64]; omega)) ?_ | ((with_reducible first | refine vp h16 ?_ ?_ | refine vp h18 ?_ ?_ | refine vp h36 ?_ ?_ | refine vp h38 ?_ ?_ | refine vp c0 ?_ ?_ | refine vp z ?_ ?_ | refine vp h40x ?_ ?_ | refine vp h41x ?_ ?_ | refine vp h42x ?_ ?_ | refine vp h38x ?_ ?_ | refine vp h40p ?_ ?_ | refine vp h17 ?_ ?_); focus (first | exact ⟨rfl, .inl ⟨by first | rfl | simp only [go_sem, hl', List.length_map, AV.pureL, AV.pure], by first | (simp only [go_sem, hl', List.length_map]; done) | rfl⟩⟩ | exact ⟨rfl, .inr ⟨rfl, by simp only [go_sem, hl', List.length_map]⟩⟩)) | (simp only [go_sem, hl', List.length_map])))
      · replace h40p := h40p.tru hp
        have h42 := c42 t hv h6.2.2 places (by omega)
        have hvp := carried_valid hv hp.1 hp.2
        have h38p := c38y _ hvp
        rw [decide_eq_false (show ¬ safeP { t with pl := places } from fun h => he ⟨hp.2, h⟩)] at h38p
        refine PC.body Tryd.func6 (by kernel_rfl) rfl (by simp [Tryd.f6]) rfl ?_
        simp only [Tryd.f6]
        intro hlen
        simp only [go_sem, List.length_map, and_true, true_and] at hlen
        (repeat' (first | (with_reducible refine CV.same ?_; (try subst hY); (first | refine CV.gcc 20 fun Y hY => ?_ | refine CV.gc 20 fun Y hY => ?_ | skip); refine CV.run ?_) | ((with_reducible first | refine vcG_split ?_ ?_ | refine vcIf_split ?_ ?_ | refine vcQ_split ?_ ?_ | refine vcDG_split ?_ ?_) <;> intro hb <;> (try rw [hb]) <;> (try simp only [bq, bz, dtrue, dfalse] at hb) <;> (try simp only [within] at hb) <;> try (simp only [go_sem, hl', List.length_map])) | refine And.intro (by first | exact trivial | omega | (simp only [I64]; omega)) ?_ | ((with_reducible first | refine vp h16 ?_ ?_ | refine vp h18 ?_ ?_ | refine vp h36 ?_ ?_ | refine vp h38 ?_ ?_ | refine vp c0 ?_ ?_ | refine vp z ?_ ?_ | refine vp h40x ?_ ?_ | refine vp h41x ?_ ?_ | refine vp h42x ?_ ?_ | refine vp h38x ?_ ?_ | refine vp h40p ?_ ?_ | refine vp h42 ?_ ?_ | refine vp h38p ?_ ?_ | refine vp h17 ?_ ?_); focus (first | exact ⟨rfl, .inl ⟨by first | rfl | simp only [go_sem, hl', List.length_map, AV.pureL, AV.pure], by first | (simp only [go_sem, hl', List.length_map]; done) | rfl⟩⟩ | exact ⟨rfl, .inr ⟨rfl, by simp only [go_sem, hl', List.length_map]⟩⟩)) | (simp only [go_sem, hl', List.length_map])))
      · skip
        replace h40p := h40p.tru hp
        have h42 := c42 t hv h6.2.2 places (by omega)
        have hvp := carried_valid hv hp.1 hp.2
        have h38p := c38y _ hvp
        rw [decide_eq_true he.2] at h38p
        have h41p := c41 t hv places hp.1.1
        obtain ⟨n1, n2⟩ := hleast hp he
        generalize cst t places = cp at *
        obtain ⟨p1, m1⟩ := cp
        unfold lexlt at n1
        simp only [Prod.mk.injEq] at n1 n2 h41p
        have q1 : 0 ≤ p1 := by omega
        by_cases q2 : 0 < p1
        · skip
          refine PC.body Tryd.func6 (by kernel_rfl) rfl (by simp [Tryd.f6]) rfl ?_
          simp only [Tryd.f6]
          intro hlen
          simp only [go_sem, List.length_map, and_true, true_and] at hlen
          (repeat' (first | (with_reducible refine CV.same ?_; (try subst hY); (first | refine CV.gcc 20 fun Y hY => ?_ | refine CV.gc 20 fun Y hY => ?_ | skip); refine CV.run ?_) | ((with_reducible first | refine vcG_split ?_ ?_ | refine vcIf_split ?_ ?_ | refine vcQ_split ?_ ?_ | refine vcDG_split ?_ ?_) <;> intro hb <;> (try rw [hb]) <;> (try simp only [bq, bz, dtrue, dfalse] at hb) <;> (try simp only [within] at hb) <;> try (simp only [go_sem, hl', q1, q2, List.length_map])) | refine And.intro (by first | exact trivial | omega | (simp only [I64]; omega)) ?_ | ((with_reducible first | refine vp h16 ?_ ?_ | refine vp h18 ?_ ?_ | refine vp h36 ?_ ?_ | refine vp h38 ?_ ?_ | refine vp c0 ?_ ?_ | refine vp z ?_ ?_ | refine vp h40x ?_ ?_ | refine vp h41x ?_ ?_ | refine vp h42x ?_ ?_ | refine vp h38x ?_ ?_ | refine vp h40p ?_ ?_ | refine vp h42 ?_ ?_ | refine vp h38p ?_ ?_ | refine vp h41p ?_ ?_ | refine vp h17 ?_ ?_); focus (first | exact ⟨rfl, .inl ⟨by first | rfl | simp only [go_sem, hl', q1, q2, List.length_map, AV.pureL, AV.pure], by first | (simp only [go_sem, hl', q1, q2, List.length_map]; done) | rfl⟩⟩ | exact ⟨rfl, .inr ⟨rfl, by simp only [go_sem, hl', q1, q2, List.length_map]⟩⟩)) | (simp only [go_sem, hl', q1, q2, List.length_map])))
        · have q3 : 0 ≤ m1 := by omega
          by_cases q4 : 0 < m1
          · skip
            refine PC.body Tryd.func6 (by kernel_rfl) rfl (by simp [Tryd.f6]) rfl ?_
            simp only [Tryd.f6]
            intro hlen
            simp only [go_sem, List.length_map, and_true, true_and] at hlen
            (repeat' (first | (with_reducible refine CV.same ?_; (try subst hY); (first | refine CV.gcc 20 fun Y hY => ?_ | refine CV.gc 20 fun Y hY => ?_ | skip); refine CV.run ?_) | ((with_reducible first | refine vcG_split ?_ ?_ | refine vcIf_split ?_ ?_ | refine vcQ_split ?_ ?_ | refine vcDG_split ?_ ?_) <;> intro hb <;> (try rw [hb]) <;> (try simp only [bq, bz, dtrue, dfalse] at hb) <;> (try simp only [within] at hb) <;> try (simp only [go_sem, hl', q1, q2, q3, q4, List.length_map])) | refine And.intro (by first | exact trivial | omega | (simp only [I64]; omega)) ?_ | ((with_reducible first | refine vp h16 ?_ ?_ | refine vp h18 ?_ ?_ | refine vp h36 ?_ ?_ | refine vp h38 ?_ ?_ | refine vp c0 ?_ ?_ | refine vp z ?_ ?_ | refine vp h40x ?_ ?_ | refine vp h41x ?_ ?_ | refine vp h42x ?_ ?_ | refine vp h38x ?_ ?_ | refine vp h40p ?_ ?_ | refine vp h42 ?_ ?_ | refine vp h38p ?_ ?_ | refine vp h41p ?_ ?_ | refine vp h17 ?_ ?_); focus (first | exact ⟨rfl, .inl ⟨by first | rfl | simp only [go_sem, hl', q1, q2, q3, q4, List.length_map, AV.pureL, AV.pure], by first | (simp only [go_sem, hl', q1, q2, q3, q4, List.length_map]; done) | rfl⟩⟩ | exact ⟨rfl, .inr ⟨rfl, by simp only [go_sem, hl', q1, q2, q3, q4, List.length_map]⟩⟩)) | (simp only [go_sem, hl', q1, q2, q3, q4, List.length_map])))
          · have h43 := (c43 places t.pl).fls (n2 ⟨by omega, by omega⟩)
            refine PC.body Tryd.func6 (by kernel_rfl) rfl (by simp [Tryd.f6]) rfl ?_
            simp only [Tryd.f6]
            intro hlen
            simp only [go_sem, List.length_map, and_true, true_and] at hlen
            (repeat' (first | (with_reducible refine CV.same ?_; (try subst hY); (first | refine CV.gcc 20 fun Y hY => ?_ | refine CV.gc 20 fun Y hY => ?_ | skip); refine CV.run ?_) | ((with_reducible first | refine vcG_split ?_ ?_ | refine vcIf_split ?_ ?_ | refine vcQ_split ?_ ?_ | refine vcDG_split ?_ ?_) <;> intro hb <;> (try rw [hb]) <;> (try simp only [bq, bz, dtrue, dfalse] at hb) <;> (try simp only [within] at hb) <;> try (simp only [go_sem, hl', q1, q2, q3, q4, List.length_map])) | refine And.intro (by first | exact trivial | omega | (simp only [I64]; omega)) ?_ | ((with_reducible first | refine vp h16 ?_ ?_ | refine vp h18 ?_ ?_ | refine vp h36 ?_ ?_ | refine vp h38 ?_ ?_ | refine vp c0 ?_ ?_ | refine vp z ?_ ?_ | refine vp h40x ?_ ?_ | refine vp h41x ?_ ?_ | refine vp h42x ?_ ?_ | refine vp h38x ?_ ?_ | refine vp h40p ?_ ?_ | refine vp h42 ?_ ?_ | refine vp h38p ?_ ?_ | refine vp h41p ?_ ?_ | refine vp h43 ?_ ?_ | refine vp h17 ?_ ?_); focus (first | exact ⟨rfl, .inl ⟨by first | rfl | simp only [go_sem, hl', q1, q2, q3, q4, List.length_map, AV.pureL, AV.pure], by first | (simp only [go_sem, hl', q1, q2, q3, q4, List.length_map]; done) | rfl⟩⟩ | exact ⟨rfl, .inr ⟨rfl, by simp only [go_sem, hl', q1, q2, q3, q4, List.length_map]⟩⟩)) | (simp only [go_sem, hl', q1, q2, q3, q4, List.length_map])))
    · rw [decide_eq_false hs] at h38
      have g0 := x4
      rcases hP with hp | ⟨hp, he⟩ | ⟨hp, he⟩
      · replace h40p := h40p.fls hp
        refine PC.body Tryd.func6 (by kernel_rfl) rfl (by simp [Tryd.f6]) rfl ?_
        simp only [Tryd.f6]
        intro hlen
        simp only [go_sem, List.length_map, and_true, true_and] at hlen
        (repeat' (first | (with_reducible refine CV.same ?_; (try subst hY); (first | refine CV.gcc 20 fun Y hY => ?_ | refine CV.gc 20 fun Y hY => ?_ | skip); refine CV.run ?_) | ((with_reducible first | refine vcG_split ?_ ?_ | refine vcIf_split ?_ ?_ | refine vcQ_split ?_ ?_ | refine vcDG_split ?_ ?_) <;> intro hb <;> (try rw [hb]) <;> (try simp only [bq, bz, dtrue, dfalse] at hb) <;> (try simp only [within] at hb) <;> try (simp only [go_sem, hl', g0, List.length_map])) | refine And.intro (by first | exact trivial | omega | (simp only [I64]; omega)) ?_ | ((with_reducible first | refine vp h16 ?_ ?_ | refine vp h18 ?_ ?_ | refine vp h36 ?_ ?_ | refine vp h38 ?_ ?_ | refine vp c0 ?_ ?_ | refine vp h40x ?_ ?_ | refine vp h41x ?_ ?_ | refine vp h42x ?_ ?_ | refine vp h38x ?_ ?_ | refine vp h40p ?_ ?_ | refine vp h17 ?_ ?_); focus (first | exact ⟨rfl, .inl ⟨by first | rfl | simp only [go_sem, hl', g0, List.length_map, AV.pureL, AV.pure], by first | (simp only [go_sem, hl', g0, List.length_map]; done) | rfl⟩⟩ | exact ⟨rfl, .inr ⟨rfl, by simp only [go_sem, hl', g0, List.length_map]⟩⟩)) | (simp only [go_sem, hl', g0, List.length_map])))
      · replace h40p := h40p.tru hp
        have h42 := c42 t hv h6.2.2 places (by omega)
        have hvp := carried_valid hv hp.1 hp.2
        have h38p := c38y _ hvp
        rw [decide_eq_false (show ¬ safeP { t with pl := places } from fun h => he ⟨hp.2, h⟩)] at h38p
        refine PC.body Tryd.func6 (by kernel_rfl) rfl (by simp [Tryd.f6]) rfl ?_
        simp only [Tryd.f6]
        intro hlen
        simp only [go_sem, List.length_map, and_true, true_and] at hlen
        (repeat' (first | (with_reducible refine CV.same ?_; (try subst hY); (first | refine CV.gcc 20 fun Y hY => ?_ | refine CV.gc 20 fun Y hY => ?_ | skip); refine CV.run ?_) | ((with_reducible first | refine vcG_split ?_ ?_ | refine vcIf_split ?_ ?_ | refine vcQ_split ?_ ?_ | refine vcDG_split ?_ ?_) <;> intro hb <;> (try rw [hb]) <;> (try simp only [bq, bz, dtrue, dfalse] at hb) <;> (try simp only [within] at hb) <;> try (simp only [go_sem, hl', g0, List.length_map])) | refine And.intro (by first | exact trivial | omega | (simp only [I64]; omega)) ?_ | ((with_reducible first | refine vp h16 ?_ ?_ | refine vp h18 ?_ ?_ | refine vp h36 ?_ ?_ | refine vp h38 ?_ ?_ | refine vp c0 ?_ ?_ | refine vp h40x ?_ ?_ | refine vp h41x ?_ ?_ | refine vp h42x ?_ ?_ | refine vp h38x ?_ ?_ | refine vp h40p ?_ ?_ | refine vp h42 ?_ ?_ | refine vp h38p ?_ ?_ | refine vp h17 ?_ ?_); focus (first | exact ⟨rfl, .inl ⟨by first | rfl | simp only [go_sem, hl', g0, List.length_map, AV.pureL, AV.pure], by first | (simp only [go_sem, hl', g0, List.length_map]; done) | rfl⟩⟩ | exact ⟨rfl, .inr ⟨rfl, by simp only [go_sem, hl', g0, List.length_map]⟩⟩)) | (simp only [go_sem, hl', g0, List.length_map])))
      · skip
        replace h40p := h40p.tru hp
        have h42 := c42 t hv h6.2.2 places (by omega)
        have hvp := carried_valid hv hp.1 hp.2
        have h38p := c38y _ hvp
        rw [decide_eq_true he.2] at h38p
        have h41p := c41 t hv places hp.1.1
        obtain ⟨n1, n2⟩ := hleast hp he
        generalize cst t places = cp at *
        obtain ⟨p1, m1⟩ := cp
        unfold lexlt at n1
        simp only [Prod.mk.injEq] at n1 n2 h41p
        have q1 : px ≤ p1 := by omega
        by_cases q2 : px < p1
        · skip
          refine PC.body Tryd.func6 (by kernel_rfl) rfl (by simp [Tryd.f6]) rfl ?_
          simp only [Tryd.f6]
          intro hlen
          simp only [go_sem, List.length_map, and_true, true_and] at hlen
          (repeat' (first | (with_reducible refine CV.same ?_; (try subst hY); (first | refine CV.gcc 20 fun Y hY => ?_ | refine CV.gc 20 fun Y hY => ?_ | skip); refine CV.run ?_) | ((with_reducible first | refine vcG_split ?_ ?_ | refine vcIf_split ?_ ?_ | refine vcQ_split ?_ ?_ | refine vcDG_split ?_ ?_) <;> intro hb <;> (try rw [hb]) <;> (try simp only [bq, bz, dtrue, dfalse] at hb) <;> (try simp only [within] at hb) <;> try (simp only [go_sem, hl', g0, q1, q2, List.length_map])) | refine And.intro (by first | exact trivial | omega | (simp only [I64]; omega)) ?_ | ((with_reducible first | refine vp h16 ?_ ?_ | refine vp h18 ?_ ?_ | refine vp h36 ?_ ?_ | refine vp h38 ?_ ?_ | refine vp c0 ?_ ?_ | refine vp h40x ?_ ?_ | refine vp h41x ?_ ?_ | refine vp h42x ?_ ?_ | refine vp h38x ?_ ?_ | refine vp h40p ?_ ?_ | refine vp h42 ?_ ?_ | refine vp h38p ?_ ?_ | refine vp h41p ?_ ?_ | refine vp h17 ?_ ?_); focus (first | exact ⟨rfl, .inl ⟨by first | rfl | simp only [go_sem, hl', g0, q1, q2, List.length_map, AV.pureL, AV.pure], by first | (simp only [go_sem, hl', g0, q1, q2, List.length_map]; done) | rfl⟩⟩ | exact ⟨rfl, .inr ⟨rfl, by simp only [go_sem, hl', g0, q1, q2, List.length_map]⟩⟩)) | (simp only [go_sem, hl', g0, q1, q2, List.length_map])))
        · have q3 : mx ≤ m1 := by omega
          by_cases q4 : mx < m1
          · skip
            refine PC.body Tryd.func6 (by kernel_rfl) rfl (by simp [Tryd.f6]) rfl ?_
            simp only [Tryd.f6]
            intro hlen
            simp only [go_sem, List.length_map, and_true, true_and] at hlen
            (repeat' (first | (with_reducible refine CV.same ?_; (try subst hY); (first | refine CV.gcc 20 fun Y hY => ?_ | refine CV.gc 20 fun Y hY => ?_ | skip); refine CV.run ?_) | ((with_reducible first | refine vcG_split ?_ ?_ | refine vcIf_split ?_ ?_ | refine vcQ_split ?_ ?_ | refine vcDG_split ?_ ?_) <;> intro hb <;> (try rw [hb]) <;> (try simp only [bq, bz, dtrue, dfalse] at hb) <;> (try simp only [within] at hb) <;> try (simp only [go_sem, hl', g0, q1, q2, q3, q4, List.length_map])) | refine And.intro (by first | exact trivial | omega | (simp only [I64]; omega)) ?_ | ((with_reducible first | refine vp h16 ?_ ?_ | refine vp h18 ?_ ?_ | refine vp h36 ?_ ?_ | refine vp h38 ?_ ?_ | refine vp c0 ?_ ?_ | refine vp h40x ?_ ?_ | refine vp h41x ?_ ?_ | refine vp h42x ?_ ?_ | refine vp h38x ?_ ?_ | refine vp h40p ?_ ?_ | refine vp h42 ?_ ?_ | refine vp h38p ?_ ?_ | refine vp h41p ?_ ?_ | refine vp h17 ?_ ?_); focus (first | exact ⟨rfl, .inl ⟨by first | rfl | simp only [go_sem, hl', g0, q1, q2, q3, q4, List.length_map, AV.pureL, AV.pure], by first | (simp only [go_sem, hl', g0, q1, q2, q3, q4, List.length_map]; done) | rfl⟩⟩ | exact ⟨rfl, .inr ⟨rfl, by simp only [go_sem, hl', g0, q1, q2, q3, q4, List.length_map]⟩⟩)) | (simp only [go_sem, hl', g0, q1, q2, q3, q4, List.length_map])))
          · have h43 := (c43 places lx).fls (n2 ⟨by omega, by omega⟩)
            refine PC.body Tryd.func6 (by kernel_rfl) rfl (by simp [Tryd.f6]) rfl ?_
            simp only [Tryd.f6]
            intro hlen
            simp only [go_sem, List.length_map, and_true, true_and] at hlen
            (repeat' (first | (with_reducible refine CV.same ?_; (try subst hY); (first | refine CV.gcc 20 fun Y hY => ?_ | refine CV.gc 20 fun Y hY => ?_ | skip); refine CV.run ?_) | ((with_reducible first | refine vcG_split ?_ ?_ | refine vcIf_split ?_ ?_ | refine vcQ_split ?_ ?_ | refine vcDG_split ?_ ?_) <;> intro hb <;> (try rw [hb]) <;> (try simp only [bq, bz, dtrue, dfalse] at hb) <;> (try simp only [within] at hb) <;> try (simp only [go_sem, hl', g0, q1, q2, q3, q4, List.length_map])) | refine And.intro (by first | exact trivial | omega | (simp only [I64]; omega)) ?_ | ((with_reducible first | refine vp h16 ?_ ?_ | refine vp h18 ?_ ?_ | refine vp h36 ?_ ?_ | refine vp h38 ?_ ?_ | refine vp c0 ?_ ?_ | refine vp h40x ?_ ?_ | refine vp h41x ?_ ?_ | refine vp h42x ?_ ?_ | refine vp h38x ?_ ?_ | refine vp h40p ?_ ?_ | refine vp h42 ?_ ?_ | refine vp h38p ?_ ?_ | refine vp h41p ?_ ?_ | refine vp h43 ?_ ?_ | refine vp h17 ?_ ?_); focus (first | exact ⟨rfl, .inl ⟨by first | rfl | simp only [go_sem, hl', g0, q1, q2, q3, q4, List.length_map, AV.pureL, AV.pure], by first | (simp only [go_sem, hl', g0, q1, q2, q3, q4, List.length_map]; done) | rfl⟩⟩ | exact ⟨rfl, .inr ⟨rfl, by simp only [go_sem, hl', g0, q1, q2, q3, q4, List.length_map]⟩⟩)) | (simp only [go_sem, hl', g0, q1, q2, q3, q4, List.length_map])))
end Go.Proofs.YtjlopclpofbgbaaDoor

