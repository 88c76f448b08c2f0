/- Contracts of functions of the given program, without a condition beyond those that each theorem states; they lead to the given statement. -/
import Derived.Test.YtjlopclpofbgbaaDoorF12a
set_option linter.unusedSimpArgs false
set_option linter.unusedVariables false
set_option maxRecDepth 100000
namespace Go.Proofs.YtjlopclpofbgbaaDoor
open Go Go.Fl
open Classical
def sF13a_f18_4 : List (Nat × Nat) := [(0, 0), (0, 0), (0, 0), (0, 0), (0, 0), (0, 0), (0, 0), (0, 0), (0, 0), (0, 0), (0, 0), (0, 0), (0, 0), (0, 0), (0, 0), (0, 0), (0, 0)]
def sF13a_f40_6 : List (Nat × Nat) := [(0, 0), (0, 0), (0, 0), (0, 0), (0, 0), (0, 0), (0, 0), (0, 0), (0, 0), (0, 0), (0, 0), (0, 0), (0, 0), (0, 0), (0, 0), (0, 0), (0, 0), (0, 0), (0, 0), (0, 0), (0, 0), (0, 0), (0, 0), (0, 0), (0, 0)]
def sF13a_f41_4 : List (Nat × Nat) := [(0, 0), (0, 0), (0, 0), (0, 0), (0, 0), (0, 0), (0, 0), (0, 0), (0, 0), (0, 0)]
def cv : Best → Int | none => -1 | some x => x.2.1
theorem cv_n : cv none = -1 := rfl
theorem cv_s {x : List Int × Int × Int} : cv (some x) = x.2.1 := rfl
theorem c38y (t : Town) (hv : validT t) : PC Tryd.prog 38 [hF t] (.tup [.bool (decide (safeP t)), .bool true]) := by
  have h59 := c59y t hv
  refine PC.body Tryd.func38 (by kernel_rfl) rfl (by simp [Tryd.f38]) rfl ?_
  simp only [Tryd.f38]
  intro hlen
  simp only [go_sem, List.length_map, and_true, true_and] at hlen
  refine CV.run ?_
  (repeat' (first | ((with_reducible first | apply sg | apply si | apply sq | apply sd) <;> intro hb <;> (try rw [hb]) <;> (try simp only [bq, bz, dtrue, dfalse] at hb) <;> (try simp only [within] at hb) <;> try simp only [go_sem]) | refine And.intro (by first | exact ⟨⟩ | omega | (simp only [I64]; omega)) ?_ | ((with_reducible first | refine vp h59 ?_ ?_); focus (first | exact ⟨rfl, .inl ⟨by first | rfl | (simp only [go_sem, AV.pureL, AV.pure]; done), by first | (simp only [go_sem, AV.pureL, AV.pure]; done) | rfl⟩⟩ | exact ⟨rfl, .inr ⟨rfl, by simp only [go_sem]⟩⟩)) | (simp only [go_sem])))
theorem c18y (t : Town) (hv : validT t) : PC Tryd.prog 18 [hF t] (.tup [.int .i64 (cv (remT t)), .bool true]) := by
  have h34 := c34y t hv
  have l8 := hv.len
  have lp := hv.lp
  rcases e : remT t with _ | x
  · rw [e] at h34
    simp only [pS_n, eS_n] at h34
    refine PC.body Tryd.func18 (by kernel_rfl) rfl (by simp [Tryd.f18]) rfl ?_
    simp only [Tryd.f18]
    intro hlen
    simp only [go_sem, List.length_map, and_true, true_and] at hlen
    refine CV.run ?_
    (repeat' (first | ((with_reducible first | apply sg | apply si | apply sq | apply sd) <;> intro hb <;> (try rw [hb]) <;> (try simp only [bq, bz, dtrue, dfalse] at hb) <;> (try simp only [within] at hb) <;> try simp only [go_sem]) | refine And.intro (by first | exact ⟨⟩ | omega | (simp only [I64]; omega)) ?_ | (with_reducible rw [vc_draw_eq]; first | (refine CV.draw (id := 4) sF13a_f18_4 mixed rfl (by kernel_rfl) ?_; delta sF13a_f18_4)) | ((with_reducible first | refine vp h34 ?_ ?_ | refine dc h34 ?_ ?_); focus (first | exact ⟨rfl, .inl ⟨by first | rfl | (simp only [go_sem, cv_n, AV.pureL, AV.pure]; done), by first | (simp only [go_sem, cv_n, AV.pureL, AV.pure]; done) | rfl⟩⟩ | exact ⟨rfl, .inr ⟨rfl, by simp only [go_sem, cv_n]⟩⟩)) | ((with_reducible first | refine dp h34 ?_ ?_); focus (exact ⟨rfl, by first | rfl | (simp only [go_sem, cv_n, AV.pureL, AV.pure]; done), by first | (simp only [go_sem, cv_n, AV.pureL, AV.pure]; done) | rfl⟩)) | ((with_reducible first | refine ds h34 ?_ ?_); focus exact ⟨rfl, rfl⟩) | (simp only [go_sem, cv_n])))
  · have hb := rem_bnd hv e
    rw [e] at h34
    simp only [pS_s, eS_s] at h34
    have g1 : 0 ≤ x.2.1 := hb.2.2.2.1
    have g2 : x.2.1 ≤ 99 * (t.pl.length : Int) := hb.2.2.2.2.1
    refine PC.body Tryd.func18 (by kernel_rfl) rfl (by simp [Tryd.f18]) rfl ?_
    simp only [Tryd.f18]
    intro hlen
    simp only [go_sem, List.length_map, and_true, true_and] at hlen
    refine CV.run ?_
    (repeat' (first | ((with_reducible first | apply sg | apply si | apply sq | apply sd) <;> intro hb <;> (try rw [hb]) <;> (try simp only [bq, bz, dtrue, dfalse] at hb) <;> (try simp only [within] at hb) <;> try simp only [go_sem]) | refine And.intro (by first | exact ⟨⟩ | omega | (simp only [I64]; omega)) ?_ | (with_reducible rw [vc_draw_eq]; first | (refine CV.draw (id := 4) sF13a_f18_4 mixed rfl (by kernel_rfl) ?_; delta sF13a_f18_4)) | ((with_reducible first | refine vp h34 ?_ ?_ | refine dc h34 ?_ ?_); focus (first | exact ⟨rfl, .inl ⟨by first | rfl | (simp only [go_sem, cv_s, g1, g2, List.length_map, AV.pureL, AV.pure]; done), by first | (simp only [go_sem, cv_s, g1, g2, List.length_map, AV.pureL, AV.pure]; done) | rfl⟩⟩ | exact ⟨rfl, .inr ⟨rfl, by simp only [go_sem, cv_s, g1, g2, List.length_map]⟩⟩)) | ((with_reducible first | refine dp h34 ?_ ?_); focus (exact ⟨rfl, by first | rfl | (simp only [go_sem, cv_s, g1, g2, List.length_map, AV.pureL, AV.pure]; done), by first | (simp only [go_sem, cv_s, g1, g2, List.length_map, AV.pureL, AV.pure]; done) | rfl⟩)) | ((with_reducible first | refine ds h34 ?_ ?_); focus exact ⟨rfl, rfl⟩) | (simp only [go_sem, cv_s, g1, g2, List.length_map])))
    all_goals omega
theorem c39_0 : PC Tryd.prog 39 [.int .i64 0] (.bool true) := by
  refine PC.body Tryd.func39 (by kernel_rfl) rfl (by simp [Tryd.f39]) rfl ?_
  simp only [Tryd.f39]
  intro hlen
  simp only [go_sem, List.length_map, and_true, true_and] at hlen
  refine CV.run ?_
  (repeat' (first | ((with_reducible first | apply sg | apply si | apply sq | apply sd) <;> intro hb <;> (try rw [hb]) <;> (try simp only [bq, bz, dtrue, dfalse] at hb) <;> (try simp only [within] at hb) <;> try simp only [go_sem]) | refine And.intro (by first | exact ⟨⟩ | omega | (simp only [I64]; omega)) ?_ | (simp only [go_sem])))
theorem c39_3 : PC Tryd.prog 39 [.int .i64 3] (.bool true) := by
  refine PC.body Tryd.func39 (by kernel_rfl) rfl (by simp [Tryd.f39]) rfl ?_
  simp only [Tryd.f39]
  intro hlen
  simp only [go_sem, List.length_map, and_true, true_and] at hlen
  refine CV.run ?_
  (repeat' (first | ((with_reducible first | apply sg | apply si | apply sq | apply sd) <;> intro hb <;> (try rw [hb]) <;> (try simp only [bq, bz, dtrue, dfalse] at hb) <;> (try simp only [within] at hb) <;> try simp only [go_sem]) | refine And.intro (by first | exact ⟨⟩ | omega | (simp only [I64]; omega)) ?_ | (simp only [go_sem])))
def isCy (t : Town) (l : List Int) : Prop := isCar t l ∧ roomy t l
set_option maxHeartbeats 1000000 in
theorem c40 (t : Town) (hv : validT t) (l : List Int) (hl : l.length ≤ 40) : PC Tryd.prog 40 [hF t, lN l] (.bool (decide (isCy t l))) := by
  have l8 := hv.len
  have lp := hv.lp
  by_cases h1 : l.length = t.pl.length
  · have h1' : ((l.length : Nat) : Int) = t.pl.length := by omega
    have h86 := c86 t l (by omega) (by omega)
    refine PC.body Tryd.func40 (by kernel_rfl) rfl (by simp [Tryd.f40]) rfl ?_
    simp only [Tryd.f40]
    intro hlen
    simp only [go_sem, List.length_map, and_true, true_and] at hlen
    refine CV.run ?_
    (repeat' (first | ((with_reducible first | apply sg | apply si | apply sq | apply sd) <;> intro hb <;> (try rw [hb]) <;> (try simp only [bq, bz, dtrue, dfalse] at hb) <;> (try simp only [within] at hb) <;> try simp only [go_sem]) | refine And.intro (by first | exact ⟨⟩ | omega | (simp only [I64]; omega)) ?_ | (with_reducible rw [vc_draw_eq]; first | (refine CV.draw (id := 6) sF13a_f40_6 mixed rfl (by kernel_rfl) ?_; delta sF13a_f40_6)) | (simp only [go_sem, h1', List.length_map])))
    refine vc_for (fun j => ⟨[(5, .int .i64 j), (4, .bool false), (2, .lp 0 0), (1, lN l)], [.box 28 (cT t) false]⟩) l.length (fun j => ∀ i, i < j → carP t l i) (by (first | exact wk_same (by simp only [go_sem, Int.natCast_add, cn, Int.cast_ofNat_Int]) | (refine wk_drop ?_ ?_ ?_ ?_ ?_ <;> simp only [go_sem, Int.natCast_add, cn, Int.cast_ofNat_Int]))) (fun i h => by omega) ?_
    intro j hj hx
    rcases Nat.lt_or_ge j l.length with hlt | hge
    · have hlt' : (j : Int) < l.length := by omega
      obtain ⟨x, hxj⟩ := get_of hlt
      obtain ⟨y, hyj⟩ := get_of (l := t.pl) (j := j) (by omega)
      have gx := gv_nat hxj
      have gy := gv_nat hyj
      have hjp : (j : Int) < t.pl.length := by omega
      have h20 := c20 t x
      have h55 := c55 t j (by unfold within; omega)
      have hcl : carP t l j ↔ (within x 0 (t.rm.length - 1) ∧ (x = y ∨ there t j)) := by
        unfold carP within
        rw [gx, gy]
        constructor
        · rintro ⟨a, b, c⟩; exact ⟨⟨by omega, by omega⟩, c⟩
        · rintro ⟨⟨a, b⟩, c⟩; exact ⟨by omega, by omega, c⟩
      by_cases hw : within x 0 (t.rm.length - 1)
      · replace h20 := h20.tru hw
        by_cases he : x = y
        · have he' := eq_true he
          (repeat' (first | ((with_reducible first | apply sg | apply si | apply sq | apply sd) <;> intro hb <;> (try rw [hb]) <;> (try simp only [bq, bz, dtrue, dfalse] at hb) <;> (try simp only [within] at hb) <;> try simp only [go_sem]) | refine And.intro (by first | exact ⟨⟩ | omega | (simp only [I64]; omega)) ?_ | (with_reducible rw [vc_draw_eq]; first | (refine CV.draw (id := 6) sF13a_f40_6 mixed rfl (by kernel_rfl) ?_; delta sF13a_f40_6)) | ((with_reducible first | refine vp h20 ?_ ?_ | refine dc h20 ?_ ?_ | refine vp h55 ?_ ?_ | refine dc h55 ?_ ?_); focus (first | exact ⟨rfl, .inl ⟨by first | rfl | (simp only [go_sem, hlt', hxj, hyj, hjp, he', encN, List.length_map, AV.pureL, AV.pure]; done), by first | (simp only [go_sem, hlt', hxj, hyj, hjp, he', encN, List.length_map, AV.pureL, AV.pure]; done) | rfl⟩⟩ | exact ⟨rfl, .inr ⟨rfl, by simp only [go_sem, hlt', hxj, hyj, hjp, he', encN, List.length_map]⟩⟩)) | ((with_reducible first | refine dp h20 ?_ ?_ | refine dp h55 ?_ ?_); focus (exact ⟨rfl, by first | rfl | (simp only [go_sem, hlt', hxj, hyj, hjp, he', encN, List.length_map, AV.pureL, AV.pure]; done), by first | (simp only [go_sem, hlt', hxj, hyj, hjp, he', encN, List.length_map, AV.pureL, AV.pure]; done) | rfl⟩)) | ((with_reducible first | refine ds h20 ?_ ?_ | refine ds h55 ?_ ?_); focus exact ⟨rfl, rfl⟩) | (simp only [go_sem, hlt', hxj, hyj, hjp, he', encN, List.length_map])))
          all_goals exact ⟨by (first | exact wk_same (by simp only [go_sem, Int.natCast_add, cn, Int.cast_ofNat_Int]) | (refine wk_drop ?_ ?_ ?_ ?_ ?_ <;> simp only [go_sem, Int.natCast_add, cn, Int.cast_ofNat_Int])), fun i hi => by
            rcases Nat.lt_or_ge i j with q | q
            · exact hx i q
            · have : i = j := by omega
              subst this; exact hcl.2 ⟨hw, .inl he⟩⟩
        · by_cases ht : there t j
          · replace h55 := h55.tru ht
            (repeat' (first | ((with_reducible first | apply sg | apply si | apply sq | apply sd) <;> intro hb <;> (try rw [hb]) <;> (try simp only [bq, bz, dtrue, dfalse] at hb) <;> (try simp only [within] at hb) <;> try simp only [go_sem]) | refine And.intro (by first | exact ⟨⟩ | omega | (simp only [I64]; omega)) ?_ | (with_reducible rw [vc_draw_eq]; first | (refine CV.draw (id := 6) sF13a_f40_6 mixed rfl (by kernel_rfl) ?_; delta sF13a_f40_6)) | ((with_reducible first | refine vp h20 ?_ ?_ | refine dc h20 ?_ ?_ | refine vp h55 ?_ ?_ | refine dc h55 ?_ ?_); focus (first | exact ⟨rfl, .inl ⟨by first | rfl | (simp only [go_sem, hlt', hxj, hyj, hjp, he, encN, List.length_map, AV.pureL, AV.pure]; done), by first | (simp only [go_sem, hlt', hxj, hyj, hjp, he, encN, List.length_map, AV.pureL, AV.pure]; done) | rfl⟩⟩ | exact ⟨rfl, .inr ⟨rfl, by simp only [go_sem, hlt', hxj, hyj, hjp, he, encN, List.length_map]⟩⟩)) | ((with_reducible first | refine dp h20 ?_ ?_ | refine dp h55 ?_ ?_); focus (exact ⟨rfl, by first | rfl | (simp only [go_sem, hlt', hxj, hyj, hjp, he, encN, List.length_map, AV.pureL, AV.pure]; done), by first | (simp only [go_sem, hlt', hxj, hyj, hjp, he, encN, List.length_map, AV.pureL, AV.pure]; done) | rfl⟩)) | ((with_reducible first | refine ds h20 ?_ ?_ | refine ds h55 ?_ ?_); focus exact ⟨rfl, rfl⟩) | (simp only [go_sem, hlt', hxj, hyj, hjp, he, encN, List.length_map])))
            all_goals exact ⟨by (first | exact wk_same (by simp only [go_sem, Int.natCast_add, cn, Int.cast_ofNat_Int]) | (refine wk_drop ?_ ?_ ?_ ?_ ?_ <;> simp only [go_sem, Int.natCast_add, cn, Int.cast_ofNat_Int])), fun i hi => by
              rcases Nat.lt_or_ge i j with q | q
              · exact hx i q
              · have : i = j := by omega
                subst this; exact hcl.2 ⟨hw, .inr ht⟩⟩
          · replace h55 := h55.fls ht
            have hno : ¬ isCy t l := fun h => (hcl.1 (h.1.2 j hlt)).2.elim he ht
            (repeat' (first | ((with_reducible first | apply sg | apply si | apply sq | apply sd) <;> intro hb <;> (try rw [hb]) <;> (try simp only [bq, bz, dtrue, dfalse] at hb) <;> (try simp only [within] at hb) <;> try simp only [go_sem]) | refine And.intro (by first | exact ⟨⟩ | omega | (simp only [I64]; omega)) ?_ | (with_reducible rw [vc_draw_eq]; first | (refine CV.draw (id := 6) sF13a_f40_6 mixed rfl (by kernel_rfl) ?_; delta sF13a_f40_6)) | ((with_reducible first | refine vp h20 ?_ ?_ | refine dc h20 ?_ ?_ | refine vp h55 ?_ ?_ | refine dc h55 ?_ ?_); focus (first | exact ⟨rfl, .inl ⟨by first | rfl | (simp only [go_sem, hlt', hxj, hyj, hjp, he, encN, List.length_map, AV.pureL, AV.pure]; done), by first | (simp only [go_sem, hlt', hxj, hyj, hjp, he, encN, List.length_map, AV.pureL, AV.pure]; done) | rfl⟩⟩ | exact ⟨rfl, .inr ⟨rfl, by simp only [go_sem, hlt', hxj, hyj, hjp, he, encN, List.length_map]⟩⟩)) | ((with_reducible first | refine dp h20 ?_ ?_ | refine dp h55 ?_ ?_); focus (exact ⟨rfl, by first | rfl | (simp only [go_sem, hlt', hxj, hyj, hjp, he, encN, List.length_map, AV.pureL, AV.pure]; done), by first | (simp only [go_sem, hlt', hxj, hyj, hjp, he, encN, List.length_map, AV.pureL, AV.pure]; done) | rfl⟩)) | ((with_reducible first | refine ds h20 ?_ ?_ | refine ds h55 ?_ ?_); focus exact ⟨rfl, rfl⟩) | (simp only [go_sem, hlt', hxj, hyj, hjp, he, encN, List.length_map])))
            all_goals exact bf hno
      · replace h20 := h20.fls hw
        have hno : ¬ isCy t l := fun h => hw (hcl.1 (h.1.2 j hlt)).1
        (repeat' (first | ((with_reducible first | apply sg | apply si | apply sq | apply sd) <;> intro hb <;> (try rw [hb]) <;> (try simp only [bq, bz, dtrue, dfalse] at hb) <;> (try simp only [within] at hb) <;> try simp only [go_sem]) | refine And.intro (by first | exact ⟨⟩ | omega | (simp only [I64]; omega)) ?_ | (with_reducible rw [vc_draw_eq]; first | (refine CV.draw (id := 6) sF13a_f40_6 mixed rfl (by kernel_rfl) ?_; delta sF13a_f40_6)) | ((with_reducible first | refine vp h20 ?_ ?_ | refine dc h20 ?_ ?_ | refine vp h55 ?_ ?_ | refine dc h55 ?_ ?_); focus (first | exact ⟨rfl, .inl ⟨by first | rfl | (simp only [go_sem, hlt', hxj, hyj, hjp, encN, List.length_map, AV.pureL, AV.pure]; done), by first | (simp only [go_sem, hlt', hxj, hyj, hjp, encN, List.length_map, AV.pureL, AV.pure]; done) | rfl⟩⟩ | exact ⟨rfl, .inr ⟨rfl, by simp only [go_sem, hlt', hxj, hyj, hjp, encN, List.length_map]⟩⟩)) | ((with_reducible first | refine dp h20 ?_ ?_ | refine dp h55 ?_ ?_); focus (exact ⟨rfl, by first | rfl | (simp only [go_sem, hlt', hxj, hyj, hjp, encN, List.length_map, AV.pureL, AV.pure]; done), by first | (simp only [go_sem, hlt', hxj, hyj, hjp, encN, List.length_map, AV.pureL, AV.pure]; done) | rfl⟩)) | ((with_reducible first | refine ds h20 ?_ ?_ | refine ds h55 ?_ ?_); focus exact ⟨rfl, rfl⟩) | (simp only [go_sem, hlt', hxj, hyj, hjp, encN, List.length_map])))
        all_goals exact bf hno
    · have hge' : ¬ (j : Int) < l.length := by omega
      have : j = l.length := by omega
      subst this
      (repeat' (first | ((with_reducible first | apply sg | apply si | apply sq | apply sd) <;> intro hb <;> (try rw [hb]) <;> (try simp only [bq, bz, dtrue, dfalse] at hb) <;> (try simp only [within] at hb) <;> try simp only [go_sem]) | refine And.intro (by first | exact ⟨⟩ | omega | (simp only [I64]; omega)) ?_ | (with_reducible rw [vc_draw_eq]; first | (refine CV.draw (id := 6) sF13a_f40_6 mixed rfl (by kernel_rfl) ?_; delta sF13a_f40_6)) | ((with_reducible first | refine vp h86 ?_ ?_ | refine dc h86 ?_ ?_); focus (first | exact ⟨rfl, .inl ⟨by first | rfl | (simp only [go_sem, hge', List.length_map, AV.pureL, AV.pure]; done), by first | (simp only [go_sem, hge', List.length_map, AV.pureL, AV.pure]; done) | rfl⟩⟩ | exact ⟨rfl, .inr ⟨rfl, by simp only [go_sem, hge', List.length_map]⟩⟩)) | ((with_reducible first | refine dp h86 ?_ ?_); focus (exact ⟨rfl, by first | rfl | (simp only [go_sem, hge', List.length_map, AV.pureL, AV.pure]; done), by first | (simp only [go_sem, hge', List.length_map, AV.pureL, AV.pure]; done) | rfl⟩)) | ((with_reducible first | refine ds h86 ?_ ?_); focus exact ⟨rfl, rfl⟩) | (simp only [go_sem, hge', List.length_map])))
      all_goals exact bd ⟨fun h => ⟨⟨by omega, hx⟩, h⟩, fun h => h.2⟩
  · have h1' : ¬ ((l.length : Nat) : Int) = t.pl.length := by omega
    have hno : ¬ isCy t l := fun h => h1 (by rw [h.1.1, lp])
    refine PC.body Tryd.func40 (by kernel_rfl) rfl (by simp [Tryd.f40]) rfl ?_
    simp only [Tryd.f40]
    intro hlen
    simp only [go_sem, List.length_map, and_true, true_and] at hlen
    refine CV.run ?_
    (repeat' (first | ((with_reducible first | apply sg | apply si | apply sq | apply sd) <;> intro hb <;> (try rw [hb]) <;> (try simp only [bq, bz, dtrue, dfalse] at hb) <;> (try simp only [within] at hb) <;> try simp only [go_sem]) | refine And.intro (by first | exact ⟨⟩ | omega | (simp only [I64]; omega)) ?_ | (with_reducible rw [vc_draw_eq]; first | (refine CV.draw (id := 6) sF13a_f40_6 mixed rfl (by kernel_rfl) ?_; delta sF13a_f40_6)) | (simp only [go_sem, h1', List.length_map])))
    all_goals exact bf hno
set_option maxHeartbeats 1000000 in
theorem c41 (t : Town) (hv : validT t) (l : List Int) (hl : l.length = t.ts.length) : PC Tryd.prog 41 [hF t, lN l] (.tup [.int .i64 (cst t l).1, .int .i64 (cst t l).2]) := by
  have l8 := hv.len
  have lp := hv.lp
  have lc := hv.lc
  refine PC.body Tryd.func41 (by kernel_rfl) rfl (by simp [Tryd.f41]) rfl ?_
  simp only [Tryd.f41]
  intro hlen
  simp only [go_sem, List.length_map, and_true, true_and] at hlen
  refine CV.run ?_
  (repeat' (first | ((with_reducible first | apply sg | apply si | apply sq | apply sd) <;> intro hb <;> (try rw [hb]) <;> (try simp only [bq, bz, dtrue, dfalse] at hb) <;> (try simp only [within] at hb) <;> try simp only [go_sem]) | refine And.intro (by first | exact ⟨⟩ | omega | (simp only [I64]; omega)) ?_ | (with_reducible rw [vc_draw_eq]; first | (refine CV.draw (id := 4) sF13a_f41_4 mixed rfl (by kernel_rfl) ?_; delta sF13a_f41_4)) | (simp only [go_sem])))
  refine vc_for (fun j => ⟨[(6, .int .i64 j), (5, .int .i64 (cstN t l j).2), (4, .int .i64 (cstN t l j).1), (2, .lp 0 0), (1, lN l)], [.box 28 (cT t) false]⟩) l.length (fun _ => True) (by (first | exact wk_same (by simp only [go_sem, Int.natCast_add, cn, Int.cast_ofNat_Int, cstN]) | (refine wk_drop ?_ ?_ ?_ ?_ ?_ <;> simp only [go_sem, Int.natCast_add, cn, Int.cast_ofNat_Int, cstN]))) trivial ?_
  intro j hj _
  rcases Nat.lt_or_ge j l.length with hlt | hge
  · have hlt' : (j : Int) < l.length := by omega
    obtain ⟨x, hxj⟩ := get_of hlt
    obtain ⟨y, hyj⟩ := get_of (l := t.pl) (j := j) (by omega)
    obtain ⟨z, hzj⟩ := get_of (l := t.ca) (j := j) (by omega)
    have gx := gv_nat hxj
    have gy := gv_nat hyj
    have gz := gv_nat hzj
    have hjp : (j : Int) < t.pl.length := by omega
    have hjc : (j : Int) < t.ca.length := by omega
    have bb := cstN_bnd hv (l := l) j (by omega)
    have cb := ca_bnd hv (k := j) (by omega)
    rw [gz] at cb
    by_cases he : x = y
    · have he' := eq_true he
      have e1 : cstN t l (j + 1) = cstN t l j := by rw [cstN, gx, gy, if_pos he]
      (repeat' (first | ((with_reducible first | apply sg | apply si | apply sq | apply sd) <;> intro hb <;> (try rw [hb]) <;> (try simp only [bq, bz, dtrue, dfalse] at hb) <;> (try simp only [within] at hb) <;> try simp only [go_sem]) | refine And.intro (by first | exact ⟨⟩ | omega | (simp only [I64]; omega)) ?_ | (with_reducible rw [vc_draw_eq]; first | (refine CV.draw (id := 4) sF13a_f41_4 mixed rfl (by kernel_rfl) ?_; delta sF13a_f41_4)) | (simp only [go_sem, hlt', hxj, hyj, hzj, hjp, hjc, he', encN, List.length_map])))
      all_goals exact (by (first | exact wk_same (by simp only [go_sem, Int.natCast_add, cn, Int.cast_ofNat_Int, e1]) | (refine wk_drop ?_ ?_ ?_ ?_ ?_ <;> simp only [go_sem, Int.natCast_add, cn, Int.cast_ofNat_Int, e1])))
    · have e1 : cstN t l (j + 1) = ((cstN t l j).1 + z, (cstN t l j).2 + 1) := by rw [cstN, gx, gy, if_neg he, gz]
      (repeat' (first | ((with_reducible first | apply sg | apply si | apply sq | apply sd) <;> intro hb <;> (try rw [hb]) <;> (try simp only [bq, bz, dtrue, dfalse] at hb) <;> (try simp only [within] at hb) <;> try simp only [go_sem]) | refine And.intro (by first | exact ⟨⟩ | omega | (simp only [I64]; omega)) ?_ | (with_reducible rw [vc_draw_eq]; first | (refine CV.draw (id := 4) sF13a_f41_4 mixed rfl (by kernel_rfl) ?_; delta sF13a_f41_4)) | (simp only [go_sem, hlt', hxj, hyj, hzj, hjp, hjc, he, encN, List.length_map])))
      all_goals exact (by (first | exact wk_same (by simp only [go_sem, Int.natCast_add, cn, Int.cast_ofNat_Int, e1]) | (refine wk_drop ?_ ?_ ?_ ?_ ?_ <;> simp only [go_sem, Int.natCast_add, cn, Int.cast_ofNat_Int, e1])))
  · have hge' : ¬ (j : Int) < l.length := by omega
    have : j = l.length := by omega
    subst this
    (repeat' (first | ((with_reducible first | apply sg | apply si | apply sq | apply sd) <;> intro hb <;> (try rw [hb]) <;> (try simp only [bq, bz, dtrue, dfalse] at hb) <;> (try simp only [within] at hb) <;> try simp only [go_sem]) | refine And.intro (by first | exact ⟨⟩ | omega | (simp only [I64]; omega)) ?_ | (with_reducible rw [vc_draw_eq]; first | (refine CV.draw (id := 4) sF13a_f41_4 mixed rfl (by kernel_rfl) ?_; delta sF13a_f41_4)) | (simp only [go_sem, hge', List.length_map])))
    all_goals exact ⟨rfl, rfl⟩
theorem c42 (t : Town) (hv : validT t) (hf : ¬ hugeT t) (l : List Int) (hl : l.length ≤ 41) : PC Tryd.prog 42 [hF t, lN l] (hF { t with pl := l }) := by
  have nh := not_huge hf
  have h19 := c19 t (by omega) (by omega) (by omega) (by omega) (by omega)
  refine PC.body Tryd.func42 (by kernel_rfl) rfl (by simp [Tryd.f42]) rfl ?_
  simp only [Tryd.f42]
  intro hlen
  simp only [go_sem, List.length_map, and_true, true_and] at hlen
  refine CV.run ?_
  (repeat' (first | ((with_reducible first | apply sg | apply si | apply sq | apply sd) <;> intro hb <;> (try rw [hb]) <;> (try simp only [bq, bz, dtrue, dfalse] at hb) <;> (try simp only [within] at hb) <;> try simp only [go_sem]) | refine And.intro (by first | exact ⟨⟩ | omega | (simp only [I64]; omega)) ?_ | ((with_reducible first | refine vp h19 ?_ ?_); focus (first | exact ⟨rfl, .inl ⟨by first | rfl | (simp only [go_sem, List.nil_append, AV.pureL, AV.pure]; done), by first | (simp only [go_sem, List.nil_append, AV.pureL, AV.pure]; done) | rfl⟩⟩ | exact ⟨rfl, .inr ⟨rfl, by simp only [go_sem, List.nil_append]⟩⟩)) | (simp only [go_sem, List.nil_append])))
  all_goals exact .inl trivial
theorem PC.frz {P : Program} {g : FuncId} {args args' : List AV} {v : AV} (h : PC P g args' v) (hv : v.pure = true) (hs : safeV v = true) (hf : frzL [] args args') : PC P g args v := by
  unfold PC at h ⊢
  refine (HCH.freeze h hf (fun r H' hq => ⟨by rw [hq.1]; exact hs, by rw [hq.2]; simp [safeH]⟩)).mono ?_
  rintro r H' ⟨r0, H0, ⟨rfl, rfl⟩, rfl, rfl⟩
  exact ⟨shiftV_pure _ _ hv, rfl⟩
theorem c27s (l : List Int) : PC Tryd.prog 27 [lN l, lN l] (.bool true) := (c27 l l).tru rfl
theorem c27nn : PC Tryd.prog 27 [.nilS, .nilS] (.bool true) := PC.frz (c27s []) rfl rfl (by simp [frzL, frz])
theorem PC.asn {P : Program} {g : FuncId} {args a2 : List AV} {v : AV} (hc : PC P g a2 v) (hv : v.pure = true) (hp : AV.pureL args = true) (hf : frzL [] args a2) : PC P g args v := PC.mk (hc.use (handsOn_pure hp hf) hv)
theorem ready_six {t : Town} (h : readyT t) : t.ts.length ≤ 6 ∧ t.pl.length ≤ 6 ∧ ¬ hugeT t := by
  have := h.2.lp
  have h6 : ¬ 6 < t.pl.length := fun q => h.1 (.inr ⟨q, h.2⟩)
  exact ⟨by omega, by omega, fun q => h.1 (.inl q)⟩
theorem cv_eq {S S' : Best} (h1 : pS S = pS S') (h2 : eS S = eS S') : cv S = cv S' := by
  rcases S with _ | x <;> rcases S' with _ | y
  · rfl
  · cases h2
  · cases h2
  · exact h1
theorem mod_in {n : Nat} (h : 0 < n) (x : Int) : 0 ≤ x % n ∧ x % n < n := ⟨Int.emod_nonneg x (by omega), Int.emod_lt_of_pos x (by omega)⟩
theorem mod_back {n : Nat} {x f : Int} (h0 : 0 ≤ x) (h1 : x < n) : ((x + f) % n - f) % n = x := by
  have e := Int.emod_add_mul_ediv (x + f) n
  have e2 : (x + f) % n - f = x - n * ((x + f) / n) := by omega
  rw [e2, Int.sub_mul_emod_self_left, Int.emod_eq_of_lt h0 h1]
theorem mod_forth {n : Nat} {x f : Int} (h0 : 0 ≤ x) (h1 : x < n) : ((x - f) % n + f) % n = x := by
  have e := Int.emod_add_mul_ediv (x - f) n
  have e2 : (x - f) % n + f = x - n * ((x - f) / n) := by omega
  rw [e2, Int.sub_mul_emod_self_left, Int.emod_eq_of_lt h0 h1]
theorem setN {m : List Int} {i : Nat} {x : Int} : (m.map encN).set i [.int .i64 x] = (m.set i x).map encN := by rw [List.map_set]; rfl
theorem gv_set_ne {l : List Int} {j : Nat} {x i : Int} (h0 : 0 ≤ i) (h : i ≠ j) : gv (l.set j x) i = gv l i := by
  unfold gv
  rw [List.getElem?_set_ne (by omega)]
theorem gv_set_eq {l : List Int} {j : Nat} {x : Int} (h : j < l.length) : gv (l.set j x) j = x := by
  unfold gv
  rw [Int.toNat_natCast, List.getElem?_set_self h]; rfl
end Go.Proofs.YtjlopclpofbgbaaDoor

